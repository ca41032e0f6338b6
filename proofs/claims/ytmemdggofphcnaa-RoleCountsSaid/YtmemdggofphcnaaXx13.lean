/- Of these Go functions: what each computes, and that the machine's call comes to it. Laid by a program of this session. -/
import Derived.Test.YtmemdggofphcnaaXx0
import Derived.Test.YtmemdggofphcnaaXx2
import Derived.Test.YtmemdggofphcnaaXx4
import Derived.Test.YtmemdggofphcnaaXx5
import Derived.Test.YtmemdggofphcnaaXx6
import Derived.Test.YtmemdggofphcnaaXx7
import Derived.Test.YtmemdggofphcnaaXx9
import Derived.Test.YtmemdggofphcnaaXx10
namespace Go.Proofs.Ytmemdggofphcnaa.X
open Go.RowKit Go.Proofs.YtmemdggofphcnaaW.PrintWords Go.Proofs.YtmemdggofphcnaaW.PrintLast Go.Proofs.YtmemdggofphcnaaW.PrintMore
attribute [local go_sem] max2_int min2_int max_two min_two max_three min_three max_four min_four   -- for this text's walks alone
set_option linter.unusedVariables false
set_option linter.unusedSimpArgs false

/-! ### headgatelaw16_RoleCounts: function 11 -/
mutual
def headgatelaw16_RoleCounts.j0 : Nat → Int → Int → List Int → List Int → Bool → Option (Bool)
  | 0, _, _, _, _, _ => none
  | k + 1, x1, x2, x7, x8, x35 => if x35 = true then (some false) else (headgatelaw16_RoleCounts.l0 k x1 x2 x7 x8 0 0)
def headgatelaw16_RoleCounts.l0 : Nat → Int → Int → List Int → List Int → Int → Int → Option (Bool)
  | 0, _, _, _, _, _, _ => none
  | k + 1, x1, x2, x7, x8, x10, x11 => if x11 < 8 then ((role_Of.f k x7 x11).bind fun bt507 => (if bt507.2 = 0 then (if 0 ≤ x11 then (if x11 < (x8.length : Int) then (if (bt507.1.length : Int) = (rd x8 x11) then (headgatelaw16_RoleCounts.l0 k x1 x2 x7 x8 (wrap64 (x10 + (rd x8 x11))) (wrap64 (x11 + 1))) else (some false)) else (none)) else (none)) else (some false))) else (if x10 = (x7.length : Int) then (if (x7.length : Int) = 0 then ((headgatelaw16_awake.f k).bind fun t513 => (some t513)) else ((headgatekit_Mod.f x1 (x7.length : Int)).bind fun t514 => ((headgatekit_Mod.f x2 8).bind fun t515 => (if 0 ≤ t514 then (if t514 < (x7.length : Int) then ((role_May.f (rd x7 t514) t515).bind fun bt517 => ((headgatekit_OwnInts.f x7).bind fun t519 => ((role_Change.f k t519 t514 t515).bind fun bt522 => (if bt517.2 = 0 then (headgatelaw16_RoleCounts.j2 k x7 x8 t514 t515 bt517.1 bt522.1 (bt517.1 != (bt522.2 == 0))) else (headgatelaw16_RoleCounts.j2 k x7 x8 t514 t515 bt517.1 bt522.1 true))))) else (none)) else (none))))) else (some false))
def headgatelaw16_RoleCounts.j2 : Nat → List Int → List Int → Int → Int → Bool → List Int → Bool → Option (Bool)
  | 0, _, _, _, _, _, _, _ => none
  | k + 1, x7, x8, x14, x15, x16, x17, x101 => if x101 = true then (some false) else (if x16 = true then ((role_Counts.f k x17).bind fun bt527 => (if bt527.2 = 0 then (headgatelaw16_RoleCounts.j3 k x7 x8 x14 x15 bt527.1 ((bt527.1.length : Int) != 8)) else (headgatelaw16_RoleCounts.j3 k x7 x8 x14 x15 bt527.1 true))) else (if (x17.length : Int) = 0 then ((headgatelaw16_awake.f k).bind fun t526 => (some t526)) else (some false)))
def headgatelaw16_RoleCounts.j3 : Nat → List Int → List Int → Int → Int → List Int → Bool → Option (Bool)
  | 0, _, _, _, _, _, _ => none
  | k + 1, x7, x8, x14, x15, x19, x121 => if x121 = true then (some false) else (headgatelaw16_RoleCounts.l1 k x7 x8 x14 x15 x19 0)
def headgatelaw16_RoleCounts.l1 : Nat → List Int → List Int → Int → Int → List Int → Int → Option (Bool)
  | 0, _, _, _, _, _, _ => none
  | k + 1, x7, x8, x14, x15, x19, x20 => if x20 < 8 then (if 0 ≤ x20 then (if x20 < (x8.length : Int) then (if 0 ≤ x14 then (if x14 < (x7.length : Int) then (if x20 = (rd x7 x14) then (headgatelaw16_RoleCounts.j5 k x7 x8 x14 x15 x19 x20 (wrap64 ((rd x8 x20) - 1))) else (headgatelaw16_RoleCounts.j5 k x7 x8 x14 x15 x19 x20 (rd x8 x20))) else (none)) else (none)) else (none)) else (none)) else ((headgatelaw16_awake.f k).bind fun t531 => (some t531))
def headgatelaw16_RoleCounts.j5 : Nat → List Int → List Int → Int → Int → List Int → Int → Int → Option (Bool)
  | 0, _, _, _, _, _, _, _ => none
  | k + 1, x7, x8, x14, x15, x19, x20, x21 => if x20 = x15 then (if 0 ≤ x20 then (if x20 < (x19.length : Int) then (if (rd x19 x20) = (wrap64 (x21 + 1)) then (headgatelaw16_RoleCounts.l1 k x7 x8 x14 x15 x19 (wrap64 (x20 + 1))) else (some false)) else (none)) else (none)) else (if 0 ≤ x20 then (if x20 < (x19.length : Int) then (if (rd x19 x20) = x21 then (headgatelaw16_RoleCounts.l1 k x7 x8 x14 x15 x19 (wrap64 (x20 + 1))) else (some false)) else (none)) else (none))
end
def headgatelaw16_RoleCounts.f (k : Nat) (l0 : List Int) (a1 : Int) (a2 : Int) : Option (Bool) := (headgatelaw16_made.f k l0).bind fun t500 => ((role_Counts.f k t500).bind fun bt503 => (if bt503.2 = 0 then (headgatelaw16_RoleCounts.j0 k a1 a2 t500 bt503.1 ((bt503.1.length : Int) != 8)) else (headgatelaw16_RoleCounts.j0 k a1 a2 t500 bt503.1 true)))
theorem headgatelaw16_RoleCounts.mono_l : ∀ k, (∀ y0 y1 y2 y3 y4, LeO (headgatelaw16_RoleCounts.j0 k y0 y1 y2 y3 y4) (headgatelaw16_RoleCounts.j0 (k + 1) y0 y1 y2 y3 y4)) ∧ (∀ y0 y1 y2 y3 y4 y5, LeO (headgatelaw16_RoleCounts.l0 k y0 y1 y2 y3 y4 y5) (headgatelaw16_RoleCounts.l0 (k + 1) y0 y1 y2 y3 y4 y5)) ∧ (∀ y0 y1 y2 y3 y4 y5 y6, LeO (headgatelaw16_RoleCounts.j2 k y0 y1 y2 y3 y4 y5 y6) (headgatelaw16_RoleCounts.j2 (k + 1) y0 y1 y2 y3 y4 y5 y6)) ∧ (∀ y0 y1 y2 y3 y4 y5, LeO (headgatelaw16_RoleCounts.j3 k y0 y1 y2 y3 y4 y5) (headgatelaw16_RoleCounts.j3 (k + 1) y0 y1 y2 y3 y4 y5)) ∧ (∀ y0 y1 y2 y3 y4 y5, LeO (headgatelaw16_RoleCounts.l1 k y0 y1 y2 y3 y4 y5) (headgatelaw16_RoleCounts.l1 (k + 1) y0 y1 y2 y3 y4 y5)) ∧ (∀ y0 y1 y2 y3 y4 y5 y6, LeO (headgatelaw16_RoleCounts.j5 k y0 y1 y2 y3 y4 y5 y6) (headgatelaw16_RoleCounts.j5 (k + 1) y0 y1 y2 y3 y4 y5 y6))
  | 0 => ⟨fun _ _ _ _ _ r h => by simp [headgatelaw16_RoleCounts.j0] at h, fun _ _ _ _ _ _ r h => by simp [headgatelaw16_RoleCounts.l0] at h, fun _ _ _ _ _ _ _ r h => by simp [headgatelaw16_RoleCounts.j2] at h, fun _ _ _ _ _ _ r h => by simp [headgatelaw16_RoleCounts.j3] at h, fun _ _ _ _ _ _ r h => by simp [headgatelaw16_RoleCounts.l1] at h, fun _ _ _ _ _ _ _ r h => by simp [headgatelaw16_RoleCounts.j5] at h⟩
  | k + 1 => by
    obtain ⟨ih0, ih1, ih2, ih3, ih4, ih5⟩ := headgatelaw16_RoleCounts.mono_l k
    refine ⟨?_, ?_, ?_, ?_, ?_, ?_⟩
    · intro y0 y1 y2 y3 y4
      unfold headgatelaw16_RoleCounts.j0
      repeat' first
      | (with_reducible exact ih0 _ _ _ _ _)
      | (with_reducible exact ih1 _ _ _ _ _ _)
      | (with_reducible exact ih2 _ _ _ _ _ _ _)
      | (with_reducible exact ih3 _ _ _ _ _ _)
      | (with_reducible exact ih4 _ _ _ _ _ _)
      | (with_reducible exact ih5 _ _ _ _ _ _ _)
      | (with_reducible exact headgatelaw16_awake.mono _)
      | (with_reducible exact headgatelaw16_made.mono _ _)
      | (with_reducible exact role_Change.mono _ _ _ _)
      | (with_reducible exact role_Counts.mono _ _)
      | (with_reducible exact role_Of.mono _ _ _)
      | (with_reducible exact LeO.refl _)
      | (with_reducible exact LeO.none _)
      | (with_reducible refine LeO.ite ?_ ?_)
      | (with_reducible refine LeO.bind ?_ (fun _ => ?_))
      | exact ih0 _ _ _ _ _
      | exact ih1 _ _ _ _ _ _
      | exact ih2 _ _ _ _ _ _ _
      | exact ih3 _ _ _ _ _ _
      | exact ih4 _ _ _ _ _ _
      | exact ih5 _ _ _ _ _ _ _
      | exact headgatelaw16_awake.mono _
      | exact headgatelaw16_made.mono _ _
      | exact role_Change.mono _ _ _ _
      | exact role_Counts.mono _ _
      | exact role_Of.mono _ _ _
      | exact LeO.none _
      | refine LeO.ite ?_ ?_
      | refine LeO.bind ?_ (fun _ => ?_)
    · intro y0 y1 y2 y3 y4 y5
      unfold headgatelaw16_RoleCounts.l0
      repeat' first
      | (with_reducible exact ih0 _ _ _ _ _)
      | (with_reducible exact ih1 _ _ _ _ _ _)
      | (with_reducible exact ih2 _ _ _ _ _ _ _)
      | (with_reducible exact ih3 _ _ _ _ _ _)
      | (with_reducible exact ih4 _ _ _ _ _ _)
      | (with_reducible exact ih5 _ _ _ _ _ _ _)
      | (with_reducible exact headgatelaw16_awake.mono _)
      | (with_reducible exact headgatelaw16_made.mono _ _)
      | (with_reducible exact role_Change.mono _ _ _ _)
      | (with_reducible exact role_Counts.mono _ _)
      | (with_reducible exact role_Of.mono _ _ _)
      | (with_reducible exact LeO.refl _)
      | (with_reducible exact LeO.none _)
      | (with_reducible refine LeO.ite ?_ ?_)
      | (with_reducible refine LeO.bind ?_ (fun _ => ?_))
      | exact ih0 _ _ _ _ _
      | exact ih1 _ _ _ _ _ _
      | exact ih2 _ _ _ _ _ _ _
      | exact ih3 _ _ _ _ _ _
      | exact ih4 _ _ _ _ _ _
      | exact ih5 _ _ _ _ _ _ _
      | exact headgatelaw16_awake.mono _
      | exact headgatelaw16_made.mono _ _
      | exact role_Change.mono _ _ _ _
      | exact role_Counts.mono _ _
      | exact role_Of.mono _ _ _
      | exact LeO.none _
      | refine LeO.ite ?_ ?_
      | refine LeO.bind ?_ (fun _ => ?_)
    · intro y0 y1 y2 y3 y4 y5 y6
      unfold headgatelaw16_RoleCounts.j2
      repeat' first
      | (with_reducible exact ih0 _ _ _ _ _)
      | (with_reducible exact ih1 _ _ _ _ _ _)
      | (with_reducible exact ih2 _ _ _ _ _ _ _)
      | (with_reducible exact ih3 _ _ _ _ _ _)
      | (with_reducible exact ih4 _ _ _ _ _ _)
      | (with_reducible exact ih5 _ _ _ _ _ _ _)
      | (with_reducible exact headgatelaw16_awake.mono _)
      | (with_reducible exact headgatelaw16_made.mono _ _)
      | (with_reducible exact role_Change.mono _ _ _ _)
      | (with_reducible exact role_Counts.mono _ _)
      | (with_reducible exact role_Of.mono _ _ _)
      | (with_reducible exact LeO.refl _)
      | (with_reducible exact LeO.none _)
      | (with_reducible refine LeO.ite ?_ ?_)
      | (with_reducible refine LeO.bind ?_ (fun _ => ?_))
      | exact ih0 _ _ _ _ _
      | exact ih1 _ _ _ _ _ _
      | exact ih2 _ _ _ _ _ _ _
      | exact ih3 _ _ _ _ _ _
      | exact ih4 _ _ _ _ _ _
      | exact ih5 _ _ _ _ _ _ _
      | exact headgatelaw16_awake.mono _
      | exact headgatelaw16_made.mono _ _
      | exact role_Change.mono _ _ _ _
      | exact role_Counts.mono _ _
      | exact role_Of.mono _ _ _
      | exact LeO.none _
      | refine LeO.ite ?_ ?_
      | refine LeO.bind ?_ (fun _ => ?_)
    · intro y0 y1 y2 y3 y4 y5
      unfold headgatelaw16_RoleCounts.j3
      repeat' first
      | (with_reducible exact ih0 _ _ _ _ _)
      | (with_reducible exact ih1 _ _ _ _ _ _)
      | (with_reducible exact ih2 _ _ _ _ _ _ _)
      | (with_reducible exact ih3 _ _ _ _ _ _)
      | (with_reducible exact ih4 _ _ _ _ _ _)
      | (with_reducible exact ih5 _ _ _ _ _ _ _)
      | (with_reducible exact headgatelaw16_awake.mono _)
      | (with_reducible exact headgatelaw16_made.mono _ _)
      | (with_reducible exact role_Change.mono _ _ _ _)
      | (with_reducible exact role_Counts.mono _ _)
      | (with_reducible exact role_Of.mono _ _ _)
      | (with_reducible exact LeO.refl _)
      | (with_reducible exact LeO.none _)
      | (with_reducible refine LeO.ite ?_ ?_)
      | (with_reducible refine LeO.bind ?_ (fun _ => ?_))
      | exact ih0 _ _ _ _ _
      | exact ih1 _ _ _ _ _ _
      | exact ih2 _ _ _ _ _ _ _
      | exact ih3 _ _ _ _ _ _
      | exact ih4 _ _ _ _ _ _
      | exact ih5 _ _ _ _ _ _ _
      | exact headgatelaw16_awake.mono _
      | exact headgatelaw16_made.mono _ _
      | exact role_Change.mono _ _ _ _
      | exact role_Counts.mono _ _
      | exact role_Of.mono _ _ _
      | exact LeO.none _
      | refine LeO.ite ?_ ?_
      | refine LeO.bind ?_ (fun _ => ?_)
    · intro y0 y1 y2 y3 y4 y5
      unfold headgatelaw16_RoleCounts.l1
      repeat' first
      | (with_reducible exact ih0 _ _ _ _ _)
      | (with_reducible exact ih1 _ _ _ _ _ _)
      | (with_reducible exact ih2 _ _ _ _ _ _ _)
      | (with_reducible exact ih3 _ _ _ _ _ _)
      | (with_reducible exact ih4 _ _ _ _ _ _)
      | (with_reducible exact ih5 _ _ _ _ _ _ _)
      | (with_reducible exact headgatelaw16_awake.mono _)
      | (with_reducible exact headgatelaw16_made.mono _ _)
      | (with_reducible exact role_Change.mono _ _ _ _)
      | (with_reducible exact role_Counts.mono _ _)
      | (with_reducible exact role_Of.mono _ _ _)
      | (with_reducible exact LeO.refl _)
      | (with_reducible exact LeO.none _)
      | (with_reducible refine LeO.ite ?_ ?_)
      | (with_reducible refine LeO.bind ?_ (fun _ => ?_))
      | exact ih0 _ _ _ _ _
      | exact ih1 _ _ _ _ _ _
      | exact ih2 _ _ _ _ _ _ _
      | exact ih3 _ _ _ _ _ _
      | exact ih4 _ _ _ _ _ _
      | exact ih5 _ _ _ _ _ _ _
      | exact headgatelaw16_awake.mono _
      | exact headgatelaw16_made.mono _ _
      | exact role_Change.mono _ _ _ _
      | exact role_Counts.mono _ _
      | exact role_Of.mono _ _ _
      | exact LeO.none _
      | refine LeO.ite ?_ ?_
      | refine LeO.bind ?_ (fun _ => ?_)
    · intro y0 y1 y2 y3 y4 y5 y6
      unfold headgatelaw16_RoleCounts.j5
      repeat' first
      | (with_reducible exact ih0 _ _ _ _ _)
      | (with_reducible exact ih1 _ _ _ _ _ _)
      | (with_reducible exact ih2 _ _ _ _ _ _ _)
      | (with_reducible exact ih3 _ _ _ _ _ _)
      | (with_reducible exact ih4 _ _ _ _ _ _)
      | (with_reducible exact ih5 _ _ _ _ _ _ _)
      | (with_reducible exact headgatelaw16_awake.mono _)
      | (with_reducible exact headgatelaw16_made.mono _ _)
      | (with_reducible exact role_Change.mono _ _ _ _)
      | (with_reducible exact role_Counts.mono _ _)
      | (with_reducible exact role_Of.mono _ _ _)
      | (with_reducible exact LeO.refl _)
      | (with_reducible exact LeO.none _)
      | (with_reducible refine LeO.ite ?_ ?_)
      | (with_reducible refine LeO.bind ?_ (fun _ => ?_))
      | exact ih0 _ _ _ _ _
      | exact ih1 _ _ _ _ _ _
      | exact ih2 _ _ _ _ _ _ _
      | exact ih3 _ _ _ _ _ _
      | exact ih4 _ _ _ _ _ _
      | exact ih5 _ _ _ _ _ _ _
      | exact headgatelaw16_awake.mono _
      | exact headgatelaw16_made.mono _ _
      | exact role_Change.mono _ _ _ _
      | exact role_Counts.mono _ _
      | exact role_Of.mono _ _ _
      | exact LeO.none _
      | refine LeO.ite ?_ ?_
      | refine LeO.bind ?_ (fun _ => ?_)
theorem headgatelaw16_RoleCounts.mono : ∀ a0 a1 a2 k, LeO (headgatelaw16_RoleCounts.f k a0 a1 a2) (headgatelaw16_RoleCounts.f (k + 1) a0 a1 a2) := by
  intro a0 a1 a2 k
  obtain ⟨ih0, ih1, ih2, ih3, ih4, ih5⟩ := headgatelaw16_RoleCounts.mono_l k
  unfold headgatelaw16_RoleCounts.f
  repeat' first
      | (with_reducible exact ih0 _ _ _ _ _)
      | (with_reducible exact ih1 _ _ _ _ _ _)
      | (with_reducible exact ih2 _ _ _ _ _ _ _)
      | (with_reducible exact ih3 _ _ _ _ _ _)
      | (with_reducible exact ih4 _ _ _ _ _ _)
      | (with_reducible exact ih5 _ _ _ _ _ _ _)
      | (with_reducible exact headgatelaw16_awake.mono _)
      | (with_reducible exact headgatelaw16_made.mono _ _)
      | (with_reducible exact role_Change.mono _ _ _ _)
      | (with_reducible exact role_Counts.mono _ _)
      | (with_reducible exact role_Of.mono _ _ _)
      | (with_reducible exact LeO.refl _)
      | (with_reducible exact LeO.none _)
      | (with_reducible refine LeO.ite ?_ ?_)
      | (with_reducible refine LeO.bind ?_ (fun _ => ?_))
      | exact ih0 _ _ _ _ _
      | exact ih1 _ _ _ _ _ _
      | exact ih2 _ _ _ _ _ _ _
      | exact ih3 _ _ _ _ _ _
      | exact ih4 _ _ _ _ _ _
      | exact ih5 _ _ _ _ _ _ _
      | exact headgatelaw16_awake.mono _
      | exact headgatelaw16_made.mono _ _
      | exact role_Change.mono _ _ _ _
      | exact role_Counts.mono _ _
      | exact role_Of.mono _ _ _
      | exact LeO.none _
      | refine LeO.ite ?_ ?_
      | refine LeO.bind ?_ (fun _ => ?_)
set_option maxHeartbeats 8000000 in
set_option maxRecDepth 100000 in
theorem headgatelaw16_RoleCounts.calls (k : Nat) (A0 : Option Addr) (c0 : Nat) (l0 : List Int) (a1 : Int) (a2 : Int) (r : Bool) (w : World) (hr0 : Kd.C (Kd.int .i64) w A0 l0.length l0) (hc0 : l0.length ≤ c0) (h : headgatelaw16_RoleCounts.f k l0 a1 a2 = some r) :
    Calls Try.prog 11 #[.slice A0 l0.length c0, .int .i64 a1, .int .i64 a2] w fun e w' => e = .returned (.bool r) ∧ Below w.heap.size w w' := by
  have HR0 := Aside0.mk hr0
  have HC0 := Aside0.mk hc0
  clear hr0 hc0
  have HB := Aside0.mk (Below.refl w.heap.size w)
  have H : ((headgatelaw16_made.f k l0).bind fun t500 => ((role_Counts.f k t500).bind fun bt503 => (if bt503.2 = 0 then (headgatelaw16_RoleCounts.j0 k a1 a2 t500 bt503.1 ((bt503.1.length : Int) != 8)) else (headgatelaw16_RoleCounts.j0 k a1 a2 t500 bt503.1 true)))) = some r := h
  clear h
  replace H := Option.bind_eq_some_iff.mp H
  obtain ⟨t500, A40, H⟩ := H
  replace H : ((role_Counts.f k t500).bind fun bt503 => (if bt503.2 = 0 then (headgatelaw16_RoleCounts.j0 k a1 a2 t500 bt503.1 ((bt503.1.length : Int) != 8)) else (headgatelaw16_RoleCounts.j0 k a1 a2 t500 bt503.1 true))) = some r := H
  have A4 := Aside0.mk A40
  clear A40
  replace H := Option.bind_eq_some_iff.mp H
  obtain ⟨⟨t503, t504⟩, A50, H⟩ := H
  replace H : (if t504 = 0 then (headgatelaw16_RoleCounts.j0 k a1 a2 t500 t503 ((t503.length : Int) != 8)) else (headgatelaw16_RoleCounts.j0 k a1 a2 t500 t503 true)) = some r := H
  have A5 := Aside0.mk A50
  clear A50
  have HC6 := Aside0.mk H
  clear H
  go_enter Try.func11, Try.ntmps11
  go_upto_region 3 with (first | ((with_reducible refine gate_callee (f := 20) rfl ?_); refine goesL_ (some 23) rfl rfl Try.func20 (by kernel_rfl) rfl #[.slice A0 l0.length c0] rfl (by (try simp only [List.map_toArray, List.map_cons, List.map_nil]); first | done | rfl | (simp only [List.length_drop, List.length_take]; rfl)) ?_; (with_reducible refine (headgatelaw16_made.calls k _ _ l0 t500 _ ?side1 ?side2 A4.out).mono ?_); (case side1 => repeat (first | exact HR0.out | (with_reducible refine Kd.C_alloc ?_ _) | (with_reducible refine Kd.C_drewN ?_ _) | (with_reducible refine Kd.C_drew ?_))); (case side2 => exact HC0.out); rintro e w7 ⟨v501, rfl, ho0, hb⟩; refine ⟨_, rfl, ?_⟩; have n0_ := Aside0.mk (Kd.R_lower ho0 (below_size (by repeat (first | (with_reducible first | exact HB.out | apply below_alloc | apply pw_below_drewN | apply below_drew1) | exact HB.out)))); have n1_ := Aside0.mk (below_step (by repeat (first | (with_reducible first | exact HB.out | apply below_alloc | apply pw_below_drewN | apply below_drew1) | exact HB.out)) hb); clear HB; have HO502 := n0_; have HB := n1_; clear n0_ n1_; (try clear hb); (try clear hb2); (try clear hk); (try clear hi); (try clear ho0); obtain ⟨Ao8, co8, eo8⟩ := Kd.R_slice HO502.out; subst eo8) | ((with_reducible refine gate_callee (f := 32) rfl ?_); refine goesL_ (some 26) rfl rfl Try.func32 (by kernel_rfl) rfl #[.slice Ao8 t500.length co8] rfl (by (try simp only [List.map_toArray, List.map_cons, List.map_nil]); first | done | rfl | (simp only [List.length_drop, List.length_take]; rfl)) ?_; (with_reducible refine (role_Counts.calls k _ _ t500 t503 t504 _ ?side1 ?side2 A5.out).mono ?_); (case side1 => repeat (first | exact (Kd.R_reads' HO502.out).2.2 | (with_reducible refine Kd.C_alloc ?_ _) | (with_reducible refine Kd.C_drewN ?_ _) | (with_reducible refine Kd.C_drew ?_))); (case side2 => exact (Kd.R_reads' HO502.out).2.1); rintro e w9 ⟨v505, rfl, ho0, hb⟩; refine ⟨_, rfl, ?_⟩; have n0_ := Aside0.mk (Kd.R_elder' (by (with_reducible repeat (first | apply Kd.R_alloc | apply Kd.R_drewN | apply Kd.R_drew)); exact HO502.out) (Kd.R_base ho0) hb); have n1_ := Aside0.mk (Kd.R_lower (Kd.R_new' ho0 (Kd.R_lt (by (with_reducible repeat (first | apply Kd.R_alloc | apply Kd.R_drewN | apply Kd.R_drew)); exact HO502.out))) (below_size (by repeat (first | (with_reducible first | exact HB.out | apply below_alloc | apply pw_below_drewN | apply below_drew1) | exact HB.out)))); have n2_ := Aside0.mk (below_step (by repeat (first | (with_reducible first | exact HB.out | apply below_alloc | apply pw_below_drewN | apply below_drew1) | exact HB.out)) hb); clear HO502; clear HB; have HO502 := n0_; have HO506 := n1_; have HB := n2_; clear n0_ n1_ n2_; (try clear hb); (try clear hb2); (try clear hk); (try clear hi); (try clear ho0)))
  (try simp only [Act.put, List.setIfInBounds_toArray, List.set_cons_zero, List.set_cons_succ])
  go_cut [35] (fun v35 wc => ∃ (kq : Nat) (x35_5 : Bool), v35 = .bool x35_5 ∧ Aside0 (headgatelaw16_RoleCounts.j0 kq a1 a2 t500 t503 x35_5 = some r) ∧ Aside0 (kq ≤ k) ∧ Aside0 (Kd.R (Kd.int .i64) 3 wc w.heap.size (fun k_ => some k_ ≠ (v505 : Value).ownBlock) (.slice Ao8 t500.length co8) t500) ∧ Aside0 (Kd.R (Kd.int .i64) 3 wc w.heap.size (fun k_ => some k_ ≠ ((.slice Ao8 t500.length co8) : Value).ownBlock) v505 t503) ∧ Aside0 (Below w.heap.size w wc))
  case first =>
    have H := HC6.out
    clear HC6
    by_cases c10 : t504 = 0
    · rw [if_pos c10] at H
      have c10b0 : (t504 == 0) = true := beq_iff_eq.mpr c10
      have c10b1 : (t504 != 0) = false := bne_eq_false_iff_eq.mpr c10
      clear c10
      (first | rw [c10b0] | (simp only [i64_w, i32_w]; rw [c10b0]) | skip)
      have H' := Aside0.mk H
      clear H
      obtain ⟨Ao11, co11, eo11⟩ := Kd.R_slice HO506.out
      subst eo11
      go_wp2
      go_meet
      case rel => exact ⟨_, (((t503.length : Int) != 8)), (by first | rfl | (simp; done) | (simp [*]; done)), H', ⟨by first | omega | exact Nat.le_refl _⟩, ⟨by (with_reducible repeat (first | apply Kd.R_alloc | apply Kd.R_drewN | apply Kd.R_drew)); exact Kd.R_mono HO502.out (fun _ hk => hk.2)⟩, ⟨by (with_reducible repeat (first | apply Kd.R_alloc | apply Kd.R_drewN | apply Kd.R_drew)); exact Kd.R_mono HO506.out (fun _ hk => hk.2)⟩, ⟨by repeat (first | (with_reducible first | exact HB.out | apply below_alloc | apply pw_below_drewN | apply below_drew1) | exact HB.out)⟩⟩
    · rw [if_neg c10] at H
      have c10b0 : (t504 == 0) = false := beq_eq_false_iff_ne.mpr c10
      have c10b1 : (t504 != 0) = true := bne_iff_ne.mpr c10
      (first | rw [c10b0] | (simp only [i64_w, i32_w]; rw [c10b0]) | skip)
      have H' := Aside0.mk H
      clear H
      go_wp2
      go_meet
      case rel => exact ⟨_, (true), (by first | rfl | (simp; done) | (simp [*]; done)), H', ⟨by first | omega | exact Nat.le_refl _⟩, ⟨by (with_reducible repeat (first | apply Kd.R_alloc | apply Kd.R_drewN | apply Kd.R_drew)); exact Kd.R_mono HO502.out (fun _ hk => hk.2)⟩, ⟨by (with_reducible repeat (first | apply Kd.R_alloc | apply Kd.R_drewN | apply Kd.R_drew)); exact Kd.R_mono HO506.out (fun _ hk => hk.2)⟩, ⟨by repeat (first | (with_reducible first | exact HB.out | apply below_alloc | apply pw_below_drewN | apply below_drew1) | exact HB.out)⟩⟩
  case rest =>
    clear HC6
    try clear c1
    try clear c2
    try clear p2
    try clear c3
    try clear c10
    try clear c10b0
    try clear c10b1
    try clear c11
    obtain ⟨kq, x35_5, rfl, HA, HJ5, HO_7, HO_8, HB⟩ := hcut
    cases kq with
    | zero => exact absurd HA.out (by simp [headgatelaw16_RoleCounts.j0])
    | succ kj5 =>
      have H := HA.out
      clear HA
      simp only [headgatelaw16_RoleCounts.j0] at H
      by_cases c12 : x35_5 = true
      · subst c12
        have H1 : (some false) = some r := by rw [if_pos rfl] at H; exact H
        clear H
        have H := H1
        clear H1
        obtain rfl := Option.some.inj H
        go_wp2
        go_ret
        exact ⟨by first | rfl | (simp [errW_none, errW_some] <;> rfl) | (simp [*, errW_none, errW_some] <;> rfl), by repeat (first | (with_reducible first | exact HB.out | apply below_alloc | apply pw_below_drewN | apply below_drew1) | exact HB.out)⟩
      · replace c12 := Bool.eq_false_iff.mpr c12
        subst c12
        have H1 : (headgatelaw16_RoleCounts.l0 kj5 a1 a2 t500 t503 0 0) = some r := by rw [if_neg (show ¬ (false = true) by decide)] at H; exact H
        clear H
        have H := H1
        clear H1
        have H' := Aside0.mk H
        clear H
        go_wp2
        go_loopg [10, 11] kj5 (fun kq v10 v11 w' => ∃ (x10_2 : Int) (x11_2 : Int), v10 = .int .i64 x10_2 ∧ v11 = .int .i64 x11_2 ∧ Aside0 (headgatelaw16_RoleCounts.l0 kq a1 a2 t500 t503 x10_2 x11_2 = some r) ∧ Aside0 (kq ≤ kj5) ∧ Aside0 (Kd.R (Kd.int .i64) 3 w' w.heap.size (fun k_ => some k_ ≠ (v505 : Value).ownBlock) (.slice Ao8 t500.length co8) t500) ∧ Aside0 (Kd.R (Kd.int .i64) 3 w' w.heap.size (fun k_ => some k_ ≠ ((.slice Ao8 t500.length co8) : Value).ownBlock) v505 t503) ∧ Aside0 (Below w.heap.size w w'))
        case atStart => exact ⟨(0), (0), (by first | rfl | (simp; done) | (simp [*]; done)), (by first | rfl | (simp; done) | (simp [*]; done)), H', ⟨Nat.le_refl _⟩, ⟨by (with_reducible repeat (first | apply Kd.R_alloc | apply Kd.R_drewN | apply Kd.R_drew)); exact HO_7.out⟩, ⟨by (with_reducible repeat (first | apply Kd.R_alloc | apply Kd.R_drewN | apply Kd.R_drew)); exact HO_8.out⟩, ⟨by repeat (first | (with_reducible first | exact HB.out | apply below_alloc | apply pw_below_drewN | apply below_drew1) | exact HB.out)⟩⟩
        case round =>
          clear H'
          try clear c1
          try clear c2
          try clear p2
          try clear c3
          try clear c10
          try clear c10b0
          try clear c10b1
          try clear c11
          try clear c12
          try clear p2
          obtain ⟨x10_2, x11_2, rfl, rfl, HA, HK2, HO_7, HO_8, HB⟩ := hrel
          cases gk with
          | zero => exact absurd HA.out (by simp [headgatelaw16_RoleCounts.l0])
          | succ k2 =>
            have H := HA.out
            clear HA
            simp only [headgatelaw16_RoleCounts.l0] at H
            by_cases c13 : x11_2 < 8
            · rw [if_pos c13] at H
              have c13b0 : decide (x11_2 < 8) = true := decide_eq_true c13
              clear c13
              replace H := Option.bind_eq_some_iff.mp H
              obtain ⟨⟨t507, t508⟩, A140, H⟩ := H
              replace H : (if t508 = 0 then (if 0 ≤ x11_2 then (if x11_2 < (t503.length : Int) then (if (t507.length : Int) = (rd t503 x11_2) then (headgatelaw16_RoleCounts.l0 k2 a1 a2 t500 t503 (wrap64 (x10_2 + (rd t503 x11_2))) (wrap64 (x11_2 + 1))) else (some false)) else (none)) else (none)) else (some false)) = some r := H
              have A14 := Aside0.mk A140
              clear A140
              by_cases c15 : t508 = 0
              · rw [if_pos c15] at H
                have c15b0 : (t508 == 0) = true := beq_iff_eq.mpr c15
                have c15b1 : (t508 != 0) = false := bne_eq_false_iff_eq.mpr c15
                clear c15
                by_cases c16 : 0 ≤ x11_2
                · rw [if_pos c16] at H
                  have c16b0 : decide (0 ≤ x11_2) = true := decide_eq_true c16
                  clear c16
                  by_cases c17 : x11_2 < (t503.length : Int)
                  · rw [if_pos c17] at H
                    have c17b0 : decide (x11_2 < (t503.length : Int)) = true := decide_eq_true c17
                    clear c17
                    by_cases c18 : (t507.length : Int) = (rd t503 x11_2)
                    · rw [if_pos c18] at H
                      have c18b0 : ((t507.length : Int) == (rd t503 x11_2)) = true := beq_iff_eq.mpr c18
                      have c18b1 : ((t507.length : Int) != (rd t503 x11_2)) = false := bne_eq_false_iff_eq.mpr c18
                      clear c18
                      have H' := Aside0.mk H
                      clear H
                      go_wp2_with (first | ((with_reducible refine gate_callee (f := 30) rfl ?_); refine goesL_ (some 43) rfl rfl Try.func30 (by kernel_rfl) rfl #[.slice Ao8 t500.length co8, .int .i64 x11_2] rfl (by (try simp only [List.map_toArray, List.map_cons, List.map_nil]); first | done | rfl | (simp only [List.length_drop, List.length_take]; rfl)) ?_; (with_reducible refine (role_Of.calls k2 _ _ t500 x11_2 t507 t508 _ ?side1 ?side2 A14.out).mono ?_); (case side1 => repeat (first | exact (Kd.R_reads' HO_7.out).2.2 | (with_reducible refine Kd.C_alloc ?_ _) | (with_reducible refine Kd.C_drewN ?_ _) | (with_reducible refine Kd.C_drew ?_))); (case side2 => exact (Kd.R_reads' HO_7.out).2.1); rintro e w19 ⟨v509, rfl, ho0, hb⟩; refine ⟨_, rfl, ?_⟩; have n0_ := Aside0.mk (Kd.R_elder' (by (with_reducible repeat (first | apply Kd.R_alloc | apply Kd.R_drewN | apply Kd.R_drew)); exact HO_7.out) (Kd.R_base ho0) hb); have n1_ := Aside0.mk (Kd.R_elder' (by (with_reducible repeat (first | apply Kd.R_alloc | apply Kd.R_drewN | apply Kd.R_drew)); exact HO_8.out) (Kd.R_base ho0) hb); have n2_ := Aside0.mk (Kd.R_lower (Kd.R_new' (Kd.R_new' ho0 (Kd.R_lt (by (with_reducible repeat (first | apply Kd.R_alloc | apply Kd.R_drewN | apply Kd.R_drew)); exact HO_7.out))) (Kd.R_lt (by (with_reducible repeat (first | apply Kd.R_alloc | apply Kd.R_drewN | apply Kd.R_drew)); exact HO_8.out))) (below_size (by repeat (first | (with_reducible first | exact HB.out | apply below_alloc | apply pw_below_drewN | apply below_drew1) | exact HB.out)))); have n3_ := Aside0.mk (below_step (by repeat (first | (with_reducible first | exact HB.out | apply below_alloc | apply pw_below_drewN | apply below_drew1) | exact HB.out)) hb); clear HO_7; clear HO_8; clear HB; have HO_7 := n0_; have HO_8 := n1_; have HO510 := n2_; have HB := n3_; clear n0_ n1_ n2_ n3_; (try clear hb); (try clear hb2); (try clear hk); (try clear hi); (try clear ho0); obtain ⟨Ao20, co20, eo20⟩ := Kd.R_slice HO510.out; subst eo20; obtain ⟨Ao21, co21, eo21⟩ := Kd.R_slice HO_8.out; subst eo21; have p511 : 0 ≤ (x11_2 : Int) := of_decide_eq_true (by first | (with_reducible assumption) | assumption); have q511 : x11_2 < (t503.length : Int) := of_decide_eq_true (by first | (with_reducible assumption) | assumption); obtain ⟨ad511, e511, hx511_0⟩ := Kd.at_int (Kd.R_reads' HO_8.out).2.2 x11_2 p511 q511; cases e511; replace p511 := eq_true p511; replace q511 := eq_true q511; have p512 : 0 ≤ (x11_2 : Int) := of_decide_eq_true (by first | (with_reducible assumption) | assumption); have q512 : x11_2 < (t503.length : Int) := of_decide_eq_true (by first | (with_reducible assumption) | assumption); obtain ⟨ad512, e512, hx512_0⟩ := Kd.at_int (Kd.R_reads' HO_8.out).2.2 x11_2 p512 q512; obtain rfl : ad511 = ad512 := (by injection e512); replace p512 := eq_true p512; replace q512 := eq_true q512))
                      go_roundg k2
                      case measure => have := HJ5.out; have := HK2.out; omega
                      case rel => exact ⟨(wrap64 (x10_2 + (rd t503 x11_2))), (wrap64 (x11_2 + 1)), (by first | rfl | (simp; done) | (simp [*]; done)), (by first | rfl | (simp; done) | (simp [*]; done)), H', ⟨by have := HJ5.out; have := HK2.out; omega⟩, ⟨by (with_reducible repeat (first | apply Kd.R_alloc | apply Kd.R_drewN | apply Kd.R_drew)); exact Kd.R_mono HO_7.out (fun _ hk => hk.1)⟩, ⟨by (with_reducible repeat (first | apply Kd.R_alloc | apply Kd.R_drewN | apply Kd.R_drew)); exact Kd.R_mono HO_8.out (fun _ hk => hk.1)⟩, ⟨by repeat (first | (with_reducible first | exact HB.out | apply below_alloc | apply pw_below_drewN | apply below_drew1) | exact HB.out)⟩⟩
                    · rw [if_neg c18] at H
                      have c18b0 : ((t507.length : Int) == (rd t503 x11_2)) = false := beq_eq_false_iff_ne.mpr c18
                      have c18b1 : ((t507.length : Int) != (rd t503 x11_2)) = true := bne_iff_ne.mpr c18
                      obtain rfl := Option.some.inj H
                      go_wp2_with (first | ((with_reducible refine gate_callee (f := 30) rfl ?_); refine goesL_ (some 43) rfl rfl Try.func30 (by kernel_rfl) rfl #[.slice Ao8 t500.length co8, .int .i64 x11_2] rfl (by (try simp only [List.map_toArray, List.map_cons, List.map_nil]); first | done | rfl | (simp only [List.length_drop, List.length_take]; rfl)) ?_; (with_reducible refine (role_Of.calls k2 _ _ t500 x11_2 t507 t508 _ ?side1 ?side2 A14.out).mono ?_); (case side1 => repeat (first | exact (Kd.R_reads' HO_7.out).2.2 | (with_reducible refine Kd.C_alloc ?_ _) | (with_reducible refine Kd.C_drewN ?_ _) | (with_reducible refine Kd.C_drew ?_))); (case side2 => exact (Kd.R_reads' HO_7.out).2.1); rintro e w22 ⟨v509, rfl, ho0, hb⟩; refine ⟨_, rfl, ?_⟩; have n0_ := Aside0.mk (Kd.R_elder' (by (with_reducible repeat (first | apply Kd.R_alloc | apply Kd.R_drewN | apply Kd.R_drew)); exact HO_7.out) (Kd.R_base ho0) hb); have n1_ := Aside0.mk (Kd.R_elder' (by (with_reducible repeat (first | apply Kd.R_alloc | apply Kd.R_drewN | apply Kd.R_drew)); exact HO_8.out) (Kd.R_base ho0) hb); have n2_ := Aside0.mk (Kd.R_lower (Kd.R_new' (Kd.R_new' ho0 (Kd.R_lt (by (with_reducible repeat (first | apply Kd.R_alloc | apply Kd.R_drewN | apply Kd.R_drew)); exact HO_7.out))) (Kd.R_lt (by (with_reducible repeat (first | apply Kd.R_alloc | apply Kd.R_drewN | apply Kd.R_drew)); exact HO_8.out))) (below_size (by repeat (first | (with_reducible first | exact HB.out | apply below_alloc | apply pw_below_drewN | apply below_drew1) | exact HB.out)))); have n3_ := Aside0.mk (below_step (by repeat (first | (with_reducible first | exact HB.out | apply below_alloc | apply pw_below_drewN | apply below_drew1) | exact HB.out)) hb); clear HO_7; clear HO_8; clear HB; have HO_7 := n0_; have HO_8 := n1_; have HO510 := n2_; have HB := n3_; clear n0_ n1_ n2_ n3_; (try clear hb); (try clear hb2); (try clear hk); (try clear hi); (try clear ho0); obtain ⟨Ao23, co23, eo23⟩ := Kd.R_slice HO510.out; subst eo23; obtain ⟨Ao24, co24, eo24⟩ := Kd.R_slice HO_8.out; subst eo24; have p511 : 0 ≤ (x11_2 : Int) := of_decide_eq_true (by first | (with_reducible assumption) | assumption); have q511 : x11_2 < (t503.length : Int) := of_decide_eq_true (by first | (with_reducible assumption) | assumption); obtain ⟨ad511, e511, hx511_0⟩ := Kd.at_int (Kd.R_reads' HO_8.out).2.2 x11_2 p511 q511; cases e511; replace p511 := eq_true p511; replace q511 := eq_true q511))
                      go_ret
                      exact ⟨by first | rfl | (simp [errW_none, errW_some] <;> rfl) | (simp [*, errW_none, errW_some] <;> rfl), by repeat (first | (with_reducible first | exact HB.out | apply below_alloc | apply pw_below_drewN | apply below_drew1) | exact HB.out)⟩
                  · rw [if_neg c17] at H
                    exact absurd H (by simp)
                · rw [if_neg c16] at H
                  exact absurd H (by simp)
              · rw [if_neg c15] at H
                have c15b0 : (t508 == 0) = false := beq_eq_false_iff_ne.mpr c15
                have c15b1 : (t508 != 0) = true := bne_iff_ne.mpr c15
                obtain rfl := Option.some.inj H
                go_wp2_with (first | ((with_reducible refine gate_callee (f := 30) rfl ?_); refine goesL_ (some 43) rfl rfl Try.func30 (by kernel_rfl) rfl #[.slice Ao8 t500.length co8, .int .i64 x11_2] rfl (by (try simp only [List.map_toArray, List.map_cons, List.map_nil]); first | done | rfl | (simp only [List.length_drop, List.length_take]; rfl)) ?_; (with_reducible refine (role_Of.calls k2 _ _ t500 x11_2 t507 t508 _ ?side1 ?side2 A14.out).mono ?_); (case side1 => repeat (first | exact (Kd.R_reads' HO_7.out).2.2 | (with_reducible refine Kd.C_alloc ?_ _) | (with_reducible refine Kd.C_drewN ?_ _) | (with_reducible refine Kd.C_drew ?_))); (case side2 => exact (Kd.R_reads' HO_7.out).2.1); rintro e w25 ⟨v509, rfl, ho0, hb⟩; refine ⟨_, rfl, ?_⟩; have n0_ := Aside0.mk (Kd.R_elder' (by (with_reducible repeat (first | apply Kd.R_alloc | apply Kd.R_drewN | apply Kd.R_drew)); exact HO_7.out) (Kd.R_base ho0) hb); have n1_ := Aside0.mk (Kd.R_elder' (by (with_reducible repeat (first | apply Kd.R_alloc | apply Kd.R_drewN | apply Kd.R_drew)); exact HO_8.out) (Kd.R_base ho0) hb); have n2_ := Aside0.mk (Kd.R_lower (Kd.R_new' (Kd.R_new' ho0 (Kd.R_lt (by (with_reducible repeat (first | apply Kd.R_alloc | apply Kd.R_drewN | apply Kd.R_drew)); exact HO_7.out))) (Kd.R_lt (by (with_reducible repeat (first | apply Kd.R_alloc | apply Kd.R_drewN | apply Kd.R_drew)); exact HO_8.out))) (below_size (by repeat (first | (with_reducible first | exact HB.out | apply below_alloc | apply pw_below_drewN | apply below_drew1) | exact HB.out)))); have n3_ := Aside0.mk (below_step (by repeat (first | (with_reducible first | exact HB.out | apply below_alloc | apply pw_below_drewN | apply below_drew1) | exact HB.out)) hb); clear HO_7; clear HO_8; clear HB; have HO_7 := n0_; have HO_8 := n1_; have HO510 := n2_; have HB := n3_; clear n0_ n1_ n2_ n3_; (try clear hb); (try clear hb2); (try clear hk); (try clear hi); (try clear ho0)))
                go_ret
                exact ⟨by first | rfl | (simp [errW_none, errW_some] <;> rfl) | (simp [*, errW_none, errW_some] <;> rfl), by repeat (first | (with_reducible first | exact HB.out | apply below_alloc | apply pw_below_drewN | apply below_drew1) | exact HB.out)⟩
            · rw [if_neg c13] at H
              have c13b0 : decide (x11_2 < 8) = false := decide_eq_false c13
              clear c13
              by_cases c26 : x10_2 = (t500.length : Int)
              · rw [if_pos c26] at H
                have c26b0 : (x10_2 == (t500.length : Int)) = true := beq_iff_eq.mpr c26
                have c26b1 : (x10_2 != (t500.length : Int)) = false := bne_eq_false_iff_eq.mpr c26
                clear c26
                by_cases c27 : (t500.length : Int) = 0
                · rw [if_pos c27] at H
                  have c27b0 : ((t500.length : Int) == 0) = true := beq_iff_eq.mpr c27
                  have c27b1 : ((t500.length : Int) != 0) = false := bne_eq_false_iff_eq.mpr c27
                  clear c27
                  replace H := Option.bind_eq_some_iff.mp H
                  obtain ⟨t513, A280, H⟩ := H
                  replace H : (some t513) = some r := H
                  have A28 := Aside0.mk A280
                  clear A280
                  obtain rfl := Option.some.inj H
                  go_wp2_with (first | ((with_reducible refine gate_callee (f := 17) rfl ?_); refine goesL_ (some 70) rfl rfl Try.func17 (by kernel_rfl) rfl #[] rfl (by (try simp only [List.map_toArray, List.map_cons, List.map_nil]); first | done | rfl | (simp only [List.length_drop, List.length_take]; rfl)) ?_; (with_reducible refine (headgatelaw16_awake.calls k2  t513 _ A28.out).mono ?_); rintro e w29 ⟨rfl, hb⟩; refine ⟨_, rfl, ?_⟩; have n0_ := Aside0.mk (Kd.R_below (by (with_reducible repeat (first | apply Kd.R_alloc | apply Kd.R_drewN | apply Kd.R_drew)); exact HO_7.out) hb); have n1_ := Aside0.mk (Kd.R_below (by (with_reducible repeat (first | apply Kd.R_alloc | apply Kd.R_drewN | apply Kd.R_drew)); exact HO_8.out) hb); have n2_ := Aside0.mk (below_step (by repeat (first | (with_reducible first | exact HB.out | apply below_alloc | apply pw_below_drewN | apply below_drew1) | exact HB.out)) hb); clear HO_7; clear HO_8; clear HB; have HO_7 := n0_; have HO_8 := n1_; have HB := n2_; clear n0_ n1_ n2_; (try clear hb); (try clear hb2); (try clear hk); (try clear hi)))
                  go_ret
                  exact ⟨by first | rfl | (simp [errW_none, errW_some] <;> rfl) | (simp [*, errW_none, errW_some] <;> rfl), by repeat (first | (with_reducible first | exact HB.out | apply below_alloc | apply pw_below_drewN | apply below_drew1) | exact HB.out)⟩
                · rw [if_neg c27] at H
                  have c27b0 : ((t500.length : Int) == 0) = false := beq_eq_false_iff_ne.mpr c27
                  have c27b1 : ((t500.length : Int) != 0) = true := bne_iff_ne.mpr c27
                  have c27b2 : ¬ (t500 = []) := fun h_ => c27 (by rw [h_]; rfl)
                  replace H := Option.bind_eq_some_iff.mp H
                  obtain ⟨t514, A300, H⟩ := H
                  replace H : ((headgatekit_Mod.f a2 8).bind fun t515 => (if 0 ≤ t514 then (if t514 < (t500.length : Int) then ((role_May.f (rd t500 t514) t515).bind fun bt517 => ((headgatekit_OwnInts.f t500).bind fun t519 => ((role_Change.f k2 t519 t514 t515).bind fun bt522 => (if bt517.2 = 0 then (headgatelaw16_RoleCounts.j2 k2 t500 t503 t514 t515 bt517.1 bt522.1 (bt517.1 != (bt522.2 == 0))) else (headgatelaw16_RoleCounts.j2 k2 t500 t503 t514 t515 bt517.1 bt522.1 true))))) else (none)) else (none))) = some r := H
                  have A30 := Aside0.mk A300
                  clear A300
                  replace H := Option.bind_eq_some_iff.mp H
                  obtain ⟨t515, A310, H⟩ := H
                  replace H : (if 0 ≤ t514 then (if t514 < (t500.length : Int) then ((role_May.f (rd t500 t514) t515).bind fun bt517 => ((headgatekit_OwnInts.f t500).bind fun t519 => ((role_Change.f k2 t519 t514 t515).bind fun bt522 => (if bt517.2 = 0 then (headgatelaw16_RoleCounts.j2 k2 t500 t503 t514 t515 bt517.1 bt522.1 (bt517.1 != (bt522.2 == 0))) else (headgatelaw16_RoleCounts.j2 k2 t500 t503 t514 t515 bt517.1 bt522.1 true))))) else (none)) else (none)) = some r := H
                  have A31 := Aside0.mk A310
                  clear A310
                  by_cases c32 : 0 ≤ t514
                  · rw [if_pos c32] at H
                    have c32b0 : decide (0 ≤ t514) = true := decide_eq_true c32
                    clear c32
                    by_cases c33 : t514 < (t500.length : Int)
                    · rw [if_pos c33] at H
                      have c33b0 : decide (t514 < (t500.length : Int)) = true := decide_eq_true c33
                      clear c33
                      replace H := Option.bind_eq_some_iff.mp H
                      obtain ⟨⟨t517, t518⟩, A340, H⟩ := H
                      replace H : ((headgatekit_OwnInts.f t500).bind fun t519 => ((role_Change.f k2 t519 t514 t515).bind fun bt522 => (if t518 = 0 then (headgatelaw16_RoleCounts.j2 k2 t500 t503 t514 t515 t517 bt522.1 (t517 != (bt522.2 == 0))) else (headgatelaw16_RoleCounts.j2 k2 t500 t503 t514 t515 t517 bt522.1 true)))) = some r := H
                      have A34 := Aside0.mk A340
                      clear A340
                      replace H := Option.bind_eq_some_iff.mp H
                      obtain ⟨t519, A350, H⟩ := H
                      replace H : ((role_Change.f k2 t519 t514 t515).bind fun bt522 => (if t518 = 0 then (headgatelaw16_RoleCounts.j2 k2 t500 t503 t514 t515 t517 bt522.1 (t517 != (bt522.2 == 0))) else (headgatelaw16_RoleCounts.j2 k2 t500 t503 t514 t515 t517 bt522.1 true))) = some r := H
                      have A35 := Aside0.mk A350
                      clear A350
                      replace H := Option.bind_eq_some_iff.mp H
                      obtain ⟨⟨t522, t523⟩, A360, H⟩ := H
                      replace H : (if t518 = 0 then (headgatelaw16_RoleCounts.j2 k2 t500 t503 t514 t515 t517 t522 (t517 != (t523 == 0))) else (headgatelaw16_RoleCounts.j2 k2 t500 t503 t514 t515 t517 t522 true)) = some r := H
                      have A36 := Aside0.mk A360
                      clear A360
                      have HC37 := Aside0.mk H
                      clear H
                      go_upto_region 20 with (first | ((with_reducible refine gate_callee (f := 22) rfl ?_); refine goesL_ (some 74) rfl rfl Try.func22 (by kernel_rfl) rfl #[.int .i64 a1, .int .i64 (t500.length : Int)] rfl (by (try simp only [List.map_toArray, List.map_cons, List.map_nil]); first | done | rfl | (simp only [List.length_drop, List.length_take]; rfl)) ?_; (with_reducible refine (headgatekit_Mod.calls a1 (t500.length : Int) t514 _ A30.out).mono ?_); rintro e w' ⟨rfl, ⟨nd, rfl⟩⟩; refine ⟨_, rfl, ?_⟩) | ((with_reducible refine gate_callee (f := 22) rfl ?_); refine goesL_ (some 76) rfl rfl Try.func22 (by kernel_rfl) rfl #[.int .i64 a2, .int .i64 8] rfl (by (try simp only [List.map_toArray, List.map_cons, List.map_nil]); first | done | rfl | (simp only [List.length_drop, List.length_take]; rfl)) ?_; (with_reducible refine (headgatekit_Mod.calls a2 8 t515 _ A31.out).mono ?_); rintro e w' ⟨rfl, ⟨nd, rfl⟩⟩; refine ⟨_, rfl, ?_⟩; have p516 : 0 ≤ (t514 : Int) := of_decide_eq_true (by first | (with_reducible assumption) | assumption); have q516 : t514 < (t500.length : Int) := of_decide_eq_true (by first | (with_reducible assumption) | assumption); obtain ⟨ad516, e516, hx516_0⟩ := Kd.at_int (Kd.R_reads' HO_7.out).2.2 t514 p516 q516; cases e516; replace p516 := eq_true p516; replace q516 := eq_true q516) | ((with_reducible refine gate_callee (f := 12) rfl ?_); refine goesL_ (some 83) rfl rfl Try.func12 (by kernel_rfl) rfl #[.int .i64 (rd t500 t514), .int .i64 t515] rfl (by (try simp only [List.map_toArray, List.map_cons, List.map_nil]); first | done | rfl | (simp only [List.length_drop, List.length_take]; rfl)) ?_; (with_reducible refine (role_May.calls (rd t500 t514) t515 t517 t518 _ A34.out).mono ?_); rintro e w' ⟨rfl, ⟨nd, rfl⟩⟩; refine ⟨_, rfl, ?_⟩) | ((with_reducible refine gate_callee (f := 24) rfl ?_); refine goesL_ (some 88) rfl rfl Try.func24 (by kernel_rfl) rfl #[.slice (some ad516) t500.length co8] rfl (by (try simp only [List.map_toArray, List.map_cons, List.map_nil]); first | done | rfl | (simp only [List.length_drop, List.length_take]; rfl)) ?_; (with_reducible refine (headgatekit_OwnInts.calls _ _ t500 t519 _ ?side1 ?side2 A35.out).mono ?_); (case side1 => repeat (first | exact (Kd.R_reads' HO_7.out).2.2 | (with_reducible refine Kd.C_alloc ?_ _) | (with_reducible refine Kd.C_drewN ?_ _) | (with_reducible refine Kd.C_drew ?_))); (case side2 => exact (Kd.R_reads' HO_7.out).2.1); rintro e w38 ⟨v520, rfl, ho0, hb⟩; refine ⟨_, rfl, ?_⟩; have n0_ := Aside0.mk (Kd.R_elder' (by (with_reducible repeat (first | apply Kd.R_alloc | apply Kd.R_drewN | apply Kd.R_drew)); exact HO_7.out) (Kd.R_base ho0) hb); have n1_ := Aside0.mk (Kd.R_elder' (by (with_reducible repeat (first | apply Kd.R_alloc | apply Kd.R_drewN | apply Kd.R_drew)); exact HO_8.out) (Kd.R_base ho0) hb); have n2_ := Aside0.mk (Kd.R_lower (Kd.R_new' (Kd.R_new' ho0 (Kd.R_lt (by (with_reducible repeat (first | apply Kd.R_alloc | apply Kd.R_drewN | apply Kd.R_drew)); exact HO_7.out))) (Kd.R_lt (by (with_reducible repeat (first | apply Kd.R_alloc | apply Kd.R_drewN | apply Kd.R_drew)); exact HO_8.out))) (below_size (by repeat (first | (with_reducible first | exact HB.out | apply below_alloc | apply pw_below_drewN | apply below_drew1) | exact HB.out)))); have n3_ := Aside0.mk (below_step (by repeat (first | (with_reducible first | exact HB.out | apply below_alloc | apply pw_below_drewN | apply below_drew1) | exact HB.out)) hb); clear HO_7; clear HO_8; clear HB; have HO_7 := n0_; have HO_8 := n1_; have HO521 := n2_; have HB := n3_; clear n0_ n1_ n2_ n3_; (try clear hb); (try clear hb2); (try clear hk); (try clear hi); (try clear ho0); obtain ⟨Ao39, co39, eo39⟩ := Kd.R_slice HO521.out; subst eo39) | ((with_reducible refine gate_callee (f := 28) rfl ?_); refine goesL_ (some 91) rfl rfl Try.func28 (by kernel_rfl) rfl #[.slice Ao39 t519.length co39, .int .i64 t514, .int .i64 t515] rfl (by (try simp only [List.map_toArray, List.map_cons, List.map_nil]); first | done | rfl | (simp only [List.length_drop, List.length_take]; rfl)) ?_; (with_reducible refine (role_Change.calls k2 _ _ t519 t514 t515 t522 t523 _ ?side1 ?side2 A36.out).mono ?_); (case side1 => repeat (first | exact (Kd.R_reads' HO521.out).2.2 | (with_reducible refine Kd.C_alloc ?_ _) | (with_reducible refine Kd.C_drewN ?_ _) | (with_reducible refine Kd.C_drew ?_))); (case side2 => exact (Kd.R_reads' HO521.out).2.1); rintro e w40 ⟨v524, rfl, ho0, hb⟩; refine ⟨_, rfl, ?_⟩; have n0_ := Aside0.mk (Kd.R_elder' (by (with_reducible repeat (first | apply Kd.R_alloc | apply Kd.R_drewN | apply Kd.R_drew)); exact HO_7.out) (Kd.R_base ho0) hb); have n1_ := Aside0.mk (Kd.R_elder' (by (with_reducible repeat (first | apply Kd.R_alloc | apply Kd.R_drewN | apply Kd.R_drew)); exact HO_8.out) (Kd.R_base ho0) hb); have n2_ := Aside0.mk (Kd.R_elder' (by (with_reducible repeat (first | apply Kd.R_alloc | apply Kd.R_drewN | apply Kd.R_drew)); exact HO521.out) (Kd.R_base ho0) hb); have n3_ := Aside0.mk (Kd.R_lower (Kd.R_new' (Kd.R_new' (Kd.R_new' ho0 (Kd.R_lt (by (with_reducible repeat (first | apply Kd.R_alloc | apply Kd.R_drewN | apply Kd.R_drew)); exact HO_7.out))) (Kd.R_lt (by (with_reducible repeat (first | apply Kd.R_alloc | apply Kd.R_drewN | apply Kd.R_drew)); exact HO_8.out))) (Kd.R_lt (by (with_reducible repeat (first | apply Kd.R_alloc | apply Kd.R_drewN | apply Kd.R_drew)); exact HO521.out))) (below_size (by repeat (first | (with_reducible first | exact HB.out | apply below_alloc | apply pw_below_drewN | apply below_drew1) | exact HB.out)))); have n4_ := Aside0.mk (below_step (by repeat (first | (with_reducible first | exact HB.out | apply below_alloc | apply pw_below_drewN | apply below_drew1) | exact HB.out)) hb); clear HO_7; clear HO_8; clear HO521; clear HB; have HO_7 := n0_; have HO_8 := n1_; have HO521 := n2_; have HO525 := n3_; have HB := n4_; clear n0_ n1_ n2_ n3_ n4_; (try clear hb); (try clear hb2); (try clear hk); (try clear hi); (try clear ho0)))
                      (try simp only [Act.put, List.setIfInBounds_toArray, List.set_cons_zero, List.set_cons_succ])
                      go_cut [101] (fun v101 wc => ∃ (kq : Nat) (x101_36 : Bool), v101 = .bool x101_36 ∧ Aside0 (headgatelaw16_RoleCounts.j2 kq t500 t503 t514 t515 t517 t522 x101_36 = some r) ∧ Aside0 (kq ≤ k2) ∧ Aside0 (Kd.R (Kd.int .i64) 3 wc w.heap.size (fun k_ => some k_ ≠ (v505 : Value).ownBlock ∧ some k_ ≠ (v524 : Value).ownBlock) (.slice (some ad516) t500.length co8) t500) ∧ Aside0 (Kd.R (Kd.int .i64) 3 wc w.heap.size (fun k_ => some k_ ≠ ((.slice (some ad516) t500.length co8) : Value).ownBlock ∧ some k_ ≠ (v524 : Value).ownBlock) v505 t503) ∧ Aside0 (Kd.R (Kd.int .i64) 3 wc w.heap.size (fun k_ => some k_ ≠ ((.slice (some ad516) t500.length co8) : Value).ownBlock ∧ some k_ ≠ (v505 : Value).ownBlock) v524 t522) ∧ Aside0 (Below w.heap.size w wc))
                      case first =>
                        have H := HC37.out
                        clear HC37
                        by_cases c41 : t518 = 0
                        · rw [if_pos c41] at H
                          have c41b0 : (t518 == 0) = true := beq_iff_eq.mpr c41
                          have c41b1 : (t518 != 0) = false := bne_eq_false_iff_eq.mpr c41
                          clear c41
                          (first | rw [c41b0] | (simp only [i64_w, i32_w]; rw [c41b0]) | skip)
                          have H' := Aside0.mk H
                          clear H
                          go_wp2
                          go_meet
                          case rel => exact ⟨_, ((t517 != (t523 == 0))), (by first | rfl | (simp; done) | (simp [*]; done)), H', ⟨by have := HJ5.out; have := HK2.out; first | omega | exact Nat.le_refl _⟩, ⟨by (with_reducible repeat (first | apply Kd.R_alloc | apply Kd.R_drewN | apply Kd.R_drew)); exact Kd.R_mono HO_7.out (fun _ hk => ⟨hk.1.1, hk.2⟩)⟩, ⟨by (with_reducible repeat (first | apply Kd.R_alloc | apply Kd.R_drewN | apply Kd.R_drew)); exact Kd.R_mono HO_8.out (fun _ hk => ⟨hk.1.1, hk.2⟩)⟩, ⟨by (with_reducible repeat (first | apply Kd.R_alloc | apply Kd.R_drewN | apply Kd.R_drew)); exact Kd.R_mono HO525.out (fun _ hk => ⟨hk.1.1.2, hk.1.2⟩)⟩, ⟨by repeat (first | (with_reducible first | exact HB.out | apply below_alloc | apply pw_below_drewN | apply below_drew1) | exact HB.out)⟩⟩
                        · rw [if_neg c41] at H
                          have c41b0 : (t518 == 0) = false := beq_eq_false_iff_ne.mpr c41
                          have c41b1 : (t518 != 0) = true := bne_iff_ne.mpr c41
                          (first | rw [c41b0] | (simp only [i64_w, i32_w]; rw [c41b0]) | skip)
                          have H' := Aside0.mk H
                          clear H
                          go_wp2
                          go_meet
                          case rel => exact ⟨_, (true), (by first | rfl | (simp; done) | (simp [*]; done)), H', ⟨by have := HJ5.out; have := HK2.out; first | omega | exact Nat.le_refl _⟩, ⟨by (with_reducible repeat (first | apply Kd.R_alloc | apply Kd.R_drewN | apply Kd.R_drew)); exact Kd.R_mono HO_7.out (fun _ hk => ⟨hk.1.1, hk.2⟩)⟩, ⟨by (with_reducible repeat (first | apply Kd.R_alloc | apply Kd.R_drewN | apply Kd.R_drew)); exact Kd.R_mono HO_8.out (fun _ hk => ⟨hk.1.1, hk.2⟩)⟩, ⟨by (with_reducible repeat (first | apply Kd.R_alloc | apply Kd.R_drewN | apply Kd.R_drew)); exact Kd.R_mono HO525.out (fun _ hk => ⟨hk.1.1.2, hk.1.2⟩)⟩, ⟨by repeat (first | (with_reducible first | exact HB.out | apply below_alloc | apply pw_below_drewN | apply below_drew1) | exact HB.out)⟩⟩
                      case rest =>
                        clear HC37
                        try clear c1
                        try clear c2
                        try clear p2
                        try clear c3
                        try clear c4
                        try clear p5
                        try clear q5
                        try clear hx5
                        try clear p6
                        try clear c10
                        try clear c10b0
                        try clear c10b1
                        try clear c11
                        try clear c12
                        try clear c13
                        try clear c13b0
                        try clear c15
                        try clear c15b0
                        try clear c15b1
                        try clear c16
                        try clear c16b0
                        try clear c17
                        try clear c17b0
                        try clear c18
                        try clear c18b0
                        try clear c18b1
                        try clear c20
                        try clear c22
                        try clear c24
                        try clear c26
                        try clear c26b0
                        try clear c26b1
                        try clear c27
                        try clear c27b0
                        try clear c27b1
                        try clear c27b2
                        try clear c28
                        try clear c30
                        try clear c32
                        try clear c32b0
                        try clear c33
                        try clear c33b0
                        try clear c41
                        try clear c41b0
                        try clear c41b1
                        try clear hx511_0
                        try clear hx512_0
                        try clear hx516_0
                        try clear p2
                        try clear p511
                        try clear p512
                        try clear p516
                        try clear q511
                        try clear q512
                        try clear q516
                        obtain ⟨kq, x101_36, rfl, HA, HJ36, HO_7, HO_8, HO_17, HB⟩ := hcut
                        cases kq with
                        | zero => exact absurd HA.out (by simp [headgatelaw16_RoleCounts.j2])
                        | succ kj36 =>
                          have H := HA.out
                          clear HA
                          simp only [headgatelaw16_RoleCounts.j2] at H
                          by_cases c42 : x101_36 = true
                          · subst c42
                            have H1 : (some false) = some r := by rw [if_pos rfl] at H; exact H
                            clear H
                            have H := H1
                            clear H1
                            obtain rfl := Option.some.inj H
                            go_wp2
                            go_ret
                            exact ⟨by first | rfl | (simp [errW_none, errW_some] <;> rfl) | (simp [*, errW_none, errW_some] <;> rfl), by repeat (first | (with_reducible first | exact HB.out | apply below_alloc | apply pw_below_drewN | apply below_drew1) | exact HB.out)⟩
                          · replace c42 := Bool.eq_false_iff.mpr c42
                            subst c42
                            have H1 : (if t517 = true then ((role_Counts.f kj36 t522).bind fun bt527 => (if bt527.2 = 0 then (headgatelaw16_RoleCounts.j3 kj36 t500 t503 t514 t515 bt527.1 ((bt527.1.length : Int) != 8)) else (headgatelaw16_RoleCounts.j3 kj36 t500 t503 t514 t515 bt527.1 true))) else (if (t522.length : Int) = 0 then ((headgatelaw16_awake.f kj36).bind fun t526 => (some t526)) else (some false))) = some r := by rw [if_neg (show ¬ (false = true) by decide)] at H; exact H
                            clear H
                            have H := H1
                            clear H1
                            by_cases c43 : t517 = true
                            · subst c43
                              have H1 : ((role_Counts.f kj36 t522).bind fun bt527 => (if bt527.2 = 0 then (headgatelaw16_RoleCounts.j3 kj36 t500 t503 t514 t515 bt527.1 ((bt527.1.length : Int) != 8)) else (headgatelaw16_RoleCounts.j3 kj36 t500 t503 t514 t515 bt527.1 true))) = some r := by rw [if_pos rfl] at H; exact H
                              clear H
                              have H := H1
                              clear H1
                              replace H := Option.bind_eq_some_iff.mp H
                              obtain ⟨⟨t527, t528⟩, A440, H⟩ := H
                              replace H : (if t528 = 0 then (headgatelaw16_RoleCounts.j3 kj36 t500 t503 t514 t515 t527 ((t527.length : Int) != 8)) else (headgatelaw16_RoleCounts.j3 kj36 t500 t503 t514 t515 t527 true)) = some r := H
                              have A44 := Aside0.mk A440
                              clear A440
                              have HC45 := Aside0.mk H
                              clear H
                              obtain ⟨Ao46, co46, eo46⟩ := Kd.R_slice HO_17.out
                              subst eo46
                              go_upto_region 25 with (first | ((with_reducible refine gate_callee (f := 32) rfl ?_); refine goesL_ (some 112) rfl rfl Try.func32 (by kernel_rfl) rfl #[.slice Ao46 t522.length co46] rfl (by (try simp only [List.map_toArray, List.map_cons, List.map_nil]); first | done | rfl | (simp only [List.length_drop, List.length_take]; rfl)) ?_; (with_reducible refine (role_Counts.calls kj36 _ _ t522 t527 t528 _ ?side1 ?side2 A44.out).mono ?_); (case side1 => repeat (first | exact (Kd.R_reads' HO_17.out).2.2 | (with_reducible refine Kd.C_alloc ?_ _) | (with_reducible refine Kd.C_drewN ?_ _) | (with_reducible refine Kd.C_drew ?_))); (case side2 => exact (Kd.R_reads' HO_17.out).2.1); rintro e w47 ⟨v529, rfl, ho0, hb⟩; refine ⟨_, rfl, ?_⟩; have n0_ := Aside0.mk (Kd.R_elder' (by (with_reducible repeat (first | apply Kd.R_alloc | apply Kd.R_drewN | apply Kd.R_drew)); exact HO_7.out) (Kd.R_base ho0) hb); have n1_ := Aside0.mk (Kd.R_elder' (by (with_reducible repeat (first | apply Kd.R_alloc | apply Kd.R_drewN | apply Kd.R_drew)); exact HO_8.out) (Kd.R_base ho0) hb); have n2_ := Aside0.mk (Kd.R_elder' (by (with_reducible repeat (first | apply Kd.R_alloc | apply Kd.R_drewN | apply Kd.R_drew)); exact HO_17.out) (Kd.R_base ho0) hb); have n3_ := Aside0.mk (Kd.R_lower (Kd.R_new' (Kd.R_new' (Kd.R_new' ho0 (Kd.R_lt (by (with_reducible repeat (first | apply Kd.R_alloc | apply Kd.R_drewN | apply Kd.R_drew)); exact HO_7.out))) (Kd.R_lt (by (with_reducible repeat (first | apply Kd.R_alloc | apply Kd.R_drewN | apply Kd.R_drew)); exact HO_8.out))) (Kd.R_lt (by (with_reducible repeat (first | apply Kd.R_alloc | apply Kd.R_drewN | apply Kd.R_drew)); exact HO_17.out))) (below_size (by repeat (first | (with_reducible first | exact HB.out | apply below_alloc | apply pw_below_drewN | apply below_drew1) | exact HB.out)))); have n4_ := Aside0.mk (below_step (by repeat (first | (with_reducible first | exact HB.out | apply below_alloc | apply pw_below_drewN | apply below_drew1) | exact HB.out)) hb); clear HO_7; clear HO_8; clear HO_17; clear HB; have HO_7 := n0_; have HO_8 := n1_; have HO_17 := n2_; have HO530 := n3_; have HB := n4_; clear n0_ n1_ n2_ n3_ n4_; (try clear hb); (try clear hb2); (try clear hk); (try clear hi); (try clear ho0)))
                              (try simp only [Act.put, List.setIfInBounds_toArray, List.set_cons_zero, List.set_cons_succ])
                              go_cut [121] (fun v121 wc => ∃ (kq : Nat) (x121_44 : Bool), v121 = .bool x121_44 ∧ Aside0 (headgatelaw16_RoleCounts.j3 kq t500 t503 t514 t515 t527 x121_44 = some r) ∧ Aside0 (kq ≤ kj36) ∧ Aside0 (Kd.R (Kd.int .i64) 3 wc w.heap.size (fun k_ => some k_ ≠ (v505 : Value).ownBlock ∧ some k_ ≠ (v529 : Value).ownBlock) (.slice (some ad516) t500.length co8) t500) ∧ Aside0 (Kd.R (Kd.int .i64) 3 wc w.heap.size (fun k_ => some k_ ≠ ((.slice (some ad516) t500.length co8) : Value).ownBlock ∧ some k_ ≠ (v529 : Value).ownBlock) v505 t503) ∧ Aside0 (Kd.R (Kd.int .i64) 3 wc w.heap.size (fun k_ => some k_ ≠ ((.slice (some ad516) t500.length co8) : Value).ownBlock ∧ some k_ ≠ (v505 : Value).ownBlock) v529 t527) ∧ Aside0 (Below w.heap.size w wc))
                              case first =>
                                have H := HC45.out
                                clear HC45
                                by_cases c48 : t528 = 0
                                · rw [if_pos c48] at H
                                  have c48b0 : (t528 == 0) = true := beq_iff_eq.mpr c48
                                  have c48b1 : (t528 != 0) = false := bne_eq_false_iff_eq.mpr c48
                                  clear c48
                                  (first | rw [c48b0] | (simp only [i64_w, i32_w]; rw [c48b0]) | skip)
                                  have H' := Aside0.mk H
                                  clear H
                                  obtain ⟨Ao49, co49, eo49⟩ := Kd.R_slice HO530.out
                                  subst eo49
                                  go_wp2
                                  go_meet
                                  case rel => exact ⟨_, (((t527.length : Int) != 8)), (by first | rfl | (simp; done) | (simp [*]; done)), H', ⟨by have := HJ5.out; have := HK2.out; have := HJ36.out; first | omega | exact Nat.le_refl _⟩, ⟨by (with_reducible repeat (first | apply Kd.R_alloc | apply Kd.R_drewN | apply Kd.R_drew)); exact Kd.R_mono HO_7.out (fun _ hk => ⟨hk.1.1, hk.2⟩)⟩, ⟨by (with_reducible repeat (first | apply Kd.R_alloc | apply Kd.R_drewN | apply Kd.R_drew)); exact Kd.R_mono HO_8.out (fun _ hk => ⟨hk.1.1, hk.2⟩)⟩, ⟨by (with_reducible repeat (first | apply Kd.R_alloc | apply Kd.R_drewN | apply Kd.R_drew)); exact Kd.R_mono HO530.out (fun _ hk => ⟨hk.1.1.2, hk.1.2⟩)⟩, ⟨by repeat (first | (with_reducible first | exact HB.out | apply below_alloc | apply pw_below_drewN | apply below_drew1) | exact HB.out)⟩⟩
                                · rw [if_neg c48] at H
                                  have c48b0 : (t528 == 0) = false := beq_eq_false_iff_ne.mpr c48
                                  have c48b1 : (t528 != 0) = true := bne_iff_ne.mpr c48
                                  (first | rw [c48b0] | (simp only [i64_w, i32_w]; rw [c48b0]) | skip)
                                  have H' := Aside0.mk H
                                  clear H
                                  go_wp2
                                  go_meet
                                  case rel => exact ⟨_, (true), (by first | rfl | (simp; done) | (simp [*]; done)), H', ⟨by have := HJ5.out; have := HK2.out; have := HJ36.out; first | omega | exact Nat.le_refl _⟩, ⟨by (with_reducible repeat (first | apply Kd.R_alloc | apply Kd.R_drewN | apply Kd.R_drew)); exact Kd.R_mono HO_7.out (fun _ hk => ⟨hk.1.1, hk.2⟩)⟩, ⟨by (with_reducible repeat (first | apply Kd.R_alloc | apply Kd.R_drewN | apply Kd.R_drew)); exact Kd.R_mono HO_8.out (fun _ hk => ⟨hk.1.1, hk.2⟩)⟩, ⟨by (with_reducible repeat (first | apply Kd.R_alloc | apply Kd.R_drewN | apply Kd.R_drew)); exact Kd.R_mono HO530.out (fun _ hk => ⟨hk.1.1.2, hk.1.2⟩)⟩, ⟨by repeat (first | (with_reducible first | exact HB.out | apply below_alloc | apply pw_below_drewN | apply below_drew1) | exact HB.out)⟩⟩
                              case rest =>
                                clear HC45
                                try clear c1
                                try clear c2
                                try clear p2
                                try clear c3
                                try clear c4
                                try clear p5
                                try clear q5
                                try clear hx5
                                try clear p6
                                try clear c10
                                try clear c10b0
                                try clear c10b1
                                try clear c11
                                try clear c12
                                try clear c13
                                try clear c13b0
                                try clear c15
                                try clear c15b0
                                try clear c15b1
                                try clear c16
                                try clear c16b0
                                try clear c17
                                try clear c17b0
                                try clear c18
                                try clear c18b0
                                try clear c18b1
                                try clear c20
                                try clear c22
                                try clear c24
                                try clear c26
                                try clear c26b0
                                try clear c26b1
                                try clear c27
                                try clear c27b0
                                try clear c27b1
                                try clear c27b2
                                try clear c28
                                try clear c30
                                try clear c32
                                try clear c32b0
                                try clear c33
                                try clear c33b0
                                try clear c41
                                try clear c41b0
                                try clear c41b1
                                try clear c42
                                try clear c43
                                try clear c48
                                try clear c48b0
                                try clear c48b1
                                try clear hx511_0
                                try clear hx512_0
                                try clear hx516_0
                                try clear p2
                                try clear p5
                                try clear p511
                                try clear p512
                                try clear p516
                                try clear p6
                                try clear q5
                                try clear q511
                                try clear q512
                                try clear q516
                                obtain ⟨kq, x121_44, rfl, HA, HJ44, HO_7, HO_8, HO_19, HB⟩ := hcut
                                cases kq with
                                | zero => exact absurd HA.out (by simp [headgatelaw16_RoleCounts.j3])
                                | succ kj44 =>
                                  have H := HA.out
                                  clear HA
                                  simp only [headgatelaw16_RoleCounts.j3] at H
                                  by_cases c50 : x121_44 = true
                                  · subst c50
                                    have H1 : (some false) = some r := by rw [if_pos rfl] at H; exact H
                                    clear H
                                    have H := H1
                                    clear H1
                                    obtain rfl := Option.some.inj H
                                    go_wp2
                                    go_ret
                                    exact ⟨by first | rfl | (simp [errW_none, errW_some] <;> rfl) | (simp [*, errW_none, errW_some] <;> rfl), by repeat (first | (with_reducible first | exact HB.out | apply below_alloc | apply pw_below_drewN | apply below_drew1) | exact HB.out)⟩
                                  · replace c50 := Bool.eq_false_iff.mpr c50
                                    subst c50
                                    have H1 : (headgatelaw16_RoleCounts.l1 kj44 t500 t503 t514 t515 t527 0) = some r := by rw [if_neg (show ¬ (false = true) by decide)] at H; exact H
                                    clear H
                                    have H := H1
                                    clear H1
                                    have H' := Aside0.mk H
                                    clear H
                                    go_wp2
                                    go_loopg [20] kj44 (fun kq v20 w' => ∃ (x20_5 : Int), v20 = .int .i64 x20_5 ∧ Aside0 (headgatelaw16_RoleCounts.l1 kq t500 t503 t514 t515 t527 x20_5 = some r) ∧ Aside0 (kq ≤ kj44) ∧ Aside0 (Kd.R (Kd.int .i64) 3 w' w.heap.size (fun k_ => some k_ ≠ (v505 : Value).ownBlock ∧ some k_ ≠ (v529 : Value).ownBlock) (.slice (some ad516) t500.length co8) t500) ∧ Aside0 (Kd.R (Kd.int .i64) 3 w' w.heap.size (fun k_ => some k_ ≠ ((.slice (some ad516) t500.length co8) : Value).ownBlock ∧ some k_ ≠ (v529 : Value).ownBlock) v505 t503) ∧ Aside0 (Kd.R (Kd.int .i64) 3 w' w.heap.size (fun k_ => some k_ ≠ ((.slice (some ad516) t500.length co8) : Value).ownBlock ∧ some k_ ≠ (v505 : Value).ownBlock) v529 t527) ∧ Aside0 (Below w.heap.size w w'))
                                    case atStart => exact ⟨(0), (by first | rfl | (simp; done) | (simp [*]; done)), H', ⟨Nat.le_refl _⟩, ⟨by (with_reducible repeat (first | apply Kd.R_alloc | apply Kd.R_drewN | apply Kd.R_drew)); exact HO_7.out⟩, ⟨by (with_reducible repeat (first | apply Kd.R_alloc | apply Kd.R_drewN | apply Kd.R_drew)); exact HO_8.out⟩, ⟨by (with_reducible repeat (first | apply Kd.R_alloc | apply Kd.R_drewN | apply Kd.R_drew)); exact HO_19.out⟩, ⟨by repeat (first | (with_reducible first | exact HB.out | apply below_alloc | apply pw_below_drewN | apply below_drew1) | exact HB.out)⟩⟩
                                    case round =>
                                      clear H'
                                      try clear c1
                                      try clear c2
                                      try clear p2
                                      try clear c3
                                      try clear c4
                                      try clear c5
                                      try clear p5
                                      try clear q5
                                      try clear hx5
                                      try clear p6
                                      try clear c10
                                      try clear c10b0
                                      try clear c10b1
                                      try clear c11
                                      try clear c12
                                      try clear c13
                                      try clear c13b0
                                      try clear c15
                                      try clear c15b0
                                      try clear c15b1
                                      try clear c16
                                      try clear c16b0
                                      try clear c17
                                      try clear c17b0
                                      try clear c18
                                      try clear c18b0
                                      try clear c18b1
                                      try clear c20
                                      try clear c22
                                      try clear c24
                                      try clear c26
                                      try clear c26b0
                                      try clear c26b1
                                      try clear c27
                                      try clear c27b0
                                      try clear c27b1
                                      try clear c27b2
                                      try clear c28
                                      try clear c30
                                      try clear c32
                                      try clear c32b0
                                      try clear c33
                                      try clear c33b0
                                      try clear c41
                                      try clear c41b0
                                      try clear c41b1
                                      try clear c42
                                      try clear c43
                                      try clear c48
                                      try clear c48b0
                                      try clear c48b1
                                      try clear c50
                                      try clear hx511_0
                                      try clear hx512_0
                                      try clear hx516_0
                                      try clear p2
                                      try clear p5
                                      try clear p511
                                      try clear p512
                                      try clear p516
                                      try clear p6
                                      try clear q5
                                      try clear q511
                                      try clear q512
                                      try clear q516
                                      obtain ⟨x20_5, rfl, HA, HK5, HO_7, HO_8, HO_19, HB⟩ := hrel
                                      cases gk with
                                      | zero => exact absurd HA.out (by simp [headgatelaw16_RoleCounts.l1])
                                      | succ k5 =>
                                        have H := HA.out
                                        clear HA
                                        simp only [headgatelaw16_RoleCounts.l1] at H
                                        by_cases c51 : x20_5 < 8
                                        · rw [if_pos c51] at H
                                          have c51b0 : decide (x20_5 < 8) = true := decide_eq_true c51
                                          clear c51
                                          by_cases c52 : 0 ≤ x20_5
                                          · rw [if_pos c52] at H
                                            have c52b0 : decide (0 ≤ x20_5) = true := decide_eq_true c52
                                            clear c52
                                            by_cases c53 : x20_5 < (t503.length : Int)
                                            · rw [if_pos c53] at H
                                              have c53b0 : decide (x20_5 < (t503.length : Int)) = true := decide_eq_true c53
                                              clear c53
                                              by_cases c54 : 0 ≤ t514
                                              · rw [if_pos c54] at H
                                                have c54b0 : decide (0 ≤ t514) = true := decide_eq_true c54
                                                clear c54
                                                by_cases c55 : t514 < (t500.length : Int)
                                                · rw [if_pos c55] at H
                                                  have c55b0 : decide (t514 < (t500.length : Int)) = true := decide_eq_true c55
                                                  clear c55
                                                  have HC56 := Aside0.mk H
                                                  clear H
                                                  obtain ⟨Ao57, co57, eo57⟩ := Kd.R_slice HO_8.out
                                                  subst eo57
                                                  have p532 : 0 ≤ (x20_5 : Int) := of_decide_eq_true (by first | (with_reducible assumption) | assumption)
                                                  have q532 : x20_5 < (t503.length : Int) := of_decide_eq_true (by first | (with_reducible assumption) | assumption)
                                                  obtain ⟨ad532, e532, hx532_0⟩ := Kd.at_int (Kd.R_reads' HO_8.out).2.2 x20_5 p532 q532
                                                  cases e532
                                                  replace p532 := eq_true p532
                                                  replace q532 := eq_true q532
                                                  have p533 : 0 ≤ (t514 : Int) := of_decide_eq_true (by first | (with_reducible assumption) | assumption)
                                                  have q533 : t514 < (t500.length : Int) := of_decide_eq_true (by first | (with_reducible assumption) | assumption)
                                                  obtain ⟨ad533, e533, hx533_0⟩ := Kd.at_int (Kd.R_reads' HO_7.out).2.2 t514 p533 q533
                                                  obtain rfl : ad516 = ad533 := (by injection e533)
                                                  replace p533 := eq_true p533
                                                  replace q533 := eq_true q533
                                                  go_upto_if 135 with (fail)
                                                  go_cut [21] (fun v21 wc => ∃ (kq : Nat) (x21_55 : Int), v21 = .int .i64 x21_55 ∧ Aside0 (headgatelaw16_RoleCounts.j5 kq t500 t503 t514 t515 t527 x20_5 x21_55 = some r) ∧ Aside0 (kq ≤ k5) ∧ Aside0 (Kd.R (Kd.int .i64) 3 wc w.heap.size (fun k_ => some k_ ≠ ((.slice (some ad532) t503.length co57) : Value).ownBlock ∧ some k_ ≠ (v529 : Value).ownBlock) (.slice (some ad516) t500.length co8) t500) ∧ Aside0 (Kd.R (Kd.int .i64) 3 wc w.heap.size (fun k_ => some k_ ≠ ((.slice (some ad516) t500.length co8) : Value).ownBlock ∧ some k_ ≠ (v529 : Value).ownBlock) (.slice (some ad532) t503.length co57) t503) ∧ Aside0 (Kd.R (Kd.int .i64) 3 wc w.heap.size (fun k_ => some k_ ≠ ((.slice (some ad516) t500.length co8) : Value).ownBlock ∧ some k_ ≠ ((.slice (some ad532) t503.length co57) : Value).ownBlock) v529 t527) ∧ Aside0 (Below w.heap.size w wc))
                                                  case first =>
                                                    have H := HC56.out
                                                    clear HC56
                                                    by_cases c58 : x20_5 = (rd t500 t514)
                                                    · rw [if_pos c58] at H
                                                      have c58b0 : (x20_5 == (rd t500 t514)) = true := beq_iff_eq.mpr c58
                                                      have c58b1 : (x20_5 != (rd t500 t514)) = false := bne_eq_false_iff_eq.mpr c58
                                                      clear c58
                                                      (first | rw [c58b0] | (simp only [i64_w, i32_w]; rw [c58b0]) | skip)
                                                      have H' := Aside0.mk H
                                                      clear H
                                                      go_wp2
                                                      go_meet
                                                      case rel => exact ⟨_, (wrap64 ((rd t503 x20_5) - 1)), (by first | rfl | (simp; done) | (simp [*]; done)), H', ⟨by have := HJ5.out; have := HK2.out; have := HJ36.out; have := HJ44.out; have := HK5.out; first | omega | exact Nat.le_refl _⟩, ⟨by (with_reducible repeat (first | apply Kd.R_alloc | apply Kd.R_drewN | apply Kd.R_drew)); exact HO_7.out⟩, ⟨by (with_reducible repeat (first | apply Kd.R_alloc | apply Kd.R_drewN | apply Kd.R_drew)); exact HO_8.out⟩, ⟨by (with_reducible repeat (first | apply Kd.R_alloc | apply Kd.R_drewN | apply Kd.R_drew)); exact HO_19.out⟩, ⟨by repeat (first | (with_reducible first | exact HB.out | apply below_alloc | apply pw_below_drewN | apply below_drew1) | exact HB.out)⟩⟩
                                                    · rw [if_neg c58] at H
                                                      have c58b0 : (x20_5 == (rd t500 t514)) = false := beq_eq_false_iff_ne.mpr c58
                                                      have c58b1 : (x20_5 != (rd t500 t514)) = true := bne_iff_ne.mpr c58
                                                      (first | rw [c58b0] | (simp only [i64_w, i32_w]; rw [c58b0]) | skip)
                                                      have H' := Aside0.mk H
                                                      clear H
                                                      go_wp2
                                                      go_meet
                                                      case rel => exact ⟨_, (rd t503 x20_5), (by first | rfl | (simp; done) | (simp [*]; done)), H', ⟨by have := HJ5.out; have := HK2.out; have := HJ36.out; have := HJ44.out; have := HK5.out; first | omega | exact Nat.le_refl _⟩, ⟨by (with_reducible repeat (first | apply Kd.R_alloc | apply Kd.R_drewN | apply Kd.R_drew)); exact HO_7.out⟩, ⟨by (with_reducible repeat (first | apply Kd.R_alloc | apply Kd.R_drewN | apply Kd.R_drew)); exact HO_8.out⟩, ⟨by (with_reducible repeat (first | apply Kd.R_alloc | apply Kd.R_drewN | apply Kd.R_drew)); exact HO_19.out⟩, ⟨by repeat (first | (with_reducible first | exact HB.out | apply below_alloc | apply pw_below_drewN | apply below_drew1) | exact HB.out)⟩⟩
                                                  case rest =>
                                                    clear HC56
                                                    try clear c1
                                                    try clear c2
                                                    try clear p2
                                                    try clear c3
                                                    try clear c4
                                                    try clear c5
                                                    try clear p5
                                                    try clear q5
                                                    try clear hx5
                                                    try clear p6
                                                    try clear c10
                                                    try clear c10b0
                                                    try clear c10b1
                                                    try clear c11
                                                    try clear c12
                                                    try clear c13
                                                    try clear c13b0
                                                    try clear c15
                                                    try clear c15b0
                                                    try clear c15b1
                                                    try clear c16
                                                    try clear c16b0
                                                    try clear c17
                                                    try clear c17b0
                                                    try clear c18
                                                    try clear c18b0
                                                    try clear c18b1
                                                    try clear c20
                                                    try clear c22
                                                    try clear c24
                                                    try clear c26
                                                    try clear c26b0
                                                    try clear c26b1
                                                    try clear c27
                                                    try clear c27b0
                                                    try clear c27b1
                                                    try clear c27b2
                                                    try clear c28
                                                    try clear c30
                                                    try clear c32
                                                    try clear c32b0
                                                    try clear c33
                                                    try clear c33b0
                                                    try clear c41
                                                    try clear c41b0
                                                    try clear c41b1
                                                    try clear c42
                                                    try clear c43
                                                    try clear c48
                                                    try clear c48b0
                                                    try clear c48b1
                                                    try clear c50
                                                    try clear c51
                                                    try clear c51b0
                                                    try clear p51
                                                    try clear q51
                                                    try clear hx51
                                                    try clear c52
                                                    try clear c52b0
                                                    try clear c53
                                                    try clear c53b0
                                                    try clear p53
                                                    try clear q53
                                                    try clear hx53
                                                    try clear c54
                                                    try clear c54b0
                                                    try clear c55
                                                    try clear c55b0
                                                    try clear c58
                                                    try clear c58b0
                                                    try clear c58b1
                                                    try clear hx511_0
                                                    try clear hx512_0
                                                    try clear hx516_0
                                                    try clear hx532_0
                                                    try clear hx533_0
                                                    try clear p2
                                                    try clear p5
                                                    try clear p511
                                                    try clear p512
                                                    try clear p516
                                                    try clear p532
                                                    try clear p533
                                                    try clear p6
                                                    try clear q5
                                                    try clear q511
                                                    try clear q512
                                                    try clear q516
                                                    try clear q532
                                                    try clear q533
                                                    obtain ⟨kq, x21_55, rfl, HA, HJ55, HO_7, HO_8, HO_19, HB⟩ := hcut
                                                    cases kq with
                                                    | zero => exact absurd HA.out (by simp [headgatelaw16_RoleCounts.j5])
                                                    | succ kj55 =>
                                                      have H := HA.out
                                                      clear HA
                                                      simp only [headgatelaw16_RoleCounts.j5] at H
                                                      by_cases c59 : x20_5 = t515
                                                      · rw [if_pos c59] at H
                                                        have c59b0 : (x20_5 == t515) = true := beq_iff_eq.mpr c59
                                                        have c59b1 : (x20_5 != t515) = false := bne_eq_false_iff_eq.mpr c59
                                                        clear c59
                                                        by_cases c60 : 0 ≤ x20_5
                                                        · rw [if_pos c60] at H
                                                          have c60b0 : decide (0 ≤ x20_5) = true := decide_eq_true c60
                                                          clear c60
                                                          by_cases c61 : x20_5 < (t527.length : Int)
                                                          · rw [if_pos c61] at H
                                                            have c61b0 : decide (x20_5 < (t527.length : Int)) = true := decide_eq_true c61
                                                            clear c61
                                                            by_cases c62 : (rd t527 x20_5) = (wrap64 (x21_55 + 1))
                                                            · rw [if_pos c62] at H
                                                              have c62b0 : ((rd t527 x20_5) == (wrap64 (x21_55 + 1))) = true := beq_iff_eq.mpr c62
                                                              have c62b1 : ((rd t527 x20_5) != (wrap64 (x21_55 + 1))) = false := bne_eq_false_iff_eq.mpr c62
                                                              clear c62
                                                              have H' := Aside0.mk H
                                                              clear H
                                                              obtain ⟨Ao63, co63, eo63⟩ := Kd.R_slice HO_19.out
                                                              subst eo63
                                                              have p534 : 0 ≤ (x20_5 : Int) := of_decide_eq_true (by first | (with_reducible assumption) | assumption)
                                                              have q534 : x20_5 < (t527.length : Int) := of_decide_eq_true (by first | (with_reducible assumption) | assumption)
                                                              obtain ⟨ad534, e534, hx534_0⟩ := Kd.at_int (Kd.R_reads' HO_19.out).2.2 x20_5 p534 q534
                                                              cases e534
                                                              replace p534 := eq_true p534
                                                              replace q534 := eq_true q534
                                                              go_wp2
                                                              go_roundg kj55
                                                              case measure => have := HJ5.out; have := HK2.out; have := HJ36.out; have := HJ44.out; have := HK5.out; have := HJ55.out; omega
                                                              case rel => exact ⟨(wrap64 (x20_5 + 1)), (by first | rfl | (simp; done) | (simp [*]; done)), H', ⟨by have := HJ5.out; have := HK2.out; have := HJ36.out; have := HJ44.out; have := HK5.out; have := HJ55.out; omega⟩, ⟨by (with_reducible repeat (first | apply Kd.R_alloc | apply Kd.R_drewN | apply Kd.R_drew)); exact HO_7.out⟩, ⟨by (with_reducible repeat (first | apply Kd.R_alloc | apply Kd.R_drewN | apply Kd.R_drew)); exact HO_8.out⟩, ⟨by (with_reducible repeat (first | apply Kd.R_alloc | apply Kd.R_drewN | apply Kd.R_drew)); exact HO_19.out⟩, ⟨by repeat (first | (with_reducible first | exact HB.out | apply below_alloc | apply pw_below_drewN | apply below_drew1) | exact HB.out)⟩⟩
                                                            · rw [if_neg c62] at H
                                                              have c62b0 : ((rd t527 x20_5) == (wrap64 (x21_55 + 1))) = false := beq_eq_false_iff_ne.mpr c62
                                                              have c62b1 : ((rd t527 x20_5) != (wrap64 (x21_55 + 1))) = true := bne_iff_ne.mpr c62
                                                              obtain rfl := Option.some.inj H
                                                              obtain ⟨Ao64, co64, eo64⟩ := Kd.R_slice HO_19.out
                                                              subst eo64
                                                              have p534 : 0 ≤ (x20_5 : Int) := of_decide_eq_true (by first | (with_reducible assumption) | assumption)
                                                              have q534 : x20_5 < (t527.length : Int) := of_decide_eq_true (by first | (with_reducible assumption) | assumption)
                                                              obtain ⟨ad534, e534, hx534_0⟩ := Kd.at_int (Kd.R_reads' HO_19.out).2.2 x20_5 p534 q534
                                                              cases e534
                                                              replace p534 := eq_true p534
                                                              replace q534 := eq_true q534
                                                              go_wp2
                                                              go_ret
                                                              exact ⟨by first | rfl | (simp [errW_none, errW_some] <;> rfl) | (simp [*, errW_none, errW_some] <;> rfl), by repeat (first | (with_reducible first | exact HB.out | apply below_alloc | apply pw_below_drewN | apply below_drew1) | exact HB.out)⟩
                                                          · rw [if_neg c61] at H
                                                            exact absurd H (by simp)
                                                        · rw [if_neg c60] at H
                                                          exact absurd H (by simp)
                                                      · rw [if_neg c59] at H
                                                        have c59b0 : (x20_5 == t515) = false := beq_eq_false_iff_ne.mpr c59
                                                        have c59b1 : (x20_5 != t515) = true := bne_iff_ne.mpr c59
                                                        by_cases c65 : 0 ≤ x20_5
                                                        · rw [if_pos c65] at H
                                                          have c65b0 : decide (0 ≤ x20_5) = true := decide_eq_true c65
                                                          clear c65
                                                          by_cases c66 : x20_5 < (t527.length : Int)
                                                          · rw [if_pos c66] at H
                                                            have c66b0 : decide (x20_5 < (t527.length : Int)) = true := decide_eq_true c66
                                                            clear c66
                                                            by_cases c67 : (rd t527 x20_5) = x21_55
                                                            · rw [if_pos c67] at H
                                                              have c67b0 : ((rd t527 x20_5) == x21_55) = true := beq_iff_eq.mpr c67
                                                              have c67b1 : ((rd t527 x20_5) != x21_55) = false := bne_eq_false_iff_eq.mpr c67
                                                              clear c67
                                                              have H' := Aside0.mk H
                                                              clear H
                                                              obtain ⟨Ao68, co68, eo68⟩ := Kd.R_slice HO_19.out
                                                              subst eo68
                                                              have p535 : 0 ≤ (x20_5 : Int) := of_decide_eq_true (by first | (with_reducible assumption) | assumption)
                                                              have q535 : x20_5 < (t527.length : Int) := of_decide_eq_true (by first | (with_reducible assumption) | assumption)
                                                              obtain ⟨ad535, e535, hx535_0⟩ := Kd.at_int (Kd.R_reads' HO_19.out).2.2 x20_5 p535 q535
                                                              cases e535
                                                              replace p535 := eq_true p535
                                                              replace q535 := eq_true q535
                                                              go_wp2
                                                              go_roundg kj55
                                                              case measure => have := HJ5.out; have := HK2.out; have := HJ36.out; have := HJ44.out; have := HK5.out; have := HJ55.out; omega
                                                              case rel => exact ⟨(wrap64 (x20_5 + 1)), (by first | rfl | (simp; done) | (simp [*]; done)), H', ⟨by have := HJ5.out; have := HK2.out; have := HJ36.out; have := HJ44.out; have := HK5.out; have := HJ55.out; omega⟩, ⟨by (with_reducible repeat (first | apply Kd.R_alloc | apply Kd.R_drewN | apply Kd.R_drew)); exact HO_7.out⟩, ⟨by (with_reducible repeat (first | apply Kd.R_alloc | apply Kd.R_drewN | apply Kd.R_drew)); exact HO_8.out⟩, ⟨by (with_reducible repeat (first | apply Kd.R_alloc | apply Kd.R_drewN | apply Kd.R_drew)); exact HO_19.out⟩, ⟨by repeat (first | (with_reducible first | exact HB.out | apply below_alloc | apply pw_below_drewN | apply below_drew1) | exact HB.out)⟩⟩
                                                            · rw [if_neg c67] at H
                                                              have c67b0 : ((rd t527 x20_5) == x21_55) = false := beq_eq_false_iff_ne.mpr c67
                                                              have c67b1 : ((rd t527 x20_5) != x21_55) = true := bne_iff_ne.mpr c67
                                                              obtain rfl := Option.some.inj H
                                                              obtain ⟨Ao69, co69, eo69⟩ := Kd.R_slice HO_19.out
                                                              subst eo69
                                                              have p535 : 0 ≤ (x20_5 : Int) := of_decide_eq_true (by first | (with_reducible assumption) | assumption)
                                                              have q535 : x20_5 < (t527.length : Int) := of_decide_eq_true (by first | (with_reducible assumption) | assumption)
                                                              obtain ⟨ad535, e535, hx535_0⟩ := Kd.at_int (Kd.R_reads' HO_19.out).2.2 x20_5 p535 q535
                                                              cases e535
                                                              replace p535 := eq_true p535
                                                              replace q535 := eq_true q535
                                                              go_wp2
                                                              go_ret
                                                              exact ⟨by first | rfl | (simp [errW_none, errW_some] <;> rfl) | (simp [*, errW_none, errW_some] <;> rfl), by repeat (first | (with_reducible first | exact HB.out | apply below_alloc | apply pw_below_drewN | apply below_drew1) | exact HB.out)⟩
                                                          · rw [if_neg c66] at H
                                                            exact absurd H (by simp)
                                                        · rw [if_neg c65] at H
                                                          exact absurd H (by simp)
                                                · rw [if_neg c55] at H
                                                  exact absurd H (by simp)
                                              · rw [if_neg c54] at H
                                                exact absurd H (by simp)
                                            · rw [if_neg c53] at H
                                              exact absurd H (by simp)
                                          · rw [if_neg c52] at H
                                            exact absurd H (by simp)
                                        · rw [if_neg c51] at H
                                          have c51b0 : decide (x20_5 < 8) = false := decide_eq_false c51
                                          clear c51
                                          replace H := Option.bind_eq_some_iff.mp H
                                          obtain ⟨t531, A700, H⟩ := H
                                          replace H : (some t531) = some r := H
                                          have A70 := Aside0.mk A700
                                          clear A700
                                          obtain rfl := Option.some.inj H
                                          go_wp2_with (first | ((with_reducible refine gate_callee (f := 17) rfl ?_); refine goesL_ (some 149) rfl rfl Try.func17 (by kernel_rfl) rfl #[] rfl (by (try simp only [List.map_toArray, List.map_cons, List.map_nil]); first | done | rfl | (simp only [List.length_drop, List.length_take]; rfl)) ?_; (with_reducible refine (headgatelaw16_awake.calls k5  t531 _ A70.out).mono ?_); rintro e w71 ⟨rfl, hb⟩; refine ⟨_, rfl, ?_⟩; have n0_ := Aside0.mk (Kd.R_below (by (with_reducible repeat (first | apply Kd.R_alloc | apply Kd.R_drewN | apply Kd.R_drew)); exact HO_7.out) hb); have n1_ := Aside0.mk (Kd.R_below (by (with_reducible repeat (first | apply Kd.R_alloc | apply Kd.R_drewN | apply Kd.R_drew)); exact HO_8.out) hb); have n2_ := Aside0.mk (Kd.R_below (by (with_reducible repeat (first | apply Kd.R_alloc | apply Kd.R_drewN | apply Kd.R_drew)); exact HO_19.out) hb); have n3_ := Aside0.mk (below_step (by repeat (first | (with_reducible first | exact HB.out | apply below_alloc | apply pw_below_drewN | apply below_drew1) | exact HB.out)) hb); clear HO_7; clear HO_8; clear HO_19; clear HB; have HO_7 := n0_; have HO_8 := n1_; have HO_19 := n2_; have HB := n3_; clear n0_ n1_ n2_ n3_; (try clear hb); (try clear hb2); (try clear hk); (try clear hi)))
                                          go_ret
                                          exact ⟨by first | rfl | (simp [errW_none, errW_some] <;> rfl) | (simp [*, errW_none, errW_some] <;> rfl), by repeat (first | (with_reducible first | exact HB.out | apply below_alloc | apply pw_below_drewN | apply below_drew1) | exact HB.out)⟩
                            · replace c43 := Bool.eq_false_iff.mpr c43
                              subst c43
                              have H1 : (if (t522.length : Int) = 0 then ((headgatelaw16_awake.f kj36).bind fun t526 => (some t526)) else (some false)) = some r := by rw [if_neg (show ¬ (false = true) by decide)] at H; exact H
                              clear H
                              have H := H1
                              clear H1
                              by_cases c72 : (t522.length : Int) = 0
                              · rw [if_pos c72] at H
                                have c72b0 : ((t522.length : Int) == 0) = true := beq_iff_eq.mpr c72
                                have c72b1 : ((t522.length : Int) != 0) = false := bne_eq_false_iff_eq.mpr c72
                                clear c72
                                replace H := Option.bind_eq_some_iff.mp H
                                obtain ⟨t526, A730, H⟩ := H
                                replace H : (some t526) = some r := H
                                have A73 := Aside0.mk A730
                                clear A730
                                obtain rfl := Option.some.inj H
                                obtain ⟨Ao74, co74, eo74⟩ := Kd.R_slice HO_17.out
                                subst eo74
                                go_wp2_with (first | (go_at_call 17; (with_reducible refine (headgatelaw16_awake.calls kj36  t526 _ A73.out).mono ?_); rintro e w75 ⟨rfl, hb⟩; have n0_ := Aside0.mk (Kd.R_below (by (with_reducible repeat (first | apply Kd.R_alloc | apply Kd.R_drewN | apply Kd.R_drew)); exact HO_7.out) hb); have n1_ := Aside0.mk (Kd.R_below (by (with_reducible repeat (first | apply Kd.R_alloc | apply Kd.R_drewN | apply Kd.R_drew)); exact HO_8.out) hb); have n2_ := Aside0.mk (Kd.R_below (by (with_reducible repeat (first | apply Kd.R_alloc | apply Kd.R_drewN | apply Kd.R_drew)); exact HO_17.out) hb); have n3_ := Aside0.mk (below_step (by repeat (first | (with_reducible first | exact HB.out | apply below_alloc | apply pw_below_drewN | apply below_drew1) | exact HB.out)) hb); clear HO_7; clear HO_8; clear HO_17; clear HB; have HO_7 := n0_; have HO_8 := n1_; have HO_17 := n2_; have HB := n3_; clear n0_ n1_ n2_ n3_; (try clear hb); (try clear hb2); (try clear hk); (try clear hi)))
                                go_ret
                                exact ⟨by first | rfl | (simp [errW_none, errW_some] <;> rfl) | (simp [*, errW_none, errW_some] <;> rfl), by repeat (first | (with_reducible first | exact HB.out | apply below_alloc | apply pw_below_drewN | apply below_drew1) | exact HB.out)⟩
                              · rw [if_neg c72] at H
                                have c72b0 : ((t522.length : Int) == 0) = false := beq_eq_false_iff_ne.mpr c72
                                have c72b1 : ((t522.length : Int) != 0) = true := bne_iff_ne.mpr c72
                                have c72b2 : ¬ (t522 = []) := fun h_ => c72 (by rw [h_]; rfl)
                                obtain rfl := Option.some.inj H
                                obtain ⟨Ao76, co76, eo76⟩ := Kd.R_slice HO_17.out
                                subst eo76
                                go_wp2
                                go_ret
                                exact ⟨by first | rfl | (simp [errW_none, errW_some] <;> rfl) | (simp [*, errW_none, errW_some] <;> rfl), by repeat (first | (with_reducible first | exact HB.out | apply below_alloc | apply pw_below_drewN | apply below_drew1) | exact HB.out)⟩
                    · rw [if_neg c33] at H
                      exact absurd H (by simp)
                  · rw [if_neg c32] at H
                    exact absurd H (by simp)
              · rw [if_neg c26] at H
                have c26b0 : (x10_2 == (t500.length : Int)) = false := beq_eq_false_iff_ne.mpr c26
                have c26b1 : (x10_2 != (t500.length : Int)) = true := bne_iff_ne.mpr c26
                obtain rfl := Option.some.inj H
                go_wp2
                go_ret
                exact ⟨by first | rfl | (simp [errW_none, errW_some] <;> rfl) | (simp [*, errW_none, errW_some] <;> rfl), by repeat (first | (with_reducible first | exact HB.out | apply below_alloc | apply pw_below_drewN | apply below_drew1) | exact HB.out)⟩

/-- THE ONE PURE STATEMENT of headgatelaw16_RoleCounts: yours. -/
def headgatelaw16_RoleCounts.Pure : Prop := ∀ (l0 : List Int) (a1 : Int) (a2 : Int), l0.length ≤ maxLen → l0.length * 8 ≤ 140737488351232 → (∀ x ∈ l0, (Lit.int .i64 x).wf = true) → (Lit.int .i64 a1).wf = true → (Lit.int .i64 a2).wf = true → ∃ k, headgatelaw16_RoleCounts.f k l0 a1 a2 = some true
theorem headgatelaw16_RoleCounts.walk (P : headgatelaw16_RoleCounts.Pure) (a0 : Option Addr) (len0 cap0 : Nat) (z0 : List Int) (a1 : Int) (a2 : Int) (w : World) (w0 : (a0 = none ∧ len0 = 0 ∧ cap0 = 0 ∧ z0 = []) ∨ ∃ x, a0 = some x ∧ len0 ≤ cap0 ∧ cap0 ≤ maxLen ∧ z0.length = cap0 ∧ (∀ i, i < z0.length → w.cell? (x.add i) = some (.int .i64 (z0.getD i 0))) ∧ ∀ n ∈ z0, (Lit.int .i64 n).wf = true) (y0 : len0 * 8 ≤ 140737488351232) (w1 : (Lit.int .i64 a1).wf = true) (w2 : (Lit.int .i64 a2).wf = true) :
    Calls Try.prog 11 #[.slice a0 len0 cap0, .int .i64 a1, .int .i64 a2] w fun e w' => e = .returned (.bool true) ∧ Below w.heap.size w w' := by
  obtain ⟨l0, rfl, hr0, hm0, hw0, hc0⟩ := ReadsInt.ofRowC w0
  obtain ⟨k, h⟩ := P l0 a1 a2 hm0 y0 hw0 w1 w2
  refine (headgatelaw16_RoleCounts.calls k _ _ l0 a1 a2 true w (Kd.C_of_reads (d := (0 : Int)) (h1 := fun _ => rfl) hr0) hc0 h).mono ?_
  rintro e w' ⟨rfl, hd⟩
  exact ⟨rfl, hd⟩

end Go.Proofs.Ytmemdggofphcnaa.X
