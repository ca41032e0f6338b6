/- RoleSwaps: of this Go function: what it computes, and that the machine's call comes to it. Laid by a program of this session. -/
import Derived.Test.YtmemdggofphcnaaXx0
import Derived.Test.YtmemdggofphcnaaXx4
import Derived.Test.YtmemdggofphcnaaXx5
import Derived.Test.YtmemdggofphcnaaXx6
namespace Go.Proofs.Ytmemdggofphcnaa.X
open Go.RowKit Go.Proofs.YtmemdggofphcnaaW.PrintWords Go.Proofs.YtmemdggofphcnaaW.PrintLast Go.Proofs.YtmemdggofphcnaaW.PrintMore
attribute [local go_sem] max2_int min2_int max_two min_two max_three min_three max_four min_four   -- for this text's walks alone
set_option linter.unusedVariables false
set_option linter.unusedSimpArgs false

/-! ### headgatelaw16_RoleSwaps: function 6 -/
def headgatelaw16_RoleSwaps.f (k : Nat) (l0 : List Int) (a1 : Int) (a2 : Int) : Option (Bool) := (headgatelaw16_made.f k l0).bind fun t228 => (if (t228.length : Int) < 2 then ((headgatelaw16_awake.f k).bind fun t231 => (some t231)) else ((headgatekit_Mod.f a1 (t228.length : Int)).bind fun t232 => ((headgatekit_Mod.f a2 (wrap64 ((t228.length : Int) - 1))).bind fun t233 => (if (t228.length : Int) = 0 then (none) else ((headgatekit_Mod.f (wrap64 (Int.tdiv a1 64)) 8).bind fun t234 => ((headgatekit_Mod.f (wrap64 (Int.tdiv a2 64)) 8).bind fun t235 => ((headgatekit_OwnInts.f t228).bind fun t238 => ((role_Run.f k t238 (([(⟨t232, t234⟩ : S42), (⟨Int.tmod (wrap64 ((wrap64 (t232 + 1)) + t233)) (t228.length : Int), t235⟩ : S42)] : List (S42)))).bind fun bt244 => ((headgatekit_OwnInts.f t228).bind fun t249 => ((role_Run.f k t249 (([(⟨Int.tmod (wrap64 ((wrap64 (t232 + 1)) + t233)) (t228.length : Int), t235⟩ : S42), (⟨t232, t234⟩ : S42)] : List (S42)))).bind fun bt255 => (if bt244.2.1 = bt255.2.1 then ((headgatekit_SameInts.f k bt244.1 bt255.1).bind fun t260 => (if t260 = true then ((headgatelaw16_awake.f k).bind fun t261 => (some t261)) else (some false))) else (some false))))))))))))
theorem headgatelaw16_RoleSwaps.mono : ∀ a0 a1 a2 k, LeO (headgatelaw16_RoleSwaps.f k a0 a1 a2) (headgatelaw16_RoleSwaps.f (k + 1) a0 a1 a2) := by
  intro a0 a1 a2 k
  unfold headgatelaw16_RoleSwaps.f
  repeat' first
      | (with_reducible exact headgatekit_SameInts.mono _ _ _)
      | (with_reducible exact headgatelaw16_awake.mono _)
      | (with_reducible exact headgatelaw16_made.mono _ _)
      | (with_reducible exact role_Run.mono _ _ _)
      | (with_reducible exact LeO.refl _)
      | (with_reducible exact LeO.none _)
      | (with_reducible refine LeO.ite ?_ ?_)
      | (with_reducible refine LeO.bind ?_ (fun _ => ?_))
      | exact headgatekit_SameInts.mono _ _ _
      | exact headgatelaw16_awake.mono _
      | exact headgatelaw16_made.mono _ _
      | exact role_Run.mono _ _ _
      | exact LeO.none _
      | refine LeO.ite ?_ ?_
      | refine LeO.bind ?_ (fun _ => ?_)
def headgatelaw16_RoleSwaps.T7 : Bool × List (List Nat × List Nat) := (true, [([], []), ([0], [0]), ([], []), ([], []), ([2, 3], [2, 3]), ([1, 4, 1], [1, 4]), ([5], [5]), ([6], [6]), ([6], [6]), ([6], [6]), ([7, 5, 0, 1, 2, 3, 4, 5, 6, 7], [7]), ([8, 10, 0, 1, 2, 3, 4, 5, 6, 7, 8, 10], [8]), ([9, 11, 0, 1, 2, 3, 4, 5, 6, 7, 8, 9, 10, 11], [9])])
def headgatelaw16_RoleSwaps.B7 : List Nat := [0, 1, 0, 0, 12, 31, 63, 127, 127, 127, 255, 1535, 4095]
theorem headgatelaw16_RoleSwaps.tab7 : rtab .any (opsOf Try.f6 7) = headgatelaw16_RoleSwaps.T7 := by kernel_rfl
theorem headgatelaw16_RoleSwaps.bits7 : waitsOk headgatelaw16_RoleSwaps.T7.2 headgatelaw16_RoleSwaps.B7 = true := by kernel_rfl
def headgatelaw16_RoleSwaps.T8 : Bool × List (List Nat × List Nat) := (true, [([], []), ([0], [0]), ([], []), ([], []), ([2, 3], [2, 3]), ([1, 4, 1], [1, 4]), ([5], [5]), ([6], [6]), ([6], [6]), ([6], [6]), ([7, 5, 0, 1, 2, 3, 4, 5, 6, 7], [7]), ([8, 10, 0, 1, 2, 3, 4, 5, 6, 7, 8, 10], [8]), ([9, 11, 0, 1, 2, 3, 4, 5, 6, 7, 8, 9, 10, 11], [9])])
def headgatelaw16_RoleSwaps.B8 : List Nat := [0, 1, 0, 0, 12, 31, 63, 127, 127, 127, 255, 1535, 4095]
theorem headgatelaw16_RoleSwaps.tab8 : rtab .any (opsOf Try.f6 8) = headgatelaw16_RoleSwaps.T8 := by kernel_rfl
theorem headgatelaw16_RoleSwaps.bits8 : waitsOk headgatelaw16_RoleSwaps.T8.2 headgatelaw16_RoleSwaps.B8 = true := by kernel_rfl
set_option maxHeartbeats 8000000 in
set_option maxRecDepth 100000 in
theorem headgatelaw16_RoleSwaps.calls (k : Nat) (A0 : Option Addr) (c0 : Nat) (l0 : List Int) (a1 : Int) (a2 : Int) (w : World) (hr0 : Kd.C (Kd.int .i64) w A0 l0.length l0) (hc0 : l0.length ≤ c0) (h : headgatelaw16_RoleSwaps.f k l0 a1 a2 = some true) :
    Calls Try.prog 6 #[.slice A0 l0.length c0, .int .i64 a1, .int .i64 a2] w fun e w' => e = .returned (.bool true) ∧ Below w.heap.size w w' := by
  have hu42 := Try.underlying42
  have HR0 := Aside0.mk hr0
  have HC0 := Aside0.mk hc0
  clear hr0 hc0
  have HB := Aside0.mk (Below.refl w.heap.size w)
  have H : ((headgatelaw16_made.f k l0).bind fun t228 => (if (t228.length : Int) < 2 then ((headgatelaw16_awake.f k).bind fun t231 => (some t231)) else ((headgatekit_Mod.f a1 (t228.length : Int)).bind fun t232 => ((headgatekit_Mod.f a2 (wrap64 ((t228.length : Int) - 1))).bind fun t233 => (if (t228.length : Int) = 0 then (none) else ((headgatekit_Mod.f (wrap64 (Int.tdiv a1 64)) 8).bind fun t234 => ((headgatekit_Mod.f (wrap64 (Int.tdiv a2 64)) 8).bind fun t235 => ((headgatekit_OwnInts.f t228).bind fun t238 => ((role_Run.f k t238 (([(⟨t232, t234⟩ : S42), (⟨Int.tmod (wrap64 ((wrap64 (t232 + 1)) + t233)) (t228.length : Int), t235⟩ : S42)] : List (S42)))).bind fun bt244 => ((headgatekit_OwnInts.f t228).bind fun t249 => ((role_Run.f k t249 (([(⟨Int.tmod (wrap64 ((wrap64 (t232 + 1)) + t233)) (t228.length : Int), t235⟩ : S42), (⟨t232, t234⟩ : S42)] : List (S42)))).bind fun bt255 => (if bt244.2.1 = bt255.2.1 then ((headgatekit_SameInts.f k bt244.1 bt255.1).bind fun t260 => (if t260 = true then ((headgatelaw16_awake.f k).bind fun t261 => (some t261)) else (some false))) else (some false))))))))))))) = some true := h
  clear h
  replace H := Option.bind_eq_some_iff.mp H
  obtain ⟨t228, A40, H⟩ := H
  replace H : (if (t228.length : Int) < 2 then ((headgatelaw16_awake.f k).bind fun t231 => (some t231)) else ((headgatekit_Mod.f a1 (t228.length : Int)).bind fun t232 => ((headgatekit_Mod.f a2 (wrap64 ((t228.length : Int) - 1))).bind fun t233 => (if (t228.length : Int) = 0 then (none) else ((headgatekit_Mod.f (wrap64 (Int.tdiv a1 64)) 8).bind fun t234 => ((headgatekit_Mod.f (wrap64 (Int.tdiv a2 64)) 8).bind fun t235 => ((headgatekit_OwnInts.f t228).bind fun t238 => ((role_Run.f k t238 (([(⟨t232, t234⟩ : S42), (⟨Int.tmod (wrap64 ((wrap64 (t232 + 1)) + t233)) (t228.length : Int), t235⟩ : S42)] : List (S42)))).bind fun bt244 => ((headgatekit_OwnInts.f t228).bind fun t249 => ((role_Run.f k t249 (([(⟨Int.tmod (wrap64 ((wrap64 (t232 + 1)) + t233)) (t228.length : Int), t235⟩ : S42), (⟨t232, t234⟩ : S42)] : List (S42)))).bind fun bt255 => (if bt244.2.1 = bt255.2.1 then ((headgatekit_SameInts.f k bt244.1 bt255.1).bind fun t260 => (if t260 = true then ((headgatelaw16_awake.f k).bind fun t261 => (some t261)) else (some false))) else (some false)))))))))))) = some true := H
  have A4 := Aside0.mk A40
  clear A40
  by_cases c5 : (t228.length : Int) < 2
  · rw [if_pos c5] at H
    have c5b0 : decide ((t228.length : Int) < 2) = true := decide_eq_true c5
    have c5b1 : decide (t228.length < 2) = true := decide_eq_true (by omega)
    clear c5
    replace H := Option.bind_eq_some_iff.mp H
    obtain ⟨t231, A60, H⟩ := H
    replace H : (some t231) = some true := H
    have A6 := Aside0.mk A60
    clear A60
    have hlast := Aside0.mk (Option.some.inj H)
    clear H
    go_enter Try.func6, Try.ntmps6
    go_wp2_with (first | ((with_reducible refine gate_callee (f := 20) rfl ?_); refine goesL_ (some 19) rfl rfl Try.func20 (by kernel_rfl) rfl #[.slice A0 l0.length c0] rfl (by (try simp only [List.map_toArray, List.map_cons, List.map_nil]); first | done | rfl | (simp only [List.length_drop, List.length_take]; rfl)) ?_; (with_reducible refine (headgatelaw16_made.calls k _ _ l0 t228 _ ?side1 ?side2 A4.out).mono ?_); (case side1 => repeat (first | exact HR0.out | (with_reducible refine Kd.C_alloc ?_ _) | (with_reducible refine Kd.C_drewN ?_ _) | (with_reducible refine Kd.C_drew ?_))); (case side2 => exact HC0.out); rintro e w7 ⟨v229, rfl, ho0, hb⟩; refine ⟨_, rfl, ?_⟩; have n0_ := Aside0.mk (Kd.R_lower ho0 (below_size (by repeat (first | (with_reducible first | exact HB.out | apply below_alloc | apply pw_below_drewN | apply below_drew1) | exact HB.out)))); have n1_ := Aside0.mk (below_step (by repeat (first | (with_reducible first | exact HB.out | apply below_alloc | apply pw_below_drewN | apply below_drew1) | exact HB.out)) hb); clear HB; have HO230 := n0_; have HB := n1_; clear n0_ n1_; (try clear hb); (try clear hb2); (try clear hk); (try clear hi); (try clear ho0); obtain ⟨Ao8, co8, eo8⟩ := Kd.R_slice HO230.out; subst eo8) | ((with_reducible refine gate_callee (f := 17) rfl ?_); refine goesL_ (some 23) rfl rfl Try.func17 (by kernel_rfl) rfl #[] rfl (by (try simp only [List.map_toArray, List.map_cons, List.map_nil]); first | done | rfl | (simp only [List.length_drop, List.length_take]; rfl)) ?_; (with_reducible refine (headgatelaw16_awake.calls k  t231 _ A6.out).mono ?_); rintro e w9 ⟨rfl, hb⟩; refine ⟨_, rfl, ?_⟩; have n0_ := Aside0.mk (Kd.R_below (by (with_reducible repeat (first | apply Kd.R_alloc | apply Kd.R_drewN | apply Kd.R_drew)); exact HO230.out) hb); have n1_ := Aside0.mk (below_step (by repeat (first | (with_reducible first | exact HB.out | apply below_alloc | apply pw_below_drewN | apply below_drew1) | exact HB.out)) hb); clear HO230; clear HB; have HO230 := n0_; have HB := n1_; clear n0_ n1_; (try clear hb); (try clear hb2); (try clear hk); (try clear hi)))
    go_ret
    obtain rfl := hlast.out
    exact ⟨by first | rfl | (simp [errW_none, errW_some] <;> rfl) | (simp [*, errW_none, errW_some] <;> rfl), by repeat (first | (with_reducible first | exact HB.out | apply below_alloc | apply pw_below_drewN | apply below_drew1) | exact HB.out)⟩
  · rw [if_neg c5] at H
    have c5b0 : decide ((t228.length : Int) < 2) = false := decide_eq_false c5
    have c5b1 : decide (t228.length < 2) = false := decide_eq_false (by omega)
    clear c5
    replace H := Option.bind_eq_some_iff.mp H
    obtain ⟨t232, A100, H⟩ := H
    replace H : ((headgatekit_Mod.f a2 (wrap64 ((t228.length : Int) - 1))).bind fun t233 => (if (t228.length : Int) = 0 then (none) else ((headgatekit_Mod.f (wrap64 (Int.tdiv a1 64)) 8).bind fun t234 => ((headgatekit_Mod.f (wrap64 (Int.tdiv a2 64)) 8).bind fun t235 => ((headgatekit_OwnInts.f t228).bind fun t238 => ((role_Run.f k t238 (([(⟨t232, t234⟩ : S42), (⟨Int.tmod (wrap64 ((wrap64 (t232 + 1)) + t233)) (t228.length : Int), t235⟩ : S42)] : List (S42)))).bind fun bt244 => ((headgatekit_OwnInts.f t228).bind fun t249 => ((role_Run.f k t249 (([(⟨Int.tmod (wrap64 ((wrap64 (t232 + 1)) + t233)) (t228.length : Int), t235⟩ : S42), (⟨t232, t234⟩ : S42)] : List (S42)))).bind fun bt255 => (if bt244.2.1 = bt255.2.1 then ((headgatekit_SameInts.f k bt244.1 bt255.1).bind fun t260 => (if t260 = true then ((headgatelaw16_awake.f k).bind fun t261 => (some t261)) else (some false))) else (some false)))))))))) = some true := H
    have A10 := Aside0.mk A100
    clear A100
    replace H := Option.bind_eq_some_iff.mp H
    obtain ⟨t233, A110, H⟩ := H
    replace H : (if (t228.length : Int) = 0 then (none) else ((headgatekit_Mod.f (wrap64 (Int.tdiv a1 64)) 8).bind fun t234 => ((headgatekit_Mod.f (wrap64 (Int.tdiv a2 64)) 8).bind fun t235 => ((headgatekit_OwnInts.f t228).bind fun t238 => ((role_Run.f k t238 (([(⟨t232, t234⟩ : S42), (⟨Int.tmod (wrap64 ((wrap64 (t232 + 1)) + t233)) (t228.length : Int), t235⟩ : S42)] : List (S42)))).bind fun bt244 => ((headgatekit_OwnInts.f t228).bind fun t249 => ((role_Run.f k t249 (([(⟨Int.tmod (wrap64 ((wrap64 (t232 + 1)) + t233)) (t228.length : Int), t235⟩ : S42), (⟨t232, t234⟩ : S42)] : List (S42)))).bind fun bt255 => (if bt244.2.1 = bt255.2.1 then ((headgatekit_SameInts.f k bt244.1 bt255.1).bind fun t260 => (if t260 = true then ((headgatelaw16_awake.f k).bind fun t261 => (some t261)) else (some false))) else (some false))))))))) = some true := H
    have A11 := Aside0.mk A110
    clear A110
    by_cases c12 : (t228.length : Int) = 0
    · rw [if_pos c12] at H
      exact absurd H (by simp)
    · rw [if_neg c12] at H
      have c12b0 : ((t228.length : Int) == 0) = false := beq_eq_false_iff_ne.mpr c12
      have c12b1 : ((t228.length : Int) != 0) = true := bne_iff_ne.mpr c12
      have c12b2 : ¬ (t228 = []) := fun h_ => c12 (by rw [h_]; rfl)
      replace H := Option.bind_eq_some_iff.mp H
      obtain ⟨t234, A130, H⟩ := H
      replace H : ((headgatekit_Mod.f (wrap64 (Int.tdiv a2 64)) 8).bind fun t235 => ((headgatekit_OwnInts.f t228).bind fun t238 => ((role_Run.f k t238 (([(⟨t232, t234⟩ : S42), (⟨Int.tmod (wrap64 ((wrap64 (t232 + 1)) + t233)) (t228.length : Int), t235⟩ : S42)] : List (S42)))).bind fun bt244 => ((headgatekit_OwnInts.f t228).bind fun t249 => ((role_Run.f k t249 (([(⟨Int.tmod (wrap64 ((wrap64 (t232 + 1)) + t233)) (t228.length : Int), t235⟩ : S42), (⟨t232, t234⟩ : S42)] : List (S42)))).bind fun bt255 => (if bt244.2.1 = bt255.2.1 then ((headgatekit_SameInts.f k bt244.1 bt255.1).bind fun t260 => (if t260 = true then ((headgatelaw16_awake.f k).bind fun t261 => (some t261)) else (some false))) else (some false))))))) = some true := H
      have A13 := Aside0.mk A130
      clear A130
      replace H := Option.bind_eq_some_iff.mp H
      obtain ⟨t235, A140, H⟩ := H
      replace H : ((headgatekit_OwnInts.f t228).bind fun t238 => ((role_Run.f k t238 (([(⟨t232, t234⟩ : S42), (⟨Int.tmod (wrap64 ((wrap64 (t232 + 1)) + t233)) (t228.length : Int), t235⟩ : S42)] : List (S42)))).bind fun bt244 => ((headgatekit_OwnInts.f t228).bind fun t249 => ((role_Run.f k t249 (([(⟨Int.tmod (wrap64 ((wrap64 (t232 + 1)) + t233)) (t228.length : Int), t235⟩ : S42), (⟨t232, t234⟩ : S42)] : List (S42)))).bind fun bt255 => (if bt244.2.1 = bt255.2.1 then ((headgatekit_SameInts.f k bt244.1 bt255.1).bind fun t260 => (if t260 = true then ((headgatelaw16_awake.f k).bind fun t261 => (some t261)) else (some false))) else (some false)))))) = some true := H
      have A14 := Aside0.mk A140
      clear A140
      replace H := Option.bind_eq_some_iff.mp H
      obtain ⟨t238, A150, H⟩ := H
      replace H : ((role_Run.f k t238 (([(⟨t232, t234⟩ : S42), (⟨Int.tmod (wrap64 ((wrap64 (t232 + 1)) + t233)) (t228.length : Int), t235⟩ : S42)] : List (S42)))).bind fun bt244 => ((headgatekit_OwnInts.f t228).bind fun t249 => ((role_Run.f k t249 (([(⟨Int.tmod (wrap64 ((wrap64 (t232 + 1)) + t233)) (t228.length : Int), t235⟩ : S42), (⟨t232, t234⟩ : S42)] : List (S42)))).bind fun bt255 => (if bt244.2.1 = bt255.2.1 then ((headgatekit_SameInts.f k bt244.1 bt255.1).bind fun t260 => (if t260 = true then ((headgatelaw16_awake.f k).bind fun t261 => (some t261)) else (some false))) else (some false))))) = some true := H
      have A15 := Aside0.mk A150
      clear A150
      obtain ⟨y241, hy241⟩ : ∃ y_ : List (S42), y_ = (([(⟨t232, t234⟩ : S42), (⟨Int.tmod (wrap64 ((wrap64 (t232 + 1)) + t233)) (t228.length : Int), t235⟩ : S42)] : List (S42))) := ⟨_, rfl⟩
      replace H : ((role_Run.f k t238 y241).bind fun bt244 => ((headgatekit_OwnInts.f t228).bind fun t249 => ((role_Run.f k t249 (([(⟨Int.tmod (wrap64 ((wrap64 (t232 + 1)) + t233)) (t228.length : Int), t235⟩ : S42), (⟨t232, t234⟩ : S42)] : List (S42)))).bind fun bt255 => (if bt244.2.1 = bt255.2.1 then ((headgatekit_SameInts.f k bt244.1 bt255.1).bind fun t260 => (if t260 = true then ((headgatelaw16_awake.f k).bind fun t261 => (some t261)) else (some false))) else (some false))))) = some true := by first | (rw [hy241]; with_reducible exact H) | (have H2_ := (Option.bind_some _ _).symm.trans H; rw [hy241]; with_reducible exact H2_) | (have H2_ := (Option.bind_some _ _).symm.trans H; with_reducible exact H2_) | with_reducible exact H | (rw [hy241]; exact H) | exact H
      have Ny241 := Aside0.mk hy241
      clear hy241
      replace H := Option.bind_eq_some_iff.mp H
      obtain ⟨⟨t244, t245, t246⟩, A160, H⟩ := H
      replace H : ((headgatekit_OwnInts.f t228).bind fun t249 => ((role_Run.f k t249 (([(⟨Int.tmod (wrap64 ((wrap64 (t232 + 1)) + t233)) (t228.length : Int), t235⟩ : S42), (⟨t232, t234⟩ : S42)] : List (S42)))).bind fun bt255 => (if t245 = bt255.2.1 then ((headgatekit_SameInts.f k t244 bt255.1).bind fun t260 => (if t260 = true then ((headgatelaw16_awake.f k).bind fun t261 => (some t261)) else (some false))) else (some false)))) = some true := H
      have A16 := Aside0.mk A160
      clear A160
      replace H := Option.bind_eq_some_iff.mp H
      obtain ⟨t249, A170, H⟩ := H
      replace H : ((role_Run.f k t249 (([(⟨Int.tmod (wrap64 ((wrap64 (t232 + 1)) + t233)) (t228.length : Int), t235⟩ : S42), (⟨t232, t234⟩ : S42)] : List (S42)))).bind fun bt255 => (if t245 = bt255.2.1 then ((headgatekit_SameInts.f k t244 bt255.1).bind fun t260 => (if t260 = true then ((headgatelaw16_awake.f k).bind fun t261 => (some t261)) else (some false))) else (some false))) = some true := H
      have A17 := Aside0.mk A170
      clear A170
      obtain ⟨y252, hy252⟩ : ∃ y_ : List (S42), y_ = (([(⟨Int.tmod (wrap64 ((wrap64 (t232 + 1)) + t233)) (t228.length : Int), t235⟩ : S42), (⟨t232, t234⟩ : S42)] : List (S42))) := ⟨_, rfl⟩
      replace H : ((role_Run.f k t249 y252).bind fun bt255 => (if t245 = bt255.2.1 then ((headgatekit_SameInts.f k t244 bt255.1).bind fun t260 => (if t260 = true then ((headgatelaw16_awake.f k).bind fun t261 => (some t261)) else (some false))) else (some false))) = some true := by first | (rw [hy252]; with_reducible exact H) | (have H2_ := (Option.bind_some _ _).symm.trans H; rw [hy252]; with_reducible exact H2_) | (have H2_ := (Option.bind_some _ _).symm.trans H; with_reducible exact H2_) | with_reducible exact H | (rw [hy252]; exact H) | exact H
      have Ny252 := Aside0.mk hy252
      clear hy252
      replace H := Option.bind_eq_some_iff.mp H
      obtain ⟨⟨t255, t256, t257⟩, A180, H⟩ := H
      replace H : (if t245 = t256 then ((headgatekit_SameInts.f k t244 t255).bind fun t260 => (if t260 = true then ((headgatelaw16_awake.f k).bind fun t261 => (some t261)) else (some false))) else (some false)) = some true := H
      have A18 := Aside0.mk A180
      clear A180
      by_cases c19 : t245 = t256
      · rw [if_pos c19] at H
        have c19b0 : (t245 == t256) = true := beq_iff_eq.mpr c19
        have c19b1 : (t245 != t256) = false := bne_eq_false_iff_eq.mpr c19
        clear c19
        replace H := Option.bind_eq_some_iff.mp H
        obtain ⟨t260, A200, H⟩ := H
        replace H : (if t260 = true then ((headgatelaw16_awake.f k).bind fun t261 => (some t261)) else (some false)) = some true := H
        have A20 := Aside0.mk A200
        clear A200
        by_cases c21 : t260 = true
        · subst c21
          have H1 : ((headgatelaw16_awake.f k).bind fun t261 => (some t261)) = some true := by rw [if_pos rfl] at H; exact H
          clear H
          have H := H1
          clear H1
          replace H := Option.bind_eq_some_iff.mp H
          obtain ⟨t261, A220, H⟩ := H
          replace H : (some t261) = some true := H
          have A22 := Aside0.mk A220
          clear A220
          have hlast := Aside0.mk (Option.some.inj H)
          clear H
          go_enter Try.func6, Try.ntmps6
          try go_wp2_with (first | ((with_reducible refine gate_callee (f := 20) rfl ?_); refine goesL_ (some 19) rfl rfl Try.func20 (by kernel_rfl) rfl #[.slice A0 l0.length c0] rfl (by (try simp only [List.map_toArray, List.map_cons, List.map_nil]); first | done | rfl | (simp only [List.length_drop, List.length_take]; rfl)) ?_; (with_reducible refine (headgatelaw16_made.calls k _ _ l0 t228 _ ?side1 ?side2 A4.out).mono ?_); (case side1 => repeat (first | exact HR0.out | (with_reducible refine Kd.C_alloc ?_ _) | (with_reducible refine Kd.C_drewN ?_ _) | (with_reducible refine Kd.C_drew ?_))); (case side2 => exact HC0.out); rintro e w23 ⟨v229, rfl, ho0, hb⟩; refine ⟨_, rfl, ?_⟩; have n0_ := Aside0.mk (Kd.R_lower ho0 (below_size (by repeat (first | (with_reducible first | exact HB.out | apply below_alloc | apply pw_below_drewN | apply below_drew1) | exact HB.out)))); have n1_ := Aside0.mk (below_step (by repeat (first | (with_reducible first | exact HB.out | apply below_alloc | apply pw_below_drewN | apply below_drew1) | exact HB.out)) hb); clear HB; have HO230 := n0_; have HB := n1_; clear n0_ n1_; (try clear hb); (try clear hb2); (try clear hk); (try clear hi); (try clear ho0); obtain ⟨Ao24, co24, eo24⟩ := Kd.R_slice HO230.out; subst eo24) | ((with_reducible refine gate_callee (f := 22) rfl ?_); refine goesL_ (some 27) rfl rfl Try.func22 (by kernel_rfl) rfl #[.int .i64 a1, .int .i64 (t228.length : Int)] rfl (by (try simp only [List.map_toArray, List.map_cons, List.map_nil]); first | done | rfl | (simp only [List.length_drop, List.length_take]; rfl)) ?_; (with_reducible refine (headgatekit_Mod.calls a1 (t228.length : Int) t232 _ A10.out).mono ?_); rintro e w' ⟨rfl, ⟨nd, rfl⟩⟩; refine ⟨_, rfl, ?_⟩; (try (rw [drewN_self w23]; generalize hq_ : World.drewN w23 _ = w23; have n0_ : Aside0 (Kd.R (Kd.int .i64) 3 w23 w.heap.size (fun _ => True) (.slice Ao24 t228.length co24) t228) := ⟨by rw [← hq_]; exact (by (with_reducible repeat (first | apply Kd.R_alloc | apply Kd.R_drewN | apply Kd.R_drew)); exact HO230.out)⟩; have n1_ : Aside0 (Below w.heap.size w w23) := ⟨by rw [← hq_]; exact (by repeat (first | (with_reducible first | exact HB.out | apply below_alloc | apply pw_below_drewN | apply below_drew1) | exact HB.out))⟩; clear HO230 HB hq_; have HO230 := n0_; have HB := n1_; clear n0_ n1_))) | ((with_reducible refine gate_callee (f := 22) rfl ?_); refine goesL_ (some 34) rfl rfl Try.func22 (by kernel_rfl) rfl #[.int .i64 a2, .int .i64 (wrap64 ((t228.length : Int) - 1))] rfl (by (try simp only [List.map_toArray, List.map_cons, List.map_nil]); first | done | rfl | (simp only [List.length_drop, List.length_take]; rfl)) ?_; (with_reducible refine (headgatekit_Mod.calls a2 (wrap64 ((t228.length : Int) - 1)) t233 _ A11.out).mono ?_); rintro e w' ⟨rfl, ⟨nd, rfl⟩⟩; refine ⟨_, rfl, ?_⟩; (try (rw [drewN_self w23]; generalize hq_ : World.drewN w23 _ = w23; have n0_ : Aside0 (Kd.R (Kd.int .i64) 3 w23 w.heap.size (fun _ => True) (.slice Ao24 t228.length co24) t228) := ⟨by rw [← hq_]; exact (by (with_reducible repeat (first | apply Kd.R_alloc | apply Kd.R_drewN | apply Kd.R_drew)); exact HO230.out)⟩; have n1_ : Aside0 (Below w.heap.size w w23) := ⟨by rw [← hq_]; exact (by repeat (first | (with_reducible first | exact HB.out | apply below_alloc | apply pw_below_drewN | apply below_drew1) | exact HB.out))⟩; clear HO230 HB hq_; have HO230 := n0_; have HB := n1_; clear n0_ n1_))) | ((with_reducible refine gate_callee (f := 22) rfl ?_); refine goesL_ (some 42) rfl rfl Try.func22 (by kernel_rfl) rfl #[.int .i64 (wrap64 (Int.tdiv a1 64)), .int .i64 8] rfl (by (try simp only [List.map_toArray, List.map_cons, List.map_nil]); first | done | rfl | (simp only [List.length_drop, List.length_take]; rfl)) ?_; (with_reducible refine (headgatekit_Mod.calls (wrap64 (Int.tdiv a1 64)) 8 t234 _ A13.out).mono ?_); rintro e w' ⟨rfl, ⟨nd, rfl⟩⟩; refine ⟨_, rfl, ?_⟩; (try (rw [drewN_self w23]; generalize hq_ : World.drewN w23 _ = w23; have n0_ : Aside0 (Kd.R (Kd.int .i64) 3 w23 w.heap.size (fun _ => True) (.slice Ao24 t228.length co24) t228) := ⟨by rw [← hq_]; exact (by (with_reducible repeat (first | apply Kd.R_alloc | apply Kd.R_drewN | apply Kd.R_drew)); exact HO230.out)⟩; have n1_ : Aside0 (Below w.heap.size w w23) := ⟨by rw [← hq_]; exact (by repeat (first | (with_reducible first | exact HB.out | apply below_alloc | apply pw_below_drewN | apply below_drew1) | exact HB.out))⟩; clear HO230 HB hq_; have HO230 := n0_; have HB := n1_; clear n0_ n1_))) | ((with_reducible refine gate_callee (f := 22) rfl ?_); refine goesL_ (some 47) rfl rfl Try.func22 (by kernel_rfl) rfl #[.int .i64 (wrap64 (Int.tdiv a2 64)), .int .i64 8] rfl (by (try simp only [List.map_toArray, List.map_cons, List.map_nil]); first | done | rfl | (simp only [List.length_drop, List.length_take]; rfl)) ?_; (with_reducible refine (headgatekit_Mod.calls (wrap64 (Int.tdiv a2 64)) 8 t235 _ A14.out).mono ?_); rintro e w' ⟨rfl, ⟨nd, rfl⟩⟩; refine ⟨_, rfl, ?_⟩; (try (rw [drewN_self w23]; generalize hq_ : World.drewN w23 _ = w23; have n0_ : Aside0 (Kd.R (Kd.int .i64) 3 w23 w.heap.size (fun _ => True) (.slice Ao24 t228.length co24) t228) := ⟨by rw [← hq_]; exact (by (with_reducible repeat (first | apply Kd.R_alloc | apply Kd.R_drewN | apply Kd.R_drew)); exact HO230.out)⟩; have n1_ : Aside0 (Below w.heap.size w w23) := ⟨by rw [← hq_]; exact (by repeat (first | (with_reducible first | exact HB.out | apply below_alloc | apply pw_below_drewN | apply below_drew1) | exact HB.out))⟩; clear HO230 HB hq_; have HO230 := n0_; have HB := n1_; clear n0_ n1_))) | ((with_reducible refine gate_dst (N := 10) rfl ?_); refine box_event ?hg (N := 10) ?hd (cs := #[.int .i64 0, .int .i64 0]) (t := 42) ?hr ?_; (case hd => rfl); (case hg => rfl); (case hr => first | (go_simp; done) | (go_simp; rfl)); intro gb236 hg w25 hbox hb; have n0_ := Aside0.mk (Kd.R_below (by (with_reducible repeat (first | apply Kd.R_alloc | apply Kd.R_drewN | apply Kd.R_drew)); exact HO230.out) hb); have n1_ := Aside0.mk (below_step (by repeat (first | (with_reducible first | exact HB.out | apply below_alloc | apply pw_below_drewN | apply below_drew1) | exact HB.out)) hb); have n2_ := Aside0.mk (hbox); have n3_ := Aside0.mk ((by rw [hg]; exact (below_size (by repeat (first | (with_reducible first | exact HB.out | apply below_alloc | apply pw_below_drewN | apply below_drew1) | exact HB.out))) : w.heap.size ≤ gb236)); have n4_ := Aside0.mk ((by rw [hg]; exact (below_size (by repeat (first | (with_reducible first | exact HB.out | apply below_alloc | apply pw_below_drewN | apply below_drew1) | exact HB.out))) : w.heap.size ≤ gb236)); clear HO230; clear HB; have HO230 := n0_; have HB := n1_; have BK236 := n2_; have GW236 := n3_; have GE236 := n4_; clear n0_ n1_ n2_ n3_ n4_; clear hb hbox hg) | ((with_reducible refine gate_dst (N := 11) rfl ?_); refine box_event ?hg (N := 11) ?hd (cs := #[.int .i64 0, .int .i64 0]) (t := 42) ?hr ?_; (case hd => rfl); (case hg => rfl); (case hr => first | (go_simp; done) | (go_simp; rfl)); intro gb237 hg w26 hbox hb; have n0_ := Aside0.mk (Kd.R_below (by (with_reducible repeat (first | apply Kd.R_alloc | apply Kd.R_drewN | apply Kd.R_drew)); exact HO230.out) hb); have n1_ := Aside0.mk (blk_below (g := gb236) (o := .cells #[.int .i64 0, .int .i64 0] 42 (0, 0)) (by (with_reducible repeat (first | refine blk_drewN ?_ _ | refine blk_drew ?_ | refine blk_alloc ?_ _)); exact BK236.out) hb); have n2_ := Aside0.mk (below_step (by repeat (first | (with_reducible first | exact HB.out | apply below_alloc | apply pw_below_drewN | apply below_drew1 | refine below_set ?_ GE236.out) | exact HB.out)) hb); have n3_ := Aside0.mk (hbox); have n4_ := Aside0.mk ((by rw [hg]; exact (below_size (by repeat (first | (with_reducible first | exact HB.out | apply below_alloc | apply pw_below_drewN | apply below_drew1 | refine below_set ?_ GE236.out) | exact HB.out))) : w.heap.size ≤ gb237)); have n5_ := Aside0.mk ((by rw [hg]; exact (below_size (by repeat (first | (with_reducible first | exact HB.out | apply below_alloc | apply pw_below_drewN | apply below_drew1 | refine below_set ?_ GE236.out) | exact HB.out))) : w.heap.size ≤ gb237)); have n6_ := Aside0.mk ((by rw [hg]; exact Nat.ne_of_lt (blk_lt (g := gb236) (o := .cells #[.int .i64 0, .int .i64 0] 42 (0, 0)) (by (with_reducible repeat (first | refine blk_drewN ?_ _ | refine blk_drew ?_ | refine blk_alloc ?_ _)); exact BK236.out)) : gb236 ≠ gb237)); have n7_ := Aside0.mk ((by rw [hg]; exact Nat.ne_of_gt (blk_lt (g := gb236) (o := .cells #[.int .i64 0, .int .i64 0] 42 (0, 0)) (by (with_reducible repeat (first | refine blk_drewN ?_ _ | refine blk_drew ?_ | refine blk_alloc ?_ _)); exact BK236.out)) : gb237 ≠ gb236)); clear HO230; clear BK236; clear HB; have HO230 := n0_; have BK236 := n1_; have HB := n2_; have BK237 := n3_; have GW237 := n4_; have GE237 := n5_; have NB236_237 := n6_; have NB237_236 := n7_; clear n0_ n1_ n2_ n3_ n4_ n5_ n6_ n7_; clear hb hbox hg; have hnb27 := NB236_237.out; have hnc27 := NB237_236.out; have hcz28_0 : w26.cell? ⟨gb236, 0, none⟩ = some (.int .i64 0) := (blk_cell BK236.out 0).trans rfl; have hcz28_1 : w26.cell? ⟨gb236, 1, none⟩ = some (.int .i64 0) := (blk_cell BK236.out 1).trans rfl; have hfz28_0 := blk_frozen BK236.out 0; have hfz28_1 := blk_frozen BK236.out 1; have hcz29_0 : w26.cell? ⟨gb237, 0, none⟩ = some (.int .i64 0) := (blk_cell BK237.out 0).trans rfl; have hcz29_1 : w26.cell? ⟨gb237, 1, none⟩ = some (.int .i64 0) := (blk_cell BK237.out 1).trans rfl; have hfz29_0 := blk_frozen BK237.out 0; have hfz29_1 := blk_frozen BK237.out 1))
          have n0_ : Aside0 (Kd.R (Kd.int .i64) 3 ((((w26.setCell ⟨gb236, 0, none⟩ (.int .i64 t232)).setCell ⟨gb236, 1, none⟩ (.int .i64 t234)).setCell ⟨gb237, 0, none⟩ (.int .i64 (Int.tmod (wrap64 ((wrap64 (t232 + 1)) + t233)) (t228.length : Int)))).setCell ⟨gb237, 1, none⟩ (.int .i64 t235)) w.heap.size (fun _ => True) (.slice Ao24 t228.length co24) t228) := ⟨by (with_reducible repeat (first | apply Kd.R_alloc | apply Kd.R_drewN | apply Kd.R_drew)); exact Kd.R_mono (Kd.R_far (p := ⟨gb237, 1, none⟩) (Kd.R_far (p := ⟨gb237, 0, none⟩) (Kd.R_far (p := ⟨gb236, 1, none⟩) (Kd.R_far (p := ⟨gb236, 0, none⟩) (Kd.R_types (Kd.R_types HO230.out BK236.out (by decide)) BK237.out (by decide)) (fun _ hk => hk.1.2) (.int .i64 t232)) (fun _ hk => hk.1.2) (.int .i64 t234)) (fun _ hk => hk.2) (.int .i64 (Int.tmod (wrap64 ((wrap64 (t232 + 1)) + t233)) (t228.length : Int)))) (fun _ hk => hk.2) (.int .i64 t235)) (fun _ hk => trivial)⟩
          have n1_ : Aside0 (((((w26.setCell ⟨gb236, 0, none⟩ (.int .i64 t232)).setCell ⟨gb236, 1, none⟩ (.int .i64 t234)).setCell ⟨gb237, 0, none⟩ (.int .i64 (Int.tmod (wrap64 ((wrap64 (t232 + 1)) + t233)) (t228.length : Int)))).setCell ⟨gb237, 1, none⟩ (.int .i64 t235)).heap[gb236]? = some (.cells #[.int .i64 t232, .int .i64 t234] 42 (0, 0))) := ⟨by (with_reducible repeat (first | refine blk_drewN ?_ _ | refine blk_drew ?_ | refine blk_alloc ?_ _)); refine blk_far ?_ NB236_237.out _; (with_reducible repeat (first | refine blk_drewN ?_ _ | refine blk_drew ?_ | refine blk_alloc ?_ _)); refine blk_far ?_ NB236_237.out _; (with_reducible repeat (first | refine blk_drewN ?_ _ | refine blk_drew ?_ | refine blk_alloc ?_ _)); refine blk_put (cs := #[.int .i64 t232, .int .i64 0]) ?_ 1 _ rfl; (with_reducible repeat (first | refine blk_drewN ?_ _ | refine blk_drew ?_ | refine blk_alloc ?_ _)); refine blk_put (cs := #[.int .i64 0, .int .i64 0]) ?_ 0 _ rfl; (with_reducible repeat (first | refine blk_drewN ?_ _ | refine blk_drew ?_ | refine blk_alloc ?_ _)); exact BK236.out⟩
          have n2_ : Aside0 (((((w26.setCell ⟨gb236, 0, none⟩ (.int .i64 t232)).setCell ⟨gb236, 1, none⟩ (.int .i64 t234)).setCell ⟨gb237, 0, none⟩ (.int .i64 (Int.tmod (wrap64 ((wrap64 (t232 + 1)) + t233)) (t228.length : Int)))).setCell ⟨gb237, 1, none⟩ (.int .i64 t235)).heap[gb237]? = some (.cells #[.int .i64 (Int.tmod (wrap64 ((wrap64 (t232 + 1)) + t233)) (t228.length : Int)), .int .i64 t235] 42 (0, 0))) := ⟨by (with_reducible repeat (first | refine blk_drewN ?_ _ | refine blk_drew ?_ | refine blk_alloc ?_ _)); refine blk_put (cs := #[.int .i64 (Int.tmod (wrap64 ((wrap64 (t232 + 1)) + t233)) (t228.length : Int)), .int .i64 0]) ?_ 1 _ rfl; (with_reducible repeat (first | refine blk_drewN ?_ _ | refine blk_drew ?_ | refine blk_alloc ?_ _)); refine blk_put (cs := #[.int .i64 0, .int .i64 0]) ?_ 0 _ rfl; (with_reducible repeat (first | refine blk_drewN ?_ _ | refine blk_drew ?_ | refine blk_alloc ?_ _)); refine blk_far ?_ NB237_236.out _; (with_reducible repeat (first | refine blk_drewN ?_ _ | refine blk_drew ?_ | refine blk_alloc ?_ _)); refine blk_far ?_ NB237_236.out _; (with_reducible repeat (first | refine blk_drewN ?_ _ | refine blk_drew ?_ | refine blk_alloc ?_ _)); exact BK237.out⟩
          have n3_ : Aside0 (Below w.heap.size w ((((w26.setCell ⟨gb236, 0, none⟩ (.int .i64 t232)).setCell ⟨gb236, 1, none⟩ (.int .i64 t234)).setCell ⟨gb237, 0, none⟩ (.int .i64 (Int.tmod (wrap64 ((wrap64 (t232 + 1)) + t233)) (t228.length : Int)))).setCell ⟨gb237, 1, none⟩ (.int .i64 t235))) := ⟨by repeat (first | (with_reducible first | exact HB.out | apply below_alloc | apply pw_below_drewN | apply below_drew1 | refine below_set ?_ GE236.out | refine below_set ?_ GE237.out) | exact HB.out)⟩
          (try clear HO230)
          (try clear BK236)
          (try clear BK237)
          (try clear HB)
          generalize ((((w26.setCell ⟨gb236, 0, none⟩ (.int .i64 t232)).setCell ⟨gb236, 1, none⟩ (.int .i64 t234)).setCell ⟨gb237, 0, none⟩ (.int .i64 (Int.tmod (wrap64 ((wrap64 (t232 + 1)) + t233)) (t228.length : Int)))).setCell ⟨gb237, 1, none⟩ (.int .i64 t235)) = w30 at n0_ n1_ n2_ n3_ ⊢
          have HO230 := n0_
          have BK236 := n1_
          have BK237 := n2_
          have HB := n3_
          clear n0_ n1_ n2_ n3_
          have n0_ := Aside0.mk (Kd.R_drew HO230.out)
          have n1_ := Aside0.mk (blk_drew BK236.out)
          have n2_ := Aside0.mk (blk_drew BK237.out)
          have n3_ := Aside0.mk (below_drew1 HB.out)
          clear HO230
          clear BK236
          clear BK237
          clear HB
          have HO230 := n0_
          have BK236 := n1_
          have BK237 := n2_
          have HB := n3_
          clear n0_ n1_ n2_ n3_
          refine start_ (n := 13) (S := fun w' => True) (ds := []) #[false, false, false, false, false, false, false, false, false, false, false, false, false] (by kernel_rfl) rfl rfl trivial (fun hHeld => ?_); refine with_tabW headgatelaw16_RoleSwaps.tab7 headgatelaw16_RoleSwaps.bits7 (fun HT_ HW_ => ?_)
          generalize w30.drew = w31 at HO230 BK236 BK237 HB hHeld ⊢
          refine pure_ (i := 0) (N := some 50) (v := ?_) (a' := ?_) #[true, false, false, false, false, false, false, false, false, false, false, false, false] rfl rfl (any_of HT_.out (by kernel_rfl)) (fun _ _ _ h => h) (Or.inl ⟨by rfl, ?_⟩) ?_ ?_
          rotate_left
          · intro w'
            go_simp
            with_reducible rfl
          rotate_left
          · simp only [Act.put, List.setIfInBounds_toArray, List.set_cons_zero, List.set_cons_succ, i64_w, i32_w]
            rfl
          refine inv_at [1, 2, 3, 4, 5, 6, 7, 8, 9, 10, 11, 12] (fun a0_ b a w' => ∃ (v239 : Value) (v242 : Value) (v247 : Value) (m5_ : Value) (m6_ : Value) (m7_ : Value) (m10_ : Value), a = putSel a0_ b [(1, 51, v239), (2, 52, .agg #[.int .i64 t232, .int .i64 t234]), (3, 53, .agg #[.int .i64 (Int.tmod (wrap64 ((wrap64 (t232 + 1)) + t233)) (t228.length : Int)), .int .i64 t235]), (4, 54, v242), (5, 55, m5_), (6, 49, m6_), (7, 56, m7_), (8, 57, .int .i64 t245), (9, 58, .int .i64 t246), (10, 12, m10_), (11, 13, .int .i64 t245), (12, 14, .int .i64 t246)] ∧ (Kd.R (Kd.int .i64) 3 w' w.heap.size (fun _ => True) (.slice Ao24 t228.length co24) t228) ∧ (w'.heap[gb236]? = some (.cells #[.int .i64 t232, .int .i64 t234] 42 (0, 0))) ∧ (w'.heap[gb237]? = some (.cells #[.int .i64 (Int.tmod (wrap64 ((wrap64 (t232 + 1)) + t233)) (t228.length : Int)), .int .i64 t235] 42 (0, 0))) ∧ (Below w.heap.size w w') ∧ (b 1 = true → Kd.R (Kd.int .i64) 3 w' w.heap.size (fun _ => True) v239 t238) ∧ (b 4 = true → Kd.R k42 42 w' w.heap.size (fun k_ => k_ ≠ gb236 ∧ k_ ≠ gb237) v242 y241) ∧ (b 5 = true → Kd.R (Kd.int .i64) 3 w' w.heap.size (fun _ => True) v247 t244) ∧ (b 5 = true → (m5_ : Value) = .tuple #[v247, .int .i64 t245, .int .i64 t246]) ∧ (b 6 = true → (m6_ : Value) = .tuple #[v247, .int .i64 t245, .int .i64 t246]) ∧ (b 7 = true → (m7_ : Value) = v247) ∧ (b 10 = true → (m10_ : Value) = v247)) HT_.out HW_.out (by kernel_rfl) (by kernel_rfl) ?_ ?_ ?_
          · exact ⟨.bool false, .bool false, .bool false, .bool false, .bool false, .bool false, .bool false, by simp only [putSel, Bool.false_eq_true, if_false], HO230.out, BK236.out, BK237.out, HB.out, fun h_ => absurd h_ (by decide), fun h_ => absurd h_ (by decide), fun h_ => absurd h_ (by decide), fun h_ => absurd h_ (by decide), fun h_ => absurd h_ (by decide), fun h_ => absurd h_ (by decide), fun h_ => absurd h_ (by decide)⟩
          · skip
            clear BK236 BK237 HB HO230
            refine steps_cons ?_ ?_
            · rintro b a w' ⟨v239, v242, v247, m5_, m6_, m7_, m10_, ha, Q_HO230, Q_BK236, Q_BK237, Q_HB, Q_HO240, Q_HO243, Q_HO248, Q_X5_, Q_X6_, Q_X7_, Q_X10_⟩ hb_ hon hoff
              refine ⟨_, rfl, fun K hK => ?_⟩
              have e50 : a.tmps[50]? = some (.slice Ao24 t228.length co24) := by rw [ha]; exact (putSel_off rfl).trans rfl
              replace ha := Aside0.mk ha
              have HO230 := Aside0.mk Q_HO230
              have BK236 := Aside0.mk Q_BK236
              have BK237 := Aside0.mk Q_BK237
              have HB := Aside0.mk Q_HB
              refine goes_ Try.func24 (by kernel_rfl) rfl #[.slice Ao24 t228.length co24] (by rfl) rfl rfl (by first | (simp only [List.map_toArray, List.map_cons, List.map_nil, Act.eval, Array.getD_eq_getD_getElem?, Option.getD_some, e50]; done) | (simp only [List.map_toArray, List.map_cons, List.map_nil, Act.eval, Array.getD_eq_getD_getElem?, Option.getD_some, e50]; rfl)) ?_
              with_reducible refine (headgatekit_OwnInts.calls _ _ t228 t238 _ ?side1 ?side2 A15.out).mono ?_
              (case side1 => repeat (first | exact (Kd.R_reads' HO230.out).2.2 | (with_reducible refine Kd.C_alloc ?_ _) | (with_reducible refine Kd.C_drewN ?_ _) | (with_reducible refine Kd.C_drew ?_)))
              (case side2 => exact (Kd.R_reads' HO230.out).2.1)
              rintro e w32 ⟨v239, rfl, ho0, hb⟩
              refine ⟨_, rfl, ?_⟩
              have n0_ := Aside0.mk (Kd.R_elder' (by (with_reducible repeat (first | apply Kd.R_alloc | apply Kd.R_drewN | apply Kd.R_drew)); exact HO230.out) (Kd.R_base ho0) hb)
              have n1_ := Aside0.mk (Kd.R_lower (Kd.R_new' ho0 (Kd.R_lt (by (with_reducible repeat (first | apply Kd.R_alloc | apply Kd.R_drewN | apply Kd.R_drew)); exact HO230.out))) (below_size (by repeat (first | (with_reducible first | exact HB.out | apply below_alloc | apply pw_below_drewN | apply below_drew1 | refine below_set ?_ GE236.out | refine below_set ?_ GE237.out) | exact HB.out))))
              have n2_ := Aside0.mk (blk_below (g := gb236) (o := .cells #[.int .i64 t232, .int .i64 t234] 42 (0, 0)) (by (with_reducible repeat (first | refine blk_drewN ?_ _ | refine blk_drew ?_ | refine blk_alloc ?_ _)); exact BK236.out) hb)
              have n3_ := Aside0.mk (blk_below (g := gb237) (o := .cells #[.int .i64 (Int.tmod (wrap64 ((wrap64 (t232 + 1)) + t233)) (t228.length : Int)), .int .i64 t235] 42 (0, 0)) (by (with_reducible repeat (first | refine blk_drewN ?_ _ | refine blk_drew ?_ | refine blk_alloc ?_ _)); exact BK237.out) hb)
              have n4_ := Aside0.mk (below_step (by repeat (first | (with_reducible first | exact HB.out | apply below_alloc | apply pw_below_drewN | apply below_drew1 | refine below_set ?_ GE236.out | refine below_set ?_ GE237.out) | exact HB.out)) hb)
              have z_HO243 := fun (h0_ : b 4 = true) => (show Kd.R k42 42 w32 w.heap.size (fun k_ => k_ ≠ gb236 ∧ k_ ≠ gb237) v242 y241 from by first | exact (Kd.R_below (by (with_reducible repeat (first | apply Kd.R_alloc | apply Kd.R_drewN | apply Kd.R_drew)); exact (Q_HO243 h0_)) hb) | exact Kd.R_mono (Kd.R_below (by (with_reducible repeat (first | apply Kd.R_alloc | apply Kd.R_drewN | apply Kd.R_drew)); exact (Q_HO243 h0_)) hb) (fun _ h_ => by first | trivial | exact h_ | exact h_.1))
              clear HO230
              clear BK236
              clear BK237
              clear HB
              have HO230 := n0_
              have HO240 := n1_
              have BK236 := n2_
              have BK237 := n3_
              have HB := n4_
              clear n0_ n1_ n2_ n3_ n4_
              (try clear hb)
              (try clear hb2)
              (try clear hk)
              (try clear hi)
              (try clear ho0)
              refine hK.out _ _ ⟨v239, v242, v247, m5_, m6_, m7_, m10_, (by rw [ha.out]; exact putSel_upk 0 hb_ rfl rfl rfl), (by (with_reducible repeat (first | apply Kd.R_alloc | apply Kd.R_drewN | apply Kd.R_drew)); exact Kd.R_mono HO230.out (fun _ hk => by first | trivial | exact hk | exact hk.1 | exact hk.2 | (constructor <;> (first | exact hk.1 | exact hk.2 | exact hk.1.1 | exact hk.1.2 | exact hk.2.1 | exact hk.2.2)))), (by (with_reducible repeat (first | refine blk_drewN ?_ _ | refine blk_drew ?_ | refine blk_alloc ?_ _)); exact BK236.out), (by (with_reducible repeat (first | refine blk_drewN ?_ _ | refine blk_drew ?_ | refine blk_alloc ?_ _)); exact BK237.out), (by repeat (first | (with_reducible first | exact HB.out | apply below_alloc | apply pw_below_drewN | apply below_drew1 | refine below_set ?_ GE236.out | refine below_set ?_ GE237.out) | exact HB.out)), fun _ => (by (with_reducible repeat (first | apply Kd.R_alloc | apply Kd.R_drewN | apply Kd.R_drew)); exact Kd.R_mono HO240.out (fun _ hk => by first | trivial | exact hk | exact hk.1 | exact hk.2 | (constructor <;> (first | exact hk.1 | exact hk.2 | exact hk.1.1 | exact hk.1.2 | exact hk.2.1 | exact hk.2.2)))), z_HO243, fun h0_ => absurd ((hoff 5 (by kernel_rfl)).symm.trans h0_) (by decide), fun h0_ => absurd ((hoff 5 (by kernel_rfl)).symm.trans h0_) (by decide), fun h0_ => absurd ((hoff 6 (by kernel_rfl)).symm.trans h0_) (by decide), fun h0_ => absurd ((hoff 7 (by kernel_rfl)).symm.trans h0_) (by decide), fun h0_ => absurd ((hoff 10 (by kernel_rfl)).symm.trans h0_) (by decide)⟩
            refine steps_cons ?_ ?_
            · rintro b a w' ⟨v239, v242, v247, m5_, m6_, m7_, m10_, ha, Q_HO230, Q_BK236, Q_BK237, Q_HB, Q_HO240, Q_HO243, Q_HO248, Q_X5_, Q_X6_, Q_X7_, Q_X10_⟩ hb_ hon hoff
              refine ⟨_, rfl, fun K hK => ?_⟩
              have e10 : a.tmps[10]? = some (.pointer (some ⟨gb236, 0, none⟩)) := by rw [ha]; exact (putSel_off rfl).trans rfl
              replace ha := Aside0.mk ha
              have HO230 := Aside0.mk Q_HO230
              have BK236 := Aside0.mk Q_BK236
              have BK237 := Aside0.mk Q_BK237
              have HB := Aside0.mk Q_HB
              have hc0_ : w'.cell? ⟨gb236, 0, none⟩ = some (.int .i64 t232) := (blk_cell BK236.out 0).trans rfl
              have hc1_ : w'.cell? ⟨gb236, 1, none⟩ = some (.int .i64 t234) := (blk_cell BK236.out 1).trans rfl
              refine value_ (w1 := w') (v := .agg #[.int .i64 t232, .int .i64 t234]) (by rfl) rfl ?_ ?_
              · go_simp
                (try simp only [i64_w])
                try rfl
              refine hK.out _ _ ⟨v239, v242, v247, m5_, m6_, m7_, m10_, (by rw [ha.out]; exact putSel_upk 1 hb_ rfl rfl rfl), Q_HO230, Q_BK236, Q_BK237, Q_HB, Q_HO240, fun h0_ => absurd ((hoff 4 (by kernel_rfl)).symm.trans h0_) (by decide), fun h0_ => absurd ((hoff 5 (by kernel_rfl)).symm.trans h0_) (by decide), fun h0_ => absurd ((hoff 5 (by kernel_rfl)).symm.trans h0_) (by decide), fun h0_ => absurd ((hoff 6 (by kernel_rfl)).symm.trans h0_) (by decide), fun h0_ => absurd ((hoff 7 (by kernel_rfl)).symm.trans h0_) (by decide), fun h0_ => absurd ((hoff 10 (by kernel_rfl)).symm.trans h0_) (by decide)⟩
            refine steps_cons ?_ ?_
            · rintro b a w' ⟨v239, v242, v247, m5_, m6_, m7_, m10_, ha, Q_HO230, Q_BK236, Q_BK237, Q_HB, Q_HO240, Q_HO243, Q_HO248, Q_X5_, Q_X6_, Q_X7_, Q_X10_⟩ hb_ hon hoff
              refine ⟨_, rfl, fun K hK => ?_⟩
              have e11 : a.tmps[11]? = some (.pointer (some ⟨gb237, 0, none⟩)) := by rw [ha]; exact (putSel_off rfl).trans rfl
              replace ha := Aside0.mk ha
              have HO230 := Aside0.mk Q_HO230
              have BK236 := Aside0.mk Q_BK236
              have BK237 := Aside0.mk Q_BK237
              have HB := Aside0.mk Q_HB
              have hc0_ : w'.cell? ⟨gb237, 0, none⟩ = some (.int .i64 (Int.tmod (wrap64 ((wrap64 (t232 + 1)) + t233)) (t228.length : Int))) := (blk_cell BK237.out 0).trans rfl
              have hc1_ : w'.cell? ⟨gb237, 1, none⟩ = some (.int .i64 t235) := (blk_cell BK237.out 1).trans rfl
              refine value_ (w1 := w') (v := .agg #[.int .i64 (Int.tmod (wrap64 ((wrap64 (t232 + 1)) + t233)) (t228.length : Int)), .int .i64 t235]) (by rfl) rfl ?_ ?_
              · go_simp
                (try simp only [i64_w])
                try rfl
              refine hK.out _ _ ⟨v239, v242, v247, m5_, m6_, m7_, m10_, (by rw [ha.out]; exact putSel_upk 2 hb_ rfl rfl rfl), Q_HO230, Q_BK236, Q_BK237, Q_HB, Q_HO240, fun h0_ => absurd ((hoff 4 (by kernel_rfl)).symm.trans h0_) (by decide), fun h0_ => absurd ((hoff 5 (by kernel_rfl)).symm.trans h0_) (by decide), fun h0_ => absurd ((hoff 5 (by kernel_rfl)).symm.trans h0_) (by decide), fun h0_ => absurd ((hoff 6 (by kernel_rfl)).symm.trans h0_) (by decide), fun h0_ => absurd ((hoff 7 (by kernel_rfl)).symm.trans h0_) (by decide), fun h0_ => absurd ((hoff 10 (by kernel_rfl)).symm.trans h0_) (by decide)⟩
            refine steps_cons ?_ ?_
            · rintro b a w' ⟨v239, v242, v247, m5_, m6_, m7_, m10_, ha, Q_HO230, Q_BK236, Q_BK237, Q_HB, Q_HO240, Q_HO243, Q_HO248, Q_X5_, Q_X6_, Q_X7_, Q_X10_⟩ hb_ hon hoff
              refine ⟨_, rfl, fun K hK => ?_⟩
              have e52 : a.tmps[52]? = some (.agg #[.int .i64 t232, .int .i64 t234]) := by rw [ha]; exact putSel_on (e := (2, 52, .agg #[.int .i64 t232, .int .i64 t234])) 1 rfl rfl (hon 2 (by kernel_rfl)) rfl
              have e53 : a.tmps[53]? = some (.agg #[.int .i64 (Int.tmod (wrap64 ((wrap64 (t232 + 1)) + t233)) (t228.length : Int)), .int .i64 t235]) := by rw [ha]; exact putSel_on (e := (3, 53, .agg #[.int .i64 (Int.tmod (wrap64 ((wrap64 (t232 + 1)) + t233)) (t228.length : Int)), .int .i64 t235])) 2 rfl rfl (hon 3 (by kernel_rfl)) rfl
              replace ha := Aside0.mk ha
              have HO230 := Aside0.mk Q_HO230
              have BK236 := Aside0.mk Q_BK236
              have BK237 := Aside0.mk Q_BK237
              have HB := Aside0.mk Q_HB
              refine Kd.R_lit_step k42 _ 42 ?hg (N := 54) ?hd (xs := ([(⟨t232, t234⟩ : S42), (⟨Int.tmod (wrap64 ((wrap64 (t232 + 1)) + t233)) (t228.length : Int), t235⟩ : S42)] : List (S42))) (inner := [.int .i64 t232, .int .i64 t234, .int .i64 (Int.tmod (wrap64 ((wrap64 (t232 + 1)) + t233)) (t228.length : Int)), .int .i64 t235]) (ok := fun _ => True) (okp := fun _ => True) ?hr ?hp (fun _ hk => hk) trivial (Below.refl _ _) (Nat.le_refl _) (by simp) ?_; (case hd => rfl); (case hg => rfl); (case hr => first | (go_simp; done) | (go_simp; rfl)); (case hp => exact (Reps.c2 (show Kd.M k42 _ _ _ (⟨t232, t234⟩ : S42) [.int .i64 t232, .int .i64 t234] from (k42_mkM _ _ _ (⟨t232, t234⟩ : S42) )) (Reps.c2 (show Kd.M k42 _ _ _ (⟨Int.tmod (wrap64 ((wrap64 (t232 + 1)) + t233)) (t228.length : Int), t235⟩ : S42) [.int .i64 (Int.tmod (wrap64 ((wrap64 (t232 + 1)) + t233)) (t228.length : Int)), .int .i64 t235] from (k42_mkM _ _ _ (⟨Int.tmod (wrap64 ((wrap64 (t232 + 1)) + t233)) (t228.length : Int), t235⟩ : S42) )) (Reps.none _ _))))
              intro v242 w32 ho33 hb hg_ hnew_
              clear hg_ hnew_
              (first | rw [← Ny241.out] at ho33 | (simp only [Int.reduceToNat] at ho33; rw [← Ny241.out] at ho33))
              have n0_ := Aside0.mk (Kd.R_below (by (with_reducible repeat (first | apply Kd.R_alloc | apply Kd.R_drewN | apply Kd.R_drew)); exact HO230.out) hb)
              have n1_ := Aside0.mk (Kd.R_lower (Kd.R_newB (Kd.R_newB ho33 (g := gb236) (o := .cells #[.int .i64 t232, .int .i64 t234] 42 (0, 0)) (by (with_reducible repeat (first | refine blk_drewN ?_ _ | refine blk_drew ?_ | refine blk_alloc ?_ _)); exact BK236.out)) (g := gb237) (o := .cells #[.int .i64 (Int.tmod (wrap64 ((wrap64 (t232 + 1)) + t233)) (t228.length : Int)), .int .i64 t235] 42 (0, 0)) (by (with_reducible repeat (first | refine blk_drewN ?_ _ | refine blk_drew ?_ | refine blk_alloc ?_ _)); exact BK237.out)) (below_size (by repeat (first | (with_reducible first | exact HB.out | apply below_alloc | apply pw_below_drewN | apply below_drew1 | refine below_set ?_ GE236.out | refine below_set ?_ GE237.out) | exact HB.out))))
              have n2_ := Aside0.mk (blk_below (g := gb236) (o := .cells #[.int .i64 t232, .int .i64 t234] 42 (0, 0)) (by (with_reducible repeat (first | refine blk_drewN ?_ _ | refine blk_drew ?_ | refine blk_alloc ?_ _)); exact BK236.out) hb)
              have n3_ := Aside0.mk (blk_below (g := gb237) (o := .cells #[.int .i64 (Int.tmod (wrap64 ((wrap64 (t232 + 1)) + t233)) (t228.length : Int)), .int .i64 t235] 42 (0, 0)) (by (with_reducible repeat (first | refine blk_drewN ?_ _ | refine blk_drew ?_ | refine blk_alloc ?_ _)); exact BK237.out) hb)
              have n4_ := Aside0.mk (below_step (by repeat (first | (with_reducible first | exact HB.out | apply below_alloc | apply pw_below_drewN | apply below_drew1 | refine below_set ?_ GE236.out | refine below_set ?_ GE237.out) | exact HB.out)) hb)
              have z_HO240 := fun (h0_ : b 1 = true) => (show Kd.R (Kd.int .i64) 3 w32 w.heap.size (fun _ => True) v239 t238 from by first | exact (Kd.R_below (by (with_reducible repeat (first | apply Kd.R_alloc | apply Kd.R_drewN | apply Kd.R_drew)); exact (Q_HO240 h0_)) hb) | exact Kd.R_mono (Kd.R_below (by (with_reducible repeat (first | apply Kd.R_alloc | apply Kd.R_drewN | apply Kd.R_drew)); exact (Q_HO240 h0_)) hb) (fun _ h_ => by first | trivial | exact h_ | exact h_.1))
              clear HO230
              clear BK236
              clear BK237
              clear HB
              have HO230 := n0_
              have HO243 := n1_
              have BK236 := n2_
              have BK237 := n3_
              have HB := n4_
              clear n0_ n1_ n2_ n3_ n4_
              clear hb ho33
              refine hK.out _ _ ⟨v239, v242, v247, m5_, m6_, m7_, m10_, (by rw [ha.out]; exact putSel_upk 3 hb_ rfl rfl rfl), (by (with_reducible repeat (first | apply Kd.R_alloc | apply Kd.R_drewN | apply Kd.R_drew)); exact HO230.out), (by (with_reducible repeat (first | refine blk_drewN ?_ _ | refine blk_drew ?_ | refine blk_alloc ?_ _)); exact BK236.out), (by (with_reducible repeat (first | refine blk_drewN ?_ _ | refine blk_drew ?_ | refine blk_alloc ?_ _)); exact BK237.out), (by repeat (first | (with_reducible first | exact HB.out | apply below_alloc | apply pw_below_drewN | apply below_drew1 | refine below_set ?_ GE236.out | refine below_set ?_ GE237.out) | exact HB.out)), z_HO240, fun _ => (by (with_reducible repeat (first | apply Kd.R_alloc | apply Kd.R_drewN | apply Kd.R_drew)); exact Kd.R_mono HO243.out (fun _ hk => by first | trivial | exact hk | exact hk.1 | exact hk.2 | (constructor <;> (first | exact hk.1 | exact hk.2 | exact hk.1.1 | exact hk.1.2 | exact hk.2.1 | exact hk.2.2)))), fun h0_ => absurd ((hoff 5 (by kernel_rfl)).symm.trans h0_) (by decide), fun h0_ => absurd ((hoff 5 (by kernel_rfl)).symm.trans h0_) (by decide), fun h0_ => absurd ((hoff 6 (by kernel_rfl)).symm.trans h0_) (by decide), fun h0_ => absurd ((hoff 7 (by kernel_rfl)).symm.trans h0_) (by decide), fun h0_ => absurd ((hoff 10 (by kernel_rfl)).symm.trans h0_) (by decide)⟩
            refine steps_cons ?_ ?_
            · rintro b a w' ⟨v239, v242, v247, m5_, m6_, m7_, m10_, ha, Q_HO230, Q_BK236, Q_BK237, Q_HB, Q_HO240, Q_HO243, Q_HO248, Q_X5_, Q_X6_, Q_X7_, Q_X10_⟩ hb_ hon hoff
              refine ⟨_, rfl, fun K hK => ?_⟩
              have e51 : a.tmps[51]? = some (v239) := by rw [ha]; exact putSel_on (e := (1, 51, v239)) 0 rfl rfl (hon 1 (by kernel_rfl)) rfl
              have e54 : a.tmps[54]? = some (v242) := by rw [ha]; exact putSel_on (e := (4, 54, v242)) 3 rfl rfl (hon 4 (by kernel_rfl)) rfl
              replace ha := Aside0.mk ha
              have HO230 := Aside0.mk Q_HO230
              have BK236 := Aside0.mk Q_BK236
              have BK237 := Aside0.mk Q_BK237
              have HB := Aside0.mk Q_HB
              have HO240 := Aside0.mk (Q_HO240 (hon 1 (by kernel_rfl)))
              have HO243 := Aside0.mk (Q_HO243 (hon 4 (by kernel_rfl)))
              obtain ⟨Ao36, co36, eo36⟩ := Kd.R_slice HO240.out
              (first | subst eo36 | (injection eo36 with f1_ f2_ f3_; have f4_ := f1_.symm; have f5_ := f3_.symm; clear f1_ f2_ f3_; subst f4_; subst f5_))
              obtain ⟨Ao37, co37, eo37⟩ := Kd.R_slice HO243.out
              (first | subst eo37 | (injection eo37 with f1_ f2_ f3_; have f4_ := f1_.symm; have f5_ := f3_.symm; clear f1_ f2_ f3_; subst f4_; subst f5_))
              refine goes_ Try.func23 (by kernel_rfl) rfl #[.slice Ao36 t238.length co36, .slice Ao37 y241.length co37] (by rfl) rfl rfl (by first | (simp only [List.map_toArray, List.map_cons, List.map_nil, Act.eval, Array.getD_eq_getD_getElem?, Option.getD_some, e51, e54]; done) | (simp only [List.map_toArray, List.map_cons, List.map_nil, Act.eval, Array.getD_eq_getD_getElem?, Option.getD_some, e51, e54]; rfl)) ?_
              with_reducible refine (role_Run.calls k _ _ t238 _ _ y241 t244 t245 t246 _ ?side1 ?side2 ?side3 ?side4 A16.out).mono ?_
              (case side1 => repeat (first | exact (Kd.R_reads' HO240.out).2.2 | (with_reducible refine Kd.C_alloc ?_ _) | (with_reducible refine Kd.C_drewN ?_ _) | (with_reducible refine Kd.C_drew ?_)))
              (case side2 => exact (Kd.R_reads' HO240.out).2.1)
              (case side3 => repeat (first | exact (Kd.R_reads' HO243.out).2.2 | (with_reducible refine Kd.C_alloc ?_ _) | (with_reducible refine Kd.C_drewN ?_ _) | (with_reducible refine Kd.C_drew ?_)))
              (case side4 => exact (Kd.R_reads' HO243.out).2.1)
              rintro e w38 ⟨v247, rfl, ho0, hb⟩
              refine ⟨_, rfl, ?_⟩
              have n0_ := Aside0.mk (Kd.R_elder' (by (with_reducible repeat (first | apply Kd.R_alloc | apply Kd.R_drewN | apply Kd.R_drew)); exact HO230.out) (Kd.R_base ho0) hb)
              have n1_ := Aside0.mk (Kd.R_elder' (by (with_reducible repeat (first | apply Kd.R_alloc | apply Kd.R_drewN | apply Kd.R_drew)); exact HO240.out) (Kd.R_base ho0) hb)
              have n2_ := Aside0.mk (Kd.R_below (by (with_reducible repeat (first | apply Kd.R_alloc | apply Kd.R_drewN | apply Kd.R_drew)); exact HO243.out) hb)
              have n3_ := Aside0.mk (Kd.R_lower (Kd.R_new' (Kd.R_new' ho0 (Kd.R_lt (by (with_reducible repeat (first | apply Kd.R_alloc | apply Kd.R_drewN | apply Kd.R_drew)); exact HO230.out))) (Kd.R_lt (by (with_reducible repeat (first | apply Kd.R_alloc | apply Kd.R_drewN | apply Kd.R_drew)); exact HO240.out))) (below_size (by repeat (first | (with_reducible first | exact HB.out | apply below_alloc | apply pw_below_drewN | apply below_drew1 | refine below_set ?_ GE236.out | refine below_set ?_ GE237.out) | exact HB.out))))
              have n4_ := Aside0.mk (blk_below (g := gb236) (o := .cells #[.int .i64 t232, .int .i64 t234] 42 (0, 0)) (by (with_reducible repeat (first | refine blk_drewN ?_ _ | refine blk_drew ?_ | refine blk_alloc ?_ _)); exact BK236.out) hb)
              have n5_ := Aside0.mk (blk_below (g := gb237) (o := .cells #[.int .i64 (Int.tmod (wrap64 ((wrap64 (t232 + 1)) + t233)) (t228.length : Int)), .int .i64 t235] 42 (0, 0)) (by (with_reducible repeat (first | refine blk_drewN ?_ _ | refine blk_drew ?_ | refine blk_alloc ?_ _)); exact BK237.out) hb)
              have n6_ := Aside0.mk (below_step (by repeat (first | (with_reducible first | exact HB.out | apply below_alloc | apply pw_below_drewN | apply below_drew1 | refine below_set ?_ GE236.out | refine below_set ?_ GE237.out) | exact HB.out)) hb)
              clear HO230
              clear HO240
              clear HO243
              clear BK236
              clear BK237
              clear HB
              have HO230 := n0_
              have HO240 := n1_
              have HO243 := n2_
              have HO248 := n3_
              have BK236 := n4_
              have BK237 := n5_
              have HB := n6_
              clear n0_ n1_ n2_ n3_ n4_ n5_ n6_
              (try clear hb)
              (try clear hb2)
              (try clear hk)
              (try clear hi)
              (try clear ho0)
              refine hK.out _ _ ⟨.slice Ao36 t238.length co36, .slice Ao37 y241.length co37, v247, (.tuple #[v247, .int .i64 t245, .int .i64 t246]), m6_, m7_, m10_, (by rw [ha.out]; exact putSel_upk 4 hb_ rfl rfl rfl), (by (with_reducible repeat (first | apply Kd.R_alloc | apply Kd.R_drewN | apply Kd.R_drew)); first | exact HO230.out | exact Kd.R_mono HO230.out (fun _ hk => by first | trivial | exact hk | exact hk.1 | exact hk.2 | (constructor <;> (first | exact hk.1 | exact hk.2 | exact hk.1.1 | exact hk.1.2 | exact hk.2.1 | exact hk.2.2)))), (by (with_reducible repeat (first | refine blk_drewN ?_ _ | refine blk_drew ?_ | refine blk_alloc ?_ _)); exact BK236.out), (by (with_reducible repeat (first | refine blk_drewN ?_ _ | refine blk_drew ?_ | refine blk_alloc ?_ _)); exact BK237.out), (by repeat (first | (with_reducible first | exact HB.out | apply below_alloc | apply pw_below_drewN | apply below_drew1 | refine below_set ?_ GE236.out | refine below_set ?_ GE237.out) | exact HB.out)), fun _ => (by (with_reducible repeat (first | apply Kd.R_alloc | apply Kd.R_drewN | apply Kd.R_drew)); first | exact HO240.out | exact Kd.R_mono HO240.out (fun _ hk => by first | trivial | exact hk | exact hk.1 | exact hk.2 | (constructor <;> (first | exact hk.1 | exact hk.2 | exact hk.1.1 | exact hk.1.2 | exact hk.2.1 | exact hk.2.2)))), fun _ => (by (with_reducible repeat (first | apply Kd.R_alloc | apply Kd.R_drewN | apply Kd.R_drew)); first | exact HO243.out | exact Kd.R_mono HO243.out (fun _ hk => by first | trivial | exact hk | exact hk.1 | exact hk.2 | (constructor <;> (first | exact hk.1 | exact hk.2 | exact hk.1.1 | exact hk.1.2 | exact hk.2.1 | exact hk.2.2)))), fun _ => (by (with_reducible repeat (first | apply Kd.R_alloc | apply Kd.R_drewN | apply Kd.R_drew)); exact Kd.R_mono HO248.out (fun _ hk => by first | trivial | exact hk | exact hk.1 | exact hk.2 | (constructor <;> (first | exact hk.1 | exact hk.2 | exact hk.1.1 | exact hk.1.2 | exact hk.2.1 | exact hk.2.2)))), fun _ => rfl, fun h0_ => absurd ((hoff 6 (by kernel_rfl)).symm.trans h0_) (by decide), fun h0_ => absurd ((hoff 7 (by kernel_rfl)).symm.trans h0_) (by decide), fun h0_ => absurd ((hoff 10 (by kernel_rfl)).symm.trans h0_) (by decide)⟩
            refine steps_cons ?_ ?_
            · rintro b a w' ⟨v239, v242, v247, m5_, m6_, m7_, m10_, ha, Q_HO230, Q_BK236, Q_BK237, Q_HB, Q_HO240, Q_HO243, Q_HO248, Q_X5_, Q_X6_, Q_X7_, Q_X10_⟩ hb_ hon hoff
              refine ⟨_, rfl, fun K hK => ?_⟩
              have e55 : a.tmps[55]? = some (m5_) := by rw [ha]; exact putSel_on (e := (5, 55, m5_)) 4 rfl rfl (hon 5 (by kernel_rfl)) rfl
              rw [Q_X5_ (hon 5 (by kernel_rfl))] at e55
              replace ha := Aside0.mk ha
              have HO230 := Aside0.mk Q_HO230
              have BK236 := Aside0.mk Q_BK236
              have BK237 := Aside0.mk Q_BK237
              have HB := Aside0.mk Q_HB
              have HO240 := Aside0.mk (Q_HO240 (hon 1 (by kernel_rfl)))
              have HO243 := Aside0.mk (Q_HO243 (hon 4 (by kernel_rfl)))
              have HO248 := Aside0.mk (Q_HO248 (hon 5 (by kernel_rfl)))
              refine value_ (w1 := w') (v := .tuple #[v247, .int .i64 t245, .int .i64 t246]) (by rfl) rfl ?_ ?_
              · go_simp
                (try simp only [i64_w])
                try rfl
              refine hK.out _ _ ⟨v239, v242, v247, m5_, (.tuple #[v247, .int .i64 t245, .int .i64 t246]), m7_, m10_, (by rw [ha.out]; exact putSel_upk 5 hb_ rfl rfl rfl), Q_HO230, Q_BK236, Q_BK237, Q_HB, Q_HO240, Q_HO243, Q_HO248, Q_X5_, fun _ => rfl, fun h0_ => absurd ((hoff 7 (by kernel_rfl)).symm.trans h0_) (by decide), fun h0_ => absurd ((hoff 10 (by kernel_rfl)).symm.trans h0_) (by decide)⟩
            refine steps_cons ?_ ?_
            · rintro b a w' ⟨v239, v242, v247, m5_, m6_, m7_, m10_, ha, Q_HO230, Q_BK236, Q_BK237, Q_HB, Q_HO240, Q_HO243, Q_HO248, Q_X5_, Q_X6_, Q_X7_, Q_X10_⟩ hb_ hon hoff
              refine ⟨_, rfl, fun K hK => ?_⟩
              have e49 : a.tmps[49]? = some (m6_) := by rw [ha]; exact putSel_on (e := (6, 49, m6_)) 5 rfl rfl (hon 6 (by kernel_rfl)) rfl
              rw [Q_X6_ (hon 6 (by kernel_rfl))] at e49
              replace ha := Aside0.mk ha
              have HO230 := Aside0.mk Q_HO230
              have BK236 := Aside0.mk Q_BK236
              have BK237 := Aside0.mk Q_BK237
              have HB := Aside0.mk Q_HB
              have HO240 := Aside0.mk (Q_HO240 (hon 1 (by kernel_rfl)))
              have HO243 := Aside0.mk (Q_HO243 (hon 4 (by kernel_rfl)))
              have HO248 := Aside0.mk (Q_HO248 (hon 5 (by kernel_rfl)))
              obtain ⟨Ao7_0, co7_0, eo_⟩ := Kd.R_slice HO248.out
              subst eo_
              refine value_ (w1 := w') (v := .slice Ao7_0 t244.length co7_0) (by rfl) rfl ?_ ?_
              · go_simp
                (try simp only [i64_w])
                try rfl
              refine hK.out _ _ ⟨v239, v242, .slice Ao7_0 t244.length co7_0, m5_, m6_, (.slice Ao7_0 t244.length co7_0), m10_, (by rw [ha.out]; exact putSel_upk 6 hb_ rfl rfl rfl), Q_HO230, Q_BK236, Q_BK237, Q_HB, Q_HO240, Q_HO243, Q_HO248, Q_X5_, Q_X6_, fun _ => rfl, fun h0_ => absurd ((hoff 10 (by kernel_rfl)).symm.trans h0_) (by decide)⟩
            refine steps_cons ?_ ?_
            · rintro b a w' ⟨v239, v242, v247, m5_, m6_, m7_, m10_, ha, Q_HO230, Q_BK236, Q_BK237, Q_HB, Q_HO240, Q_HO243, Q_HO248, Q_X5_, Q_X6_, Q_X7_, Q_X10_⟩ hb_ hon hoff
              refine ⟨_, rfl, fun K hK => ?_⟩
              have e49 : a.tmps[49]? = some (m6_) := by rw [ha]; exact putSel_on (e := (6, 49, m6_)) 5 rfl rfl (hon 6 (by kernel_rfl)) rfl
              rw [Q_X6_ (hon 6 (by kernel_rfl))] at e49
              replace ha := Aside0.mk ha
              have HO230 := Aside0.mk Q_HO230
              have BK236 := Aside0.mk Q_BK236
              have BK237 := Aside0.mk Q_BK237
              have HB := Aside0.mk Q_HB
              have HO240 := Aside0.mk (Q_HO240 (hon 1 (by kernel_rfl)))
              have HO243 := Aside0.mk (Q_HO243 (hon 4 (by kernel_rfl)))
              have HO248 := Aside0.mk (Q_HO248 (hon 5 (by kernel_rfl)))
              obtain ⟨Ao8_0, co8_0, eo_⟩ := Kd.R_slice HO248.out
              subst eo_
              refine value_ (w1 := w') (v := .int .i64 t245) (by rfl) rfl ?_ ?_
              · go_simp
                (try simp only [i64_w])
                try rfl
              refine hK.out _ _ ⟨v239, v242, .slice Ao8_0 t244.length co8_0, m5_, m6_, m7_, m10_, (by rw [ha.out]; exact putSel_upk 7 hb_ rfl rfl rfl), Q_HO230, Q_BK236, Q_BK237, Q_HB, Q_HO240, Q_HO243, Q_HO248, Q_X5_, Q_X6_, Q_X7_, Q_X10_⟩
            refine steps_cons ?_ ?_
            · rintro b a w' ⟨v239, v242, v247, m5_, m6_, m7_, m10_, ha, Q_HO230, Q_BK236, Q_BK237, Q_HB, Q_HO240, Q_HO243, Q_HO248, Q_X5_, Q_X6_, Q_X7_, Q_X10_⟩ hb_ hon hoff
              refine ⟨_, rfl, fun K hK => ?_⟩
              have e49 : a.tmps[49]? = some (m6_) := by rw [ha]; exact putSel_on (e := (6, 49, m6_)) 5 rfl rfl (hon 6 (by kernel_rfl)) rfl
              rw [Q_X6_ (hon 6 (by kernel_rfl))] at e49
              replace ha := Aside0.mk ha
              have HO230 := Aside0.mk Q_HO230
              have BK236 := Aside0.mk Q_BK236
              have BK237 := Aside0.mk Q_BK237
              have HB := Aside0.mk Q_HB
              have HO240 := Aside0.mk (Q_HO240 (hon 1 (by kernel_rfl)))
              have HO243 := Aside0.mk (Q_HO243 (hon 4 (by kernel_rfl)))
              have HO248 := Aside0.mk (Q_HO248 (hon 5 (by kernel_rfl)))
              obtain ⟨Ao9_0, co9_0, eo_⟩ := Kd.R_slice HO248.out
              subst eo_
              refine value_ (w1 := w') (v := .int .i64 t246) (by rfl) rfl ?_ ?_
              · go_simp
                (try simp only [i64_w])
                try rfl
              refine hK.out _ _ ⟨v239, v242, .slice Ao9_0 t244.length co9_0, m5_, m6_, m7_, m10_, (by rw [ha.out]; exact putSel_upk 8 hb_ rfl rfl rfl), Q_HO230, Q_BK236, Q_BK237, Q_HB, Q_HO240, Q_HO243, Q_HO248, Q_X5_, Q_X6_, Q_X7_, Q_X10_⟩
            refine steps_cons ?_ ?_
            · rintro b a w' ⟨v239, v242, v247, m5_, m6_, m7_, m10_, ha, Q_HO230, Q_BK236, Q_BK237, Q_HB, Q_HO240, Q_HO243, Q_HO248, Q_X5_, Q_X6_, Q_X7_, Q_X10_⟩ hb_ hon hoff
              refine ⟨_, rfl, fun K hK => ?_⟩
              have e56 : a.tmps[56]? = some (m7_) := by rw [ha]; exact putSel_on (e := (7, 56, m7_)) 6 rfl rfl (hon 7 (by kernel_rfl)) rfl
              rw [Q_X7_ (hon 7 (by kernel_rfl))] at e56
              replace ha := Aside0.mk ha
              have HO230 := Aside0.mk Q_HO230
              have BK236 := Aside0.mk Q_BK236
              have BK237 := Aside0.mk Q_BK237
              have HB := Aside0.mk Q_HB
              have HO240 := Aside0.mk (Q_HO240 (hon 1 (by kernel_rfl)))
              have HO243 := Aside0.mk (Q_HO243 (hon 4 (by kernel_rfl)))
              have HO248 := Aside0.mk (Q_HO248 (hon 5 (by kernel_rfl)))
              refine value_ (w1 := w') (v := v247) (by rfl) rfl ?_ ?_
              · go_simp
                (try simp only [i64_w])
                try rfl
              refine hK.out _ _ ⟨v239, v242, v247, m5_, m6_, m7_, (v247), (by rw [ha.out]; exact putSel_upk 9 hb_ rfl rfl rfl), Q_HO230, Q_BK236, Q_BK237, Q_HB, Q_HO240, Q_HO243, Q_HO248, Q_X5_, Q_X6_, Q_X7_, fun _ => rfl⟩
            refine steps_cons ?_ ?_
            · rintro b a w' ⟨v239, v242, v247, m5_, m6_, m7_, m10_, ha, Q_HO230, Q_BK236, Q_BK237, Q_HB, Q_HO240, Q_HO243, Q_HO248, Q_X5_, Q_X6_, Q_X7_, Q_X10_⟩ hb_ hon hoff
              refine ⟨_, rfl, fun K hK => ?_⟩
              have e57 : a.tmps[57]? = some (.int .i64 t245) := by rw [ha]; exact putSel_on (e := (8, 57, .int .i64 t245)) 7 rfl rfl (hon 8 (by kernel_rfl)) rfl
              replace ha := Aside0.mk ha
              have HO230 := Aside0.mk Q_HO230
              have BK236 := Aside0.mk Q_BK236
              have BK237 := Aside0.mk Q_BK237
              have HB := Aside0.mk Q_HB
              have HO240 := Aside0.mk (Q_HO240 (hon 1 (by kernel_rfl)))
              have HO243 := Aside0.mk (Q_HO243 (hon 4 (by kernel_rfl)))
              have HO248 := Aside0.mk (Q_HO248 (hon 5 (by kernel_rfl)))
              refine value_ (w1 := w') (v := .int .i64 t245) (by rfl) rfl ?_ ?_
              · go_simp
                (try simp only [i64_w])
                try rfl
              refine hK.out _ _ ⟨v239, v242, v247, m5_, m6_, m7_, m10_, (by rw [ha.out]; exact putSel_upk 10 hb_ rfl rfl rfl), Q_HO230, Q_BK236, Q_BK237, Q_HB, Q_HO240, Q_HO243, Q_HO248, Q_X5_, Q_X6_, Q_X7_, Q_X10_⟩
            refine steps_cons ?_ ?_
            · rintro b a w' ⟨v239, v242, v247, m5_, m6_, m7_, m10_, ha, Q_HO230, Q_BK236, Q_BK237, Q_HB, Q_HO240, Q_HO243, Q_HO248, Q_X5_, Q_X6_, Q_X7_, Q_X10_⟩ hb_ hon hoff
              refine ⟨_, rfl, fun K hK => ?_⟩
              have e58 : a.tmps[58]? = some (.int .i64 t246) := by rw [ha]; exact putSel_on (e := (9, 58, .int .i64 t246)) 8 rfl rfl (hon 9 (by kernel_rfl)) rfl
              replace ha := Aside0.mk ha
              have HO230 := Aside0.mk Q_HO230
              have BK236 := Aside0.mk Q_BK236
              have BK237 := Aside0.mk Q_BK237
              have HB := Aside0.mk Q_HB
              have HO240 := Aside0.mk (Q_HO240 (hon 1 (by kernel_rfl)))
              have HO243 := Aside0.mk (Q_HO243 (hon 4 (by kernel_rfl)))
              have HO248 := Aside0.mk (Q_HO248 (hon 5 (by kernel_rfl)))
              refine value_ (w1 := w') (v := .int .i64 t246) (by rfl) rfl ?_ ?_
              · go_simp
                (try simp only [i64_w])
                try rfl
              refine hK.out _ _ ⟨v239, v242, v247, m5_, m6_, m7_, m10_, (by rw [ha.out]; exact putSel_upk 11 hb_ rfl rfl rfl), Q_HO230, Q_BK236, Q_BK237, Q_HB, Q_HO240, Q_HO243, Q_HO248, Q_X5_, Q_X6_, Q_X7_, Q_X10_⟩
            exact steps_nil
          rintro b a w38 hall ⟨v239, v242, v247, m5_, m6_, m7_, m10_, ha, Q_HO230, Q_BK236, Q_BK237, Q_HB, Q_HO240, Q_HO243, Q_HO248, Q_X5_, Q_X6_, Q_X7_, Q_X10_⟩
          clear BK236 BK237 HB HO230
          have hb1_ := hall 1 (by kernel_rfl)
          have hb2_ := hall 2 (by kernel_rfl)
          have hb3_ := hall 3 (by kernel_rfl)
          have hb4_ := hall 4 (by kernel_rfl)
          have hb5_ := hall 5 (by kernel_rfl)
          have hb6_ := hall 6 (by kernel_rfl)
          have hb7_ := hall 7 (by kernel_rfl)
          have hb8_ := hall 8 (by kernel_rfl)
          have hb9_ := hall 9 (by kernel_rfl)
          have hb10_ := hall 10 (by kernel_rfl)
          have hb11_ := hall 11 (by kernel_rfl)
          have hb12_ := hall 12 (by kernel_rfl)
          subst ha
          have e5_ := Q_X5_ hb5_
          subst m5_
          have e6_ := Q_X6_ hb6_
          subst m6_
          have e7_ := Q_X7_ hb7_
          subst m7_
          have e10_ := Q_X10_ hb10_
          subst m10_
          simp only [putSel, hb1_, hb2_, hb3_, hb4_, hb5_, hb6_, hb7_, hb8_, hb9_, hb10_, hb11_, hb12_, if_true, Act.put, List.setIfInBounds_toArray, List.set_cons_zero, List.set_cons_succ]
          have HO230 := Aside0.mk Q_HO230
          clear Q_HO230
          have BK236 := Aside0.mk Q_BK236
          clear Q_BK236
          have BK237 := Aside0.mk Q_BK237
          clear Q_BK237
          have HB := Aside0.mk Q_HB
          clear Q_HB
          have HO240 := Aside0.mk (Q_HO240 hb1_)
          clear Q_HO240
          have HO243 := Aside0.mk (Q_HO243 hb4_)
          clear Q_HO243
          have HO248 := Aside0.mk (Q_HO248 hb5_)
          clear Q_HO248
          clear hall hb1_ hb2_ hb3_ hb4_ hb5_ hb6_ hb7_ hb8_ hb9_ hb10_ hb11_ hb12_
          try go_wp2
          have n0_ := Aside0.mk (Kd.R_drew HO230.out)
          have n1_ := Aside0.mk (Kd.R_drew HO240.out)
          have n2_ := Aside0.mk (Kd.R_drew HO243.out)
          have n3_ := Aside0.mk (Kd.R_drew HO248.out)
          have n4_ := Aside0.mk (blk_drew BK236.out)
          have n5_ := Aside0.mk (blk_drew BK237.out)
          have n6_ := Aside0.mk (below_drew1 HB.out)
          clear HO230
          clear HO240
          clear HO243
          clear HO248
          clear BK236
          clear BK237
          clear HB
          have HO230 := n0_
          have HO240 := n1_
          have HO243 := n2_
          have HO248 := n3_
          have BK236 := n4_
          have BK237 := n5_
          have HB := n6_
          clear n0_ n1_ n2_ n3_ n4_ n5_ n6_
          refine start_ (n := 13) (S := fun w' => True) (ds := []) #[false, false, false, false, false, false, false, false, false, false, false, false, false] (by kernel_rfl) rfl rfl trivial (fun hHeld => ?_); refine with_tabW headgatelaw16_RoleSwaps.tab8 headgatelaw16_RoleSwaps.bits8 (fun HT_ HW_ => ?_)
          generalize w38.drew = w39 at HO230 HO240 HO243 HO248 BK236 BK237 HB hHeld ⊢
          refine pure_ (i := 0) (N := some 60) (v := ?_) (a' := ?_) #[true, false, false, false, false, false, false, false, false, false, false, false, false] rfl rfl (any_of HT_.out (by kernel_rfl)) (fun _ _ _ h => h) (Or.inl ⟨by rfl, ?_⟩) ?_ ?_
          rotate_left
          · intro w'
            go_simp
            with_reducible rfl
          rotate_left
          · simp only [Act.put, List.setIfInBounds_toArray, List.set_cons_zero, List.set_cons_succ, i64_w, i32_w]
            rfl
          refine inv_at [1, 2, 3, 4, 5, 6, 7, 8, 9, 10, 11, 12] (fun a0_ b a w' => ∃ (v250 : Value) (v253 : Value) (v258 : Value) (m5_ : Value) (m6_ : Value) (m7_ : Value) (m10_ : Value), a = putSel a0_ b [(1, 61, v250), (2, 62, .agg #[.int .i64 (Int.tmod (wrap64 ((wrap64 (t232 + 1)) + t233)) (t228.length : Int)), .int .i64 t235]), (3, 63, .agg #[.int .i64 t232, .int .i64 t234]), (4, 64, v253), (5, 65, m5_), (6, 59, m6_), (7, 66, m7_), (8, 67, .int .i64 t256), (9, 68, .int .i64 t257), (10, 15, m10_), (11, 16, .int .i64 t256), (12, 17, .int .i64 t257)] ∧ (Kd.R (Kd.int .i64) 3 w' w.heap.size (fun _ => True) (.slice Ao24 t228.length co24) t228) ∧ (Kd.R (Kd.int .i64) 3 w' w.heap.size (fun _ => True) v239 t238) ∧ (Kd.R k42 42 w' w.heap.size (fun k_ => k_ ≠ gb236 ∧ k_ ≠ gb237) v242 y241) ∧ (Kd.R (Kd.int .i64) 3 w' w.heap.size (fun _ => True) v247 t244) ∧ (w'.heap[gb236]? = some (.cells #[.int .i64 t232, .int .i64 t234] 42 (0, 0))) ∧ (w'.heap[gb237]? = some (.cells #[.int .i64 (Int.tmod (wrap64 ((wrap64 (t232 + 1)) + t233)) (t228.length : Int)), .int .i64 t235] 42 (0, 0))) ∧ (Below w.heap.size w w') ∧ (b 1 = true → Kd.R (Kd.int .i64) 3 w' w.heap.size (fun _ => True) v250 t249) ∧ (b 4 = true → Kd.R k42 42 w' w.heap.size (fun _ => True) v253 y252) ∧ (b 5 = true → Kd.R (Kd.int .i64) 3 w' w.heap.size (fun _ => True) v258 t255) ∧ (b 5 = true → (m5_ : Value) = .tuple #[v258, .int .i64 t256, .int .i64 t257]) ∧ (b 6 = true → (m6_ : Value) = .tuple #[v258, .int .i64 t256, .int .i64 t257]) ∧ (b 7 = true → (m7_ : Value) = v258) ∧ (b 10 = true → (m10_ : Value) = v258)) HT_.out HW_.out (by kernel_rfl) (by kernel_rfl) ?_ ?_ ?_
          · exact ⟨.bool false, .bool false, .bool false, .bool false, .bool false, .bool false, .bool false, by simp only [putSel, Bool.false_eq_true, if_false], HO230.out, HO240.out, HO243.out, HO248.out, BK236.out, BK237.out, HB.out, fun h_ => absurd h_ (by decide), fun h_ => absurd h_ (by decide), fun h_ => absurd h_ (by decide), fun h_ => absurd h_ (by decide), fun h_ => absurd h_ (by decide), fun h_ => absurd h_ (by decide), fun h_ => absurd h_ (by decide)⟩
          · skip
            clear BK236 BK237 HB HO230 HO240 HO243 HO248
            refine steps_cons ?_ ?_
            · rintro b a w' ⟨v250, v253, v258, m5_, m6_, m7_, m10_, ha, Q_HO230, Q_HO240, Q_HO243, Q_HO248, Q_BK236, Q_BK237, Q_HB, Q_HO251, Q_HO254, Q_HO259, Q_X5_, Q_X6_, Q_X7_, Q_X10_⟩ hb_ hon hoff
              refine ⟨_, rfl, fun K hK => ?_⟩
              have e60 : a.tmps[60]? = some (.slice Ao24 t228.length co24) := by rw [ha]; exact (putSel_off rfl).trans rfl
              replace ha := Aside0.mk ha
              have HO230 := Aside0.mk Q_HO230
              have HO240 := Aside0.mk Q_HO240
              have HO243 := Aside0.mk Q_HO243
              have HO248 := Aside0.mk Q_HO248
              have BK236 := Aside0.mk Q_BK236
              have BK237 := Aside0.mk Q_BK237
              have HB := Aside0.mk Q_HB
              refine goes_ Try.func24 (by kernel_rfl) rfl #[.slice Ao24 t228.length co24] (by rfl) rfl rfl (by first | (simp only [List.map_toArray, List.map_cons, List.map_nil, Act.eval, Array.getD_eq_getD_getElem?, Option.getD_some, e60]; done) | (simp only [List.map_toArray, List.map_cons, List.map_nil, Act.eval, Array.getD_eq_getD_getElem?, Option.getD_some, e60]; rfl)) ?_
              with_reducible refine (headgatekit_OwnInts.calls _ _ t228 t249 _ ?side1 ?side2 A17.out).mono ?_
              (case side1 => repeat (first | exact (Kd.R_reads' HO230.out).2.2 | (with_reducible refine Kd.C_alloc ?_ _) | (with_reducible refine Kd.C_drewN ?_ _) | (with_reducible refine Kd.C_drew ?_)))
              (case side2 => exact (Kd.R_reads' HO230.out).2.1)
              rintro e w40 ⟨v250, rfl, ho0, hb⟩
              refine ⟨_, rfl, ?_⟩
              have n0_ := Aside0.mk (Kd.R_elder' (by (with_reducible repeat (first | apply Kd.R_alloc | apply Kd.R_drewN | apply Kd.R_drew)); exact HO230.out) (Kd.R_base ho0) hb)
              have n1_ := Aside0.mk (Kd.R_elder' (by (with_reducible repeat (first | apply Kd.R_alloc | apply Kd.R_drewN | apply Kd.R_drew)); exact HO240.out) (Kd.R_base ho0) hb)
              have n2_ := Aside0.mk (Kd.R_below (by (with_reducible repeat (first | apply Kd.R_alloc | apply Kd.R_drewN | apply Kd.R_drew)); exact HO243.out) hb)
              have n3_ := Aside0.mk (Kd.R_elder' (by (with_reducible repeat (first | apply Kd.R_alloc | apply Kd.R_drewN | apply Kd.R_drew)); exact HO248.out) (Kd.R_base ho0) hb)
              have n4_ := Aside0.mk (Kd.R_lower (Kd.R_new' (Kd.R_new' (Kd.R_new' ho0 (Kd.R_lt (by (with_reducible repeat (first | apply Kd.R_alloc | apply Kd.R_drewN | apply Kd.R_drew)); exact HO230.out))) (Kd.R_lt (by (with_reducible repeat (first | apply Kd.R_alloc | apply Kd.R_drewN | apply Kd.R_drew)); exact HO240.out))) (Kd.R_lt (by (with_reducible repeat (first | apply Kd.R_alloc | apply Kd.R_drewN | apply Kd.R_drew)); exact HO248.out))) (below_size (by repeat (first | (with_reducible first | exact HB.out | apply below_alloc | apply pw_below_drewN | apply below_drew1 | refine below_set ?_ GE236.out | refine below_set ?_ GE237.out) | exact HB.out))))
              have n5_ := Aside0.mk (blk_below (g := gb236) (o := .cells #[.int .i64 t232, .int .i64 t234] 42 (0, 0)) (by (with_reducible repeat (first | refine blk_drewN ?_ _ | refine blk_drew ?_ | refine blk_alloc ?_ _)); exact BK236.out) hb)
              have n6_ := Aside0.mk (blk_below (g := gb237) (o := .cells #[.int .i64 (Int.tmod (wrap64 ((wrap64 (t232 + 1)) + t233)) (t228.length : Int)), .int .i64 t235] 42 (0, 0)) (by (with_reducible repeat (first | refine blk_drewN ?_ _ | refine blk_drew ?_ | refine blk_alloc ?_ _)); exact BK237.out) hb)
              have n7_ := Aside0.mk (below_step (by repeat (first | (with_reducible first | exact HB.out | apply below_alloc | apply pw_below_drewN | apply below_drew1 | refine below_set ?_ GE236.out | refine below_set ?_ GE237.out) | exact HB.out)) hb)
              have z_HO254 := fun (h0_ : b 4 = true) => (show Kd.R k42 42 w40 w.heap.size (fun _ => True) v253 y252 from by first | exact (Kd.R_below (by (with_reducible repeat (first | apply Kd.R_alloc | apply Kd.R_drewN | apply Kd.R_drew)); exact (Q_HO254 h0_)) hb) | exact Kd.R_mono (Kd.R_below (by (with_reducible repeat (first | apply Kd.R_alloc | apply Kd.R_drewN | apply Kd.R_drew)); exact (Q_HO254 h0_)) hb) (fun _ h_ => by first | trivial | exact h_ | exact h_.1))
              clear HO230
              clear HO240
              clear HO243
              clear HO248
              clear BK236
              clear BK237
              clear HB
              have HO230 := n0_
              have HO240 := n1_
              have HO243 := n2_
              have HO248 := n3_
              have HO251 := n4_
              have BK236 := n5_
              have BK237 := n6_
              have HB := n7_
              clear n0_ n1_ n2_ n3_ n4_ n5_ n6_ n7_
              (try clear hb)
              (try clear hb2)
              (try clear hk)
              (try clear hi)
              (try clear ho0)
              refine hK.out _ _ ⟨v250, v253, v258, m5_, m6_, m7_, m10_, (by rw [ha.out]; exact putSel_upk 0 hb_ rfl rfl rfl), (by (with_reducible repeat (first | apply Kd.R_alloc | apply Kd.R_drewN | apply Kd.R_drew)); exact Kd.R_mono HO230.out (fun _ hk => by first | trivial | exact hk | exact hk.1 | exact hk.2 | (constructor <;> (first | exact hk.1 | exact hk.2 | exact hk.1.1 | exact hk.1.2 | exact hk.2.1 | exact hk.2.2)))), (by (with_reducible repeat (first | apply Kd.R_alloc | apply Kd.R_drewN | apply Kd.R_drew)); exact Kd.R_mono HO240.out (fun _ hk => by first | trivial | exact hk | exact hk.1 | exact hk.2 | (constructor <;> (first | exact hk.1 | exact hk.2 | exact hk.1.1 | exact hk.1.2 | exact hk.2.1 | exact hk.2.2)))), (by (with_reducible repeat (first | apply Kd.R_alloc | apply Kd.R_drewN | apply Kd.R_drew)); exact HO243.out), (by (with_reducible repeat (first | apply Kd.R_alloc | apply Kd.R_drewN | apply Kd.R_drew)); exact Kd.R_mono HO248.out (fun _ hk => by first | trivial | exact hk | exact hk.1 | exact hk.2 | (constructor <;> (first | exact hk.1 | exact hk.2 | exact hk.1.1 | exact hk.1.2 | exact hk.2.1 | exact hk.2.2)))), (by (with_reducible repeat (first | refine blk_drewN ?_ _ | refine blk_drew ?_ | refine blk_alloc ?_ _)); exact BK236.out), (by (with_reducible repeat (first | refine blk_drewN ?_ _ | refine blk_drew ?_ | refine blk_alloc ?_ _)); exact BK237.out), (by repeat (first | (with_reducible first | exact HB.out | apply below_alloc | apply pw_below_drewN | apply below_drew1 | refine below_set ?_ GE236.out | refine below_set ?_ GE237.out) | exact HB.out)), fun _ => (by (with_reducible repeat (first | apply Kd.R_alloc | apply Kd.R_drewN | apply Kd.R_drew)); exact Kd.R_mono HO251.out (fun _ hk => by first | trivial | exact hk | exact hk.1 | exact hk.2 | (constructor <;> (first | exact hk.1 | exact hk.2 | exact hk.1.1 | exact hk.1.2 | exact hk.2.1 | exact hk.2.2)))), z_HO254, fun h0_ => absurd ((hoff 5 (by kernel_rfl)).symm.trans h0_) (by decide), fun h0_ => absurd ((hoff 5 (by kernel_rfl)).symm.trans h0_) (by decide), fun h0_ => absurd ((hoff 6 (by kernel_rfl)).symm.trans h0_) (by decide), fun h0_ => absurd ((hoff 7 (by kernel_rfl)).symm.trans h0_) (by decide), fun h0_ => absurd ((hoff 10 (by kernel_rfl)).symm.trans h0_) (by decide)⟩
            refine steps_cons ?_ ?_
            · rintro b a w' ⟨v250, v253, v258, m5_, m6_, m7_, m10_, ha, Q_HO230, Q_HO240, Q_HO243, Q_HO248, Q_BK236, Q_BK237, Q_HB, Q_HO251, Q_HO254, Q_HO259, Q_X5_, Q_X6_, Q_X7_, Q_X10_⟩ hb_ hon hoff
              refine ⟨_, rfl, fun K hK => ?_⟩
              have e11 : a.tmps[11]? = some (.pointer (some ⟨gb237, 0, none⟩)) := by rw [ha]; exact (putSel_off rfl).trans rfl
              replace ha := Aside0.mk ha
              have HO230 := Aside0.mk Q_HO230
              have HO240 := Aside0.mk Q_HO240
              have HO243 := Aside0.mk Q_HO243
              have HO248 := Aside0.mk Q_HO248
              have BK236 := Aside0.mk Q_BK236
              have BK237 := Aside0.mk Q_BK237
              have HB := Aside0.mk Q_HB
              have hc0_ : w'.cell? ⟨gb237, 0, none⟩ = some (.int .i64 (Int.tmod (wrap64 ((wrap64 (t232 + 1)) + t233)) (t228.length : Int))) := (blk_cell BK237.out 0).trans rfl
              have hc1_ : w'.cell? ⟨gb237, 1, none⟩ = some (.int .i64 t235) := (blk_cell BK237.out 1).trans rfl
              refine value_ (w1 := w') (v := .agg #[.int .i64 (Int.tmod (wrap64 ((wrap64 (t232 + 1)) + t233)) (t228.length : Int)), .int .i64 t235]) (by rfl) rfl ?_ ?_
              · go_simp
                (try simp only [i64_w])
                try rfl
              refine hK.out _ _ ⟨v250, v253, v258, m5_, m6_, m7_, m10_, (by rw [ha.out]; exact putSel_upk 1 hb_ rfl rfl rfl), Q_HO230, Q_HO240, Q_HO243, Q_HO248, Q_BK236, Q_BK237, Q_HB, Q_HO251, fun h0_ => absurd ((hoff 4 (by kernel_rfl)).symm.trans h0_) (by decide), fun h0_ => absurd ((hoff 5 (by kernel_rfl)).symm.trans h0_) (by decide), fun h0_ => absurd ((hoff 5 (by kernel_rfl)).symm.trans h0_) (by decide), fun h0_ => absurd ((hoff 6 (by kernel_rfl)).symm.trans h0_) (by decide), fun h0_ => absurd ((hoff 7 (by kernel_rfl)).symm.trans h0_) (by decide), fun h0_ => absurd ((hoff 10 (by kernel_rfl)).symm.trans h0_) (by decide)⟩
            refine steps_cons ?_ ?_
            · rintro b a w' ⟨v250, v253, v258, m5_, m6_, m7_, m10_, ha, Q_HO230, Q_HO240, Q_HO243, Q_HO248, Q_BK236, Q_BK237, Q_HB, Q_HO251, Q_HO254, Q_HO259, Q_X5_, Q_X6_, Q_X7_, Q_X10_⟩ hb_ hon hoff
              refine ⟨_, rfl, fun K hK => ?_⟩
              have e10 : a.tmps[10]? = some (.pointer (some ⟨gb236, 0, none⟩)) := by rw [ha]; exact (putSel_off rfl).trans rfl
              replace ha := Aside0.mk ha
              have HO230 := Aside0.mk Q_HO230
              have HO240 := Aside0.mk Q_HO240
              have HO243 := Aside0.mk Q_HO243
              have HO248 := Aside0.mk Q_HO248
              have BK236 := Aside0.mk Q_BK236
              have BK237 := Aside0.mk Q_BK237
              have HB := Aside0.mk Q_HB
              have hc0_ : w'.cell? ⟨gb236, 0, none⟩ = some (.int .i64 t232) := (blk_cell BK236.out 0).trans rfl
              have hc1_ : w'.cell? ⟨gb236, 1, none⟩ = some (.int .i64 t234) := (blk_cell BK236.out 1).trans rfl
              refine value_ (w1 := w') (v := .agg #[.int .i64 t232, .int .i64 t234]) (by rfl) rfl ?_ ?_
              · go_simp
                (try simp only [i64_w])
                try rfl
              refine hK.out _ _ ⟨v250, v253, v258, m5_, m6_, m7_, m10_, (by rw [ha.out]; exact putSel_upk 2 hb_ rfl rfl rfl), Q_HO230, Q_HO240, Q_HO243, Q_HO248, Q_BK236, Q_BK237, Q_HB, Q_HO251, fun h0_ => absurd ((hoff 4 (by kernel_rfl)).symm.trans h0_) (by decide), fun h0_ => absurd ((hoff 5 (by kernel_rfl)).symm.trans h0_) (by decide), fun h0_ => absurd ((hoff 5 (by kernel_rfl)).symm.trans h0_) (by decide), fun h0_ => absurd ((hoff 6 (by kernel_rfl)).symm.trans h0_) (by decide), fun h0_ => absurd ((hoff 7 (by kernel_rfl)).symm.trans h0_) (by decide), fun h0_ => absurd ((hoff 10 (by kernel_rfl)).symm.trans h0_) (by decide)⟩
            refine steps_cons ?_ ?_
            · rintro b a w' ⟨v250, v253, v258, m5_, m6_, m7_, m10_, ha, Q_HO230, Q_HO240, Q_HO243, Q_HO248, Q_BK236, Q_BK237, Q_HB, Q_HO251, Q_HO254, Q_HO259, Q_X5_, Q_X6_, Q_X7_, Q_X10_⟩ hb_ hon hoff
              refine ⟨_, rfl, fun K hK => ?_⟩
              have e62 : a.tmps[62]? = some (.agg #[.int .i64 (Int.tmod (wrap64 ((wrap64 (t232 + 1)) + t233)) (t228.length : Int)), .int .i64 t235]) := by rw [ha]; exact putSel_on (e := (2, 62, .agg #[.int .i64 (Int.tmod (wrap64 ((wrap64 (t232 + 1)) + t233)) (t228.length : Int)), .int .i64 t235])) 1 rfl rfl (hon 2 (by kernel_rfl)) rfl
              have e63 : a.tmps[63]? = some (.agg #[.int .i64 t232, .int .i64 t234]) := by rw [ha]; exact putSel_on (e := (3, 63, .agg #[.int .i64 t232, .int .i64 t234])) 2 rfl rfl (hon 3 (by kernel_rfl)) rfl
              replace ha := Aside0.mk ha
              have HO230 := Aside0.mk Q_HO230
              have HO240 := Aside0.mk Q_HO240
              have HO243 := Aside0.mk Q_HO243
              have HO248 := Aside0.mk Q_HO248
              have BK236 := Aside0.mk Q_BK236
              have BK237 := Aside0.mk Q_BK237
              have HB := Aside0.mk Q_HB
              refine Kd.R_lit_step k42 _ 42 ?hg (N := 64) ?hd (xs := ([(⟨Int.tmod (wrap64 ((wrap64 (t232 + 1)) + t233)) (t228.length : Int), t235⟩ : S42), (⟨t232, t234⟩ : S42)] : List (S42))) (inner := [.int .i64 (Int.tmod (wrap64 ((wrap64 (t232 + 1)) + t233)) (t228.length : Int)), .int .i64 t235, .int .i64 t232, .int .i64 t234]) (ok := fun _ => True) (okp := fun _ => True) ?hr ?hp (fun _ hk => hk) trivial (Below.refl _ _) (Nat.le_refl _) (by simp) ?_; (case hd => rfl); (case hg => rfl); (case hr => first | (go_simp; done) | (go_simp; rfl)); (case hp => exact (Reps.c2 (show Kd.M k42 _ _ _ (⟨Int.tmod (wrap64 ((wrap64 (t232 + 1)) + t233)) (t228.length : Int), t235⟩ : S42) [.int .i64 (Int.tmod (wrap64 ((wrap64 (t232 + 1)) + t233)) (t228.length : Int)), .int .i64 t235] from (k42_mkM _ _ _ (⟨Int.tmod (wrap64 ((wrap64 (t232 + 1)) + t233)) (t228.length : Int), t235⟩ : S42) )) (Reps.c2 (show Kd.M k42 _ _ _ (⟨t232, t234⟩ : S42) [.int .i64 t232, .int .i64 t234] from (k42_mkM _ _ _ (⟨t232, t234⟩ : S42) )) (Reps.none _ _))))
              intro v253 w40 ho41 hb hg_ hnew_
              clear hg_ hnew_
              (first | rw [← Ny252.out] at ho41 | (simp only [Int.reduceToNat] at ho41; rw [← Ny252.out] at ho41))
              have n0_ := Aside0.mk (Kd.R_below (by (with_reducible repeat (first | apply Kd.R_alloc | apply Kd.R_drewN | apply Kd.R_drew)); exact HO230.out) hb)
              have n1_ := Aside0.mk (Kd.R_below (by (with_reducible repeat (first | apply Kd.R_alloc | apply Kd.R_drewN | apply Kd.R_drew)); exact HO240.out) hb)
              have n2_ := Aside0.mk (Kd.R_elder' (by (with_reducible repeat (first | apply Kd.R_alloc | apply Kd.R_drewN | apply Kd.R_drew)); exact HO243.out) (Kd.R_base ho41) hb)
              have n3_ := Aside0.mk (Kd.R_below (by (with_reducible repeat (first | apply Kd.R_alloc | apply Kd.R_drewN | apply Kd.R_drew)); exact HO248.out) hb)
              have n4_ := Aside0.mk (Kd.R_lower (Kd.R_newB (Kd.R_newB (Kd.R_new' ho41 (Kd.R_lt (by (with_reducible repeat (first | apply Kd.R_alloc | apply Kd.R_drewN | apply Kd.R_drew)); exact HO243.out))) (g := gb236) (o := .cells #[.int .i64 t232, .int .i64 t234] 42 (0, 0)) (by (with_reducible repeat (first | refine blk_drewN ?_ _ | refine blk_drew ?_ | refine blk_alloc ?_ _)); exact BK236.out)) (g := gb237) (o := .cells #[.int .i64 (Int.tmod (wrap64 ((wrap64 (t232 + 1)) + t233)) (t228.length : Int)), .int .i64 t235] 42 (0, 0)) (by (with_reducible repeat (first | refine blk_drewN ?_ _ | refine blk_drew ?_ | refine blk_alloc ?_ _)); exact BK237.out)) (below_size (by repeat (first | (with_reducible first | exact HB.out | apply below_alloc | apply pw_below_drewN | apply below_drew1 | refine below_set ?_ GE236.out | refine below_set ?_ GE237.out) | exact HB.out))))
              have n5_ := Aside0.mk (blk_below (g := gb236) (o := .cells #[.int .i64 t232, .int .i64 t234] 42 (0, 0)) (by (with_reducible repeat (first | refine blk_drewN ?_ _ | refine blk_drew ?_ | refine blk_alloc ?_ _)); exact BK236.out) hb)
              have n6_ := Aside0.mk (blk_below (g := gb237) (o := .cells #[.int .i64 (Int.tmod (wrap64 ((wrap64 (t232 + 1)) + t233)) (t228.length : Int)), .int .i64 t235] 42 (0, 0)) (by (with_reducible repeat (first | refine blk_drewN ?_ _ | refine blk_drew ?_ | refine blk_alloc ?_ _)); exact BK237.out) hb)
              have n7_ := Aside0.mk (below_step (by repeat (first | (with_reducible first | exact HB.out | apply below_alloc | apply pw_below_drewN | apply below_drew1 | refine below_set ?_ GE236.out | refine below_set ?_ GE237.out) | exact HB.out)) hb)
              have z_HO251 := fun (h0_ : b 1 = true) => (show Kd.R (Kd.int .i64) 3 w40 w.heap.size (fun _ => True) v250 t249 from by first | exact (Kd.R_below (by (with_reducible repeat (first | apply Kd.R_alloc | apply Kd.R_drewN | apply Kd.R_drew)); exact (Q_HO251 h0_)) hb) | exact Kd.R_mono (Kd.R_below (by (with_reducible repeat (first | apply Kd.R_alloc | apply Kd.R_drewN | apply Kd.R_drew)); exact (Q_HO251 h0_)) hb) (fun _ h_ => by first | trivial | exact h_ | exact h_.1))
              clear HO230
              clear HO240
              clear HO243
              clear HO248
              clear BK236
              clear BK237
              clear HB
              have HO230 := n0_
              have HO240 := n1_
              have HO243 := n2_
              have HO248 := n3_
              have HO254 := n4_
              have BK236 := n5_
              have BK237 := n6_
              have HB := n7_
              clear n0_ n1_ n2_ n3_ n4_ n5_ n6_ n7_
              clear hb ho41
              refine hK.out _ _ ⟨v250, v253, v258, m5_, m6_, m7_, m10_, (by rw [ha.out]; exact putSel_upk 3 hb_ rfl rfl rfl), (by (with_reducible repeat (first | apply Kd.R_alloc | apply Kd.R_drewN | apply Kd.R_drew)); exact HO230.out), (by (with_reducible repeat (first | apply Kd.R_alloc | apply Kd.R_drewN | apply Kd.R_drew)); exact HO240.out), (by (with_reducible repeat (first | apply Kd.R_alloc | apply Kd.R_drewN | apply Kd.R_drew)); exact Kd.R_mono HO243.out (fun _ hk => by first | trivial | exact hk | exact hk.1 | exact hk.2 | (constructor <;> (first | exact hk.1 | exact hk.2 | exact hk.1.1 | exact hk.1.2 | exact hk.2.1 | exact hk.2.2)))), (by (with_reducible repeat (first | apply Kd.R_alloc | apply Kd.R_drewN | apply Kd.R_drew)); exact HO248.out), (by (with_reducible repeat (first | refine blk_drewN ?_ _ | refine blk_drew ?_ | refine blk_alloc ?_ _)); exact BK236.out), (by (with_reducible repeat (first | refine blk_drewN ?_ _ | refine blk_drew ?_ | refine blk_alloc ?_ _)); exact BK237.out), (by repeat (first | (with_reducible first | exact HB.out | apply below_alloc | apply pw_below_drewN | apply below_drew1 | refine below_set ?_ GE236.out | refine below_set ?_ GE237.out) | exact HB.out)), z_HO251, fun _ => (by (with_reducible repeat (first | apply Kd.R_alloc | apply Kd.R_drewN | apply Kd.R_drew)); exact Kd.R_mono HO254.out (fun _ hk => by first | trivial | exact hk | exact hk.1 | exact hk.2 | (constructor <;> (first | exact hk.1 | exact hk.2 | exact hk.1.1 | exact hk.1.2 | exact hk.2.1 | exact hk.2.2)))), fun h0_ => absurd ((hoff 5 (by kernel_rfl)).symm.trans h0_) (by decide), fun h0_ => absurd ((hoff 5 (by kernel_rfl)).symm.trans h0_) (by decide), fun h0_ => absurd ((hoff 6 (by kernel_rfl)).symm.trans h0_) (by decide), fun h0_ => absurd ((hoff 7 (by kernel_rfl)).symm.trans h0_) (by decide), fun h0_ => absurd ((hoff 10 (by kernel_rfl)).symm.trans h0_) (by decide)⟩
            refine steps_cons ?_ ?_
            · rintro b a w' ⟨v250, v253, v258, m5_, m6_, m7_, m10_, ha, Q_HO230, Q_HO240, Q_HO243, Q_HO248, Q_BK236, Q_BK237, Q_HB, Q_HO251, Q_HO254, Q_HO259, Q_X5_, Q_X6_, Q_X7_, Q_X10_⟩ hb_ hon hoff
              refine ⟨_, rfl, fun K hK => ?_⟩
              have e61 : a.tmps[61]? = some (v250) := by rw [ha]; exact putSel_on (e := (1, 61, v250)) 0 rfl rfl (hon 1 (by kernel_rfl)) rfl
              have e64 : a.tmps[64]? = some (v253) := by rw [ha]; exact putSel_on (e := (4, 64, v253)) 3 rfl rfl (hon 4 (by kernel_rfl)) rfl
              replace ha := Aside0.mk ha
              have HO230 := Aside0.mk Q_HO230
              have HO240 := Aside0.mk Q_HO240
              have HO243 := Aside0.mk Q_HO243
              have HO248 := Aside0.mk Q_HO248
              have BK236 := Aside0.mk Q_BK236
              have BK237 := Aside0.mk Q_BK237
              have HB := Aside0.mk Q_HB
              have HO251 := Aside0.mk (Q_HO251 (hon 1 (by kernel_rfl)))
              have HO254 := Aside0.mk (Q_HO254 (hon 4 (by kernel_rfl)))
              obtain ⟨Ao44, co44, eo44⟩ := Kd.R_slice HO251.out
              (first | subst eo44 | (injection eo44 with f1_ f2_ f3_; have f4_ := f1_.symm; have f5_ := f3_.symm; clear f1_ f2_ f3_; subst f4_; subst f5_))
              obtain ⟨Ao45, co45, eo45⟩ := Kd.R_slice HO254.out
              (first | subst eo45 | (injection eo45 with f1_ f2_ f3_; have f4_ := f1_.symm; have f5_ := f3_.symm; clear f1_ f2_ f3_; subst f4_; subst f5_))
              refine goes_ Try.func23 (by kernel_rfl) rfl #[.slice Ao44 t249.length co44, .slice Ao45 y252.length co45] (by rfl) rfl rfl (by first | (simp only [List.map_toArray, List.map_cons, List.map_nil, Act.eval, Array.getD_eq_getD_getElem?, Option.getD_some, e61, e64]; done) | (simp only [List.map_toArray, List.map_cons, List.map_nil, Act.eval, Array.getD_eq_getD_getElem?, Option.getD_some, e61, e64]; rfl)) ?_
              with_reducible refine (role_Run.calls k _ _ t249 _ _ y252 t255 t256 t257 _ ?side1 ?side2 ?side3 ?side4 A18.out).mono ?_
              (case side1 => repeat (first | exact (Kd.R_reads' HO251.out).2.2 | (with_reducible refine Kd.C_alloc ?_ _) | (with_reducible refine Kd.C_drewN ?_ _) | (with_reducible refine Kd.C_drew ?_)))
              (case side2 => exact (Kd.R_reads' HO251.out).2.1)
              (case side3 => repeat (first | exact (Kd.R_reads' HO254.out).2.2 | (with_reducible refine Kd.C_alloc ?_ _) | (with_reducible refine Kd.C_drewN ?_ _) | (with_reducible refine Kd.C_drew ?_)))
              (case side4 => exact (Kd.R_reads' HO254.out).2.1)
              rintro e w46 ⟨v258, rfl, ho0, hb⟩
              refine ⟨_, rfl, ?_⟩
              have n0_ := Aside0.mk (Kd.R_elder' (by (with_reducible repeat (first | apply Kd.R_alloc | apply Kd.R_drewN | apply Kd.R_drew)); exact HO230.out) (Kd.R_base ho0) hb)
              have n1_ := Aside0.mk (Kd.R_elder' (by (with_reducible repeat (first | apply Kd.R_alloc | apply Kd.R_drewN | apply Kd.R_drew)); exact HO240.out) (Kd.R_base ho0) hb)
              have n2_ := Aside0.mk (Kd.R_below (by (with_reducible repeat (first | apply Kd.R_alloc | apply Kd.R_drewN | apply Kd.R_drew)); exact HO243.out) hb)
              have n3_ := Aside0.mk (Kd.R_elder' (by (with_reducible repeat (first | apply Kd.R_alloc | apply Kd.R_drewN | apply Kd.R_drew)); exact HO248.out) (Kd.R_base ho0) hb)
              have n4_ := Aside0.mk (Kd.R_elder' (by (with_reducible repeat (first | apply Kd.R_alloc | apply Kd.R_drewN | apply Kd.R_drew)); exact HO251.out) (Kd.R_base ho0) hb)
              have n5_ := Aside0.mk (Kd.R_below (by (with_reducible repeat (first | apply Kd.R_alloc | apply Kd.R_drewN | apply Kd.R_drew)); exact HO254.out) hb)
              have n6_ := Aside0.mk (Kd.R_lower (Kd.R_new' (Kd.R_new' (Kd.R_new' (Kd.R_new' ho0 (Kd.R_lt (by (with_reducible repeat (first | apply Kd.R_alloc | apply Kd.R_drewN | apply Kd.R_drew)); exact HO230.out))) (Kd.R_lt (by (with_reducible repeat (first | apply Kd.R_alloc | apply Kd.R_drewN | apply Kd.R_drew)); exact HO240.out))) (Kd.R_lt (by (with_reducible repeat (first | apply Kd.R_alloc | apply Kd.R_drewN | apply Kd.R_drew)); exact HO248.out))) (Kd.R_lt (by (with_reducible repeat (first | apply Kd.R_alloc | apply Kd.R_drewN | apply Kd.R_drew)); exact HO251.out))) (below_size (by repeat (first | (with_reducible first | exact HB.out | apply below_alloc | apply pw_below_drewN | apply below_drew1 | refine below_set ?_ GE236.out | refine below_set ?_ GE237.out) | exact HB.out))))
              have n7_ := Aside0.mk (blk_below (g := gb236) (o := .cells #[.int .i64 t232, .int .i64 t234] 42 (0, 0)) (by (with_reducible repeat (first | refine blk_drewN ?_ _ | refine blk_drew ?_ | refine blk_alloc ?_ _)); exact BK236.out) hb)
              have n8_ := Aside0.mk (blk_below (g := gb237) (o := .cells #[.int .i64 (Int.tmod (wrap64 ((wrap64 (t232 + 1)) + t233)) (t228.length : Int)), .int .i64 t235] 42 (0, 0)) (by (with_reducible repeat (first | refine blk_drewN ?_ _ | refine blk_drew ?_ | refine blk_alloc ?_ _)); exact BK237.out) hb)
              have n9_ := Aside0.mk (below_step (by repeat (first | (with_reducible first | exact HB.out | apply below_alloc | apply pw_below_drewN | apply below_drew1 | refine below_set ?_ GE236.out | refine below_set ?_ GE237.out) | exact HB.out)) hb)
              clear HO230
              clear HO240
              clear HO243
              clear HO248
              clear HO251
              clear HO254
              clear BK236
              clear BK237
              clear HB
              have HO230 := n0_
              have HO240 := n1_
              have HO243 := n2_
              have HO248 := n3_
              have HO251 := n4_
              have HO254 := n5_
              have HO259 := n6_
              have BK236 := n7_
              have BK237 := n8_
              have HB := n9_
              clear n0_ n1_ n2_ n3_ n4_ n5_ n6_ n7_ n8_ n9_
              (try clear hb)
              (try clear hb2)
              (try clear hk)
              (try clear hi)
              (try clear ho0)
              refine hK.out _ _ ⟨.slice Ao44 t249.length co44, .slice Ao45 y252.length co45, v258, (.tuple #[v258, .int .i64 t256, .int .i64 t257]), m6_, m7_, m10_, (by rw [ha.out]; exact putSel_upk 4 hb_ rfl rfl rfl), (by (with_reducible repeat (first | apply Kd.R_alloc | apply Kd.R_drewN | apply Kd.R_drew)); exact Kd.R_mono HO230.out (fun _ hk => by first | trivial | exact hk | exact hk.1 | exact hk.2 | (constructor <;> (first | exact hk.1 | exact hk.2 | exact hk.1.1 | exact hk.1.2 | exact hk.2.1 | exact hk.2.2)))), (by (with_reducible repeat (first | apply Kd.R_alloc | apply Kd.R_drewN | apply Kd.R_drew)); exact Kd.R_mono HO240.out (fun _ hk => by first | trivial | exact hk | exact hk.1 | exact hk.2 | (constructor <;> (first | exact hk.1 | exact hk.2 | exact hk.1.1 | exact hk.1.2 | exact hk.2.1 | exact hk.2.2)))), (by (with_reducible repeat (first | apply Kd.R_alloc | apply Kd.R_drewN | apply Kd.R_drew)); exact HO243.out), (by (with_reducible repeat (first | apply Kd.R_alloc | apply Kd.R_drewN | apply Kd.R_drew)); exact Kd.R_mono HO248.out (fun _ hk => by first | trivial | exact hk | exact hk.1 | exact hk.2 | (constructor <;> (first | exact hk.1 | exact hk.2 | exact hk.1.1 | exact hk.1.2 | exact hk.2.1 | exact hk.2.2)))), (by (with_reducible repeat (first | refine blk_drewN ?_ _ | refine blk_drew ?_ | refine blk_alloc ?_ _)); exact BK236.out), (by (with_reducible repeat (first | refine blk_drewN ?_ _ | refine blk_drew ?_ | refine blk_alloc ?_ _)); exact BK237.out), (by repeat (first | (with_reducible first | exact HB.out | apply below_alloc | apply pw_below_drewN | apply below_drew1 | refine below_set ?_ GE236.out | refine below_set ?_ GE237.out) | exact HB.out)), fun _ => (by (with_reducible repeat (first | apply Kd.R_alloc | apply Kd.R_drewN | apply Kd.R_drew)); exact Kd.R_mono HO251.out (fun _ hk => by first | trivial | exact hk | exact hk.1 | exact hk.2 | (constructor <;> (first | exact hk.1 | exact hk.2 | exact hk.1.1 | exact hk.1.2 | exact hk.2.1 | exact hk.2.2)))), fun _ => (by (with_reducible repeat (first | apply Kd.R_alloc | apply Kd.R_drewN | apply Kd.R_drew)); exact HO254.out), fun _ => (by (with_reducible repeat (first | apply Kd.R_alloc | apply Kd.R_drewN | apply Kd.R_drew)); exact Kd.R_mono HO259.out (fun _ hk => by first | trivial | exact hk | exact hk.1 | exact hk.2 | (constructor <;> (first | exact hk.1 | exact hk.2 | exact hk.1.1 | exact hk.1.2 | exact hk.2.1 | exact hk.2.2)))), fun _ => rfl, fun h0_ => absurd ((hoff 6 (by kernel_rfl)).symm.trans h0_) (by decide), fun h0_ => absurd ((hoff 7 (by kernel_rfl)).symm.trans h0_) (by decide), fun h0_ => absurd ((hoff 10 (by kernel_rfl)).symm.trans h0_) (by decide)⟩
            refine steps_cons ?_ ?_
            · rintro b a w' ⟨v250, v253, v258, m5_, m6_, m7_, m10_, ha, Q_HO230, Q_HO240, Q_HO243, Q_HO248, Q_BK236, Q_BK237, Q_HB, Q_HO251, Q_HO254, Q_HO259, Q_X5_, Q_X6_, Q_X7_, Q_X10_⟩ hb_ hon hoff
              refine ⟨_, rfl, fun K hK => ?_⟩
              have e65 : a.tmps[65]? = some (m5_) := by rw [ha]; exact putSel_on (e := (5, 65, m5_)) 4 rfl rfl (hon 5 (by kernel_rfl)) rfl
              rw [Q_X5_ (hon 5 (by kernel_rfl))] at e65
              replace ha := Aside0.mk ha
              have HO230 := Aside0.mk Q_HO230
              have HO240 := Aside0.mk Q_HO240
              have HO243 := Aside0.mk Q_HO243
              have HO248 := Aside0.mk Q_HO248
              have BK236 := Aside0.mk Q_BK236
              have BK237 := Aside0.mk Q_BK237
              have HB := Aside0.mk Q_HB
              have HO251 := Aside0.mk (Q_HO251 (hon 1 (by kernel_rfl)))
              have HO254 := Aside0.mk (Q_HO254 (hon 4 (by kernel_rfl)))
              have HO259 := Aside0.mk (Q_HO259 (hon 5 (by kernel_rfl)))
              refine value_ (w1 := w') (v := .tuple #[v258, .int .i64 t256, .int .i64 t257]) (by rfl) rfl ?_ ?_
              · go_simp
                (try simp only [i64_w])
                try rfl
              refine hK.out _ _ ⟨v250, v253, v258, m5_, (.tuple #[v258, .int .i64 t256, .int .i64 t257]), m7_, m10_, (by rw [ha.out]; exact putSel_upk 5 hb_ rfl rfl rfl), Q_HO230, Q_HO240, Q_HO243, Q_HO248, Q_BK236, Q_BK237, Q_HB, Q_HO251, Q_HO254, Q_HO259, Q_X5_, fun _ => rfl, fun h0_ => absurd ((hoff 7 (by kernel_rfl)).symm.trans h0_) (by decide), fun h0_ => absurd ((hoff 10 (by kernel_rfl)).symm.trans h0_) (by decide)⟩
            refine steps_cons ?_ ?_
            · rintro b a w' ⟨v250, v253, v258, m5_, m6_, m7_, m10_, ha, Q_HO230, Q_HO240, Q_HO243, Q_HO248, Q_BK236, Q_BK237, Q_HB, Q_HO251, Q_HO254, Q_HO259, Q_X5_, Q_X6_, Q_X7_, Q_X10_⟩ hb_ hon hoff
              refine ⟨_, rfl, fun K hK => ?_⟩
              have e59 : a.tmps[59]? = some (m6_) := by rw [ha]; exact putSel_on (e := (6, 59, m6_)) 5 rfl rfl (hon 6 (by kernel_rfl)) rfl
              rw [Q_X6_ (hon 6 (by kernel_rfl))] at e59
              replace ha := Aside0.mk ha
              have HO230 := Aside0.mk Q_HO230
              have HO240 := Aside0.mk Q_HO240
              have HO243 := Aside0.mk Q_HO243
              have HO248 := Aside0.mk Q_HO248
              have BK236 := Aside0.mk Q_BK236
              have BK237 := Aside0.mk Q_BK237
              have HB := Aside0.mk Q_HB
              have HO251 := Aside0.mk (Q_HO251 (hon 1 (by kernel_rfl)))
              have HO254 := Aside0.mk (Q_HO254 (hon 4 (by kernel_rfl)))
              have HO259 := Aside0.mk (Q_HO259 (hon 5 (by kernel_rfl)))
              obtain ⟨Ao7_0, co7_0, eo_⟩ := Kd.R_slice HO259.out
              subst eo_
              refine value_ (w1 := w') (v := .slice Ao7_0 t255.length co7_0) (by rfl) rfl ?_ ?_
              · go_simp
                (try simp only [i64_w])
                try rfl
              refine hK.out _ _ ⟨v250, v253, .slice Ao7_0 t255.length co7_0, m5_, m6_, (.slice Ao7_0 t255.length co7_0), m10_, (by rw [ha.out]; exact putSel_upk 6 hb_ rfl rfl rfl), Q_HO230, Q_HO240, Q_HO243, Q_HO248, Q_BK236, Q_BK237, Q_HB, Q_HO251, Q_HO254, Q_HO259, Q_X5_, Q_X6_, fun _ => rfl, fun h0_ => absurd ((hoff 10 (by kernel_rfl)).symm.trans h0_) (by decide)⟩
            refine steps_cons ?_ ?_
            · rintro b a w' ⟨v250, v253, v258, m5_, m6_, m7_, m10_, ha, Q_HO230, Q_HO240, Q_HO243, Q_HO248, Q_BK236, Q_BK237, Q_HB, Q_HO251, Q_HO254, Q_HO259, Q_X5_, Q_X6_, Q_X7_, Q_X10_⟩ hb_ hon hoff
              refine ⟨_, rfl, fun K hK => ?_⟩
              have e59 : a.tmps[59]? = some (m6_) := by rw [ha]; exact putSel_on (e := (6, 59, m6_)) 5 rfl rfl (hon 6 (by kernel_rfl)) rfl
              rw [Q_X6_ (hon 6 (by kernel_rfl))] at e59
              replace ha := Aside0.mk ha
              have HO230 := Aside0.mk Q_HO230
              have HO240 := Aside0.mk Q_HO240
              have HO243 := Aside0.mk Q_HO243
              have HO248 := Aside0.mk Q_HO248
              have BK236 := Aside0.mk Q_BK236
              have BK237 := Aside0.mk Q_BK237
              have HB := Aside0.mk Q_HB
              have HO251 := Aside0.mk (Q_HO251 (hon 1 (by kernel_rfl)))
              have HO254 := Aside0.mk (Q_HO254 (hon 4 (by kernel_rfl)))
              have HO259 := Aside0.mk (Q_HO259 (hon 5 (by kernel_rfl)))
              obtain ⟨Ao8_0, co8_0, eo_⟩ := Kd.R_slice HO259.out
              subst eo_
              refine value_ (w1 := w') (v := .int .i64 t256) (by rfl) rfl ?_ ?_
              · go_simp
                (try simp only [i64_w])
                try rfl
              refine hK.out _ _ ⟨v250, v253, .slice Ao8_0 t255.length co8_0, m5_, m6_, m7_, m10_, (by rw [ha.out]; exact putSel_upk 7 hb_ rfl rfl rfl), Q_HO230, Q_HO240, Q_HO243, Q_HO248, Q_BK236, Q_BK237, Q_HB, Q_HO251, Q_HO254, Q_HO259, Q_X5_, Q_X6_, Q_X7_, Q_X10_⟩
            refine steps_cons ?_ ?_
            · rintro b a w' ⟨v250, v253, v258, m5_, m6_, m7_, m10_, ha, Q_HO230, Q_HO240, Q_HO243, Q_HO248, Q_BK236, Q_BK237, Q_HB, Q_HO251, Q_HO254, Q_HO259, Q_X5_, Q_X6_, Q_X7_, Q_X10_⟩ hb_ hon hoff
              refine ⟨_, rfl, fun K hK => ?_⟩
              have e59 : a.tmps[59]? = some (m6_) := by rw [ha]; exact putSel_on (e := (6, 59, m6_)) 5 rfl rfl (hon 6 (by kernel_rfl)) rfl
              rw [Q_X6_ (hon 6 (by kernel_rfl))] at e59
              replace ha := Aside0.mk ha
              have HO230 := Aside0.mk Q_HO230
              have HO240 := Aside0.mk Q_HO240
              have HO243 := Aside0.mk Q_HO243
              have HO248 := Aside0.mk Q_HO248
              have BK236 := Aside0.mk Q_BK236
              have BK237 := Aside0.mk Q_BK237
              have HB := Aside0.mk Q_HB
              have HO251 := Aside0.mk (Q_HO251 (hon 1 (by kernel_rfl)))
              have HO254 := Aside0.mk (Q_HO254 (hon 4 (by kernel_rfl)))
              have HO259 := Aside0.mk (Q_HO259 (hon 5 (by kernel_rfl)))
              obtain ⟨Ao9_0, co9_0, eo_⟩ := Kd.R_slice HO259.out
              subst eo_
              refine value_ (w1 := w') (v := .int .i64 t257) (by rfl) rfl ?_ ?_
              · go_simp
                (try simp only [i64_w])
                try rfl
              refine hK.out _ _ ⟨v250, v253, .slice Ao9_0 t255.length co9_0, m5_, m6_, m7_, m10_, (by rw [ha.out]; exact putSel_upk 8 hb_ rfl rfl rfl), Q_HO230, Q_HO240, Q_HO243, Q_HO248, Q_BK236, Q_BK237, Q_HB, Q_HO251, Q_HO254, Q_HO259, Q_X5_, Q_X6_, Q_X7_, Q_X10_⟩
            refine steps_cons ?_ ?_
            · rintro b a w' ⟨v250, v253, v258, m5_, m6_, m7_, m10_, ha, Q_HO230, Q_HO240, Q_HO243, Q_HO248, Q_BK236, Q_BK237, Q_HB, Q_HO251, Q_HO254, Q_HO259, Q_X5_, Q_X6_, Q_X7_, Q_X10_⟩ hb_ hon hoff
              refine ⟨_, rfl, fun K hK => ?_⟩
              have e66 : a.tmps[66]? = some (m7_) := by rw [ha]; exact putSel_on (e := (7, 66, m7_)) 6 rfl rfl (hon 7 (by kernel_rfl)) rfl
              rw [Q_X7_ (hon 7 (by kernel_rfl))] at e66
              replace ha := Aside0.mk ha
              have HO230 := Aside0.mk Q_HO230
              have HO240 := Aside0.mk Q_HO240
              have HO243 := Aside0.mk Q_HO243
              have HO248 := Aside0.mk Q_HO248
              have BK236 := Aside0.mk Q_BK236
              have BK237 := Aside0.mk Q_BK237
              have HB := Aside0.mk Q_HB
              have HO251 := Aside0.mk (Q_HO251 (hon 1 (by kernel_rfl)))
              have HO254 := Aside0.mk (Q_HO254 (hon 4 (by kernel_rfl)))
              have HO259 := Aside0.mk (Q_HO259 (hon 5 (by kernel_rfl)))
              refine value_ (w1 := w') (v := v258) (by rfl) rfl ?_ ?_
              · go_simp
                (try simp only [i64_w])
                try rfl
              refine hK.out _ _ ⟨v250, v253, v258, m5_, m6_, m7_, (v258), (by rw [ha.out]; exact putSel_upk 9 hb_ rfl rfl rfl), Q_HO230, Q_HO240, Q_HO243, Q_HO248, Q_BK236, Q_BK237, Q_HB, Q_HO251, Q_HO254, Q_HO259, Q_X5_, Q_X6_, Q_X7_, fun _ => rfl⟩
            refine steps_cons ?_ ?_
            · rintro b a w' ⟨v250, v253, v258, m5_, m6_, m7_, m10_, ha, Q_HO230, Q_HO240, Q_HO243, Q_HO248, Q_BK236, Q_BK237, Q_HB, Q_HO251, Q_HO254, Q_HO259, Q_X5_, Q_X6_, Q_X7_, Q_X10_⟩ hb_ hon hoff
              refine ⟨_, rfl, fun K hK => ?_⟩
              have e67 : a.tmps[67]? = some (.int .i64 t256) := by rw [ha]; exact putSel_on (e := (8, 67, .int .i64 t256)) 7 rfl rfl (hon 8 (by kernel_rfl)) rfl
              replace ha := Aside0.mk ha
              have HO230 := Aside0.mk Q_HO230
              have HO240 := Aside0.mk Q_HO240
              have HO243 := Aside0.mk Q_HO243
              have HO248 := Aside0.mk Q_HO248
              have BK236 := Aside0.mk Q_BK236
              have BK237 := Aside0.mk Q_BK237
              have HB := Aside0.mk Q_HB
              have HO251 := Aside0.mk (Q_HO251 (hon 1 (by kernel_rfl)))
              have HO254 := Aside0.mk (Q_HO254 (hon 4 (by kernel_rfl)))
              have HO259 := Aside0.mk (Q_HO259 (hon 5 (by kernel_rfl)))
              refine value_ (w1 := w') (v := .int .i64 t256) (by rfl) rfl ?_ ?_
              · go_simp
                (try simp only [i64_w])
                try rfl
              refine hK.out _ _ ⟨v250, v253, v258, m5_, m6_, m7_, m10_, (by rw [ha.out]; exact putSel_upk 10 hb_ rfl rfl rfl), Q_HO230, Q_HO240, Q_HO243, Q_HO248, Q_BK236, Q_BK237, Q_HB, Q_HO251, Q_HO254, Q_HO259, Q_X5_, Q_X6_, Q_X7_, Q_X10_⟩
            refine steps_cons ?_ ?_
            · rintro b a w' ⟨v250, v253, v258, m5_, m6_, m7_, m10_, ha, Q_HO230, Q_HO240, Q_HO243, Q_HO248, Q_BK236, Q_BK237, Q_HB, Q_HO251, Q_HO254, Q_HO259, Q_X5_, Q_X6_, Q_X7_, Q_X10_⟩ hb_ hon hoff
              refine ⟨_, rfl, fun K hK => ?_⟩
              have e68 : a.tmps[68]? = some (.int .i64 t257) := by rw [ha]; exact putSel_on (e := (9, 68, .int .i64 t257)) 8 rfl rfl (hon 9 (by kernel_rfl)) rfl
              replace ha := Aside0.mk ha
              have HO230 := Aside0.mk Q_HO230
              have HO240 := Aside0.mk Q_HO240
              have HO243 := Aside0.mk Q_HO243
              have HO248 := Aside0.mk Q_HO248
              have BK236 := Aside0.mk Q_BK236
              have BK237 := Aside0.mk Q_BK237
              have HB := Aside0.mk Q_HB
              have HO251 := Aside0.mk (Q_HO251 (hon 1 (by kernel_rfl)))
              have HO254 := Aside0.mk (Q_HO254 (hon 4 (by kernel_rfl)))
              have HO259 := Aside0.mk (Q_HO259 (hon 5 (by kernel_rfl)))
              refine value_ (w1 := w') (v := .int .i64 t257) (by rfl) rfl ?_ ?_
              · go_simp
                (try simp only [i64_w])
                try rfl
              refine hK.out _ _ ⟨v250, v253, v258, m5_, m6_, m7_, m10_, (by rw [ha.out]; exact putSel_upk 11 hb_ rfl rfl rfl), Q_HO230, Q_HO240, Q_HO243, Q_HO248, Q_BK236, Q_BK237, Q_HB, Q_HO251, Q_HO254, Q_HO259, Q_X5_, Q_X6_, Q_X7_, Q_X10_⟩
            exact steps_nil
          rintro b a w46 hall ⟨v250, v253, v258, m5_, m6_, m7_, m10_, ha, Q_HO230, Q_HO240, Q_HO243, Q_HO248, Q_BK236, Q_BK237, Q_HB, Q_HO251, Q_HO254, Q_HO259, Q_X5_, Q_X6_, Q_X7_, Q_X10_⟩
          clear BK236 BK237 HB HO230 HO240 HO243 HO248
          have hb1_ := hall 1 (by kernel_rfl)
          have hb2_ := hall 2 (by kernel_rfl)
          have hb3_ := hall 3 (by kernel_rfl)
          have hb4_ := hall 4 (by kernel_rfl)
          have hb5_ := hall 5 (by kernel_rfl)
          have hb6_ := hall 6 (by kernel_rfl)
          have hb7_ := hall 7 (by kernel_rfl)
          have hb8_ := hall 8 (by kernel_rfl)
          have hb9_ := hall 9 (by kernel_rfl)
          have hb10_ := hall 10 (by kernel_rfl)
          have hb11_ := hall 11 (by kernel_rfl)
          have hb12_ := hall 12 (by kernel_rfl)
          subst ha
          have e5_ := Q_X5_ hb5_
          subst m5_
          have e6_ := Q_X6_ hb6_
          subst m6_
          have e7_ := Q_X7_ hb7_
          subst m7_
          have e10_ := Q_X10_ hb10_
          subst m10_
          simp only [putSel, hb1_, hb2_, hb3_, hb4_, hb5_, hb6_, hb7_, hb8_, hb9_, hb10_, hb11_, hb12_, if_true, Act.put, List.setIfInBounds_toArray, List.set_cons_zero, List.set_cons_succ]
          have HO230 := Aside0.mk Q_HO230
          clear Q_HO230
          have HO240 := Aside0.mk Q_HO240
          clear Q_HO240
          have HO243 := Aside0.mk Q_HO243
          clear Q_HO243
          have HO248 := Aside0.mk Q_HO248
          clear Q_HO248
          have BK236 := Aside0.mk Q_BK236
          clear Q_BK236
          have BK237 := Aside0.mk Q_BK237
          clear Q_BK237
          have HB := Aside0.mk Q_HB
          clear Q_HB
          have HO251 := Aside0.mk (Q_HO251 hb1_)
          clear Q_HO251
          have HO254 := Aside0.mk (Q_HO254 hb4_)
          clear Q_HO254
          have HO259 := Aside0.mk (Q_HO259 hb5_)
          clear Q_HO259
          clear hall hb1_ hb2_ hb3_ hb4_ hb5_ hb6_ hb7_ hb8_ hb9_ hb10_ hb11_ hb12_
          obtain ⟨Ao47, co47, eo47⟩ := Kd.R_slice HO248.out
          subst eo47
          obtain ⟨Ao48, co48, eo48⟩ := Kd.R_slice HO259.out
          subst eo48
          try go_wp2_with (first | (go_at_call 16; (with_reducible refine (headgatekit_SameInts.calls k _ _ t244 _ _ t255 true _ ?side1 ?side2 ?side3 ?side4 A20.out).mono ?_); (case side1 => repeat (first | exact (Kd.R_reads' HO248.out).2.2 | (with_reducible refine Kd.C_alloc ?_ _) | (with_reducible refine Kd.C_drewN ?_ _) | (with_reducible refine Kd.C_drew ?_))); (case side2 => exact (Kd.R_reads' HO248.out).2.1); (case side3 => repeat (first | exact (Kd.R_reads' HO259.out).2.2 | (with_reducible refine Kd.C_alloc ?_ _) | (with_reducible refine Kd.C_drewN ?_ _) | (with_reducible refine Kd.C_drew ?_))); (case side4 => exact (Kd.R_reads' HO259.out).2.1); rintro e w' ⟨rfl, ⟨nd, rfl⟩⟩) | (go_at_call 17; (with_reducible refine (headgatelaw16_awake.calls k  t261 _ A22.out).mono ?_); rintro e w49 ⟨rfl, hb⟩; have n0_ := Aside0.mk (Kd.R_below (by (with_reducible repeat (first | apply Kd.R_alloc | apply Kd.R_drewN | apply Kd.R_drew)); exact HO230.out) hb); have n1_ := Aside0.mk (Kd.R_below (by (with_reducible repeat (first | apply Kd.R_alloc | apply Kd.R_drewN | apply Kd.R_drew)); exact HO240.out) hb); have n2_ := Aside0.mk (Kd.R_below (by (with_reducible repeat (first | apply Kd.R_alloc | apply Kd.R_drewN | apply Kd.R_drew)); exact HO243.out) hb); have n3_ := Aside0.mk (Kd.R_below (by (with_reducible repeat (first | apply Kd.R_alloc | apply Kd.R_drewN | apply Kd.R_drew)); exact HO248.out) hb); have n4_ := Aside0.mk (Kd.R_below (by (with_reducible repeat (first | apply Kd.R_alloc | apply Kd.R_drewN | apply Kd.R_drew)); exact HO251.out) hb); have n5_ := Aside0.mk (Kd.R_below (by (with_reducible repeat (first | apply Kd.R_alloc | apply Kd.R_drewN | apply Kd.R_drew)); exact HO254.out) hb); have n6_ := Aside0.mk (Kd.R_below (by (with_reducible repeat (first | apply Kd.R_alloc | apply Kd.R_drewN | apply Kd.R_drew)); exact HO259.out) hb); have n7_ := Aside0.mk (blk_below (g := gb236) (o := .cells #[.int .i64 t232, .int .i64 t234] 42 (0, 0)) (by (with_reducible repeat (first | refine blk_drewN ?_ _ | refine blk_drew ?_ | refine blk_alloc ?_ _)); exact BK236.out) hb); have n8_ := Aside0.mk (blk_below (g := gb237) (o := .cells #[.int .i64 (Int.tmod (wrap64 ((wrap64 (t232 + 1)) + t233)) (t228.length : Int)), .int .i64 t235] 42 (0, 0)) (by (with_reducible repeat (first | refine blk_drewN ?_ _ | refine blk_drew ?_ | refine blk_alloc ?_ _)); exact BK237.out) hb); have n9_ := Aside0.mk (below_step (by repeat (first | (with_reducible first | exact HB.out | apply below_alloc | apply pw_below_drewN | apply below_drew1 | refine below_set ?_ GE236.out | refine below_set ?_ GE237.out) | exact HB.out)) hb); clear HO230; clear HO240; clear HO243; clear HO248; clear HO251; clear HO254; clear HO259; clear BK236; clear BK237; clear HB; have HO230 := n0_; have HO240 := n1_; have HO243 := n2_; have HO248 := n3_; have HO251 := n4_; have HO254 := n5_; have HO259 := n6_; have BK236 := n7_; have BK237 := n8_; have HB := n9_; clear n0_ n1_ n2_ n3_ n4_ n5_ n6_ n7_ n8_ n9_; (try clear hb); (try clear hb2); (try clear hk); (try clear hi)))
          go_ret
          obtain rfl := hlast.out
          exact ⟨by first | rfl | (simp [errW_none, errW_some] <;> rfl) | (simp [*, errW_none, errW_some] <;> rfl), by repeat (first | (with_reducible first | exact HB.out | apply below_alloc | apply pw_below_drewN | apply below_drew1 | refine below_set ?_ GE236.out | refine below_set ?_ GE237.out) | exact HB.out)⟩
        · replace c21 := Bool.eq_false_iff.mpr c21
          subst c21
          have H1 : (some false) = some true := by rw [if_neg (show ¬ (false = true) by decide)] at H; exact H
          clear H
          have H := H1
          clear H1
          exact absurd H (by simp)
      · rw [if_neg c19] at H
        have c19b0 : (t245 == t256) = false := beq_eq_false_iff_ne.mpr c19
        have c19b1 : (t245 != t256) = true := bne_iff_ne.mpr c19
        exact absurd H (by simp)

/-- THE ONE PURE STATEMENT of headgatelaw16_RoleSwaps: yours. -/
def headgatelaw16_RoleSwaps.Pure : Prop := ∀ (l0 : List Int) (a1 : Int) (a2 : Int), l0.length ≤ maxLen → l0.length * 8 ≤ 140737488351232 → (∀ x ∈ l0, (Lit.int .i64 x).wf = true) → (Lit.int .i64 a1).wf = true → (Lit.int .i64 a2).wf = true → ∃ k, headgatelaw16_RoleSwaps.f k l0 a1 a2 = some true
theorem headgatelaw16_RoleSwaps.walk (P : headgatelaw16_RoleSwaps.Pure) (a0 : Option Addr) (len0 cap0 : Nat) (z0 : List Int) (a1 : Int) (a2 : Int) (w : World) (w0 : (a0 = none ∧ len0 = 0 ∧ cap0 = 0 ∧ z0 = []) ∨ ∃ x, a0 = some x ∧ len0 ≤ cap0 ∧ cap0 ≤ maxLen ∧ z0.length = cap0 ∧ (∀ i, i < z0.length → w.cell? (x.add i) = some (.int .i64 (z0.getD i 0))) ∧ ∀ n ∈ z0, (Lit.int .i64 n).wf = true) (y0 : len0 * 8 ≤ 140737488351232) (w1 : (Lit.int .i64 a1).wf = true) (w2 : (Lit.int .i64 a2).wf = true) :
    Calls Try.prog 6 #[.slice a0 len0 cap0, .int .i64 a1, .int .i64 a2] w fun e w' => e = .returned (.bool true) ∧ Below w.heap.size w w' := by
  obtain ⟨l0, rfl, hr0, hm0, hw0, hc0⟩ := ReadsInt.ofRowC w0
  obtain ⟨k, h⟩ := P l0 a1 a2 hm0 y0 hw0 w1 w2
  refine (headgatelaw16_RoleSwaps.calls k _ _ l0 a1 a2 w (Kd.C_of_reads (d := (0 : Int)) (h1 := fun _ => rfl) hr0) hc0 h).mono ?_
  rintro e w' ⟨rfl, hd⟩
  exact ⟨rfl, hd⟩

end Go.Proofs.Ytmemdggofphcnaa.X
