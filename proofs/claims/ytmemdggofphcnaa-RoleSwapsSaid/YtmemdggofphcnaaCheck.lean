/- role.Check: for any list, whether it is too long, or the first number in it that is no role; nothing is changed. -/
import Derived.Test.YtmemdggofphcnaaXx2
namespace Go.Proofs.Ytmemdggofphcnaa.X
open Go.RowKit Go.Proofs.YtmemdggofphcnaaW.PrintWords Go.Proofs.YtmemdggofphcnaaW.PrintLast Go.Proofs.YtmemdggofphcnaaW.PrintMore

theorem is_f (a : Int) : role_is.f a = some (decide (0 ≤ a ∧ a < 8)) := by
  unfold role_is.f
  by_cases h : a ≥ 0
  · rw [if_pos h]
    simp [h]
  · rw [if_neg h]
    simp
    omega
/-- 'is' of a role's number, and of another. -/
theorem is_call (a : Int) (w : World) : Calls Try.prog 37 #[.int .i64 a] w fun e w' => e = .returned (.bool (decide (0 ≤ a ∧ a < 8))) ∧ Drawn0 w w' := role_is.calls a _ w (is_f a)
/-- The function value of Check. -/
theorem lit49 (r : Int) (w : World) : Calls Try.prog 49 #[.int .i64 r] w fun e w' => e = .returned (.bool (!decide (0 ≤ r ∧ r < 8))) ∧ Drawn0 w w' := by
  have i0 := is_call r
  generalize decide (0 ≤ r ∧ r < 8) = b at i0 ⊢
  go_enter Try.func49, Try.ntmps49
  go_wp2_with (go_at_call 37; refine (i0 _).mono ?_; rintro e w' ⟨rfl, ⟨nd, rfl⟩⟩)
  go_ret
  exact ⟨rfl, ⟨_, rfl⟩⟩
/-- The place of the first number that is no role, from a place on; -1: there is none. -/
def badAt : List Int → Int → Int
  | [], _ => -1
  | r :: rs, i => if 0 ≤ r ∧ r < 8 then badAt rs (i + 1) else i
theorem rd_at (l : List Int) (i : Nat) (h : i < l.length) : rd l (i : Int) = l[i] := by
  simp [rd, List.getD_eq_getElem?_getD, List.getElem?_eq_getElem h]
theorem badAt_drop (l : List Int) (i : Nat) (h : i < l.length) : badAt (l.drop i) i = if 0 ≤ rd l i ∧ rd l i < 8 then badAt (l.drop (i + 1)) ((i + 1 : Nat) : Int) else i := by
  have hr := rd_at l i h
  rw [List.drop_eq_getElem_cons h, badAt, hr]
  rfl
set_option maxRecDepth 100000 in
set_option maxHeartbeats 4000000 in
theorem index48 (A0 : Option Addr) (c0 : Nat) (l0 : List Int) (w : World) (hr0 : Kd.C (Kd.int .i64) w A0 l0.length l0) (hb : l0.length ≤ 256) :
    Calls Try.prog 48 #[.slice A0 l0.length c0, .func (.func 49) #[] #[]] w fun e w' => e = .returned (.int .i64 (badAt l0 0)) ∧ Drawn0 w w' := by
  have HR0 := Aside0.mk hr0
  clear hr0
  obtain ⟨r, hr⟩ : ∃ r, r = badAt l0 0 := ⟨_, rfl⟩
  rw [← hr]
  have H' := Aside0.mk hr
  clear hr
  go_enter Try.func48, Try.ntmps48
  go_wp2
  go_loopg [5, 8] (l0.length + 1) (fun kq _ v8 w' => ∃ i : Nat, v8 = .int .i64 i ∧ kq + i = l0.length + 1 ∧ i ≤ l0.length ∧ Aside0 (r = badAt (l0.drop i) i) ∧ Drawn0 w w')
  case atStart => exact ⟨0, rfl, by omega, by omega, H', Drawn0.refl _⟩
  case round =>
    clear H'
    obtain ⟨i, rfl, hk, hi, HA, ⟨m1, rfl⟩⟩ := hrel
    by_cases hlt : i < l0.length
    · have H := HA.out
      rw [badAt_drop l0 i hlt] at H
      obtain ⟨ad, e, hx⟩ := Kd.at_int HR0.out (i : Int) (by omega) (by omega)
      cases e
      rw [Int.toNat_natCast] at hx
      have hd : decide ((i : Int) < (l0.length : Int)) = true := decide_eq_true (by omega)
      have hcall := lit49 (rd l0 i)
      generalize rd l0 i = x at *
      by_cases hx0 : 0 ≤ x ∧ x < 8
      · rw [if_pos hx0] at H
        rw [decide_eq_true hx0] at hcall
        have HB := Aside0.mk H
        clear H hx0 HA
        go_wp2_with (go_at_call 49; refine (hcall _).mono ?_; rintro e w' ⟨rfl, ⟨nd, rfl⟩⟩)
        go_roundg (gk - 1)
        case measure => omega
        case rel => exact ⟨i + 1, by rfl, by omega, by omega, HB, by repeat (first | exact Drawn0.refl _ | apply Drawn0.step)⟩
      · rw [if_neg hx0] at H
        rw [decide_eq_false hx0] at hcall
        subst H
        clear hx0 HA
        go_wp2_with (go_at_call 49; refine (hcall _).mono ?_; rintro e w' ⟨rfl, ⟨nd, rfl⟩⟩)
        go_ret
        exact ⟨rfl, by repeat (first | exact Drawn0.refl _ | apply Drawn0.step)⟩
    · obtain rfl : i = l0.length := by omega
      have H := HA.out
      rw [List.drop_eq_nil_of_le (Nat.le_refl _), badAt] at H
      subst H
      have hd : decide ((l0.length : Int) < (l0.length : Int)) = false := decide_eq_false (by omega)
      clear HA
      go_wp2
      go_ret
      exact ⟨rfl, by repeat (first | exact Drawn0.refl _ | apply Drawn0.step)⟩
def role_Check.f (l0 : List Int) : Option (Int × Int) := some (if (l0.length : Int) > 256 then (5, 0) else if badAt l0 0 ≥ 0 then (14, badAt l0 0) else (0, 0))
set_option maxRecDepth 100000 in
set_option maxHeartbeats 4000000 in
theorem role_Check.calls (A0 : Option Addr) (c0 : Nat) (l0 : List Int) (r1 : Int) (r2 : Int) (w : World) (hr0 : Kd.C (Kd.int .i64) w A0 l0.length l0) (_hc0 : l0.length ≤ c0) (h : role_Check.f l0 = some (r1, r2)) :
    Calls Try.prog 25 #[.slice A0 l0.length c0] w fun e w' => e = .returned (.tuple #[.int .i64 r1, .int .i64 r2]) ∧ Drawn0 w w' := by
  have h := Option.some.inj h
  by_cases c2 : (l0.length : Int) > 256
  · rw [if_pos c2] at h
    simp only [Prod.mk.injEq] at h
    obtain ⟨rfl, rfl⟩ := h
    have c2b0 : decide (256 < (l0.length : Int)) = true := decide_eq_true c2
    have c2b1 : decide (256 < l0.length) = true := decide_eq_true (by omega)
    clear c2
    go_enter Try.func25, Try.ntmps25
    go_wp2
    go_ret2
    exact ⟨rfl, Drawn0.refl _⟩
  · rw [if_neg c2] at h
    have c2b0 : decide (256 < (l0.length : Int)) = false := decide_eq_false c2
    have c2b1 : decide (256 < l0.length) = false := decide_eq_false (by omega)
    have hx := fun W (hW : Kd.C (Kd.int .i64) W A0 l0.length l0) => index48 A0 c0 l0 W hW (by omega)
    clear c2
    have HX := Aside0.mk (fun n => hx (w.drewN n) hr0)
    have HX0 := Aside0.mk (hx w hr0)
    clear hx hr0
    generalize badAt l0 0 = z at *
    by_cases hz : z ≥ 0
    · rw [if_pos hz] at h
      simp only [Prod.mk.injEq] at h
      obtain ⟨rfl, rfl⟩ := h
      have z0 : decide (0 ≤ z) = true := decide_eq_true hz
      clear hz
      go_enter Try.func25, Try.ntmps25
      go_wp2_with (go_at_call 48; refine (HX0.out).mono ?_; rintro e w' ⟨rfl, ⟨nd, rfl⟩⟩)
      go_ret2
      exact ⟨rfl, by repeat (first | exact Drawn0.refl _ | apply Drawn0.step)⟩
    · rw [if_neg hz] at h
      simp only [Prod.mk.injEq] at h
      obtain ⟨rfl, rfl⟩ := h
      have z0 : decide (0 ≤ z) = false := decide_eq_false hz
      clear hz
      go_enter Try.func25, Try.ntmps25
      go_wp2_with (go_at_call 48; refine (HX0.out).mono ?_; rintro e w' ⟨rfl, ⟨nd, rfl⟩⟩)
      go_ret2
      exact ⟨rfl, by repeat (first | exact Drawn0.refl _ | apply Drawn0.step)⟩
end Go.Proofs.Ytmemdggofphcnaa.X
