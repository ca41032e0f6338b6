/- slices.IndexFunc at rows, with fault.found's function value: the place of the first row that holds. -/
import Derived.Test.YtigpacfcklcmpaaXx0
namespace Go.Proofs.Ytigpacfcklcmpaa.X
open Go.RowKit Go.Proofs.YtigpacfcklcmpaaW.PrintWords Go.Proofs.YtigpacfcklcmpaaW.PrintLast Go.Proofs.YtigpacfcklcmpaaW.PrintMore
theorem lit49 (x : S55) (w : World) : Calls Try.prog 49 #[.agg #[.bool x.f0, .int .i64 x.f1, .int .i64 x.f2]] w fun e w' => e = .returned (.bool x.f0) ∧ Below w.heap.size w w' := by
  go_enter Try.func49, Try.ntmps49
  go_wp2
  go_ret
  exact ⟨rfl, below_alloc (Below.refl _ _) _⟩
/-- The place of the first row that holds, from a place on; -1: none does. -/
def firstT : List S55 → Int → Int
  | [], _ => -1
  | x :: l, i => if x.f0 = true then i else firstT l (i + 1)
theorem rd55_at (l : List S55) (i : Nat) (h : i < l.length) : rd_T55 l (i : Int) = l[i] := by
  simp [rd_T55, List.getD_eq_getElem?_getD, List.getElem?_eq_getElem h]
theorem firstT_drop (l : List S55) (i : Nat) (h : i < l.length) : firstT (l.drop i) i = if (rd_T55 l i).f0 = true then (i : Int) else firstT (l.drop (i + 1)) ((i + 1 : Nat) : Int) := by
  rw [List.drop_eq_getElem_cons h, firstT, rd55_at l i h]
  rfl
set_option maxRecDepth 100000 in
set_option maxHeartbeats 4000000 in
theorem index48 (A0 : Option Addr) (c0 : Nat) (l0 : List S55) (w : World) (hr0 : Kd.C k55 w A0 l0.length l0) (hb : l0.length ≤ 256) :
    Calls Try.prog 48 #[.slice A0 l0.length c0, .func (.func 49) #[] #[]] w fun e w' => e = .returned (.int .i64 (firstT l0 0)) ∧ Below w.heap.size w w' := by
  have HR0 := Aside0.mk hr0
  clear hr0
  obtain ⟨r, hr⟩ : ∃ r, r = firstT l0 0 := ⟨_, rfl⟩
  rw [← hr]
  have H' := Aside0.mk hr
  clear hr
  go_enter Try.func48, Try.ntmps48
  go_wp2
  go_loopg [5, 8] (l0.length + 1) (fun kq _ v8 w' => ∃ i : Nat, v8 = .int .i64 i ∧ kq + i = l0.length + 1 ∧ i ≤ l0.length ∧ Aside0 (r = firstT (l0.drop i) i) ∧ Aside0 (Below w.heap.size w w'))
  case atStart => exact ⟨0, rfl, by omega, by omega, H', ⟨Below.refl _ _⟩⟩
  case round =>
    clear H'
    obtain ⟨i, rfl, hk, hi, HA, HB⟩ := hrel
    by_cases hlt : i < l0.length
    · have H := HA.out
      rw [firstT_drop l0 i hlt] at H
      obtain ⟨ad, e, hx0, hx1, hx2⟩ := at_T55 (Kd.C_below HR0.out HB.out) (i : Int) (by omega) (by omega)
      cases e
      rw [Int.toNat_natCast] at hx0 hx1 hx2
      have hd : decide ((i : Int) < (l0.length : Int)) = true := decide_eq_true (by omega)
      have hcall := lit49 (rd_T55 l0 i) wr
      generalize rd_T55 l0 i = x at *
      clear HA
      by_cases hx : x.f0 = true
      · rw [if_pos hx] at H
        rw [hx] at hcall hx0
        subst H
        go_wp2_with (go_at_call 49; refine hcall.mono ?_; rintro e w' ⟨rfl, hb1⟩)
        go_ret
        exact ⟨rfl, below_step HB.out hb1⟩
      · rw [if_neg hx] at H
        have hx' : x.f0 = false := Bool.eq_false_iff.mpr hx
        rw [hx'] at hcall hx0
        have HH := Aside0.mk H
        clear H hx hx'
        go_wp2_with (go_at_call 49; refine hcall.mono ?_; rintro e w' ⟨rfl, hb1⟩)
        go_roundg (gk - 1)
        case measure => omega
        case rel => exact ⟨i + 1, rfl, by omega, by omega, HH, ⟨below_step HB.out hb1⟩⟩
    · obtain rfl : i = l0.length := by omega
      have H := HA.out
      rw [List.drop_eq_nil_of_le (Nat.le_refl _), firstT] at H
      subst H
      have hd : decide ((l0.length : Int) < (l0.length : Int)) = false := decide_eq_false (by omega)
      clear HA
      go_wp2
      go_ret
      exact ⟨rfl, HB.out⟩
end Go.Proofs.Ytigpacfcklcmpaa.X
