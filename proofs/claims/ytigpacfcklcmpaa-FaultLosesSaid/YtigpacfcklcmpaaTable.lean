/- fault.rows' function value, and slices.IndexFunc at rows. -/
import Derived.Test.YtigpacfcklcmpaaXx0
import Derived.Test.YtigpacfcklcmpaaXx4
namespace Go.Proofs.Ytigpacfcklcmpaa.X
open Go.RowKit Go.Proofs.YtigpacfcklcmpaaW.PrintWords Go.Proofs.YtigpacfcklcmpaaW.PrintLast Go.Proofs.YtigpacfcklcmpaaW.PrintMore
theorem wsm {x : Int} (h0 : -9223372036854775808 ≤ x) (h1 : x < 9223372036854775808) : wrap64 x = x := by unfold wrap64; omega
theorem rd_at (l : List Int) (i : Nat) (h : i < l.length) : rd l (i : Int) = l[i] := by
  simp [rd, List.getD_eq_getElem?_getD, List.getElem?_eq_getElem h]
/-- Is a number in a list. -/
def inL (x : Int) : List Int → Bool
  | [] => false
  | a :: l => if x = a then true else inL x l
/-- Where it is first, from a place on; -1: nowhere. -/
def ixL (x : Int) : List Int → Int → Int
  | [], _ => -1
  | a :: l, i => if x = a then i else ixL x l (i + 1)
theorem ixL_inL (x : Int) (l : List Int) : ∀ i : Int, 0 ≤ i → decide (ixL x l i ≥ 0) = inL x l := by
  induction l with
  | nil => intro i _; rfl
  | cons a l ih =>
    intro i hi
    rw [ixL, inL]
    by_cases h : x = a
    · rw [if_pos h, if_pos h]
      exact decide_eq_true hi
    · rw [if_neg h, if_neg h]
      exact ih _ (by omega)
theorem index_l0 (l : List Int) (x : Int) (hl : l.length < 1000000) (d : Nat) : ∀ i : Nat, i + d = l.length → Ev (fun k => slices_Index_int_int.l0 k l x (l.length : Int) (i : Int)) (ixL x (l.drop i) i) := by
  induction d with
  | zero =>
    intro i hi
    rw [List.drop_eq_nil_of_le (by omega), ixL]
    refine Ev.step (f := fun _ => some (-1)) (fun k => ?_) (Ev.now _)
    simp only [slices_Index_int_int.l0]
    rw [if_neg (by omega)]
  | succ d ih =>
    intro i hi
    have hlt : i < l.length := by omega
    rw [List.drop_eq_getElem_cons hlt, ixL]
    by_cases h : x = l[i]
    · rw [if_pos h]
      refine Ev.step (f := fun _ => some (i : Int)) (fun k => ?_) (Ev.now _)
      simp only [slices_Index_int_int.l0]
      rw [if_pos (by omega), if_pos (by omega), if_pos (by omega), rd_at l i hlt, if_pos h]
    · rw [if_neg h]
      refine Ev.step (fun k => ?_) (ih (i + 1) (by omega))
      simp only [slices_Index_int_int.l0]
      rw [if_pos (by omega), if_pos (by omega), if_pos (by omega), rd_at l i hlt, if_neg h, wsm (by omega) (by omega)]
      rfl
theorem contains_ev (l : List Int) (x : Int) (hl : l.length < 1000000) : Ev (fun k => slices_Contains_int_int.f k l x) (inL x l) := by
  unfold slices_Contains_int_int.f slices_Index_int_int.f
  refine Ev.bind (index_l0 l x hl l.length 0 (by omega)) ?_
  rw [List.drop_zero]
  refine Ev.congr (fun k => ?_) (Ev.now _)
  rw [← ixL_inL x l 0 (by decide)]
  rfl
/-- The access of a request: is it a read or a write. -/
def accK (kind : Int) : Bool := kind == 4 || kind == 5
theorem access_f (a0 a1 a2 a3 a4 a5 a6 : Int) (l7 : List Int) (a8 : Int) : fault_request_access.f a0 a1 a2 a3 a4 a5 a6 l7 a8 = some (accK a1) := by
  unfold fault_request_access.f accK
  by_cases h : a1 = 4
  · rw [if_pos h]
    simp [h]
  · rw [if_neg h]
    simp [h]
/-- The function value of rows. -/
def fdB (kind acc : Int) (l : List Int) : Bool := accK kind && inL acc l
set_option maxRecDepth 100000 in
set_option maxHeartbeats 2000000 in
theorem lit53 (a0 a1 a2 a3 a4 a5 a6 : Int) (A7 : Option Addr) (c7 : Nat) (l7 : List Int) (a8 : Int) (f0 : Int) (A : Option Addr) (c : Nat) (l : List Int) (g1 g2 : Nat) (w : World)
    (h1 : w.heap[g1]? = some (.cells #[.int .u64 a0, .int .i64 a1, .int .i64 a2, .int .i64 a3, .int .i64 a4, .int .u64 a5, .int .i64 a6, .slice A7 l7.length c7, .int .i64 a8] 52 (0, 0)))
    (h2 : w.cell? ⟨g2, 0, none⟩ = some (.int .i64 f0)) (hl2 : g2 < w.heap.size) (hr7 : Kd.C (Kd.int .i64) w A7 l7.length l7) (hc7 : l7.length ≤ c7) (hC : Kd.C (Kd.int .i64) w A l.length l) (hc : l.length ≤ c) (hl : l.length < 1000000) :
    Calls Try.prog 53 #[.slice A l.length c, .pointer (some ⟨g1, 0, none⟩), .pointer (some ⟨g2, 0, none⟩)] w fun e w' => e = .returned (.bool (fdB a1 f0 l)) ∧ Below w.heap.size w w' := by
  have hz0 := (blk_cell h1 0).trans rfl
  have hz1 := (blk_cell h1 1).trans rfl
  have hz2 := (blk_cell h1 2).trans rfl
  have hz3 := (blk_cell h1 3).trans rfl
  have hz4 := (blk_cell h1 4).trans rfl
  have hz5 := (blk_cell h1 5).trans rfl
  have hz6 := (blk_cell h1 6).trans rfl
  have hz7 := (blk_cell h1 7).trans rfl
  have hz8 := (blk_cell h1 8).trans rfl
  have hacc := fault_request_access.calls a0 a1 a2 a3 a4 a5 a6 A7 c7 l7 a8 _ w hr7 hc7 (access_f a0 a1 a2 a3 a4 a5 a6 l7 a8)
  obtain ⟨k, hk⟩ := (contains_ev l f0 hl).rounds
  unfold fdB
  have HC := Aside0.mk hC
  have HR := Aside0.mk h2
  clear h1 hr7 hC
  cases hb : accK a1 with
  | false =>
    rw [hb] at hacc
    rw [Bool.false_and]
    clear hb hk h2
    go_enter Try.func53, Try.ntmps53
    go_wp2_with (go_at_call 37; refine hacc.mono ?_; rintro e w' ⟨rfl, hb1⟩)
    go_ret
    exact ⟨rfl, hb1⟩
  | true =>
    rw [hb] at hacc
    rw [Bool.true_and]
    clear hb
    have HK := Aside0.mk hk
    clear hk
    go_enter Try.func53, Try.ntmps53
    go_wp2_with (first | (go_at_call 37; refine hacc.mono ?_; rintro e w' ⟨rfl, hb1⟩; have h2' := (hb1.cell (p := ⟨g2, 0, none⟩) hl2).trans HR.out) | (go_at_call 35; refine (slices_Contains_int_int.calls k A c l f0 _ _ (Kd.C_below HC.out hb1) hc HK.out).mono ?_; rintro e w' ⟨rfl, ⟨nd, rfl⟩⟩))
    go_ret
    exact ⟨rfl, pw_below_drewN hb1 _⟩
end Go.Proofs.Ytigpacfcklcmpaa.X
