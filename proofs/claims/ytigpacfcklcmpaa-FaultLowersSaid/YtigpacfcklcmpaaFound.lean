/- fault.found: the first row of the table that holds, or which error; nothing that was there is changed. -/
import Derived.Test.YtigpacfcklcmpaaWalk
import Derived.Test.YtigpacfcklcmpaaFirst
import Derived.Test.YtigpacfcklcmpaaXx0
import Derived.Test.YtigpacfcklcmpaaXx8
namespace Go.Proofs.Ytigpacfcklcmpaa.X
open Go.RowKit Go.Proofs.YtigpacfcklcmpaaW.PrintWords Go.Proofs.YtigpacfcklcmpaaW.PrintLast Go.Proofs.YtigpacfcklcmpaaW.PrintMore
/-- The table. -/
def tableL (a1 a6 : Int) (l7 : List Int) (f0 : Int) (f1 f2 : Bool) (f3 : Int) (f4 : Bool) : List S55 := [⟨((a1 == 1) && ((l7.length : Int) == 0)), 3, 2⟩, ⟨(a1 == 1), 1, 1⟩, ⟨((a1 == 6) && (!f4)), 2, 1⟩, ⟨((a1 == 6) && (decide (0 < (wrap64 (wrap64 (f3 + 1) - (l7.length : Int)))))), 3, (wrap64 ((wrap64 (wrap64 (f3 + 1) - (l7.length : Int))) + 1))⟩, ⟨(a1 == 6), 1, 1⟩, ⟨((a6 == 3) || (a6 == 4)), 7, 1⟩, ⟨(fdB a1 f0 [1]), 2, 1⟩, ⟨(fdB a1 f0 [2, 3, 4]), 1, 1⟩, ⟨((fdB a1 f0 [5]) && ((l7.length : Int) == 0)), 3, 3⟩, ⟨(fdB a1 f0 [5]), 3, 2⟩, ⟨((fdB a1 f0 [6, 7]) && ((l7.length : Int) == 0)), 4, 2⟩, ⟨(fdB a1 f0 [6, 7]), 1, 1⟩, ⟨((fdB a1 f0 [8]) && f1), 5, 2⟩, ⟨((fdB a1 f0 [8]) && ((l7.length : Int) == 0)), 4, 3⟩, ⟨(fdB a1 f0 [8]), (if f2 = true then 6 else 7), 2⟩]
/-- Where a row holds, and which. -/
def pickT (l : List S55) : Option S55 := if 0 ≤ firstT l 0 ∧ firstT l 0 < (l.length : Int) then some (rd_T55 l (firstT l 0)) else none
def fault_found.f (k : Nat) (a0_0 a0_1 a0_2 a0_3 a0_4 a0_5 a0_6 : Int) (l0_7 : List Int) (a0_8 : Int) (a1_0 : Int) (a1_1 a1_2 : Bool) (a1_3 : Int) (a1_4 : Bool) : Option (Bool × Int × Int × Int) :=
  (fault_CheckFacts.f k a0_0 a0_1 a0_2 a0_3 a0_4 a0_5 a0_6 l0_7 a0_8 a1_0 a1_1 a1_2 a1_3 a1_4).bind fun t => if t = 0 then (pickT (tableL a0_1 a0_6 l0_7 a1_0 a1_1 a1_2 a1_3 a1_4)).bind fun x => some (x.f0, x.f1, x.f2, 0) else some (false, 0, 0, t)
theorem fault_found.mono : ∀ a0 a1 a2 a3 a4 a5 a6 a7 a8 b0 b1 b2 b3 b4 k, LeO (fault_found.f k a0 a1 a2 a3 a4 a5 a6 a7 a8 b0 b1 b2 b3 b4) (fault_found.f (k + 1) a0 a1 a2 a3 a4 a5 a6 a7 a8 b0 b1 b2 b3 b4) := by
  intro a0 a1 a2 a3 a4 a5 a6 a7 a8 b0 b1 b2 b3 b4 k
  unfold fault_found.f
  exact LeO.bind (fault_CheckFacts.mono _ _ _ _ _ _ _ _ _ _ _ _ _ _ _) (fun _ => LeO.refl _)
/-- What the function's own three blocks hold behind its first call. -/
theorem found_boxes (w w1 : World) (c2 c3 c4 : Array Value) (hb : Below (((w.alloc (.cells c2 27)).alloc (.cells c3 38)).alloc (.cells c4 55)).heap.size (((w.alloc (.cells c2 27)).alloc (.cells c3 38)).alloc (.cells c4 55)) w1) :
    w1.heap[w.heap.size]? = some (.cells c2 27 (0, 0)) ∧ w1.heap[w.heap.size + 1]? = some (.cells c3 38 (0, 0)) ∧ w1.heap[w.heap.size + 2]? = some (.cells c4 55 (0, 0)) ∧ Below w.heap.size w w1 := by
  refine ⟨blk_below (blk_alloc (blk_alloc (blk_new w _) _) _) hb, blk_below (blk_alloc (by simpa using blk_new (w.alloc (.cells c2 27)) (.cells c3 38)) _) hb, blk_below (by simpa using blk_new ((w.alloc (.cells c2 27)).alloc (.cells c3 38)) (.cells c4 55)) hb, ?_⟩
  exact below_step (below_alloc (below_alloc (below_alloc (Below.refl _ _) _) _) _) hb
theorem pick_at {l : List S55} {x : S55} (h : pickT l = some x) : ∃ i : Int, firstT l 0 = i ∧ 0 ≤ i ∧ i < (l.length : Int) ∧ rd_T55 l i = x := by
  unfold pickT at h
  by_cases c : 0 ≤ firstT l 0 ∧ firstT l 0 < (l.length : Int)
  · rw [if_pos c] at h
    exact ⟨_, rfl, c.1, c.2, Option.some.inj h⟩
  · rw [if_neg c] at h
    cases h
set_option maxRecDepth 100000 in
set_option maxHeartbeats 8000000 in
theorem fault_found.calls (k : Nat) (a0_0 a0_1 a0_2 a0_3 a0_4 a0_5 a0_6 : Int) (A0_7 : Option Addr) (c0_7 : Nat) (l0_7 : List Int) (a0_8 : Int) (a1_0 : Int) (a1_1 a1_2 : Bool) (a1_3 : Int) (a1_4 : Bool) (r1 : Bool) (r2 r3 r4 : Int) (w : World) (hr0_7 : Kd.C (Kd.int .i64) w A0_7 l0_7.length l0_7) (hc0_7 : l0_7.length ≤ c0_7)
    (h : fault_found.f k a0_0 a0_1 a0_2 a0_3 a0_4 a0_5 a0_6 l0_7 a0_8 a1_0 a1_1 a1_2 a1_3 a1_4 = some (r1, r2, r3, r4)) :
    Calls Try.prog 32 #[.agg #[.int .u64 a0_0, .int .i64 a0_1, .int .i64 a0_2, .int .i64 a0_3, .int .i64 a0_4, .int .u64 a0_5, .int .i64 a0_6, .slice A0_7 l0_7.length c0_7, .int .i64 a0_8], .agg #[.int .i64 a1_0, .bool a1_1, .bool a1_2, .int .i64 a1_3, .bool a1_4]] w fun e w' => e = .returned (.tuple #[.agg #[.bool r1, .int .i64 r2, .int .i64 r3], .int .i64 r4]) ∧ Below w.heap.size w w' := by
  replace h := Option.bind_eq_some_iff.mp h
  obtain ⟨t, ht, h⟩ := h
  have HT := Aside0.mk ht
  have HR := Aside0.mk hr0_7
  clear ht hr0_7
  by_cases h0 : t = 0
  · rw [if_pos h0] at h
    subst h0
    replace h := Option.bind_eq_some_iff.mp h
    obtain ⟨x, hx, h⟩ := h
    simp only [Option.some.injEq, Prod.mk.injEq] at h
    obtain ⟨rfl, rfl, rfl, rfl⟩ := h
    obtain ⟨i, hi, hi0, hi1, hix⟩ := pick_at hx
    have HI := Aside0.mk hi
    have HI0 := Aside0.mk hi0
    have HI1 := Aside0.mk hi1
    have HIX := Aside0.mk hix
    clear hx hi hi0 hi1 hix
    go_enter Try.func32, Try.ntmps32
    go_wp2_with (first | (go_at_call 46; (with_reducible refine (fault_CheckFacts.calls k a0_0 a0_1 a0_2 a0_3 a0_4 a0_5 a0_6 A0_7 c0_7 l0_7 a0_8 a1_0 a1_1 a1_2 a1_3 a1_4 0 _ ?side1 hc0_7 HT.out).mono ?_); (case side1 => exact Kd.C_alloc (Kd.C_alloc (Kd.C_alloc HR.out _) _) _); rintro e w1 ⟨rfl, hb⟩; obtain ⟨q2, q3, q4, qB⟩ := found_boxes w w1 _ _ _ hb; have B2 := Aside0.mk q2; have B3 := Aside0.mk q3; have B4 := Aside0.mk q4; have HB := Aside0.mk qB; clear q2 q3 q4 qB hb; have hy0 := (blk_cell B2.out 0).trans rfl; have hy1 := (blk_cell B2.out 1).trans rfl; have hy2 := (blk_cell B2.out 2).trans rfl; have hy3 := (blk_cell B2.out 3).trans rfl; have hy4 := (blk_cell B2.out 4).trans rfl; have hy5 := (blk_cell B2.out 5).trans rfl; have hy6 := (blk_cell B2.out 6).trans rfl; have hy7 := (blk_cell B2.out 7).trans rfl; have hy8 := (blk_cell B2.out 8).trans rfl; have hz0 := (blk_cell B3.out 0).trans rfl; have hz1 := (blk_cell B3.out 1).trans rfl; have hz2 := (blk_cell B3.out 2).trans rfl; have hz3 := (blk_cell B3.out 3).trans rfl; have hz4 := (blk_cell B3.out 4).trans rfl) | (go_at_call 47; (with_reducible refine (rows_calls a0_0 a0_1 a0_2 a0_3 a0_4 a0_5 a0_6 A0_7 c0_7 l0_7 a0_8 a1_0 a1_1 a1_2 a1_3 a1_4 _ w1 (Kd.C_below HR.out HB.out) hc0_7 rfl).mono ?_); rintro e w2 ⟨v, rfl, hR, hb2⟩; clear hy0 hy1 hy2 hy3 hy4 hy5 hy6 hy7 hy8 hz0 hz1 hz2 hz3 hz4; obtain ⟨A, c, rfl, hlc, hC⟩ := Kd.R_reads hR; have HC : Aside0 (Kd.C k55 w2 A (tableL a0_1 a0_6 l0_7 a1_0 a1_1 a1_2 a1_3 a1_4).length (tableL a0_1 a0_6 l0_7 a1_0 a1_1 a1_2 a1_3 a1_4)) := ⟨hC⟩; have HB2 := Aside0.mk hb2; clear hC hb2 hR hlc) | (go_at_call 48; (refine (index48 A c (tableL a0_1 a0_6 l0_7 a1_0 a1_1 a1_2 a1_3 a1_4) _ ?hc48 ?len48).mono ?_); (case hc48 => exact HC.out); (case len48 => exact (show (15 : Nat) ≤ 256 by decide)); rintro e w3 ⟨rfl, hb3⟩; rw [HI.out]; obtain ⟨ad, rfl, hx0, hx1, hx2⟩ := at_T55 (Kd.C_below HC.out hb3) i HI0.out HI1.out; rw [HIX.out] at hx0 hx1 hx2; have hB3 := blk_below B4.out (below_step HB2.out hb3); have C4 := Aside0.mk hB3; have HB3 := Aside0.mk (below_step HB.out (below_step HB2.out hb3)); clear hB3 hb3; have hj0 : 0 ≤ i := HI0.out; have hj1 : i < (15 : Int) := HI1.out; have hi0 := decide_eq_true hj0; have hi1 := decide_eq_true hj1; have hz0 := (blk_cell C4.out 0).trans rfl; have hz1 := (blk_cell C4.out 1).trans rfl; have hz2 := (blk_cell C4.out 2).trans rfl; have hf0 := blk_frozen C4.out 0; have hf1 := blk_frozen C4.out 1; have hf2 := blk_frozen C4.out 2))
    refine bodyPost_ret (results_ct rfl _ _ (w.heap.size + 2) 55 #[.bool x.f0, .int .i64 x.f1, .int .i64 x.f2] (0, 0) _ rfl (by refine blk_put (cs := #[.bool x.f0, .int .i64 x.f1, .int .i64 0]) ?_ 2 _ rfl; refine blk_put (cs := #[.bool x.f0, .int .i64 0, .int .i64 0]) ?_ 1 _ rfl; refine blk_put (cs := #[.bool false, .int .i64 0, .int .i64 0]) ?_ 0 _ rfl; exact C4.out) Try.underlying55 rfl (by first | kernel_rfl | rfl)) rfl ?_
    refine ⟨rfl, ?_⟩
    exact below_set (below_set (below_set HB3.out (show w.heap.size ≤ w.heap.size + 1 + 1 by omega)) (show w.heap.size ≤ w.heap.size + 1 + 1 by omega)) (show w.heap.size ≤ w.heap.size + 1 + 1 by omega)
  · rw [if_neg h0] at h
    simp only [Option.some.injEq, Prod.mk.injEq] at h
    obtain ⟨rfl, rfl, rfl, rfl⟩ := h
    have b0 : (t == 0) = false := beq_eq_false_iff_ne.mpr h0
    have b1 : (t != 0) = true := bne_iff_ne.mpr h0
    clear h0
    go_enter Try.func32, Try.ntmps32
    go_wp2_with (go_at_call 46; (with_reducible refine (fault_CheckFacts.calls k a0_0 a0_1 a0_2 a0_3 a0_4 a0_5 a0_6 A0_7 c0_7 l0_7 a0_8 a1_0 a1_1 a1_2 a1_3 a1_4 t _ ?side1 hc0_7 HT.out).mono ?_); (case side1 => exact Kd.C_alloc (Kd.C_alloc (Kd.C_alloc HR.out _) _) _); rintro e w1 ⟨rfl, hb⟩; obtain ⟨q2, q3, q4, qB⟩ := found_boxes w w1 _ _ _ hb; have B2 := Aside0.mk q2; have B3 := Aside0.mk q3; have B4 := Aside0.mk q4; have HB := Aside0.mk qB; clear q2 q3 q4 qB hb; have hz0 := (blk_cell B4.out 0).trans rfl; have hz1 := (blk_cell B4.out 1).trans rfl; have hz2 := (blk_cell B4.out 2).trans rfl; have hf0 := blk_frozen B4.out 0; have hf1 := blk_frozen B4.out 1; have hf2 := blk_frozen B4.out 2)
    refine bodyPost_ret (results_ct rfl _ _ (w.heap.size + 2) 55 #[.bool false, .int .i64 0, .int .i64 0] (0, 0) _ rfl (by refine blk_put (cs := #[.bool false, .int .i64 0, .int .i64 0]) ?_ 2 _ rfl; refine blk_put (cs := #[.bool false, .int .i64 0, .int .i64 0]) ?_ 1 _ rfl; refine blk_put (cs := #[.bool false, .int .i64 0, .int .i64 0]) ?_ 0 _ rfl; exact B4.out) Try.underlying55 rfl (by kernel_rfl)) rfl ?_
    refine ⟨rfl, ?_⟩
    exact below_set (below_set (below_set HB.out (show w.heap.size ≤ w.heap.size + 1 + 1 by omega)) (show w.heap.size ≤ w.heap.size + 1 + 1 by omega)) (show w.heap.size ≤ w.heap.size + 1 + 1 by omega)
end Go.Proofs.Ytigpacfcklcmpaa.X
