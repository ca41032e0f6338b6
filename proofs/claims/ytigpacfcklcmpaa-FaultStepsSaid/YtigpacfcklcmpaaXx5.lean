/- Of these Go functions: what each computes, and that the machine's call comes to it. Laid by a program of this session. -/
import Derived.Test.YtigpacfcklcmpaaXx0
import Derived.Test.YtigpacfcklcmpaaXx3
import Derived.Test.YtigpacfcklcmpaaXx4
import Derived.Test.YtigpacfcklcmpaaShort
namespace Go.Proofs.Ytigpacfcklcmpaa.X
open Go.RowKit Go.Proofs.YtigpacfcklcmpaaW.PrintWords Go.Proofs.YtigpacfcklcmpaaW.PrintLast Go.Proofs.YtigpacfcklcmpaaW.PrintMore
attribute [local go_sem] max2_int min2_int max_two min_two max_three min_three max_four min_four   -- for this text's walks alone
set_option linter.unusedVariables false
set_option linter.unusedSimpArgs false

/-! ### fault_request_held: function 38 -/
mutual
def fault_request_held.j0 : Nat → Bool → Int → Int → Int → Int → Int → Int → Int → List Int → Int → Option (Int)
 | 0, _, _, _, _, _, _, _, _, _, _ => none
 | k + 1, x4, x117000, x117001, x117002, x117003, x117004, x117005, x117006, x117007, x117008 => if x4 = true then (fault_request_held.l0 k x117007 (x117007.length : Int) 0 x117000 x117001 x117002 x117003 x117004 x117005 x117006 x117007 x117008) else (some 5)
def fault_request_held.l0 : Nat → List Int → Int → Int → Int → Int → Int → Int → Int → Int → Int → List Int → Int → Option (Int)
 | 0, _, _, _, _, _, _, _, _, _, _, _, _ => none
 | k + 1, x38, x39, x40, x117000, x117001, x117002, x117003, x117004, x117005, x117006, x117007, x117008 => if x40 < x39 then (if 0 ≤ x40 then (if x40 < (x38.length : Int) then ((fault_in.f (rd x38 x40) 0 256).bind fun t119 => (if t119 = true then (if x40 ≤ (x117007.length : Int) then ((slices_Contains_int_int.f k (x117007.take (x40 : Int).toNat) (rd x38 x40)).bind fun t121 => (if t121 = true then (some 7) else (fault_request_held.l0 k x38 x39 (wrap64 (x40 + 1)) x117000 x117001 x117002 x117003 x117004 x117005 x117006 x117007 x117008))) else (none)) else (some 2))) else (none)) else (none)) else (if x117006 = 3 then (fault_request_held.j2 k 1 true x117000 x117001 x117002 x117003 x117004 x117005 x117006 x117007 x117008) else (fault_request_held.j2 k 1 (x117006 == 4) x117000 x117001 x117002 x117003 x117004 x117005 x117006 x117007 x117008))
def fault_request_held.j2 : Nat → Int → Bool → Int → Int → Int → Int → Int → Int → Int → List Int → Int → Option (Int)
 | 0, _, _, _, _, _, _, _, _, _, _, _ => none
 | k + 1, x7, x64, x117000, x117001, x117002, x117003, x117004, x117005, x117006, x117007, x117008 => if x64 = true then ((fault_in.f x117008 0 256).bind fun t122 => (if t122 = true then (some 0) else (some 2))) else ((fault_in.f x117008 0 x7).bind fun t123 => (if t123 = true then (some 0) else (some 2)))
end
def fault_request_held.f (k : Nat) (a0_0 : Int) (a0_1 : Int) (a0_2 : Int) (a0_3 : Int) (a0_4 : Int) (a0_5 : Int) (a0_6 : Int) (l0_7 : List Int) (a0_8 : Int) : Option (Int) := if a0_6 = 1 then (fault_request_held.j0 k ((l0_7.length : Int) == 0) a0_0 a0_1 a0_2 a0_3 a0_4 a0_5 a0_6 l0_7 a0_8) else (if a0_6 = 2 then (if (l0_7.length : Int) ≥ 1 then ((fault_request_most.f a0_0 a0_1 a0_2 a0_3 a0_4 a0_5 a0_6 l0_7 a0_8).bind fun t117 => (fault_request_held.j0 k (decide ((l0_7.length : Int) ≤ t117)) a0_0 a0_1 a0_2 a0_3 a0_4 a0_5 a0_6 l0_7 a0_8)) else (fault_request_held.j0 k false a0_0 a0_1 a0_2 a0_3 a0_4 a0_5 a0_6 l0_7 a0_8)) else (if a0_6 = 3 then (fault_request_held.j0 k (decide ((l0_7.length : Int) ≤ 1)) a0_0 a0_1 a0_2 a0_3 a0_4 a0_5 a0_6 l0_7 a0_8) else (if a0_6 = 4 then (fault_request_held.j0 k ((l0_7.length : Int) == 1) a0_0 a0_1 a0_2 a0_3 a0_4 a0_5 a0_6 l0_7 a0_8) else (fault_request_held.j0 k false a0_0 a0_1 a0_2 a0_3 a0_4 a0_5 a0_6 l0_7 a0_8))))
theorem fault_request_held.mono_l : ∀ k, (∀ y0 y1 y2 y3 y4 y5 y6 y7 y8 y9, LeO (fault_request_held.j0 k y0 y1 y2 y3 y4 y5 y6 y7 y8 y9) (fault_request_held.j0 (k + 1) y0 y1 y2 y3 y4 y5 y6 y7 y8 y9)) ∧ (∀ y0 y1 y2 y3 y4 y5 y6 y7 y8 y9 y10 y11, LeO (fault_request_held.l0 k y0 y1 y2 y3 y4 y5 y6 y7 y8 y9 y10 y11) (fault_request_held.l0 (k + 1) y0 y1 y2 y3 y4 y5 y6 y7 y8 y9 y10 y11)) ∧ (∀ y0 y1 y2 y3 y4 y5 y6 y7 y8 y9 y10, LeO (fault_request_held.j2 k y0 y1 y2 y3 y4 y5 y6 y7 y8 y9 y10) (fault_request_held.j2 (k + 1) y0 y1 y2 y3 y4 y5 y6 y7 y8 y9 y10))
 | 0 => ⟨fun _ _ _ _ _ _ _ _ _ _ r h => by simp [fault_request_held.j0] at h, fun _ _ _ _ _ _ _ _ _ _ _ _ r h => by simp [fault_request_held.l0] at h, fun _ _ _ _ _ _ _ _ _ _ _ r h => by simp [fault_request_held.j2] at h⟩
 | k + 1 => by
  obtain ⟨ih0, ih1, ih2⟩ := fault_request_held.mono_l k; refine ⟨?_, ?_, ?_⟩
  ·
   intro y0 y1 y2 y3 y4 y5 y6 y7 y8 y9
   unfold fault_request_held.j0
   repeat' first
   | (with_reducible exact ih0 _ _ _ _ _ _ _ _ _ _)
   | (with_reducible exact ih1 _ _ _ _ _ _ _ _ _ _ _ _)
   | (with_reducible exact ih2 _ _ _ _ _ _ _ _ _ _ _)
   | (with_reducible exact slices_Contains_int_int.mono _ _ _)
   | (with_reducible exact LeO.refl _)
   | (with_reducible exact LeO.none _)
   | (with_reducible refine LeO.ite ?_ ?_)
   | (with_reducible refine LeO.bind ?_ (fun _ => ?_))
   | exact ih0 _ _ _ _ _ _ _ _ _ _
   | exact ih1 _ _ _ _ _ _ _ _ _ _ _ _
   | exact ih2 _ _ _ _ _ _ _ _ _ _ _
   | exact slices_Contains_int_int.mono _ _ _
   | exact LeO.none _
   | refine LeO.ite ?_ ?_
   | refine LeO.bind ?_ (fun _ => ?_)
  ·
   intro y0 y1 y2 y3 y4 y5 y6 y7 y8 y9 y10 y11
   unfold fault_request_held.l0
   repeat' first
   | (with_reducible exact ih0 _ _ _ _ _ _ _ _ _ _)
   | (with_reducible exact ih1 _ _ _ _ _ _ _ _ _ _ _ _)
   | (with_reducible exact ih2 _ _ _ _ _ _ _ _ _ _ _)
   | (with_reducible exact slices_Contains_int_int.mono _ _ _)
   | (with_reducible exact LeO.refl _)
   | (with_reducible exact LeO.none _)
   | (with_reducible refine LeO.ite ?_ ?_)
   | (with_reducible refine LeO.bind ?_ (fun _ => ?_))
   | exact ih0 _ _ _ _ _ _ _ _ _ _
   | exact ih1 _ _ _ _ _ _ _ _ _ _ _ _
   | exact ih2 _ _ _ _ _ _ _ _ _ _ _
   | exact slices_Contains_int_int.mono _ _ _
   | exact LeO.none _
   | refine LeO.ite ?_ ?_
   | refine LeO.bind ?_ (fun _ => ?_)
  ·
   intro y0 y1 y2 y3 y4 y5 y6 y7 y8 y9 y10
   unfold fault_request_held.j2
   repeat' first
   | (with_reducible exact ih0 _ _ _ _ _ _ _ _ _ _)
   | (with_reducible exact ih1 _ _ _ _ _ _ _ _ _ _ _ _)
   | (with_reducible exact ih2 _ _ _ _ _ _ _ _ _ _ _)
   | (with_reducible exact slices_Contains_int_int.mono _ _ _)
   | (with_reducible exact LeO.refl _)
   | (with_reducible exact LeO.none _)
   | (with_reducible refine LeO.ite ?_ ?_)
   | (with_reducible refine LeO.bind ?_ (fun _ => ?_))
   | exact ih0 _ _ _ _ _ _ _ _ _ _
   | exact ih1 _ _ _ _ _ _ _ _ _ _ _ _
   | exact ih2 _ _ _ _ _ _ _ _ _ _ _
   | exact slices_Contains_int_int.mono _ _ _
   | exact LeO.none _
   | refine LeO.ite ?_ ?_
   | refine LeO.bind ?_ (fun _ => ?_)
theorem fault_request_held.mono : ∀ a0 a1 a2 a3 a4 a5 a6 a7 a8 k, LeO (fault_request_held.f k a0 a1 a2 a3 a4 a5 a6 a7 a8) (fault_request_held.f (k + 1) a0 a1 a2 a3 a4 a5 a6 a7 a8) := by
 intro a0 a1 a2 a3 a4 a5 a6 a7 a8 k; obtain ⟨ih0, ih1, ih2⟩ := fault_request_held.mono_l k
 unfold fault_request_held.f
 repeat' first
   | (with_reducible exact ih0 _ _ _ _ _ _ _ _ _ _)
   | (with_reducible exact ih1 _ _ _ _ _ _ _ _ _ _ _ _)
   | (with_reducible exact ih2 _ _ _ _ _ _ _ _ _ _ _)
   | (with_reducible exact slices_Contains_int_int.mono _ _ _)
   | (with_reducible exact LeO.refl _)
   | (with_reducible exact LeO.none _)
   | (with_reducible refine LeO.ite ?_ ?_)
   | (with_reducible refine LeO.bind ?_ (fun _ => ?_))
   | exact ih0 _ _ _ _ _ _ _ _ _ _
   | exact ih1 _ _ _ _ _ _ _ _ _ _ _ _
   | exact ih2 _ _ _ _ _ _ _ _ _ _ _
   | exact slices_Contains_int_int.mono _ _ _
   | exact LeO.none _
   | refine LeO.ite ?_ ?_
   | refine LeO.bind ?_ (fun _ => ?_)
set_option maxHeartbeats 8000000 in
set_option maxRecDepth 100000 in
theorem fault_request_held.calls (k : Nat) (a0_0 : Int) (a0_1 : Int) (a0_2 : Int) (a0_3 : Int) (a0_4 : Int) (a0_5 : Int) (a0_6 : Int) (A0_7 : Option Addr) (c0_7 : Nat) (l0_7 : List Int) (a0_8 : Int) (r : Int) (w : World) (hr0_7 : Kd.C (Kd.int .i64) w A0_7 l0_7.length l0_7) (hc0_7 : l0_7.length ≤ c0_7) (h : fault_request_held.f k a0_0 a0_1 a0_2 a0_3 a0_4 a0_5 a0_6 l0_7 a0_8 = some r) :
  Calls Try.prog 38 #[.agg #[.int .u64 a0_0, .int .i64 a0_1, .int .i64 a0_2, .int .i64 a0_3, .int .i64 a0_4, .int .u64 a0_5, .int .i64 a0_6, .slice A0_7 l0_7.length c0_7, .int .i64 a0_8]] w fun e w' => e = .returned (.int .i64 r) ∧ Below w.heap.size w w' := by
 have hu52 := Try.underlying52; have HR0_7 := am hr0_7; have HC0_7 := am hc0_7; clear hr0_7 hc0_7; have HB := am (Below.refl w.heap.size w); have H : (if a0_6 = 1 then (fault_request_held.j0 k ((l0_7.length : Int) == 0) a0_0 a0_1 a0_2 a0_3 a0_4 a0_5 a0_6 l0_7 a0_8) else (if a0_6 = 2 then (if (l0_7.length : Int) ≥ 1 then ((fault_request_most.f a0_0 a0_1 a0_2 a0_3 a0_4 a0_5 a0_6 l0_7 a0_8).bind fun t117 => (fault_request_held.j0 k (decide ((l0_7.length : Int) ≤ t117)) a0_0 a0_1 a0_2 a0_3 a0_4 a0_5 a0_6 l0_7 a0_8)) else (fault_request_held.j0 k false a0_0 a0_1 a0_2 a0_3 a0_4 a0_5 a0_6 l0_7 a0_8)) else (if a0_6 = 3 then (fault_request_held.j0 k (decide ((l0_7.length : Int) ≤ 1)) a0_0 a0_1 a0_2 a0_3 a0_4 a0_5 a0_6 l0_7 a0_8) else (if a0_6 = 4 then (fault_request_held.j0 k ((l0_7.length : Int) == 1) a0_0 a0_1 a0_2 a0_3 a0_4 a0_5 a0_6 l0_7 a0_8) else (fault_request_held.j0 k false a0_0 a0_1 a0_2 a0_3 a0_4 a0_5 a0_6 l0_7 a0_8))))) = some r := h; clear h; have HC2 := am H; clear H
 go_enter Try.func38, Try.ntmps38
 go_upto_block 0 with (first | ((with_reducible refine gate_dst (N := 1) rfl ?_); refine box_event ?hg (N := 1) ?hd (cs := #[.int .u64 a0_0, .int .i64 a0_1, .int .i64 a0_2, .int .i64 a0_3, .int .i64 a0_4, .int .u64 a0_5, .int .i64 a0_6, .slice A0_7 l0_7.length c0_7, .int .i64 a0_8]) (t := 52) ?hr ?_; (case hd => rfl); (case hg => rfl); (case hr => first | (go_simp; done) | (go_simp; rfl)); intro gb116 hg w3 hbox hb; have n0_ := am (below_step (pb HB.out) hb); have n1_ := am (hbox); have n2_ := am ((by rw [hg]; exact (below_size (pb HB.out)) : w.heap.size ≤ gb116)); have n3_ := am ((by rw [hg]; exact (below_size (pb HB.out)) : w.heap.size ≤ gb116)); clear HB; have HB := n0_; have BK116 := n1_; have GW116 := n2_; have GE116 := n3_; clear n0_ n1_ n2_ n3_; clear hb hbox hg; have hcz4_7 : w3.cell? ⟨gb116, 7, none⟩ = some (.slice A0_7 l0_7.length c0_7) := (blk_cell BK116.out 7).trans rfl; have hcz5_6 : w3.cell? ⟨gb116, 6, none⟩ = some (.int .i64 a0_6) := (blk_cell BK116.out 6).trans rfl))
 (try simp only [Act.put, List.setIfInBounds_toArray, List.set_cons_zero, List.set_cons_succ])
 go_cut [4] (fun v4 wc => ∃ (kq : Nat) (x4_1 : Bool), v4 = .bool x4_1 ∧ Aside0 (fault_request_held.j0 kq x4_1 a0_0 a0_1 a0_2 a0_3 a0_4 a0_5 a0_6 l0_7 a0_8 = some r) ∧ Aside0 (kq ≤ k) ∧ Aside0 (wc.heap[gb116]? = some (.cells #[.int .u64 a0_0, .int .i64 a0_1, .int .i64 a0_2, .int .i64 a0_3, .int .i64 a0_4, .int .u64 a0_5, .int .i64 a0_6, (.slice A0_7 l0_7.length c0_7), .int .i64 a0_8] 52 (0, 0))) ∧ Aside0 (Below w.heap.size w wc))
 case first =>
  have H := HC2.out; clear HC2
  by_cases c6 : a0_6 = 1
  ·
   rw [if_pos c6] at H; have c6b0 : (a0_6 == 1) = true := beq_iff_eq.mpr c6; have c6b1 : (a0_6 != 1) = false := bne_eq_false_iff_eq.mpr c6; clear c6; (first | rw [c6b0] | (simp only [i64_w, i32_w]; rw [c6b0]) | skip); have H' := am H; clear H
   go_wp2
   go_meet
   case rel => exact ⟨_, (((l0_7.length : Int) == 0)), (by first | rfl | (simp; done) | (simp [*]; done)), H', ⟨by first | omega | exact Nat.le_refl _⟩, ⟨by (with_reducible repeat (first | apply bN | apply bD | apply bA)); exact BK116.out⟩, ⟨pb HB.out⟩⟩
  ·
   rw [if_neg c6] at H; have c6b0 : (a0_6 == 1) = false := beq_eq_false_iff_ne.mpr c6; have c6b1 : (a0_6 != 1) = true := bne_iff_ne.mpr c6; (first | rw [c6b0] | (simp only [i64_w, i32_w]; rw [c6b0]) | skip)
   by_cases c7 : a0_6 = 2
   ·
    rw [if_pos c7] at H; have c7b0 : (a0_6 == 2) = true := beq_iff_eq.mpr c7; have c7b1 : (a0_6 != 2) = false := bne_eq_false_iff_eq.mpr c7; clear c7
    by_cases c8 : (l0_7.length : Int) ≥ 1
    ·
     rw [if_pos c8] at H; have c8b0 : decide (1 ≤ (l0_7.length : Int)) = true := decide_eq_true c8; have c8b1 : decide (1 ≤ l0_7.length) = true := decide_eq_true (by omega); clear c8; replace H := Option.bind_eq_some_iff.mp H; obtain ⟨t117, A90, H⟩ := H; replace H : (fault_request_held.j0 k (decide ((l0_7.length : Int) ≤ t117)) a0_0 a0_1 a0_2 a0_3 a0_4 a0_5 a0_6 l0_7 a0_8) = some r := H; have A9 := am A90; clear A90; have H' := am H; clear H
     go_wp2_with (first | ((with_reducible refine gate_dst (N := 23) rfl ?_); (try (refine gate_guard (by rfl) ?_; dsimp only)); refine load_whole ?hg (N := 23) ?hd (t := 52) (p := ?lp_23) ?ho (pk BK116.out) ?hp _ Try.underlying52 rfl ?hi ?_; (case hg => rfl); (case hd => rfl); (case ho => rfl); (case hp => first | (go_simp; done) | (go_simp; rfl)); (case hi => kernel_rfl)) | (go_at_call 33; (with_reducible refine (fault_request_most.calls a0_0 a0_1 a0_2 a0_3 a0_4 a0_5 a0_6 _ _ l0_7 a0_8 t117 _ ?side1 ?side2 A9.out).mono ?_); (case side1 => repeat (first | exact (Kd.C_below HR0_7.out HB.out) | (with_reducible refine Kd.C_alloc ?_ _) | (with_reducible refine Kd.C_drewN ?_ _) | (with_reducible refine Kd.C_drew ?_))); (case side2 => exact HC0_7.out); rintro e w10 ⟨rfl, hb⟩; have n0_ := am (blk_below (g := gb116) (o := .cells #[.int .u64 a0_0, .int .i64 a0_1, .int .i64 a0_2, .int .i64 a0_3, .int .i64 a0_4, .int .u64 a0_5, .int .i64 a0_6, .slice A0_7 l0_7.length c0_7, .int .i64 a0_8] 52 (0, 0)) (pk BK116.out) hb); have n1_ := am (below_step (pb HB.out) hb); clear BK116; clear HB; have BK116 := n0_; have HB := n1_; clear n0_ n1_; (try clear hb); (try clear hb2); (try clear hk); (try clear hi)))
     go_meet
     case rel => exact ⟨_, (decide ((l0_7.length : Int) ≤ t117)), (by first | rfl | (simp; done) | (simp [*]; done)), H', ⟨by first | omega | exact Nat.le_refl _⟩, ⟨by (with_reducible repeat (first | apply bN | apply bD | apply bA)); exact BK116.out⟩, ⟨pb HB.out⟩⟩
    ·
     rw [if_neg c8] at H; have c8b0 : decide (1 ≤ (l0_7.length : Int)) = false := decide_eq_false c8; have c8b1 : decide (1 ≤ l0_7.length) = false := decide_eq_false (by omega); clear c8; have H' := am H; clear H
     go_wp2
     go_meet
     case rel => exact ⟨_, (false), (by first | rfl | (simp; done) | (simp [*]; done)), H', ⟨by first | omega | exact Nat.le_refl _⟩, ⟨by (with_reducible repeat (first | apply bN | apply bD | apply bA)); exact BK116.out⟩, ⟨pb HB.out⟩⟩
   ·
    rw [if_neg c7] at H; have c7b0 : (a0_6 == 2) = false := beq_eq_false_iff_ne.mpr c7; have c7b1 : (a0_6 != 2) = true := bne_iff_ne.mpr c7
    by_cases c11 : a0_6 = 3
    ·
     rw [if_pos c11] at H; have c11b0 : (a0_6 == 3) = true := beq_iff_eq.mpr c11; have c11b1 : (a0_6 != 3) = false := bne_eq_false_iff_eq.mpr c11; clear c11; have H' := am H; clear H
     go_wp2
     go_meet
     case rel => exact ⟨_, (decide ((l0_7.length : Int) ≤ 1)), (by first | rfl | (simp; done) | (simp [*]; done)), H', ⟨by first | omega | exact Nat.le_refl _⟩, ⟨by (with_reducible repeat (first | apply bN | apply bD | apply bA)); exact BK116.out⟩, ⟨pb HB.out⟩⟩
    ·
     rw [if_neg c11] at H; have c11b0 : (a0_6 == 3) = false := beq_eq_false_iff_ne.mpr c11; have c11b1 : (a0_6 != 3) = true := bne_iff_ne.mpr c11
     by_cases c12 : a0_6 = 4
     ·
      rw [if_pos c12] at H; have c12b0 : (a0_6 == 4) = true := beq_iff_eq.mpr c12; have c12b1 : (a0_6 != 4) = false := bne_eq_false_iff_eq.mpr c12; clear c12; have H' := am H; clear H
      go_wp2
      go_meet
      case rel => exact ⟨_, (((l0_7.length : Int) == 1)), (by first | rfl | (simp; done) | (simp [*]; done)), H', ⟨by first | omega | exact Nat.le_refl _⟩, ⟨by (with_reducible repeat (first | apply bN | apply bD | apply bA)); exact BK116.out⟩, ⟨pb HB.out⟩⟩
     ·
      rw [if_neg c12] at H; have c12b0 : (a0_6 == 4) = false := beq_eq_false_iff_ne.mpr c12; have c12b1 : (a0_6 != 4) = true := bne_iff_ne.mpr c12; have H' := am H; clear H
      go_wp2
      go_meet
      case rel => exact ⟨_, (false), (by first | rfl | (simp; done) | (simp [*]; done)), H', ⟨by first | omega | exact Nat.le_refl _⟩, ⟨by (with_reducible repeat (first | apply bN | apply bD | apply bA)); exact BK116.out⟩, ⟨pb HB.out⟩⟩
 case rest =>
  clear HC2; (try clear c1); (try clear p2); (try clear c3); (try clear c6); (try clear c6b0); (try clear c6b1); (try clear c7); (try clear c7b0); (try clear c7b1); (try clear c8); (try clear c8b0); (try clear c8b1); (try clear c11); (try clear c11b0); (try clear c11b1); (try clear c12); (try clear c12b0); (try clear c12b1); (try clear hcz4_7); (try clear hcz5_6); obtain ⟨kq, x4_1, rfl, HA, HJ1, BK116, HB⟩ := hcut
  cases kq with
  | zero => exact absurd HA.out (by simp [fault_request_held.j0])
  | succ kj1 =>
   have H := HA.out; clear HA; simp only [fault_request_held.j0] at H
   by_cases c13 : x4_1 = true
   ·
    subst c13; have H1 : (fault_request_held.l0 kj1 l0_7 (l0_7.length : Int) 0 a0_0 a0_1 a0_2 a0_3 a0_4 a0_5 a0_6 l0_7 a0_8) = some r := by rw [if_pos rfl] at H; exact H
    clear H; have H := H1; clear H1; have H' := am H; clear H; have hcz14_7 : wc.cell? ⟨gb116, 7, none⟩ = some (.slice A0_7 l0_7.length c0_7) := (blk_cell BK116.out 7).trans rfl
    go_wp2
    go_loopg [40] kj1 (fun kq v40 w' => ∃ (x40_2 : Int), v40 = .int .i64 x40_2 ∧ Aside0 (fault_request_held.l0 kq l0_7 (l0_7.length : Int) x40_2 a0_0 a0_1 a0_2 a0_3 a0_4 a0_5 a0_6 l0_7 a0_8 = some r) ∧ Aside0 (kq ≤ kj1) ∧ Aside0 (w'.heap[gb116]? = some (.cells #[.int .u64 a0_0, .int .i64 a0_1, .int .i64 a0_2, .int .i64 a0_3, .int .i64 a0_4, .int .u64 a0_5, .int .i64 a0_6, (.slice A0_7 l0_7.length c0_7), .int .i64 a0_8] 52 (0, 0))) ∧ Aside0 (Below w.heap.size w w'))
    case atStart => exact ⟨(0), (by first | rfl | (simp; done) | (simp [*]; done)), H', ⟨Nat.le_refl _⟩, ⟨by (with_reducible repeat (first | apply bN | apply bD | apply bA)); exact BK116.out⟩, ⟨pb HB.out⟩⟩
    case round =>
     clear H'; (try clear c1); (try clear p2); (try clear c3); (try clear c6); (try clear c6b0); (try clear c6b1); (try clear c7); (try clear c7b0); (try clear c7b1); (try clear c8); (try clear c8b0); (try clear c8b1); (try clear c11); (try clear c11b0); (try clear c11b1); (try clear c12); (try clear c12b0); (try clear c12b1); (try clear c13); (try clear hcz14_7); (try clear hcz4_7); (try clear hcz5_6); (try clear p2); obtain ⟨x40_2, rfl, HA, HK2, BK116, HB⟩ := hrel
     cases gk with
     | zero => exact absurd HA.out (by simp [fault_request_held.l0])
     | succ k2 =>
      have H := HA.out; clear HA; simp only [fault_request_held.l0] at H
      by_cases c15 : x40_2 < (l0_7.length : Int)
      ·
       rw [if_pos c15] at H; have c15b0 : decide (x40_2 < (l0_7.length : Int)) = true := decide_eq_true c15; clear c15
       by_cases c16 : 0 ≤ x40_2
       ·
        rw [if_pos c16] at H; have c16b0 : decide (0 ≤ x40_2) = true := decide_eq_true c16; clear c16
        by_cases c17 : x40_2 < (l0_7.length : Int)
        ·
         rw [if_pos c17] at H; have c17b0 : decide (x40_2 < (l0_7.length : Int)) = true := decide_eq_true c17; clear c17; replace H := Option.bind_eq_some_iff.mp H; obtain ⟨t119, A180, H⟩ := H; replace H : (if t119 = true then (if x40_2 ≤ (l0_7.length : Int) then ((slices_Contains_int_int.f k2 (l0_7.take (x40_2 : Int).toNat) (rd l0_7 x40_2)).bind fun t121 => (if t121 = true then (some 7) else (fault_request_held.l0 k2 l0_7 (l0_7.length : Int) (wrap64 (x40_2 + 1)) a0_0 a0_1 a0_2 a0_3 a0_4 a0_5 a0_6 l0_7 a0_8))) else (none)) else (some 2)) = some r := H; have A18 := am A180; clear A180
         by_cases c19 : t119 = true
         ·
          subst c19; have H1 : (if x40_2 ≤ (l0_7.length : Int) then ((slices_Contains_int_int.f k2 (l0_7.take (x40_2 : Int).toNat) (rd l0_7 x40_2)).bind fun t121 => (if t121 = true then (some 7) else (fault_request_held.l0 k2 l0_7 (l0_7.length : Int) (wrap64 (x40_2 + 1)) a0_0 a0_1 a0_2 a0_3 a0_4 a0_5 a0_6 l0_7 a0_8))) else (none)) = some r := by rw [if_pos rfl] at H; exact H
          clear H; have H := H1; clear H1; have c20b0 := eq_true (of_decide_eq_true (by first | (with_reducible assumption) | assumption) : 0 ≤ x40_2)
          by_cases c21 : x40_2 ≤ (l0_7.length : Int)
          ·
           rw [if_pos c21] at H; have c21b0 := eq_true c21; have c21b1 : decide (x40_2 ≤ (l0_7.length : Int)) = true := decide_eq_true c21; clear c21; replace H := Option.bind_eq_some_iff.mp H; obtain ⟨t121, A220, H⟩ := H; replace H : (if t121 = true then (some 7) else (fault_request_held.l0 k2 l0_7 (l0_7.length : Int) (wrap64 (x40_2 + 1)) a0_0 a0_1 a0_2 a0_3 a0_4 a0_5 a0_6 l0_7 a0_8)) = some r := H; have A22 := am A220; clear A220
           by_cases c23 : t121 = true
           ·
            subst c23; have H1 : (some 7) = some r := by rw [if_pos rfl] at H; exact H
            clear H; have H := H1; clear H1; obtain rfl := Option.some.inj H; have p118 : 0 ≤ (x40_2 : Int) := of_decide_eq_true (by first | (with_reducible assumption) | assumption); have q118 : x40_2 < (l0_7.length : Int) := of_decide_eq_true (by first | (with_reducible assumption) | assumption); obtain ⟨ad118, e118, hx118_0⟩ := Kd.at_int HR0_7.out x40_2 p118 q118; cases e118; replace hx118_0 := (HB.out.cell (World.block_lt_of_cell? w _ hx118_0)).trans hx118_0; replace p118 := eq_true p118; replace q118 := eq_true q118
            go_wp2_with (first | ((with_reducible refine gate_callee (f := 34) rfl ?_); refine goesL_ (some 47) rfl rfl Try.func34 (by kernel_rfl) rfl #[.int .i64 (rd l0_7 x40_2), .int .i64 0, .int .i64 256] rfl (by (try simp only [List.map_toArray, List.map_cons, List.map_nil]); first | done | rfl | (simp only [List.length_drop, List.length_take]; rfl)) ?_; (with_reducible refine (fault_in.calls (rd l0_7 x40_2) 0 256 true _ A18.out).mono ?_); rintro e w' ⟨rfl, ⟨nd, rfl⟩⟩; refine ⟨_, rfl, ?_⟩; have hcz24_7 : wr.cell? ⟨gb116, 7, none⟩ = some (.slice (some ad118) l0_7.length c0_7) := (blk_cell BK116.out 7).trans rfl; obtain ⟨i025, hi025, _, hsz25, _⟩ := info_parts info3; obtain ⟨hcut25, hA25, hC25⟩ := print_take_of (P := Try.prog) (Value.int .i64) 0 25 3 .i64 Try.underlying25 hi025 hsz25 (some ad118) c0_7 l0_7 x40_2 (of_decide_eq_true (by first | (with_reducible assumption) | assumption)) (of_decide_eq_true (by first | (with_reducible assumption) | assumption)) HC0_7.out; have HR120 := am (Kd.C_of_reads (h1 := fun _ => rfl) (hA25 _ (Kd.reads_of_C HR0_7.out))); have HC120 := am hC25; clear hA25 hC25 hi025 hsz25) | ((with_reducible refine gate_callee (f := 35) rfl ?_); refine goesL_ (some 55) rfl rfl Try.func35 (by kernel_rfl) rfl #[.slice (some ad118) (l0_7.take (x40_2 : Int).toNat).length c0_7, .int .i64 (rd l0_7 x40_2)] rfl (by (try simp only [List.map_toArray, List.map_cons, List.map_nil]); first | done | (rw [show (l0_7.take (x40_2 : Int).toNat).length = x40_2.toNat from (by rw [List.length_take]; have h_ : (x40_2 : Int) ≤ (l0_7.length : Int) := of_decide_eq_true (by first | (with_reducible assumption) | assumption); omega)] <;> rfl) | rfl | (simp only [List.length_drop, List.length_take]; rfl)) ?_; (with_reducible refine (slices_Contains_int_int.calls k2 _ _ (l0_7.take (x40_2 : Int).toNat) (rd l0_7 x40_2) true _ ?side1 ?side2 A22.out).mono ?_); (case side1 => repeat (first | exact (Kd.C_below HR120.out (pb HB.out)) | (with_reducible refine Kd.C_alloc ?_ _) | (with_reducible refine Kd.C_drewN ?_ _) | (with_reducible refine Kd.C_drew ?_))); (case side2 => exact HC120.out); rintro e w' ⟨rfl, ⟨nd, rfl⟩⟩; refine ⟨_, rfl, ?_⟩))
            go_ret
            exact ⟨by first | rfl | (simp [errW_none, errW_some] <;> rfl) | (simp [*, errW_none, errW_some] <;> rfl), pb HB.out⟩
           ·
            replace c23 := Bool.eq_false_iff.mpr c23; subst c23; have H1 : (fault_request_held.l0 k2 l0_7 (l0_7.length : Int) (wrap64 (x40_2 + 1)) a0_0 a0_1 a0_2 a0_3 a0_4 a0_5 a0_6 l0_7 a0_8) = some r := by rw [if_neg (show ¬ (false = true) by decide)] at H; exact H
            clear H; have H := H1; clear H1; have H' := am H; clear H; have p118 : 0 ≤ (x40_2 : Int) := of_decide_eq_true (by first | (with_reducible assumption) | assumption); have q118 : x40_2 < (l0_7.length : Int) := of_decide_eq_true (by first | (with_reducible assumption) | assumption); obtain ⟨ad118, e118, hx118_0⟩ := Kd.at_int HR0_7.out x40_2 p118 q118; cases e118; replace hx118_0 := (HB.out.cell (World.block_lt_of_cell? w _ hx118_0)).trans hx118_0; replace p118 := eq_true p118; replace q118 := eq_true q118
            go_wp2_with (first | ((with_reducible refine gate_callee (f := 34) rfl ?_); refine goesL_ (some 47) rfl rfl Try.func34 (by kernel_rfl) rfl #[.int .i64 (rd l0_7 x40_2), .int .i64 0, .int .i64 256] rfl (by (try simp only [List.map_toArray, List.map_cons, List.map_nil]); first | done | rfl | (simp only [List.length_drop, List.length_take]; rfl)) ?_; (with_reducible refine (fault_in.calls (rd l0_7 x40_2) 0 256 true _ A18.out).mono ?_); rintro e w' ⟨rfl, ⟨nd, rfl⟩⟩; refine ⟨_, rfl, ?_⟩; have hcz26_7 : wr.cell? ⟨gb116, 7, none⟩ = some (.slice (some ad118) l0_7.length c0_7) := (blk_cell BK116.out 7).trans rfl; obtain ⟨i027, hi027, _, hsz27, _⟩ := info_parts info3; obtain ⟨hcut27, hA27, hC27⟩ := print_take_of (P := Try.prog) (Value.int .i64) 0 25 3 .i64 Try.underlying25 hi027 hsz27 (some ad118) c0_7 l0_7 x40_2 (of_decide_eq_true (by first | (with_reducible assumption) | assumption)) (of_decide_eq_true (by first | (with_reducible assumption) | assumption)) HC0_7.out; have HR120 := am (Kd.C_of_reads (h1 := fun _ => rfl) (hA27 _ (Kd.reads_of_C HR0_7.out))); have HC120 := am hC27; clear hA27 hC27 hi027 hsz27) | ((with_reducible refine gate_callee (f := 35) rfl ?_); refine goesL_ (some 55) rfl rfl Try.func35 (by kernel_rfl) rfl #[.slice (some ad118) (l0_7.take (x40_2 : Int).toNat).length c0_7, .int .i64 (rd l0_7 x40_2)] rfl (by (try simp only [List.map_toArray, List.map_cons, List.map_nil]); first | done | (rw [show (l0_7.take (x40_2 : Int).toNat).length = x40_2.toNat from (by rw [List.length_take]; have h_ : (x40_2 : Int) ≤ (l0_7.length : Int) := of_decide_eq_true (by first | (with_reducible assumption) | assumption); omega)] <;> rfl) | rfl | (simp only [List.length_drop, List.length_take]; rfl)) ?_; (with_reducible refine (slices_Contains_int_int.calls k2 _ _ (l0_7.take (x40_2 : Int).toNat) (rd l0_7 x40_2) false _ ?side1 ?side2 A22.out).mono ?_); (case side1 => repeat (first | exact (Kd.C_below HR120.out (pb HB.out)) | (with_reducible refine Kd.C_alloc ?_ _) | (with_reducible refine Kd.C_drewN ?_ _) | (with_reducible refine Kd.C_drew ?_))); (case side2 => exact HC120.out); rintro e w' ⟨rfl, ⟨nd, rfl⟩⟩; refine ⟨_, rfl, ?_⟩))
            go_roundg k2
            case measure => have := HJ1.out; have := HK2.out; omega
            case rel => exact ⟨(wrap64 (x40_2 + 1)), (by first | rfl | (simp; done) | (simp [*]; done)), H', ⟨by have := HJ1.out; have := HK2.out; omega⟩, ⟨by (with_reducible repeat (first | apply bN | apply bD | apply bA)); exact BK116.out⟩, ⟨pb HB.out⟩⟩
          ·
           rw [if_neg c21] at H; exact absurd H (by simp)
         ·
          replace c19 := Bool.eq_false_iff.mpr c19; subst c19; have H1 : (some 2) = some r := by rw [if_neg (show ¬ (false = true) by decide)] at H; exact H
          clear H; have H := H1; clear H1; obtain rfl := Option.some.inj H; have p118 : 0 ≤ (x40_2 : Int) := of_decide_eq_true (by first | (with_reducible assumption) | assumption); have q118 : x40_2 < (l0_7.length : Int) := of_decide_eq_true (by first | (with_reducible assumption) | assumption); obtain ⟨ad118, e118, hx118_0⟩ := Kd.at_int HR0_7.out x40_2 p118 q118; cases e118; replace hx118_0 := (HB.out.cell (World.block_lt_of_cell? w _ hx118_0)).trans hx118_0; replace p118 := eq_true p118; replace q118 := eq_true q118
          go_wp2_with (first | ((with_reducible refine gate_callee (f := 34) rfl ?_); refine goesL_ (some 47) rfl rfl Try.func34 (by kernel_rfl) rfl #[.int .i64 (rd l0_7 x40_2), .int .i64 0, .int .i64 256] rfl (by (try simp only [List.map_toArray, List.map_cons, List.map_nil]); first | done | rfl | (simp only [List.length_drop, List.length_take]; rfl)) ?_; (with_reducible refine (fault_in.calls (rd l0_7 x40_2) 0 256 false _ A18.out).mono ?_); rintro e w' ⟨rfl, ⟨nd, rfl⟩⟩; refine ⟨_, rfl, ?_⟩))
          go_ret
          exact ⟨by first | rfl | (simp [errW_none, errW_some] <;> rfl) | (simp [*, errW_none, errW_some] <;> rfl), pb HB.out⟩
        ·
         rw [if_neg c17] at H; exact absurd H (by simp)
       ·
        rw [if_neg c16] at H; exact absurd H (by simp)
      ·
       rw [if_neg c15] at H; have c15b0 : decide (x40_2 < (l0_7.length : Int)) = false := decide_eq_false c15; clear c15; have HC28 := am H; clear H
       go_upto_region 23 with (fail)
       go_cut [64] (fun v64 wc => ∃ (kq : Nat) (x64_27 : Bool), v64 = .bool x64_27 ∧ Aside0 (fault_request_held.j2 kq 1 x64_27 a0_0 a0_1 a0_2 a0_3 a0_4 a0_5 a0_6 l0_7 a0_8 = some r) ∧ Aside0 (kq ≤ k2) ∧ Aside0 (wc.heap[gb116]? = some (.cells #[.int .u64 a0_0, .int .i64 a0_1, .int .i64 a0_2, .int .i64 a0_3, .int .i64 a0_4, .int .u64 a0_5, .int .i64 a0_6, (.slice A0_7 l0_7.length c0_7), .int .i64 a0_8] 52 (0, 0))) ∧ Aside0 (Below w.heap.size w wc))
       case first =>
        have H := HC28.out; clear HC28
        by_cases c29 : a0_6 = 3
        ·
         rw [if_pos c29] at H; have c29b0 : (a0_6 == 3) = true := beq_iff_eq.mpr c29; have c29b1 : (a0_6 != 3) = false := bne_eq_false_iff_eq.mpr c29; clear c29; (first | rw [c29b0] | (simp only [i64_w, i32_w]; rw [c29b0]) | skip); have H' := am H; clear H; have hcz30_6 : wr.cell? ⟨gb116, 6, none⟩ = some (.int .i64 a0_6) := (blk_cell BK116.out 6).trans rfl
         go_wp2
         go_meet
         case rel => exact ⟨_, (true), (by first | rfl | (simp; done) | (simp [*]; done)), H', ⟨by have := HJ1.out; have := HK2.out; first | omega | exact Nat.le_refl _⟩, ⟨by (with_reducible repeat (first | apply bN | apply bD | apply bA)); exact BK116.out⟩, ⟨pb HB.out⟩⟩
        ·
         rw [if_neg c29] at H; have c29b0 : (a0_6 == 3) = false := beq_eq_false_iff_ne.mpr c29; have c29b1 : (a0_6 != 3) = true := bne_iff_ne.mpr c29; (first | rw [c29b0] | (simp only [i64_w, i32_w]; rw [c29b0]) | skip); have H' := am H; clear H; have hcz31_6 : wr.cell? ⟨gb116, 6, none⟩ = some (.int .i64 a0_6) := (blk_cell BK116.out 6).trans rfl
         go_wp2
         go_meet
         case rel => exact ⟨_, ((a0_6 == 4)), (by first | rfl | (simp; done) | (simp [*]; done)), H', ⟨by have := HJ1.out; have := HK2.out; first | omega | exact Nat.le_refl _⟩, ⟨by (with_reducible repeat (first | apply bN | apply bD | apply bA)); exact BK116.out⟩, ⟨pb HB.out⟩⟩
       case rest =>
        clear HC28; (try clear c1); (try clear p1); (try clear q1); (try clear hx1); (try clear c2); (try clear p2); (try clear c3); (try clear c6); (try clear c6b0); (try clear c6b1); (try clear p6); (try clear c7); (try clear c7b0); (try clear c7b1); (try clear c8); (try clear c8b0); (try clear c8b1); (try clear c11); (try clear c11b0); (try clear c11b1); (try clear p11); (try clear q11); (try clear hx11); (try clear c12); (try clear c12b0); (try clear c12b1); (try clear c13); (try clear c15); (try clear c15b0); (try clear c16); (try clear c16b0); (try clear c17); (try clear c17b0); (try clear c19); (try clear c20); (try clear c20b0); (try clear c21); (try clear c21b0); (try clear c21b1); (try clear c23); (try clear c29); (try clear c29b0); (try clear c29b1); (try clear hcz14_7); (try clear hcz24_7); (try clear hcz26_7); (try clear hcz30_6); (try clear hcz31_6); (try clear hcz4_7); (try clear hcz5_6); (try clear hx118_0); (try clear p118); (try clear p2); (try clear q118); obtain ⟨kq, x64_27, rfl, HA, HJ27, BK116, HB⟩ := hcut
        cases kq with
        | zero => exact absurd HA.out (by simp [fault_request_held.j2])
        | succ kj27 =>
         have H := HA.out; clear HA; simp only [fault_request_held.j2] at H
         by_cases c32 : x64_27 = true
         ·
          subst c32; have H1 : ((fault_in.f a0_8 0 256).bind fun t122 => (if t122 = true then (some 0) else (some 2))) = some r := by rw [if_pos rfl] at H; exact H
          clear H; have H := H1; clear H1; replace H := Option.bind_eq_some_iff.mp H; obtain ⟨t122, A330, H⟩ := H; replace H : (if t122 = true then (some 0) else (some 2)) = some r := H; have A33 := am A330; clear A330
          by_cases c34 : t122 = true
          ·
           subst c34; have H1 : (some 0) = some r := by rw [if_pos rfl] at H; exact H
           clear H; have H := H1; clear H1; obtain rfl := Option.some.inj H; have hcz35_8 : wc.cell? ⟨gb116, 8, none⟩ = some (.int .i64 a0_8) := (blk_cell BK116.out 8).trans rfl
           go_wp2_with (first | ((with_reducible refine gate_callee (f := 34) rfl ?_); refine goesL_ (some 68) rfl rfl Try.func34 (by kernel_rfl) rfl #[.int .i64 a0_8, .int .i64 0, .int .i64 256] rfl (by (try simp only [List.map_toArray, List.map_cons, List.map_nil]); first | done | rfl | (simp only [List.length_drop, List.length_take]; rfl)) ?_; (with_reducible refine (fault_in.calls a0_8 0 256 true _ A33.out).mono ?_); rintro e w' ⟨rfl, ⟨nd, rfl⟩⟩; refine ⟨_, rfl, ?_⟩))
           go_ret
           exact ⟨by first | rfl | (simp [errW_none, errW_some] <;> rfl) | (simp [*, errW_none, errW_some] <;> rfl), pb HB.out⟩
          ·
           replace c34 := Bool.eq_false_iff.mpr c34; subst c34; have H1 : (some 2) = some r := by rw [if_neg (show ¬ (false = true) by decide)] at H; exact H
           clear H; have H := H1; clear H1; obtain rfl := Option.some.inj H; have hcz36_8 : wc.cell? ⟨gb116, 8, none⟩ = some (.int .i64 a0_8) := (blk_cell BK116.out 8).trans rfl
           go_wp2_with (first | ((with_reducible refine gate_callee (f := 34) rfl ?_); refine goesL_ (some 68) rfl rfl Try.func34 (by kernel_rfl) rfl #[.int .i64 a0_8, .int .i64 0, .int .i64 256] rfl (by (try simp only [List.map_toArray, List.map_cons, List.map_nil]); first | done | rfl | (simp only [List.length_drop, List.length_take]; rfl)) ?_; (with_reducible refine (fault_in.calls a0_8 0 256 false _ A33.out).mono ?_); rintro e w' ⟨rfl, ⟨nd, rfl⟩⟩; refine ⟨_, rfl, ?_⟩))
           go_ret
           exact ⟨by first | rfl | (simp [errW_none, errW_some] <;> rfl) | (simp [*, errW_none, errW_some] <;> rfl), pb HB.out⟩
         ·
          replace c32 := Bool.eq_false_iff.mpr c32; subst c32; have H1 : ((fault_in.f a0_8 0 1).bind fun t123 => (if t123 = true then (some 0) else (some 2))) = some r := by rw [if_neg (show ¬ (false = true) by decide)] at H; exact H
          clear H; have H := H1; clear H1; replace H := Option.bind_eq_some_iff.mp H; obtain ⟨t123, A370, H⟩ := H; replace H : (if t123 = true then (some 0) else (some 2)) = some r := H; have A37 := am A370; clear A370
          by_cases c38 : t123 = true
          ·
           subst c38; have H1 : (some 0) = some r := by rw [if_pos rfl] at H; exact H
           clear H; have H := H1; clear H1; obtain rfl := Option.some.inj H; have hcz39_8 : wc.cell? ⟨gb116, 8, none⟩ = some (.int .i64 a0_8) := (blk_cell BK116.out 8).trans rfl
           go_wp2_with (first | ((with_reducible refine gate_callee (f := 34) rfl ?_); refine goesL_ (some 68) rfl rfl Try.func34 (by kernel_rfl) rfl #[.int .i64 a0_8, .int .i64 0, .int .i64 1] rfl (by (try simp only [List.map_toArray, List.map_cons, List.map_nil]); first | done | rfl | (simp only [List.length_drop, List.length_take]; rfl)) ?_; (with_reducible refine (fault_in.calls a0_8 0 1 true _ A37.out).mono ?_); rintro e w' ⟨rfl, ⟨nd, rfl⟩⟩; refine ⟨_, rfl, ?_⟩))
           go_ret
           exact ⟨by first | rfl | (simp [errW_none, errW_some] <;> rfl) | (simp [*, errW_none, errW_some] <;> rfl), pb HB.out⟩
          ·
           replace c38 := Bool.eq_false_iff.mpr c38; subst c38; have H1 : (some 2) = some r := by rw [if_neg (show ¬ (false = true) by decide)] at H; exact H
           clear H; have H := H1; clear H1; obtain rfl := Option.some.inj H; have hcz40_8 : wc.cell? ⟨gb116, 8, none⟩ = some (.int .i64 a0_8) := (blk_cell BK116.out 8).trans rfl
           go_wp2_with (first | ((with_reducible refine gate_callee (f := 34) rfl ?_); refine goesL_ (some 68) rfl rfl Try.func34 (by kernel_rfl) rfl #[.int .i64 a0_8, .int .i64 0, .int .i64 1] rfl (by (try simp only [List.map_toArray, List.map_cons, List.map_nil]); first | done | rfl | (simp only [List.length_drop, List.length_take]; rfl)) ?_; (with_reducible refine (fault_in.calls a0_8 0 1 false _ A37.out).mono ?_); rintro e w' ⟨rfl, ⟨nd, rfl⟩⟩; refine ⟨_, rfl, ?_⟩))
           go_ret
           exact ⟨by first | rfl | (simp [errW_none, errW_some] <;> rfl) | (simp [*, errW_none, errW_some] <;> rfl), pb HB.out⟩
   ·
    replace c13 := Bool.eq_false_iff.mpr c13; subst c13; have H1 : (some 5) = some r := by rw [if_neg (show ¬ (false = true) by decide)] at H; exact H
    clear H; have H := H1; clear H1; obtain rfl := Option.some.inj H
    go_wp2
    go_ret
    exact ⟨by first | rfl | (simp [errW_none, errW_some] <;> rfl) | (simp [*, errW_none, errW_some] <;> rfl), pb HB.out⟩

end Go.Proofs.Ytigpacfcklcmpaa.X
