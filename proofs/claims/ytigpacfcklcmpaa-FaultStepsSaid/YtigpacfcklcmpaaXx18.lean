/- Of these Go functions: what each computes, and that the machine's call comes to it. Laid by a program of this session. -/
import Derived.Test.YtigpacfcklcmpaaXx0
import Derived.Test.YtigpacfcklcmpaaXx16
import Derived.Test.YtigpacfcklcmpaaXx17
import Derived.Test.YtigpacfcklcmpaaShort
namespace Go.Proofs.Ytigpacfcklcmpaa.X
open Go.RowKit Go.Proofs.YtigpacfcklcmpaaW.PrintWords Go.Proofs.YtigpacfcklcmpaaW.PrintLast Go.Proofs.YtigpacfcklcmpaaW.PrintMore
attribute [local go_sem] max2_int min2_int max_two min_two max_three min_three max_four min_four   -- for this text's walks alone
set_option linter.unusedVariables false
set_option linter.unusedSimpArgs false

/-! ### headgateref35_Check: function 39 -/
mutual
def headgateref35_Check.j0 : Nat → Bool → Int → Int → Int → Int → Int → Int → Int → List Int → Int → Option (Int)
 | 0, _, _, _, _, _, _, _, _, _, _ => none
 | k + 1, x13, x534000, x534001, x534002, x534003, x534004, x534005, x534006, x534007, x534008 => if x13 = true then (some 2) else ((headgateref35_command.f k x534001 x534002 x534003 x534004 x534005).bind fun t534 => (if t534 = 0 then (if x534006 < 1 then (headgateref35_Check.j1 k true x534000 x534001 x534002 x534003 x534004 x534005 x534006 x534007 x534008) else (if x534006 > 4 then (headgateref35_Check.j1 k true x534000 x534001 x534002 x534003 x534004 x534005 x534006 x534007 x534008) else ((headgateref35_access.f x534000 x534001 x534002 x534003 x534004 x534005 x534006 x534007 x534008).bind fun t535 => (if t535 = true then (headgateref35_Check.j1 k false x534000 x534001 x534002 x534003 x534004 x534005 x534006 x534007 x534008) else (headgateref35_Check.j1 k (decide (x534006 > 2)) x534000 x534001 x534002 x534003 x534004 x534005 x534006 x534007 x534008))))) else (some t534)))
def headgateref35_Check.j1 : Nat → Bool → Int → Int → Int → Int → Int → Int → Int → List Int → Int → Option (Int)
 | 0, _, _, _, _, _, _, _, _, _, _ => none
 | k + 1, x37, x534000, x534001, x534002, x534003, x534004, x534005, x534006, x534007, x534008 => if x37 = true then (some 9) else (if x534006 = 1 then (if (x534007.length : Int) > 0 then (headgateref35_Check.j2 k (x534007.length : Int) true x534000 x534001 x534002 x534003 x534004 x534005 x534006 x534007 x534008) else (if x534006 = 2 then (if (x534007.length : Int) = 0 then (headgateref35_Check.j2 k (x534007.length : Int) true x534000 x534001 x534002 x534003 x534004 x534005 x534006 x534007 x534008) else ((headgateref35_room.f x534000 x534001 x534002 x534003 x534004 x534005 x534006 x534007 x534008).bind fun t536 => (headgateref35_Check.j2 k (x534007.length : Int) (decide ((x534007.length : Int) > t536)) x534000 x534001 x534002 x534003 x534004 x534005 x534006 x534007 x534008))) else (if x534006 = 4 then (if (x534007.length : Int) = 0 then (headgateref35_Check.j2 k (x534007.length : Int) true x534000 x534001 x534002 x534003 x534004 x534005 x534006 x534007 x534008) else ((headgateref35_room.f x534000 x534001 x534002 x534003 x534004 x534005 x534006 x534007 x534008).bind fun t537 => (headgateref35_Check.j2 k (x534007.length : Int) (decide ((x534007.length : Int) > t537)) x534000 x534001 x534002 x534003 x534004 x534005 x534006 x534007 x534008))) else ((headgateref35_room.f x534000 x534001 x534002 x534003 x534004 x534005 x534006 x534007 x534008).bind fun t538 => (headgateref35_Check.j2 k (x534007.length : Int) (decide ((x534007.length : Int) > t538)) x534000 x534001 x534002 x534003 x534004 x534005 x534006 x534007 x534008))))) else (if x534006 = 2 then (if (x534007.length : Int) = 0 then (headgateref35_Check.j2 k (x534007.length : Int) true x534000 x534001 x534002 x534003 x534004 x534005 x534006 x534007 x534008) else ((headgateref35_room.f x534000 x534001 x534002 x534003 x534004 x534005 x534006 x534007 x534008).bind fun t539 => (headgateref35_Check.j2 k (x534007.length : Int) (decide ((x534007.length : Int) > t539)) x534000 x534001 x534002 x534003 x534004 x534005 x534006 x534007 x534008))) else (if x534006 = 4 then (if (x534007.length : Int) = 0 then (headgateref35_Check.j2 k (x534007.length : Int) true x534000 x534001 x534002 x534003 x534004 x534005 x534006 x534007 x534008) else ((headgateref35_room.f x534000 x534001 x534002 x534003 x534004 x534005 x534006 x534007 x534008).bind fun t540 => (headgateref35_Check.j2 k (x534007.length : Int) (decide ((x534007.length : Int) > t540)) x534000 x534001 x534002 x534003 x534004 x534005 x534006 x534007 x534008))) else ((headgateref35_room.f x534000 x534001 x534002 x534003 x534004 x534005 x534006 x534007 x534008).bind fun t541 => (headgateref35_Check.j2 k (x534007.length : Int) (decide ((x534007.length : Int) > t541)) x534000 x534001 x534002 x534003 x534004 x534005 x534006 x534007 x534008)))))
def headgateref35_Check.j2 : Nat → Int → Bool → Int → Int → Int → Int → Int → Int → Int → List Int → Int → Option (Int)
 | 0, _, _, _, _, _, _, _, _, _, _, _ => none
 | k + 1, x4, x67, x534000, x534001, x534002, x534003, x534004, x534005, x534006, x534007, x534008 => if x67 = true then (some 5) else (headgateref35_Check.l0 k x4 0 x534000 x534001 x534002 x534003 x534004 x534005 x534006 x534007 x534008)
def headgateref35_Check.l0 : Nat → Int → Int → Int → Int → Int → Int → Int → Int → Int → List Int → Int → Option (Int)
 | 0, _, _, _, _, _, _, _, _, _, _, _ => none
 | k + 1, x4, x5, x534000, x534001, x534002, x534003, x534004, x534005, x534006, x534007, x534008 => if x5 < x4 then (if 0 ≤ x5 then (if x5 < (x534007.length : Int) then (if (rd x534007 x5) < 0 then (headgateref35_Check.j4 k x4 x5 true x534000 x534001 x534002 x534003 x534004 x534005 x534006 x534007 x534008) else (headgateref35_Check.j4 k x4 x5 (decide ((rd x534007 x5) ≥ 256)) x534000 x534001 x534002 x534003 x534004 x534005 x534006 x534007 x534008)) else (none)) else (none)) else (if x534008 < 0 then (some 2) else (if x534008 ≥ 256 then (some 2) else (if x534006 ≤ 2 then (if x534008 = 0 then (some 0) else (some 2)) else (some 0))))
def headgateref35_Check.j4 : Nat → Int → Int → Bool → Int → Int → Int → Int → Int → Int → Int → List Int → Int → Option (Int)
 | 0, _, _, _, _, _, _, _, _, _, _, _, _ => none
 | k + 1, x4, x5, x86, x534000, x534001, x534002, x534003, x534004, x534005, x534006, x534007, x534008 => if x86 = true then (some 2) else (if 0 ≤ x5 then (if x5 ≤ (x534007.length : Int) then (if x5 < (x534007.length : Int) then ((headgateref35_has.f k (x534007.take (x5 : Int).toNat) (rd x534007 x5)).bind fun t546 => (if t546 = true then (some 7) else (headgateref35_Check.l0 k x4 (wrap64 (x5 + 1)) x534000 x534001 x534002 x534003 x534004 x534005 x534006 x534007 x534008))) else (none)) else (none)) else (none))
end
def headgateref35_Check.f (k : Nat) (a0_0 : Int) (a0_1 : Int) (a0_2 : Int) (a0_3 : Int) (a0_4 : Int) (a0_5 : Int) (a0_6 : Int) (l0_7 : List Int) (a0_8 : Int) : Option (Int) := if a0_0 < 1 then (headgateref35_Check.j0 k true a0_0 a0_1 a0_2 a0_3 a0_4 a0_5 a0_6 l0_7 a0_8) else (headgateref35_Check.j0 k (decide (a0_0 > 1099511627776)) a0_0 a0_1 a0_2 a0_3 a0_4 a0_5 a0_6 l0_7 a0_8)
theorem headgateref35_Check.mono_l : ∀ k, (∀ y0 y1 y2 y3 y4 y5 y6 y7 y8 y9, LeO (headgateref35_Check.j0 k y0 y1 y2 y3 y4 y5 y6 y7 y8 y9) (headgateref35_Check.j0 (k + 1) y0 y1 y2 y3 y4 y5 y6 y7 y8 y9)) ∧ (∀ y0 y1 y2 y3 y4 y5 y6 y7 y8 y9, LeO (headgateref35_Check.j1 k y0 y1 y2 y3 y4 y5 y6 y7 y8 y9) (headgateref35_Check.j1 (k + 1) y0 y1 y2 y3 y4 y5 y6 y7 y8 y9)) ∧ (∀ y0 y1 y2 y3 y4 y5 y6 y7 y8 y9 y10, LeO (headgateref35_Check.j2 k y0 y1 y2 y3 y4 y5 y6 y7 y8 y9 y10) (headgateref35_Check.j2 (k + 1) y0 y1 y2 y3 y4 y5 y6 y7 y8 y9 y10)) ∧ (∀ y0 y1 y2 y3 y4 y5 y6 y7 y8 y9 y10, LeO (headgateref35_Check.l0 k y0 y1 y2 y3 y4 y5 y6 y7 y8 y9 y10) (headgateref35_Check.l0 (k + 1) y0 y1 y2 y3 y4 y5 y6 y7 y8 y9 y10)) ∧ (∀ y0 y1 y2 y3 y4 y5 y6 y7 y8 y9 y10 y11, LeO (headgateref35_Check.j4 k y0 y1 y2 y3 y4 y5 y6 y7 y8 y9 y10 y11) (headgateref35_Check.j4 (k + 1) y0 y1 y2 y3 y4 y5 y6 y7 y8 y9 y10 y11))
 | 0 => ⟨fun _ _ _ _ _ _ _ _ _ _ r h => by simp [headgateref35_Check.j0] at h, fun _ _ _ _ _ _ _ _ _ _ r h => by simp [headgateref35_Check.j1] at h, fun _ _ _ _ _ _ _ _ _ _ _ r h => by simp [headgateref35_Check.j2] at h, fun _ _ _ _ _ _ _ _ _ _ _ r h => by simp [headgateref35_Check.l0] at h, fun _ _ _ _ _ _ _ _ _ _ _ _ r h => by simp [headgateref35_Check.j4] at h⟩
 | k + 1 => by
  obtain ⟨ih0, ih1, ih2, ih3, ih4⟩ := headgateref35_Check.mono_l k; refine ⟨?_, ?_, ?_, ?_, ?_⟩
  ·
   intro y0 y1 y2 y3 y4 y5 y6 y7 y8 y9
   unfold headgateref35_Check.j0
   repeat' first
   | (with_reducible exact ih0 _ _ _ _ _ _ _ _ _ _)
   | (with_reducible exact ih1 _ _ _ _ _ _ _ _ _ _)
   | (with_reducible exact ih2 _ _ _ _ _ _ _ _ _ _ _)
   | (with_reducible exact ih3 _ _ _ _ _ _ _ _ _ _ _)
   | (with_reducible exact ih4 _ _ _ _ _ _ _ _ _ _ _ _)
   | (with_reducible exact headgateref35_command.mono _ _ _ _ _ _)
   | (with_reducible exact headgateref35_has.mono _ _ _)
   | (with_reducible exact LeO.refl _)
   | (with_reducible exact LeO.none _)
   | (with_reducible refine LeO.ite ?_ ?_)
   | (with_reducible refine LeO.bind ?_ (fun _ => ?_))
   | exact ih0 _ _ _ _ _ _ _ _ _ _
   | exact ih1 _ _ _ _ _ _ _ _ _ _
   | exact ih2 _ _ _ _ _ _ _ _ _ _ _
   | exact ih3 _ _ _ _ _ _ _ _ _ _ _
   | exact ih4 _ _ _ _ _ _ _ _ _ _ _ _
   | exact headgateref35_command.mono _ _ _ _ _ _
   | exact headgateref35_has.mono _ _ _
   | exact LeO.none _
   | refine LeO.ite ?_ ?_
   | refine LeO.bind ?_ (fun _ => ?_)
  ·
   intro y0 y1 y2 y3 y4 y5 y6 y7 y8 y9
   unfold headgateref35_Check.j1
   repeat' first
   | (with_reducible exact ih0 _ _ _ _ _ _ _ _ _ _)
   | (with_reducible exact ih1 _ _ _ _ _ _ _ _ _ _)
   | (with_reducible exact ih2 _ _ _ _ _ _ _ _ _ _ _)
   | (with_reducible exact ih3 _ _ _ _ _ _ _ _ _ _ _)
   | (with_reducible exact ih4 _ _ _ _ _ _ _ _ _ _ _ _)
   | (with_reducible exact headgateref35_command.mono _ _ _ _ _ _)
   | (with_reducible exact headgateref35_has.mono _ _ _)
   | (with_reducible exact LeO.refl _)
   | (with_reducible exact LeO.none _)
   | (with_reducible refine LeO.ite ?_ ?_)
   | (with_reducible refine LeO.bind ?_ (fun _ => ?_))
   | exact ih0 _ _ _ _ _ _ _ _ _ _
   | exact ih1 _ _ _ _ _ _ _ _ _ _
   | exact ih2 _ _ _ _ _ _ _ _ _ _ _
   | exact ih3 _ _ _ _ _ _ _ _ _ _ _
   | exact ih4 _ _ _ _ _ _ _ _ _ _ _ _
   | exact headgateref35_command.mono _ _ _ _ _ _
   | exact headgateref35_has.mono _ _ _
   | exact LeO.none _
   | refine LeO.ite ?_ ?_
   | refine LeO.bind ?_ (fun _ => ?_)
  ·
   intro y0 y1 y2 y3 y4 y5 y6 y7 y8 y9 y10
   unfold headgateref35_Check.j2
   repeat' first
   | (with_reducible exact ih0 _ _ _ _ _ _ _ _ _ _)
   | (with_reducible exact ih1 _ _ _ _ _ _ _ _ _ _)
   | (with_reducible exact ih2 _ _ _ _ _ _ _ _ _ _ _)
   | (with_reducible exact ih3 _ _ _ _ _ _ _ _ _ _ _)
   | (with_reducible exact ih4 _ _ _ _ _ _ _ _ _ _ _ _)
   | (with_reducible exact headgateref35_command.mono _ _ _ _ _ _)
   | (with_reducible exact headgateref35_has.mono _ _ _)
   | (with_reducible exact LeO.refl _)
   | (with_reducible exact LeO.none _)
   | (with_reducible refine LeO.ite ?_ ?_)
   | (with_reducible refine LeO.bind ?_ (fun _ => ?_))
   | exact ih0 _ _ _ _ _ _ _ _ _ _
   | exact ih1 _ _ _ _ _ _ _ _ _ _
   | exact ih2 _ _ _ _ _ _ _ _ _ _ _
   | exact ih3 _ _ _ _ _ _ _ _ _ _ _
   | exact ih4 _ _ _ _ _ _ _ _ _ _ _ _
   | exact headgateref35_command.mono _ _ _ _ _ _
   | exact headgateref35_has.mono _ _ _
   | exact LeO.none _
   | refine LeO.ite ?_ ?_
   | refine LeO.bind ?_ (fun _ => ?_)
  ·
   intro y0 y1 y2 y3 y4 y5 y6 y7 y8 y9 y10
   unfold headgateref35_Check.l0
   repeat' first
   | (with_reducible exact ih0 _ _ _ _ _ _ _ _ _ _)
   | (with_reducible exact ih1 _ _ _ _ _ _ _ _ _ _)
   | (with_reducible exact ih2 _ _ _ _ _ _ _ _ _ _ _)
   | (with_reducible exact ih3 _ _ _ _ _ _ _ _ _ _ _)
   | (with_reducible exact ih4 _ _ _ _ _ _ _ _ _ _ _ _)
   | (with_reducible exact headgateref35_command.mono _ _ _ _ _ _)
   | (with_reducible exact headgateref35_has.mono _ _ _)
   | (with_reducible exact LeO.refl _)
   | (with_reducible exact LeO.none _)
   | (with_reducible refine LeO.ite ?_ ?_)
   | (with_reducible refine LeO.bind ?_ (fun _ => ?_))
   | exact ih0 _ _ _ _ _ _ _ _ _ _
   | exact ih1 _ _ _ _ _ _ _ _ _ _
   | exact ih2 _ _ _ _ _ _ _ _ _ _ _
   | exact ih3 _ _ _ _ _ _ _ _ _ _ _
   | exact ih4 _ _ _ _ _ _ _ _ _ _ _ _
   | exact headgateref35_command.mono _ _ _ _ _ _
   | exact headgateref35_has.mono _ _ _
   | exact LeO.none _
   | refine LeO.ite ?_ ?_
   | refine LeO.bind ?_ (fun _ => ?_)
  ·
   intro y0 y1 y2 y3 y4 y5 y6 y7 y8 y9 y10 y11
   unfold headgateref35_Check.j4
   repeat' first
   | (with_reducible exact ih0 _ _ _ _ _ _ _ _ _ _)
   | (with_reducible exact ih1 _ _ _ _ _ _ _ _ _ _)
   | (with_reducible exact ih2 _ _ _ _ _ _ _ _ _ _ _)
   | (with_reducible exact ih3 _ _ _ _ _ _ _ _ _ _ _)
   | (with_reducible exact ih4 _ _ _ _ _ _ _ _ _ _ _ _)
   | (with_reducible exact headgateref35_command.mono _ _ _ _ _ _)
   | (with_reducible exact headgateref35_has.mono _ _ _)
   | (with_reducible exact LeO.refl _)
   | (with_reducible exact LeO.none _)
   | (with_reducible refine LeO.ite ?_ ?_)
   | (with_reducible refine LeO.bind ?_ (fun _ => ?_))
   | exact ih0 _ _ _ _ _ _ _ _ _ _
   | exact ih1 _ _ _ _ _ _ _ _ _ _
   | exact ih2 _ _ _ _ _ _ _ _ _ _ _
   | exact ih3 _ _ _ _ _ _ _ _ _ _ _
   | exact ih4 _ _ _ _ _ _ _ _ _ _ _ _
   | exact headgateref35_command.mono _ _ _ _ _ _
   | exact headgateref35_has.mono _ _ _
   | exact LeO.none _
   | refine LeO.ite ?_ ?_
   | refine LeO.bind ?_ (fun _ => ?_)
theorem headgateref35_Check.mono : ∀ a0 a1 a2 a3 a4 a5 a6 a7 a8 k, LeO (headgateref35_Check.f k a0 a1 a2 a3 a4 a5 a6 a7 a8) (headgateref35_Check.f (k + 1) a0 a1 a2 a3 a4 a5 a6 a7 a8) := by
 intro a0 a1 a2 a3 a4 a5 a6 a7 a8 k; obtain ⟨ih0, ih1, ih2, ih3, ih4⟩ := headgateref35_Check.mono_l k
 unfold headgateref35_Check.f
 repeat' first
   | (with_reducible exact ih0 _ _ _ _ _ _ _ _ _ _)
   | (with_reducible exact ih1 _ _ _ _ _ _ _ _ _ _)
   | (with_reducible exact ih2 _ _ _ _ _ _ _ _ _ _ _)
   | (with_reducible exact ih3 _ _ _ _ _ _ _ _ _ _ _)
   | (with_reducible exact ih4 _ _ _ _ _ _ _ _ _ _ _ _)
   | (with_reducible exact headgateref35_command.mono _ _ _ _ _ _)
   | (with_reducible exact headgateref35_has.mono _ _ _)
   | (with_reducible exact LeO.refl _)
   | (with_reducible exact LeO.none _)
   | (with_reducible refine LeO.ite ?_ ?_)
   | (with_reducible refine LeO.bind ?_ (fun _ => ?_))
   | exact ih0 _ _ _ _ _ _ _ _ _ _
   | exact ih1 _ _ _ _ _ _ _ _ _ _
   | exact ih2 _ _ _ _ _ _ _ _ _ _ _
   | exact ih3 _ _ _ _ _ _ _ _ _ _ _
   | exact ih4 _ _ _ _ _ _ _ _ _ _ _ _
   | exact headgateref35_command.mono _ _ _ _ _ _
   | exact headgateref35_has.mono _ _ _
   | exact LeO.none _
   | refine LeO.ite ?_ ?_
   | refine LeO.bind ?_ (fun _ => ?_)
set_option maxHeartbeats 8000000 in
set_option maxRecDepth 100000 in
theorem headgateref35_Check.calls (k : Nat) (a0_0 : Int) (a0_1 : Int) (a0_2 : Int) (a0_3 : Int) (a0_4 : Int) (a0_5 : Int) (a0_6 : Int) (A0_7 : Option Addr) (c0_7 : Nat) (l0_7 : List Int) (a0_8 : Int) (r : Int) (w : World) (hr0_7 : Kd.C (Kd.int .i64) w A0_7 l0_7.length l0_7) (hc0_7 : l0_7.length ≤ c0_7) (h : headgateref35_Check.f k a0_0 a0_1 a0_2 a0_3 a0_4 a0_5 a0_6 l0_7 a0_8 = some r) :
  Calls Try.prog 39 #[.agg #[.int .u64 a0_0, .int .i64 a0_1, .int .i64 a0_2, .int .i64 a0_3, .int .i64 a0_4, .int .u64 a0_5, .int .i64 a0_6, .slice A0_7 l0_7.length c0_7, .int .i64 a0_8]] w fun e w' => e = .returned (.int .i64 r) ∧ Below w.heap.size w w' := by
 have hu27 := Try.underlying27; have hu24 := Try.underlying24; have HR0_7 := am hr0_7; have HC0_7 := am hc0_7; clear hr0_7 hc0_7; have HB := am (Below.refl w.heap.size w); have H : (if a0_0 < 1 then (headgateref35_Check.j0 k true a0_0 a0_1 a0_2 a0_3 a0_4 a0_5 a0_6 l0_7 a0_8) else (headgateref35_Check.j0 k (decide (a0_0 > 1099511627776)) a0_0 a0_1 a0_2 a0_3 a0_4 a0_5 a0_6 l0_7 a0_8)) = some r := h; clear h; have HC2 := am H; clear H
 go_enter Try.func39, Try.ntmps39
 go_upto_region 1 with (first | ((with_reducible refine gate_dst (N := 1) rfl ?_); refine box_event ?hg (N := 1) ?hd (cs := #[.int .u64 a0_0, .int .i64 a0_1, .int .i64 a0_2, .int .i64 a0_3, .int .i64 a0_4, .int .u64 a0_5, .int .i64 a0_6, .slice A0_7 l0_7.length c0_7, .int .i64 a0_8]) (t := 27) ?hr ?_; (case hd => rfl); (case hg => rfl); (case hr => first | (go_simp; done) | (go_simp; rfl)); intro gb533 hg w3 hbox hb; have n0_ := am (below_step (pb HB.out) hb); have n1_ := am (hbox); have n2_ := am ((by rw [hg]; exact (below_size (pb HB.out)) : w.heap.size ≤ gb533)); have n3_ := am ((by rw [hg]; exact (below_size (pb HB.out)) : w.heap.size ≤ gb533)); clear HB; have HB := n0_; have BK533 := n1_; have GW533 := n2_; have GE533 := n3_; clear n0_ n1_ n2_ n3_; clear hb hbox hg))
 repeat (go_quiet (first | ((with_reducible refine gate_dst (N := 1) rfl ?_); refine box_event ?hg (N := 1) ?hd (cs := #[.int .u64 a0_0, .int .i64 a0_1, .int .i64 a0_2, .int .i64 a0_3, .int .i64 a0_4, .int .u64 a0_5, .int .i64 a0_6, .slice A0_7 l0_7.length c0_7, .int .i64 a0_8]) (t := 27) ?hr ?_; (case hd => rfl); (case hg => rfl); (case hr => first | (go_simp; done) | (go_simp; rfl)); intro gb533 hg w3 hbox hb; have n0_ := am (below_step (pb HB.out) hb); have n1_ := am (hbox); have n2_ := am ((by rw [hg]; exact (below_size (pb HB.out)) : w.heap.size ≤ gb533)); have n3_ := am ((by rw [hg]; exact (below_size (pb HB.out)) : w.heap.size ≤ gb533)); clear HB; have HB := n0_; have BK533 := n1_; have GW533 := n2_; have GE533 := n3_; clear n0_ n1_ n2_ n3_; clear hb hbox hg)); go_upto_region 1 with (first | ((with_reducible refine gate_dst (N := 1) rfl ?_); refine box_event ?hg (N := 1) ?hd (cs := #[.int .u64 a0_0, .int .i64 a0_1, .int .i64 a0_2, .int .i64 a0_3, .int .i64 a0_4, .int .u64 a0_5, .int .i64 a0_6, .slice A0_7 l0_7.length c0_7, .int .i64 a0_8]) (t := 27) ?hr ?_; (case hd => rfl); (case hg => rfl); (case hr => first | (go_simp; done) | (go_simp; rfl)); intro gb533 hg w3 hbox hb; have n0_ := am (below_step (pb HB.out) hb); have n1_ := am (hbox); have n2_ := am ((by rw [hg]; exact (below_size (pb HB.out)) : w.heap.size ≤ gb533)); have n3_ := am ((by rw [hg]; exact (below_size (pb HB.out)) : w.heap.size ≤ gb533)); clear HB; have HB := n0_; have BK533 := n1_; have GW533 := n2_; have GE533 := n3_; clear n0_ n1_ n2_ n3_; clear hb hbox hg)))
 (try simp only [Act.put, List.setIfInBounds_toArray, List.set_cons_zero, List.set_cons_succ])
 go_cut [13] (fun v13 wc => ∃ (kq : Nat) (x13_1 : Bool), v13 = .bool x13_1 ∧ Aside0 (headgateref35_Check.j0 kq x13_1 a0_0 a0_1 a0_2 a0_3 a0_4 a0_5 a0_6 l0_7 a0_8 = some r) ∧ Aside0 (kq ≤ k) ∧ Aside0 (wc.heap[gb533]? = some (.cells #[.int .u64 a0_0, .int .i64 a0_1, .int .i64 a0_2, .int .i64 a0_3, .int .i64 a0_4, .int .u64 a0_5, .int .i64 a0_6, (.slice A0_7 l0_7.length c0_7), .int .i64 a0_8] 27 (0, 0))) ∧ Aside0 (Below w.heap.size w wc))
 case first =>
  have H := HC2.out; clear HC2
  by_cases c4 : a0_0 < 1
  ·
   rw [if_pos c4] at H; have c4b0 : decide (a0_0 < 1) = true := decide_eq_true c4; clear c4; (first | rw [c4b0] | (simp only [i64_w, i32_w]; rw [c4b0]) | skip); have H' := am H; clear H; have hcz5_0 : w3.cell? ⟨gb533, 0, none⟩ = some (.int .u64 a0_0) := (blk_cell BK533.out 0).trans rfl
   go_wp2
   repeat (go_quiet (fail); try go_wp2)
   go_meet
   case rel => exact ⟨_, (true), (by first | rfl | (simp; done) | (simp [*]; done)), H', ⟨by first | omega | exact Nat.le_refl _⟩, ⟨by (with_reducible repeat (first | apply bN | apply bD | apply bA)); exact BK533.out⟩, ⟨pb HB.out⟩⟩
  ·
   rw [if_neg c4] at H; have c4b0 : decide (a0_0 < 1) = false := decide_eq_false c4; clear c4; (first | rw [c4b0] | (simp only [i64_w, i32_w]; rw [c4b0]) | skip); have H' := am H; clear H; have hcz6_0 : w3.cell? ⟨gb533, 0, none⟩ = some (.int .u64 a0_0) := (blk_cell BK533.out 0).trans rfl
   go_wp2
   repeat (go_quiet (fail); try go_wp2)
   go_meet
   case rel => exact ⟨_, (decide (a0_0 > 1099511627776)), (by first | rfl | (simp; done) | (simp [*]; done)), H', ⟨by first | omega | exact Nat.le_refl _⟩, ⟨by (with_reducible repeat (first | apply bN | apply bD | apply bA)); exact BK533.out⟩, ⟨pb HB.out⟩⟩
 case rest =>
  clear HC2; (try clear p2); (try clear c3); (try clear c4); (try clear c4b0); (try clear hcz5_0); (try clear hcz6_0); obtain ⟨kq, x13_1, rfl, HA, HJ1, BK533, HB⟩ := hcut
  cases kq with
  | zero => exact absurd HA.out (by simp [headgateref35_Check.j0])
  | succ kj1 =>
   have H := HA.out; clear HA; simp only [headgateref35_Check.j0] at H
   by_cases c7 : x13_1 = true
   ·
    subst c7; have H1 : (some 2) = some r := by rw [if_pos rfl] at H; exact H
    clear H; have H := H1; clear H1; obtain rfl := Option.some.inj H
    go_wp2
    repeat (go_quiet (fail); try go_wp2)
    go_ret
    exact ⟨by first | rfl | (simp [errW_none, errW_some] <;> rfl) | (simp [*, errW_none, errW_some] <;> rfl), pb HB.out⟩
   ·
    replace c7 := Bool.eq_false_iff.mpr c7; subst c7; have H1 : ((headgateref35_command.f kj1 a0_1 a0_2 a0_3 a0_4 a0_5).bind fun t534 => (if t534 = 0 then (if a0_6 < 1 then (headgateref35_Check.j1 kj1 true a0_0 a0_1 a0_2 a0_3 a0_4 a0_5 a0_6 l0_7 a0_8) else (if a0_6 > 4 then (headgateref35_Check.j1 kj1 true a0_0 a0_1 a0_2 a0_3 a0_4 a0_5 a0_6 l0_7 a0_8) else ((headgateref35_access.f a0_0 a0_1 a0_2 a0_3 a0_4 a0_5 a0_6 l0_7 a0_8).bind fun t535 => (if t535 = true then (headgateref35_Check.j1 kj1 false a0_0 a0_1 a0_2 a0_3 a0_4 a0_5 a0_6 l0_7 a0_8) else (headgateref35_Check.j1 kj1 (decide (a0_6 > 2)) a0_0 a0_1 a0_2 a0_3 a0_4 a0_5 a0_6 l0_7 a0_8))))) else (some t534))) = some r := by rw [if_neg (show ¬ (false = true) by decide)] at H; exact H
    clear H; have H := H1; clear H1; replace H := Option.bind_eq_some_iff.mp H; obtain ⟨t534, A80, H⟩ := H; replace H : (if t534 = 0 then (if a0_6 < 1 then (headgateref35_Check.j1 kj1 true a0_0 a0_1 a0_2 a0_3 a0_4 a0_5 a0_6 l0_7 a0_8) else (if a0_6 > 4 then (headgateref35_Check.j1 kj1 true a0_0 a0_1 a0_2 a0_3 a0_4 a0_5 a0_6 l0_7 a0_8) else ((headgateref35_access.f a0_0 a0_1 a0_2 a0_3 a0_4 a0_5 a0_6 l0_7 a0_8).bind fun t535 => (if t535 = true then (headgateref35_Check.j1 kj1 false a0_0 a0_1 a0_2 a0_3 a0_4 a0_5 a0_6 l0_7 a0_8) else (headgateref35_Check.j1 kj1 (decide (a0_6 > 2)) a0_0 a0_1 a0_2 a0_3 a0_4 a0_5 a0_6 l0_7 a0_8))))) else (some t534)) = some r := H; have A8 := am A80; clear A80
    by_cases c9 : t534 = 0
    ·
     rw [if_pos c9] at H; have c9b0 : (t534 == 0) = true := beq_iff_eq.mpr c9; have c9b1 : (t534 != 0) = false := bne_eq_false_iff_eq.mpr c9; clear c9; have HC10 := am H; clear H; have hcz11_1 : wc.cell? ⟨gb533, 1, none⟩ = some (.int .i64 a0_1) := (blk_cell BK533.out 1).trans rfl; have hcz12_2 : wc.cell? ⟨gb533, 2, none⟩ = some (.int .i64 a0_2) := (blk_cell BK533.out 2).trans rfl; have hcz13_3 : wc.cell? ⟨gb533, 3, none⟩ = some (.int .i64 a0_3) := (blk_cell BK533.out 3).trans rfl; have hcz14_4 : wc.cell? ⟨gb533, 4, none⟩ = some (.int .i64 a0_4) := (blk_cell BK533.out 4).trans rfl; have hcz15_5 : wc.cell? ⟨gb533, 5, none⟩ = some (.int .u64 a0_5) := (blk_cell BK533.out 5).trans rfl
     go_upto_region 6 with (first | (go_at_call 51; (with_reducible refine (headgateref35_command.calls kj1 a0_1 a0_2 a0_3 a0_4 a0_5 t534 _ A8.out).mono ?_); rintro e w16 ⟨rfl, hb⟩; have n0_ := am (blk_below (g := gb533) (o := .cells #[.int .u64 a0_0, .int .i64 a0_1, .int .i64 a0_2, .int .i64 a0_3, .int .i64 a0_4, .int .u64 a0_5, .int .i64 a0_6, .slice A0_7 l0_7.length c0_7, .int .i64 a0_8] 27 (0, 0)) (pk BK533.out) hb); have n1_ := am (below_step (pb HB.out) hb); clear BK533; clear HB; have BK533 := n0_; have HB := n1_; clear n0_ n1_; (try clear hb); (try clear hb2); (try clear hk); (try clear hi)))
     repeat (go_quiet (first | (go_at_call 51; (with_reducible refine (headgateref35_command.calls kj1 a0_1 a0_2 a0_3 a0_4 a0_5 t534 _ A8.out).mono ?_); rintro e w16 ⟨rfl, hb⟩; have n0_ := am (blk_below (g := gb533) (o := .cells #[.int .u64 a0_0, .int .i64 a0_1, .int .i64 a0_2, .int .i64 a0_3, .int .i64 a0_4, .int .u64 a0_5, .int .i64 a0_6, .slice A0_7 l0_7.length c0_7, .int .i64 a0_8] 27 (0, 0)) (pk BK533.out) hb); have n1_ := am (below_step (pb HB.out) hb); clear BK533; clear HB; have BK533 := n0_; have HB := n1_; clear n0_ n1_; (try clear hb); (try clear hb2); (try clear hk); (try clear hi))); go_upto_region 6 with (first | (go_at_call 51; (with_reducible refine (headgateref35_command.calls kj1 a0_1 a0_2 a0_3 a0_4 a0_5 t534 _ A8.out).mono ?_); rintro e w16 ⟨rfl, hb⟩; have n0_ := am (blk_below (g := gb533) (o := .cells #[.int .u64 a0_0, .int .i64 a0_1, .int .i64 a0_2, .int .i64 a0_3, .int .i64 a0_4, .int .u64 a0_5, .int .i64 a0_6, .slice A0_7 l0_7.length c0_7, .int .i64 a0_8] 27 (0, 0)) (pk BK533.out) hb); have n1_ := am (below_step (pb HB.out) hb); clear BK533; clear HB; have BK533 := n0_; have HB := n1_; clear n0_ n1_; (try clear hb); (try clear hb2); (try clear hk); (try clear hi))))
     (try simp only [Act.put, List.setIfInBounds_toArray, List.set_cons_zero, List.set_cons_succ])
     go_cut [37] (fun v37 wc => ∃ (kq : Nat) (x37_9 : Bool), v37 = .bool x37_9 ∧ Aside0 (headgateref35_Check.j1 kq x37_9 a0_0 a0_1 a0_2 a0_3 a0_4 a0_5 a0_6 l0_7 a0_8 = some r) ∧ Aside0 (kq ≤ kj1) ∧ Aside0 (wc.heap[gb533]? = some (.cells #[.int .u64 a0_0, .int .i64 a0_1, .int .i64 a0_2, .int .i64 a0_3, .int .i64 a0_4, .int .u64 a0_5, .int .i64 a0_6, (.slice A0_7 l0_7.length c0_7), .int .i64 a0_8] 27 (0, 0))) ∧ Aside0 (Below w.heap.size w wc))
     case first =>
      have H := HC10.out; clear HC10
      by_cases c17 : a0_6 < 1
      ·
       rw [if_pos c17] at H; have c17b0 : decide (a0_6 < 1) = true := decide_eq_true c17; clear c17; (first | rw [c17b0] | (simp only [i64_w, i32_w]; rw [c17b0]) | skip); have H' := am H; clear H; have hcz18_6 : w16.cell? ⟨gb533, 6, none⟩ = some (.int .i64 a0_6) := (blk_cell BK533.out 6).trans rfl
       go_wp2
       repeat (go_quiet (fail); try go_wp2)
       go_meet
       case rel => exact ⟨_, (true), (by first | rfl | (simp; done) | (simp [*]; done)), H', ⟨by have := HJ1.out; first | omega | exact Nat.le_refl _⟩, ⟨by (with_reducible repeat (first | apply bN | apply bD | apply bA)); exact BK533.out⟩, ⟨pb HB.out⟩⟩
      ·
       rw [if_neg c17] at H; have c17b0 : decide (a0_6 < 1) = false := decide_eq_false c17; clear c17; (first | rw [c17b0] | (simp only [i64_w, i32_w]; rw [c17b0]) | skip)
       by_cases c19 : a0_6 > 4
       ·
        rw [if_pos c19] at H; have c19b0 : decide (4 < a0_6) = true := decide_eq_true c19; clear c19; have H' := am H; clear H; have hcz20_6 : w16.cell? ⟨gb533, 6, none⟩ = some (.int .i64 a0_6) := (blk_cell BK533.out 6).trans rfl
        go_wp2
        repeat (go_quiet (fail); try go_wp2)
        go_meet
        case rel => exact ⟨_, (true), (by first | rfl | (simp; done) | (simp [*]; done)), H', ⟨by have := HJ1.out; first | omega | exact Nat.le_refl _⟩, ⟨by (with_reducible repeat (first | apply bN | apply bD | apply bA)); exact BK533.out⟩, ⟨pb HB.out⟩⟩
       ·
        rw [if_neg c19] at H; have c19b0 : decide (4 < a0_6) = false := decide_eq_false c19; clear c19; replace H := Option.bind_eq_some_iff.mp H; obtain ⟨t535, A210, H⟩ := H; replace H : (if t535 = true then (headgateref35_Check.j1 kj1 false a0_0 a0_1 a0_2 a0_3 a0_4 a0_5 a0_6 l0_7 a0_8) else (headgateref35_Check.j1 kj1 (decide (a0_6 > 2)) a0_0 a0_1 a0_2 a0_3 a0_4 a0_5 a0_6 l0_7 a0_8)) = some r := H; have A21 := am A210; clear A210
        by_cases c22 : t535 = true
        ·
         subst c22; have H1 : (headgateref35_Check.j1 kj1 false a0_0 a0_1 a0_2 a0_3 a0_4 a0_5 a0_6 l0_7 a0_8) = some r := by rw [if_pos rfl] at H; exact H
         clear H; have H := H1; clear H1; have H' := am H; clear H; have hcz23_6 : w16.cell? ⟨gb533, 6, none⟩ = some (.int .i64 a0_6) := (blk_cell BK533.out 6).trans rfl
         go_wp2_with (first | ((with_reducible refine gate_dst (N := 29) rfl ?_); (try (refine gate_guard (by rfl) ?_; dsimp only)); refine load_whole ?hg (N := 29) ?hd (t := 27) (p := ?lp_29) ?ho (pk BK533.out) ?hp _ Try.underlying27 rfl ?hi ?_; (case hg => rfl); (case hd => rfl); (case ho => rfl); (case hp => first | (go_simp; done) | (go_simp; rfl)); (case hi => kernel_rfl)) | (go_at_call 52; (with_reducible refine (headgateref35_access.calls a0_0 a0_1 a0_2 a0_3 a0_4 a0_5 a0_6 _ _ l0_7 a0_8 true _ ?side1 ?side2 A21.out).mono ?_); (case side1 => repeat (first | exact (Kd.C_below HR0_7.out HB.out) | (with_reducible refine Kd.C_alloc ?_ _) | (with_reducible refine Kd.C_drewN ?_ _) | (with_reducible refine Kd.C_drew ?_))); (case side2 => exact HC0_7.out); rintro e w24 ⟨rfl, hb⟩; have n0_ := am (blk_below (g := gb533) (o := .cells #[.int .u64 a0_0, .int .i64 a0_1, .int .i64 a0_2, .int .i64 a0_3, .int .i64 a0_4, .int .u64 a0_5, .int .i64 a0_6, .slice A0_7 l0_7.length c0_7, .int .i64 a0_8] 27 (0, 0)) (pk BK533.out) hb); have n1_ := am (below_step (pb HB.out) hb); clear BK533; clear HB; have BK533 := n0_; have HB := n1_; clear n0_ n1_; (try clear hb); (try clear hb2); (try clear hk); (try clear hi)))
         repeat (go_quiet (first | ((with_reducible refine gate_dst (N := 29) rfl ?_); (try (refine gate_guard (by rfl) ?_; dsimp only)); refine load_whole ?hg (N := 29) ?hd (t := 27) (p := ?lp_29) ?ho (pk BK533.out) ?hp _ Try.underlying27 rfl ?hi ?_; (case hg => rfl); (case hd => rfl); (case ho => rfl); (case hp => first | (go_simp; done) | (go_simp; rfl)); (case hi => kernel_rfl)) | (go_at_call 52; (with_reducible refine (headgateref35_access.calls a0_0 a0_1 a0_2 a0_3 a0_4 a0_5 a0_6 _ _ l0_7 a0_8 true _ ?side1 ?side2 A21.out).mono ?_); (case side1 => repeat (first | exact (Kd.C_below HR0_7.out HB.out) | (with_reducible refine Kd.C_alloc ?_ _) | (with_reducible refine Kd.C_drewN ?_ _) | (with_reducible refine Kd.C_drew ?_))); (case side2 => exact HC0_7.out); rintro e w24 ⟨rfl, hb⟩; have n0_ := am (blk_below (g := gb533) (o := .cells #[.int .u64 a0_0, .int .i64 a0_1, .int .i64 a0_2, .int .i64 a0_3, .int .i64 a0_4, .int .u64 a0_5, .int .i64 a0_6, .slice A0_7 l0_7.length c0_7, .int .i64 a0_8] 27 (0, 0)) (pk BK533.out) hb); have n1_ := am (below_step (pb HB.out) hb); clear BK533; clear HB; have BK533 := n0_; have HB := n1_; clear n0_ n1_; (try clear hb); (try clear hb2); (try clear hk); (try clear hi))); try go_wp2_with (first | ((with_reducible refine gate_dst (N := 29) rfl ?_); (try (refine gate_guard (by rfl) ?_; dsimp only)); refine load_whole ?hg (N := 29) ?hd (t := 27) (p := ?lp_29) ?ho (pk BK533.out) ?hp _ Try.underlying27 rfl ?hi ?_; (case hg => rfl); (case hd => rfl); (case ho => rfl); (case hp => first | (go_simp; done) | (go_simp; rfl)); (case hi => kernel_rfl)) | (go_at_call 52; (with_reducible refine (headgateref35_access.calls a0_0 a0_1 a0_2 a0_3 a0_4 a0_5 a0_6 _ _ l0_7 a0_8 true _ ?side1 ?side2 A21.out).mono ?_); (case side1 => repeat (first | exact (Kd.C_below HR0_7.out HB.out) | (with_reducible refine Kd.C_alloc ?_ _) | (with_reducible refine Kd.C_drewN ?_ _) | (with_reducible refine Kd.C_drew ?_))); (case side2 => exact HC0_7.out); rintro e w24 ⟨rfl, hb⟩; have n0_ := am (blk_below (g := gb533) (o := .cells #[.int .u64 a0_0, .int .i64 a0_1, .int .i64 a0_2, .int .i64 a0_3, .int .i64 a0_4, .int .u64 a0_5, .int .i64 a0_6, .slice A0_7 l0_7.length c0_7, .int .i64 a0_8] 27 (0, 0)) (pk BK533.out) hb); have n1_ := am (below_step (pb HB.out) hb); clear BK533; clear HB; have BK533 := n0_; have HB := n1_; clear n0_ n1_; (try clear hb); (try clear hb2); (try clear hk); (try clear hi))))
         go_meet
         case rel => exact ⟨_, (false), (by first | rfl | (simp; done) | (simp [*]; done)), H', ⟨by have := HJ1.out; first | omega | exact Nat.le_refl _⟩, ⟨by (with_reducible repeat (first | apply bN | apply bD | apply bA)); exact BK533.out⟩, ⟨pb HB.out⟩⟩
        ·
         replace c22 := Bool.eq_false_iff.mpr c22; subst c22; have H1 : (headgateref35_Check.j1 kj1 (decide (a0_6 > 2)) a0_0 a0_1 a0_2 a0_3 a0_4 a0_5 a0_6 l0_7 a0_8) = some r := by rw [if_neg (show ¬ (false = true) by decide)] at H; exact H
         clear H; have H := H1; clear H1; have H' := am H; clear H; have hcz25_6 : w16.cell? ⟨gb533, 6, none⟩ = some (.int .i64 a0_6) := (blk_cell BK533.out 6).trans rfl
         go_wp2_with (first | ((with_reducible refine gate_dst (N := 29) rfl ?_); (try (refine gate_guard (by rfl) ?_; dsimp only)); refine load_whole ?hg (N := 29) ?hd (t := 27) (p := ?lp_29) ?ho (pk BK533.out) ?hp _ Try.underlying27 rfl ?hi ?_; (case hg => rfl); (case hd => rfl); (case ho => rfl); (case hp => first | (go_simp; done) | (go_simp; rfl)); (case hi => kernel_rfl)) | (go_at_call 52; (with_reducible refine (headgateref35_access.calls a0_0 a0_1 a0_2 a0_3 a0_4 a0_5 a0_6 _ _ l0_7 a0_8 false _ ?side1 ?side2 A21.out).mono ?_); (case side1 => repeat (first | exact (Kd.C_below HR0_7.out HB.out) | (with_reducible refine Kd.C_alloc ?_ _) | (with_reducible refine Kd.C_drewN ?_ _) | (with_reducible refine Kd.C_drew ?_))); (case side2 => exact HC0_7.out); rintro e w26 ⟨rfl, hb⟩; have n0_ := am (blk_below (g := gb533) (o := .cells #[.int .u64 a0_0, .int .i64 a0_1, .int .i64 a0_2, .int .i64 a0_3, .int .i64 a0_4, .int .u64 a0_5, .int .i64 a0_6, .slice A0_7 l0_7.length c0_7, .int .i64 a0_8] 27 (0, 0)) (pk BK533.out) hb); have n1_ := am (below_step (pb HB.out) hb); clear BK533; clear HB; have BK533 := n0_; have HB := n1_; clear n0_ n1_; (try clear hb); (try clear hb2); (try clear hk); (try clear hi); have hcz27_6 : w26.cell? ⟨gb533, 6, none⟩ = some (.int .i64 a0_6) := (blk_cell BK533.out 6).trans rfl))
         repeat (go_quiet (first | ((with_reducible refine gate_dst (N := 29) rfl ?_); (try (refine gate_guard (by rfl) ?_; dsimp only)); refine load_whole ?hg (N := 29) ?hd (t := 27) (p := ?lp_29) ?ho (pk BK533.out) ?hp _ Try.underlying27 rfl ?hi ?_; (case hg => rfl); (case hd => rfl); (case ho => rfl); (case hp => first | (go_simp; done) | (go_simp; rfl)); (case hi => kernel_rfl)) | (go_at_call 52; (with_reducible refine (headgateref35_access.calls a0_0 a0_1 a0_2 a0_3 a0_4 a0_5 a0_6 _ _ l0_7 a0_8 false _ ?side1 ?side2 A21.out).mono ?_); (case side1 => repeat (first | exact (Kd.C_below HR0_7.out HB.out) | (with_reducible refine Kd.C_alloc ?_ _) | (with_reducible refine Kd.C_drewN ?_ _) | (with_reducible refine Kd.C_drew ?_))); (case side2 => exact HC0_7.out); rintro e w26 ⟨rfl, hb⟩; have n0_ := am (blk_below (g := gb533) (o := .cells #[.int .u64 a0_0, .int .i64 a0_1, .int .i64 a0_2, .int .i64 a0_3, .int .i64 a0_4, .int .u64 a0_5, .int .i64 a0_6, .slice A0_7 l0_7.length c0_7, .int .i64 a0_8] 27 (0, 0)) (pk BK533.out) hb); have n1_ := am (below_step (pb HB.out) hb); clear BK533; clear HB; have BK533 := n0_; have HB := n1_; clear n0_ n1_; (try clear hb); (try clear hb2); (try clear hk); (try clear hi); have hcz27_6 : w26.cell? ⟨gb533, 6, none⟩ = some (.int .i64 a0_6) := (blk_cell BK533.out 6).trans rfl)); try go_wp2_with (first | ((with_reducible refine gate_dst (N := 29) rfl ?_); (try (refine gate_guard (by rfl) ?_; dsimp only)); refine load_whole ?hg (N := 29) ?hd (t := 27) (p := ?lp_29) ?ho (pk BK533.out) ?hp _ Try.underlying27 rfl ?hi ?_; (case hg => rfl); (case hd => rfl); (case ho => rfl); (case hp => first | (go_simp; done) | (go_simp; rfl)); (case hi => kernel_rfl)) | (go_at_call 52; (with_reducible refine (headgateref35_access.calls a0_0 a0_1 a0_2 a0_3 a0_4 a0_5 a0_6 _ _ l0_7 a0_8 false _ ?side1 ?side2 A21.out).mono ?_); (case side1 => repeat (first | exact (Kd.C_below HR0_7.out HB.out) | (with_reducible refine Kd.C_alloc ?_ _) | (with_reducible refine Kd.C_drewN ?_ _) | (with_reducible refine Kd.C_drew ?_))); (case side2 => exact HC0_7.out); rintro e w26 ⟨rfl, hb⟩; have n0_ := am (blk_below (g := gb533) (o := .cells #[.int .u64 a0_0, .int .i64 a0_1, .int .i64 a0_2, .int .i64 a0_3, .int .i64 a0_4, .int .u64 a0_5, .int .i64 a0_6, .slice A0_7 l0_7.length c0_7, .int .i64 a0_8] 27 (0, 0)) (pk BK533.out) hb); have n1_ := am (below_step (pb HB.out) hb); clear BK533; clear HB; have BK533 := n0_; have HB := n1_; clear n0_ n1_; (try clear hb); (try clear hb2); (try clear hk); (try clear hi); have hcz27_6 : w26.cell? ⟨gb533, 6, none⟩ = some (.int .i64 a0_6) := (blk_cell BK533.out 6).trans rfl)))
         go_meet
         case rel => exact ⟨_, (decide (a0_6 > 2)), (by first | rfl | (simp; done) | (simp [*]; done)), H', ⟨by have := HJ1.out; first | omega | exact Nat.le_refl _⟩, ⟨by (with_reducible repeat (first | apply bN | apply bD | apply bA)); exact BK533.out⟩, ⟨pb HB.out⟩⟩
     case rest =>
      clear HC10; (try clear c1); (try clear c2); (try clear p2); (try clear c3); (try clear c4); (try clear c4b0); (try clear c7); (try clear c9); (try clear c9b0); (try clear c9b1); (try clear c17); (try clear c17b0); (try clear c19); (try clear c19b0); (try clear c22); (try clear hcz11_1); (try clear hcz12_2); (try clear hcz13_3); (try clear hcz14_4); (try clear hcz15_5); (try clear hcz18_6); (try clear hcz20_6); (try clear hcz23_6); (try clear hcz25_6); (try clear hcz27_6); (try clear hcz5_0); (try clear hcz6_0); (try clear p2); obtain ⟨kq, x37_9, rfl, HA, HJ9, BK533, HB⟩ := hcut
      cases kq with
      | zero => exact absurd HA.out (by simp [headgateref35_Check.j1])
      | succ kj9 =>
       have H := HA.out; clear HA; simp only [headgateref35_Check.j1] at H
       by_cases c28 : x37_9 = true
       ·
        subst c28; have H1 : (some 9) = some r := by rw [if_pos rfl] at H; exact H
        clear H; have H := H1; clear H1; obtain rfl := Option.some.inj H
        go_wp2
        repeat (go_quiet (fail); try go_wp2)
        go_ret
        exact ⟨by first | rfl | (simp [errW_none, errW_some] <;> rfl) | (simp [*, errW_none, errW_some] <;> rfl), pb HB.out⟩
       ·
        replace c28 := Bool.eq_false_iff.mpr c28; subst c28; have H1 : (if a0_6 = 1 then (if (l0_7.length : Int) > 0 then (headgateref35_Check.j2 kj9 (l0_7.length : Int) true a0_0 a0_1 a0_2 a0_3 a0_4 a0_5 a0_6 l0_7 a0_8) else (if a0_6 = 2 then (if (l0_7.length : Int) = 0 then (headgateref35_Check.j2 kj9 (l0_7.length : Int) true a0_0 a0_1 a0_2 a0_3 a0_4 a0_5 a0_6 l0_7 a0_8) else ((headgateref35_room.f a0_0 a0_1 a0_2 a0_3 a0_4 a0_5 a0_6 l0_7 a0_8).bind fun t536 => (headgateref35_Check.j2 kj9 (l0_7.length : Int) (decide ((l0_7.length : Int) > t536)) a0_0 a0_1 a0_2 a0_3 a0_4 a0_5 a0_6 l0_7 a0_8))) else (if a0_6 = 4 then (if (l0_7.length : Int) = 0 then (headgateref35_Check.j2 kj9 (l0_7.length : Int) true a0_0 a0_1 a0_2 a0_3 a0_4 a0_5 a0_6 l0_7 a0_8) else ((headgateref35_room.f a0_0 a0_1 a0_2 a0_3 a0_4 a0_5 a0_6 l0_7 a0_8).bind fun t537 => (headgateref35_Check.j2 kj9 (l0_7.length : Int) (decide ((l0_7.length : Int) > t537)) a0_0 a0_1 a0_2 a0_3 a0_4 a0_5 a0_6 l0_7 a0_8))) else ((headgateref35_room.f a0_0 a0_1 a0_2 a0_3 a0_4 a0_5 a0_6 l0_7 a0_8).bind fun t538 => (headgateref35_Check.j2 kj9 (l0_7.length : Int) (decide ((l0_7.length : Int) > t538)) a0_0 a0_1 a0_2 a0_3 a0_4 a0_5 a0_6 l0_7 a0_8))))) else (if a0_6 = 2 then (if (l0_7.length : Int) = 0 then (headgateref35_Check.j2 kj9 (l0_7.length : Int) true a0_0 a0_1 a0_2 a0_3 a0_4 a0_5 a0_6 l0_7 a0_8) else ((headgateref35_room.f a0_0 a0_1 a0_2 a0_3 a0_4 a0_5 a0_6 l0_7 a0_8).bind fun t539 => (headgateref35_Check.j2 kj9 (l0_7.length : Int) (decide ((l0_7.length : Int) > t539)) a0_0 a0_1 a0_2 a0_3 a0_4 a0_5 a0_6 l0_7 a0_8))) else (if a0_6 = 4 then (if (l0_7.length : Int) = 0 then (headgateref35_Check.j2 kj9 (l0_7.length : Int) true a0_0 a0_1 a0_2 a0_3 a0_4 a0_5 a0_6 l0_7 a0_8) else ((headgateref35_room.f a0_0 a0_1 a0_2 a0_3 a0_4 a0_5 a0_6 l0_7 a0_8).bind fun t540 => (headgateref35_Check.j2 kj9 (l0_7.length : Int) (decide ((l0_7.length : Int) > t540)) a0_0 a0_1 a0_2 a0_3 a0_4 a0_5 a0_6 l0_7 a0_8))) else ((headgateref35_room.f a0_0 a0_1 a0_2 a0_3 a0_4 a0_5 a0_6 l0_7 a0_8).bind fun t541 => (headgateref35_Check.j2 kj9 (l0_7.length : Int) (decide ((l0_7.length : Int) > t541)) a0_0 a0_1 a0_2 a0_3 a0_4 a0_5 a0_6 l0_7 a0_8))))) = some r := by rw [if_neg (show ¬ (false = true) by decide)] at H; exact H
        clear H; have H := H1; clear H1; have HC29 := am H; clear H; have hcz30_7 : wc.cell? ⟨gb533, 7, none⟩ = some (.slice A0_7 l0_7.length c0_7) := (blk_cell BK533.out 7).trans rfl
        go_upto_region 9 with (fail)
        repeat (go_quiet (fail); go_upto_region 9 with (fail))
        go_cut [67] (fun v67 wc => ∃ (kq : Nat) (x67_28 : Bool), v67 = .bool x67_28 ∧ Aside0 (headgateref35_Check.j2 kq (l0_7.length : Int) x67_28 a0_0 a0_1 a0_2 a0_3 a0_4 a0_5 a0_6 l0_7 a0_8 = some r) ∧ Aside0 (kq ≤ kj9) ∧ Aside0 (wc.heap[gb533]? = some (.cells #[.int .u64 a0_0, .int .i64 a0_1, .int .i64 a0_2, .int .i64 a0_3, .int .i64 a0_4, .int .u64 a0_5, .int .i64 a0_6, (.slice A0_7 l0_7.length c0_7), .int .i64 a0_8] 27 (0, 0))) ∧ Aside0 (Below w.heap.size w wc))
        case first =>
         have H := HC29.out; clear HC29
         by_cases c31 : a0_6 = 1
         ·
          rw [if_pos c31] at H; have c31b0 : (a0_6 == 1) = true := beq_iff_eq.mpr c31; have c31b1 : (a0_6 != 1) = false := bne_eq_false_iff_eq.mpr c31; clear c31; (first | rw [c31b0] | (simp only [i64_w, i32_w]; rw [c31b0]) | skip)
          by_cases c32 : (l0_7.length : Int) > 0
          ·
           rw [if_pos c32] at H; have c32b0 : decide (0 < (l0_7.length : Int)) = true := decide_eq_true c32; have c32b1 : decide (0 < l0_7.length) = true := decide_eq_true (by omega); clear c32; have H' := am H; clear H; have hcz33_6 : wc.cell? ⟨gb533, 6, none⟩ = some (.int .i64 a0_6) := (blk_cell BK533.out 6).trans rfl
           go_wp2
           repeat (go_quiet (fail); try go_wp2)
           go_meet
           case rel => exact ⟨_, (true), (by first | rfl | (simp; done) | (simp [*]; done)), H', ⟨by have := HJ1.out; have := HJ9.out; first | omega | exact Nat.le_refl _⟩, ⟨by (with_reducible repeat (first | apply bN | apply bD | apply bA)); exact BK533.out⟩, ⟨pb HB.out⟩⟩
          ·
           rw [if_neg c32] at H; have c32b0 : decide (0 < (l0_7.length : Int)) = false := decide_eq_false c32; have c32b1 : decide (0 < l0_7.length) = false := decide_eq_false (by omega); clear c32
           by_cases c34 : a0_6 = 2
           ·
            rw [if_pos c34] at H; have c34b0 : (a0_6 == 2) = true := beq_iff_eq.mpr c34; have c34b1 : (a0_6 != 2) = false := bne_eq_false_iff_eq.mpr c34; clear c34
            by_cases c35 : (l0_7.length : Int) = 0
            ·
             rw [if_pos c35] at H; have c35b0 : ((l0_7.length : Int) == 0) = true := beq_iff_eq.mpr c35; have c35b1 : ((l0_7.length : Int) != 0) = false := bne_eq_false_iff_eq.mpr c35; clear c35; have H' := am H; clear H; have hcz36_6 : wc.cell? ⟨gb533, 6, none⟩ = some (.int .i64 a0_6) := (blk_cell BK533.out 6).trans rfl
             go_wp2
             repeat (go_quiet (fail); try go_wp2)
             go_meet
             case rel => exact ⟨_, (true), (by first | rfl | (simp; done) | (simp [*]; done)), H', ⟨by have := HJ1.out; have := HJ9.out; first | omega | exact Nat.le_refl _⟩, ⟨by (with_reducible repeat (first | apply bN | apply bD | apply bA)); exact BK533.out⟩, ⟨pb HB.out⟩⟩
            ·
             rw [if_neg c35] at H; have c35b0 : ((l0_7.length : Int) == 0) = false := beq_eq_false_iff_ne.mpr c35; have c35b1 : ((l0_7.length : Int) != 0) = true := bne_iff_ne.mpr c35; have c35b2 : ¬ (l0_7 = []) := fun h_ => c35 (by rw [h_]; rfl)
             replace H := Option.bind_eq_some_iff.mp H; obtain ⟨t536, A370, H⟩ := H; replace H : (headgateref35_Check.j2 kj9 (l0_7.length : Int) (decide ((l0_7.length : Int) > t536)) a0_0 a0_1 a0_2 a0_3 a0_4 a0_5 a0_6 l0_7 a0_8) = some r := H; have A37 := am A370; clear A370; have H' := am H; clear H; have hcz38_6 : wc.cell? ⟨gb533, 6, none⟩ = some (.int .i64 a0_6) := (blk_cell BK533.out 6).trans rfl
             go_wp2_with (first | ((with_reducible refine gate_dst (N := 64) rfl ?_); (try (refine gate_guard (by rfl) ?_; dsimp only)); refine load_whole ?hg (N := 64) ?hd (t := 27) (p := ?lp_64) ?ho (pk BK533.out) ?hp _ Try.underlying27 rfl ?hi ?_; (case hg => rfl); (case hd => rfl); (case ho => rfl); (case hp => first | (go_simp; done) | (go_simp; rfl)); (case hi => kernel_rfl)) | (go_at_call 40; (with_reducible refine (headgateref35_room.calls a0_0 a0_1 a0_2 a0_3 a0_4 a0_5 a0_6 _ _ l0_7 a0_8 t536 _ ?side1 ?side2 A37.out).mono ?_); (case side1 => repeat (first | exact (Kd.C_below HR0_7.out HB.out) | (with_reducible refine Kd.C_alloc ?_ _) | (with_reducible refine Kd.C_drewN ?_ _) | (with_reducible refine Kd.C_drew ?_))); (case side2 => exact HC0_7.out); rintro e w39 ⟨rfl, hb⟩; have n0_ := am (blk_below (g := gb533) (o := .cells #[.int .u64 a0_0, .int .i64 a0_1, .int .i64 a0_2, .int .i64 a0_3, .int .i64 a0_4, .int .u64 a0_5, .int .i64 a0_6, .slice A0_7 l0_7.length c0_7, .int .i64 a0_8] 27 (0, 0)) (pk BK533.out) hb); have n1_ := am (below_step (pb HB.out) hb); clear BK533; clear HB; have BK533 := n0_; have HB := n1_; clear n0_ n1_; (try clear hb); (try clear hb2); (try clear hk); (try clear hi)))
             repeat (go_quiet (first | ((with_reducible refine gate_dst (N := 64) rfl ?_); (try (refine gate_guard (by rfl) ?_; dsimp only)); refine load_whole ?hg (N := 64) ?hd (t := 27) (p := ?lp_64) ?ho (pk BK533.out) ?hp _ Try.underlying27 rfl ?hi ?_; (case hg => rfl); (case hd => rfl); (case ho => rfl); (case hp => first | (go_simp; done) | (go_simp; rfl)); (case hi => kernel_rfl)) | (go_at_call 40; (with_reducible refine (headgateref35_room.calls a0_0 a0_1 a0_2 a0_3 a0_4 a0_5 a0_6 _ _ l0_7 a0_8 t536 _ ?side1 ?side2 A37.out).mono ?_); (case side1 => repeat (first | exact (Kd.C_below HR0_7.out HB.out) | (with_reducible refine Kd.C_alloc ?_ _) | (with_reducible refine Kd.C_drewN ?_ _) | (with_reducible refine Kd.C_drew ?_))); (case side2 => exact HC0_7.out); rintro e w39 ⟨rfl, hb⟩; have n0_ := am (blk_below (g := gb533) (o := .cells #[.int .u64 a0_0, .int .i64 a0_1, .int .i64 a0_2, .int .i64 a0_3, .int .i64 a0_4, .int .u64 a0_5, .int .i64 a0_6, .slice A0_7 l0_7.length c0_7, .int .i64 a0_8] 27 (0, 0)) (pk BK533.out) hb); have n1_ := am (below_step (pb HB.out) hb); clear BK533; clear HB; have BK533 := n0_; have HB := n1_; clear n0_ n1_; (try clear hb); (try clear hb2); (try clear hk); (try clear hi))); try go_wp2_with (first | ((with_reducible refine gate_dst (N := 64) rfl ?_); (try (refine gate_guard (by rfl) ?_; dsimp only)); refine load_whole ?hg (N := 64) ?hd (t := 27) (p := ?lp_64) ?ho (pk BK533.out) ?hp _ Try.underlying27 rfl ?hi ?_; (case hg => rfl); (case hd => rfl); (case ho => rfl); (case hp => first | (go_simp; done) | (go_simp; rfl)); (case hi => kernel_rfl)) | (go_at_call 40; (with_reducible refine (headgateref35_room.calls a0_0 a0_1 a0_2 a0_3 a0_4 a0_5 a0_6 _ _ l0_7 a0_8 t536 _ ?side1 ?side2 A37.out).mono ?_); (case side1 => repeat (first | exact (Kd.C_below HR0_7.out HB.out) | (with_reducible refine Kd.C_alloc ?_ _) | (with_reducible refine Kd.C_drewN ?_ _) | (with_reducible refine Kd.C_drew ?_))); (case side2 => exact HC0_7.out); rintro e w39 ⟨rfl, hb⟩; have n0_ := am (blk_below (g := gb533) (o := .cells #[.int .u64 a0_0, .int .i64 a0_1, .int .i64 a0_2, .int .i64 a0_3, .int .i64 a0_4, .int .u64 a0_5, .int .i64 a0_6, .slice A0_7 l0_7.length c0_7, .int .i64 a0_8] 27 (0, 0)) (pk BK533.out) hb); have n1_ := am (below_step (pb HB.out) hb); clear BK533; clear HB; have BK533 := n0_; have HB := n1_; clear n0_ n1_; (try clear hb); (try clear hb2); (try clear hk); (try clear hi))))
             go_meet
             case rel => exact ⟨_, (decide ((l0_7.length : Int) > t536)), (by first | rfl | (simp; done) | (simp [*]; done)), H', ⟨by have := HJ1.out; have := HJ9.out; first | omega | exact Nat.le_refl _⟩, ⟨by (with_reducible repeat (first | apply bN | apply bD | apply bA)); exact BK533.out⟩, ⟨pb HB.out⟩⟩
           ·
            rw [if_neg c34] at H; have c34b0 : (a0_6 == 2) = false := beq_eq_false_iff_ne.mpr c34; have c34b1 : (a0_6 != 2) = true := bne_iff_ne.mpr c34
            by_cases c40 : a0_6 = 4
            ·
             rw [if_pos c40] at H; have c40b0 : (a0_6 == 4) = true := beq_iff_eq.mpr c40; have c40b1 : (a0_6 != 4) = false := bne_eq_false_iff_eq.mpr c40; clear c40
             by_cases c41 : (l0_7.length : Int) = 0
             ·
              rw [if_pos c41] at H; have c41b0 : ((l0_7.length : Int) == 0) = true := beq_iff_eq.mpr c41; have c41b1 : ((l0_7.length : Int) != 0) = false := bne_eq_false_iff_eq.mpr c41; clear c41; have H' := am H; clear H; have hcz42_6 : wc.cell? ⟨gb533, 6, none⟩ = some (.int .i64 a0_6) := (blk_cell BK533.out 6).trans rfl
              go_wp2
              repeat (go_quiet (fail); try go_wp2)
              go_meet
              case rel => exact ⟨_, (true), (by first | rfl | (simp; done) | (simp [*]; done)), H', ⟨by have := HJ1.out; have := HJ9.out; first | omega | exact Nat.le_refl _⟩, ⟨by (with_reducible repeat (first | apply bN | apply bD | apply bA)); exact BK533.out⟩, ⟨pb HB.out⟩⟩
             ·
              rw [if_neg c41] at H; have c41b0 : ((l0_7.length : Int) == 0) = false := beq_eq_false_iff_ne.mpr c41; have c41b1 : ((l0_7.length : Int) != 0) = true := bne_iff_ne.mpr c41; have c41b2 : ¬ (l0_7 = []) := fun h_ => c41 (by rw [h_]; rfl)
              replace H := Option.bind_eq_some_iff.mp H; obtain ⟨t537, A430, H⟩ := H; replace H : (headgateref35_Check.j2 kj9 (l0_7.length : Int) (decide ((l0_7.length : Int) > t537)) a0_0 a0_1 a0_2 a0_3 a0_4 a0_5 a0_6 l0_7 a0_8) = some r := H; have A43 := am A430; clear A430; have H' := am H; clear H; have hcz44_6 : wc.cell? ⟨gb533, 6, none⟩ = some (.int .i64 a0_6) := (blk_cell BK533.out 6).trans rfl
              go_wp2_with (first | ((with_reducible refine gate_dst (N := 64) rfl ?_); (try (refine gate_guard (by rfl) ?_; dsimp only)); refine load_whole ?hg (N := 64) ?hd (t := 27) (p := ?lp_64) ?ho (pk BK533.out) ?hp _ Try.underlying27 rfl ?hi ?_; (case hg => rfl); (case hd => rfl); (case ho => rfl); (case hp => first | (go_simp; done) | (go_simp; rfl)); (case hi => kernel_rfl)) | (go_at_call 40; (with_reducible refine (headgateref35_room.calls a0_0 a0_1 a0_2 a0_3 a0_4 a0_5 a0_6 _ _ l0_7 a0_8 t537 _ ?side1 ?side2 A43.out).mono ?_); (case side1 => repeat (first | exact (Kd.C_below HR0_7.out HB.out) | (with_reducible refine Kd.C_alloc ?_ _) | (with_reducible refine Kd.C_drewN ?_ _) | (with_reducible refine Kd.C_drew ?_))); (case side2 => exact HC0_7.out); rintro e w45 ⟨rfl, hb⟩; have n0_ := am (blk_below (g := gb533) (o := .cells #[.int .u64 a0_0, .int .i64 a0_1, .int .i64 a0_2, .int .i64 a0_3, .int .i64 a0_4, .int .u64 a0_5, .int .i64 a0_6, .slice A0_7 l0_7.length c0_7, .int .i64 a0_8] 27 (0, 0)) (pk BK533.out) hb); have n1_ := am (below_step (pb HB.out) hb); clear BK533; clear HB; have BK533 := n0_; have HB := n1_; clear n0_ n1_; (try clear hb); (try clear hb2); (try clear hk); (try clear hi)))
              repeat (go_quiet (first | ((with_reducible refine gate_dst (N := 64) rfl ?_); (try (refine gate_guard (by rfl) ?_; dsimp only)); refine load_whole ?hg (N := 64) ?hd (t := 27) (p := ?lp_64) ?ho (pk BK533.out) ?hp _ Try.underlying27 rfl ?hi ?_; (case hg => rfl); (case hd => rfl); (case ho => rfl); (case hp => first | (go_simp; done) | (go_simp; rfl)); (case hi => kernel_rfl)) | (go_at_call 40; (with_reducible refine (headgateref35_room.calls a0_0 a0_1 a0_2 a0_3 a0_4 a0_5 a0_6 _ _ l0_7 a0_8 t537 _ ?side1 ?side2 A43.out).mono ?_); (case side1 => repeat (first | exact (Kd.C_below HR0_7.out HB.out) | (with_reducible refine Kd.C_alloc ?_ _) | (with_reducible refine Kd.C_drewN ?_ _) | (with_reducible refine Kd.C_drew ?_))); (case side2 => exact HC0_7.out); rintro e w45 ⟨rfl, hb⟩; have n0_ := am (blk_below (g := gb533) (o := .cells #[.int .u64 a0_0, .int .i64 a0_1, .int .i64 a0_2, .int .i64 a0_3, .int .i64 a0_4, .int .u64 a0_5, .int .i64 a0_6, .slice A0_7 l0_7.length c0_7, .int .i64 a0_8] 27 (0, 0)) (pk BK533.out) hb); have n1_ := am (below_step (pb HB.out) hb); clear BK533; clear HB; have BK533 := n0_; have HB := n1_; clear n0_ n1_; (try clear hb); (try clear hb2); (try clear hk); (try clear hi))); try go_wp2_with (first | ((with_reducible refine gate_dst (N := 64) rfl ?_); (try (refine gate_guard (by rfl) ?_; dsimp only)); refine load_whole ?hg (N := 64) ?hd (t := 27) (p := ?lp_64) ?ho (pk BK533.out) ?hp _ Try.underlying27 rfl ?hi ?_; (case hg => rfl); (case hd => rfl); (case ho => rfl); (case hp => first | (go_simp; done) | (go_simp; rfl)); (case hi => kernel_rfl)) | (go_at_call 40; (with_reducible refine (headgateref35_room.calls a0_0 a0_1 a0_2 a0_3 a0_4 a0_5 a0_6 _ _ l0_7 a0_8 t537 _ ?side1 ?side2 A43.out).mono ?_); (case side1 => repeat (first | exact (Kd.C_below HR0_7.out HB.out) | (with_reducible refine Kd.C_alloc ?_ _) | (with_reducible refine Kd.C_drewN ?_ _) | (with_reducible refine Kd.C_drew ?_))); (case side2 => exact HC0_7.out); rintro e w45 ⟨rfl, hb⟩; have n0_ := am (blk_below (g := gb533) (o := .cells #[.int .u64 a0_0, .int .i64 a0_1, .int .i64 a0_2, .int .i64 a0_3, .int .i64 a0_4, .int .u64 a0_5, .int .i64 a0_6, .slice A0_7 l0_7.length c0_7, .int .i64 a0_8] 27 (0, 0)) (pk BK533.out) hb); have n1_ := am (below_step (pb HB.out) hb); clear BK533; clear HB; have BK533 := n0_; have HB := n1_; clear n0_ n1_; (try clear hb); (try clear hb2); (try clear hk); (try clear hi))))
              go_meet
              case rel => exact ⟨_, (decide ((l0_7.length : Int) > t537)), (by first | rfl | (simp; done) | (simp [*]; done)), H', ⟨by have := HJ1.out; have := HJ9.out; first | omega | exact Nat.le_refl _⟩, ⟨by (with_reducible repeat (first | apply bN | apply bD | apply bA)); exact BK533.out⟩, ⟨pb HB.out⟩⟩
            ·
             rw [if_neg c40] at H; have c40b0 : (a0_6 == 4) = false := beq_eq_false_iff_ne.mpr c40; have c40b1 : (a0_6 != 4) = true := bne_iff_ne.mpr c40; replace H := Option.bind_eq_some_iff.mp H; obtain ⟨t538, A460, H⟩ := H; replace H : (headgateref35_Check.j2 kj9 (l0_7.length : Int) (decide ((l0_7.length : Int) > t538)) a0_0 a0_1 a0_2 a0_3 a0_4 a0_5 a0_6 l0_7 a0_8) = some r := H; have A46 := am A460; clear A460; have H' := am H; clear H; have hcz47_6 : wc.cell? ⟨gb533, 6, none⟩ = some (.int .i64 a0_6) := (blk_cell BK533.out 6).trans rfl
             go_wp2_with (first | ((with_reducible refine gate_dst (N := 64) rfl ?_); (try (refine gate_guard (by rfl) ?_; dsimp only)); refine load_whole ?hg (N := 64) ?hd (t := 27) (p := ?lp_64) ?ho (pk BK533.out) ?hp _ Try.underlying27 rfl ?hi ?_; (case hg => rfl); (case hd => rfl); (case ho => rfl); (case hp => first | (go_simp; done) | (go_simp; rfl)); (case hi => kernel_rfl)) | (go_at_call 40; (with_reducible refine (headgateref35_room.calls a0_0 a0_1 a0_2 a0_3 a0_4 a0_5 a0_6 _ _ l0_7 a0_8 t538 _ ?side1 ?side2 A46.out).mono ?_); (case side1 => repeat (first | exact (Kd.C_below HR0_7.out HB.out) | (with_reducible refine Kd.C_alloc ?_ _) | (with_reducible refine Kd.C_drewN ?_ _) | (with_reducible refine Kd.C_drew ?_))); (case side2 => exact HC0_7.out); rintro e w48 ⟨rfl, hb⟩; have n0_ := am (blk_below (g := gb533) (o := .cells #[.int .u64 a0_0, .int .i64 a0_1, .int .i64 a0_2, .int .i64 a0_3, .int .i64 a0_4, .int .u64 a0_5, .int .i64 a0_6, .slice A0_7 l0_7.length c0_7, .int .i64 a0_8] 27 (0, 0)) (pk BK533.out) hb); have n1_ := am (below_step (pb HB.out) hb); clear BK533; clear HB; have BK533 := n0_; have HB := n1_; clear n0_ n1_; (try clear hb); (try clear hb2); (try clear hk); (try clear hi)))
             repeat (go_quiet (first | ((with_reducible refine gate_dst (N := 64) rfl ?_); (try (refine gate_guard (by rfl) ?_; dsimp only)); refine load_whole ?hg (N := 64) ?hd (t := 27) (p := ?lp_64) ?ho (pk BK533.out) ?hp _ Try.underlying27 rfl ?hi ?_; (case hg => rfl); (case hd => rfl); (case ho => rfl); (case hp => first | (go_simp; done) | (go_simp; rfl)); (case hi => kernel_rfl)) | (go_at_call 40; (with_reducible refine (headgateref35_room.calls a0_0 a0_1 a0_2 a0_3 a0_4 a0_5 a0_6 _ _ l0_7 a0_8 t538 _ ?side1 ?side2 A46.out).mono ?_); (case side1 => repeat (first | exact (Kd.C_below HR0_7.out HB.out) | (with_reducible refine Kd.C_alloc ?_ _) | (with_reducible refine Kd.C_drewN ?_ _) | (with_reducible refine Kd.C_drew ?_))); (case side2 => exact HC0_7.out); rintro e w48 ⟨rfl, hb⟩; have n0_ := am (blk_below (g := gb533) (o := .cells #[.int .u64 a0_0, .int .i64 a0_1, .int .i64 a0_2, .int .i64 a0_3, .int .i64 a0_4, .int .u64 a0_5, .int .i64 a0_6, .slice A0_7 l0_7.length c0_7, .int .i64 a0_8] 27 (0, 0)) (pk BK533.out) hb); have n1_ := am (below_step (pb HB.out) hb); clear BK533; clear HB; have BK533 := n0_; have HB := n1_; clear n0_ n1_; (try clear hb); (try clear hb2); (try clear hk); (try clear hi))); try go_wp2_with (first | ((with_reducible refine gate_dst (N := 64) rfl ?_); (try (refine gate_guard (by rfl) ?_; dsimp only)); refine load_whole ?hg (N := 64) ?hd (t := 27) (p := ?lp_64) ?ho (pk BK533.out) ?hp _ Try.underlying27 rfl ?hi ?_; (case hg => rfl); (case hd => rfl); (case ho => rfl); (case hp => first | (go_simp; done) | (go_simp; rfl)); (case hi => kernel_rfl)) | (go_at_call 40; (with_reducible refine (headgateref35_room.calls a0_0 a0_1 a0_2 a0_3 a0_4 a0_5 a0_6 _ _ l0_7 a0_8 t538 _ ?side1 ?side2 A46.out).mono ?_); (case side1 => repeat (first | exact (Kd.C_below HR0_7.out HB.out) | (with_reducible refine Kd.C_alloc ?_ _) | (with_reducible refine Kd.C_drewN ?_ _) | (with_reducible refine Kd.C_drew ?_))); (case side2 => exact HC0_7.out); rintro e w48 ⟨rfl, hb⟩; have n0_ := am (blk_below (g := gb533) (o := .cells #[.int .u64 a0_0, .int .i64 a0_1, .int .i64 a0_2, .int .i64 a0_3, .int .i64 a0_4, .int .u64 a0_5, .int .i64 a0_6, .slice A0_7 l0_7.length c0_7, .int .i64 a0_8] 27 (0, 0)) (pk BK533.out) hb); have n1_ := am (below_step (pb HB.out) hb); clear BK533; clear HB; have BK533 := n0_; have HB := n1_; clear n0_ n1_; (try clear hb); (try clear hb2); (try clear hk); (try clear hi))))
             go_meet
             case rel => exact ⟨_, (decide ((l0_7.length : Int) > t538)), (by first | rfl | (simp; done) | (simp [*]; done)), H', ⟨by have := HJ1.out; have := HJ9.out; first | omega | exact Nat.le_refl _⟩, ⟨by (with_reducible repeat (first | apply bN | apply bD | apply bA)); exact BK533.out⟩, ⟨pb HB.out⟩⟩
         ·
          rw [if_neg c31] at H; have c31b0 : (a0_6 == 1) = false := beq_eq_false_iff_ne.mpr c31; have c31b1 : (a0_6 != 1) = true := bne_iff_ne.mpr c31; (first | rw [c31b0] | (simp only [i64_w, i32_w]; rw [c31b0]) | skip)
          by_cases c49 : a0_6 = 2
          ·
           rw [if_pos c49] at H; have c49b0 : (a0_6 == 2) = true := beq_iff_eq.mpr c49; have c49b1 : (a0_6 != 2) = false := bne_eq_false_iff_eq.mpr c49; clear c49
           by_cases c50 : (l0_7.length : Int) = 0
           ·
            rw [if_pos c50] at H; have c50b0 : ((l0_7.length : Int) == 0) = true := beq_iff_eq.mpr c50; have c50b1 : ((l0_7.length : Int) != 0) = false := bne_eq_false_iff_eq.mpr c50; clear c50; have H' := am H; clear H; have hcz51_6 : wc.cell? ⟨gb533, 6, none⟩ = some (.int .i64 a0_6) := (blk_cell BK533.out 6).trans rfl
            go_wp2
            repeat (go_quiet (fail); try go_wp2)
            go_meet
            case rel => exact ⟨_, (true), (by first | rfl | (simp; done) | (simp [*]; done)), H', ⟨by have := HJ1.out; have := HJ9.out; first | omega | exact Nat.le_refl _⟩, ⟨by (with_reducible repeat (first | apply bN | apply bD | apply bA)); exact BK533.out⟩, ⟨pb HB.out⟩⟩
           ·
            rw [if_neg c50] at H; have c50b0 : ((l0_7.length : Int) == 0) = false := beq_eq_false_iff_ne.mpr c50; have c50b1 : ((l0_7.length : Int) != 0) = true := bne_iff_ne.mpr c50; have c50b2 : ¬ (l0_7 = []) := fun h_ => c50 (by rw [h_]; rfl)
            replace H := Option.bind_eq_some_iff.mp H; obtain ⟨t539, A520, H⟩ := H; replace H : (headgateref35_Check.j2 kj9 (l0_7.length : Int) (decide ((l0_7.length : Int) > t539)) a0_0 a0_1 a0_2 a0_3 a0_4 a0_5 a0_6 l0_7 a0_8) = some r := H; have A52 := am A520; clear A520; have H' := am H; clear H; have hcz53_6 : wc.cell? ⟨gb533, 6, none⟩ = some (.int .i64 a0_6) := (blk_cell BK533.out 6).trans rfl
            go_wp2_with (first | ((with_reducible refine gate_dst (N := 64) rfl ?_); (try (refine gate_guard (by rfl) ?_; dsimp only)); refine load_whole ?hg (N := 64) ?hd (t := 27) (p := ?lp_64) ?ho (pk BK533.out) ?hp _ Try.underlying27 rfl ?hi ?_; (case hg => rfl); (case hd => rfl); (case ho => rfl); (case hp => first | (go_simp; done) | (go_simp; rfl)); (case hi => kernel_rfl)) | (go_at_call 40; (with_reducible refine (headgateref35_room.calls a0_0 a0_1 a0_2 a0_3 a0_4 a0_5 a0_6 _ _ l0_7 a0_8 t539 _ ?side1 ?side2 A52.out).mono ?_); (case side1 => repeat (first | exact (Kd.C_below HR0_7.out HB.out) | (with_reducible refine Kd.C_alloc ?_ _) | (with_reducible refine Kd.C_drewN ?_ _) | (with_reducible refine Kd.C_drew ?_))); (case side2 => exact HC0_7.out); rintro e w54 ⟨rfl, hb⟩; have n0_ := am (blk_below (g := gb533) (o := .cells #[.int .u64 a0_0, .int .i64 a0_1, .int .i64 a0_2, .int .i64 a0_3, .int .i64 a0_4, .int .u64 a0_5, .int .i64 a0_6, .slice A0_7 l0_7.length c0_7, .int .i64 a0_8] 27 (0, 0)) (pk BK533.out) hb); have n1_ := am (below_step (pb HB.out) hb); clear BK533; clear HB; have BK533 := n0_; have HB := n1_; clear n0_ n1_; (try clear hb); (try clear hb2); (try clear hk); (try clear hi)))
            repeat (go_quiet (first | ((with_reducible refine gate_dst (N := 64) rfl ?_); (try (refine gate_guard (by rfl) ?_; dsimp only)); refine load_whole ?hg (N := 64) ?hd (t := 27) (p := ?lp_64) ?ho (pk BK533.out) ?hp _ Try.underlying27 rfl ?hi ?_; (case hg => rfl); (case hd => rfl); (case ho => rfl); (case hp => first | (go_simp; done) | (go_simp; rfl)); (case hi => kernel_rfl)) | (go_at_call 40; (with_reducible refine (headgateref35_room.calls a0_0 a0_1 a0_2 a0_3 a0_4 a0_5 a0_6 _ _ l0_7 a0_8 t539 _ ?side1 ?side2 A52.out).mono ?_); (case side1 => repeat (first | exact (Kd.C_below HR0_7.out HB.out) | (with_reducible refine Kd.C_alloc ?_ _) | (with_reducible refine Kd.C_drewN ?_ _) | (with_reducible refine Kd.C_drew ?_))); (case side2 => exact HC0_7.out); rintro e w54 ⟨rfl, hb⟩; have n0_ := am (blk_below (g := gb533) (o := .cells #[.int .u64 a0_0, .int .i64 a0_1, .int .i64 a0_2, .int .i64 a0_3, .int .i64 a0_4, .int .u64 a0_5, .int .i64 a0_6, .slice A0_7 l0_7.length c0_7, .int .i64 a0_8] 27 (0, 0)) (pk BK533.out) hb); have n1_ := am (below_step (pb HB.out) hb); clear BK533; clear HB; have BK533 := n0_; have HB := n1_; clear n0_ n1_; (try clear hb); (try clear hb2); (try clear hk); (try clear hi))); try go_wp2_with (first | ((with_reducible refine gate_dst (N := 64) rfl ?_); (try (refine gate_guard (by rfl) ?_; dsimp only)); refine load_whole ?hg (N := 64) ?hd (t := 27) (p := ?lp_64) ?ho (pk BK533.out) ?hp _ Try.underlying27 rfl ?hi ?_; (case hg => rfl); (case hd => rfl); (case ho => rfl); (case hp => first | (go_simp; done) | (go_simp; rfl)); (case hi => kernel_rfl)) | (go_at_call 40; (with_reducible refine (headgateref35_room.calls a0_0 a0_1 a0_2 a0_3 a0_4 a0_5 a0_6 _ _ l0_7 a0_8 t539 _ ?side1 ?side2 A52.out).mono ?_); (case side1 => repeat (first | exact (Kd.C_below HR0_7.out HB.out) | (with_reducible refine Kd.C_alloc ?_ _) | (with_reducible refine Kd.C_drewN ?_ _) | (with_reducible refine Kd.C_drew ?_))); (case side2 => exact HC0_7.out); rintro e w54 ⟨rfl, hb⟩; have n0_ := am (blk_below (g := gb533) (o := .cells #[.int .u64 a0_0, .int .i64 a0_1, .int .i64 a0_2, .int .i64 a0_3, .int .i64 a0_4, .int .u64 a0_5, .int .i64 a0_6, .slice A0_7 l0_7.length c0_7, .int .i64 a0_8] 27 (0, 0)) (pk BK533.out) hb); have n1_ := am (below_step (pb HB.out) hb); clear BK533; clear HB; have BK533 := n0_; have HB := n1_; clear n0_ n1_; (try clear hb); (try clear hb2); (try clear hk); (try clear hi))))
            go_meet
            case rel => exact ⟨_, (decide ((l0_7.length : Int) > t539)), (by first | rfl | (simp; done) | (simp [*]; done)), H', ⟨by have := HJ1.out; have := HJ9.out; first | omega | exact Nat.le_refl _⟩, ⟨by (with_reducible repeat (first | apply bN | apply bD | apply bA)); exact BK533.out⟩, ⟨pb HB.out⟩⟩
          ·
           rw [if_neg c49] at H; have c49b0 : (a0_6 == 2) = false := beq_eq_false_iff_ne.mpr c49; have c49b1 : (a0_6 != 2) = true := bne_iff_ne.mpr c49
           by_cases c55 : a0_6 = 4
           ·
            rw [if_pos c55] at H; have c55b0 : (a0_6 == 4) = true := beq_iff_eq.mpr c55; have c55b1 : (a0_6 != 4) = false := bne_eq_false_iff_eq.mpr c55; clear c55
            by_cases c56 : (l0_7.length : Int) = 0
            ·
             rw [if_pos c56] at H; have c56b0 : ((l0_7.length : Int) == 0) = true := beq_iff_eq.mpr c56; have c56b1 : ((l0_7.length : Int) != 0) = false := bne_eq_false_iff_eq.mpr c56; clear c56; have H' := am H; clear H; have hcz57_6 : wc.cell? ⟨gb533, 6, none⟩ = some (.int .i64 a0_6) := (blk_cell BK533.out 6).trans rfl
             go_wp2
             repeat (go_quiet (fail); try go_wp2)
             go_meet
             case rel => exact ⟨_, (true), (by first | rfl | (simp; done) | (simp [*]; done)), H', ⟨by have := HJ1.out; have := HJ9.out; first | omega | exact Nat.le_refl _⟩, ⟨by (with_reducible repeat (first | apply bN | apply bD | apply bA)); exact BK533.out⟩, ⟨pb HB.out⟩⟩
            ·
             rw [if_neg c56] at H; have c56b0 : ((l0_7.length : Int) == 0) = false := beq_eq_false_iff_ne.mpr c56; have c56b1 : ((l0_7.length : Int) != 0) = true := bne_iff_ne.mpr c56; have c56b2 : ¬ (l0_7 = []) := fun h_ => c56 (by rw [h_]; rfl)
             replace H := Option.bind_eq_some_iff.mp H; obtain ⟨t540, A580, H⟩ := H; replace H : (headgateref35_Check.j2 kj9 (l0_7.length : Int) (decide ((l0_7.length : Int) > t540)) a0_0 a0_1 a0_2 a0_3 a0_4 a0_5 a0_6 l0_7 a0_8) = some r := H; have A58 := am A580; clear A580; have H' := am H; clear H; have hcz59_6 : wc.cell? ⟨gb533, 6, none⟩ = some (.int .i64 a0_6) := (blk_cell BK533.out 6).trans rfl
             go_wp2_with (first | ((with_reducible refine gate_dst (N := 64) rfl ?_); (try (refine gate_guard (by rfl) ?_; dsimp only)); refine load_whole ?hg (N := 64) ?hd (t := 27) (p := ?lp_64) ?ho (pk BK533.out) ?hp _ Try.underlying27 rfl ?hi ?_; (case hg => rfl); (case hd => rfl); (case ho => rfl); (case hp => first | (go_simp; done) | (go_simp; rfl)); (case hi => kernel_rfl)) | (go_at_call 40; (with_reducible refine (headgateref35_room.calls a0_0 a0_1 a0_2 a0_3 a0_4 a0_5 a0_6 _ _ l0_7 a0_8 t540 _ ?side1 ?side2 A58.out).mono ?_); (case side1 => repeat (first | exact (Kd.C_below HR0_7.out HB.out) | (with_reducible refine Kd.C_alloc ?_ _) | (with_reducible refine Kd.C_drewN ?_ _) | (with_reducible refine Kd.C_drew ?_))); (case side2 => exact HC0_7.out); rintro e w60 ⟨rfl, hb⟩; have n0_ := am (blk_below (g := gb533) (o := .cells #[.int .u64 a0_0, .int .i64 a0_1, .int .i64 a0_2, .int .i64 a0_3, .int .i64 a0_4, .int .u64 a0_5, .int .i64 a0_6, .slice A0_7 l0_7.length c0_7, .int .i64 a0_8] 27 (0, 0)) (pk BK533.out) hb); have n1_ := am (below_step (pb HB.out) hb); clear BK533; clear HB; have BK533 := n0_; have HB := n1_; clear n0_ n1_; (try clear hb); (try clear hb2); (try clear hk); (try clear hi)))
             repeat (go_quiet (first | ((with_reducible refine gate_dst (N := 64) rfl ?_); (try (refine gate_guard (by rfl) ?_; dsimp only)); refine load_whole ?hg (N := 64) ?hd (t := 27) (p := ?lp_64) ?ho (pk BK533.out) ?hp _ Try.underlying27 rfl ?hi ?_; (case hg => rfl); (case hd => rfl); (case ho => rfl); (case hp => first | (go_simp; done) | (go_simp; rfl)); (case hi => kernel_rfl)) | (go_at_call 40; (with_reducible refine (headgateref35_room.calls a0_0 a0_1 a0_2 a0_3 a0_4 a0_5 a0_6 _ _ l0_7 a0_8 t540 _ ?side1 ?side2 A58.out).mono ?_); (case side1 => repeat (first | exact (Kd.C_below HR0_7.out HB.out) | (with_reducible refine Kd.C_alloc ?_ _) | (with_reducible refine Kd.C_drewN ?_ _) | (with_reducible refine Kd.C_drew ?_))); (case side2 => exact HC0_7.out); rintro e w60 ⟨rfl, hb⟩; have n0_ := am (blk_below (g := gb533) (o := .cells #[.int .u64 a0_0, .int .i64 a0_1, .int .i64 a0_2, .int .i64 a0_3, .int .i64 a0_4, .int .u64 a0_5, .int .i64 a0_6, .slice A0_7 l0_7.length c0_7, .int .i64 a0_8] 27 (0, 0)) (pk BK533.out) hb); have n1_ := am (below_step (pb HB.out) hb); clear BK533; clear HB; have BK533 := n0_; have HB := n1_; clear n0_ n1_; (try clear hb); (try clear hb2); (try clear hk); (try clear hi))); try go_wp2_with (first | ((with_reducible refine gate_dst (N := 64) rfl ?_); (try (refine gate_guard (by rfl) ?_; dsimp only)); refine load_whole ?hg (N := 64) ?hd (t := 27) (p := ?lp_64) ?ho (pk BK533.out) ?hp _ Try.underlying27 rfl ?hi ?_; (case hg => rfl); (case hd => rfl); (case ho => rfl); (case hp => first | (go_simp; done) | (go_simp; rfl)); (case hi => kernel_rfl)) | (go_at_call 40; (with_reducible refine (headgateref35_room.calls a0_0 a0_1 a0_2 a0_3 a0_4 a0_5 a0_6 _ _ l0_7 a0_8 t540 _ ?side1 ?side2 A58.out).mono ?_); (case side1 => repeat (first | exact (Kd.C_below HR0_7.out HB.out) | (with_reducible refine Kd.C_alloc ?_ _) | (with_reducible refine Kd.C_drewN ?_ _) | (with_reducible refine Kd.C_drew ?_))); (case side2 => exact HC0_7.out); rintro e w60 ⟨rfl, hb⟩; have n0_ := am (blk_below (g := gb533) (o := .cells #[.int .u64 a0_0, .int .i64 a0_1, .int .i64 a0_2, .int .i64 a0_3, .int .i64 a0_4, .int .u64 a0_5, .int .i64 a0_6, .slice A0_7 l0_7.length c0_7, .int .i64 a0_8] 27 (0, 0)) (pk BK533.out) hb); have n1_ := am (below_step (pb HB.out) hb); clear BK533; clear HB; have BK533 := n0_; have HB := n1_; clear n0_ n1_; (try clear hb); (try clear hb2); (try clear hk); (try clear hi))))
             go_meet
             case rel => exact ⟨_, (decide ((l0_7.length : Int) > t540)), (by first | rfl | (simp; done) | (simp [*]; done)), H', ⟨by have := HJ1.out; have := HJ9.out; first | omega | exact Nat.le_refl _⟩, ⟨by (with_reducible repeat (first | apply bN | apply bD | apply bA)); exact BK533.out⟩, ⟨pb HB.out⟩⟩
           ·
            rw [if_neg c55] at H; have c55b0 : (a0_6 == 4) = false := beq_eq_false_iff_ne.mpr c55; have c55b1 : (a0_6 != 4) = true := bne_iff_ne.mpr c55; replace H := Option.bind_eq_some_iff.mp H; obtain ⟨t541, A610, H⟩ := H; replace H : (headgateref35_Check.j2 kj9 (l0_7.length : Int) (decide ((l0_7.length : Int) > t541)) a0_0 a0_1 a0_2 a0_3 a0_4 a0_5 a0_6 l0_7 a0_8) = some r := H; have A61 := am A610; clear A610; have H' := am H; clear H; have hcz62_6 : wc.cell? ⟨gb533, 6, none⟩ = some (.int .i64 a0_6) := (blk_cell BK533.out 6).trans rfl
            go_wp2_with (first | ((with_reducible refine gate_dst (N := 64) rfl ?_); (try (refine gate_guard (by rfl) ?_; dsimp only)); refine load_whole ?hg (N := 64) ?hd (t := 27) (p := ?lp_64) ?ho (pk BK533.out) ?hp _ Try.underlying27 rfl ?hi ?_; (case hg => rfl); (case hd => rfl); (case ho => rfl); (case hp => first | (go_simp; done) | (go_simp; rfl)); (case hi => kernel_rfl)) | (go_at_call 40; (with_reducible refine (headgateref35_room.calls a0_0 a0_1 a0_2 a0_3 a0_4 a0_5 a0_6 _ _ l0_7 a0_8 t541 _ ?side1 ?side2 A61.out).mono ?_); (case side1 => repeat (first | exact (Kd.C_below HR0_7.out HB.out) | (with_reducible refine Kd.C_alloc ?_ _) | (with_reducible refine Kd.C_drewN ?_ _) | (with_reducible refine Kd.C_drew ?_))); (case side2 => exact HC0_7.out); rintro e w63 ⟨rfl, hb⟩; have n0_ := am (blk_below (g := gb533) (o := .cells #[.int .u64 a0_0, .int .i64 a0_1, .int .i64 a0_2, .int .i64 a0_3, .int .i64 a0_4, .int .u64 a0_5, .int .i64 a0_6, .slice A0_7 l0_7.length c0_7, .int .i64 a0_8] 27 (0, 0)) (pk BK533.out) hb); have n1_ := am (below_step (pb HB.out) hb); clear BK533; clear HB; have BK533 := n0_; have HB := n1_; clear n0_ n1_; (try clear hb); (try clear hb2); (try clear hk); (try clear hi)))
            repeat (go_quiet (first | ((with_reducible refine gate_dst (N := 64) rfl ?_); (try (refine gate_guard (by rfl) ?_; dsimp only)); refine load_whole ?hg (N := 64) ?hd (t := 27) (p := ?lp_64) ?ho (pk BK533.out) ?hp _ Try.underlying27 rfl ?hi ?_; (case hg => rfl); (case hd => rfl); (case ho => rfl); (case hp => first | (go_simp; done) | (go_simp; rfl)); (case hi => kernel_rfl)) | (go_at_call 40; (with_reducible refine (headgateref35_room.calls a0_0 a0_1 a0_2 a0_3 a0_4 a0_5 a0_6 _ _ l0_7 a0_8 t541 _ ?side1 ?side2 A61.out).mono ?_); (case side1 => repeat (first | exact (Kd.C_below HR0_7.out HB.out) | (with_reducible refine Kd.C_alloc ?_ _) | (with_reducible refine Kd.C_drewN ?_ _) | (with_reducible refine Kd.C_drew ?_))); (case side2 => exact HC0_7.out); rintro e w63 ⟨rfl, hb⟩; have n0_ := am (blk_below (g := gb533) (o := .cells #[.int .u64 a0_0, .int .i64 a0_1, .int .i64 a0_2, .int .i64 a0_3, .int .i64 a0_4, .int .u64 a0_5, .int .i64 a0_6, .slice A0_7 l0_7.length c0_7, .int .i64 a0_8] 27 (0, 0)) (pk BK533.out) hb); have n1_ := am (below_step (pb HB.out) hb); clear BK533; clear HB; have BK533 := n0_; have HB := n1_; clear n0_ n1_; (try clear hb); (try clear hb2); (try clear hk); (try clear hi))); try go_wp2_with (first | ((with_reducible refine gate_dst (N := 64) rfl ?_); (try (refine gate_guard (by rfl) ?_; dsimp only)); refine load_whole ?hg (N := 64) ?hd (t := 27) (p := ?lp_64) ?ho (pk BK533.out) ?hp _ Try.underlying27 rfl ?hi ?_; (case hg => rfl); (case hd => rfl); (case ho => rfl); (case hp => first | (go_simp; done) | (go_simp; rfl)); (case hi => kernel_rfl)) | (go_at_call 40; (with_reducible refine (headgateref35_room.calls a0_0 a0_1 a0_2 a0_3 a0_4 a0_5 a0_6 _ _ l0_7 a0_8 t541 _ ?side1 ?side2 A61.out).mono ?_); (case side1 => repeat (first | exact (Kd.C_below HR0_7.out HB.out) | (with_reducible refine Kd.C_alloc ?_ _) | (with_reducible refine Kd.C_drewN ?_ _) | (with_reducible refine Kd.C_drew ?_))); (case side2 => exact HC0_7.out); rintro e w63 ⟨rfl, hb⟩; have n0_ := am (blk_below (g := gb533) (o := .cells #[.int .u64 a0_0, .int .i64 a0_1, .int .i64 a0_2, .int .i64 a0_3, .int .i64 a0_4, .int .u64 a0_5, .int .i64 a0_6, .slice A0_7 l0_7.length c0_7, .int .i64 a0_8] 27 (0, 0)) (pk BK533.out) hb); have n1_ := am (below_step (pb HB.out) hb); clear BK533; clear HB; have BK533 := n0_; have HB := n1_; clear n0_ n1_; (try clear hb); (try clear hb2); (try clear hk); (try clear hi))))
            go_meet
            case rel => exact ⟨_, (decide ((l0_7.length : Int) > t541)), (by first | rfl | (simp; done) | (simp [*]; done)), H', ⟨by have := HJ1.out; have := HJ9.out; first | omega | exact Nat.le_refl _⟩, ⟨by (with_reducible repeat (first | apply bN | apply bD | apply bA)); exact BK533.out⟩, ⟨pb HB.out⟩⟩
        case rest =>
         clear HC29; (try clear c1); (try clear c2); (try clear p2); (try clear c3); (try clear c4); (try clear c4b0); (try clear c5); (try clear c7); (try clear c9); (try clear c9b0); (try clear c9b1); (try clear c17); (try clear c17b0); (try clear c19); (try clear c19b0); (try clear c22); (try clear c28); (try clear c31); (try clear c31b0); (try clear c31b1); (try clear c32); (try clear c32b0); (try clear c32b1); (try clear c34); (try clear c34b0); (try clear c34b1); (try clear c35); (try clear c35b0); (try clear c35b1); (try clear c35b2); (try clear c39); (try clear c40); (try clear c40b0); (try clear c40b1); (try clear c41); (try clear c41b0); (try clear c41b1); (try clear c41b2); (try clear c49); (try clear c49b0); (try clear c49b1); (try clear c50); (try clear c50b0); (try clear c50b1); (try clear c50b2); (try clear c55); (try clear c55b0); (try clear c55b1); (try clear c56); (try clear c56b0); (try clear c56b1); (try clear c56b2); (try clear hcz11_1); (try clear hcz12_2); (try clear hcz13_3); (try clear hcz14_4); (try clear hcz15_5); (try clear hcz18_6); (try clear hcz20_6); (try clear hcz23_6); (try clear hcz25_6); (try clear hcz27_6); (try clear hcz30_7); (try clear hcz33_6); (try clear hcz36_6); (try clear hcz38_6); (try clear hcz42_6); (try clear hcz44_6); (try clear hcz47_6); (try clear hcz51_6); (try clear hcz53_6); (try clear hcz57_6); (try clear hcz59_6); (try clear hcz5_0); (try clear hcz62_6); (try clear hcz6_0); (try clear p2); obtain ⟨kq, x67_28, rfl, HA, HJ28, BK533, HB⟩ := hcut
         cases kq with
         | zero => exact absurd HA.out (by simp [headgateref35_Check.j2])
         | succ kj28 =>
          have H := HA.out; clear HA; simp only [headgateref35_Check.j2] at H
          by_cases c64 : x67_28 = true
          ·
           subst c64; have H1 : (some 5) = some r := by rw [if_pos rfl] at H; exact H
           clear H; have H := H1; clear H1; obtain rfl := Option.some.inj H
           go_wp2
           repeat (go_quiet (fail); try go_wp2)
           go_ret
           exact ⟨by first | rfl | (simp [errW_none, errW_some] <;> rfl) | (simp [*, errW_none, errW_some] <;> rfl), pb HB.out⟩
          ·
           replace c64 := Bool.eq_false_iff.mpr c64; subst c64; have H1 : (headgateref35_Check.l0 kj28 (l0_7.length : Int) 0 a0_0 a0_1 a0_2 a0_3 a0_4 a0_5 a0_6 l0_7 a0_8) = some r := by rw [if_neg (show ¬ (false = true) by decide)] at H; exact H
           clear H; have H := H1; clear H1; have H' := am H; clear H
           go_wp2
           repeat (go_quiet (fail); try go_wp2)
           go_loopg [5] kj28 (fun kq v5 w' => ∃ (x5_4 : Int), v5 = .int .i64 x5_4 ∧ Aside0 (headgateref35_Check.l0 kq (l0_7.length : Int) x5_4 a0_0 a0_1 a0_2 a0_3 a0_4 a0_5 a0_6 l0_7 a0_8 = some r) ∧ Aside0 (kq ≤ kj28) ∧ Aside0 (w'.heap[gb533]? = some (.cells #[.int .u64 a0_0, .int .i64 a0_1, .int .i64 a0_2, .int .i64 a0_3, .int .i64 a0_4, .int .u64 a0_5, .int .i64 a0_6, (.slice A0_7 l0_7.length c0_7), .int .i64 a0_8] 27 (0, 0))) ∧ Aside0 (Below w.heap.size w w'))
           case atStart => exact ⟨(0), (by first | rfl | (simp; done) | (simp [*]; done)), H', ⟨Nat.le_refl _⟩, ⟨by (with_reducible repeat (first | apply bN | apply bD | apply bA)); exact BK533.out⟩, ⟨pb HB.out⟩⟩
           case round =>
            clear H'; (try clear c1); (try clear c2); (try clear p2); (try clear c3); (try clear c4); (try clear c4b0); (try clear c5); (try clear c6); (try clear c7); (try clear c9); (try clear c9b0); (try clear c9b1); (try clear c17); (try clear c17b0); (try clear c19); (try clear c19b0); (try clear c22); (try clear c28); (try clear c31); (try clear c31b0); (try clear c31b1); (try clear c32); (try clear c32b0); (try clear c32b1); (try clear c34); (try clear c34b0); (try clear c34b1); (try clear c35); (try clear c35b0); (try clear c35b1); (try clear c35b2); (try clear c39); (try clear c40); (try clear c40b0); (try clear c40b1); (try clear c41); (try clear c41b0); (try clear c41b1); (try clear c41b2); (try clear c49); (try clear c49b0); (try clear c49b1); (try clear c50); (try clear c50b0); (try clear c50b1); (try clear c50b2); (try clear c55); (try clear c55b0); (try clear c55b1); (try clear c56); (try clear c56b0); (try clear c56b1); (try clear c56b2); (try clear c64); (try clear hcz11_1); (try clear hcz12_2); (try clear hcz13_3); (try clear hcz14_4); (try clear hcz15_5); (try clear hcz18_6); (try clear hcz20_6); (try clear hcz23_6); (try clear hcz25_6); (try clear hcz27_6); (try clear hcz30_7); (try clear hcz33_6); (try clear hcz36_6); (try clear hcz38_6); (try clear hcz42_6); (try clear hcz44_6); (try clear hcz47_6); (try clear hcz51_6); (try clear hcz53_6); (try clear hcz57_6); (try clear hcz59_6); (try clear hcz5_0); (try clear hcz62_6); (try clear hcz6_0); (try clear p2); obtain ⟨x5_4, rfl, HA, HK4, BK533, HB⟩ := hrel
            cases gk with
            | zero => exact absurd HA.out (by simp [headgateref35_Check.l0])
            | succ k4 =>
             have H := HA.out; clear HA; simp only [headgateref35_Check.l0] at H
             by_cases c65 : x5_4 < (l0_7.length : Int)
             ·
              rw [if_pos c65] at H; have c65b0 : decide (x5_4 < (l0_7.length : Int)) = true := decide_eq_true c65; clear c65; have HC66 := am H; clear H
              go_upto_region 14 with (fail)
              repeat (go_quiet (fail); go_upto_region 14 with (fail))
              go_cut [86] (fun v86 wc => ∃ (kq : Nat) (x86_65 : Bool), v86 = .bool x86_65 ∧ Aside0 (headgateref35_Check.j4 kq (l0_7.length : Int) x5_4 x86_65 a0_0 a0_1 a0_2 a0_3 a0_4 a0_5 a0_6 l0_7 a0_8 = some r) ∧ Aside0 (kq ≤ k4) ∧ Aside0 (wc.heap[gb533]? = some (.cells #[.int .u64 a0_0, .int .i64 a0_1, .int .i64 a0_2, .int .i64 a0_3, .int .i64 a0_4, .int .u64 a0_5, .int .i64 a0_6, (.slice A0_7 l0_7.length c0_7), .int .i64 a0_8] 27 (0, 0))) ∧ Aside0 (Below w.heap.size w wc))
              case first =>
               have H := HC66.out; clear HC66
               by_cases c67 : 0 ≤ x5_4
               ·
                rw [if_pos c67] at H; have c67b0 : decide (0 ≤ x5_4) = true := decide_eq_true c67; clear c67; (first | rw [c67b0] | (simp only [i64_w, i32_w]; rw [c67b0]) | skip)
                by_cases c68 : x5_4 < (l0_7.length : Int)
                ·
                 rw [if_pos c68] at H; have c68b0 : decide (x5_4 < (l0_7.length : Int)) = true := decide_eq_true c68; clear c68
                 by_cases c69 : (rd l0_7 x5_4) < 0
                 ·
                  rw [if_pos c69] at H; have c69b0 : decide ((rd l0_7 x5_4) < 0) = true := decide_eq_true c69; clear c69; have H' := am H; clear H; have hcz70_7 : wr.cell? ⟨gb533, 7, none⟩ = some (.slice A0_7 l0_7.length c0_7) := (blk_cell BK533.out 7).trans rfl; have p542 : 0 ≤ (x5_4 : Int) := of_decide_eq_true (by first | (with_reducible assumption) | assumption); have q542 : x5_4 < (l0_7.length : Int) := of_decide_eq_true (by first | (with_reducible assumption) | assumption); obtain ⟨ad542, e542, hx542_0⟩ := Kd.at_int HR0_7.out x5_4 p542 q542; cases e542; replace hx542_0 := (HB.out.cell (World.block_lt_of_cell? w _ hx542_0)).trans hx542_0; replace p542 := eq_true p542; replace q542 := eq_true q542
                  go_wp2
                  repeat (go_quiet (fail); try go_wp2)
                  go_meet
                  case rel => exact ⟨_, (true), (by first | rfl | (simp; done) | (simp [*]; done)), H', ⟨by have := HJ1.out; have := HJ9.out; have := HJ28.out; have := HK4.out; first | omega | exact Nat.le_refl _⟩, ⟨by (with_reducible repeat (first | apply bN | apply bD | apply bA)); exact BK533.out⟩, ⟨pb HB.out⟩⟩
                 ·
                  rw [if_neg c69] at H; have c69b0 : decide ((rd l0_7 x5_4) < 0) = false := decide_eq_false c69; clear c69; have H' := am H; clear H; have hcz71_7 : wr.cell? ⟨gb533, 7, none⟩ = some (.slice A0_7 l0_7.length c0_7) := (blk_cell BK533.out 7).trans rfl; have p542 : 0 ≤ (x5_4 : Int) := of_decide_eq_true (by first | (with_reducible assumption) | assumption); have q542 : x5_4 < (l0_7.length : Int) := of_decide_eq_true (by first | (with_reducible assumption) | assumption); obtain ⟨ad542, e542, hx542_0⟩ := Kd.at_int HR0_7.out x5_4 p542 q542; cases e542; replace hx542_0 := (HB.out.cell (World.block_lt_of_cell? w _ hx542_0)).trans hx542_0; replace p542 := eq_true p542; replace q542 := eq_true q542; have p543 : 0 ≤ (x5_4 : Int) := of_decide_eq_true (by first | (with_reducible assumption) | assumption); have q543 : x5_4 < (l0_7.length : Int) := of_decide_eq_true (by first | (with_reducible assumption) | assumption); obtain ⟨ad543, e543, hx543_0⟩ := Kd.at_int HR0_7.out x5_4 p543 q543; obtain rfl : ad542 = ad543 := (by injection e543); replace hx543_0 := (HB.out.cell (World.block_lt_of_cell? w _ hx543_0)).trans hx543_0; replace p543 := eq_true p543; replace q543 := eq_true q543
                  go_wp2
                  repeat (go_quiet (fail); try go_wp2)
                  go_meet
                  case rel => exact ⟨_, (decide ((rd l0_7 x5_4) ≥ 256)), (by first | rfl | (simp; done) | (simp [*]; done)), H', ⟨by have := HJ1.out; have := HJ9.out; have := HJ28.out; have := HK4.out; first | omega | exact Nat.le_refl _⟩, ⟨by (with_reducible repeat (first | apply bN | apply bD | apply bA)); exact BK533.out⟩, ⟨pb HB.out⟩⟩
                ·
                 rw [if_neg c68] at H; exact absurd H (by simp)
               ·
                rw [if_neg c67] at H; exact absurd H (by simp)
              case rest =>
               clear HC66; (try clear c1); (try clear c2); (try clear p2); (try clear c3); (try clear c4); (try clear c4b0); (try clear c5); (try clear p5); (try clear q5); (try clear hx5); (try clear c6); (try clear c7); (try clear c9); (try clear c9b0); (try clear c9b1); (try clear c17); (try clear c17b0); (try clear c19); (try clear c19b0); (try clear c22); (try clear c28); (try clear c31); (try clear c31b0); (try clear c31b1); (try clear c32); (try clear c32b0); (try clear c32b1); (try clear c34); (try clear c34b0); (try clear c34b1); (try clear c35); (try clear c35b0); (try clear c35b1); (try clear c35b2); (try clear c39); (try clear c40); (try clear c40b0); (try clear c40b1); (try clear c41); (try clear c41b0); (try clear c41b1); (try clear c41b2); (try clear c49); (try clear c49b0); (try clear c49b1); (try clear c50); (try clear c50b0); (try clear c50b1); (try clear c50b2); (try clear p54); (try clear q54); (try clear hx54); (try clear c55); (try clear c55b0); (try clear c55b1); (try clear c56); (try clear c56b0); (try clear c56b1); (try clear c56b2); (try clear c64); (try clear c65); (try clear c65b0); (try clear c67); (try clear c67b0); (try clear c68); (try clear c68b0); (try clear c69); (try clear c69b0); (try clear hcz11_1); (try clear hcz12_2); (try clear hcz13_3); (try clear hcz14_4); (try clear hcz15_5); (try clear hcz18_6); (try clear hcz20_6); (try clear hcz23_6); (try clear hcz25_6); (try clear hcz27_6); (try clear hcz30_7); (try clear hcz33_6); (try clear hcz36_6); (try clear hcz38_6); (try clear hcz42_6); (try clear hcz44_6); (try clear hcz47_6); (try clear hcz51_6); (try clear hcz53_6); (try clear hcz57_6); (try clear hcz59_6); (try clear hcz5_0); (try clear hcz62_6); (try clear hcz6_0); (try clear hcz70_7); (try clear hcz71_7); (try clear hx542_0); (try clear hx543_0); (try clear p2); (try clear p542); (try clear p543); (try clear q542); (try clear q543); obtain ⟨kq, x86_65, rfl, HA, HJ65, BK533, HB⟩ := hcut
               cases kq with
               | zero => exact absurd HA.out (by simp [headgateref35_Check.j4])
               | succ kj65 =>
                have H := HA.out; clear HA; simp only [headgateref35_Check.j4] at H
                by_cases c72 : x86_65 = true
                ·
                 subst c72; have H1 : (some 2) = some r := by rw [if_pos rfl] at H; exact H
                 clear H; have H := H1; clear H1; obtain rfl := Option.some.inj H
                 go_wp2
                 repeat (go_quiet (fail); try go_wp2)
                 go_ret
                 exact ⟨by first | rfl | (simp [errW_none, errW_some] <;> rfl) | (simp [*, errW_none, errW_some] <;> rfl), pb HB.out⟩
                ·
                 replace c72 := Bool.eq_false_iff.mpr c72; subst c72; have H1 : (if 0 ≤ x5_4 then (if x5_4 ≤ (l0_7.length : Int) then (if x5_4 < (l0_7.length : Int) then ((headgateref35_has.f kj65 (l0_7.take (x5_4 : Int).toNat) (rd l0_7 x5_4)).bind fun t546 => (if t546 = true then (some 7) else (headgateref35_Check.l0 kj65 (l0_7.length : Int) (wrap64 (x5_4 + 1)) a0_0 a0_1 a0_2 a0_3 a0_4 a0_5 a0_6 l0_7 a0_8))) else (none)) else (none)) else (none)) = some r := by rw [if_neg (show ¬ (false = true) by decide)] at H; exact H
                 clear H; have H := H1; clear H1
                 by_cases c73 : 0 ≤ x5_4
                 ·
                  rw [if_pos c73] at H; have c73b0 := eq_true c73; have c73b1 : decide (0 ≤ x5_4) = true := decide_eq_true c73; clear c73
                  by_cases c74 : x5_4 ≤ (l0_7.length : Int)
                  ·
                   rw [if_pos c74] at H; have c74b0 := eq_true c74; have c74b1 : decide (x5_4 ≤ (l0_7.length : Int)) = true := decide_eq_true c74; clear c74
                   by_cases c75 : x5_4 < (l0_7.length : Int)
                   ·
                    rw [if_pos c75] at H; have c75b0 : decide (x5_4 < (l0_7.length : Int)) = true := decide_eq_true c75; clear c75; replace H := Option.bind_eq_some_iff.mp H; obtain ⟨t546, A760, H⟩ := H; replace H : (if t546 = true then (some 7) else (headgateref35_Check.l0 kj65 (l0_7.length : Int) (wrap64 (x5_4 + 1)) a0_0 a0_1 a0_2 a0_3 a0_4 a0_5 a0_6 l0_7 a0_8)) = some r := H; have A76 := am A760; clear A760
                    by_cases c77 : t546 = true
                    ·
                     subst c77; have H1 : (some 7) = some r := by rw [if_pos rfl] at H; exact H
                     clear H; have H := H1; clear H1; obtain rfl := Option.some.inj H; have hcz78_7 : wc.cell? ⟨gb533, 7, none⟩ = some (.slice A0_7 l0_7.length c0_7) := (blk_cell BK533.out 7).trans rfl; obtain ⟨i079, hi079, _, hsz79, _⟩ := info_parts info3; obtain ⟨hcut79, hA79, hC79⟩ := print_take_of (P := Try.prog) (Value.int .i64) 0 25 3 .i64 Try.underlying25 hi079 hsz79 A0_7 c0_7 l0_7 x5_4 (of_decide_eq_true (by first | (with_reducible assumption) | assumption)) (of_decide_eq_true (by first | (with_reducible assumption) | assumption)) HC0_7.out; have HR544 := am (Kd.C_of_reads (h1 := fun _ => rfl) (hA79 _ (Kd.reads_of_C HR0_7.out))); have HC544 := am hC79; clear hA79 hC79 hi079 hsz79; have p545 : 0 ≤ (x5_4 : Int) := of_decide_eq_true (by first | (with_reducible assumption) | assumption); have q545 : x5_4 < (l0_7.length : Int) := of_decide_eq_true (by first | (with_reducible assumption) | assumption); obtain ⟨ad545, e545, hx545_0⟩ := Kd.at_int HR0_7.out x5_4 p545 q545; cases e545; replace hx545_0 := (HB.out.cell (World.block_lt_of_cell? w _ hx545_0)).trans hx545_0; replace p545 := eq_true p545; replace q545 := eq_true q545
                     go_wp2_with (first | (go_at_call 41; refine calls_of_args (args' := #[.slice _ (l0_7.take (x5_4 : Int).toNat).length c0_7, .int .i64 (rd l0_7 x5_4)]) (by rw [List.length_take, Nat.min_eq_left (by have q_ := of_eq_true (show (x5_4 < (l0_7.length : Int)) = True by assumption); have p_ := of_eq_true (show (0 ≤ (x5_4 : Int)) = True by assumption); omega)]) ?_; (with_reducible refine (headgateref35_has.calls kj65 _ _ (l0_7.take (x5_4 : Int).toNat) (rd l0_7 x5_4) true _ ?side1 ?side2 A76.out).mono ?_); (case side1 => repeat (first | exact (Kd.C_below HR544.out HB.out) | (with_reducible refine Kd.C_alloc ?_ _) | (with_reducible refine Kd.C_drewN ?_ _) | (with_reducible refine Kd.C_drew ?_))); (case side2 => exact HC544.out); rintro e w' ⟨rfl, ⟨nd, rfl⟩⟩; (try first | exact ⟨rfl, _, World.drewN_drewN _ _ _⟩ | exact ⟨rfl, _, Eq.trans (World.drewN_drewN _ _ _) (congrArg (World.drewN _) (Nat.add_assoc _ _ _))⟩)))
                     repeat (go_quiet (first | (go_at_call 41; refine calls_of_args (args' := #[.slice _ (l0_7.take (x5_4 : Int).toNat).length c0_7, .int .i64 (rd l0_7 x5_4)]) (by rw [List.length_take, Nat.min_eq_left (by have q_ := of_eq_true (show (x5_4 < (l0_7.length : Int)) = True by assumption); have p_ := of_eq_true (show (0 ≤ (x5_4 : Int)) = True by assumption); omega)]) ?_; (with_reducible refine (headgateref35_has.calls kj65 _ _ (l0_7.take (x5_4 : Int).toNat) (rd l0_7 x5_4) true _ ?side1 ?side2 A76.out).mono ?_); (case side1 => repeat (first | exact (Kd.C_below HR544.out HB.out) | (with_reducible refine Kd.C_alloc ?_ _) | (with_reducible refine Kd.C_drewN ?_ _) | (with_reducible refine Kd.C_drew ?_))); (case side2 => exact HC544.out); rintro e w' ⟨rfl, ⟨nd, rfl⟩⟩; (try first | exact ⟨rfl, _, World.drewN_drewN _ _ _⟩ | exact ⟨rfl, _, Eq.trans (World.drewN_drewN _ _ _) (congrArg (World.drewN _) (Nat.add_assoc _ _ _))⟩))); try go_wp2_with (first | (go_at_call 41; refine calls_of_args (args' := #[.slice _ (l0_7.take (x5_4 : Int).toNat).length c0_7, .int .i64 (rd l0_7 x5_4)]) (by rw [List.length_take, Nat.min_eq_left (by have q_ := of_eq_true (show (x5_4 < (l0_7.length : Int)) = True by assumption); have p_ := of_eq_true (show (0 ≤ (x5_4 : Int)) = True by assumption); omega)]) ?_; (with_reducible refine (headgateref35_has.calls kj65 _ _ (l0_7.take (x5_4 : Int).toNat) (rd l0_7 x5_4) true _ ?side1 ?side2 A76.out).mono ?_); (case side1 => repeat (first | exact (Kd.C_below HR544.out HB.out) | (with_reducible refine Kd.C_alloc ?_ _) | (with_reducible refine Kd.C_drewN ?_ _) | (with_reducible refine Kd.C_drew ?_))); (case side2 => exact HC544.out); rintro e w' ⟨rfl, ⟨nd, rfl⟩⟩; (try first | exact ⟨rfl, _, World.drewN_drewN _ _ _⟩ | exact ⟨rfl, _, Eq.trans (World.drewN_drewN _ _ _) (congrArg (World.drewN _) (Nat.add_assoc _ _ _))⟩))))
                     go_ret
                     exact ⟨by first | rfl | (simp [errW_none, errW_some] <;> rfl) | (simp [*, errW_none, errW_some] <;> rfl), pb HB.out⟩
                    ·
                     replace c77 := Bool.eq_false_iff.mpr c77; subst c77; have H1 : (headgateref35_Check.l0 kj65 (l0_7.length : Int) (wrap64 (x5_4 + 1)) a0_0 a0_1 a0_2 a0_3 a0_4 a0_5 a0_6 l0_7 a0_8) = some r := by rw [if_neg (show ¬ (false = true) by decide)] at H; exact H
                     clear H; have H := H1; clear H1; have H' := am H; clear H; have hcz80_7 : wc.cell? ⟨gb533, 7, none⟩ = some (.slice A0_7 l0_7.length c0_7) := (blk_cell BK533.out 7).trans rfl; obtain ⟨i081, hi081, _, hsz81, _⟩ := info_parts info3; obtain ⟨hcut81, hA81, hC81⟩ := print_take_of (P := Try.prog) (Value.int .i64) 0 25 3 .i64 Try.underlying25 hi081 hsz81 A0_7 c0_7 l0_7 x5_4 (of_decide_eq_true (by first | (with_reducible assumption) | assumption)) (of_decide_eq_true (by first | (with_reducible assumption) | assumption)) HC0_7.out; have HR544 := am (Kd.C_of_reads (h1 := fun _ => rfl) (hA81 _ (Kd.reads_of_C HR0_7.out))); have HC544 := am hC81; clear hA81 hC81 hi081 hsz81; have p545 : 0 ≤ (x5_4 : Int) := of_decide_eq_true (by first | (with_reducible assumption) | assumption); have q545 : x5_4 < (l0_7.length : Int) := of_decide_eq_true (by first | (with_reducible assumption) | assumption); obtain ⟨ad545, e545, hx545_0⟩ := Kd.at_int HR0_7.out x5_4 p545 q545; cases e545; replace hx545_0 := (HB.out.cell (World.block_lt_of_cell? w _ hx545_0)).trans hx545_0; replace p545 := eq_true p545; replace q545 := eq_true q545
                     go_wp2_with (first | (go_at_call 41; refine calls_of_args (args' := #[.slice _ (l0_7.take (x5_4 : Int).toNat).length c0_7, .int .i64 (rd l0_7 x5_4)]) (by rw [List.length_take, Nat.min_eq_left (by have q_ := of_eq_true (show (x5_4 < (l0_7.length : Int)) = True by assumption); have p_ := of_eq_true (show (0 ≤ (x5_4 : Int)) = True by assumption); omega)]) ?_; (with_reducible refine (headgateref35_has.calls kj65 _ _ (l0_7.take (x5_4 : Int).toNat) (rd l0_7 x5_4) false _ ?side1 ?side2 A76.out).mono ?_); (case side1 => repeat (first | exact (Kd.C_below HR544.out HB.out) | (with_reducible refine Kd.C_alloc ?_ _) | (with_reducible refine Kd.C_drewN ?_ _) | (with_reducible refine Kd.C_drew ?_))); (case side2 => exact HC544.out); rintro e w' ⟨rfl, ⟨nd, rfl⟩⟩; (try first | exact ⟨rfl, _, World.drewN_drewN _ _ _⟩ | exact ⟨rfl, _, Eq.trans (World.drewN_drewN _ _ _) (congrArg (World.drewN _) (Nat.add_assoc _ _ _))⟩)))
                     repeat (go_quiet (first | (go_at_call 41; refine calls_of_args (args' := #[.slice _ (l0_7.take (x5_4 : Int).toNat).length c0_7, .int .i64 (rd l0_7 x5_4)]) (by rw [List.length_take, Nat.min_eq_left (by have q_ := of_eq_true (show (x5_4 < (l0_7.length : Int)) = True by assumption); have p_ := of_eq_true (show (0 ≤ (x5_4 : Int)) = True by assumption); omega)]) ?_; (with_reducible refine (headgateref35_has.calls kj65 _ _ (l0_7.take (x5_4 : Int).toNat) (rd l0_7 x5_4) false _ ?side1 ?side2 A76.out).mono ?_); (case side1 => repeat (first | exact (Kd.C_below HR544.out HB.out) | (with_reducible refine Kd.C_alloc ?_ _) | (with_reducible refine Kd.C_drewN ?_ _) | (with_reducible refine Kd.C_drew ?_))); (case side2 => exact HC544.out); rintro e w' ⟨rfl, ⟨nd, rfl⟩⟩; (try first | exact ⟨rfl, _, World.drewN_drewN _ _ _⟩ | exact ⟨rfl, _, Eq.trans (World.drewN_drewN _ _ _) (congrArg (World.drewN _) (Nat.add_assoc _ _ _))⟩))); try go_wp2_with (first | (go_at_call 41; refine calls_of_args (args' := #[.slice _ (l0_7.take (x5_4 : Int).toNat).length c0_7, .int .i64 (rd l0_7 x5_4)]) (by rw [List.length_take, Nat.min_eq_left (by have q_ := of_eq_true (show (x5_4 < (l0_7.length : Int)) = True by assumption); have p_ := of_eq_true (show (0 ≤ (x5_4 : Int)) = True by assumption); omega)]) ?_; (with_reducible refine (headgateref35_has.calls kj65 _ _ (l0_7.take (x5_4 : Int).toNat) (rd l0_7 x5_4) false _ ?side1 ?side2 A76.out).mono ?_); (case side1 => repeat (first | exact (Kd.C_below HR544.out HB.out) | (with_reducible refine Kd.C_alloc ?_ _) | (with_reducible refine Kd.C_drewN ?_ _) | (with_reducible refine Kd.C_drew ?_))); (case side2 => exact HC544.out); rintro e w' ⟨rfl, ⟨nd, rfl⟩⟩; (try first | exact ⟨rfl, _, World.drewN_drewN _ _ _⟩ | exact ⟨rfl, _, Eq.trans (World.drewN_drewN _ _ _) (congrArg (World.drewN _) (Nat.add_assoc _ _ _))⟩))))
                     go_roundg kj65
                     case measure => have := HJ1.out; have := HJ9.out; have := HJ28.out; have := HK4.out; have := HJ65.out; omega
                     case rel => exact ⟨(wrap64 (x5_4 + 1)), (by first | rfl | (simp; done) | (simp [*]; done)), H', ⟨by have := HJ1.out; have := HJ9.out; have := HJ28.out; have := HK4.out; have := HJ65.out; omega⟩, ⟨by (with_reducible repeat (first | apply bN | apply bD | apply bA)); exact BK533.out⟩, ⟨pb HB.out⟩⟩
                   ·
                    rw [if_neg c75] at H; exact absurd H (by simp)
                  ·
                   rw [if_neg c74] at H; exact absurd H (by simp)
                 ·
                  rw [if_neg c73] at H; exact absurd H (by simp)
             ·
              rw [if_neg c65] at H; have c65b0 : decide (x5_4 < (l0_7.length : Int)) = false := decide_eq_false c65; clear c65
              by_cases c82 : a0_8 < 0
              ·
               rw [if_pos c82] at H; have c82b0 : decide (a0_8 < 0) = true := decide_eq_true c82; clear c82; obtain rfl := Option.some.inj H; have hcz83_8 : wr.cell? ⟨gb533, 8, none⟩ = some (.int .i64 a0_8) := (blk_cell BK533.out 8).trans rfl
               go_wp2
               repeat (go_quiet (fail); try go_wp2)
               go_ret
               exact ⟨by first | rfl | (simp [errW_none, errW_some] <;> rfl) | (simp [*, errW_none, errW_some] <;> rfl), pb HB.out⟩
              ·
               rw [if_neg c82] at H; have c82b0 : decide (a0_8 < 0) = false := decide_eq_false c82; clear c82
               by_cases c84 : a0_8 ≥ 256
               ·
                rw [if_pos c84] at H; have c84b0 : decide (256 ≤ a0_8) = true := decide_eq_true c84; clear c84; obtain rfl := Option.some.inj H; have hcz85_8 : wr.cell? ⟨gb533, 8, none⟩ = some (.int .i64 a0_8) := (blk_cell BK533.out 8).trans rfl
                go_wp2
                repeat (go_quiet (fail); try go_wp2)
                go_ret
                exact ⟨by first | rfl | (simp [errW_none, errW_some] <;> rfl) | (simp [*, errW_none, errW_some] <;> rfl), pb HB.out⟩
               ·
                rw [if_neg c84] at H; have c84b0 : decide (256 ≤ a0_8) = false := decide_eq_false c84; clear c84
                by_cases c86 : a0_6 ≤ 2
                ·
                 rw [if_pos c86] at H; have c86b0 : decide (a0_6 ≤ 2) = true := decide_eq_true c86; clear c86
                 by_cases c87 : a0_8 = 0
                 ·
                  rw [if_pos c87] at H; have c87b0 : (a0_8 == 0) = true := beq_iff_eq.mpr c87; have c87b1 : (a0_8 != 0) = false := bne_eq_false_iff_eq.mpr c87; clear c87; obtain rfl := Option.some.inj H; have hcz88_8 : wr.cell? ⟨gb533, 8, none⟩ = some (.int .i64 a0_8) := (blk_cell BK533.out 8).trans rfl; have hcz89_6 : wr.cell? ⟨gb533, 6, none⟩ = some (.int .i64 a0_6) := (blk_cell BK533.out 6).trans rfl
                  go_wp2
                  repeat (go_quiet (fail); try go_wp2)
                  go_ret
                  exact ⟨by first | rfl | (simp [errW_none, errW_some] <;> rfl) | (simp [*, errW_none, errW_some] <;> rfl), pb HB.out⟩
                 ·
                  rw [if_neg c87] at H; have c87b0 : (a0_8 == 0) = false := beq_eq_false_iff_ne.mpr c87; have c87b1 : (a0_8 != 0) = true := bne_iff_ne.mpr c87; obtain rfl := Option.some.inj H; have hcz90_8 : wr.cell? ⟨gb533, 8, none⟩ = some (.int .i64 a0_8) := (blk_cell BK533.out 8).trans rfl; have hcz91_6 : wr.cell? ⟨gb533, 6, none⟩ = some (.int .i64 a0_6) := (blk_cell BK533.out 6).trans rfl
                  go_wp2
                  repeat (go_quiet (fail); try go_wp2)
                  go_ret
                  exact ⟨by first | rfl | (simp [errW_none, errW_some] <;> rfl) | (simp [*, errW_none, errW_some] <;> rfl), pb HB.out⟩
                ·
                 rw [if_neg c86] at H; have c86b0 : decide (a0_6 ≤ 2) = false := decide_eq_false c86; clear c86; obtain rfl := Option.some.inj H; have hcz92_8 : wr.cell? ⟨gb533, 8, none⟩ = some (.int .i64 a0_8) := (blk_cell BK533.out 8).trans rfl; have hcz93_6 : wr.cell? ⟨gb533, 6, none⟩ = some (.int .i64 a0_6) := (blk_cell BK533.out 6).trans rfl
                 go_wp2
                 repeat (go_quiet (fail); try go_wp2)
                 go_ret
                 exact ⟨by first | rfl | (simp [errW_none, errW_some] <;> rfl) | (simp [*, errW_none, errW_some] <;> rfl), pb HB.out⟩
    ·
     rw [if_neg c9] at H; have c9b0 : (t534 == 0) = false := beq_eq_false_iff_ne.mpr c9; have c9b1 : (t534 != 0) = true := bne_iff_ne.mpr c9; obtain rfl := Option.some.inj H; have hcz94_1 : wc.cell? ⟨gb533, 1, none⟩ = some (.int .i64 a0_1) := (blk_cell BK533.out 1).trans rfl; have hcz95_2 : wc.cell? ⟨gb533, 2, none⟩ = some (.int .i64 a0_2) := (blk_cell BK533.out 2).trans rfl; have hcz96_3 : wc.cell? ⟨gb533, 3, none⟩ = some (.int .i64 a0_3) := (blk_cell BK533.out 3).trans rfl; have hcz97_4 : wc.cell? ⟨gb533, 4, none⟩ = some (.int .i64 a0_4) := (blk_cell BK533.out 4).trans rfl; have hcz98_5 : wc.cell? ⟨gb533, 5, none⟩ = some (.int .u64 a0_5) := (blk_cell BK533.out 5).trans rfl
     go_wp2_with (first | (go_at_call 51; (with_reducible refine (headgateref35_command.calls kj1 a0_1 a0_2 a0_3 a0_4 a0_5 t534 _ A8.out).mono ?_); rintro e w99 ⟨rfl, hb⟩; have n0_ := am (blk_below (g := gb533) (o := .cells #[.int .u64 a0_0, .int .i64 a0_1, .int .i64 a0_2, .int .i64 a0_3, .int .i64 a0_4, .int .u64 a0_5, .int .i64 a0_6, .slice A0_7 l0_7.length c0_7, .int .i64 a0_8] 27 (0, 0)) (pk BK533.out) hb); have n1_ := am (below_step (pb HB.out) hb); clear BK533; clear HB; have BK533 := n0_; have HB := n1_; clear n0_ n1_; (try clear hb); (try clear hb2); (try clear hk); (try clear hi)))
     repeat (go_quiet (first | (go_at_call 51; (with_reducible refine (headgateref35_command.calls kj1 a0_1 a0_2 a0_3 a0_4 a0_5 t534 _ A8.out).mono ?_); rintro e w99 ⟨rfl, hb⟩; have n0_ := am (blk_below (g := gb533) (o := .cells #[.int .u64 a0_0, .int .i64 a0_1, .int .i64 a0_2, .int .i64 a0_3, .int .i64 a0_4, .int .u64 a0_5, .int .i64 a0_6, .slice A0_7 l0_7.length c0_7, .int .i64 a0_8] 27 (0, 0)) (pk BK533.out) hb); have n1_ := am (below_step (pb HB.out) hb); clear BK533; clear HB; have BK533 := n0_; have HB := n1_; clear n0_ n1_; (try clear hb); (try clear hb2); (try clear hk); (try clear hi))); try go_wp2_with (first | (go_at_call 51; (with_reducible refine (headgateref35_command.calls kj1 a0_1 a0_2 a0_3 a0_4 a0_5 t534 _ A8.out).mono ?_); rintro e w99 ⟨rfl, hb⟩; have n0_ := am (blk_below (g := gb533) (o := .cells #[.int .u64 a0_0, .int .i64 a0_1, .int .i64 a0_2, .int .i64 a0_3, .int .i64 a0_4, .int .u64 a0_5, .int .i64 a0_6, .slice A0_7 l0_7.length c0_7, .int .i64 a0_8] 27 (0, 0)) (pk BK533.out) hb); have n1_ := am (below_step (pb HB.out) hb); clear BK533; clear HB; have BK533 := n0_; have HB := n1_; clear n0_ n1_; (try clear hb); (try clear hb2); (try clear hk); (try clear hi))))
     go_ret
     exact ⟨by first | rfl | (simp [errW_none, errW_some] <;> rfl) | (simp [*, errW_none, errW_some] <;> rfl), pb HB.out⟩

end Go.Proofs.Ytigpacfcklcmpaa.X
