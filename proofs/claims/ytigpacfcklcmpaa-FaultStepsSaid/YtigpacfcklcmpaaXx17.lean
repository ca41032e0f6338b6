/- Of these Go functions: what each computes, and that the machine's call comes to it. Laid by a program of this session. -/
import Derived.Test.YtigpacfcklcmpaaXx0
import Derived.Test.YtigpacfcklcmpaaXx1
import Derived.Test.YtigpacfcklcmpaaXx16
import Derived.Test.YtigpacfcklcmpaaShort
namespace Go.Proofs.Ytigpacfcklcmpaa.X
open Go.RowKit Go.Proofs.YtigpacfcklcmpaaW.PrintWords Go.Proofs.YtigpacfcklcmpaaW.PrintLast Go.Proofs.YtigpacfcklcmpaaW.PrintMore
attribute [local go_sem] max2_int min2_int max_two min_two max_three min_three max_four min_four   -- for this text's walks alone
set_option linter.unusedVariables false
set_option linter.unusedSimpArgs false

attribute [local go_sem high] eqA24
/-! ### headgateref35_command: function 51 -/
mutual
def headgateref35_command.j0 : Nat → Bool → Int → Int → Int → Int → Int → Int → Int → Int → Int → Int → Option (Int)
 | 0, _, _, _, _, _, _, _, _, _, _, _ => none
 | k + 1, x6, x526000, x526001, x526002, x526003, x526004, x532000, x532001, x532002, x532003, x532004 => if x6 = true then (some 16) else (if x526001 < 1 then (headgateref35_command.j1 k true x526000 x526001 x526002 x526003 x526004 x532000 x532001 x532002 x532003 x532004) else (headgateref35_command.j1 k (decide (x526001 > 8)) x526000 x526001 x526002 x526003 x526004 x532000 x532001 x532002 x532003 x532004))
def headgateref35_command.j1 : Nat → Bool → Int → Int → Int → Int → Int → Int → Int → Int → Int → Int → Option (Int)
 | 0, _, _, _, _, _, _, _, _, _, _, _ => none
 | k + 1, x25, x526000, x526001, x526002, x526003, x526004, x532000, x532001, x532002, x532003, x532004 => if x25 = true then (some 2) else (if x526000 = 6 then (if x532002 < 1 then (headgateref35_command.j2 k true x526000 x526001 x526002 x526003 x526004 x532000 x532001 x532002 x532003 x532004) else (if x532002 > 8 then (headgateref35_command.j2 k true x526000 x526001 x526002 x526003 x526004 x532000 x532001 x532002 x532003 x532004) else (headgateref35_command.j2 k (x532002 == x526001) x526000 x526001 x526002 x526003 x526004 x532000 x532001 x532002 x532003 x532004))) else (headgateref35_command.j2 k false x526000 x526001 x526002 x526003 x526004 x532000 x532001 x532002 x532003 x532004))
def headgateref35_command.j2 : Nat → Bool → Int → Int → Int → Int → Int → Int → Int → Int → Int → Int → Option (Int)
 | 0, _, _, _, _, _, _, _, _, _, _, _ => none
 | k + 1, x34, x526000, x526001, x526002, x526003, x526004, x532000, x532001, x532002, x532003, x532004 => if x34 = true then (some 2) else (if x526000 = 6 then (headgateref35_command.j3 k false x526000 x526001 x526002 x526003 x526004 x532000 x532001 x532002 x532003 x532004) else (if x532002 < 0 then (headgateref35_command.j3 k true x526000 x526001 x526002 x526003 x526004 x532000 x532001 x532002 x532003 x532004) else (if x532002 ≥ 64 then (headgateref35_command.j3 k true x526000 x526001 x526002 x526003 x526004 x532000 x532001 x532002 x532003 x532004) else (if x532003 < 0 then (headgateref35_command.j3 k true x526000 x526001 x526002 x526003 x526004 x532000 x532001 x532002 x532003 x532004) else (headgateref35_command.j3 k (decide (x532003 ≥ 8)) x526000 x526001 x526002 x526003 x526004 x532000 x532001 x532002 x532003 x532004)))))
def headgateref35_command.j3 : Nat → Bool → Int → Int → Int → Int → Int → Int → Int → Int → Int → Int → Option (Int)
 | 0, _, _, _, _, _, _, _, _, _, _, _ => none
 | k + 1, x55, x526000, x526001, x526002, x526003, x526004, x532000, x532001, x532002, x532003, x532004 => if x55 = true then (some 2) else (if (!(x532000 == x526000) || (!(x532001 == x526001) || (!(x532002 == x526002) || (!(x532003 == x526003) || (!(x532004 == x526004)))))) = true then (some 3) else (some 0))
end
def headgateref35_command.f (k : Nat) (a0_0 : Int) (a0_1 : Int) (a0_2 : Int) (a0_3 : Int) (a0_4 : Int) : Option (Int) := (headgateref35_used.f a0_0 a0_1 a0_2 a0_3 a0_4).bind fun bt526 => (if a0_0 = 1 then (headgateref35_command.j0 k false a0_0 a0_1 a0_2 a0_3 a0_4 bt526.1 bt526.2.1 bt526.2.2.1 bt526.2.2.2.1 bt526.2.2.2.2) else (if a0_0 = 4 then (headgateref35_command.j0 k false a0_0 a0_1 a0_2 a0_3 a0_4 bt526.1 bt526.2.1 bt526.2.2.1 bt526.2.2.2.1 bt526.2.2.2.2) else (if a0_0 = 5 then (headgateref35_command.j0 k false a0_0 a0_1 a0_2 a0_3 a0_4 bt526.1 bt526.2.1 bt526.2.2.1 bt526.2.2.2.1 bt526.2.2.2.2) else (headgateref35_command.j0 k (a0_0 != 6) a0_0 a0_1 a0_2 a0_3 a0_4 bt526.1 bt526.2.1 bt526.2.2.1 bt526.2.2.2.1 bt526.2.2.2.2))))
theorem headgateref35_command.mono_l : ∀ k, (∀ y0 y1 y2 y3 y4 y5 y6 y7 y8 y9 y10, LeO (headgateref35_command.j0 k y0 y1 y2 y3 y4 y5 y6 y7 y8 y9 y10) (headgateref35_command.j0 (k + 1) y0 y1 y2 y3 y4 y5 y6 y7 y8 y9 y10)) ∧ (∀ y0 y1 y2 y3 y4 y5 y6 y7 y8 y9 y10, LeO (headgateref35_command.j1 k y0 y1 y2 y3 y4 y5 y6 y7 y8 y9 y10) (headgateref35_command.j1 (k + 1) y0 y1 y2 y3 y4 y5 y6 y7 y8 y9 y10)) ∧ (∀ y0 y1 y2 y3 y4 y5 y6 y7 y8 y9 y10, LeO (headgateref35_command.j2 k y0 y1 y2 y3 y4 y5 y6 y7 y8 y9 y10) (headgateref35_command.j2 (k + 1) y0 y1 y2 y3 y4 y5 y6 y7 y8 y9 y10)) ∧ (∀ y0 y1 y2 y3 y4 y5 y6 y7 y8 y9 y10, LeO (headgateref35_command.j3 k y0 y1 y2 y3 y4 y5 y6 y7 y8 y9 y10) (headgateref35_command.j3 (k + 1) y0 y1 y2 y3 y4 y5 y6 y7 y8 y9 y10))
 | 0 => ⟨fun _ _ _ _ _ _ _ _ _ _ _ r h => by simp [headgateref35_command.j0] at h, fun _ _ _ _ _ _ _ _ _ _ _ r h => by simp [headgateref35_command.j1] at h, fun _ _ _ _ _ _ _ _ _ _ _ r h => by simp [headgateref35_command.j2] at h, fun _ _ _ _ _ _ _ _ _ _ _ r h => by simp [headgateref35_command.j3] at h⟩
 | k + 1 => by
  obtain ⟨ih0, ih1, ih2, ih3⟩ := headgateref35_command.mono_l k; refine ⟨?_, ?_, ?_, ?_⟩
  ·
   intro y0 y1 y2 y3 y4 y5 y6 y7 y8 y9 y10
   unfold headgateref35_command.j0
   repeat' first
   | (with_reducible exact ih0 _ _ _ _ _ _ _ _ _ _ _)
   | (with_reducible exact ih1 _ _ _ _ _ _ _ _ _ _ _)
   | (with_reducible exact ih2 _ _ _ _ _ _ _ _ _ _ _)
   | (with_reducible exact ih3 _ _ _ _ _ _ _ _ _ _ _)
   | (with_reducible exact LeO.refl _)
   | (with_reducible exact LeO.none _)
   | (with_reducible refine LeO.ite ?_ ?_)
   | (with_reducible refine LeO.bind ?_ (fun _ => ?_))
   | exact ih0 _ _ _ _ _ _ _ _ _ _ _
   | exact ih1 _ _ _ _ _ _ _ _ _ _ _
   | exact ih2 _ _ _ _ _ _ _ _ _ _ _
   | exact ih3 _ _ _ _ _ _ _ _ _ _ _
   | exact LeO.none _
   | refine LeO.ite ?_ ?_
   | refine LeO.bind ?_ (fun _ => ?_)
  ·
   intro y0 y1 y2 y3 y4 y5 y6 y7 y8 y9 y10
   unfold headgateref35_command.j1
   repeat' first
   | (with_reducible exact ih0 _ _ _ _ _ _ _ _ _ _ _)
   | (with_reducible exact ih1 _ _ _ _ _ _ _ _ _ _ _)
   | (with_reducible exact ih2 _ _ _ _ _ _ _ _ _ _ _)
   | (with_reducible exact ih3 _ _ _ _ _ _ _ _ _ _ _)
   | (with_reducible exact LeO.refl _)
   | (with_reducible exact LeO.none _)
   | (with_reducible refine LeO.ite ?_ ?_)
   | (with_reducible refine LeO.bind ?_ (fun _ => ?_))
   | exact ih0 _ _ _ _ _ _ _ _ _ _ _
   | exact ih1 _ _ _ _ _ _ _ _ _ _ _
   | exact ih2 _ _ _ _ _ _ _ _ _ _ _
   | exact ih3 _ _ _ _ _ _ _ _ _ _ _
   | exact LeO.none _
   | refine LeO.ite ?_ ?_
   | refine LeO.bind ?_ (fun _ => ?_)
  ·
   intro y0 y1 y2 y3 y4 y5 y6 y7 y8 y9 y10
   unfold headgateref35_command.j2
   repeat' first
   | (with_reducible exact ih0 _ _ _ _ _ _ _ _ _ _ _)
   | (with_reducible exact ih1 _ _ _ _ _ _ _ _ _ _ _)
   | (with_reducible exact ih2 _ _ _ _ _ _ _ _ _ _ _)
   | (with_reducible exact ih3 _ _ _ _ _ _ _ _ _ _ _)
   | (with_reducible exact LeO.refl _)
   | (with_reducible exact LeO.none _)
   | (with_reducible refine LeO.ite ?_ ?_)
   | (with_reducible refine LeO.bind ?_ (fun _ => ?_))
   | exact ih0 _ _ _ _ _ _ _ _ _ _ _
   | exact ih1 _ _ _ _ _ _ _ _ _ _ _
   | exact ih2 _ _ _ _ _ _ _ _ _ _ _
   | exact ih3 _ _ _ _ _ _ _ _ _ _ _
   | exact LeO.none _
   | refine LeO.ite ?_ ?_
   | refine LeO.bind ?_ (fun _ => ?_)
  ·
   intro y0 y1 y2 y3 y4 y5 y6 y7 y8 y9 y10
   unfold headgateref35_command.j3
   repeat' first
   | (with_reducible exact ih0 _ _ _ _ _ _ _ _ _ _ _)
   | (with_reducible exact ih1 _ _ _ _ _ _ _ _ _ _ _)
   | (with_reducible exact ih2 _ _ _ _ _ _ _ _ _ _ _)
   | (with_reducible exact ih3 _ _ _ _ _ _ _ _ _ _ _)
   | (with_reducible exact LeO.refl _)
   | (with_reducible exact LeO.none _)
   | (with_reducible refine LeO.ite ?_ ?_)
   | (with_reducible refine LeO.bind ?_ (fun _ => ?_))
   | exact ih0 _ _ _ _ _ _ _ _ _ _ _
   | exact ih1 _ _ _ _ _ _ _ _ _ _ _
   | exact ih2 _ _ _ _ _ _ _ _ _ _ _
   | exact ih3 _ _ _ _ _ _ _ _ _ _ _
   | exact LeO.none _
   | refine LeO.ite ?_ ?_
   | refine LeO.bind ?_ (fun _ => ?_)
theorem headgateref35_command.mono : ∀ a0 a1 a2 a3 a4 k, LeO (headgateref35_command.f k a0 a1 a2 a3 a4) (headgateref35_command.f (k + 1) a0 a1 a2 a3 a4) := by
 intro a0 a1 a2 a3 a4 k; obtain ⟨ih0, ih1, ih2, ih3⟩ := headgateref35_command.mono_l k
 unfold headgateref35_command.f
 repeat' first
   | (with_reducible exact ih0 _ _ _ _ _ _ _ _ _ _ _)
   | (with_reducible exact ih1 _ _ _ _ _ _ _ _ _ _ _)
   | (with_reducible exact ih2 _ _ _ _ _ _ _ _ _ _ _)
   | (with_reducible exact ih3 _ _ _ _ _ _ _ _ _ _ _)
   | (with_reducible exact LeO.refl _)
   | (with_reducible exact LeO.none _)
   | (with_reducible refine LeO.ite ?_ ?_)
   | (with_reducible refine LeO.bind ?_ (fun _ => ?_))
   | exact ih0 _ _ _ _ _ _ _ _ _ _ _
   | exact ih1 _ _ _ _ _ _ _ _ _ _ _
   | exact ih2 _ _ _ _ _ _ _ _ _ _ _
   | exact ih3 _ _ _ _ _ _ _ _ _ _ _
   | exact LeO.none _
   | refine LeO.ite ?_ ?_
   | refine LeO.bind ?_ (fun _ => ?_)
set_option maxHeartbeats 8000000 in
set_option maxRecDepth 100000 in
theorem headgateref35_command.calls (k : Nat) (a0_0 : Int) (a0_1 : Int) (a0_2 : Int) (a0_3 : Int) (a0_4 : Int) (r : Int) (w : World) (h : headgateref35_command.f k a0_0 a0_1 a0_2 a0_3 a0_4 = some r) :
  Calls Try.prog 51 #[.agg #[.int .i64 a0_0, .int .i64 a0_1, .int .i64 a0_2, .int .i64 a0_3, .int .u64 a0_4]] w fun e w' => e = .returned (.int .i64 r) ∧ Below w.heap.size w w' := by
 have hu24 := Try.underlying24; have HB := am (Below.refl w.heap.size w); have H : ((headgateref35_used.f a0_0 a0_1 a0_2 a0_3 a0_4).bind fun bt526 => (if a0_0 = 1 then (headgateref35_command.j0 k false a0_0 a0_1 a0_2 a0_3 a0_4 bt526.1 bt526.2.1 bt526.2.2.1 bt526.2.2.2.1 bt526.2.2.2.2) else (if a0_0 = 4 then (headgateref35_command.j0 k false a0_0 a0_1 a0_2 a0_3 a0_4 bt526.1 bt526.2.1 bt526.2.2.1 bt526.2.2.2.1 bt526.2.2.2.2) else (if a0_0 = 5 then (headgateref35_command.j0 k false a0_0 a0_1 a0_2 a0_3 a0_4 bt526.1 bt526.2.1 bt526.2.2.1 bt526.2.2.2.1 bt526.2.2.2.2) else (headgateref35_command.j0 k (a0_0 != 6) a0_0 a0_1 a0_2 a0_3 a0_4 bt526.1 bt526.2.1 bt526.2.2.1 bt526.2.2.2.1 bt526.2.2.2.2))))) = some r := h; clear h; replace H := Option.bind_eq_some_iff.mp H; obtain ⟨⟨t526, t527, t528, t529, t530⟩, A20, H⟩ := H; replace H : (if a0_0 = 1 then (headgateref35_command.j0 k false a0_0 a0_1 a0_2 a0_3 a0_4 t526 t527 t528 t529 t530) else (if a0_0 = 4 then (headgateref35_command.j0 k false a0_0 a0_1 a0_2 a0_3 a0_4 t526 t527 t528 t529 t530) else (if a0_0 = 5 then (headgateref35_command.j0 k false a0_0 a0_1 a0_2 a0_3 a0_4 t526 t527 t528 t529 t530) else (headgateref35_command.j0 k (a0_0 != 6) a0_0 a0_1 a0_2 a0_3 a0_4 t526 t527 t528 t529 t530)))) = some r := H; have A2 := am A20; clear A20; have HC3 := am H; clear H
 go_enter Try.func51, Try.ntmps51
 go_upto_region 2 with (first | ((with_reducible refine gate_dst (N := 1) rfl ?_); refine box_event ?hg (N := 1) ?hd (cs := #[.int .i64 a0_0, .int .i64 a0_1, .int .i64 a0_2, .int .i64 a0_3, .int .u64 a0_4]) (t := 24) ?hr ?_; (case hd => rfl); (case hg => rfl); (case hr => first | (go_simp; done) | (go_simp; rfl)); intro gb525 hg w4 hbox hb; have n0_ := am (below_step (pb HB.out) hb); have n1_ := am (hbox); clear HB; have HB := n0_; have BK525 := n1_; clear n0_ n1_; clear hb hbox hg) | ((with_reducible refine gate_dst (N := 4) rfl ?_); (try (refine gate_guard (by rfl) ?_; dsimp only)); refine load_whole ?hg (N := 4) ?hd (t := 24) (p := ?lp_4) ?ho (pk BK525.out) ?hp _ Try.underlying24 rfl ?hi ?_; (case hg => rfl); (case hd => rfl); (case ho => rfl); (case hp => first | (go_simp; done) | (go_simp; rfl)); (case hi => kernel_rfl)) | ((with_reducible refine gate_callee (f := 54) rfl ?_); refine goesL_ (some 5) rfl rfl Try.func54 (by kernel_rfl) rfl #[.agg #[.int .i64 a0_0, .int .i64 a0_1, .int .i64 a0_2, .int .i64 a0_3, .int .u64 a0_4]] rfl (by (try simp only [List.map_toArray, List.map_cons, List.map_nil]); first | done | rfl | (simp only [List.length_drop, List.length_take]; rfl)) ?_; (with_reducible refine (headgateref35_used.calls a0_0 a0_1 a0_2 a0_3 a0_4 t526 t527 t528 t529 t530 _ A2.out).mono ?_); rintro e w5 ⟨rfl, hb⟩; refine ⟨_, rfl, ?_⟩; have n0_ := am (blk_below (g := gb525) (o := .cells #[.int .i64 a0_0, .int .i64 a0_1, .int .i64 a0_2, .int .i64 a0_3, .int .u64 a0_4] 24 (0, 0)) (pk BK525.out) hb); have n1_ := am (below_step (pb HB.out) hb); clear BK525; clear HB; have BK525 := n0_; have HB := n1_; clear n0_ n1_; (try clear hb); (try clear hb2); (try clear hk); (try clear hi)) | ((with_reducible refine gate_dst (N := 3) rfl ?_); refine box_event ?hg (N := 3) ?hd (cs := #[.int .i64 0, .int .i64 0, .int .i64 0, .int .i64 0, .int .u64 0]) (t := 24) ?hr ?_; (case hd => rfl); (case hg => rfl); (case hr => first | (go_simp; done) | (go_simp; rfl)); intro gb531 hg w6 hbox hb; have n0_ := am (blk_below (g := gb525) (o := .cells #[.int .i64 a0_0, .int .i64 a0_1, .int .i64 a0_2, .int .i64 a0_3, .int .u64 a0_4] 24 (0, 0)) (pk BK525.out) hb); have n1_ := am (below_step (pb HB.out) hb); have n2_ := am (hbox); have n4_ := am ((by rw [hg]; exact (below_size (pb HB.out)) : w.heap.size ≤ gb531)); have n5_ := am ((by rw [hg]; exact Nat.ne_of_lt (blk_lt (g := gb525) (o := .cells #[.int .i64 a0_0, .int .i64 a0_1, .int .i64 a0_2, .int .i64 a0_3, .int .u64 a0_4] 24 (0, 0)) (pk BK525.out)) : gb525 ≠ gb531)); clear BK525; clear HB; have BK525 := n0_; have HB := n1_; have BK531 := n2_; have GE531 := n4_; have NB525_531 := n5_; clear n0_ n1_ n2_ n4_ n5_; clear hb hbox hg) | ((with_reducible refine gate_store (t := 24) (p := 3) rfl ?_); refine store_whole (t := 24) (p := .tmp 3) (x := ?vx_w7) (g := gb531) (off := 0) (e := 24) (cur := #[.int .i64 0, .int .i64 0, .int .i64 0, .int .i64 0, .int .u64 0]) (u := .agg #[.int .i64 t526, .int .i64 t527, .int .i64 t528, .int .i64 t529, .int .u64 t530]) (seg := [.int .i64 t526, .int .i64 t527, .int .i64 t528, .int .i64 t529, .int .u64 t530]) ?hg ?hn ?ho ?hh #[.int .i64 t526, .int .i64 t527, .int .i64 t528, .int .i64 t529, .int .u64 t530] ?hp ?hx rfl ?ht rfl rfl rfl ?_; (case ht => kernel_rfl); (case hn => rfl); (case ho => rfl); (case hg => rfl); (case hh => exact (pk BK531.out)); (case hp => first | (go_simp; done) | (go_simp; rfl)); (case hx => first | (go_simp; done) | (go_simp; rfl)); intro w7 hbk hg; have n0_ := am (blk_store (g := gb525) (o := .cells #[.int .i64 a0_0, .int .i64 a0_1, .int .i64 a0_2, .int .i64 a0_3, .int .u64 a0_4] 24 (0, 0)) (pk BK525.out) NB525_531.out hg); have n1_ := am (below_store (pb HB.out) GE531.out hg); have n2_ := am (hbk); clear BK525; clear HB; clear BK531; have BK525 := n0_; have HB := n1_; have BK531 := n2_; clear n0_ n1_ n2_; clear hbk hg))
 (try simp only [Act.put, List.setIfInBounds_toArray, List.set_cons_zero, List.set_cons_succ])
 go_cut [6] (fun v6 wc => ∃ (kq : Nat) (x6_2 : Bool), v6 = .bool x6_2 ∧ Aside0 (headgateref35_command.j0 kq x6_2 a0_0 a0_1 a0_2 a0_3 a0_4 t526 t527 t528 t529 t530 = some r) ∧ Aside0 (kq ≤ k) ∧ Aside0 (wc.heap[gb525]? = some (.cells #[.int .i64 a0_0, .int .i64 a0_1, .int .i64 a0_2, .int .i64 a0_3, .int .u64 a0_4] 24 (0, 0))) ∧ Aside0 (wc.heap[gb531]? = some (.cells #[.int .i64 t526, .int .i64 t527, .int .i64 t528, .int .i64 t529, .int .u64 t530] 24 (0, 0))) ∧ Aside0 (Below w.heap.size w wc))
 case first =>
  have H := HC3.out; clear HC3
  by_cases c8 : a0_0 = 1
  ·
   rw [if_pos c8] at H; have c8b0 : (a0_0 == 1) = true := beq_iff_eq.mpr c8; have c8b1 : (a0_0 != 1) = false := bne_eq_false_iff_eq.mpr c8; clear c8; (first | rw [c8b0] | (simp only [i64_w, i32_w]; rw [c8b0]) | skip); have H' := am H; clear H; have hcz9_0 : w7.cell? ⟨gb525, 0, none⟩ = some (.int .i64 a0_0) := (blk_cell BK525.out 0).trans rfl
   go_wp2
   go_meet
   case rel => exact ⟨_, (false), (by first | rfl | (simp; done) | (simp [*]; done)), H', ⟨by first | omega | exact Nat.le_refl _⟩, ⟨by (with_reducible repeat (first | apply bN | apply bD | apply bA)); exact BK525.out⟩, ⟨by (with_reducible repeat (first | apply bN | apply bD | apply bA)); exact BK531.out⟩, ⟨pb HB.out⟩⟩
  ·
   rw [if_neg c8] at H; have c8b0 : (a0_0 == 1) = false := beq_eq_false_iff_ne.mpr c8; have c8b1 : (a0_0 != 1) = true := bne_iff_ne.mpr c8; (first | rw [c8b0] | (simp only [i64_w, i32_w]; rw [c8b0]) | skip)
   by_cases c10 : a0_0 = 4
   ·
    rw [if_pos c10] at H; have c10b0 : (a0_0 == 4) = true := beq_iff_eq.mpr c10; have c10b1 : (a0_0 != 4) = false := bne_eq_false_iff_eq.mpr c10; clear c10; have H' := am H; clear H; have hcz11_0 : w7.cell? ⟨gb525, 0, none⟩ = some (.int .i64 a0_0) := (blk_cell BK525.out 0).trans rfl
    go_wp2
    go_meet
    case rel => exact ⟨_, (false), (by first | rfl | (simp; done) | (simp [*]; done)), H', ⟨by first | omega | exact Nat.le_refl _⟩, ⟨by (with_reducible repeat (first | apply bN | apply bD | apply bA)); exact BK525.out⟩, ⟨by (with_reducible repeat (first | apply bN | apply bD | apply bA)); exact BK531.out⟩, ⟨pb HB.out⟩⟩
   ·
    rw [if_neg c10] at H; have c10b0 : (a0_0 == 4) = false := beq_eq_false_iff_ne.mpr c10; have c10b1 : (a0_0 != 4) = true := bne_iff_ne.mpr c10
    by_cases c12 : a0_0 = 5
    ·
     rw [if_pos c12] at H; have c12b0 : (a0_0 == 5) = true := beq_iff_eq.mpr c12; have c12b1 : (a0_0 != 5) = false := bne_eq_false_iff_eq.mpr c12; clear c12; have H' := am H; clear H; have hcz13_0 : w7.cell? ⟨gb525, 0, none⟩ = some (.int .i64 a0_0) := (blk_cell BK525.out 0).trans rfl
     go_wp2
     go_meet
     case rel => exact ⟨_, (false), (by first | rfl | (simp; done) | (simp [*]; done)), H', ⟨by first | omega | exact Nat.le_refl _⟩, ⟨by (with_reducible repeat (first | apply bN | apply bD | apply bA)); exact BK525.out⟩, ⟨by (with_reducible repeat (first | apply bN | apply bD | apply bA)); exact BK531.out⟩, ⟨pb HB.out⟩⟩
    ·
     rw [if_neg c12] at H; have c12b0 : (a0_0 == 5) = false := beq_eq_false_iff_ne.mpr c12; have c12b1 : (a0_0 != 5) = true := bne_iff_ne.mpr c12; have H' := am H; clear H; have hcz14_0 : w7.cell? ⟨gb525, 0, none⟩ = some (.int .i64 a0_0) := (blk_cell BK525.out 0).trans rfl
     go_wp2
     go_meet
     case rel => exact ⟨_, ((a0_0 != 6)), (by first | rfl | (simp; done) | (simp [*]; done)), H', ⟨by first | omega | exact Nat.le_refl _⟩, ⟨by (with_reducible repeat (first | apply bN | apply bD | apply bA)); exact BK525.out⟩, ⟨by (with_reducible repeat (first | apply bN | apply bD | apply bA)); exact BK531.out⟩, ⟨pb HB.out⟩⟩
 case rest =>
  clear HC3; (try clear c1); (try clear p2); (try clear c5); (try clear c8); (try clear c8b0); (try clear c8b1); (try clear c10); (try clear c10b0); (try clear c10b1); (try clear c12); (try clear c12b0); (try clear c12b1); (try clear hcz11_0); (try clear hcz13_0); (try clear hcz14_0); (try clear hcz9_0); obtain ⟨kq, x6_2, rfl, HA, HJ2, BK525, BK531, HB⟩ := hcut
  cases kq with
  | zero => exact absurd HA.out (by simp [headgateref35_command.j0])
  | succ kj2 =>
   have H := HA.out; clear HA; simp only [headgateref35_command.j0] at H
   by_cases c15 : x6_2 = true
   ·
    subst c15; have H1 : (some 16) = some r := by rw [if_pos rfl] at H; exact H
    clear H; have H := H1; clear H1; obtain rfl := Option.some.inj H
    go_wp2
    go_ret
    exact ⟨by first | rfl | (simp [errW_none, errW_some] <;> rfl) | (simp [*, errW_none, errW_some] <;> rfl), pb HB.out⟩
   ·
    replace c15 := Bool.eq_false_iff.mpr c15; subst c15; have H1 : (if a0_1 < 1 then (headgateref35_command.j1 kj2 true a0_0 a0_1 a0_2 a0_3 a0_4 t526 t527 t528 t529 t530) else (headgateref35_command.j1 kj2 (decide (a0_1 > 8)) a0_0 a0_1 a0_2 a0_3 a0_4 t526 t527 t528 t529 t530)) = some r := by rw [if_neg (show ¬ (false = true) by decide)] at H; exact H
    clear H; have H := H1; clear H1; have HC16 := am H; clear H
    go_upto_region 4 with (fail)
    go_cut [25] (fun v25 wc => ∃ (kq : Nat) (x25_15 : Bool), v25 = .bool x25_15 ∧ Aside0 (headgateref35_command.j1 kq x25_15 a0_0 a0_1 a0_2 a0_3 a0_4 t526 t527 t528 t529 t530 = some r) ∧ Aside0 (kq ≤ kj2) ∧ Aside0 (wc.heap[gb525]? = some (.cells #[.int .i64 a0_0, .int .i64 a0_1, .int .i64 a0_2, .int .i64 a0_3, .int .u64 a0_4] 24 (0, 0))) ∧ Aside0 (wc.heap[gb531]? = some (.cells #[.int .i64 t526, .int .i64 t527, .int .i64 t528, .int .i64 t529, .int .u64 t530] 24 (0, 0))) ∧ Aside0 (Below w.heap.size w wc))
    case first =>
     have H := HC16.out; clear HC16
     by_cases c17 : a0_1 < 1
     ·
      rw [if_pos c17] at H; have c17b0 : decide (a0_1 < 1) = true := decide_eq_true c17; clear c17; (first | rw [c17b0] | (simp only [i64_w, i32_w]; rw [c17b0]) | skip); have H' := am H; clear H; have hcz18_1 : wc.cell? ⟨gb525, 1, none⟩ = some (.int .i64 a0_1) := (blk_cell BK525.out 1).trans rfl
      go_wp2
      go_meet
      case rel => exact ⟨_, (true), (by first | rfl | (simp; done) | (simp [*]; done)), H', ⟨by have := HJ2.out; first | omega | exact Nat.le_refl _⟩, ⟨by (with_reducible repeat (first | apply bN | apply bD | apply bA)); exact BK525.out⟩, ⟨by (with_reducible repeat (first | apply bN | apply bD | apply bA)); exact BK531.out⟩, ⟨pb HB.out⟩⟩
     ·
      rw [if_neg c17] at H; have c17b0 : decide (a0_1 < 1) = false := decide_eq_false c17; clear c17; (first | rw [c17b0] | (simp only [i64_w, i32_w]; rw [c17b0]) | skip); have H' := am H; clear H; have hcz19_1 : wc.cell? ⟨gb525, 1, none⟩ = some (.int .i64 a0_1) := (blk_cell BK525.out 1).trans rfl
      go_wp2
      go_meet
      case rel => exact ⟨_, (decide (a0_1 > 8)), (by first | rfl | (simp; done) | (simp [*]; done)), H', ⟨by have := HJ2.out; first | omega | exact Nat.le_refl _⟩, ⟨by (with_reducible repeat (first | apply bN | apply bD | apply bA)); exact BK525.out⟩, ⟨by (with_reducible repeat (first | apply bN | apply bD | apply bA)); exact BK531.out⟩, ⟨pb HB.out⟩⟩
    case rest =>
     clear HC16; (try clear c1); (try clear p2); (try clear c5); (try clear c8); (try clear c8b0); (try clear c8b1); (try clear c10); (try clear c10b0); (try clear c10b1); (try clear c12); (try clear c12b0); (try clear c12b1); (try clear c15); (try clear c17); (try clear c17b0); (try clear hcz11_0); (try clear hcz13_0); (try clear hcz14_0); (try clear hcz18_1); (try clear hcz19_1); (try clear hcz9_0); (try clear p2); obtain ⟨kq, x25_15, rfl, HA, HJ15, BK525, BK531, HB⟩ := hcut
     cases kq with
     | zero => exact absurd HA.out (by simp [headgateref35_command.j1])
     | succ kj15 =>
      have H := HA.out; clear HA; simp only [headgateref35_command.j1] at H
      by_cases c20 : x25_15 = true
      ·
       subst c20; have H1 : (some 2) = some r := by rw [if_pos rfl] at H; exact H
       clear H; have H := H1; clear H1; obtain rfl := Option.some.inj H
       go_wp2
       go_ret
       exact ⟨by first | rfl | (simp [errW_none, errW_some] <;> rfl) | (simp [*, errW_none, errW_some] <;> rfl), pb HB.out⟩
      ·
       replace c20 := Bool.eq_false_iff.mpr c20; subst c20; have H1 : (if a0_0 = 6 then (if t528 < 1 then (headgateref35_command.j2 kj15 true a0_0 a0_1 a0_2 a0_3 a0_4 t526 t527 t528 t529 t530) else (if t528 > 8 then (headgateref35_command.j2 kj15 true a0_0 a0_1 a0_2 a0_3 a0_4 t526 t527 t528 t529 t530) else (headgateref35_command.j2 kj15 (t528 == a0_1) a0_0 a0_1 a0_2 a0_3 a0_4 t526 t527 t528 t529 t530))) else (headgateref35_command.j2 kj15 false a0_0 a0_1 a0_2 a0_3 a0_4 t526 t527 t528 t529 t530)) = some r := by rw [if_neg (show ¬ (false = true) by decide)] at H; exact H
       clear H; have H := H1; clear H1; have HC21 := am H; clear H
       go_upto_region 6 with (fail)
       go_cut [34] (fun v34 wc => ∃ (kq : Nat) (x34_20 : Bool), v34 = .bool x34_20 ∧ Aside0 (headgateref35_command.j2 kq x34_20 a0_0 a0_1 a0_2 a0_3 a0_4 t526 t527 t528 t529 t530 = some r) ∧ Aside0 (kq ≤ kj15) ∧ Aside0 (wc.heap[gb525]? = some (.cells #[.int .i64 a0_0, .int .i64 a0_1, .int .i64 a0_2, .int .i64 a0_3, .int .u64 a0_4] 24 (0, 0))) ∧ Aside0 (wc.heap[gb531]? = some (.cells #[.int .i64 t526, .int .i64 t527, .int .i64 t528, .int .i64 t529, .int .u64 t530] 24 (0, 0))) ∧ Aside0 (Below w.heap.size w wc))
       case first =>
        have H := HC21.out; clear HC21
        by_cases c22 : a0_0 = 6
        ·
         rw [if_pos c22] at H; have c22b0 : (a0_0 == 6) = true := beq_iff_eq.mpr c22; have c22b1 : (a0_0 != 6) = false := bne_eq_false_iff_eq.mpr c22; clear c22; (first | rw [c22b0] | (simp only [i64_w, i32_w]; rw [c22b0]) | skip)
         by_cases c23 : t528 < 1
         ·
          rw [if_pos c23] at H; have c23b0 : decide (t528 < 1) = true := decide_eq_true c23; clear c23; have H' := am H; clear H; have hcz24_0 : wc.cell? ⟨gb525, 0, none⟩ = some (.int .i64 a0_0) := (blk_cell BK525.out 0).trans rfl; have hcz25_2 : wc.cell? ⟨gb531, 2, none⟩ = some (.int .i64 t528) := (blk_cell BK531.out 2).trans rfl
          go_wp2
          go_meet
          case rel => exact ⟨_, (true), (by first | rfl | (simp; done) | (simp [*]; done)), H', ⟨by have := HJ2.out; have := HJ15.out; first | omega | exact Nat.le_refl _⟩, ⟨by (with_reducible repeat (first | apply bN | apply bD | apply bA)); exact BK525.out⟩, ⟨by (with_reducible repeat (first | apply bN | apply bD | apply bA)); exact BK531.out⟩, ⟨pb HB.out⟩⟩
         ·
          rw [if_neg c23] at H; have c23b0 : decide (t528 < 1) = false := decide_eq_false c23; clear c23
          by_cases c26 : t528 > 8
          ·
           rw [if_pos c26] at H; have c26b0 : decide (8 < t528) = true := decide_eq_true c26; clear c26; have H' := am H; clear H; have hcz27_0 : wc.cell? ⟨gb525, 0, none⟩ = some (.int .i64 a0_0) := (blk_cell BK525.out 0).trans rfl; have hcz28_2 : wc.cell? ⟨gb531, 2, none⟩ = some (.int .i64 t528) := (blk_cell BK531.out 2).trans rfl
           go_wp2
           go_meet
           case rel => exact ⟨_, (true), (by first | rfl | (simp; done) | (simp [*]; done)), H', ⟨by have := HJ2.out; have := HJ15.out; first | omega | exact Nat.le_refl _⟩, ⟨by (with_reducible repeat (first | apply bN | apply bD | apply bA)); exact BK525.out⟩, ⟨by (with_reducible repeat (first | apply bN | apply bD | apply bA)); exact BK531.out⟩, ⟨pb HB.out⟩⟩
          ·
           rw [if_neg c26] at H; have c26b0 : decide (8 < t528) = false := decide_eq_false c26; clear c26; have H' := am H; clear H; have hcz29_0 : wc.cell? ⟨gb525, 0, none⟩ = some (.int .i64 a0_0) := (blk_cell BK525.out 0).trans rfl; have hcz30_2 : wc.cell? ⟨gb531, 2, none⟩ = some (.int .i64 t528) := (blk_cell BK531.out 2).trans rfl; have hcz31_1 : wc.cell? ⟨gb525, 1, none⟩ = some (.int .i64 a0_1) := (blk_cell BK525.out 1).trans rfl
           go_wp2
           go_meet
           case rel => exact ⟨_, ((t528 == a0_1)), (by first | rfl | (simp; done) | (simp [*]; done)), H', ⟨by have := HJ2.out; have := HJ15.out; first | omega | exact Nat.le_refl _⟩, ⟨by (with_reducible repeat (first | apply bN | apply bD | apply bA)); exact BK525.out⟩, ⟨by (with_reducible repeat (first | apply bN | apply bD | apply bA)); exact BK531.out⟩, ⟨pb HB.out⟩⟩
        ·
         rw [if_neg c22] at H; have c22b0 : (a0_0 == 6) = false := beq_eq_false_iff_ne.mpr c22; have c22b1 : (a0_0 != 6) = true := bne_iff_ne.mpr c22; (first | rw [c22b0] | (simp only [i64_w, i32_w]; rw [c22b0]) | skip); have H' := am H; clear H; have hcz32_0 : wc.cell? ⟨gb525, 0, none⟩ = some (.int .i64 a0_0) := (blk_cell BK525.out 0).trans rfl
         go_wp2
         go_meet
         case rel => exact ⟨_, (false), (by first | rfl | (simp; done) | (simp [*]; done)), H', ⟨by have := HJ2.out; have := HJ15.out; first | omega | exact Nat.le_refl _⟩, ⟨by (with_reducible repeat (first | apply bN | apply bD | apply bA)); exact BK525.out⟩, ⟨by (with_reducible repeat (first | apply bN | apply bD | apply bA)); exact BK531.out⟩, ⟨pb HB.out⟩⟩
       case rest =>
        clear HC21; (try clear c1); (try clear c2); (try clear p2); (try clear c5); (try clear c8); (try clear c8b0); (try clear c8b1); (try clear c10); (try clear c10b0); (try clear c10b1); (try clear c12); (try clear c12b0); (try clear c12b1); (try clear c15); (try clear c17); (try clear c17b0); (try clear c20); (try clear c22); (try clear c22b0); (try clear c22b1); (try clear c23); (try clear c23b0); (try clear c26); (try clear c26b0); (try clear hcz11_0); (try clear hcz13_0); (try clear hcz14_0); (try clear hcz18_1); (try clear hcz19_1); (try clear hcz24_0); (try clear hcz25_2); (try clear hcz27_0); (try clear hcz28_2); (try clear hcz29_0); (try clear hcz30_2); (try clear hcz31_1); (try clear hcz32_0); (try clear hcz9_0); (try clear p2); obtain ⟨kq, x34_20, rfl, HA, HJ20, BK525, BK531, HB⟩ := hcut
        cases kq with
        | zero => exact absurd HA.out (by simp [headgateref35_command.j2])
        | succ kj20 =>
         have H := HA.out; clear HA; simp only [headgateref35_command.j2] at H
         by_cases c33 : x34_20 = true
         ·
          subst c33; have H1 : (some 2) = some r := by rw [if_pos rfl] at H; exact H
          clear H; have H := H1; clear H1; obtain rfl := Option.some.inj H
          go_wp2
          go_ret
          exact ⟨by first | rfl | (simp [errW_none, errW_some] <;> rfl) | (simp [*, errW_none, errW_some] <;> rfl), pb HB.out⟩
         ·
          replace c33 := Bool.eq_false_iff.mpr c33; subst c33; have H1 : (if a0_0 = 6 then (headgateref35_command.j3 kj20 false a0_0 a0_1 a0_2 a0_3 a0_4 t526 t527 t528 t529 t530) else (if t528 < 0 then (headgateref35_command.j3 kj20 true a0_0 a0_1 a0_2 a0_3 a0_4 t526 t527 t528 t529 t530) else (if t528 ≥ 64 then (headgateref35_command.j3 kj20 true a0_0 a0_1 a0_2 a0_3 a0_4 t526 t527 t528 t529 t530) else (if t529 < 0 then (headgateref35_command.j3 kj20 true a0_0 a0_1 a0_2 a0_3 a0_4 t526 t527 t528 t529 t530) else (headgateref35_command.j3 kj20 (decide (t529 ≥ 8)) a0_0 a0_1 a0_2 a0_3 a0_4 t526 t527 t528 t529 t530))))) = some r := by rw [if_neg (show ¬ (false = true) by decide)] at H; exact H
          clear H; have H := H1; clear H1; have HC34 := am H; clear H
          go_upto_region 8 with (fail)
          go_cut [55] (fun v55 wc => ∃ (kq : Nat) (x55_33 : Bool), v55 = .bool x55_33 ∧ Aside0 (headgateref35_command.j3 kq x55_33 a0_0 a0_1 a0_2 a0_3 a0_4 t526 t527 t528 t529 t530 = some r) ∧ Aside0 (kq ≤ kj20) ∧ Aside0 (wc.heap[gb525]? = some (.cells #[.int .i64 a0_0, .int .i64 a0_1, .int .i64 a0_2, .int .i64 a0_3, .int .u64 a0_4] 24 (0, 0))) ∧ Aside0 (wc.heap[gb531]? = some (.cells #[.int .i64 t526, .int .i64 t527, .int .i64 t528, .int .i64 t529, .int .u64 t530] 24 (0, 0))) ∧ Aside0 (Below w.heap.size w wc))
          case first =>
           have H := HC34.out; clear HC34
           by_cases c35 : a0_0 = 6
           ·
            rw [if_pos c35] at H; have c35b0 : (a0_0 == 6) = true := beq_iff_eq.mpr c35; have c35b1 : (a0_0 != 6) = false := bne_eq_false_iff_eq.mpr c35; clear c35; (first | rw [c35b0] | (simp only [i64_w, i32_w]; rw [c35b0]) | skip); have H' := am H; clear H; have hcz36_0 : wc.cell? ⟨gb525, 0, none⟩ = some (.int .i64 a0_0) := (blk_cell BK525.out 0).trans rfl
            go_wp2
            go_meet
            case rel => exact ⟨_, (false), (by first | rfl | (simp; done) | (simp [*]; done)), H', ⟨by have := HJ2.out; have := HJ15.out; have := HJ20.out; first | omega | exact Nat.le_refl _⟩, ⟨by (with_reducible repeat (first | apply bN | apply bD | apply bA)); exact BK525.out⟩, ⟨by (with_reducible repeat (first | apply bN | apply bD | apply bA)); exact BK531.out⟩, ⟨pb HB.out⟩⟩
           ·
            rw [if_neg c35] at H; have c35b0 : (a0_0 == 6) = false := beq_eq_false_iff_ne.mpr c35; have c35b1 : (a0_0 != 6) = true := bne_iff_ne.mpr c35; (first | rw [c35b0] | (simp only [i64_w, i32_w]; rw [c35b0]) | skip)
            by_cases c37 : t528 < 0
            ·
             rw [if_pos c37] at H; have c37b0 : decide (t528 < 0) = true := decide_eq_true c37; clear c37; have H' := am H; clear H; have hcz38_0 : wc.cell? ⟨gb525, 0, none⟩ = some (.int .i64 a0_0) := (blk_cell BK525.out 0).trans rfl; have hcz39_2 : wc.cell? ⟨gb531, 2, none⟩ = some (.int .i64 t528) := (blk_cell BK531.out 2).trans rfl
             go_wp2
             go_meet
             case rel => exact ⟨_, (true), (by first | rfl | (simp; done) | (simp [*]; done)), H', ⟨by have := HJ2.out; have := HJ15.out; have := HJ20.out; first | omega | exact Nat.le_refl _⟩, ⟨by (with_reducible repeat (first | apply bN | apply bD | apply bA)); exact BK525.out⟩, ⟨by (with_reducible repeat (first | apply bN | apply bD | apply bA)); exact BK531.out⟩, ⟨pb HB.out⟩⟩
            ·
             rw [if_neg c37] at H; have c37b0 : decide (t528 < 0) = false := decide_eq_false c37; clear c37
             by_cases c40 : t528 ≥ 64
             ·
              rw [if_pos c40] at H; have c40b0 : decide (64 ≤ t528) = true := decide_eq_true c40; clear c40; have H' := am H; clear H; have hcz41_0 : wc.cell? ⟨gb525, 0, none⟩ = some (.int .i64 a0_0) := (blk_cell BK525.out 0).trans rfl; have hcz42_2 : wc.cell? ⟨gb531, 2, none⟩ = some (.int .i64 t528) := (blk_cell BK531.out 2).trans rfl
              go_wp2
              go_meet
              case rel => exact ⟨_, (true), (by first | rfl | (simp; done) | (simp [*]; done)), H', ⟨by have := HJ2.out; have := HJ15.out; have := HJ20.out; first | omega | exact Nat.le_refl _⟩, ⟨by (with_reducible repeat (first | apply bN | apply bD | apply bA)); exact BK525.out⟩, ⟨by (with_reducible repeat (first | apply bN | apply bD | apply bA)); exact BK531.out⟩, ⟨pb HB.out⟩⟩
             ·
              rw [if_neg c40] at H; have c40b0 : decide (64 ≤ t528) = false := decide_eq_false c40; clear c40
              by_cases c43 : t529 < 0
              ·
               rw [if_pos c43] at H; have c43b0 : decide (t529 < 0) = true := decide_eq_true c43; clear c43; have H' := am H; clear H; have hcz44_0 : wc.cell? ⟨gb525, 0, none⟩ = some (.int .i64 a0_0) := (blk_cell BK525.out 0).trans rfl; have hcz45_2 : wc.cell? ⟨gb531, 2, none⟩ = some (.int .i64 t528) := (blk_cell BK531.out 2).trans rfl; have hcz46_3 : wc.cell? ⟨gb531, 3, none⟩ = some (.int .i64 t529) := (blk_cell BK531.out 3).trans rfl
               go_wp2
               go_meet
               case rel => exact ⟨_, (true), (by first | rfl | (simp; done) | (simp [*]; done)), H', ⟨by have := HJ2.out; have := HJ15.out; have := HJ20.out; first | omega | exact Nat.le_refl _⟩, ⟨by (with_reducible repeat (first | apply bN | apply bD | apply bA)); exact BK525.out⟩, ⟨by (with_reducible repeat (first | apply bN | apply bD | apply bA)); exact BK531.out⟩, ⟨pb HB.out⟩⟩
              ·
               rw [if_neg c43] at H; have c43b0 : decide (t529 < 0) = false := decide_eq_false c43; clear c43; have H' := am H; clear H; have hcz47_0 : wc.cell? ⟨gb525, 0, none⟩ = some (.int .i64 a0_0) := (blk_cell BK525.out 0).trans rfl; have hcz48_2 : wc.cell? ⟨gb531, 2, none⟩ = some (.int .i64 t528) := (blk_cell BK531.out 2).trans rfl; have hcz49_3 : wc.cell? ⟨gb531, 3, none⟩ = some (.int .i64 t529) := (blk_cell BK531.out 3).trans rfl
               go_wp2
               go_meet
               case rel => exact ⟨_, (decide (t529 ≥ 8)), (by first | rfl | (simp; done) | (simp [*]; done)), H', ⟨by have := HJ2.out; have := HJ15.out; have := HJ20.out; first | omega | exact Nat.le_refl _⟩, ⟨by (with_reducible repeat (first | apply bN | apply bD | apply bA)); exact BK525.out⟩, ⟨by (with_reducible repeat (first | apply bN | apply bD | apply bA)); exact BK531.out⟩, ⟨pb HB.out⟩⟩
          case rest =>
           clear HC34; (try clear c1); (try clear c2); (try clear p2); (try clear c3); (try clear c4); (try clear c5); (try clear c8); (try clear c8b0); (try clear c8b1); (try clear c10); (try clear c10b0); (try clear c10b1); (try clear c12); (try clear c12b0); (try clear c12b1); (try clear c15); (try clear c17); (try clear c17b0); (try clear c20); (try clear c22); (try clear c22b0); (try clear c22b1); (try clear c23); (try clear c23b0); (try clear c26); (try clear c26b0); (try clear c33); (try clear c35); (try clear c35b0); (try clear c35b1); (try clear c37); (try clear c37b0); (try clear c40); (try clear c40b0); (try clear c43); (try clear c43b0); (try clear hcz11_0); (try clear hcz13_0); (try clear hcz14_0); (try clear hcz18_1); (try clear hcz19_1); (try clear hcz24_0); (try clear hcz25_2); (try clear hcz27_0); (try clear hcz28_2); (try clear hcz29_0); (try clear hcz30_2); (try clear hcz31_1); (try clear hcz32_0); (try clear hcz36_0); (try clear hcz38_0); (try clear hcz39_2); (try clear hcz41_0); (try clear hcz42_2); (try clear hcz44_0); (try clear hcz45_2); (try clear hcz46_3); (try clear hcz47_0); (try clear hcz48_2); (try clear hcz49_3); (try clear hcz9_0); (try clear p2); obtain ⟨kq, x55_33, rfl, HA, HJ33, BK525, BK531, HB⟩ := hcut
           cases kq with
           | zero => exact absurd HA.out (by simp [headgateref35_command.j3])
           | succ kj33 =>
            have H := HA.out; clear HA; simp only [headgateref35_command.j3] at H
            by_cases c50 : x55_33 = true
            ·
             subst c50; have H1 : (some 2) = some r := by rw [if_pos rfl] at H; exact H
             clear H; have H := H1; clear H1; obtain rfl := Option.some.inj H
             go_wp2
             go_ret
             exact ⟨by first | rfl | (simp [errW_none, errW_some] <;> rfl) | (simp [*, errW_none, errW_some] <;> rfl), pb HB.out⟩
            ·
             replace c50 := Bool.eq_false_iff.mpr c50; subst c50; have H1 : (if (!(t526 == a0_0) || (!(t527 == a0_1) || (!(t528 == a0_2) || (!(t529 == a0_3) || (!(t530 == a0_4)))))) = true then (some 3) else (some 0)) = some r := by rw [if_neg (show ¬ (false = true) by decide)] at H; exact H
             clear H; have H := H1; clear H1
             by_cases c51 : (!(t526 == a0_0) || (!(t527 == a0_1) || (!(t528 == a0_2) || (!(t529 == a0_3) || (!(t530 == a0_4)))))) = true
             ·
              rw [if_pos c51] at H; have c51b0 : (!(t526 == a0_0) || (!(t527 == a0_1) || (!(t528 == a0_2) || (!(t529 == a0_3) || (!(t530 == a0_4)))))) = true := c51; clear c51; obtain rfl := Option.some.inj H
              go_wp2_with (first | ((with_reducible refine gate_dst (N := 80) rfl ?_); (try (refine gate_guard (by rfl) ?_; dsimp only)); refine load_whole ?hg (N := 80) ?hd (t := 24) (p := ?lp_80) ?ho (pk BK531.out) ?hp _ Try.underlying24 rfl ?hi ?_; (case hg => rfl); (case hd => rfl); (case ho => rfl); (case hp => first | (go_simp; done) | (go_simp; rfl)); (case hi => kernel_rfl)) | ((with_reducible refine gate_dst (N := 81) rfl ?_); (try (refine gate_guard (by rfl) ?_; dsimp only)); refine load_whole ?hg (N := 81) ?hd (t := 24) (p := ?lp_81) ?ho (pk BK525.out) ?hp _ Try.underlying24 rfl ?hi ?_; (case hg => rfl); (case hd => rfl); (case ho => rfl); (case hp => first | (go_simp; done) | (go_simp; rfl)); (case hi => kernel_rfl)))
              go_ret
              exact ⟨by first | rfl | (simp [errW_none, errW_some] <;> rfl) | (simp [*, errW_none, errW_some] <;> rfl), pb HB.out⟩
             ·
              rw [if_neg c51] at H; have c51b0 : (!(t526 == a0_0) || (!(t527 == a0_1) || (!(t528 == a0_2) || (!(t529 == a0_3) || (!(t530 == a0_4)))))) = false := by simpa using c51
              clear c51; obtain rfl := Option.some.inj H
              go_wp2_with (first | ((with_reducible refine gate_dst (N := 80) rfl ?_); (try (refine gate_guard (by rfl) ?_; dsimp only)); refine load_whole ?hg (N := 80) ?hd (t := 24) (p := ?lp_80) ?ho (pk BK531.out) ?hp _ Try.underlying24 rfl ?hi ?_; (case hg => rfl); (case hd => rfl); (case ho => rfl); (case hp => first | (go_simp; done) | (go_simp; rfl)); (case hi => kernel_rfl)) | ((with_reducible refine gate_dst (N := 81) rfl ?_); (try (refine gate_guard (by rfl) ?_; dsimp only)); refine load_whole ?hg (N := 81) ?hd (t := 24) (p := ?lp_81) ?ho (pk BK525.out) ?hp _ Try.underlying24 rfl ?hi ?_; (case hg => rfl); (case hd => rfl); (case ho => rfl); (case hp => first | (go_simp; done) | (go_simp; rfl)); (case hi => kernel_rfl)))
              go_ret
              exact ⟨by first | rfl | (simp [errW_none, errW_some] <;> rfl) | (simp [*, errW_none, errW_some] <;> rfl), pb HB.out⟩

/-! ### headgateref35_access: function 52 -/
def headgateref35_access.f (a0_0 : Int) (a0_1 : Int) (a0_2 : Int) (a0_3 : Int) (a0_4 : Int) (a0_5 : Int) (a0_6 : Int) (l0_7 : List Int) (a0_8 : Int) : Option (Bool) := if a0_1 = 4 then (some true) else (some (a0_1 == 5))
set_option maxHeartbeats 8000000 in
set_option maxRecDepth 100000 in
theorem headgateref35_access.calls (a0_0 : Int) (a0_1 : Int) (a0_2 : Int) (a0_3 : Int) (a0_4 : Int) (a0_5 : Int) (a0_6 : Int) (A0_7 : Option Addr) (c0_7 : Nat) (l0_7 : List Int) (a0_8 : Int) (r : Bool) (w : World) (hr0_7 : Kd.C (Kd.int .i64) w A0_7 l0_7.length l0_7) (hc0_7 : l0_7.length ≤ c0_7) (h : headgateref35_access.f a0_0 a0_1 a0_2 a0_3 a0_4 a0_5 a0_6 l0_7 a0_8 = some r) :
    Calls Try.prog 52 #[.agg #[.int .u64 a0_0, .int .i64 a0_1, .int .i64 a0_2, .int .i64 a0_3, .int .i64 a0_4, .int .u64 a0_5, .int .i64 a0_6, .slice A0_7 l0_7.length c0_7, .int .i64 a0_8]] w fun e w' => e = .returned (.bool r) ∧ Below w.heap.size w w' := by
  have hu27 := Try.underlying27; have HR0_7 := Aside0.mk hr0_7; have HC0_7 := Aside0.mk hc0_7; clear hr0_7 hc0_7; have HB := Aside0.mk (Below.refl w.heap.size w); have H : (if a0_1 = 4 then (some true) else (some (a0_1 == 5))) = some r := h; clear h
  by_cases c2 : a0_1 = 4
  · rw [if_pos c2] at H
    have c2b0 : (a0_1 == 4) = true := beq_iff_eq.mpr c2; have c2b1 : (a0_1 != 4) = false := bne_eq_false_iff_eq.mpr c2; clear c2; obtain rfl := Option.some.inj H
    go_enter Try.func52, Try.ntmps52
    go_wp2_with (first | ((with_reducible refine gate_dst (N := 1) rfl ?_); refine box_event ?hg (N := 1) ?hd (cs := #[.int .u64 a0_0, .int .i64 a0_1, .int .i64 a0_2, .int .i64 a0_3, .int .i64 a0_4, .int .u64 a0_5, .int .i64 a0_6, .slice A0_7 l0_7.length c0_7, .int .i64 a0_8]) (t := 27) ?hr ?_; (case hd => rfl); (case hg => rfl); (case hr => first | (go_simp; done) | (go_simp; rfl)); intro gb532 hg w3 hbox hb; have n0_ := Aside0.mk (below_step (by repeat (first | (with_reducible first | exact HB.out | apply below_alloc | apply pw_below_drewN | apply below_drew1) | exact HB.out)) hb); have n1_ := Aside0.mk (hbox); have n3_ := Aside0.mk ((by rw [hg]; exact (below_size (by repeat (first | (with_reducible first | exact HB.out | apply below_alloc | apply pw_below_drewN | apply below_drew1) | exact HB.out))) : w.heap.size ≤ gb532)); clear HB; have HB := n0_; have BK532 := n1_; have GE532 := n3_; clear n0_ n1_ n3_; clear hb hbox hg; have hcz4_1 : w3.cell? ⟨gb532, 1, none⟩ = some (.int .i64 a0_1) := (blk_cell BK532.out 1).trans rfl))
    go_ret
    exact ⟨by first | rfl | (simp [errW_none, errW_some] <;> rfl) | (simp [*, errW_none, errW_some] <;> rfl), by repeat (first | (with_reducible first | exact HB.out | apply below_alloc | apply pw_below_drewN | apply below_drew1 | refine below_set ?_ GE532.out) | exact HB.out)⟩
  · rw [if_neg c2] at H
    have c2b0 : (a0_1 == 4) = false := beq_eq_false_iff_ne.mpr c2; have c2b1 : (a0_1 != 4) = true := bne_iff_ne.mpr c2; obtain rfl := Option.some.inj H
    go_enter Try.func52, Try.ntmps52
    go_wp2_with (first | ((with_reducible refine gate_dst (N := 1) rfl ?_); refine box_event ?hg (N := 1) ?hd (cs := #[.int .u64 a0_0, .int .i64 a0_1, .int .i64 a0_2, .int .i64 a0_3, .int .i64 a0_4, .int .u64 a0_5, .int .i64 a0_6, .slice A0_7 l0_7.length c0_7, .int .i64 a0_8]) (t := 27) ?hr ?_; (case hd => rfl); (case hg => rfl); (case hr => first | (go_simp; done) | (go_simp; rfl)); intro gb532 hg w5 hbox hb; have n0_ := Aside0.mk (below_step (by repeat (first | (with_reducible first | exact HB.out | apply below_alloc | apply pw_below_drewN | apply below_drew1) | exact HB.out)) hb); have n1_ := Aside0.mk (hbox); have n3_ := Aside0.mk ((by rw [hg]; exact (below_size (by repeat (first | (with_reducible first | exact HB.out | apply below_alloc | apply pw_below_drewN | apply below_drew1) | exact HB.out))) : w.heap.size ≤ gb532)); clear HB; have HB := n0_; have BK532 := n1_; have GE532 := n3_; clear n0_ n1_ n3_; clear hb hbox hg; have hcz6_1 : w5.cell? ⟨gb532, 1, none⟩ = some (.int .i64 a0_1) := (blk_cell BK532.out 1).trans rfl))
    go_ret
    exact ⟨by first | rfl | (simp [errW_none, errW_some] <;> rfl) | (simp [*, errW_none, errW_some] <;> rfl), by repeat (first | (with_reducible first | exact HB.out | apply below_alloc | apply pw_below_drewN | apply below_drew1 | refine below_set ?_ GE532.out) | exact HB.out)⟩

end Go.Proofs.Ytigpacfcklcmpaa.X
