/- OrderKnown: of these Go functions: what each computes, and that the machine's call comes to it. Laid by a program of this session. -/
import Derived.Test.YtcdeaiiiplkfiaaXx0
import Derived.Test.YtcdeaiiiplkfiaaXx1
import Derived.Test.YtcdeaiiiplkfiaaXx4
import Derived.Test.YtcdeaiiiplkfiaaXx5
import Derived.Test.YtcdeaiiiplkfiaaXx7
import Derived.Test.YtcdeaiiiplkfiaaXx9
import Derived.Test.YtcdeaiiiplkfiaaXx11
namespace Go.Proofs.Ytcdeaiiiplkfiaa.X
open Go.RowKit Go.Proofs.YtcdeaiiiplkfiaaW.PrintWords Go.Proofs.YtcdeaiiiplkfiaaW.PrintLast Go.Proofs.YtcdeaiiiplkfiaaW.PrintMore
attribute [local go_sem] max2_int min2_int max_two min_two max_three min_three max_four min_four   -- for this text's walks alone
set_option linter.unusedVariables false
set_option linter.unusedSimpArgs false

attribute [local go_sem high] eqA32
/-! ### headgatelaw08_OrderKnown: function 8 -/
mutual
def headgatelaw08_OrderKnown.j0 : Nat → Bool → Option (Bool)
  | 0, _ => none
  | k + 1, x48 => if x48 = true then (some false) else ((headgatelaw08_b.f 8 3).bind fun bt193 => ((order_Check.f k bt193.1 bt193.2).bind fun t195 => (if t195 = 0 then ((headgatelaw08_b.f 4 3).bind fun bt196 => ((order_Check.f k bt196.1 bt196.2).bind fun t198 => (if t198 = 13 then ((headgatelaw08_b.f 256 0).bind fun bt199 => ((order_Check.f k bt199.1 bt199.2).bind fun t201 => (if t201 = 2 then ((headgatelaw08_b.f (-1) 9).bind fun bt202 => ((order_Check.f k bt202.1 bt202.2).bind fun t204 => (headgatelaw08_OrderKnown.j1 k (t204 != 2)))) else (headgatelaw08_OrderKnown.j1 k true)))) else (headgatelaw08_OrderKnown.j1 k true)))) else (headgatelaw08_OrderKnown.j1 k true))))
def headgatelaw08_OrderKnown.j1 : Nat → Bool → Option (Bool)
  | 0, _ => none
  | k + 1, x66 => if x66 = true then (some false) else ((headgatelaw08_b.f 8 3).bind fun bt205 => ((order_Buddy.f k bt205.1 bt205.2).bind fun bt207 => ((headgatelaw08_b.f 20 2).bind fun bt211 => ((order_Parent.f k bt211.1 bt211.2).bind fun bt213 => ((headgatelaw08_b.f 0 6).bind fun bt217 => ((order_Buddy.f k bt217.1 bt217.2).bind fun bt219 => ((order_Cut.f k 0 256).bind fun bt222 => ((headgatelaw08_b.f 0 3).bind fun bt226 => (if (!(bt207.1 == bt226.1) || (!(bt207.2.1 == bt226.2))) = true then (headgatelaw08_OrderKnown.j2 k true) else ((headgatelaw08_b.f 16 3).bind fun bt228 => (if (!(bt213.1 == bt228.1) || (!(bt213.2.1 == bt228.2))) = true then (headgatelaw08_OrderKnown.j2 k true) else (if bt207.2.2 = 0 then (if bt213.2.2 = 0 then (if bt219.2.2 = 2 then (if bt222.2 = 0 then ((headgatelaw08_b.f 0 6).bind fun bt230 => ((headgatelaw08_b.f 64 6).bind fun bt232 => ((headgatelaw08_b.f 128 6).bind fun bt234 => ((headgatelaw08_b.f 192 6).bind fun bt236 => ((headgatelaw08_same.f k bt222.1 (([(⟨bt230.1, bt230.2⟩ : S32), (⟨bt232.1, bt232.2⟩ : S32), (⟨bt234.1, bt234.2⟩ : S32), (⟨bt236.1, bt236.2⟩ : S32)] : List (S32)))).bind fun t241 => (headgatelaw08_OrderKnown.j2 k (!t241))))))) else (headgatelaw08_OrderKnown.j2 k true)) else (headgatelaw08_OrderKnown.j2 k true)) else (headgatelaw08_OrderKnown.j2 k true)) else (headgatelaw08_OrderKnown.j2 k true)))))))))))))
def headgatelaw08_OrderKnown.j2 : Nat → Bool → Option (Bool)
  | 0, _ => none
  | k + 1, x119 => if x119 = true then (some false) else ((headgatelaw08_b.f 0 0).bind fun bt242 => ((headgatelaw08_b.f 1 0).bind fun bt244 => ((headgatelaw08_b.f 2 1).bind fun bt246 => ((headgatelaw08_b.f 8 0).bind fun bt248 => ((order_Join.f k (([(⟨bt242.1, bt242.2⟩ : S32), (⟨bt244.1, bt244.2⟩ : S32), (⟨bt246.1, bt246.2⟩ : S32), (⟨bt248.1, bt248.2⟩ : S32)] : List (S32)))).bind fun bt253 => ((headgatelaw08_b.f 0 1).bind fun bt257 => ((headgatelaw08_b.f 1 0).bind fun bt259 => ((order_CheckList.f k (([(⟨bt257.1, bt257.2⟩ : S32), (⟨bt259.1, bt259.2⟩ : S32)] : List (S32)))).bind fun bt264 => (if bt253.2 = 0 then ((headgatelaw08_b.f 0 2).bind fun bt266 => ((headgatelaw08_b.f 8 0).bind fun bt268 => ((headgatelaw08_same.f k bt253.1 (([(⟨bt266.1, bt266.2⟩ : S32), (⟨bt268.1, bt268.2⟩ : S32)] : List (S32)))).bind fun t273 => (if t273 = true then (if bt264.1 = 8 then (if bt264.2 = 1 then ((headgatelaw08_awake.f k).bind fun t274 => (some t274)) else (some false)) else (some false)) else (some false))))) else (some false))))))))))
end
def headgatelaw08_OrderKnown.f (k : Nat)  : Option (Bool) := (order_Log.f 0).bind fun bt184 => ((order_Size.f 6).bind fun bt186 => ((order_Size.f 7).bind fun bt188 => ((headgatelaw08_logs.f 1 0 0).bind fun t190 => (if t190 = true then ((headgatelaw08_logs.f 9 3 4).bind fun t191 => (if t191 = true then ((headgatelaw08_logs.f 8 3 3).bind fun t192 => (if t192 = true then (if bt186.1 = 64 then (if bt184.2 = 2 then (if bt186.2 = 0 then (headgatelaw08_OrderKnown.j0 k (bt188.2 != 2)) else (headgatelaw08_OrderKnown.j0 k true)) else (headgatelaw08_OrderKnown.j0 k true)) else (headgatelaw08_OrderKnown.j0 k true)) else (headgatelaw08_OrderKnown.j0 k true))) else (headgatelaw08_OrderKnown.j0 k true))) else (headgatelaw08_OrderKnown.j0 k true)))))
theorem headgatelaw08_OrderKnown.mono_l : ∀ k, (∀ y0, LeO (headgatelaw08_OrderKnown.j0 k y0) (headgatelaw08_OrderKnown.j0 (k + 1) y0)) ∧ (∀ y0, LeO (headgatelaw08_OrderKnown.j1 k y0) (headgatelaw08_OrderKnown.j1 (k + 1) y0)) ∧ (∀ y0, LeO (headgatelaw08_OrderKnown.j2 k y0) (headgatelaw08_OrderKnown.j2 (k + 1) y0))
  | 0 => ⟨fun _ r h => by simp [headgatelaw08_OrderKnown.j0] at h, fun _ r h => by simp [headgatelaw08_OrderKnown.j1] at h, fun _ r h => by simp [headgatelaw08_OrderKnown.j2] at h⟩
  | k + 1 => by
    obtain ⟨ih0, ih1, ih2⟩ := headgatelaw08_OrderKnown.mono_l k
    refine ⟨?_, ?_, ?_⟩
    · intro y0
      unfold headgatelaw08_OrderKnown.j0
      repeat' first
      | (with_reducible exact ih0 _)
      | (with_reducible exact ih1 _)
      | (with_reducible exact ih2 _)
      | (with_reducible exact headgatelaw08_awake.mono _)
      | (with_reducible exact headgatelaw08_same.mono _ _ _)
      | (with_reducible exact order_Buddy.mono _ _ _)
      | (with_reducible exact order_Check.mono _ _ _)
      | (with_reducible exact order_CheckList.mono _ _)
      | (with_reducible exact order_Cut.mono _ _ _)
      | (with_reducible exact order_Join.mono _ _)
      | (with_reducible exact order_Parent.mono _ _ _)
      | (with_reducible exact LeO.refl _)
      | (with_reducible exact LeO.none _)
      | (with_reducible refine LeO.ite ?_ ?_)
      | (with_reducible refine LeO.bind ?_ (fun _ => ?_))
      | exact ih0 _
      | exact ih1 _
      | exact ih2 _
      | exact headgatelaw08_awake.mono _
      | exact headgatelaw08_same.mono _ _ _
      | exact order_Buddy.mono _ _ _
      | exact order_Check.mono _ _ _
      | exact order_CheckList.mono _ _
      | exact order_Cut.mono _ _ _
      | exact order_Join.mono _ _
      | exact order_Parent.mono _ _ _
      | exact LeO.none _
      | refine LeO.ite ?_ ?_
      | refine LeO.bind ?_ (fun _ => ?_)
    · intro y0
      unfold headgatelaw08_OrderKnown.j1
      repeat' first
      | (with_reducible exact ih0 _)
      | (with_reducible exact ih1 _)
      | (with_reducible exact ih2 _)
      | (with_reducible exact headgatelaw08_awake.mono _)
      | (with_reducible exact headgatelaw08_same.mono _ _ _)
      | (with_reducible exact order_Buddy.mono _ _ _)
      | (with_reducible exact order_Check.mono _ _ _)
      | (with_reducible exact order_CheckList.mono _ _)
      | (with_reducible exact order_Cut.mono _ _ _)
      | (with_reducible exact order_Join.mono _ _)
      | (with_reducible exact order_Parent.mono _ _ _)
      | (with_reducible exact LeO.refl _)
      | (with_reducible exact LeO.none _)
      | (with_reducible refine LeO.ite ?_ ?_)
      | (with_reducible refine LeO.bind ?_ (fun _ => ?_))
      | exact ih0 _
      | exact ih1 _
      | exact ih2 _
      | exact headgatelaw08_awake.mono _
      | exact headgatelaw08_same.mono _ _ _
      | exact order_Buddy.mono _ _ _
      | exact order_Check.mono _ _ _
      | exact order_CheckList.mono _ _
      | exact order_Cut.mono _ _ _
      | exact order_Join.mono _ _
      | exact order_Parent.mono _ _ _
      | exact LeO.none _
      | refine LeO.ite ?_ ?_
      | refine LeO.bind ?_ (fun _ => ?_)
    · intro y0
      unfold headgatelaw08_OrderKnown.j2
      repeat' first
      | (with_reducible exact ih0 _)
      | (with_reducible exact ih1 _)
      | (with_reducible exact ih2 _)
      | (with_reducible exact headgatelaw08_awake.mono _)
      | (with_reducible exact headgatelaw08_same.mono _ _ _)
      | (with_reducible exact order_Buddy.mono _ _ _)
      | (with_reducible exact order_Check.mono _ _ _)
      | (with_reducible exact order_CheckList.mono _ _)
      | (with_reducible exact order_Cut.mono _ _ _)
      | (with_reducible exact order_Join.mono _ _)
      | (with_reducible exact order_Parent.mono _ _ _)
      | (with_reducible exact LeO.refl _)
      | (with_reducible exact LeO.none _)
      | (with_reducible refine LeO.ite ?_ ?_)
      | (with_reducible refine LeO.bind ?_ (fun _ => ?_))
      | exact ih0 _
      | exact ih1 _
      | exact ih2 _
      | exact headgatelaw08_awake.mono _
      | exact headgatelaw08_same.mono _ _ _
      | exact order_Buddy.mono _ _ _
      | exact order_Check.mono _ _ _
      | exact order_CheckList.mono _ _
      | exact order_Cut.mono _ _ _
      | exact order_Join.mono _ _
      | exact order_Parent.mono _ _ _
      | exact LeO.none _
      | refine LeO.ite ?_ ?_
      | refine LeO.bind ?_ (fun _ => ?_)
theorem headgatelaw08_OrderKnown.mono : ∀ k, LeO (headgatelaw08_OrderKnown.f k ) (headgatelaw08_OrderKnown.f (k + 1) ) := by
  intro  k
  obtain ⟨ih0, ih1, ih2⟩ := headgatelaw08_OrderKnown.mono_l k
  unfold headgatelaw08_OrderKnown.f
  repeat' first
      | (with_reducible exact ih0 _)
      | (with_reducible exact ih1 _)
      | (with_reducible exact ih2 _)
      | (with_reducible exact headgatelaw08_awake.mono _)
      | (with_reducible exact headgatelaw08_same.mono _ _ _)
      | (with_reducible exact order_Buddy.mono _ _ _)
      | (with_reducible exact order_Check.mono _ _ _)
      | (with_reducible exact order_CheckList.mono _ _)
      | (with_reducible exact order_Cut.mono _ _ _)
      | (with_reducible exact order_Join.mono _ _)
      | (with_reducible exact order_Parent.mono _ _ _)
      | (with_reducible exact LeO.refl _)
      | (with_reducible exact LeO.none _)
      | (with_reducible refine LeO.ite ?_ ?_)
      | (with_reducible refine LeO.bind ?_ (fun _ => ?_))
      | exact ih0 _
      | exact ih1 _
      | exact ih2 _
      | exact headgatelaw08_awake.mono _
      | exact headgatelaw08_same.mono _ _ _
      | exact order_Buddy.mono _ _ _
      | exact order_Check.mono _ _ _
      | exact order_CheckList.mono _ _
      | exact order_Cut.mono _ _ _
      | exact order_Join.mono _ _
      | exact order_Parent.mono _ _ _
      | exact LeO.none _
      | refine LeO.ite ?_ ?_
      | refine LeO.bind ?_ (fun _ => ?_)
theorem headgatelaw08_OrderKnown.no0 : ∀ k, ¬ (headgatelaw08_OrderKnown.j0 k true = some true)
  | 0 => by simp [headgatelaw08_OrderKnown.j0]
  | k + 1 => by simp [headgatelaw08_OrderKnown.j0]
theorem headgatelaw08_OrderKnown.no1 : ∀ k, ¬ (headgatelaw08_OrderKnown.j1 k true = some true)
  | 0 => by simp [headgatelaw08_OrderKnown.j1]
  | k + 1 => by simp [headgatelaw08_OrderKnown.j1]
theorem headgatelaw08_OrderKnown.no2 : ∀ k, ¬ (headgatelaw08_OrderKnown.j2 k true = some true)
  | 0 => by simp [headgatelaw08_OrderKnown.j2]
  | k + 1 => by simp [headgatelaw08_OrderKnown.j2]
def headgatelaw08_OrderKnown.T12 : Bool × List (List Nat × List Nat) := (true, [([], []), ([], []), ([0, 1], [0, 1]), ([2, 1], [2]), ([3], [3]), ([3, 3], [3]), ([4, 5, 3], [3, 4, 5]), ([3, 6], [3, 6]), ([7, 5], [7]), ([8], [8]), ([9, 8], [8, 9]), ([8, 10], [8, 10]), ([11, 8], [11]), ([12], [12]), ([13, 12], [12, 13]), ([12, 14], [12, 14]), ([15, 12], [15]), ([16], [16]), ([17, 16], [16, 17]), ([16, 18], [16, 18]), ([19, 16], [19]), ([20], [20]), ([21, 20], [20, 21]), ([20, 22], [20, 22]), ([23, 20], [23]), ([24], [24]), ([24, 24], [24]), ([26, 24], [24]), ([27, 24], [24]), ([28, 24], [24]), ([26, 27, 28, 29, 24], [24, 26, 27, 28, 29]), ([25, 30, 29, 24], [24, 25, 30]), ([31, 24], [24, 31]), ([24, 32], [24, 32])])
def headgatelaw08_OrderKnown.B12 : List Nat := [0, 0, 3, 7, 15, 15, 63, 127, 255, 511, 1023, 2047, 4095, 8191, 16383, 32767, 65535, 131071, 262143, 524287, 1048575, 2097151, 4194303, 8388607, 16777215, 33554431, 33554431, 100663295, 234881023, 503316479, 1040187391, 2147483647, 4294967295, 8589934591]
theorem headgatelaw08_OrderKnown.tab12 : rtab .any (opsOf Try.f8 12) = headgatelaw08_OrderKnown.T12 := by kernel_rfl
theorem headgatelaw08_OrderKnown.bits12 : waitsOk headgatelaw08_OrderKnown.T12.2 headgatelaw08_OrderKnown.B12 = true := by kernel_rfl
set_option maxHeartbeats 8000000 in
set_option maxRecDepth 100000 in
theorem headgatelaw08_OrderKnown.calls (k : Nat) (w : World) (h : headgatelaw08_OrderKnown.f k  = some true) :
    Calls Try.prog 8 #[] w fun e w' => e = .returned (.bool true) ∧ Below w.heap.size w w' := by
  have hu32 := Try.underlying32
  have HB := Aside0.mk (Below.refl w.heap.size w)
  have H : ((order_Log.f 0).bind fun bt184 => ((order_Size.f 6).bind fun bt186 => ((order_Size.f 7).bind fun bt188 => ((headgatelaw08_logs.f 1 0 0).bind fun t190 => (if t190 = true then ((headgatelaw08_logs.f 9 3 4).bind fun t191 => (if t191 = true then ((headgatelaw08_logs.f 8 3 3).bind fun t192 => (if t192 = true then (if bt186.1 = 64 then (if bt184.2 = 2 then (if bt186.2 = 0 then (headgatelaw08_OrderKnown.j0 k (bt188.2 != 2)) else (headgatelaw08_OrderKnown.j0 k true)) else (headgatelaw08_OrderKnown.j0 k true)) else (headgatelaw08_OrderKnown.j0 k true)) else (headgatelaw08_OrderKnown.j0 k true))) else (headgatelaw08_OrderKnown.j0 k true))) else (headgatelaw08_OrderKnown.j0 k true)))))) = some true := h
  clear h
  replace H := Option.bind_eq_some_iff.mp H
  obtain ⟨⟨t184, t185⟩, A10, H⟩ := H
  replace H : ((order_Size.f 6).bind fun bt186 => ((order_Size.f 7).bind fun bt188 => ((headgatelaw08_logs.f 1 0 0).bind fun t190 => (if t190 = true then ((headgatelaw08_logs.f 9 3 4).bind fun t191 => (if t191 = true then ((headgatelaw08_logs.f 8 3 3).bind fun t192 => (if t192 = true then (if bt186.1 = 64 then (if t185 = 2 then (if bt186.2 = 0 then (headgatelaw08_OrderKnown.j0 k (bt188.2 != 2)) else (headgatelaw08_OrderKnown.j0 k true)) else (headgatelaw08_OrderKnown.j0 k true)) else (headgatelaw08_OrderKnown.j0 k true)) else (headgatelaw08_OrderKnown.j0 k true))) else (headgatelaw08_OrderKnown.j0 k true))) else (headgatelaw08_OrderKnown.j0 k true))))) = some true := H
  have A1 := Aside0.mk A10
  clear A10
  replace H := Option.bind_eq_some_iff.mp H
  obtain ⟨⟨t186, t187⟩, A20, H⟩ := H
  replace H : ((order_Size.f 7).bind fun bt188 => ((headgatelaw08_logs.f 1 0 0).bind fun t190 => (if t190 = true then ((headgatelaw08_logs.f 9 3 4).bind fun t191 => (if t191 = true then ((headgatelaw08_logs.f 8 3 3).bind fun t192 => (if t192 = true then (if t186 = 64 then (if t185 = 2 then (if t187 = 0 then (headgatelaw08_OrderKnown.j0 k (bt188.2 != 2)) else (headgatelaw08_OrderKnown.j0 k true)) else (headgatelaw08_OrderKnown.j0 k true)) else (headgatelaw08_OrderKnown.j0 k true)) else (headgatelaw08_OrderKnown.j0 k true))) else (headgatelaw08_OrderKnown.j0 k true))) else (headgatelaw08_OrderKnown.j0 k true)))) = some true := H
  have A2 := Aside0.mk A20
  clear A20
  replace H := Option.bind_eq_some_iff.mp H
  obtain ⟨⟨t188, t189⟩, A30, H⟩ := H
  replace H : ((headgatelaw08_logs.f 1 0 0).bind fun t190 => (if t190 = true then ((headgatelaw08_logs.f 9 3 4).bind fun t191 => (if t191 = true then ((headgatelaw08_logs.f 8 3 3).bind fun t192 => (if t192 = true then (if t186 = 64 then (if t185 = 2 then (if t187 = 0 then (headgatelaw08_OrderKnown.j0 k (t189 != 2)) else (headgatelaw08_OrderKnown.j0 k true)) else (headgatelaw08_OrderKnown.j0 k true)) else (headgatelaw08_OrderKnown.j0 k true)) else (headgatelaw08_OrderKnown.j0 k true))) else (headgatelaw08_OrderKnown.j0 k true))) else (headgatelaw08_OrderKnown.j0 k true))) = some true := H
  have A3 := Aside0.mk A30
  clear A30
  have HC4 := Aside0.mk H
  clear H
  go_enter Try.func8, Try.ntmps8
  go_upto_region 4 with (first | ((with_reducible refine gate_callee (f := 21) rfl ?_); refine goesL_ (some 12) rfl rfl Try.func21 (by kernel_rfl) rfl #[.int .i64 0] rfl (by (try simp only [List.map_toArray, List.map_cons, List.map_nil]); first | done | rfl | (simp only [List.length_drop, List.length_take]; rfl)) ?_; (with_reducible refine (order_Log.calls 0 t184 t185 _ A1.out).mono ?_); rintro e w' ⟨rfl, ⟨nd, rfl⟩⟩; refine ⟨_, rfl, ?_⟩) | ((with_reducible refine gate_callee (f := 25) rfl ?_); refine goesL_ (some 16) rfl rfl Try.func25 (by kernel_rfl) rfl #[.int .i64 6] rfl (by (try simp only [List.map_toArray, List.map_cons, List.map_nil]); first | done | rfl | (simp only [List.length_drop, List.length_take]; rfl)) ?_; (with_reducible refine (order_Size.calls 6 t186 t187 _ A2.out).mono ?_); rintro e w' ⟨rfl, ⟨nd, rfl⟩⟩; refine ⟨_, rfl, ?_⟩) | ((with_reducible refine gate_callee (f := 25) rfl ?_); refine goesL_ (some 20) rfl rfl Try.func25 (by kernel_rfl) rfl #[.int .i64 7] rfl (by (try simp only [List.map_toArray, List.map_cons, List.map_nil]); first | done | rfl | (simp only [List.length_drop, List.length_take]; rfl)) ?_; (with_reducible refine (order_Size.calls 7 t188 t189 _ A3.out).mono ?_); rintro e w' ⟨rfl, ⟨nd, rfl⟩⟩; refine ⟨_, rfl, ?_⟩))
  (try simp only [Act.put, List.setIfInBounds_toArray, List.set_cons_zero, List.set_cons_succ])
  go_cut [48] (fun v48 wc => ∃ (kq : Nat) (x48_3 : Bool), v48 = .bool x48_3 ∧ Aside0 (headgatelaw08_OrderKnown.j0 kq x48_3 = some true) ∧ Aside0 (kq ≤ k) ∧ Aside0 (Below w.heap.size w wc))
  case first =>
    have H := HC4.out
    clear HC4
    replace H := Option.bind_eq_some_iff.mp H
    obtain ⟨t190, A50, H⟩ := H
    replace H : (if t190 = true then ((headgatelaw08_logs.f 9 3 4).bind fun t191 => (if t191 = true then ((headgatelaw08_logs.f 8 3 3).bind fun t192 => (if t192 = true then (if t186 = 64 then (if t185 = 2 then (if t187 = 0 then (headgatelaw08_OrderKnown.j0 k (t189 != 2)) else (headgatelaw08_OrderKnown.j0 k true)) else (headgatelaw08_OrderKnown.j0 k true)) else (headgatelaw08_OrderKnown.j0 k true)) else (headgatelaw08_OrderKnown.j0 k true))) else (headgatelaw08_OrderKnown.j0 k true))) else (headgatelaw08_OrderKnown.j0 k true)) = some true := H
    have A5 := Aside0.mk A50
    clear A50
    by_cases c6 : t190 = true
    · subst c6
      have H1 : ((headgatelaw08_logs.f 9 3 4).bind fun t191 => (if t191 = true then ((headgatelaw08_logs.f 8 3 3).bind fun t192 => (if t192 = true then (if t186 = 64 then (if t185 = 2 then (if t187 = 0 then (headgatelaw08_OrderKnown.j0 k (t189 != 2)) else (headgatelaw08_OrderKnown.j0 k true)) else (headgatelaw08_OrderKnown.j0 k true)) else (headgatelaw08_OrderKnown.j0 k true)) else (headgatelaw08_OrderKnown.j0 k true))) else (headgatelaw08_OrderKnown.j0 k true))) = some true := by rw [if_pos rfl] at H; exact H
      clear H
      have H := H1
      clear H1
      replace H := Option.bind_eq_some_iff.mp H
      obtain ⟨t191, A70, H⟩ := H
      replace H : (if t191 = true then ((headgatelaw08_logs.f 8 3 3).bind fun t192 => (if t192 = true then (if t186 = 64 then (if t185 = 2 then (if t187 = 0 then (headgatelaw08_OrderKnown.j0 k (t189 != 2)) else (headgatelaw08_OrderKnown.j0 k true)) else (headgatelaw08_OrderKnown.j0 k true)) else (headgatelaw08_OrderKnown.j0 k true)) else (headgatelaw08_OrderKnown.j0 k true))) else (headgatelaw08_OrderKnown.j0 k true)) = some true := H
      have A7 := Aside0.mk A70
      clear A70
      by_cases c8 : t191 = true
      · subst c8
        have H1 : ((headgatelaw08_logs.f 8 3 3).bind fun t192 => (if t192 = true then (if t186 = 64 then (if t185 = 2 then (if t187 = 0 then (headgatelaw08_OrderKnown.j0 k (t189 != 2)) else (headgatelaw08_OrderKnown.j0 k true)) else (headgatelaw08_OrderKnown.j0 k true)) else (headgatelaw08_OrderKnown.j0 k true)) else (headgatelaw08_OrderKnown.j0 k true))) = some true := by rw [if_pos rfl] at H; exact H
        clear H
        have H := H1
        clear H1
        replace H := Option.bind_eq_some_iff.mp H
        obtain ⟨t192, A90, H⟩ := H
        replace H : (if t192 = true then (if t186 = 64 then (if t185 = 2 then (if t187 = 0 then (headgatelaw08_OrderKnown.j0 k (t189 != 2)) else (headgatelaw08_OrderKnown.j0 k true)) else (headgatelaw08_OrderKnown.j0 k true)) else (headgatelaw08_OrderKnown.j0 k true)) else (headgatelaw08_OrderKnown.j0 k true)) = some true := H
        have A9 := Aside0.mk A90
        clear A90
        by_cases c10 : t192 = true
        · subst c10
          have H1 : (if t186 = 64 then (if t185 = 2 then (if t187 = 0 then (headgatelaw08_OrderKnown.j0 k (t189 != 2)) else (headgatelaw08_OrderKnown.j0 k true)) else (headgatelaw08_OrderKnown.j0 k true)) else (headgatelaw08_OrderKnown.j0 k true)) = some true := by rw [if_pos rfl] at H; exact H
          clear H
          have H := H1
          clear H1
          by_cases c11 : t186 = 64
          · rw [if_pos c11] at H
            have c11b0 : (t186 == 64) = true := beq_iff_eq.mpr c11
            have c11b1 : (t186 != 64) = false := bne_eq_false_iff_eq.mpr c11
            clear c11
            (first | rw [c11b0] | (simp only [i64_w, i32_w]; rw [c11b0]) | skip)
            by_cases c12 : t185 = 2
            · rw [if_pos c12] at H
              have c12b0 : (t185 == 2) = true := beq_iff_eq.mpr c12
              have c12b1 : (t185 != 2) = false := bne_eq_false_iff_eq.mpr c12
              clear c12
              by_cases c13 : t187 = 0
              · rw [if_pos c13] at H
                have c13b0 : (t187 == 0) = true := beq_iff_eq.mpr c13
                have c13b1 : (t187 != 0) = false := bne_eq_false_iff_eq.mpr c13
                clear c13
                have H' := Aside0.mk H
                clear H
                go_wp2_with (first | ((with_reducible refine gate_callee (f := 27) rfl ?_); refine goesL_ (some 23) rfl rfl Try.func27 (by kernel_rfl) rfl #[.int .i64 1, .int .i64 0, .int .i64 0] rfl (by (try simp only [List.map_toArray, List.map_cons, List.map_nil]); first | done | rfl | (simp only [List.length_drop, List.length_take]; rfl)) ?_; (with_reducible refine (headgatelaw08_logs.calls 1 0 0 true _ A5.out).mono ?_); rintro e w' ⟨rfl, ⟨nd, rfl⟩⟩; refine ⟨_, rfl, ?_⟩) | (go_at_call 27; (with_reducible refine (headgatelaw08_logs.calls 9 3 4 true _ A7.out).mono ?_); rintro e w' ⟨rfl, ⟨nd, rfl⟩⟩) | (go_at_call 27; (with_reducible refine (headgatelaw08_logs.calls 8 3 3 true _ A9.out).mono ?_); rintro e w' ⟨rfl, ⟨nd, rfl⟩⟩))
                go_meet
                case rel => exact ⟨_, ((t189 != 2)), (by first | rfl | (simp; done) | (simp [*]; done)), H', ⟨by first | omega | exact Nat.le_refl _⟩, ⟨by repeat (first | (with_reducible first | exact HB.out | apply below_alloc | apply pw_below_drewN | apply below_drew1) | exact HB.out)⟩⟩
              · rw [if_neg c13] at H
                have c13b0 : (t187 == 0) = false := beq_eq_false_iff_ne.mpr c13
                have c13b1 : (t187 != 0) = true := bne_iff_ne.mpr c13
                exact absurd H (by first | exact headgatelaw08_OrderKnown.no0 _ | exact headgatelaw08_OrderKnown.no1 _ | exact headgatelaw08_OrderKnown.no2 _)
            · rw [if_neg c12] at H
              have c12b0 : (t185 == 2) = false := beq_eq_false_iff_ne.mpr c12
              have c12b1 : (t185 != 2) = true := bne_iff_ne.mpr c12
              exact absurd H (by first | exact headgatelaw08_OrderKnown.no0 _ | exact headgatelaw08_OrderKnown.no1 _ | exact headgatelaw08_OrderKnown.no2 _)
          · rw [if_neg c11] at H
            have c11b0 : (t186 == 64) = false := beq_eq_false_iff_ne.mpr c11
            have c11b1 : (t186 != 64) = true := bne_iff_ne.mpr c11
            (first | rw [c11b0] | (simp only [i64_w, i32_w]; rw [c11b0]) | skip)
            exact absurd H (by first | exact headgatelaw08_OrderKnown.no0 _ | exact headgatelaw08_OrderKnown.no1 _ | exact headgatelaw08_OrderKnown.no2 _)
        · replace c10 := Bool.eq_false_iff.mpr c10
          subst c10
          have H1 : (headgatelaw08_OrderKnown.j0 k true) = some true := by rw [if_neg (show ¬ (false = true) by decide)] at H; exact H
          clear H
          have H := H1
          clear H1
          exact absurd H (by first | exact headgatelaw08_OrderKnown.no0 _ | exact headgatelaw08_OrderKnown.no1 _ | exact headgatelaw08_OrderKnown.no2 _)
      · replace c8 := Bool.eq_false_iff.mpr c8
        subst c8
        have H1 : (headgatelaw08_OrderKnown.j0 k true) = some true := by rw [if_neg (show ¬ (false = true) by decide)] at H; exact H
        clear H
        have H := H1
        clear H1
        exact absurd H (by first | exact headgatelaw08_OrderKnown.no0 _ | exact headgatelaw08_OrderKnown.no1 _ | exact headgatelaw08_OrderKnown.no2 _)
    · replace c6 := Bool.eq_false_iff.mpr c6
      subst c6
      have H1 : (headgatelaw08_OrderKnown.j0 k true) = some true := by rw [if_neg (show ¬ (false = true) by decide)] at H; exact H
      clear H
      have H := H1
      clear H1
      exact absurd H (by first | exact headgatelaw08_OrderKnown.no0 _ | exact headgatelaw08_OrderKnown.no1 _ | exact headgatelaw08_OrderKnown.no2 _)
  case rest =>
    clear HC4
    try clear c1
    try clear c2
    try clear p2
    try clear c6
    try clear c8
    try clear c10
    try clear c11
    try clear c11b0
    try clear c11b1
    try clear c12
    try clear c12b0
    try clear c12b1
    try clear c13
    try clear c13b0
    try clear c13b1
    obtain ⟨kq, x48_3, rfl, HA, HJ3, HB⟩ := hcut
    cases kq with
    | zero => exact absurd HA.out (by simp [headgatelaw08_OrderKnown.j0])
    | succ kj3 =>
      have H := HA.out
      clear HA
      simp only [headgatelaw08_OrderKnown.j0] at H
      by_cases c14 : x48_3 = true
      · subst c14
        have H1 : (some false) = some true := by rw [if_pos rfl] at H; exact H
        clear H
        have H := H1
        clear H1
        exact absurd H (by simp)
      · replace c14 := Bool.eq_false_iff.mpr c14
        subst c14
        have H1 : ((headgatelaw08_b.f 8 3).bind fun bt193 => ((order_Check.f kj3 bt193.1 bt193.2).bind fun t195 => (if t195 = 0 then ((headgatelaw08_b.f 4 3).bind fun bt196 => ((order_Check.f kj3 bt196.1 bt196.2).bind fun t198 => (if t198 = 13 then ((headgatelaw08_b.f 256 0).bind fun bt199 => ((order_Check.f kj3 bt199.1 bt199.2).bind fun t201 => (if t201 = 2 then ((headgatelaw08_b.f (-1) 9).bind fun bt202 => ((order_Check.f kj3 bt202.1 bt202.2).bind fun t204 => (headgatelaw08_OrderKnown.j1 kj3 (t204 != 2)))) else (headgatelaw08_OrderKnown.j1 kj3 true)))) else (headgatelaw08_OrderKnown.j1 kj3 true)))) else (headgatelaw08_OrderKnown.j1 kj3 true)))) = some true := by rw [if_neg (show ¬ (false = true) by decide)] at H; exact H
        clear H
        have H := H1
        clear H1
        have HC15 := Aside0.mk H
        clear H
        go_upto_region 6 with (fail)
        go_cut [66] (fun v66 wc => ∃ (kq : Nat) (x66_14 : Bool), v66 = .bool x66_14 ∧ Aside0 (headgatelaw08_OrderKnown.j1 kq x66_14 = some true) ∧ Aside0 (kq ≤ kj3) ∧ Aside0 (Below w.heap.size w wc))
        case first =>
          have H := HC15.out
          clear HC15
          replace H := Option.bind_eq_some_iff.mp H
          obtain ⟨⟨t193, t194⟩, A160, H⟩ := H
          replace H : ((order_Check.f kj3 t193 t194).bind fun t195 => (if t195 = 0 then ((headgatelaw08_b.f 4 3).bind fun bt196 => ((order_Check.f kj3 bt196.1 bt196.2).bind fun t198 => (if t198 = 13 then ((headgatelaw08_b.f 256 0).bind fun bt199 => ((order_Check.f kj3 bt199.1 bt199.2).bind fun t201 => (if t201 = 2 then ((headgatelaw08_b.f (-1) 9).bind fun bt202 => ((order_Check.f kj3 bt202.1 bt202.2).bind fun t204 => (headgatelaw08_OrderKnown.j1 kj3 (t204 != 2)))) else (headgatelaw08_OrderKnown.j1 kj3 true)))) else (headgatelaw08_OrderKnown.j1 kj3 true)))) else (headgatelaw08_OrderKnown.j1 kj3 true))) = some true := H
          have A16 := Aside0.mk A160
          clear A160
          replace H := Option.bind_eq_some_iff.mp H
          obtain ⟨t195, A170, H⟩ := H
          replace H : (if t195 = 0 then ((headgatelaw08_b.f 4 3).bind fun bt196 => ((order_Check.f kj3 bt196.1 bt196.2).bind fun t198 => (if t198 = 13 then ((headgatelaw08_b.f 256 0).bind fun bt199 => ((order_Check.f kj3 bt199.1 bt199.2).bind fun t201 => (if t201 = 2 then ((headgatelaw08_b.f (-1) 9).bind fun bt202 => ((order_Check.f kj3 bt202.1 bt202.2).bind fun t204 => (headgatelaw08_OrderKnown.j1 kj3 (t204 != 2)))) else (headgatelaw08_OrderKnown.j1 kj3 true)))) else (headgatelaw08_OrderKnown.j1 kj3 true)))) else (headgatelaw08_OrderKnown.j1 kj3 true)) = some true := H
          have A17 := Aside0.mk A170
          clear A170
          by_cases c18 : t195 = 0
          · rw [if_pos c18] at H
            have c18b0 : (t195 == 0) = true := beq_iff_eq.mpr c18
            have c18b1 : (t195 != 0) = false := bne_eq_false_iff_eq.mpr c18
            clear c18
            (first | rw [c18b0] | (simp only [i64_w, i32_w]; rw [c18b0]) | skip)
            replace H := Option.bind_eq_some_iff.mp H
            obtain ⟨⟨t196, t197⟩, A190, H⟩ := H
            replace H : ((order_Check.f kj3 t196 t197).bind fun t198 => (if t198 = 13 then ((headgatelaw08_b.f 256 0).bind fun bt199 => ((order_Check.f kj3 bt199.1 bt199.2).bind fun t201 => (if t201 = 2 then ((headgatelaw08_b.f (-1) 9).bind fun bt202 => ((order_Check.f kj3 bt202.1 bt202.2).bind fun t204 => (headgatelaw08_OrderKnown.j1 kj3 (t204 != 2)))) else (headgatelaw08_OrderKnown.j1 kj3 true)))) else (headgatelaw08_OrderKnown.j1 kj3 true))) = some true := H
            have A19 := Aside0.mk A190
            clear A190
            replace H := Option.bind_eq_some_iff.mp H
            obtain ⟨t198, A200, H⟩ := H
            replace H : (if t198 = 13 then ((headgatelaw08_b.f 256 0).bind fun bt199 => ((order_Check.f kj3 bt199.1 bt199.2).bind fun t201 => (if t201 = 2 then ((headgatelaw08_b.f (-1) 9).bind fun bt202 => ((order_Check.f kj3 bt202.1 bt202.2).bind fun t204 => (headgatelaw08_OrderKnown.j1 kj3 (t204 != 2)))) else (headgatelaw08_OrderKnown.j1 kj3 true)))) else (headgatelaw08_OrderKnown.j1 kj3 true)) = some true := H
            have A20 := Aside0.mk A200
            clear A200
            by_cases c21 : t198 = 13
            · rw [if_pos c21] at H
              have c21b0 : (t198 == 13) = true := beq_iff_eq.mpr c21
              have c21b1 : (t198 != 13) = false := bne_eq_false_iff_eq.mpr c21
              clear c21
              replace H := Option.bind_eq_some_iff.mp H
              obtain ⟨⟨t199, t200⟩, A220, H⟩ := H
              replace H : ((order_Check.f kj3 t199 t200).bind fun t201 => (if t201 = 2 then ((headgatelaw08_b.f (-1) 9).bind fun bt202 => ((order_Check.f kj3 bt202.1 bt202.2).bind fun t204 => (headgatelaw08_OrderKnown.j1 kj3 (t204 != 2)))) else (headgatelaw08_OrderKnown.j1 kj3 true))) = some true := H
              have A22 := Aside0.mk A220
              clear A220
              replace H := Option.bind_eq_some_iff.mp H
              obtain ⟨t201, A230, H⟩ := H
              replace H : (if t201 = 2 then ((headgatelaw08_b.f (-1) 9).bind fun bt202 => ((order_Check.f kj3 bt202.1 bt202.2).bind fun t204 => (headgatelaw08_OrderKnown.j1 kj3 (t204 != 2)))) else (headgatelaw08_OrderKnown.j1 kj3 true)) = some true := H
              have A23 := Aside0.mk A230
              clear A230
              by_cases c24 : t201 = 2
              · rw [if_pos c24] at H
                have c24b0 : (t201 == 2) = true := beq_iff_eq.mpr c24
                have c24b1 : (t201 != 2) = false := bne_eq_false_iff_eq.mpr c24
                clear c24
                replace H := Option.bind_eq_some_iff.mp H
                obtain ⟨⟨t202, t203⟩, A250, H⟩ := H
                replace H : ((order_Check.f kj3 t202 t203).bind fun t204 => (headgatelaw08_OrderKnown.j1 kj3 (t204 != 2))) = some true := H
                have A25 := Aside0.mk A250
                clear A250
                replace H := Option.bind_eq_some_iff.mp H
                obtain ⟨t204, A260, H⟩ := H
                replace H : (headgatelaw08_OrderKnown.j1 kj3 (t204 != 2)) = some true := H
                have A26 := Aside0.mk A260
                clear A260
                have H' := Aside0.mk H
                clear H
                go_wp2_with (first | ((with_reducible refine gate_callee (f := 14) rfl ?_); refine goesL_ (some 49) rfl rfl Try.func14 (by kernel_rfl) rfl #[.int .i64 8, .int .i64 3] rfl (by (try simp only [List.map_toArray, List.map_cons, List.map_nil]); first | done | rfl | (simp only [List.length_drop, List.length_take]; rfl)) ?_; (with_reducible refine (headgatelaw08_b.calls 8 3 t193 t194 _ A16.out).mono ?_); rintro e w27 ⟨rfl, hb⟩; refine ⟨_, rfl, ?_⟩; have n0_ := Aside0.mk (below_step (by repeat (first | (with_reducible first | exact HB.out | apply below_alloc | apply pw_below_drewN | apply below_drew1) | exact HB.out)) hb); clear HB; have HB := n0_; clear n0_; (try clear hb); (try clear hb2); (try clear hk); (try clear hi)) | ((with_reducible refine gate_callee (f := 28) rfl ?_); refine goesL_ (some 50) rfl rfl Try.func28 (by kernel_rfl) rfl #[.agg #[.int .i64 t193, .int .i64 t194]] rfl (by (try simp only [List.map_toArray, List.map_cons, List.map_nil]); first | done | rfl | (simp only [List.length_drop, List.length_take]; rfl)) ?_; (with_reducible refine (order_Check.calls kj3 t193 t194 t195 _ A17.out).mono ?_); rintro e w28 ⟨rfl, hb⟩; refine ⟨_, rfl, ?_⟩; have n0_ := Aside0.mk (below_step (by repeat (first | (with_reducible first | exact HB.out | apply below_alloc | apply pw_below_drewN | apply below_drew1) | exact HB.out)) hb); clear HB; have HB := n0_; clear n0_; (try clear hb); (try clear hb2); (try clear hk); (try clear hi)) | (go_at_call 14; (with_reducible refine (headgatelaw08_b.calls 4 3 t196 t197 _ A19.out).mono ?_); rintro e w29 ⟨rfl, hb⟩; have n0_ := Aside0.mk (below_step (by repeat (first | (with_reducible first | exact HB.out | apply below_alloc | apply pw_below_drewN | apply below_drew1) | exact HB.out)) hb); clear HB; have HB := n0_; clear n0_; (try clear hb); (try clear hb2); (try clear hk); (try clear hi)) | (go_at_call 28; (with_reducible refine (order_Check.calls kj3 t196 t197 t198 _ A20.out).mono ?_); rintro e w30 ⟨rfl, hb⟩; have n0_ := Aside0.mk (below_step (by repeat (first | (with_reducible first | exact HB.out | apply below_alloc | apply pw_below_drewN | apply below_drew1) | exact HB.out)) hb); clear HB; have HB := n0_; clear n0_; (try clear hb); (try clear hb2); (try clear hk); (try clear hi)) | (go_at_call 14; (with_reducible refine (headgatelaw08_b.calls 256 0 t199 t200 _ A22.out).mono ?_); rintro e w31 ⟨rfl, hb⟩; have n0_ := Aside0.mk (below_step (by repeat (first | (with_reducible first | exact HB.out | apply below_alloc | apply pw_below_drewN | apply below_drew1) | exact HB.out)) hb); clear HB; have HB := n0_; clear n0_; (try clear hb); (try clear hb2); (try clear hk); (try clear hi)) | (go_at_call 28; (with_reducible refine (order_Check.calls kj3 t199 t200 t201 _ A23.out).mono ?_); rintro e w32 ⟨rfl, hb⟩; have n0_ := Aside0.mk (below_step (by repeat (first | (with_reducible first | exact HB.out | apply below_alloc | apply pw_below_drewN | apply below_drew1) | exact HB.out)) hb); clear HB; have HB := n0_; clear n0_; (try clear hb); (try clear hb2); (try clear hk); (try clear hi)) | (go_at_call 14; (with_reducible refine (headgatelaw08_b.calls (-1) 9 t202 t203 _ A25.out).mono ?_); rintro e w33 ⟨rfl, hb⟩; have n0_ := Aside0.mk (below_step (by repeat (first | (with_reducible first | exact HB.out | apply below_alloc | apply pw_below_drewN | apply below_drew1) | exact HB.out)) hb); clear HB; have HB := n0_; clear n0_; (try clear hb); (try clear hb2); (try clear hk); (try clear hi)) | (go_at_call 28; (with_reducible refine (order_Check.calls kj3 t202 t203 t204 _ A26.out).mono ?_); rintro e w34 ⟨rfl, hb⟩; have n0_ := Aside0.mk (below_step (by repeat (first | (with_reducible first | exact HB.out | apply below_alloc | apply pw_below_drewN | apply below_drew1) | exact HB.out)) hb); clear HB; have HB := n0_; clear n0_; (try clear hb); (try clear hb2); (try clear hk); (try clear hi)))
                go_meet
                case rel => exact ⟨_, ((t204 != 2)), (by first | rfl | (simp; done) | (simp [*]; done)), H', ⟨by have := HJ3.out; first | omega | exact Nat.le_refl _⟩, ⟨by repeat (first | (with_reducible first | exact HB.out | apply below_alloc | apply pw_below_drewN | apply below_drew1) | exact HB.out)⟩⟩
              · rw [if_neg c24] at H
                have c24b0 : (t201 == 2) = false := beq_eq_false_iff_ne.mpr c24
                have c24b1 : (t201 != 2) = true := bne_iff_ne.mpr c24
                exact absurd H (by first | exact headgatelaw08_OrderKnown.no0 _ | exact headgatelaw08_OrderKnown.no1 _ | exact headgatelaw08_OrderKnown.no2 _)
            · rw [if_neg c21] at H
              have c21b0 : (t198 == 13) = false := beq_eq_false_iff_ne.mpr c21
              have c21b1 : (t198 != 13) = true := bne_iff_ne.mpr c21
              exact absurd H (by first | exact headgatelaw08_OrderKnown.no0 _ | exact headgatelaw08_OrderKnown.no1 _ | exact headgatelaw08_OrderKnown.no2 _)
          · rw [if_neg c18] at H
            have c18b0 : (t195 == 0) = false := beq_eq_false_iff_ne.mpr c18
            have c18b1 : (t195 != 0) = true := bne_iff_ne.mpr c18
            (first | rw [c18b0] | (simp only [i64_w, i32_w]; rw [c18b0]) | skip)
            exact absurd H (by first | exact headgatelaw08_OrderKnown.no0 _ | exact headgatelaw08_OrderKnown.no1 _ | exact headgatelaw08_OrderKnown.no2 _)
        case rest =>
          clear HC15
          try clear c1
          try clear c2
          try clear p2
          try clear c6
          try clear c8
          try clear c10
          try clear c11
          try clear c11b0
          try clear c11b1
          try clear c12
          try clear c12b0
          try clear c12b1
          try clear c13
          try clear c13b0
          try clear c13b1
          try clear c14
          try clear c18
          try clear c18b0
          try clear c18b1
          try clear c21
          try clear c21b0
          try clear c21b1
          try clear c24
          try clear c24b0
          try clear c24b1
          try clear c25
          try clear c27
          try clear c28
          try clear p2
          obtain ⟨kq, x66_14, rfl, HA, HJ14, HB⟩ := hcut
          cases kq with
          | zero => exact absurd HA.out (by simp [headgatelaw08_OrderKnown.j1])
          | succ kj14 =>
            have H := HA.out
            clear HA
            simp only [headgatelaw08_OrderKnown.j1] at H
            by_cases c47 : x66_14 = true
            · subst c47
              have H1 : (some false) = some true := by rw [if_pos rfl] at H; exact H
              clear H
              have H := H1
              clear H1
              exact absurd H (by simp)
            · replace c47 := Bool.eq_false_iff.mpr c47
              subst c47
              have H1 : ((headgatelaw08_b.f 8 3).bind fun bt205 => ((order_Buddy.f kj14 bt205.1 bt205.2).bind fun bt207 => ((headgatelaw08_b.f 20 2).bind fun bt211 => ((order_Parent.f kj14 bt211.1 bt211.2).bind fun bt213 => ((headgatelaw08_b.f 0 6).bind fun bt217 => ((order_Buddy.f kj14 bt217.1 bt217.2).bind fun bt219 => ((order_Cut.f kj14 0 256).bind fun bt222 => ((headgatelaw08_b.f 0 3).bind fun bt226 => (if (!(bt207.1 == bt226.1) || (!(bt207.2.1 == bt226.2))) = true then (headgatelaw08_OrderKnown.j2 kj14 true) else ((headgatelaw08_b.f 16 3).bind fun bt228 => (if (!(bt213.1 == bt228.1) || (!(bt213.2.1 == bt228.2))) = true then (headgatelaw08_OrderKnown.j2 kj14 true) else (if bt207.2.2 = 0 then (if bt213.2.2 = 0 then (if bt219.2.2 = 2 then (if bt222.2 = 0 then ((headgatelaw08_b.f 0 6).bind fun bt230 => ((headgatelaw08_b.f 64 6).bind fun bt232 => ((headgatelaw08_b.f 128 6).bind fun bt234 => ((headgatelaw08_b.f 192 6).bind fun bt236 => ((headgatelaw08_same.f kj14 bt222.1 (([(⟨bt230.1, bt230.2⟩ : S32), (⟨bt232.1, bt232.2⟩ : S32), (⟨bt234.1, bt234.2⟩ : S32), (⟨bt236.1, bt236.2⟩ : S32)] : List (S32)))).bind fun t241 => (headgatelaw08_OrderKnown.j2 kj14 (!t241))))))) else (headgatelaw08_OrderKnown.j2 kj14 true)) else (headgatelaw08_OrderKnown.j2 kj14 true)) else (headgatelaw08_OrderKnown.j2 kj14 true)) else (headgatelaw08_OrderKnown.j2 kj14 true))))))))))))) = some true := by rw [if_neg (show ¬ (false = true) by decide)] at H; exact H
              clear H
              have H := H1
              clear H1
              replace H := Option.bind_eq_some_iff.mp H
              obtain ⟨⟨t205, t206⟩, A480, H⟩ := H
              replace H : ((order_Buddy.f kj14 t205 t206).bind fun bt207 => ((headgatelaw08_b.f 20 2).bind fun bt211 => ((order_Parent.f kj14 bt211.1 bt211.2).bind fun bt213 => ((headgatelaw08_b.f 0 6).bind fun bt217 => ((order_Buddy.f kj14 bt217.1 bt217.2).bind fun bt219 => ((order_Cut.f kj14 0 256).bind fun bt222 => ((headgatelaw08_b.f 0 3).bind fun bt226 => (if (!(bt207.1 == bt226.1) || (!(bt207.2.1 == bt226.2))) = true then (headgatelaw08_OrderKnown.j2 kj14 true) else ((headgatelaw08_b.f 16 3).bind fun bt228 => (if (!(bt213.1 == bt228.1) || (!(bt213.2.1 == bt228.2))) = true then (headgatelaw08_OrderKnown.j2 kj14 true) else (if bt207.2.2 = 0 then (if bt213.2.2 = 0 then (if bt219.2.2 = 2 then (if bt222.2 = 0 then ((headgatelaw08_b.f 0 6).bind fun bt230 => ((headgatelaw08_b.f 64 6).bind fun bt232 => ((headgatelaw08_b.f 128 6).bind fun bt234 => ((headgatelaw08_b.f 192 6).bind fun bt236 => ((headgatelaw08_same.f kj14 bt222.1 (([(⟨bt230.1, bt230.2⟩ : S32), (⟨bt232.1, bt232.2⟩ : S32), (⟨bt234.1, bt234.2⟩ : S32), (⟨bt236.1, bt236.2⟩ : S32)] : List (S32)))).bind fun t241 => (headgatelaw08_OrderKnown.j2 kj14 (!t241))))))) else (headgatelaw08_OrderKnown.j2 kj14 true)) else (headgatelaw08_OrderKnown.j2 kj14 true)) else (headgatelaw08_OrderKnown.j2 kj14 true)) else (headgatelaw08_OrderKnown.j2 kj14 true)))))))))))) = some true := H
              have A48 := Aside0.mk A480
              clear A480
              replace H := Option.bind_eq_some_iff.mp H
              obtain ⟨⟨t207, t208, t209⟩, A490, H⟩ := H
              replace H : ((headgatelaw08_b.f 20 2).bind fun bt211 => ((order_Parent.f kj14 bt211.1 bt211.2).bind fun bt213 => ((headgatelaw08_b.f 0 6).bind fun bt217 => ((order_Buddy.f kj14 bt217.1 bt217.2).bind fun bt219 => ((order_Cut.f kj14 0 256).bind fun bt222 => ((headgatelaw08_b.f 0 3).bind fun bt226 => (if (!(t207 == bt226.1) || (!(t208 == bt226.2))) = true then (headgatelaw08_OrderKnown.j2 kj14 true) else ((headgatelaw08_b.f 16 3).bind fun bt228 => (if (!(bt213.1 == bt228.1) || (!(bt213.2.1 == bt228.2))) = true then (headgatelaw08_OrderKnown.j2 kj14 true) else (if t209 = 0 then (if bt213.2.2 = 0 then (if bt219.2.2 = 2 then (if bt222.2 = 0 then ((headgatelaw08_b.f 0 6).bind fun bt230 => ((headgatelaw08_b.f 64 6).bind fun bt232 => ((headgatelaw08_b.f 128 6).bind fun bt234 => ((headgatelaw08_b.f 192 6).bind fun bt236 => ((headgatelaw08_same.f kj14 bt222.1 (([(⟨bt230.1, bt230.2⟩ : S32), (⟨bt232.1, bt232.2⟩ : S32), (⟨bt234.1, bt234.2⟩ : S32), (⟨bt236.1, bt236.2⟩ : S32)] : List (S32)))).bind fun t241 => (headgatelaw08_OrderKnown.j2 kj14 (!t241))))))) else (headgatelaw08_OrderKnown.j2 kj14 true)) else (headgatelaw08_OrderKnown.j2 kj14 true)) else (headgatelaw08_OrderKnown.j2 kj14 true)) else (headgatelaw08_OrderKnown.j2 kj14 true))))))))))) = some true := H
              have A49 := Aside0.mk A490
              clear A490
              replace H := Option.bind_eq_some_iff.mp H
              obtain ⟨⟨t211, t212⟩, A500, H⟩ := H
              replace H : ((order_Parent.f kj14 t211 t212).bind fun bt213 => ((headgatelaw08_b.f 0 6).bind fun bt217 => ((order_Buddy.f kj14 bt217.1 bt217.2).bind fun bt219 => ((order_Cut.f kj14 0 256).bind fun bt222 => ((headgatelaw08_b.f 0 3).bind fun bt226 => (if (!(t207 == bt226.1) || (!(t208 == bt226.2))) = true then (headgatelaw08_OrderKnown.j2 kj14 true) else ((headgatelaw08_b.f 16 3).bind fun bt228 => (if (!(bt213.1 == bt228.1) || (!(bt213.2.1 == bt228.2))) = true then (headgatelaw08_OrderKnown.j2 kj14 true) else (if t209 = 0 then (if bt213.2.2 = 0 then (if bt219.2.2 = 2 then (if bt222.2 = 0 then ((headgatelaw08_b.f 0 6).bind fun bt230 => ((headgatelaw08_b.f 64 6).bind fun bt232 => ((headgatelaw08_b.f 128 6).bind fun bt234 => ((headgatelaw08_b.f 192 6).bind fun bt236 => ((headgatelaw08_same.f kj14 bt222.1 (([(⟨bt230.1, bt230.2⟩ : S32), (⟨bt232.1, bt232.2⟩ : S32), (⟨bt234.1, bt234.2⟩ : S32), (⟨bt236.1, bt236.2⟩ : S32)] : List (S32)))).bind fun t241 => (headgatelaw08_OrderKnown.j2 kj14 (!t241))))))) else (headgatelaw08_OrderKnown.j2 kj14 true)) else (headgatelaw08_OrderKnown.j2 kj14 true)) else (headgatelaw08_OrderKnown.j2 kj14 true)) else (headgatelaw08_OrderKnown.j2 kj14 true)))))))))) = some true := H
              have A50 := Aside0.mk A500
              clear A500
              replace H := Option.bind_eq_some_iff.mp H
              obtain ⟨⟨t213, t214, t215⟩, A510, H⟩ := H
              replace H : ((headgatelaw08_b.f 0 6).bind fun bt217 => ((order_Buddy.f kj14 bt217.1 bt217.2).bind fun bt219 => ((order_Cut.f kj14 0 256).bind fun bt222 => ((headgatelaw08_b.f 0 3).bind fun bt226 => (if (!(t207 == bt226.1) || (!(t208 == bt226.2))) = true then (headgatelaw08_OrderKnown.j2 kj14 true) else ((headgatelaw08_b.f 16 3).bind fun bt228 => (if (!(t213 == bt228.1) || (!(t214 == bt228.2))) = true then (headgatelaw08_OrderKnown.j2 kj14 true) else (if t209 = 0 then (if t215 = 0 then (if bt219.2.2 = 2 then (if bt222.2 = 0 then ((headgatelaw08_b.f 0 6).bind fun bt230 => ((headgatelaw08_b.f 64 6).bind fun bt232 => ((headgatelaw08_b.f 128 6).bind fun bt234 => ((headgatelaw08_b.f 192 6).bind fun bt236 => ((headgatelaw08_same.f kj14 bt222.1 (([(⟨bt230.1, bt230.2⟩ : S32), (⟨bt232.1, bt232.2⟩ : S32), (⟨bt234.1, bt234.2⟩ : S32), (⟨bt236.1, bt236.2⟩ : S32)] : List (S32)))).bind fun t241 => (headgatelaw08_OrderKnown.j2 kj14 (!t241))))))) else (headgatelaw08_OrderKnown.j2 kj14 true)) else (headgatelaw08_OrderKnown.j2 kj14 true)) else (headgatelaw08_OrderKnown.j2 kj14 true)) else (headgatelaw08_OrderKnown.j2 kj14 true))))))))) = some true := H
              have A51 := Aside0.mk A510
              clear A510
              replace H := Option.bind_eq_some_iff.mp H
              obtain ⟨⟨t217, t218⟩, A520, H⟩ := H
              replace H : ((order_Buddy.f kj14 t217 t218).bind fun bt219 => ((order_Cut.f kj14 0 256).bind fun bt222 => ((headgatelaw08_b.f 0 3).bind fun bt226 => (if (!(t207 == bt226.1) || (!(t208 == bt226.2))) = true then (headgatelaw08_OrderKnown.j2 kj14 true) else ((headgatelaw08_b.f 16 3).bind fun bt228 => (if (!(t213 == bt228.1) || (!(t214 == bt228.2))) = true then (headgatelaw08_OrderKnown.j2 kj14 true) else (if t209 = 0 then (if t215 = 0 then (if bt219.2.2 = 2 then (if bt222.2 = 0 then ((headgatelaw08_b.f 0 6).bind fun bt230 => ((headgatelaw08_b.f 64 6).bind fun bt232 => ((headgatelaw08_b.f 128 6).bind fun bt234 => ((headgatelaw08_b.f 192 6).bind fun bt236 => ((headgatelaw08_same.f kj14 bt222.1 (([(⟨bt230.1, bt230.2⟩ : S32), (⟨bt232.1, bt232.2⟩ : S32), (⟨bt234.1, bt234.2⟩ : S32), (⟨bt236.1, bt236.2⟩ : S32)] : List (S32)))).bind fun t241 => (headgatelaw08_OrderKnown.j2 kj14 (!t241))))))) else (headgatelaw08_OrderKnown.j2 kj14 true)) else (headgatelaw08_OrderKnown.j2 kj14 true)) else (headgatelaw08_OrderKnown.j2 kj14 true)) else (headgatelaw08_OrderKnown.j2 kj14 true)))))))) = some true := H
              have A52 := Aside0.mk A520
              clear A520
              replace H := Option.bind_eq_some_iff.mp H
              obtain ⟨⟨t219, t220, t221⟩, A530, H⟩ := H
              replace H : ((order_Cut.f kj14 0 256).bind fun bt222 => ((headgatelaw08_b.f 0 3).bind fun bt226 => (if (!(t207 == bt226.1) || (!(t208 == bt226.2))) = true then (headgatelaw08_OrderKnown.j2 kj14 true) else ((headgatelaw08_b.f 16 3).bind fun bt228 => (if (!(t213 == bt228.1) || (!(t214 == bt228.2))) = true then (headgatelaw08_OrderKnown.j2 kj14 true) else (if t209 = 0 then (if t215 = 0 then (if t221 = 2 then (if bt222.2 = 0 then ((headgatelaw08_b.f 0 6).bind fun bt230 => ((headgatelaw08_b.f 64 6).bind fun bt232 => ((headgatelaw08_b.f 128 6).bind fun bt234 => ((headgatelaw08_b.f 192 6).bind fun bt236 => ((headgatelaw08_same.f kj14 bt222.1 (([(⟨bt230.1, bt230.2⟩ : S32), (⟨bt232.1, bt232.2⟩ : S32), (⟨bt234.1, bt234.2⟩ : S32), (⟨bt236.1, bt236.2⟩ : S32)] : List (S32)))).bind fun t241 => (headgatelaw08_OrderKnown.j2 kj14 (!t241))))))) else (headgatelaw08_OrderKnown.j2 kj14 true)) else (headgatelaw08_OrderKnown.j2 kj14 true)) else (headgatelaw08_OrderKnown.j2 kj14 true)) else (headgatelaw08_OrderKnown.j2 kj14 true))))))) = some true := H
              have A53 := Aside0.mk A530
              clear A530
              replace H := Option.bind_eq_some_iff.mp H
              obtain ⟨⟨t222, t223⟩, A540, H⟩ := H
              replace H : ((headgatelaw08_b.f 0 3).bind fun bt226 => (if (!(t207 == bt226.1) || (!(t208 == bt226.2))) = true then (headgatelaw08_OrderKnown.j2 kj14 true) else ((headgatelaw08_b.f 16 3).bind fun bt228 => (if (!(t213 == bt228.1) || (!(t214 == bt228.2))) = true then (headgatelaw08_OrderKnown.j2 kj14 true) else (if t209 = 0 then (if t215 = 0 then (if t221 = 2 then (if t223 = 0 then ((headgatelaw08_b.f 0 6).bind fun bt230 => ((headgatelaw08_b.f 64 6).bind fun bt232 => ((headgatelaw08_b.f 128 6).bind fun bt234 => ((headgatelaw08_b.f 192 6).bind fun bt236 => ((headgatelaw08_same.f kj14 t222 (([(⟨bt230.1, bt230.2⟩ : S32), (⟨bt232.1, bt232.2⟩ : S32), (⟨bt234.1, bt234.2⟩ : S32), (⟨bt236.1, bt236.2⟩ : S32)] : List (S32)))).bind fun t241 => (headgatelaw08_OrderKnown.j2 kj14 (!t241))))))) else (headgatelaw08_OrderKnown.j2 kj14 true)) else (headgatelaw08_OrderKnown.j2 kj14 true)) else (headgatelaw08_OrderKnown.j2 kj14 true)) else (headgatelaw08_OrderKnown.j2 kj14 true)))))) = some true := H
              have A54 := Aside0.mk A540
              clear A540
              have HC55 := Aside0.mk H
              clear H
              go_upto_region 12 with (first | ((with_reducible refine gate_callee (f := 14) rfl ?_); refine goesL_ (some 68) rfl rfl Try.func14 (by kernel_rfl) rfl #[.int .i64 8, .int .i64 3] rfl (by (try simp only [List.map_toArray, List.map_cons, List.map_nil]); first | done | rfl | (simp only [List.length_drop, List.length_take]; rfl)) ?_; (with_reducible refine (headgatelaw08_b.calls 8 3 t205 t206 _ A48.out).mono ?_); rintro e w56 ⟨rfl, hb⟩; refine ⟨_, rfl, ?_⟩; have n0_ := Aside0.mk (below_step (by repeat (first | (with_reducible first | exact HB.out | apply below_alloc | apply pw_below_drewN | apply below_drew1) | exact HB.out)) hb); clear HB; have HB := n0_; clear n0_; (try clear hb); (try clear hb2); (try clear hk); (try clear hi)) | ((with_reducible refine gate_callee (f := 15) rfl ?_); refine goesL_ (some 69) rfl rfl Try.func15 (by kernel_rfl) rfl #[.agg #[.int .i64 t205, .int .i64 t206]] rfl (by (try simp only [List.map_toArray, List.map_cons, List.map_nil]); first | done | rfl | (simp only [List.length_drop, List.length_take]; rfl)) ?_; (with_reducible refine (order_Buddy.calls kj14 t205 t206 t207 t208 t209 _ A49.out).mono ?_); rintro e w57 ⟨rfl, hb⟩; refine ⟨_, rfl, ?_⟩; have n0_ := Aside0.mk (below_step (by repeat (first | (with_reducible first | exact HB.out | apply below_alloc | apply pw_below_drewN | apply below_drew1) | exact HB.out)) hb); clear HB; have HB := n0_; clear n0_; (try clear hb); (try clear hb2); (try clear hk); (try clear hi)) | ((with_reducible refine gate_dst (N := 7) rfl ?_); (try (refine gate_guard (by rfl) ?_; dsimp only)); refine box_event ?hg (N := 7) ?hd (cs := #[.int .i64 0, .int .i64 0]) (t := 32) ?hr ?_; (case hd => rfl); (case hg => rfl); (case hr => first | (go_simp; done) | (go_simp; rfl)); intro gb210 hg w58 hbox hb; have n0_ := Aside0.mk (below_step (by repeat (first | (with_reducible first | exact HB.out | apply below_alloc | apply pw_below_drewN | apply below_drew1) | exact HB.out)) hb); have n1_ := Aside0.mk (hbox); have n2_ := Aside0.mk ((by rw [hg]; exact (below_size (by repeat (first | (with_reducible first | exact HB.out | apply below_alloc | apply pw_below_drewN | apply below_drew1) | exact HB.out))) : w.heap.size ≤ gb210)); have n3_ := Aside0.mk ((by rw [hg]; exact (below_size (by repeat (first | (with_reducible first | exact HB.out | apply below_alloc | apply pw_below_drewN | apply below_drew1) | exact HB.out))) : w.heap.size ≤ gb210)); clear HB; have HB := n0_; have BK210 := n1_; have GW210 := n2_; have GE210 := n3_; clear n0_ n1_ n2_ n3_; clear hb hbox hg; have hcz59_0 : w58.cell? ⟨gb210, 0, none⟩ = some (.int .i64 0) := (blk_cell BK210.out 0).trans rfl; have hcz59_1 : w58.cell? ⟨gb210, 1, none⟩ = some (.int .i64 0) := (blk_cell BK210.out 1).trans rfl; have hfz59_0 := blk_frozen BK210.out 0; have hfz59_1 := blk_frozen BK210.out 1) | ((with_reducible refine gate_callee (f := 14) rfl ?_); refine goesL_ (some 73) rfl rfl Try.func14 (by kernel_rfl) rfl #[.int .i64 20, .int .i64 2] rfl (by (try simp only [List.map_toArray, List.map_cons, List.map_nil]); first | done | rfl | (simp only [List.length_drop, List.length_take]; rfl)) ?_; (with_reducible refine (headgatelaw08_b.calls 20 2 t211 t212 _ A50.out).mono ?_); rintro e w60 ⟨rfl, hb⟩; refine ⟨_, rfl, ?_⟩; have n0_ := Aside0.mk (blk_below (g := gb210) (o := .cells #[.int .i64 t207, .int .i64 t208] 32 (0, 0)) (by (with_reducible repeat (first | refine blk_drewN ?_ _ | refine blk_drew ?_ | refine blk_alloc ?_ _)); refine blk_put (cs := #[.int .i64 t207, .int .i64 0]) ?_ 1 _ rfl; (with_reducible repeat (first | refine blk_drewN ?_ _ | refine blk_drew ?_ | refine blk_alloc ?_ _)); refine blk_put (cs := #[.int .i64 0, .int .i64 0]) ?_ 0 _ rfl; (with_reducible repeat (first | refine blk_drewN ?_ _ | refine blk_drew ?_ | refine blk_alloc ?_ _)); exact BK210.out) hb); have n1_ := Aside0.mk (below_step (by repeat (first | (with_reducible first | exact HB.out | apply below_alloc | apply pw_below_drewN | apply below_drew1 | refine below_set ?_ GE210.out) | exact HB.out)) hb); clear BK210; clear HB; have BK210 := n0_; have HB := n1_; clear n0_ n1_; (try clear hb); (try clear hb2); (try clear hk); (try clear hi)) | ((with_reducible refine gate_callee (f := 16) rfl ?_); refine goesL_ (some 74) rfl rfl Try.func16 (by kernel_rfl) rfl #[.agg #[.int .i64 t211, .int .i64 t212]] rfl (by (try simp only [List.map_toArray, List.map_cons, List.map_nil]); first | done | rfl | (simp only [List.length_drop, List.length_take]; rfl)) ?_; (with_reducible refine (order_Parent.calls kj14 t211 t212 t213 t214 t215 _ A51.out).mono ?_); rintro e w61 ⟨rfl, hb⟩; refine ⟨_, rfl, ?_⟩; have n0_ := Aside0.mk (blk_below (g := gb210) (o := .cells #[.int .i64 t207, .int .i64 t208] 32 (0, 0)) (by (with_reducible repeat (first | refine blk_drewN ?_ _ | refine blk_drew ?_ | refine blk_alloc ?_ _)); exact BK210.out) hb); have n1_ := Aside0.mk (below_step (by repeat (first | (with_reducible first | exact HB.out | apply below_alloc | apply pw_below_drewN | apply below_drew1 | refine below_set ?_ GE210.out) | exact HB.out)) hb); clear BK210; clear HB; have BK210 := n0_; have HB := n1_; clear n0_ n1_; (try clear hb); (try clear hb2); (try clear hk); (try clear hi)) | ((with_reducible refine gate_dst (N := 8) rfl ?_); (try (refine gate_guard (by rfl) ?_; dsimp only)); refine box_event ?hg (N := 8) ?hd (cs := #[.int .i64 0, .int .i64 0]) (t := 32) ?hr ?_; (case hd => rfl); (case hg => rfl); (case hr => first | (go_simp; done) | (go_simp; rfl)); intro gb216 hg w62 hbox hb; have n0_ := Aside0.mk (blk_below (g := gb210) (o := .cells #[.int .i64 t207, .int .i64 t208] 32 (0, 0)) (by (with_reducible repeat (first | refine blk_drewN ?_ _ | refine blk_drew ?_ | refine blk_alloc ?_ _)); exact BK210.out) hb); have n1_ := Aside0.mk (below_step (by repeat (first | (with_reducible first | exact HB.out | apply below_alloc | apply pw_below_drewN | apply below_drew1 | refine below_set ?_ GE210.out) | exact HB.out)) hb); have n2_ := Aside0.mk (hbox); have n3_ := Aside0.mk ((by rw [hg]; exact (below_size (by repeat (first | (with_reducible first | exact HB.out | apply below_alloc | apply pw_below_drewN | apply below_drew1 | refine below_set ?_ GE210.out) | exact HB.out))) : w.heap.size ≤ gb216)); have n4_ := Aside0.mk ((by rw [hg]; exact (below_size (by repeat (first | (with_reducible first | exact HB.out | apply below_alloc | apply pw_below_drewN | apply below_drew1 | refine below_set ?_ GE210.out) | exact HB.out))) : w.heap.size ≤ gb216)); have n5_ := Aside0.mk ((by rw [hg]; exact Nat.ne_of_lt (blk_lt (g := gb210) (o := .cells #[.int .i64 t207, .int .i64 t208] 32 (0, 0)) (by (with_reducible repeat (first | refine blk_drewN ?_ _ | refine blk_drew ?_ | refine blk_alloc ?_ _)); exact BK210.out)) : gb210 ≠ gb216)); have n6_ := Aside0.mk ((by rw [hg]; exact Nat.ne_of_gt (blk_lt (g := gb210) (o := .cells #[.int .i64 t207, .int .i64 t208] 32 (0, 0)) (by (with_reducible repeat (first | refine blk_drewN ?_ _ | refine blk_drew ?_ | refine blk_alloc ?_ _)); exact BK210.out)) : gb216 ≠ gb210)); clear BK210; clear HB; have BK210 := n0_; have HB := n1_; have BK216 := n2_; have GW216 := n3_; have GE216 := n4_; have NB210_216 := n5_; have NB216_210 := n6_; clear n0_ n1_ n2_ n3_ n4_ n5_ n6_; clear hb hbox hg; have hnb63 := NB216_210.out; have hnc63 := NB210_216.out; have hcz64_0 : w62.cell? ⟨gb216, 0, none⟩ = some (.int .i64 0) := (blk_cell BK216.out 0).trans rfl; have hcz64_1 : w62.cell? ⟨gb216, 1, none⟩ = some (.int .i64 0) := (blk_cell BK216.out 1).trans rfl; have hfz64_0 := blk_frozen BK216.out 0; have hfz64_1 := blk_frozen BK216.out 1) | ((with_reducible refine gate_callee (f := 14) rfl ?_); refine goesL_ (some 78) rfl rfl Try.func14 (by kernel_rfl) rfl #[.int .i64 0, .int .i64 6] rfl (by (try simp only [List.map_toArray, List.map_cons, List.map_nil]); first | done | rfl | (simp only [List.length_drop, List.length_take]; rfl)) ?_; (with_reducible refine (headgatelaw08_b.calls 0 6 t217 t218 _ A52.out).mono ?_); rintro e w65 ⟨rfl, hb⟩; refine ⟨_, rfl, ?_⟩; have n0_ := Aside0.mk (blk_below (g := gb210) (o := .cells #[.int .i64 t207, .int .i64 t208] 32 (0, 0)) (by (with_reducible repeat (first | refine blk_drewN ?_ _ | refine blk_drew ?_ | refine blk_alloc ?_ _)); refine blk_far ?_ NB210_216.out _; (with_reducible repeat (first | refine blk_drewN ?_ _ | refine blk_drew ?_ | refine blk_alloc ?_ _)); refine blk_far ?_ NB210_216.out _; (with_reducible repeat (first | refine blk_drewN ?_ _ | refine blk_drew ?_ | refine blk_alloc ?_ _)); exact BK210.out) hb); have n1_ := Aside0.mk (blk_below (g := gb216) (o := .cells #[.int .i64 t213, .int .i64 t214] 32 (0, 0)) (by (with_reducible repeat (first | refine blk_drewN ?_ _ | refine blk_drew ?_ | refine blk_alloc ?_ _)); refine blk_put (cs := #[.int .i64 t213, .int .i64 0]) ?_ 1 _ rfl; (with_reducible repeat (first | refine blk_drewN ?_ _ | refine blk_drew ?_ | refine blk_alloc ?_ _)); refine blk_put (cs := #[.int .i64 0, .int .i64 0]) ?_ 0 _ rfl; (with_reducible repeat (first | refine blk_drewN ?_ _ | refine blk_drew ?_ | refine blk_alloc ?_ _)); exact BK216.out) hb); have n2_ := Aside0.mk (below_step (by repeat (first | (with_reducible first | exact HB.out | apply below_alloc | apply pw_below_drewN | apply below_drew1 | refine below_set ?_ GE210.out | refine below_set ?_ GE216.out) | exact HB.out)) hb); clear BK210; clear BK216; clear HB; have BK210 := n0_; have BK216 := n1_; have HB := n2_; clear n0_ n1_ n2_; (try clear hb); (try clear hb2); (try clear hk); (try clear hi)) | ((with_reducible refine gate_callee (f := 15) rfl ?_); refine goesL_ (some 79) rfl rfl Try.func15 (by kernel_rfl) rfl #[.agg #[.int .i64 t217, .int .i64 t218]] rfl (by (try simp only [List.map_toArray, List.map_cons, List.map_nil]); first | done | rfl | (simp only [List.length_drop, List.length_take]; rfl)) ?_; (with_reducible refine (order_Buddy.calls kj14 t217 t218 t219 t220 t221 _ A53.out).mono ?_); rintro e w66 ⟨rfl, hb⟩; refine ⟨_, rfl, ?_⟩; have n0_ := Aside0.mk (blk_below (g := gb210) (o := .cells #[.int .i64 t207, .int .i64 t208] 32 (0, 0)) (by (with_reducible repeat (first | refine blk_drewN ?_ _ | refine blk_drew ?_ | refine blk_alloc ?_ _)); exact BK210.out) hb); have n1_ := Aside0.mk (blk_below (g := gb216) (o := .cells #[.int .i64 t213, .int .i64 t214] 32 (0, 0)) (by (with_reducible repeat (first | refine blk_drewN ?_ _ | refine blk_drew ?_ | refine blk_alloc ?_ _)); exact BK216.out) hb); have n2_ := Aside0.mk (below_step (by repeat (first | (with_reducible first | exact HB.out | apply below_alloc | apply pw_below_drewN | apply below_drew1 | refine below_set ?_ GE210.out | refine below_set ?_ GE216.out) | exact HB.out)) hb); clear BK210; clear BK216; clear HB; have BK210 := n0_; have BK216 := n1_; have HB := n2_; clear n0_ n1_ n2_; (try clear hb); (try clear hb2); (try clear hk); (try clear hi)) | ((with_reducible refine gate_callee (f := 9) rfl ?_); refine goesL_ (some 83) rfl rfl Try.func9 (by kernel_rfl) rfl #[.int .i64 0, .int .i64 256] rfl (by (try simp only [List.map_toArray, List.map_cons, List.map_nil]); first | done | rfl | (simp only [List.length_drop, List.length_take]; rfl)) ?_; (with_reducible refine (order_Cut.calls kj14 0 256 t222 t223 _ A54.out).mono ?_); rintro e w67 ⟨v224, rfl, ho0, hb⟩; refine ⟨_, rfl, ?_⟩; have n0_ := Aside0.mk (Kd.R_lower (Kd.R_newB (Kd.R_newB ho0 (g := gb210) (o := .cells #[.int .i64 t207, .int .i64 t208] 32 (0, 0)) (by (with_reducible repeat (first | refine blk_drewN ?_ _ | refine blk_drew ?_ | refine blk_alloc ?_ _)); exact BK210.out)) (g := gb216) (o := .cells #[.int .i64 t213, .int .i64 t214] 32 (0, 0)) (by (with_reducible repeat (first | refine blk_drewN ?_ _ | refine blk_drew ?_ | refine blk_alloc ?_ _)); exact BK216.out)) (below_size (by repeat (first | (with_reducible first | exact HB.out | apply below_alloc | apply pw_below_drewN | apply below_drew1 | refine below_set ?_ GE210.out | refine below_set ?_ GE216.out) | exact HB.out)))); have n1_ := Aside0.mk (blk_below (g := gb210) (o := .cells #[.int .i64 t207, .int .i64 t208] 32 (0, 0)) (by (with_reducible repeat (first | refine blk_drewN ?_ _ | refine blk_drew ?_ | refine blk_alloc ?_ _)); exact BK210.out) hb); have n2_ := Aside0.mk (blk_below (g := gb216) (o := .cells #[.int .i64 t213, .int .i64 t214] 32 (0, 0)) (by (with_reducible repeat (first | refine blk_drewN ?_ _ | refine blk_drew ?_ | refine blk_alloc ?_ _)); exact BK216.out) hb); have n3_ := Aside0.mk (below_step (by repeat (first | (with_reducible first | exact HB.out | apply below_alloc | apply pw_below_drewN | apply below_drew1 | refine below_set ?_ GE210.out | refine below_set ?_ GE216.out) | exact HB.out)) hb); clear BK210; clear BK216; clear HB; have HO225 := n0_; have BK210 := n1_; have BK216 := n2_; have HB := n3_; clear n0_ n1_ n2_ n3_; (try clear hb); (try clear hb2); (try clear hk); (try clear hi); (try clear ho0)))
              (try simp only [Act.put, List.setIfInBounds_toArray, List.set_cons_zero, List.set_cons_succ])
              go_cut [119] (fun v119 wc => ∃ (kq : Nat) (x119_54 : Bool), v119 = .bool x119_54 ∧ Aside0 (headgatelaw08_OrderKnown.j2 kq x119_54 = some true) ∧ Aside0 (kq ≤ kj14) ∧ Aside0 (wc.heap[gb210]? = some (.cells #[.int .i64 t207, .int .i64 t208] 32 (0, 0))) ∧ Aside0 (wc.heap[gb216]? = some (.cells #[.int .i64 t213, .int .i64 t214] 32 (0, 0))) ∧ Aside0 (Below w.heap.size w wc))
              case first =>
                have H := HC55.out
                clear HC55
                replace H := Option.bind_eq_some_iff.mp H
                obtain ⟨⟨t226, t227⟩, A680, H⟩ := H
                replace H : (if (!(t207 == t226) || (!(t208 == t227))) = true then (headgatelaw08_OrderKnown.j2 kj14 true) else ((headgatelaw08_b.f 16 3).bind fun bt228 => (if (!(t213 == bt228.1) || (!(t214 == bt228.2))) = true then (headgatelaw08_OrderKnown.j2 kj14 true) else (if t209 = 0 then (if t215 = 0 then (if t221 = 2 then (if t223 = 0 then ((headgatelaw08_b.f 0 6).bind fun bt230 => ((headgatelaw08_b.f 64 6).bind fun bt232 => ((headgatelaw08_b.f 128 6).bind fun bt234 => ((headgatelaw08_b.f 192 6).bind fun bt236 => ((headgatelaw08_same.f kj14 t222 (([(⟨bt230.1, bt230.2⟩ : S32), (⟨bt232.1, bt232.2⟩ : S32), (⟨bt234.1, bt234.2⟩ : S32), (⟨bt236.1, bt236.2⟩ : S32)] : List (S32)))).bind fun t241 => (headgatelaw08_OrderKnown.j2 kj14 (!t241))))))) else (headgatelaw08_OrderKnown.j2 kj14 true)) else (headgatelaw08_OrderKnown.j2 kj14 true)) else (headgatelaw08_OrderKnown.j2 kj14 true)) else (headgatelaw08_OrderKnown.j2 kj14 true))))) = some true := H
                have A68 := Aside0.mk A680
                clear A680
                by_cases c69 : (!(t207 == t226) || (!(t208 == t227))) = true
                · rw [if_pos c69] at H
                  have c69b0 : (!(t207 == t226) || (!(t208 == t227))) = true := c69
                  clear c69
                  (first | rw [c69b0] | (simp only [i64_w, i32_w]; rw [c69b0]) | skip)
                  exact absurd H (by first | exact headgatelaw08_OrderKnown.no0 _ | exact headgatelaw08_OrderKnown.no1 _ | exact headgatelaw08_OrderKnown.no2 _)
                · rw [if_neg c69] at H
                  have c69b0 : (!(t207 == t226) || (!(t208 == t227))) = false := by simpa using c69
                  clear c69
                  (first | rw [c69b0] | (simp only [i64_w, i32_w]; rw [c69b0]) | skip)
                  replace H := Option.bind_eq_some_iff.mp H
                  obtain ⟨⟨t228, t229⟩, A720, H⟩ := H
                  replace H : (if (!(t213 == t228) || (!(t214 == t229))) = true then (headgatelaw08_OrderKnown.j2 kj14 true) else (if t209 = 0 then (if t215 = 0 then (if t221 = 2 then (if t223 = 0 then ((headgatelaw08_b.f 0 6).bind fun bt230 => ((headgatelaw08_b.f 64 6).bind fun bt232 => ((headgatelaw08_b.f 128 6).bind fun bt234 => ((headgatelaw08_b.f 192 6).bind fun bt236 => ((headgatelaw08_same.f kj14 t222 (([(⟨bt230.1, bt230.2⟩ : S32), (⟨bt232.1, bt232.2⟩ : S32), (⟨bt234.1, bt234.2⟩ : S32), (⟨bt236.1, bt236.2⟩ : S32)] : List (S32)))).bind fun t241 => (headgatelaw08_OrderKnown.j2 kj14 (!t241))))))) else (headgatelaw08_OrderKnown.j2 kj14 true)) else (headgatelaw08_OrderKnown.j2 kj14 true)) else (headgatelaw08_OrderKnown.j2 kj14 true)) else (headgatelaw08_OrderKnown.j2 kj14 true))) = some true := H
                  have A72 := Aside0.mk A720
                  clear A720
                  by_cases c73 : (!(t213 == t228) || (!(t214 == t229))) = true
                  · rw [if_pos c73] at H
                    have c73b0 : (!(t213 == t228) || (!(t214 == t229))) = true := c73
                    clear c73
                    exact absurd H (by first | exact headgatelaw08_OrderKnown.no0 _ | exact headgatelaw08_OrderKnown.no1 _ | exact headgatelaw08_OrderKnown.no2 _)
                  · rw [if_neg c73] at H
                    have c73b0 : (!(t213 == t228) || (!(t214 == t229))) = false := by simpa using c73
                    clear c73
                    by_cases c77 : t209 = 0
                    · rw [if_pos c77] at H
                      have c77b0 : (t209 == 0) = true := beq_iff_eq.mpr c77
                      have c77b1 : (t209 != 0) = false := bne_eq_false_iff_eq.mpr c77
                      clear c77
                      by_cases c78 : t215 = 0
                      · rw [if_pos c78] at H
                        have c78b0 : (t215 == 0) = true := beq_iff_eq.mpr c78
                        have c78b1 : (t215 != 0) = false := bne_eq_false_iff_eq.mpr c78
                        clear c78
                        by_cases c79 : t221 = 2
                        · rw [if_pos c79] at H
                          have c79b0 : (t221 == 2) = true := beq_iff_eq.mpr c79
                          have c79b1 : (t221 != 2) = false := bne_eq_false_iff_eq.mpr c79
                          clear c79
                          by_cases c80 : t223 = 0
                          · rw [if_pos c80] at H
                            have c80b0 : (t223 == 0) = true := beq_iff_eq.mpr c80
                            have c80b1 : (t223 != 0) = false := bne_eq_false_iff_eq.mpr c80
                            clear c80
                            replace H := Option.bind_eq_some_iff.mp H
                            obtain ⟨⟨t230, t231⟩, A810, H⟩ := H
                            replace H : ((headgatelaw08_b.f 64 6).bind fun bt232 => ((headgatelaw08_b.f 128 6).bind fun bt234 => ((headgatelaw08_b.f 192 6).bind fun bt236 => ((headgatelaw08_same.f kj14 t222 (([(⟨t230, t231⟩ : S32), (⟨bt232.1, bt232.2⟩ : S32), (⟨bt234.1, bt234.2⟩ : S32), (⟨bt236.1, bt236.2⟩ : S32)] : List (S32)))).bind fun t241 => (headgatelaw08_OrderKnown.j2 kj14 (!t241)))))) = some true := H
                            have A81 := Aside0.mk A810
                            clear A810
                            replace H := Option.bind_eq_some_iff.mp H
                            obtain ⟨⟨t232, t233⟩, A820, H⟩ := H
                            replace H : ((headgatelaw08_b.f 128 6).bind fun bt234 => ((headgatelaw08_b.f 192 6).bind fun bt236 => ((headgatelaw08_same.f kj14 t222 (([(⟨t230, t231⟩ : S32), (⟨t232, t233⟩ : S32), (⟨bt234.1, bt234.2⟩ : S32), (⟨bt236.1, bt236.2⟩ : S32)] : List (S32)))).bind fun t241 => (headgatelaw08_OrderKnown.j2 kj14 (!t241))))) = some true := H
                            have A82 := Aside0.mk A820
                            clear A820
                            replace H := Option.bind_eq_some_iff.mp H
                            obtain ⟨⟨t234, t235⟩, A830, H⟩ := H
                            replace H : ((headgatelaw08_b.f 192 6).bind fun bt236 => ((headgatelaw08_same.f kj14 t222 (([(⟨t230, t231⟩ : S32), (⟨t232, t233⟩ : S32), (⟨t234, t235⟩ : S32), (⟨bt236.1, bt236.2⟩ : S32)] : List (S32)))).bind fun t241 => (headgatelaw08_OrderKnown.j2 kj14 (!t241)))) = some true := H
                            have A83 := Aside0.mk A830
                            clear A830
                            replace H := Option.bind_eq_some_iff.mp H
                            obtain ⟨⟨t236, t237⟩, A840, H⟩ := H
                            replace H : ((headgatelaw08_same.f kj14 t222 (([(⟨t230, t231⟩ : S32), (⟨t232, t233⟩ : S32), (⟨t234, t235⟩ : S32), (⟨t236, t237⟩ : S32)] : List (S32)))).bind fun t241 => (headgatelaw08_OrderKnown.j2 kj14 (!t241))) = some true := H
                            have A84 := Aside0.mk A840
                            clear A840
                            obtain ⟨y238, hy238⟩ : ∃ y_ : List (S32), y_ = (([(⟨t230, t231⟩ : S32), (⟨t232, t233⟩ : S32), (⟨t234, t235⟩ : S32), (⟨t236, t237⟩ : S32)] : List (S32))) := ⟨_, rfl⟩
                            replace H : ((headgatelaw08_same.f kj14 t222 y238).bind fun t241 => (headgatelaw08_OrderKnown.j2 kj14 (!t241))) = some true := by first | (rw [hy238]; with_reducible exact H) | (have H2_ := (Option.bind_some _ _).symm.trans H; rw [hy238]; with_reducible exact H2_) | (have H2_ := (Option.bind_some _ _).symm.trans H; with_reducible exact H2_) | with_reducible exact H | (rw [hy238]; exact H) | exact H
                            have Ny238 := Aside0.mk hy238
                            clear hy238
                            replace H := Option.bind_eq_some_iff.mp H
                            obtain ⟨t241, A850, H⟩ := H
                            replace H : (headgatelaw08_OrderKnown.j2 kj14 (!t241)) = some true := H
                            have A85 := Aside0.mk A850
                            clear A850
                            have H' := Aside0.mk H
                            clear H
                            try go_wp2
                            have n0_ := Aside0.mk (Kd.R_drew HO225.out)
                            have n1_ := Aside0.mk (blk_drew BK210.out)
                            have n2_ := Aside0.mk (blk_drew BK216.out)
                            have n3_ := Aside0.mk (below_drew1 HB.out)
                            clear HO225
                            clear BK210
                            clear BK216
                            clear HB
                            have HO225 := n0_
                            have BK210 := n1_
                            have BK216 := n2_
                            have HB := n3_
                            clear n0_ n1_ n2_ n3_
                            refine start_ (n := 34) (S := fun w' => w'.cell? ⟨gb210, 0, none⟩ = some (.int .i64 t207) ∧ w'.cell? ⟨gb210, 1, none⟩ = some (.int .i64 t208) ∧ w'.cell? ⟨gb216, 0, none⟩ = some (.int .i64 t213) ∧ w'.cell? ⟨gb216, 1, none⟩ = some (.int .i64 t214)) (ds := []) #[false, false, false, false, false, false, false, false, false, false, false, false, false, false, false, false, false, false, false, false, false, false, false, false, false, false, false, false, false, false, false, false, false, false] (by kernel_rfl) rfl rfl ⟨(blk_cell BK210.out 0).trans rfl, (blk_cell BK210.out 1).trans rfl, (blk_cell BK216.out 0).trans rfl, (blk_cell BK216.out 1).trans rfl⟩ (fun hHeld => ?_); refine with_tabW headgatelaw08_OrderKnown.tab12 headgatelaw08_OrderKnown.bits12 (fun HT_ HW_ => ?_)
                            generalize w67.drew = w86 at HO225 BK210 BK216 HB hHeld ⊢
                            refine take_ (i := 0) (N := some 86) (v := ?_) (a' := ?_) #[true, false, false, false, false, false, false, false, false, false, false, false, false, false, false, false, false, false, false, false, false, false, false, false, false, false, false, false, false, false, false, false, false, false] rfl rfl (take_ofW HT_.out HW_.out (by kernel_rfl)) (fun _ _ _ h => h) (Or.inl ⟨by rfl, ?_⟩) hHeld ?_ ?_
                            rotate_left
                            · rintro w' ⟨s0, s1, s2, s3⟩
                              go_simp
                              with_reducible rfl
                            rotate_left
                            · simp only [Act.put, List.setIfInBounds_toArray, List.set_cons_zero, List.set_cons_succ, i64_w, i32_w]
                              rfl
                            refine one_ (i := 1) (N := some 87) #[true, true, false, false, false, false, false, false, false, false, false, false, false, false, false, false, false, false, false, false, false, false, false, false, false, false, false, false, false, false, false, false, false, false] rfl rfl (one_of HT_.out (by kernel_rfl)) (by decide) (fun K hK => ?_)
                            refine goes_ Try.func14 (by kernel_rfl) rfl #[.int .i64 0, .int .i64 3] (by rfl) rfl rfl (by (try simp only [List.map_toArray, List.map_cons, List.map_nil]); first | done | rfl | (simp only [List.length_drop, List.length_take]; rfl)) ?_
                            with_reducible refine (headgatelaw08_b.calls 0 3 t226 t227 _ A68.out).mono ?_
                            rintro e w87 ⟨rfl, hb⟩
                            refine ⟨_, rfl, ?_⟩
                            have n0_ := Aside0.mk (Kd.R_below (by (with_reducible repeat (first | apply Kd.R_alloc | apply Kd.R_drewN | apply Kd.R_drew)); exact HO225.out) hb)
                            have n1_ := Aside0.mk (blk_below (g := gb210) (o := .cells #[.int .i64 t207, .int .i64 t208] 32 (0, 0)) (by (with_reducible repeat (first | refine blk_drewN ?_ _ | refine blk_drew ?_ | refine blk_alloc ?_ _)); exact BK210.out) hb)
                            have n2_ := Aside0.mk (blk_below (g := gb216) (o := .cells #[.int .i64 t213, .int .i64 t214] 32 (0, 0)) (by (with_reducible repeat (first | refine blk_drewN ?_ _ | refine blk_drew ?_ | refine blk_alloc ?_ _)); exact BK216.out) hb)
                            have n3_ := Aside0.mk (below_step (by repeat (first | (with_reducible first | exact HB.out | apply below_alloc | apply pw_below_drewN | apply below_drew1 | refine below_set ?_ GE210.out | refine below_set ?_ GE216.out) | exact HB.out)) hb)
                            clear HO225
                            clear BK210
                            clear BK216
                            clear HB
                            have HO225 := n0_
                            have BK210 := n1_
                            have BK216 := n2_
                            have HB := n3_
                            clear n0_ n1_ n2_ n3_
                            (try clear hb)
                            (try clear hb2)
                            (try clear hk)
                            (try clear hi)
                            refine hK.out _ _ ⟨(blk_cell BK210.out 0).trans rfl, (blk_cell BK210.out 1).trans rfl, (blk_cell BK216.out 0).trans rfl, (blk_cell BK216.out 1).trans rfl⟩ (fun hHeld => ?_)
                            clear hK K
                            refine norm_ (a' := ?_) ?_ ?_
                            rotate_left
                            · show Act.put _ (some 87) _ = _
                              simp only [Act.put, List.setIfInBounds_toArray, List.set_cons_zero, List.set_cons_succ, i64_w, i32_w]
                              rfl
                            refine pure_ (i := 2) (N := some 88) (v := ?_) (a' := ?_) #[true, true, true, false, false, false, false, false, false, false, false, false, false, false, false, false, false, false, false, false, false, false, false, false, false, false, false, false, false, false, false, false, false, false] rfl rfl (any_of HT_.out (by kernel_rfl)) (fun _ _ _ h => h) (Or.inl ⟨by rfl, ?_⟩) ?_ ?_
                            rotate_left
                            · intro w'
                              go_simp
                              with_reducible rfl
                            rotate_left
                            · simp only [Act.put, List.setIfInBounds_toArray, List.set_cons_zero, List.set_cons_succ, i64_w, i32_w]
                              rfl
                            refine pure_ (i := 3) (N := some 89) (v := ?_) (a' := ?_) #[true, true, true, true, false, false, false, false, false, false, false, false, false, false, false, false, false, false, false, false, false, false, false, false, false, false, false, false, false, false, false, false, false, false] rfl rfl (any_of HT_.out (by kernel_rfl)) (fun _ _ _ h => h) (Or.inl ⟨by rfl, ?_⟩) ?_ ?_
                            rotate_left
                            · intro w'
                              go_simp
                              with_reducible rfl
                            rotate_left
                            · simp only [Act.put, List.setIfInBounds_toArray, List.set_cons_zero, List.set_cons_succ, i64_w, i32_w]
                              rfl
                            refine take_ (i := 4) (N := some 90) (v := ?_) (a' := ?_) #[true, true, true, true, true, false, false, false, false, false, false, false, false, false, false, false, false, false, false, false, false, false, false, false, false, false, false, false, false, false, false, false, false, false] rfl rfl (take_ofW HT_.out HW_.out (by kernel_rfl)) (fun _ _ _ h => h) (Or.inl ⟨by rfl, ?_⟩) hHeld ?_ ?_
                            rotate_left
                            · rintro w' ⟨s0, s1, s2, s3⟩
                              go_simp
                              with_reducible rfl
                            rotate_left
                            · simp only [Act.put, List.setIfInBounds_toArray, List.set_cons_zero, List.set_cons_succ, i64_w, i32_w]
                              rfl
                            refine one_ (i := 5) (N := some 91) #[true, true, true, true, true, true, false, false, false, false, false, false, false, false, false, false, false, false, false, false, false, false, false, false, false, false, false, false, false, false, false, false, false, false] rfl rfl (one_of HT_.out (by kernel_rfl)) (by decide) (fun K hK => ?_)
                            refine goes_ Try.func14 (by kernel_rfl) rfl #[.int .i64 16, .int .i64 3] (by rfl) rfl rfl (by (try simp only [List.map_toArray, List.map_cons, List.map_nil]); first | done | rfl | (simp only [List.length_drop, List.length_take]; rfl)) ?_
                            with_reducible refine (headgatelaw08_b.calls 16 3 t228 t229 _ A72.out).mono ?_
                            rintro e w88 ⟨rfl, hb⟩
                            refine ⟨_, rfl, ?_⟩
                            have n0_ := Aside0.mk (Kd.R_below (by (with_reducible repeat (first | apply Kd.R_alloc | apply Kd.R_drewN | apply Kd.R_drew)); exact HO225.out) hb)
                            have n1_ := Aside0.mk (blk_below (g := gb210) (o := .cells #[.int .i64 t207, .int .i64 t208] 32 (0, 0)) (by (with_reducible repeat (first | refine blk_drewN ?_ _ | refine blk_drew ?_ | refine blk_alloc ?_ _)); exact BK210.out) hb)
                            have n2_ := Aside0.mk (blk_below (g := gb216) (o := .cells #[.int .i64 t213, .int .i64 t214] 32 (0, 0)) (by (with_reducible repeat (first | refine blk_drewN ?_ _ | refine blk_drew ?_ | refine blk_alloc ?_ _)); exact BK216.out) hb)
                            have n3_ := Aside0.mk (below_step (by repeat (first | (with_reducible first | exact HB.out | apply below_alloc | apply pw_below_drewN | apply below_drew1 | refine below_set ?_ GE210.out | refine below_set ?_ GE216.out) | exact HB.out)) hb)
                            clear HO225
                            clear BK210
                            clear BK216
                            clear HB
                            have HO225 := n0_
                            have BK210 := n1_
                            have BK216 := n2_
                            have HB := n3_
                            clear n0_ n1_ n2_ n3_
                            (try clear hb)
                            (try clear hb2)
                            (try clear hk)
                            (try clear hi)
                            refine hK.out _ _ ⟨(blk_cell BK210.out 0).trans rfl, (blk_cell BK210.out 1).trans rfl, (blk_cell BK216.out 0).trans rfl, (blk_cell BK216.out 1).trans rfl⟩ (fun hHeld => ?_)
                            clear hK K
                            refine norm_ (a' := ?_) ?_ ?_
                            rotate_left
                            · show Act.put _ (some 91) _ = _
                              simp only [Act.put, List.setIfInBounds_toArray, List.set_cons_zero, List.set_cons_succ, i64_w, i32_w]
                              rfl
                            refine pure_ (i := 6) (N := some 92) (v := ?_) (a' := ?_) #[true, true, true, true, true, true, true, false, false, false, false, false, false, false, false, false, false, false, false, false, false, false, false, false, false, false, false, false, false, false, false, false, false, false] rfl rfl (any_of HT_.out (by kernel_rfl)) (fun _ _ _ h => h) (Or.inl ⟨by rfl, ?_⟩) ?_ ?_
                            rotate_left
                            · intro w'
                              go_simp
                              with_reducible rfl
                            rotate_left
                            · simp only [Act.put, List.setIfInBounds_toArray, List.set_cons_zero, List.set_cons_succ, i64_w, i32_w]
                              rfl
                            refine pure_ (i := 7) (N := some 93) (v := ?_) (a' := ?_) #[true, true, true, true, true, true, true, true, false, false, false, false, false, false, false, false, false, false, false, false, false, false, false, false, false, false, false, false, false, false, false, false, false, false] rfl rfl (any_of HT_.out (by kernel_rfl)) (fun _ _ _ h => h) (Or.inl ⟨by rfl, ?_⟩) ?_ ?_
                            rotate_left
                            · intro w'
                              go_simp
                              with_reducible rfl
                            rotate_left
                            · simp only [Act.put, List.setIfInBounds_toArray, List.set_cons_zero, List.set_cons_succ, i64_w, i32_w]
                              rfl
                            refine pure_ (i := 8) (N := some 94) (v := ?_) (a' := ?_) #[true, true, true, true, true, true, true, true, true, false, false, false, false, false, false, false, false, false, false, false, false, false, false, false, false, false, false, false, false, false, false, false, false, false] rfl rfl (any_of HT_.out (by kernel_rfl)) (fun _ _ _ h => h) (Or.inl ⟨by rfl, ?_⟩) ?_ ?_
                            rotate_left
                            · intro w'
                              go_simp
                              with_reducible rfl
                            rotate_left
                            · simp only [Act.put, List.setIfInBounds_toArray, List.set_cons_zero, List.set_cons_succ, i64_w, i32_w]
                              rfl
                            refine pure_ (i := 9) (N := some 95) (v := ?_) (a' := ?_) #[true, true, true, true, true, true, true, true, true, true, false, false, false, false, false, false, false, false, false, false, false, false, false, false, false, false, false, false, false, false, false, false, false, false] rfl rfl (any_of HT_.out (by kernel_rfl)) (fun _ _ _ h => h) (Or.inl ⟨by rfl, ?_⟩) ?_ ?_
                            rotate_left
                            · intro w'
                              go_simp
                              with_reducible rfl
                            rotate_left
                            · simp only [Act.put, List.setIfInBounds_toArray, List.set_cons_zero, List.set_cons_succ, i64_w, i32_w]
                              rfl
                            refine pure_ (i := 10) (N := some 96) (v := ?_) (a' := ?_) #[true, true, true, true, true, true, true, true, true, true, true, false, false, false, false, false, false, false, false, false, false, false, false, false, false, false, false, false, false, false, false, false, false, false] rfl rfl (any_of HT_.out (by kernel_rfl)) (fun _ _ _ h => h) (Or.inl ⟨by rfl, ?_⟩) ?_ ?_
                            rotate_left
                            · intro w'
                              go_simp
                              with_reducible rfl
                            rotate_left
                            · simp only [Act.put, List.setIfInBounds_toArray, List.set_cons_zero, List.set_cons_succ, i64_w, i32_w]
                              rfl
                            refine pure_ (i := 11) (N := some 97) (v := ?_) (a' := ?_) #[true, true, true, true, true, true, true, true, true, true, true, true, false, false, false, false, false, false, false, false, false, false, false, false, false, false, false, false, false, false, false, false, false, false] rfl rfl (any_of HT_.out (by kernel_rfl)) (fun _ _ _ h => h) (Or.inl ⟨by rfl, ?_⟩) ?_ ?_
                            rotate_left
                            · intro w'
                              go_simp
                              with_reducible rfl
                            rotate_left
                            · simp only [Act.put, List.setIfInBounds_toArray, List.set_cons_zero, List.set_cons_succ, i64_w, i32_w]
                              rfl
                            refine pure_ (i := 12) (N := some 98) (v := ?_) (a' := ?_) #[true, true, true, true, true, true, true, true, true, true, true, true, true, false, false, false, false, false, false, false, false, false, false, false, false, false, false, false, false, false, false, false, false, false] rfl rfl (any_of HT_.out (by kernel_rfl)) (fun _ _ _ h => h) (Or.inl ⟨by rfl, ?_⟩) ?_ ?_
                            rotate_left
                            · intro w'
                              go_simp
                              with_reducible rfl
                            rotate_left
                            · simp only [Act.put, List.setIfInBounds_toArray, List.set_cons_zero, List.set_cons_succ, i64_w, i32_w]
                              rfl
                            refine pure_ (i := 13) (N := some 99) (v := ?_) (a' := ?_) #[true, true, true, true, true, true, true, true, true, true, true, true, true, true, false, false, false, false, false, false, false, false, false, false, false, false, false, false, false, false, false, false, false, false] rfl rfl (any_of HT_.out (by kernel_rfl)) (fun _ _ _ h => h) (Or.inl ⟨by rfl, ?_⟩) ?_ ?_
                            rotate_left
                            · intro w'
                              go_simp
                              with_reducible rfl
                            rotate_left
                            · simp only [Act.put, List.setIfInBounds_toArray, List.set_cons_zero, List.set_cons_succ, i64_w, i32_w]
                              rfl
                            refine pure_ (i := 14) (N := some 100) (v := ?_) (a' := ?_) #[true, true, true, true, true, true, true, true, true, true, true, true, true, true, true, false, false, false, false, false, false, false, false, false, false, false, false, false, false, false, false, false, false, false] rfl rfl (any_of HT_.out (by kernel_rfl)) (fun _ _ _ h => h) (Or.inl ⟨by rfl, ?_⟩) ?_ ?_
                            rotate_left
                            · intro w'
                              go_simp
                              with_reducible rfl
                            rotate_left
                            · simp only [Act.put, List.setIfInBounds_toArray, List.set_cons_zero, List.set_cons_succ, i64_w, i32_w]
                              rfl
                            refine pure_ (i := 15) (N := some 101) (v := ?_) (a' := ?_) #[true, true, true, true, true, true, true, true, true, true, true, true, true, true, true, true, false, false, false, false, false, false, false, false, false, false, false, false, false, false, false, false, false, false] rfl rfl (any_of HT_.out (by kernel_rfl)) (fun _ _ _ h => h) (Or.inl ⟨by rfl, ?_⟩) ?_ ?_
                            rotate_left
                            · intro w'
                              go_simp
                              with_reducible rfl
                            rotate_left
                            · simp only [Act.put, List.setIfInBounds_toArray, List.set_cons_zero, List.set_cons_succ, i64_w, i32_w]
                              rfl
                            refine pure_ (i := 16) (N := some 102) (v := ?_) (a' := ?_) #[true, true, true, true, true, true, true, true, true, true, true, true, true, true, true, true, true, false, false, false, false, false, false, false, false, false, false, false, false, false, false, false, false, false] rfl rfl (any_of HT_.out (by kernel_rfl)) (fun _ _ _ h => h) (Or.inl ⟨by rfl, ?_⟩) ?_ ?_
                            rotate_left
                            · intro w'
                              go_simp
                              with_reducible rfl
                            rotate_left
                            · simp only [Act.put, List.setIfInBounds_toArray, List.set_cons_zero, List.set_cons_succ, i64_w, i32_w]
                              rfl
                            refine pure_ (i := 17) (N := some 103) (v := ?_) (a' := ?_) #[true, true, true, true, true, true, true, true, true, true, true, true, true, true, true, true, true, true, false, false, false, false, false, false, false, false, false, false, false, false, false, false, false, false] rfl rfl (any_of HT_.out (by kernel_rfl)) (fun _ _ _ h => h) (Or.inl ⟨by rfl, ?_⟩) ?_ ?_
                            rotate_left
                            · intro w'
                              go_simp
                              with_reducible rfl
                            rotate_left
                            · simp only [Act.put, List.setIfInBounds_toArray, List.set_cons_zero, List.set_cons_succ, i64_w, i32_w]
                              rfl
                            refine pure_ (i := 18) (N := some 104) (v := ?_) (a' := ?_) #[true, true, true, true, true, true, true, true, true, true, true, true, true, true, true, true, true, true, true, false, false, false, false, false, false, false, false, false, false, false, false, false, false, false] rfl rfl (any_of HT_.out (by kernel_rfl)) (fun _ _ _ h => h) (Or.inl ⟨by rfl, ?_⟩) ?_ ?_
                            rotate_left
                            · intro w'
                              go_simp
                              with_reducible rfl
                            rotate_left
                            · simp only [Act.put, List.setIfInBounds_toArray, List.set_cons_zero, List.set_cons_succ, i64_w, i32_w]
                              rfl
                            refine pure_ (i := 19) (N := some 105) (v := ?_) (a' := ?_) #[true, true, true, true, true, true, true, true, true, true, true, true, true, true, true, true, true, true, true, true, false, false, false, false, false, false, false, false, false, false, false, false, false, false] rfl rfl (any_of HT_.out (by kernel_rfl)) (fun _ _ _ h => h) (Or.inl ⟨by rfl, ?_⟩) ?_ ?_
                            rotate_left
                            · intro w'
                              go_simp
                              with_reducible rfl
                            rotate_left
                            · simp only [Act.put, List.setIfInBounds_toArray, List.set_cons_zero, List.set_cons_succ, i64_w, i32_w]
                              rfl
                            refine pure_ (i := 20) (N := some 106) (v := ?_) (a' := ?_) #[true, true, true, true, true, true, true, true, true, true, true, true, true, true, true, true, true, true, true, true, true, false, false, false, false, false, false, false, false, false, false, false, false, false] rfl rfl (any_of HT_.out (by kernel_rfl)) (fun _ _ _ h => h) (Or.inl ⟨by rfl, ?_⟩) ?_ ?_
                            rotate_left
                            · intro w'
                              go_simp
                              with_reducible rfl
                            rotate_left
                            · simp only [Act.put, List.setIfInBounds_toArray, List.set_cons_zero, List.set_cons_succ, i64_w, i32_w]
                              rfl
                            refine pure_ (i := 21) (N := some 107) (v := ?_) (a' := ?_) #[true, true, true, true, true, true, true, true, true, true, true, true, true, true, true, true, true, true, true, true, true, true, false, false, false, false, false, false, false, false, false, false, false, false] rfl rfl (any_of HT_.out (by kernel_rfl)) (fun _ _ _ h => h) (Or.inl ⟨by rfl, ?_⟩) ?_ ?_
                            rotate_left
                            · intro w'
                              go_simp
                              with_reducible rfl
                            rotate_left
                            · simp only [Act.put, List.setIfInBounds_toArray, List.set_cons_zero, List.set_cons_succ, i64_w, i32_w]
                              rfl
                            refine pure_ (i := 22) (N := some 108) (v := ?_) (a' := ?_) #[true, true, true, true, true, true, true, true, true, true, true, true, true, true, true, true, true, true, true, true, true, true, true, false, false, false, false, false, false, false, false, false, false, false] rfl rfl (any_of HT_.out (by kernel_rfl)) (fun _ _ _ h => h) (Or.inl ⟨by rfl, ?_⟩) ?_ ?_
                            rotate_left
                            · intro w'
                              go_simp
                              with_reducible rfl
                            rotate_left
                            · simp only [Act.put, List.setIfInBounds_toArray, List.set_cons_zero, List.set_cons_succ, i64_w, i32_w]
                              rfl
                            refine pure_ (i := 23) (N := some 109) (v := ?_) (a' := ?_) #[true, true, true, true, true, true, true, true, true, true, true, true, true, true, true, true, true, true, true, true, true, true, true, true, false, false, false, false, false, false, false, false, false, false] rfl rfl (any_of HT_.out (by kernel_rfl)) (fun _ _ _ h => h) (Or.inl ⟨by rfl, ?_⟩) ?_ ?_
                            rotate_left
                            · intro w'
                              go_simp
                              with_reducible rfl
                            rotate_left
                            · simp only [Act.put, List.setIfInBounds_toArray, List.set_cons_zero, List.set_cons_succ, i64_w, i32_w]
                              rfl
                            refine pure_ (i := 24) (N := some 110) (v := ?_) (a' := ?_) #[true, true, true, true, true, true, true, true, true, true, true, true, true, true, true, true, true, true, true, true, true, true, true, true, true, false, false, false, false, false, false, false, false, false] rfl rfl (any_of HT_.out (by kernel_rfl)) (fun _ _ _ h => h) (Or.inl ⟨by rfl, ?_⟩) ?_ ?_
                            rotate_left
                            · intro w'
                              go_simp
                              with_reducible rfl
                            rotate_left
                            · simp only [Act.put, List.setIfInBounds_toArray, List.set_cons_zero, List.set_cons_succ, i64_w, i32_w]
                              rfl
                            refine pure_ (i := 25) (N := some 111) (v := ?_) (a' := ?_) #[true, true, true, true, true, true, true, true, true, true, true, true, true, true, true, true, true, true, true, true, true, true, true, true, true, true, false, false, false, false, false, false, false, false] rfl rfl (any_of HT_.out (by kernel_rfl)) (fun _ _ _ h => h) (Or.inl ⟨by rfl, ?_⟩) ?_ ?_
                            rotate_left
                            · intro w'
                              go_simp
                              with_reducible rfl
                            rotate_left
                            · simp only [Act.put, List.setIfInBounds_toArray, List.set_cons_zero, List.set_cons_succ, i64_w, i32_w]
                              rfl
                            refine one_ (i := 26) (N := some 112) #[true, true, true, true, true, true, true, true, true, true, true, true, true, true, true, true, true, true, true, true, true, true, true, true, true, true, true, false, false, false, false, false, false, false] rfl rfl (one_of HT_.out (by kernel_rfl)) (by decide) (fun K hK => ?_)
                            refine goes_ Try.func14 (by kernel_rfl) rfl #[.int .i64 0, .int .i64 6] (by rfl) rfl rfl (by (try simp only [List.map_toArray, List.map_cons, List.map_nil]); first | done | rfl | (simp only [List.length_drop, List.length_take]; rfl)) ?_
                            with_reducible refine (headgatelaw08_b.calls 0 6 t230 t231 _ A81.out).mono ?_
                            rintro e w89 ⟨rfl, hb⟩
                            refine ⟨_, rfl, ?_⟩
                            have n0_ := Aside0.mk (Kd.R_below (by (with_reducible repeat (first | apply Kd.R_alloc | apply Kd.R_drewN | apply Kd.R_drew)); exact HO225.out) hb)
                            have n1_ := Aside0.mk (blk_below (g := gb210) (o := .cells #[.int .i64 t207, .int .i64 t208] 32 (0, 0)) (by (with_reducible repeat (first | refine blk_drewN ?_ _ | refine blk_drew ?_ | refine blk_alloc ?_ _)); exact BK210.out) hb)
                            have n2_ := Aside0.mk (blk_below (g := gb216) (o := .cells #[.int .i64 t213, .int .i64 t214] 32 (0, 0)) (by (with_reducible repeat (first | refine blk_drewN ?_ _ | refine blk_drew ?_ | refine blk_alloc ?_ _)); exact BK216.out) hb)
                            have n3_ := Aside0.mk (below_step (by repeat (first | (with_reducible first | exact HB.out | apply below_alloc | apply pw_below_drewN | apply below_drew1 | refine below_set ?_ GE210.out | refine below_set ?_ GE216.out) | exact HB.out)) hb)
                            clear HO225
                            clear BK210
                            clear BK216
                            clear HB
                            have HO225 := n0_
                            have BK210 := n1_
                            have BK216 := n2_
                            have HB := n3_
                            clear n0_ n1_ n2_ n3_
                            (try clear hb)
                            (try clear hb2)
                            (try clear hk)
                            (try clear hi)
                            refine hK.out _ _ ⟨(blk_cell BK210.out 0).trans rfl, (blk_cell BK210.out 1).trans rfl, (blk_cell BK216.out 0).trans rfl, (blk_cell BK216.out 1).trans rfl⟩ (fun hHeld => ?_)
                            clear hK K
                            refine norm_ (a' := ?_) ?_ ?_
                            rotate_left
                            · show Act.put _ (some 112) _ = _
                              simp only [Act.put, List.setIfInBounds_toArray, List.set_cons_zero, List.set_cons_succ, i64_w, i32_w]
                              rfl
                            refine one_ (i := 27) (N := some 113) #[true, true, true, true, true, true, true, true, true, true, true, true, true, true, true, true, true, true, true, true, true, true, true, true, true, true, true, true, false, false, false, false, false, false] rfl rfl (one_of HT_.out (by kernel_rfl)) (by decide) (fun K hK => ?_)
                            refine goes_ Try.func14 (by kernel_rfl) rfl #[.int .i64 64, .int .i64 6] (by rfl) rfl rfl (by (try simp only [List.map_toArray, List.map_cons, List.map_nil]); first | done | rfl | (simp only [List.length_drop, List.length_take]; rfl)) ?_
                            with_reducible refine (headgatelaw08_b.calls 64 6 t232 t233 _ A82.out).mono ?_
                            rintro e w90 ⟨rfl, hb⟩
                            refine ⟨_, rfl, ?_⟩
                            have n0_ := Aside0.mk (Kd.R_below (by (with_reducible repeat (first | apply Kd.R_alloc | apply Kd.R_drewN | apply Kd.R_drew)); exact HO225.out) hb)
                            have n1_ := Aside0.mk (blk_below (g := gb210) (o := .cells #[.int .i64 t207, .int .i64 t208] 32 (0, 0)) (by (with_reducible repeat (first | refine blk_drewN ?_ _ | refine blk_drew ?_ | refine blk_alloc ?_ _)); exact BK210.out) hb)
                            have n2_ := Aside0.mk (blk_below (g := gb216) (o := .cells #[.int .i64 t213, .int .i64 t214] 32 (0, 0)) (by (with_reducible repeat (first | refine blk_drewN ?_ _ | refine blk_drew ?_ | refine blk_alloc ?_ _)); exact BK216.out) hb)
                            have n3_ := Aside0.mk (below_step (by repeat (first | (with_reducible first | exact HB.out | apply below_alloc | apply pw_below_drewN | apply below_drew1 | refine below_set ?_ GE210.out | refine below_set ?_ GE216.out) | exact HB.out)) hb)
                            clear HO225
                            clear BK210
                            clear BK216
                            clear HB
                            have HO225 := n0_
                            have BK210 := n1_
                            have BK216 := n2_
                            have HB := n3_
                            clear n0_ n1_ n2_ n3_
                            (try clear hb)
                            (try clear hb2)
                            (try clear hk)
                            (try clear hi)
                            refine hK.out _ _ ⟨(blk_cell BK210.out 0).trans rfl, (blk_cell BK210.out 1).trans rfl, (blk_cell BK216.out 0).trans rfl, (blk_cell BK216.out 1).trans rfl⟩ (fun hHeld => ?_)
                            clear hK K
                            refine norm_ (a' := ?_) ?_ ?_
                            rotate_left
                            · show Act.put _ (some 113) _ = _
                              simp only [Act.put, List.setIfInBounds_toArray, List.set_cons_zero, List.set_cons_succ, i64_w, i32_w]
                              rfl
                            refine one_ (i := 28) (N := some 114) #[true, true, true, true, true, true, true, true, true, true, true, true, true, true, true, true, true, true, true, true, true, true, true, true, true, true, true, true, true, false, false, false, false, false] rfl rfl (one_of HT_.out (by kernel_rfl)) (by decide) (fun K hK => ?_)
                            refine goes_ Try.func14 (by kernel_rfl) rfl #[.int .i64 128, .int .i64 6] (by rfl) rfl rfl (by (try simp only [List.map_toArray, List.map_cons, List.map_nil]); first | done | rfl | (simp only [List.length_drop, List.length_take]; rfl)) ?_
                            with_reducible refine (headgatelaw08_b.calls 128 6 t234 t235 _ A83.out).mono ?_
                            rintro e w91 ⟨rfl, hb⟩
                            refine ⟨_, rfl, ?_⟩
                            have n0_ := Aside0.mk (Kd.R_below (by (with_reducible repeat (first | apply Kd.R_alloc | apply Kd.R_drewN | apply Kd.R_drew)); exact HO225.out) hb)
                            have n1_ := Aside0.mk (blk_below (g := gb210) (o := .cells #[.int .i64 t207, .int .i64 t208] 32 (0, 0)) (by (with_reducible repeat (first | refine blk_drewN ?_ _ | refine blk_drew ?_ | refine blk_alloc ?_ _)); exact BK210.out) hb)
                            have n2_ := Aside0.mk (blk_below (g := gb216) (o := .cells #[.int .i64 t213, .int .i64 t214] 32 (0, 0)) (by (with_reducible repeat (first | refine blk_drewN ?_ _ | refine blk_drew ?_ | refine blk_alloc ?_ _)); exact BK216.out) hb)
                            have n3_ := Aside0.mk (below_step (by repeat (first | (with_reducible first | exact HB.out | apply below_alloc | apply pw_below_drewN | apply below_drew1 | refine below_set ?_ GE210.out | refine below_set ?_ GE216.out) | exact HB.out)) hb)
                            clear HO225
                            clear BK210
                            clear BK216
                            clear HB
                            have HO225 := n0_
                            have BK210 := n1_
                            have BK216 := n2_
                            have HB := n3_
                            clear n0_ n1_ n2_ n3_
                            (try clear hb)
                            (try clear hb2)
                            (try clear hk)
                            (try clear hi)
                            refine hK.out _ _ ⟨(blk_cell BK210.out 0).trans rfl, (blk_cell BK210.out 1).trans rfl, (blk_cell BK216.out 0).trans rfl, (blk_cell BK216.out 1).trans rfl⟩ (fun hHeld => ?_)
                            clear hK K
                            refine norm_ (a' := ?_) ?_ ?_
                            rotate_left
                            · show Act.put _ (some 114) _ = _
                              simp only [Act.put, List.setIfInBounds_toArray, List.set_cons_zero, List.set_cons_succ, i64_w, i32_w]
                              rfl
                            refine one_ (i := 29) (N := some 115) #[true, true, true, true, true, true, true, true, true, true, true, true, true, true, true, true, true, true, true, true, true, true, true, true, true, true, true, true, true, true, false, false, false, false] rfl rfl (one_of HT_.out (by kernel_rfl)) (by decide) (fun K hK => ?_)
                            refine goes_ Try.func14 (by kernel_rfl) rfl #[.int .i64 192, .int .i64 6] (by rfl) rfl rfl (by (try simp only [List.map_toArray, List.map_cons, List.map_nil]); first | done | rfl | (simp only [List.length_drop, List.length_take]; rfl)) ?_
                            with_reducible refine (headgatelaw08_b.calls 192 6 t236 t237 _ A84.out).mono ?_
                            rintro e w92 ⟨rfl, hb⟩
                            refine ⟨_, rfl, ?_⟩
                            have n0_ := Aside0.mk (Kd.R_below (by (with_reducible repeat (first | apply Kd.R_alloc | apply Kd.R_drewN | apply Kd.R_drew)); exact HO225.out) hb)
                            have n1_ := Aside0.mk (blk_below (g := gb210) (o := .cells #[.int .i64 t207, .int .i64 t208] 32 (0, 0)) (by (with_reducible repeat (first | refine blk_drewN ?_ _ | refine blk_drew ?_ | refine blk_alloc ?_ _)); exact BK210.out) hb)
                            have n2_ := Aside0.mk (blk_below (g := gb216) (o := .cells #[.int .i64 t213, .int .i64 t214] 32 (0, 0)) (by (with_reducible repeat (first | refine blk_drewN ?_ _ | refine blk_drew ?_ | refine blk_alloc ?_ _)); exact BK216.out) hb)
                            have n3_ := Aside0.mk (below_step (by repeat (first | (with_reducible first | exact HB.out | apply below_alloc | apply pw_below_drewN | apply below_drew1 | refine below_set ?_ GE210.out | refine below_set ?_ GE216.out) | exact HB.out)) hb)
                            clear HO225
                            clear BK210
                            clear BK216
                            clear HB
                            have HO225 := n0_
                            have BK210 := n1_
                            have BK216 := n2_
                            have HB := n3_
                            clear n0_ n1_ n2_ n3_
                            (try clear hb)
                            (try clear hb2)
                            (try clear hk)
                            (try clear hi)
                            refine hK.out _ _ ⟨(blk_cell BK210.out 0).trans rfl, (blk_cell BK210.out 1).trans rfl, (blk_cell BK216.out 0).trans rfl, (blk_cell BK216.out 1).trans rfl⟩ (fun hHeld => ?_)
                            clear hK K
                            refine norm_ (a' := ?_) ?_ ?_
                            rotate_left
                            · show Act.put _ (some 115) _ = _
                              simp only [Act.put, List.setIfInBounds_toArray, List.set_cons_zero, List.set_cons_succ, i64_w, i32_w]
                              rfl
                            refine one_ (i := 30) (N := some 116) #[true, true, true, true, true, true, true, true, true, true, true, true, true, true, true, true, true, true, true, true, true, true, true, true, true, true, true, true, true, true, true, false, false, false] rfl rfl (one_of HT_.out (by kernel_rfl)) (by decide) (fun K hK => ?_)
                            refine Kd.R_lit_step k32 _ 32 ?hg (N := 116) ?hd (xs := ([(⟨t230, t231⟩ : S32), (⟨t232, t233⟩ : S32), (⟨t234, t235⟩ : S32), (⟨t236, t237⟩ : S32)] : List (S32))) (inner := [.int .i64 t230, .int .i64 t231, .int .i64 t232, .int .i64 t233, .int .i64 t234, .int .i64 t235, .int .i64 t236, .int .i64 t237]) (ok := fun _ => True) (okp := fun _ => True) ?hr ?hp (fun _ hk => hk) trivial (Below.refl _ _) (Nat.le_refl _) (by simp) ?_; (case hd => rfl); (case hg => rfl); (case hr => first | (go_simp; done) | (go_simp; rfl)); (case hp => exact (Reps.c2 (show Kd.M k32 _ _ _ (⟨t230, t231⟩ : S32) [.int .i64 t230, .int .i64 t231] from (k32_mkM _ _ _ (⟨t230, t231⟩ : S32) )) (Reps.c2 (show Kd.M k32 _ _ _ (⟨t232, t233⟩ : S32) [.int .i64 t232, .int .i64 t233] from (k32_mkM _ _ _ (⟨t232, t233⟩ : S32) )) (Reps.c2 (show Kd.M k32 _ _ _ (⟨t234, t235⟩ : S32) [.int .i64 t234, .int .i64 t235] from (k32_mkM _ _ _ (⟨t234, t235⟩ : S32) )) (Reps.c2 (show Kd.M k32 _ _ _ (⟨t236, t237⟩ : S32) [.int .i64 t236, .int .i64 t237] from (k32_mkM _ _ _ (⟨t236, t237⟩ : S32) )) (Reps.none _ _))))))
                            intro v239 w93 ho94 hb hg_ hnew_
                            clear hg_ hnew_
                            (first | rw [← Ny238.out] at ho94 | (simp only [Int.reduceToNat] at ho94; rw [← Ny238.out] at ho94))
                            have n0_ := Aside0.mk (Kd.R_elder' (by (with_reducible repeat (first | apply Kd.R_alloc | apply Kd.R_drewN | apply Kd.R_drew)); exact HO225.out) (Kd.R_base ho94) hb)
                            have n1_ := Aside0.mk (Kd.R_lower (Kd.R_newB (Kd.R_newB (Kd.R_new' ho94 (Kd.R_lt (by (with_reducible repeat (first | apply Kd.R_alloc | apply Kd.R_drewN | apply Kd.R_drew)); exact HO225.out))) (g := gb210) (o := .cells #[.int .i64 t207, .int .i64 t208] 32 (0, 0)) (by (with_reducible repeat (first | refine blk_drewN ?_ _ | refine blk_drew ?_ | refine blk_alloc ?_ _)); exact BK210.out)) (g := gb216) (o := .cells #[.int .i64 t213, .int .i64 t214] 32 (0, 0)) (by (with_reducible repeat (first | refine blk_drewN ?_ _ | refine blk_drew ?_ | refine blk_alloc ?_ _)); exact BK216.out)) (below_size (by repeat (first | (with_reducible first | exact HB.out | apply below_alloc | apply pw_below_drewN | apply below_drew1 | refine below_set ?_ GE210.out | refine below_set ?_ GE216.out) | exact HB.out))))
                            have n2_ := Aside0.mk (blk_below (g := gb210) (o := .cells #[.int .i64 t207, .int .i64 t208] 32 (0, 0)) (by (with_reducible repeat (first | refine blk_drewN ?_ _ | refine blk_drew ?_ | refine blk_alloc ?_ _)); exact BK210.out) hb)
                            have n3_ := Aside0.mk (blk_below (g := gb216) (o := .cells #[.int .i64 t213, .int .i64 t214] 32 (0, 0)) (by (with_reducible repeat (first | refine blk_drewN ?_ _ | refine blk_drew ?_ | refine blk_alloc ?_ _)); exact BK216.out) hb)
                            have n4_ := Aside0.mk (below_step (by repeat (first | (with_reducible first | exact HB.out | apply below_alloc | apply pw_below_drewN | apply below_drew1 | refine below_set ?_ GE210.out | refine below_set ?_ GE216.out) | exact HB.out)) hb)
                            clear HO225
                            clear BK210
                            clear BK216
                            clear HB
                            have HO225 := n0_
                            have HO240 := n1_
                            have BK210 := n2_
                            have BK216 := n3_
                            have HB := n4_
                            clear n0_ n1_ n2_ n3_ n4_
                            clear hb ho94
                            obtain ⟨Ao95, co95, eo95⟩ := Kd.R_slice HO225.out
                            (first | subst eo95 | (injection eo95 with f1_ f2_ f3_; have f4_ := f1_.symm; have f5_ := f3_.symm; clear f1_ f2_ f3_; subst f4_; subst f5_))
                            obtain ⟨Ao96, co96, eo96⟩ := Kd.R_slice HO240.out
                            (first | subst eo96 | (injection eo96 with f1_ f2_ f3_; have f4_ := f1_.symm; have f5_ := f3_.symm; clear f1_ f2_ f3_; subst f4_; subst f5_))
                            refine hK.out _ _ ⟨(blk_cell BK210.out 0).trans rfl, (blk_cell BK210.out 1).trans rfl, (blk_cell BK216.out 0).trans rfl, (blk_cell BK216.out 1).trans rfl⟩ (fun hHeld => ?_)
                            clear hK K
                            refine norm_ (a' := ?_) ?_ ?_
                            rotate_left
                            · show Act.put _ (some 116) _ = _
                              simp only [Act.put, List.setIfInBounds_toArray, List.set_cons_zero, List.set_cons_succ, i64_w, i32_w]
                              rfl
                            refine one_ (i := 31) (N := some 117) #[true, true, true, true, true, true, true, true, true, true, true, true, true, true, true, true, true, true, true, true, true, true, true, true, true, true, true, true, true, true, true, true, false, false] rfl rfl (one_of HT_.out (by kernel_rfl)) (by decide) (fun K hK => ?_)
                            refine goes_ Try.func11 (by kernel_rfl) rfl #[.slice Ao95 t222.length co95, .slice Ao96 y238.length co96] (by rfl) rfl rfl (by (try simp only [List.map_toArray, List.map_cons, List.map_nil]); first | done | rfl | (simp only [List.length_drop, List.length_take]; rfl)) ?_
                            with_reducible refine (headgatelaw08_same.calls kj14 _ _ t222 _ _ y238 t241 _ ?side1 ?side2 ?side3 ?side4 A85.out).mono ?_
                            (case side1 => repeat (first | exact (Kd.R_reads' HO225.out).2.2 | (with_reducible refine Kd.C_alloc ?_ _) | (with_reducible refine Kd.C_drewN ?_ _) | (with_reducible refine Kd.C_drew ?_)))
                            (case side2 => exact (Kd.R_reads' HO225.out).2.1)
                            (case side3 => repeat (first | exact (Kd.R_reads' HO240.out).2.2 | (with_reducible refine Kd.C_alloc ?_ _) | (with_reducible refine Kd.C_drewN ?_ _) | (with_reducible refine Kd.C_drew ?_)))
                            (case side4 => exact (Kd.R_reads' HO240.out).2.1)
                            rintro e w' ⟨rfl, ⟨nd, rfl⟩⟩
                            refine ⟨_, rfl, ?_⟩
                            refine hK.out _ _ ⟨(blk_cell BK210.out 0).trans rfl, (blk_cell BK210.out 1).trans rfl, (blk_cell BK216.out 0).trans rfl, (blk_cell BK216.out 1).trans rfl⟩ (fun hHeld => ?_)
                            clear hK K
                            refine norm_ (a' := ?_) ?_ ?_
                            rotate_left
                            · show Act.put _ (some 117) _ = _
                              simp only [Act.put, List.setIfInBounds_toArray, List.set_cons_zero, List.set_cons_succ, i64_w, i32_w]
                              rfl
                            refine pure_ (i := 32) (N := some 118) (v := ?_) (a' := ?_) #[true, true, true, true, true, true, true, true, true, true, true, true, true, true, true, true, true, true, true, true, true, true, true, true, true, true, true, true, true, true, true, true, true, false] rfl rfl (any_of HT_.out (by kernel_rfl)) (fun _ _ _ h => h) (Or.inl ⟨by rfl, ?_⟩) ?_ ?_
                            rotate_left
                            · intro w'
                              go_simp
                              with_reducible rfl
                            rotate_left
                            · simp only [Act.put, List.setIfInBounds_toArray, List.set_cons_zero, List.set_cons_succ, i64_w, i32_w]
                              rfl
                            refine pure_ (i := 33) (N := some 119) (v := ?_) (a' := ?_) #[true, true, true, true, true, true, true, true, true, true, true, true, true, true, true, true, true, true, true, true, true, true, true, true, true, true, true, true, true, true, true, true, true, true] rfl rfl (any_of HT_.out (by kernel_rfl)) (fun _ _ _ h => h) (Or.inl ⟨by rfl, ?_⟩) ?_ ?_
                            rotate_left
                            · intro w'
                              go_simp
                              with_reducible rfl
                            rotate_left
                            · simp only [Act.put, List.setIfInBounds_toArray, List.set_cons_zero, List.set_cons_succ, i64_w, i32_w]
                              rfl
                            refine done_ (done_of HT_.out (by kernel_rfl)) ?_
                            try go_wp2
                            go_meet
                            case rel => exact ⟨_, (!t241), (by first | rfl | (simp; done) | (simp [*]; done)), H', ⟨by have := HJ3.out; have := HJ14.out; first | omega | exact Nat.le_refl _⟩, ⟨by (with_reducible repeat (first | refine blk_drewN ?_ _ | refine blk_drew ?_ | refine blk_alloc ?_ _)); exact BK210.out⟩, ⟨by (with_reducible repeat (first | refine blk_drewN ?_ _ | refine blk_drew ?_ | refine blk_alloc ?_ _)); exact BK216.out⟩, ⟨by repeat (first | (with_reducible first | exact HB.out | apply below_alloc | apply pw_below_drewN | apply below_drew1 | refine below_set ?_ GE210.out | refine below_set ?_ GE216.out) | exact HB.out)⟩⟩
                          · rw [if_neg c80] at H
                            have c80b0 : (t223 == 0) = false := beq_eq_false_iff_ne.mpr c80
                            have c80b1 : (t223 != 0) = true := bne_iff_ne.mpr c80
                            exact absurd H (by first | exact headgatelaw08_OrderKnown.no0 _ | exact headgatelaw08_OrderKnown.no1 _ | exact headgatelaw08_OrderKnown.no2 _)
                        · rw [if_neg c79] at H
                          have c79b0 : (t221 == 2) = false := beq_eq_false_iff_ne.mpr c79
                          have c79b1 : (t221 != 2) = true := bne_iff_ne.mpr c79
                          exact absurd H (by first | exact headgatelaw08_OrderKnown.no0 _ | exact headgatelaw08_OrderKnown.no1 _ | exact headgatelaw08_OrderKnown.no2 _)
                      · rw [if_neg c78] at H
                        have c78b0 : (t215 == 0) = false := beq_eq_false_iff_ne.mpr c78
                        have c78b1 : (t215 != 0) = true := bne_iff_ne.mpr c78
                        exact absurd H (by first | exact headgatelaw08_OrderKnown.no0 _ | exact headgatelaw08_OrderKnown.no1 _ | exact headgatelaw08_OrderKnown.no2 _)
                    · rw [if_neg c77] at H
                      have c77b0 : (t209 == 0) = false := beq_eq_false_iff_ne.mpr c77
                      have c77b1 : (t209 != 0) = true := bne_iff_ne.mpr c77
                      exact absurd H (by first | exact headgatelaw08_OrderKnown.no0 _ | exact headgatelaw08_OrderKnown.no1 _ | exact headgatelaw08_OrderKnown.no2 _)
              case rest =>
                clear HC55
                try clear c1
                try clear p2
                try clear c7
                try clear c14
                try clear c77
                try clear c77b0
                try clear c77b1
                try clear c78
                try clear c78b0
                try clear c78b1
                obtain ⟨kq, x119_54, rfl, HA, HJ54, BK210, BK216, HB⟩ := hcut
                cases kq with
                | zero => exact absurd HA.out (by simp [headgatelaw08_OrderKnown.j2])
                | succ kj54 =>
                  have H := HA.out
                  clear HA
                  simp only [headgatelaw08_OrderKnown.j2] at H
                  by_cases c109 : x119_54 = true
                  · subst c109
                    have H1 : (some false) = some true := by rw [if_pos rfl] at H; exact H
                    clear H
                    have H := H1
                    clear H1
                    exact absurd H (by simp)
                  · replace c109 := Bool.eq_false_iff.mpr c109
                    subst c109
                    have H1 : ((headgatelaw08_b.f 0 0).bind fun bt242 => ((headgatelaw08_b.f 1 0).bind fun bt244 => ((headgatelaw08_b.f 2 1).bind fun bt246 => ((headgatelaw08_b.f 8 0).bind fun bt248 => ((order_Join.f kj54 (([(⟨bt242.1, bt242.2⟩ : S32), (⟨bt244.1, bt244.2⟩ : S32), (⟨bt246.1, bt246.2⟩ : S32), (⟨bt248.1, bt248.2⟩ : S32)] : List (S32)))).bind fun bt253 => ((headgatelaw08_b.f 0 1).bind fun bt257 => ((headgatelaw08_b.f 1 0).bind fun bt259 => ((order_CheckList.f kj54 (([(⟨bt257.1, bt257.2⟩ : S32), (⟨bt259.1, bt259.2⟩ : S32)] : List (S32)))).bind fun bt264 => (if bt253.2 = 0 then ((headgatelaw08_b.f 0 2).bind fun bt266 => ((headgatelaw08_b.f 8 0).bind fun bt268 => ((headgatelaw08_same.f kj54 bt253.1 (([(⟨bt266.1, bt266.2⟩ : S32), (⟨bt268.1, bt268.2⟩ : S32)] : List (S32)))).bind fun t273 => (if t273 = true then (if bt264.1 = 8 then (if bt264.2 = 1 then ((headgatelaw08_awake.f kj54).bind fun t274 => (some t274)) else (some false)) else (some false)) else (some false))))) else (some false)))))))))) = some true := by rw [if_neg (show ¬ (false = true) by decide)] at H; exact H
                    clear H
                    have H := H1
                    clear H1
                    replace H := Option.bind_eq_some_iff.mp H
                    obtain ⟨⟨t242, t243⟩, A1100, H⟩ := H
                    replace H : ((headgatelaw08_b.f 1 0).bind fun bt244 => ((headgatelaw08_b.f 2 1).bind fun bt246 => ((headgatelaw08_b.f 8 0).bind fun bt248 => ((order_Join.f kj54 (([(⟨t242, t243⟩ : S32), (⟨bt244.1, bt244.2⟩ : S32), (⟨bt246.1, bt246.2⟩ : S32), (⟨bt248.1, bt248.2⟩ : S32)] : List (S32)))).bind fun bt253 => ((headgatelaw08_b.f 0 1).bind fun bt257 => ((headgatelaw08_b.f 1 0).bind fun bt259 => ((order_CheckList.f kj54 (([(⟨bt257.1, bt257.2⟩ : S32), (⟨bt259.1, bt259.2⟩ : S32)] : List (S32)))).bind fun bt264 => (if bt253.2 = 0 then ((headgatelaw08_b.f 0 2).bind fun bt266 => ((headgatelaw08_b.f 8 0).bind fun bt268 => ((headgatelaw08_same.f kj54 bt253.1 (([(⟨bt266.1, bt266.2⟩ : S32), (⟨bt268.1, bt268.2⟩ : S32)] : List (S32)))).bind fun t273 => (if t273 = true then (if bt264.1 = 8 then (if bt264.2 = 1 then ((headgatelaw08_awake.f kj54).bind fun t274 => (some t274)) else (some false)) else (some false)) else (some false))))) else (some false))))))))) = some true := H
                    have A110 := Aside0.mk A1100
                    clear A1100
                    replace H := Option.bind_eq_some_iff.mp H
                    obtain ⟨⟨t244, t245⟩, A1110, H⟩ := H
                    replace H : ((headgatelaw08_b.f 2 1).bind fun bt246 => ((headgatelaw08_b.f 8 0).bind fun bt248 => ((order_Join.f kj54 (([(⟨t242, t243⟩ : S32), (⟨t244, t245⟩ : S32), (⟨bt246.1, bt246.2⟩ : S32), (⟨bt248.1, bt248.2⟩ : S32)] : List (S32)))).bind fun bt253 => ((headgatelaw08_b.f 0 1).bind fun bt257 => ((headgatelaw08_b.f 1 0).bind fun bt259 => ((order_CheckList.f kj54 (([(⟨bt257.1, bt257.2⟩ : S32), (⟨bt259.1, bt259.2⟩ : S32)] : List (S32)))).bind fun bt264 => (if bt253.2 = 0 then ((headgatelaw08_b.f 0 2).bind fun bt266 => ((headgatelaw08_b.f 8 0).bind fun bt268 => ((headgatelaw08_same.f kj54 bt253.1 (([(⟨bt266.1, bt266.2⟩ : S32), (⟨bt268.1, bt268.2⟩ : S32)] : List (S32)))).bind fun t273 => (if t273 = true then (if bt264.1 = 8 then (if bt264.2 = 1 then ((headgatelaw08_awake.f kj54).bind fun t274 => (some t274)) else (some false)) else (some false)) else (some false))))) else (some false)))))))) = some true := H
                    have A111 := Aside0.mk A1110
                    clear A1110
                    replace H := Option.bind_eq_some_iff.mp H
                    obtain ⟨⟨t246, t247⟩, A1120, H⟩ := H
                    replace H : ((headgatelaw08_b.f 8 0).bind fun bt248 => ((order_Join.f kj54 (([(⟨t242, t243⟩ : S32), (⟨t244, t245⟩ : S32), (⟨t246, t247⟩ : S32), (⟨bt248.1, bt248.2⟩ : S32)] : List (S32)))).bind fun bt253 => ((headgatelaw08_b.f 0 1).bind fun bt257 => ((headgatelaw08_b.f 1 0).bind fun bt259 => ((order_CheckList.f kj54 (([(⟨bt257.1, bt257.2⟩ : S32), (⟨bt259.1, bt259.2⟩ : S32)] : List (S32)))).bind fun bt264 => (if bt253.2 = 0 then ((headgatelaw08_b.f 0 2).bind fun bt266 => ((headgatelaw08_b.f 8 0).bind fun bt268 => ((headgatelaw08_same.f kj54 bt253.1 (([(⟨bt266.1, bt266.2⟩ : S32), (⟨bt268.1, bt268.2⟩ : S32)] : List (S32)))).bind fun t273 => (if t273 = true then (if bt264.1 = 8 then (if bt264.2 = 1 then ((headgatelaw08_awake.f kj54).bind fun t274 => (some t274)) else (some false)) else (some false)) else (some false))))) else (some false))))))) = some true := H
                    have A112 := Aside0.mk A1120
                    clear A1120
                    replace H := Option.bind_eq_some_iff.mp H
                    obtain ⟨⟨t248, t249⟩, A1130, H⟩ := H
                    replace H : ((order_Join.f kj54 (([(⟨t242, t243⟩ : S32), (⟨t244, t245⟩ : S32), (⟨t246, t247⟩ : S32), (⟨t248, t249⟩ : S32)] : List (S32)))).bind fun bt253 => ((headgatelaw08_b.f 0 1).bind fun bt257 => ((headgatelaw08_b.f 1 0).bind fun bt259 => ((order_CheckList.f kj54 (([(⟨bt257.1, bt257.2⟩ : S32), (⟨bt259.1, bt259.2⟩ : S32)] : List (S32)))).bind fun bt264 => (if bt253.2 = 0 then ((headgatelaw08_b.f 0 2).bind fun bt266 => ((headgatelaw08_b.f 8 0).bind fun bt268 => ((headgatelaw08_same.f kj54 bt253.1 (([(⟨bt266.1, bt266.2⟩ : S32), (⟨bt268.1, bt268.2⟩ : S32)] : List (S32)))).bind fun t273 => (if t273 = true then (if bt264.1 = 8 then (if bt264.2 = 1 then ((headgatelaw08_awake.f kj54).bind fun t274 => (some t274)) else (some false)) else (some false)) else (some false))))) else (some false)))))) = some true := H
                    have A113 := Aside0.mk A1130
                    clear A1130
                    obtain ⟨y250, hy250⟩ : ∃ y_ : List (S32), y_ = (([(⟨t242, t243⟩ : S32), (⟨t244, t245⟩ : S32), (⟨t246, t247⟩ : S32), (⟨t248, t249⟩ : S32)] : List (S32))) := ⟨_, rfl⟩
                    replace H : ((order_Join.f kj54 y250).bind fun bt253 => ((headgatelaw08_b.f 0 1).bind fun bt257 => ((headgatelaw08_b.f 1 0).bind fun bt259 => ((order_CheckList.f kj54 (([(⟨bt257.1, bt257.2⟩ : S32), (⟨bt259.1, bt259.2⟩ : S32)] : List (S32)))).bind fun bt264 => (if bt253.2 = 0 then ((headgatelaw08_b.f 0 2).bind fun bt266 => ((headgatelaw08_b.f 8 0).bind fun bt268 => ((headgatelaw08_same.f kj54 bt253.1 (([(⟨bt266.1, bt266.2⟩ : S32), (⟨bt268.1, bt268.2⟩ : S32)] : List (S32)))).bind fun t273 => (if t273 = true then (if bt264.1 = 8 then (if bt264.2 = 1 then ((headgatelaw08_awake.f kj54).bind fun t274 => (some t274)) else (some false)) else (some false)) else (some false))))) else (some false)))))) = some true := by first | (rw [hy250]; with_reducible exact H) | (have H2_ := (Option.bind_some _ _).symm.trans H; rw [hy250]; with_reducible exact H2_) | (have H2_ := (Option.bind_some _ _).symm.trans H; with_reducible exact H2_) | with_reducible exact H | (rw [hy250]; exact H) | exact H
                    have Ny250 := Aside0.mk hy250
                    clear hy250
                    replace H := Option.bind_eq_some_iff.mp H
                    obtain ⟨⟨t253, t254⟩, A1140, H⟩ := H
                    replace H : ((headgatelaw08_b.f 0 1).bind fun bt257 => ((headgatelaw08_b.f 1 0).bind fun bt259 => ((order_CheckList.f kj54 (([(⟨bt257.1, bt257.2⟩ : S32), (⟨bt259.1, bt259.2⟩ : S32)] : List (S32)))).bind fun bt264 => (if t254 = 0 then ((headgatelaw08_b.f 0 2).bind fun bt266 => ((headgatelaw08_b.f 8 0).bind fun bt268 => ((headgatelaw08_same.f kj54 t253 (([(⟨bt266.1, bt266.2⟩ : S32), (⟨bt268.1, bt268.2⟩ : S32)] : List (S32)))).bind fun t273 => (if t273 = true then (if bt264.1 = 8 then (if bt264.2 = 1 then ((headgatelaw08_awake.f kj54).bind fun t274 => (some t274)) else (some false)) else (some false)) else (some false))))) else (some false))))) = some true := H
                    have A114 := Aside0.mk A1140
                    clear A1140
                    replace H := Option.bind_eq_some_iff.mp H
                    obtain ⟨⟨t257, t258⟩, A1150, H⟩ := H
                    replace H : ((headgatelaw08_b.f 1 0).bind fun bt259 => ((order_CheckList.f kj54 (([(⟨t257, t258⟩ : S32), (⟨bt259.1, bt259.2⟩ : S32)] : List (S32)))).bind fun bt264 => (if t254 = 0 then ((headgatelaw08_b.f 0 2).bind fun bt266 => ((headgatelaw08_b.f 8 0).bind fun bt268 => ((headgatelaw08_same.f kj54 t253 (([(⟨bt266.1, bt266.2⟩ : S32), (⟨bt268.1, bt268.2⟩ : S32)] : List (S32)))).bind fun t273 => (if t273 = true then (if bt264.1 = 8 then (if bt264.2 = 1 then ((headgatelaw08_awake.f kj54).bind fun t274 => (some t274)) else (some false)) else (some false)) else (some false))))) else (some false)))) = some true := H
                    have A115 := Aside0.mk A1150
                    clear A1150
                    replace H := Option.bind_eq_some_iff.mp H
                    obtain ⟨⟨t259, t260⟩, A1160, H⟩ := H
                    replace H : ((order_CheckList.f kj54 (([(⟨t257, t258⟩ : S32), (⟨t259, t260⟩ : S32)] : List (S32)))).bind fun bt264 => (if t254 = 0 then ((headgatelaw08_b.f 0 2).bind fun bt266 => ((headgatelaw08_b.f 8 0).bind fun bt268 => ((headgatelaw08_same.f kj54 t253 (([(⟨bt266.1, bt266.2⟩ : S32), (⟨bt268.1, bt268.2⟩ : S32)] : List (S32)))).bind fun t273 => (if t273 = true then (if bt264.1 = 8 then (if bt264.2 = 1 then ((headgatelaw08_awake.f kj54).bind fun t274 => (some t274)) else (some false)) else (some false)) else (some false))))) else (some false))) = some true := H
                    have A116 := Aside0.mk A1160
                    clear A1160
                    obtain ⟨y261, hy261⟩ : ∃ y_ : List (S32), y_ = (([(⟨t257, t258⟩ : S32), (⟨t259, t260⟩ : S32)] : List (S32))) := ⟨_, rfl⟩
                    replace H : ((order_CheckList.f kj54 y261).bind fun bt264 => (if t254 = 0 then ((headgatelaw08_b.f 0 2).bind fun bt266 => ((headgatelaw08_b.f 8 0).bind fun bt268 => ((headgatelaw08_same.f kj54 t253 (([(⟨bt266.1, bt266.2⟩ : S32), (⟨bt268.1, bt268.2⟩ : S32)] : List (S32)))).bind fun t273 => (if t273 = true then (if bt264.1 = 8 then (if bt264.2 = 1 then ((headgatelaw08_awake.f kj54).bind fun t274 => (some t274)) else (some false)) else (some false)) else (some false))))) else (some false))) = some true := by first | (rw [hy261]; with_reducible exact H) | (have H2_ := (Option.bind_some _ _).symm.trans H; rw [hy261]; with_reducible exact H2_) | (have H2_ := (Option.bind_some _ _).symm.trans H; with_reducible exact H2_) | with_reducible exact H | (rw [hy261]; exact H) | exact H
                    have Ny261 := Aside0.mk hy261
                    clear hy261
                    replace H := Option.bind_eq_some_iff.mp H
                    obtain ⟨⟨t264, t265⟩, A1170, H⟩ := H
                    replace H : (if t254 = 0 then ((headgatelaw08_b.f 0 2).bind fun bt266 => ((headgatelaw08_b.f 8 0).bind fun bt268 => ((headgatelaw08_same.f kj54 t253 (([(⟨bt266.1, bt266.2⟩ : S32), (⟨bt268.1, bt268.2⟩ : S32)] : List (S32)))).bind fun t273 => (if t273 = true then (if t264 = 8 then (if t265 = 1 then ((headgatelaw08_awake.f kj54).bind fun t274 => (some t274)) else (some false)) else (some false)) else (some false))))) else (some false)) = some true := H
                    have A117 := Aside0.mk A1170
                    clear A1170
                    by_cases c118 : t254 = 0
                    · rw [if_pos c118] at H
                      have c118b0 : (t254 == 0) = true := beq_iff_eq.mpr c118
                      have c118b1 : (t254 != 0) = false := bne_eq_false_iff_eq.mpr c118
                      clear c118
                      replace H := Option.bind_eq_some_iff.mp H
                      obtain ⟨⟨t266, t267⟩, A1190, H⟩ := H
                      replace H : ((headgatelaw08_b.f 8 0).bind fun bt268 => ((headgatelaw08_same.f kj54 t253 (([(⟨t266, t267⟩ : S32), (⟨bt268.1, bt268.2⟩ : S32)] : List (S32)))).bind fun t273 => (if t273 = true then (if t264 = 8 then (if t265 = 1 then ((headgatelaw08_awake.f kj54).bind fun t274 => (some t274)) else (some false)) else (some false)) else (some false)))) = some true := H
                      have A119 := Aside0.mk A1190
                      clear A1190
                      replace H := Option.bind_eq_some_iff.mp H
                      obtain ⟨⟨t268, t269⟩, A1200, H⟩ := H
                      replace H : ((headgatelaw08_same.f kj54 t253 (([(⟨t266, t267⟩ : S32), (⟨t268, t269⟩ : S32)] : List (S32)))).bind fun t273 => (if t273 = true then (if t264 = 8 then (if t265 = 1 then ((headgatelaw08_awake.f kj54).bind fun t274 => (some t274)) else (some false)) else (some false)) else (some false))) = some true := H
                      have A120 := Aside0.mk A1200
                      clear A1200
                      obtain ⟨y270, hy270⟩ : ∃ y_ : List (S32), y_ = (([(⟨t266, t267⟩ : S32), (⟨t268, t269⟩ : S32)] : List (S32))) := ⟨_, rfl⟩
                      replace H : ((headgatelaw08_same.f kj54 t253 y270).bind fun t273 => (if t273 = true then (if t264 = 8 then (if t265 = 1 then ((headgatelaw08_awake.f kj54).bind fun t274 => (some t274)) else (some false)) else (some false)) else (some false))) = some true := by first | (rw [hy270]; with_reducible exact H) | (have H2_ := (Option.bind_some _ _).symm.trans H; rw [hy270]; with_reducible exact H2_) | (have H2_ := (Option.bind_some _ _).symm.trans H; with_reducible exact H2_) | with_reducible exact H | (rw [hy270]; exact H) | exact H
                      have Ny270 := Aside0.mk hy270
                      clear hy270
                      replace H := Option.bind_eq_some_iff.mp H
                      obtain ⟨t273, A1210, H⟩ := H
                      replace H : (if t273 = true then (if t264 = 8 then (if t265 = 1 then ((headgatelaw08_awake.f kj54).bind fun t274 => (some t274)) else (some false)) else (some false)) else (some false)) = some true := H
                      have A121 := Aside0.mk A1210
                      clear A1210
                      by_cases c122 : t273 = true
                      · subst c122
                        have H1 : (if t264 = 8 then (if t265 = 1 then ((headgatelaw08_awake.f kj54).bind fun t274 => (some t274)) else (some false)) else (some false)) = some true := by rw [if_pos rfl] at H; exact H
                        clear H
                        have H := H1
                        clear H1
                        by_cases c123 : t264 = 8
                        · rw [if_pos c123] at H
                          have c123b0 : (t264 == 8) = true := beq_iff_eq.mpr c123
                          have c123b1 : (t264 != 8) = false := bne_eq_false_iff_eq.mpr c123
                          clear c123
                          by_cases c124 : t265 = 1
                          · rw [if_pos c124] at H
                            have c124b0 : (t265 == 1) = true := beq_iff_eq.mpr c124
                            have c124b1 : (t265 != 1) = false := bne_eq_false_iff_eq.mpr c124
                            clear c124
                            replace H := Option.bind_eq_some_iff.mp H
                            obtain ⟨t274, A1250, H⟩ := H
                            replace H : (some t274) = some true := H
                            have A125 := Aside0.mk A1250
                            clear A1250
                            have hlast := Aside0.mk (Option.some.inj H)
                            clear H
                            go_wp2_with (first | ((with_reducible refine gate_callee (f := 14) rfl ?_); refine goesL_ (some 121) rfl rfl Try.func14 (by kernel_rfl) rfl #[.int .i64 0, .int .i64 0] rfl (by (try simp only [List.map_toArray, List.map_cons, List.map_nil]); first | done | rfl | (simp only [List.length_drop, List.length_take]; rfl)) ?_; (with_reducible refine (headgatelaw08_b.calls 0 0 t242 t243 _ A110.out).mono ?_); rintro e w126 ⟨rfl, hb⟩; refine ⟨_, rfl, ?_⟩; have n0_ := Aside0.mk (blk_below (g := gb210) (o := .cells #[.int .i64 t207, .int .i64 t208] 32 (0, 0)) (by (with_reducible repeat (first | refine blk_drewN ?_ _ | refine blk_drew ?_ | refine blk_alloc ?_ _)); exact BK210.out) hb); have n1_ := Aside0.mk (blk_below (g := gb216) (o := .cells #[.int .i64 t213, .int .i64 t214] 32 (0, 0)) (by (with_reducible repeat (first | refine blk_drewN ?_ _ | refine blk_drew ?_ | refine blk_alloc ?_ _)); exact BK216.out) hb); have n2_ := Aside0.mk (below_step (by repeat (first | (with_reducible first | exact HB.out | apply below_alloc | apply pw_below_drewN | apply below_drew1 | refine below_set ?_ GE210.out | refine below_set ?_ GE216.out) | exact HB.out)) hb); clear BK210; clear BK216; clear HB; have BK210 := n0_; have BK216 := n1_; have HB := n2_; clear n0_ n1_ n2_; (try clear hb); (try clear hb2); (try clear hk); (try clear hi)) | ((with_reducible refine gate_callee (f := 14) rfl ?_); refine goesL_ (some 122) rfl rfl Try.func14 (by kernel_rfl) rfl #[.int .i64 1, .int .i64 0] rfl (by (try simp only [List.map_toArray, List.map_cons, List.map_nil]); first | done | rfl | (simp only [List.length_drop, List.length_take]; rfl)) ?_; (with_reducible refine (headgatelaw08_b.calls 1 0 t244 t245 _ A111.out).mono ?_); rintro e w127 ⟨rfl, hb⟩; refine ⟨_, rfl, ?_⟩; have n0_ := Aside0.mk (blk_below (g := gb210) (o := .cells #[.int .i64 t207, .int .i64 t208] 32 (0, 0)) (by (with_reducible repeat (first | refine blk_drewN ?_ _ | refine blk_drew ?_ | refine blk_alloc ?_ _)); exact BK210.out) hb); have n1_ := Aside0.mk (blk_below (g := gb216) (o := .cells #[.int .i64 t213, .int .i64 t214] 32 (0, 0)) (by (with_reducible repeat (first | refine blk_drewN ?_ _ | refine blk_drew ?_ | refine blk_alloc ?_ _)); exact BK216.out) hb); have n2_ := Aside0.mk (below_step (by repeat (first | (with_reducible first | exact HB.out | apply below_alloc | apply pw_below_drewN | apply below_drew1 | refine below_set ?_ GE210.out | refine below_set ?_ GE216.out) | exact HB.out)) hb); clear BK210; clear BK216; clear HB; have BK210 := n0_; have BK216 := n1_; have HB := n2_; clear n0_ n1_ n2_; (try clear hb); (try clear hb2); (try clear hk); (try clear hi)) | ((with_reducible refine gate_callee (f := 14) rfl ?_); refine goesL_ (some 123) rfl rfl Try.func14 (by kernel_rfl) rfl #[.int .i64 2, .int .i64 1] rfl (by (try simp only [List.map_toArray, List.map_cons, List.map_nil]); first | done | rfl | (simp only [List.length_drop, List.length_take]; rfl)) ?_; (with_reducible refine (headgatelaw08_b.calls 2 1 t246 t247 _ A112.out).mono ?_); rintro e w128 ⟨rfl, hb⟩; refine ⟨_, rfl, ?_⟩; have n0_ := Aside0.mk (blk_below (g := gb210) (o := .cells #[.int .i64 t207, .int .i64 t208] 32 (0, 0)) (by (with_reducible repeat (first | refine blk_drewN ?_ _ | refine blk_drew ?_ | refine blk_alloc ?_ _)); exact BK210.out) hb); have n1_ := Aside0.mk (blk_below (g := gb216) (o := .cells #[.int .i64 t213, .int .i64 t214] 32 (0, 0)) (by (with_reducible repeat (first | refine blk_drewN ?_ _ | refine blk_drew ?_ | refine blk_alloc ?_ _)); exact BK216.out) hb); have n2_ := Aside0.mk (below_step (by repeat (first | (with_reducible first | exact HB.out | apply below_alloc | apply pw_below_drewN | apply below_drew1 | refine below_set ?_ GE210.out | refine below_set ?_ GE216.out) | exact HB.out)) hb); clear BK210; clear BK216; clear HB; have BK210 := n0_; have BK216 := n1_; have HB := n2_; clear n0_ n1_ n2_; (try clear hb); (try clear hb2); (try clear hk); (try clear hi)) | ((with_reducible refine gate_callee (f := 14) rfl ?_); refine goesL_ (some 124) rfl rfl Try.func14 (by kernel_rfl) rfl #[.int .i64 8, .int .i64 0] rfl (by (try simp only [List.map_toArray, List.map_cons, List.map_nil]); first | done | rfl | (simp only [List.length_drop, List.length_take]; rfl)) ?_; (with_reducible refine (headgatelaw08_b.calls 8 0 t248 t249 _ A113.out).mono ?_); rintro e w129 ⟨rfl, hb⟩; refine ⟨_, rfl, ?_⟩; have n0_ := Aside0.mk (blk_below (g := gb210) (o := .cells #[.int .i64 t207, .int .i64 t208] 32 (0, 0)) (by (with_reducible repeat (first | refine blk_drewN ?_ _ | refine blk_drew ?_ | refine blk_alloc ?_ _)); exact BK210.out) hb); have n1_ := Aside0.mk (blk_below (g := gb216) (o := .cells #[.int .i64 t213, .int .i64 t214] 32 (0, 0)) (by (with_reducible repeat (first | refine blk_drewN ?_ _ | refine blk_drew ?_ | refine blk_alloc ?_ _)); exact BK216.out) hb); have n2_ := Aside0.mk (below_step (by repeat (first | (with_reducible first | exact HB.out | apply below_alloc | apply pw_below_drewN | apply below_drew1 | refine below_set ?_ GE210.out | refine below_set ?_ GE216.out) | exact HB.out)) hb); clear BK210; clear BK216; clear HB; have BK210 := n0_; have BK216 := n1_; have HB := n2_; clear n0_ n1_ n2_; (try clear hb); (try clear hb2); (try clear hk); (try clear hi)) | ((with_reducible refine gate_dst (N := 125) rfl ?_); (try (refine gate_guard (by rfl) ?_; dsimp only)); refine Kd.R_lit k32 _ 32 ?hg (N := 125) ?hd (xs := ([(⟨t242, t243⟩ : S32), (⟨t244, t245⟩ : S32), (⟨t246, t247⟩ : S32), (⟨t248, t249⟩ : S32)] : List (S32))) (inner := [.int .i64 t242, .int .i64 t243, .int .i64 t244, .int .i64 t245, .int .i64 t246, .int .i64 t247, .int .i64 t248, .int .i64 t249]) (ok := fun _ => True) (okp := fun _ => True) ?hr ?hp (fun _ hk => hk) trivial (Below.refl _ _) (Nat.le_refl _) (by simp) ?_; (case hd => rfl); (case hg => rfl); (case hr => first | (go_simp; done) | (go_simp; rfl)); (case hp => exact (Reps.c2 (show Kd.M k32 _ _ _ (⟨t242, t243⟩ : S32) [.int .i64 t242, .int .i64 t243] from (k32_mkM _ _ _ (⟨t242, t243⟩ : S32) )) (Reps.c2 (show Kd.M k32 _ _ _ (⟨t244, t245⟩ : S32) [.int .i64 t244, .int .i64 t245] from (k32_mkM _ _ _ (⟨t244, t245⟩ : S32) )) (Reps.c2 (show Kd.M k32 _ _ _ (⟨t246, t247⟩ : S32) [.int .i64 t246, .int .i64 t247] from (k32_mkM _ _ _ (⟨t246, t247⟩ : S32) )) (Reps.c2 (show Kd.M k32 _ _ _ (⟨t248, t249⟩ : S32) [.int .i64 t248, .int .i64 t249] from (k32_mkM _ _ _ (⟨t248, t249⟩ : S32) )) (Reps.none _ _)))))); intro v251 w130 ho131 hb hg_ hnew_; clear hg_ hnew_; (first | rw [← Ny250.out] at ho131 | (simp only [Int.reduceToNat] at ho131; rw [← Ny250.out] at ho131)); have n0_ := Aside0.mk (Kd.R_lower (Kd.R_newB (Kd.R_newB ho131 (g := gb210) (o := .cells #[.int .i64 t207, .int .i64 t208] 32 (0, 0)) (by (with_reducible repeat (first | refine blk_drewN ?_ _ | refine blk_drew ?_ | refine blk_alloc ?_ _)); exact BK210.out)) (g := gb216) (o := .cells #[.int .i64 t213, .int .i64 t214] 32 (0, 0)) (by (with_reducible repeat (first | refine blk_drewN ?_ _ | refine blk_drew ?_ | refine blk_alloc ?_ _)); exact BK216.out)) (below_size (by repeat (first | (with_reducible first | exact HB.out | apply below_alloc | apply pw_below_drewN | apply below_drew1 | refine below_set ?_ GE210.out | refine below_set ?_ GE216.out) | exact HB.out)))); have n1_ := Aside0.mk (blk_below (g := gb210) (o := .cells #[.int .i64 t207, .int .i64 t208] 32 (0, 0)) (by (with_reducible repeat (first | refine blk_drewN ?_ _ | refine blk_drew ?_ | refine blk_alloc ?_ _)); exact BK210.out) hb); have n2_ := Aside0.mk (blk_below (g := gb216) (o := .cells #[.int .i64 t213, .int .i64 t214] 32 (0, 0)) (by (with_reducible repeat (first | refine blk_drewN ?_ _ | refine blk_drew ?_ | refine blk_alloc ?_ _)); exact BK216.out) hb); have n3_ := Aside0.mk (below_step (by repeat (first | (with_reducible first | exact HB.out | apply below_alloc | apply pw_below_drewN | apply below_drew1 | refine below_set ?_ GE210.out | refine below_set ?_ GE216.out) | exact HB.out)) hb); clear BK210; clear BK216; clear HB; have HO252 := n0_; have BK210 := n1_; have BK216 := n2_; have HB := n3_; clear n0_ n1_ n2_ n3_; clear hb ho131; obtain ⟨Ao132, co132, eo132⟩ := Kd.R_slice HO252.out; subst eo132) | ((with_reducible refine gate_callee (f := 20) rfl ?_); refine goesL_ (some 126) rfl rfl Try.func20 (by kernel_rfl) rfl #[.slice Ao132 y250.length co132] rfl (by (try simp only [List.map_toArray, List.map_cons, List.map_nil]); first | done | rfl | (simp only [List.length_drop, List.length_take]; rfl)) ?_; (with_reducible refine (order_Join.calls kj54 _ _ y250 t253 t254 _ ?side1 ?side2 A114.out).mono ?_); (case side1 => repeat (first | exact (Kd.R_reads' HO252.out).2.2 | (with_reducible refine Kd.C_alloc ?_ _) | (with_reducible refine Kd.C_drewN ?_ _) | (with_reducible refine Kd.C_drew ?_))); (case side2 => exact (Kd.R_reads' HO252.out).2.1); rintro e w133 ⟨v255, rfl, ho0, hb⟩; refine ⟨_, rfl, ?_⟩; have n0_ := Aside0.mk (Kd.R_elder' (by (with_reducible repeat (first | apply Kd.R_alloc | apply Kd.R_drewN | apply Kd.R_drew)); exact HO252.out) (Kd.R_base ho0) hb); have n1_ := Aside0.mk (Kd.R_lower (Kd.R_newB (Kd.R_newB (Kd.R_new' ho0 (Kd.R_lt (by (with_reducible repeat (first | apply Kd.R_alloc | apply Kd.R_drewN | apply Kd.R_drew)); exact HO252.out))) (g := gb210) (o := .cells #[.int .i64 t207, .int .i64 t208] 32 (0, 0)) (by (with_reducible repeat (first | refine blk_drewN ?_ _ | refine blk_drew ?_ | refine blk_alloc ?_ _)); exact BK210.out)) (g := gb216) (o := .cells #[.int .i64 t213, .int .i64 t214] 32 (0, 0)) (by (with_reducible repeat (first | refine blk_drewN ?_ _ | refine blk_drew ?_ | refine blk_alloc ?_ _)); exact BK216.out)) (below_size (by repeat (first | (with_reducible first | exact HB.out | apply below_alloc | apply pw_below_drewN | apply below_drew1 | refine below_set ?_ GE210.out | refine below_set ?_ GE216.out) | exact HB.out)))); have n2_ := Aside0.mk (blk_below (g := gb210) (o := .cells #[.int .i64 t207, .int .i64 t208] 32 (0, 0)) (by (with_reducible repeat (first | refine blk_drewN ?_ _ | refine blk_drew ?_ | refine blk_alloc ?_ _)); exact BK210.out) hb); have n3_ := Aside0.mk (blk_below (g := gb216) (o := .cells #[.int .i64 t213, .int .i64 t214] 32 (0, 0)) (by (with_reducible repeat (first | refine blk_drewN ?_ _ | refine blk_drew ?_ | refine blk_alloc ?_ _)); exact BK216.out) hb); have n4_ := Aside0.mk (below_step (by repeat (first | (with_reducible first | exact HB.out | apply below_alloc | apply pw_below_drewN | apply below_drew1 | refine below_set ?_ GE210.out | refine below_set ?_ GE216.out) | exact HB.out)) hb); clear HO252; clear BK210; clear BK216; clear HB; have HO252 := n0_; have HO256 := n1_; have BK210 := n2_; have BK216 := n3_; have HB := n4_; clear n0_ n1_ n2_ n3_ n4_; (try clear hb); (try clear hb2); (try clear hk); (try clear hi); (try clear ho0)) | ((with_reducible refine gate_callee (f := 14) rfl ?_); refine goesL_ (some 130) rfl rfl Try.func14 (by kernel_rfl) rfl #[.int .i64 0, .int .i64 1] rfl (by (try simp only [List.map_toArray, List.map_cons, List.map_nil]); first | done | rfl | (simp only [List.length_drop, List.length_take]; rfl)) ?_; (with_reducible refine (headgatelaw08_b.calls 0 1 t257 t258 _ A115.out).mono ?_); rintro e w134 ⟨rfl, hb⟩; refine ⟨_, rfl, ?_⟩; have n0_ := Aside0.mk (Kd.R_below (by (with_reducible repeat (first | apply Kd.R_alloc | apply Kd.R_drewN | apply Kd.R_drew)); exact HO252.out) hb); have n1_ := Aside0.mk (Kd.R_below (by (with_reducible repeat (first | apply Kd.R_alloc | apply Kd.R_drewN | apply Kd.R_drew)); exact HO256.out) hb); have n2_ := Aside0.mk (blk_below (g := gb210) (o := .cells #[.int .i64 t207, .int .i64 t208] 32 (0, 0)) (by (with_reducible repeat (first | refine blk_drewN ?_ _ | refine blk_drew ?_ | refine blk_alloc ?_ _)); exact BK210.out) hb); have n3_ := Aside0.mk (blk_below (g := gb216) (o := .cells #[.int .i64 t213, .int .i64 t214] 32 (0, 0)) (by (with_reducible repeat (first | refine blk_drewN ?_ _ | refine blk_drew ?_ | refine blk_alloc ?_ _)); exact BK216.out) hb); have n4_ := Aside0.mk (below_step (by repeat (first | (with_reducible first | exact HB.out | apply below_alloc | apply pw_below_drewN | apply below_drew1 | refine below_set ?_ GE210.out | refine below_set ?_ GE216.out) | exact HB.out)) hb); clear HO252; clear HO256; clear BK210; clear BK216; clear HB; have HO252 := n0_; have HO256 := n1_; have BK210 := n2_; have BK216 := n3_; have HB := n4_; clear n0_ n1_ n2_ n3_ n4_; (try clear hb); (try clear hb2); (try clear hk); (try clear hi)) | ((with_reducible refine gate_callee (f := 14) rfl ?_); refine goesL_ (some 131) rfl rfl Try.func14 (by kernel_rfl) rfl #[.int .i64 1, .int .i64 0] rfl (by (try simp only [List.map_toArray, List.map_cons, List.map_nil]); first | done | rfl | (simp only [List.length_drop, List.length_take]; rfl)) ?_; (with_reducible refine (headgatelaw08_b.calls 1 0 t259 t260 _ A116.out).mono ?_); rintro e w135 ⟨rfl, hb⟩; refine ⟨_, rfl, ?_⟩; have n0_ := Aside0.mk (Kd.R_below (by (with_reducible repeat (first | apply Kd.R_alloc | apply Kd.R_drewN | apply Kd.R_drew)); exact HO252.out) hb); have n1_ := Aside0.mk (Kd.R_below (by (with_reducible repeat (first | apply Kd.R_alloc | apply Kd.R_drewN | apply Kd.R_drew)); exact HO256.out) hb); have n2_ := Aside0.mk (blk_below (g := gb210) (o := .cells #[.int .i64 t207, .int .i64 t208] 32 (0, 0)) (by (with_reducible repeat (first | refine blk_drewN ?_ _ | refine blk_drew ?_ | refine blk_alloc ?_ _)); exact BK210.out) hb); have n3_ := Aside0.mk (blk_below (g := gb216) (o := .cells #[.int .i64 t213, .int .i64 t214] 32 (0, 0)) (by (with_reducible repeat (first | refine blk_drewN ?_ _ | refine blk_drew ?_ | refine blk_alloc ?_ _)); exact BK216.out) hb); have n4_ := Aside0.mk (below_step (by repeat (first | (with_reducible first | exact HB.out | apply below_alloc | apply pw_below_drewN | apply below_drew1 | refine below_set ?_ GE210.out | refine below_set ?_ GE216.out) | exact HB.out)) hb); clear HO252; clear HO256; clear BK210; clear BK216; clear HB; have HO252 := n0_; have HO256 := n1_; have BK210 := n2_; have BK216 := n3_; have HB := n4_; clear n0_ n1_ n2_ n3_ n4_; (try clear hb); (try clear hb2); (try clear hk); (try clear hi)) | ((with_reducible refine gate_dst (N := 132) rfl ?_); (try (refine gate_guard (by rfl) ?_; dsimp only)); refine Kd.R_lit k32 _ 32 ?hg (N := 132) ?hd (xs := ([(⟨t257, t258⟩ : S32), (⟨t259, t260⟩ : S32)] : List (S32))) (inner := [.int .i64 t257, .int .i64 t258, .int .i64 t259, .int .i64 t260]) (ok := fun _ => True) (okp := fun _ => True) ?hr ?hp (fun _ hk => hk) trivial (Below.refl _ _) (Nat.le_refl _) (by simp) ?_; (case hd => rfl); (case hg => rfl); (case hr => first | (go_simp; done) | (go_simp; rfl)); (case hp => exact (Reps.c2 (show Kd.M k32 _ _ _ (⟨t257, t258⟩ : S32) [.int .i64 t257, .int .i64 t258] from (k32_mkM _ _ _ (⟨t257, t258⟩ : S32) )) (Reps.c2 (show Kd.M k32 _ _ _ (⟨t259, t260⟩ : S32) [.int .i64 t259, .int .i64 t260] from (k32_mkM _ _ _ (⟨t259, t260⟩ : S32) )) (Reps.none _ _)))); intro v262 w136 ho137 hb hg_ hnew_; clear hg_ hnew_; (first | rw [← Ny261.out] at ho137 | (simp only [Int.reduceToNat] at ho137; rw [← Ny261.out] at ho137)); have n0_ := Aside0.mk (Kd.R_elder' (by (with_reducible repeat (first | apply Kd.R_alloc | apply Kd.R_drewN | apply Kd.R_drew)); exact HO252.out) (Kd.R_base ho137) hb); have n1_ := Aside0.mk (Kd.R_elder' (by (with_reducible repeat (first | apply Kd.R_alloc | apply Kd.R_drewN | apply Kd.R_drew)); exact HO256.out) (Kd.R_base ho137) hb); have n2_ := Aside0.mk (Kd.R_lower (Kd.R_newB (Kd.R_newB (Kd.R_new' (Kd.R_new' ho137 (Kd.R_lt (by (with_reducible repeat (first | apply Kd.R_alloc | apply Kd.R_drewN | apply Kd.R_drew)); exact HO252.out))) (Kd.R_lt (by (with_reducible repeat (first | apply Kd.R_alloc | apply Kd.R_drewN | apply Kd.R_drew)); exact HO256.out))) (g := gb210) (o := .cells #[.int .i64 t207, .int .i64 t208] 32 (0, 0)) (by (with_reducible repeat (first | refine blk_drewN ?_ _ | refine blk_drew ?_ | refine blk_alloc ?_ _)); exact BK210.out)) (g := gb216) (o := .cells #[.int .i64 t213, .int .i64 t214] 32 (0, 0)) (by (with_reducible repeat (first | refine blk_drewN ?_ _ | refine blk_drew ?_ | refine blk_alloc ?_ _)); exact BK216.out)) (below_size (by repeat (first | (with_reducible first | exact HB.out | apply below_alloc | apply pw_below_drewN | apply below_drew1 | refine below_set ?_ GE210.out | refine below_set ?_ GE216.out) | exact HB.out)))); have n3_ := Aside0.mk (blk_below (g := gb210) (o := .cells #[.int .i64 t207, .int .i64 t208] 32 (0, 0)) (by (with_reducible repeat (first | refine blk_drewN ?_ _ | refine blk_drew ?_ | refine blk_alloc ?_ _)); exact BK210.out) hb); have n4_ := Aside0.mk (blk_below (g := gb216) (o := .cells #[.int .i64 t213, .int .i64 t214] 32 (0, 0)) (by (with_reducible repeat (first | refine blk_drewN ?_ _ | refine blk_drew ?_ | refine blk_alloc ?_ _)); exact BK216.out) hb); have n5_ := Aside0.mk (below_step (by repeat (first | (with_reducible first | exact HB.out | apply below_alloc | apply pw_below_drewN | apply below_drew1 | refine below_set ?_ GE210.out | refine below_set ?_ GE216.out) | exact HB.out)) hb); clear HO252; clear HO256; clear BK210; clear BK216; clear HB; have HO252 := n0_; have HO256 := n1_; have HO263 := n2_; have BK210 := n3_; have BK216 := n4_; have HB := n5_; clear n0_ n1_ n2_ n3_ n4_ n5_; clear hb ho137; obtain ⟨Ao138, co138, eo138⟩ := Kd.R_slice HO263.out; subst eo138) | ((with_reducible refine gate_callee (f := 29) rfl ?_); refine goesL_ (some 133) rfl rfl Try.func29 (by kernel_rfl) rfl #[.slice Ao138 y261.length co138] rfl (by (try simp only [List.map_toArray, List.map_cons, List.map_nil]); first | done | rfl | (simp only [List.length_drop, List.length_take]; rfl)) ?_; (with_reducible refine (order_CheckList.calls kj54 _ _ y261 t264 t265 _ ?side1 ?side2 A117.out).mono ?_); (case side1 => repeat (first | exact (Kd.R_reads' HO263.out).2.2 | (with_reducible refine Kd.C_alloc ?_ _) | (with_reducible refine Kd.C_drewN ?_ _) | (with_reducible refine Kd.C_drew ?_))); (case side2 => exact (Kd.R_reads' HO263.out).2.1); rintro e w139 ⟨rfl, hb⟩; refine ⟨_, rfl, ?_⟩; have n0_ := Aside0.mk (Kd.R_below (by (with_reducible repeat (first | apply Kd.R_alloc | apply Kd.R_drewN | apply Kd.R_drew)); exact HO252.out) hb); have n1_ := Aside0.mk (Kd.R_below (by (with_reducible repeat (first | apply Kd.R_alloc | apply Kd.R_drewN | apply Kd.R_drew)); exact HO256.out) hb); have n2_ := Aside0.mk (Kd.R_below (by (with_reducible repeat (first | apply Kd.R_alloc | apply Kd.R_drewN | apply Kd.R_drew)); exact HO263.out) hb); have n3_ := Aside0.mk (blk_below (g := gb210) (o := .cells #[.int .i64 t207, .int .i64 t208] 32 (0, 0)) (by (with_reducible repeat (first | refine blk_drewN ?_ _ | refine blk_drew ?_ | refine blk_alloc ?_ _)); exact BK210.out) hb); have n4_ := Aside0.mk (blk_below (g := gb216) (o := .cells #[.int .i64 t213, .int .i64 t214] 32 (0, 0)) (by (with_reducible repeat (first | refine blk_drewN ?_ _ | refine blk_drew ?_ | refine blk_alloc ?_ _)); exact BK216.out) hb); have n5_ := Aside0.mk (below_step (by repeat (first | (with_reducible first | exact HB.out | apply below_alloc | apply pw_below_drewN | apply below_drew1 | refine below_set ?_ GE210.out | refine below_set ?_ GE216.out) | exact HB.out)) hb); clear HO252; clear HO256; clear HO263; clear BK210; clear BK216; clear HB; have HO252 := n0_; have HO256 := n1_; have HO263 := n2_; have BK210 := n3_; have BK216 := n4_; have HB := n5_; clear n0_ n1_ n2_ n3_ n4_ n5_; (try clear hb); (try clear hb2); (try clear hk); (try clear hi)) | (go_at_call 14; (with_reducible refine (headgatelaw08_b.calls 0 2 t266 t267 _ A119.out).mono ?_); rintro e w140 ⟨rfl, hb⟩; have n0_ := Aside0.mk (Kd.R_below (by (with_reducible repeat (first | apply Kd.R_alloc | apply Kd.R_drewN | apply Kd.R_drew)); exact HO252.out) hb); have n1_ := Aside0.mk (Kd.R_below (by (with_reducible repeat (first | apply Kd.R_alloc | apply Kd.R_drewN | apply Kd.R_drew)); exact HO256.out) hb); have n2_ := Aside0.mk (Kd.R_below (by (with_reducible repeat (first | apply Kd.R_alloc | apply Kd.R_drewN | apply Kd.R_drew)); exact HO263.out) hb); have n3_ := Aside0.mk (blk_below (g := gb210) (o := .cells #[.int .i64 t207, .int .i64 t208] 32 (0, 0)) (by (with_reducible repeat (first | refine blk_drewN ?_ _ | refine blk_drew ?_ | refine blk_alloc ?_ _)); exact BK210.out) hb); have n4_ := Aside0.mk (blk_below (g := gb216) (o := .cells #[.int .i64 t213, .int .i64 t214] 32 (0, 0)) (by (with_reducible repeat (first | refine blk_drewN ?_ _ | refine blk_drew ?_ | refine blk_alloc ?_ _)); exact BK216.out) hb); have n5_ := Aside0.mk (below_step (by repeat (first | (with_reducible first | exact HB.out | apply below_alloc | apply pw_below_drewN | apply below_drew1 | refine below_set ?_ GE210.out | refine below_set ?_ GE216.out) | exact HB.out)) hb); clear HO252; clear HO256; clear HO263; clear BK210; clear BK216; clear HB; have HO252 := n0_; have HO256 := n1_; have HO263 := n2_; have BK210 := n3_; have BK216 := n4_; have HB := n5_; clear n0_ n1_ n2_ n3_ n4_ n5_; (try clear hb); (try clear hb2); (try clear hk); (try clear hi)) | (go_at_call 14; (with_reducible refine (headgatelaw08_b.calls 8 0 t268 t269 _ A120.out).mono ?_); rintro e w141 ⟨rfl, hb⟩; have n0_ := Aside0.mk (Kd.R_below (by (with_reducible repeat (first | apply Kd.R_alloc | apply Kd.R_drewN | apply Kd.R_drew)); exact HO252.out) hb); have n1_ := Aside0.mk (Kd.R_below (by (with_reducible repeat (first | apply Kd.R_alloc | apply Kd.R_drewN | apply Kd.R_drew)); exact HO256.out) hb); have n2_ := Aside0.mk (Kd.R_below (by (with_reducible repeat (first | apply Kd.R_alloc | apply Kd.R_drewN | apply Kd.R_drew)); exact HO263.out) hb); have n3_ := Aside0.mk (blk_below (g := gb210) (o := .cells #[.int .i64 t207, .int .i64 t208] 32 (0, 0)) (by (with_reducible repeat (first | refine blk_drewN ?_ _ | refine blk_drew ?_ | refine blk_alloc ?_ _)); exact BK210.out) hb); have n4_ := Aside0.mk (blk_below (g := gb216) (o := .cells #[.int .i64 t213, .int .i64 t214] 32 (0, 0)) (by (with_reducible repeat (first | refine blk_drewN ?_ _ | refine blk_drew ?_ | refine blk_alloc ?_ _)); exact BK216.out) hb); have n5_ := Aside0.mk (below_step (by repeat (first | (with_reducible first | exact HB.out | apply below_alloc | apply pw_below_drewN | apply below_drew1 | refine below_set ?_ GE210.out | refine below_set ?_ GE216.out) | exact HB.out)) hb); clear HO252; clear HO256; clear HO263; clear BK210; clear BK216; clear HB; have HO252 := n0_; have HO256 := n1_; have HO263 := n2_; have BK210 := n3_; have BK216 := n4_; have HB := n5_; clear n0_ n1_ n2_ n3_ n4_ n5_; (try clear hb); (try clear hb2); (try clear hk); (try clear hi)) | ((with_reducible refine gate_dst (N := 142) rfl ?_); (try (refine gate_guard (by rfl) ?_; dsimp only)); refine Kd.R_lit k32 _ 32 ?hg (N := 142) ?hd (xs := ([(⟨t266, t267⟩ : S32), (⟨t268, t269⟩ : S32)] : List (S32))) (inner := [.int .i64 t266, .int .i64 t267, .int .i64 t268, .int .i64 t269]) (ok := fun _ => True) (okp := fun _ => True) ?hr ?hp (fun _ hk => hk) trivial (Below.refl _ _) (Nat.le_refl _) (by simp) ?_; (case hd => rfl); (case hg => rfl); (case hr => first | (go_simp; done) | (go_simp; rfl)); (case hp => exact (Reps.c2 (show Kd.M k32 _ _ _ (⟨t266, t267⟩ : S32) [.int .i64 t266, .int .i64 t267] from (k32_mkM _ _ _ (⟨t266, t267⟩ : S32) )) (Reps.c2 (show Kd.M k32 _ _ _ (⟨t268, t269⟩ : S32) [.int .i64 t268, .int .i64 t269] from (k32_mkM _ _ _ (⟨t268, t269⟩ : S32) )) (Reps.none _ _)))); intro v271 w142 ho143 hb hg_ hnew_; clear hg_ hnew_; (first | rw [← Ny270.out] at ho143 | (simp only [Int.reduceToNat] at ho143; rw [← Ny270.out] at ho143)); have n0_ := Aside0.mk (Kd.R_elder' (by (with_reducible repeat (first | apply Kd.R_alloc | apply Kd.R_drewN | apply Kd.R_drew)); exact HO252.out) (Kd.R_base ho143) hb); have n1_ := Aside0.mk (Kd.R_elder' (by (with_reducible repeat (first | apply Kd.R_alloc | apply Kd.R_drewN | apply Kd.R_drew)); exact HO256.out) (Kd.R_base ho143) hb); have n2_ := Aside0.mk (Kd.R_elder' (by (with_reducible repeat (first | apply Kd.R_alloc | apply Kd.R_drewN | apply Kd.R_drew)); exact HO263.out) (Kd.R_base ho143) hb); have n3_ := Aside0.mk (Kd.R_lower (Kd.R_newB (Kd.R_newB (Kd.R_new' (Kd.R_new' (Kd.R_new' ho143 (Kd.R_lt (by (with_reducible repeat (first | apply Kd.R_alloc | apply Kd.R_drewN | apply Kd.R_drew)); exact HO252.out))) (Kd.R_lt (by (with_reducible repeat (first | apply Kd.R_alloc | apply Kd.R_drewN | apply Kd.R_drew)); exact HO256.out))) (Kd.R_lt (by (with_reducible repeat (first | apply Kd.R_alloc | apply Kd.R_drewN | apply Kd.R_drew)); exact HO263.out))) (g := gb210) (o := .cells #[.int .i64 t207, .int .i64 t208] 32 (0, 0)) (by (with_reducible repeat (first | refine blk_drewN ?_ _ | refine blk_drew ?_ | refine blk_alloc ?_ _)); exact BK210.out)) (g := gb216) (o := .cells #[.int .i64 t213, .int .i64 t214] 32 (0, 0)) (by (with_reducible repeat (first | refine blk_drewN ?_ _ | refine blk_drew ?_ | refine blk_alloc ?_ _)); exact BK216.out)) (below_size (by repeat (first | (with_reducible first | exact HB.out | apply below_alloc | apply pw_below_drewN | apply below_drew1 | refine below_set ?_ GE210.out | refine below_set ?_ GE216.out) | exact HB.out)))); have n4_ := Aside0.mk (blk_below (g := gb210) (o := .cells #[.int .i64 t207, .int .i64 t208] 32 (0, 0)) (by (with_reducible repeat (first | refine blk_drewN ?_ _ | refine blk_drew ?_ | refine blk_alloc ?_ _)); exact BK210.out) hb); have n5_ := Aside0.mk (blk_below (g := gb216) (o := .cells #[.int .i64 t213, .int .i64 t214] 32 (0, 0)) (by (with_reducible repeat (first | refine blk_drewN ?_ _ | refine blk_drew ?_ | refine blk_alloc ?_ _)); exact BK216.out) hb); have n6_ := Aside0.mk (below_step (by repeat (first | (with_reducible first | exact HB.out | apply below_alloc | apply pw_below_drewN | apply below_drew1 | refine below_set ?_ GE210.out | refine below_set ?_ GE216.out) | exact HB.out)) hb); clear HO252; clear HO256; clear HO263; clear BK210; clear BK216; clear HB; have HO252 := n0_; have HO256 := n1_; have HO263 := n2_; have HO272 := n3_; have BK210 := n4_; have BK216 := n5_; have HB := n6_; clear n0_ n1_ n2_ n3_ n4_ n5_ n6_; clear hb ho143; obtain ⟨Ao144, co144, eo144⟩ := Kd.R_slice HO256.out; subst eo144; obtain ⟨Ao145, co145, eo145⟩ := Kd.R_slice HO272.out; subst eo145) | (go_at_call 11; (with_reducible refine (headgatelaw08_same.calls kj54 _ _ t253 _ _ y270 true _ ?side1 ?side2 ?side3 ?side4 A121.out).mono ?_); (case side1 => repeat (first | exact (Kd.R_reads' HO256.out).2.2 | (with_reducible refine Kd.C_alloc ?_ _) | (with_reducible refine Kd.C_drewN ?_ _) | (with_reducible refine Kd.C_drew ?_))); (case side2 => exact (Kd.R_reads' HO256.out).2.1); (case side3 => repeat (first | exact (Kd.R_reads' HO272.out).2.2 | (with_reducible refine Kd.C_alloc ?_ _) | (with_reducible refine Kd.C_drewN ?_ _) | (with_reducible refine Kd.C_drew ?_))); (case side4 => exact (Kd.R_reads' HO272.out).2.1); rintro e w' ⟨rfl, ⟨nd, rfl⟩⟩) | (go_at_call 12; (with_reducible refine (headgatelaw08_awake.calls kj54  t274 _ A125.out).mono ?_); rintro e w146 ⟨rfl, hb⟩; have n0_ := Aside0.mk (Kd.R_below (by (with_reducible repeat (first | apply Kd.R_alloc | apply Kd.R_drewN | apply Kd.R_drew)); exact HO252.out) hb); have n1_ := Aside0.mk (Kd.R_below (by (with_reducible repeat (first | apply Kd.R_alloc | apply Kd.R_drewN | apply Kd.R_drew)); exact HO256.out) hb); have n2_ := Aside0.mk (Kd.R_below (by (with_reducible repeat (first | apply Kd.R_alloc | apply Kd.R_drewN | apply Kd.R_drew)); exact HO263.out) hb); have n3_ := Aside0.mk (Kd.R_below (by (with_reducible repeat (first | apply Kd.R_alloc | apply Kd.R_drewN | apply Kd.R_drew)); exact HO272.out) hb); have n4_ := Aside0.mk (blk_below (g := gb210) (o := .cells #[.int .i64 t207, .int .i64 t208] 32 (0, 0)) (by (with_reducible repeat (first | refine blk_drewN ?_ _ | refine blk_drew ?_ | refine blk_alloc ?_ _)); exact BK210.out) hb); have n5_ := Aside0.mk (blk_below (g := gb216) (o := .cells #[.int .i64 t213, .int .i64 t214] 32 (0, 0)) (by (with_reducible repeat (first | refine blk_drewN ?_ _ | refine blk_drew ?_ | refine blk_alloc ?_ _)); exact BK216.out) hb); have n6_ := Aside0.mk (below_step (by repeat (first | (with_reducible first | exact HB.out | apply below_alloc | apply pw_below_drewN | apply below_drew1 | refine below_set ?_ GE210.out | refine below_set ?_ GE216.out) | exact HB.out)) hb); clear HO252; clear HO256; clear HO263; clear HO272; clear BK210; clear BK216; clear HB; have HO252 := n0_; have HO256 := n1_; have HO263 := n2_; have HO272 := n3_; have BK210 := n4_; have BK216 := n5_; have HB := n6_; clear n0_ n1_ n2_ n3_ n4_ n5_ n6_; (try clear hb); (try clear hb2); (try clear hk); (try clear hi)))
                            go_ret
                            obtain rfl := hlast.out
                            exact ⟨by first | rfl | (simp [errW_none, errW_some] <;> rfl) | (simp [*, errW_none, errW_some] <;> rfl), by repeat (first | (with_reducible first | exact HB.out | apply below_alloc | apply pw_below_drewN | apply below_drew1 | refine below_set ?_ GE210.out | refine below_set ?_ GE216.out) | exact HB.out)⟩
                          · rw [if_neg c124] at H
                            have c124b0 : (t265 == 1) = false := beq_eq_false_iff_ne.mpr c124
                            have c124b1 : (t265 != 1) = true := bne_iff_ne.mpr c124
                            exact absurd H (by simp)
                        · rw [if_neg c123] at H
                          have c123b0 : (t264 == 8) = false := beq_eq_false_iff_ne.mpr c123
                          have c123b1 : (t264 != 8) = true := bne_iff_ne.mpr c123
                          exact absurd H (by simp)
                      · replace c122 := Bool.eq_false_iff.mpr c122
                        subst c122
                        have H1 : (some false) = some true := by rw [if_neg (show ¬ (false = true) by decide)] at H; exact H
                        clear H
                        have H := H1
                        clear H1
                        exact absurd H (by simp)
                    · rw [if_neg c118] at H
                      have c118b0 : (t254 == 0) = false := beq_eq_false_iff_ne.mpr c118
                      have c118b1 : (t254 != 0) = true := bne_iff_ne.mpr c118
                      exact absurd H (by simp)

/-- THE ONE PURE STATEMENT of headgatelaw08_OrderKnown: yours. -/
def headgatelaw08_OrderKnown.Pure : Prop := ∃ k, headgatelaw08_OrderKnown.f k  = some true
theorem headgatelaw08_OrderKnown.walk (P : headgatelaw08_OrderKnown.Pure)  (w : World)  :
    Calls Try.prog 8 #[] w fun e w' => e = .returned (.bool true) ∧ Below w.heap.size w w' := by
  obtain ⟨k, h⟩ := P
  exact headgatelaw08_OrderKnown.calls k w h
end Go.Proofs.Ytcdeaiiiplkfiaa.X
