/- order.Frames: the iterator over the frames of blocks by its contract, and the function that collects them: for any list of blocks that lies in memory, valid or not, what it returns is the list of the blocks' frames, or the error of the list; nothing that was there is changed. -/
import Derived.RangeFuncNested
import Derived.RangeFuncBound
import Derived.RangeFuncCalls
import Derived.RangeFuncLeaves
import Derived.RangeFuncBox
import Derived.Shelf.Abstract
import Derived.WalkKit
import Derived.OwnWalkIn
import Derived.TacticsInMore
import Derived.LoopNIn
import Derived.LoopIn
import Derived.Maps.AppendAt
import Derived.Lib.Hide
import Derived.Test.YtcdeaiiiplkfiaaXx7
namespace Go.Proofs.Ytcdeaiiiplkfiaa.X
open Go.RowKit Go.Shelf Go.Proofs.YtcdeaiiiplkfiaaW.PrintWords Go.Proofs.YtcdeaiiiplkfiaaW.PrintLast Go.Proofs.YtcdeaiiiplkfiaaW.PrintMore
attribute [local go_sem] Oper.semAt_some

def framesOf (b : S32) : List Int := (List.range (2 ^ b.f1.toNat)).map fun (i : Nat) => b.f0 + i
def framesL (l : List S32) : List Int := l.flatMap framesOf
def okB (b : S32) : Prop := 0 ≤ b.f0 ∧ b.f0 ≤ 255 ∧ 0 ≤ b.f1 ∧ b.f1 ≤ 6
/-- What a round that goes on keeps: what lay below n₀, and whatever holds a block. -/
def KpF (n₀ : Nat) (W W' : World) : Prop := Below n₀ W W' ∧ ∀ (k : Nat) (cs : Array Value), W.heap[k]? = some (.cells cs 32 (0, 0)) → W'.heap[k]? = some (.cells cs 32 (0, 0))
theorem KpF_t {n₀ : Nat} {A B C : World} (h : KpF n₀ A B) (k : KpF n₀ B C) : KpF n₀ A C := ⟨h.1.trans k.1, fun j cs hj => k.2 j cs (h.2 j cs hj)⟩
theorem KpF_b {n₀ : Nat} {w : World} (hn : n₀ ≤ w.heap.size) (W : World) (l : Nat) (o o' : Obj) (hl : w.heap.size ≤ l) (h : W.heap[l]? = some o) (hc : o.isCells = false) (hw : o.isWalk = false) : KpF n₀ W (W.putObj l o') := by
  refine ⟨belowK_b hn W l o o' hl h hc hw, fun k cs hk => ?_⟩
  by_cases hkl : k = l
  · subst hkl
    rw [h] at hk
    injection hk with hk
    subst hk
    cases hc
  · rw [World.putObj_heap_other (by omega)]
    exact hk

theorem framesL_take_succ (L : List S32) (k : Nat) (h : k < L.length) : framesL (L.take (k + 1)) = framesL (L.take k) ++ framesOf L[k] := by
  rw [List.take_succ_eq_append_getElem h, framesL, List.flatMap_append]
  simp [framesL]
theorem framesL_prefix (L : List S32) (k : Nat) (h : k < L.length) (j : Nat) (_hj : j ≤ (framesOf L[k]).length) : framesL (L.take k) ++ (framesOf L[k]).take j <+: framesL L := by
  have h1 : L = L.take (k + 1) ++ L.drop (k + 1) := (List.take_append_drop _ _).symm
  have h2 : framesL L = framesL (L.take (k + 1)) ++ framesL (L.drop (k + 1)) := by
    conv => lhs; rw [h1]
    rw [framesL, List.flatMap_append]
    rfl
  rw [h2, framesL_take_succ L k h, List.append_assoc, List.prefix_append_right_inj]
  exact (List.take_prefix _ _).trans (List.prefix_append _ _)
theorem framesOf_length (b : S32) : (framesOf b).length = 2 ^ b.f1.toNat := by simp [framesOf]
theorem framesOf_take_succ (b : S32) (j : Nat) (h : j < 2 ^ b.f1.toNat) : (framesOf b).take (j + 1) = (framesOf b).take j ++ [b.f0 + (j : Int)] := by
  rw [List.take_succ_eq_append_getElem (by rw [framesOf_length]; exact h)]
  simp [framesOf]
theorem wsm2 {x : Int} (h0 : -9223372036854775808 ≤ x) (h1 : x ≤ 9223372036854775807) : wrap64 x = x := by
  unfold wrap64
  omega
theorem prefix_lt {pre xs : List Int} {x : Int} (h : pre ++ [x] <+: xs) : pre.length < xs.length := by
  have := h.length_le
  simp at this
  omega

set_option maxRecDepth 100000 in
set_option maxHeartbeats 4000000 in
theorem frames1_in (F : Fence) (n : Nat) (h37 : F.fn 37) (hro : F.round = none) (hn : 1 ≤ n) (l Bn : Nat) (w0 : World) (A : Option Addr) (c : Nat) (L : List S32) (hL : ∀ b ∈ L, okB b) (hlen : L.length ≤ 1000000) (J Jx : List Int → World → Prop)
    (hY : ∀ pre x W, J pre W → pre.length < (framesL L).length → YieldAt F (n - 1) Try.prog l #[.int .i64 x] W fun e W' =>
      (e = .returned (.bool true) ∧ J (pre ++ [x]) W' ∧ KpF w0.heap.size W W') ∨ (e = .returned (.bool false) ∧ Jx (pre ++ [x]) W'))
    (W : World) (hJ : ∀ s A B, J s A → A.grownBy B none → J s B) (hBn : W.cell? ⟨Bn, 0, none⟩ = some (.slice A L.length c)) (hC : Kd.C k32 w0 A L.length L) (hB : Below w0.heap.size w0 W) (h0 : J [] W) :
    CallsIn F n Try.prog 37 #[.func (.yield l) #[] #[], .pointer (some ⟨Bn, 0, none⟩)] W fun e W' => (∃ v, e = .returned v) ∧
      ((∃ ys, ys = framesL L ∧ J ys W') ∨ (∃ pre, pre <+: framesL L ∧ Jx pre W')) := by
  refine callsIn_of_wp Try.func37 rfl h37 ?_ hro
  simp only [Try.ntmps37, List.size_toArray, List.length_cons, List.length_nil, Nat.reduceAdd, Nat.reduceSub, Array.replicate_succ, Array.replicate_zero, List.push_toArray, List.append_toArray, List.nil_append, List.cons_append]
  have hu32 := Try.underlying32
  gi_wp2
  gi_loopw [8] (fun i wr => ∃ k : Nat, k ≤ L.length ∧ i = .int .i64 k ∧ Aside0 (J (framesL (L.take k)) wr) ∧ Aside0 (Below w0.heap.size w0 wr))
    (fun i _ => L.length - (intOf i).toNat)
  case atStart => exact ⟨0, Nat.zero_le _, rfl, ⟨h0⟩, ⟨hB⟩⟩
  case round =>
    obtain ⟨k, hk, rfl, HJ, HB⟩ := hrel
    obtain ⟨wo, rfl⟩ : ∃ wo : World, wo = wr := ⟨_, rfl⟩
    by_cases hlt : k < L.length
    · have hok := hL L[k] (List.getElem_mem hlt)
      obtain ⟨ad, e1, hx0, hx1⟩ := at_T32 (Kd.C_below hC HB.out) (k : Int) (by omega) (by omega)
      cases e1
      rw [Int.toNat_natCast] at hx0 hx1
      have hrd : rd_T32 L (k : Int) = L[k] := by simp [rd_T32, List.getD_eq_getElem?_getD, List.getElem?_eq_getElem hlt]
      rw [hrd] at hx0 hx1
      have hsucc := framesL_take_succ L k hlt
      have hpre := framesL_prefix L k hlt
      have hoft := framesOf_take_succ L[k]
      have hofl := framesOf_length L[k]
      clear hrd
      generalize L[k] = b at hok hx0 hx1 hsucc hpre hoft hofl
      obtain ⟨a, o⟩ := b
      obtain ⟨ho1, ho2, ho3, ho4⟩ := hok
      dsimp only at ho1 ho2 ho3 ho4 hx0 hx1
      obtain ⟨o, rfl⟩ := Int.eq_ofNat_of_zero_le ho3
      have hp6 : 2 ^ o ≤ 64 := Nat.pow_le_pow_right (n := 2) (by omega) (show o ≤ 6 by omega)
      have hp1 : 1 ≤ 2 ^ o := Nat.one_le_two_pow
      have hcast : ((2 ^ o : Nat) : Int) = (2 : Int) ^ o := by simp
      obtain ⟨m, hm⟩ : ∃ m : Nat, m = 2 ^ o := ⟨_, rfl⟩
      have hw : wrap64 (2 ^ o) = (m : Int) := by rw [wsm2 (by omega) (by omega), hm, hcast]
      dsimp only [Int.toNat_natCast] at hsucc hpre hoft hofl
      rw [← hm] at hoft hofl hp6 hp1
      clear hcast hm
      generalize hfb : framesOf ⟨a, (o : Int)⟩ = fb at hsucc hpre hoft hofl
      generalize hp0 : framesL (L.take k) = p0 at hsucc hpre HJ
      have HSucc := Lib.hid hsucc
      have HPre := Lib.hid hpre
      have HOft := Lib.hid hoft
      have HOfl := Lib.hid hofl
      clear hsucc hpre hoft hofl hfb hp0
      gi_wp2
      rw [hw]
      clear hw hx0 hx1
      gi_loopw [15] (fun i wi => ∃ j : Nat, j ≤ m ∧ i = .int .i64 j ∧ Aside0 (J (p0 ++ fb.take j) wi) ∧ Aside0 (Below w0.heap.size w0 wi) ∧ Aside0 (wi.heap[wo.heap.size]? = some (.cells #[.int .i64 a, .int .i64 o] 32 (0, 0))))
        (fun i _ => m - (intOf i).toNat)
      case atStart => exact ⟨0, Nat.zero_le _, rfl, ⟨by rw [List.take_zero, List.append_nil]; exact hJ _ _ _ HJ.out (World.grownBy_alloc _ _ none)⟩, ⟨HB.out.alloc HB.out.size _⟩, ⟨World.alloc_heap_new _ _⟩⟩
      case round =>
        obtain ⟨j, hj, rfl, HJ2, HB2, HK2⟩ := hrel
        have hc0 : wr.cell? ⟨wo.heap.size, 0, none⟩ = some (.int .i64 a) := (blk_cell HK2.out 0).trans rfl
        by_cases hjm : j < m
        · have hpx := HPre.out (j + 1) (by rw [HOfl.out]; omega)
          rw [HOft.out j hjm, ← List.append_assoc] at hpx
          obtain ⟨fn, tmps, assign, body, hy, hR⟩ := hY _ (a + (j : Int)) wr HJ2.out (prefix_lt hpx)
          have HPx := Lib.hid hpx
          clear hpx
          gi_wp2
          refine hR.mono ?_
          rintro e W3 (⟨rfl, hJ3, hk3⟩ | ⟨rfl, hJx3⟩)
          · have HJ3 := Aside0.mk hJ3
            have HK3 := Aside0.mk hk3
            clear hJ3 hk3 hc0
            gi_wp2
            go_roundw
            case rel => exact ⟨j + 1, by omega, by simp, ⟨by rw [HOft.out j hjm, ← List.append_assoc]; exact HJ3.out⟩, ⟨HB2.out.trans HK3.out.1⟩, ⟨HK3.out.2 _ _ HK2.out⟩⟩
            case measure => simp [intOf]; omega
          · have HJ3 := Aside0.mk hJx3
            clear hJx3 hc0
            gi_wp2
            refine bodyPost_ret (results_none rfl _ _ _) rfl ?_
            exact ⟨⟨_, rfl⟩, .inr ⟨_, HPx.out, HJ3.out⟩⟩
        · obtain rfl : j = m := by omega
          clear hc0
          gi_wp2
          go_roundw
          case rel => exact ⟨k + 1, by omega, by simp, ⟨by rw [HSucc.out]; have h_ := HJ2.out; rw [List.take_of_length_le (Nat.le_of_eq HOfl.out)] at h_; exact h_⟩, HB2⟩
          case measure => simp [intOf]; omega
    · obtain rfl : k = L.length := by omega
      gi_wp2
      go_end0
      exact ⟨⟨_, rfl⟩, .inl ⟨_, rfl, by rw [List.take_length] at HJ; exact HJ.out⟩⟩

set_option maxHeartbeats 1000000 in
/-- The iterator's value: the list is boxed, the closure captures the box. -/
theorem frames_in (F : Fence) (n : Nat) (h35 : F.fn 35) (hro : F.round = none) (v : Value) (hv : v.oneCell' = true) (w : World) :
    CallsIn F n Try.prog 35 #[v] w fun e w' => e = .returned (.func (.func 37) #[] #[.pointer (some ⟨w.heap.size, 0, none⟩)]) ∧ w' = w.alloc (.cells #[v] 22) := by
  refine callsIn_of_wp Try.func35 rfl h35 ?_ hro
  simp only [Try.ntmps35, List.size_toArray, List.length_cons, List.length_nil, Nat.reduceAdd, Nat.reduceSub, Array.replicate_succ, Array.replicate_zero, List.push_toArray, List.append_toArray, List.nil_append, List.cons_append]
  gi_wp2
  go_ret
  exact ⟨rfl, rfl⟩
theorem framesL_length (L : List S32) (hL : ∀ b ∈ L, okB b) : (framesL L).length ≤ 64 * L.length := by
  induction L with
  | nil => simp [framesL]
  | cons b L ih =>
    have h1 : framesL (b :: L) = framesOf b ++ framesL L := by simp [framesL]
    have h2 := ih (fun x hx => hL x (List.mem_cons_of_mem _ hx))
    have h3 := (hL b (List.mem_cons_self ..)).2.2
    have h4 : 2 ^ b.f1.toNat ≤ 64 := Nat.pow_le_pow_right (n := 2) (by omega) (show b.f1.toNat ≤ 6 by omega)
    rw [h1, List.length_append, framesOf_length, List.length_cons]
    omega
instance (b : S32) : Decidable (okB b) := by unfold okB; infer_instance
def framesOk (l : List S32) : Bool := decide (l.length ≤ 1000000 ∧ ∀ b ∈ l, okB b)
/-- What order.Frames computes. -/
def order_Frames.f (k : Nat) (l0 : List S32) : Option (List Int × Int) := (order_CheckList.f k l0).bind fun t => if t.1 = 0 then (if framesOk l0 = true then some (framesL l0, 0) else none) else some ([], t.1)
theorem order_Frames.mono : ∀ a0 k, LeO (order_Frames.f k a0) (order_Frames.f (k + 1) a0) := by
  intro a0 k
  unfold order_Frames.f
  exact LeO.bind (order_CheckList.mono _ _) (fun _ => LeO.refl _)
theorem R_of_ints {W : World} {base : Nat} {v : Value} {xs : List Int} (h : W.ownsRow base 3 1 v xs.length (xs.map (Value.int .i64))) : Kd.R (Kd.int .i64) 3 W base (fun _ => True) v xs := by
  refine ⟨fun _ _ => trivial, xs.map (Value.int .i64), h, by simp [Kd.int, Kd.scalar], fun j p hj => ?_⟩
  show ((xs.map (Value.int .i64)).drop (j * 1)).take 1 = [Value.int .i64 p]
  obtain ⟨hlt, rfl⟩ := List.getElem?_eq_some_iff.1 hj
  rw [Nat.mul_one, List.drop_eq_getElem_cons (by rw [List.length_map]; exact hlt)]
  simp
theorem info3F : (Try.prog.info? 3).map (fun i => (i.zero, i.size, i.bytes)) = some (some (.int .i64 0), 1, 8) := by kernel_rfl

set_option maxRecDepth 100000 in
set_option maxHeartbeats 4000000 in
theorem Frames_err (k : Nat) (A0 : Option Addr) (c0 : Nat) (l0 : List S32) (e i : Int) (w : World) (hr0 : Kd.C k32 w A0 l0.length l0) (hc0 : l0.length ≤ c0) (h : order_CheckList.f k l0 = some (e, i)) (he : ¬ e = 0) :
    Calls Try.prog 17 #[.slice A0 l0.length c0] w fun e' w' => e' = .returned (.tuple #[.slice none 0 0, .int .i64 e]) ∧ Below w.heap.size w w' := by
  have HR := Aside0.mk hr0
  have HC := Aside0.mk hc0
  have H := Aside0.mk h
  have he1 : (e != 0) = true := bne_iff_ne.mpr he
  clear hr0 hc0 h he
  go_enter Try.func17, Try.ntmps17
  go_wp2_with (go_at_call 29; (with_reducible refine (order_CheckList.calls k A0 c0 l0 e i _ HR.out HC.out H.out).mono ?_); rintro e' w' ⟨rfl, hB⟩; have HB := Aside0.mk hB; clear hB)
  go_ret2
  exact ⟨rfl, HB.out⟩
theorem frames_stops (F : Fence) (n : Nat) (h37 : F.fn 37) (hro : F.round = none) (hn : 1 ≤ n) (Bn : Nat) (w0 : World) (A : Option Addr) (c : Nat) (L : List S32) (hL : ∀ b ∈ L, okB b) (hlen : L.length ≤ 1000000) (w : World) (hBn : Bn < w.heap.size) (hB : Below w0.heap.size w0 w)
    (hc : w.cell? ⟨Bn, 0, none⟩ = some (.slice A L.length c)) (hC : Kd.C k32 w0 A L.length L) :
    SeqStopsK F n Try.prog 37 #[.pointer (some ⟨Bn, 0, none⟩)] (fun x : Int => #[Value.int .i64 x]) (KpF w0.heap.size) (fun ys => ys = framesL L) (fun pre => pre <+: framesL L) (framesL L).length w := fun l J Jx W hW hJ _ hY h0 =>
  frames1_in F n h37 hro hn l Bn w0 A c L hL hlen J Jx hY W (fun s A B hs hg => hJ s A B none hs hg (fun r e => by cases e)) ((hW.cell (p := ⟨Bn, 0, none⟩) hBn).trans hc) hC (hB.trans (hW.mono hB.size)) h0
theorem kp_appended {W w1 : World} {B base k : Nat} {v v' : Value} {xs : List Value} {tmp : Obj} (hv : Boxed W B 36 v) (hrow : W.ownsRow base 3 1 v k xs) (hgrow : (W.alloc tmp).grownBy w1 v.ownBlock) (j : Nat) (cs : Array Value)
    (hj : W.heap[j]? = some (.cells cs 32 (0, 0))) : (w1.setCell ⟨B, 0, none⟩ v').heap[j]? = some (.cells cs 32 (0, 0)) := by
  have hlt : j < W.heap.size := (Array.getElem?_eq_some_iff.1 hj).1
  have hne : j ≠ B := by
    rintro rfl
    rw [show W.heap[j]? = _ from hv] at hj
    injection hj with hj
    injection hj with _ hj
    cases hj
  rw [Below.heap_setCell w1 ⟨B, 0, none⟩ v' j hne, hgrow.block j (by simp; omega) ?_, Below.heap_alloc W _ j hlt, hj]
  intro e
  obtain ⟨cells, hc⟩ := own_typed hrow j e.symm
  rw [hc] at hj
  injection hj with hj
  injection hj with _ hj
  cases hj

set_option maxRecDepth 100000 in
set_option maxHeartbeats 4000000 in
theorem Frames_ok (k : Nat) (A0 : Option Addr) (c0 : Nat) (l0 : List S32) (i : Int) (w : World) (hr0 : Kd.C k32 w A0 l0.length l0) (hc0 : l0.length ≤ c0) (h : order_CheckList.f k l0 = some (0, i)) (hlen : l0.length ≤ 1000000) (hok : ∀ b ∈ l0, okB b) :
    CallsIn Fence.wide 3 Try.prog 17 #[.slice A0 l0.length c0] w fun e w' => ∃ v0_ : Value, e = .returned (.tuple #[v0_, .int .i64 0]) ∧ Kd.R (Kd.int .i64) 3 w' w.heap.size (fun _ => True) v0_ (framesL l0) ∧ Below w.heap.size w w' := by
  have HR := Aside0.mk hr0
  have HC := Aside0.mk hc0
  have H := Aside0.mk h
  have HLen := Aside0.mk (framesL_length l0 hok)
  obtain ⟨i0, hi, hz0, hz1, hz2⟩ := info_parts info3F
  clear hr0 hc0 h
  refine callsIn_of_wp_marks Try.func17 rfl trivial ?_ rfl
  simp only [Try.ntmps17, List.size_toArray, List.length_cons, List.length_nil, Nat.reduceAdd, Nat.reduceSub, Array.replicate_succ, Array.replicate_zero, List.push_toArray, List.append_toArray, List.nil_append, List.cons_append]
  gi_wp2_with (first | (refine ⟨trivial, ?_⟩; gi_at_call 29; (with_reducible refine (callsIn_wide.2 (order_CheckList.calls k A0 c0 l0 0 i _ HR.out HC.out H.out)).mono ?_); rintro e' w' ⟨rfl, hB⟩; have HB := Aside0.mk hB; clear hB) | (refine ⟨trivial, ?_⟩; gi_at_call 35; refine (frames_in Fence.wide 2 trivial rfl _ rfl _).mono ?_; rintro e' w' ⟨rfl, rfl⟩))
  have bO := Boxed.new w' 36 (.slice none 0 0)
  have bN := Boxed.new (w'.alloc (.cells #[.slice none 0 0] 36)) 22 (.slice A0 l0.length c0)
  rw [World.size_alloc] at bN
  have hs' := HB.out.size
  have hB0 : Below w.heap.size w ((w'.alloc (.cells #[.slice none 0 0] 36)).alloc (.cells #[.slice A0 l0.length c0] 22)) := (HB.out.alloc HB.out.size _).alloc (by simp; omega) _
  refine wpIn_rangeFunc_ownG rfl (by omega) (gf := 37) (lb := #[.pointer (some ⟨w'.heap.size + 1, 0, none⟩)]) rfl trivial (enters_of Try.func37 (by kernel_rfl) rfl)
    (frames_stops Fence.wide 2 trivial rfl (by omega) (w'.heap.size + 1) w A0 c0 l0 hok hlen _ (by simp) hB0 bN.cell HR.out) KpF_t (KpF_b (by simp; omega)) (Below.refl _ _) (fun _ => rfl)
    (fun pre W => (∃ v, Boxed W w'.heap.size 36 v ∧ W.ownsRow w.heap.size 3 1 v pre.length (pre.map (Value.int .i64))) ∧ Below w.heap.size w W)
    (fun _ _ _ => False)
    (OwnFrom.and (Own.from (fun s A B row hs hg hr => by
      obtain ⟨v, h1, h2, _⟩ := holdsRow_own w.heap.size w'.heap.size 36 3 1 (fun pre : List Int => pre.length) (fun pre => pre.map (Value.int .i64)) (fun _ _ => True) s A B row (by obtain ⟨v, h1, h2⟩ := hs; exact ⟨v, h1, h2, trivial⟩) hg hr
      exact ⟨v, h1, h2⟩) _) (ownFrom_below (Nat.le_refl _) (by simp; omega)))
    (fun _ _ _ _ _ hs _ _ => hs)
    ⟨⟨_, bO.alloc _, World.ownsRow_nil _ _ _ _⟩, hB0⟩
    (fun x => { tmps := #[.slice A0 l0.length c0, undef, .slice none 0 0, .int .i64 0, .int .i64 0, .int .i64 i, .pointer (some ⟨w'.heap.size, 0, none⟩), .int .i64 x, .tuple #[.int .i64 0, .int .i64 i], .slice A0 l0.length c0, .tuple #[.int .i64 0, .int .i64 i], .int .i64 0, .int .i64 i, .int .i64 0, .bool false, undef, .slice A0 l0.length c0, .func (.func 37) #[] #[.pointer (some ⟨w'.heap.size + 1, 0, none⟩)], .int .i64 x, undef, undef, undef, undef, undef], defers := [] }) ?assign ?body ?done ?stop
  case assign =>
    intro l x W K hK
    gi_wp2
    exact hK
  case body =>
    rintro l pre x W ⟨⟨v, hv, hrow⟩, hB⟩ hlt
    have hc := hv.cell
    have hpl := HLen.out
    gi_wp2_with (gi_at_builtin; refine wpListIn_append_own _ rfl _ _ 36 rfl w.heap.size 3 i0 (.int .i64 0) 1 8 Try.underlying36 hi hz0 hz1 hz2 rfl (by decide) _ _ _ rfl (hrow.alloc _) ⟨W.heap.size, 0, none⟩ 1 1 [.int .i64 x] rfl rfl (cell_one_new _ _ _) (by simp [Value.oneCell']) (by unfold maxLen; omega) (by omega) (by have := hB.size; simp; omega) ?_; intro v' w1 hown' hgrow _; obtain ⟨g', cap', rfl⟩ := ownsRow_succ hown'; have hkp := kp_appended (v' := .slice (some ⟨g', 0, none⟩) (pre.length + 1) cap') hv hrow hgrow; obtain ⟨hv1, hv2, hr2, hk2, hb2⟩ := hv.appended (by decide) hrow hB.size (by omega) hown' hgrow; have hc1 := hv1.cell; have hf1 := hv1.frozen)
    exact ⟨hk2.from _, ⟨hb2, hkp⟩, ⟨_, hv2, by simpa using hr2⟩, hB.trans hb2⟩
  case done =>
    rintro D ys W hD rfl ⟨⟨v, hv, hrow⟩, hB⟩ hK
    have hc := hv.cell
    gi_wp2
    refine ⟨by simp, .inl ⟨_, _, rfl, run_takeDeferred hK, ?_⟩⟩
    exact ⟨_, results_tmp2 (fn := Try.f17) (t := 2) (u := 3) rfl _ _ _, v, rfl, R_of_ints (ownsRow_putObj hrow _ hK rfl), hB.trans (belowK_b (w := w) (Nat.le_refl _) W D _ _ (by simp at hD; omega) hK rfl rfl)⟩
  case stop =>
    rintro D c pre W _ _ h _
    exact h.elim
/-- order.Frames. -/
theorem order_Frames.calls (k : Nat) (A0 : Option Addr) (c0 : Nat) (l0 : List S32) (r1 : List Int) (r2 : Int) (w : World) (hr0 : Kd.C k32 w A0 l0.length l0) (hc0 : l0.length ≤ c0) (h : order_Frames.f k l0 = some (r1, r2)) :
    Calls Try.prog 17 #[.slice A0 l0.length c0] w fun e w' => ∃ v0_ : Value, e = .returned (.tuple #[v0_, .int .i64 r2]) ∧ Kd.R (Kd.int .i64) 3 w' w.heap.size (fun _ => True) v0_ r1 ∧ Below w.heap.size w w' := by
  unfold order_Frames.f at h
  obtain ⟨⟨e, i⟩, h1, h2⟩ := Option.bind_eq_some_iff.1 h
  dsimp only at h2
  by_cases he : e = 0
  · subst he
    rw [if_pos rfl] at h2
    by_cases hk : framesOk l0 = true
    · rw [if_pos hk] at h2
      simp only [Option.some.injEq, Prod.mk.injEq] at h2
      obtain ⟨rfl, rfl⟩ := h2
      obtain ⟨hlen, hok⟩ := of_decide_eq_true hk
      exact callsIn_wide.1 (Frames_ok k A0 c0 l0 i w hr0 hc0 h1 hlen hok)
    · rw [if_neg hk] at h2
      cases h2
  · rw [if_neg he] at h2
    simp only [Option.some.injEq, Prod.mk.injEq] at h2
    obtain ⟨rfl, rfl⟩ := h2
    refine (Frames_err k A0 c0 l0 e i w hr0 hc0 h1 he).mono ?_
    rintro e' w' ⟨rfl, hB⟩
    exact ⟨_, rfl, Kd.R_nil _ _ _ _ _, hB⟩
end Go.Proofs.Ytcdeaiiiplkfiaa.X
