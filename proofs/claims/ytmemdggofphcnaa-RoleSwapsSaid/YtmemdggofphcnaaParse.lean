/- role.Parse: the range over the text's runes; for any text, valid or not, what it returns is the list of the letters' places, or the fault at the first byte that is no letter; nothing that was there is changed. -/
import Derived.Shelf.Small.Strs
import Derived.Lib.OthersKept
import Derived.WalkSmall
import Derived.Test.YtmemdggofphcnaaXx0
namespace Go.Proofs
open Go.Shelf
def Try.lays137_ren : Go.Shelf.Ren := ⟨fun | 137 => 43 | 217 => 50 | 266 => 52 | n => n, fun | 9 => 9 | 5 => 5 | 3 => 3 | n => n, fun | n => n⟩
theorem Try.lays137 : Go.Proofs.Lays.n137 Try.prog Try.lays137_ren := {
  mixed := by kernel_rfl
  f137 := Try.func43.trans (congrArg some (by kernel_rfl))
  f217 := Try.func50.trans (congrArg some (by kernel_rfl))
  f266 := Try.func52.trans (congrArg some (by kernel_rfl))
  t3 := Try.underlying3
  a3 := Try.isAgg3
  z3 := Try.sizeOf3
  v3 := Try.zeroValue3
  t5 := Try.underlying5
  a5 := Try.isAgg5
  z5 := Try.sizeOf5
  v5 := Try.zeroValue5
  t9 := Try.underlying9
  a9 := Try.isAgg9
  z9 := Try.sizeOf9
  v9 := Try.zeroValue9 }
open Go.RowKit in
/-- strings.IndexByte: "IndexByte returns the index of the first instance of c in s, or -1 if c is not present in s.": IT RETURNS 'Lib.indexByte s c'; the world is as it was. (LAID: no walk: one application.) -/
theorem Try.strings_IndexByte (s : ByteArray) (c : Int) (w : World) :
    Calls Try.prog 43 #[.string s, .int .u8 c] w fun e w' => e = .returned (.int .i64 (Lib.indexByte s.data.toList c.toNat.toUInt8)) ∧ w' = w := Any.strings_IndexByte Try.lays137 s c w
end Go.Proofs
namespace Go.Proofs.Ytmemdggofphcnaa.X
open Go.RowKit Go.Proofs.YtmemdggofphcnaaW.PrintWords Go.Proofs.YtmemdggofphcnaaW.PrintLast Go.Proofs.YtmemdggofphcnaaW.PrintMore

def letters : ByteArray := ⟨#[46, 80, 83, 84, 77, 87, 82, 79]⟩
/-- The place of a letter, or -1. -/
def letterIx (b : UInt8) : Int := Lib.indexByte letters.data.toList b
/-- What the text's rest adds to the list, or the fault. -/
def parseB : List UInt8 → Int → List Int → List Int × Int × Int
  | [], _, acc => (acc, 0, 0)
  | b :: bs, i, acc => if letterIx b < 0 then ([], 3, i) else parseB bs (i + 1) (acc ++ [letterIx b])
def role_Parse.f (a0 : ByteArray) : Option (List Int × Int × Int) := some (if (a0.size : Int) > 256 then ([], 4, 256) else parseB a0.data.toList 0 [])

theorem letterIx_high (b : UInt8) (h : 128 ≤ b.toNat) : letterIx b = -1 := by
  have : ∀ b : UInt8, 128 ≤ b.toNat → letterIx b = -1 := by
    intro b
    obtain ⟨⟨n⟩⟩ := b
    revert n
    decide +kernel
  exact this b h
theorem indexB (b : UInt8) (w : World) : Calls Try.prog 43 #[.string ⟨#[46, 80, 83, 84, 77, 87, 82, 79]⟩, .int .u8 (b.toNat : Int)] w fun e w' => e = .returned (.int .i64 (letterIx b)) ∧ w' = w := by
  refine (Try.strings_IndexByte letters _ w).mono ?_
  rintro e w' ⟨rfl, rfl⟩
  exact ⟨by simp [letterIx], rfl⟩
theorem own_iterAt {w : World} {base e size : Nat} {v : Value} {n : Nat} {xs : List Value} (h : w.ownsRow base e size v n xs) {k : Nat} {s : ByteArray} {pos : Nat} (hk : w.heap[k]? = some (.stringIter s pos)) (p : Nat) : (w.iterAt k s p).ownsRow base e size v n xs := by
  refine ⟨h.1, ?_⟩
  rcases h.2 with hn | ⟨g, cap, cur, hv, hb, hg, rest⟩
  · exact .inl hn
  · have hkg : g ≠ k := by
      rintro rfl
      rw [hk] at hg
      cases hg
    exact .inr ⟨g, cap, cur, hv, hb, (Lib.iterAt_other w k g s p hkg).trans hg, rest⟩
theorem own_ne_iter {w : World} {base e size : Nat} {v : Value} {n : Nat} {xs : List Value} (h : w.ownsRow base e size v n xs) {k : Nat} {s : ByteArray} {pos : Nat} (hk : w.heap[k]? = some (.stringIter s pos)) : some k ≠ v.ownBlock := by
  rcases h.2 with ⟨rfl, _⟩ | ⟨g, cap, cur, rfl, hb, hg, rest⟩
  · simp [Value.ownBlock]
  · simp [Value.ownBlock]
    rintro rfl
    rw [hk] at hg
    cases hg
theorem own_setBox {w : World} {base e size : Nat} {v : Value} {n : Nat} {xs : List Value} (h : w.ownsRow base e size v n xs) {B t : Nat} {cs : Array Value} (hk : w.heap[B]? = some (.cells cs t (0, 0))) (hne : e ≠ t) (i : Nat) (u : Value) : (w.setCell ⟨B, i, none⟩ u).ownsRow base e size v n xs := by
  refine ⟨h.1, ?_⟩
  rcases h.2 with hn | ⟨g, cap, cur, hv, hb, hg, rest⟩
  · exact .inl hn
  · have hkg : g ≠ B := by
      rintro rfl
      rw [hk] at hg
      injection hg with hg
      injection hg with _ hg
      exact hne hg.symm
    exact .inr ⟨g, cap, cur, hv, hb, (Below.heap_setCell w _ u g hkg).trans hg, rest⟩
theorem R_of_ints {W : World} {base : Nat} {v : Value} {xs : List Int} (h : W.ownsRow base 3 1 v xs.length (xs.map (Value.int .i64))) : Kd.R (Kd.int .i64) 3 W base (fun _ => True) v xs := by
  refine ⟨fun _ _ => trivial, xs.map (Value.int .i64), h, by simp [Kd.int, Kd.scalar], fun j p hj => ?_⟩
  show ((xs.map (Value.int .i64)).drop (j * 1)).take 1 = [Value.int .i64 p]
  obtain ⟨hlt, rfl⟩ := List.getElem?_eq_some_iff.1 hj
  rw [Nat.mul_one, List.drop_eq_getElem_cons (by rw [List.length_map]; exact hlt)]
  simp

set_option maxRecDepth 100000 in
set_option maxHeartbeats 4000000 in
theorem role_Parse.calls (a0 : ByteArray) (r1 : List Int) (r2 : Int) (r3 : Int) (w : World) (h : role_Parse.f a0 = some (r1, r2, r3)) :
    Calls Try.prog 18 #[.string a0] w fun e w' => ∃ v0_ : Value, e = .returned (.tuple #[v0_, .agg #[.int .i64 r2, .int .i64 r3]]) ∧ Kd.R (Kd.int .i64) 3 w' w.heap.size (fun _ => True) v0_ r1 ∧ Below w.heap.size w w' := by
  have h := Option.some.inj h
  by_cases c2 : (a0.size : Int) > 256
  · rw [if_pos c2] at h
    simp only [Prod.mk.injEq] at h
    obtain ⟨rfl, rfl, rfl⟩ := h
    have c2b0 : decide (256 < (a0.size : Int)) = true := decide_eq_true c2
    have c2b1 : decide (256 < a0.size) = true := decide_eq_true (by omega)
    clear c2
    go_enter Try.func18, Try.ntmps18
    go_wp2
    refine bodyPost_ret (results_tc rfl _ _ w.heap.size 32 #[.int .i64 4, .int .i64 256] (0, 0) _ rfl (blk_new _ _) Try.underlying32 rfl (by kernel_rfl)) rfl ?_
    exact ⟨_, rfl, Kd.R_nil _ _ _ _ _, below_alloc (Below.refl _ _) _⟩
  · rw [if_neg c2] at h
    have c2b0 : decide (256 < (a0.size : Int)) = false := decide_eq_false (by omega)
    have c2b1 : decide (256 < a0.size) = false := decide_eq_false (by omega)
    have hsz : a0.size ≤ 256 := by omega
    have hdl : a0.data.toList.length = a0.size := by rw [Array.length_toList]; rfl
    clear c2
    go_enter Try.func18, Try.ntmps18
    go_wp2
    go_loopg [4] (a0.size + 1) (fun kq v4 wr => ∃ (pos : Nat) (acc : List Int), kq + pos = a0.size + 1 ∧ pos ≤ a0.size ∧ acc.length = pos ∧ Aside0 (parseB (a0.data.toList.drop pos) (pos : Int) acc = (r1, r2, r3)) ∧ Aside0 (wr.ownsRow w.heap.size 3 1 v4 acc.length (acc.map (Value.int .i64))) ∧ Aside0 (wr.heap[w.heap.size]? = some (.cells #[.int .i64 0, .int .i64 0] 32 (0, 0))) ∧ Aside0 (wr.heap[w.heap.size + 1]? = some (.stringIter a0 pos)) ∧ Aside0 (Below w.heap.size w wr))
    case atStart =>
      refine ⟨0, [], by omega, by omega, rfl, ⟨h⟩, ⟨rfl, .inl ⟨rfl, rfl⟩⟩, ⟨?_⟩, ⟨?_⟩, ⟨?_⟩⟩
      · exact (Below.heap_alloc _ _ _ (by simp)).trans (blk_new _ _)
      · have := World.iter_heap (w.alloc (.cells #[.int .i64 0, .int .i64 0] 32)) a0 0
        simpa using this
      · exact ((Below.refl _ w).alloc (Nat.le_refl _) _).alloc (by simp) _
    case round =>
      obtain ⟨pos, acc, hkq, hpos, hal, HP, HO, HBx, HIt, HB⟩ := hrel
      have hit := HIt.out
      by_cases hp : pos < a0.size
      · have hnx : ∀ ty, (Instr.next (.pointer (some ⟨w.heap.size + 1, 0, none⟩)) true ty).run Try.prog wr = _ := fun ty => Lib.run_next_any_at wr (w.heap.size + 1) a0 pos ty hit hp
        have HIt2 := Aside0.mk (Lib.iterAt_heap wr (w.heap.size + 1) a0 pos (pos + (Utf8.decode a0 pos).2) hit)
        have HB2 := Aside0.mk (Lib.below_iterAt HB.out (k := w.heap.size + 1) (by omega) a0 (pos + (Utf8.decode a0 pos).2))
        have HBx2 := Aside0.mk ((Lib.iterAt_other wr (w.heap.size + 1) w.heap.size a0 (pos + (Utf8.decode a0 pos).2) (by omega)).trans HBx.out)
        have HO2 := Aside0.mk (own_iterAt HO.out hit (pos + (Utf8.decode a0 pos).2))
        have hb8 : a0.data.toList.drop pos = a0[pos] :: a0.data.toList.drop (pos + 1) := by
          rw [List.drop_eq_getElem_cons (by rw [hdl]; exact hp)]
          rfl
        have HP' := HP.out
        rw [hb8, parseB] at HP'
        by_cases ha : (a0[pos]'hp).toNat < 128
        · have hdec := decode_ascii a0 pos hp ha
          rw [hdec] at hnx HIt2 HB2 HBx2 HO2
          dsimp only at hnx HIt2 HB2 HBx2 HO2
          have hlt : decide (((a0[pos]'hp).toNat : Int) < 128) = true := decide_eq_true (by omega)
          clear HIt HBx HO HB HP hb8 hit hdec
          by_cases hl : letterIx a0[pos] < 0
          · rw [if_pos hl] at HP'
            simp only [Prod.mk.injEq] at HP'
            obtain ⟨rfl, rfl, rfl⟩ := HP'
            have hcz0 := (blk_cell HBx2.out 0).trans rfl
            have hcz1 := (blk_cell HBx2.out 1).trans rfl
            have hfz0 := blk_frozen HBx2.out 0
            have hfz1 := blk_frozen HBx2.out 1
            have hI := indexB a0[pos]
            have hl0 : decide (letterIx a0[pos] < 0) = true := decide_eq_true hl
            generalize letterIx a0[pos] = z at hl0 hI
            go_wp2_with (go_at_call 43; refine (hI _).mono ?_; rintro e w' ⟨rfl, rfl⟩)
            refine bodyPost_ret (results_tc rfl _ _ w.heap.size 32 #[.int .i64 3, .int .i64 pos] (0, 0) _ rfl (by refine blk_put (cs := #[.int .i64 3, .int .i64 0]) ?_ 1 _ rfl; refine blk_put (cs := #[.int .i64 0, .int .i64 0]) ?_ 0 _ rfl; exact HBx2.out) Try.underlying32 rfl (by kernel_rfl)) rfl ?_
            exact ⟨_, rfl, Kd.R_nil _ _ _ _ _, below_set (below_set HB2.out (Nat.le_refl _)) (Nat.le_refl _)⟩
          · rw [if_neg hl] at HP'
            have hl0 : decide (letterIx a0[pos] < 0) = false := decide_eq_false hl
            have hI := indexB a0[pos]
            have HP2 := Aside0.mk HP'
            clear HP' hl
            generalize letterIx a0[pos] = z at hl0 hI HP2
            go_wp2_with (first | (go_at_call 43; refine (hI _).mono ?_; rintro e w' ⟨rfl, rfl⟩) | ((with_reducible refine gate_builtin (b := .append) (xs := #[.tmp 27, .tmp 29]) rfl ?_); at_builtin; go_loud (refine Kd.R_append (Kd.int .i64) (w0 := w) w.heap.size rfl (.tmp 27) (.tmp 29) 25 3 (.int .i64 0) 8 rfl Try.underlying25 info3 rfl (by decide) (by omega) u4 acc z [.int .i64 z] (fun _ => True) (fun _ => False) rfl rfl ?aP (fun _ hk => hk.elim) ?aF ?aO ?aB ?aS ?aL ?_; (case aP => exact rfl); (case aB => exact HB2.out); (case aF => exact (fun _ _ => trivial)); (case aO => exact R_of_ints HO2.out); (case aS => exact below_size HB2.out); (case aL => omega); intro v145 w17 ho hb hg hat; have HIt3 := Aside0.mk (blk_grown HIt2.out hg (own_ne_iter HO2.out HIt2.out)); have HBx3 := Aside0.mk (blk_grown HBx2.out hg (Kd.R_ne (R_of_ints HO2.out) HBx2.out (by decide))); have HO3 := Aside0.mk (Kd.own_of_R ho); have HB3 := Aside0.mk hb; clear ho hb hg hat HIt2 HBx2 HO2 HB2)))
            go_roundg (gk - 1)
            case measure => omega
            case rel => exact ⟨pos + 1, acc ++ [z], by omega, by omega, by simp [hal], ⟨by rw [Int.natCast_add]; exact HP2.out⟩, ⟨HO3.out⟩, ⟨HBx3.out⟩, ⟨HIt3.out⟩, ⟨HB3.out⟩⟩
        · have hhi := (decode_high a0 pos hp (by omega)).1
          have hle := decode_le a0 pos
          have hlx := letterIx_high _ (show 128 ≤ (a0[pos]'hp).toNat by omega)
          rw [hlx, if_pos (by decide)] at HP'
          simp only [Prod.mk.injEq] at HP'
          obtain ⟨rfl, rfl, rfl⟩ := HP'
          have hlt : decide (((Utf8.decode a0 pos).1 : Int) < 128) = false := decide_eq_false (by omega)
          have hcz0 := (blk_cell HBx2.out 0).trans rfl
          have hcz1 := (blk_cell HBx2.out 1).trans rfl
          have hfz0 := blk_frozen HBx2.out 0
          have hfz1 := blk_frozen HBx2.out 1
          clear HIt HBx HO HB HP hb8 hit
          go_wp2
          refine bodyPost_ret (results_tc rfl _ _ w.heap.size 32 #[.int .i64 3, .int .i64 pos] (0, 0) _ rfl (by refine blk_put (cs := #[.int .i64 3, .int .i64 0]) ?_ 1 _ rfl; refine blk_put (cs := #[.int .i64 0, .int .i64 0]) ?_ 0 _ rfl; exact HBx2.out) Try.underlying32 rfl (by kernel_rfl)) rfl ?_
          exact ⟨_, rfl, Kd.R_nil _ _ _ _ _, below_set (below_set HB2.out (Nat.le_refl _)) (Nat.le_refl _)⟩
      · obtain rfl : pos = a0.size := by omega
        have hnx : ∀ ty, (Instr.next (.pointer (some ⟨w.heap.size + 1, 0, none⟩)) true ty).run Try.prog wr = _ := fun ty => Lib.run_next_end_at wr (w.heap.size + 1) a0 a0.size ty hit hp
        have HP' := HP.out
        rw [List.drop_eq_nil_of_le (by omega), parseB] at HP'
        simp only [Prod.mk.injEq] at HP'
        obtain ⟨rfl, rfl, rfl⟩ := HP'
        have hcz0 := (blk_cell HBx.out 0).trans rfl
        have hcz1 := (blk_cell HBx.out 1).trans rfl
        have hfz0 := blk_frozen HBx.out 0
        have hfz1 := blk_frozen HBx.out 1
        clear HIt HP hit
        go_wp2
        refine bodyPost_ret (results_tc rfl _ _ w.heap.size 32 #[.int .i64 0, .int .i64 0] (0, 0) _ rfl (by refine blk_put (cs := #[.int .i64 0, .int .i64 0]) ?_ 1 _ rfl; refine blk_put (cs := #[.int .i64 0, .int .i64 0]) ?_ 0 _ rfl; exact HBx.out) Try.underlying32 rfl (by kernel_rfl)) rfl ?_
        exact ⟨_, rfl, R_of_ints (own_setBox (own_setBox HO.out HBx.out (by decide) 0 _) (blk_put (cs' := #[.int .i64 0, .int .i64 0]) HBx.out 0 _ rfl) (by decide) 1 _), below_set (below_set HB.out (Nat.le_refl _)) (Nat.le_refl _)⟩
end Go.Proofs.Ytmemdggofphcnaa.X
