/- role.Text and what it needs of strings.Builder, walked: for any list, its text, letter by letter, or the error; nothing that was there is changed. -/
import Derived.Shelf.Strings.Builder1
import Derived.Test.YtmemdggofphcnaaCheck
namespace Go.Proofs.Ytmemdggofphcnaa.X
open Go.RowKit Go.Proofs.YtmemdggofphcnaaW.PrintWords Go.Proofs.YtmemdggofphcnaaW.PrintLast Go.Proofs.YtmemdggofphcnaaW.PrintMore

theorem sizeB : (Try.prog.info? 64).map (·.size) = some 2 := by kernel_rfl
theorem liesB : liesAt Try.prog Try.prog.depth 64 (2 / Try.prog.cellsOf 64) 0 64 1 = true := by kernel_rfl
theorem infoB : (Try.prog.info? 5).map (fun i => (i.zero, i.size, i.bytes)) = some (some (.int .u8 0), 1, 1) := by kernel_rfl
theorem cellsB : Try.prog.cellsOf 5 = 1 := by kernel_rfl

set_option maxHeartbeats 1000000 in
set_option maxRecDepth 100000 in
theorem copyCheck_used (b : Nat) (w : World) (h0 : w.cell? ⟨b, 0, none⟩ = some (.pointer (some ⟨b, 0, none⟩))) :
    Calls Try.prog 51 #[.pointer (some ⟨b, 0, none⟩)] w fun e w' => e = .returned (.tuple #[]) ∧ w' = w := by
  obtain ⟨j, hj, _⟩ := Option.map_eq_some_iff.1 sizeB
  go_enter Try.func51, Try.ntmps51
  go_wp2
  rw [Lib.run_neq_ptr_same w _ Try.underlying61 hj]
  go_wp2
  go_end0
  exact ⟨rfl, rfl⟩

set_option maxHeartbeats 1000000 in
set_option maxRecDepth 100000 in
theorem copyCheck_fresh (b : Nat) (w : World) (h0 : w.cell? ⟨b, 0, none⟩ = some (.pointer none)) (hsh : w.shape? b = some (64, 2)) (hfz : w.frozen? ⟨b, 0, none⟩ = false) :
    Calls Try.prog 51 #[.pointer (some ⟨b, 0, none⟩)] w fun e w' => e = .returned (.tuple #[]) ∧ w' = w.setCell ⟨b, 0, none⟩ (.pointer (some ⟨b, 0, none⟩)) := by
  obtain ⟨j, hj, hjs⟩ := Option.map_eq_some_iff.1 sizeB
  go_enter Try.func51, Try.ntmps51
  go_wp2
  rw [Lib.run_to_unsafe w ⟨b, 0, none⟩ Try.underlying61 Try.underlying72 hj (by rw [hjs]; decide) hsh (Nat.zero_lt_succ 1)]
  simp only [Result.andThen]
  rw [Oper.upon_value]
  go_wp2
  rw [run_callFunc_extern Try.func53 (by kernel_rfl) (by kernel_rfl) (by kernel_rfl) (e := Extern.AbiNoEscape.same) (by kernel_rfl)]
  rw [Lib.run_noEscape]
  simp only [Result.andThen]
  rw [Oper.upon_value]
  go_wp2
  rw [Lib.run_from_unsafe w ⟨b, 0, none⟩ Try.underlying72 Try.underlying61 hj hsh liesB]
  simp only [Result.andThen]
  rw [Oper.upon_value]
  go_wp2
  go_end0
  exact ⟨rfl, rfl⟩

theorem copyCheck_any (B b : Nat) (bs : List Value) (w : World) (h : Lib.IsBuilder 64 5 B b bs w) :
    Calls Try.prog 51 #[.pointer (some ⟨b, 0, none⟩)] w fun e w' => e = .returned (.tuple #[]) ∧ (Lib.BuilderAt 64 5 B b (.pointer (some ⟨b, 0, none⟩)) bs w' ∧ Below B w w') := by
  rcases h with h | h
  · refine (copyCheck_fresh b w h.cell0 h.shape h.frozen0).mono ?_
    rintro e w' ⟨rfl, rfl⟩
    exact ⟨rfl, h.used _, (Below.refl B w).setCell (p := ⟨b, 0, none⟩) h.1 _⟩
  · refine (copyCheck_used b w h.cell0).mono ?_
    rintro e w' ⟨rfl, rfl⟩
    exact ⟨rfl, h, Below.refl B _⟩

set_option maxHeartbeats 2000000 in
set_option maxRecDepth 100000 in
theorem writeByte_any (B b : Nat) (bs : List Value) (c : Int) (w : World) (h : Lib.IsBuilder 64 5 B b bs w) (hlen : bs.length + 1 ≤ 140737488355328) (hBw : B ≤ w.heap.size) :
    Calls Try.prog 44 #[.pointer (some ⟨b, 0, none⟩), .int .u8 c] w fun e w' => e = .returned .nilIface ∧ (Lib.BuilderAt 64 5 B b (.pointer (some ⟨b, 0, none⟩)) (bs ++ [.int .u8 c]) w' ∧ Below B w w') := by
  obtain ⟨i0, hi, hz0, hz1, hz2⟩ := info_parts infoB
  go_enter Try.func44, Try.ntmps44
  go_wp2_with (go_at_call 51; refine (copyCheck_any B b bs _ h).mono ?_)
  rintro e w1 ⟨rfl, h1, hb1⟩
  obtain ⟨hB, v, hbk, hown, hne⟩ := h1
  have c0 : w1.cell? ⟨b, 0, none⟩ = some (.pointer (some ⟨b, 0, none⟩)) := by rw [Lib.cell_of_heap hbk]; rfl
  have c1 : w1.cell? ⟨b, 1, none⟩ = some v := by rw [Lib.cell_of_heap hbk]; rfl
  go_wp2_with (at_builtin; refine wpList_append_own _ rfl _ _ 62 rfl B 5 i0 (.int .u8 0) 1 1 Try.underlying62 hi hz0 hz1 hz2 rfl (by decide) _ _ _ rfl (hown.alloc _) ⟨w1.heap.size, 0, none⟩ 1 1 [.int .u8 c] rfl rfl ?c1 ?c2 ?c3 ?c4 ?c5 ?_)
  case c1 =>
    intro j u hj
    match j, hj with
    | 0, hj => simp at hj; subst hj; simp [Addr.add]
  case c2 => intro u hu; simp at hu; subst hu; rfl
  case c3 => unfold maxLen; omega
  case c4 => omega
  case c5 => have := hb1.size; simp; omega
  intro v' w2 hown' hgrow _
  have hlt : b < w1.heap.size := by
    rcases Nat.lt_or_ge b w1.heap.size with h' | h'
    · exact h'
    · simp [Array.getElem?_eq_none h'] at hbk
  have hb2 : w2.heap[b]? = some (.cells #[.pointer (some ⟨b, 0, none⟩), v] 64 (0, 0)) := by
    rw [hgrow.block b (by simp; omega) (fun e => hne e.symm), Lib.alloc_old w1 _ b hlt]
    exact hbk
  have d0 : w2.cell? ⟨b, 0, none⟩ = some (.pointer (some ⟨b, 0, none⟩)) := by rw [Lib.cell_of_heap hb2]; rfl
  have d1 : w2.cell? ⟨b, 1, none⟩ = some v := by rw [Lib.cell_of_heap hb2]; rfl
  have f1 : w2.frozen? ⟨b, 1, none⟩ = false := Lib.frozen_of_heap hb2 1
  obtain ⟨g, cap, rfl⟩ : ∃ g cap, v' = .slice (some ⟨g, 0, none⟩) (bs.length + 1) cap := by
    rcases hown'.2 with ⟨_, h0⟩ | ⟨g, cap, cur, hv, _⟩
    · omega
    · exact ⟨g, cap, hv⟩
  go_wp2
  go_ret
  refine ⟨rfl, ?_, ?_⟩
  · exact Lib.BuilderAt.put (T := 64) (e := 5) hB hb2 (bs' := bs ++ [.int .u8 c]) (by simpa using hown') (by decide)
  · exact ((hb1.alloc (by have := hb1.size; omega) _).grown hgrow (by have := hb1.size; simp; omega) (fun k hk => (hown.lt k hk).1)).setCell (p := ⟨b, 1, none⟩) hB _

set_option maxHeartbeats 1000000 in
set_option maxRecDepth 100000 in
theorem string_some (B b : Nat) (l : List UInt8) (w : World) (h : Lib.IsBuilder 64 5 B b (Lib.byteCells l) w) (h0 : l ≠ []) :
    Calls Try.prog 45 #[.pointer (some ⟨b, 0, none⟩)] w fun e w' => e = .returned (.string ⟨l.toArray⟩) ∧ Below B w w' := by
  obtain ⟨p, hB, v, hbk, hown, hne⟩ : ∃ p, Lib.BuilderAt 64 5 B b p (Lib.byteCells l) w := by
    rcases h with h | h
    · exact ⟨_, h⟩
    · exact ⟨_, h⟩
  have hl0 : l.length ≠ 0 := by simpa using h0
  rw [Lib.byteCells_length] at hown
  obtain ⟨g, cap, cur, rfl, hbg, hg, hnc, hcm, hcs, htake⟩ : ∃ g cap cur, v = .slice (some ⟨g, 0, none⟩) l.length cap ∧ B ≤ g ∧ w.heap[g]? = some (.cells cur 5 (0, 0)) ∧ l.length ≤ cap ∧ cap ≤ maxLen ∧ cur.size = cap * 1 ∧ cur.toList.take (l.length * 1) = Lib.byteCells l := by
    rcases hown.2 with ⟨_, hz⟩ | ⟨g, cap, cur, hv, r⟩
    · exact absurd hz hl0
    · exact ⟨g, cap, cur, hv, r⟩
  have c1 : w.drew.cell? ⟨b, 1, none⟩ = some (.slice (some ⟨g, 0, none⟩) l.length cap) := by
    have : w.drew.heap[b]? = some (.cells #[p, .slice (some ⟨g, 0, none⟩) l.length cap] 64 (0, 0)) := hbk
    rw [Lib.cell_of_heap this]; rfl
  have hSD : (Builtin.unsafeSliceData_ #[62] 71 #[.slice (some ⟨g, 0, none⟩) l.length cap]).run Try.prog w.drew = .ok (.pointer (some ⟨g, 0, none⟩)) w.drew :=
    Lib.run_unsafeSliceData_row _ _ _ _ _ _ (by omega)
  have hUS : (Builtin.unsafeString_ #[71, 3] 9 #[.pointer (some ⟨g, 0, none⟩), .int .i64 l.length]).run Try.prog w.drew = .ok (.string ⟨l.toArray⟩) (w.drew.freeze ⟨g, 0, none⟩ l.length) := by
    refine Lib.run_unsafeString_row w.drew 71 3 9 5 Try.underlying71 cellsB g cur.size (by have hg' : w.drew.heap[g]? = some (.cells cur 5 (0, 0)) := hg; simp [World.shape?, hg']) l h0 (by omega) (by unfold maxLen at hcm; omega) ?_
    intro j x hx
    have := hown.cells (g := g) rfl j (.int .u8 x.toNat) (by simp [Lib.byteCells, hx])
    exact this
  go_enter Try.func45, Try.ntmps45
  go_wp2
  go_region
  all_goals (go_wp2; go_ret; exact ⟨rfl, Lib.below_freeze (Below.drew (Below.refl B w)) (p := ⟨g, 0, none⟩) hbg _⟩)

set_option maxHeartbeats 2000000 in
set_option maxRecDepth 100000 in
theorem string_nil (B b : Nat) (p : Value) (w : World) (hbk : w.heap[b]? = some (.cells #[p, .slice none 0 0] 64 (0, 0))) :
    Calls Try.prog 45 #[.pointer (some ⟨b, 0, none⟩)] w fun e w' => e = .returned (.string ⟨#[]⟩) ∧ Below B w w' := by
  have hUS := fun (W : World) (q : Option Addr) => Lib.run_unsafeString_none (P := Try.prog) W 71 3 9 q
  have c1 : w.drew.cell? ⟨b, 1, none⟩ = some (.slice none 0 0) := by
    have : w.drew.heap[b]? = some (.cells #[p, .slice none 0 0] 64 (0, 0)) := hbk
    rw [Lib.cell_of_heap this]; rfl
  have hSD : (Builtin.unsafeSliceData_ #[62] 71 #[.slice none 0 0]).run Try.prog w.drew = .ok (.pointer none) w.drew := rfl
  go_enter Try.func45, Try.ntmps45
  go_wp2
  go_region
  all_goals (go_wp2; go_ret; exact ⟨rfl, Below.drew (Below.refl B w)⟩)
/-- The letter of a role. -/
def letterOf (r : Int) : UInt8 := [46, 80, 83, 84, 77, 87, 82, 79].getD r.toNat 0
def textOf (l : List Int) : ByteArray := ⟨(l.map letterOf).toArray⟩
def role_Text.f (l0 : List Int) : Option (ByteArray × Int) := (role_Check.f l0).bind fun t => if t.1 = 0 then some (textOf l0, 0) else some (ByteArray.empty, t.1)
theorem badAt_good (l : List Int) : ∀ i : Int, 0 ≤ i → (∀ r ∈ l, 0 ≤ r ∧ r < 8) ∨ i ≤ badAt l i := by
  induction l with
  | nil => intro i _; exact .inl (by simp)
  | cons a l ih =>
    intro i hi
    by_cases ha : 0 ≤ a ∧ a < 8
    · rw [badAt, if_pos ha]
      rcases ih (i + 1) (by omega) with h | h
      · refine .inl (fun r hr => ?_)
        rcases List.mem_cons.1 hr with rfl | hr
        · exact ha
        · exact h r hr
      · exact .inr (by omega)
    · rw [badAt, if_neg ha]
      exact .inr (Int.le_refl _)
theorem check_good {l : List Int} {t : Int × Int} (h : role_Check.f l = some t) (h0 : t.1 = 0) : (∀ r ∈ l, 0 ≤ r ∧ r < 8) ∧ l.length ≤ 256 := by
  have h := Option.some.inj h
  by_cases c : (l.length : Int) > 256
  · rw [if_pos c] at h
    subst h
    cases h0
  · rw [if_neg c] at h
    by_cases d : badAt l 0 ≥ 0
    · rw [if_pos d] at h
      subst h
      cases h0
    · rcases badAt_good l 0 (Int.le_refl _) with h1 | h1
      · exact ⟨h1, by omega⟩
      · omega
theorem cells_snoc (l : List Int) (i : Nat) (h : i < l.length) : Lib.byteCells ((l.take i).map letterOf) ++ [.int .u8 ((letterOf l[i]).toNat : Int)] = Lib.byteCells ((l.take (i + 1)).map letterOf) := by
  rw [List.take_succ_eq_append_getElem h]
  unfold Lib.byteCells
  rw [List.map_append, List.map_append]
  rfl
theorem bt_letter (x : Int) (h : 0 ≤ x) (h8 : x < 8) (W : World) : (Instr.index 9 (.string ⟨#[46, 80, 83, 84, 77, 87, 82, 79]⟩) (.int .i64 x)).run Try.prog W = .ok (.int .u8 (letterOf x).toNat) W := by
  obtain ⟨n, rfl⟩ := Int.eq_ofNat_of_zero_le h
  have : n = 0 ∨ n = 1 ∨ n = 2 ∨ n = 3 ∨ n = 4 ∨ n = 5 ∨ n = 6 ∨ n = 7 := by omega
  rcases this with rfl | rfl | rfl | rfl | rfl | rfl | rfl | rfl <;> rfl
set_option maxRecDepth 100000 in
set_option maxHeartbeats 4000000 in
theorem role_Text.calls (A0 : Option Addr) (c0 : Nat) (l0 : List Int) (r1 : ByteArray) (r2 : Int) (w : World) (hr0 : Kd.C (Kd.int .i64) w A0 l0.length l0) (hc0 : l0.length ≤ c0) (h : role_Text.f l0 = some (r1, r2)) :
    Calls Try.prog 21 #[.slice A0 l0.length c0] w fun e w' => e = .returned (.tuple #[.string r1, .int .i64 r2]) ∧ Below w.heap.size w w' := by
  replace h := Option.bind_eq_some_iff.mp h
  obtain ⟨t, ht, h⟩ := h
  have hcall := role_Check.calls A0 c0 l0 t.1 t.2 w hr0 hc0 ht
  by_cases h0 : t.1 = 0
  · rw [if_pos h0] at h
    simp only [Option.some.injEq, Prod.mk.injEq] at h
    obtain ⟨rfl, rfl⟩ := h
    obtain ⟨hg, hl⟩ := check_good ht h0
    rw [h0] at hcall
    have HG := Aside0.mk hg
    have HR := Aside0.mk hr0
    clear hr0 h0 ht hg
    generalize t.2 = z at hcall
    go_enter Try.func21, Try.ntmps21
    go_wp2_with (go_at_call 25; refine hcall.mono ?_; rintro e w' ⟨rfl, ⟨nd, rfl⟩⟩)
    go_loopg [19] (l0.length + 1) (fun kq v19 wr => ∃ i : Nat, v19 = .int .i64 i ∧ kq + i = l0.length + 1 ∧ i ≤ l0.length ∧ Aside0 (Lib.IsBuilder 64 5 w.heap.size w.heap.size (Lib.byteCells ((l0.take i).map letterOf)) wr) ∧ Aside0 (i = 0 → wr.heap[w.heap.size]? = some (.cells #[.pointer none, .slice none 0 0] 64 (0, 0))) ∧ Aside0 (Below w.heap.size w wr))
    case atStart =>
      refine ⟨0, rfl, by omega, by omega, ⟨?_⟩, ⟨fun _ => blk_new (w.drewN nd) _⟩, ⟨below_alloc (by repeat (first | exact Below.refl _ _ | apply pw_below_drewN | apply below_drew1)) _⟩⟩
      have := Lib.fresh_isBuilder 64 5 (w.drewN nd)
      exact this
    case round =>
      obtain ⟨i, rfl, hk, hi, HI, HZ, HB⟩ := hrel
      by_cases hlt : i < l0.length
      · obtain ⟨ad, e, hx⟩ := Kd.at_int (Kd.C_below HR.out HB.out) (i : Int) (by omega) (by omega)
        cases e
        rw [Int.toNat_natCast] at hx
        have hd : decide ((i : Int) < (l0.length : Int)) = true := decide_eq_true (by omega)
        have hr := rd_at l0 i hlt
        have hgd := HG.out (rd l0 i) (by rw [hr]; exact List.getElem_mem hlt)
        have hix := bt_letter (rd l0 i) hgd.1 hgd.2
        have hw := writeByte_any w.heap.size w.heap.size (Lib.byteCells ((l0.take i).map letterOf)) (letterOf (rd l0 i)).toNat wr HI.out (by rw [Lib.byteCells_length, List.length_map, List.length_take]; omega) (below_size HB.out)
        have hnext : Lib.byteCells ((l0.take i).map letterOf) ++ [.int .u8 ((letterOf (rd l0 i)).toNat : Int)] = Lib.byteCells ((l0.take (i + 1)).map letterOf) := by
          rw [hr]
          exact cells_snoc l0 i hlt
        rw [hnext] at hw
        clear hnext hr HI hgd
        generalize rd l0 i = x at *
        go_wp2_with (go_at_call 44; refine hw.mono ?_; rintro e w' ⟨rfl, hb1, hb2⟩)
        go_roundg (gk - 1)
        case measure => omega
        case rel => exact ⟨i + 1, rfl, by omega, by omega, ⟨.inr hb1⟩, ⟨fun h => absurd h (by omega)⟩, ⟨HB.out.trans hb2⟩⟩
      · obtain rfl : i = l0.length := by omega
        have hd : decide ((l0.length : Int) < (l0.length : Int)) = false := decide_eq_false (by omega)
        have hI := HI.out
        rw [List.take_length] at hI
        clear HI
        have hS : Calls Try.prog 45 #[.pointer (some ⟨w.heap.size, 0, none⟩)] wr fun e w' => e = .returned (.string (textOf l0)) ∧ Below w.heap.size wr w' := by
          rcases l0 with _ | ⟨a, l⟩
          · exact string_nil _ _ _ _ (HZ.out rfl)
          · exact string_some _ _ _ _ hI (by simp)
        clear hI
        go_wp2_with (go_at_call 45; refine hS.mono ?_; rintro e w' ⟨rfl, hb⟩)
        go_ret2
        exact ⟨rfl, HB.out.trans hb⟩
  · rw [if_neg h0] at h
    simp only [Option.some.injEq, Prod.mk.injEq] at h
    obtain ⟨rfl, rfl⟩ := h
    have hb : (t.1 == 0) = false := beq_eq_false_iff_ne.mpr h0
    have hb2 : (t.1 != 0) = true := bne_iff_ne.mpr h0
    generalize t.1 = y at hcall hb hb2
    generalize t.2 = z at hcall
    clear ht h0 hr0
    go_enter Try.func21, Try.ntmps21
    go_wp2_with (go_at_call 25; refine hcall.mono ?_; rintro e w' ⟨rfl, ⟨nd, rfl⟩⟩)
    go_ret2
    exact ⟨rfl, by repeat (first | exact Below.refl _ _ | apply pw_below_drewN | apply below_drew1)⟩
end Go.Proofs.Ytmemdggofphcnaa.X
