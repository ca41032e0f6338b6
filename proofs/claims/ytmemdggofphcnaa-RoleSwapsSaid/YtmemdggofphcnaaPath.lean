/- role.Path: the search over the roles, step by step: for any two numbers what it returns is the list of roles that the search finds, or the error; nothing that was there is changed. -/
import Derived.Test.YtmemdggofphcnaaCheck
import Derived.Test.YtmemdggofphcnaaXx3
namespace Go.Proofs.Ytmemdggofphcnaa.X
open Go.RowKit Go.Proofs.YtmemdggofphcnaaW.PrintWords Go.Proofs.YtmemdggofphcnaaW.PrintLast Go.Proofs.YtmemdggofphcnaaW.PrintMore

def mayB (a r : Nat) : Bool := (role_may.f a r).getD false
theorem mayB_eq : ∀ a r : Nat, a < 8 → r < 8 → role_may.f a r = some (mayB a r) := by
  have h : ∀ a : Fin 8, ∀ r : Fin 8, role_may.f (a.val : Int) (r.val : Int) = some (mayB a.val r.val) := by decide +kernel
  intro a r ha hr
  exact h ⟨a, ha⟩ ⟨r, hr⟩
/-- One look of the search: from a role at, at the role r. -/
def stepC (a r : Nat) (s : List Int × List Nat) : List Int × List Nat := if s.1.getD r 0 < 0 then (if mayB a r = true then (s.1.set r a, s.2 ++ [r]) else s) else s
def runC (a : Nat) (s : List Int × List Nat) : Nat → List Int × List Nat
  | 0 => s
  | i + 1 => stepC a i (runC a s i)
def runB (t : Nat) : Nat → List Int × List Nat → Option (List Int)
  | 0, _ => none
  | k + 1, (bf, q) => match q with
    | [] => if bf.getD t 0 < 0 then some bf else none
    | a :: q' => if bf.getD t 0 < 0 then (if a < 8 then (if q'.length ≤ 100 then runB t k (runC a (bf, q') 8) else none) else none) else some bf
def runD (f : Nat) (bf : List Int) : Nat → List Nat → Nat → Option (List Nat)
  | 0, _, _ => none
  | k + 1, out, r => if r = f then some out else if r < 8 then (if 0 ≤ bf.getD r 0 then (if out.length ≤ 100 then runD f bf k (out ++ [r]) (bf.getD r 0).toNat else none) else none) else none
def role_Path.f (k : Nat) (a0 a1 : Int) : Option (List Int × Int) :=
  if 0 ≤ a0 ∧ a0 < 8 then (if 0 ≤ a1 ∧ a1 < 8 then
    (runB a1.toNat k ((List.replicate 8 (-1)).set a0.toNat a0, [a0.toNat])).bind fun bf => if bf.getD a1.toNat 0 < 0 then some ([], 14) else (runD a0.toNat bf k [] a1.toNat).bind fun out => (slices_Reverse_int_int.f k (out.map (fun (x : Nat) => (x : Int)))).bind fun r => some (r, 0)
  else some ([], 14)) else some ([], 14)

theorem runC_len (a : Nat) (s : List Int × List Nat) (i : Nat) : (runC a s i).1.length = s.1.length := by
  induction i with
  | zero => rfl
  | succ i ih =>
    rw [runC, stepC]
    split
    · split
      · simp [ih]
      · exact ih
    · exact ih
theorem runC_q (a : Nat) (s : List Int × List Nat) (i : Nat) : (runC a s i).2.length ≤ s.2.length + i := by
  induction i with
  | zero => exact Nat.le_refl _
  | succ i ih =>
    rw [runC, stepC]
    split
    · split
      · simp
        omega
      · omega
    · omega
theorem runB_mono (t : Nat) : ∀ k s, LeO (runB t k s) (runB t (k + 1) s)
  | 0, _ => fun r h => by simp [runB] at h
  | k + 1, (bf, q) => by
    unfold runB
    split
    · exact LeO.refl _
    · split
      · split
        · split
          · exact runB_mono t k _
          · exact LeO.refl _
        · exact LeO.refl _
      · exact LeO.refl _
theorem runD_mono (f : Nat) (bf : List Int) : ∀ k o r, LeO (runD f bf k o r) (runD f bf (k + 1) o r)
  | 0, _, _ => fun r h => by simp [runD] at h
  | k + 1, o, r => by
    unfold runD
    split
    · exact LeO.refl _
    · split
      · split
        · split
          · exact runD_mono f bf k _ _
          · exact LeO.refl _
        · exact LeO.refl _
      · exact LeO.refl _
theorem role_Path.mono : ∀ a0 a1 k, LeO (role_Path.f k a0 a1) (role_Path.f (k + 1) a0 a1) := by
  intro a0 a1 k
  unfold role_Path.f
  split
  · split
    · refine LeO.bind (runB_mono _ _ _) (fun bf => ?_)
      split
      · exact LeO.refl _
      · exact LeO.bind (runD_mono _ _ _ _ _) (fun _ => LeO.bind (slices_Reverse_int_int.mono _ _) (fun _ => LeO.refl _))
    · exact LeO.refl _
  · exact LeO.refl _
def arr (bf : List Int) : Array Value := (bf.map (Value.int .i64)).toArray
theorem arr_at {W : World} {g : Nat} {bf : List Int} (h : W.heap[g]? = some (.cells (arr bf) 57 (0, 0))) (i : Nat) (hi : i < bf.length) : W.cell? ⟨g, i, none⟩ = some (.int .i64 (bf.getD i 0)) := by
  rw [blk_cell h i, arr]
  simp [List.getD_eq_getElem?_getD, List.getElem?_eq_getElem hi]
theorem arr_put {W : World} {g : Nat} {bf : List Int} (h : W.heap[g]? = some (.cells (arr bf) 57 (0, 0))) (i : Nat) (x : Int) : (W.setCell ⟨g, i, none⟩ (.int .i64 x)).heap[g]? = some (.cells (arr (bf.set i x)) 57 (0, 0)) :=
  blk_put h i _ (by simp [arr, List.map_set])

theorem arr_zero {W : World} {g : Nat} (h : W.heap[g]? = some (.cells (arr (List.replicate 8 0)) 57 (0, 0))) : ((((((((W.setCell ⟨g, 0, none⟩ (.int .i64 0)).setCell ⟨g, 1, none⟩ (.int .i64 0)).setCell ⟨g, 2, none⟩ (.int .i64 0)).setCell ⟨g, 3, none⟩ (.int .i64 0)).setCell ⟨g, 4, none⟩ (.int .i64 0)).setCell ⟨g, 5, none⟩ (.int .i64 0)).setCell ⟨g, 6, none⟩ (.int .i64 0)).setCell ⟨g, 7, none⟩ (.int .i64 0)).heap[g]? = some (.cells (arr (List.replicate 8 0)) 57 (0, 0)) := by
  have h0 := arr_put (arr_put (arr_put (arr_put (arr_put (arr_put (arr_put (arr_put h 0 0) 1 0) 2 0) 3 0) 4 0) 5 0) 6 0) 7 0
  rw [show ((((((((List.replicate 8 (0 : Int)).set 0 0).set 1 0).set 2 0).set 3 0).set 4 0).set 5 0).set 6 0).set 7 0 = List.replicate 8 0 from by decide] at h0
  exact h0
theorem rep_set (i : Nat) (h : i < 8) : (List.replicate i (-1 : Int) ++ List.replicate (8 - i) 0).set i (-1) = List.replicate (i + 1) (-1) ++ List.replicate (8 - (i + 1)) 0 := by
  have : ∀ i : Fin 8, (List.replicate i.val (-1 : Int) ++ List.replicate (8 - i.val) 0).set i.val (-1) = List.replicate (i.val + 1) (-1) ++ List.replicate (8 - (i.val + 1)) 0 := by decide
  exact this ⟨i, h⟩
set_option maxRecDepth 100000 in
set_option maxHeartbeats 16000000 in
theorem role_Path.calls (k : Nat) (a0 a1 : Int) (r1 : List Int) (r2 : Int) (w : World) (h : role_Path.f k a0 a1 = some (r1, r2)) :
    Calls Try.prog 14 #[.int .i64 a0, .int .i64 a1] w fun e w' => ∃ v0_ : Value, e = .returned (.tuple #[v0_, .int .i64 r2]) ∧ Kd.R (Kd.int .i64) 3 w' w.heap.size (fun _ => True) v0_ r1 ∧ Below w.heap.size w w' := by
  unfold role_Path.f at h
  by_cases h0 : 0 ≤ a0 ∧ a0 < 8
  · rw [if_pos h0] at h
    by_cases h1 : 0 ≤ a1 ∧ a1 < 8
    · rw [if_pos h1] at h
      have d0 : decide (0 ≤ a0 ∧ a0 < 8) = true := decide_eq_true h0
      have d1 : decide (0 ≤ a1 ∧ a1 < 8) = true := decide_eq_true h1
      have i0 := is_call a0
      have i1 := is_call a1
      rw [d0] at i0
      rw [d1] at i1
      clear d0 d1
      obtain ⟨f, rfl⟩ := Int.eq_ofNat_of_zero_le h0.1
      obtain ⟨t, rfl⟩ := Int.eq_ofNat_of_zero_le h1.1
      have hf : f < 8 := by omega
      have ht : t < 8 := by omega
      rw [Int.toNat_natCast, Int.toNat_natCast] at h
      replace h := Option.bind_eq_some_iff.mp h
      obtain ⟨bf, hB, h⟩ := h
      have H := Aside0.mk h
      have HRB := Aside0.mk hB
      clear h hB h0 h1
      go_enter Try.func14, Try.ntmps14
      go_wp2_with (first | (go_at_call 37; refine (i0 _).mono ?_; rintro e w' ⟨rfl, ⟨nd, rfl⟩⟩) | (go_at_call 37; refine (i1 _).mono ?_; rintro e w' ⟨rfl, ⟨nd, rfl⟩⟩) | ((with_reducible refine gate_dst (N := 6) rfl ?_); refine box_event ?hg (N := 6) ?hd (cs := arr (List.replicate 8 0)) (t := 57) ?hr ?_; (case hd => rfl); (case hg => rfl); (case hr => first | (go_simp; done) | (go_simp; rfl)); intro gb hg w3 hbox hb; have HBx := Aside0.mk hbox; have HB := Aside0.mk (show Below w.heap.size w w3 from below_step (by repeat (first | exact Below.refl _ _ | apply pw_below_drewN | apply below_drew1)) hb); have HG := Aside0.mk (show w.heap.size ≤ gb from by rw [hg]; exact Nat.le_refl _); clear hg hb; have hc0 := arr_at hbox 0 (by decide); have hc1 := arr_at hbox 1 (by decide); have hc2 := arr_at hbox 2 (by decide); have hc3 := arr_at hbox 3 (by decide); have hc4 := arr_at hbox 4 (by decide); have hc5 := arr_at hbox 5 (by decide); have hc6 := arr_at hbox 6 (by decide); have hc7 := arr_at hbox 7 (by decide); have hf0 := blk_frozen hbox 0; have hf1 := blk_frozen hbox 1; have hf2 := blk_frozen hbox 2; have hf3 := blk_frozen hbox 3; have hf4 := blk_frozen hbox 4; have hf5 := blk_frozen hbox 5; have hf6 := blk_frozen hbox 6; have hf7 := blk_frozen hbox 7; clear hbox))
      go_loopg [22] 9 (fun kq v22 wr => ∃ i : Nat, i ≤ 8 ∧ kq + i = 9 ∧ v22 = .int .i64 i ∧ Aside0 (wr.heap[gb]? = some (.cells (arr (List.replicate i (-1) ++ List.replicate (8 - i) 0)) 57 (0, 0))) ∧ Aside0 (Below w.heap.size w wr))
      case atStart =>
        refine ⟨0, by omega, by omega, rfl, ⟨?_⟩, ⟨?_⟩⟩
        · rw [show (List.replicate 0 (-1 : Int) ++ List.replicate (8 - 0) (0 : Int)) = List.replicate 8 0 from rfl]
          exact arr_zero HBx.out
        · exact below_set (below_set (below_set (below_set (below_set (below_set (below_set (below_set HB.out HG.out) HG.out) HG.out) HG.out) HG.out) HG.out) HG.out) HG.out
      case round =>
        obtain ⟨i, hi, hkq, rfl, HBx1, HB1⟩ := hrel
        clear HBx HB hc0 hc1 hc2 hc3 hc4 hc5 hc6 hc7 hf0 hf1 hf2 hf3 hf4 hf5 hf6 hf7
        by_cases h8 : i < 8
        · have dl : decide ((i : Int) < 8) = true := decide_eq_true (by omega)
          have hcz := arr_at HBx1.out i (by simp; omega)
          have hfz := blk_frozen HBx1.out i
          go_wp2
          go_roundg (gk - 1)
          case measure => omega
          case rel => exact ⟨i + 1, by omega, by omega, rfl, ⟨by rw [← rep_set i h8]; exact arr_put HBx1.out i (-1)⟩, ⟨below_set HB1.out HG.out⟩⟩
        · obtain rfl : i = 8 := by omega
          have hlen : (List.replicate 8 (-1 : Int) ++ List.replicate (8 - 8) 0) = List.replicate 8 (-1) := rfl
          rw [hlen] at HBx1
          have hcz := arr_at HBx1.out f (by simp; omega)
          have hfz := blk_frozen HBx1.out f
          clear hlen
          go_wp2_with ((with_reducible refine gate_dst (N := 32) rfl ?_); refine Kd.R_lit (Kd.int .i64) _ 3 ?hg (N := 32) ?hd (xs := [(f : Int)]) (inner := [.int .i64 f]) (ok := fun _ => True) (okp := fun _ => True) ?hr ?hp (fun _ hk => hk) trivial (Below.refl _ _) (Nat.le_refl _) (by simp) ?_; (case hd => rfl); (case hg => rfl); (case hr => first | (go_simp; done) | (go_simp; rfl)); (case hp => exact Reps.one (show Kd.M (Kd.int .i64) _ _ _ (f : Int) [.int .i64 f] from rfl) (Reps.none _ _)); intro vq w5 ho hb hg hnew; clear hg hnew; have HQ := Aside0.mk (Kd.Q_of_R (Kd.R_lower ho (below_size (below_set HB1.out HG.out)))); have HB2 := Aside0.mk (below_step (below_set HB1.out HG.out) hb); have HBx2 := Aside0.mk (blk_below (arr_put HBx1.out f (f : Int)) hb); clear ho hb hcz hfz HBx1 HB1)
          go_loopg [8] k (fun kq v8 wr => ∃ (bs : List Int) (q : List Nat), bs.length = 8 ∧ Aside0 (runB t kq (bs, q) = some bf) ∧ Aside0 (Kd.Q (Kd.int .i64) 3 wr w.heap.size (fun _ => True) v8 (q.map (fun (x : Nat) => (x : Int)))) ∧ Aside0 (wr.heap[gb]? = some (.cells (arr bs) 57 (0, 0))) ∧ Aside0 (Below w.heap.size w wr))
          case atStart => exact ⟨_, _, by simp, HRB, HQ, HBx2, HB2⟩
          case round =>
            clear HQ HBx2 HB2 HRB
            obtain ⟨bs, q, hbl, HR, HQ, HBx, HB⟩ := hrel
            cases gk with
            | zero => exact absurd HR.out (by simp [runB])
            | succ kb =>
              obtain ⟨A, c, e8, hlc⟩ := Kd.Q_slice HQ.out
              rw [List.length_map] at e8 hlc
              subst e8
              have hct := arr_at HBx.out t (by omega)
              obtain ⟨xt, hxt⟩ : ∃ x, x = bs.getD t 0 := ⟨_, rfl⟩
              rw [← hxt] at hct
              cases q with
              | nil =>
                have HE := HR.out
                simp only [runB] at HE
                rw [← hxt] at HE
                by_cases hbt : xt < 0
                · rw [if_pos hbt] at HE
                  have HE := Option.some.inj HE
                  subst HE
                  have HF := H.out
                  rw [← hxt, if_pos hbt] at HF
                  simp only [Option.some.injEq, Prod.mk.injEq] at HF
                  obtain ⟨rfl, rfl⟩ := HF
                  have dbt : decide (xt < 0) = true := decide_eq_true hbt
                  clear HR H hbt hxt
                  dsimp only [List.length_nil] at *
                  go_wp2
                  go_ret2
                  exact ⟨_, rfl, Kd.R_nil _ _ _ _ _, HB.out⟩
                · rw [if_neg hbt] at HE
                  cases HE
              | cons a q' =>
                have HR' := HR.out
                simp only [runB] at HR'
                rw [← hxt] at HR'
                have HX := Aside0.mk hxt
                clear hxt
                have dq : decide (0 < (((a :: q').length : Nat) : Int)) = true := decide_eq_true (by simp)
                by_cases hbt : xt < 0
                · rw [if_pos hbt] at HR'
                  have dbt : decide (xt < 0) = true := decide_eq_true hbt
                  by_cases ha : a < 8
                  · rw [if_pos ha] at HR'
                    by_cases hql : q'.length ≤ 100
                    · rw [if_pos hql] at HR'
                      have HR2 := Aside0.mk HR'
                      clear HR' HR hbt
                      obtain ⟨n, hn⟩ : ∃ n, n = (a :: q').length := ⟨_, rfl⟩
                      have hn1 : n - 1 = q'.length := by rw [hn]; rfl
                      have hn0 : 0 < n := by rw [hn]; simp
                      rw [← hn] at HQ dq ⊢
                      obtain ⟨ad, e9, hx⟩ := Kd.at_int (Kd.Q_reads' HQ.out).2.2 0 (Int.le_refl 0) (Int.natCast_pos.mpr (by simp))
                      subst e9
                      replace hx : wr.cell? (ad.add 0) = some (.int .i64 (a : Int)) := hx
                      have hx0 : wr.cell? ad = some (.int .i64 (a : Int)) := by first | simpa using hx | (simpa [Addr.add] using hx)
                      obtain ⟨i0_, hi0, _, hsz, _⟩ := info_parts info3
                      have hcut := cut_from (P := Try.prog) 25 3 .i64 Try.underlying25 hi0 1 hsz (some ad) n c 1 (by omega) (show (1 : Int) ≤ (n : Int) by omega)
                      have hr := Kd.Q_drop (k := 1) HQ.out (by simp)
                      obtain ⟨A1, hA1⟩ : ∃ A1, A1 = (if c = 1 then some ad else (some ad).map (·.add (1 * 1))) := ⟨_, rfl⟩
                      obtain ⟨c1, hc1⟩ : ∃ c1, c1 = c - 1 := ⟨_, rfl⟩
                      replace hcut : ∀ W : World, (Instr.slice 25 (.slice (some ad) n c) (some (.int .i64 1)) none none).run Try.prog W = .ok (.slice A1 q'.length c1) W := by
                        rw [hA1, hc1, ← hn1]
                        exact hcut
                      replace hr : Kd.Q (Kd.int .i64) 3 wr w.heap.size (fun _ => True) (.slice A1 q'.length c1) (q'.map (fun (x : Nat) => (x : Int))) := by
                        rw [hA1, hc1, ← hn1]
                        exact hr
                      have HQ1 := Aside0.mk hr
                      have hq0 : ((0 : Int) < (n : Int)) = True := eq_true (by omega)
                      clear hr hA1 hc1 hi0 hsz HQ hn hn1 hlc HX
                      go_wp2
                      go_loopg [8, 47] 9 (fun kq v8 v47 wr => ∃ i : Nat, i ≤ 8 ∧ kq + i = 9 ∧ v47 = .int .i64 i ∧ Aside0 (Kd.Q (Kd.int .i64) 3 wr w.heap.size (fun _ => True) v8 ((runC a (bs, q') i).2.map (fun (x : Nat) => (x : Int)))) ∧ Aside0 (wr.heap[gb]? = some (.cells (arr (runC a (bs, q') i).1) 57 (0, 0))) ∧ Aside0 (Below w.heap.size w wr))
                      case atStart => exact ⟨0, by omega, by omega, rfl, HQ1, HBx, HB⟩
                      case round =>
                        obtain ⟨i, hi, hkq2, rfl, HQ, HBx2, HB2⟩ := hrel
                        clear HQ1 HBx HB hct hx hx0 hcut hq0 dq dbt
                        by_cases h8 : i < 8
                        · have dl : decide ((i : Int) < 8) = true := decide_eq_true (by omega)
                          have hsl := runC_len a (bs, q') i
                          have hsq := runC_q a (bs, q') i
                          have hst : runC a (bs, q') (i + 1) = stepC a i (runC a (bs, q') i) := rfl
                          rw [hbl] at hsl
                          dsimp only at hsq
                          have HS := Aside0.mk hst
                          clear hst
                          generalize runC a (bs, q') i = s at HQ HBx2 hsl hsq HS
                          obtain ⟨b2, q2⟩ := s
                          dsimp only at HQ HBx2 hsl hsq
                          have hci := arr_at HBx2.out i (by omega)
                          obtain ⟨xi, hxi⟩ : ∃ x, x = b2.getD i 0 := ⟨_, rfl⟩
                          rw [← hxi] at hci
                          have HXi := Aside0.mk hxi
                          clear hxi
                          have hmay := fun W => role_may.calls a i (mayB a i) W (mayB_eq a i ha h8)
                          by_cases hx0 : xi < 0
                          · have dx : decide (xi < 0) = true := decide_eq_true hx0
                            by_cases hm : mayB a i = true
                            · rw [hm] at hmay
                              have hs2 : stepC a i (b2, q2) = (b2.set i a, q2 ++ [i]) := by
                                unfold stepC
                                rw [if_pos (by rw [← HXi.out]; exact hx0), if_pos hm]
                              have HS2 := Aside0.mk (HS.out.trans hs2)
                              have hfz := blk_frozen HBx2.out i
                              clear hs2 HS hx0 hm
                              have HFz := Aside0.mk hfz
                              clear hfz
                              go_wp2_with (first | (go_at_call 38; refine (hmay _).mono ?_; rintro e w' ⟨rfl, ⟨nd, rfl⟩⟩; have hcw := arr_at (blk_drewN HBx2.out nd) i (by omega); have hfw := blk_frozen (blk_drewN HBx2.out nd) i) | ((with_reducible refine gate_builtin (b := .append) (xs := #[.tmp 62, .tmp 64]) rfl ?_); at_builtin; go_loud (refine Kd.Q_append (Kd.int .i64) (w0 := w) w.heap.size rfl (.tmp 62) (.tmp 64) 25 3 (.int .i64 0) 8 rfl Try.underlying25 info3 rfl (by decide) (by omega) u8 (q2.map (fun (x : Nat) => (x : Int))) (i : Int) [.int .i64 i] (fun _ => True) (fun _ => False) rfl ?aX ?aP (fun _ hk => hk.elim) ?aF ?aO ?aB ?aS ?aL ?_; (case aX => first | (go_simp; done) | (go_simp; rfl) | (simp; rfl)); (case aP => exact rfl); (case aB => exact below_set (pw_below_drewN HB2.out _) HG.out); (case aF => exact (fun _ _ => trivial)); (case aO => exact Kd.Q_set (Kd.Q_drewN HQ.out _) (blk_drewN HBx2.out _) (by intro q hq; simp [Kd.int, Kd.scalar] at hq; omega) _ _); (case aS => exact below_size (below_set (pw_below_drewN HB2.out _) HG.out)); (case aL => rw [List.length_map]; omega); intro v145 w17 ho hb hg hat; have HQ3 := Aside0.mk ho; have HB3 := Aside0.mk hb; have HBx3 := Aside0.mk (blk_grown (arr_put (blk_drewN HBx2.out nd) i (a : Int)) hg (Kd.Q_ne (Kd.Q_set (Kd.Q_drewN HQ.out nd) (blk_drewN HBx2.out nd) (by intro q hq; simp [Kd.int, Kd.scalar] at hq; omega) i (.int .i64 (a : Int))) (arr_put (blk_drewN HBx2.out nd) i (a : Int)) (by decide))); clear ho hb hg hat HQ HBx2 HB2)))
                              go_roundg (gk - 1)
                              case measure => omega
                              case rel => exact ⟨i + 1, by omega, by omega, rfl, ⟨by rw [HS2.out, List.map_append]; exact HQ3.out⟩, ⟨by rw [HS2.out]; exact HBx3.out⟩, ⟨HB3.out⟩⟩
                            · have hm' : mayB a i = false := Bool.eq_false_iff.mpr hm
                              rw [hm'] at hmay
                              have hs2 : stepC a i (b2, q2) = (b2, q2) := by
                                unfold stepC
                                rw [if_pos (by rw [← HXi.out]; exact hx0), if_neg hm]
                              have HS2 := Aside0.mk (HS.out.trans hs2)
                              clear hs2 HS hx0 hm hm'
                              go_wp2_with (first | (go_at_call 38; refine (hmay _).mono ?_; rintro e w' ⟨rfl, ⟨nd, rfl⟩⟩))
                              go_roundg (gk - 1)
                              case measure => omega
                              case rel => exact ⟨i + 1, by omega, by omega, rfl, ⟨by rw [HS2.out]; exact Kd.Q_drewN HQ.out _⟩, ⟨by rw [HS2.out]; exact blk_drewN HBx2.out _⟩, ⟨pw_below_drewN HB2.out _⟩⟩
                          · have dx : decide (xi < 0) = false := decide_eq_false hx0
                            have hs2 : stepC a i (b2, q2) = (b2, q2) := by
                              unfold stepC
                              rw [if_neg (by rw [← HXi.out]; exact hx0)]
                            have HS2 := Aside0.mk (HS.out.trans hs2)
                            clear hs2 HS hx0
                            go_wp2
                            go_roundg (gk - 1)
                            case measure => omega
                            case rel => exact ⟨i + 1, by omega, by omega, rfl, ⟨by rw [HS2.out]; exact HQ.out⟩, ⟨by rw [HS2.out]; exact HBx2.out⟩, ⟨HB2.out⟩⟩
                        · obtain rfl : i = 8 := by omega
                          go_wp2
                          go_roundg kb
                          case measure => omega
                          case rel => exact ⟨_, _, (runC_len a (bs, q') 8).trans hbl, HR2, HQ, HBx2, HB2⟩
                    · rw [if_neg hql] at HR'
                      cases HR'
                  · rw [if_neg ha] at HR'
                    cases HR'
                · rw [if_neg hbt] at HR'
                  have HE := Option.some.inj HR'
                  subst HE
                  have dbt : decide (xt < 0) = false := decide_eq_false hbt
                  clear HR' HR
                  have HX2 := H.out
                  rw [← HX.out, if_neg hbt] at HX2
                  replace HX2 := Option.bind_eq_some_iff.mp HX2
                  obtain ⟨ro, hD, hE⟩ := HX2
                  have HD := Aside0.mk hD
                  have HE2 := Aside0.mk hE
                  clear hD hE hbt H HX
                  go_wp2
                  go_loopg [11, 12] k (fun kq v11 v12 wr => ∃ (out : List Nat) (r : Nat), v12 = .int .i64 r ∧ Aside0 (runD f bs kq out r = some ro) ∧ Aside0 (Kd.R (Kd.int .i64) 3 wr w.heap.size (fun _ => True) v11 (out.map (fun (x : Nat) => (x : Int)))) ∧ Aside0 (wr.heap[gb]? = some (.cells (arr bs) 57 (0, 0))) ∧ Aside0 (Below w.heap.size w wr))
                  case atStart => exact ⟨[], t, rfl, HD, ⟨Kd.R_nil _ _ _ _ _⟩, HBx, HB⟩
                  case round =>
                    clear HBx HB HD HQ hct dq hlc
                    obtain ⟨out, r, rfl, HD, HO, HBx, HB⟩ := hrel
                    cases gk with
                    | zero => exact absurd HD.out (by simp [runD])
                    | succ kd =>
                      have HD' := HD.out
                      simp only [runD] at HD'
                      clear HD
                      by_cases hrf : r = f
                      · rw [if_pos hrf] at HD'
                        obtain rfl := Option.some.inj HD'
                        subst hrf
                        have e1 : ((r : Int) != (r : Int)) = false := by simp
                        have HE3 := HE2.out
                        replace HE3 := Option.bind_eq_some_iff.mp HE3
                        obtain ⟨rr, hrev, hE⟩ := HE3
                        simp only [Option.some.injEq, Prod.mk.injEq] at hE
                        obtain ⟨rfl, rfl⟩ := hE
                        have HRV := Aside0.mk hrev
                        clear hrev HE2 HD'
                        go_wp2_with (go_at_call 41; refine (slices_Reverse_int_int.calls k (fun _ => True) _ _ _ w _ HB.out HO.out HRV.out).mono ?_; rintro e w' ⟨rfl, ho, hb, _⟩)
                        go_ret2
                        exact ⟨_, rfl, Kd.R_mono ho (fun _ _ => trivial), hb⟩
                      · rw [if_neg hrf] at HD'
                        have hr8 : r < 8 := by
                          rcases Nat.lt_or_ge r 8 with h | h
                          · exact h
                          · rw [if_neg (by omega)] at HD'
                            cases HD'
                        rw [if_pos hr8] at HD'
                        by_cases hx0 : 0 ≤ bs.getD r 0
                        · rw [if_pos hx0] at HD'
                          by_cases hol : out.length ≤ 100
                          · rw [if_pos hol] at HD'
                            have hcr := arr_at HBx.out r (by omega)
                            obtain ⟨y, hy⟩ : ∃ y : Nat, bs.getD r 0 = y := ⟨(bs.getD r 0).toNat, by omega⟩
                            rw [hy] at hcr HD'
                            rw [Int.toNat_natCast] at HD'
                            have HDn := Aside0.mk HD'
                            have HCR := Aside0.mk hcr
                            clear HD' hcr hx0 HE2
                            have e1 : ((r : Int) != (f : Int)) = true := by simp; omega
                            go_wp2_with ((with_reducible refine gate_builtin (b := .append) (xs := #[.tmp 78, .tmp 80]) rfl ?_); at_builtin; go_loud (refine Kd.R_append (Kd.int .i64) (w0 := w) w.heap.size rfl (.tmp 78) (.tmp 80) 25 3 (.int .i64 0) 8 rfl Try.underlying25 info3 rfl (by decide) (by omega) u11 (out.map (fun (x : Nat) => (x : Int))) (r : Int) [.int .i64 r] (fun _ => True) (fun _ => False) rfl rfl ?aP (fun _ hk => hk.elim) ?aF ?aO ?aB ?aS ?aL ?_; (case aP => exact rfl); (case aB => exact HB.out); (case aF => exact (fun _ _ => trivial)); (case aO => exact HO.out); (case aS => exact below_size HB.out); (case aL => rw [List.length_map]; omega); intro v145 w17 ho hb hg hat; have HBx3 := Aside0.mk (blk_grown HBx.out hg (Kd.R_ne HO.out HBx.out (by decide))); have HO3 := Aside0.mk ho; have HB3 := Aside0.mk hb; have hcw := arr_at HBx3.out r (by omega); rw [hy] at hcw; clear ho hb hg hat HBx HO HB))
                            go_roundg kd
                            case measure => omega
                            case rel =>
                              refine ⟨out ++ [r], y, rfl, HDn, ⟨?_⟩, HBx3, HB3⟩
                              rw [List.map_append]; exact HO3.out
                          · rw [if_neg hol] at HD'
                            cases HD'
                        · rw [if_neg hx0] at HD'
                          cases HD'
    · rw [if_neg h1] at h
      have d0 : decide (0 ≤ a0 ∧ a0 < 8) = true := decide_eq_true h0
      have d1 : decide (0 ≤ a1 ∧ a1 < 8) = false := decide_eq_false h1
      have i0 := is_call a0
      have i1 := is_call a1
      rw [d0] at i0
      rw [d1] at i1
      clear d0 d1
      simp only [Option.some.injEq, Prod.mk.injEq] at h
      obtain ⟨rfl, rfl⟩ := h
      go_enter Try.func14, Try.ntmps14
      go_wp2_with (first | (go_at_call 37; refine (i0 _).mono ?_; rintro e w' ⟨rfl, ⟨nd, rfl⟩⟩) | (go_at_call 37; refine (i1 _).mono ?_; rintro e w' ⟨rfl, ⟨nd, rfl⟩⟩))
      go_ret2
      exact ⟨_, rfl, Kd.R_nil _ _ _ _ _, by repeat (first | exact Below.refl _ _ | apply pw_below_drewN | apply below_drew1)⟩
  · rw [if_neg h0] at h
    have d0 : decide (0 ≤ a0 ∧ a0 < 8) = false := decide_eq_false h0
    have i0 := is_call a0
    rw [d0] at i0
    clear d0
    simp only [Option.some.injEq, Prod.mk.injEq] at h
    obtain ⟨rfl, rfl⟩ := h
    go_enter Try.func14, Try.ntmps14
    go_wp2_with (go_at_call 37; refine (i0 _).mono ?_; rintro e w' ⟨rfl, ⟨nd, rfl⟩⟩)
    go_ret2
    exact ⟨_, rfl, Kd.R_nil _ _ _ _ _, by repeat (first | exact Below.refl _ _ | apply pw_below_drewN | apply below_drew1)⟩
end Go.Proofs.Ytmemdggofphcnaa.X
