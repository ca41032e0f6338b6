/- The requests made of numbers: which they are, and that they are valid. -/
import Derived.Test.YtigpacfcklcmpaaXx0
import Derived.Test.YtigpacfcklcmpaaXx2
import Derived.Test.YtigpacfcklcmpaaXx3
import Derived.Test.YtigpacfcklcmpaaXx4
import Derived.Test.YtigpacfcklcmpaaXx5
import Derived.Test.YtigpacfcklcmpaaCommand
import Derived.Test.YtigpacfcklcmpaaPlain
namespace Go.Proofs.Ytigpacfcklcmpaa.Pure
open Go.RowKit Go.Proofs.Ytigpacfcklcmpaa.X Go.Proofs.YtigpacfcklcmpaaW.PrintWords Go.Proofs.YtigpacfcklcmpaaW.PrintLast
theorem mod_f (a m : Int) (h0 : 1 ≤ m) (h1 : m ≤ 1073741824) : ∃ t, headgatekit_Mod.f a m = some t ∧ 0 ≤ t ∧ t < m := by
  unfold headgatekit_Mod.f
  have b1 := Int.tmod_lt_of_pos a (show 0 < m by omega)
  have b2 : -m < Int.tmod a m := by
    have := Int.lt_tmod_of_pos a (show 0 < m by omega)
    omega
  rw [if_neg (by omega), if_neg (by omega)]
  by_cases h : Int.tmod a m < 0
  · rw [if_pos h, IntWalk.wrap64_in _ (by omega)]
    exact ⟨_, rfl, by omega, by omega⟩
  · rw [if_neg h]
    exact ⟨_, rfl, by omega, by omega⟩
theorem index_none (l : List Int) (x : Int) (hx : x ∉ l) (hl : l.length < 1000) : ∀ (d i k : Nat), l.length = i + d → d + 1 ≤ k → slices_Index_int_int.l0 k l x (l.length : Int) (i : Int) = some (-1)
  | 0, i, k + 1, h, _ => by
    unfold slices_Index_int_int.l0
    rw [if_neg (by omega)]
  | d + 1, i, k + 1, h, hk => by
    unfold slices_Index_int_int.l0
    rw [if_pos (by omega), if_pos (by omega), if_pos (by omega), if_neg ?_, IntWalk.wrap64_in _ (by omega)]
    · exact index_none l x hx hl d (i + 1) k (by omega) (by omega)
    · intro e
      apply hx
      have : i < l.length := by omega
      rw [e, rd_get _ _ this]
      exact List.getElem_mem this
theorem contains_no (l : List Int) (x : Int) (hx : x ∉ l) (hl : l.length < 1000) (k : Nat) (hk : l.length + 1 ≤ k) : slices_Contains_int_int.f k l x = some false := by
  unfold slices_Contains_int_int.f slices_Index_int_int.f
  rw [show (0 : Int) = ((0 : Nat) : Int) from rfl, index_none l x hx hl l.length 0 k (by omega) hk]
  rfl
theorem in_f (a lo hi : Int) (h : lo ≤ a ∧ a < hi) : fault_in.f a lo hi = some true := by
  unfold fault_in.f
  rw [if_pos (by omega), decide_eq_true h.2]
/-- The end of 'held'. -/
theorem held_j2 (T K P A B V S : Int) (l : List Int) (L : Int) (b : Bool) (h : 0 ≤ L ∧ L < (if b = true then 256 else 1)) (k : Nat) : fault_request_held.j2 (k + 1) 1 b T K P A B V S l L = some 0 := by
  rw [fault_request_held.j2]
  cases b
  · rw [if_neg (by decide), in_f _ _ _ (by simpa using h)]; rfl
  · rw [if_pos rfl, in_f _ _ _ (by simpa using h)]; rfl
theorem nodup_take (l : List Int) (hn : l.Nodup) (i : Nat) (hi : i < l.length) : rd l i ∉ l.take i := by
  rw [rd_get _ _ hi]
  intro hm
  obtain ⟨j, hj, e⟩ := List.mem_iff_getElem.mp hm
  rw [List.length_take] at hj
  rw [List.getElem_take] at e
  exact List.pairwise_iff_getElem.mp (List.nodup_iff_pairwise_ne.mp hn) j i (by omega) hi (by omega) e
theorem held_loop (T K P A B V S : Int) (l : List Int) (L : Int) (hl : l.length < 1000) (hn : l.Nodup) (hb : ∀ x ∈ l, 0 ≤ x ∧ x < 256) (hL : 0 ≤ L ∧ L < (if S = 3 ∨ S = 4 then 256 else 1)) : ∀ (d i k : Nat), l.length = i + d → l.length + d + 5 ≤ k → fault_request_held.l0 k l (l.length : Int) (i : Int) T K P A B V S l L = some 0
  | 0, i, k + 2, h, _ => by
    rw [fault_request_held.l0]
    rw [if_neg (by omega)]
    by_cases h3 : S = 3
    · rw [if_pos h3]
      exact held_j2 _ _ _ _ _ _ _ _ _ _ (by simpa [h3] using hL) _
    · rw [if_neg h3]
      refine held_j2 _ _ _ _ _ _ _ _ _ _ ?_ _
      simpa [h3] using hL
  | d + 1, i, k + 1, h, hk => by
    rw [fault_request_held.l0]
    have hi : i < l.length := by omega
    have hm : rd l i ∈ l := by
      rw [rd_get _ _ hi]
      exact List.getElem_mem hi
    rw [if_pos (by omega), if_pos (by omega), if_pos (by omega), in_f _ _ _ (hb _ hm)]
    dsimp only [Option.bind_some]
    rw [if_pos rfl, if_pos (by omega), Int.toNat_natCast, contains_no _ _ (nodup_take l hn i hi) (by rw [List.length_take]; omega) k (by rw [List.length_take]; omega)]
    dsimp only [Option.bind_some]
    rw [if_neg (by decide), IntWalk.wrap64_in _ (by omega)]
    exact held_loop T K P A B V S l L hl hn hb hL d (i + 1) k (by omega) (by omega)
/-- What a request holds in its state is as it must be. -/
def okH (K S : Int) (l : List Int) (L : Int) : Prop :=
  (S = 1 ∧ l.length = 0 ∧ L = 0) ∨ (S = 2 ∧ 1 ≤ l.length ∧ l.length ≤ (if K = 6 then 9 else 1) ∧ L = 0) ∨ (S = 3 ∧ l.length ≤ 1 ∧ 0 ≤ L ∧ L < 256) ∨ (S = 4 ∧ l.length = 1 ∧ 0 ≤ L ∧ L < 256)
theorem held_ok (T K P A B V S : Int) (l : List Int) (L : Int) (hl : l.length < 1000) (hn : l.Nodup) (hb : ∀ x ∈ l, 0 ≤ x ∧ x < 256) (ho : okH K S l L) (k : Nat) (hk : 2 * l.length + 6 ≤ k) : fault_request_held.f k T K P A B V S l L = some 0 := by
  have hL : 0 ≤ L ∧ L < (if S = 3 ∨ S = 4 then 256 else 1) := by
    rcases ho with ⟨e, _, z⟩ | ⟨e, _, _, z⟩ | ⟨e, _, z, y⟩ | ⟨e, _, z, y⟩ <;> subst e <;> simp <;> omega
  obtain ⟨k, rfl⟩ : ∃ n, k = n + 1 := ⟨k - 1, by omega⟩
  have hJ : fault_request_held.j0 (k + 1) true T K P A B V S l L = some 0 := by
    rw [fault_request_held.j0]
    rw [if_pos rfl]
    exact held_loop T K P A B V S l L hl hn hb hL l.length 0 k (by omega) (by omega)
  unfold fault_request_held.f
  rcases ho with ⟨e, z, _⟩ | ⟨e, z1, z2, _⟩ | ⟨e, z, _⟩ | ⟨e, z, _⟩ <;> subst e
  · rw [if_pos rfl, z]; exact hJ
  · rw [if_neg (by decide), if_pos rfl, if_pos (by omega), most_f]
    dsimp only [Option.bind_some]
    rw [decide_eq_true]
    · exact hJ
    · split at z2 <;> rename_i g <;> simp only [g, if_true, if_false] <;> omega
  · rw [if_neg (by decide), if_neg (by decide), if_pos rfl, decide_eq_true (by omega)]; exact hJ
  · rw [if_neg (by decide), if_neg (by decide), if_neg (by decide), if_pos rfl, z]; exact hJ
/-- The frames of a made request. -/
def frame (m i : Nat) : Int := (((m / 10 + 17 * i) % 256 : Nat) : Int)
def frames (m n : Nat) : List Int := (List.range n).map (frame m)
theorem frames_length (m n : Nat) : (frames m n).length = n := by simp [frames]
theorem frames_in (m n : Nat) : ∀ x ∈ frames m n, 0 ≤ x ∧ x < 256 := by
  intro x hx
  obtain ⟨i, _, rfl⟩ := List.mem_map.mp hx
  unfold frame
  omega
theorem frames_nodup (m n : Nat) (hn : n ≤ 9) : (frames m n).Nodup := by
  unfold frames
  rw [List.nodup_iff_pairwise_ne, List.pairwise_map]
  refine List.Pairwise.imp_of_mem ?_ (List.nodup_range (n := n))
  intro i j hi hj hne e
  rw [List.mem_range] at hi hj
  unfold frame at e
  omega
theorem frames_succ (m n : Nat) : frames m (n + 1) = frames m n ++ [frame m n] := by
  unfold frames
  rw [List.range_succ, List.map_append]; rfl
theorem made_loop (T K P A B V L : Int) (m n : Nat) (hm : m < 1048576) (hn : n ≤ 9) : ∀ (d i k : Nat) (S : Int), n = i + d → d + 1 ≤ k → headgatelaw35_made.l0 k (m : Int) (n : Int) (i : Int) T K P A B V S (frames m i) L = some (T, K, P, A, B, V, (if d = 0 then S else 2), frames m n, L)
  | 0, i, k + 1, S, h, _ => by
    rw [headgatelaw35_made.l0]
    rw [if_neg (by omega)]
    obtain rfl : n = i := by omega
    rfl
  | d + 1, i, k + 1, S, h, hk => by
    rw [headgatelaw35_made.l0]
    have e : Int.tmod (wrap64 ((wrap64 (Int.tdiv (m : Int) 10)) + (wrap64 (17 * (i : Int))))) 256 = frame m i := by
      rw [Int.tdiv_eq_ediv_of_nonneg (by omega), IntWalk.wrap64_in (17 * _) (by omega), IntWalk.wrap64_in (_ / _) (by omega), IntWalk.wrap64_in _ (by omega), Int.tmod_eq_emod_of_nonneg (by omega)]
      unfold frame
      omega
    rw [if_pos (by omega), if_pos (by rw [frames_length]; omega), e, ← frames_succ, IntWalk.wrap64_in _ (by omega)]
    have := made_loop T K P A B V L m n hm hn d (i + 1) k 2 (by omega) (by omega)
    rw [show ((i : Int) + 1) = ((i + 1 : Nat) : Int) by omega, this]
    simp
theorem made_j0 (T K P A B V : Int) (m n : Nat) (hm : m < 1048576) (hn : n ≤ 9) (k : Nat) (hk : 12 ≤ k) : headgatelaw35_made.j0 k (m : Int) (n : Int) T K P A B V 1 0 = some (T, K, P, A, B, V, (if n = 0 then 1 else 2), frames m n, 0) := by
  obtain ⟨k, rfl⟩ : ∃ n, k = n + 1 := ⟨k - 1, by omega⟩
  rw [headgatelaw35_made.j0]
  exact made_loop T K P A B V 0 m n hm hn n 0 k 1 (by omega) (by omega)
theorem made_e1 (x : Nat) (h : x < 16777216) : Int.tmod (wrap64 (Int.tdiv (x : Int) 400)) 4 = ((x / 400 % 4 : Nat) : Int) := by
  rw [Int.tdiv_eq_ediv_of_nonneg (by omega), IntWalk.wrap64_in _ (by omega), Int.tmod_eq_emod_of_nonneg (by omega)]; omega
theorem made_e2 (x : Nat) (h : x < 16777216) : wrap64 (1 + (Int.tmod (x : Int) 50)) = 1 + (x : Int) % 50 := by
  rw [Int.tmod_eq_emod_of_nonneg (by omega), IntWalk.wrap64_in _ (by omega)]
theorem made_e3 (x : Nat) (_h : x < 16777216) : IntKind.u64.wrap (1 + (x : Int) % 50) = 1 + (x : Int) % 50 := IntWalk.u64_in _ (by omega)
theorem made_e4 (x : Nat) (_h : x < 16777216) : wrap64 (1 + (Int.tmod (wrap64 (Int.tdiv (x : Int) 50)) 8)) = 1 + (x : Int) / 50 % 8 := by
  rw [Int.tdiv_eq_ediv_of_nonneg (by omega), IntWalk.wrap64_in (_ / _) (by omega), Int.tmod_eq_emod_of_nonneg (by omega), IntWalk.wrap64_in _ (by omega)]
theorem made_e5 (x : Nat) (h : x < 16777216) : Int.tmod (wrap64 (Int.tdiv (x : Int) 1600)) 64 = (x : Int) / 1600 % 64 := by
  rw [Int.tdiv_eq_ediv_of_nonneg (by omega), IntWalk.wrap64_in (_ / _) (by omega), Int.tmod_eq_emod_of_nonneg (by omega)]
theorem made_e6 (x : Nat) (h : x < 16777216) : Int.tmod (wrap64 (Int.tdiv (x : Int) 102400)) 8 = (x : Int) / 102400 % 8 := by
  rw [Int.tdiv_eq_ediv_of_nonneg (by omega), IntWalk.wrap64_in (_ / _) (by omega), Int.tmod_eq_emod_of_nonneg (by omega)]
theorem made_e7 (x : Nat) (h : x < 16777216) : wrap64 (1 + (Int.tmod (wrap64 ((1 + (x : Int) / 50 % 8) + (Int.tmod (wrap64 (Int.tdiv (x : Int) 1600)) 7))) 8)) = 1 + (1 + (x : Int) / 50 % 8 + (x : Int) / 1600 % 7) % 8 := by
  rw [Int.tdiv_eq_ediv_of_nonneg (by omega), IntWalk.wrap64_in (_ / _) (by omega), Int.tmod_eq_emod_of_nonneg (a := (x : Int) / 1600) (by omega), IntWalk.wrap64_in (_ + _ + _) (by omega), Int.tmod_eq_emod_of_nonneg (by omega), IntWalk.wrap64_in _ (by omega)]
theorem made_e8 (m : Nat) (h : m < 1048576) : Int.tmod (m : Int) 2 = ((m % 2 : Nat) : Int) := by
  rw [Int.tmod_eq_emod_of_nonneg (by omega)]; omega
theorem made_e9 (m : Nat) (h : m < 1048576) : Int.tmod (m : Int) 10 = ((m % 10 : Nat) : Int) := by
  rw [Int.tmod_eq_emod_of_nonneg (by omega)]; omega
theorem made_hf (a0 a1 : Int) (x m : Nat) (hx1 : x < 16777216) (hy1 : m < 1048576) (hx : headgatekit_Mod.f a0 16777216 = some (x : Int)) (hy : headgatekit_Mod.f a1 1048576 = some (m : Int)) (k : Nat) : headgatelaw35_made.f k a0 a1 = if rd [4, 5, 6, 1] ((x / 400 % 4 : Nat) : Int) = 4 then headgatelaw35_made.j0 k m ((m % 2 : Nat) : Int) (1 + (x : Int) % 50) 4 (1 + (x : Int) / 50 % 8) ((x : Int) / 1600 % 64) ((x : Int) / 102400 % 8) 0 1 0 else if rd [4, 5, 6, 1] ((x / 400 % 4 : Nat) : Int) = 5 then headgatelaw35_made.j0 k m ((m % 2 : Nat) : Int) (1 + (x : Int) % 50) 5 (1 + (x : Int) / 50 % 8) ((x : Int) / 1600 % 64) ((x : Int) / 102400 % 8) (IntKind.u64.wrap (x : Int)) 1 0 else if rd [4, 5, 6, 1] ((x / 400 % 4 : Nat) : Int) = 6 then headgatelaw35_made.j0 k m ((m % 10 : Nat) : Int) (1 + (x : Int) % 50) 6 (1 + (x : Int) / 50 % 8) (1 + (1 + (x : Int) / 50 % 8 + (x : Int) / 1600 % 7) % 8) 0 0 1 0 else headgatelaw35_made.j0 k m ((m % 2 : Nat) : Int) (1 + (x : Int) % 50) (rd [4, 5, 6, 1] ((x / 400 % 4 : Nat) : Int)) (1 + (x : Int) / 50 % 8) 0 0 0 1 0 := by
  unfold headgatelaw35_made.f
  rw [hx, Option.bind_some, hy, Option.bind_some, Option.bind_some, made_e1 x hx1, if_pos (by omega), if_pos (by show _ < (4 : Int); omega), made_e2 x hx1, made_e3 x hx1, made_e4 x hx1, made_e5 x hx1, made_e6 x hx1, made_e7 x hx1, made_e8 m hy1, made_e9 m hy1]
  clear hx hy
  generalize rd [4, 5, 6, 1] ((x / 400 % 4 : Nat) : Int) = z
  by_cases z4 : z = 4
  · rw [if_pos z4, if_pos z4, z4]
  · rw [if_neg z4, if_neg z4]
    by_cases z5 : z = 5
    · rw [if_pos z5, if_pos z5, z5]
    · rw [if_neg z5, if_neg z5]
      by_cases z6 : z = 6
      · rw [if_pos z6, if_pos z6, z6]
      · rw [if_neg z6, if_neg z6]
theorem made_is (a0 a1 : Int) : ∃ (T K P A B V : Int) (m n : Nat), (∀ k, 12 ≤ k → headgatelaw35_made.f k a0 a1 = some (T, K, P, A, B, V, (if n = 0 then 1 else 2), frames m n, 0)) ∧ 1 ≤ T ∧ T ≤ 50 ∧ cmdE K P A B V = 0 ∧ (K = 4 ∨ K = 5 ∨ K = 6 ∨ K = 1) ∧ n ≤ (if K = 6 then 9 else 1) := by
  obtain ⟨x, hx, x0, x1⟩ := mod_f a0 16777216 (by decide) (by decide)
  obtain ⟨y, hy, y0, y1⟩ := mod_f a1 1048576 (by decide) (by decide)
  obtain ⟨m, rfl⟩ := Int.eq_ofNat_of_zero_le y0
  obtain ⟨x, rfl⟩ := Int.eq_ofNat_of_zero_le x0
  have hq : x / 400 % 4 = 0 ∨ x / 400 % 4 = 1 ∨ x / 400 % 4 = 2 ∨ x / 400 % 4 = 3 := by omega
  have hx1 : x < 16777216 := by omega
  have hy1 : m < 1048576 := by omega
  have hf := made_hf a0 a1 x m hx1 hy1 hx hy
  clear hx hy
  have m2 : m % 2 ≤ 9 := by omega
  rcases hq with q | q | q | q <;> rw [q] at hf
  · refine ⟨1 + (x : Int) % 50, 4, 1 + (x : Int) / 50 % 8, (x : Int) / 1600 % 64, (x : Int) / 102400 % 8, 0, m, m % 2, ?_, by omega, by omega, ?_, by simp, by simp; omega⟩
    · intro k hk
      rw [hf k, if_pos (by rfl)]
      exact made_j0 _ _ _ _ _ _ m _ (by omega) m2 k hk
    · unfold cmdE inB
      rw [if_neg (by decide), if_pos rfl, if_pos (by simp; omega), if_pos rfl]
  · refine ⟨1 + (x : Int) % 50, 5, 1 + (x : Int) / 50 % 8, (x : Int) / 1600 % 64, (x : Int) / 102400 % 8, IntKind.u64.wrap (x : Int), m, m % 2, ?_, by omega, by omega, ?_, by simp, by simp; omega⟩
    · intro k hk
      rw [hf k, if_neg (by decide), if_pos (by rfl)]
      exact made_j0 _ _ _ _ _ _ m _ (by omega) m2 k hk
    · unfold cmdE inB
      rw [if_pos rfl, if_pos (by simp; omega)]
  · refine ⟨1 + (x : Int) % 50, 6, 1 + (x : Int) / 50 % 8, 1 + (1 + (x : Int) / 50 % 8 + (x : Int) / 1600 % 7) % 8, 0, 0, m, m % 10, ?_, by omega, by omega, ?_, by simp, by simp; omega⟩
    · intro k hk
      rw [hf k, if_neg (by decide), if_neg (by decide), if_pos (by rfl)]
      exact made_j0 _ _ _ _ _ _ m _ (by omega) (by omega) k hk
    · unfold cmdE inB
      rw [if_neg (by decide), if_neg (by decide), if_pos rfl, if_pos (by simp; omega), if_pos (by decide)]
  · refine ⟨1 + (x : Int) % 50, 1, 1 + (x : Int) / 50 % 8, 0, 0, 0, m, m % 2, ?_, by omega, by omega, ?_, by simp, by simp; omega⟩
    · intro k hk
      rw [hf k, if_neg (by decide), if_neg (by decide), if_neg (by decide)]
      exact made_j0 _ _ _ _ _ _ m _ (by omega) m2 k hk
    · unfold cmdE inB
      rw [if_neg (by decide), if_neg (by decide), if_neg (by decide), if_pos rfl, if_pos (by simp; omega), if_pos (by decide)]
end Go.Proofs.Ytigpacfcklcmpaa.Pure
