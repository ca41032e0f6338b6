/- What a request does next lowers what it needs: of a made request, made facts, any place. -/
import Derived.Test.YtigpacfcklcmpaaPicks
import Derived.Test.YtigpacfcklcmpaaOnes
import Derived.Test.YtigpacfcklcmpaaXx0
import Derived.Test.YtigpacfcklcmpaaXx7
import Derived.Test.YtigpacfcklcmpaaXx9
import Derived.Test.YtigpacfcklcmpaaXx12
import Derived.Test.YtigpacfcklcmpaaXx13
import Derived.Test.YtigpacfcklcmpaaXx14
import Derived.Test.YtigpacfcklcmpaaXx15
namespace Go.Proofs.Ytigpacfcklcmpaa.Pure
open Go.RowKit Go.Proofs.Ytigpacfcklcmpaa.X Go.Proofs.YtigpacfcklcmpaaW.PrintWords Go.Proofs.YtigpacfcklcmpaaW.PrintLast
theorem has_loop (l : List Int) (p : Int) (hl : l.length < 1000) : ∀ (d i k : Nat), l.length = i + d → d + 1 ≤ k → headgatekit_Has.l0 k l p (i : Int) = some (decide (p ∈ l.drop i))
  | 0, i, k + 1, h, _ => by
    rw [headgatekit_Has.l0, if_neg (by omega), List.drop_eq_nil_of_le (by omega)]; simp
  | d + 1, i, k + 1, h, hk => by
    have hi : i < l.length := by omega
    rw [headgatekit_Has.l0, if_pos (by omega), if_pos (by omega), rd_get _ _ hi, List.drop_eq_getElem_cons hi]
    by_cases c : l[i] = p
    · rw [if_pos c, decide_eq_true (by rw [c]; exact List.mem_cons_self ..)]
    · rw [if_neg c, IntWalk.wrap64_in _ (by omega)]
      have := has_loop l p hl d (i + 1) k (by omega) (by omega)
      rw [show ((i : Int) + 1) = ((i + 1 : Nat) : Int) by omega, this]
      have e : (p ∈ l[i] :: l.drop (i + 1)) ↔ p ∈ l.drop (i + 1) := by
        rw [List.mem_cons]
        exact ⟨fun h => h.elim (fun h => absurd h.symm c) id, Or.inr⟩
      simp only [e]
theorem has_f (l : List Int) (p : Int) (hl : l.length < 1000) (k : Nat) (hk : l.length + 1 ≤ k) : headgatekit_Has.f k l p = some (decide (p ∈ l)) := by
  unfold headgatekit_Has.f
  have := has_loop l p hl l.length 0 k (by omega) hk
  rw [show (0 : Int) = ((0 : Nat) : Int) from rfl, this, List.drop_zero]
theorem pigeon : ∀ (a l : List Int), a.Nodup → (∀ x ∈ a, x ∈ l) → a.length ≤ l.length
  | [], l, _, _ => Nat.zero_le _
  | x :: a, l, hn, hs => by
    have hx : x ∈ l := hs x (List.mem_cons_self ..)
    rw [List.nodup_cons] at hn
    have := pigeon a (l.erase x) hn.2 (fun y hy => (List.mem_erase_of_ne (fun (e : y = x) => hn.1 (e ▸ hy))).mpr (hs y (List.mem_cons_of_mem _ hy)))
    rw [List.length_erase_of_mem hx] at this
    have := List.length_pos_of_mem hx
    rw [List.length_cons]; omega
theorem free_place (l : List Int) (hl : l.length ≤ 9) (p : Int) : ∃ d : Nat, d ≤ 9 ∧ (p + d) % 256 ∉ l := by
  apply Classical.byContradiction
  intro hc
  have h : ∀ d : Nat, d ≤ 9 → (p + d) % 256 ∈ l := fun d hd => Classical.byContradiction fun g => hc ⟨d, hd, g⟩
  have hN : ((List.range 10).map fun d : Nat => (p + d) % 256).Nodup := by
    rw [List.nodup_iff_pairwise_ne, List.pairwise_map]
    refine List.Pairwise.imp_of_mem ?_ (List.nodup_range (n := 10))
    intro i j hi hj hne e
    rw [List.mem_range] at hi hj
    omega
  have := pigeon _ l hN (by
    intro x hx
    obtain ⟨d, hd, rfl⟩ := List.mem_map.mp hx
    rw [List.mem_range] at hd
    exact h d (by omega))
  rw [List.length_map, List.length_range] at this
  omega
theorem needs_f {T K P A B V S : Int} {l : List Int} {L acc lv : Int} {wr room fr : Bool} {x : S55} (v : Valid T K P A B V S l L) (f : Facts K acc lv) (k : Nat) (hk : 2 * l.length + 8 ≤ k) (h : (tableL K S l acc wr room lv fr).find? (fun y => y.f0) = some x) : fault_Needs.f k T K P A B V S l L acc wr room lv fr = some (x.f2, 0) := by
  unfold fault_Needs.f
  rw [found_row v f k hk h]; rfl
theorem next_f {T K P A B V S : Int} {l : List Int} {L acc lv : Int} {wr room fr : Bool} {x : S55} (v : Valid T K P A B V S l L) (f : Facts K acc lv) (k : Nat) (hk : 2 * l.length + 8 ≤ k) (h : (tableL K S l acc wr room lv fr).find? (fun y => y.f0) = some x) : fault_Next.f k T K P A B V S l L acc wr room lv fr = some (x.f1, 0) := by
  unfold fault_Next.f
  rw [found_row v f k hk h]; rfl
theorem give_ok {T K P A B V S : Int} {l : List Int} {L q : Int} (v : Valid T K P A B V S l L) (hs : S ≤ 2) (hm : (l.length : Int) < (if K = 6 then 9 else 1)) (hq : 0 ≤ q ∧ q < 256) (hn : q ∉ l) (k : Nat) (hk : 2 * l.length + 8 ≤ k) : fault_Give.f k T K P A B V S l L q = some (T, K, P, A, B, V, 2, l ++ [q], L, 0) := by
  unfold fault_Give.f
  have hl := v.len
  rw [check_ok v _ (by omega), Option.bind_some, if_pos rfl, if_neg (by omega), most_f, Option.bind_some, if_neg (by split at hm <;> rename_i g <;> simp only [g, if_true, if_false] <;> omega), in_f _ _ _ hq, Option.bind_some, if_pos rfl, contains_no l q hn hl k (by omega), Option.bind_some, if_neg (by decide), own_f _ _ _ _ _ _ _ _ _ hl, Option.bind_some]
  dsimp only
  rw [if_pos (by omega)]
theorem valid_give {T K P A B V S : Int} {l : List Int} {q : Int} (v : Valid T K P A B V S l 0) (hm : (l.length : Int) < (if K = 6 then 9 else 1)) (hq : 0 ≤ q ∧ q < 256) (hn : q ∉ l) : Valid T K P A B V 2 (l ++ [q]) 0 := by
  have len := v.len
  have hm9 : (l.length : Int) < 9 := by split at hm <;> omega
  refine ⟨v.t0, v.t1, v.c, by decide, by decide, Or.inl (by decide), by rw [List.length_append]; simp; omega, ?_, ?_, Or.inr (Or.inl ⟨rfl, by simp, ?_, rfl⟩)⟩
  · rw [List.nodup_append]
    refine ⟨v.nd, by simp, ?_⟩
    intro a ha b hb e
    simp at hb
    subst hb; subst e; exact hn ha
  · intro x hx
    rcases List.mem_append.mp hx with h | h
    · exact v.ins x h
    · simp at h; subst h; exact hq
  · rw [List.length_append, List.length_singleton]; split at hm <;> split <;> omega
theorem read_ok {T K P A B V : Int} {l : List Int} {L p : Int} (v : Valid T K P A B V 2 l L) (ha : K = 4 ∨ K = 5) (hp : 0 ≤ p ∧ p < 256) (k : Nat) (hk : 2 * l.length + 8 ≤ k) :
    fault_Read.f k T K P A B V 2 l L p = some (T, K, P, A, B, V, 4, l, p, 0) := by
  obtain ⟨k, rfl⟩ : ∃ n, k = n + 1 := ⟨k - 1, by omega⟩
  unfold fault_Read.f fault_wait.f
  rw [check_ok v _ (by omega), Option.bind_some, if_pos rfl, access_f, Option.bind_some, if_pos (decide_eq_true ha), if_neg (by decide), decide_eq_false (by decide), fault_wait.j0, if_neg (by decide), in_f _ _ _ hp, Option.bind_some, if_pos rfl, if_pos rfl, own_f _ _ _ _ _ _ _ _ _ v.len]
  rfl
/-- The made facts are valid. -/
theorem facts_f {T K P A B V S : Int} {l : List Int} {L : Int} (n : Int) : ∃ (acc : Int) (wr room : Bool) (lv : Int) (fr : Bool), headgatelaw35_facts.f T K P A B V S l L n = some (acc, wr, room, lv, fr) ∧ Facts K acc lv := by
  obtain ⟨t, ht, t0, t1⟩ := mod_f n 1048576 (by decide) (by decide)
  have e1 : wrap64 (1 + Int.tmod (wrap64 (Int.tdiv t 72)) 8) = 1 + t / 72 % 8 := by
    rw [Int.tdiv_eq_ediv_of_nonneg t0, IntWalk.wrap64_in (t / 72) (by omega), Int.tmod_eq_emod_of_nonneg (by omega), IntWalk.wrap64_in _ (by omega)]
  have e2 : Int.tmod (wrap64 (Int.tdiv t 4)) 9 = t / 4 % 9 := by
    rw [Int.tdiv_eq_ediv_of_nonneg t0, IntWalk.wrap64_in (t / 4) (by omega), Int.tmod_eq_emod_of_nonneg (by omega)]
  unfold headgatelaw35_facts.f
  rw [ht, Option.bind_some, e1, e2]
  by_cases h4 : K = 4
  · rw [if_pos h4]
    exact ⟨_, _, _, _, _, rfl, ⟨by rw [if_pos (Or.inl h4)]; omega, by omega, by omega⟩⟩
  · rw [if_neg h4]
    by_cases h5 : K = 5
    · rw [if_pos h5]
      exact ⟨_, _, _, _, _, rfl, ⟨by rw [if_pos (Or.inr h5)]; omega, by omega, by omega⟩⟩
    · rw [if_neg h5]
      exact ⟨_, _, _, _, _, rfl, ⟨by rw [if_neg (by omega)], by omega, by omega⟩⟩
section bodies
variable {T K P A B V S : Int} {l : List Int} {acc lv : Int} {wr room fr : Bool} {x11 x13 q : Int}
theorem body_give {y : S55} (v : Valid T K P A B V S l 0) (hs : S ≤ 2) (f : Facts K acc lv) (hl : l.length ≤ 9) (hx : x11 = 4 ∨ (x11 = 3 ∧ acc ≠ 5)) (hm : (l.length : Int) < (if K = 6 then 9 else 1)) (hq : 0 ≤ q ∧ q < 256) (hn : q ∉ l) (hy : (tableL K 2 (l ++ [q]) acc wr room lv fr).find? (fun y => y.f0) = some y) (he : y.f2 = wrap64 (x13 - 1)) (k : Nat) (hk : 60 ≤ k) :
    headgatelaw35_FaultLowers.l0 k x11 0 x13 q T K P A B V S l 0 acc wr room lv fr T K P A B V S l 0 = some true := by
  obtain ⟨k, rfl⟩ : ∃ n, k = n + 1 := ⟨k - 1, by omega⟩
  have w := valid_give v hm hq hn
  have len : (l ++ [q]).length ≤ 10 := by rw [List.length_append, List.length_singleton]; omega
  have g := give_ok v hs hm hq hn k (by omega)
  have nd := needs_f w f k (by omega) hy
  have ck := check_ok w k (by omega)
  rw [headgatelaw35_FaultLowers.l0, has_f l q v.len k (by omega), Option.bind_some, if_neg (by rw [decide_eq_false hn]; decide)]
  rcases hx with h | ⟨h, h5⟩
  · rw [if_pos h, g, Option.bind_some]
    dsimp only
    rw [nd, Option.bind_some, if_pos rfl, if_pos rfl, ck, Option.bind_some, if_pos rfl, if_pos he, awake_ok k (by omega)]; rfl
  · rw [if_neg (by omega), if_pos h, if_neg h5, g, Option.bind_some]
    dsimp only
    rw [nd, Option.bind_some, if_pos rfl, if_pos rfl, ck, Option.bind_some, if_pos rfl, if_pos he, awake_ok k (by omega)]; rfl
theorem body_fill {y : S55} (v : Valid T K P A B V S l 0) (f : Facts K 6 lv) (hl : l.length ≤ 9) (hx : x11 = 3) (ha : acc = 5) (hn : q ∉ l) (hy : (tableL K S l 6 wr room lv fr).find? (fun y => y.f0) = some y) (he : y.f2 = wrap64 (x13 - 1)) (k : Nat) (hk : 60 ≤ k) :
    headgatelaw35_FaultLowers.l0 k x11 0 x13 q T K P A B V S l 0 acc wr room lv fr T K P A B V S l 0 = some true := by
  obtain ⟨k, rfl⟩ : ∃ n, k = n + 1 := ⟨k - 1, by omega⟩
  have nd := needs_f v f k (by omega) hy
  have ck := check_ok v k (by omega)
  rw [headgatelaw35_FaultLowers.l0, has_f l q v.len k (by omega), Option.bind_some, if_neg (by rw [decide_eq_false hn]; decide), if_neg (by omega), if_pos hx, if_pos ha, nd, Option.bind_some, if_pos rfl, if_pos rfl, ck, Option.bind_some, if_pos rfl, if_pos he, awake_ok k (by omega)]; rfl
theorem body_claim {y : S55} (v : Valid T K P A B V S l 0) (hs : S ≤ 2) (ha : K = 4 ∨ K = 5) (f : Facts K acc lv) (hl : l.length ≤ 1) (hx : x11 = 5) (hq : 0 ≤ q ∧ q < 256) (hn : q ∉ l) (hy : (tableL K 3 l acc wr room lv fr).find? (fun y => y.f0) = some y) (he : y.f2 = wrap64 (x13 - 1)) (k : Nat) (hk : 60 ≤ k) :
    headgatelaw35_FaultLowers.l0 k x11 0 x13 q T K P A B V S l 0 acc wr room lv fr T K P A B V S l 0 = some true := by
  obtain ⟨k, rfl⟩ : ∃ n, k = n + 1 := ⟨k - 1, by omega⟩
  have w : Valid T K P A B V 3 l q := ⟨v.t0, v.t1, v.c, by decide, by decide, Or.inr ha, v.len, v.nd, v.ins, Or.inr (Or.inr (Or.inl ⟨rfl, hl, hq.1, hq.2⟩))⟩
  have g := claim_yes v hs ha hq k (by omega)
  have nd := needs_f w f k (by omega) hy
  have ck := check_ok w k (by omega)
  rw [headgatelaw35_FaultLowers.l0, has_f l q v.len k (by omega), Option.bind_some, if_neg (by rw [decide_eq_false hn]; decide), if_neg (by omega), if_neg (by omega), if_pos hx, g, Option.bind_some]
  dsimp only
  rw [nd, Option.bind_some, if_pos rfl, if_pos rfl, ck, Option.bind_some, if_pos rfl, if_pos he, awake_ok k (by omega)]; rfl
theorem body_read {y : S55} (v : Valid T K P A B V S l 0) (hs : S = 2) (ha : K = 4 ∨ K = 5) (f : Facts K acc lv) (hl : l.length = 1) (hx : x11 = 6) (hq : 0 ≤ q ∧ q < 256) (hn : q ∉ l) (hy : (tableL K 4 l acc wr room lv fr).find? (fun y => y.f0) = some y) (he : y.f2 = wrap64 (x13 - 1)) (k : Nat) (hk : 60 ≤ k) :
    headgatelaw35_FaultLowers.l0 k x11 0 x13 q T K P A B V S l 0 acc wr room lv fr T K P A B V S l 0 = some true := by
  obtain ⟨k, rfl⟩ : ∃ n, k = n + 1 := ⟨k - 1, by omega⟩
  subst hs
  have w : Valid T K P A B V 4 l q := ⟨v.t0, v.t1, v.c, by decide, by decide, Or.inr ha, v.len, v.nd, v.ins, Or.inr (Or.inr (Or.inr ⟨rfl, hl, hq.1, hq.2⟩))⟩
  have g := read_ok v ha hq k (by omega)
  have nd := needs_f w f k (by omega) hy
  have ck := check_ok w k (by omega)
  rw [headgatelaw35_FaultLowers.l0, has_f l q v.len k (by omega), Option.bind_some, if_neg (by rw [decide_eq_false hn]; decide), if_neg (by omega), if_neg (by omega), if_neg (by omega), if_pos hx, g, Option.bind_some]
  dsimp only
  rw [nd, Option.bind_some, if_pos rfl, if_pos rfl, ck, Option.bind_some, if_pos rfl, if_pos he, awake_ok k (by omega)]; rfl
theorem body_awake (v : Valid T K P A B V S l 0) (hl : l.length ≤ 9) (hx : x11 = 1 ∨ x11 = 2 ∨ x11 = 7) (hn : q ∉ l) (k : Nat) (hk : 60 ≤ k) :
    headgatelaw35_FaultLowers.l0 k x11 0 x13 q T K P A B V S l 0 acc wr room lv fr T K P A B V S l 0 = some true := by
  obtain ⟨k, rfl⟩ : ∃ n, k = n + 1 := ⟨k - 1, by omega⟩
  rw [headgatelaw35_FaultLowers.l0, has_f l q v.len k (by omega), Option.bind_some, if_neg (by rw [decide_eq_false hn]; decide), if_neg (by omega), if_neg (by omega), if_neg (by omega), if_neg (by omega), awake_ok k (by omega)]; rfl
theorem lowers_loop (v : Valid T K P A B V S l 0) (hl : l.length ≤ 9) (hb : ∀ q, 0 ≤ q ∧ q < 256 → q ∉ l → ∀ k, 60 ≤ k → headgatelaw35_FaultLowers.l0 k x11 0 x13 q T K P A B V S l 0 acc wr room lv fr T K P A B V S l 0 = some true) : ∀ (d : Nat) (p : Int) (k : Nat), 0 ≤ p ∧ p < 256 → (p + d) % 256 ∉ l → 60 + d ≤ k → headgatelaw35_FaultLowers.l0 k x11 0 x13 p T K P A B V S l 0 acc wr room lv fr T K P A B V S l 0 = some true
  | 0, p, k, hp, hf, hk => hb p hp (by rw [show (p + ((0 : Nat) : Int)) % 256 = p by omega] at hf; exact hf) k (by omega)
  | d + 1, p, k, hp, hf, hk => by
    by_cases c : p ∈ l
    · obtain ⟨k, rfl⟩ : ∃ n, k = n + 1 := ⟨k - 1, by omega⟩
      rw [headgatelaw35_FaultLowers.l0, has_f l p v.len k (by omega), Option.bind_some, if_pos (decide_eq_true c), IntWalk.wrap64_in _ (by omega), Int.tmod_eq_emod_of_nonneg (by omega)]
      refine lowers_loop v hl hb d ((p + 1) % 256) k (by omega) ?_ (by omega)
      rw [show ((p + 1) % 256 + (d : Int)) % 256 = (p + ((d + 1 : Nat) : Int)) % 256 by omega]
      exact hf
    · exact hb p hp c k (by omega)
end bodies
theorem FaultLowers : headgatelaw35_FaultLowers.Pure := by
  intro a0 a1 a2 a3 _ _ _ _
  obtain ⟨T, K, P, A, B, V, S, l, hf, v, hS, hK, hn⟩ := made_valid a0 a1
  obtain ⟨acc, wr, room, lv, fr, hg, f⟩ := facts_f (T := T) (K := K) (P := P) (A := A) (B := B) (V := V) (S := S) (l := l) (L := 0) a2
  obtain ⟨p, hp, p0, p1⟩ := mod_f a3 256 (by decide) (by decide)
  have n9 : l.length ≤ 9 := by split at hn <;> omega
  obtain ⟨d, d9, hd⟩ := free_place l n9 p
  have hS12 : S = 1 ∨ S = 2 := by rw [hS]; split <;> omega
  have hS2 : S ≤ 2 := by omega
  refine ⟨100, ?_⟩
  suffices hx : ∃ x : S55, (tableL K S l acc wr room lv fr).find? (fun y => y.f0) = some x ∧ ∀ q, 0 ≤ q ∧ q < 256 → q ∉ l → ∀ k, 60 ≤ k → headgatelaw35_FaultLowers.l0 k x.f1 0 x.f2 q T K P A B V S l 0 acc wr room lv fr T K P A B V S l 0 = some true by
    obtain ⟨x, hx, hb⟩ := hx
    unfold headgatelaw35_FaultLowers.f
    rw [hf 100 (by omega), Option.bind_some]
    dsimp only
    rw [hg, Option.bind_some]
    dsimp only
    rw [next_f v f 100 (by omega) hx, Option.bind_some, needs_f v f 100 (by omega) hx, Option.bind_some]
    dsimp only
    rw [if_pos rfl, headgatelaw35_FaultLowers.j0, if_neg (by decide), hp, Option.bind_some]
    exact lowers_loop v n9 hb d p 99 ⟨p0, p1⟩ hd (by omega)
  clear hf hg hp hd
  have fa := f.a
  by_cases ha : K = 4 ∨ K = 5
  · rw [if_pos ha] at fa
    have n1 : l.length ≤ 1 := by rw [if_neg (by omega)] at hn; exact hn
    have hm : l.length = 0 → (l.length : Int) < (if K = 6 then 9 else 1) := fun h => by rw [if_neg (by omega)]; omega
    have row := fun (S' : Int) (hS' : S' = 1 ∨ S' = 2 ∨ S' = 3 ∨ S' = 4) (l' : List Int) (acc' : Int) (h' : 1 ≤ acc' ∧ acc' < 9) => find_acc (K := K) (S := S') (acc := acc') (lv := lv) (l := l') (wr := wr) (room := room) (fr := fr) ha hS' h'
    have rS := row S (by omega) l acc fa
    have len1 : ∀ q, (((l ++ [q]).length : Nat) : Int) = (l.length : Int) + 1 := fun q => by simp
    have r5 : ∀ (S' n : Int), S' = 1 ∨ S' = 2 → acc = 5 → accRow S' n acc wr room = if n = 0 then ⟨true, 3, 3⟩ else ⟨true, 3, 2⟩ := by
      intro S' n h c
      unfold accRow; rw [if_neg (by omega), if_neg (by omega), if_neg (by omega), if_pos c]
    have r6 : ∀ (S' n acc : Int), S' = 1 ∨ S' = 2 → acc = 6 ∨ acc = 7 → accRow S' n acc wr room = if n = 0 then ⟨true, 4, 2⟩ else ⟨true, 1, 1⟩ := by
      intro S' n acc h c
      unfold accRow; rw [if_neg (by omega), if_neg (by omega), if_neg (by omega), if_neg (by omega), if_pos c]
    refine ⟨_, rS, ?_⟩
    intro q hq hnq k hk
    have hc : acc = 1 ∨ (acc = 2 ∨ acc = 3 ∨ acc = 4) ∨ acc = 5 ∨ (acc = 6 ∨ acc = 7) ∨ acc = 8 := by omega
    rcases hc with c | c | c | c | c
    · refine body_awake v n9 (Or.inr (Or.inl ?_)) hnq k hk
      unfold accRow; rw [if_neg (by omega), if_pos c]
    · refine body_awake v n9 (Or.inl ?_) hnq k hk
      unfold accRow; rw [if_neg (by omega), if_neg (by omega), if_pos c]
    · have f6 : Facts K 6 lv := ⟨by rw [if_pos ha]; decide, f.l0, f.l1⟩
      refine body_fill v f6 n9 ?_ c hnq (row S (by omega) l 6 (by decide)) ?_ k hk
      · rw [r5 S _ hS12 c]; split <;> rfl
      · rw [r5 S _ hS12 c, r6 S _ 6 hS12 (Or.inl rfl)]; split <;> (dsimp only; rw [IntWalk.wrap64_in _ (by decide)]; decide)
    · by_cases h0 : l.length = 0
      · refine body_give v hS2 f n9 (Or.inl ?_) (hm h0) hq hnq (row 2 (by omega) (l ++ [q]) acc fa) ?_ k hk
        · rw [r6 S _ acc hS12 c, if_pos (by omega)]
        · rw [len1, r6 S _ acc hS12 c, r6 2 _ acc (Or.inr rfl) c, if_neg (by omega), if_pos (by omega)]; (dsimp only; rw [IntWalk.wrap64_in _ (by decide)]; decide)
      · refine body_awake v n9 (Or.inl ?_) hnq k hk
        rw [r6 S _ acc hS12 c, if_neg (by omega)]
    · have e8 : ∀ (S' n : Int), S' = 1 ∨ S' = 2 → accRow S' n acc wr room = if wr = true then ⟨true, 5, 2⟩ else if n = 0 then ⟨true, 4, 3⟩ else if room = true then ⟨true, 6, 2⟩ else ⟨true, 7, 2⟩ := by
        intro S' n h
        unfold accRow; rw [if_neg (by omega), if_neg (by omega), if_neg (by omega), if_neg (by omega), if_neg (by omega)]
      have e7 : ∀ (S' n : Int), S' = 3 ∨ S' = 4 → accRow S' n acc wr room = ⟨true, 7, 1⟩ := by
        intro S' n h
        unfold accRow; rw [if_pos h]
      rw [e8 S _ hS12]
      by_cases hw : wr = true
      · rw [if_pos hw]
        refine body_claim v hS2 ha f n1 rfl hq hnq (row 3 (by omega) l acc fa) ?_ k hk
        rw [e7 3 _ (Or.inl rfl)]; (dsimp only; rw [IntWalk.wrap64_in _ (by decide)]; decide)
      · rw [if_neg hw]
        by_cases h0 : l.length = 0
        · rw [if_pos (by omega)]
          refine body_give v hS2 f n9 (Or.inl rfl) (hm h0) hq hnq (row 2 (by omega) (l ++ [q]) acc fa) ?_ k hk
          rw [len1, e8 2 _ (Or.inr rfl), if_neg hw, if_neg (by omega)]
          split <;> (dsimp only; rw [IntWalk.wrap64_in _ (by decide)]; decide)
        · rw [if_neg (by omega)]
          by_cases hr : room = true
          · rw [if_pos hr]
            refine body_read v (by rw [hS, if_neg h0]) ha f (by omega) rfl hq hnq (row 4 (by omega) l acc fa) ?_ k hk
            rw [e7 4 _ (Or.inr rfl)]; (dsimp only; rw [IntWalk.wrap64_in _ (by decide)]; decide)
          · rw [if_neg hr]
            exact body_awake v n9 (Or.inr (Or.inr rfl)) hnq k hk
  · rw [if_neg ha] at fa
    have hK2 : K = 6 ∨ K = 1 := by omega
    rcases hK2 with rfl | rfl
    · have hl : (l.length : Int) ≤ 9 := by omega
      refine ⟨_, find_fork f.l0 f.l1 v.len, ?_⟩
      intro q hq hnq k hk
      have l1 := f.l1
      have len1 : (((l ++ [q]).length : Nat) : Int) = (l.length : Int) + 1 := by simp
      unfold forkRow
      by_cases hfr : fr = false
      · rw [if_pos hfr]
        exact body_awake v n9 (Or.inr (Or.inl rfl)) hnq k hk
      · rw [if_neg hfr]
        by_cases hk0 : 0 < lv + 1 - (l.length : Int)
        · rw [if_pos hk0]
          refine body_give v hS2 f n9 (Or.inr ⟨rfl, by omega⟩) (by rw [if_pos rfl]; omega) hq hnq (find_fork f.l0 f.l1 (by rw [List.length_append, List.length_singleton]; omega)) ?_ k hk
          unfold forkRow
          rw [if_neg hfr, len1, IntWalk.wrap64_in _ (by dsimp only; omega)]
          split <;> dsimp only <;> omega
        · rw [if_neg hk0]
          exact body_awake v n9 (Or.inl rfl) hnq k hk
    · refine ⟨_, find_spawn, ?_⟩
      intro q hq hnq k hk
      by_cases h0 : l.length = 0
      · rw [if_pos h0]
        refine body_give v hS2 f n9 (Or.inr ⟨rfl, by omega⟩) (by rw [if_neg (by decide)]; omega) hq hnq find_spawn ?_ k hk
        rw [if_neg (by rw [List.length_append, List.length_singleton]; omega)]; (dsimp only; rw [IntWalk.wrap64_in _ (by decide)]; decide)
      · rw [if_neg h0]
        exact body_awake v n9 (Or.inl rfl) hnq k hk
end Go.Proofs.Ytigpacfcklcmpaa.Pure
