/- What Check, Claim and Lose tell of valid requests. -/
import Derived.Test.YtigpacfcklcmpaaMade
import Derived.Test.YtigpacfcklcmpaaXx0
import Derived.Test.YtigpacfcklcmpaaXx6
import Derived.Test.YtigpacfcklcmpaaClone
namespace Go.Proofs.Ytigpacfcklcmpaa.Pure
open Go.RowKit Go.Proofs.Ytigpacfcklcmpaa.X Go.Proofs.YtigpacfcklcmpaaW.PrintWords Go.Proofs.YtigpacfcklcmpaaW.PrintLast
/-- A request that is valid. -/
structure Valid (T K P A B V S : Int) (l : List Int) (L : Int) : Prop where
  t0 : 1 ≤ T
  t1 : T ≤ 1099511627776
  c : cmdE K P A B V = 0
  s0 : 1 ≤ S
  s1 : S < 5
  a : S ≤ 2 ∨ K = 4 ∨ K = 5
  len : l.length < 1000
  nd : l.Nodup
  ins : ∀ x ∈ l, 0 ≤ x ∧ x < 256
  h : okH K S l L
theorem command_f {K P A B V : Int} (h : cmdE K P A B V = 0) : fault_command.f K P A B V = some 0 := by
  unfold fault_command.f
  rw [h]
theorem check_ok {T K P A B V S : Int} {l : List Int} {L : Int} (v : Valid T K P A B V S l L) (k : Nat) (hk : 2 * l.length + 7 ≤ k) : fault_Check.f k T K P A B V S l L = some 0 := by
  obtain ⟨k, rfl⟩ : ∃ n, k = n + 1 := ⟨k - 1, by omega⟩
  have hH := held_ok T K P A B V S l L v.len v.nd v.ins v.h k (by omega)
  have i := in_f S 1 5 ⟨v.s0, v.s1⟩
  unfold fault_Check.f
  have t0 := v.t0
  have t1 := v.t1
  rw [if_neg (by omega), decide_eq_false (by omega), fault_Check.j0, if_neg (by decide), command_f v.c, Option.bind_some, if_pos rfl, i, Option.bind_some, if_pos rfl]
  by_cases hs : S > 2
  · rw [if_pos hs, access_f, Option.bind_some, if_pos (decide_eq_true (by have := v.a; omega)), hH]; rfl
  · rw [if_neg hs, hH]; rfl
end Go.Proofs.Ytigpacfcklcmpaa.Pure
