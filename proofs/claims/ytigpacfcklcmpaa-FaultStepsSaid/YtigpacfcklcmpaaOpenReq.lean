/- A request that came in: its nine cells, and that its frames read as a list. -/
import Derived.Test.YtigpacfcklcmpaaXx0
import Derived.WalkKit
import Derived.ProofKit
import Derived.OpenShut
import Derived.ChangeOld
import Derived.Below
namespace Go.Proofs.Ytigpacfcklcmpaa.X
open Go.ChangeShapes Go.WideShapes Go.ChangeAt Go.RowKit Go.Proofs.YtigpacfcklcmpaaW.PrintWords
theorem array9 {α : Type} {cs : Array α} (h : cs.size = 9) : ∃ c0 c1 c2 c3 c4 c5 c6 c7 c8, cs = #[c0, c1, c2, c3, c4, c5, c6, c7, c8] := by
  obtain ⟨l⟩ := cs
  match l, h with
  | [c0, c1, c2, c3, c4, c5, c6, c7, c8], _ => exact ⟨c0, c1, c2, c3, c4, c5, c6, c7, c8, rfl⟩
theorem open_req {H : Type} {enc : TypeId × Value → H} {W : World} {base : Nat} {held : Bool} {b0 : Nat} {v : Value} {d : DataW H} {p : List MemPlace}
    (hval : Value.okWide Try.prog W .any b0 27 v) (h : DataW.Trod enc Try.prog W base (fun _ => true) held 27 v d p) :
    ∃ (a0 a1 a2 a3 a4 a5 a6 : Int) (A : Option Addr) (c : Nat) (l : List Int) (a8 : Int), v = .agg #[.int .u64 a0, .int .i64 a1, .int .i64 a2, .int .i64 a3, .int .i64 a4, .int .u64 a5, .int .i64 a6, .slice A l.length c, .int .i64 a8] ∧ Kd.C (Kd.int .i64) W A l.length l ∧ l.length ≤ c := by
  have c22 : Try.prog.cellsOf 22 = 1 := by kernel_rfl
  have c24 : Try.prog.cellsOf 24 = 5 := by kernel_rfl
  have c3 : Try.prog.cellsOf 3 = 1 := by kernel_rfl
  have c25 : Try.prog.cellsOf 25 = 1 := by kernel_rfl
  have c27 : Try.prog.cellsOf 27 = 9 := by kernel_rfl
  obtain ⟨cs, rfl, hsz⟩ := okWide_struct Try.underlying27 hval
  obtain ⟨x0, x1, x2, x3, x4, x5, x6, x7, x8, rfl⟩ := array9 (hsz.trans c27)
  obtain ⟨fuel, hf⟩ := h
  obtain ⟨xs, n, _, _, _, hlen, hfi⟩ := DataW.trod_struct Try.underlying27 hf
  have f0 := hfi 0 _ rfl
  have f1 := hfi 1 _ rfl
  have f2 := hfi 2 _ rfl
  have f3 := hfi 3 _ rfl
  have f4 := hfi 4 _ rfl
  clear hfi
  match xs, hlen with
  | [y0, y1, y2, y3, y4], _ =>
    obtain ⟨a0, e0, _, _⟩ := DataW.trod_int Try.underlying22 (show DataW.trod enc Try.prog W base (fun _ => true) held n 22 [x0] = some y0 from f0)
    obtain ⟨a6, e6, _, _⟩ := DataW.trod_int Try.underlying3 (show DataW.trod enc Try.prog W base (fun _ => true) held n 3 [x6] = some y2 from f2)
    obtain ⟨a8, e8, _, _⟩ := DataW.trod_int Try.underlying3 (show DataW.trod enc Try.prog W base (fun _ => true) held n 3 [x8] = some y4 from f4)
    obtain ⟨zs, m, _, _, _, hlen2, hgi⟩ := DataW.trod_struct Try.underlying24 (show DataW.trod enc Try.prog W base (fun _ => true) held n 24 [x1, x2, x3, x4, x5] = some y1 from f1)
    have g0 := hgi 0 _ rfl
    have g1 := hgi 1 _ rfl
    have g2 := hgi 2 _ rfl
    have g3 := hgi 3 _ rfl
    have g4 := hgi 4 _ rfl
    clear hgi
    match zs, hlen2 with
    | [z0, z1, z2, z3, z4], _ =>
      obtain ⟨a1, e1, _, _⟩ := DataW.trod_int Try.underlying3 (show DataW.trod enc Try.prog W base (fun _ => true) held m 3 [x1] = some z0 from g0)
      obtain ⟨a2, e2, _, _⟩ := DataW.trod_int Try.underlying3 (show DataW.trod enc Try.prog W base (fun _ => true) held m 3 [x2] = some z1 from g1)
      obtain ⟨a3, e3, _, _⟩ := DataW.trod_int Try.underlying3 (show DataW.trod enc Try.prog W base (fun _ => true) held m 3 [x3] = some z2 from g2)
      obtain ⟨a4, e4, _, _⟩ := DataW.trod_int Try.underlying3 (show DataW.trod enc Try.prog W base (fun _ => true) held m 3 [x4] = some z3 from g3)
      obtain ⟨a5, e5, _, _⟩ := DataW.trod_int Try.underlying22 (show DataW.trod enc Try.prog W base (fun _ => true) held m 22 [x5] = some z4 from g4)
      have hrow := open_ints Try.underlying25 Try.underlying3 c3 (show DataW.trod enc Try.prog W base (fun _ => true) held n 25 [x7] = some y3 from f3)
      have hz : ∃ (A : Option Addr) (len cap : Nat) (zs : List Int), x7 = .slice A len cap ∧ ((A = none ∧ len = 0 ∧ cap = 0 ∧ zs = []) ∨ ∃ x, A = some x ∧ len ≤ cap ∧ cap ≤ maxLen ∧ zs.length = cap ∧ (∀ i, i < zs.length → W.cell? (x.add i) = some (.int .i64 (zs.getD i 0))) ∧ ∀ n ∈ zs, (Lit.int .i64 n).wf = true) := by
        rcases hrow with ⟨hcs, _⟩ | ⟨x, len, cap, zs, hcs, _, hl, hm, hz, _, hcell, hwz⟩
        · exact ⟨none, 0, 0, [], by simpa using hcs, .inl ⟨rfl, rfl, rfl, rfl⟩⟩
        · exact ⟨some x, len, cap, zs, by simpa using hcs, .inr ⟨x, rfl, hl, hm, by simpa using hz, hcell, hwz⟩⟩
      obtain ⟨A, len, cap, zs, e7, hA⟩ := hz
      obtain ⟨l, rfl, hr, _, _, hc⟩ := ReadsInt.ofRowC hA
      have q0 : x0 = .int .u64 a0 := by simpa using e0
      have q1 : x1 = .int .i64 a1 := by simpa using e1
      have q2 : x2 = .int .i64 a2 := by simpa using e2
      have q3 : x3 = .int .i64 a3 := by simpa using e3
      have q4 : x4 = .int .i64 a4 := by simpa using e4
      have q5 : x5 = .int .u64 a5 := by simpa using e5
      have q6 : x6 = .int .i64 a6 := by simpa using e6
      have q8 : x8 = .int .i64 a8 := by simpa using e8
      exact ⟨a0, a1, a2, a3, a4, a5, a6, A, cap, l, a8, by rw [q0, q1, q2, q3, q4, q5, q6, e7, q8], Kd.C_of_reads (d := (0 : Int)) (h1 := fun _ => rfl) hr, hc⟩
end Go.Proofs.Ytigpacfcklcmpaa.X
