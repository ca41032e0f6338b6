/- Events on whole blocks: a struct is stored, or loaded, as one step; what else is there stays. -/
import Derived.Test.YtigpacfcklcmpaaXx0
namespace Go.Proofs.Ytigpacfcklcmpaa.X
open Go.RowKit Go.Proofs.YtigpacfcklcmpaaW.PrintWords Go.Proofs.YtigpacfcklcmpaaW.PrintLast Go.Proofs.YtigpacfcklcmpaaW.PrintMore
section
variable {P : Program} {ops : Array Oper} {rest : List Oper} {o : Oper} {a : Act} {Q : Exit → Act → World → Prop}
theorem store_whole {W : World} (hgd : o.guard = none) (hN : o.dst = none) {t : TypeId} {p x : Operand} (ho : o.op = .store t p x) {g off : Nat} {e : TypeId} {cur : Array Value} (hh : W.heap[g]? = some (.cells cur e (0, 0))) (new : Array Value) {u : Value} {seg : List Value}
    (hp : a.eval p = .pointer (some ⟨g, off, none⟩)) (hx : a.eval x = u) (hu : u.cells.toList = seg) (ht : (P.info? t).map (·.size) = some seg.length)
    (hfit : Nat.ble (off + seg.length) cur.size = true) (h1 : seg.all (fun q => q.oneCell') = true) (hnew : cur.toList.take off ++ seg ++ cur.toList.drop (off + seg.length) = new.toList)
    (h : ∀ w', w'.heap[g]? = some (.cells new e (0, 0)) → W.grownBy w' (some g) → wpList P ops Q rest a w') : wpList P ops Q (o :: rest) a W := by
  refine wpList_plain hgd fun K hK => ?_
  have hrun := run_store_run (P := P) (w := W) t u seg hh hu ht (Nat.le_of_ble_eq_true hfit) (List.all_eq_true.mp h1)
  unfold Oper.wp execOp
  simp only [ho, hp, hx, Sem.run_bind, Sem.run_pure, Result.andThen_ok, hrun]
  show K (a.put o.dst undef) _
  rw [hN]
  obtain ⟨cur', h3, h4, h5⟩ := setCells_row seg off W cur hh (Nat.le_of_ble_eq_true hfit)
  obtain ⟨s1, s2, s3, s4⟩ := setCells_same g seg off W
  have he : cur' = new := Array.ext' (h5.trans hnew)
  subst he
  exact hK a _ (h _ h3 ⟨s1, s2, s3, by rw [s4]; exact Nat.le_refl _, fun k _ hk => setCells_far seg _ k (fun e => hk (by rw [e]))⟩)
theorem load_whole {W : World} (hgd : o.guard = none) {N : Tmp} (_hN : o.dst = some N) {t : TypeId} {p : Operand} (ho : o.op = .load t p) {g : Nat} {e : TypeId} {cs : Array Value} (hh : W.heap[g]? = some (.cells cs e (0, 0)))
    (hp : a.eval p = .pointer (some ⟨g, 0, none⟩)) (d : TypeDesc) (hu : P.underlying t = some d) (hd : (match d with | .struct _ | .array _ _ => true | _ => false) = true) (hi : (P.info? t).map (·.size) = some cs.size)
    (h : wpList P ops Q rest (a.put o.dst (.agg cs)) W) : wpList P ops Q (o :: rest) a W := by
  refine wpList_plain hgd fun K hK => ?_
  have hrun : (Instr.loadAt t (.pointer (some ⟨g, 0, none⟩))).run P W = .ok (.agg cs) W := by
    simp [Instr.loadAt, Instr.sureAddr, run_loadVar_row W g e t cs (0, 0) d hh hu hd hi]
  unfold Oper.wp execOp
  simp only [ho, hp, Sem.run_bind, Sem.run_pure, Result.andThen_ok, hrun]
  exact hK _ _ h
end
end Go.Proofs.Ytigpacfcklcmpaa.X
