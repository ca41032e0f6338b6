/- Steps for fault.rows' one region: a call of a function value, slices that are written out; its table. -/
import Derived.Test.YtigpacfcklcmpaaTable
namespace Go.Proofs.Ytigpacfcklcmpaa.X
open Go.RowKit Go.Proofs.YtigpacfcklcmpaaW.PrintWords Go.Proofs.YtigpacfcklcmpaaW.PrintLast Go.Proofs.YtigpacfcklcmpaaW.PrintMore
theorem goesC_ {P : Program} {ops : Array Oper} {Q : Exit → Act → World → Prop} {oi : Oper} {N : Option Tmp} {a : Act} {w : World} {K : Act → World → Prop} {f : FuncId} {fn : Func} {x : Operand} {xs : Array Operand} {ts : Array TypeId} {lb : Array Value} (hf : P.funcs[f]? = some fn) (hname : (fn.name == "runtime.NumGoroutine") = false) (hb : fn.body.isSome = true) (args : Array Value)
    (hw : Region.wanted oi (yielded ops a.tmps) = true) (hN : oi.dst = N) (hop : oi.op = .call { callee := .value x, args := xs, argTypes := ts }) (hx : a.eval x = .func (.func f) #[] lb) (hargs : xs.map a.eval ++ lb = args)
    (h : Calls P f args w fun e w' => ∃ v, e = .returned v ∧ K (a.put N v) w') : if Region.wanted oi (yielded ops a.tmps) = true then Oper.wp P oi a w K Q else K (a.put N undef) w := by
  refine call_ f args hw hN ?_ h
  have he := enters_ hf hname hb args w
  unfold execOp
  simp [hop, resolve, Deferred.ofValue, invoke, hx, hargs, he]
theorem lit53v (a0 a1 a2 a3 a4 a5 a6 : Int) (A7 : Option Addr) (c7 : Nat) (l7 : List Int) (a8 : Int) (f0 : Int) (v : Value) (l : List Int) (g1 g2 : Nat) (w : World) (base : Nat) (ok : Nat → Prop)
    (h1 : w.heap[g1]? = some (.cells #[.int .u64 a0, .int .i64 a1, .int .i64 a2, .int .i64 a3, .int .i64 a4, .int .u64 a5, .int .i64 a6, .slice A7 l7.length c7, .int .i64 a8] 52 (0, 0)))
    (h2 : w.cell? ⟨g2, 0, none⟩ = some (.int .i64 f0)) (hl2 : g2 < w.heap.size) (hr7 : Kd.C (Kd.int .i64) w A7 l7.length l7) (hc7 : l7.length ≤ c7) (hR : Kd.R (Kd.int .i64) 3 w base ok v l) (hl : l.length < 1000000) :
    Calls Try.prog 53 #[v, .pointer (some ⟨g1, 0, none⟩), .pointer (some ⟨g2, 0, none⟩)] w fun e w' => e = .returned (.bool (fdB a1 f0 l)) ∧ Below w.heap.size w w' := by
  obtain ⟨A, c, rfl, hc, hC⟩ := Kd.R_reads hR
  exact lit53 a0 a1 a2 a3 a4 a5 a6 A7 c7 l7 a8 f0 A c l g1 g2 w h1 h2 hl2 hr7 hc7 hC hc hl
theorem repsI {W : World} {base : Nat} {ok : Nat → Prop} (l : List Int) : Reps ((Kd.int .i64).M W base ok) (Kd.int .i64).sz l (l.map (Value.int .i64)) := by
  refine ⟨by simp [Kd.int, Kd.scalar], fun j p hj => ?_⟩
  show ((l.map (Value.int .i64)).drop (j * 1)).take 1 = [Value.int .i64 p]
  obtain ⟨hlt, rfl⟩ := List.getElem?_eq_some_iff.1 hj
  rw [Nat.mul_one, List.drop_eq_getElem_cons (by rw [List.length_map]; exact hlt)]
  simp
/-- A guarded operation's value. -/
def gd (g : Bool) (v : Value) : Value := if g = true then v else undef
theorem gd_t (v : Value) : gd true v = v := rfl
theorem gd_f (v : Value) : gd false v = undef := rfl
def cs55 (x : S55) : List Value := [.bool x.f0, .int .i64 x.f1, .int .i64 x.f2]
theorem reps55 {W : World} {base : Nat} {ok : Nat → Prop} (l : List S55) : Reps (k55.M W base ok) k55.sz l (l.flatMap cs55) := by
  have h : ∀ l : List S55, (l.flatMap cs55).length = l.length * 3 ∧ ∀ (j : Nat) (p : S55), l[j]? = some p → ((l.flatMap cs55).drop (j * 3)).take 3 = cs55 p := by
    intro l
    induction l with
    | nil => exact ⟨rfl, fun j p h => by simp at h⟩
    | cons x l ih =>
      refine ⟨by rw [List.flatMap_cons, List.length_append, ih.1, List.length_cons]; show 3 + _ = _; omega, fun j p hj => ?_⟩
      rw [List.flatMap_cons]
      cases j with
      | zero =>
        simp at hj
        subst hj
        rfl
      | succ j =>
        have := ih.2 j p (by simpa using hj)
        rw [show (j + 1) * 3 = 3 + j * 3 by omega, ← List.drop_drop]
        exact this
  refine ⟨(h l).1, fun j p hj => ?_⟩
  have := (h l).2 j p hj
  show k55.M W base ok p (((l.flatMap cs55).drop (j * 3)).take 3)
  rw [this]
  exact k55_mkM W base ok p
def rowsT : Bool × List (List Nat × List Nat) := (true, [([], []), ([0], [0]), ([1], [1]), ([2], [2]), ([3, 2], [2, 3]), ([2, 4], [2, 4]), ([5], [5]), ([], []), ([7], [7]), ([8], [8]), ([], []), ([10], [10]), ([11, 2], [11]), ([12], [12]), ([13, 12], [12, 13]), ([14, 12], [12, 14]), ([12, 15], [12, 15]), ([16], [16]), ([], []), ([18], [18]), ([19, 12], [19]), ([20], [20]), ([21, 20], [20, 21]), ([20, 22], [20, 22]), ([], []), ([24], [24]), ([23, 25], [23, 25]), ([], []), ([27], [27]), ([28], [28]), ([], []), ([30], [30]), ([31], [31]), ([32, 20], [32]), ([33], [33]), ([34, 33], [33, 34]), ([35, 33], [33, 35]), ([33, 36], [33, 36]), ([37], [37]), ([], []), ([], []), ([39, 40, 33], [39, 40]), ([41], [41]), ([], []), ([], []), ([43, 44, 41], [43, 44]), ([45], [45]), ([], []), ([], []), ([47, 48, 45], [47, 48]), ([49, 49], [49]), ([50], [50]), ([51, 50], [50, 51]), ([50, 52], [50, 52]), ([53], [53]), ([], []), ([], []), ([55, 56, 50], [55, 56]), ([57], [57]), ([], []), ([], []), ([59, 60, 57], [59, 60]), ([61, 61], [61]), ([62], [62]), ([63, 62], [62, 63]), ([62, 64], [62, 64]), ([65], [65]), ([], []), ([], []), ([67, 68, 62], [67, 68]), ([69], [69]), ([], []), ([], []), ([71, 72, 69], [71, 72]), ([73, 73], [73]), ([74], [74]), ([75, 74], [74, 75]), ([74, 76], [74, 76]), ([77], [77]), ([], []), ([], []), ([79, 80, 74], [79, 80]), ([81, 81], [81]), ([82], [82]), ([83, 82], [82, 83]), ([82, 84], [82, 84]), ([85], [85]), ([], []), ([], []), ([87, 88, 82], [87, 88]), ([], []), ([89, 90], [89, 90]), ([6, 9, 17, 26, 29, 38, 42, 46, 54, 58, 66, 70, 78, 86, 91], [6, 9, 17, 26, 29, 38, 42, 46, 54, 58, 66, 70, 78, 86, 91]), ([92, 89, 0, 1, 2, 3, 4, 5, 6, 7, 8, 9, 10, 11, 12, 13, 14, 15, 16, 17, 18, 19, 20, 21, 22, 23, 24, 25, 26, 27, 28, 29, 30, 31, 32, 33, 34, 35, 36, 37, 38, 39, 40, 41, 42, 43, 44, 45, 46, 47, 48, 49, 50, 51, 52, 53, 54, 55, 56, 57, 58, 59, 60, 61, 62, 63, 64, 65, 66, 67, 68, 69, 70, 71, 72, 73, 74, 75, 76, 77, 78, 79, 80, 81, 82, 83, 84, 85, 86, 87, 88, 89, 90, 91, 92], [92])])
def rowsB : List Nat := [0, 1, 3, 7, 15, 31, 63, 0, 128, 384, 0, 1024, 3079, 7175, 15367, 31751, 64519, 130055, 0, 262144, 793607, 1842183, 3939335, 8133639, 0, 16777216, 66853895, 0, 134217728, 402653184, 0, 1073741824, 3221225472, 7518034951, 16107969543, 33287838727, 67647577095, 136367053831, 273806007303, 0, 0, 1665375411207, 3864398666759, 0, 0, 30252677733383, 65437049822215, 0, 0, 487649514888199, 1050599468309511, 2176499375152135, 4428299188837383, 8931898816207879, 17939098070948871, 0, 0, 110262890432044039, 254378078507899911, 0, 0, 1983760335418170375, 4289603344631864327, 8901289363059252231, 18124661399914028039, 36571405473623579655, 73464893621042682887, 0, 0, 451623147132088491015, 1041918957490794142727, 0, 0, 8125468681795261963271, 17570201647534552390663, 36459667579013133245447, 74238599441970294955015, 149796463167884618374151, 300912190619713265212423, 0, 0, 1849848397000956895304711, 4267700036230215244717063, 9103403314688731943541767, 18774809871605765341191175, 38117622985439832136489991, 76803249213107965727087623, 0, 0, 473330918046706335030713351, 0, 2330240976974776747379399687, 4951760157141521099596496895, 9903520314283042199192993791]
theorem rows_tab : rtab .any (opsOf Try.f47 7) = rowsT := by kernel_rfl
theorem rows_bits : waitsOk rowsT.2 rowsB = true := by kernel_rfl
end Go.Proofs.Ytigpacfcklcmpaa.X
