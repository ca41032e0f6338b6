/- An argument that is a slice of structs, read as a list. -/
import Derived.Deep.Slices
import Derived.Deep.Fields
import Derived.ChangeSame
import Derived.OpenShut
import Derived.Test.YtmemdggofphcnaaXx0
namespace Go.Proofs.Ytmemdggofphcnaa.X
open Go.RowKit Go.ChangeShapes Go.WideShapes Go.Deep Go.Proofs.YtmemdggofphcnaaW.PrintWords
section
variable {H : Type} {enc : TypeId × Value → H} {P : Program} {w : World} {base : Nat} {spare : Nat → Bool} {held : Bool}
theorem open_slice_fields {t e : TypeId} {fs : Array Field} {fuel : Nat} {cs : List Value} {x : DataW H × List MemPlace} (ht : P.underlying t = some (.slice e)) (he : P.underlying e = some (.struct fs))
    (hone : oneCellFields P fs = true) (hC : P.cellsOf e = fs.size) (h : DataW.trod enc P w base spare held fuel t cs = some x) :
    (cs = [.slice none 0 0] ∧ x = (.nil, [])) ∨
    ∃ (a : Addr) (len cap m : Nat) (D : Nat → DataW H) (Pl : Nat → List MemPlace), cs = [.slice (some a) len cap] ∧ base ≤ a.block ∧ len ≤ cap ∧ cap ≤ maxLen ∧ m = (if spare a.block then cap else len) ∧
      x = (.slice ((List.range len).map D) ((List.range (m - len)).map fun j => D (len + j)), MemPlace.row a (m * fs.size) ++ (List.range m).flatMap Pl) ∧
      ∀ i, i < m → ∃ (ys : List (DataW H × List MemPlace)) (n : Nat), D i = .agg (ys.map (·.1)) ∧ Pl i = ys.flatMap (·.2) ∧ ys.length = fs.size ∧
        ∀ (j : Nat) (f : Field), fs[j]? = some f → ∃ (v : Value) (y : DataW H × List MemPlace), w.cell? (a.add (i * fs.size + j)) = some v ∧ ys[j]? = some y ∧ DataW.trod enc P w base spare held n f.type [v] = some y := by
  rcases open_slice ht h with h0 | ⟨a, len, cap, m, n, D, Pl, hcs, hb, hl, hm, hmm, hx, hi⟩
  · exact .inl h0
  · refine .inr ⟨a, len, cap, m, D, Pl, hcs, hb, hl, hm, hmm, by rw [hC] at hx; exact hx, fun i him => ?_⟩
    obtain ⟨cs', hc, ht'⟩ := hi i him
    rw [hC] at hc
    obtain ⟨ys, n', hn', hy, hlen, hyl, hf⟩ := DataW.trod_struct he ht'
    obtain ⟨_, hcl, hat⟩ := World.cells?_some hc
    simp only [Prod.mk.injEq] at hy
    refine ⟨ys, n', hy.1, hy.2, hyl, fun j f hj => ?_⟩
    obtain ⟨ho, hk⟩ := hone_of hone j f hj
    have hjl : j < fs.size := (Array.getElem?_eq_some_iff.1 hj).1
    have hcell := hat j hjl
    have hv : cs'[j]? = some (cs'[j]'(by omega)) := List.getElem?_eq_getElem (by omega)
    have h1 := hf j f hj
    rw [ho, hk] at h1
    have hone' : (cs'.drop j).take 1 = [cs'[j]'(by omega)] := by
      rw [List.drop_eq_getElem_cons (by omega)]
      rfl
    rw [hone'] at h1
    have hys : ys[j]? = some (ys[j]'(by omega)) := List.getElem?_eq_getElem (by omega)
    refine ⟨_, _, ?_, hys, h1.trans hys⟩
    rw [← Go.Deep.add_add, hcell, hv]
end
/-- A list of changes in memory. -/
theorem C42_of {W : World} {ad : Addr} {len : Nat} (hl : len ≤ 9223372036854775807) (h : ∀ i, i < len → ∃ x y : Int, W.cell? (ad.add (i * 2)) = some (.int .i64 x) ∧ W.cell? (ad.add (i * 2 + 1)) = some (.int .i64 y)) :
    ∃ xs : List S42, xs.length = len ∧ Kd.C k42 W (some ad) len xs := by
  have hc : ∃ f : Nat → S42, ∀ i, i < len → W.cell? (ad.add (i * 2)) = some (.int .i64 (f i).f0) ∧ W.cell? (ad.add (i * 2 + 1)) = some (.int .i64 (f i).f1) := by
    refine ⟨fun i => if hi : i < len then ⟨Classical.choose (h i hi), Classical.choose (Classical.choose_spec (h i hi))⟩ else ⟨0, 0⟩, fun i hi => ?_⟩
    simp only [hi, dif_pos]
    exact Classical.choose_spec (Classical.choose_spec (h i hi))
  obtain ⟨f, hf⟩ := hc
  refine ⟨(List.range len).map f, by simp, by simp, hl, fun _ => ⟨ad, rfl, fun j p hj => ?_⟩⟩
  have hj2 : j < len := by
    have := (List.getElem?_eq_some_iff.1 hj).1
    simpa using this
  have hp : p = f j := by
    rw [List.getElem?_map, List.getElem?_range hj2] at hj
    simpa using hj.symm
  subst hp
  obtain ⟨h0, h1⟩ := hf j hj2
  refine ⟨[.int .i64 (f j).f0, .int .i64 (f j).f1], rfl, k42_mk W (f j), fun i u hu => ?_⟩
  match i, hu with
  | 0, hu => simp at hu; subst hu; exact h0
  | 1, hu => simp at hu; subst hu; exact h1
  | i + 2, hu => simp at hu
/-- A slice of changes that came in. -/
theorem open_changes {H : Type} {enc : TypeId × Value → H} {W : World} {base : Nat} {spare : Nat → Bool} {held : Bool} {fuel : Nat} {A : Option Addr} {len cap : Nat} {x : DataW H × List MemPlace}
    (h : DataW.trod enc Try.prog W base spare held fuel 45 [.slice A len cap] = some x) : ∃ xs : List S42, xs.length = len ∧ len ≤ cap ∧ Kd.C k42 W A len xs := by
  rcases open_slice_fields Try.underlying45 Try.underlying42 (by kernel_rfl) (by kernel_rfl) h with ⟨hcs, _⟩ | ⟨a, l, c, m, D, Pl, hcs, _, hl, hm, hmm, _, hi⟩
  · simp only [List.cons.injEq, Value.slice.injEq, and_true] at hcs
    obtain ⟨rfl, rfl, rfl⟩ := hcs
    exact ⟨[], rfl, Nat.le_refl _, rfl, by omega, fun h => absurd h (Nat.lt_irrefl 0)⟩
  · simp only [List.cons.injEq, Value.slice.injEq, and_true] at hcs
    obtain ⟨rfl, rfl, rfl⟩ := hcs
    have hlm : len ≤ m := by
      rw [hmm]
      split <;> omega
    obtain ⟨xs, hx, hC⟩ := C42_of (W := W) (ad := a) (len := len) (by unfold maxLen at hm; omega) (fun i hilt => by
      obtain ⟨ys, n, _, _, _, hf⟩ := hi i (by omega)
      obtain ⟨v0, y0, hc0, _, ht0⟩ := hf 0 _ rfl
      obtain ⟨v1, y1, hc1, _, ht1⟩ := hf 1 _ rfl
      obtain ⟨n0, e0, _, _⟩ := DataW.trod_int (k := .i64) (by kernel_rfl) ht0
      obtain ⟨n1, e1, _, _⟩ := DataW.trod_int (k := .i64) (by kernel_rfl) ht1
      simp only [List.cons.injEq, and_true] at e0 e1
      subst e0
      subst e1
      exact ⟨n0, n1, hc0, hc1⟩)
    exact ⟨xs, hx, hl, hC⟩
end Go.Proofs.Ytmemdggofphcnaa.X
