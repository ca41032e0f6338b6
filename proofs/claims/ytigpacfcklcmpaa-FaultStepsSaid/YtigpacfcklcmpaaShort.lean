/- Short names for facts on blocks, for what a struct's store leaves, and for an empty request's cells. -/
import Derived.Test.YtigpacfcklcmpaaBlocks
namespace Go.Proofs.Ytigpacfcklcmpaa.X
open Go.RowKit Go.Proofs.YtigpacfcklcmpaaW.PrintWords Go.Proofs.YtigpacfcklcmpaaW.PrintLast Go.Proofs.YtigpacfcklcmpaaW.PrintMore
theorem bA {w : World} {g : Nat} {o : Obj} (h : w.heap[g]? = some o) (o' : Obj) : (w.alloc o').heap[g]? = some o := blk_alloc h o'
theorem bD {w : World} {g : Nat} {o : Obj} (h : w.heap[g]? = some o) : w.drew.heap[g]? = some o := h
theorem bN {w : World} {g : Nat} {o : Obj} (h : w.heap[g]? = some o) (n : Nat) : (w.drewN n).heap[g]? = some o := h
theorem pk {w W : World} {g : Nat} {o : Obj} (h : w.heap[g]? = some o) (k : w.heap[g]? = some o → W.heap[g]? = some o := by intro h_; (with_reducible repeat (first | apply bN | apply bD | apply bA)); exact h_) : W.heap[g]? = some o := k h
theorem pb {B : Nat} {u w W : World} (h : Below B u w) (k : Below B u w → Below B u W := by intro h_; repeat (first | (with_reducible first | exact h_ | apply below_alloc | apply pw_below_drewN | apply below_drew1 | refine below_set ?_ (Aside0.out (by assumption))) | exact h_)) : Below B u W := k h
theorem pr {α : Type} {d : Kd α} {e B : Nat} {ok : Nat → Prop} {w W : World} {v : Value} {xs : List α} (h : d.R e w B ok v xs) (k : d.R e w B ok v xs → d.R e W B ok v xs := by intro h_; (with_reducible repeat (first | apply Kd.R_alloc | apply Kd.R_drewN | apply Kd.R_drew)); exact h_) : d.R e W B ok v xs := k h
theorem am {p : Prop} (h : p) : Aside0 p := ⟨h⟩
abbrev zR : Array Value := #[.int .u64 0, .int .i64 0, .int .i64 0, .int .i64 0, .int .i64 0, .int .u64 0, .int .i64 0, .slice none 0 0, .int .i64 0]
theorem R_store {α : Type} {d : Kd α} {e base : Nat} {ok : Nat → Prop} {W w1 : World} {v : Value} {xs : List α} {g t : Nat} {cells : Array Value} (h : d.R e W base ok v xs) (hb : W.heap[g]? = some (.cells cells t (0, 0))) (ht : ∀ q, q ∈ e :: d.E → q ≠ t) (hg : W.grownBy w1 (some g)) : d.R e w1 base ok v xs :=
  Kd.R_mono (Kd.R_grown (Kd.R_types h hb ht) hg (fun _ hk e_ => hk.2 (Option.some.inj e_))) (fun _ hk => hk.1)
theorem blk_store {W w1 : World} {g g' : Nat} {o : Obj} (h : W.heap[g]? = some o) (hne : g ≠ g') (hg : W.grownBy w1 (some g')) : w1.heap[g]? = some o := blk_grown h hg (fun e => hne (Option.some.inj e))
theorem below_store {w W w1 : World} {g : Nat} (h : Below w.heap.size w W) (hG : w.heap.size ≤ g) (hg : W.grownBy w1 (some g)) : Below w.heap.size w w1 := pw_below_grown h (some g) h.size hg (fun _ e => Option.some.inj e ▸ hG)
end Go.Proofs.Ytigpacfcklcmpaa.X
