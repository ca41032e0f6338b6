/- RoleBack: the text of a list of roles is read back as that list. -/
import Derived.Test.YtmemdggofphcnaaBase
namespace Go.Proofs.Ytmemdggofphcnaa.Pure
open Go.RowKit Go.Proofs.Ytmemdggofphcnaa.X Go.Proofs.YtmemdggofphcnaaW.PrintWords Go.Proofs.YtmemdggofphcnaaW.PrintLast
theorem letter_back (r : Int) (h0 : 0 ≤ r) (h8 : r < 8) : letterIx (letterOf r) = r := by
  have : ∀ n : Fin 8, letterIx (letterOf (n.val : Int)) = (n.val : Int) := by decide +kernel
  obtain ⟨n, rfl⟩ := Int.eq_ofNat_of_zero_le h0
  exact this ⟨n, by omega⟩
theorem parse_text (l : List Int) : ∀ (i : Int) (acc : List Int), (∀ r ∈ l, 0 ≤ r ∧ r < 8) → parseB (l.map letterOf) i acc = (acc ++ l, 0, 0) := by
  induction l with
  | nil => intro i acc _; simp [parseB]
  | cons r l ih =>
    intro i acc h
    have hr := h r (List.mem_cons_self)
    rw [List.map_cons, parseB, letter_back r hr.1 hr.2, if_neg (by omega), ih _ _ (fun x hx => h x (List.mem_cons_of_mem _ hx)), List.append_assoc]
    rfl
theorem RoleBack : headgatelaw16_RoleBack.Pure := by
  intro l _ hl _
  have hg : ∀ r ∈ madeL l, 0 ≤ r ∧ r < 8 := fun r hr => madeL_mem hr
  have hlen := madeL_len l
  have hT : role_Text.f (madeL l) = some (textOf (madeL l), 0) := by
    unfold role_Text.f
    rw [check_ok (by omega) hg]
    rfl
  have hsz : (textOf (madeL l)).size = (madeL l).length := by
    unfold textOf
    simp [ByteArray.size]
  have hP : role_Parse.f (textOf (madeL l)) = some (madeL l, 0, 0) := by
    unfold role_Parse.f
    rw [if_neg (by rw [hsz]; omega)]
    congr 1
    show parseB (((madeL l).map letterOf).toArray.toList) 0 [] = _
    rw [List.toList_toArray, parse_text _ _ _ hg]
    rfl
  refine Ev.rounds (r := true) (Ev.congr (f := fun k => (headgatelaw16_made.f k l).bind fun t195 => ((role_Text.f t195).bind fun bt198 => ((role_Parse.f bt198.1).bind fun bt200 => (if bt198.2 = 0 then (if (bt198.1.size : Int) = (t195.length : Int) then (if (bt200.2.1 == 0 && (bt200.2.2 == 0)) = true then ((headgatekit_SameInts.f k bt200.1 t195).bind fun t206 => (if t206 = true then ((headgatelaw16_awake.f k).bind fun t207 => (some t207)) else (some false))) else (some false)) else (some false)) else (some false))))) (fun k => rfl) (Ev.bind (made_ev l (by omega)) ?_))
  refine Ev.congr (f := fun k => (headgatekit_SameInts.f k (madeL l) (madeL l)).bind fun t206 => (if t206 = true then ((headgatelaw16_awake.f k).bind fun t207 => (some t207)) else (some false))) (fun k => ?_) (Ev.bind (same_ints _ (by omega)) ?_)
  · rw [hT]
    simp only [Option.bind_some]
    rw [hP]
    simp only [Option.bind_some]
    rw [if_pos trivial, if_pos (by rw [hsz]), if_pos (by decide)]
  · refine Ev.congr (f := fun k => (headgatelaw16_awake.f k).bind fun t => some t) (fun k => ?_) (Ev.bind awake_ev (Ev.now _))
    rw [if_pos rfl]
end Go.Proofs.Ytmemdggofphcnaa.Pure
