/- RoleParses: role.Parse and the reference's Parse have the same results for any text of at most 300 bytes. -/
import Derived.Test.YtmemdggofphcnaaBase
namespace Go.Proofs.Ytmemdggofphcnaa.Pure
open Go.RowKit Go.Proofs.Ytmemdggofphcnaa.X Go.Proofs.YtmemdggofphcnaaW.PrintWords Go.Proofs.YtmemdggofphcnaaW.PrintLast
/-- What the reference's inner loop has found behind so many letters. -/
def pickTo (c : Int) : Nat → Int
  | 0 => -1
  | j + 1 => if bt (⟨#[46, 80, 83, 84, 77, 87, 82, 79]⟩ : ByteArray) (j : Int) = c then (j : Int) else pickTo c j
theorem pickTo_letter (b : UInt8) : pickTo (b.toNat : Int) 8 = letterIx b := by
  have : ∀ b : UInt8, pickTo (b.toNat : Int) 8 = letterIx b := by
    intro b
    obtain ⟨⟨n⟩⟩ := b
    revert n
    decide +kernel
  exact this b
theorem l1_ev (s : ByteArray) (acc : List Int) (i : Nat) (hi : i < s.size) (res : List Int × Int × Int)
    (hres : Ev (fun k => if pickTo (bt s i) 8 < 0 then some (([] : List Int), 3, (i : Int)) else if acc.length < 17592186044416 then headgateref16_Parse.l0 k s (acc ++ [pickTo (bt s i) 8]) (wrap64 ((i : Int) + 1)) else none) res) (d : Nat) :
    ∀ j : Nat, j + d = 8 → Ev (fun k => headgateref16_Parse.l1 k s acc i (pickTo (bt s i) j) (j : Int)) res := by
  induction d with
  | zero =>
    intro j hj
    obtain rfl : j = 8 := by omega
    refine Ev.step (fun k => ?_) hres
    simp only [headgateref16_Parse.l1]
    rw [if_neg (by omega)]
  | succ d ih =>
    intro j hj
    refine Ev.step (fun k => ?_) (ih (j + 1) (by omega))
    simp only [headgateref16_Parse.l1]
    rw [if_pos (by omega), if_pos (by omega), if_pos (by omega), if_pos (by omega), wsm (by omega) (by omega)]
    rw [show pickTo (bt s i) (j + 1) = if bt (⟨#[46, 80, 83, 84, 77, 87, 82, 79]⟩ : ByteArray) (j : Int) = bt s i then (j : Int) else pickTo (bt s i) j from rfl]
    by_cases h : bt (⟨#[46, 80, 83, 84, 77, 87, 82, 79]⟩ : ByteArray) (j : Int) = bt s i
    · rw [if_pos h, if_pos h]
      rfl
    · rw [if_neg h, if_neg h]
      rfl
theorem bt_byte (s : ByteArray) (i : Nat) (h : i < s.size) : bt s (i : Int) = (s[i].toNat : Int) := by
  have := bt_at s (i : Int) (by simpa using h)
  rw [← this]
  rfl
theorem l0_ev (s : ByteArray) (hs : s.size ≤ 256) (d : Nat) : ∀ (i : Nat) (acc : List Int), i + d = s.size → acc.length = i → Ev (fun k => headgateref16_Parse.l0 k s acc (i : Int)) (parseB (s.data.toList.drop i) i acc) := by
  have hdl : s.data.toList.length = s.size := by rw [Array.length_toList]; rfl
  induction d with
  | zero =>
    intro i acc hi ha
    rw [List.drop_eq_nil_of_le (by omega), parseB]
    refine Ev.step (f := fun _ => some (acc, 0, 0)) (fun k => ?_) (Ev.now _)
    simp only [headgateref16_Parse.l0]
    rw [if_neg (by omega)]
  | succ d ih =>
    intro i acc hi ha
    have hlt : i < s.size := by omega
    have hb8 : s.data.toList.drop i = s[i] :: s.data.toList.drop (i + 1) := by
      rw [List.drop_eq_getElem_cons (by rw [hdl]; exact hlt)]
      rfl
    have hp : pickTo (bt s i) 8 = letterIx s[i] := by rw [bt_byte s i hlt, pickTo_letter]
    rw [hb8, parseB]
    refine Ev.step (f := fun k => headgateref16_Parse.l1 k s acc i (pickTo (bt s i) 0) ((0 : Nat) : Int)) (fun k => ?_) (l1_ev s acc i hlt _ ?_ 8 0 (by omega))
    · simp only [headgateref16_Parse.l0]
      rw [if_pos (by omega)]
      rfl
    · rw [hp]
      by_cases hl : letterIx s[i] < 0
      · rw [if_pos hl]
        refine Ev.congr (f := fun _ => some (([] : List Int), 3, (i : Int))) (fun k => ?_) (Ev.now _)
        rw [if_pos hl]
      · rw [if_neg hl]
        have := ih (i + 1) (acc ++ [letterIx s[i]]) (by omega) (by simp [ha])
        refine Ev.congr (fun k => ?_) this
        rw [if_neg hl, if_pos (by omega), wsm (by omega) (by omega)]
        rfl
theorem parseB_len (l : List UInt8) : ∀ (i : Int) (acc : List Int), (parseB l i acc).1.length ≤ acc.length + l.length := by
  induction l with
  | nil => intro i acc; exact Nat.le_refl _
  | cons b l ih =>
    intro i acc
    rw [parseB]
    split
    · exact Nat.zero_le _
    · have := ih (i + 1) (acc ++ [letterIx b])
      simp only [List.length_append, List.length_cons, List.length_nil] at this ⊢
      omega
theorem RoleParses : headgatelaw16_RoleParses.Pure := by
  intro s _
  refine Ev.rounds (r := true) ?_
  by_cases h : (s.size : Int) > 300
  · refine Ev.congr (f := fun k => (headgatelaw16_awake.f k).bind fun t => some t) (fun k => ?_) (Ev.bind awake_ev (Ev.now _))
    unfold headgatelaw16_RoleParses.f
    rw [if_pos h]
  · obtain ⟨P, hP⟩ : ∃ P, role_Parse.f s = some P := ⟨_, rfl⟩
    have hl : P.1.length < 1000000 := by
      have := Option.some.inj hP
      subst this
      have hdl : s.data.toList.length = s.size := by rw [Array.length_toList]; rfl
      have := parseB_len s.data.toList 0 []
      split
      · decide
      · simp only [List.length_nil] at this
        omega
    have hR : Ev (fun k => headgateref16_Parse.f k s) P := by
      have hP := Option.some.inj hP
      unfold headgateref16_Parse.f
      by_cases h2 : (s.size : Int) > 256
      · rw [if_pos h2] at hP
        subst hP
        refine Ev.congr (fun k => ?_) (Ev.now _)
        rw [if_pos h2]
      · rw [if_neg h2] at hP
        subst hP
        refine Ev.congr (fun k => ?_) (l0_ev s (by omega) s.size 0 [] (by omega) rfl)
        rw [if_neg h2]
        rfl
    refine Ev.congr (f := fun k => (headgateref16_Parse.f k s).bind fun Q => (headgatekit_SameInts.f k P.1 Q.1).bind fun t188 => (if t188 = true then (if (P.2.1 == Q.2.1 && (P.2.2 == Q.2.2)) = true then ((headgatelaw16_awake.f k).bind fun t189 => (some t189)) else (some false)) else (some false))) (fun k => ?_) (Ev.bind hR (Ev.bind (same_ints P.1 hl) ?_))
    · unfold headgatelaw16_RoleParses.f
      rw [if_neg h, hP]
      rfl
    · refine Ev.congr (f := fun k => (headgatelaw16_awake.f k).bind fun t => some t) (fun k => ?_) (Ev.bind awake_ev (Ev.now _))
      rw [if_pos rfl, if_pos (by simp)]
end Go.Proofs.Ytmemdggofphcnaa.Pure
