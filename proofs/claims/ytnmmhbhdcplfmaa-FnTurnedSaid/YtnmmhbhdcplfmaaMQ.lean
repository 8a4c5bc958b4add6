/- Plain laws: what is taken, turned, acceptable (no program in sight). -/
import Derived.Test.YtnmmhbhdcplfmaaMJ
import Derived.Test.YtnmmhbhdcplfmaaMN
namespace Go.Proofs.Ytnmmhbhdcplfmaa
open Go.RowKit
theorem pceEq_self (p : Pce) : pceEq p p = true := by simp [pceEq]
theorem sameL_pce (l : List Pce) : sameL pceEq l l = true := sameL_yes rfl fun i x y h1 h2 => by rw [h1] at h2; simp only [Option.some.injEq] at h2; subst h2; exact pceEq_self x
theorem sameR_self (r : Rcv) : sameReceiver r r = true := by unfold sameReceiver; rw [sameL_pce]; simp
theorem sndEq_self (s : Snd) : sndEq s s = true := by simp [sndEq]
def ts (k : Int) (sd rd : Bool) : Int :=
  if k = 1 then (if rd then 4 else 1)
  else if k = 2 then (if sd && rd then 7 else if sd then 3 else if rd then 5 else 2)
  else if k = 3 then (if rd then 7 else 3)
  else if k = 5 then (if sd then 7 else 5)
  else if k = 6 then (if sd then 8 else 6)
  else k
theorem ts_idem (k : Int) (sd rd : Bool) : ts (ts k sd rd) sd rd = ts k sd rd := by
  by_cases h1 : k = 1
  · subst h1; cases sd <;> cases rd <;> rfl
  by_cases h2 : k = 2
  · subst h2; cases sd <;> cases rd <;> rfl
  by_cases h3 : k = 3
  · subst h3; cases sd <;> cases rd <;> rfl
  by_cases h5 : k = 5
  · subst h5; cases sd <;> cases rd <;> rfl
  by_cases h6 : k = 6
  · subst h6; cases sd <;> cases rd <;> rfl
  have e : ts k sd rd = k := by unfold ts; rw [if_neg h1, if_neg h2, if_neg h3, if_neg h5, if_neg h6]
  rw [e, e]
theorem turnState_turned (c : Con) (s : Int) (h : s = turnState c) (t k : Int) : turnState { c with state := s, timer := t, tries := k } = s := by
  subst h; exact ts_idem c.state c.s.done c.r.done
theorem turned_idem (c : Con) : turned (turned c) = turned c := by
  have key : ∀ x : Con, turnState x = x.state → turned x = x := fun x h => by unfold turned; rw [if_pos h]
  by_cases h0 : turnState c = c.state
  · rw [key c h0, key c h0]
  · by_cases h1 : (conOk { c with state := turnState c, timer := 0 } && inB c.timer 0 4) = true
    · have e : turned c = (if turnState c = 7 then { c with state := 7, timer := 4, tries := 0 } else if turnState c = 8 then { c with state := 8, timer := 0, tries := 0 } else { c with state := turnState c }) := by
        unfold turned; rw [if_neg h0, if_pos h1]
      have : turnState (turned c) = (turned c).state := by
        rw [e]; split
        · rename_i h7; exact turnState_turned c 7 h7.symm 4 0
        · split
          · rename_i h8; exact turnState_turned c 8 h8.symm 0 0
          · exact turnState_turned c _ rfl c.timer c.tries
      exact key _ this
    · have e : turned c = c := by unfold turned; rw [if_neg h0, if_neg h1]
      rw [e, e]
end Go.Proofs.Ytnmmhbhdcplfmaa
