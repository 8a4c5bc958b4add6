/- Plain definitions: receivers and connections (no program in sight). -/
import Derived.Test.YtnmmhbhdcplfmaaM
import Derived.Test.YtnmmhbhdcplfmaaQ
namespace Go.Proofs.Ytnmmhbhdcplfmaa
open Go.RowKit
theorem drop_cons_of {α : Type} {l : List α} {k : Nat} {x : α} (h : l[k]? = some x) : l.drop k = x :: l.drop (k + 1) := by
  obtain ⟨hlt, rfl⟩ := List.getElem?_eq_some_iff.1 h
  exact List.drop_eq_getElem_cons hlt
def heldOk (m : Int) : Int → List Pce → Bool
  | _, [] => true
  | e, p :: l => !p.text.toList.isEmpty && (decide (e < p.off) && (decide (p.off ≤ m - p.text.size) && heldOk m (p.off + p.text.size) l))
def heldOkS (m f : Int) : Int → List Pce → Bool
  | e, [] => decide (f < 0) || decide (e ≤ f)
  | e, p :: l => !p.text.toList.isEmpty && (decide (e < p.off) && (decide (p.off ≤ m - p.text.size) && heldOkS m f (p.off + p.text.size) l))
theorem heldOkS_past (m f : Int) (hf : 0 ≤ f) : ∀ (l : List Pce) (e : Int), f < e → heldOkS m f e l = false
  | [], e, h => by simp [heldOkS]; omega
  | p :: l, e, h => by
    unfold heldOkS
    by_cases h1 : e < p.off
    · rw [heldOkS_past m f hf l _ (by omega)]; simp
    · simp [h1]
theorem heldOkS_neg (m f : Int) (hf : f < 0) : ∀ (l : List Pce) (e : Int), heldOkS m f e l = heldOk m e l
  | [], e => by simp [heldOkS, heldOk, hf]
  | p :: l, e => by unfold heldOkS heldOk; rw [heldOkS_neg m f hf l]
theorem heldOkS_pos (m f : Int) (hf : 0 ≤ f) (hm : f ≤ m) : ∀ (l : List Pce) (e : Int), e ≤ f → heldOkS m f e l = heldOk f e l
  | [], e, h => by simp [heldOkS, heldOk, h]
  | p :: l, e, h => by
    unfold heldOkS heldOk
    by_cases h1 : p.off + p.text.size ≤ f
    · rw [heldOkS_pos m f hf hm l _ h1]
      rw [decide_eq_true (show p.off ≤ m - p.text.size by omega), decide_eq_true (show p.off ≤ f - p.text.size by omega)]
    · rw [heldOkS_past m f hf l _ (by omega), decide_eq_false (show ¬ p.off ≤ f - p.text.size by omega)]; simp
def rcvPre (r : Rcv) : Bool := wordOk r.next 32 && (decide (r.data.size ≤ 32) && (decide (r.held.length ≤ 3) && (inB r.fin (-1) (windowOf r) && !decide (r.fin = 0))))
def rcvPost (r : Rcv) : Bool := !r.done || (decide (r.held.length = 0) && decide (r.fin = -1))
def receiverOk (r : Rcv) : Bool := rcvPre r && (heldOk (if r.fin = -1 then windowOf r else r.fin) 0 r.held && rcvPost r)
theorem rcvPre_iff {r : Rcv} : rcvPre r = true ↔ wordOk r.next 32 = true ∧ r.data.size ≤ 32 ∧ r.held.length ≤ 3 ∧ inB r.fin (-1) (windowOf r) = true ∧ r.fin ≠ 0 := by
  simp [rcvPre]
theorem receiverOkS (r : Rcv) (h : rcvPre r = true) : receiverOk r = (heldOkS (windowOf r) r.fin 0 r.held && rcvPost r) := by
  obtain ⟨-, -, -, h4, h5⟩ := rcvPre_iff.1 h
  rw [inB_tt] at h4
  unfold receiverOk
  rw [h]
  by_cases h6 : r.fin = -1
  · rw [heldOkS_neg _ _ (by omega), if_pos h6]; simp
  · rw [heldOkS_pos _ _ (by omega) h4.2 _ _ (by omega), if_neg h6]; simp
theorem windowOf_bd (r : Rcv) : 0 ≤ windowOf r ∧ windowOf r ≤ 32 := by unfold windowOf; split <;> omega
def stateFits (c : Con) : Bool := if c.state = 8 then true else ((c.s.fin == decide (c.state ≠ 1 ∧ c.state ≠ 4)) && ((c.s.done == decide (c.state = 3 ∨ c.state = 7)) && (c.r.done == decide (c.state = 4 ∨ 5 ≤ c.state))))
def conPre (c : Con) : Bool := tupleOk c.t && (senderOk c.s && (receiverOk c.r && (optionsOk c.o && inB c.state 1 8)))
def conMid (c : Con) : Bool := inB c.most 0 1073725440 && (inB c.window 0 c.most && (inB c.timer 0 (if c.state = 7 then 4 else 3) && inB c.tries 0 3))
def conOk (c : Con) : Bool := conPre c && (conMid c && stateFits c)
def waits (c : Con) : Bool := conOk c && (decide (c.state = 7) || (!decide (c.state = 8) && unsent c))
end Go.Proofs.Ytnmmhbhdcplfmaa
