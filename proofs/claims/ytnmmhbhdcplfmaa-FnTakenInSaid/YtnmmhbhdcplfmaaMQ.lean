/- Plain laws: what is taken, turned, acceptable (no program in sight). -/
import Derived.Test.YtnmmhbhdcplfmaaMJ
import Derived.Test.YtnmmhbhdcplfmaaMN
namespace Go.Proofs.Ytnmmhbhdcplfmaa
open Go.RowKit
theorem pceEq_self (p : Pce) : pceEq p p = true := by simp [pceEq]
theorem sameL_pce (l : List Pce) : sameL pceEq l l = true := sameL_yes rfl fun i x y h1 h2 => by rw [h1] at h2; simp only [Option.some.injEq] at h2; subst h2; exact pceEq_self x
theorem sameR_self (r : Rcv) : sameReceiver r r = true := by unfold sameReceiver; rw [sameL_pce]; simp
theorem sndEq_self (s : Snd) : sndEq s s = true := by simp [sndEq]
/-! ### taken -/
theorem cut_bd (s : ByteArray) (n : Int) : 0 ≤ cut s n ∧ cut s n ≤ s.size := by unfold cut; omega
theorem heldOk_mono {m m' : Int} (h : m ≤ m') : ∀ (l : List Pce) (e : Int), heldOk m e l = true → heldOk m' e l = true
  | [], _, _ => rfl
  | p :: l, e, hk => by
    simp only [heldOk, Bool.and_eq_true, decide_eq_true_eq] at hk ⊢
    exact ⟨hk.1, hk.2.1, by omega, heldOk_mono h l _ hk.2.2.2⟩
theorem takenIn_cat {r : Rcv} (n : Int) (h : receiverOk r = true) : (takenIn r n).2 ++ (takenIn r n).1.data = r.data := by
  have hc := cut_bd r.data n
  unfold takenIn; rw [if_pos h]
  apply bytes_ext
  simp only [ByteArray.data_append, ByteArray.data_extract, Array.toList_append, Array.toList_extract]
  simp only [List.extract, List.drop_zero, Nat.sub_zero]
  have e : r.data.size = r.data.data.toList.length := Array.length_toList.symm
  rw [List.take_of_length_le (l := List.drop _ _) (by rw [List.length_drop, e]; exact Nat.le_refl _), List.take_append_drop]
theorem takenIn_len {r : Rcv} (n : Int) : ((takenIn r n).2.size : Int) ≤ r.data.size := by
  have hc := cut_bd r.data n
  unfold takenIn; split
  · simp only [ByteArray.size_extract]; omega
  · show ((0 : Nat) : Int) ≤ _; omega
theorem takenIn_win {r : Rcv} (n : Int) (h : receiverOk r = true) (hd : r.done = false) : windowOf (takenIn r n).1 = windowOf r + ((takenIn r n).2.size : Int) := by
  have hc := cut_bd r.data n
  have hr := (rok_facts h).1
  unfold takenIn; rw [if_pos h]
  simp only [windowOf, hd, ByteArray.size_extract]
  simp; omega
theorem takenIn_done {r : Rcv} (n : Int) : (takenIn r n).1.done = r.done ∧ (takenIn r n).1.next = r.next ∧ (takenIn r n).1.fin = r.fin ∧ (takenIn r n).1.held = r.held := by
  unfold takenIn; split <;> exact ⟨rfl, rfl, rfl, rfl⟩
theorem takenIn_ok {r : Rcv} (n : Int) (h : receiverOk r = true) : receiverOk (takenIn r n).1 = true := by
  obtain ⟨e1, e2, e3, e4⟩ := takenIn_done (r := r) n
  have hs := takenIn_sz r n
  have hw : windowOf r ≤ windowOf (takenIn r n).1 := by
    cases hd : r.done
    · rw [takenIn_win n h hd]; omega
    · unfold windowOf; rw [e1, hd]; simp
  have h2 := h
  unfold receiverOk at h2 ⊢
  simp only [Bool.and_eq_true] at h2 ⊢
  obtain ⟨h3, h4, h5⟩ := h2
  obtain ⟨g1, g2, g3, g4, g5⟩ := rcvPre_iff.1 h3
  have g4' := inB_tt.1 g4
  refine ⟨rcvPre_iff.2 ⟨by rw [e2]; exact g1, Nat.le_trans hs g2, by rw [e4]; exact g3, by rw [e3]; exact inB_tt.2 ⟨g4'.1, by omega⟩, by rw [e3]; exact g5⟩, ?_, ?_⟩
  · rw [e3, e4]; exact heldOk_mono (by split <;> omega) _ _ h4
  · unfold rcvPost at h5 ⊢; rw [e1, e3, e4]; exact h5
theorem takenIn_no {r : Rcv} (n : Int) (h : receiverOk r = false) : takenIn r n = (r, ⟨#[]⟩) := by unfold takenIn; rw [if_neg (by rw [h]; simp)]
/-! ### turned -/
def ts (k : Int) (sd rd : Bool) : Int :=
  if k = 1 then (if rd then 4 else 1)
  else if k = 2 then (if sd && rd then 7 else if sd then 3 else if rd then 5 else 2)
  else if k = 3 then (if rd then 7 else 3)
  else if k = 5 then (if sd then 7 else 5)
  else if k = 6 then (if sd then 8 else 6)
  else k
theorem ts_eq (c : Con) : turnState c = ts c.state c.s.done c.r.done := rfl
theorem ts_idem (k : Int) (sd rd : Bool) : ts (ts k sd rd) sd rd = ts k sd rd := by
  by_cases h1 : k = 1
  · subst h1; cases sd <;> cases rd <;> rfl
  by_cases h2 : k = 2
  · subst h2; cases sd <;> cases rd <;> rfl
  by_cases h3 : k = 3
  · subst h3; cases sd <;> cases rd <;> rfl
  by_cases h5 : k = 5
  · subst h5; cases sd <;> cases rd <;> rfl
  by_cases h6 : k = 6
  · subst h6; cases sd <;> cases rd <;> rfl
  have e : ts k sd rd = k := by unfold ts; rw [if_neg h1, if_neg h2, if_neg h3, if_neg h5, if_neg h6]
  rw [e, e]
theorem turnState_turned (c : Con) (s : Int) (h : s = turnState c) (t k : Int) : turnState { c with state := s, timer := t, tries := k } = s := by
  subst h; exact ts_idem c.state c.s.done c.r.done
theorem turned_idem (c : Con) : turned (turned c) = turned c := by
  have key : ∀ x : Con, turnState x = x.state → turned x = x := fun x h => by unfold turned; rw [if_pos h]
  by_cases h0 : turnState c = c.state
  · rw [key c h0, key c h0]
  · by_cases h1 : (conOk { c with state := turnState c, timer := 0 } && inB c.timer 0 4) = true
    · have e : turned c = (if turnState c = 7 then { c with state := 7, timer := 4, tries := 0 } else if turnState c = 8 then { c with state := 8, timer := 0, tries := 0 } else { c with state := turnState c }) := by
        unfold turned; rw [if_neg h0, if_pos h1]
      have : turnState (turned c) = (turned c).state := by
        rw [e]; split
        · rename_i h7; exact turnState_turned c 7 h7.symm 4 0
        · split
          · rename_i h8; exact turnState_turned c 8 h8.symm 0 0
          · exact turnState_turned c _ rfl c.timer c.tries
      exact key _ this
    · have e : turned c = c := by unfold turned; rw [if_neg h0, if_neg h1]
      rw [e, e]
/-! ### acceptable -/
theorem segLen_nn (g : Seg) : 0 ≤ segLen g := by unfold segLen; split <;> split <;> omega
theorem acc_len {c : Con} {g : Seg} (h : 0 < segLen g) (ha : acceptable c g = true) : 0 < windowOf c.r := by
  unfold acceptable at ha; rw [if_neg (by omega)] at ha
  unfold overlaps at ha; simp only [Bool.and_eq_true, decide_eq_true_eq] at ha; omega
theorem seqDiff_zero (a b : Int) : seqDiff a b = 0 ↔ a % 4294967296 = b % 4294967296 := by unfold seqDiff; split <;> omega
theorem acc_none {c : Con} {g : Seg} (h : ¬ 0 < segLen g) : acceptable c g = (decide (g.seq % 4294967296 = c.r.next % 4294967296) || inWindow g.seq c.r.next (windowOf c.r)) := by
  have := segLen_nn g
  unfold acceptable; rw [if_pos (by omega)]
  congr 1; rw [decide_eq_decide]; exact seqDiff_zero _ _
end Go.Proofs.Ytnmmhbhdcplfmaa
