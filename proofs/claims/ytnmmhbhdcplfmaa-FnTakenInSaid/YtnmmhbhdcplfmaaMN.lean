/- Plain laws: a new connection (no program in sight). -/
import Derived.Test.YtnmmhbhdcplfmaaMH
import Derived.Test.YtnmmhbhdcplfmaaYD
namespace Go.Proofs.Ytnmmhbhdcplfmaa
open Go.RowKit
theorem connNew_form (t : Tup) (iss irs : Int) (o : Opt) (window : Int) : ∃ (W : Int) (O : Opt), 0 ≤ W ∧ W ≤ 1073725440 ∧ optionsOk O = true ∧ connNew t iss irs o window = ⟨t, 1, ⟨seqAdd iss 1, ⟨#[]⟩, 0, false, false, false⟩, receiverNew (seqAdd irs 1), W, W, O, 0, 0⟩ := by
  have key : ∀ (x : Int) (O : Opt), 0 ≤ x → x ≤ 65535 → optionsOk O = true → 0 ≤ farW x O ∧ farW x O ≤ 1073725440 := fun x O h1 h2 h3 => by
    have := optionsOk_bd h3
    refine ⟨Int.mul_nonneg h1 (Int.le_of_lt (Int.pow_pos (by decide))), ?_⟩
    unfold farW; exact far_le h1 h2 (by omega) (by omega)
  have hno : optionsOk ⟨0, -1, false, false, 0, 0⟩ = true := by decide
  unfold connNew
  split
  · rename_i ho
    split
    · rename_i hw
      obtain ⟨w1, w2⟩ := wordOk16_bd hw
      obtain ⟨k1, k2⟩ := key window o w1 w2 ho
      exact ⟨_, o, k1, k2, ho, rfl⟩
    · obtain ⟨k1, k2⟩ := key 0 o (by decide) (by decide) ho
      exact ⟨_, o, k1, k2, ho, rfl⟩
  · split
    · rename_i hw
      obtain ⟨w1, w2⟩ := wordOk16_bd hw
      obtain ⟨k1, k2⟩ := key window _ w1 w2 hno
      exact ⟨_, _, k1, k2, hno, rfl⟩
    · obtain ⟨k1, k2⟩ := key 0 _ (by decide) (by decide) hno
      exact ⟨_, _, k1, k2, hno, rfl⟩
theorem seqAdd_rng (a n : Int) : 0 ≤ seqAdd a n ∧ seqAdd a n ≤ 4294967295 := by unfold seqAdd; omega
theorem word32 {n : Int} (h : 0 ≤ n ∧ n ≤ 4294967295) : wordOk n 32 = true := by
  have e : (2 : Int) ^ (32 : Int).toNat - 1 = 4294967295 := by decide
  simp only [wordOk, Bool.and_eq_true, inB_tt, e]; omega
theorem empty_toList : (⟨#[]⟩ : ByteArray).toList = [] := by rw [ByteArray.toList_eq]
theorem cn_ok (t : Tup) (iss irs : Int) (o : Opt) (window : Int) : conOk (connNew t iss irs o window) = tupleOk t := by
  obtain ⟨W, O, h1, h2, h3, e⟩ := connNew_form t iss irs o window
  have hs : senderOk ⟨seqAdd iss 1, ⟨#[]⟩, 0, false, false, false⟩ = true := by
    unfold senderOk; simp only [word32 (seqAdd_rng iss 1)]; rfl
  have hr : receiverOk (receiverNew (seqAdd irs 1)) = true := by
    have hn : 0 ≤ seqAdd irs 1 % 4294967296 ∧ seqAdd irs 1 % 4294967296 ≤ 4294967295 := by omega
    have hw : wordOk (seqAdd irs 1 % 4294967296) 32 = true := word32 hn
    simp only [receiverOk, rcvPre, rcvPost, receiverNew, windowOf, heldOk, hw]; rfl
  have hm : inB W 0 1073725440 = true := inB_tt.2 ⟨h1, h2⟩
  have hw : inB W 0 W = true := inB_tt.2 ⟨h1, Int.le_refl _⟩
  rw [e]
  simp only [conOk, conPre, conMid, stateFits, hs, hr, h3, hm, hw]
  cases tupleOk t <;> rfl
theorem cn_seq (t : Tup) (iss irs : Int) (o : Opt) (window : Int) : nextOf (connNew t iss irs o window).s = seqAdd iss 1 := by
  obtain ⟨W, O, h1, h2, h3, e⟩ := connNew_form t iss irs o window
  rw [e]; simp only [nextOf, flown, seqAdd]; simp
theorem cn_ack (t : Tup) (iss irs : Int) (o : Opt) (window : Int) : (connNew t iss irs o window).r.next = seqAdd irs 1 := by
  obtain ⟨W, O, h1, h2, h3, e⟩ := connNew_form t iss irs o window
  rw [e]; simp only [receiverNew, seqAdd]; omega
theorem cn_win (t : Tup) (iss irs : Int) (o : Opt) (window : Int) : windowOf (connNew t iss irs o window).r = 32 := by
  obtain ⟨W, O, h1, h2, h3, e⟩ := connNew_form t iss irs o window
  rw [e]; simp only [receiverNew, windowOf]; rfl
theorem cn_t (t : Tup) (iss irs : Int) (o : Opt) (window : Int) : (connNew t iss irs o window).t = t := by
  obtain ⟨W, O, h1, h2, h3, e⟩ := connNew_form t iss irs o window
  rw [e]
theorem cn_seg (t : Tup) (iss irs : Int) (o : Opt) (window : Int) (h : tupleOk t = true) : segmentOk ⟨(connNew t iss irs o window).t.my, (connNew t iss irs o window).t.port, nextOf (connNew t iss irs o window).s, (connNew t iss irs o window).r.next, 16, windowOf (connNew t iss irs o window).r, ⟨0, (-1), false, false, 0, 0⟩, (⟨#[]⟩ : ByteArray)⟩ = true := by
  rw [cn_t, cn_seq, cn_ack, cn_win]
  simp only [tupleOk, Bool.and_eq_true] at h
  simp only [segmentOk, h.1.2, h.2, word32 (seqAdd_rng iss 1), word32 (seqAdd_rng irs 1)]; rfl
theorem cn_mss (t : Tup) (iss irs : Int) (o : Opt) (window : Int) : 1 ≤ mssFor (connNew t iss irs o window) ∧ mssFor (connNew t iss irs o window) ≤ 1460 := by
  unfold mssFor; split <;> omega
theorem cn_hm (t : Tup) (iss irs : Int) (o : Opt) (window : Int) : ∀ p ∈ (connNew t iss irs o window).r.held, p.text.size ≤ 1048576 := by
  obtain ⟨W, O, h1, h2, h3, e⟩ := connNew_form t iss irs o window
  rw [e]; simp [receiverNew]
theorem cn_hs (t : Tup) (iss irs : Int) (o : Opt) (window : Int) : (connNew t iss irs o window).r.data.size ≤ 4611686018427387904 := by
  obtain ⟨W, O, h1, h2, h3, e⟩ := connNew_form t iss irs o window
  rw [e]; exact Nat.zero_le _
theorem sameL_self {α : Type} {eq : α → α → Bool} (h : ∀ x, eq x x = true) (l : List α) : sameL eq l l = true := sameL_yes rfl fun i x y h1 h2 => by
  rw [h1] at h2; simp only [Option.some.injEq] at h2; subst h2; exact h x
theorem sameConn_self (c : Con) : sameConn c c = true := by
  simp [sameConn, sameReceiver, tupEq, sndEq, optEq, sameL_self (eq := pceEq) (fun x => by simp [pceEq])]
end Go.Proofs.Ytnmmhbhdcplfmaa
