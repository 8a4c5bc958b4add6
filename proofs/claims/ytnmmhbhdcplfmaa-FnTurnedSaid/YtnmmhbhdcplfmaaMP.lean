/- Plain definitions: the pump (no program in sight). -/
import Derived.Test.YtnmmhbhdcplfmaaMG
namespace Go.Proofs.Ytnmmhbhdcplfmaa
open Go.RowKit
theorem ext_size (a : ByteArray) (i j : Nat) (h : j ≤ a.size) : (a.extract i j).size = j - i := by rw [ByteArray.size_extract]; omega
theorem chunkN_bd {s : Snd} {window mss : Int} (h : senderOk s = true) : 0 ≤ chunkN s window mss ∧ s.sent + chunkN s window mss ≤ s.data.size ∧ chunkN s window mss ≤ wnd s window ∧ 0 ≤ wnd s window ∧ wnd s window ≤ 1000000 := by
  obtain ⟨b0, b1, b2, b3, b4, b5, b6, b7, b8, b9, b10⟩ := senderOk_bd h
  unfold chunkN wnd; omega
theorem chunk_text {s : Snd} {window mss : Int} (h : senderOk s = true) : (s.data.extract s.sent.toNat (s.sent + chunkN s window mss).toNat).size = (chunkN s window mss).toNat := by
  obtain ⟨b0, b1, b2, b3, b4, b5, b6, b7, b8, b9, b10⟩ := senderOk_bd h
  obtain ⟨c0, c1, c2, c3, c4⟩ := chunkN_bd (window := window) (mss := mss) h
  rw [ext_size _ _ _ (by omega)]; omega
theorem wnd_s {s : Snd} {window : Int} : max 0 (max 0 (min window 1000000) - flown s) = wnd s window := rfl
def mssO (o : Opt) : Int := if o.mss = 0 then 536 else max 1 (min o.mss 1460)
def meas (s : Snd) : Nat := (s.data.size - s.sent.toNat) + (if s.finSent then 0 else 1)
theorem sentS_fin (s : Snd) (c : Chk) (h : senderOk (sentS s c) = true) (hf : c.fin = true) : s.fin = true := by
  obtain ⟨-, -, -, -, -, -, -, -, b8, -, -⟩ := senderOk_bd h
  exact (b8 (by simp [sentS, hf])).1
theorem next_ok {s : Snd} {window mss : Int} (h : (nextChunk s window mss).2 = true) : senderOk s = true ∧ (nextChunk s window mss).1 = ⟨nextOf s, s.data.extract s.sent.toNat (s.sent + chunkN s window mss).toNat, chunkFin s window mss⟩ ∧ (chunkN s window mss ≠ 0 ∨ chunkFin s window mss = true) := by
  unfold nextChunk at h ⊢
  split at h
  · rename_i hs
    split at h
    · simp at h
    · rename_i hc
      refine ⟨hs, by rw [if_pos hs, if_neg hc], ?_⟩
      simp only [Bool.and_eq_true, decide_eq_true_eq, Bool.not_eq_true', not_and, Bool.not_eq_false] at hc
      by_cases h0 : chunkN s window mss = 0
      · exact .inr (hc h0)
      · exact .inl h0
  · simp at h
theorem sent_next {s : Snd} {window mss : Int} (h : (nextChunk s window mss).2 = true) : sentOff s (nextChunk s window mss).1 = { s with sent := s.sent + chunkN s window mss, finSent := s.finSent || chunkFin s window mss } ∧ senderOk { s with sent := s.sent + chunkN s window mss, finSent := s.finSent || chunkFin s window mss } = true := by
  obtain ⟨hs, hc, hne⟩ := next_ok h
  have hx := chunkN_bd (window := window) (mss := mss) hs
  have ht := chunk_text (window := window) (mss := mss) hs
  have hb := senderOk_bd hs
  obtain ⟨c0, c1, c2, c3, c4⟩ := hx
  obtain ⟨b0, b1, b2, b3, b4, b5, b6, b7, b8, b9, b10⟩ := hb
  have e : sentS s (nextChunk s window mss).1 = { s with sent := s.sent + chunkN s window mss, finSent := s.finSent || chunkFin s window mss } := by
    rw [hc]; unfold sentS; simp only [ht]
    rw [show s.sent + ((chunkN s window mss).toNat : Int) = s.sent + chunkN s window mss by omega, wrap_id (by omega) (by omega)]
  have hs2 := hs
  unfold senderOk at hs2
  simp only [Bool.and_eq_true, decide_eq_true_eq, Bool.or_eq_true, Bool.not_eq_true'] at hs2
  have hok : senderOk { s with sent := s.sent + chunkN s window mss, finSent := s.finSent || chunkFin s window mss } = true := by
    unfold senderOk
    simp only [Bool.and_eq_true, decide_eq_true_eq, Bool.or_eq_true, Bool.not_eq_true', inB]
    obtain ⟨⟨⟨⟨g1, g2⟩, g3⟩, g4⟩, g5⟩ := hs2
    refine ⟨⟨⟨⟨g1, g2⟩, by omega, by omega⟩, ?_⟩, ?_⟩
    · cases hf : chunkFin s window mss
      · cases hq : s.finSent
        · exact .inl rfl
        · right
          have := b8 hq
          exact ⟨this.1, by omega⟩
      · right
        unfold chunkFin at hf
        simp only [Bool.and_eq_true, decide_eq_true_eq, Bool.not_eq_true'] at hf
        exact ⟨hf.1, hf.2.2.2.1⟩
    · rcases g5 with g5 | g5
      · exact .inl g5
      · cases hd : s.done
        · exact .inl rfl
        · right
          refine ⟨⟨g5.1.1, ?_⟩, g5.2⟩
          have : chunkFin s window mss = false := by unfold chunkFin; simp [hd]
          rw [this, g5.1.2]; rfl
  refine ⟨?_, hok⟩
  unfold sentOff
  rw [e, hs, hok]
  have : ((nextChunk s window mss).1.fin && s.done) = false := by
    rw [hc]; simp only
    cases hd : s.done
    · simp
    · unfold chunkFin; simp [hd]
  rw [this]; rfl
theorem meas_next {s : Snd} {window mss : Int} (h : (nextChunk s window mss).2 = true) : meas (sentOff s (nextChunk s window mss).1) < meas s := by
  obtain ⟨e, -⟩ := sent_next h
  obtain ⟨hs, hc, hne⟩ := next_ok h
  obtain ⟨c0, c1, c2, c3, c4⟩ := chunkN_bd (window := window) (mss := mss) hs
  obtain ⟨b0, b1, b2, b3, b4, b5, b6, b7, b8, b9, b10⟩ := senderOk_bd hs
  rw [e]; unfold meas; simp only
  by_cases h0 : chunkN s window mss = 0
  · have hf : chunkFin s window mss = true := hne.resolve_left (fun h => h h0)
    have hq : s.finSent = false := by unfold chunkFin at hf; simp at hf; exact hf.2.1
    simp [h0, hf, hq]
  · cases hq : s.finSent <;> cases hf : chunkFin s window mss <;> simp <;> omega
def pumpC (s : Snd) (window mss : Int) : Snd × List Chk :=
  if _h : (nextChunk s window mss).2 = true then ((pumpC (sentOff s (nextChunk s window mss).1) window mss).1, (nextChunk s window mss).1 :: (pumpC (sentOff s (nextChunk s window mss).1) window mss).2) else (s, [])
termination_by meas s
decreasing_by all_goals exact meas_next (by assumption)
def segOf (c : Con) (ch : Chk) : Seg := ⟨c.t.my, c.t.port, ch.seq, c.r.next, (if ch.text.toList.isEmpty then 16 else 24) + (if ch.fin then 1 else 0), windowOf c.r, ⟨0, -1, false, false, 0, 0⟩, ch.text⟩
def tmr {α : Type} (c : Con) (l : List α) : Int := if l.isEmpty then c.timer else if c.timer = 0 then 3 else c.timer
def pump (c : Con) (window : Int) : Con × List Seg :=
  if conOk c && (!decide (c.state = 8) && !decide (c.state = 7)) then
    ({ c with s := (pumpC c.s window (mssO c.o)).1, timer := tmr c ((pumpC c.s window (mssO c.o)).2.map (segOf c)) }, (pumpC c.s window (mssO c.o)).2.map (segOf c))
  else (c, [])
theorem pumpL_step {c : Con} {s0 s : Snd} {L : List Seg} {row : Seg} {window mss : Int} (h : (nextChunk s window mss).2 = true) (hrow : segOf c (nextChunk s window mss).1 = row)
    (hk : (pumpC s0 window mss).2.map (segOf c) = L ++ (pumpC s window mss).2.map (segOf c)) : (pumpC s0 window mss).2.map (segOf c) = (L ++ [row]) ++ (pumpC (sentOff s (nextChunk s window mss).1) window mss).2.map (segOf c) := by
  rw [hk, pumpC, dif_pos h, ← hrow]; simp
theorem pumpS_step {s0 s : Snd} {window mss : Int} (h : (nextChunk s window mss).2 = true) (hk : (pumpC s0 window mss).1 = (pumpC s window mss).1) : (pumpC s0 window mss).1 = (pumpC (sentOff s (nextChunk s window mss).1) window mss).1 := by
  rw [hk, pumpC, dif_pos h]
theorem pumpL_end {c : Con} {s0 s : Snd} {L : List Seg} {window mss : Int} (h : (nextChunk s window mss).2 = false) (hk : (pumpC s0 window mss).2.map (segOf c) = L ++ (pumpC s window mss).2.map (segOf c)) : (pumpC s0 window mss).2.map (segOf c) = L := by
  rw [hk, pumpC, dif_neg (by rw [h]; simp)]; simp
theorem pumpS_end {s0 s : Snd} {window mss : Int} (h : (nextChunk s window mss).2 = false) (hk : (pumpC s0 window mss).1 = (pumpC s window mss).1) : (pumpC s0 window mss).1 = s := by
  rw [hk, pumpC, dif_neg (by rw [h]; simp)]
theorem pump_yes {c : Con} {s : Snd} {L : List Seg} {window t : Int} (h1 : conOk c = true) (h2 : ¬ c.state = 8) (h3 : ¬ c.state = 7) (hS : (pumpC c.s window (mssO c.o)).1 = s) (hL : (pumpC c.s window (mssO c.o)).2.map (segOf c) = L) (ht : tmr c L = t) : pump c window = ({ c with s := s, timer := t }, L) := by
  unfold pump; rw [hS, hL, ht, if_pos (by simp [h1, h2, h3])]
theorem tmr_next {α : Type} {c : Con} {l : List α} {x : α} {t t' : Int} (h : t = tmr c l) (h' : (if t = 0 then 3 else t) = t') : t' = tmr c (l ++ [x]) := by
  subst h; subst h'; unfold tmr
  cases l with
  | nil => simp
  | cons a l => simp; split <;> simp [*]
theorem row_len {l : List Seg} {x : Seg} {a b n : Nat} (h : l.length + a ≤ n) (hb : b < a) : (l ++ [x]).length + b ≤ n := by simp; omega
theorem conOk_s {c : Con} (h : conOk c = true) : senderOk c.s = true := by
  simp only [conOk, conPre, Bool.and_eq_true] at h; exact h.1.2.1
theorem meas_le {s : Snd} (h : senderOk s = true) : meas s ≤ 49 := by
  obtain ⟨b0, b1, b2, b3, b4, b5, b6, b7, b8, b9, b10⟩ := senderOk_bd h
  unfold meas; split <;> omega
theorem pumpC_len (window mss : Int) (s : Snd) : (pumpC s window mss).2.length ≤ meas s := by
  induction hn : meas s using Nat.strongRecOn generalizing s with
  | _ n ih =>
    rw [pumpC]; split
    · rename_i h
      have h1 := meas_next h
      have := ih _ (by omega) (sentOff s (nextChunk s window mss).1) rfl
      simp only [List.length_cons]; omega
    · simp
theorem pump_bd (c : Con) (window : Int) (h : c.r.held.length ≤ 1048576) : (pump c window).1.r.held.length ≤ 1048576 ∧ (pump c window).2.length ≤ 49 := by
  unfold pump; split
  · rename_i hc
    refine ⟨h, ?_⟩
    simp only [Bool.and_eq_true] at hc
    have hs : senderOk c.s = true := by have := hc.1; simp only [conOk, conPre, Bool.and_eq_true] at this; exact this.1.2.1
    have := pumpC_len window (mssO c.o) c.s; have := meas_le hs
    simp only [List.length_map]; omega
  · exact ⟨h, by simp⟩
end Go.Proofs.Ytnmmhbhdcplfmaa
