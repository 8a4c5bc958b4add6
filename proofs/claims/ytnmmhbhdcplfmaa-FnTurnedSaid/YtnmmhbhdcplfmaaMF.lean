/- Plain definitions: sending (no program in sight). -/
import Derived.Test.YtnmmhbhdcplfmaaME
namespace Go.Proofs.Ytnmmhbhdcplfmaa
open Go.RowKit
theorem senderOk_bd {s : Snd} (h : senderOk s = true) : 0 ≤ s.una ∧ s.una ≤ 4294967295 ∧ s.data.size ≤ 48 ∧ 0 ≤ s.sent ∧ s.sent ≤ s.data.size ∧ 0 ≤ flown s ∧ flown s ≤ s.sent + 1 ∧ s.sent ≤ flown s ∧
    (s.finSent = true → s.fin = true ∧ s.sent = s.data.size ∧ flown s = s.sent + 1) ∧ (s.finSent = false → flown s = s.sent) ∧ (s.done = true → s.fin = true ∧ s.finSent = false ∧ s.data.size = 0) := by
  unfold senderOk at h
  simp only [Bool.and_eq_true, decide_eq_true_eq, wordOk, inB, Bool.or_eq_true, Bool.not_eq_true'] at h
  obtain ⟨⟨⟨⟨h1, h2⟩, h3⟩, h4⟩, h5⟩ := h
  have e : (2 : Int) ^ (32 : Int).toNat - 1 = 4294967295 := by decide
  rw [e] at h1
  have hw : wrap64 (s.sent + 1) = s.sent + 1 := by unfold wrap64; omega
  refine ⟨by omega, by omega, h2, by omega, by omega, ?_, ?_, ?_, fun hf => ?_, fun hf => ?_, fun hd => ?_⟩
  · unfold flown; split <;> omega
  · unfold flown; split <;> omega
  · unfold flown; split <;> omega
  · simp [hf] at h4; refine ⟨h4.1, h4.2, ?_⟩; unfold flown; rw [if_pos hf, hw]
  · unfold flown; simp [hf]
  · simp [hd] at h5
    refine ⟨h5.1.1, h5.1.2, ?_⟩
    have h6 := h5.2
    rw [ByteArray.toList_eq] at h6
    have h7 : s.data.data.toList = [] := by simpa only [List.isEmpty_iff] using h6
    show s.data.data.size = 0
    rw [← Array.length_toList, h7]; rfl
theorem conOk_tries (c : Con) : conOk c = (conOk { c with tries := 0 } && inB c.tries 0 3) := by
  have h : inB 0 0 3 = true := rfl
  simp only [conOk, conPre, conMid, stateFits, h, Bool.and_true]
  cases inB c.tries 0 3 <;> simp
theorem takenIn_sz (r : Rcv) (n : Int) : (takenIn r n).1.data.size ≤ r.data.size := by
  unfold takenIn; split
  · simp only [ByteArray.size_extract]; omega
  · exact Nat.le_refl _
theorem turned_r (c : Con) : (turned c).r = c.r := by unfold turned; (repeat' split) <;> rfl
theorem turned_bd (c : Con) (h : c.r.held.length ≤ 1048576) : (turned c).r.held.length ≤ 1048576 := by rw [turned_r]; exact h
theorem takenIn_held (r : Rcv) (n : Int) : (takenIn r n).1.held = r.held := by unfold takenIn; split <;> rfl
theorem readConn_bd (c : Con) (n : Int) (h : c.r.held.length ≤ 1048576) : (readConn c n).1.r.held.length ≤ 1048576 ∧ (readConn c n).2.2.length ≤ 1 := by
  unfold readConn; (repeat' split) <;> simp [takenIn_held, h]
def zeroChk : Chk := ⟨0, ⟨#[]⟩, false⟩
def wnd (s : Snd) (window : Int) : Int := max 0 (max 0 (min window 1000000) - flown s)
def chunkN (s : Snd) (window mss : Int) : Int := max 0 (min (min mss (wnd s window)) (s.data.size - s.sent))
def chunkFin (s : Snd) (window mss : Int) : Bool := s.fin && (!s.finSent && (!s.done && (decide (s.sent + chunkN s window mss = s.data.size) && decide (chunkN s window mss < wnd s window))))
def nextChunk (s : Snd) (window mss : Int) : Chk × Bool :=
  if senderOk s then
    (if decide (chunkN s window mss = 0) && !chunkFin s window mss then (zeroChk, false)
     else (⟨nextOf s, s.data.extract s.sent.toNat (s.sent + chunkN s window mss).toNat, chunkFin s window mss⟩, true))
  else (zeroChk, false)
def sentS (s : Snd) (c : Chk) : Snd := { s with sent := IntKind.i64.wrap (s.sent + (c.text.size : Int)), finSent := s.finSent || c.fin }
def sentOff (s : Snd) (c : Chk) : Snd := if senderOk s && (senderOk (sentS s c) && !(c.fin && s.done)) then sentS s c else s
end Go.Proofs.Ytnmmhbhdcplfmaa
