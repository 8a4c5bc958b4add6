/- Plain definitions, the machine and its rules: what this law's contracts need of them, part 3. -/
import Derived.Test.YtnmmhbhdcplfmaaGreatG1
import Derived.Test.YtnmmhbhdcplfmaaGreatA3
import Derived.Test.YtnmmhbhdcplfmaaGreatA4
import Derived.Test.YtnmmhbhdcplfmaaGreatA5
import Derived.Test.YtnmmhbhdcplfmaaGreatG2
import Derived.Test.YtnmmhbhdcplfmaaGreatYW
import Derived.Test.YtnmmhbhdcplfmaaGreatYD
/- Contracts: slices of Piece in the laws. -/
namespace Go.Proofs.YtnmmhbhdcplfmaaGreat
open Go.RowKit
attribute [local go_sem] lt_gap le_gap eq_gap gap_eq lt_ones2 lt_ones3 lt_ones4 lt_ones5 lt_ones6 lt_ones7 lt_ones8 lt_gap_1 lt_gap_2 lt_gap_3 lt_gap_4 lt_gap_5 lt_gap_6 size_grow cell?_grow frozen?_grow setCell_grow drew_grow drewN_grow
attribute [local go_sem] boxOf_alloc_at boxOf_alloc_past boxOf_grow boxOf_drew boxOf_drewN isBox_alloc_at isBox_alloc_past isBox_grow isBox_drew isBox_drewN putAt_all putAt setCells_alloc_at setCells_alloc_past setCells_grow setCells_drew
set_option linter.unusedVariables false
set_option linter.unusedSimpArgs false

end Go.Proofs.YtnmmhbhdcplfmaaGreat
/- Contracts (C1). -/
namespace Go.Proofs.YtnmmhbhdcplfmaaGreat
open Go.RowKit
attribute [local go_sem] lt_gap le_gap eq_gap gap_eq lt_ones2 lt_ones3 lt_ones4 lt_ones5 lt_ones6 lt_ones7 lt_ones8 lt_gap_1 lt_gap_2 lt_gap_3 lt_gap_4 lt_gap_5 lt_gap_6 size_grow cell?_grow frozen?_grow setCell_grow drew_grow drewN_grow
attribute [local go_sem] boxOf_alloc_at boxOf_alloc_past boxOf_grow boxOf_drew boxOf_drewN isBox_alloc_at isBox_alloc_past isBox_grow isBox_drew isBox_drewN putAt_all putAt setCells_alloc_at setCells_alloc_past setCells_grow setCells_drew
attribute [local go_sem ↓] pload_implConn pstore_implConn pload_implReceiver pstore_implReceiver pload_implSegment pstore_implSegment
attribute [local go_sem] Value.oneCell' load_implConn store_implConn load_implReceiver store_implReceiver load_implSegment store_implSegment
set_option linter.unusedVariables false
set_option linter.unusedSimpArgs false

end Go.Proofs.YtnmmhbhdcplfmaaGreat
/- Plain definitions: marks (no program in sight). -/
namespace Go.Proofs.YtnmmhbhdcplfmaaGreat
open Go.RowKit
def marks {α : Type} (mk : Int → α) (c k : Int) (n : Nat) : List α := (List.range n).map fun (i : Nat) => mk (k + c * (i : Int))
end Go.Proofs.YtnmmhbhdcplfmaaGreat
/- Plain definitions: the pump (no program in sight). -/
namespace Go.Proofs.YtnmmhbhdcplfmaaGreat
open Go.RowKit
theorem ext_size (a : ByteArray) (i j : Nat) (h : j ≤ a.size) : (a.extract i j).size = j - i := by rw [ByteArray.size_extract]; omega
theorem chunkN_bd {s : Snd} {window mss : Int} (h : senderOk s = true) : 0 ≤ chunkN s window mss ∧ s.sent + chunkN s window mss ≤ s.data.size ∧ chunkN s window mss ≤ wnd s window ∧ 0 ≤ wnd s window ∧ wnd s window ≤ 1000000 := by
  obtain ⟨b0, b1, b2, b3, b4, b5, b6, b7, b8, b9, b10⟩ := senderOk_bd h
  unfold chunkN wnd; omega
theorem chunk_text {s : Snd} {window mss : Int} (h : senderOk s = true) : (s.data.extract s.sent.toNat (s.sent + chunkN s window mss).toNat).size = (chunkN s window mss).toNat := by
  obtain ⟨b0, b1, b2, b3, b4, b5, b6, b7, b8, b9, b10⟩ := senderOk_bd h
  obtain ⟨c0, c1, c2, c3, c4⟩ := chunkN_bd (window := window) (mss := mss) h
  rw [ext_size _ _ _ (by omega)]; omega
theorem wnd_s {s : Snd} {window : Int} : max 0 (max 0 (min window 1000000) - flown s) = wnd s window := rfl
def mssO (o : Opt) : Int := if o.mss = 0 then 536 else max 1 (min o.mss 1460)
def meas (s : Snd) : Nat := (s.data.size - s.sent.toNat) + (if s.finSent then 0 else 1)
theorem sentS_fin (s : Snd) (c : Chk) (h : senderOk (sentS s c) = true) (hf : c.fin = true) : s.fin = true := by
  obtain ⟨-, -, -, -, -, -, -, -, b8, -, -⟩ := senderOk_bd h
  exact (b8 (by simp [sentS, hf])).1
theorem next_ok {s : Snd} {window mss : Int} (h : (nextChunk s window mss).2 = true) : senderOk s = true ∧ (nextChunk s window mss).1 = ⟨nextOf s, s.data.extract s.sent.toNat (s.sent + chunkN s window mss).toNat, chunkFin s window mss⟩ ∧ (chunkN s window mss ≠ 0 ∨ chunkFin s window mss = true) := by
  unfold nextChunk at h ⊢
  split at h
  · rename_i hs
    split at h
    · simp at h
    · rename_i hc
      refine ⟨hs, by rw [if_pos hs, if_neg hc], ?_⟩
      simp only [Bool.and_eq_true, decide_eq_true_eq, Bool.not_eq_true', not_and, Bool.not_eq_false] at hc
      by_cases h0 : chunkN s window mss = 0
      · exact .inr (hc h0)
      · exact .inl h0
  · simp at h
theorem sent_next {s : Snd} {window mss : Int} (h : (nextChunk s window mss).2 = true) : sentOff s (nextChunk s window mss).1 = { s with sent := s.sent + chunkN s window mss, finSent := s.finSent || chunkFin s window mss } ∧ senderOk { s with sent := s.sent + chunkN s window mss, finSent := s.finSent || chunkFin s window mss } = true := by
  obtain ⟨hs, hc, hne⟩ := next_ok h
  have hx := chunkN_bd (window := window) (mss := mss) hs
  have ht := chunk_text (window := window) (mss := mss) hs
  have hb := senderOk_bd hs
  obtain ⟨c0, c1, c2, c3, c4⟩ := hx
  obtain ⟨b0, b1, b2, b3, b4, b5, b6, b7, b8, b9, b10⟩ := hb
  have e : sentS s (nextChunk s window mss).1 = { s with sent := s.sent + chunkN s window mss, finSent := s.finSent || chunkFin s window mss } := by
    rw [hc]; unfold sentS; simp only [ht]
    rw [show s.sent + ((chunkN s window mss).toNat : Int) = s.sent + chunkN s window mss by omega, wrap_id (by omega) (by omega)]
  have hs2 := hs
  unfold senderOk at hs2
  simp only [Bool.and_eq_true, decide_eq_true_eq, Bool.or_eq_true, Bool.not_eq_true'] at hs2
  have hok : senderOk { s with sent := s.sent + chunkN s window mss, finSent := s.finSent || chunkFin s window mss } = true := by
    unfold senderOk
    simp only [Bool.and_eq_true, decide_eq_true_eq, Bool.or_eq_true, Bool.not_eq_true', inB]
    obtain ⟨⟨⟨⟨g1, g2⟩, g3⟩, g4⟩, g5⟩ := hs2
    refine ⟨⟨⟨⟨g1, g2⟩, by omega, by omega⟩, ?_⟩, ?_⟩
    · cases hf : chunkFin s window mss
      · cases hq : s.finSent
        · exact .inl rfl
        · right
          have := b8 hq
          exact ⟨this.1, by omega⟩
      · right
        unfold chunkFin at hf
        simp only [Bool.and_eq_true, decide_eq_true_eq, Bool.not_eq_true'] at hf
        exact ⟨hf.1, hf.2.2.2.1⟩
    · rcases g5 with g5 | g5
      · exact .inl g5
      · cases hd : s.done
        · exact .inl rfl
        · right
          refine ⟨⟨g5.1.1, ?_⟩, g5.2⟩
          have : chunkFin s window mss = false := by unfold chunkFin; simp [hd]
          rw [this, g5.1.2]; rfl
  refine ⟨?_, hok⟩
  unfold sentOff
  rw [e, hs, hok]
  have : ((nextChunk s window mss).1.fin && s.done) = false := by
    rw [hc]; simp only
    cases hd : s.done
    · simp
    · unfold chunkFin; simp [hd]
  rw [this]; rfl
theorem meas_next {s : Snd} {window mss : Int} (h : (nextChunk s window mss).2 = true) : meas (sentOff s (nextChunk s window mss).1) < meas s := by
  obtain ⟨e, -⟩ := sent_next h
  obtain ⟨hs, hc, hne⟩ := next_ok h
  obtain ⟨c0, c1, c2, c3, c4⟩ := chunkN_bd (window := window) (mss := mss) hs
  obtain ⟨b0, b1, b2, b3, b4, b5, b6, b7, b8, b9, b10⟩ := senderOk_bd hs
  rw [e]; unfold meas; simp only
  by_cases h0 : chunkN s window mss = 0
  · have hf : chunkFin s window mss = true := hne.resolve_left (fun h => h h0)
    have hq : s.finSent = false := by unfold chunkFin at hf; simp at hf; exact hf.2.1
    simp [h0, hf, hq]
  · cases hq : s.finSent <;> cases hf : chunkFin s window mss <;> simp <;> omega
def pumpC (s : Snd) (window mss : Int) : Snd × List Chk :=
  if _h : (nextChunk s window mss).2 = true then ((pumpC (sentOff s (nextChunk s window mss).1) window mss).1, (nextChunk s window mss).1 :: (pumpC (sentOff s (nextChunk s window mss).1) window mss).2) else (s, [])
termination_by meas s
decreasing_by all_goals exact meas_next (by assumption)
def segOf (c : Con) (ch : Chk) : Seg := ⟨c.t.my, c.t.port, ch.seq, c.r.next, (if ch.text.toList.isEmpty then 16 else 24) + (if ch.fin then 1 else 0), windowOf c.r, ⟨0, -1, false, false, 0, 0⟩, ch.text⟩
def tmr {α : Type} (c : Con) (l : List α) : Int := if l.isEmpty then c.timer else if c.timer = 0 then 3 else c.timer
def pump (c : Con) (window : Int) : Con × List Seg :=
  if conOk c && (!decide (c.state = 8) && !decide (c.state = 7)) then
    ({ c with s := (pumpC c.s window (mssO c.o)).1, timer := tmr c ((pumpC c.s window (mssO c.o)).2.map (segOf c)) }, (pumpC c.s window (mssO c.o)).2.map (segOf c))
  else (c, [])
theorem pumpL_step {c : Con} {s0 s : Snd} {L : List Seg} {row : Seg} {window mss : Int} (h : (nextChunk s window mss).2 = true) (hrow : segOf c (nextChunk s window mss).1 = row)
    (hk : (pumpC s0 window mss).2.map (segOf c) = L ++ (pumpC s window mss).2.map (segOf c)) : (pumpC s0 window mss).2.map (segOf c) = (L ++ [row]) ++ (pumpC (sentOff s (nextChunk s window mss).1) window mss).2.map (segOf c) := by
  rw [hk, pumpC, dif_pos h, ← hrow]; simp
theorem pumpS_step {s0 s : Snd} {window mss : Int} (h : (nextChunk s window mss).2 = true) (hk : (pumpC s0 window mss).1 = (pumpC s window mss).1) : (pumpC s0 window mss).1 = (pumpC (sentOff s (nextChunk s window mss).1) window mss).1 := by
  rw [hk, pumpC, dif_pos h]
theorem pumpL_end {c : Con} {s0 s : Snd} {L : List Seg} {window mss : Int} (h : (nextChunk s window mss).2 = false) (hk : (pumpC s0 window mss).2.map (segOf c) = L ++ (pumpC s window mss).2.map (segOf c)) : (pumpC s0 window mss).2.map (segOf c) = L := by
  rw [hk, pumpC, dif_neg (by rw [h]; simp)]; simp
theorem pumpS_end {s0 s : Snd} {window mss : Int} (h : (nextChunk s window mss).2 = false) (hk : (pumpC s0 window mss).1 = (pumpC s window mss).1) : (pumpC s0 window mss).1 = s := by
  rw [hk, pumpC, dif_neg (by rw [h]; simp)]
theorem pump_yes {c : Con} {s : Snd} {L : List Seg} {window t : Int} (h1 : conOk c = true) (h2 : ¬ c.state = 8) (h3 : ¬ c.state = 7) (hS : (pumpC c.s window (mssO c.o)).1 = s) (hL : (pumpC c.s window (mssO c.o)).2.map (segOf c) = L) (ht : tmr c L = t) : pump c window = ({ c with s := s, timer := t }, L) := by
  unfold pump; rw [hS, hL, ht, if_pos (by simp [h1, h2, h3])]
theorem tmr_next {α : Type} {c : Con} {l : List α} {x : α} {t t' : Int} (h : t = tmr c l) (h' : (if t = 0 then 3 else t) = t') : t' = tmr c (l ++ [x]) := by
  subst h; subst h'; unfold tmr
  cases l with
  | nil => simp
  | cons a l => simp; split <;> simp [*]
theorem row_len {l : List Seg} {x : Seg} {a b n : Nat} (h : l.length + a ≤ n) (hb : b < a) : (l ++ [x]).length + b ≤ n := by simp; omega
theorem conOk_s {c : Con} (h : conOk c = true) : senderOk c.s = true := by
  simp only [conOk, conPre, Bool.and_eq_true] at h; exact h.1.2.1
theorem meas_le {s : Snd} (h : senderOk s = true) : meas s ≤ 49 := by
  obtain ⟨b0, b1, b2, b3, b4, b5, b6, b7, b8, b9, b10⟩ := senderOk_bd h
  unfold meas; split <;> omega
theorem pumpC_len (window mss : Int) (s : Snd) : (pumpC s window mss).2.length ≤ meas s := by
  induction hn : meas s using Nat.strongRecOn generalizing s with
  | _ n ih =>
    rw [pumpC]; split
    · rename_i h
      have h1 := meas_next h
      have := ih _ (by omega) (sentOff s (nextChunk s window mss).1) rfl
      simp only [List.length_cons]; omega
    · simp
theorem pump_bd (c : Con) (window : Int) (h : c.r.held.length ≤ 1048576) : (pump c window).1.r.held.length ≤ 1048576 ∧ (pump c window).2.length ≤ 49 := by
  unfold pump; split
  · rename_i hc
    refine ⟨h, ?_⟩
    simp only [Bool.and_eq_true] at hc
    have hs : senderOk c.s = true := by have := hc.1; simp only [conOk, conPre, Bool.and_eq_true] at this; exact this.1.2.1
    have := pumpC_len window (mssO c.o) c.s; have := meas_le hs
    simp only [List.length_map]; omega
  · exact ⟨h, by simp⟩
end Go.Proofs.YtnmmhbhdcplfmaaGreat
/- Plain definitions: calls and ticks (no program in sight). -/
namespace Go.Proofs.YtnmmhbhdcplfmaaGreat
open Go.RowKit
def shut (c : Con) : Con × List Seg :=
  if conOk c then (if c.state = 1 then pump { c with s := { c.s with fin := true }, state := 2 } c.window else if c.state = 4 then pump { c with s := { c.s with fin := true }, state := 6 } c.window else (c, [])) else (c, [])
def write (c : Con) (text : ByteArray) : Con × Int × List Seg :=
  if conOk c && (decide (c.state = 1) || decide (c.state = 4)) then ((pump { c with s := (queued c.s text).1 } c.window).1, (queued c.s text).2, (pump { c with s := (queued c.s text).1 } c.window).2) else (c, 0, [])
def tickConn (c : Con) : Con × List Seg :=
  if waits c then
    (if c.timer = 0 then ({ c with timer := if c.state = 7 then 3 else 2 }, [])
     else if 0 < c.timer - 1 then ({ c with timer := c.timer - 1 }, [])
     else if c.state = 7 then ({ c with state := 8, timer := c.timer - 1, tries := 0 }, [])
     else if c.tries = 3 then ({ c with state := 8, timer := 0, tries := 0 }, [{ ackOf c with flags := 20 }])
     else ({ (pump { c with s := rewound c.s, timer := c.timer - 1, tries := c.tries + 1 } (max 1 c.window)).1 with timer := 3 }, (pump { c with s := rewound c.s, timer := c.timer - 1, tries := c.tries + 1 } (max 1 c.window)).2))
  else if conOk c then ({ c with timer := 0, tries := 0 }, []) else (c, [])
theorem conOk_bd {c : Con} (h : conOk c = true) : 0 ≤ c.most ∧ c.most ≤ 1073725440 ∧ 0 ≤ c.window ∧ c.window ≤ 1073725440 ∧ 0 ≤ c.timer ∧ c.timer ≤ 4 ∧ 0 ≤ c.tries ∧ c.tries ≤ 3 ∧ 1 ≤ c.state ∧ c.state ≤ 8 := by
  simp only [conOk, conPre, conMid, Bool.and_eq_true] at h
  obtain ⟨⟨-, -, -, -, h1⟩, ⟨h2, h3, h4, h5⟩, -⟩ := h
  rw [inB_tt] at h1 h2 h3 h4 h5
  refine ⟨by omega, by omega, by omega, by omega, by omega, ?_, by omega, by omega, by omega, by omega⟩
  split at h4 <;> omega
theorem waits_ok {c : Con} (h : waits c = true) : conOk c = true := by
  unfold waits at h; simp only [Bool.and_eq_true] at h; exact h.1
theorem shut_bd (c : Con) (h : c.r.held.length ≤ 1048576) : (shut c).1.r.held.length ≤ 1048576 ∧ (shut c).2.length ≤ 49 := by
  unfold shut; (repeat' split) <;> first | exact pump_bd _ _ h | exact ⟨h, by simp⟩
theorem write_bd (c : Con) (t : ByteArray) (h : c.r.held.length ≤ 1048576) : (write c t).1.r.held.length ≤ 1048576 ∧ (write c t).2.2.length ≤ 49 := by
  unfold write; split
  · exact pump_bd _ _ h
  · exact ⟨h, by simp⟩
theorem tickConn_bd (c : Con) (h : c.r.held.length ≤ 1048576) : (tickConn c).1.r.held.length ≤ 1048576 ∧ (tickConn c).2.length ≤ 49 := by
  unfold tickConn; (repeat' split) <;> first | exact pump_bd _ _ h | exact ⟨h, by simp⟩
end Go.Proofs.YtnmmhbhdcplfmaaGreat
/- Plain definitions: what is heard, and received (no program in sight). -/
namespace Go.Proofs.YtnmmhbhdcplfmaaGreat
open Go.RowKit
def heardMid (c : Con) (g : Seg) : Con :=
  if (acked c.s g.ack).2 then
    (if (¬ (acked c.s g.ack).1.una = c.s.una ∨ flown (acked c.s g.ack).1 = 0) ∧ ¬ c.state = 7 then
      { c with s := (acked c.s g.ack).1, window := farW g.window c.o, most := max c.most (farW g.window c.o), tries := 0, timer := if 0 < flown (acked c.s g.ack).1 then 3 else 0 }
     else { c with s := (acked c.s g.ack).1, window := farW g.window c.o, most := max c.most (farW g.window c.o) })
  else c
def heardR (c : Con) (g : Seg) : Rcv := if inB c.state 1 3 then arrived c.r g.seq g.body (hasF g.flags 1) else c.r
def heard (c : Con) (g : Seg) : Con := if verdict c g = 5 then turned { heardMid c g with r := heardR c g } else c
def answered (c : Con) (g : Seg) : Con × List Seg :=
  if c.state = 8 then (c, []) else ((pump c c.window).1, if 0 < segLen g ∧ (pump c c.window).2.length = 0 then [ackOf c] else (pump c c.window).2)
def received (c : Con) (g : Seg) : Con × List Seg × Int :=
  if verdict c g = 1 then (c, [], 1)
  else if verdict c g = 2 then ({ c with state := 8, timer := 0, tries := 0 }, [], 2)
  else if verdict c g = 3 then (c, [ackOf c], 3)
  else if verdict c g = 4 then (if c.state = 7 ∧ hasF g.flags 1 = true then { c with timer := 4 } else c, [ackOf c], 4)
  else ((answered (heard c g) g).1, (answered (heard c g) g).2, 5)
theorem received_ack {c : Con} {g : Seg} {tm : Int} (h : verdict c g = 4) (htm : tm = if verdict c g = 4 ∧ c.state = 7 ∧ hasF g.flags 1 = true then 4 else c.timer) : received c g = ({ c with timer := tm }, [ackOf c], 4) := by
  unfold received; rw [if_neg (by omega), if_neg (by omega), if_neg (by omega), if_pos h]
  by_cases hx : c.state = 7 ∧ hasF g.flags 1 = true
  · rw [if_pos hx, htm, if_pos ⟨h, hx⟩]
  · rw [if_neg hx, htm, if_neg (fun e => hx e.2)]
theorem received_chal {c : Con} {g : Seg} {tm : Int} (h : verdict c g = 3) (htm : tm = if verdict c g = 4 ∧ c.state = 7 ∧ hasF g.flags 1 = true then 4 else c.timer) : received c g = ({ c with timer := tm }, [ackOf c], 3) := by
  unfold received; rw [if_neg (by omega), if_neg (by omega), if_pos h, htm, if_neg (fun e => by omega)]
theorem verdict_rng (c : Con) (g : Seg) : 1 ≤ verdict c g ∧ verdict c g ≤ 5 := by unfold verdict; (repeat' split) <;> omega
theorem verdict_fine {c : Con} {g : Seg} (h : verdict c g = 5) : conOk c = true ∧ ¬ c.state = 8 ∧ segmentOk g = true ∧ hasF g.flags 4 = false ∧ hasF g.flags 2 = false ∧ acceptable c g = true ∧ hasF g.flags 16 = true ∧ ackFits c g.ack = true := by
  unfold verdict at h
  split at h
  · omega
  rename_i h1
  simp only [Bool.or_eq_true, Bool.not_eq_true', decide_eq_true_eq, not_or, Bool.not_eq_false] at h1
  split at h
  · (repeat' split at h) <;> omega
  split at h
  · omega
  split at h
  · omega
  split at h
  · omega
  split at h
  · omega
  simp_all
theorem conOk_r {c : Con} (h : conOk c = true) : receiverOk c.r = true ∧ optionsOk c.o = true ∧ tupleOk c.t = true := by
  simp only [conOk, conPre, Bool.and_eq_true] at h; exact ⟨h.1.2.2.1, h.1.2.2.2.1, h.1.1⟩
theorem segmentOk_w {g : Seg} (h : segmentOk g = true) : 0 ≤ g.window ∧ g.window ≤ 65535 := by
  simp only [segmentOk, Bool.and_eq_true] at h; exact wordOk16_bd h.2.2.1
theorem farW_bd {w : Int} {o : Opt} (h : 0 ≤ w ∧ w ≤ 65535) (ho : optionsOk o = true) : 0 ≤ farW w o ∧ farW w o ≤ 1073725440 := by
  have := optionsOk_bd ho
  unfold farW
  exact ⟨Int.mul_nonneg h.1 (Int.pow_nonneg (by omega)), far_le h.1 h.2 (by omega) (by omega)⟩
theorem pcs_bd : ∀ (l : List Int) (acc : List Pce) (j : Nat), (∀ p ∈ acc, 0 ≤ p.off ∧ p.off + (p.text.size : Int) ≤ (j : Int)) → ∀ p ∈ pcs acc j l, 0 ≤ p.off ∧ p.off + (p.text.size : Int) ≤ ((j + l.length : Nat) : Int)
  | [], acc, j, h, p, hp => by simpa using h p hp
  | x :: l, acc, j, h, p, hp => by
    rw [pcs] at hp
    have := pcs_bd l _ (j + 1) (fun q hq => by
      split at hq
      · have := h q hq; omega
      · have := addByte_bd h q hq; omega) p hp
    rw [List.length_cons]; omega
theorem arrived_sz {r : Rcv} {seq : Int} {t : ByteArray} {fin : Bool} {H T D : Nat} (h1 : r.held.length ≤ H) (h2 : ∀ p ∈ r.held, p.text.size ≤ T) (h3 : r.data.size ≤ D) (hH : 3 ≤ H) (hT : 33 ≤ T) (hD : 65 ≤ D) :
    (arrived r seq t fin).held.length ≤ H ∧ (∀ p ∈ (arrived r seq t fin).held, p.text.size ≤ T) ∧ (arrived r seq t fin).data.size ≤ D := by
  unfold arrived
  split
  · rename_i hok
    simp only [Bool.and_eq_true] at hok
    have hr := rok_facts hok.1
    have hl := allIn_len r seq t
    have hb : ∀ p ∈ pcs [] 0 ((allIn r seq t).drop (filled (allIn r seq t))), p.text.size ≤ T := fun p hp => by
      have := pcs_bd _ [] 0 (by simp) p hp
      rw [List.length_drop, hl] at this; omega
    have hd : (r.data ++ bstr ((allIn r seq t).take (filled (allIn r seq t)))).size ≤ D := by
      rw [ByteArray.size_append, bstr_len, List.length_take, hl]; omega
    split
    · exact ⟨h1, h2, h3⟩
    · rename_i hn
      split
      · exact ⟨by dsimp only; omega, hb, hd⟩
      · exact ⟨by dsimp only; omega, hb, hd⟩
  · exact ⟨h1, h2, h3⟩
theorem turned_w (c : Con) : (turned c).window = c.window ∧ (turned c).s = c.s ∧ (turned c).r = c.r ∧ (turned c).most = c.most ∧ (turned c).o = c.o ∧ (turned c).t = c.t := by unfold turned; (repeat' split) <;> exact ⟨rfl, rfl, rfl, rfl, rfl, rfl⟩
theorem heardMid_eq (c : Con) (g : Seg) : (heardMid c g).r = c.r ∧ (heardMid c g).t = c.t ∧ (heardMid c g).state = c.state ∧ (heardMid c g).o = c.o := by unfold heardMid; (repeat' split) <;> exact ⟨rfl, rfl, rfl, rfl⟩
theorem heardR_sz {c : Con} {g : Seg} {H T D : Nat} (h1 : c.r.held.length ≤ H) (h2 : ∀ p ∈ c.r.held, p.text.size ≤ T) (h3 : c.r.data.size ≤ D) (hH : 3 ≤ H) (hT : 33 ≤ T) (hD : 65 ≤ D) :
    (heardR c g).held.length ≤ H ∧ (∀ p ∈ (heardR c g).held, p.text.size ≤ T) ∧ (heardR c g).data.size ≤ D := by
  unfold heardR; split
  · exact arrived_sz h1 h2 h3 hH hT hD
  · exact ⟨h1, h2, h3⟩
theorem heard_r (c : Con) (g : Seg) : (heard c g).r = heardR c g ∨ (heard c g).r = c.r := by
  unfold heard; split
  · rw [(turned_w _).2.2.1]; exact .inl rfl
  · exact .inr rfl
theorem heard_sz {c : Con} {g : Seg} {H T D : Nat} (h1 : c.r.held.length ≤ H) (h2 : ∀ p ∈ c.r.held, p.text.size ≤ T) (h3 : c.r.data.size ≤ D) (hH : 3 ≤ H) (hT : 33 ≤ T) (hD : 65 ≤ D) :
    (heard c g).r.held.length ≤ H ∧ (∀ p ∈ (heard c g).r.held, p.text.size ≤ T) ∧ (heard c g).r.data.size ≤ D := by
  rcases heard_r c g with e | e <;> rw [e]
  · exact heardR_sz h1 h2 h3 hH hT hD
  · exact ⟨h1, h2, h3⟩
theorem heard_w {c : Con} {g : Seg} (h : verdict c g = 5) : 0 ≤ (heard c g).window ∧ (heard c g).window ≤ 1073725440 := by
  obtain ⟨h1, -, h3, -⟩ := verdict_fine h
  have hf := farW_bd (segmentOk_w h3) (conOk_r h1).2.1
  have hc := conOk_bd h1
  unfold heard; rw [if_pos h, (turned_w _).1]
  show 0 ≤ (heardMid c g).window ∧ (heardMid c g).window ≤ _
  unfold heardMid; (repeat' split) <;> first | exact hf | exact ⟨hc.2.2.1, hc.2.2.2.1⟩
end Go.Proofs.YtnmmhbhdcplfmaaGreat
/- Plain definitions: sizes of what is drawn (no program in sight). -/
namespace Go.Proofs.YtnmmhbhdcplfmaaGreat
open Go.RowKit
def RB (H : Nat) (r : Rcv) : Prop := r.held.length ≤ H ∧ (∀ p ∈ r.held, p.text.size ≤ 33) ∧ r.data.size ≤ 65
theorem RB.kn {r : Rcv} (h : RB 4 r) : r.held.length ≤ 1048576 := Nat.le_trans h.1 (by decide)
theorem RB.hm {r : Rcv} {H : Nat} (h : RB H r) : ∀ p ∈ r.held, p.text.size ≤ 1048576 := fun p hp => Nat.le_trans (h.2.1 p hp) (by decide)
theorem RB.sz {r : Rcv} {H : Nat} (h : RB H r) : r.data.size ≤ 4611686018427387904 := Nat.le_trans h.2.2 (by decide)
theorem RB.up {r : Rcv} (h : RB 3 r) : RB 4 r := ⟨Nat.le_trans h.1 (by decide), h.2.1, h.2.2⟩
theorem RB.new (n : Int) : RB 3 (receiverNew n) := ⟨Nat.zero_le _, fun p hp => by simp [receiverNew] at hp, Nat.zero_le _⟩
theorem RB.arr {r : Rcv} {H : Nat} (h : RB H r) (hH : 3 ≤ H) (seq : Int) (t : ByteArray) (fin : Bool) : RB H (arrived r seq t fin) := arrived_sz h.1 h.2.1 h.2.2 hH (Nat.le_refl _) (Nat.le_refl _)
theorem RB.taken {r : Rcv} {H : Nat} (h : RB H r) (n : Int) : RB H (takenIn r n).1 := ⟨by rw [takenIn_held]; exact h.1, by rw [takenIn_held]; exact h.2.1, Nat.le_trans (takenIn_sz r n) h.2.2⟩
theorem RB.more {r : Rcv} (h : RB 3 r) (p : Pce) (hp : p.text.size ≤ 33) {d : ByteArray} (hd : d.size ≤ 65) {next fin : Int} {done : Bool} : RB 4 ⟨next, d, r.held ++ [p], fin, done⟩ :=
  ⟨by rw [List.length_append]; have := h.1; simp; omega, fun q hq => by
    rcases List.mem_append.1 hq with hq | hq
    · exact h.2.1 q hq
    · rw [List.mem_singleton] at hq; subst hq; exact hp, hd⟩
theorem pump_r (c : Con) (w : Int) : (pump c w).1.r = c.r := by unfold pump; split <;> rfl
theorem RB.pump {c : Con} {H : Nat} (h : RB H c.r) (w : Int) : RB H (Go.Proofs.YtnmmhbhdcplfmaaGreat.pump c w).1.r := by rw [pump_r]; exact h
theorem RB.write {c : Con} {H : Nat} (h : RB H c.r) (t : ByteArray) : RB H (Go.Proofs.YtnmmhbhdcplfmaaGreat.write c t).1.r := by unfold Go.Proofs.YtnmmhbhdcplfmaaGreat.write; split <;> first | (dsimp only; rw [pump_r]; exact h) | exact h
theorem RB.shut {c : Con} {H : Nat} (h : RB H c.r) : RB H (Go.Proofs.YtnmmhbhdcplfmaaGreat.shut c).1.r := by
  unfold Go.Proofs.YtnmmhbhdcplfmaaGreat.shut; (repeat' split) <;> first | exact h | (rw [pump_r]; exact h)
theorem RB.tick {c : Con} {H : Nat} (h : RB H c.r) : RB H (tickConn c).1.r := by
  unfold tickConn; (repeat' split) <;> first | exact h | (dsimp only; rw [pump_r]; exact h)
theorem RB.read {c : Con} {H : Nat} (h : RB H c.r) (n : Int) : RB H (readConn c n).1.r := by
  unfold readConn; (repeat' split) <;> first | exact h | exact RB.taken h n
theorem RB.heard {c : Con} {H : Nat} (h : RB H c.r) (hH : 3 ≤ H) (g : Seg) : RB H (Go.Proofs.YtnmmhbhdcplfmaaGreat.heard c g).r := heard_sz h.1 h.2.1 h.2.2 hH (Nat.le_refl _) (Nat.le_refl _)
theorem RB.recv {c : Con} {H : Nat} (h : RB H c.r) (hH : 3 ≤ H) (g : Seg) : RB H (received c g).1.r := by
  unfold received answered; (repeat' split) <;> first | exact h | exact RB.heard h hH g | exact RB.pump (RB.heard h hH g) _
theorem RB.newC (t : Tup) (iss irs : Int) (o : Opt) (w : Int) : RB 3 (connNew t iss irs o w).r := by
  unfold connNew; (repeat' split) <;> exact RB.new _
end Go.Proofs.YtnmmhbhdcplfmaaGreat
/- Plain laws: a new connection (no program in sight). -/
namespace Go.Proofs.YtnmmhbhdcplfmaaGreat
open Go.RowKit
end Go.Proofs.YtnmmhbhdcplfmaaGreat
/- Plain laws: what is taken, turned, acceptable (no program in sight). -/
namespace Go.Proofs.YtnmmhbhdcplfmaaGreat
open Go.RowKit
end Go.Proofs.YtnmmhbhdcplfmaaGreat
/- Plain laws: a right connection stays right (no program in sight). -/
namespace Go.Proofs.YtnmmhbhdcplfmaaGreat
open Go.RowKit
end Go.Proofs.YtnmmhbhdcplfmaaGreat
/- Plain laws: the verdict (no program in sight). -/
namespace Go.Proofs.YtnmmhbhdcplfmaaGreat
open Go.RowKit
def fl (x m : Int) : Int := IntKind.i64.wrap (BitVec.ofInt 64 x &&& BitVec.ofInt 64 m).toNat
theorem hasF_eq (x m : Int) : hasF x m = (fl x m == m) := rfl
theorem fl4 (x : Int) : fl x 4 = if (BitVec.ofInt 64 x).getLsbD 2 then 4 else 0 := by
  unfold fl
  have e : BitVec.ofInt 64 4 = BitVec.twoPow 64 2 := by decide
  rw [e, BitVec.and_twoPow]; split <;> rfl
theorem fl2 (x : Int) : fl x 2 = if (BitVec.ofInt 64 x).getLsbD 1 then 2 else 0 := by
  unfold fl
  have e : BitVec.ofInt 64 2 = BitVec.twoPow 64 1 := by decide
  rw [e, BitVec.and_twoPow]; split <;> rfl
theorem fl6 (x : Int) : fl x 6 = fl x 4 + fl x 2 := by
  rw [fl4, fl2]
  unfold fl
  have e : BitVec.ofInt 64 6 = BitVec.twoPow 64 2 ||| BitVec.twoPow 64 1 := by decide
  rw [e, BitVec.and_or_distrib_left, BitVec.and_twoPow, BitVec.and_twoPow]
  split <;> split <;> rfl
theorem v_reset {c : Con} {g : Seg} (h : verdict c g = 2) : fl g.flags 4 ≠ 0 ∧ g.seq = c.r.next ∧ c.state ≠ 8 := by
  unfold verdict at h
  split at h
  · omega
  rename_i h1
  simp only [Bool.or_eq_true, Bool.not_eq_true', decide_eq_true_eq, not_or, Bool.not_eq_false] at h1
  split at h
  · rename_i h4
    rw [hasF_eq, beq_iff_eq] at h4
    split at h
    · rename_i h5; exact ⟨by rw [h4]; decide, h5, h1.2.1⟩
    · split at h <;> omega
  · (repeat' split at h) <;> omega
theorem fl2_nz {x : Int} (h : hasF x 2 = false) : fl x 2 = 0 := by
  rw [hasF_eq, beq_eq_false_iff_ne, fl2] at h; rw [fl2]; split at h <;> simp_all
theorem fl4_nz {x : Int} (h : hasF x 4 = false) : fl x 4 = 0 := by
  rw [hasF_eq, beq_eq_false_iff_ne, fl4] at h; rw [fl4]; split at h <;> simp_all
theorem v_fine {c : Con} {g : Seg} (h : verdict c g = 5) : fl g.flags 6 = 0 ∧ fl g.flags 16 ≠ 0 ∧ ackFits c g.ack = true ∧ acceptable c g = true ∧ seqDiff g.ack (nextOf c.s) ≤ 0 ∧ -c.most ≤ seqDiff g.ack c.s.una ∧ (0 ≤ c.most ∧ c.most ≤ 1073725440) := by
  obtain ⟨h1, h2, h3, h4, h5, h6, h7, h8⟩ := verdict_fine h
  have hb := conOk_bd h1
  refine ⟨by rw [fl6, fl4_nz h4, fl2_nz h5]; rfl, ?_, h8, h6, ?_, ?_, hb.1, hb.2.1⟩
  · rw [hasF_eq, beq_iff_eq] at h7; rw [h7]; decide
  · obtain ⟨b0, b1, b2, b3, b4, b5, b6, b7, -⟩ := senderOk_bd (conOk_s h1)
    unfold ackFits at h8; simp only [Bool.and_eq_true, decide_eq_true_eq] at h8
    unfold nextOf
    have e := h8
    unfold seqDiff seqAdd at *
    (repeat' split at e) <;> (repeat' split) <;> omega
  · unfold ackFits at h8; simp only [Bool.and_eq_true, decide_eq_true_eq] at h8
    omega
theorem v_chal {c : Con} {g : Seg} (h : verdict c g = 3) : fl g.flags 6 ≠ 0 ∨ ackFits c g.ack = false := by
  unfold verdict at h
  split at h
  · omega
  split at h
  · rename_i h4
    rw [hasF_eq, beq_iff_eq] at h4
    left; rw [fl6, h4, fl2]; split <;> omega
  split at h
  · rename_i h2
    rw [hasF_eq, beq_iff_eq] at h2
    left; rw [fl6, h2, fl4]; split <;> omega
  (repeat' split at h) <;> first | omega | (right; simp_all)
end Go.Proofs.YtnmmhbhdcplfmaaGreat
