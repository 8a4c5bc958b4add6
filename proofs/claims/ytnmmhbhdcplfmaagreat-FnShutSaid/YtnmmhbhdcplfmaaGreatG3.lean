/- Plain definitions, the machine and its rules: what this law's contracts need of them, part 3. -/
import Derived.Test.YtnmmhbhdcplfmaaGreatG1
import Derived.Test.YtnmmhbhdcplfmaaGreatA3
import Derived.Test.YtnmmhbhdcplfmaaGreatA4
import Derived.Test.YtnmmhbhdcplfmaaGreatA5
import Derived.Test.YtnmmhbhdcplfmaaGreatG2
import Derived.Test.YtnmmhbhdcplfmaaGreatYW
import Derived.Test.YtnmmhbhdcplfmaaGreatYD
/- Contracts: slices of Piece in the laws. -/
namespace Go.Proofs.YtnmmhbhdcplfmaaGreat
open Go.RowKit
attribute [local go_sem] lt_gap le_gap eq_gap gap_eq lt_ones2 lt_ones3 lt_ones4 lt_ones5 lt_ones6 lt_ones7 lt_ones8 lt_gap_1 lt_gap_2 lt_gap_3 lt_gap_4 lt_gap_5 lt_gap_6 size_grow cell?_grow frozen?_grow setCell_grow drew_grow drewN_grow
attribute [local go_sem] boxOf_alloc_at boxOf_alloc_past boxOf_grow boxOf_drew boxOf_drewN isBox_alloc_at isBox_alloc_past isBox_grow isBox_drew isBox_drewN putAt_all putAt setCells_alloc_at setCells_alloc_past setCells_grow setCells_drew
set_option linter.unusedVariables false
set_option linter.unusedSimpArgs false

end Go.Proofs.YtnmmhbhdcplfmaaGreat
/- Contracts (C1). -/
namespace Go.Proofs.YtnmmhbhdcplfmaaGreat
open Go.RowKit
attribute [local go_sem] lt_gap le_gap eq_gap gap_eq lt_ones2 lt_ones3 lt_ones4 lt_ones5 lt_ones6 lt_ones7 lt_ones8 lt_gap_1 lt_gap_2 lt_gap_3 lt_gap_4 lt_gap_5 lt_gap_6 size_grow cell?_grow frozen?_grow setCell_grow drew_grow drewN_grow
attribute [local go_sem] boxOf_alloc_at boxOf_alloc_past boxOf_grow boxOf_drew boxOf_drewN isBox_alloc_at isBox_alloc_past isBox_grow isBox_drew isBox_drewN putAt_all putAt setCells_alloc_at setCells_alloc_past setCells_grow setCells_drew
attribute [local go_sem ↓] pload_implConn pstore_implConn pload_implReceiver pstore_implReceiver pload_implSegment pstore_implSegment
attribute [local go_sem] Value.oneCell' load_implConn store_implConn load_implReceiver store_implReceiver load_implSegment store_implSegment
set_option linter.unusedVariables false
set_option linter.unusedSimpArgs false

end Go.Proofs.YtnmmhbhdcplfmaaGreat
/- Plain definitions: marks (no program in sight). -/
namespace Go.Proofs.YtnmmhbhdcplfmaaGreat
open Go.RowKit
def marks {α : Type} (mk : Int → α) (c k : Int) (n : Nat) : List α := (List.range n).map fun (i : Nat) => mk (k + c * (i : Int))
end Go.Proofs.YtnmmhbhdcplfmaaGreat
/- Plain definitions: the pump (no program in sight). -/
namespace Go.Proofs.YtnmmhbhdcplfmaaGreat
open Go.RowKit
theorem bytes_ext {a b : ByteArray} (h : a.data.toList = b.data.toList) : a = b := by
  cases a; cases b; simp only at h; congr 1; exact Array.toList_inj.1 h
theorem ext_ext (a : ByteArray) (i n : Nat) (h : i + n ≤ a.size) : (a.extract i a.size).extract 0 n = a.extract i (i + n) := by
  apply bytes_ext
  simp only [ByteArray.data_extract, Array.toList_extract]
  simp [List.extract, List.drop_take, List.take_take]
theorem ext_size (a : ByteArray) (i j : Nat) (h : j ≤ a.size) : (a.extract i j).size = j - i := by rw [ByteArray.size_extract]; omega
theorem chunkN_i {s : Snd} {window mss : Int} (h : senderOk s = true) : max 0 (min (min ((s.data.extract s.sent.toNat s.data.size).size : Int) mss) (max window (-1) - flown s)) = chunkN s window mss := by
  obtain ⟨b0, b1, b2, b3, b4, b5, b6, b7, b8, b9, b10⟩ := senderOk_bd h
  rw [ext_size _ _ _ (Nat.le_refl _)]
  unfold chunkN wnd; omega
theorem chunkN_bd {s : Snd} {window mss : Int} (h : senderOk s = true) : 0 ≤ chunkN s window mss ∧ s.sent + chunkN s window mss ≤ s.data.size ∧ chunkN s window mss ≤ wnd s window ∧ 0 ≤ wnd s window ∧ wnd s window ≤ 1000000 := by
  obtain ⟨b0, b1, b2, b3, b4, b5, b6, b7, b8, b9, b10⟩ := senderOk_bd h
  unfold chunkN wnd; omega
theorem wnd_lt {s : Snd} {window mss : Int} (h : senderOk s = true) : (chunkN s window mss < max window (-1) - flown s) ↔ chunkN s window mss < wnd s window := by
  obtain ⟨b0, b1, b2, b3, b4, b5, b6, b7, b8, b9, b10⟩ := senderOk_bd h
  unfold chunkN wnd; omega
theorem toList_nil {a : ByteArray} : a.toList = [] ↔ a.size = 0 := by
  rw [ByteArray.toList_eq]
  show a.data.toList = [] ↔ a.data.size = 0
  rw [← Array.length_toList]; exact List.length_eq_zero_iff.symm
theorem chunk_text {s : Snd} {window mss : Int} (h : senderOk s = true) : (s.data.extract s.sent.toNat (s.sent + chunkN s window mss).toNat).size = (chunkN s window mss).toNat := by
  obtain ⟨b0, b1, b2, b3, b4, b5, b6, b7, b8, b9, b10⟩ := senderOk_bd h
  obtain ⟨c0, c1, c2, c3, c4⟩ := chunkN_bd (window := window) (mss := mss) h
  rw [ext_size _ _ _ (by omega)]; omega
theorem wnd_s {s : Snd} {window : Int} : max 0 (max 0 (min window 1000000) - flown s) = wnd s window := rfl
theorem rest_size {s : Snd} (h : senderOk s = true) : ((s.data.extract s.sent.toNat s.data.size).size : Int) = (s.data.size : Int) - s.sent := by
  obtain ⟨b0, b1, b2, b3, b4, -⟩ := senderOk_bd h
  rw [ext_size _ _ _ (Nat.le_refl _)]; omega
theorem chunkN_j {s : Snd} {window mss : Int} (h : senderOk s = true) : max 0 (min (min ((s.data.size : Int) - s.sent) mss) (max window (-1) - flown s)) = chunkN s window mss := by
  rw [← chunkN_i h, rest_size h]
theorem chunk_ext {s : Snd} {window mss : Int} (h : senderOk s = true) : (s.data.extract s.sent.toNat s.data.size).extract 0 (chunkN s window mss).toNat = s.data.extract s.sent.toNat (s.sent + chunkN s window mss).toNat := by
  obtain ⟨b0, b1, b2, b3, b4, -⟩ := senderOk_bd h
  obtain ⟨c0, c1, -⟩ := chunkN_bd (window := window) (mss := mss) h
  rw [ext_ext _ _ _ (by omega)]; congr 1; omega
theorem chunk_nil {s : Snd} {window mss : Int} (h : senderOk s = true) : ((s.data.extract s.sent.toNat (s.sent + chunkN s window mss).toNat).toList == (⟨#[]⟩ : ByteArray).toList) = (chunkN s window mss == 0) := by
  obtain ⟨c0, c1, -⟩ := chunkN_bd (window := window) (mss := mss) h
  have ht := chunk_text (window := window) (mss := mss) h
  rw [show (⟨#[]⟩ : ByteArray).toList = [] from toList_lit0, Bool.eq_iff_iff, beq_iff_eq, beq_iff_eq, toList_nil, ht]; omega
def mssO (o : Opt) : Int := if o.mss = 0 then 536 else max 1 (min o.mss 1460)
def meas (s : Snd) : Nat := (s.data.size - s.sent.toNat) + (if s.finSent then 0 else 1)
theorem sentS_fin (s : Snd) (c : Chk) (h : senderOk (sentS s c) = true) (hf : c.fin = true) : s.fin = true := by
  obtain ⟨-, -, -, -, -, -, -, -, b8, -, -⟩ := senderOk_bd h
  exact (b8 (by simp [sentS, hf])).1
theorem next_ok {s : Snd} {window mss : Int} (h : (nextChunk s window mss).2 = true) : senderOk s = true ∧ (nextChunk s window mss).1 = ⟨nextOf s, s.data.extract s.sent.toNat (s.sent + chunkN s window mss).toNat, chunkFin s window mss⟩ ∧ (chunkN s window mss ≠ 0 ∨ chunkFin s window mss = true) := by
  unfold nextChunk at h ⊢
  split at h
  · rename_i hs
    split at h
    · simp at h
    · rename_i hc
      refine ⟨hs, by rw [if_pos hs, if_neg hc], ?_⟩
      simp only [Bool.and_eq_true, decide_eq_true_eq, Bool.not_eq_true', not_and, Bool.not_eq_false] at hc
      by_cases h0 : chunkN s window mss = 0
      · exact .inr (hc h0)
      · exact .inl h0
  · simp at h
theorem sent_next {s : Snd} {window mss : Int} (h : (nextChunk s window mss).2 = true) : sentOff s (nextChunk s window mss).1 = { s with sent := s.sent + chunkN s window mss, finSent := s.finSent || chunkFin s window mss } ∧ senderOk { s with sent := s.sent + chunkN s window mss, finSent := s.finSent || chunkFin s window mss } = true := by
  obtain ⟨hs, hc, hne⟩ := next_ok h
  have hx := chunkN_bd (window := window) (mss := mss) hs
  have ht := chunk_text (window := window) (mss := mss) hs
  have hb := senderOk_bd hs
  obtain ⟨c0, c1, c2, c3, c4⟩ := hx
  obtain ⟨b0, b1, b2, b3, b4, b5, b6, b7, b8, b9, b10⟩ := hb
  have e : sentS s (nextChunk s window mss).1 = { s with sent := s.sent + chunkN s window mss, finSent := s.finSent || chunkFin s window mss } := by
    rw [hc]; unfold sentS; simp only [ht]
    rw [show s.sent + ((chunkN s window mss).toNat : Int) = s.sent + chunkN s window mss by omega, wrap_id (by omega) (by omega)]
  have hs2 := hs
  unfold senderOk at hs2
  simp only [Bool.and_eq_true, decide_eq_true_eq, Bool.or_eq_true, Bool.not_eq_true'] at hs2
  have hok : senderOk { s with sent := s.sent + chunkN s window mss, finSent := s.finSent || chunkFin s window mss } = true := by
    unfold senderOk
    simp only [Bool.and_eq_true, decide_eq_true_eq, Bool.or_eq_true, Bool.not_eq_true', inB]
    obtain ⟨⟨⟨⟨g1, g2⟩, g3⟩, g4⟩, g5⟩ := hs2
    refine ⟨⟨⟨⟨g1, g2⟩, by omega, by omega⟩, ?_⟩, ?_⟩
    · cases hf : chunkFin s window mss
      · cases hq : s.finSent
        · exact .inl rfl
        · right
          have := b8 hq
          exact ⟨this.1, by omega⟩
      · right
        unfold chunkFin at hf
        simp only [Bool.and_eq_true, decide_eq_true_eq, Bool.not_eq_true'] at hf
        exact ⟨hf.1, hf.2.2.2.1⟩
    · rcases g5 with g5 | g5
      · exact .inl g5
      · cases hd : s.done
        · exact .inl rfl
        · right
          refine ⟨⟨g5.1.1, ?_⟩, g5.2⟩
          have : chunkFin s window mss = false := by unfold chunkFin; simp [hd]
          rw [this, g5.1.2]; rfl
  refine ⟨?_, hok⟩
  unfold sentOff
  rw [e, hs, hok]
  have : ((nextChunk s window mss).1.fin && s.done) = false := by
    rw [hc]; simp only
    cases hd : s.done
    · simp
    · unfold chunkFin; simp [hd]
  rw [this]; rfl
theorem meas_next {s : Snd} {window mss : Int} (h : (nextChunk s window mss).2 = true) : meas (sentOff s (nextChunk s window mss).1) < meas s := by
  obtain ⟨e, -⟩ := sent_next h
  obtain ⟨hs, hc, hne⟩ := next_ok h
  obtain ⟨c0, c1, c2, c3, c4⟩ := chunkN_bd (window := window) (mss := mss) hs
  obtain ⟨b0, b1, b2, b3, b4, b5, b6, b7, b8, b9, b10⟩ := senderOk_bd hs
  rw [e]; unfold meas; simp only
  by_cases h0 : chunkN s window mss = 0
  · have hf : chunkFin s window mss = true := hne.resolve_left (fun h => h h0)
    have hq : s.finSent = false := by unfold chunkFin at hf; simp at hf; exact hf.2.1
    simp [h0, hf, hq]
  · cases hq : s.finSent <;> cases hf : chunkFin s window mss <;> simp <;> omega
def pumpC (s : Snd) (window mss : Int) : Snd × List Chk :=
  if _h : (nextChunk s window mss).2 = true then ((pumpC (sentOff s (nextChunk s window mss).1) window mss).1, (nextChunk s window mss).1 :: (pumpC (sentOff s (nextChunk s window mss).1) window mss).2) else (s, [])
termination_by meas s
decreasing_by all_goals exact meas_next (by assumption)
def segOf (c : Con) (ch : Chk) : Seg := ⟨c.t.my, c.t.port, ch.seq, c.r.next, (if ch.text.toList.isEmpty then 16 else 24) + (if ch.fin then 1 else 0), windowOf c.r, ⟨0, -1, false, false, 0, 0⟩, ch.text⟩
def tmr {α : Type} (c : Con) (l : List α) : Int := if l.isEmpty then c.timer else if c.timer = 0 then 3 else c.timer
def pump (c : Con) (window : Int) : Con × List Seg :=
  if conOk c && (!decide (c.state = 8) && !decide (c.state = 7)) then
    ({ c with s := (pumpC c.s window (mssO c.o)).1, timer := tmr c ((pumpC c.s window (mssO c.o)).2.map (segOf c)) }, (pumpC c.s window (mssO c.o)).2.map (segOf c))
  else (c, [])
theorem pumpL_step {c : Con} {s0 s : Snd} {L : List Seg} {row : Seg} {window mss : Int} (h : (nextChunk s window mss).2 = true) (hrow : segOf c (nextChunk s window mss).1 = row)
    (hk : (pumpC s0 window mss).2.map (segOf c) = L ++ (pumpC s window mss).2.map (segOf c)) : (pumpC s0 window mss).2.map (segOf c) = (L ++ [row]) ++ (pumpC (sentOff s (nextChunk s window mss).1) window mss).2.map (segOf c) := by
  rw [hk, pumpC, dif_pos h, ← hrow]; simp
theorem pumpS_step {s0 s : Snd} {window mss : Int} (h : (nextChunk s window mss).2 = true) (hk : (pumpC s0 window mss).1 = (pumpC s window mss).1) : (pumpC s0 window mss).1 = (pumpC (sentOff s (nextChunk s window mss).1) window mss).1 := by
  rw [hk, pumpC, dif_pos h]
theorem pumpL_end {c : Con} {s0 s : Snd} {L : List Seg} {window mss : Int} (h : (nextChunk s window mss).2 = false) (hk : (pumpC s0 window mss).2.map (segOf c) = L ++ (pumpC s window mss).2.map (segOf c)) : (pumpC s0 window mss).2.map (segOf c) = L := by
  rw [hk, pumpC, dif_neg (by rw [h]; simp)]; simp
theorem pumpS_end {s0 s : Snd} {window mss : Int} (h : (nextChunk s window mss).2 = false) (hk : (pumpC s0 window mss).1 = (pumpC s window mss).1) : (pumpC s0 window mss).1 = s := by
  rw [hk, pumpC, dif_neg (by rw [h]; simp)]
theorem pump_yes {c : Con} {s : Snd} {L : List Seg} {window t : Int} (h1 : conOk c = true) (h2 : ¬ c.state = 8) (h3 : ¬ c.state = 7) (hS : (pumpC c.s window (mssO c.o)).1 = s) (hL : (pumpC c.s window (mssO c.o)).2.map (segOf c) = L) (ht : tmr c L = t) : pump c window = ({ c with s := s, timer := t }, L) := by
  unfold pump; rw [hS, hL, ht, if_pos (by simp [h1, h2, h3])]
theorem tmr_next {α : Type} {c : Con} {l : List α} {x : α} {t t' : Int} (h : t = tmr c l) (h' : (if t = 0 then 3 else t) = t') : t' = tmr c (l ++ [x]) := by
  subst h; subst h'; unfold tmr
  cases l with
  | nil => simp
  | cons a l => simp; split <;> simp [*]
theorem row_len {l : List Seg} {x : Seg} {a b n : Nat} (h : l.length + a ≤ n) (hb : b < a) : (l ++ [x]).length + b ≤ n := by simp; omega
theorem conOk_s {c : Con} (h : conOk c = true) : senderOk c.s = true := by
  simp only [conOk, conPre, Bool.and_eq_true] at h; exact h.1.2.1
theorem meas_le {s : Snd} (h : senderOk s = true) : meas s ≤ 49 := by
  obtain ⟨b0, b1, b2, b3, b4, b5, b6, b7, b8, b9, b10⟩ := senderOk_bd h
  unfold meas; split <;> omega
theorem pumpC_len (window mss : Int) (s : Snd) : (pumpC s window mss).2.length ≤ meas s := by
  induction hn : meas s using Nat.strongRecOn generalizing s with
  | _ n ih =>
    rw [pumpC]; split
    · rename_i h
      have h1 := meas_next h
      have := ih _ (by omega) (sentOff s (nextChunk s window mss).1) rfl
      simp only [List.length_cons]; omega
    · simp
theorem pump_bd (c : Con) (window : Int) (h : c.r.held.length ≤ 1048576) : (pump c window).1.r.held.length ≤ 1048576 ∧ (pump c window).2.length ≤ 49 := by
  unfold pump; split
  · rename_i hc
    refine ⟨h, ?_⟩
    simp only [Bool.and_eq_true] at hc
    have hs : senderOk c.s = true := by have := hc.1; simp only [conOk, conPre, Bool.and_eq_true] at this; exact this.1.2.1
    have := pumpC_len window (mssO c.o) c.s; have := meas_le hs
    simp only [List.length_map]; omega
  · exact ⟨h, by simp⟩
end Go.Proofs.YtnmmhbhdcplfmaaGreat
/- Plain definitions: calls and ticks (no program in sight). -/
namespace Go.Proofs.YtnmmhbhdcplfmaaGreat
open Go.RowKit
def shut (c : Con) : Con × List Seg :=
  if conOk c then (if c.state = 1 then pump { c with s := { c.s with fin := true }, state := 2 } c.window else if c.state = 4 then pump { c with s := { c.s with fin := true }, state := 6 } c.window else (c, [])) else (c, [])
def write (c : Con) (text : ByteArray) : Con × Int × List Seg :=
  if conOk c && (decide (c.state = 1) || decide (c.state = 4)) then ((pump { c with s := (queued c.s text).1 } c.window).1, (queued c.s text).2, (pump { c with s := (queued c.s text).1 } c.window).2) else (c, 0, [])
def tickConn (c : Con) : Con × List Seg :=
  if waits c then
    (if c.timer = 0 then ({ c with timer := if c.state = 7 then 3 else 2 }, [])
     else if 0 < c.timer - 1 then ({ c with timer := c.timer - 1 }, [])
     else if c.state = 7 then ({ c with state := 8, timer := c.timer - 1, tries := 0 }, [])
     else if c.tries = 3 then ({ c with state := 8, timer := 0, tries := 0 }, [{ ackOf c with flags := 20 }])
     else ({ (pump { c with s := rewound c.s, timer := c.timer - 1, tries := c.tries + 1 } (max 1 c.window)).1 with timer := 3 }, (pump { c with s := rewound c.s, timer := c.timer - 1, tries := c.tries + 1 } (max 1 c.window)).2))
  else if conOk c then ({ c with timer := 0, tries := 0 }, []) else (c, [])
theorem conOk_bd {c : Con} (h : conOk c = true) : 0 ≤ c.most ∧ c.most ≤ 1073725440 ∧ 0 ≤ c.window ∧ c.window ≤ 1073725440 ∧ 0 ≤ c.timer ∧ c.timer ≤ 4 ∧ 0 ≤ c.tries ∧ c.tries ≤ 3 ∧ 1 ≤ c.state ∧ c.state ≤ 8 := by
  simp only [conOk, conPre, conMid, Bool.and_eq_true] at h
  obtain ⟨⟨-, -, -, -, h1⟩, ⟨h2, h3, h4, h5⟩, -⟩ := h
  rw [inB_tt] at h1 h2 h3 h4 h5
  refine ⟨by omega, by omega, by omega, by omega, by omega, ?_, by omega, by omega, by omega, by omega⟩
  split at h4 <;> omega
theorem waits_ok {c : Con} (h : waits c = true) : conOk c = true := by
  unfold waits at h; simp only [Bool.and_eq_true] at h; exact h.1
theorem shut_bd (c : Con) (h : c.r.held.length ≤ 1048576) : (shut c).1.r.held.length ≤ 1048576 ∧ (shut c).2.length ≤ 49 := by
  unfold shut; (repeat' split) <;> first | exact pump_bd _ _ h | exact ⟨h, by simp⟩
theorem write_bd (c : Con) (t : ByteArray) (h : c.r.held.length ≤ 1048576) : (write c t).1.r.held.length ≤ 1048576 ∧ (write c t).2.2.length ≤ 49 := by
  unfold write; split
  · exact pump_bd _ _ h
  · exact ⟨h, by simp⟩
theorem tickConn_bd (c : Con) (h : c.r.held.length ≤ 1048576) : (tickConn c).1.r.held.length ≤ 1048576 ∧ (tickConn c).2.length ≤ 49 := by
  unfold tickConn; (repeat' split) <;> first | exact pump_bd _ _ h | exact ⟨h, by simp⟩
end Go.Proofs.YtnmmhbhdcplfmaaGreat
/- Plain definitions: what is heard, and received (no program in sight). -/
namespace Go.Proofs.YtnmmhbhdcplfmaaGreat
open Go.RowKit
def heardMid (c : Con) (g : Seg) : Con :=
  if (acked c.s g.ack).2 then
    (if (¬ (acked c.s g.ack).1.una = c.s.una ∨ flown (acked c.s g.ack).1 = 0) ∧ ¬ c.state = 7 then
      { c with s := (acked c.s g.ack).1, window := farW g.window c.o, most := max c.most (farW g.window c.o), tries := 0, timer := if 0 < flown (acked c.s g.ack).1 then 3 else 0 }
     else { c with s := (acked c.s g.ack).1, window := farW g.window c.o, most := max c.most (farW g.window c.o) })
  else c
def heardR (c : Con) (g : Seg) : Rcv := if inB c.state 1 3 then arrived c.r g.seq g.body (hasF g.flags 1) else c.r
def heard (c : Con) (g : Seg) : Con := if verdict c g = 5 then turned { heardMid c g with r := heardR c g } else c
def answered (c : Con) (g : Seg) : Con × List Seg :=
  if c.state = 8 then (c, []) else ((pump c c.window).1, if 0 < segLen g ∧ (pump c c.window).2.length = 0 then [ackOf c] else (pump c c.window).2)
def received (c : Con) (g : Seg) : Con × List Seg × Int :=
  if verdict c g = 1 then (c, [], 1)
  else if verdict c g = 2 then ({ c with state := 8, timer := 0, tries := 0 }, [], 2)
  else if verdict c g = 3 then (c, [ackOf c], 3)
  else if verdict c g = 4 then (if c.state = 7 ∧ hasF g.flags 1 = true then { c with timer := 4 } else c, [ackOf c], 4)
  else ((answered (heard c g) g).1, (answered (heard c g) g).2, 5)
theorem received_ack {c : Con} {g : Seg} {tm : Int} (h : verdict c g = 4) (htm : tm = if verdict c g = 4 ∧ c.state = 7 ∧ hasF g.flags 1 = true then 4 else c.timer) : received c g = ({ c with timer := tm }, [ackOf c], 4) := by
  unfold received; rw [if_neg (by omega), if_neg (by omega), if_neg (by omega), if_pos h]
  by_cases hx : c.state = 7 ∧ hasF g.flags 1 = true
  · rw [if_pos hx, htm, if_pos ⟨h, hx⟩]
  · rw [if_neg hx, htm, if_neg (fun e => hx e.2)]
theorem received_chal {c : Con} {g : Seg} {tm : Int} (h : verdict c g = 3) (htm : tm = if verdict c g = 4 ∧ c.state = 7 ∧ hasF g.flags 1 = true then 4 else c.timer) : received c g = ({ c with timer := tm }, [ackOf c], 3) := by
  unfold received; rw [if_neg (by omega), if_neg (by omega), if_pos h, htm, if_neg (fun e => by omega)]
theorem verdict_rng (c : Con) (g : Seg) : 1 ≤ verdict c g ∧ verdict c g ≤ 5 := by unfold verdict; (repeat' split) <;> omega
theorem verdict_fine {c : Con} {g : Seg} (h : verdict c g = 5) : conOk c = true ∧ ¬ c.state = 8 ∧ segmentOk g = true ∧ hasF g.flags 4 = false ∧ hasF g.flags 2 = false ∧ acceptable c g = true ∧ hasF g.flags 16 = true ∧ ackFits c g.ack = true := by
  unfold verdict at h
  split at h
  · omega
  rename_i h1
  simp only [Bool.or_eq_true, Bool.not_eq_true', decide_eq_true_eq, not_or, Bool.not_eq_false] at h1
  split at h
  · (repeat' split at h) <;> omega
  split at h
  · omega
  split at h
  · omega
  split at h
  · omega
  split at h
  · omega
  simp_all
theorem conOk_r {c : Con} (h : conOk c = true) : receiverOk c.r = true ∧ optionsOk c.o = true ∧ tupleOk c.t = true := by
  simp only [conOk, conPre, Bool.and_eq_true] at h; exact ⟨h.1.2.2.1, h.1.2.2.2.1, h.1.1⟩
theorem segmentOk_w {g : Seg} (h : segmentOk g = true) : 0 ≤ g.window ∧ g.window ≤ 65535 := by
  simp only [segmentOk, Bool.and_eq_true] at h; exact wordOk16_bd h.2.2.1
theorem farW_bd {w : Int} {o : Opt} (h : 0 ≤ w ∧ w ≤ 65535) (ho : optionsOk o = true) : 0 ≤ farW w o ∧ farW w o ≤ 1073725440 := by
  have := optionsOk_bd ho
  unfold farW
  exact ⟨Int.mul_nonneg h.1 (Int.pow_nonneg (by omega)), far_le h.1 h.2 (by omega) (by omega)⟩
theorem pcs_bd : ∀ (l : List Int) (acc : List Pce) (j : Nat), (∀ p ∈ acc, 0 ≤ p.off ∧ p.off + (p.text.size : Int) ≤ (j : Int)) → ∀ p ∈ pcs acc j l, 0 ≤ p.off ∧ p.off + (p.text.size : Int) ≤ ((j + l.length : Nat) : Int)
  | [], acc, j, h, p, hp => by simpa using h p hp
  | x :: l, acc, j, h, p, hp => by
    rw [pcs] at hp
    have := pcs_bd l _ (j + 1) (fun q hq => by
      split at hq
      · have := h q hq; omega
      · have := addByte_bd h q hq; omega) p hp
    rw [List.length_cons]; omega
theorem arrived_sz {r : Rcv} {seq : Int} {t : ByteArray} {fin : Bool} {H T D : Nat} (h1 : r.held.length ≤ H) (h2 : ∀ p ∈ r.held, p.text.size ≤ T) (h3 : r.data.size ≤ D) (hH : 3 ≤ H) (hT : 33 ≤ T) (hD : 65 ≤ D) :
    (arrived r seq t fin).held.length ≤ H ∧ (∀ p ∈ (arrived r seq t fin).held, p.text.size ≤ T) ∧ (arrived r seq t fin).data.size ≤ D := by
  unfold arrived
  split
  · rename_i hok
    simp only [Bool.and_eq_true] at hok
    have hr := rok_facts hok.1
    have hl := allIn_len r seq t
    have hb : ∀ p ∈ pcs [] 0 ((allIn r seq t).drop (filled (allIn r seq t))), p.text.size ≤ T := fun p hp => by
      have := pcs_bd _ [] 0 (by simp) p hp
      rw [List.length_drop, hl] at this; omega
    have hd : (r.data ++ bstr ((allIn r seq t).take (filled (allIn r seq t)))).size ≤ D := by
      rw [ByteArray.size_append, bstr_len, List.length_take, hl]; omega
    split
    · exact ⟨h1, h2, h3⟩
    · rename_i hn
      split
      · exact ⟨by dsimp only; omega, hb, hd⟩
      · exact ⟨by dsimp only; omega, hb, hd⟩
  · exact ⟨h1, h2, h3⟩
theorem turned_w (c : Con) : (turned c).window = c.window ∧ (turned c).s = c.s ∧ (turned c).r = c.r ∧ (turned c).most = c.most ∧ (turned c).o = c.o ∧ (turned c).t = c.t := by unfold turned; (repeat' split) <;> exact ⟨rfl, rfl, rfl, rfl, rfl, rfl⟩
theorem heardMid_eq (c : Con) (g : Seg) : (heardMid c g).r = c.r ∧ (heardMid c g).t = c.t ∧ (heardMid c g).state = c.state ∧ (heardMid c g).o = c.o := by unfold heardMid; (repeat' split) <;> exact ⟨rfl, rfl, rfl, rfl⟩
theorem heardR_sz {c : Con} {g : Seg} {H T D : Nat} (h1 : c.r.held.length ≤ H) (h2 : ∀ p ∈ c.r.held, p.text.size ≤ T) (h3 : c.r.data.size ≤ D) (hH : 3 ≤ H) (hT : 33 ≤ T) (hD : 65 ≤ D) :
    (heardR c g).held.length ≤ H ∧ (∀ p ∈ (heardR c g).held, p.text.size ≤ T) ∧ (heardR c g).data.size ≤ D := by
  unfold heardR; split
  · exact arrived_sz h1 h2 h3 hH hT hD
  · exact ⟨h1, h2, h3⟩
theorem heard_r (c : Con) (g : Seg) : (heard c g).r = heardR c g ∨ (heard c g).r = c.r := by
  unfold heard; split
  · rw [(turned_w _).2.2.1]; exact .inl rfl
  · exact .inr rfl
theorem heard_sz {c : Con} {g : Seg} {H T D : Nat} (h1 : c.r.held.length ≤ H) (h2 : ∀ p ∈ c.r.held, p.text.size ≤ T) (h3 : c.r.data.size ≤ D) (hH : 3 ≤ H) (hT : 33 ≤ T) (hD : 65 ≤ D) :
    (heard c g).r.held.length ≤ H ∧ (∀ p ∈ (heard c g).r.held, p.text.size ≤ T) ∧ (heard c g).r.data.size ≤ D := by
  rcases heard_r c g with e | e <;> rw [e]
  · exact heardR_sz h1 h2 h3 hH hT hD
  · exact ⟨h1, h2, h3⟩
theorem heard_w {c : Con} {g : Seg} (h : verdict c g = 5) : 0 ≤ (heard c g).window ∧ (heard c g).window ≤ 1073725440 := by
  obtain ⟨h1, -, h3, -⟩ := verdict_fine h
  have hf := farW_bd (segmentOk_w h3) (conOk_r h1).2.1
  have hc := conOk_bd h1
  unfold heard; rw [if_pos h, (turned_w _).1]
  show 0 ≤ (heardMid c g).window ∧ (heardMid c g).window ≤ _
  unfold heardMid; (repeat' split) <;> first | exact hf | exact ⟨hc.2.2.1, hc.2.2.2.1⟩
end Go.Proofs.YtnmmhbhdcplfmaaGreat
/- Plain definitions: sizes of what is drawn (no program in sight). -/
namespace Go.Proofs.YtnmmhbhdcplfmaaGreat
open Go.RowKit
def RB (H : Nat) (r : Rcv) : Prop := r.held.length ≤ H ∧ (∀ p ∈ r.held, p.text.size ≤ 33) ∧ r.data.size ≤ 65
theorem RB.kn {r : Rcv} (h : RB 4 r) : r.held.length ≤ 1048576 := Nat.le_trans h.1 (by decide)
theorem RB.hm {r : Rcv} {H : Nat} (h : RB H r) : ∀ p ∈ r.held, p.text.size ≤ 1048576 := fun p hp => Nat.le_trans (h.2.1 p hp) (by decide)
theorem RB.sz {r : Rcv} {H : Nat} (h : RB H r) : r.data.size ≤ 4611686018427387904 := Nat.le_trans h.2.2 (by decide)
theorem RB.up {r : Rcv} (h : RB 3 r) : RB 4 r := ⟨Nat.le_trans h.1 (by decide), h.2.1, h.2.2⟩
theorem RB.new (n : Int) : RB 3 (receiverNew n) := ⟨Nat.zero_le _, fun p hp => by simp [receiverNew] at hp, Nat.zero_le _⟩
theorem RB.arr {r : Rcv} {H : Nat} (h : RB H r) (hH : 3 ≤ H) (seq : Int) (t : ByteArray) (fin : Bool) : RB H (arrived r seq t fin) := arrived_sz h.1 h.2.1 h.2.2 hH (Nat.le_refl _) (Nat.le_refl _)
theorem RB.taken {r : Rcv} {H : Nat} (h : RB H r) (n : Int) : RB H (takenIn r n).1 := ⟨by rw [takenIn_held]; exact h.1, by rw [takenIn_held]; exact h.2.1, Nat.le_trans (takenIn_sz r n) h.2.2⟩
theorem RB.more {r : Rcv} (h : RB 3 r) (p : Pce) (hp : p.text.size ≤ 33) {d : ByteArray} (hd : d.size ≤ 65) {next fin : Int} {done : Bool} : RB 4 ⟨next, d, r.held ++ [p], fin, done⟩ :=
  ⟨by rw [List.length_append]; have := h.1; simp; omega, fun q hq => by
    rcases List.mem_append.1 hq with hq | hq
    · exact h.2.1 q hq
    · rw [List.mem_singleton] at hq; subst hq; exact hp, hd⟩
theorem pump_r (c : Con) (w : Int) : (pump c w).1.r = c.r := by unfold pump; split <;> rfl
theorem RB.pump {c : Con} {H : Nat} (h : RB H c.r) (w : Int) : RB H (Go.Proofs.YtnmmhbhdcplfmaaGreat.pump c w).1.r := by rw [pump_r]; exact h
theorem RB.write {c : Con} {H : Nat} (h : RB H c.r) (t : ByteArray) : RB H (Go.Proofs.YtnmmhbhdcplfmaaGreat.write c t).1.r := by unfold Go.Proofs.YtnmmhbhdcplfmaaGreat.write; split <;> first | (dsimp only; rw [pump_r]; exact h) | exact h
theorem RB.shut {c : Con} {H : Nat} (h : RB H c.r) : RB H (Go.Proofs.YtnmmhbhdcplfmaaGreat.shut c).1.r := by
  unfold Go.Proofs.YtnmmhbhdcplfmaaGreat.shut; (repeat' split) <;> first | exact h | (rw [pump_r]; exact h)
theorem RB.tick {c : Con} {H : Nat} (h : RB H c.r) : RB H (tickConn c).1.r := by
  unfold tickConn; (repeat' split) <;> first | exact h | (dsimp only; rw [pump_r]; exact h)
theorem RB.read {c : Con} {H : Nat} (h : RB H c.r) (n : Int) : RB H (readConn c n).1.r := by
  unfold readConn; (repeat' split) <;> first | exact h | exact RB.taken h n
theorem RB.heard {c : Con} {H : Nat} (h : RB H c.r) (hH : 3 ≤ H) (g : Seg) : RB H (Go.Proofs.YtnmmhbhdcplfmaaGreat.heard c g).r := heard_sz h.1 h.2.1 h.2.2 hH (Nat.le_refl _) (Nat.le_refl _)
theorem RB.recv {c : Con} {H : Nat} (h : RB H c.r) (hH : 3 ≤ H) (g : Seg) : RB H (received c g).1.r := by
  unfold received answered; (repeat' split) <;> first | exact h | exact RB.heard h hH g | exact RB.pump (RB.heard h hH g) _
theorem RB.newC (t : Tup) (iss irs : Int) (o : Opt) (w : Int) : RB 3 (connNew t iss irs o w).r := by
  unfold connNew; (repeat' split) <;> exact RB.new _
end Go.Proofs.YtnmmhbhdcplfmaaGreat
/- Plain laws: a new connection (no program in sight). -/
namespace Go.Proofs.YtnmmhbhdcplfmaaGreat
open Go.RowKit
theorem sameL_self {α : Type} {eq : α → α → Bool} (h : ∀ x, eq x x = true) (l : List α) : sameL eq l l = true := sameL_yes rfl fun i x y h1 h2 => by
  rw [h1] at h2; simp only [Option.some.injEq] at h2; subst h2; exact h x
theorem sameConn_self (c : Con) : sameConn c c = true := by
  simp [sameConn, sameReceiver, tupEq, sndEq, optEq, sameL_self (eq := pceEq) (fun x => by simp [pceEq])]
end Go.Proofs.YtnmmhbhdcplfmaaGreat
/- Plain laws: what is taken, turned, acceptable (no program in sight). -/
namespace Go.Proofs.YtnmmhbhdcplfmaaGreat
open Go.RowKit
end Go.Proofs.YtnmmhbhdcplfmaaGreat
/- Plain laws: a right connection stays right (no program in sight). -/
namespace Go.Proofs.YtnmmhbhdcplfmaaGreat
open Go.RowKit
theorem pumpC_inv (window mss : Int) (s : Snd) (hs : senderOk s = true) : senderOk (pumpC s window mss).1 = true ∧ (pumpC s window mss).1.data = s.data ∧ (pumpC s window mss).1.una = s.una ∧ (pumpC s window mss).1.fin = s.fin ∧ (pumpC s window mss).1.done = s.done := by
  induction hn : meas s using Nat.strongRecOn generalizing s with
  | _ n ih =>
    rw [pumpC]; split
    · rename_i h
      have h1 := meas_next h
      obtain ⟨e, hok⟩ := sent_next h
      rw [← e] at hok
      obtain ⟨g1, g2, g3, g4, g5⟩ := ih _ (by omega) (sentOff s (nextChunk s window mss).1) hok rfl
      dsimp only
      rw [g2, g3, g4, g5]
      refine ⟨g1, ?_⟩
      rw [e]; exact ⟨rfl, rfl, rfl, rfl⟩
    · exact ⟨hs, rfl, rfl, rfl, rfl⟩
theorem conOk_iff {c : Con} : conOk c = true ↔ (tupleOk c.t = true ∧ senderOk c.s = true ∧ receiverOk c.r = true ∧ optionsOk c.o = true ∧ (1 ≤ c.state ∧ c.state ≤ 8)) ∧ ((0 ≤ c.most ∧ c.most ≤ 1073725440) ∧ (0 ≤ c.window ∧ c.window ≤ c.most) ∧ (0 ≤ c.timer ∧ c.timer ≤ (if c.state = 7 then 4 else 3)) ∧ (0 ≤ c.tries ∧ c.tries ≤ 3)) ∧ stateFits c = true := by
  simp only [conOk, conPre, conMid, Bool.and_eq_true, inB_tt]
theorem conOk_set {c : Con} (h : conOk c = true) {s : Snd} {st tm tr : Int} (hs : senderOk s = true) (h8 : 1 ≤ st ∧ st ≤ 8) (ht : 0 ≤ tm ∧ tm ≤ (if st = 7 then 4 else 3)) (hr : 0 ≤ tr ∧ tr ≤ 3) (hf : stateFits { c with s := s, state := st } = true) : conOk { c with s := s, state := st, timer := tm, tries := tr } = true := by
  obtain ⟨⟨g1, g2, g3, g4, g5⟩, ⟨m1, m2, m3, m4⟩, g6⟩ := conOk_iff.1 h
  exact conOk_iff.2 ⟨⟨g1, hs, g3, g4, h8⟩, ⟨m1, m2, ht, hr⟩, hf⟩
theorem fits_same {c : Con} {s : Snd} (h : stateFits c = true) (h1 : s.fin = c.s.fin) (h2 : s.done = c.s.done) : stateFits { c with s := s } = true := by
  unfold stateFits at h ⊢; simp only [h1, h2]; exact h
theorem pump_ok {c : Con} (w : Int) (h : conOk c = true) : conOk (pump c w).1 = true := by
  unfold pump
  split
  · rename_i hc
    simp only [Bool.and_eq_true, Bool.not_eq_true', decide_eq_false_iff_not] at hc
    obtain ⟨⟨g1, g2, g3, g4, g5⟩, ⟨m1, m2, m3, m4⟩, g6⟩ := conOk_iff.1 h
    obtain ⟨p1, p2, p3, p4, p5⟩ := pumpC_inv w (mssO c.o) c.s g2
    exact conOk_set h p1 g5 (by rw [if_neg hc.2.2] at m3 ⊢; unfold tmr; split <;> (first | exact m3 | (split <;> omega))) m4 (fits_same g6 p4 p5)
  · exact h
theorem pump_s {c : Con} (w : Int) (h : conOk c = true) : (pump c w).1.s.data = c.s.data ∧ (pump c w).1.s.una = c.s.una ∧ (pump c w).1.s.fin = c.s.fin ∧ (pump c w).1.s.done = c.s.done ∧ (pump c w).1.state = c.state ∧ (pump c w).1.t = c.t := by
  unfold pump
  split
  · obtain ⟨p1, p2, p3, p4, p5⟩ := pumpC_inv w (mssO c.o) c.s (conOk_s h)
    exact ⟨p2, p3, p4, p5, rfl, rfl⟩
  · exact ⟨rfl, rfl, rfl, rfl, rfl, rfl⟩
theorem abort_ok {c : Con} (h : conOk c = true) : conOk (abort c).1 = true ∧ (abort c).1.state = 8 ∧ ((abort c).2.length = 0 ↔ c.state = 8) := by
  unfold abort
  by_cases h8 : c.state = 8
  · rw [if_pos (by simp [h8])]; exact ⟨h, h8, by simp [h8]⟩
  · rw [if_neg (by simp [h, h8])]
    obtain ⟨⟨g1, g2, g3, g4, g5⟩, ⟨m1, m2, m3, m4⟩, g6⟩ := conOk_iff.1 h
    exact ⟨conOk_set h g2 (by omega) (by omega) (by omega) rfl, rfl, by simp [h8]⟩
theorem abort_both {c : Con} (h : conOk c = true) : ((c.state == 8) == ((((abort c).2.length : Nat) : Int) == 0)) = true := by
  have e := (abort_ok h).2.2
  by_cases h8 : c.state = 8
  · have h0 := e.2 h8; simp [h8, h0]
  · have h0 : ¬ (abort c).2.length = 0 := fun q => h8 (e.1 q)
    rw [beq_eq_false_iff_ne.2 h8, beq_eq_false_iff_ne.2 (show (((abort c).2.length : Nat) : Int) ≠ 0 by omega)]; rfl
theorem abort_no {c : Con} (h : conOk c = false) : abort c = (c, []) := by unfold abort; rw [if_pos (by simp [h])]
theorem shut_no {c : Con} (h : conOk c = false) : shut c = (c, []) := by unfold shut; rw [if_neg (by rw [h]; simp)]
theorem fin_ok {s : Snd} (h : senderOk s = true) (hf : s.fin = false) : senderOk { s with fin := true } = true := by
  unfold senderOk at h ⊢
  simp only [Bool.and_eq_true, hf] at h ⊢
  obtain ⟨⟨⟨⟨g1, g2⟩, g3⟩, g4⟩, g5⟩ := h
  refine ⟨⟨⟨⟨g1, g2⟩, g3⟩, ?_⟩, ?_⟩
  · cases hs : s.finSent <;> simp_all
  · cases hd : s.done <;> simp_all
theorem shut_ok {c : Con} (h : conOk c = true) : conOk (shut c).1 = true ∧ (shut c).1.state ≠ 1 ∧ (shut c).1.state ≠ 4 := by
  obtain ⟨⟨g1, g2, g3, g4, g5⟩, ⟨m1, m2, m3, m4⟩, g6⟩ := conOk_iff.1 h
  unfold shut; rw [if_pos h]
  split
  · rename_i h1
    have hf : c.s.fin = false ∧ c.s.done = false ∧ c.r.done = false := by unfold stateFits at g6; simp [h1] at g6; exact ⟨g6.1, g6.2.1, g6.2.2⟩
    have hk : conOk { c with s := { c.s with fin := true }, state := 2 } = true := conOk_set h (fin_ok g2 hf.1) (by omega) (by rw [h1] at m3; simpa using m3) m4 (by unfold stateFits; simp [hf])
    have := pump_s c.window hk
    exact ⟨pump_ok _ hk, by rw [this.2.2.2.2.1]; simp, by rw [this.2.2.2.2.1]; simp⟩
  · rename_i h1
    split
    · rename_i h4
      have hf : c.s.fin = false ∧ c.s.done = false ∧ c.r.done = true := by unfold stateFits at g6; simp [h4] at g6; exact ⟨g6.1, g6.2.1, g6.2.2⟩
      have hk : conOk { c with s := { c.s with fin := true }, state := 6 } = true := conOk_set h (fin_ok g2 hf.1) (by omega) (by rw [h4] at m3; simpa using m3) m4 (by unfold stateFits; simp [hf])
      have := pump_s c.window hk
      exact ⟨pump_ok _ hk, by rw [this.2.2.2.2.1]; simp, by rw [this.2.2.2.2.1]; simp⟩
    · rename_i h4
      exact ⟨h, h1, h4⟩
theorem write_none {c : Con} (t : ByteArray) (h : ¬ (conOk c = true ∧ (c.state = 1 ∨ c.state = 4))) : write c t = (c, 0, []) := by
  unfold write; rw [if_neg (by simpa using h)]
theorem RB.abort {c : Con} {H : Nat} (h : RB H c.r) : RB H (Go.Proofs.YtnmmhbhdcplfmaaGreat.abort c).1.r := by unfold Go.Proofs.YtnmmhbhdcplfmaaGreat.abort; split <;> exact h
end Go.Proofs.YtnmmhbhdcplfmaaGreat
