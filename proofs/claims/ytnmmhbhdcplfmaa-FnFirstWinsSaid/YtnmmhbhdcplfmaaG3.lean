/- Plain definitions, the machine and its rules: what this law's contracts need of them, part 3. -/
import Derived.Test.YtnmmhbhdcplfmaaG1
import Derived.Test.YtnmmhbhdcplfmaaA3
import Derived.Test.YtnmmhbhdcplfmaaA4
import Derived.Test.YtnmmhbhdcplfmaaA5
import Derived.Test.YtnmmhbhdcplfmaaG2
import Derived.Test.YtnmmhbhdcplfmaaYW
import Derived.Test.YtnmmhbhdcplfmaaYD
/- Contracts: slices of Piece in the laws. -/
namespace Go.Proofs.Ytnmmhbhdcplfmaa
open Go.RowKit
attribute [local go_sem] lt_gap le_gap eq_gap gap_eq lt_ones2 lt_ones3 lt_ones4 lt_ones5 lt_ones6 lt_ones7 lt_ones8 lt_gap_1 lt_gap_2 lt_gap_3 lt_gap_4 lt_gap_5 lt_gap_6 size_grow cell?_grow frozen?_grow setCell_grow drew_grow drewN_grow
attribute [local go_sem] boxOf_alloc_at boxOf_alloc_past boxOf_grow boxOf_drew boxOf_drewN isBox_alloc_at isBox_alloc_past isBox_grow isBox_drew isBox_drewN putAt_all putAt setCells_alloc_at setCells_alloc_past setCells_grow setCells_drew
set_option linter.unusedVariables false
set_option linter.unusedSimpArgs false

end Go.Proofs.Ytnmmhbhdcplfmaa
/- Contracts (C1). -/
namespace Go.Proofs.Ytnmmhbhdcplfmaa
open Go.RowKit
attribute [local go_sem] lt_gap le_gap eq_gap gap_eq lt_ones2 lt_ones3 lt_ones4 lt_ones5 lt_ones6 lt_ones7 lt_ones8 lt_gap_1 lt_gap_2 lt_gap_3 lt_gap_4 lt_gap_5 lt_gap_6 size_grow cell?_grow frozen?_grow setCell_grow drew_grow drewN_grow
attribute [local go_sem] boxOf_alloc_at boxOf_alloc_past boxOf_grow boxOf_drew boxOf_drewN isBox_alloc_at isBox_alloc_past isBox_grow isBox_drew isBox_drewN putAt_all putAt setCells_alloc_at setCells_alloc_past setCells_grow setCells_drew
attribute [local go_sem ↓] pload_implConn pstore_implConn pload_implReceiver pstore_implReceiver pload_implSegment pstore_implSegment
attribute [local go_sem] Value.oneCell' load_implConn store_implConn load_implReceiver store_implReceiver load_implSegment store_implSegment
set_option linter.unusedVariables false
set_option linter.unusedSimpArgs false

end Go.Proofs.Ytnmmhbhdcplfmaa
/- Plain definitions: marks (no program in sight). -/
namespace Go.Proofs.Ytnmmhbhdcplfmaa
open Go.RowKit
def marks {α : Type} (mk : Int → α) (c k : Int) (n : Nat) : List α := (List.range n).map fun (i : Nat) => mk (k + c * (i : Int))
end Go.Proofs.Ytnmmhbhdcplfmaa
/- Plain definitions: the pump (no program in sight). -/
namespace Go.Proofs.Ytnmmhbhdcplfmaa
open Go.RowKit
theorem bytes_ext {a b : ByteArray} (h : a.data.toList = b.data.toList) : a = b := by
  cases a; cases b; simp only at h; congr 1; exact Array.toList_inj.1 h
theorem ext_size (a : ByteArray) (i j : Nat) (h : j ≤ a.size) : (a.extract i j).size = j - i := by rw [ByteArray.size_extract]; omega
theorem chunkN_bd {s : Snd} {window mss : Int} (h : senderOk s = true) : 0 ≤ chunkN s window mss ∧ s.sent + chunkN s window mss ≤ s.data.size ∧ chunkN s window mss ≤ wnd s window ∧ 0 ≤ wnd s window ∧ wnd s window ≤ 1000000 := by
  obtain ⟨b0, b1, b2, b3, b4, b5, b6, b7, b8, b9, b10⟩ := senderOk_bd h
  unfold chunkN wnd; omega
theorem toList_nil {a : ByteArray} : a.toList = [] ↔ a.size = 0 := by
  rw [ByteArray.toList_eq]
  show a.data.toList = [] ↔ a.data.size = 0
  rw [← Array.length_toList]; exact List.length_eq_zero_iff.symm
theorem chunk_text {s : Snd} {window mss : Int} (h : senderOk s = true) : (s.data.extract s.sent.toNat (s.sent + chunkN s window mss).toNat).size = (chunkN s window mss).toNat := by
  obtain ⟨b0, b1, b2, b3, b4, b5, b6, b7, b8, b9, b10⟩ := senderOk_bd h
  obtain ⟨c0, c1, c2, c3, c4⟩ := chunkN_bd (window := window) (mss := mss) h
  rw [ext_size _ _ _ (by omega)]; omega
def mssO (o : Opt) : Int := if o.mss = 0 then 536 else max 1 (min o.mss 1460)
def meas (s : Snd) : Nat := (s.data.size - s.sent.toNat) + (if s.finSent then 0 else 1)
theorem next_ok {s : Snd} {window mss : Int} (h : (nextChunk s window mss).2 = true) : senderOk s = true ∧ (nextChunk s window mss).1 = ⟨nextOf s, s.data.extract s.sent.toNat (s.sent + chunkN s window mss).toNat, chunkFin s window mss⟩ ∧ (chunkN s window mss ≠ 0 ∨ chunkFin s window mss = true) := by
  unfold nextChunk at h ⊢
  split at h
  · rename_i hs
    split at h
    · simp at h
    · rename_i hc
      refine ⟨hs, by rw [if_pos hs, if_neg hc], ?_⟩
      simp only [Bool.and_eq_true, decide_eq_true_eq, Bool.not_eq_true', not_and, Bool.not_eq_false] at hc
      by_cases h0 : chunkN s window mss = 0
      · exact .inr (hc h0)
      · exact .inl h0
  · simp at h
theorem sent_next {s : Snd} {window mss : Int} (h : (nextChunk s window mss).2 = true) : sentOff s (nextChunk s window mss).1 = { s with sent := s.sent + chunkN s window mss, finSent := s.finSent || chunkFin s window mss } ∧ senderOk { s with sent := s.sent + chunkN s window mss, finSent := s.finSent || chunkFin s window mss } = true := by
  obtain ⟨hs, hc, hne⟩ := next_ok h
  have hx := chunkN_bd (window := window) (mss := mss) hs
  have ht := chunk_text (window := window) (mss := mss) hs
  have hb := senderOk_bd hs
  obtain ⟨c0, c1, c2, c3, c4⟩ := hx
  obtain ⟨b0, b1, b2, b3, b4, b5, b6, b7, b8, b9, b10⟩ := hb
  have e : sentS s (nextChunk s window mss).1 = { s with sent := s.sent + chunkN s window mss, finSent := s.finSent || chunkFin s window mss } := by
    rw [hc]; unfold sentS; simp only [ht]
    rw [show s.sent + ((chunkN s window mss).toNat : Int) = s.sent + chunkN s window mss by omega, wrap_id (by omega) (by omega)]
  have hs2 := hs
  unfold senderOk at hs2
  simp only [Bool.and_eq_true, decide_eq_true_eq, Bool.or_eq_true, Bool.not_eq_true'] at hs2
  have hok : senderOk { s with sent := s.sent + chunkN s window mss, finSent := s.finSent || chunkFin s window mss } = true := by
    unfold senderOk
    simp only [Bool.and_eq_true, decide_eq_true_eq, Bool.or_eq_true, Bool.not_eq_true', inB]
    obtain ⟨⟨⟨⟨g1, g2⟩, g3⟩, g4⟩, g5⟩ := hs2
    refine ⟨⟨⟨⟨g1, g2⟩, by omega, by omega⟩, ?_⟩, ?_⟩
    · cases hf : chunkFin s window mss
      · cases hq : s.finSent
        · exact .inl rfl
        · right
          have := b8 hq
          exact ⟨this.1, by omega⟩
      · right
        unfold chunkFin at hf
        simp only [Bool.and_eq_true, decide_eq_true_eq, Bool.not_eq_true'] at hf
        exact ⟨hf.1, hf.2.2.2.1⟩
    · rcases g5 with g5 | g5
      · exact .inl g5
      · cases hd : s.done
        · exact .inl rfl
        · right
          refine ⟨⟨g5.1.1, ?_⟩, g5.2⟩
          have : chunkFin s window mss = false := by unfold chunkFin; simp [hd]
          rw [this, g5.1.2]; rfl
  refine ⟨?_, hok⟩
  unfold sentOff
  rw [e, hs, hok]
  have : ((nextChunk s window mss).1.fin && s.done) = false := by
    rw [hc]; simp only
    cases hd : s.done
    · simp
    · unfold chunkFin; simp [hd]
  rw [this]; rfl
theorem meas_next {s : Snd} {window mss : Int} (h : (nextChunk s window mss).2 = true) : meas (sentOff s (nextChunk s window mss).1) < meas s := by
  obtain ⟨e, -⟩ := sent_next h
  obtain ⟨hs, hc, hne⟩ := next_ok h
  obtain ⟨c0, c1, c2, c3, c4⟩ := chunkN_bd (window := window) (mss := mss) hs
  obtain ⟨b0, b1, b2, b3, b4, b5, b6, b7, b8, b9, b10⟩ := senderOk_bd hs
  rw [e]; unfold meas; simp only
  by_cases h0 : chunkN s window mss = 0
  · have hf : chunkFin s window mss = true := hne.resolve_left (fun h => h h0)
    have hq : s.finSent = false := by unfold chunkFin at hf; simp at hf; exact hf.2.1
    simp [h0, hf, hq]
  · cases hq : s.finSent <;> cases hf : chunkFin s window mss <;> simp <;> omega
def pumpC (s : Snd) (window mss : Int) : Snd × List Chk :=
  if _h : (nextChunk s window mss).2 = true then ((pumpC (sentOff s (nextChunk s window mss).1) window mss).1, (nextChunk s window mss).1 :: (pumpC (sentOff s (nextChunk s window mss).1) window mss).2) else (s, [])
termination_by meas s
decreasing_by all_goals exact meas_next (by assumption)
def segOf (c : Con) (ch : Chk) : Seg := ⟨c.t.my, c.t.port, ch.seq, c.r.next, (if ch.text.toList.isEmpty then 16 else 24) + (if ch.fin then 1 else 0), windowOf c.r, ⟨0, -1, false, false, 0, 0⟩, ch.text⟩
def tmr {α : Type} (c : Con) (l : List α) : Int := if l.isEmpty then c.timer else if c.timer = 0 then 3 else c.timer
def pump (c : Con) (window : Int) : Con × List Seg :=
  if conOk c && (!decide (c.state = 8) && !decide (c.state = 7)) then
    ({ c with s := (pumpC c.s window (mssO c.o)).1, timer := tmr c ((pumpC c.s window (mssO c.o)).2.map (segOf c)) }, (pumpC c.s window (mssO c.o)).2.map (segOf c))
  else (c, [])
end Go.Proofs.Ytnmmhbhdcplfmaa
/- Plain definitions: calls and ticks (no program in sight). -/
namespace Go.Proofs.Ytnmmhbhdcplfmaa
open Go.RowKit
def write (c : Con) (text : ByteArray) : Con × Int × List Seg :=
  if conOk c && (decide (c.state = 1) || decide (c.state = 4)) then ((pump { c with s := (queued c.s text).1 } c.window).1, (queued c.s text).2, (pump { c with s := (queued c.s text).1 } c.window).2) else (c, 0, [])
end Go.Proofs.Ytnmmhbhdcplfmaa
/- Plain definitions: what is heard, and received (no program in sight). -/
namespace Go.Proofs.Ytnmmhbhdcplfmaa
open Go.RowKit
def heardMid (c : Con) (g : Seg) : Con :=
  if (acked c.s g.ack).2 then
    (if (¬ (acked c.s g.ack).1.una = c.s.una ∨ flown (acked c.s g.ack).1 = 0) ∧ ¬ c.state = 7 then
      { c with s := (acked c.s g.ack).1, window := farW g.window c.o, most := max c.most (farW g.window c.o), tries := 0, timer := if 0 < flown (acked c.s g.ack).1 then 3 else 0 }
     else { c with s := (acked c.s g.ack).1, window := farW g.window c.o, most := max c.most (farW g.window c.o) })
  else c
def heardR (c : Con) (g : Seg) : Rcv := if inB c.state 1 3 then arrived c.r g.seq g.body (hasF g.flags 1) else c.r
def heard (c : Con) (g : Seg) : Con := if verdict c g = 5 then turned { heardMid c g with r := heardR c g } else c
def answered (c : Con) (g : Seg) : Con × List Seg :=
  if c.state = 8 then (c, []) else ((pump c c.window).1, if 0 < segLen g ∧ (pump c c.window).2.length = 0 then [ackOf c] else (pump c c.window).2)
def received (c : Con) (g : Seg) : Con × List Seg × Int :=
  if verdict c g = 1 then (c, [], 1)
  else if verdict c g = 2 then ({ c with state := 8, timer := 0, tries := 0 }, [], 2)
  else if verdict c g = 3 then (c, [ackOf c], 3)
  else if verdict c g = 4 then (if c.state = 7 ∧ hasF g.flags 1 = true then { c with timer := 4 } else c, [ackOf c], 4)
  else ((answered (heard c g) g).1, (answered (heard c g) g).2, 5)
theorem pcs_bd : ∀ (l : List Int) (acc : List Pce) (j : Nat), (∀ p ∈ acc, 0 ≤ p.off ∧ p.off + (p.text.size : Int) ≤ (j : Int)) → ∀ p ∈ pcs acc j l, 0 ≤ p.off ∧ p.off + (p.text.size : Int) ≤ ((j + l.length : Nat) : Int)
  | [], acc, j, h, p, hp => by simpa using h p hp
  | x :: l, acc, j, h, p, hp => by
    rw [pcs] at hp
    have := pcs_bd l _ (j + 1) (fun q hq => by
      split at hq
      · have := h q hq; omega
      · have := addByte_bd h q hq; omega) p hp
    rw [List.length_cons]; omega
theorem arrived_sz {r : Rcv} {seq : Int} {t : ByteArray} {fin : Bool} {H T D : Nat} (h1 : r.held.length ≤ H) (h2 : ∀ p ∈ r.held, p.text.size ≤ T) (h3 : r.data.size ≤ D) (hH : 3 ≤ H) (hT : 33 ≤ T) (hD : 65 ≤ D) :
    (arrived r seq t fin).held.length ≤ H ∧ (∀ p ∈ (arrived r seq t fin).held, p.text.size ≤ T) ∧ (arrived r seq t fin).data.size ≤ D := by
  unfold arrived
  split
  · rename_i hok
    simp only [Bool.and_eq_true] at hok
    have hr := rok_facts hok.1
    have hl := allIn_len r seq t
    have hb : ∀ p ∈ pcs [] 0 ((allIn r seq t).drop (filled (allIn r seq t))), p.text.size ≤ T := fun p hp => by
      have := pcs_bd _ [] 0 (by simp) p hp
      rw [List.length_drop, hl] at this; omega
    have hd : (r.data ++ bstr ((allIn r seq t).take (filled (allIn r seq t)))).size ≤ D := by
      rw [ByteArray.size_append, bstr_len, List.length_take, hl]; omega
    split
    · exact ⟨h1, h2, h3⟩
    · rename_i hn
      split
      · exact ⟨by dsimp only; omega, hb, hd⟩
      · exact ⟨by dsimp only; omega, hb, hd⟩
  · exact ⟨h1, h2, h3⟩
theorem turned_w (c : Con) : (turned c).window = c.window ∧ (turned c).s = c.s ∧ (turned c).r = c.r ∧ (turned c).most = c.most ∧ (turned c).o = c.o ∧ (turned c).t = c.t := by unfold turned; (repeat' split) <;> exact ⟨rfl, rfl, rfl, rfl, rfl, rfl⟩
theorem heardR_sz {c : Con} {g : Seg} {H T D : Nat} (h1 : c.r.held.length ≤ H) (h2 : ∀ p ∈ c.r.held, p.text.size ≤ T) (h3 : c.r.data.size ≤ D) (hH : 3 ≤ H) (hT : 33 ≤ T) (hD : 65 ≤ D) :
    (heardR c g).held.length ≤ H ∧ (∀ p ∈ (heardR c g).held, p.text.size ≤ T) ∧ (heardR c g).data.size ≤ D := by
  unfold heardR; split
  · exact arrived_sz h1 h2 h3 hH hT hD
  · exact ⟨h1, h2, h3⟩
theorem heard_r (c : Con) (g : Seg) : (heard c g).r = heardR c g ∨ (heard c g).r = c.r := by
  unfold heard; split
  · rw [(turned_w _).2.2.1]; exact .inl rfl
  · exact .inr rfl
theorem heard_sz {c : Con} {g : Seg} {H T D : Nat} (h1 : c.r.held.length ≤ H) (h2 : ∀ p ∈ c.r.held, p.text.size ≤ T) (h3 : c.r.data.size ≤ D) (hH : 3 ≤ H) (hT : 33 ≤ T) (hD : 65 ≤ D) :
    (heard c g).r.held.length ≤ H ∧ (∀ p ∈ (heard c g).r.held, p.text.size ≤ T) ∧ (heard c g).r.data.size ≤ D := by
  rcases heard_r c g with e | e <;> rw [e]
  · exact heardR_sz h1 h2 h3 hH hT hD
  · exact ⟨h1, h2, h3⟩
end Go.Proofs.Ytnmmhbhdcplfmaa
/- Plain definitions: sizes of what is drawn (no program in sight). -/
namespace Go.Proofs.Ytnmmhbhdcplfmaa
open Go.RowKit
def RB (H : Nat) (r : Rcv) : Prop := r.held.length ≤ H ∧ (∀ p ∈ r.held, p.text.size ≤ 33) ∧ r.data.size ≤ 65
theorem RB.kn {r : Rcv} (h : RB 4 r) : r.held.length ≤ 1048576 := Nat.le_trans h.1 (by decide)
theorem RB.hm {r : Rcv} {H : Nat} (h : RB H r) : ∀ p ∈ r.held, p.text.size ≤ 1048576 := fun p hp => Nat.le_trans (h.2.1 p hp) (by decide)
theorem RB.sz {r : Rcv} {H : Nat} (h : RB H r) : r.data.size ≤ 4611686018427387904 := Nat.le_trans h.2.2 (by decide)
theorem RB.up {r : Rcv} (h : RB 3 r) : RB 4 r := ⟨Nat.le_trans h.1 (by decide), h.2.1, h.2.2⟩
theorem RB.new (n : Int) : RB 3 (receiverNew n) := ⟨Nat.zero_le _, fun p hp => by simp [receiverNew] at hp, Nat.zero_le _⟩
theorem RB.arr {r : Rcv} {H : Nat} (h : RB H r) (hH : 3 ≤ H) (seq : Int) (t : ByteArray) (fin : Bool) : RB H (arrived r seq t fin) := arrived_sz h.1 h.2.1 h.2.2 hH (Nat.le_refl _) (Nat.le_refl _)
theorem RB.taken {r : Rcv} {H : Nat} (h : RB H r) (n : Int) : RB H (takenIn r n).1 := ⟨by rw [takenIn_held]; exact h.1, by rw [takenIn_held]; exact h.2.1, Nat.le_trans (takenIn_sz r n) h.2.2⟩
theorem RB.more {r : Rcv} (h : RB 3 r) (p : Pce) (hp : p.text.size ≤ 33) {d : ByteArray} (hd : d.size ≤ 65) {next fin : Int} {done : Bool} : RB 4 ⟨next, d, r.held ++ [p], fin, done⟩ :=
  ⟨by rw [List.length_append]; have := h.1; simp; omega, fun q hq => by
    rcases List.mem_append.1 hq with hq | hq
    · exact h.2.1 q hq
    · rw [List.mem_singleton] at hq; subst hq; exact hp, hd⟩
theorem pump_r (c : Con) (w : Int) : (pump c w).1.r = c.r := by unfold pump; split <;> rfl
theorem RB.pump {c : Con} {H : Nat} (h : RB H c.r) (w : Int) : RB H (Go.Proofs.Ytnmmhbhdcplfmaa.pump c w).1.r := by rw [pump_r]; exact h
theorem RB.write {c : Con} {H : Nat} (h : RB H c.r) (t : ByteArray) : RB H (Go.Proofs.Ytnmmhbhdcplfmaa.write c t).1.r := by unfold Go.Proofs.Ytnmmhbhdcplfmaa.write; split <;> first | (dsimp only; rw [pump_r]; exact h) | exact h
theorem RB.read {c : Con} {H : Nat} (h : RB H c.r) (n : Int) : RB H (readConn c n).1.r := by
  unfold readConn; (repeat' split) <;> first | exact h | exact RB.taken h n
theorem RB.heard {c : Con} {H : Nat} (h : RB H c.r) (hH : 3 ≤ H) (g : Seg) : RB H (Go.Proofs.Ytnmmhbhdcplfmaa.heard c g).r := heard_sz h.1 h.2.1 h.2.2 hH (Nat.le_refl _) (Nat.le_refl _)
end Go.Proofs.Ytnmmhbhdcplfmaa
/- Plain definitions: the slots as two arrays, and what is kept of them (no program in sight). -/
namespace Go.Proofs.Ytnmmhbhdcplfmaa
open Go.RowKit
set_option linter.unusedVariables false
def hvOf (W : Nat) (sl : List Int) : List Bool := (sl.take W).map fun x => decide (0 ≤ x)
def dtOf (W : Nat) (sl : List Int) : List Int := (sl.take W).map fun x => max x 0
def stOne (sl : List Int) (off : Nat) (x : Int) : List Int := if 0 ≤ slotAt sl off then sl else sl.set off x
theorem hvOf_len {W : Nat} {sl : List Int} (h : W ≤ sl.length) : (hvOf W sl).length = W := by unfold hvOf; simp; omega
theorem dtOf_len {W : Nat} {sl : List Int} (h : W ≤ sl.length) : (dtOf W sl).length = W := by unfold dtOf; simp; omega
theorem hvOf_get {W off : Nat} {sl : List Int} {x : Int} (hw : off < W) (h : sl[off]? = some x) : (hvOf W sl)[off]? = some (decide (0 ≤ x)) := by
  unfold hvOf; rw [List.getElem?_map, List.getElem?_take_of_lt hw, h]; rfl
theorem dtOf_get {W off : Nat} {sl : List Int} {x : Int} (hw : off < W) (h : sl[off]? = some x) : (dtOf W sl)[off]? = some (max x 0) := by
  unfold dtOf; rw [List.getElem?_map, List.getElem?_take_of_lt hw, h]; rfl
theorem hvOf_set {W off : Nat} {sl : List Int} {x : Int} (hx : 0 ≤ x) : (hvOf W sl).set off true = hvOf W (sl.set off x) := by
  unfold hvOf; rw [List.take_set, List.map_set, show decide (0 ≤ x) = true from decide_eq_true hx]
theorem dtOf_set {W off : Nat} {sl : List Int} {x : Int} (hx : 0 ≤ x) : (dtOf W sl).set off x = dtOf W (sl.set off x) := by
  unfold dtOf; rw [List.take_set, List.map_set, show max x 0 = x by omega]
theorem hvOf_start {W : Nat} (h : W ≤ 33) : hvOf W (List.replicate 33 (-1)) = List.replicate W false := by
  unfold hvOf; rw [List.take_replicate, List.map_replicate, Nat.min_eq_left h]; rfl
theorem dtOf_start {W : Nat} (h : W ≤ 33) : dtOf W (List.replicate 33 (-1)) = List.replicate W 0 := by
  unfold dtOf; rw [List.take_replicate, List.map_replicate, Nat.min_eq_left h]; rfl
theorem stOne_len (sl : List Int) (off : Nat) (x : Int) : (stOne sl off x).length = sl.length := by unfold stOne; split <;> simp
theorem stOne_free {sl : List Int} {off : Nat} {x z : Int} (h : sl[off]? = some z) (hz : z < 0) : stOne sl off x = sl.set off x := by
  unfold stOne; rw [slotAt_of h, if_neg (by omega)]
theorem stOne_full {sl : List Int} {off : Nat} {x z : Int} (h : sl[off]? = some z) (hz : 0 ≤ z) : stOne sl off x = sl := by
  unfold stOne; rw [slotAt_of h, if_pos hz]
theorem stOne_far {sl : List Int} {off j : Nat} {x : Int} (h : off ≠ j) : (stOne sl off x)[j]? = sl[j]? := by
  unfold stOne; split
  · rfl
  · rw [List.getElem?_set_ne h]
def arrF (B gh gd bh bd T1 T2 e1 e2 W : Nat) (sl : List Int) : Fact := allF [cellF B gh T1 [.slice (some ⟨bh, 0, none⟩) W W], cellF B gd T2 [.slice (some ⟨bd, 0, none⟩) W W], rowF B e1 1 (.slice (some ⟨bh, 0, none⟩) W W) ((hvOf W sl).map boolRow), rowF B e2 1 (.slice (some ⟨bd, 0, none⟩) W W) ((dtOf W sl).map byteRow)]
theorem arrF_lo {B gh gd bh bd T1 T2 e1 e2 W : Nat} {sl : List Int} {w : World} (h : (arrF B gh gd bh bd T1 T2 e1 e2 W sl).p w) {b : Nat} (hb : (arrF B gh gd bh bd T1 T2 e1 e2 W sl).blk b) : B ≤ b := by
  obtain ⟨g, hg, hq⟩ := hb
  have hp := h.1 g hg
  simp only [List.mem_cons, List.not_mem_nil, or_false] at hg
  rcases hg with rfl | rfl | rfl | rfl
  · have e : b = gh := hq
    subst e; exact hp.1
  · have e : b = gd := hq
    subst e; exact hp.1
  · exact rowF_lo hp hq
  · exact rowF_lo hp hq
theorem arrF_blk {B gh gd bh bd T1 T2 e1 e2 W : Nat} {sl sl' : List Int} {b : Nat} (hb : (arrF B gh gd bh bd T1 T2 e1 e2 W sl').blk b) : (arrF B gh gd bh bd T1 T2 e1 e2 W sl).blk b := by
  obtain ⟨g, hg, hq⟩ := hb
  simp only [List.mem_cons, List.not_mem_nil, or_false] at hg
  rcases hg with rfl | rfl | rfl | rfl
  · exact ⟨_, by simp, hq⟩
  · exact ⟨_, .tail _ (.head _), hq⟩
  · exact ⟨_, .tail _ (.tail _ (.head _)), hq⟩
  · exact ⟨_, .tail _ (.tail _ (.tail _ (.head _))), hq⟩
theorem xcm_arr {P : Program} {w0 : World} {fs : List Fact} {f : FuncId} {args : List Value} {v : Value} {B gh gd bh bd T1 T2 e1 e2 W : Nat} {sl sl' : List Int}
    (h : ∀ w, w0.heap.size ≤ w.heap.size → (∀ g ∈ fs, g.p w) → Calls P f args.toArray w fun e w' => e = .returned v ∧ (arrF B gh gd bh bd T1 T2 e1 e2 W sl').p w' ∧ Chgd (arrF B gh gd bh bd T1 T2 e1 e2 W sl).blk w w') :
    XCM P w0 fs (arrF B gh gd bh bd T1 T2 e1 e2 W sl).blk f args (α := Unit) (fun _ => v) (fun _ => [arrF B gh gd bh bd T1 T2 e1 e2 W sl']) := fun w hw hf => (h w hw hf).mono fun e w' ⟨he, hp, hc⟩ =>
  ⟨(), he, fun g hg => by
    obtain rfl : g = arrF B gh gd bh bd T1 T2 e1 e2 W sl' := by simpa using hg
    exact ⟨hp, fun b hb => .inl (arrF_blk hb)⟩, Apart.one _, hc⟩
theorem apart_frS {gs : List Fact} {W : World} {S : Nat → Prop} (h : Apart gs) (hS : ∀ g ∈ gs, ∀ b, g.blk b → S b) : Apart (gs ++ [frF W S]) :=
  h.append (Apart.one _) fun f hf g hg b hb hgb => by
    obtain rfl : g = frF W S := by simpa using hg
    exact hgb.2 (hS f hf b hb)
theorem own4 {f1 f2 f3 f4 : Fact} (h1 : f1.own = true) (h2 : f2.own = true) (h3 : f3.own = true) (h4 : f4.own = true) : ∀ g ∈ [f1, f2, f3, f4], g.own = true := fun g hg => by
  simp only [List.mem_cons, List.not_mem_nil, or_false] at hg
  rcases hg with rfl | rfl | rfl | rfl <;> assumption
theorem rok_held {r : Rcv} (h : receiverOk r = true) : heldOk (if r.fin = -1 then windowOf r else r.fin) 0 r.held = true := by
  unfold receiverOk at h; simp only [Bool.and_eq_true] at h; exact h.2.1
theorem held_step {m e : Int} {l : List Pce} {i : Nat} {p : Pce} (h : heldOk m e (l.drop i) = true) (hx : l[i]? = some p) : e < p.off ∧ p.off + (p.text.size : Int) ≤ m ∧ heldOk m (p.off + (p.text.size : Int)) (l.drop (i + 1)) = true := by
  obtain ⟨hl, e1⟩ := List.getElem?_eq_some_iff.1 hx
  rw [List.drop_eq_getElem_cons hl, e1] at h
  simp only [heldOk, Bool.and_eq_true, decide_eq_true_eq] at h
  exact ⟨h.2.1, by omega, h.2.2.2⟩
theorem text_yes {r : Rcv} {seq : Int} {t : ByteArray} {l : List Int} {k : Nat} (h1 : ((offN r seq k : Nat) : Int) < windowOf r) (h2 : r.fin < 0 ∨ ((offN r seq k : Nat) : Int) < r.fin) : textStep r seq t l k = stOne l (offN r seq k) (byteAt t k) := by
  rw [textStep_eq]; unfold stOne
  by_cases h : 0 ≤ slotAt l (offN r seq k)
  · rw [if_neg (by omega), if_pos h]
  · rw [if_pos ⟨h1, h2, by omega⟩, if_neg h]
theorem text_no {r : Rcv} {seq : Int} {t : ByteArray} {l : List Int} {k : Nat} (h : ¬ (((offN r seq k : Nat) : Int) < windowOf r ∧ (r.fin < 0 ∨ ((offN r seq k : Nat) : Int) < r.fin))) : textStep r seq t l k = l := by
  rw [textStep_eq, if_neg (by rintro ⟨h1, h2, -⟩; exact h ⟨h1, h2⟩)]
def hasB (l : List Bool) (b : Bool) : Bool := l.any (b == ·)
theorem hasB_free {W p : Nat} {sl : List Int} (hbe : ∀ j, W ≤ j → j < 33 → sl[j]? = some (-1)) (hl : sl.length = 33) (hW : W ≤ 32) (hp : p ≤ W) : hasB (((hvOf W sl).drop p).take (W - p)) true = !freeFrom sl p := by
  have e0 : ((hvOf W sl).drop p).take (W - p) = (hvOf W sl).drop p := List.take_of_length_le (by rw [List.length_drop, hvOf_len (by omega)]; omega)
  rw [e0]
  cases hf : freeFrom sl p with
  | true =>
    unfold freeFrom at hf; rw [List.all_eq_true] at hf
    unfold hasB
    rw [Bool.not_true, ← Bool.not_eq_true, List.any_eq_true]
    rintro ⟨x, hx, hq⟩
    unfold hvOf at hx
    rw [← List.map_drop] at hx
    obtain ⟨y, hy, rfl⟩ := List.mem_map.1 hx
    have h1 := hf y (by rw [List.drop_take] at hy; exact List.mem_of_mem_take hy)
    simp at h1 hq; omega
  | false =>
    unfold freeFrom at hf
    rw [Bool.not_false]
    have : ¬ ∀ x ∈ sl.drop p, decide (x < 0) = true := fun h => by rw [List.all_eq_true.2 h] at hf; cases hf
    simp only [Classical.not_forall, decide_eq_true_eq] at this
    obtain ⟨x, hx, hn⟩ := this
    obtain ⟨i, hi⟩ := List.getElem?_of_mem hx
    rw [List.getElem?_drop] at hi
    have hlt : p + i < W := by
      rcases Nat.lt_or_ge (p + i) W with h | h
      · exact h
      · have h3 := (List.getElem?_eq_some_iff.1 hi).1
        rw [hbe _ h (by omega)] at hi
        simp only [Option.some.injEq] at hi; omega
    unfold hasB; rw [List.any_eq_true]
    refine ⟨true, List.mem_of_getElem? (i := i) ?_, rfl⟩
    rw [List.getElem?_drop, hvOf_get hlt hi, show decide (0 ≤ x) = true from decide_eq_true (by omega)]
theorem dt_part {W i n : Nat} {sl : List Int} (h : i + n ≤ W) (hp : ∀ x ∈ (sl.drop i).take n, 0 ≤ x) : ((dtOf W sl).drop i).take n = (sl.drop i).take n := by
  unfold dtOf
  rw [← List.map_drop, ← List.map_take, List.drop_take, List.take_take, Nat.min_eq_left (by omega)]
  conv => rhs; rw [← List.map_id ((sl.drop i).take n)]
  exact List.map_congr_left fun x hx => by have := hp x hx; simp only [id]; omega
theorem pcs_neg (acc : List Pce) : ∀ (l : List Int) (j : Nat), (∀ x ∈ l, x < 0) → pcs acc j l = acc
  | [], _, _ => rfl
  | x :: l, j, h => by rw [pcs, if_pos (h x (by simp))]; exact pcs_neg acc l _ fun y hy => h y (by simp [hy])
theorem beyond_neg {W : Nat} {sl : List Int} (hbe : ∀ j, W ≤ j → j < 33 → sl[j]? = some (-1)) (hl : sl.length = 33) : ∀ x ∈ sl.drop W, x < 0 := fun x hx => by
  obtain ⟨i, hi⟩ := List.getElem?_of_mem hx
  rw [List.getElem?_drop] at hi
  have h3 := (List.getElem?_eq_some_iff.1 hi).1
  rw [hbe _ (by omega) (by omega)] at hi
  simp only [Option.some.injEq] at hi; omega
theorem pcs_piece {sl : List Int} {out : List Pce} {n i j : Nat} (hni : n ≤ i) (hij : i < j) (hj : j ≤ sl.length) (hrun : ∀ x ∈ (sl.drop i).take (j - i), 0 ≤ x) (ht : ¬ touches out (i - n)) :
    pcs out (i - n) (sl.drop i) = pcs (out ++ [⟨((i - n : Nat) : Int), bstr ((sl.drop i).take (j - i))⟩]) (j - n) (sl.drop j) := by
  have hsplit : sl.drop i = (sl.drop i).take (j - i) ++ sl.drop j := by
    conv => lhs; rw [← List.take_append_drop (j - i) (sl.drop i)]
    rw [List.drop_drop]; congr 2; omega
  have hlen : ((sl.drop i).take (j - i)).length = j - i := by rw [List.length_take, List.length_drop]; omega
  cases hc : (sl.drop i).take (j - i) with
  | nil => rw [hc] at hlen; simp at hlen; omega
  | cons x run =>
    rw [hc] at hrun hlen
    conv => lhs; rw [hsplit, hc]
    rw [pcs_begin out (i - n) x run (sl.drop j) (hrun x (by simp)) (fun y hy => hrun y (by simp [hy])) ht]
    congr 1
    simp only [List.length_cons] at hlen ⊢; omega
theorem bd_more {out : List Pce} {a c : Nat} {t : ByteArray} (h : ∀ p ∈ out, 0 ≤ p.off ∧ p.off + (p.text.size : Int) ≤ (a : Int)) (ha : a ≤ c) (ht : a + t.size ≤ c) : ∀ p ∈ out ++ [(⟨(a : Int), t⟩ : Pce)], 0 ≤ p.off ∧ p.off + (p.text.size : Int) ≤ (c : Int) := fun p hp => by
  rcases List.mem_append.1 hp with hp | hp
  · have := h p hp; omega
  · rw [List.mem_singleton] at hp; subst hp; dsimp only; omega
theorem touch_skip {out : List Pce} {m : Nat} (hbd : ∀ p ∈ out, 0 ≤ p.off ∧ p.off + (p.text.size : Int) ≤ (m : Int)) : ¬ touches out (m + 1) := by
  rintro ⟨p, hp, he⟩
  have := hbd p (List.mem_of_getLast? hp); omega
theorem run_more {sl : List Int} {i j : Nat} {x : Int} (hij : i ≤ j) (h : ∀ x ∈ (sl.drop i).take (j - i), 0 ≤ x) (hx : sl[j]? = some x) (h0 : 0 ≤ x) : ∀ x ∈ (sl.drop i).take (j + 1 - i), 0 ≤ x := fun y hy => by
  have e : (sl.drop i).take (j + 1 - i) = (sl.drop i).take (j - i) ++ [x] := by
    rw [show j + 1 - i = (j - i) + 1 by omega, List.take_add_one, List.getElem?_drop, show i + (j - i) = j by omega, hx]; rfl
  rw [e] at hy
  rcases List.mem_append.1 hy with hy | hy
  · exact h y hy
  · rw [List.mem_singleton] at hy; omega
theorem dt_head {W n : Nat} {sl : List Int} (h : n ≤ W) (hp : ∀ x ∈ sl.take n, 0 ≤ x) : bstr (((dtOf W sl).drop 0).take (n - 0)) = bstr (sl.take n) := by
  have := dt_part (W := W) (i := 0) (n := n) (sl := sl) (by omega) (by simpa using hp)
  rw [Nat.sub_zero, this]; simp
def idxL (b : Bool) : List Bool → Nat → Int
  | [], _ => -1
  | x :: xs, k => if b = x then (k : Int) else idxL b xs (k + 1)
theorem idx_has (b : Bool) : ∀ (l : List Bool) (k : Nat), decide (idxL b l k ≥ 0) = hasB l b
  | [], k => rfl
  | x :: xs, k => by
    by_cases h : b = x
    · have e : idxL b (x :: xs) k = k := by rw [idxL, if_pos h]
      rw [show decide (idxL b (x :: xs) k ≥ 0) = true from decide_eq_true (by omega)]
      unfold hasB; simp [h]
    · have e : idxL b (x :: xs) k = idxL b xs (k + 1) := by rw [idxL, if_neg h]
      have h2 := idx_has b xs (k + 1)
      unfold hasB at h2 ⊢
      rw [List.any_cons, ← h2, show (b == x) = false from by simpa using h, Bool.false_or]
      simp only [e]
end Go.Proofs.Ytnmmhbhdcplfmaa
/- Plain laws: a new connection (no program in sight). -/
namespace Go.Proofs.Ytnmmhbhdcplfmaa
open Go.RowKit
end Go.Proofs.Ytnmmhbhdcplfmaa
/- Plain laws: what is taken, turned, acceptable (no program in sight). -/
namespace Go.Proofs.Ytnmmhbhdcplfmaa
open Go.RowKit
theorem pceEq_self (p : Pce) : pceEq p p = true := by simp [pceEq]
theorem sameL_pce (l : List Pce) : sameL pceEq l l = true := sameL_yes rfl fun i x y h1 h2 => by rw [h1] at h2; simp only [Option.some.injEq] at h2; subst h2; exact pceEq_self x
theorem sameR_self (r : Rcv) : sameReceiver r r = true := by unfold sameReceiver; rw [sameL_pce]; simp
end Go.Proofs.Ytnmmhbhdcplfmaa
/- Plain laws: a receiver stays right, and what it has is only made longer (no program in sight). -/
namespace Go.Proofs.Ytnmmhbhdcplfmaa
open Go.RowKit
set_option linter.unusedVariables false
theorem putText_far {l : List Int} {off : Nat} {t : ByteArray} : ∀ (k : Nat) {j : Nat}, off + k ≤ j → (putText l off t k)[j]? = l[j]?
  | 0, _, _ => rfl
  | k + 1, j, h => by
    simp only [putText]; rw [List.getElem?_set_ne (by omega)]; exact putText_far k (by omega)
theorem putHeld_far {m : Int} : ∀ (ps : List Pce) {e : Int} {l : List Int} {j : Nat}, 0 ≤ e → heldOk m e ps = true → m ≤ (j : Int) → (putHeld l ps)[j]? = l[j]?
  | [], _, _, _, _, _, _ => rfl
  | p :: ps, e, l, j, he, h, hj => by
    simp only [heldOk, Bool.and_eq_true, decide_eq_true_eq] at h
    simp only [putHeld]
    rw [putHeld_far ps (by omega) h.2.2.2 hj, putText_far _ (by omega)]
theorem textN_far {r : Rcv} {seq : Int} {t : ByteArray} {l : List Int} {j : Nat} (h : windowOf r ≤ (j : Int) ∨ (0 ≤ r.fin ∧ r.fin ≤ (j : Int))) : ∀ k, (textN r seq t l k)[j]? = l[j]?
  | 0 => rfl
  | k + 1 => by
    simp only [textN]; rw [textStep_eq]
    split
    · rename_i hc
      rw [List.getElem?_set_ne (by omega)]; exact textN_far h k
    · exact textN_far h k
theorem rep33 {j : Nat} (h : j < 33) : (List.replicate 33 (-1 : Int))[j]? = some (-1) := by rw [List.getElem?_replicate, if_pos h]
theorem allIn_far {r : Rcv} {seq : Int} {t : ByteArray} (hr : receiverOk r = true) {j : Nat} (hj : j < 33) (h : windowOf r ≤ (j : Int) ∨ (0 ≤ r.fin ∧ r.fin ≤ (j : Int))) : (allIn r seq t)[j]? = some (-1) := by
  unfold allIn; rw [textN_far h]
  unfold slotsOf
  obtain ⟨hf0, hf1, hf2, hf3, hf4, hheld⟩ := rok_facts hr
  rw [putHeld_far r.held (Int.le_refl 0) (rok_held hr) (by split <;> omega)]
  exact rep33 hj
theorem filled_lt {l : List Int} {k : Nat} {x : Int} (hx : l[k]? = some x) (hn : x < 0) : filled l ≤ k := by
  unfold filled
  induction l generalizing k with
  | nil => simp at hx
  | cons a l ih =>
    rw [List.takeWhile_cons]
    split
    · rename_i ha
      cases k with
      | zero => simp only [List.getElem?_cons_zero, Option.some.injEq] at hx; simp only [decide_eq_true_eq] at ha; omega
      | succ k => simp only [List.getElem?_cons_succ] at hx; rw [List.length_cons]; have := ih hx; omega
    · simp
theorem filled_in {l : List Int} {k : Nat} (hk : k < filled l) : ∃ x, l[k]? = some x ∧ 0 ≤ x := by
  unfold filled at hk
  induction l generalizing k with
  | nil => simp at hk
  | cons a l ih =>
    rw [List.takeWhile_cons] at hk
    split at hk
    · rename_i ha
      cases k with
      | zero => exact ⟨a, rfl, by simpa using ha⟩
      | succ k => rw [List.length_cons] at hk; exact ih (by omega)
    · simp at hk
theorem filled_at {l : List Int} (h : filled l < l.length) : ∃ x, l[filled l]? = some x ∧ x < 0 := by
  unfold filled at h ⊢
  induction l with
  | nil => simp at h
  | cons a l ih =>
    rw [List.takeWhile_cons] at h ⊢
    split
    · rename_i ha
      rw [if_pos ha] at h
      rw [List.length_cons] at h ⊢; simp only [List.getElem?_cons_succ]
      exact ih (by simpa using h)
    · rename_i ha
      exact ⟨a, rfl, by simpa using ha⟩
theorem filled_win {r : Rcv} {seq : Int} {t : ByteArray} (hr : receiverOk r = true) : (filled (allIn r seq t) : Int) ≤ windowOf r := by
  have hw := windowOf_bd r
  have := filled_lt (allIn_far (seq := seq) (t := t) hr (j := (windowOf r).toNat) (by omega) (.inl (by omega))) (by decide)
  omega
def endOf : Int → List Pce → Int
  | e, [] => e
  | _, p :: ps => endOf (p.off + (p.text.size : Int)) ps
theorem endOf_snoc (p : Pce) : ∀ (l : List Pce) (e : Int), endOf e (l ++ [p]) = p.off + (p.text.size : Int)
  | [], _ => rfl
  | q :: l, e => by simp only [List.cons_append, endOf]; exact endOf_snoc p l _
theorem heldOk_snoc (m : Int) (p : Pce) : ∀ (l : List Pce) (e : Int), heldOk m e (l ++ [p]) = (heldOk m e l && (!p.text.toList.isEmpty && (decide (endOf e l < p.off) && decide (p.off ≤ m - p.text.size))))
  | [], e => by simp [heldOk, endOf]; rfl
  | q :: l, e => by
    simp only [List.cons_append, heldOk, endOf]
    rw [heldOk_snoc m p l]
    simp only [Bool.and_assoc]; rfl
theorem nonempty_of {t : ByteArray} (h : 0 < t.size) : (!t.toList.isEmpty) = true := by
  cases hq : t.toList with
  | nil => have := toList_nil.1 hq; omega
  | cons a l => rfl
theorem addByte_ok {m : Int} {acc : List Pce} {j : Nat} {x : Int} (h : heldOk m 0 acc = true) (he : endOf 0 acc ≤ (j : Int)) (h0 : acc = [] → 0 < j) (hj : (j : Int) < m) :
    heldOk m 0 (addByte acc j x) = true ∧ endOf 0 (addByte acc j x) ≤ ((j + 1 : Nat) : Int) ∧ addByte acc j x ≠ [] := by
  have hs1 : (bstr [x]).size = 1 := bstr_len [x]
  rcases List.eq_nil_or_concat acc with rfl | ⟨l, p, rfl⟩
  · rw [addByte_nil rfl]
    refine ⟨?_, ?_, by simp⟩
    · rw [heldOk_snoc, nonempty_of (by simp only; omega)]
      have := h0 rfl
      simp only [endOf, heldOk, Bool.true_and, Bool.and_eq_true, decide_eq_true_eq]; refine ⟨decide_eq_true (show (0 : Int) < (j : Int) by omega), ?_⟩
      show (j : Int) ≤ m - ((bstr [x]).size : Int); omega
    · rw [endOf_snoc]; simp only; omega
  · rw [List.concat_eq_append] at *
    rw [endOf_snoc] at he
    rw [heldOk_snoc] at h
    simp only [Bool.and_eq_true, decide_eq_true_eq] at h
    by_cases ht : p.off + (p.text.size : Int) = (j : Int)
    · rw [addByte_set (p := p) (by simp) ht]
      have e : (l ++ [p]).set ((l ++ [p]).length - 1) ⟨p.off, p.text ++ bstr [x]⟩ = l ++ [⟨p.off, p.text ++ bstr [x]⟩] := by simp
      rw [e]
      refine ⟨?_, ?_, by simp⟩
      · rw [heldOk_snoc, nonempty_of (by simp only; rw [ByteArray.size_append]; omega), h.1]
        simp only [Bool.true_and, Bool.and_eq_true, decide_eq_true_eq]; rw [ByteArray.size_append]; omega
      · rw [endOf_snoc]; simp only; rw [ByteArray.size_append]; omega
    · rw [addByte_far (p := p) (by simp) ht]
      refine ⟨?_, ?_, by simp⟩
      · rw [heldOk_snoc, nonempty_of (by simp only; omega), endOf_snoc, heldOk_snoc, h.1, h.2.1]
        simp only [Bool.true_and, Bool.and_eq_true, decide_eq_true_eq]; omega
      · rw [endOf_snoc]; simp only; omega
theorem pcs_ok {m : Int} : ∀ (l : List Int) {acc : List Pce} {j : Nat}, heldOk m 0 acc = true → endOf 0 acc ≤ (j : Int) → (acc = [] → 0 < j) → (∀ (k : Nat) x, l[k]? = some x → 0 ≤ x → ((j + k : Nat) : Int) < m) → heldOk m 0 (pcs acc j l) = true
  | [], _, _, h, _, _, _ => h
  | x :: l, acc, j, h, he, h0, hk => by
    have hk' : ∀ (k : Nat) y, l[k]? = some y → 0 ≤ y → ((j + 1 + k : Nat) : Int) < m := fun k y hy hy0 => by
      have := hk (k + 1) y hy hy0; omega
    rw [pcs]
    split
    · exact pcs_ok l h (by omega) (fun _ => by omega) hk'
    · rename_i hx
      obtain ⟨g1, g2, g3⟩ := addByte_ok (x := x) h he h0 (by have := hk 0 x rfl (by omega); omega)
      exact pcs_ok l g1 (by omega) (fun e => absurd e g3) hk'
theorem rest_ok {m : Int} {sl : List Int} (hm : 0 ≤ m) (h : ∀ (j : Nat) x, sl[j]? = some x → 0 ≤ x → filled sl ≤ j → (j : Int) < m + filled sl) : heldOk m 0 (pcs [] 0 (sl.drop (filled sl))) = true := by
  rcases Nat.lt_or_ge (filled sl) sl.length with hl | hl
  · obtain ⟨x, hx, hn⟩ := filled_at hl
    have e : sl.drop (filled sl) = x :: sl.drop (filled sl + 1) := by
      obtain ⟨h1, h2⟩ := List.getElem?_eq_some_iff.1 hx
      rw [List.drop_eq_getElem_cons h1, h2]
    rw [e, pcs, if_pos hn]
    refine pcs_ok _ rfl (by simp [endOf]) (fun _ => by omega) fun k y hy h0 => ?_
    rw [List.getElem?_drop] at hy
    have := h _ y hy h0 (by omega); omega
  · rw [List.drop_eq_nil_of_le hl]; rfl
theorem pcs_none {acc : List Pce} {l : List Int} {j : Nat} (h : ∀ x ∈ l, x < 0) : pcs acc j l = acc := pcs_neg acc l j h
theorem finIn_cases (r : Rcv) (seq : Int) (t : ByteArray) (fin : Bool) : finIn r seq t fin = r.fin ∨ (r.fin < 0 ∧ finIn r seq t fin = (offN r seq t.size : Int) ∧ (offN r seq t.size : Int) ≤ windowOf r ∧ freeFrom (allIn r seq t) (offN r seq t.size) = true) := by
  unfold finIn; split
  · rename_i h; simp only [Bool.and_eq_true, decide_eq_true_eq] at h
    exact .inr ⟨h.2.1, rfl, h.2.2.1, h.2.2.2⟩
  · exact .inl rfl
theorem fin_far {r : Rcv} {seq : Int} {t : ByteArray} {fin : Bool} (hr : receiverOk r = true) (hf : 0 ≤ finIn r seq t fin) {j : Nat} {x : Int} (hx : (allIn r seq t)[j]? = some x) (h0 : 0 ≤ x) : (j : Int) < finIn r seq t fin := by
  have hj : j < 33 := by have := (List.getElem?_eq_some_iff.1 hx).1; rw [allIn_len] at this; exact this
  rcases finIn_cases r seq t fin with e | ⟨h1, e, h2, h3⟩
  · rcases Int.lt_or_le (j : Int) (finIn r seq t fin) with h | h
    · exact h
    · rw [allIn_far hr hj (.inr ⟨by omega, by omega⟩)] at hx
      simp only [Option.some.injEq] at hx; omega
  · rcases Int.lt_or_le (j : Int) (finIn r seq t fin) with h | h
    · exact h
    · unfold freeFrom at h3; rw [List.all_eq_true] at h3
      have : x ∈ (allIn r seq t).drop (offN r seq t.size) := List.mem_of_getElem? (i := j - offN r seq t.size) (by rw [List.getElem?_drop, show offN r seq t.size + (j - offN r seq t.size) = j by omega]; exact hx)
      have := h3 x this; simp only [decide_eq_true_eq] at this; omega
theorem win_far {r : Rcv} {seq : Int} {t : ByteArray} (hr : receiverOk r = true) {j : Nat} {x : Int} (hx : (allIn r seq t)[j]? = some x) (h0 : 0 ≤ x) : (j : Int) < windowOf r := by
  have hj : j < 33 := by have := (List.getElem?_eq_some_iff.1 hx).1; rw [allIn_len] at this; exact this
  rcases Int.lt_or_le (j : Int) (windowOf r) with h | h
  · exact h
  · rw [allIn_far hr hj (.inl h)] at hx
    simp only [Option.some.injEq] at hx; omega
theorem word32w {x : Int} (h : 0 ≤ x ∧ x ≤ 4294967295) : wordOk x 32 = true := by
  unfold wordOk inB
  have e : (2 : Int) ^ (32 : Int).toNat - 1 = 4294967295 := by decide
  rw [e]; simp; omega
theorem rok_mk {r : Rcv} (h1 : 0 ≤ r.next ∧ r.next ≤ 4294967295) (h2 : r.data.size ≤ 32) (h3 : r.held.length ≤ 3) (h4 : -1 ≤ r.fin ∧ r.fin ≤ windowOf r) (h5 : r.fin ≠ 0) (h6 : heldOk (if r.fin = -1 then windowOf r else r.fin) 0 r.held = true) (h7 : r.done = true → r.held = [] ∧ r.fin = -1) : receiverOk r = true := by
  unfold receiverOk
  rw [rcvPre_iff.2 ⟨word32w h1, h2, h3, inB_tt.2 h4, h5⟩, h6]
  unfold rcvPost
  cases hd : r.done
  · rfl
  · obtain ⟨e1, e2⟩ := h7 hd
    simp [e1, e2]
theorem arrived_ways {r : Rcv} (seq : Int) (t : ByteArray) (fin : Bool) (hr : receiverOk r = true) :
    arrived r seq t fin = r ∨ (r.done = false ∧ ∃ n : Nat, n = filled (allIn r seq t) ∧ (n : Int) ≤ windowOf r ∧ (pcs [] 0 ((allIn r seq t).drop n)).length ≤ 3 ∧
      ((finOut r seq t fin = 0 ∧ arrived r seq t fin = ⟨seqAdd (seqAdd r.next n) 1, r.data ++ bstr ((allIn r seq t).take n), pcs [] 0 ((allIn r seq t).drop n), -1, true⟩) ∨
       (finOut r seq t fin ≠ 0 ∧ arrived r seq t fin = ⟨seqAdd r.next n, r.data ++ bstr ((allIn r seq t).take n), pcs [] 0 ((allIn r seq t).drop n), finOut r seq t fin, false⟩))) := by
  have hw := filled_win (seq := seq) (t := t) hr
  unfold arrived
  cases hd : r.done with
  | true => left; rw [if_neg (by simp)]
  | false =>
    rw [if_pos (by rw [hr]; rfl)]
    split
    · left; rfl
    · right
      refine ⟨rfl, _, rfl, hw, by omega, ?_⟩
      split
      · rename_i h; exact .inl ⟨h, rfl⟩
      · rename_i h; exact .inr ⟨h, rfl⟩
theorem app_left (a b : ByteArray) : (a ++ b).extract 0 a.size = a := bytes_ext (by simp [← ByteArray.size_data])
theorem filled_fin {r : Rcv} {seq : Int} {t : ByteArray} {fin : Bool} (hr : receiverOk r = true) (hf : 0 ≤ finIn r seq t fin) : (filled (allIn r seq t) : Int) ≤ finIn r seq t fin := by
  cases hn : filled (allIn r seq t) with
  | zero => omega
  | succ k =>
    obtain ⟨x, hx, h0⟩ := filled_in (l := allIn r seq t) (k := k) (by omega)
    have := fin_far hr hf hx h0; omega
theorem win_less {r : Rcv} {n : Nat} {d : ByteArray} {h : List Pce} {nx f : Int} (hd : r.done = false) (hn : (n : Int) ≤ windowOf r) (hs : d.size = r.data.size + n) : windowOf ⟨nx, d, h, f, false⟩ = windowOf r - n := by
  unfold windowOf at hn ⊢; rw [hd] at hn ⊢
  simp only [Bool.false_eq_true, if_false] at hn ⊢
  rw [hs]; omega
theorem size_more {r : Rcv} {sl : List Int} {n : Nat} (h : n ≤ sl.length) : (r.data ++ bstr (sl.take n)).size = r.data.size + n := by
  rw [ByteArray.size_append, bstr_len, List.length_take, Nat.min_eq_left h]
theorem arrived_facts {r : Rcv} (seq : Int) (t : ByteArray) (fin : Bool) (hr : receiverOk r = true) :
    receiverOk (arrived r seq t fin) = true ∧ (r.data.size ≤ (arrived r seq t fin).data.size) ∧ (arrived r seq t fin).data.size ≤ 32 ∧ (arrived r seq t fin).data.extract 0 r.data.size = r.data ∧
    seqAdd r.next (((arrived r seq t fin).data.size : Int) - (r.data.size : Int) + (if (arrived r seq t fin).done && !r.done then 1 else 0)) = (arrived r seq t fin).next ∧ windowOf (arrived r seq t fin) ≤ windowOf r := by
  obtain ⟨hf0, hf1, hf2, hf3, hf4, hheld⟩ := rok_facts hr
  rcases arrived_ways seq t fin hr with e | ⟨hd, n, hn, hnw, hl3, hways⟩
  · rw [e]
    refine ⟨hr, Nat.le_refl _, hf0, by rw [ByteArray.extract_zero_size], ?_, Int.le_refl _⟩
    rw [if_neg (by cases r.done <;> simp)]; unfold seqAdd; omega
  · have hw := windowOf_bd r
    have hal := allIn_len r seq t
    have hs := size_more (r := r) (sl := allIn r seq t) (n := n) (by omega)
    have hws : (r.data.size : Int) + n ≤ 32 := by unfold windowOf at hnw; rw [hd] at hnw; simp only [Bool.false_eq_true, if_false] at hnw; omega
    have hfo : finOut r seq t fin = if 0 ≤ finIn r seq t fin then finIn r seq t fin - (n : Int) else finIn r seq t fin := by unfold finOut; rw [hn]
    have hfb := finIn_bd (seq := seq) (t := t) (fin := fin) hf3
    rcases hways with ⟨h0, e⟩ | ⟨h0, e⟩
    · rw [e]
      have hfi : 0 ≤ finIn r seq t fin ∧ finIn r seq t fin = n := by rw [hfo] at h0; split at h0 <;> omega
      have hnil : pcs [] 0 ((allIn r seq t).drop n) = [] := pcs_none fun x hx => by
        obtain ⟨i, hi⟩ := List.getElem?_of_mem hx
        rw [List.getElem?_drop] at hi
        rcases Int.lt_or_le x 0 with h | h
        · exact h
        · have := fin_far hr hfi.1 hi h; omega
      rw [hnil]
      refine ⟨rok_mk (seqAdd_in _ _) (by simp only; omega) (by simp) ⟨by simp, ?_⟩ (by simp) rfl (fun _ => ⟨rfl, rfl⟩), by simp only; omega, by simp only; omega, app_left _ _, ?_, ?_⟩
      · unfold windowOf; simp
      · simp only [hs, hd]; unfold seqAdd; simp; omega
      · unfold windowOf; simp only [if_true]; split <;> omega
    · rw [e]
      have hwx := win_less (r := r) (n := n) (h := pcs [] 0 ((allIn r seq t).drop n)) (nx := seqAdd r.next n) (f := finOut r seq t fin) hd hnw hs
      have hfw : finIn r seq t fin ≤ windowOf r := by
        rcases finIn_cases r seq t fin with q | ⟨-, q, q2, -⟩ <;> omega
      have hff : 0 ≤ finIn r seq t fin → (n : Int) ≤ finIn r seq t fin := fun q => by rw [hn]; exact filled_fin hr q
      have hin : ∀ (j : Nat) x, (allIn r seq t)[j]? = some x → 0 ≤ x → filled (allIn r seq t) ≤ j → (j : Int) < (if finOut r seq t fin = -1 then windowOf r - (n : Int) else finOut r seq t fin) + (filled (allIn r seq t) : Int) := fun j x hx hx0 _ => by
        rw [← hn]
        split
        · have := win_far hr hx hx0; omega
        · rename_i hne
          have h1 : 0 ≤ finIn r seq t fin := by rw [hfo] at hne; split at hne <;> omega
          have := fin_far hr h1 hx hx0
          rw [hfo, if_pos h1]; omega
      refine ⟨rok_mk (seqAdd_in _ _) (by simp only; omega) hl3 ⟨?_, ?_⟩ h0 ?_ (fun q => by cases q), by simp only; omega, by simp only; omega, app_left _ _, ?_, by rw [hwx]; omega⟩
      · simp only; rw [hfo]; split <;> omega
      · rw [hwx]; simp only; rw [hfo]; split
        · omega
        · omega
      · rw [hwx]; simp only
        rw [hn] at hin ⊢
        exact rest_ok (by split <;> omega) hin
      · simp only [hs, hd]; unfold seqAdd; simp; omega
end Go.Proofs.Ytnmmhbhdcplfmaa
/- Plain laws: what is held is what lay in the slots; a stored byte stays (no program in sight). -/
namespace Go.Proofs.Ytnmmhbhdcplfmaa
open Go.RowKit
set_option linter.unusedVariables false
theorem putHeld_append : ∀ (a b : List Pce) (l : List Int), putHeld l (a ++ b) = putHeld (putHeld l a) b
  | [], b, l => rfl
  | p :: a, b, l => by simp only [List.cons_append, putHeld]; exact putHeld_append a b _
theorem byteAt_app {t u : ByteArray} {k : Nat} (h : k < t.size) : byteAt (t ++ u) k = byteAt t k := by
  unfold byteAt
  have h1 : k < t.data.size := h
  have h2 : k < (t ++ u).data.size := by have := ByteArray.size_append (a := t) (b := u); show k < (t ++ u).size; omega
  rw [Array.getD_eq_getD_getElem?, Array.getD_eq_getD_getElem?, ByteArray.data_append, Array.getElem?_append_left h1]
theorem byteAt_last {t : ByteArray} {x : Int} (h0 : 0 ≤ x) (h1 : x ≤ 255) : byteAt (t ++ bstr [x]) t.size = x := by
  unfold byteAt
  rw [Array.getD_eq_getD_getElem?, ByteArray.data_append, Array.getElem?_append_right (show t.data.size ≤ t.size from Nat.le_refl _)]
  have e : (bstr [x]).data = #[UInt8.ofNat x.toNat] := rfl
  rw [e, show t.size - t.data.size = 0 from Nat.sub_self _]
  show ((UInt8.ofNat x.toNat).toNat : Int) = x
  rw [UInt8.toNat_ofNat']; omega
theorem byteAt_one {x : Int} (h0 : 0 ≤ x) (h1 : x ≤ 255) : byteAt (bstr [x]) 0 = x := by
  have := byteAt_last (t := ⟨#[]⟩) h0 h1
  have e : (⟨#[]⟩ : ByteArray) ++ bstr [x] = bstr [x] := bytes_ext (by simp)
  rw [e] at this; exact this
theorem putText_app {l : List Int} {off : Nat} {t u : ByteArray} : ∀ (k : Nat), k ≤ t.size → putText l off (t ++ u) k = putText l off t k
  | 0, _ => rfl
  | k + 1, h => by simp only [putText]; rw [putText_app k (by omega), byteAt_app (by omega)]
theorem put_add {l : List Int} {acc : List Pce} {j : Nat} {x : Int} (hbd : ∀ p ∈ acc, 0 ≤ p.off ∧ p.off + (p.text.size : Int) ≤ (j : Int)) (h0 : 0 ≤ x) (h1 : x ≤ 255) : putHeld l (addByte acc j x) = (putHeld l acc).set j x := by
  have hs1 : (bstr [x]).size = 1 := bstr_len [x]
  have hnew : ∀ a : List Pce, putHeld l (a ++ [⟨(j : Int), bstr [x]⟩]) = (putHeld l a).set j x := fun a => by
    rw [putHeld_append]; simp only [putHeld]
    rw [hs1]; simp only [putText, Int.toNat_natCast, Nat.add_zero]; rw [byteAt_one h0 h1]
  rcases List.eq_nil_or_concat acc with rfl | ⟨a, p, rfl⟩
  · rw [addByte_nil rfl]; exact hnew []
  · rw [List.concat_eq_append] at *
    by_cases ht : p.off + (p.text.size : Int) = (j : Int)
    · rw [addByte_set (p := p) (by simp) ht]
      have e : (a ++ [p]).set ((a ++ [p]).length - 1) ⟨p.off, p.text ++ bstr [x]⟩ = a ++ [⟨p.off, p.text ++ bstr [x]⟩] := by simp
      rw [e, putHeld_append, putHeld_append]
      simp only [putHeld]
      have hb := hbd p (by simp)
      rw [ByteArray.size_append, hs1]
      simp only [putText]
      rw [putText_app _ (Nat.le_refl _), byteAt_last h0 h1, show p.off.toNat + p.text.size = j by omega]
    · rw [addByte_far (p := p) (by simp) ht]; exact hnew _
theorem put_pcs : ∀ (l : List Int) {acc : List Pce} {j : Nat} {L : List Int} (i : Nat), (∀ p ∈ acc, 0 ≤ p.off ∧ p.off + (p.text.size : Int) ≤ (j : Int)) → (∀ x ∈ l, x ≤ 255) → j + l.length ≤ L.length →
    (putHeld L (pcs acc j l))[i]? = if j ≤ i ∧ ∃ x, l[i - j]? = some x ∧ 0 ≤ x then l[i - j]? else (putHeld L acc)[i]?
  | [], acc, j, L, i, _, _, _ => by rw [pcs, if_neg (by rintro ⟨-, x, hx, -⟩; simp at hx)]
  | y :: l, acc, j, L, i, hbd, hl, hL => by
    rw [List.length_cons] at hL
    have hy := hl y (by simp)
    rw [pcs]
    have key : ∀ a : List Pce, (∀ p ∈ a, 0 ≤ p.off ∧ p.off + (p.text.size : Int) ≤ ((j + 1 : Nat) : Int)) → (putHeld L (pcs a (j + 1) l))[i]? = if j + 1 ≤ i ∧ ∃ x, l[i - (j + 1)]? = some x ∧ 0 ≤ x then l[i - (j + 1)]? else (putHeld L a)[i]? := fun a ha => put_pcs l i ha (fun x hx => hl x (by simp [hx])) (by omega)
    have hsucc : j + 1 ≤ i → (y :: l)[i - j]? = l[i - (j + 1)]? := fun h => by rw [show i - j = (i - (j + 1)) + 1 by omega]; rfl
    split
    · rename_i hn
      rw [key acc (fun p hp => by have := hbd p hp; omega)]
      by_cases h : j + 1 ≤ i
      · rw [hsucc h]
        by_cases h2 : ∃ x, l[i - (j + 1)]? = some x ∧ 0 ≤ x
        · rw [if_pos ⟨h, h2⟩, if_pos ⟨by omega, h2⟩]
        · rw [if_neg (fun q => h2 q.2), if_neg (fun q => h2 q.2)]
      · rw [if_neg (fun q => h q.1), if_neg]
        rintro ⟨h3, x, hx, hx0⟩
        have : i = j := by omega
        subst this; rw [Nat.sub_self] at hx; simp only [List.getElem?_cons_zero, Option.some.injEq] at hx; omega
    · rename_i hn
      rw [key _ (fun p hp => by have := addByte_bd hbd p hp; omega), put_add hbd (by omega) hy]
      by_cases h : j + 1 ≤ i
      · rw [hsucc h, List.getElem?_set_ne (by omega)]
        by_cases h2 : ∃ x, l[i - (j + 1)]? = some x ∧ 0 ≤ x
        · rw [if_pos ⟨h, h2⟩, if_pos ⟨by omega, h2⟩]
        · rw [if_neg (fun q => h2 q.2), if_neg (fun q => h2 q.2)]
      · rw [if_neg (fun q => h q.1)]
        by_cases h3 : i = j
        · subst h3
          rw [Nat.sub_self, if_pos ⟨Nat.le_refl _, y, rfl, by omega⟩, List.getElem?_set_self (by rw [putHeld_len]; omega)]; rfl
        · rw [List.getElem?_set_ne (Ne.symm h3), if_neg (fun q => by omega)]
def signs (l : List Int) : List Bool := l.map fun x => decide (0 ≤ x)
theorem putText_m1 {l : List Int} {off : Nat} {t : ByteArray} (h : ∀ x ∈ l, x < 0 → x = -1) : ∀ k, ∀ x ∈ putText l off t k, x < 0 → x = -1
  | 0 => h
  | k + 1 => fun x hx hn => by
    simp only [putText] at hx
    rcases List.mem_or_eq_of_mem_set hx with q | q
    · exact putText_m1 h k x q hn
    · have := byteAt_rng t k; omega
theorem putHeld_m1 : ∀ (ps : List Pce) {l : List Int}, (∀ x ∈ l, x < 0 → x = -1) → ∀ x ∈ putHeld l ps, x < 0 → x = -1
  | [], _, h => h
  | p :: ps, _, h => by simp only [putHeld]; exact putHeld_m1 ps (putText_m1 h _)
theorem textN_m1 {r : Rcv} {seq : Int} {t : ByteArray} {l : List Int} (h : ∀ x ∈ l, x < 0 → x = -1) : ∀ k, ∀ x ∈ textN r seq t l k, x < 0 → x = -1
  | 0 => h
  | k + 1 => fun x hx hn => by
    simp only [textN, textStep] at hx
    split at hx
    · rcases List.mem_or_eq_of_mem_set hx with q | q
      · exact textN_m1 h k x q hn
      · have := byteAt_rng t k; omega
    · exact textN_m1 h k x hx hn
theorem allIn_m1 (r : Rcv) (seq : Int) (t : ByteArray) : ∀ x ∈ allIn r seq t, x < 0 → x = -1 := textN_m1 (putHeld_m1 _ fun x hx _ => (List.mem_replicate.1 hx).2) _
theorem slots_next {sl : List Int} {n i : Nat} {x : Int} (hl : sl.length = 33) (hb : ∀ x ∈ sl, x ≤ 255) (hm : ∀ x ∈ sl, x < 0 → x = -1) (hx : sl[n + i]? = some x) : (putHeld (List.replicate 33 (-1)) (pcs [] 0 (sl.drop n)))[i]? = some x := by
  have hlt := (List.getElem?_eq_some_iff.1 hx).1
  rw [put_pcs (sl.drop n) i (by simp) (fun y hy => hb y (List.mem_of_mem_drop hy)) (by rw [List.length_drop, List.length_replicate]; omega), Nat.sub_zero, List.getElem?_drop, hx]
  split
  · rfl
  · rename_i hn
    have h1 : x < 0 := by
      rcases Int.lt_or_le x 0 with h | h
      · exact h
      · exact absurd ⟨Nat.zero_le _, x, rfl, h⟩ hn
    rw [hm x (List.mem_of_getElem? hx) h1]
    simp only [putHeld]; exact rep33 (by omega)
theorem slots_past {sl : List Int} {n i : Nat} (hl : sl.length = 33) (hb : ∀ x ∈ sl, x ≤ 255) (hi : 33 ≤ n + i) (hi2 : i < 33) : (putHeld (List.replicate 33 (-1)) (pcs [] 0 (sl.drop n)))[i]? = some (-1) := by
  rw [put_pcs (sl.drop n) i (by simp) (fun y hy => hb y (List.mem_of_mem_drop hy)) (by rw [List.length_drop, List.length_replicate]; omega), Nat.sub_zero, List.getElem?_drop, if_neg]
  · simp only [putHeld]; exact rep33 hi2
  · rintro ⟨-, x, hx, -⟩
    have := (List.getElem?_eq_some_iff.1 hx).1; omega
theorem textN_has {r : Rcv} {seq : Int} {t : ByteArray} {l : List Int} (hl : l.length = 33) {k : Nat} (hw : ((offN r seq k : Nat) : Int) < windowOf r) (hf : r.fin < 0 ∨ ((offN r seq k : Nat) : Int) < r.fin) : ∀ m, k < m → ∃ x, (textN r seq t l m)[offN r seq k]? = some x ∧ 0 ≤ x
  | 0, h => by omega
  | m + 1, h => by
    have hwb := windowOf_bd r
    have hlen := textN_len r seq t l m
    rcases Nat.lt_or_ge k m with h1 | h1
    · obtain ⟨x, hx, h0⟩ := textN_has hl hw hf m h1
      refine ⟨x, ?_, h0⟩
      simp only [textN]; rw [textStep_eq]
      split
      · rename_i hc
        rw [List.getElem?_set_ne]; exact hx
        intro e; rw [e] at hc
        have := hc.2.2; rw [slotAt_of hx] at this; omega
      · exact hx
    · have : k = m := by omega
      subst this
      simp only [textN]; rw [textStep_eq]
      split
      · exact ⟨byteAt t k, List.getElem?_set_self (by omega), (byteAt_rng t k).1⟩
      · rename_i hc
        have hlt : offN r seq k < (textN r seq t l k).length := by omega
        refine ⟨_, List.getElem?_eq_getElem hlt, ?_⟩
        rcases Int.lt_or_le ((textN r seq t l k)[offN r seq k]) 0 with q | q
        · exact absurd ⟨hw, hf, by rw [slotAt_of (List.getElem?_eq_getElem hlt)]; exact q⟩ hc
        · exact q
theorem textN_none {r : Rcv} {seq : Int} {t : ByteArray} {l : List Int} (h : ∀ k, k < t.size → ((offN r seq k : Nat) : Int) < windowOf r → 0 ≤ slotAt l (offN r seq k)) : ∀ m, m ≤ t.size → textN r seq t l m = l
  | 0, _ => rfl
  | m + 1, hm => by
    simp only [textN]; rw [textN_none h m (by omega), textStep_eq, if_neg]
    rintro ⟨h1, -, h3⟩
    have := h m (by omega) h1; omega
theorem signs_get (l : List Int) (i : Nat) : (signs l)[i]? = (l[i]?).map fun x => decide (0 ≤ x) := by unfold signs; rw [List.getElem?_map]
theorem slotAt_signs {l l' : List Int} (h : signs l = signs l') (i : Nat) : (slotAt l i < 0) ↔ (slotAt l' i < 0) := by
  have h1 := signs_get l i; have h2 := signs_get l' i
  rw [h] at h1
  unfold slotAt
  rw [List.getD_eq_getElem?_getD, List.getD_eq_getElem?_getD]
  rw [h1] at h2
  cases ha : l[i]? <;> cases hb : l'[i]? <;> rw [ha, hb] at h2 <;> simp at h2 ⊢
  omega
theorem signs_set {l l' : List Int} (h : signs l = signs l') {i : Nat} {x y : Int} (hx : 0 ≤ x) (hy : 0 ≤ y) : signs (l.set i x) = signs (l'.set i y) := by
  unfold signs at h ⊢; rw [List.map_set, List.map_set, h, decide_eq_true hx, decide_eq_true hy]
theorem signs_textN {r : Rcv} {seq : Int} {t b : ByteArray} {l l' : List Int} (h : signs l = signs l') : ∀ k, signs (textN r seq t l k) = signs (textN r seq b l' k)
  | 0 => h
  | k + 1 => by
    have ih := signs_textN (r := r) (seq := seq) (t := t) (b := b) h k
    have hs := slotAt_signs ih (offN r seq k)
    simp only [textN]; rw [textStep_eq, textStep_eq]
    by_cases hc : ((offN r seq k : Nat) : Int) < windowOf r ∧ (r.fin < 0 ∨ ((offN r seq k : Nat) : Int) < r.fin) ∧ slotAt (textN r seq t l k) (offN r seq k) < 0
    · rw [if_pos hc, if_pos ⟨hc.1, hc.2.1, hs.1 hc.2.2⟩]
      exact signs_set ih (byteAt_rng t k).1 (byteAt_rng b k).1
    · rw [if_neg hc, if_neg (fun q => hc ⟨q.1, q.2.1, hs.2 q.2.2⟩)]; exact ih
theorem filled_signs : ∀ {l l' : List Int}, signs l = signs l' → filled l = filled l'
  | [], [], _ => rfl
  | [], _ :: _, h => by simp [signs] at h
  | _ :: _, [], h => by simp [signs] at h
  | x :: l, y :: l', h => by
    simp only [signs, List.map_cons, List.cons.injEq] at h
    have ih := filled_signs (l := l) (l' := l') h.2
    unfold filled at ih ⊢
    rw [List.takeWhile_cons, List.takeWhile_cons, h.1]
    split
    · rw [List.length_cons, List.length_cons, ih]
    · rfl
def shape (l : List Pce) : List (Int × Nat) := l.map fun p => (p.off, p.text.size)
theorem shape_add {a a' : List Pce} (h : shape a = shape a') (j : Nat) (x y : Int) : shape (addByte a j x) = shape (addByte a' j y) := by
  have hl : a.length = a'.length := by have := congrArg List.length h; simpa [shape] using this
  have hx1 : (bstr [x]).size = 1 := bstr_len [x]
  have hy1 : (bstr [y]).size = 1 := bstr_len [y]
  rcases List.eq_nil_or_concat a with rfl | ⟨q, p, rfl⟩
  · have : a' = [] := List.length_eq_zero_iff.1 (by rw [← hl]; rfl)
    subst this
    rw [addByte_nil rfl, addByte_nil rfl]; simp [shape, hx1, hy1]
  · rcases List.eq_nil_or_concat a' with rfl | ⟨q', p', rfl⟩
    · simp at hl
    · rw [List.concat_eq_append] at *
      rw [List.concat_eq_append] at *
      simp only [shape, List.map_append, List.map_cons, List.map_nil] at h
      have h2 := List.append_inj' h (by simp)
      obtain ⟨e1, e2⟩ := h2
      simp only [List.cons.injEq, Prod.mk.injEq, and_true] at e2
      by_cases ht : p.off + (p.text.size : Int) = (j : Int)
      · rw [addByte_set (p := p) (by simp) ht, addByte_set (p := p') (by simp) (by rw [← e2.1, ← e2.2]; exact ht)]
        have s1 : (q ++ [p]).set ((q ++ [p]).length - 1) ⟨p.off, p.text ++ bstr [x]⟩ = q ++ [⟨p.off, p.text ++ bstr [x]⟩] := by simp
        have s2 : (q' ++ [p']).set ((q' ++ [p']).length - 1) ⟨p'.off, p'.text ++ bstr [y]⟩ = q' ++ [⟨p'.off, p'.text ++ bstr [y]⟩] := by simp
        rw [s1, s2]; simp only [shape, List.map_append, List.map_cons, List.map_nil]
        rw [e1, ByteArray.size_append, ByteArray.size_append, hx1, hy1, e2.1, e2.2]
      · rw [addByte_far (p := p) (by simp) ht, addByte_far (p := p') (by simp) (by rw [← e2.1, ← e2.2]; exact ht)]
        simp only [shape, List.map_append, List.map_cons, List.map_nil]
        rw [e1, e2.1, e2.2, hx1, hy1]
theorem shape_pcs : ∀ {l l' : List Int} {a a' : List Pce} (j : Nat), signs l = signs l' → shape a = shape a' → shape (pcs a j l) = shape (pcs a' j l')
  | [], [], _, _, _, _, h => h
  | [], _ :: _, _, _, _, h, _ => by simp [signs] at h
  | _ :: _, [], _, _, _, h, _ => by simp [signs] at h
  | x :: l, y :: l', a, a', j, h, hs => by
    simp only [signs, List.map_cons, List.cons.injEq] at h
    rw [pcs, pcs]
    by_cases hx : x < 0
    · have hy : y < 0 := by
        have := h.1; rw [decide_eq_false (by omega)] at this
        have := of_decide_eq_false this.symm; omega
      rw [if_pos hx, if_pos hy]; exact shape_pcs (j + 1) h.2 hs
    · have hy : ¬ y < 0 := by
        have := h.1; rw [decide_eq_true (by omega)] at this
        have := of_decide_eq_true this.symm; omega
      rw [if_neg hx, if_neg hy]; exact shape_pcs (j + 1) h.2 (shape_add hs j x y)
theorem pcs_app : ∀ (a b : List Int) {acc : List Pce} {j : Nat}, pcs acc j (a ++ b) = pcs (pcs acc j a) (j + a.length) b
  | [], b, _, _ => rfl
  | x :: a, b, acc, j => by rw [List.cons_append, pcs, pcs, pcs_app a b, List.length_cons, show j + 1 + a.length = j + (a.length + 1) by omega]
theorem finIn_off (r : Rcv) (seq : Int) (t : ByteArray) : finIn r seq t false = r.fin := by unfold finIn; rw [if_neg (by simp)]
theorem finOut_off {r : Rcv} {seq : Int} {t : ByteArray} (h : r.fin = -1) : finOut r seq t false = -1 := by unfold finOut; rw [finIn_off, h]; rfl
theorem arrived_same {x : Rcv} {seq : Int} {b : ByteArray} (hd : x.done = false) (hf : x.fin = -1) (hn : 0 ≤ x.next ∧ x.next ≤ 4294967295) (hS : allIn x seq b = slotsOf x) (h0 : filled (slotsOf x) = 0) (hp : pcs [] 0 (slotsOf x) = x.held) : arrived x seq b false = x := by
  unfold arrived
  split
  · rw [hS, h0, List.drop_zero, hp, finOut_off hf]
    split
    · rfl
    · rw [if_neg (by decide), hd, List.take_zero]
      have e1 : seqAdd x.next ((0 : Nat) : Int) = x.next := by unfold seqAdd; omega
      have e2 : x.data ++ bstr [] = x.data := bytes_ext (by simp [show (bstr []).data = #[] from rfl])
      rw [e1, e2]
      cases x; simp_all
  · rfl
theorem first_wins {r : Rcv} {seq : Int} {t b : ByteArray} (hr : receiverOk r = true) (hh : r.held = []) (hd : r.done = false) (hf : r.fin < 0) (hsz : b.size = t.size) : arrived (arrived r seq t false) seq b false = arrived r seq t false := by
  obtain ⟨hf0, hf1, hf2, hf3, hf4, hheld⟩ := rok_facts hr
  have hfin : r.fin = -1 := by omega
  have hw := windowOf_bd r
  have hal := allIn_len r seq t
  have hfw := filled_win (seq := seq) (t := t) hr
  by_cases h3 : 3 < (pcs [] 0 ((allIn r seq t).drop (filled (allIn r seq t)))).length
  · rw [arrived_over hr hd h3]
    refine arrived_over hr hd ?_
    have hs : signs (allIn r seq t) = signs (allIn r seq b) := by unfold allIn; rw [hsz]; exact signs_textN rfl _
    have hfl := filled_signs hs
    have hs2 : signs ((allIn r seq t).drop (filled (allIn r seq t))) = signs ((allIn r seq b).drop (filled (allIn r seq b))) := by
      unfold signs at hs ⊢; rw [List.map_drop, List.map_drop, hs, hfl]
    have := congrArg List.length (shape_pcs (a := []) (a' := []) 0 hs2 rfl)
    simp only [shape, List.length_map] at this
    omega
  · have hx : arrived r seq t false = ⟨seqAdd r.next (filled (allIn r seq t)), r.data ++ bstr ((allIn r seq t).take (filled (allIn r seq t))), pcs [] 0 ((allIn r seq t).drop (filled (allIn r seq t))), -1, false⟩ := by
      unfold arrived; rw [if_pos (by rw [hr, hd]; rfl), if_neg h3, finOut_off hfin, if_neg (by decide), hd]
    obtain ⟨ok, -, -, -, -, -⟩ := arrived_facts seq t false hr
    rw [hx] at ok ⊢
    generalize hn : filled (allIn r seq t) = n at *
    have hs := size_more (r := r) (sl := allIn r seq t) (n := n) (by omega)
    have hwx := win_less (r := r) (n := n) (d := r.data ++ bstr ((allIn r seq t).take n)) (h := pcs [] 0 ((allIn r seq t).drop n)) (nx := seqAdd r.next n) (f := -1) hd hfw hs
    have hSl : ∀ i x, (allIn r seq t)[n + i]? = some x → (slotsOf ⟨seqAdd r.next n, r.data ++ bstr ((allIn r seq t).take n), pcs [] 0 ((allIn r seq t).drop n), -1, false⟩)[i]? = some x := fun i x hx => slots_next hal (allIn_le r seq t) (allIn_m1 r seq t) hx
    have hlist : slotsOf ⟨seqAdd r.next n, r.data ++ bstr ((allIn r seq t).take n), pcs [] 0 ((allIn r seq t).drop n), -1, false⟩ = (allIn r seq t).drop n ++ List.replicate n (-1) := by
      refine List.ext_getElem? fun i => ?_
      have hl2 := slotsOf_len ⟨seqAdd r.next n, r.data ++ bstr ((allIn r seq t).take n), pcs [] 0 ((allIn r seq t).drop n), -1, false⟩
      have hdl : ((allIn r seq t).drop n).length = 33 - n := by rw [List.length_drop, hal]
      by_cases hi : i < 33 - n
      · rw [List.getElem?_append_left (by omega), List.getElem?_drop]
        have hlt : n + i < (allIn r seq t).length := by omega
        rw [List.getElem?_eq_getElem hlt]
        exact hSl i _ (List.getElem?_eq_getElem hlt)
      · rw [List.getElem?_append_right (by omega), hdl, List.getElem?_replicate]
        by_cases hi2 : i < 33
        · rw [if_pos (by omega)]; exact slots_past hal (allIn_le r seq t) (by omega) hi2
        · rw [if_neg (by omega)]; exact List.getElem?_eq_none (by omega)
    refine arrived_same rfl rfl (seqAdd_in _ _) ?_ ?_ ?_
    · refine textN_none (fun k hk hkw => ?_) _ (Nat.le_refl _)
      rw [hwx] at hkw
      have ho : offN r seq k = n + offN ⟨seqAdd r.next n, r.data ++ bstr ((allIn r seq t).take n), pcs [] 0 ((allIn r seq t).drop n), -1, false⟩ seq k := by
        have e1 := offN_eq r seq k
        have e2 := offN_eq ⟨seqAdd r.next n, r.data ++ bstr ((allIn r seq t).take n), pcs [] 0 ((allIn r seq t).drop n), -1, false⟩ seq k
        simp only at e2
        generalize offN ⟨seqAdd r.next n, r.data ++ bstr ((allIn r seq t).take n), pcs [] 0 ((allIn r seq t).drop n), -1, false⟩ seq k = o at e2 hkw ⊢
        generalize offN r seq k = o1 at e1 ⊢
        unfold seqAdd at e1 e2
        omega
      obtain ⟨y, hy, hy0⟩ := textN_has (r := r) (seq := seq) (t := t) (l := slotsOf r) (slotsOf_len r) (k := k) (by omega) (.inl hf) t.size (by omega)
      have := hSl (offN ⟨seqAdd r.next n, r.data ++ bstr ((allIn r seq t).take n), pcs [] 0 ((allIn r seq t).drop n), -1, false⟩ seq k) y (by rw [← ho]; exact hy)
      rw [slotAt_of this]; exact hy0
    · obtain ⟨z, hz, hzn⟩ := filled_at (l := allIn r seq t) (by omega)
      rw [hn] at hz
      have := filled_lt (hSl 0 z (by rw [Nat.add_zero]; exact hz)) hzn
      omega
    · rw [hlist, pcs_app]
      exact pcs_neg _ _ _ fun x hx => by have := (List.mem_replicate.1 hx).2; omega
end Go.Proofs.Ytnmmhbhdcplfmaa
