/- Plain definitions, the machine and its rules: what this law's contracts need of them, part 3. -/
import Derived.Test.YtebgmdiejgcoiaaG1
import Derived.Test.YtebgmdiejgcoiaaA3
import Derived.Test.YtebgmdiejgcoiaaA4
import Derived.Test.YtebgmdiejgcoiaaA5
import Derived.Test.YtebgmdiejgcoiaaG2
import Derived.Test.YtebgmdiejgcoiaaYW
import Derived.Test.YtebgmdiejgcoiaaYD
/- Contracts: slices of Piece in the laws. -/
namespace Go.Proofs.Ytebgmdiejgcoiaa
section
open Go.RowKit
attribute [local go_sem] dK dH dN dI cV cL cS cP cM cN cX cR cW cO cY cU cZ bv cell?_grow frozen?_grow bz cq bL
attribute [local go_sem] aL aT bO bN bi aJ aR bP bK bf cx dh af al aG aH
set_option linter.unusedVariables false
set_option linter.unusedSimpArgs false
end
/- Contracts (C1). -/
section
open Go.RowKit
attribute [local go_sem] dK dH dN dI cV cL cS cP cM cN cX cR cW cO cY cU cZ bv cell?_grow frozen?_grow bz cq bL
attribute [local go_sem] aL aT bO bN bi aJ aR bP bK bf cx dh af al aG aH
attribute [local go_sem ↓] pload_implConn pstore_implConn pload_lawsConn pstore_lawsConn pload_implReceiver pstore_implReceiver pload_lawsReceiver pstore_lawsReceiver pload_implSegment pstore_implSegment pload_lawsSegment pstore_lawsSegment
attribute [local go_sem] Value.oneCell' load_implConn store_implConn load_lawsConn store_lawsConn load_implReceiver store_implReceiver load_lawsReceiver store_lawsReceiver load_implSegment store_implSegment load_lawsSegment store_lawsSegment
set_option linter.unusedVariables false
set_option linter.unusedSimpArgs false
end
/- Plain definitions: marks (no program in sight). -/
section
open Go.RowKit
def marks {α : Type} (mk : Int → α) (c k : Int) (n : Nat) : List α := (List.range n).map fun (i : Nat) => mk (k + c * (i : Int))
end
/- Plain definitions: the pump (no program in sight). -/
section
open Go.RowKit
theorem bytes_ext {a b : ByteArray} (h : a.data.toList = b.data.toList) : a = b := by
  cases a; cases b; simp only at h; congr 1; exact Array.toList_inj.1 h
theorem ext_size (a : ByteArray) (i j : Nat) (h : j ≤ a.size) : (a.extract i j).size = j - i := by rw [ByteArray.size_extract]; omega
theorem chunkN_bd {s : Snd} {window mss : Int} (h : bH s = true) : 0 ≤ cr s window mss ∧ s.sent + cr s window mss ≤ s.data.size ∧ cr s window mss ≤ wnd s window ∧ 0 ≤ wnd s window ∧ wnd s window ≤ 1000000 := by
  obtain ⟨b0, b1, b2, b3, b4, b5, b6, b7, b8, b9, b10⟩ := dD h
  unfold cr wnd; omega
theorem toList_nil {a : ByteArray} : a.toList = [] ↔ a.size = 0 := by
  rw [ByteArray.toList_eq]
  show a.data.toList = [] ↔ a.data.size = 0
  rw [← Array.length_toList]; exact List.length_eq_zero_iff.symm
theorem chunk_text {s : Snd} {window mss : Int} (h : bH s = true) : (s.data.extract s.sent.toNat (s.sent + cr s window mss).toNat).size = (cr s window mss).toNat := by
  obtain ⟨b0, b1, b2, b3, b4, b5, b6, b7, b8, b9, b10⟩ := dD h
  obtain ⟨c0, c1, c2, c3, c4⟩ := chunkN_bd (window := window) (mss := mss) h
  rw [ext_size _ _ _ (by omega)]; omega
def mssO (o : Opt) : Int := if o.mss = 0 then 536 else max 1 (min o.mss 1460)
def meas (s : Snd) : Nat := (s.data.size - s.sent.toNat) + (if s.finSent then 0 else 1)
theorem next_ok {s : Snd} {window mss : Int} (h : (nC s window mss).2 = true) : bH s = true ∧ (nC s window mss).1 = ⟨nextOf s, s.data.extract s.sent.toNat (s.sent + cr s window mss).toNat, bY s window mss⟩ ∧ (cr s window mss ≠ 0 ∨ bY s window mss = true) := by
  unfold nC at h ⊢
  split at h
  · rename_i hs
    split at h
    · simp at h
    · rename_i hc
      refine ⟨hs, by rw [if_pos hs, if_neg hc], ?_⟩
      simp only [Bool.and_eq_true, decide_eq_true_eq, Bool.not_eq_true', not_and, Bool.not_eq_false] at hc
      by_cases h0 : cr s window mss = 0
      · exact .inr (hc h0)
      · exact .inl h0
  · simp at h
theorem sent_next {s : Snd} {window mss : Int} (h : (nC s window mss).2 = true) : sO s (nC s window mss).1 = { s with sent := s.sent + cr s window mss, finSent := s.finSent || bY s window mss } ∧ bH { s with sent := s.sent + cr s window mss, finSent := s.finSent || bY s window mss } = true := by
  obtain ⟨hs, hc, hne⟩ := next_ok h
  have hx := chunkN_bd (window := window) (mss := mss) hs
  have ht := chunk_text (window := window) (mss := mss) hs
  have hb := dD hs
  obtain ⟨c0, c1, c2, c3, c4⟩ := hx
  obtain ⟨b0, b1, b2, b3, b4, b5, b6, b7, b8, b9, b10⟩ := hb
  have e : sentS s (nC s window mss).1 = { s with sent := s.sent + cr s window mss, finSent := s.finSent || bY s window mss } := by
    rw [hc]; unfold sentS; simp only [ht]
    rw [show s.sent + ((cr s window mss).toNat : Int) = s.sent + cr s window mss by omega, az (by omega) (by omega)]
  have hs2 := hs
  unfold bH at hs2
  simp only [Bool.and_eq_true, decide_eq_true_eq, Bool.or_eq_true, Bool.not_eq_true'] at hs2
  have hok : bH { s with sent := s.sent + cr s window mss, finSent := s.finSent || bY s window mss } = true := by
    unfold bH
    simp only [Bool.and_eq_true, decide_eq_true_eq, Bool.or_eq_true, Bool.not_eq_true', dT]
    obtain ⟨⟨⟨⟨g1, g2⟩, g3⟩, g4⟩, g5⟩ := hs2
    refine ⟨⟨⟨⟨g1, g2⟩, by omega, by omega⟩, ?_⟩, ?_⟩
    · cases hf : bY s window mss
      · cases hq : s.finSent
        · exact .inl rfl
        · right
          have := b8 hq
          exact ⟨this.1, by omega⟩
      · right
        unfold bY at hf
        simp only [Bool.and_eq_true, decide_eq_true_eq, Bool.not_eq_true'] at hf
        exact ⟨hf.1, hf.2.2.2.1⟩
    · rcases g5 with g5 | g5
      · exact .inl g5
      · cases hd : s.done
        · exact .inl rfl
        · right
          refine ⟨⟨g5.1.1, ?_⟩, g5.2⟩
          have : bY s window mss = false := by unfold bY; simp [hd]
          rw [this, g5.1.2]; rfl
  refine ⟨?_, hok⟩
  unfold sO
  rw [e, hs, hok]
  have : ((nC s window mss).1.fin && s.done) = false := by
    rw [hc]; simp only
    cases hd : s.done
    · simp
    · unfold bY; simp [hd]
  rw [this]; rfl
theorem meas_next {s : Snd} {window mss : Int} (h : (nC s window mss).2 = true) : meas (sO s (nC s window mss).1) < meas s := by
  obtain ⟨e, -⟩ := sent_next h
  obtain ⟨hs, hc, hne⟩ := next_ok h
  obtain ⟨c0, c1, c2, c3, c4⟩ := chunkN_bd (window := window) (mss := mss) hs
  obtain ⟨b0, b1, b2, b3, b4, b5, b6, b7, b8, b9, b10⟩ := dD hs
  rw [e]; unfold meas; simp only
  by_cases h0 : cr s window mss = 0
  · have hf : bY s window mss = true := hne.resolve_left (fun h => h h0)
    have hq : s.finSent = false := by unfold bY at hf; simp at hf; exact hf.2.1
    simp [h0, hf, hq]
  · cases hq : s.finSent <;> cases hf : bY s window mss <;> simp <;> omega
def pumpC (s : Snd) (window mss : Int) : Snd × List Chk :=
  if _h : (nC s window mss).2 = true then ((pumpC (sO s (nC s window mss).1) window mss).1, (nC s window mss).1 :: (pumpC (sO s (nC s window mss).1) window mss).2) else (s, [])
termination_by meas s
decreasing_by all_goals exact meas_next (by assumption)
def segOf (c : Con) (ch : Chk) : Seg := ⟨c.t.my, c.t.port, ch.seq, c.r.next, (if ch.text.toList.isEmpty then 16 else 24) + (if ch.fin then 1 else 0), wO c.r, ⟨0, -1, false, false, 0, 0⟩, ch.text⟩
def tmr {α : Type} (c : Con) (l : List α) : Int := if l.isEmpty then c.timer else if c.timer = 0 then 3 else c.timer
def pump (c : Con) (window : Int) : Con × List Seg :=
  if conOk c && (!decide (c.state = 8) && !decide (c.state = 7)) then
    ({ c with s := (pumpC c.s window (mssO c.o)).1, timer := tmr c ((pumpC c.s window (mssO c.o)).2.map (segOf c)) }, (pumpC c.s window (mssO c.o)).2.map (segOf c))
  else (c, [])
end
/- Plain definitions: calls and ticks (no program in sight). -/
section
open Go.RowKit
def write (c : Con) (text : ByteArray) : Con × Int × List Seg :=
  if conOk c && (decide (c.state = 1) || decide (c.state = 4)) then ((pump { c with s := (queued c.s text).1 } c.window).1, (queued c.s text).2, (pump { c with s := (queued c.s text).1 } c.window).2) else (c, 0, [])
end
/- Plain definitions: what is heard, and received (no program in sight). -/
section
open Go.RowKit
def heardMid (c : Con) (g : Seg) : Con :=
  if (acked c.s g.ack).2 then
    (if (¬ (acked c.s g.ack).1.una = c.s.una ∨ dX (acked c.s g.ack).1 = 0) ∧ ¬ c.state = 7 then
      { c with s := (acked c.s g.ack).1, window := farW g.window c.o, most := max c.most (farW g.window c.o), tries := 0, timer := if 0 < dX (acked c.s g.ack).1 then 3 else 0 }
     else { c with s := (acked c.s g.ack).1, window := farW g.window c.o, most := max c.most (farW g.window c.o) })
  else c
def heardR (c : Con) (g : Seg) : Rcv := if dT c.state 1 3 then a5 c.r g.seq g.body (hasF g.flags 1) else c.r
def heard (c : Con) (g : Seg) : Con := if verdict c g = 5 then et { heardMid c g with r := heardR c g } else c
def answered (c : Con) (g : Seg) : Con × List Seg :=
  if c.state = 8 then (c, []) else ((pump c c.window).1, if 0 < segLen g ∧ (pump c c.window).2.length = 0 then [ackOf c] else (pump c c.window).2)
def received (c : Con) (g : Seg) : Con × List Seg × Int :=
  if verdict c g = 1 then (c, [], 1)
  else if verdict c g = 2 then ({ c with state := 8, timer := 0, tries := 0 }, [], 2)
  else if verdict c g = 3 then (c, [ackOf c], 3)
  else if verdict c g = 4 then (if c.state = 7 ∧ hasF g.flags 1 = true then { c with timer := 4 } else c, [ackOf c], 4)
  else ((answered (heard c g) g).1, (answered (heard c g) g).2, 5)
theorem pcs_bd : ∀ (l : List Int) (acc : List Pce) (j : Nat), (∀ p ∈ acc, 0 ≤ p.off ∧ p.off + (p.text.size : Int) ≤ (j : Int)) → ∀ p ∈ ca acc j l, 0 ≤ p.off ∧ p.off + (p.text.size : Int) ≤ ((j + l.length : Nat) : Int)
  | [], acc, j, h, p, hp => by simpa using h p hp
  | x :: l, acc, j, h, p, hp => by
    rw [ca] at hp
    have := pcs_bd l _ (j + 1) (fun q hq => by
      split at hq
      · have := h q hq; omega
      · have := es h q hq; omega) p hp
    rw [List.length_cons]; omega
theorem arrived_sz {r : Rcv} {seq : Int} {t : ByteArray} {fin : Bool} {H T D : Nat} (h1 : r.held.length ≤ H) (h2 : ∀ p ∈ r.held, p.text.size ≤ T) (h3 : r.data.size ≤ D) (hH : 3 ≤ H) (hT : 33 ≤ T) (hD : 65 ≤ D) :
    (a5 r seq t fin).held.length ≤ H ∧ (∀ p ∈ (a5 r seq t fin).held, p.text.size ≤ T) ∧ (a5 r seq t fin).data.size ≤ D := by
  unfold a5
  split
  · rename_i hok
    simp only [Bool.and_eq_true] at hok
    have hr := dR hok.1
    have hl := e6 r seq t
    have hb : ∀ p ∈ ca [] 0 ((aj r seq t).drop (aS (aj r seq t))), p.text.size ≤ T := fun p hp => by
      have := pcs_bd _ [] 0 (by simp) p hp
      rw [List.length_drop, hl] at this; omega
    have hd : (r.data ++ a6 ((aj r seq t).take (aS (aj r seq t)))).size ≤ D := by
      rw [ByteArray.size_append, ci, List.length_take, hl]; omega
    split
    · exact ⟨h1, h2, h3⟩
    · rename_i hn
      split
      · exact ⟨by dsimp only; omega, hb, hd⟩
      · exact ⟨by dsimp only; omega, hb, hd⟩
  · exact ⟨h1, h2, h3⟩
theorem turned_w (c : Con) : (et c).window = c.window ∧ (et c).s = c.s ∧ (et c).r = c.r ∧ (et c).most = c.most ∧ (et c).o = c.o ∧ (et c).t = c.t := by unfold et; (repeat' split) <;> exact ⟨rfl, rfl, rfl, rfl, rfl, rfl⟩
theorem heardR_sz {c : Con} {g : Seg} {H T D : Nat} (h1 : c.r.held.length ≤ H) (h2 : ∀ p ∈ c.r.held, p.text.size ≤ T) (h3 : c.r.data.size ≤ D) (hH : 3 ≤ H) (hT : 33 ≤ T) (hD : 65 ≤ D) :
    (heardR c g).held.length ≤ H ∧ (∀ p ∈ (heardR c g).held, p.text.size ≤ T) ∧ (heardR c g).data.size ≤ D := by
  unfold heardR; split
  · exact arrived_sz h1 h2 h3 hH hT hD
  · exact ⟨h1, h2, h3⟩
theorem heard_r (c : Con) (g : Seg) : (heard c g).r = heardR c g ∨ (heard c g).r = c.r := by
  unfold heard; split
  · rw [(turned_w _).2.2.1]; exact .inl rfl
  · exact .inr rfl
theorem heard_sz {c : Con} {g : Seg} {H T D : Nat} (h1 : c.r.held.length ≤ H) (h2 : ∀ p ∈ c.r.held, p.text.size ≤ T) (h3 : c.r.data.size ≤ D) (hH : 3 ≤ H) (hT : 33 ≤ T) (hD : 65 ≤ D) :
    (heard c g).r.held.length ≤ H ∧ (∀ p ∈ (heard c g).r.held, p.text.size ≤ T) ∧ (heard c g).r.data.size ≤ D := by
  rcases heard_r c g with e | e <;> rw [e]
  · exact heardR_sz h1 h2 h3 hH hT hD
  · exact ⟨h1, h2, h3⟩
end
/- Plain definitions: sizes of what is drawn (no program in sight). -/
section
open Go.RowKit
def RB (H : Nat) (r : Rcv) : Prop := r.held.length ≤ H ∧ (∀ p ∈ r.held, p.text.size ≤ 33) ∧ r.data.size ≤ 65
theorem RB.kn {r : Rcv} (h : RB 4 r) : r.held.length ≤ 1048576 := Nat.le_trans h.1 (by decide)
theorem RB.hm {r : Rcv} {H : Nat} (h : RB H r) : ∀ p ∈ r.held, p.text.size ≤ 1048576 := fun p hp => Nat.le_trans (h.2.1 p hp) (by decide)
theorem RB.sz {r : Rcv} {H : Nat} (h : RB H r) : r.data.size ≤ 4611686018427387904 := Nat.le_trans h.2.2 (by decide)
theorem RB.up {r : Rcv} (h : RB 3 r) : RB 4 r := ⟨Nat.le_trans h.1 (by decide), h.2.1, h.2.2⟩
theorem RB.new (n : Int) : RB 3 (rN n) := ⟨Nat.zero_le _, fun p hp => by simp [rN] at hp, Nat.zero_le _⟩
theorem RB.arr {r : Rcv} {H : Nat} (h : RB H r) (hH : 3 ≤ H) (seq : Int) (t : ByteArray) (fin : Bool) : RB H (a5 r seq t fin) := arrived_sz h.1 h.2.1 h.2.2 hH (Nat.le_refl _) (Nat.le_refl _)
theorem RB.taken {r : Rcv} {H : Nat} (h : RB H r) (n : Int) : RB H (ay r n).1 := ⟨by rw [takenIn_held]; exact h.1, by rw [takenIn_held]; exact h.2.1, Nat.le_trans (takenIn_sz r n) h.2.2⟩
theorem RB.more {r : Rcv} (h : RB 3 r) (p : Pce) (hp : p.text.size ≤ 33) {d : ByteArray} (hd : d.size ≤ 65) {next fin : Int} {done : Bool} : RB 4 ⟨next, d, r.held ++ [p], fin, done⟩ :=
  ⟨by rw [List.length_append]; have := h.1; simp; omega, fun q hq => by
    rcases List.mem_append.1 hq with hq | hq
    · exact h.2.1 q hq
    · rw [List.mem_singleton] at hq; subst hq; exact hp, hd⟩
theorem pump_r (c : Con) (w : Int) : (pump c w).1.r = c.r := by unfold pump; split <;> rfl
theorem RB.pump {c : Con} {H : Nat} (h : RB H c.r) (w : Int) : RB H (Go.Proofs.Ytebgmdiejgcoiaa.pump c w).1.r := by rw [pump_r]; exact h
theorem RB.write {c : Con} {H : Nat} (h : RB H c.r) (t : ByteArray) : RB H (Go.Proofs.Ytebgmdiejgcoiaa.write c t).1.r := by unfold Go.Proofs.Ytebgmdiejgcoiaa.write; split <;> first | (dsimp only; rw [pump_r]; exact h) | exact h
theorem RB.read {c : Con} {H : Nat} (h : RB H c.r) (n : Int) : RB H (readConn c n).1.r := by
  unfold readConn; (repeat' split) <;> first | exact h | exact RB.taken h n
theorem RB.heard {c : Con} {H : Nat} (h : RB H c.r) (hH : 3 ≤ H) (g : Seg) : RB H (Go.Proofs.Ytebgmdiejgcoiaa.heard c g).r := heard_sz h.1 h.2.1 h.2.2 hH (Nat.le_refl _) (Nat.le_refl _)
end
/- Plain definitions: the slots as two arrays, and what is kept of them (no program in sight). -/
section
open Go.RowKit
set_option linter.unusedVariables false
def cv (W : Nat) (sl : List Int) : List Bool := (sl.take W).map fun x => decide (0 ≤ x)
def ao (W : Nat) (sl : List Int) : List Int := (sl.take W).map fun x => max x 0
def db (sl : List Int) (off : Nat) (x : Int) : List Int := if 0 ≤ slotAt sl off then sl else sl.set off x
theorem hvOf_len {W : Nat} {sl : List Int} (h : W ≤ sl.length) : (cv W sl).length = W := by unfold cv; simp; omega
theorem dtOf_len {W : Nat} {sl : List Int} (h : W ≤ sl.length) : (ao W sl).length = W := by unfold ao; simp; omega
theorem eu {W off : Nat} {sl : List Int} {x : Int} (hw : off < W) (h : sl[off]? = some x) : (cv W sl)[off]? = some (decide (0 ≤ x)) := by
  unfold cv; rw [List.getElem?_map, List.getElem?_take_of_lt hw, h]; rfl
theorem dtOf_get {W off : Nat} {sl : List Int} {x : Int} (hw : off < W) (h : sl[off]? = some x) : (ao W sl)[off]? = some (max x 0) := by
  unfold ao; rw [List.getElem?_map, List.getElem?_take_of_lt hw, h]; rfl
theorem hvOf_set {W off : Nat} {sl : List Int} {x : Int} (hx : 0 ≤ x) : (cv W sl).set off true = cv W (sl.set off x) := by
  unfold cv; rw [List.take_set, List.map_set, show decide (0 ≤ x) = true from decide_eq_true hx]
theorem dtOf_set {W off : Nat} {sl : List Int} {x : Int} (hx : 0 ≤ x) : (ao W sl).set off x = ao W (sl.set off x) := by
  unfold ao; rw [List.take_set, List.map_set, show max x 0 = x by omega]
theorem hvOf_start {W : Nat} (h : W ≤ 33) : cv W (List.replicate 33 (-1)) = List.replicate W false := by
  unfold cv; rw [List.take_replicate, List.map_replicate, Nat.min_eq_left h]; rfl
theorem dtOf_start {W : Nat} (h : W ≤ 33) : ao W (List.replicate 33 (-1)) = List.replicate W 0 := by
  unfold ao; rw [List.take_replicate, List.map_replicate, Nat.min_eq_left h]; rfl
theorem stOne_len (sl : List Int) (off : Nat) (x : Int) : (db sl off x).length = sl.length := by unfold db; split <;> simp
theorem stOne_free {sl : List Int} {off : Nat} {x z : Int} (h : sl[off]? = some z) (hz : z < 0) : db sl off x = sl.set off x := by
  unfold db; rw [slotAt_of h, if_neg (by omega)]
theorem stOne_full {sl : List Int} {off : Nat} {x z : Int} (h : sl[off]? = some z) (hz : 0 ≤ z) : db sl off x = sl := by
  unfold db; rw [slotAt_of h, if_pos hz]
theorem stOne_far {sl : List Int} {off j : Nat} {x : Int} (h : off ≠ j) : (db sl off x)[j]? = sl[j]? := by
  unfold db; split
  · rfl
  · rw [List.getElem?_set_ne h]
def cT (B gh gd bh bd T1 T2 e1 e2 W : Nat) (sl : List Int) : Fact := allF [aY B gh T1 [.slice (some ⟨bh, 0, none⟩) W W], aY B gd T2 [.slice (some ⟨bd, 0, none⟩) W W], a8 B e1 1 (.slice (some ⟨bh, 0, none⟩) W W) ((cv W sl).map ab), a8 B e2 1 (.slice (some ⟨bd, 0, none⟩) W W) ((ao W sl).map bR)]
theorem arrF_lo {B gh gd bh bd T1 T2 e1 e2 W : Nat} {sl : List Int} {w : World} (h : (cT B gh gd bh bd T1 T2 e1 e2 W sl).p w) {b : Nat} (hb : (cT B gh gd bh bd T1 T2 e1 e2 W sl).blk b) : B ≤ b := by
  obtain ⟨g, hg, hq⟩ := hb
  have hp := h.1 g hg
  simp only [List.mem_cons, List.not_mem_nil, or_false] at hg
  rcases hg with rfl | rfl | rfl | rfl
  · have e : b = gh := hq
    subst e; exact hp.1
  · have e : b = gd := hq
    subst e; exact hp.1
  · exact dW hp hq
  · exact dW hp hq
theorem arrF_blk {B gh gd bh bd T1 T2 e1 e2 W : Nat} {sl sl' : List Int} {b : Nat} (hb : (cT B gh gd bh bd T1 T2 e1 e2 W sl').blk b) : (cT B gh gd bh bd T1 T2 e1 e2 W sl).blk b := by
  obtain ⟨g, hg, hq⟩ := hb
  simp only [List.mem_cons, List.not_mem_nil, or_false] at hg
  rcases hg with rfl | rfl | rfl | rfl
  · exact ⟨_, by simp, hq⟩
  · exact ⟨_, .tail _ (.head _), hq⟩
  · exact ⟨_, .tail _ (.tail _ (.head _)), hq⟩
  · exact ⟨_, .tail _ (.tail _ (.tail _ (.head _))), hq⟩
theorem xcm_arr {P : Program} {w0 : World} {fs : List Fact} {f : FuncId} {args : List Value} {v : Value} {B gh gd bh bd T1 T2 e1 e2 W : Nat} {sl sl' : List Int}
    (h : ∀ w, w0.heap.size ≤ w.heap.size → (∀ g ∈ fs, g.p w) → Calls P f args.toArray w fun e w' => e = .returned v ∧ (cT B gh gd bh bd T1 T2 e1 e2 W sl').p w' ∧ Chgd (cT B gh gd bh bd T1 T2 e1 e2 W sl).blk w w') :
    XCM P w0 fs (cT B gh gd bh bd T1 T2 e1 e2 W sl).blk f args (α := Unit) (fun _ => v) (fun _ => [cT B gh gd bh bd T1 T2 e1 e2 W sl']) := fun w hw hf => (h w hw hf).mono fun e w' ⟨he, hp, hc⟩ =>
  ⟨(), he, fun g hg => by
    obtain rfl : g = cT B gh gd bh bd T1 T2 e1 e2 W sl' := by simpa using hg
    exact ⟨hp, fun b hb => .inl (arrF_blk hb)⟩, Apart.one _, hc⟩
theorem apart_frS {gs : List Fact} {W : World} {S : Nat → Prop} (h : Apart gs) (hS : ∀ g ∈ gs, ∀ b, g.blk b → S b) : Apart (gs ++ [cy W S]) :=
  h.append (Apart.one _) fun f hf g hg b hb hgb => by
    obtain rfl : g = cy W S := by simpa using hg
    exact hgb.2 (hS f hf b hb)
theorem own4 {f1 f2 f3 f4 : Fact} (h1 : f1.own = true) (h2 : f2.own = true) (h3 : f3.own = true) (h4 : f4.own = true) : ∀ g ∈ [f1, f2, f3, f4], g.own = true := fun g hg => by
  simp only [List.mem_cons, List.not_mem_nil, or_false] at hg
  rcases hg with rfl | rfl | rfl | rfl <;> assumption
theorem rok_held {r : Rcv} (h : rO r = true) : aX (if r.fin = -1 then wO r else r.fin) 0 r.held = true := by
  unfold rO at h; simp only [Bool.and_eq_true] at h; exact h.2.1
theorem held_step {m e : Int} {l : List Pce} {i : Nat} {p : Pce} (h : aX m e (l.drop i) = true) (hx : l[i]? = some p) : e < p.off ∧ p.off + (p.text.size : Int) ≤ m ∧ aX m (p.off + (p.text.size : Int)) (l.drop (i + 1)) = true := by
  obtain ⟨hl, e1⟩ := List.getElem?_eq_some_iff.1 hx
  rw [List.drop_eq_getElem_cons hl, e1] at h
  simp only [aX, Bool.and_eq_true, decide_eq_true_eq] at h
  exact ⟨h.2.1, by omega, h.2.2.2⟩
theorem text_yes {r : Rcv} {seq : Int} {t : ByteArray} {l : List Int} {k : Nat} (h1 : ((ae r seq k : Nat) : Int) < wO r) (h2 : r.fin < 0 ∨ ((ae r seq k : Nat) : Int) < r.fin) : de r seq t l k = db l (ae r seq k) (ar t k) := by
  rw [bV]; unfold db
  by_cases h : 0 ≤ slotAt l (ae r seq k)
  · rw [if_neg (by omega), if_pos h]
  · rw [if_pos ⟨h1, h2, by omega⟩, if_neg h]
theorem text_no {r : Rcv} {seq : Int} {t : ByteArray} {l : List Int} {k : Nat} (h : ¬ (((ae r seq k : Nat) : Int) < wO r ∧ (r.fin < 0 ∨ ((ae r seq k : Nat) : Int) < r.fin))) : de r seq t l k = l := by
  rw [bV, if_neg (by rintro ⟨h1, h2, -⟩; exact h ⟨h1, h2⟩)]
def hasB (l : List Bool) (b : Bool) : Bool := l.any (b == ·)
theorem hasB_free {W p : Nat} {sl : List Int} (hbe : ∀ j, W ≤ j → j < 33 → sl[j]? = some (-1)) (hl : sl.length = 33) (hW : W ≤ 32) (hp : p ≤ W) : hasB (((cv W sl).drop p).take (W - p)) true = !bm sl p := by
  have e0 : ((cv W sl).drop p).take (W - p) = (cv W sl).drop p := List.take_of_length_le (by rw [List.length_drop, hvOf_len (by omega)]; omega)
  rw [e0]
  cases hf : bm sl p with
  | true =>
    unfold bm at hf; rw [List.all_eq_true] at hf
    unfold hasB
    rw [Bool.not_true, ← Bool.not_eq_true, List.any_eq_true]
    rintro ⟨x, hx, hq⟩
    unfold cv at hx
    rw [← List.map_drop] at hx
    obtain ⟨y, hy, rfl⟩ := List.mem_map.1 hx
    have h1 := hf y (by rw [List.drop_take] at hy; exact List.mem_of_mem_take hy)
    simp at h1 hq; omega
  | false =>
    unfold bm at hf
    rw [Bool.not_false]
    have : ¬ ∀ x ∈ sl.drop p, decide (x < 0) = true := fun h => by rw [List.all_eq_true.2 h] at hf; cases hf
    simp only [Classical.not_forall, decide_eq_true_eq] at this
    obtain ⟨x, hx, hn⟩ := this
    obtain ⟨i, hi⟩ := List.getElem?_of_mem hx
    rw [List.getElem?_drop] at hi
    have hlt : p + i < W := by
      rcases Nat.lt_or_ge (p + i) W with h | h
      · exact h
      · have h3 := (List.getElem?_eq_some_iff.1 hi).1
        rw [hbe _ h (by omega)] at hi
        simp only [Option.some.injEq] at hi; omega
    unfold hasB; rw [List.any_eq_true]
    refine ⟨true, List.mem_of_getElem? (i := i) ?_, rfl⟩
    rw [List.getElem?_drop, eu hlt hi, show decide (0 ≤ x) = true from decide_eq_true (by omega)]
theorem dt_part {W i n : Nat} {sl : List Int} (h : i + n ≤ W) (hp : ∀ x ∈ (sl.drop i).take n, 0 ≤ x) : ((ao W sl).drop i).take n = (sl.drop i).take n := by
  unfold ao
  rw [← List.map_drop, ← List.map_take, List.drop_take, List.take_take, Nat.min_eq_left (by omega)]
  conv => rhs; rw [← List.map_id ((sl.drop i).take n)]
  exact List.map_congr_left fun x hx => by have := hp x hx; simp only [id]; omega
theorem pcs_neg (acc : List Pce) : ∀ (l : List Int) (j : Nat), (∀ x ∈ l, x < 0) → ca acc j l = acc
  | [], _, _ => rfl
  | x :: l, j, h => by rw [ca, if_pos (h x (by simp))]; exact pcs_neg acc l _ fun y hy => h y (by simp [hy])
theorem beyond_neg {W : Nat} {sl : List Int} (hbe : ∀ j, W ≤ j → j < 33 → sl[j]? = some (-1)) (hl : sl.length = 33) : ∀ x ∈ sl.drop W, x < 0 := fun x hx => by
  obtain ⟨i, hi⟩ := List.getElem?_of_mem hx
  rw [List.getElem?_drop] at hi
  have h3 := (List.getElem?_eq_some_iff.1 hi).1
  rw [hbe _ (by omega) (by omega)] at hi
  simp only [Option.some.injEq] at hi; omega
theorem pcs_piece {sl : List Int} {out : List Pce} {n i j : Nat} (hni : n ≤ i) (hij : i < j) (hj : j ≤ sl.length) (hrun : ∀ x ∈ (sl.drop i).take (j - i), 0 ≤ x) (ht : ¬ touches out (i - n)) :
    ca out (i - n) (sl.drop i) = ca (out ++ [⟨((i - n : Nat) : Int), a6 ((sl.drop i).take (j - i))⟩]) (j - n) (sl.drop j) := by
  have hsplit : sl.drop i = (sl.drop i).take (j - i) ++ sl.drop j := by
    conv => lhs; rw [← List.take_append_drop (j - i) (sl.drop i)]
    rw [List.drop_drop]; congr 2; omega
  have hlen : ((sl.drop i).take (j - i)).length = j - i := by rw [List.length_take, List.length_drop]; omega
  cases hc : (sl.drop i).take (j - i) with
  | nil => rw [hc] at hlen; simp at hlen; omega
  | cons x run =>
    rw [hc] at hrun hlen
    conv => lhs; rw [hsplit, hc]
    rw [pcs_begin out (i - n) x run (sl.drop j) (hrun x (by simp)) (fun y hy => hrun y (by simp [hy])) ht]
    congr 1
    simp only [List.length_cons] at hlen ⊢; omega
theorem bd_more {out : List Pce} {a c : Nat} {t : ByteArray} (h : ∀ p ∈ out, 0 ≤ p.off ∧ p.off + (p.text.size : Int) ≤ (a : Int)) (ha : a ≤ c) (ht : a + t.size ≤ c) : ∀ p ∈ out ++ [(⟨(a : Int), t⟩ : Pce)], 0 ≤ p.off ∧ p.off + (p.text.size : Int) ≤ (c : Int) := fun p hp => by
  rcases List.mem_append.1 hp with hp | hp
  · have := h p hp; omega
  · rw [List.mem_singleton] at hp; subst hp; dsimp only; omega
theorem touch_skip {out : List Pce} {m : Nat} (hbd : ∀ p ∈ out, 0 ≤ p.off ∧ p.off + (p.text.size : Int) ≤ (m : Int)) : ¬ touches out (m + 1) := by
  rintro ⟨p, hp, he⟩
  have := hbd p (List.mem_of_getLast? hp); omega
theorem run_more {sl : List Int} {i j : Nat} {x : Int} (hij : i ≤ j) (h : ∀ x ∈ (sl.drop i).take (j - i), 0 ≤ x) (hx : sl[j]? = some x) (h0 : 0 ≤ x) : ∀ x ∈ (sl.drop i).take (j + 1 - i), 0 ≤ x := fun y hy => by
  have e : (sl.drop i).take (j + 1 - i) = (sl.drop i).take (j - i) ++ [x] := by
    rw [show j + 1 - i = (j - i) + 1 by omega, List.take_add_one, List.getElem?_drop, show i + (j - i) = j by omega, hx]; rfl
  rw [e] at hy
  rcases List.mem_append.1 hy with hy | hy
  · exact h y hy
  · rw [List.mem_singleton] at hy; omega
theorem dt_head {W n : Nat} {sl : List Int} (h : n ≤ W) (hp : ∀ x ∈ sl.take n, 0 ≤ x) : a6 (((ao W sl).drop 0).take (n - 0)) = a6 (sl.take n) := by
  have := dt_part (W := W) (i := 0) (n := n) (sl := sl) (by omega) (by simpa using hp)
  rw [Nat.sub_zero, this]; simp
def en (b : Bool) : List Bool → Nat → Int
  | [], _ => -1
  | x :: xs, k => if b = x then (k : Int) else en b xs (k + 1)
theorem idx_has (b : Bool) : ∀ (l : List Bool) (k : Nat), decide (en b l k ≥ 0) = hasB l b
  | [], k => rfl
  | x :: xs, k => by
    by_cases h : b = x
    · have e : en b (x :: xs) k = k := by rw [en, if_pos h]
      rw [show decide (en b (x :: xs) k ≥ 0) = true from decide_eq_true (by omega)]
      unfold hasB; simp [h]
    · have e : en b (x :: xs) k = en b xs (k + 1) := by rw [en, if_neg h]
      have h2 := idx_has b xs (k + 1)
      unfold hasB at h2 ⊢
      rw [List.any_cons, ← h2, show (b == x) = false from by simpa using h, Bool.false_or]
      simp only [e]
end
/- Plain laws: a new connection (no program in sight). -/
section
open Go.RowKit
end
/- Plain laws: what is taken, et, acceptable (no program in sight). -/
section
open Go.RowKit
theorem pceEq_self (p : Pce) : pceEq p p = true := by simp [pceEq]
theorem sameL_pce (l : List Pce) : sameL pceEq l l = true := sameL_yes rfl fun i x y h1 h2 => by rw [h1] at h2; simp only [Option.some.injEq] at h2; subst h2; exact pceEq_self x
theorem sameR_self (r : Rcv) : aU r r = true := by unfold aU; rw [sameL_pce]; simp
theorem cut_bd (s : ByteArray) (n : Int) : 0 ≤ cut s n ∧ cut s n ≤ s.size := by unfold cut; omega
theorem heldOk_mono {m m' : Int} (h : m ≤ m') : ∀ (l : List Pce) (e : Int), aX m e l = true → aX m' e l = true
  | [], _, _ => rfl
  | p :: l, e, hk => by
    simp only [aX, Bool.and_eq_true, decide_eq_true_eq] at hk ⊢
    exact ⟨hk.1, hk.2.1, by omega, heldOk_mono h l _ hk.2.2.2⟩
theorem takenIn_cat {r : Rcv} (n : Int) (h : rO r = true) : (ay r n).2 ++ (ay r n).1.data = r.data := by
  have hc := cut_bd r.data n
  unfold ay; rw [if_pos h]
  apply bytes_ext
  simp only [ByteArray.data_append, ByteArray.data_extract, Array.toList_append, Array.toList_extract]
  simp only [List.extract, List.drop_zero, Nat.sub_zero]
  have e : r.data.size = r.data.data.toList.length := Array.length_toList.symm
  rw [List.take_of_length_le (l := List.drop _ _) (by rw [List.length_drop, e]; exact Nat.le_refl _), List.take_append_drop]
theorem takenIn_win {r : Rcv} (n : Int) (h : rO r = true) (hd : r.done = false) : wO (ay r n).1 = wO r + ((ay r n).2.size : Int) := by
  have hc := cut_bd r.data n
  have hr := (dR h).1
  unfold ay; rw [if_pos h]
  simp only [wO, hd, ByteArray.size_extract]
  simp; omega
theorem takenIn_done {r : Rcv} (n : Int) : (ay r n).1.done = r.done ∧ (ay r n).1.next = r.next ∧ (ay r n).1.fin = r.fin ∧ (ay r n).1.held = r.held := by
  unfold ay; split <;> exact ⟨rfl, rfl, rfl, rfl⟩
theorem takenIn_ok {r : Rcv} (n : Int) (h : rO r = true) : rO (ay r n).1 = true := by
  obtain ⟨e1, e2, e3, e4⟩ := takenIn_done (r := r) n
  have hs := takenIn_sz r n
  have hw : wO r ≤ wO (ay r n).1 := by
    cases hd : r.done
    · rw [takenIn_win n h hd]; omega
    · unfold wO; rw [e1, hd]; simp
  have h2 := h
  unfold rO at h2 ⊢
  simp only [Bool.and_eq_true] at h2 ⊢
  obtain ⟨h3, h4, h5⟩ := h2
  obtain ⟨g1, g2, g3, g4, g5⟩ := rcvPre_iff.1 h3
  have g4' := inB_tt.1 g4
  refine ⟨rcvPre_iff.2 ⟨by rw [e2]; exact g1, Nat.le_trans hs g2, by rw [e4]; exact g3, by rw [e3]; exact inB_tt.2 ⟨g4'.1, by omega⟩, by rw [e3]; exact g5⟩, ?_, ?_⟩
  · rw [e3, e4]; exact heldOk_mono (by split <;> omega) _ _ h4
  · unfold ag at h5 ⊢; rw [e1, e3, e4]; exact h5
end
/- Plain laws: a receiver stays right, and what it has is only made longer (no program in sight). -/
section
open Go.RowKit
set_option linter.unusedVariables false
theorem putText_far {l : List Int} {off : Nat} {t : ByteArray} : ∀ (k : Nat) {j : Nat}, off + k ≤ j → (c5 l off t k)[j]? = l[j]?
  | 0, _, _ => rfl
  | k + 1, j, h => by
    simp only [c5]; rw [List.getElem?_set_ne (by omega)]; exact putText_far k (by omega)
theorem putHeld_far {m : Int} : ∀ (ps : List Pce) {e : Int} {l : List Int} {j : Nat}, 0 ≤ e → aX m e ps = true → m ≤ (j : Int) → (aa l ps)[j]? = l[j]?
  | [], _, _, _, _, _, _ => rfl
  | p :: ps, e, l, j, he, h, hj => by
    simp only [aX, Bool.and_eq_true, decide_eq_true_eq] at h
    simp only [aa]
    rw [putHeld_far ps (by omega) h.2.2.2 hj, putText_far _ (by omega)]
theorem textN_far {r : Rcv} {seq : Int} {t : ByteArray} {l : List Int} {j : Nat} (h : wO r ≤ (j : Int) ∨ (0 ≤ r.fin ∧ r.fin ≤ (j : Int))) : ∀ k, (ck r seq t l k)[j]? = l[j]?
  | 0 => rfl
  | k + 1 => by
    simp only [ck]; rw [bV]
    split
    · rename_i hc
      rw [List.getElem?_set_ne (by omega)]; exact textN_far h k
    · exact textN_far h k
theorem rep33 {j : Nat} (h : j < 33) : (List.replicate 33 (-1 : Int))[j]? = some (-1) := by rw [List.getElem?_replicate, if_pos h]
theorem allIn_far {r : Rcv} {seq : Int} {t : ByteArray} (hr : rO r = true) {j : Nat} (hj : j < 33) (h : wO r ≤ (j : Int) ∨ (0 ≤ r.fin ∧ r.fin ≤ (j : Int))) : (aj r seq t)[j]? = some (-1) := by
  unfold aj; rw [textN_far h]
  unfold ax
  obtain ⟨hf0, hf1, hf2, hf3, hf4, hheld⟩ := dR hr
  rw [putHeld_far r.held (Int.le_refl 0) (rok_held hr) (by split <;> omega)]
  exact rep33 hj
theorem filled_lt {l : List Int} {k : Nat} {x : Int} (hx : l[k]? = some x) (hn : x < 0) : aS l ≤ k := by
  unfold aS
  induction l generalizing k with
  | nil => simp at hx
  | cons a l ih =>
    rw [List.takeWhile_cons]
    split
    · rename_i ha
      cases k with
      | zero => simp only [List.getElem?_cons_zero, Option.some.injEq] at hx; simp only [decide_eq_true_eq] at ha; omega
      | succ k => simp only [List.getElem?_cons_succ] at hx; rw [List.length_cons]; have := ih hx; omega
    · simp
theorem filled_in {l : List Int} {k : Nat} (hk : k < aS l) : ∃ x, l[k]? = some x ∧ 0 ≤ x := by
  unfold aS at hk
  induction l generalizing k with
  | nil => simp at hk
  | cons a l ih =>
    rw [List.takeWhile_cons] at hk
    split at hk
    · rename_i ha
      cases k with
      | zero => exact ⟨a, rfl, by simpa using ha⟩
      | succ k => rw [List.length_cons] at hk; exact ih (by omega)
    · simp at hk
theorem filled_at {l : List Int} (h : aS l < l.length) : ∃ x, l[aS l]? = some x ∧ x < 0 := by
  unfold aS at h ⊢
  induction l with
  | nil => simp at h
  | cons a l ih =>
    rw [List.takeWhile_cons] at h ⊢
    split
    · rename_i ha
      rw [if_pos ha] at h
      rw [List.length_cons] at h ⊢; simp only [List.getElem?_cons_succ]
      exact ih (by simpa using h)
    · rename_i ha
      exact ⟨a, rfl, by simpa using ha⟩
theorem filled_win {r : Rcv} {seq : Int} {t : ByteArray} (hr : rO r = true) : (aS (aj r seq t) : Int) ≤ wO r := by
  have hw := bW r
  have := filled_lt (allIn_far (seq := seq) (t := t) hr (j := (wO r).toNat) (by omega) (.inl (by omega))) (by decide)
  omega
def endOf : Int → List Pce → Int
  | e, [] => e
  | _, p :: ps => endOf (p.off + (p.text.size : Int)) ps
theorem dp (p : Pce) : ∀ (l : List Pce) (e : Int), endOf e (l ++ [p]) = p.off + (p.text.size : Int)
  | [], _ => rfl
  | q :: l, e => by simp only [List.cons_append, endOf]; exact dp p l _
theorem cA (m : Int) (p : Pce) : ∀ (l : List Pce) (e : Int), aX m e (l ++ [p]) = (aX m e l && (!p.text.toList.isEmpty && (decide (endOf e l < p.off) && decide (p.off ≤ m - p.text.size))))
  | [], e => by simp [aX, endOf]; rfl
  | q :: l, e => by
    simp only [List.cons_append, aX, endOf]
    rw [cA m p l]
    simp only [Bool.and_assoc]; rfl
theorem nonempty_of {t : ByteArray} (h : 0 < t.size) : (!t.toList.isEmpty) = true := by
  cases hq : t.toList with
  | nil => have := toList_nil.1 hq; omega
  | cons a l => rfl
theorem addByte_ok {m : Int} {acc : List Pce} {j : Nat} {x : Int} (h : aX m 0 acc = true) (he : endOf 0 acc ≤ (j : Int)) (h0 : acc = [] → 0 < j) (hj : (j : Int) < m) :
    aX m 0 (bG acc j x) = true ∧ endOf 0 (bG acc j x) ≤ ((j + 1 : Nat) : Int) ∧ bG acc j x ≠ [] := by
  have hs1 : (a6 [x]).size = 1 := ci [x]
  rcases List.eq_nil_or_concat acc with rfl | ⟨l, p, rfl⟩
  · rw [df rfl]
    refine ⟨?_, ?_, by simp⟩
    · rw [cA, nonempty_of (by simp only; omega)]
      have := h0 rfl
      simp only [endOf, aX, Bool.true_and, Bool.and_eq_true, decide_eq_true_eq]; refine ⟨decide_eq_true (show (0 : Int) < (j : Int) by omega), ?_⟩
      show (j : Int) ≤ m - ((a6 [x]).size : Int); omega
    · rw [dp]; simp only; omega
  · rw [List.concat_eq_append] at *
    rw [dp] at he
    rw [cA] at h
    simp only [Bool.and_eq_true, decide_eq_true_eq] at h
    by_cases ht : p.off + (p.text.size : Int) = (j : Int)
    · rw [dc (p := p) (by simp) ht]
      have e : (l ++ [p]).set ((l ++ [p]).length - 1) ⟨p.off, p.text ++ a6 [x]⟩ = l ++ [⟨p.off, p.text ++ a6 [x]⟩] := by simp
      rw [e]
      refine ⟨?_, ?_, by simp⟩
      · rw [cA, nonempty_of (by simp only; rw [ByteArray.size_append]; omega), h.1]
        simp only [Bool.true_and, Bool.and_eq_true, decide_eq_true_eq]; rw [ByteArray.size_append]; omega
      · rw [dp]; simp only; rw [ByteArray.size_append]; omega
    · rw [da (p := p) (by simp) ht]
      refine ⟨?_, ?_, by simp⟩
      · rw [cA, nonempty_of (by simp only; omega), dp, cA, h.1, h.2.1]
        simp only [Bool.true_and, Bool.and_eq_true, decide_eq_true_eq]; omega
      · rw [dp]; simp only; omega
theorem pcs_ok {m : Int} : ∀ (l : List Int) {acc : List Pce} {j : Nat}, aX m 0 acc = true → endOf 0 acc ≤ (j : Int) → (acc = [] → 0 < j) → (∀ (k : Nat) x, l[k]? = some x → 0 ≤ x → ((j + k : Nat) : Int) < m) → aX m 0 (ca acc j l) = true
  | [], _, _, h, _, _, _ => h
  | x :: l, acc, j, h, he, h0, hk => by
    have hk' : ∀ (k : Nat) y, l[k]? = some y → 0 ≤ y → ((j + 1 + k : Nat) : Int) < m := fun k y hy hy0 => by
      have := hk (k + 1) y hy hy0; omega
    rw [ca]
    split
    · exact pcs_ok l h (by omega) (fun _ => by omega) hk'
    · rename_i hx
      obtain ⟨g1, g2, g3⟩ := addByte_ok (x := x) h he h0 (by have := hk 0 x rfl (by omega); omega)
      exact pcs_ok l g1 (by omega) (fun e => absurd e g3) hk'
theorem rest_ok {m : Int} {sl : List Int} (hm : 0 ≤ m) (h : ∀ (j : Nat) x, sl[j]? = some x → 0 ≤ x → aS sl ≤ j → (j : Int) < m + aS sl) : aX m 0 (ca [] 0 (sl.drop (aS sl))) = true := by
  rcases Nat.lt_or_ge (aS sl) sl.length with hl | hl
  · obtain ⟨x, hx, hn⟩ := filled_at hl
    have e : sl.drop (aS sl) = x :: sl.drop (aS sl + 1) := by
      obtain ⟨h1, h2⟩ := List.getElem?_eq_some_iff.1 hx
      rw [List.drop_eq_getElem_cons h1, h2]
    rw [e, ca, if_pos hn]
    refine pcs_ok _ rfl (by simp [endOf]) (fun _ => by omega) fun k y hy h0 => ?_
    rw [List.getElem?_drop] at hy
    have := h _ y hy h0 (by omega); omega
  · rw [List.drop_eq_nil_of_le hl]; rfl
theorem pcs_none {acc : List Pce} {l : List Int} {j : Nat} (h : ∀ x ∈ l, x < 0) : ca acc j l = acc := pcs_neg acc l j h
theorem finIn_cases (r : Rcv) (seq : Int) (t : ByteArray) (fin : Bool) : bk r seq t fin = r.fin ∨ (r.fin < 0 ∧ bk r seq t fin = (ae r seq t.size : Int) ∧ (ae r seq t.size : Int) ≤ wO r ∧ bm (aj r seq t) (ae r seq t.size) = true) := by
  unfold bk; split
  · rename_i h; simp only [Bool.and_eq_true, decide_eq_true_eq] at h
    exact .inr ⟨h.2.1, rfl, h.2.2.1, h.2.2.2⟩
  · exact .inl rfl
theorem fin_far {r : Rcv} {seq : Int} {t : ByteArray} {fin : Bool} (hr : rO r = true) (hf : 0 ≤ bk r seq t fin) {j : Nat} {x : Int} (hx : (aj r seq t)[j]? = some x) (h0 : 0 ≤ x) : (j : Int) < bk r seq t fin := by
  have hj : j < 33 := by have := (List.getElem?_eq_some_iff.1 hx).1; rw [e6] at this; exact this
  rcases finIn_cases r seq t fin with e | ⟨h1, e, h2, h3⟩
  · rcases Int.lt_or_le (j : Int) (bk r seq t fin) with h | h
    · exact h
    · rw [allIn_far hr hj (.inr ⟨by omega, by omega⟩)] at hx
      simp only [Option.some.injEq] at hx; omega
  · rcases Int.lt_or_le (j : Int) (bk r seq t fin) with h | h
    · exact h
    · unfold bm at h3; rw [List.all_eq_true] at h3
      have : x ∈ (aj r seq t).drop (ae r seq t.size) := List.mem_of_getElem? (i := j - ae r seq t.size) (by rw [List.getElem?_drop, show ae r seq t.size + (j - ae r seq t.size) = j by omega]; exact hx)
      have := h3 x this; simp only [decide_eq_true_eq] at this; omega
theorem win_far {r : Rcv} {seq : Int} {t : ByteArray} (hr : rO r = true) {j : Nat} {x : Int} (hx : (aj r seq t)[j]? = some x) (h0 : 0 ≤ x) : (j : Int) < wO r := by
  have hj : j < 33 := by have := (List.getElem?_eq_some_iff.1 hx).1; rw [e6] at this; exact this
  rcases Int.lt_or_le (j : Int) (wO r) with h | h
  · exact h
  · rw [allIn_far hr hj (.inl h)] at hx
    simp only [Option.some.injEq] at hx; omega
theorem word32w {x : Int} (h : 0 ≤ x ∧ x ≤ 4294967295) : aD x 32 = true := by
  unfold aD dT
  have e : (2 : Int) ^ (32 : Int).toNat - 1 = 4294967295 := by decide
  rw [e]; simp; omega
theorem rok_mk {r : Rcv} (h1 : 0 ≤ r.next ∧ r.next ≤ 4294967295) (h2 : r.data.size ≤ 32) (h3 : r.held.length ≤ 3) (h4 : -1 ≤ r.fin ∧ r.fin ≤ wO r) (h5 : r.fin ≠ 0) (h6 : aX (if r.fin = -1 then wO r else r.fin) 0 r.held = true) (h7 : r.done = true → r.held = [] ∧ r.fin = -1) : rO r = true := by
  unfold rO
  rw [rcvPre_iff.2 ⟨word32w h1, h2, h3, inB_tt.2 h4, h5⟩, h6]
  unfold ag
  cases hd : r.done
  · rfl
  · obtain ⟨e1, e2⟩ := h7 hd
    simp [e1, e2]
theorem arrived_ways {r : Rcv} (seq : Int) (t : ByteArray) (fin : Bool) (hr : rO r = true) :
    a5 r seq t fin = r ∨ (r.done = false ∧ ∃ n : Nat, n = aS (aj r seq t) ∧ (n : Int) ≤ wO r ∧ (ca [] 0 ((aj r seq t).drop n)).length ≤ 3 ∧
      ((cd r seq t fin = 0 ∧ a5 r seq t fin = ⟨sA (sA r.next n) 1, r.data ++ a6 ((aj r seq t).take n), ca [] 0 ((aj r seq t).drop n), -1, true⟩) ∨
       (cd r seq t fin ≠ 0 ∧ a5 r seq t fin = ⟨sA r.next n, r.data ++ a6 ((aj r seq t).take n), ca [] 0 ((aj r seq t).drop n), cd r seq t fin, false⟩))) := by
  have hw := filled_win (seq := seq) (t := t) hr
  unfold a5
  cases hd : r.done with
  | true => left; rw [if_neg (by simp)]
  | false =>
    rw [if_pos (by rw [hr]; rfl)]
    split
    · left; rfl
    · right
      refine ⟨rfl, _, rfl, hw, by omega, ?_⟩
      split
      · rename_i h; exact .inl ⟨h, rfl⟩
      · rename_i h; exact .inr ⟨h, rfl⟩
theorem app_left (a b : ByteArray) : (a ++ b).extract 0 a.size = a := bytes_ext (by simp [← ByteArray.size_data])
theorem filled_fin {r : Rcv} {seq : Int} {t : ByteArray} {fin : Bool} (hr : rO r = true) (hf : 0 ≤ bk r seq t fin) : (aS (aj r seq t) : Int) ≤ bk r seq t fin := by
  cases hn : aS (aj r seq t) with
  | zero => omega
  | succ k =>
    obtain ⟨x, hx, h0⟩ := filled_in (l := aj r seq t) (k := k) (by omega)
    have := fin_far hr hf hx h0; omega
theorem win_less {r : Rcv} {n : Nat} {d : ByteArray} {h : List Pce} {nx f : Int} (hd : r.done = false) (hn : (n : Int) ≤ wO r) (hs : d.size = r.data.size + n) : wO ⟨nx, d, h, f, false⟩ = wO r - n := by
  unfold wO at hn ⊢; rw [hd] at hn ⊢
  simp only [Bool.false_eq_true, if_false] at hn ⊢
  rw [hs]; omega
theorem size_more {r : Rcv} {sl : List Int} {n : Nat} (h : n ≤ sl.length) : (r.data ++ a6 (sl.take n)).size = r.data.size + n := by
  rw [ByteArray.size_append, ci, List.length_take, Nat.min_eq_left h]
theorem arrived_facts {r : Rcv} (seq : Int) (t : ByteArray) (fin : Bool) (hr : rO r = true) :
    rO (a5 r seq t fin) = true ∧ (r.data.size ≤ (a5 r seq t fin).data.size) ∧ (a5 r seq t fin).data.size ≤ 32 ∧ (a5 r seq t fin).data.extract 0 r.data.size = r.data ∧
    sA r.next (((a5 r seq t fin).data.size : Int) - (r.data.size : Int) + (if (a5 r seq t fin).done && !r.done then 1 else 0)) = (a5 r seq t fin).next ∧ wO (a5 r seq t fin) ≤ wO r := by
  obtain ⟨hf0, hf1, hf2, hf3, hf4, hheld⟩ := dR hr
  rcases arrived_ways seq t fin hr with e | ⟨hd, n, hn, hnw, hl3, hways⟩
  · rw [e]
    refine ⟨hr, Nat.le_refl _, hf0, by rw [ByteArray.extract_zero_size], ?_, Int.le_refl _⟩
    rw [if_neg (by cases r.done <;> simp)]; unfold sA; omega
  · have hw := bW r
    have hal := e6 r seq t
    have hs := size_more (r := r) (sl := aj r seq t) (n := n) (by omega)
    have hws : (r.data.size : Int) + n ≤ 32 := by unfold wO at hnw; rw [hd] at hnw; simp only [Bool.false_eq_true, if_false] at hnw; omega
    have hfo : cd r seq t fin = if 0 ≤ bk r seq t fin then bk r seq t fin - (n : Int) else bk r seq t fin := by unfold cd; rw [hn]
    have hfb := finIn_bd (seq := seq) (t := t) (fin := fin) hf3
    rcases hways with ⟨h0, e⟩ | ⟨h0, e⟩
    · rw [e]
      have hfi : 0 ≤ bk r seq t fin ∧ bk r seq t fin = n := by rw [hfo] at h0; split at h0 <;> omega
      have hnil : ca [] 0 ((aj r seq t).drop n) = [] := pcs_none fun x hx => by
        obtain ⟨i, hi⟩ := List.getElem?_of_mem hx
        rw [List.getElem?_drop] at hi
        rcases Int.lt_or_le x 0 with h | h
        · exact h
        · have := fin_far hr hfi.1 hi h; omega
      rw [hnil]
      refine ⟨rok_mk (e7 _ _) (by simp only; omega) (by simp) ⟨by simp, ?_⟩ (by simp) rfl (fun _ => ⟨rfl, rfl⟩), by simp only; omega, by simp only; omega, app_left _ _, ?_, ?_⟩
      · unfold wO; simp
      · simp only [hs, hd]; unfold sA; simp; omega
      · unfold wO; simp only [if_true]; split <;> omega
    · rw [e]
      have hwx := win_less (r := r) (n := n) (h := ca [] 0 ((aj r seq t).drop n)) (nx := sA r.next n) (f := cd r seq t fin) hd hnw hs
      have hfw : bk r seq t fin ≤ wO r := by
        rcases finIn_cases r seq t fin with q | ⟨-, q, q2, -⟩ <;> omega
      have hff : 0 ≤ bk r seq t fin → (n : Int) ≤ bk r seq t fin := fun q => by rw [hn]; exact filled_fin hr q
      have hin : ∀ (j : Nat) x, (aj r seq t)[j]? = some x → 0 ≤ x → aS (aj r seq t) ≤ j → (j : Int) < (if cd r seq t fin = -1 then wO r - (n : Int) else cd r seq t fin) + (aS (aj r seq t) : Int) := fun j x hx hx0 _ => by
        rw [← hn]
        split
        · have := win_far hr hx hx0; omega
        · rename_i hne
          have h1 : 0 ≤ bk r seq t fin := by rw [hfo] at hne; split at hne <;> omega
          have := fin_far hr h1 hx hx0
          rw [hfo, if_pos h1]; omega
      refine ⟨rok_mk (e7 _ _) (by simp only; omega) hl3 ⟨?_, ?_⟩ h0 ?_ (fun q => by cases q), by simp only; omega, by simp only; omega, app_left _ _, ?_, by rw [hwx]; omega⟩
      · simp only; rw [hfo]; split <;> omega
      · rw [hwx]; simp only; rw [hfo]; split
        · omega
        · omega
      · rw [hwx]; simp only
        rw [hn] at hin ⊢
        exact rest_ok (by split <;> omega) hin
      · simp only [hs, hd]; unfold sA; simp; omega
end
/- Plain laws: what is held is what lay in the slots; a stored byte stays (no program in sight). -/
section
open Go.RowKit
set_option linter.unusedVariables false
theorem d8 : ∀ (a b : List Pce) (l : List Int), aa l (a ++ b) = aa (aa l a) b
  | [], b, l => rfl
  | p :: a, b, l => by simp only [List.cons_append, aa]; exact d8 a b _
theorem byteAt_app {t u : ByteArray} {k : Nat} (h : k < t.size) : ar (t ++ u) k = ar t k := by
  unfold ar
  have h1 : k < t.data.size := h
  have h2 : k < (t ++ u).data.size := by have := ByteArray.size_append (a := t) (b := u); show k < (t ++ u).size; omega
  rw [Array.getD_eq_getD_getElem?, Array.getD_eq_getD_getElem?, ByteArray.data_append, Array.getElem?_append_left h1]
theorem byteAt_last {t : ByteArray} {x : Int} (h0 : 0 ≤ x) (h1 : x ≤ 255) : ar (t ++ a6 [x]) t.size = x := by
  unfold ar
  rw [Array.getD_eq_getD_getElem?, ByteArray.data_append, Array.getElem?_append_right (show t.data.size ≤ t.size from Nat.le_refl _)]
  have e : (a6 [x]).data = #[UInt8.ofNat x.toNat] := rfl
  rw [e, show t.size - t.data.size = 0 from Nat.sub_self _]
  show ((UInt8.ofNat x.toNat).toNat : Int) = x
  rw [UInt8.toNat_ofNat']; omega
theorem byteAt_one {x : Int} (h0 : 0 ≤ x) (h1 : x ≤ 255) : ar (a6 [x]) 0 = x := by
  have := byteAt_last (t := ⟨#[]⟩) h0 h1
  have e : (⟨#[]⟩ : ByteArray) ++ a6 [x] = a6 [x] := bytes_ext (by simp)
  rw [e] at this; exact this
theorem putText_app {l : List Int} {off : Nat} {t u : ByteArray} : ∀ (k : Nat), k ≤ t.size → c5 l off (t ++ u) k = c5 l off t k
  | 0, _ => rfl
  | k + 1, h => by simp only [c5]; rw [putText_app k (by omega), byteAt_app (by omega)]
theorem put_add {l : List Int} {acc : List Pce} {j : Nat} {x : Int} (hbd : ∀ p ∈ acc, 0 ≤ p.off ∧ p.off + (p.text.size : Int) ≤ (j : Int)) (h0 : 0 ≤ x) (h1 : x ≤ 255) : aa l (bG acc j x) = (aa l acc).set j x := by
  have hs1 : (a6 [x]).size = 1 := ci [x]
  have hnew : ∀ a : List Pce, aa l (a ++ [⟨(j : Int), a6 [x]⟩]) = (aa l a).set j x := fun a => by
    rw [d8]; simp only [aa]
    rw [hs1]; simp only [c5, Int.toNat_natCast, Nat.add_zero]; rw [byteAt_one h0 h1]
  rcases List.eq_nil_or_concat acc with rfl | ⟨a, p, rfl⟩
  · rw [df rfl]; exact hnew []
  · rw [List.concat_eq_append] at *
    by_cases ht : p.off + (p.text.size : Int) = (j : Int)
    · rw [dc (p := p) (by simp) ht]
      have e : (a ++ [p]).set ((a ++ [p]).length - 1) ⟨p.off, p.text ++ a6 [x]⟩ = a ++ [⟨p.off, p.text ++ a6 [x]⟩] := by simp
      rw [e, d8, d8]
      simp only [aa]
      have hb := hbd p (by simp)
      rw [ByteArray.size_append, hs1]
      simp only [c5]
      rw [putText_app _ (Nat.le_refl _), byteAt_last h0 h1, show p.off.toNat + p.text.size = j by omega]
    · rw [da (p := p) (by simp) ht]; exact hnew _
theorem put_pcs : ∀ (l : List Int) {acc : List Pce} {j : Nat} {L : List Int} (i : Nat), (∀ p ∈ acc, 0 ≤ p.off ∧ p.off + (p.text.size : Int) ≤ (j : Int)) → (∀ x ∈ l, x ≤ 255) → j + l.length ≤ L.length →
    (aa L (ca acc j l))[i]? = if j ≤ i ∧ ∃ x, l[i - j]? = some x ∧ 0 ≤ x then l[i - j]? else (aa L acc)[i]?
  | [], acc, j, L, i, _, _, _ => by rw [ca, if_neg (by rintro ⟨-, x, hx, -⟩; simp at hx)]
  | y :: l, acc, j, L, i, hbd, hl, hL => by
    rw [List.length_cons] at hL
    have hy := hl y (by simp)
    rw [ca]
    have key : ∀ a : List Pce, (∀ p ∈ a, 0 ≤ p.off ∧ p.off + (p.text.size : Int) ≤ ((j + 1 : Nat) : Int)) → (aa L (ca a (j + 1) l))[i]? = if j + 1 ≤ i ∧ ∃ x, l[i - (j + 1)]? = some x ∧ 0 ≤ x then l[i - (j + 1)]? else (aa L a)[i]? := fun a ha => put_pcs l i ha (fun x hx => hl x (by simp [hx])) (by omega)
    have hsucc : j + 1 ≤ i → (y :: l)[i - j]? = l[i - (j + 1)]? := fun h => by rw [show i - j = (i - (j + 1)) + 1 by omega]; rfl
    split
    · rename_i hn
      rw [key acc (fun p hp => by have := hbd p hp; omega)]
      by_cases h : j + 1 ≤ i
      · rw [hsucc h]
        by_cases h2 : ∃ x, l[i - (j + 1)]? = some x ∧ 0 ≤ x
        · rw [if_pos ⟨h, h2⟩, if_pos ⟨by omega, h2⟩]
        · rw [if_neg (fun q => h2 q.2), if_neg (fun q => h2 q.2)]
      · rw [if_neg (fun q => h q.1), if_neg]
        rintro ⟨h3, x, hx, hx0⟩
        have : i = j := by omega
        subst this; rw [Nat.sub_self] at hx; simp only [List.getElem?_cons_zero, Option.some.injEq] at hx; omega
    · rename_i hn
      rw [key _ (fun p hp => by have := es hbd p hp; omega), put_add hbd (by omega) hy]
      by_cases h : j + 1 ≤ i
      · rw [hsucc h, List.getElem?_set_ne (by omega)]
        by_cases h2 : ∃ x, l[i - (j + 1)]? = some x ∧ 0 ≤ x
        · rw [if_pos ⟨h, h2⟩, if_pos ⟨by omega, h2⟩]
        · rw [if_neg (fun q => h2 q.2), if_neg (fun q => h2 q.2)]
      · rw [if_neg (fun q => h q.1)]
        by_cases h3 : i = j
        · subst h3
          rw [Nat.sub_self, if_pos ⟨Nat.le_refl _, y, rfl, by omega⟩, List.getElem?_set_self (by rw [putHeld_len]; omega)]; rfl
        · rw [List.getElem?_set_ne (Ne.symm h3), if_neg (fun q => by omega)]
theorem putText_m1 {l : List Int} {off : Nat} {t : ByteArray} (h : ∀ x ∈ l, x < 0 → x = -1) : ∀ k, ∀ x ∈ c5 l off t k, x < 0 → x = -1
  | 0 => h
  | k + 1 => fun x hx hn => by
    simp only [c5] at hx
    rcases List.mem_or_eq_of_mem_set hx with q | q
    · exact putText_m1 h k x q hn
    · have := cQ t k; omega
theorem putHeld_m1 : ∀ (ps : List Pce) {l : List Int}, (∀ x ∈ l, x < 0 → x = -1) → ∀ x ∈ aa l ps, x < 0 → x = -1
  | [], _, h => h
  | p :: ps, _, h => by simp only [aa]; exact putHeld_m1 ps (putText_m1 h _)
theorem textN_m1 {r : Rcv} {seq : Int} {t : ByteArray} {l : List Int} (h : ∀ x ∈ l, x < 0 → x = -1) : ∀ k, ∀ x ∈ ck r seq t l k, x < 0 → x = -1
  | 0 => h
  | k + 1 => fun x hx hn => by
    simp only [ck, de] at hx
    split at hx
    · rcases List.mem_or_eq_of_mem_set hx with q | q
      · exact textN_m1 h k x q hn
      · have := cQ t k; omega
    · exact textN_m1 h k x hx hn
theorem allIn_m1 (r : Rcv) (seq : Int) (t : ByteArray) : ∀ x ∈ aj r seq t, x < 0 → x = -1 := textN_m1 (putHeld_m1 _ fun x hx _ => (List.mem_replicate.1 hx).2) _
theorem slots_next {sl : List Int} {n i : Nat} {x : Int} (hl : sl.length = 33) (hb : ∀ x ∈ sl, x ≤ 255) (hm : ∀ x ∈ sl, x < 0 → x = -1) (hx : sl[n + i]? = some x) : (aa (List.replicate 33 (-1)) (ca [] 0 (sl.drop n)))[i]? = some x := by
  have hlt := (List.getElem?_eq_some_iff.1 hx).1
  rw [put_pcs (sl.drop n) i (by simp) (fun y hy => hb y (List.mem_of_mem_drop hy)) (by rw [List.length_drop, List.length_replicate]; omega), Nat.sub_zero, List.getElem?_drop, hx]
  split
  · rfl
  · rename_i hn
    have h1 : x < 0 := by
      rcases Int.lt_or_le x 0 with h | h
      · exact h
      · exact absurd ⟨Nat.zero_le _, x, rfl, h⟩ hn
    rw [hm x (List.mem_of_getElem? hx) h1]
    simp only [aa]; exact rep33 (by omega)
theorem slots_past {sl : List Int} {n i : Nat} (hl : sl.length = 33) (hb : ∀ x ∈ sl, x ≤ 255) (hi : 33 ≤ n + i) (hi2 : i < 33) : (aa (List.replicate 33 (-1)) (ca [] 0 (sl.drop n)))[i]? = some (-1) := by
  rw [put_pcs (sl.drop n) i (by simp) (fun y hy => hb y (List.mem_of_mem_drop hy)) (by rw [List.length_drop, List.length_replicate]; omega), Nat.sub_zero, List.getElem?_drop, if_neg]
  · simp only [aa]; exact rep33 hi2
  · rintro ⟨-, x, hx, -⟩
    have := (List.getElem?_eq_some_iff.1 hx).1; omega
theorem finIn_off (r : Rcv) (seq : Int) (t : ByteArray) : bk r seq t false = r.fin := by unfold bk; rw [if_neg (by simp)]
theorem finOut_off {r : Rcv} {seq : Int} {t : ByteArray} (h : r.fin = -1) : cd r seq t false = -1 := by unfold cd; rw [finIn_off, h]; rfl
end
/- Plain law: of one stream each piece, whenever it comes, brings nothing but that stream (no program in sight). -/
section
open Go.RowKit
set_option linter.unusedVariables false
def chA (p : Int) : Int := 97 + (p + 100) % 26
structure Asm (start : Int) (got : ByteArray) (x : Rcv) : Prop where
  ok : rO x = true
  fin : x.fin = -1
  done : x.done = false
  next : x.next = sA start ((got.size : Int) + (x.data.size : Int))
  txt : ∀ i, i < (got ++ x.data).size → ar (got ++ x.data) i = chA (i : Int)
  held : ∀ (i : Nat) v, (ax x)[i]? = some v → 0 ≤ v → v = chA ((got.size : Int) + (x.data.size : Int) + (i : Int))
theorem asm_start {start : Int} (h : 0 ≤ start ∧ start ≤ 4294967295) : Asm start ⟨#[]⟩ (rN start) where
  ok := by
    refine rok_mk ?_ (Nat.zero_le _) (Nat.zero_le _) ⟨Int.le_refl _, ?_⟩ (by simp [rN]) rfl (fun q => by cases q)
    · simp only [rN]; omega
    · have := (bW (rN start)).1; simp only [rN] at this ⊢; omega
  fin := rfl
  done := rfl
  next := by
    show start % 4294967296 = sA start (0 + 0)
    unfold sA; omega
  txt := fun i hi => by exfalso; have : (⟨#[]⟩ ++ (rN start).data : ByteArray).size = 0 := by rw [ByteArray.size_append]; rfl
                        omega
  held := fun i v hv h0 => by
    have : ax (rN start) = List.replicate 33 (-1) := rfl
    rw [this, List.getElem?_replicate] at hv
    split at hv
    · simp only [Option.some.injEq] at hv; omega
    · cases hv
theorem asm_textN {start off : Int} {got b : ByteArray} {x : Rcv} (hA : Asm start got x) (hL : (got.size : Int) + x.data.size ≤ 1000) (hoff : -4 ≤ off ∧ off ≤ 35) (hb8 : b.size ≤ 8) (hb : ∀ k, k < b.size → ar b k = chA (off + (k : Int))) :
    ∀ m, m ≤ b.size → ∀ (i : Nat) v, (ck x (sA start off) b (ax x) m)[i]? = some v → 0 ≤ v → v = chA ((got.size : Int) + (x.data.size : Int) + (i : Int))
  | 0, _, i, v, hv, h0 => hA.held i v hv h0
  | m + 1, hm, i, v, hv, h0 => by
    have ih := asm_textN hA hL hoff hb8 hb m (by omega)
    simp only [ck] at hv
    rw [bV] at hv
    split at hv
    · rename_i hc
      by_cases he : ae x (sA start off) m = i
      · subst he
        have hlt : ae x (sA start off) m < (ck x (sA start off) b (ax x) m).length := by
          have := (List.getElem?_eq_some_iff.1 hv).1; rw [List.length_set] at this; exact this
        rw [List.getElem?_set_self hlt] at hv
        simp only [Option.some.injEq] at hv
        rw [← hv, hb m (by omega)]
        have hw := bW x
        have e1 := offN_eq x (sA start off) m
        rw [hA.next] at e1
        unfold sA at e1
        have : off + (m : Int) = (got.size : Int) + (x.data.size : Int) + ((ae x (sA start off) m : Nat) : Int) := by
          have h1 := hc.1
          unfold sA at h1 ⊢
          omega
        rw [this]
      · rw [List.getElem?_set_ne he] at hv
        exact ih i v hv h0
    · exact ih i v hv h0
theorem byteAt_right {t u : ByteArray} {k : Nat} : ar (t ++ u) (t.size + k) = ar u k := by
  unfold ar
  rw [Array.getD_eq_getD_getElem?, Array.getD_eq_getD_getElem?, ByteArray.data_append, Array.getElem?_append_right (show t.data.size ≤ t.size + k from Nat.le_add_right _ _)]
  rw [show t.size + k - t.data.size = k from Nat.add_sub_cancel_left _ _]
theorem byteAt_bstrN : ∀ (n : Nat) (l : List Int) (k : Nat) (v : Int), l.length = n → (∀ x ∈ l, 0 ≤ x ∧ x ≤ 255) → l[k]? = some v → ar (a6 l) k = v
  | 0, l, k, v, hn, _, hk => by
    obtain rfl := List.eq_nil_of_length_eq_zero hn
    simp at hk
  | n + 1, l, k, v, hn, hl, hk => by
    have hne : l ≠ [] := fun e => by rw [e] at hn; simp at hn
    obtain ⟨l', x, rfl⟩ : ∃ l' x, l = l' ++ [x] := ⟨l.dropLast, l.getLast hne, (List.dropLast_concat_getLast hne).symm⟩
    have hn' : l'.length = n := by simp only [List.length_append, List.length_cons, List.length_nil] at hn; omega
    have ih := byteAt_bstrN n l' k v hn'
    rw [bstr_app]
    have hx := hl x (by simp)
    have hs := ci l'
    by_cases h : k < l'.length
    · rw [List.getElem?_append_left h] at hk
      rw [byteAt_app (by rw [hs]; exact h)]
      exact ih (fun y hy => hl y (by simp [hy])) hk
    · have hlt := (List.getElem?_eq_some_iff.1 hk).1
      simp only [List.length_append, List.length_cons, List.length_nil] at hlt
      have : k = l'.length := by omega
      subst this
      rw [List.getElem?_append_right (Nat.le_refl _), Nat.sub_self] at hk
      simp only [List.getElem?_cons_zero, Option.some.injEq] at hk
      subst hk
      have := byteAt_last (t := a6 l') hx.1 hx.2
      rw [hs] at this; exact this
theorem byteAt_bstr (l : List Int) (k : Nat) (v : Int) (h : ∀ x ∈ l, 0 ≤ x ∧ x ≤ 255) (hk : l[k]? = some v) : ar (a6 l) k = v := byteAt_bstrN l.length l k v rfl h hk
theorem asm_arrived {start off : Int} {got b : ByteArray} {x : Rcv} (hA : Asm start got x) (hL : (got.size : Int) + x.data.size ≤ 1000) (hoff : -4 ≤ off ∧ off ≤ 35) (hb8 : b.size ≤ 8) (hb : ∀ k, k < b.size → ar b k = chA (off + (k : Int))) :
    Asm start got (a5 x (sA start off) b false) := by
  have hr := hA.ok
  obtain ⟨ok, hf1, hf2, hf3, hf4, hf5⟩ := arrived_facts (sA start off) b false hr
  by_cases h3 : 3 < (ca [] 0 ((aj x (sA start off) b).drop (aS (aj x (sA start off) b)))).length
  · have : a5 x (sA start off) b false = x := by unfold a5; rw [if_pos (by rw [hr, hA.done]; rfl), if_pos h3]
    rw [this]; exact hA
  · have hx : a5 x (sA start off) b false = ⟨sA x.next (aS (aj x (sA start off) b)), x.data ++ a6 ((aj x (sA start off) b).take (aS (aj x (sA start off) b))), ca [] 0 ((aj x (sA start off) b).drop (aS (aj x (sA start off) b))), -1, false⟩ := by
      unfold a5; rw [if_pos (by rw [hr, hA.done]; rfl), if_neg h3, finOut_off hA.fin, if_neg (by decide), hA.done]
    have hall := asm_textN hA hL hoff hb8 hb b.size (Nat.le_refl _)
    have hal := e6 x (sA start off) b
    rw [hx] at ok ⊢
    generalize hn : aS (aj x (sA start off) b) = n at *
    have hnl : n ≤ 33 := by rw [← hn, ← hal]; exact filled_le _
    have hs := size_more (r := x) (sl := aj x (sA start off) b) (n := n) (by omega)
    have hxn := hA.next
    refine ⟨ok, rfl, rfl, ?_, fun i hi => ?_, fun i v hv h0 => ?_⟩
    · simp only; rw [hs, hxn]; unfold sA; omega
    · simp only at hi ⊢
      rw [← ByteArray.append_assoc] at hi ⊢
      by_cases h : i < (got ++ x.data).size
      · rw [byteAt_app h]; exact hA.txt i h
      · obtain ⟨j, rfl⟩ : ∃ j, i = (got ++ x.data).size + j := ⟨i - (got ++ x.data).size, by omega⟩
        rw [byteAt_right]
        have hbl : (a6 ((aj x (sA start off) b).take n)).size = n := by rw [ci, List.length_take]; omega
        have hsz := (ByteArray.size_append : ((got ++ x.data) ++ a6 ((aj x (sA start off) b).take n)).size = (got ++ x.data).size + (a6 ((aj x (sA start off) b).take n)).size)
        rw [hbl] at hsz
        rw [hsz] at hi
        have hj : j < n := by omega
        obtain ⟨v, hv, hv0⟩ := filled_in (l := aj x (sA start off) b) (k := j) (by omega)
        have hrng : ∀ y ∈ (aj x (sA start off) b).take n, 0 ≤ y ∧ y ≤ 255 := fun y hy => by
          obtain ⟨q, hq⟩ := List.getElem?_of_mem hy
          have hqn : q < n := by have := (List.getElem?_eq_some_iff.1 hq).1; rw [List.length_take] at this; omega
          rw [List.getElem?_take, if_pos hqn] at hq
          obtain ⟨z, hz, hz0⟩ := filled_in (l := aj x (sA start off) b) (k := q) (by omega)
          rw [hq] at hz; simp only [Option.some.injEq] at hz
          exact ⟨by omega, allIn_le x _ b y (List.mem_of_getElem? hq)⟩
        rw [byteAt_bstr _ j v hrng (by rw [List.getElem?_take, if_pos hj]; exact hv), hall j v hv hv0, ByteArray.size_append]
        congr 1
    · simp only
      rw [hs]
      by_cases h33 : 33 ≤ n + i
      · have hi33 : i < 33 := by
          have := (List.getElem?_eq_some_iff.1 hv).1; rw [dC] at this; exact this
        have := slots_past (sl := aj x (sA start off) b) (n := n) (i := i) hal (allIn_le x _ b) h33 hi33
        have h2 : (ax ⟨sA x.next n, x.data ++ a6 ((aj x (sA start off) b).take n), ca [] 0 ((aj x (sA start off) b).drop n), -1, false⟩)[i]? = some (-1) := this
        rw [h2] at hv; simp only [Option.some.injEq] at hv; omega
      · have hlt : n + i < (aj x (sA start off) b).length := by omega
        have := slots_next (sl := aj x (sA start off) b) (n := n) (i := i) hal (allIn_le x _ b) (allIn_m1 x _ b) (List.getElem?_eq_getElem hlt)
        have h2 : (ax ⟨sA x.next n, x.data ++ a6 ((aj x (sA start off) b).take n), ca [] 0 ((aj x (sA start off) b).drop n), -1, false⟩)[i]? = some ((aj x (sA start off) b)[n + i]) := this
        rw [h2] at hv; simp only [Option.some.injEq] at hv
        have := hall (n + i) v (by rw [← hv]; exact List.getElem?_eq_getElem hlt) h0
        rw [this]; congr 1; omega
theorem asm_taken {start : Int} {got : ByteArray} {x : Rcv} (n : Int) (hA : Asm start got x) : Asm start (got ++ (ay x n).2) (ay x n).1 := by
  have hc := takenIn_cat n hA.ok
  obtain ⟨h1, h2, h3, h4⟩ := takenIn_done (r := x) n
  have hsz : (ay x n).2.size + (ay x n).1.data.size = x.data.size := by rw [← ByteArray.size_append, hc]
  have hsl : ax (ay x n).1 = ax x := by unfold ax; rw [h4]
  refine ⟨takenIn_ok n hA.ok, by rw [h3]; exact hA.fin, by rw [h1]; exact hA.done, ?_, fun i hi => ?_, fun i v hv h0 => ?_⟩
  · rw [h2, hA.next, ByteArray.size_append]; congr 1; omega
  · rw [ByteArray.append_assoc, hc] at hi ⊢; exact hA.txt i hi
  · rw [hsl] at hv
    have := hA.held i v hv h0
    rw [this, ByteArray.size_append]; congr 1; omega
theorem chA_val {p : Int} (h : 0 ≤ p + 100) : IntKind.u8.wrap (97 + Int.tmod (p + 100) 26) = chA p := by
  unfold chA
  rw [Int.tmod_eq_emod_of_nonneg h]
  have h1 := Int.emod_nonneg (p + 100) (show (26 : Int) ≠ 0 by decide)
  have h2 := Int.emod_lt_of_pos (p + 100) (show (0 : Int) < 26 by decide)
  show (97 + (p + 100) % 26) % 256 = _
  omega
theorem chA_val0 {p : Int} (h : 0 ≤ p + 100) : IntKind.u8.wrap (97 + Int.tmod (p + 100) 26) = chA p := chA_val h
theorem chs_snoc {bs : List Int} {k : Nat} {off y : Int} (hbl : bs.length = k) (h : ∀ (j : Nat) v, bs[j]? = some v → v = chA (off + (j : Int))) (hy : y = chA (off + (k : Int))) : ∀ (j : Nat) v, (bs ++ [y])[j]? = some v → v = chA (off + (j : Int)) := fun j v hv => by
  by_cases hj : j < bs.length
  · rw [List.getElem?_append_left hj] at hv; exact h j v hv
  · have hlt := (List.getElem?_eq_some_iff.1 hv).1
    simp only [List.length_append, List.length_cons, List.length_nil] at hlt
    have : j = bs.length := by omega
    subst this
    rw [List.getElem?_append_right (Nat.le_refl _), Nat.sub_self] at hv
    simp only [List.getElem?_cons_zero, Option.some.injEq] at hv
    rw [← hv, hy, hbl]
theorem asm_text {bs : List Int} {off : Int} (h : ∀ (j : Nat) v, bs[j]? = some v → v = chA (off + (j : Int))) : ∀ k, k < (a6 bs).size → ar (a6 bs) k = chA (off + (k : Int)) := fun k hk => by
  rw [ci] at hk
  have hr : ∀ x ∈ bs, 0 ≤ x ∧ x ≤ 255 := fun x hx => by
    obtain ⟨j, hj⟩ := List.getElem?_of_mem hx
    have := h j x hj
    unfold chA at this; omega
  have he := List.getElem?_eq_getElem hk
  rw [byteAt_bstr bs k _ hr he]
  exact h k _ he
theorem asm_size {x : Rcv} (got : ByteArray) : (got ++ x.data).size = got.size + x.data.size := ByteArray.size_append
theorem asm_sz {start : Int} {got : ByteArray} {x : Rcv} (n : Int) (hA : Asm start got x) (hb : RB 3 x) {i : Nat} (hg : got.size ≤ 65 * i) : (got ++ (ay x n).2).size ≤ 65 * (i + 1) := by
  have hc := takenIn_cat n hA.ok
  have h1 : (ay x n).2.size + (ay x n).1.data.size = x.data.size := by rw [← ByteArray.size_append, hc]
  have h2 := hb.2.2
  have h3 : (got ++ (ay x n).2).size = got.size + (ay x n).2.size := ByteArray.size_append
  omega
theorem asm_ts {start : Int} {got : ByteArray} {x : Rcv} (n : Int) (hA : Asm start got x) (hb : RB 3 x) : (ay x n).2.size ≤ 65 := by
  have hc := takenIn_cat n hA.ok
  have h1 : (ay x n).2.size + (ay x n).1.data.size = x.data.size := by rw [← ByteArray.size_append, hc]
  have h2 := hb.2.2
  omega
theorem asm_end {start : Int} {got : ByteArray} {x : Rcv} (hA : Asm start got x) : sA start (((got ++ x.data).size : Nat) : Int) = x.next := by
  rw [hA.next, ByteArray.size_append]; rfl
end
end Go.Proofs.Ytebgmdiejgcoiaa
