/- Plain definitions, the machine and its rules: what this law's contracts need of them, part 3. -/
import Derived.Test.YtebgmdiejgcoiaaGreatG1
import Derived.Test.YtebgmdiejgcoiaaGreatA3
import Derived.Test.YtebgmdiejgcoiaaGreatA4
import Derived.Test.YtebgmdiejgcoiaaGreatA5
import Derived.Test.YtebgmdiejgcoiaaGreatG2
import Derived.Test.YtebgmdiejgcoiaaGreatYW
import Derived.Test.YtebgmdiejgcoiaaGreatYD
/- Contracts: slices of Piece in the laws. -/
namespace Go.Proofs.YtebgmdiejgcoiaaGreat
section
open Go.RowKit
attribute [local go_sem] gO gJ gV gN eS eW ec eZ eX eT ed eh eR eV eb ee eg aO cell?_grow frozen?_grow cI e5 dV
attribute [local go_sem] cV co dW dY dk cX cn dU dX dj e6 fF bE bU cU cT
set_option linter.unusedVariables false
set_option linter.unusedSimpArgs false
end
/- Contracts (C1). -/
section
open Go.RowKit
attribute [local go_sem] gO gJ gV gN eS eW ec eZ eX eT ed eh eR eV eb ee eg aO cell?_grow frozen?_grow cI e5 dV
attribute [local go_sem] cV co dW dY dk cX cn dU dX dj e6 fF bE bU cU cT
attribute [local go_sem ↓] pload_implConn pstore_implConn pload_lawsConn pstore_lawsConn pload_implReceiver pstore_implReceiver pload_lawsReceiver pstore_lawsReceiver pload_implSegment pstore_implSegment pload_lawsSegment pstore_lawsSegment
attribute [local go_sem] Value.oneCell' load_implConn store_implConn load_lawsConn store_lawsConn load_implReceiver store_implReceiver load_lawsReceiver store_lawsReceiver load_implSegment store_implSegment load_lawsSegment store_lawsSegment
set_option linter.unusedVariables false
set_option linter.unusedSimpArgs false
end
/- Plain definitions: marks (no program in sight). -/
section
open Go.RowKit
def marks {α : Type} (mk : Int → α) (c k : Int) (n : Nat) : List α := (List.range n).map fun (i : Nat) => mk (k + c * (i : Int))
end
/- Plain definitions: the pump (no program in sight). -/
section
open Go.RowKit
theorem bytes_ext {a b : ByteArray} (h : a.data.toList = b.data.toList) : a = b := by
  cases a; cases b; simp only at h; congr 1; exact Array.toList_inj.1 h
theorem ext_ext (a : ByteArray) (i n : Nat) (h : i + n ≤ a.size) : (a.extract i a.size).extract 0 n = a.extract i (i + n) := by
  apply bytes_ext
  simp only [ByteArray.data_extract, Array.toList_extract]
  simp [List.extract, List.drop_take, List.take_take]
theorem ext_size (a : ByteArray) (i j : Nat) (h : j ≤ a.size) : (a.extract i j).size = j - i := by rw [ByteArray.size_extract]; omega
theorem chunkN_i {s : Snd} {window mss : Int} (h : aa s = true) : max 0 (min (min ((s.data.extract s.sent.toNat s.data.size).size : Int) mss) (max window (-1) - aj s)) = az s window mss := by
  obtain ⟨b0, b1, b2, b3, b4, b5, b6, b7, b8, b9, b10⟩ := bt h
  rw [ext_size _ _ _ (Nat.le_refl _)]
  unfold az fC; omega
theorem fq {s : Snd} {window mss : Int} (h : aa s = true) : 0 ≤ az s window mss ∧ s.sent + az s window mss ≤ s.data.size ∧ az s window mss ≤ fC s window ∧ 0 ≤ fC s window ∧ fC s window ≤ 1000000 := by
  obtain ⟨b0, b1, b2, b3, b4, b5, b6, b7, b8, b9, b10⟩ := bt h
  unfold az fC; omega
theorem wnd_lt {s : Snd} {window mss : Int} (h : aa s = true) : (az s window mss < max window (-1) - aj s) ↔ az s window mss < fC s window := by
  obtain ⟨b0, b1, b2, b3, b4, b5, b6, b7, b8, b9, b10⟩ := bt h
  unfold az fC; omega
theorem toList_nil {a : ByteArray} : a.toList = [] ↔ a.size = 0 := by
  rw [ByteArray.toList_eq]
  show a.data.toList = [] ↔ a.data.size = 0
  rw [← Array.length_toList]; exact List.length_eq_zero_iff.symm
theorem chunk_text {s : Snd} {window mss : Int} (h : aa s = true) : (s.data.extract s.sent.toNat (s.sent + az s window mss).toNat).size = (az s window mss).toNat := by
  obtain ⟨b0, b1, b2, b3, b4, b5, b6, b7, b8, b9, b10⟩ := bt h
  obtain ⟨c0, c1, c2, c3, c4⟩ := fq (window := window) (mss := mss) h
  rw [ext_size _ _ _ (by omega)]; omega
theorem wnd_s {s : Snd} {window : Int} : max 0 (max 0 (min window 1000000) - aj s) = fC s window := rfl
theorem rest_size {s : Snd} (h : aa s = true) : ((s.data.extract s.sent.toNat s.data.size).size : Int) = (s.data.size : Int) - s.sent := by
  obtain ⟨b0, b1, b2, b3, b4, -⟩ := bt h
  rw [ext_size _ _ _ (Nat.le_refl _)]; omega
theorem chunkN_j {s : Snd} {window mss : Int} (h : aa s = true) : max 0 (min (min ((s.data.size : Int) - s.sent) mss) (max window (-1) - aj s)) = az s window mss := by
  rw [← chunkN_i h, rest_size h]
theorem chunk_ext {s : Snd} {window mss : Int} (h : aa s = true) : (s.data.extract s.sent.toNat s.data.size).extract 0 (az s window mss).toNat = s.data.extract s.sent.toNat (s.sent + az s window mss).toNat := by
  obtain ⟨b0, b1, b2, b3, b4, -⟩ := bt h
  obtain ⟨c0, c1, -⟩ := fq (window := window) (mss := mss) h
  rw [ext_ext _ _ _ (by omega)]; congr 1; omega
theorem chunk_nil {s : Snd} {window mss : Int} (h : aa s = true) : ((s.data.extract s.sent.toNat (s.sent + az s window mss).toNat).toList == (⟨#[]⟩ : ByteArray).toList) = (az s window mss == 0) := by
  obtain ⟨c0, c1, -⟩ := fq (window := window) (mss := mss) h
  have ht := chunk_text (window := window) (mss := mss) h
  rw [show (⟨#[]⟩ : ByteArray).toList = [] from bv, Bool.eq_iff_iff, beq_iff_eq, beq_iff_eq, toList_nil, ht]; omega
def aM (o : Opt) : Int := if o.mss = 0 then 536 else max 1 (min o.mss 1460)
def il (s : Snd) : Nat := (s.data.size - s.sent.toNat) + (if s.finSent then 0 else 1)
theorem sentS_fin (s : Snd) (c : Chk) (h : aa (gE s c) = true) (hf : c.fin = true) : s.fin = true := by
  obtain ⟨-, -, -, -, -, -, -, -, b8, -, -⟩ := bt h
  exact (b8 (by simp [gE, hf])).1
theorem next_ok {s : Snd} {window mss : Int} (h : (nC s window mss).2 = true) : aa s = true ∧ (nC s window mss).1 = ⟨ay s, s.data.extract s.sent.toNat (s.sent + az s window mss).toNat, aw s window mss⟩ ∧ (az s window mss ≠ 0 ∨ aw s window mss = true) := by
  unfold nC at h ⊢
  split at h
  · rename_i hs
    split at h
    · simp at h
    · rename_i hc
      refine ⟨hs, by rw [if_pos hs, if_neg hc], ?_⟩
      simp only [Bool.and_eq_true, decide_eq_true_eq, Bool.not_eq_true', not_and, Bool.not_eq_false] at hc
      by_cases h0 : az s window mss = 0
      · exact .inr (hc h0)
      · exact .inl h0
  · simp at h
theorem sent_next {s : Snd} {window mss : Int} (h : (nC s window mss).2 = true) : sO s (nC s window mss).1 = { s with sent := s.sent + az s window mss, finSent := s.finSent || aw s window mss } ∧ aa { s with sent := s.sent + az s window mss, finSent := s.finSent || aw s window mss } = true := by
  obtain ⟨hs, hc, hne⟩ := next_ok h
  have hx := fq (window := window) (mss := mss) hs
  have ht := chunk_text (window := window) (mss := mss) hs
  have hb := bt hs
  obtain ⟨c0, c1, c2, c3, c4⟩ := hx
  obtain ⟨b0, b1, b2, b3, b4, b5, b6, b7, b8, b9, b10⟩ := hb
  have e : gE s (nC s window mss).1 = { s with sent := s.sent + az s window mss, finSent := s.finSent || aw s window mss } := by
    rw [hc]; unfold gE; simp only [ht]
    rw [show s.sent + ((az s window mss).toNat : Int) = s.sent + az s window mss by omega, ab (by omega) (by omega)]
  have hs2 := hs
  unfold aa at hs2
  simp only [Bool.and_eq_true, decide_eq_true_eq, Bool.or_eq_true, Bool.not_eq_true'] at hs2
  have hok : aa { s with sent := s.sent + az s window mss, finSent := s.finSent || aw s window mss } = true := by
    unfold aa
    simp only [Bool.and_eq_true, decide_eq_true_eq, Bool.or_eq_true, Bool.not_eq_true', ci]
    obtain ⟨⟨⟨⟨g1, g2⟩, g3⟩, g4⟩, g5⟩ := hs2
    refine ⟨⟨⟨⟨g1, g2⟩, by omega, by omega⟩, ?_⟩, ?_⟩
    · cases hf : aw s window mss
      · cases hq : s.finSent
        · exact .inl rfl
        · right
          have := b8 hq
          exact ⟨this.1, by omega⟩
      · right
        unfold aw at hf
        simp only [Bool.and_eq_true, decide_eq_true_eq, Bool.not_eq_true'] at hf
        exact ⟨hf.1, hf.2.2.2.1⟩
    · rcases g5 with g5 | g5
      · exact .inl g5
      · cases hd : s.done
        · exact .inl rfl
        · right
          refine ⟨⟨g5.1.1, ?_⟩, g5.2⟩
          have : aw s window mss = false := by unfold aw; simp [hd]
          rw [this, g5.1.2]; rfl
  refine ⟨?_, hok⟩
  unfold sO
  rw [e, hs, hok]
  have : ((nC s window mss).1.fin && s.done) = false := by
    rw [hc]; simp only
    cases hd : s.done
    · simp
    · unfold aw; simp [hd]
  rw [this]; rfl
theorem eN {s : Snd} {window mss : Int} (h : (nC s window mss).2 = true) : il (sO s (nC s window mss).1) < il s := by
  obtain ⟨e, -⟩ := sent_next h
  obtain ⟨hs, hc, hne⟩ := next_ok h
  obtain ⟨c0, c1, c2, c3, c4⟩ := fq (window := window) (mss := mss) hs
  obtain ⟨b0, b1, b2, b3, b4, b5, b6, b7, b8, b9, b10⟩ := bt hs
  rw [e]; unfold il; simp only
  by_cases h0 : az s window mss = 0
  · have hf : aw s window mss = true := hne.resolve_left (fun h => h h0)
    have hq : s.finSent = false := by unfold aw at hf; simp at hf; exact hf.2.1
    simp [h0, hf, hq]
  · cases hq : s.finSent <;> cases hf : aw s window mss <;> simp <;> omega
def cg (s : Snd) (window mss : Int) : Snd × List Chk :=
  if _h : (nC s window mss).2 = true then ((cg (sO s (nC s window mss).1) window mss).1, (nC s window mss).1 :: (cg (sO s (nC s window mss).1) window mss).2) else (s, [])
termination_by il s
decreasing_by all_goals exact eN (by assumption)
def ej (c : Con) (ch : Chk) : Seg := ⟨c.t.my, c.t.port, ch.seq, c.r.next, (if ch.text.toList.isEmpty then 16 else 24) + (if ch.fin then 1 else 0), wO c.r, ⟨0, -1, false, false, 0, 0⟩, ch.text⟩
def eK (ch : Chk) (f : Bool) : Int := (if ch.text.toList.isEmpty then 16 else 24) + (if f then 1 else 0)
theorem segFl_or {ch : Chk} {ka : Int} (h : ka = eK ch false) : IntKind.i64.wrap (BitVec.ofInt 64 ka ||| BitVec.ofInt 64 1).toNat = ka + 1 := by
  subst h; unfold eK; split <;> decide
def tmr {α : Type} (c : Con) (l : List α) : Int := if l.isEmpty then c.timer else if c.timer = 0 then 3 else c.timer
def pump (c : Con) (window : Int) : Con × List Seg :=
  if aW c && (!decide (c.state = 8) && !decide (c.state = 7)) then
    ({ c with s := (cg c.s window (aM c.o)).1, timer := tmr c ((cg c.s window (aM c.o)).2.map (ej c)) }, (cg c.s window (aM c.o)).2.map (ej c))
  else (c, [])
theorem pumpL_step {c : Con} {s0 s : Snd} {L : List Seg} {row : Seg} {window mss : Int} (h : (nC s window mss).2 = true) (hrow : ej c (nC s window mss).1 = row)
    (hk : (cg s0 window mss).2.map (ej c) = L ++ (cg s window mss).2.map (ej c)) : (cg s0 window mss).2.map (ej c) = (L ++ [row]) ++ (cg (sO s (nC s window mss).1) window mss).2.map (ej c) := by
  rw [hk, cg, dif_pos h, ← hrow]; simp
theorem pumpS_step {s0 s : Snd} {window mss : Int} (h : (nC s window mss).2 = true) (hk : (cg s0 window mss).1 = (cg s window mss).1) : (cg s0 window mss).1 = (cg (sO s (nC s window mss).1) window mss).1 := by
  rw [hk, cg, dif_pos h]
theorem pumpL_end {c : Con} {s0 s : Snd} {L : List Seg} {window mss : Int} (h : (nC s window mss).2 = false) (hk : (cg s0 window mss).2.map (ej c) = L ++ (cg s window mss).2.map (ej c)) : (cg s0 window mss).2.map (ej c) = L := by
  rw [hk, cg, dif_neg (by rw [h]; simp)]; simp
theorem pumpS_end {s0 s : Snd} {window mss : Int} (h : (nC s window mss).2 = false) (hk : (cg s0 window mss).1 = (cg s window mss).1) : (cg s0 window mss).1 = s := by
  rw [hk, cg, dif_neg (by rw [h]; simp)]
theorem eF {c : Con} {s : Snd} {L : List Seg} {window t : Int} (h1 : aW c = true) (h2 : ¬ c.state = 8) (h3 : ¬ c.state = 7) (hS : (cg c.s window (aM c.o)).1 = s) (hL : (cg c.s window (aM c.o)).2.map (ej c) = L) (ht : tmr c L = t) : pump c window = ({ c with s := s, timer := t }, L) := by
  unfold pump; rw [hS, hL, ht, if_pos (by simp [h1, h2, h3])]
theorem tmr_next {α : Type} {c : Con} {l : List α} {x : α} {t t' : Int} (h : t = tmr c l) (h' : (if t = 0 then 3 else t) = t') : t' = tmr c (l ++ [x]) := by
  subst h; subst h'; unfold tmr
  cases l with
  | nil => simp
  | cons a l => simp; split <;> simp [*]
theorem row_len {l : List Seg} {x : Seg} {a b n : Nat} (h : l.length + a ≤ n) (hb : b < a) : (l ++ [x]).length + b ≤ n := by simp; omega
theorem conOk_s {c : Con} (h : aW c = true) : aa c.s = true := by
  simp only [aW, bB, Bool.and_eq_true] at h; exact h.1.2.1
theorem meas_le {s : Snd} (h : aa s = true) : il s ≤ 49 := by
  obtain ⟨b0, b1, b2, b3, b4, b5, b6, b7, b8, b9, b10⟩ := bt h
  unfold il; split <;> omega
theorem pumpC_len (window mss : Int) (s : Snd) : (cg s window mss).2.length ≤ il s := by
  induction hn : il s using Nat.strongRecOn generalizing s with
  | _ n ih =>
    rw [cg]; split
    · rename_i h
      have h1 := eN h
      have := ih _ (by omega) (sO s (nC s window mss).1) rfl
      simp only [List.length_cons]; omega
    · simp
theorem eC (c : Con) (window : Int) (h : c.r.held.length ≤ 1048576) : (pump c window).1.r.held.length ≤ 1048576 ∧ (pump c window).2.length ≤ 49 := by
  unfold pump; split
  · rename_i hc
    refine ⟨h, ?_⟩
    simp only [Bool.and_eq_true] at hc
    have hs : aa c.s = true := by have := hc.1; simp only [aW, bB, Bool.and_eq_true] at this; exact this.1.2.1
    have := pumpC_len window (aM c.o) c.s; have := meas_le hs
    simp only [List.length_map]; omega
  · exact ⟨h, by simp⟩
end
/- Plain definitions: calls and ticks (no program in sight). -/
section
open Go.RowKit
def shut (c : Con) : Con × List Seg :=
  if aW c then (if c.state = 1 then pump { c with s := { c.s with fin := true }, state := 2 } c.window else if c.state = 4 then pump { c with s := { c.s with fin := true }, state := 6 } c.window else (c, [])) else (c, [])
def write (c : Con) (text : ByteArray) : Con × Int × List Seg :=
  if aW c && (decide (c.state = 1) || decide (c.state = 4)) then ((pump { c with s := (bk c.s text).1 } c.window).1, (bk c.s text).2, (pump { c with s := (bk c.s text).1 } c.window).2) else (c, 0, [])
def bu (c : Con) : Con × List Seg :=
  if waits c then
    (if c.timer = 0 then ({ c with timer := if c.state = 7 then 3 else 2 }, [])
     else if 0 < c.timer - 1 then ({ c with timer := c.timer - 1 }, [])
     else if c.state = 7 then ({ c with state := 8, timer := c.timer - 1, tries := 0 }, [])
     else if c.tries = 3 then ({ c with state := 8, timer := 0, tries := 0 }, [{ bZ c with flags := 20 }])
     else ({ (pump { c with s := aK c.s, timer := c.timer - 1, tries := c.tries + 1 } (max 1 c.window)).1 with timer := 3 }, (pump { c with s := aK c.s, timer := c.timer - 1, tries := c.tries + 1 } (max 1 c.window)).2))
  else if aW c then ({ c with timer := 0, tries := 0 }, []) else (c, [])
theorem gQ {c : Con} (h : aW c = true) : 0 ≤ c.most ∧ c.most ≤ 1073725440 ∧ 0 ≤ c.window ∧ c.window ≤ 1073725440 ∧ 0 ≤ c.timer ∧ c.timer ≤ 4 ∧ 0 ≤ c.tries ∧ c.tries ≤ 3 ∧ 1 ≤ c.state ∧ c.state ≤ 8 := by
  simp only [aW, bB, cv, Bool.and_eq_true] at h
  obtain ⟨⟨-, -, -, -, h1⟩, ⟨h2, h3, h4, h5⟩, -⟩ := h
  rw [inB_tt] at h1 h2 h3 h4 h5
  refine ⟨by omega, by omega, by omega, by omega, by omega, ?_, by omega, by omega, by omega, by omega⟩
  split at h4 <;> omega
theorem waits_ok {c : Con} (h : waits c = true) : aW c = true := by
  unfold waits at h; simp only [Bool.and_eq_true] at h; exact h.1
theorem shut_bd (c : Con) (h : c.r.held.length ≤ 1048576) : (shut c).1.r.held.length ≤ 1048576 ∧ (shut c).2.length ≤ 49 := by
  unfold shut; (repeat' split) <;> first | exact eC _ _ h | exact ⟨h, by simp⟩
theorem write_bd (c : Con) (t : ByteArray) (h : c.r.held.length ≤ 1048576) : (write c t).1.r.held.length ≤ 1048576 ∧ (write c t).2.2.length ≤ 49 := by
  unfold write; split
  · exact eC _ _ h
  · exact ⟨h, by simp⟩
theorem tickConn_bd (c : Con) (h : c.r.held.length ≤ 1048576) : (bu c).1.r.held.length ≤ 1048576 ∧ (bu c).2.length ≤ 49 := by
  unfold bu; (repeat' split) <;> first | exact eC _ _ h | exact ⟨h, by simp⟩
end
/- Plain definitions: what is heard, and a8 (no program in sight). -/
section
open Go.RowKit
def bm (c : Con) (g : Seg) : Con :=
  if (ae c.s g.ack).2 then
    (if (¬ (ae c.s g.ack).1.una = c.s.una ∨ aj (ae c.s g.ack).1 = 0) ∧ ¬ c.state = 7 then
      { c with s := (ae c.s g.ack).1, window := bI g.window c.o, most := max c.most (bI g.window c.o), tries := 0, timer := if 0 < aj (ae c.s g.ack).1 then 3 else 0 }
     else { c with s := (ae c.s g.ack).1, window := bI g.window c.o, most := max c.most (bI g.window c.o) })
  else c
def cW (c : Con) (g : Seg) : Rcv := if ci c.state 1 3 then av c.r g.seq g.body (bj g.flags 1) else c.r
def heard (c : Con) (g : Seg) : Con := if a9 c g = 5 then aE { bm c g with r := cW c g } else c
def br (c : Con) (g : Seg) : Con × List Seg :=
  if c.state = 8 then (c, []) else ((pump c c.window).1, if 0 < bQ g ∧ (pump c c.window).2.length = 0 then [bZ c] else (pump c c.window).2)
def a8 (c : Con) (g : Seg) : Con × List Seg × Int :=
  if a9 c g = 1 then (c, [], 1)
  else if a9 c g = 2 then ({ c with state := 8, timer := 0, tries := 0 }, [], 2)
  else if a9 c g = 3 then (c, [bZ c], 3)
  else if a9 c g = 4 then (if c.state = 7 ∧ bj g.flags 1 = true then { c with timer := 4 } else c, [bZ c], 4)
  else ((br (heard c g) g).1, (br (heard c g) g).2, 5)
theorem gp {c : Con} {g : Seg} {tm : Int} (h : a9 c g = 4) (htm : tm = if a9 c g = 4 ∧ c.state = 7 ∧ bj g.flags 1 = true then 4 else c.timer) : a8 c g = ({ c with timer := tm }, [bZ c], 4) := by
  unfold a8; rw [if_neg (by omega), if_neg (by omega), if_neg (by omega), if_pos h]
  by_cases hx : c.state = 7 ∧ bj g.flags 1 = true
  · rw [if_pos hx, htm, if_pos ⟨h, hx⟩]
  · rw [if_neg hx, htm, if_neg (fun e => hx e.2)]
theorem fM {c : Con} {g : Seg} {tm : Int} (h : a9 c g = 3) (htm : tm = if a9 c g = 4 ∧ c.state = 7 ∧ bj g.flags 1 = true then 4 else c.timer) : a8 c g = ({ c with timer := tm }, [bZ c], 3) := by
  unfold a8; rw [if_neg (by omega), if_neg (by omega), if_pos h, htm, if_neg (fun e => by omega)]
theorem eQ (c : Con) (g : Seg) : 1 ≤ a9 c g ∧ a9 c g ≤ 5 := by unfold a9; (repeat' split) <;> omega
theorem gl {c : Con} {g : Seg} (h : a9 c g = 5) : aW c = true ∧ ¬ c.state = 8 ∧ cr g = true ∧ bj g.flags 4 = false ∧ bj g.flags 2 = false ∧ cw c g = true ∧ bj g.flags 16 = true ∧ dC c g.ack = true := by
  unfold a9 at h
  split at h
  · omega
  rename_i h1
  simp only [Bool.or_eq_true, Bool.not_eq_true', decide_eq_true_eq, not_or, Bool.not_eq_false] at h1
  split at h
  · (repeat' split at h) <;> omega
  split at h
  · omega
  split at h
  · omega
  split at h
  · omega
  split at h
  · omega
  simp_all
theorem conOk_r {c : Con} (h : aW c = true) : rO c.r = true ∧ bl c.o = true ∧ dw c.t = true := by
  simp only [aW, bB, Bool.and_eq_true] at h; exact ⟨h.1.2.2.1, h.1.2.2.2.1, h.1.1⟩
theorem gF {g : Seg} (h : cr g = true) : 0 ≤ g.window ∧ g.window ≤ 65535 := by
  simp only [cr, Bool.and_eq_true] at h; exact wordOk16_bd h.2.2.1
theorem farW_bd {w : Int} {o : Opt} (h : 0 ≤ w ∧ w ≤ 65535) (ho : bl o = true) : 0 ≤ bI w o ∧ bI w o ≤ 1073725440 := by
  have := gq ho
  unfold bI
  exact ⟨Int.mul_nonneg h.1 (Int.pow_nonneg (by omega)), far_le h.1 h.2 (by omega) (by omega)⟩
theorem pcs_bd : ∀ (l : List Int) (acc : List Pce) (j : Nat), (∀ p ∈ acc, 0 ≤ p.off ∧ p.off + (p.text.size : Int) ≤ (j : Int)) → ∀ p ∈ fl acc j l, 0 ≤ p.off ∧ p.off + (p.text.size : Int) ≤ ((j + l.length : Nat) : Int)
  | [], acc, j, h, p, hp => by simpa using h p hp
  | x :: l, acc, j, h, p, hp => by
    rw [fl] at hp
    have := pcs_bd l _ (j + 1) (fun q hq => by
      split at hq
      · have := h q hq; omega
      · have := addByte_bd h q hq; omega) p hp
    rw [List.length_cons]; omega
theorem fP {r : Rcv} {seq : Int} {t : ByteArray} {fin : Bool} {H T D : Nat} (h1 : r.held.length ≤ H) (h2 : ∀ p ∈ r.held, p.text.size ≤ T) (h3 : r.data.size ≤ D) (hH : 3 ≤ H) (hT : 33 ≤ T) (hD : 65 ≤ D) :
    (av r seq t fin).held.length ≤ H ∧ (∀ p ∈ (av r seq t fin).held, p.text.size ≤ T) ∧ (av r seq t fin).data.size ≤ D := by
  unfold av
  split
  · rename_i hok
    simp only [Bool.and_eq_true] at hok
    have hr := iu hok.1
    have hl := allIn_len r seq t
    have hb : ∀ p ∈ fl [] 0 ((cY r seq t).drop (cQ (cY r seq t))), p.text.size ≤ T := fun p hp => by
      have := pcs_bd _ [] 0 (by simp) p hp
      rw [List.length_drop, hl] at this; omega
    have hd : (r.data ++ am ((cY r seq t).take (cQ (cY r seq t)))).size ≤ D := by
      rw [ByteArray.size_append, gL, List.length_take, hl]; omega
    split
    · exact ⟨h1, h2, h3⟩
    · rename_i hn
      split
      · exact ⟨by dsimp only; omega, hb, hd⟩
      · exact ⟨by dsimp only; omega, hb, hd⟩
  · exact ⟨h1, h2, h3⟩
theorem turned_w (c : Con) : (aE c).window = c.window ∧ (aE c).s = c.s ∧ (aE c).r = c.r ∧ (aE c).most = c.most ∧ (aE c).o = c.o ∧ (aE c).t = c.t := by unfold aE; (repeat' split) <;> exact ⟨rfl, rfl, rfl, rfl, rfl, rfl⟩
theorem heardMid_eq (c : Con) (g : Seg) : (bm c g).r = c.r ∧ (bm c g).t = c.t ∧ (bm c g).state = c.state ∧ (bm c g).o = c.o := by unfold bm; (repeat' split) <;> exact ⟨rfl, rfl, rfl, rfl⟩
theorem heardR_sz {c : Con} {g : Seg} {H T D : Nat} (h1 : c.r.held.length ≤ H) (h2 : ∀ p ∈ c.r.held, p.text.size ≤ T) (h3 : c.r.data.size ≤ D) (hH : 3 ≤ H) (hT : 33 ≤ T) (hD : 65 ≤ D) :
    (cW c g).held.length ≤ H ∧ (∀ p ∈ (cW c g).held, p.text.size ≤ T) ∧ (cW c g).data.size ≤ D := by
  unfold cW; split
  · exact fP h1 h2 h3 hH hT hD
  · exact ⟨h1, h2, h3⟩
theorem heard_r (c : Con) (g : Seg) : (heard c g).r = cW c g ∨ (heard c g).r = c.r := by
  unfold heard; split
  · rw [(turned_w _).2.2.1]; exact .inl rfl
  · exact .inr rfl
theorem heard_sz {c : Con} {g : Seg} {H T D : Nat} (h1 : c.r.held.length ≤ H) (h2 : ∀ p ∈ c.r.held, p.text.size ≤ T) (h3 : c.r.data.size ≤ D) (hH : 3 ≤ H) (hT : 33 ≤ T) (hD : 65 ≤ D) :
    (heard c g).r.held.length ≤ H ∧ (∀ p ∈ (heard c g).r.held, p.text.size ≤ T) ∧ (heard c g).r.data.size ≤ D := by
  rcases heard_r c g with e | e <;> rw [e]
  · exact heardR_sz h1 h2 h3 hH hT hD
  · exact ⟨h1, h2, h3⟩
theorem heard_w {c : Con} {g : Seg} (h : a9 c g = 5) : 0 ≤ (heard c g).window ∧ (heard c g).window ≤ 1073725440 := by
  obtain ⟨h1, -, h3, -⟩ := gl h
  have hf := farW_bd (gF h3) (conOk_r h1).2.1
  have hc := gQ h1
  unfold heard; rw [if_pos h, (turned_w _).1]
  show 0 ≤ (bm c g).window ∧ (bm c g).window ≤ _
  unfold bm; (repeat' split) <;> first | exact hf | exact ⟨hc.2.2.1, hc.2.2.2.1⟩
theorem cN {c : Con} {g : Seg} (h1 : ¬ a9 c g = 2) (h2 : ¬ a9 c g = 3) (h3 : ¬ a9 c g = 4) (h4 : ¬ a9 c g = 5) : a8 c g = (c, [], a9 c g) := by
  have h : a9 c g = 1 := by have := eQ c g; omega
  unfold a8; rw [if_pos h, h]
theorem pump_rr (c : Con) (w : Int) : (pump c w).1.r = c.r := by unfold pump; split <;> rfl
theorem pump_none {c : Con} {w : Int} (h : (pump c w).2 = []) : pump c w = (c, []) := by
  unfold pump at h ⊢
  split
  · rename_i hc
    rw [if_pos hc] at h
    have hn : ¬ (nC c.s w (aM c.o)).2 = true := fun q => by rw [cg, dif_pos q] at h; simp at h
    have e : cg c.s w (aM c.o) = (c.s, []) := by rw [cg, dif_neg hn]
    rw [e]; rfl
  · rfl
theorem dx {c : Con} {g : Seg} (hv : a9 c g = 5) (h8 : ¬ (heard c g).state = 8) (hp : pump (heard c g) (heard c g).window = (heard c g, [])) (hs : ¬ bQ g = 0) :
    a8 c g = ((pump (heard c g) (heard c g).window).1, [bZ (pump (heard c g) (heard c g).window).1], a9 c g) := by
  have hs1 : 0 ≤ bQ g := by unfold bQ; split <;> split <;> omega
  have hs0 : 0 < bQ g := by omega
  unfold a8; rw [if_neg (by omega), if_neg (by omega), if_neg (by omega), if_neg (by omega), hv]
  unfold br; rw [if_neg h8, hp]; simp [hs0]
end
/- Plain definitions: sizes of what is drawn (no program in sight). -/
section
open Go.RowKit
def RB (H : Nat) (r : Rcv) : Prop := r.held.length ≤ H ∧ (∀ p ∈ r.held, p.text.size ≤ 33) ∧ r.data.size ≤ 65
theorem RB.kn {r : Rcv} (h : RB 4 r) : r.held.length ≤ 1048576 := Nat.le_trans h.1 (by decide)
theorem RB.hm {r : Rcv} {H : Nat} (h : RB H r) : ∀ p ∈ r.held, p.text.size ≤ 1048576 := fun p hp => Nat.le_trans (h.2.1 p hp) (by decide)
theorem RB.sz {r : Rcv} {H : Nat} (h : RB H r) : r.data.size ≤ 4611686018427387904 := Nat.le_trans h.2.2 (by decide)
theorem RB.up {r : Rcv} (h : RB 3 r) : RB 4 r := ⟨Nat.le_trans h.1 (by decide), h.2.1, h.2.2⟩
theorem RB.new (n : Int) : RB 3 (rN n) := ⟨Nat.zero_le _, fun p hp => by simp [rN] at hp, Nat.zero_le _⟩
theorem RB.arr {r : Rcv} {H : Nat} (h : RB H r) (hH : 3 ≤ H) (seq : Int) (t : ByteArray) (fin : Bool) : RB H (av r seq t fin) := fP h.1 h.2.1 h.2.2 hH (Nat.le_refl _) (Nat.le_refl _)
theorem RB.taken {r : Rcv} {H : Nat} (h : RB H r) (n : Int) : RB H (ao r n).1 := ⟨by rw [ij]; exact h.1, by rw [ij]; exact h.2.1, Nat.le_trans (takenIn_sz r n) h.2.2⟩
theorem RB.more {r : Rcv} (h : RB 3 r) (p : Pce) (hp : p.text.size ≤ 33) {d : ByteArray} (hd : d.size ≤ 65) {next fin : Int} {done : Bool} : RB 4 ⟨next, d, r.held ++ [p], fin, done⟩ :=
  ⟨by rw [List.length_append]; have := h.1; simp; omega, fun q hq => by
    rcases List.mem_append.1 hq with hq | hq
    · exact h.2.1 q hq
    · rw [List.mem_singleton] at hq; subst hq; exact hp, hd⟩
theorem pump_r (c : Con) (w : Int) : (pump c w).1.r = c.r := by unfold pump; split <;> rfl
theorem RB.pump {c : Con} {H : Nat} (h : RB H c.r) (w : Int) : RB H (Go.Proofs.YtebgmdiejgcoiaaGreat.pump c w).1.r := by rw [pump_r]; exact h
theorem RB.write {c : Con} {H : Nat} (h : RB H c.r) (t : ByteArray) : RB H (Go.Proofs.YtebgmdiejgcoiaaGreat.write c t).1.r := by unfold Go.Proofs.YtebgmdiejgcoiaaGreat.write; split <;> first | (dsimp only; rw [pump_r]; exact h) | exact h
theorem RB.shut {c : Con} {H : Nat} (h : RB H c.r) : RB H (Go.Proofs.YtebgmdiejgcoiaaGreat.shut c).1.r := by
  unfold Go.Proofs.YtebgmdiejgcoiaaGreat.shut; (repeat' split) <;> first | exact h | (rw [pump_r]; exact h)
theorem RB.tick {c : Con} {H : Nat} (h : RB H c.r) : RB H (bu c).1.r := by
  unfold bu; (repeat' split) <;> first | exact h | (dsimp only; rw [pump_r]; exact h)
theorem RB.read {c : Con} {H : Nat} (h : RB H c.r) (n : Int) : RB H (bW c n).1.r := by
  unfold bW; (repeat' split) <;> first | exact h | exact RB.taken h n
theorem RB.heard {c : Con} {H : Nat} (h : RB H c.r) (hH : 3 ≤ H) (g : Seg) : RB H (Go.Proofs.YtebgmdiejgcoiaaGreat.heard c g).r := heard_sz h.1 h.2.1 h.2.2 hH (Nat.le_refl _) (Nat.le_refl _)
theorem RB.recv {c : Con} {H : Nat} (h : RB H c.r) (hH : 3 ≤ H) (g : Seg) : RB H (a8 c g).1.r := by
  unfold a8 br; (repeat' split) <;> first | exact h | exact RB.heard h hH g | exact RB.pump (RB.heard h hH g) _
theorem RB.newC (t : Tup) (iss irs : Int) (o : Opt) (w : Int) : RB 3 (cD t iss irs o w).r := by
  unfold cD; (repeat' split) <;> exact RB.new _
end
/- Plain definitions: the slots as two arrays, and what is kept of them (no program in sight). -/
section
open Go.RowKit
set_option linter.unusedVariables false
def dA (W : Nat) (sl : List Int) : List Bool := (sl.take W).map fun x => decide (0 ≤ x)
def bY (W : Nat) (sl : List Int) : List Int := (sl.take W).map fun x => max x 0
def fB (sl : List Int) (off : Nat) (x : Int) : List Int := if 0 ≤ slotAt sl off then sl else sl.set off x
theorem hvOf_len {W : Nat} {sl : List Int} (h : W ≤ sl.length) : (dA W sl).length = W := by unfold dA; simp; omega
theorem dtOf_len {W : Nat} {sl : List Int} (h : W ≤ sl.length) : (bY W sl).length = W := by unfold bY; simp; omega
theorem io {W off : Nat} {sl : List Int} {x : Int} (hw : off < W) (h : sl[off]? = some x) : (dA W sl)[off]? = some (decide (0 ≤ x)) := by
  unfold dA; rw [List.getElem?_map, List.getElem?_take_of_lt hw, h]; rfl
theorem dtOf_get {W off : Nat} {sl : List Int} {x : Int} (hw : off < W) (h : sl[off]? = some x) : (bY W sl)[off]? = some (max x 0) := by
  unfold bY; rw [List.getElem?_map, List.getElem?_take_of_lt hw, h]; rfl
theorem hvOf_set {W off : Nat} {sl : List Int} {x : Int} (hx : 0 ≤ x) : (dA W sl).set off true = dA W (sl.set off x) := by
  unfold dA; rw [List.take_set, List.map_set, show decide (0 ≤ x) = true from decide_eq_true hx]
theorem dtOf_set {W off : Nat} {sl : List Int} {x : Int} (hx : 0 ≤ x) : (bY W sl).set off x = bY W (sl.set off x) := by
  unfold bY; rw [List.take_set, List.map_set, show max x 0 = x by omega]
theorem hvOf_start {W : Nat} (h : W ≤ 33) : dA W (List.replicate 33 (-1)) = List.replicate W false := by
  unfold dA; rw [List.take_replicate, List.map_replicate, Nat.min_eq_left h]; rfl
theorem dtOf_start {W : Nat} (h : W ≤ 33) : bY W (List.replicate 33 (-1)) = List.replicate W 0 := by
  unfold bY; rw [List.take_replicate, List.map_replicate, Nat.min_eq_left h]; rfl
theorem stOne_len (sl : List Int) (off : Nat) (x : Int) : (fB sl off x).length = sl.length := by unfold fB; split <;> simp
theorem stOne_free {sl : List Int} {off : Nat} {x z : Int} (h : sl[off]? = some z) (hz : z < 0) : fB sl off x = sl.set off x := by
  unfold fB; rw [slotAt_of h, if_neg (by omega)]
theorem stOne_full {sl : List Int} {off : Nat} {x z : Int} (h : sl[off]? = some z) (hz : 0 ≤ z) : fB sl off x = sl := by
  unfold fB; rw [slotAt_of h, if_pos hz]
theorem stOne_far {sl : List Int} {off j : Nat} {x : Int} (h : off ≠ j) : (fB sl off x)[j]? = sl[j]? := by
  unfold fB; split
  · rfl
  · rw [List.getElem?_set_ne h]
def ea (B gh gd bh bd T1 T2 e1 e2 W : Nat) (sl : List Int) : Fact := allF [cy B gh T1 [.slice (some ⟨bh, 0, none⟩) W W], cy B gd T2 [.slice (some ⟨bd, 0, none⟩) W W], ap B e1 1 (.slice (some ⟨bh, 0, none⟩) W W) ((dA W sl).map cx), ap B e2 1 (.slice (some ⟨bd, 0, none⟩) W W) ((bY W sl).map bR)]
theorem arrF_lo {B gh gd bh bd T1 T2 e1 e2 W : Nat} {sl : List Int} {w : World} (h : (ea B gh gd bh bd T1 T2 e1 e2 W sl).p w) {b : Nat} (hb : (ea B gh gd bh bd T1 T2 e1 e2 W sl).blk b) : B ≤ b := by
  obtain ⟨g, hg, hq⟩ := hb
  have hp := h.1 g hg
  simp only [List.mem_cons, List.not_mem_nil, or_false] at hg
  rcases hg with rfl | rfl | rfl | rfl
  · have e : b = gh := hq
    subst e; exact hp.1
  · have e : b = gd := hq
    subst e; exact hp.1
  · exact ib hp hq
  · exact ib hp hq
theorem arrF_blk {B gh gd bh bd T1 T2 e1 e2 W : Nat} {sl sl' : List Int} {b : Nat} (hb : (ea B gh gd bh bd T1 T2 e1 e2 W sl').blk b) : (ea B gh gd bh bd T1 T2 e1 e2 W sl).blk b := by
  obtain ⟨g, hg, hq⟩ := hb
  simp only [List.mem_cons, List.not_mem_nil, or_false] at hg
  rcases hg with rfl | rfl | rfl | rfl
  · exact ⟨_, by simp, hq⟩
  · exact ⟨_, .tail _ (.head _), hq⟩
  · exact ⟨_, .tail _ (.tail _ (.head _)), hq⟩
  · exact ⟨_, .tail _ (.tail _ (.tail _ (.head _))), hq⟩
theorem xcm_arr {P : Program} {w0 : World} {fs : List Fact} {f : FuncId} {args : List Value} {v : Value} {B gh gd bh bd T1 T2 e1 e2 W : Nat} {sl sl' : List Int}
    (h : ∀ w, w0.heap.size ≤ w.heap.size → (∀ g ∈ fs, g.p w) → Calls P f args.toArray w fun e w' => e = .returned v ∧ (ea B gh gd bh bd T1 T2 e1 e2 W sl').p w' ∧ Chgd (ea B gh gd bh bd T1 T2 e1 e2 W sl).blk w w') :
    XCM P w0 fs (ea B gh gd bh bd T1 T2 e1 e2 W sl).blk f args (α := Unit) (fun _ => v) (fun _ => [ea B gh gd bh bd T1 T2 e1 e2 W sl']) := fun w hw hf => (h w hw hf).mono fun e w' ⟨he, hp, hc⟩ =>
  ⟨(), he, fun g hg => by
    obtain rfl : g = ea B gh gd bh bd T1 T2 e1 e2 W sl' := by simpa using hg
    exact ⟨hp, fun b hb => .inl (arrF_blk hb)⟩, Apart.one _, hc⟩
theorem apart_frS {gs : List Fact} {W : World} {S : Nat → Prop} (h : Apart gs) (hS : ∀ g ∈ gs, ∀ b, g.blk b → S b) : Apart (gs ++ [c9 W S]) :=
  h.append (Apart.one _) fun f hf g hg b hb hgb => by
    obtain rfl : g = c9 W S := by simpa using hg
    exact hgb.2 (hS f hf b hb)
theorem own4 {f1 f2 f3 f4 : Fact} (h1 : f1.own = true) (h2 : f2.own = true) (h3 : f3.own = true) (h4 : f4.own = true) : ∀ g ∈ [f1, f2, f3, f4], g.own = true := fun g hg => by
  simp only [List.mem_cons, List.not_mem_nil, or_false] at hg
  rcases hg with rfl | rfl | rfl | rfl <;> assumption
theorem rok_held {r : Rcv} (h : rO r = true) : cl (if r.fin = -1 then wO r else r.fin) 0 r.held = true := by
  unfold rO at h; simp only [Bool.and_eq_true] at h; exact h.2.1
theorem held_step {m e : Int} {l : List Pce} {i : Nat} {p : Pce} (h : cl m e (l.drop i) = true) (hx : l[i]? = some p) : e < p.off ∧ p.off + (p.text.size : Int) ≤ m ∧ cl m (p.off + (p.text.size : Int)) (l.drop (i + 1)) = true := by
  obtain ⟨hl, e1⟩ := List.getElem?_eq_some_iff.1 hx
  rw [List.drop_eq_getElem_cons hl, e1] at h
  simp only [cl, Bool.and_eq_true, decide_eq_true_eq] at h
  exact ⟨h.2.1, by omega, h.2.2.2⟩
theorem text_yes {r : Rcv} {seq : Int} {t : ByteArray} {l : List Int} {k : Nat} (h1 : ((c6 r seq k : Nat) : Int) < wO r) (h2 : r.fin < 0 ∨ ((c6 r seq k : Nat) : Int) < r.fin) : gY r seq t l k = fB l (c6 r seq k) (ba t k) := by
  rw [dR]; unfold fB
  by_cases h : 0 ≤ slotAt l (c6 r seq k)
  · rw [if_neg (by omega), if_pos h]
  · rw [if_pos ⟨h1, h2, by omega⟩, if_neg h]
theorem text_no {r : Rcv} {seq : Int} {t : ByteArray} {l : List Int} {k : Nat} (h : ¬ (((c6 r seq k : Nat) : Int) < wO r ∧ (r.fin < 0 ∨ ((c6 r seq k : Nat) : Int) < r.fin))) : gY r seq t l k = l := by
  rw [dR, if_neg (by rintro ⟨h1, h2, -⟩; exact h ⟨h1, h2⟩)]
def hasB (l : List Bool) (b : Bool) : Bool := l.any (b == ·)
theorem hasB_free {W p : Nat} {sl : List Int} (hbe : ∀ j, W ≤ j → j < 33 → sl[j]? = some (-1)) (hl : sl.length = 33) (hW : W ≤ 32) (hp : p ≤ W) : hasB (((dA W sl).drop p).take (W - p)) true = !dv sl p := by
  have e0 : ((dA W sl).drop p).take (W - p) = (dA W sl).drop p := List.take_of_length_le (by rw [List.length_drop, hvOf_len (by omega)]; omega)
  rw [e0]
  cases hf : dv sl p with
  | true =>
    unfold dv at hf; rw [List.all_eq_true] at hf
    unfold hasB
    rw [Bool.not_true, ← Bool.not_eq_true, List.any_eq_true]
    rintro ⟨x, hx, hq⟩
    unfold dA at hx
    rw [← List.map_drop] at hx
    obtain ⟨y, hy, rfl⟩ := List.mem_map.1 hx
    have h1 := hf y (by rw [List.drop_take] at hy; exact List.mem_of_mem_take hy)
    simp at h1 hq; omega
  | false =>
    unfold dv at hf
    rw [Bool.not_false]
    have : ¬ ∀ x ∈ sl.drop p, decide (x < 0) = true := fun h => by rw [List.all_eq_true.2 h] at hf; cases hf
    simp only [Classical.not_forall, decide_eq_true_eq] at this
    obtain ⟨x, hx, hn⟩ := this
    obtain ⟨i, hi⟩ := List.getElem?_of_mem hx
    rw [List.getElem?_drop] at hi
    have hlt : p + i < W := by
      rcases Nat.lt_or_ge (p + i) W with h | h
      · exact h
      · have h3 := (List.getElem?_eq_some_iff.1 hi).1
        rw [hbe _ h (by omega)] at hi
        simp only [Option.some.injEq] at hi; omega
    unfold hasB; rw [List.any_eq_true]
    refine ⟨true, List.mem_of_getElem? (i := i) ?_, rfl⟩
    rw [List.getElem?_drop, io hlt hi, show decide (0 ≤ x) = true from decide_eq_true (by omega)]
theorem dt_part {W i n : Nat} {sl : List Int} (h : i + n ≤ W) (hp : ∀ x ∈ (sl.drop i).take n, 0 ≤ x) : ((bY W sl).drop i).take n = (sl.drop i).take n := by
  unfold bY
  rw [← List.map_drop, ← List.map_take, List.drop_take, List.take_take, Nat.min_eq_left (by omega)]
  conv => rhs; rw [← List.map_id ((sl.drop i).take n)]
  exact List.map_congr_left fun x hx => by have := hp x hx; simp only [id]; omega
theorem pcs_neg (acc : List Pce) : ∀ (l : List Int) (j : Nat), (∀ x ∈ l, x < 0) → fl acc j l = acc
  | [], _, _ => rfl
  | x :: l, j, h => by rw [fl, if_pos (h x (by simp))]; exact pcs_neg acc l _ fun y hy => h y (by simp [hy])
theorem beyond_neg {W : Nat} {sl : List Int} (hbe : ∀ j, W ≤ j → j < 33 → sl[j]? = some (-1)) (hl : sl.length = 33) : ∀ x ∈ sl.drop W, x < 0 := fun x hx => by
  obtain ⟨i, hi⟩ := List.getElem?_of_mem hx
  rw [List.getElem?_drop] at hi
  have h3 := (List.getElem?_eq_some_iff.1 hi).1
  rw [hbe _ (by omega) (by omega)] at hi
  simp only [Option.some.injEq] at hi; omega
theorem pcs_piece {sl : List Int} {out : List Pce} {n i j : Nat} (hni : n ≤ i) (hij : i < j) (hj : j ≤ sl.length) (hrun : ∀ x ∈ (sl.drop i).take (j - i), 0 ≤ x) (ht : ¬ touches out (i - n)) :
    fl out (i - n) (sl.drop i) = fl (out ++ [⟨((i - n : Nat) : Int), am ((sl.drop i).take (j - i))⟩]) (j - n) (sl.drop j) := by
  have hsplit : sl.drop i = (sl.drop i).take (j - i) ++ sl.drop j := by
    conv => lhs; rw [← List.take_append_drop (j - i) (sl.drop i)]
    rw [List.drop_drop]; congr 2; omega
  have hlen : ((sl.drop i).take (j - i)).length = j - i := by rw [List.length_take, List.length_drop]; omega
  cases hc : (sl.drop i).take (j - i) with
  | nil => rw [hc] at hlen; simp at hlen; omega
  | cons x run =>
    rw [hc] at hrun hlen
    conv => lhs; rw [hsplit, hc]
    rw [pcs_begin out (i - n) x run (sl.drop j) (hrun x (by simp)) (fun y hy => hrun y (by simp [hy])) ht]
    congr 1
    simp only [List.length_cons] at hlen ⊢; omega
theorem bd_more {out : List Pce} {a c : Nat} {t : ByteArray} (h : ∀ p ∈ out, 0 ≤ p.off ∧ p.off + (p.text.size : Int) ≤ (a : Int)) (ha : a ≤ c) (ht : a + t.size ≤ c) : ∀ p ∈ out ++ [(⟨(a : Int), t⟩ : Pce)], 0 ≤ p.off ∧ p.off + (p.text.size : Int) ≤ (c : Int) := fun p hp => by
  rcases List.mem_append.1 hp with hp | hp
  · have := h p hp; omega
  · rw [List.mem_singleton] at hp; subst hp; dsimp only; omega
theorem touch_skip {out : List Pce} {m : Nat} (hbd : ∀ p ∈ out, 0 ≤ p.off ∧ p.off + (p.text.size : Int) ≤ (m : Int)) : ¬ touches out (m + 1) := by
  rintro ⟨p, hp, he⟩
  have := hbd p (List.mem_of_getLast? hp); omega
theorem run_more {sl : List Int} {i j : Nat} {x : Int} (hij : i ≤ j) (h : ∀ x ∈ (sl.drop i).take (j - i), 0 ≤ x) (hx : sl[j]? = some x) (h0 : 0 ≤ x) : ∀ x ∈ (sl.drop i).take (j + 1 - i), 0 ≤ x := fun y hy => by
  have e : (sl.drop i).take (j + 1 - i) = (sl.drop i).take (j - i) ++ [x] := by
    rw [show j + 1 - i = (j - i) + 1 by omega, List.take_add_one, List.getElem?_drop, show i + (j - i) = j by omega, hx]; rfl
  rw [e] at hy
  rcases List.mem_append.1 hy with hy | hy
  · exact h y hy
  · rw [List.mem_singleton] at hy; omega
theorem dt_head {W n : Nat} {sl : List Int} (h : n ≤ W) (hp : ∀ x ∈ sl.take n, 0 ≤ x) : am (((bY W sl).drop 0).take (n - 0)) = am (sl.take n) := by
  have := dt_part (W := W) (i := 0) (n := n) (sl := sl) (by omega) (by simpa using hp)
  rw [Nat.sub_zero, this]; simp
def ik (b : Bool) : List Bool → Nat → Int
  | [], _ => -1
  | x :: xs, k => if b = x then (k : Int) else ik b xs (k + 1)
theorem idx_has (b : Bool) : ∀ (l : List Bool) (k : Nat), decide (ik b l k ≥ 0) = hasB l b
  | [], k => rfl
  | x :: xs, k => by
    by_cases h : b = x
    · have e : ik b (x :: xs) k = k := by rw [ik, if_pos h]
      rw [show decide (ik b (x :: xs) k ≥ 0) = true from decide_eq_true (by omega)]
      unfold hasB; simp [h]
    · have e : ik b (x :: xs) k = ik b xs (k + 1) := by rw [ik, if_neg h]
      have h2 := idx_has b xs (k + 1)
      unfold hasB at h2 ⊢
      rw [List.any_cons, ← h2, show (b == x) = false from by simpa using h, Bool.false_or]
      simp only [e]
end
/- Plain laws: a new connection (no program in sight). -/
section
open Go.RowKit
theorem sameL_self {α : Type} {eq : α → α → Bool} (h : ∀ x, eq x x = true) (l : List α) : ew eq l l = true := sameL_yes rfl fun i x y h1 h2 => by
  rw [h1] at h2; simp only [Option.some.injEq] at h2; subst h2; exact h x
theorem em (c : Con) : dn c c = true := by
  simp [dn, bw, fE, eL, fj, sameL_self (eq := ev) (fun x => by simp [ev])]
end
/- Plain laws: what is taken, aE, cw (no program in sight). -/
section
open Go.RowKit
theorem pceEq_self (p : Pce) : ev p p = true := by simp [ev]
theorem sameL_pce (l : List Pce) : ew ev l l = true := sameL_yes rfl fun i x y h1 h2 => by rw [h1] at h2; simp only [Option.some.injEq] at h2; subst h2; exact pceEq_self x
theorem gM (r : Rcv) : bw r r = true := by unfold bw; rw [sameL_pce]; simp
theorem sndEq_self (s : Snd) : eL s s = true := by simp [eL]
def ts (k : Int) (sd rd : Bool) : Int :=
  if k = 1 then (if rd then 4 else 1)
  else if k = 2 then (if sd && rd then 7 else if sd then 3 else if rd then 5 else 2)
  else if k = 3 then (if rd then 7 else 3)
  else if k = 5 then (if sd then 7 else 5)
  else if k = 6 then (if sd then 8 else 6)
  else k
theorem ts_eq (c : Con) : tS c = ts c.state c.s.done c.r.done := rfl
end
/- Plain laws: a right connection stays right (no program in sight). -/
section
open Go.RowKit
theorem pumpC_inv (window mss : Int) (s : Snd) (hs : aa s = true) : aa (cg s window mss).1 = true ∧ (cg s window mss).1.data = s.data ∧ (cg s window mss).1.una = s.una ∧ (cg s window mss).1.fin = s.fin ∧ (cg s window mss).1.done = s.done := by
  induction hn : il s using Nat.strongRecOn generalizing s with
  | _ n ih =>
    rw [cg]; split
    · rename_i h
      have h1 := eN h
      obtain ⟨e, hok⟩ := sent_next h
      rw [← e] at hok
      obtain ⟨g1, g2, g3, g4, g5⟩ := ih _ (by omega) (sO s (nC s window mss).1) hok rfl
      dsimp only
      rw [g2, g3, g4, g5]
      refine ⟨g1, ?_⟩
      rw [e]; exact ⟨rfl, rfl, rfl, rfl⟩
    · exact ⟨hs, rfl, rfl, rfl, rfl⟩
theorem conOk_iff {c : Con} : aW c = true ↔ (dw c.t = true ∧ aa c.s = true ∧ rO c.r = true ∧ bl c.o = true ∧ (1 ≤ c.state ∧ c.state ≤ 8)) ∧ ((0 ≤ c.most ∧ c.most ≤ 1073725440) ∧ (0 ≤ c.window ∧ c.window ≤ c.most) ∧ (0 ≤ c.timer ∧ c.timer ≤ (if c.state = 7 then 4 else 3)) ∧ (0 ≤ c.tries ∧ c.tries ≤ 3)) ∧ aC c = true := by
  simp only [aW, bB, cv, Bool.and_eq_true, inB_tt]
theorem conOk_set {c : Con} (h : aW c = true) {s : Snd} {st tm tr : Int} (hs : aa s = true) (h8 : 1 ≤ st ∧ st ≤ 8) (ht : 0 ≤ tm ∧ tm ≤ (if st = 7 then 4 else 3)) (hr : 0 ≤ tr ∧ tr ≤ 3) (hf : aC { c with s := s, state := st } = true) : aW { c with s := s, state := st, timer := tm, tries := tr } = true := by
  obtain ⟨⟨g1, g2, g3, g4, g5⟩, ⟨m1, m2, m3, m4⟩, g6⟩ := conOk_iff.1 h
  exact conOk_iff.2 ⟨⟨g1, hs, g3, g4, h8⟩, ⟨m1, m2, ht, hr⟩, hf⟩
theorem fits_same {c : Con} {s : Snd} (h : aC c = true) (h1 : s.fin = c.s.fin) (h2 : s.done = c.s.done) : aC { c with s := s } = true := by
  unfold aC at h ⊢; simp only [h1, h2]; exact h
theorem pump_ok {c : Con} (w : Int) (h : aW c = true) : aW (pump c w).1 = true := by
  unfold pump
  split
  · rename_i hc
    simp only [Bool.and_eq_true, Bool.not_eq_true', decide_eq_false_iff_not] at hc
    obtain ⟨⟨g1, g2, g3, g4, g5⟩, ⟨m1, m2, m3, m4⟩, g6⟩ := conOk_iff.1 h
    obtain ⟨p1, p2, p3, p4, p5⟩ := pumpC_inv w (aM c.o) c.s g2
    exact conOk_set h p1 g5 (by rw [if_neg hc.2.2] at m3 ⊢; unfold tmr; split <;> (first | exact m3 | (split <;> omega))) m4 (fits_same g6 p4 p5)
  · exact h
end
/- Plain laws: what a pump sends, and how a connection that waits comes to its end (no program in sight). -/
section
open Go.RowKit
set_option linter.unusedVariables false
def pq (c : Con) (w : Int) (s : Snd) : Snd × List Seg := if c.state = 8 ∨ c.state = 7 then (s, []) else ((cg s w (aM c.o)).1, (cg s w (aM c.o)).2.map (ej c))
def sentG (c : Con) (w : Int) (s : Snd) : Snd := sO s (nC s w (aM c.o)).1
theorem pq_cons {c : Con} {w : Int} {s : Snd} {g : Seg} {L : List Seg} (h : (pq c w s).2 = g :: L) :
    (nC s w (aM c.o)).2 = true ∧ g = ej c (nC s w (aM c.o)).1 ∧ (pq c w (sentG c w s)).2 = L ∧ (pq c w s).1 = (pq c w (sentG c w s)).1 := by
  unfold pq at h ⊢
  by_cases hd : c.state = 8 ∨ c.state = 7
  · rw [if_pos hd] at h; simp at h
  · rw [if_neg hd] at h
    simp only [if_neg hd]
    by_cases hn : (nC s w (aM c.o)).2 = true
    · have e : cg s w (aM c.o) = ((cg (sentG c w s) w (aM c.o)).1, (nC s w (aM c.o)).1 :: (cg (sentG c w s) w (aM c.o)).2) := by
        rw [cg, dif_pos hn]; rfl
      rw [e] at h ⊢
      simp only [List.map_cons, List.cons.injEq] at h
      exact ⟨hn, h.1.symm, h.2, rfl⟩
    · rw [cg, dif_neg hn] at h; simp at h
theorem flags_of (b f : Bool) : bj ((if b then 16 else 24) + (if f then 1 else 0)) 2 = false ∧ bj ((if b then 16 else 24) + (if f then 1 else 0)) 1 = f ∧ ac ((if b then 16 else 24) + (if f then 1 else 0)) 6 = true := by
  cases b <;> cases f <;> decide
theorem tupleOk_w {t : Tup} (h : dw t = true) : ac t.port 16 = true ∧ ac t.my 16 = true := by
  unfold dw at h; simp only [Bool.and_eq_true] at h; exact ⟨h.1.2, h.2⟩
theorem wordIn32 {x : Int} (h : 0 ≤ x ∧ x ≤ 4294967295) : ac x 32 = true := by
  unfold ac ci
  have e : (2 : Int) ^ (32 : Int).toNat - 1 = 4294967295 := by decide
  rw [e]; simp; omega
theorem wordIn16 {x : Int} (h : 0 ≤ x ∧ x ≤ 65535) : ac x 16 = true := by
  unfold ac ci
  have e : (2 : Int) ^ (16 : Int).toNat - 1 = 65535 := by decide
  rw [e]; simp; omega
theorem nextOf_in (s : Snd) : 0 ≤ ay s ∧ ay s ≤ 4294967295 := by unfold ay sA; omega
theorem rnext {c : Con} (h : aW c = true) : ac c.r.next 32 = true := by
  have := (conOk_iff.1 h).1.2.2.1
  unfold rO at this; simp only [Bool.and_eq_true] at this
  exact (rcvPre_iff.1 this.1).1
theorem next_len {s : Snd} {w m : Int} {c : Con} (h : (nC s w m).2 = true) : s.finSent = false ∧ sA (ay s) (bQ (ej c (nC s w m).1)) = ay (sO s (nC s w m).1) ∧
    aj (sO s (nC s w m).1) ≤ w ∧ s.sent ≤ (sO s (nC s w m).1).sent ∧ (nC s w m).1.text = s.data.extract s.sent.toNat (sO s (nC s w m).1).sent.toNat ∧ (sO s (nC s w m).1).sent = s.sent + ((nC s w m).1.text.size : Int) ∧ (nC s w m).1.seq = ay s := by
  obtain ⟨hs, hc, hne⟩ := next_ok h
  obtain ⟨e, hok⟩ := sent_next h
  obtain ⟨c0, c1, c2, c3, c4⟩ := fq (window := w) (mss := m) hs
  obtain ⟨b0, b1, b2, b3, b4, b5, b6, b7, b8, b9, b10⟩ := bt hs
  have ht := chunk_text (window := w) (mss := m) hs
  have hwd : fC s w = max 0 (max 0 (min w 1000000) - aj s) := rfl
  have hfs : s.finSent = false := by
    cases hq : s.finSent
    · rfl
    · have := b8 hq
      rcases hne with hn | hn
      · omega
      · unfold aw at hn; simp [hq] at hn
  have hf0 : aj s = s.sent := b9 hfs
  have hf1 : aj { s with sent := s.sent + az s w m, finSent := s.finSent || aw s w m } = s.sent + az s w m + (if aw s w m then 1 else 0) := by
    have hb := bt hok
    obtain ⟨d0, d1, d2, d3, d4, d5, d6, d7, d8, d9, d10⟩ := hb
    rw [hfs, Bool.false_or] at d8 d9 ⊢
    cases hq : aw s w m
    · have := d9 hq; simp only [hq] at this; rw [this]; simp
    · have := (d8 hq).2.2; simp only [hq] at this; rw [this]; simp
  have hlt : aw s w m = true → az s w m < fC s w := fun hq => by
    unfold aw at hq; simp only [Bool.and_eq_true, decide_eq_true_eq] at hq; exact hq.2.2.2.2
  refine ⟨hfs, ?_, ?_, ?_, ?_, ?_, by rw [hc]⟩
  · rw [e]; unfold ay; rw [hf1]
    rw [hc]; unfold bQ ej; simp only
    obtain ⟨f1, f2, -⟩ := flags_of (s.data.extract s.sent.toNat (s.sent + az s w m).toNat).toList.isEmpty (aw s w m)
    rw [f1, f2, ht, hf0]
    unfold sA
    cases hq : aw s w m <;> simp <;> omega
  · rw [e, hf1]
    cases hq : aw s w m
    · have : az s w m ≠ 0 := hne.resolve_right (by rw [hq]; simp)
      simp; omega
    · have := hlt hq; simp; omega
  · rw [e]; show s.sent ≤ s.sent + az s w m; omega
  · rw [e, hc]
  · rw [e, hc]; show s.sent + az s w m = _; rw [ht]; omega
structure PI (c : Con) (w : Int) (L : List Seg) (i : Nat) (s : Snd) : Prop where
  ok : aa s = true
  rest : L.drop i = (pq c w s).2
  last : (pq c w c.s).1 = (pq c w s).1
  data : s.data = c.s.data
  una : s.una = c.s.una
  from_ : c.s.sent ≤ s.sent
  win : i = 0 ∨ aj s ≤ w
theorem segOf_ok {c : Con} {s : Snd} {w m : Int} (hc : aW c = true) (hs : s.data.size ≤ 48) (h : (nC s w m).2 = true) : cr (ej c (nC s w m).1) = true := by
  obtain ⟨hq, e, -⟩ := next_ok h
  have ht : (nC s w m).1.text.size ≤ 48 := by rw [e]; show (s.data.extract _ _).size ≤ 48; rw [ByteArray.size_extract]; omega
  have hw := da c.r
  obtain ⟨⟨g1, g2, g3, g4, g5⟩, -, -⟩ := conOk_iff.1 hc
  obtain ⟨p1, p2⟩ := tupleOk_w g1
  unfold cr ej
  simp only [Bool.and_eq_true, decide_eq_true_eq]
  refine ⟨p2, p1, wordIn16 (by omega), ?_, rnext hc, (flags_of _ _).2.2, by decide, by omega⟩
  rw [e]; exact wordIn32 (nextOf_in s)
theorem PI.step {c : Con} {w : Int} {L : List Seg} {i : Nat} {s : Snd} {g : Seg} (h : PI c w L i s) (hc : aW c = true) (hg : L[i]? = some g) :
    PI c w L (i + 1) (sentG c w s) ∧ g.seq = ay s ∧ g.ack = c.r.next ∧ cr g = true ∧ sA (ay s) (bQ g) = ay (sentG c w s) ∧ g.body = s.data.extract s.sent.toNat (sentG c w s).sent.toNat ∧
    s.sent ≤ (sentG c w s).sent ∧ (sentG c w s).sent = s.sent + (g.body.size : Int) ∧ ay s = sA s.una s.sent := by
  have hd : L.drop i = g :: L.drop (i + 1) := by
    obtain ⟨hl, e⟩ := List.getElem?_eq_some_iff.1 hg
    rw [List.drop_eq_getElem_cons hl, e]
  obtain ⟨hn, hge, hL, h1⟩ := pq_cons (h.rest.symm.trans hd)
  obtain ⟨k1, k2, k3, k4, k5, k6, k7⟩ := next_len (c := c) hn
  obtain ⟨e, hok⟩ := sent_next hn
  have hG : sentG c w s = sO s (nC s w (aM c.o)).1 := rfl
  obtain ⟨b0, b1, b2, b3, b4, b5, b6, b7, b8, b9, b10⟩ := bt h.ok
  refine ⟨⟨by rw [hG, e]; exact hok, hL.symm, h.last.trans h1, by rw [hG, e]; exact h.data, by rw [hG, e]; exact h.una, Int.le_trans h.from_ k4, .inr k3⟩, by rw [hge]; exact k7, by rw [hge]; rfl, by rw [hge]; exact segOf_ok hc b2 hn, by rw [hge]; exact k2, by rw [hge]; exact k5, k4, by rw [hge]; exact k6, ?_⟩
  unfold ay; rw [b9 k1]
theorem ext_join (a : ByteArray) {i j k : Nat} (h1 : i ≤ j) (h2 : j ≤ k) (h3 : k ≤ a.size) : a.extract i j ++ a.extract j k = a.extract i k := by
  rw [ByteArray.extract_append_extract]; congr 1 <;> omega
theorem seqDiff_far {a f : Int} (h : 0 ≤ f ∧ f ≤ 1000) : au (sA a f) a = f := by unfold au sA; split <;> omega
theorem PI.more {c : Con} {w : Int} {L : List Seg} {i : Nat} {s : Snd} {g : Seg} {al : ByteArray} (h : PI c w L i s) (hc : aW c = true) (hg : L[i]? = some g) (ha : al = c.s.data.extract c.s.sent.toNat s.sent.toNat) :
    al ++ g.body = c.s.data.extract c.s.sent.toNat (sentG c w s).sent.toNat := by
  obtain ⟨h1, -, -, -, -, hb, hle, -, -⟩ := h.step hc hg
  have b := bt h.ok; have d := bt h1.ok
  have hf := h.from_; have b0 := bt (conOk_s hc)
  have e1 := h.data; have e2 := h1.data
  rw [ha, hb, e1]
  refine ext_join _ (by omega) (by omega) (by rw [← e2]; omega)
theorem PI.bd {c : Con} {w : Int} {L : List Seg} {i : Nat} {s : Snd} (h : PI c w L i s) (hc : aW c = true) : 0 ≤ c.s.sent ∧ c.s.sent ≤ s.sent ∧ s.sent ≤ (c.s.data.size : Int) ∧ c.s.data.size ≤ 48 := by
  have b := bt h.ok; have b0 := bt (conOk_s hc); have e1 := h.data; have hf := h.from_
  rw [e1] at b
  omega
def left (c : Con) : Int := if c.state = 7 then (if c.timer = 0 then 4 else c.timer) else (3 - c.tries) * 3 + (if c.timer = 0 then 3 else c.timer)
def again (c : Con) : Con := { c with s := aK c.s, timer := c.timer - 1, tries := c.tries + 1 }
theorem le03 : (0 : Int) ≤ 0 ∧ (0 : Int) ≤ 3 := by decide
end
/- Plain laws: a receiver stays right, and what it has is only made longer (no program in sight). -/
section
open Go.RowKit
set_option linter.unusedVariables false
theorem putText_far {l : List Int} {off : Nat} {t : ByteArray} : ∀ (k : Nat) {j : Nat}, off + k ≤ j → (fK l off t k)[j]? = l[j]?
  | 0, _, _ => rfl
  | k + 1, j, h => by
    simp only [fK]; rw [List.getElem?_set_ne (by omega)]; exact putText_far k (by omega)
theorem putHeld_far {m : Int} : ∀ (ps : List Pce) {e : Int} {l : List Int} {j : Nat}, 0 ≤ e → cl m e ps = true → m ≤ (j : Int) → (et l ps)[j]? = l[j]?
  | [], _, _, _, _, _, _ => rfl
  | p :: ps, e, l, j, he, h, hj => by
    simp only [cl, Bool.and_eq_true, decide_eq_true_eq] at h
    simp only [et]
    rw [putHeld_far ps (by omega) h.2.2.2 hj, putText_far _ (by omega)]
theorem textN_far {r : Rcv} {seq : Int} {t : ByteArray} {l : List Int} {j : Nat} (h : wO r ≤ (j : Int) ∨ (0 ≤ r.fin ∧ r.fin ≤ (j : Int))) : ∀ k, (fw r seq t l k)[j]? = l[j]?
  | 0 => rfl
  | k + 1 => by
    simp only [fw]; rw [dR]
    split
    · rename_i hc
      rw [List.getElem?_set_ne (by omega)]; exact textN_far h k
    · exact textN_far h k
theorem rep33 {j : Nat} (h : j < 33) : (List.replicate 33 (-1 : Int))[j]? = some (-1) := by rw [List.getElem?_replicate, if_pos h]
theorem allIn_far {r : Rcv} {seq : Int} {t : ByteArray} (hr : rO r = true) {j : Nat} (hj : j < 33) (h : wO r ≤ (j : Int) ∨ (0 ≤ r.fin ∧ r.fin ≤ (j : Int))) : (cY r seq t)[j]? = some (-1) := by
  unfold cY; rw [textN_far h]
  unfold aL
  obtain ⟨hf0, hf1, hf2, hf3, hf4, hheld⟩ := iu hr
  rw [putHeld_far r.held (Int.le_refl 0) (rok_held hr) (by split <;> omega)]
  exact rep33 hj
theorem filled_lt {l : List Int} {k : Nat} {x : Int} (hx : l[k]? = some x) (hn : x < 0) : cQ l ≤ k := by
  unfold cQ
  induction l generalizing k with
  | nil => simp at hx
  | cons a l ih =>
    rw [List.takeWhile_cons]
    split
    · rename_i ha
      cases k with
      | zero => simp only [List.getElem?_cons_zero, Option.some.injEq] at hx; simp only [decide_eq_true_eq] at ha; omega
      | succ k => simp only [List.getElem?_cons_succ] at hx; rw [List.length_cons]; have := ih hx; omega
    · simp
theorem filled_in {l : List Int} {k : Nat} (hk : k < cQ l) : ∃ x, l[k]? = some x ∧ 0 ≤ x := by
  unfold cQ at hk
  induction l generalizing k with
  | nil => simp at hk
  | cons a l ih =>
    rw [List.takeWhile_cons] at hk
    split at hk
    · rename_i ha
      cases k with
      | zero => exact ⟨a, rfl, by simpa using ha⟩
      | succ k => rw [List.length_cons] at hk; exact ih (by omega)
    · simp at hk
theorem filled_at {l : List Int} (h : cQ l < l.length) : ∃ x, l[cQ l]? = some x ∧ x < 0 := by
  unfold cQ at h ⊢
  induction l with
  | nil => simp at h
  | cons a l ih =>
    rw [List.takeWhile_cons] at h ⊢
    split
    · rename_i ha
      rw [if_pos ha] at h
      rw [List.length_cons] at h ⊢; simp only [List.getElem?_cons_succ]
      exact ih (by simpa using h)
    · rename_i ha
      exact ⟨a, rfl, by simpa using ha⟩
theorem filled_win {r : Rcv} {seq : Int} {t : ByteArray} (hr : rO r = true) : (cQ (cY r seq t) : Int) ≤ wO r := by
  have hw := da r
  have := filled_lt (allIn_far (seq := seq) (t := t) hr (j := (wO r).toNat) (by omega) (.inl (by omega))) (by decide)
  omega
def endOf : Int → List Pce → Int
  | e, [] => e
  | _, p :: ps => endOf (p.off + (p.text.size : Int)) ps
theorem fO (p : Pce) : ∀ (l : List Pce) (e : Int), endOf e (l ++ [p]) = p.off + (p.text.size : Int)
  | [], _ => rfl
  | q :: l, e => by simp only [List.cons_append, endOf]; exact fO p l _
theorem fv (m : Int) (p : Pce) : ∀ (l : List Pce) (e : Int), cl m e (l ++ [p]) = (cl m e l && (!p.text.toList.isEmpty && (decide (endOf e l < p.off) && decide (p.off ≤ m - p.text.size))))
  | [], e => by simp [cl, endOf]; rfl
  | q :: l, e => by
    simp only [List.cons_append, cl, endOf]
    rw [fv m p l]
    simp only [Bool.and_assoc]; rfl
theorem nonempty_of {t : ByteArray} (h : 0 < t.size) : (!t.toList.isEmpty) = true := by
  cases hq : t.toList with
  | nil => have := toList_nil.1 hq; omega
  | cons a l => rfl
theorem addByte_ok {m : Int} {acc : List Pce} {j : Nat} {x : Int} (h : cl m 0 acc = true) (he : endOf 0 acc ≤ (j : Int)) (h0 : acc = [] → 0 < j) (hj : (j : Int) < m) :
    cl m 0 (dP acc j x) = true ∧ endOf 0 (dP acc j x) ≤ ((j + 1 : Nat) : Int) ∧ dP acc j x ≠ [] := by
  have hs1 : (am [x]).size = 1 := gL [x]
  rcases List.eq_nil_or_concat acc with rfl | ⟨l, p, rfl⟩
  · rw [hX rfl]
    refine ⟨?_, ?_, by simp⟩
    · rw [fv, nonempty_of (by simp only; omega)]
      have := h0 rfl
      simp only [endOf, cl, Bool.true_and, Bool.and_eq_true, decide_eq_true_eq]; refine ⟨decide_eq_true (show (0 : Int) < (j : Int) by omega), ?_⟩
      show (j : Int) ≤ m - ((am [x]).size : Int); omega
    · rw [fO]; simp only; omega
  · rw [List.concat_eq_append] at *
    rw [fO] at he
    rw [fv] at h
    simp only [Bool.and_eq_true, decide_eq_true_eq] at h
    by_cases ht : p.off + (p.text.size : Int) = (j : Int)
    · rw [gI (p := p) (by simp) ht]
      have e : (l ++ [p]).set ((l ++ [p]).length - 1) ⟨p.off, p.text ++ am [x]⟩ = l ++ [⟨p.off, p.text ++ am [x]⟩] := by simp
      rw [e]
      refine ⟨?_, ?_, by simp⟩
      · rw [fv, nonempty_of (by simp only; rw [ByteArray.size_append]; omega), h.1]
        simp only [Bool.true_and, Bool.and_eq_true, decide_eq_true_eq]; rw [ByteArray.size_append]; omega
      · rw [fO]; simp only; rw [ByteArray.size_append]; omega
    · rw [gB (p := p) (by simp) ht]
      refine ⟨?_, ?_, by simp⟩
      · rw [fv, nonempty_of (by simp only; omega), fO, fv, h.1, h.2.1]
        simp only [Bool.true_and, Bool.and_eq_true, decide_eq_true_eq]; omega
      · rw [fO]; simp only; omega
theorem pcs_ok {m : Int} : ∀ (l : List Int) {acc : List Pce} {j : Nat}, cl m 0 acc = true → endOf 0 acc ≤ (j : Int) → (acc = [] → 0 < j) → (∀ (k : Nat) x, l[k]? = some x → 0 ≤ x → ((j + k : Nat) : Int) < m) → cl m 0 (fl acc j l) = true
  | [], _, _, h, _, _, _ => h
  | x :: l, acc, j, h, he, h0, hk => by
    have hk' : ∀ (k : Nat) y, l[k]? = some y → 0 ≤ y → ((j + 1 + k : Nat) : Int) < m := fun k y hy hy0 => by
      have := hk (k + 1) y hy hy0; omega
    rw [fl]
    split
    · exact pcs_ok l h (by omega) (fun _ => by omega) hk'
    · rename_i hx
      obtain ⟨g1, g2, g3⟩ := addByte_ok (x := x) h he h0 (by have := hk 0 x rfl (by omega); omega)
      exact pcs_ok l g1 (by omega) (fun e => absurd e g3) hk'
theorem rest_ok {m : Int} {sl : List Int} (hm : 0 ≤ m) (h : ∀ (j : Nat) x, sl[j]? = some x → 0 ≤ x → cQ sl ≤ j → (j : Int) < m + cQ sl) : cl m 0 (fl [] 0 (sl.drop (cQ sl))) = true := by
  rcases Nat.lt_or_ge (cQ sl) sl.length with hl | hl
  · obtain ⟨x, hx, hn⟩ := filled_at hl
    have e : sl.drop (cQ sl) = x :: sl.drop (cQ sl + 1) := by
      obtain ⟨h1, h2⟩ := List.getElem?_eq_some_iff.1 hx
      rw [List.drop_eq_getElem_cons h1, h2]
    rw [e, fl, if_pos hn]
    refine pcs_ok _ rfl (by simp [endOf]) (fun _ => by omega) fun k y hy h0 => ?_
    rw [List.getElem?_drop] at hy
    have := h _ y hy h0 (by omega); omega
  · rw [List.drop_eq_nil_of_le hl]; rfl
theorem pcs_none {acc : List Pce} {l : List Int} {j : Nat} (h : ∀ x ∈ l, x < 0) : fl acc j l = acc := pcs_neg acc l j h
theorem finIn_cases (r : Rcv) (seq : Int) (t : ByteArray) (fin : Bool) : dm r seq t fin = r.fin ∨ (r.fin < 0 ∧ dm r seq t fin = (c6 r seq t.size : Int) ∧ (c6 r seq t.size : Int) ≤ wO r ∧ dv (cY r seq t) (c6 r seq t.size) = true) := by
  unfold dm; split
  · rename_i h; simp only [Bool.and_eq_true, decide_eq_true_eq] at h
    exact .inr ⟨h.2.1, rfl, h.2.2.1, h.2.2.2⟩
  · exact .inl rfl
theorem fin_far {r : Rcv} {seq : Int} {t : ByteArray} {fin : Bool} (hr : rO r = true) (hf : 0 ≤ dm r seq t fin) {j : Nat} {x : Int} (hx : (cY r seq t)[j]? = some x) (h0 : 0 ≤ x) : (j : Int) < dm r seq t fin := by
  have hj : j < 33 := by have := (List.getElem?_eq_some_iff.1 hx).1; rw [allIn_len] at this; exact this
  rcases finIn_cases r seq t fin with e | ⟨h1, e, h2, h3⟩
  · rcases Int.lt_or_le (j : Int) (dm r seq t fin) with h | h
    · exact h
    · rw [allIn_far hr hj (.inr ⟨by omega, by omega⟩)] at hx
      simp only [Option.some.injEq] at hx; omega
  · rcases Int.lt_or_le (j : Int) (dm r seq t fin) with h | h
    · exact h
    · unfold dv at h3; rw [List.all_eq_true] at h3
      have : x ∈ (cY r seq t).drop (c6 r seq t.size) := List.mem_of_getElem? (i := j - c6 r seq t.size) (by rw [List.getElem?_drop, show c6 r seq t.size + (j - c6 r seq t.size) = j by omega]; exact hx)
      have := h3 x this; simp only [decide_eq_true_eq] at this; omega
theorem win_far {r : Rcv} {seq : Int} {t : ByteArray} (hr : rO r = true) {j : Nat} {x : Int} (hx : (cY r seq t)[j]? = some x) (h0 : 0 ≤ x) : (j : Int) < wO r := by
  have hj : j < 33 := by have := (List.getElem?_eq_some_iff.1 hx).1; rw [allIn_len] at this; exact this
  rcases Int.lt_or_le (j : Int) (wO r) with h | h
  · exact h
  · rw [allIn_far hr hj (.inl h)] at hx
    simp only [Option.some.injEq] at hx; omega
theorem word32w {x : Int} (h : 0 ≤ x ∧ x ≤ 4294967295) : ac x 32 = true := by
  unfold ac ci
  have e : (2 : Int) ^ (32 : Int).toNat - 1 = 4294967295 := by decide
  rw [e]; simp; omega
theorem rok_mk {r : Rcv} (h1 : 0 ≤ r.next ∧ r.next ≤ 4294967295) (h2 : r.data.size ≤ 32) (h3 : r.held.length ≤ 3) (h4 : -1 ≤ r.fin ∧ r.fin ≤ wO r) (h5 : r.fin ≠ 0) (h6 : cl (if r.fin = -1 then wO r else r.fin) 0 r.held = true) (h7 : r.done = true → r.held = [] ∧ r.fin = -1) : rO r = true := by
  unfold rO
  rw [rcvPre_iff.2 ⟨word32w h1, h2, h3, inB_tt.2 h4, h5⟩, h6]
  unfold bD
  cases hd : r.done
  · rfl
  · obtain ⟨e1, e2⟩ := h7 hd
    simp [e1, e2]
theorem arrived_ways {r : Rcv} (seq : Int) (t : ByteArray) (fin : Bool) (hr : rO r = true) :
    av r seq t fin = r ∨ (r.done = false ∧ ∃ n : Nat, n = cQ (cY r seq t) ∧ (n : Int) ≤ wO r ∧ (fl [] 0 ((cY r seq t).drop n)).length ≤ 3 ∧
      ((eJ r seq t fin = 0 ∧ av r seq t fin = ⟨sA (sA r.next n) 1, r.data ++ am ((cY r seq t).take n), fl [] 0 ((cY r seq t).drop n), -1, true⟩) ∨
       (eJ r seq t fin ≠ 0 ∧ av r seq t fin = ⟨sA r.next n, r.data ++ am ((cY r seq t).take n), fl [] 0 ((cY r seq t).drop n), eJ r seq t fin, false⟩))) := by
  have hw := filled_win (seq := seq) (t := t) hr
  unfold av
  cases hd : r.done with
  | true => left; rw [if_neg (by simp)]
  | false =>
    rw [if_pos (by rw [hr]; rfl)]
    split
    · left; rfl
    · right
      refine ⟨rfl, _, rfl, hw, by omega, ?_⟩
      split
      · rename_i h; exact .inl ⟨h, rfl⟩
      · rename_i h; exact .inr ⟨h, rfl⟩
theorem app_left (a b : ByteArray) : (a ++ b).extract 0 a.size = a := bytes_ext (by simp [← ByteArray.size_data])
theorem filled_fin {r : Rcv} {seq : Int} {t : ByteArray} {fin : Bool} (hr : rO r = true) (hf : 0 ≤ dm r seq t fin) : (cQ (cY r seq t) : Int) ≤ dm r seq t fin := by
  cases hn : cQ (cY r seq t) with
  | zero => omega
  | succ k =>
    obtain ⟨x, hx, h0⟩ := filled_in (l := cY r seq t) (k := k) (by omega)
    have := fin_far hr hf hx h0; omega
theorem win_less {r : Rcv} {n : Nat} {d : ByteArray} {h : List Pce} {nx f : Int} (hd : r.done = false) (hn : (n : Int) ≤ wO r) (hs : d.size = r.data.size + n) : wO ⟨nx, d, h, f, false⟩ = wO r - n := by
  unfold wO at hn ⊢; rw [hd] at hn ⊢
  simp only [Bool.false_eq_true, if_false] at hn ⊢
  rw [hs]; omega
theorem size_more {r : Rcv} {sl : List Int} {n : Nat} (h : n ≤ sl.length) : (r.data ++ am (sl.take n)).size = r.data.size + n := by
  rw [ByteArray.size_append, gL, List.length_take, Nat.min_eq_left h]
theorem arrived_facts {r : Rcv} (seq : Int) (t : ByteArray) (fin : Bool) (hr : rO r = true) :
    rO (av r seq t fin) = true ∧ (r.data.size ≤ (av r seq t fin).data.size) ∧ (av r seq t fin).data.size ≤ 32 ∧ (av r seq t fin).data.extract 0 r.data.size = r.data ∧
    sA r.next (((av r seq t fin).data.size : Int) - (r.data.size : Int) + (if (av r seq t fin).done && !r.done then 1 else 0)) = (av r seq t fin).next ∧ wO (av r seq t fin) ≤ wO r := by
  obtain ⟨hf0, hf1, hf2, hf3, hf4, hheld⟩ := iu hr
  rcases arrived_ways seq t fin hr with e | ⟨hd, n, hn, hnw, hl3, hways⟩
  · rw [e]
    refine ⟨hr, Nat.le_refl _, hf0, by rw [ByteArray.extract_zero_size], ?_, Int.le_refl _⟩
    rw [if_neg (by cases r.done <;> simp)]; unfold sA; omega
  · have hw := da r
    have hal := allIn_len r seq t
    have hs := size_more (r := r) (sl := cY r seq t) (n := n) (by omega)
    have hws : (r.data.size : Int) + n ≤ 32 := by unfold wO at hnw; rw [hd] at hnw; simp only [Bool.false_eq_true, if_false] at hnw; omega
    have hfo : eJ r seq t fin = if 0 ≤ dm r seq t fin then dm r seq t fin - (n : Int) else dm r seq t fin := by unfold eJ; rw [hn]
    have hfb := finIn_bd (seq := seq) (t := t) (fin := fin) hf3
    rcases hways with ⟨h0, e⟩ | ⟨h0, e⟩
    · rw [e]
      have hfi : 0 ≤ dm r seq t fin ∧ dm r seq t fin = n := by rw [hfo] at h0; split at h0 <;> omega
      have hnil : fl [] 0 ((cY r seq t).drop n) = [] := pcs_none fun x hx => by
        obtain ⟨i, hi⟩ := List.getElem?_of_mem hx
        rw [List.getElem?_drop] at hi
        rcases Int.lt_or_le x 0 with h | h
        · exact h
        · have := fin_far hr hfi.1 hi h; omega
      rw [hnil]
      refine ⟨rok_mk (gi _ _) (by simp only; omega) (by simp) ⟨by simp, ?_⟩ (by simp) rfl (fun _ => ⟨rfl, rfl⟩), by simp only; omega, by simp only; omega, app_left _ _, ?_, ?_⟩
      · unfold wO; simp
      · simp only [hs, hd]; unfold sA; simp; omega
      · unfold wO; simp only [if_true]; split <;> omega
    · rw [e]
      have hwx := win_less (r := r) (n := n) (h := fl [] 0 ((cY r seq t).drop n)) (nx := sA r.next n) (f := eJ r seq t fin) hd hnw hs
      have hfw : dm r seq t fin ≤ wO r := by
        rcases finIn_cases r seq t fin with q | ⟨-, q, q2, -⟩ <;> omega
      have hff : 0 ≤ dm r seq t fin → (n : Int) ≤ dm r seq t fin := fun q => by rw [hn]; exact filled_fin hr q
      have hin : ∀ (j : Nat) x, (cY r seq t)[j]? = some x → 0 ≤ x → cQ (cY r seq t) ≤ j → (j : Int) < (if eJ r seq t fin = -1 then wO r - (n : Int) else eJ r seq t fin) + (cQ (cY r seq t) : Int) := fun j x hx hx0 _ => by
        rw [← hn]
        split
        · have := win_far hr hx hx0; omega
        · rename_i hne
          have h1 : 0 ≤ dm r seq t fin := by rw [hfo] at hne; split at hne <;> omega
          have := fin_far hr h1 hx hx0
          rw [hfo, if_pos h1]; omega
      refine ⟨rok_mk (gi _ _) (by simp only; omega) hl3 ⟨?_, ?_⟩ h0 ?_ (fun q => by cases q), by simp only; omega, by simp only; omega, app_left _ _, ?_, by rw [hwx]; omega⟩
      · simp only; rw [hfo]; split <;> omega
      · rw [hwx]; simp only; rw [hfo]; split
        · omega
        · omega
      · rw [hwx]; simp only
        rw [hn] at hin ⊢
        exact rest_ok (by split <;> omega) hin
      · simp only [hs, hd]; unfold sA; simp; omega
end
/- Plain laws: what is heard, and a8 (no program in sight). -/
section
open Go.RowKit
set_option linter.unusedVariables false
theorem seqDiff_self (a : Int) : au a a = 0 := by unfold au; rw [Int.sub_self]; rfl
theorem acked_ok {s : Snd} {ack : Int} (h : aa s = true) : aa (ae s ack).1 = true ∧ (ae s ack).1.fin = s.fin ∧ ((ae s ack).1.done = true → s.done = true ∨ s.fin = true) ∧ (s.done = true → (ae s ack).1.done = true) ∧ 0 ≤ au (ae s ack).1.una s.una := by
  obtain ⟨b0, b1, b2, b3, b4, b5, b6, b7, b8, b9, b10⟩ := bt h
  have h0 := h
  unfold ae
  split
  · rename_i hc
    simp only [Bool.and_eq_true] at hc
    have hn := inB_tt.1 hc.2
    have hu := gi s.una (au ack s.una)
    have hsd : 0 ≤ au (sA s.una (au ack s.una)) s.una := by rw [seqDiff_far (by omega)]; omega
    unfold aa at h
    simp only [Bool.and_eq_true, decide_eq_true_eq, Bool.or_eq_true, Bool.not_eq_true', ci] at h
    obtain ⟨⟨⟨⟨g1, g2⟩, g3⟩, g4⟩, g5⟩ := h
    split
    · rename_i hs
      have hfs : s.finSent = true := by
        cases hq : s.finSent
        · have := b9 hq; omega
        · rfl
      obtain ⟨q1, q2, q3⟩ := b8 hfs
      have hsz : (s.data.extract s.sent.toNat s.data.size).size = 0 := by rw [ByteArray.size_extract]; omega
      refine ⟨?_, rfl, fun _ => .inr q1, fun _ => rfl, hsd⟩
      unfold aa
      rw [word32w hu, toList_nil.2 hsz, hsz, q1]
      simp [ci]
    · rename_i hs
      have hsz : (s.data.extract (au ack s.una).toNat s.data.size).size = s.data.size - (au ack s.una).toNat := by rw [ByteArray.size_extract]; omega
      refine ⟨?_, rfl, fun q => .inl q, fun q => q, hsd⟩
      unfold aa
      rw [word32w hu]
      simp only [Bool.true_and, Bool.and_eq_true, decide_eq_true_eq, Bool.or_eq_true, Bool.not_eq_true', ci]
      refine ⟨⟨⟨by omega, by omega, by omega⟩, ?_⟩, ?_⟩
      · rcases g4 with g4 | g4
        · exact .inl g4
        · exact .inr ⟨g4.1, by omega⟩
      · rcases g5 with g5 | g5
        · exact .inl g5
        · right
          refine ⟨g5.1, ?_⟩
          have hz := toList_nil.1 (List.isEmpty_iff.1 g5.2)
          rw [toList_nil.2 (by omega)]; rfl
  · exact ⟨h0, rfl, fun q => .inl q, fun q => q, by rw [seqDiff_self]; omega⟩
def fitsB (k : Int) (f d r : Bool) : Bool := if k = 8 then true else ((f == decide (k ≠ 1 ∧ k ≠ 4)) && ((d == decide (k = 3 ∨ k = 7)) && (r == decide (k = 4 ∨ 5 ≤ k))))
theorem fits_ts {k : Int} {f d r d' r' : Bool} (hk : 1 ≤ k ∧ k ≤ 8) (h : fitsB k f d r = true) (h1 : d = true → d' = true) (h2 : r = true → r' = true) (h3 : d' = true → d = true ∨ f = true) (h4 : r' = true → r = true ∨ k ≤ 3) : fitsB (ts k d' r') f d' r' = true := by
  have hk8 : k = 1 ∨ k = 2 ∨ k = 3 ∨ k = 4 ∨ k = 5 ∨ k = 6 ∨ k = 7 ∨ k = 8 := by omega
  rcases hk8 with e | e | e | e | e | e | e | e <;> subst e <;> revert h h1 h2 h3 h4 <;> cases f <;> cases d <;> cases r <;> cases d' <;> cases r' <;> decide
theorem ts_rng {k : Int} {d r : Bool} (hk : 1 ≤ k ∧ k ≤ 8) : 1 ≤ ts k d r ∧ ts k d r ≤ 8 := by unfold ts; (repeat' split) <;> omega
theorem turned_ok {c M : Con} (hc : aW c = true) (h8 : ¬ c.state = 8) (e1 : M.t = c.t) (e2 : M.o = c.o) (e3 : M.state = c.state) (hs : aa M.s = true) (hr : rO M.r = true) (hfin : M.s.fin = c.s.fin)
    (hd1 : c.s.done = true → M.s.done = true) (hd2 : M.s.done = true → c.s.done = true ∨ c.s.fin = true) (hr1 : c.r.done = true → M.r.done = true) (hr2 : M.r.done = true → c.r.done = true ∨ c.state ≤ 3)
    (hm : 0 ≤ M.most ∧ M.most ≤ 1073725440) (hw : 0 ≤ M.window ∧ M.window ≤ M.most) (ht : 0 ≤ M.timer ∧ M.timer ≤ (if c.state = 7 then 4 else 3)) (hy : 0 ≤ M.tries ∧ M.tries ≤ 3) : aW (aE M) = true := by
  obtain ⟨⟨g1, g2, g3, g4, g5⟩, ⟨m1, m2, m3, m4⟩, g6⟩ := conOk_iff.1 hc
  have hf0 : fitsB c.state c.s.fin c.s.done c.r.done = true := g6
  have hf := fits_ts g5 hf0 hd1 hr1 hd2 hr2
  have hrg := ts_rng (d := M.s.done) (r := M.r.done) g5
  have hts : tS M = ts c.state M.s.done M.r.done := by rw [ts_eq, e3]
  have hfit : ∀ {X : Con}, X.state = tS M → X.s = M.s → X.r = M.r → aC X = true := fun {X} q1 q2 q3 => by
    have : aC X = fitsB X.state X.s.fin X.s.done X.r.done := rfl
    rw [this, q1, q2, q3, hts, hfin]; exact hf
  have hmk : ∀ {X : Con}, X.t = M.t → X.s = M.s → X.r = M.r → X.o = M.o → X.most = M.most → X.window = M.window → X.state = tS M → 0 ≤ X.timer ∧ X.timer ≤ (if X.state = 7 then 4 else 3) → 0 ≤ X.tries ∧ X.tries ≤ 3 → aW X = true := fun {X} q1 q2 q3 q4 q5 q6 q7 q8 q9 =>
    conOk_iff.2 ⟨⟨by rw [q1, e1]; exact g1, by rw [q2]; exact hs, by rw [q3]; exact hr, by rw [q4, e2]; exact g4, by rw [q7, hts]; exact hrg⟩, ⟨by rw [q5]; exact hm, by rw [q6, q5]; exact hw, q8, q9⟩, hfit q7 q2 q3⟩
  unfold aE
  split
  · rename_i he
    exact hmk rfl rfl rfl rfl rfl rfl he.symm (by rw [e3]; exact ht) hy
  · rename_i hne
    have h7 : ¬ c.state = 7 := fun q => hne (by rw [hts, e3, q]; rfl)
    rw [if_neg h7] at ht
    rw [if_pos (by
      rw [hmk (X := { M with state := tS M, timer := 0 }) rfl rfl rfl rfl rfl rfl rfl ⟨Int.le_refl _, by show (0 : Int) ≤ (if tS M = 7 then 4 else 3); split <;> omega⟩ hy, inB_tt.2 ⟨ht.1, by omega⟩]; rfl)]
    split
    · rename_i q; exact hmk rfl rfl rfl rfl rfl rfl q.symm ⟨(show (0 : Int) ≤ 4 by decide), (show (4 : Int) ≤ (if (7 : Int) = 7 then 4 else 3) by decide)⟩ le03
    · split
      · rename_i q; exact hmk rfl rfl rfl rfl rfl rfl q.symm ⟨Int.le_refl _, (show (0 : Int) ≤ (if (8 : Int) = 7 then 4 else 3) by decide)⟩ le03
      · exact hmk rfl rfl rfl rfl rfl rfl rfl ⟨ht.1, by show M.timer ≤ (if tS M = 7 then 4 else 3); split <;> omega⟩ hy
theorem heardR_ok {c : Con} {g : Seg} (hc : aW c = true) : rO (cW c g) = true ∧ (c.r.done = true → (cW c g).done = true) ∧ ((cW c g).done = true → c.r.done = true ∨ c.state ≤ 3) ∧ c.r.data.size ≤ (cW c g).data.size ∧ (cW c g).data.extract 0 c.r.data.size = c.r.data ∧ 0 ≤ au (cW c g).next c.r.next := by
  obtain ⟨⟨g1, g2, g3, g4, g5⟩, -, -⟩ := conOk_iff.1 hc
  unfold cW
  split
  · rename_i hi
    have hi' := inB_tt.1 hi
    obtain ⟨a1, a2, a3, a4, a5, a6⟩ := arrived_facts g.seq g.body (bj g.flags 1) g3
    refine ⟨a1, fun q => ?_, fun _ => .inr (by omega), a2, a4, ?_⟩
    · unfold av; rw [if_neg (by rw [q]; simp)]; exact q
    · rw [← a5, seqDiff_far (by split <;> omega)]; split <;> omega
  · exact ⟨g3, fun q => q, fun q => .inl q, Nat.le_refl _, by rw [ByteArray.extract_zero_size], by rw [seqDiff_self]; omega⟩
theorem heardMid_bd {c : Con} {g : Seg} (hc : aW c = true) (hg : cr g = true) : (0 ≤ (bm c g).most ∧ (bm c g).most ≤ 1073725440) ∧ (0 ≤ (bm c g).window ∧ (bm c g).window ≤ (bm c g).most) ∧
    (0 ≤ (bm c g).timer ∧ (bm c g).timer ≤ (if c.state = 7 then 4 else 3)) ∧ (0 ≤ (bm c g).tries ∧ (bm c g).tries ≤ 3) ∧ c.most ≤ (bm c g).most ∧ ((bm c g).s = (ae c.s g.ack).1 ∨ (bm c g).s = c.s) := by
  obtain ⟨⟨g1, g2, g3, g4, g5⟩, ⟨m1, m2, m3, m4⟩, g6⟩ := conOk_iff.1 hc
  have hf := farW_bd (gF hg) g4
  unfold bm
  split
  · split
    · rename_i h7
      refine ⟨by simp only; omega, by simp only; omega, ?_, by simp only; omega, by simp only; omega, .inl rfl⟩
      simp only; rw [if_neg h7.2]; split <;> omega
    · exact ⟨by simp only; omega, by simp only; omega, m3, m4, by simp only; omega, .inl rfl⟩
  · exact ⟨m1, m2, m3, m4, Int.le_refl _, .inr rfl⟩
theorem heard_ok {c : Con} {g : Seg} (hv : a9 c g = 5) : aW (heard c g) = true := by
  obtain ⟨hc, h8, hg, -⟩ := gl hv
  obtain ⟨⟨g1, g2, g3, g4, g5⟩, -, -⟩ := conOk_iff.1 hc
  obtain ⟨r1, r2, r3, -⟩ := heardR_ok (g := g) hc
  obtain ⟨b1, b2, b3, b4, -, b6⟩ := heardMid_bd hc hg
  obtain ⟨q1, q2, q3, q4⟩ := heardMid_eq c g
  obtain ⟨k1, k2, k3, k4, -⟩ := acked_ok (ack := g.ack) g2
  unfold heard; rw [if_pos hv]
  have hS : aa (bm c g).s = true ∧ (bm c g).s.fin = c.s.fin ∧ (c.s.done = true → (bm c g).s.done = true) ∧ ((bm c g).s.done = true → c.s.done = true ∨ c.s.fin = true) := by
    rcases b6 with e | e <;> rw [e]
    · exact ⟨k1, k2, k4, k3⟩
    · exact ⟨g2, rfl, fun q => q, fun q => .inl q⟩
  exact turned_ok (M := { bm c g with r := cW c g }) hc h8 q2 q4 q3 hS.1 r1 hS.2.1 hS.2.2.1 hS.2.2.2 r2 r3 b1 b2 b3 b4
theorem rcd_v (c : Con) (g : Seg) : (a8 c g).2.2 = a9 c g := by
  have := eQ c g
  unfold a8; (repeat' split) <;> (simp only; omega)
theorem rcd_drop {c : Con} {g : Seg} (h : a9 c g = 1) : a8 c g = (c, [], 1) := by unfold a8; rw [if_pos h]
theorem rcd_reset {c : Con} {g : Seg} (h : a9 c g = 2) : (a8 c g).1.state = 8 ∧ (a8 c g).2.1 = [] := by unfold a8; rw [if_neg (by omega), if_pos h]; exact ⟨rfl, rfl⟩
theorem rcd_chal {c : Con} {g : Seg} (h : a9 c g = 3) : (a8 c g).1 = c ∧ (a8 c g).2.1.length = 1 := by unfold a8; rw [if_neg (by omega), if_neg (by omega), if_pos h]; exact ⟨rfl, rfl⟩
theorem rcd_ack {c : Con} {g : Seg} (h : a9 c g = 4) : (a8 c g).1.state = c.state ∧ (a8 c g).2.1.length = 1 ∧ (a8 c g).1.s = c.s ∧ (a8 c g).1.r = c.r := by
  unfold a8; rw [if_neg (by omega), if_neg (by omega), if_neg (by omega), if_pos h]
  split <;> exact ⟨rfl, rfl, rfl, rfl⟩
theorem i9 {c : Con} {g : Seg} (h : a9 c g = 5) : aW (a8 c g).1 = true := by
  unfold a8; rw [if_neg (by omega), if_neg (by omega), if_neg (by omega), if_neg (by omega)]
  have hk := heard_ok h
  unfold br; split
  · exact hk
  · exact pump_ok _ hk
theorem neq_of {a b : Int} (h : ¬ a = b) (e : a = b) : False := h e
end
end Go.Proofs.YtebgmdiejgcoiaaGreat
