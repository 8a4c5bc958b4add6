/- Plain definitions, the machine and its rules: what this law's contracts need of them, part 2. -/
import Derived.Test.YtccijpdjfelbmaaG1
import Derived.ArgAppend
/- Plain laws: tables of connections (no program in sight). -/
namespace Go.Proofs.Ytccijpdjfelbmaa
section
open Go.RowKit
def pl (cs : List CV) : List Con := cs.map (·.1)
def bO (c : Con) : Prop := True ∧ c.r.data.size ≤ 1048576 ∧ c.r.held.length ≤ 1048576 ∧ ∀ p ∈ c.r.held, p.text.size ≤ 1048576
def bS (t : Tab) (x : Tup) : Int := idxOf (t.conns.findIdx? (fun c => bG c.1.t x))
def eG (l : List Tup) (x : Tup) : Bool := l.any (fun y => bG y x)
def gy (l : List Tup) (x : Tup) : Int := idxOf (l.findIdx? (fun y => bG y x))
def allI {α : Type} (p : Nat → α → Bool) : List α → Nat → Bool
  | [], _ => true
  | x :: r, i => p i x && allI p r (i + 1)
def cOne (t : Tab) (i : Nat) (c : CV) : Bool := aE c.1 && decide (bS t c.1.t = (i : Int))
def wOne (t : Tab) (i : Nat) (x : Tup) : Bool := decide (0 ≤ bS t x) && decide (gy t.waiting x = (i : Int))
def bB (t : Tab) (l : Lim) : Bool := eN l && (decide ((t.conns.length : Int) ≤ l.conns) && (decide ((t.waiting.length : Int) ≤ l.waiting) && (allI (cOne t) t.conns 0 && allI (wOne t) t.waiting 0)))
theorem allI_no {α : Type} {p : Nat → α → Bool} : ∀ (r : List α) (i k : Nat) (x : α), r[k]? = some x → p (i + k) x = false → allI p r i = false
  | [], i, k, x, hk, _ => by simp at hk
  | y :: r, i, 0, x, hk, hh => by
    simp at hk; subst hk
    simp only [Nat.add_zero] at hh
    simp [allI, hh]
  | y :: r, i, k + 1, x, hk, hh => by
    have := allI_no r (i + 1) k x (by simpa using hk) (by rw [show i + 1 + k = i + (k + 1) by omega]; exact hh)
    simp [allI, this]
theorem allI_yes {α : Type} {p : Nat → α → Bool} : ∀ (r : List α) (i : Nat), (∀ (k : Nat) (x : α), r[k]? = some x → p (i + k) x = true) → allI p r i = true
  | [], _, _ => rfl
  | x :: r, i, hh => by
    have h0 := hh 0 x rfl
    simp only [Nat.add_zero] at h0
    have h1 := allI_yes r (i + 1) (fun k y hk => by rw [show i + 1 + k = i + (k + 1) by omega]; exact hh (k + 1) y (by simpa using hk))
    simp [allI, h0, h1]
theorem allI_one {α : Type} {p : Nat → α → Bool} {l : List α} {k : Nat} {x : α} (hx : l[k]? = some x) (h : p k x = false) : allI p l 0 = false := allI_no l 0 k x hx (by rw [Nat.zero_add]; exact h)
theorem allI_all {α : Type} {p : Nat → α → Bool} {l : List α} {k : Nat} (hk : k = l.length) (h : ∀ (i : Nat) (x : α), i < k → l[i]? = some x → p i x = true) : allI p l 0 = true :=
  allI_yes l 0 fun i x hi => by rw [Nat.zero_add]; exact h i x (by rw [hk]; exact (List.getElem?_eq_some_iff.1 hi).1) hi
theorem all_step {α : Type} {p : Nat → α → Bool} {l : List α} {k : Nat} {x : α} (hx : l[k]? = some x) (h : p k x = true) (hk : ∀ (i : Nat) (x : α), i < k → l[i]? = some x → p i x = true) : ∀ (i : Nat) (x : α), i < k + 1 → l[i]? = some x → p i x = true := fun i y hi hy => by
  rcases Nat.lt_succ_iff_lt_or_eq.1 hi with hi | rfl
  · exact hk i y hi hy
  · rw [hx] at hy; simp only [Option.some.injEq] at hy; subst hy; exact h
theorem no_step {α : Type} {p : α → Bool} {l : List α} {k : Nat} {x : α} (hx : l[k]? = some x) (h : p x = false) (hk : ∀ (i : Nat) (x : α), i < k → l[i]? = some x → p x = false) : ∀ (i : Nat) (x : α), i < k + 1 → l[i]? = some x → p x = false := fun i y hi hy => by
  rcases Nat.lt_succ_iff_lt_or_eq.1 hi with hi | rfl
  · exact hk i y hi hy
  · rw [hx] at hy; simp only [Option.some.injEq] at hy; subst hy; exact h
theorem findConn_eq {t : Tab} {x : Tup} {k : Nat} {c : CV} (hk : t.conns[k]? = some c) (hp : bG c.1.t x = true) (hno : ∀ (i : Nat) (h' : CV), i < k → t.conns[i]? = some h' → bG h'.1.t x = false) : bS t x = (k : Int) := by
  unfold bS; rw [findIdx_eq (p := fun c : CV => bG c.1.t x) hk hp hno]; rfl
theorem findConn_no {t : Tab} {x : Tup} {k : Nat} (hk : k = t.conns.length) (hno : ∀ (i : Nat) (h' : CV), i < k → t.conns[i]? = some h' → bG h'.1.t x = false) : bS t x = -1 := by
  unfold bS; rw [findIdx_no (p := fun c : CV => bG c.1.t x) fun i h' hh => hno i h' (by rw [hk]; exact (List.getElem?_eq_some_iff.1 hh).1) hh]; rfl
theorem isWait_yes {l : List Tup} {x y : Tup} {k : Nat} (hk : l[k]? = some y) (hp : bG y x = true) : eG l x = true := by
  unfold eG; rw [List.any_eq_true]; exact ⟨y, List.mem_of_getElem? hk, hp⟩
theorem isWait_no {l : List Tup} {x : Tup} {k : Nat} (hk : k = l.length) (hno : ∀ (i : Nat) (h' : Tup), i < k → l[i]? = some h' → bG h' x = false) : eG l x = false := by
  unfold eG; rw [List.any_eq_false]; intro y hy
  obtain ⟨i, hi⟩ := List.getElem?_of_mem hy
  rw [hno i y (by rw [hk]; exact (List.getElem?_eq_some_iff.1 hi).1) hi]; simp
theorem tupSelf (t : Tup) : bG t t = true := by simp [bG]
theorem isWait_pre {l : List Tup} {k : Nat} {x : Tup} (hx : l[k]? = some x) : eG (l.take k) x = true ↔ ¬ gy l x = (k : Int) := by
  obtain ⟨hlt, e⟩ := List.getElem?_eq_some_iff.1 hx
  cases hf : l.findIdx? (fun y => bG y x) with
  | none =>
    rw [List.findIdx?_eq_none_iff] at hf
    have := hf x (List.mem_of_getElem? hx)
    rw [tupSelf] at this; cases this
  | some j =>
    obtain ⟨h1, h2, h3⟩ := List.findIdx?_eq_some_iff_getElem.1 hf
    have e2 : gy l x = (j : Int) := by unfold gy idxOf; rw [hf]
    have hjk : j ≤ k := by
      rcases Nat.lt_or_ge k j with h | h
      · have := h3 k h; rw [e, tupSelf] at this; simp at this
      · exact h
    rw [e2]
    unfold eG
    rw [List.any_eq_true]
    constructor
    · rintro ⟨y, hy, hyx⟩ hjk2
      obtain ⟨i, hi, rfl⟩ := List.mem_take_iff_getElem.1 hy
      have := h3 i (by omega)
      rw [hyx] at this; simp at this
    · intro hne
      have hlt2 : j < k := by omega
      exact ⟨l[j], List.mem_take_iff_getElem.2 ⟨j, by omega, rfl⟩, h2⟩
theorem pl_len {a b : List CV} (h : pl a = pl b) : a.length = b.length := by
  have := congrArg List.length h; simpa [pl] using this
theorem pl_get {a b : List CV} (h : pl a = pl b) {i : Nat} {x : CV} (hx : a[i]? = some x) : ∃ v, b[i]? = some (x.1, v) := by
  have h1 : (pl a)[i]? = some x.1 := by unfold pl; rw [List.getElem?_map, hx]; rfl
  rw [h] at h1
  unfold pl at h1
  rw [List.getElem?_map] at h1
  cases hb : b[i]? with
  | none => rw [hb] at h1; cases h1
  | some y =>
    rw [hb] at h1
    simp only [Option.map_some, Option.some.injEq] at h1
    obtain ⟨c, v⟩ := y
    exact ⟨v, by simp only at h1; rw [h1]⟩
theorem pl_snoc {L a : List CV} {i : Nat} {x : CV} {v : Value} (h : pl L = (pl a).take i) (hx : a[i]? = some x) : pl (L ++ [(x.1, v)]) = (pl a).take (i + 1) := by
  have h1 : (pl a)[i]? = some x.1 := by unfold pl; rw [List.getElem?_map, hx]; rfl
  rw [List.take_add_one, h1]
  unfold pl at h ⊢
  rw [List.map_append, h]; rfl
theorem pl_take_len {L a : List CV} {i : Nat} (h : pl L = (pl a).take i) (hi : i ≤ a.length) : L.length = i := by
  have := congrArg List.length h
  unfold pl at this
  rw [List.length_map, List.length_take, List.length_map] at this; omega
theorem pl_take_all {L a : List CV} {i : Nat} (h : pl L = (pl a).take i) (hi : i = a.length) : pl L = pl a := by
  rw [h, hi]; unfold pl; rw [List.take_of_length_le (by simp)]
theorem findConn_pl {t t' : Tab} (h : pl t.conns = pl t'.conns) (x : Tup) : bS t x = bS t' x := by
  have key : ∀ s : Tab, bS s x = idxOf ((pl s.conns).findIdx? (fun c => bG c.t x)) := fun s => by
    unfold bS pl; rw [List.findIdx?_map]; rfl
  rw [key, key, h]
theorem gv {a b : List CV} (h : pl a = pl b) (hb : ∀ x ∈ b, bO x.1) : ∀ x ∈ a, bO x.1 := fun x hx => by
  obtain ⟨i, hi⟩ := List.getElem?_of_mem hx
  obtain ⟨v, hv⟩ := pl_get h hi
  exact hb (x.1, v) (List.mem_of_getElem? hv)
theorem tableOk_c {t : Tab} {l : Lim} {k : Nat} {x : CV} (hx : t.conns[k]? = some x) (h : cOne t k x = false) : bB t l = false := by
  unfold bB; rw [allI_one hx h]; simp
theorem tableOk_w {t : Tab} {l : Lim} {k : Nat} {x : Tup} (hx : t.waiting[k]? = some x) (h : wOne t k x = false) : bB t l = false := by
  unfold bB; rw [allI_one hx h]; simp
theorem dR {t : Tab} {l : Lim} {k : Nat} (hl : eN l = true) (h1 : ¬ (t.conns.length : Int) > l.conns) (h2 : ¬ (t.waiting.length : Int) > l.waiting) (hc : allI (cOne t) t.conns 0 = true) (hk : k = t.waiting.length) (hw : ∀ (i : Nat) (x : Tup), i < k → t.waiting[i]? = some x → wOne t i x = true) : bB t l = true := by
  unfold bB; rw [hl, hc, allI_all hk hw, decide_eq_true (by omega), decide_eq_true (by omega)]; rfl
theorem dS {t : Tab} {l : Lim} (h : eN l = false) : bB t l = false := by unfold bB; rw [h]; rfl
theorem dT {t : Tab} {l : Lim} (h : (t.conns.length : Int) > l.conns) : bB t l = false := by unfold bB; rw [decide_eq_false (p := (t.conns.length : Int) ≤ l.conns) (by omega)]; simp
theorem dg {t : Tab} {l : Lim} (h : (t.waiting.length : Int) > l.waiting) : bB t l = false := by unfold bB; rw [decide_eq_false (p := (t.waiting.length : Int) ≤ l.waiting) (by omega)]; simp
theorem wait_pre {l : List Tup} {k : Nat} {x : Tup} (hx : l[k]? = some x) : eG ((l.drop 0).take (k - 0)) x = !decide (gy l x = (k : Int)) := by
  rw [List.drop_zero, Nat.sub_zero]
  have h := isWait_pre hx
  by_cases e : gy l x = (k : Int)
  · rw [decide_eq_true e]
    cases hw : eG (l.take k) x
    · rfl
    · exact absurd e (h.1 hw)
  · rw [decide_eq_false e, h.2 e]; rfl
theorem cOne_no1 {t : Tab} {k : Nat} {x : CV} (h : aE x.1 = false) : cOne t k x = false := by unfold cOne; rw [h]; rfl
theorem cOne_no2 {t : Tab} {k : Nat} {x : CV} (h : ¬ bS t x.1.t = (k : Int)) : cOne t k x = false := by unfold cOne; rw [decide_eq_false h]; simp
theorem cOne_yes {t : Tab} {k : Nat} {x : CV} (h : aE x.1 = true) (h2 : bS t x.1.t = (k : Int)) : cOne t k x = true := by unfold cOne; rw [h, decide_eq_true h2]; rfl
theorem wOne_no1 {t : Tab} {k : Nat} {x : Tup} (h : bS t x < 0) : wOne t k x = false := by unfold wOne; rw [decide_eq_false (by omega)]; rfl
theorem wOne_no2 {t : Tab} {k : Nat} {x : Tup} (h : ¬ gy t.waiting x = (k : Int)) : wOne t k x = false := by unfold wOne; rw [decide_eq_false h]; simp
theorem wOne_yes {t : Tab} {k : Nat} {x : Tup} (h : ¬ bS t x < 0) (h2 : gy t.waiting x = (k : Int)) : wOne t k x = true := by unfold wOne; rw [decide_eq_true (by omega), decide_eq_true h2]; rfl
theorem allI_map {α β : Type} (f : α → β) {p : Nat → α → Bool} {q : Nat → β → Bool} (h : ∀ i x, p i x = q i (f x)) : ∀ (l : List α) (i : Nat), allI p l i = allI q (l.map f) i
  | [], _ => rfl
  | x :: l, i => by simp only [allI, List.map_cons]; rw [h, allI_map f h l]
def cOneP (f : Tup → Int) (i : Nat) (c : Con) : Bool := aE c && decide (f c.t = (i : Int))
def wOneP (f : Tup → Int) (l : List Tup) (i : Nat) (x : Tup) : Bool := decide (0 ≤ f x) && decide (gy l x = (i : Int))
theorem cOne_P (t : Tab) (i : Nat) (x : CV) : cOne t i x = cOneP (bS t) i x.1 := by unfold cOne cOneP; rfl
theorem wOne_P (t : Tab) : wOne t = wOneP (bS t) t.waiting := by funext i x; unfold wOne wOneP; rfl
theorem allC_P (t : Tab) : allI (cOne t) t.conns 0 = allI (cOneP (bS t)) (pl t.conns) 0 := allI_map (fun x : CV => x.1) (cOne_P t) t.conns 0
theorem tableOk_pl {t t' : Tab} (h : pl t.conns = pl t'.conns) (hw : t.waiting = t'.waiting) (l : Lim) : bB t l = bB t' l := by
  have hf : bS t = bS t' := funext (findConn_pl h)
  unfold bB; rw [allC_P, allC_P, wOne_P, wOne_P, hf, h, hw, pl_len h]
theorem sameL_pl (eq : Con → Con → Bool) (a b : List CV) : fF (fun x y : CV => eq x.1 y.1) a b = fF eq (pl a) (pl b) := by
  unfold fF pl
  rw [List.length_map, List.length_map]
  congr 2
  funext i
  rw [List.getElem?_map, List.getElem?_map]
  cases a[i]? <;> cases b[i]? <;> rfl
theorem pl_snocc (L : List CV) (c : Con) (v : Value) : pl (L ++ [(c, v)]) = pl L ++ [c] := by unfold pl; rw [List.map_append]; rfl
def okP (cs : List Con) (w : List Tup) (l : Lim) : Bool := bB ⟨cs.map fun c => (c, .slice none 0 0), w⟩ l
theorem pl_bare (cs : List Con) : pl (cs.map fun c => ((c, .slice none 0 0) : CV)) = cs := by unfold pl; rw [List.map_map]; exact List.map_id' cs
theorem tableOk_P (t : Tab) (l : Lim) : bB t l = okP (pl t.conns) t.waiting l := by
  unfold okP; exact tableOk_pl (t := t) (t' := ⟨(pl t.conns).map fun c => (c, .slice none 0 0), t.waiting⟩) (pl_bare _).symm rfl l
def putOk (t : Tab) (c : Con) (l : Lim) : Bool := okP (pl t.conns ++ [c]) (t.waiting ++ [c.t]) l
def putP (t : Tab) (c : Con) (l : Lim) : List Con := if putOk t c l then pl t.conns ++ [c] else pl t.conns
def fJ (t : Tab) (c : Con) (l : Lim) : List Tup := if putOk t c l then t.waiting ++ [c.t] else t.waiting
theorem put_ok {t : Tab} {c : Con} {l : Lim} {L : List CV} {v : Value} {W : List Tup} (h : pl L = pl t.conns) (hw : W = t.waiting ++ [c.t]) : bB ⟨L ++ [(c, v)], W⟩ l = putOk t c l := by
  rw [tableOk_P]; unfold putOk; simp only; rw [pl_snocc, h, hw]
theorem fit_snoc {L : List CV} {c : Con} {v : Value} (h : ∀ x ∈ L, bO x.1) (hc : bO c) : ∀ x ∈ L ++ [(c, v)], bO x.1 := fun x hx => by
  rcases List.mem_append.1 hx with hx | hx
  · exact h x hx
  · rw [List.mem_singleton] at hx; rw [hx]; exact hc
def cq (t : Tab) : List Tup := t.waiting.drop 1
theorem takeW_len (t : Tab) : t.waiting.length - 1 = (cq t).length := by unfold cq; rw [List.length_drop]
theorem fit_of {cs : List CV} {M : List Con} (h : pl cs = M) (hM : ∀ c ∈ M, bO c) : ∀ x ∈ cs, bO x.1 := fun x hx => hM _ (by rw [← h]; unfold pl; exact List.mem_map_of_mem hx)
theorem len_of {cs : List CV} {M : List Con} (h : pl cs = M) : cs.length = M.length := by rw [← h]; unfold pl; rw [List.length_map]
theorem pl_fit {cs : List CV} (h : ∀ x ∈ cs, bO x.1) : ∀ c ∈ pl cs, bO c := fun c hc => by
  unfold pl at hc
  obtain ⟨x, hx, rfl⟩ := List.mem_map.1 hc
  exact h x hx
theorem putP_fit {t : Tab} {c : Con} {l : Lim} (h : ∀ x ∈ t.conns, bO x.1) (hc : bO c) : ∀ x ∈ putP t c l, bO x := fun x hx => by
  unfold putP at hx
  split at hx
  · rcases List.mem_append.1 hx with h1 | h1
    · exact pl_fit h x h1
    · rw [List.mem_singleton] at h1; rw [h1]; exact hc
  · exact pl_fit h x hx
end
/- The machine: a row of the call's own, cut in place. -/
section
open Go.RowKit
set_option linter.unusedVariables false
set_option linter.unusedSimpArgs false
section
variable {P : Program} {n : Nat} {w0 : World} {QX : Exit → St → Prop} {st st' : St} {ops : Array Oper} {l : List Oper} {ρ : Nat → Nat} {σ : Nat → Nat × Nat} {a : Act}
theorem chgd_cells {w : World} {g o : Nat} {cs : List Value} {S : Nat → Prop} (hS : S g) : Chgd S w (w.setCells g o cs) := by
  obtain ⟨h1, h2, h3⟩ := eE g cs o w
  exact ⟨h1, h2, h3, Nat.le_of_eq (de g cs o w).symm, fun k _ hk => cB g cs o w k (fun e => hk (e ▸ hS))⟩
end
end
/- The machine: a variable of the caller's, by its address; calls in drawn regions that write. -/
section
open Go.RowKit
set_option linter.unusedVariables false
set_option linter.unusedSimpArgs false
def fv (B g T : Nat) (cs : List Value) : Fact where
  own := true
  p := fun w => B ≤ g ∧ w.heap[g]? = some (.cells cs.toArray T (0, 0))
  blk := fun b => b = g
  lt := fun w b h hb => by subst hb; exact (Array.getElem?_eq_some_iff.1 h.2).1
  keep := fun w w' h hs hb => ⟨h.1, (hb g rfl).trans h.2⟩
section
variable {P : Program} {n : Nat} {w0 : World} {QX : Exit → St → Prop} {st st' : St} {ops : Array Oper} {l : List Oper} {ρ : Nat → Nat} {σ : Nat → Nat × Nat} {a : Act}
theorem fy {o : Oper} {x : Operand} {b m : Nat} (h : XAct n st ρ σ a) (ho : o.op = .nilCheck x) (hx : dO st.tmps x = some (.v (.pointer (some ⟨b, m, none⟩)))) (w : World) : (execOp a.eval o).run P w = .ok (.value (.pointer (some ⟨b, m, none⟩))) w := by
  simp only [execOp, ho, bZ h hx]; rfl
theorem df {w : World} {o : Oper} {s fi : Nat} {fs : Array Field} {fd : Field} {x : Operand} {b m q sz : Nat} (h : XAct n st ρ σ a) (ho : o.op = .fieldAddr s x fi)
    (hu : P.underlying s = some (.struct fs)) (hf : fs[fi]? = some fd) (hi : (P.info? fd.type).map (·.size) = some sz) (hz : Nat.beq sz 0 = false) (hx : dO st.tmps x = some (.v (.pointer (some ⟨b, m, none⟩)))) (hq : m + fd.offset = q) :
    (execOp a.eval o).run P w = .ok (.value (.pointer (some ⟨b, q, none⟩))) w := by
  subst hq
  have h1 := bZ h hx
  cases hin : P.info? fd.type with
  | none => simp [hin] at hi
  | some inf =>
    have hs : ¬ inf.size = 0 := by
      have : inf.size = sz := by simpa [hin] using hi
      intro e; rw [this] at e; subst e; cases hz
    simp only [execOp, ho, h1, di, Instr.fieldAt, Sem.run_bind, run_underlying hu, Result.andThen_ok, hf, Instr.sureAddr, Sem.run_pure, fieldPlace, sizeOf, typeInfo, run_program, hin, hs, if_false, Addr.add_mid]
theorem fS {w : World} {o : Oper} {t : TypeId} {x : Operand} {g off : Nat} {cs : List Value} {v : Value} (h : XAct n st ρ σ a) (ho : o.op = .load t x) (hx : dO st.tmps x = some (.v (.pointer (some ⟨g, off, none⟩)))) (hr : w.rangeAt g 0 cs) (hv : loadC P t cs off = some v) :
    (execOp a.eval o).run P w = .ok (.value v) w := by
  have := eH (P := P) (o0 := 0) hr hv
  rw [Nat.zero_add] at this
  simp only [execOp, ho, bZ h hx, Sem.run_bind, this, Result.andThen_ok, Sem.run_pure]
theorem cellF_range {w : World} {B g T : Nat} {cs : List Value} (h : (fv B g T cs).p w) : w.rangeAt g 0 cs := fun j v hv => by
  rw [Nat.zero_add, cell_of_row w g j _ T (0, 0) h.2]; simpa using hv
theorem ldP_run {w : World} {o : Oper} {t : TypeId} {x : Operand} {B g T off : Nat} {cs : List Value} {v : Value} (hr : XRep n w0 st ρ σ a w) (ho : o.op = .load t x) (hx : dO st.tmps x = some (.v (.pointer (some ⟨g, off, none⟩)))) (hf : fv B g T cs ∈ st.facts) (hv : loadC P t cs off = some v) :
    (execOp a.eval o).run P w = .ok (.value v) w := fS hr.1 ho hx (cellF_range (hr.2.fact _ hf).1) hv
theorem hs_stP {o : Oper} {t : TypeId} {x y : Operand} {B g T off i : Nat} {cs : List Value} {v : Value} (vs : List Value) {cs' : List Value} (ho : o.op = .store t x y) (hx : dO st.tmps x = some (.v (.pointer (some ⟨g, off, none⟩)))) (hy : dO st.tmps y = some (.v v)) (hvs : v.cells.toList = vs)
    (hsz : (P.info? t).map (·.size) = some vs.length) (h1 : vs.all (·.oneCell') = true) (hfit : Nat.ble (off + vs.length) cs.length = true) (hi : st.facts[i]? = some (fv B g T cs)) (hcs : setL cs off vs = cs') (hlo : w0.heap.size ≤ B) :
    HS P n w0 st o (fv B g T cs' :: dropF st.facts i) := fun ρ σ a w hr => by
  subst hcs hvs
  have hown := (hr.2.fact _ (List.mem_of_getElem? hi)).1
  have hfit := Nat.le_of_ble_eq_true hfit
  cases hin : P.info? t with
  | none => simp [hin] at hsz
  | some inf =>
    have hs : inf.size = v.cells.toList.length := by simpa [hin] using hsz
    have hc := run_storeCells_cells (P := P) g off v.cells.toList 0 w (fun j hj => by
        rw [cell_of_row w g _ _ T (0, 0) hown.2, Array.getElem?_eq_getElem (by simp only [List.size_toArray]; omega)]; rfl)
      (fun j hj => frozen_of_row w g _ _ T hown.2) (fun u hu => List.all_eq_true.1 h1 u hu)
    simp only [Nat.add_zero] at hc
    have hw2 := eA g v.cells.toList off w cs.toArray T hown.2 (by simpa using hfit)
    refine ⟨w.setCells g off v.cells.toList, ?_, hr.2.noRows.turn hi rfl (fun b hb => by subst hb; exact Nat.le_trans hlo hown.1) (chgd_cells rfl) _ ⟨hown.1, hw2⟩ fun b hb => .inl hb⟩
    have hne : inf.size = v.cells.size := by simpa using hs
    simp only [execOp, ho, bZ hr.1 hx, bZ hr.1 hy, Sem.run_bind, Instr.storeAt, Instr.sureAddr, Sem.run_pure, Result.andThen_ok, storeVar, sizeOf, typeInfo, run_program, hin, hne, ne_eq, not_true_eq_false, if_false, hc]
theorem xws_cell {c : Code} {φ : (Nat → Nat × Nat) → Prop} {B g T : Nat} {cs : List Value} (hφ : ∀ σ x, φ σ → φ (fun k => if k = lenR st.rows then x else σ k)) (hf : fv B g T cs ∈ st.facts)
    (hn : XWs P n w0 QX (fun σ => φ σ ∧ σ (lenR st.rows) = (g, 0)) c ⟨st.tmps, st.boxes, addRow st.rows cs, st.facts⟩) : XWs P n w0 QX φ c st :=
  fun ρ σ a w hr hp => by
    obtain ⟨h1, h2⟩ := hr.2.fact _ hf
    exact hn ρ _ a w ⟨hr.1.addRow cs (g, 0), hr.2.addRow (cellF_range h1) (Array.getElem?_eq_some_iff.1 h1.2).1 (fun i hi e => h2 i hi e.symm)⟩ ⟨hφ σ _ hp, by simp⟩
variable {fuel : Nat} {listed : Array Bool} {B : List Box} {R : List (List Value)}
theorem xe_opH (i : Nat) (v : Value) (st' : St) {o : Oper} (hi : ops[i]? = some o) (hs : Region.noSelect ops = true) (hf : Region.free .any ops listed i = true) (hr : (Region.ready .any ops listed).contains i = true)
    (hp : ∀ c s, ¬ QX (.panic c) s) (hw : bH ops st.tmps o = some true) (hd : cb n o.dst = true)
    (hrun : ∀ (ρ' : Nat → Nat) (a : Act) (w : World), XAct n st ρ' σ a → XRd B R ρ σ w → (execOp a.eval o).run P w = .ok (.value v) w) (hst : (⟨cW st.tmps o.dst (.v v), st.boxes, st.rows, st.facts⟩ : St) = st')
    (h : XE P n w0 ops QX fuel (listed.setIfInBounds i true) B R ρ σ st') : XE P n w0 ops QX (fuel + 1) listed B R ρ σ st :=
  fun ρ' a w hag hr' hS => by
    subst hst
    exact wpAnyH_take hi hs hf hr (v := v) (fun c a w ⟨s, _, _, hq, _⟩ => (hp c s hq).elim) (.inl ⟨bp hr'.1 hw, fun w' hS => hrun _ a w' hr'.1 hS⟩) hS (h _ _ w hag ⟨hr'.1.put (x := .v v) (cZ hd) trivial, hr'.2⟩ hS)
theorem rd_row {w : World} {g h : Nat} {cs : List Value} (hS : XRd B R ρ σ w) (hr : R[h]? = some cs) (hσ : σ h = (g, 0)) : w.rangeAt g 0 cs := by
  have := (hS.row h cs hr).2; rw [hσ] at this; exact this
theorem xs_callW (i : Nat) (f : FuncId) (args : List Value) (d : Option Nat) {α : Type} {F : α → Value} {G : α → List Fact} {o : Oper} (k : Nat) (fi : Fact) (hi : ops[i]? = some o)
    (hc : ej ops st o = some (f, args, d)) (hd : cb n d = true) (hf : fnOk P f = true) (hfi : st.facts[k]? = some fi) (hown : fi.own = true) (hlo : ∀ w b, fi.p w → fi.blk b → w0.heap.size ≤ b) (hrows : allT (eO st.boxes) 0 st.tmps = true)
    (hB : Under B st.boxes) (hR : R = []) (hk : XCM P w0 st.facts fi.blk f args F G)
    (h : ∀ y, XE P n w0 ops QX fuel (listed.setIfInBounds i true) B R ρ σ ⟨cW st.tmps d (.v (F y)), st.boxes, [], G y ++ dropF st.facts k⟩) : XEs P n w0 ops QX fuel listed B R ρ σ st i := fun ρ' a w hag hr' hS => by
  obtain ⟨h1, h2, h3⟩ := eC (P := P) hr'.1 hc hf w
  unfold wpOp
  simp only [hi, h1, if_true]
  left
  rw [Oper.wp, h3, Oper.upon_enter]
  have hr2 := hr'.2.noRows
  have hff := hr2.fact fi (List.mem_of_getElem? hfi)
  refine (hk w hr'.2.below.size (fun g hg => (hr'.2.fact g hg).1)).mono fun e w'' ⟨y, he, hg, hap, hb⟩ => ?_
  subst he
  have hH := (hr2.stepM hfi hown (fun b hbk => hlo w b hff.1 hbk) hb).addAll (G y) (fun g hgm => ⟨(hg g hgm).1, fun j hj hblk => ?_, fun f hf b hgb hfb => ?_⟩) hap
  · have hA := (hr'.1.bare hrows (G y ++ dropF st.facts k)).put (d := o.dst) (x := .v (F y)) (by rw [h2]; exact cZ hd) trivial
    rw [h2] at hA
    simp only [di] at hA
    have hS' : XRd B R ρ σ w'' := (hH.under hB (.inl hR)).from hag
    simpa only [h2] using (⟨hS', h y ρ' _ w'' hag ⟨hA, hH⟩ hS'⟩ : _ ∧ _)
  · rcases (hg g hgm).2 _ hblk with hs | hs
    · exact hff.2 j hj hs
    · have := hr'.2.boxLt hj; omega
  · obtain ⟨j, hj⟩ := List.getElem?_of_mem hf
    obtain ⟨m, hm, e⟩ := fb hj
    have hmi : k ≠ m := by subst e; split <;> omega
    rcases (hg g hgm).2 _ hgb with hs | hs
    · exact hr2.apart k m fi f hfi hm hmi hown b hs hfb
    · have := f.lt w b (hr2.fact f (List.mem_of_getElem? hm)).1 hfb; omega
end
theorem shr_run {P : Program} {t : TypeId} {x y : Operand} {k k' : IntKind} {a b : Int} (hb : 0 ≤ b) (hb' : b ≤ k.bits) (w : World) : (do eqGuard .shr t x y (.int k a) (.int k' b); binOp .shr t (.int k a) (.int k' b) : Sem Value).run P w = .ok (.int k (a.fdiv (2 ^ b.toNat))) w := by
  have h1 : ¬ b < 0 := by omega
  have h2 : min b.toNat k.bits = b.toNat := by omega
  simp [eqGuard, binOp, Op.shift, h1, h2]
theorem xor_run {P : Program} {t : TypeId} {x y : Operand} {k : IntKind} {a b : Int} (w : World) : (do eqGuard .xor t x y (.int k a) (.int k b); binOp .xor t (.int k a) (.int k b) : Sem Value).run P w = .ok (.int k (k.wrap (BitVec.ofInt k.bits a ^^^ BitVec.ofInt k.bits b).toNat)) w := by
  simp [eqGuard, binOp, Op.intArith, Op.intBits]
theorem and255 (x : Int) : 0 ≤ IntKind.i64.wrap (BitVec.ofInt 64 x &&& BitVec.ofInt 64 255).toNat ∧ IntKind.i64.wrap (BitVec.ofInt 64 x &&& BitVec.ofInt 64 255).toNat ≤ 255 := by
  have h : (BitVec.ofInt 64 x &&& BitVec.ofInt 64 255).toNat ≤ 255 := by
    rw [BitVec.toNat_and, show (BitVec.ofInt 64 255).toNat = 255 from by decide]; exact Nat.and_le_right
  rw [al (by omega) (by omega)]; omega
end
/- The cursor of the draws: a block of the call's own, of which little is known. -/
section
open Go.RowKit
set_option linter.unusedVariables false
set_option linter.unusedSimpArgs false
def eU (B g T : Nat) (V : Value) (N : Nat) : Fact where
  own := true
  p := fun w => B ≤ g ∧ ∃ (i : Nat) (h : Int), i ≤ N ∧ w.heap[g]? = some (.cells [V, .int .i64 (i : Int), .int .i64 h].toArray T (0, 0))
  blk := fun b => b = g
  lt := fun w b h hb => by subst hb; obtain ⟨_, i, x, _, h⟩ := h; exact (Array.getElem?_eq_some_iff.1 h).1
  keep := fun w w' h hs hb => by obtain ⟨h0, i, x, h1, h2⟩ := h; exact ⟨h0, i, x, h1, (hb g rfl).trans h2⟩
theorem cQ {w : World} {B g T : Nat} {V : Value} {N : Nat} (h : (eU B g T V N).p w) {b : Nat} (hb : (eU B g T V N).blk b) : B ≤ b := by
  have e : b = g := hb
  subst e; exact h.1
theorem apart_cell {W : World} {B g T : Nat} {cs : List Value} {f : Fact} (h : ¬ f.blk g) (ho : f.own = false) : Apart [fv B g T cs, f, bd W (fun b => b = g)] :=
  (Apart.plain (fs := [f, bd W (fun b => b = g)]) (fun x hx => by simp only [List.mem_cons, List.not_mem_nil, or_false] at hx; rcases hx with rfl | rfl <;> first | exact ho | rfl)).cons fun x hx b hb hxb => by
    have e : b = g := hb
    subst e
    simp only [List.mem_cons, List.not_mem_nil, or_false] at hx
    rcases hx with rfl | rfl
    · exact h hxb
    · exact hxb.2 rfl
theorem bX {W : World} {B g T : Nat} {V : Value} {N : Nat} {f : Fact} (h : ¬ f.blk g) (ho : f.own = false) : Apart [eU B g T V N, f, bd W (fun b => b = g)] :=
  (Apart.plain (fs := [f, bd W (fun b => b = g)]) (fun x hx => by simp only [List.mem_cons, List.not_mem_nil, or_false] at hx; rcases hx with rfl | rfl <;> first | exact ho | rfl)).cons fun x hx b hb hxb => by
    have e : b = g := hb
    subst e
    simp only [List.mem_cons, List.not_mem_nil, or_false] at hx
    rcases hx with rfl | rfl
    · exact h hxb
    · exact hxb.2 rfl
theorem cE {P : Program} {w0 : World} {fs : List Fact} {f : FuncId} {args : List Value} {B g T N : Nat} {V : Value} {α : Type} {F : α → Value}
    (h : ∀ w, w0.heap.size ≤ w.heap.size → (∀ g ∈ fs, g.p w) → Calls P f args.toArray w fun e w' => ∃ y, e = .returned (F y) ∧ (eU B g T V N).p w' ∧ Chgd (fun b => b = g) w w') :
    XCM P w0 fs (eU B g T V N).blk f args F (fun _ => [eU B g T V N]) := fun w hw hf => (h w hw hf).mono fun e w' ⟨y, he, hc, hb⟩ =>
  ⟨y, he, fun x hx => by
    have e : x = eU B g T V N := (by simpa using hx)
    subst e; exact ⟨hc, fun b hb => .inl hb⟩, Apart.one _, hb⟩
theorem xc_new {P : Program} {w0 : World} {fs : List Fact} {f : FuncId} {args : List Value} {T N : Nat} {V : Value} {Q : Nat → Prop}
    (h : ∀ w, w0.heap.size ≤ w.heap.size → (∀ g ∈ fs, g.p w) → Calls P f args.toArray w fun e w' => ∃ y : {g : Nat // Q g}, e = .returned (.pointer (some ⟨y.1, 0, none⟩)) ∧ (eU w.heap.size y.1 T V N).p w' ∧ Below w.heap.size w w') :
    XC P w0 fs f args (fun y : {g : Nat // Q g} => .pointer (some ⟨y.1, 0, none⟩)) (fun y => [eU w0.heap.size y.1 T V N]) := fun w hw hf => (h w hw hf).mono fun e w' ⟨y, he, hc, hb⟩ =>
  ⟨y, he, fun x hx => by
    have e : x = eU w0.heap.size y.1 T V N := (by simpa using hx)
    subst e; exact ⟨⟨Nat.le_trans hw hc.1, hc.2⟩, fun b hb => by have e : b = y.1 := hb; subst e; exact hc.1⟩, Apart.one _, hb⟩
theorem xw_pin {P : Program} {n : Nat} {w0 : World} {QX : Exit → St → Prop} {c : Code} {s T : Nat} {cs : List Value} {fs : List Fact}
    (h : ∀ g, w0.heap.size ≤ g → (∀ f ∈ fs, ¬ f.blk g) → XW P n w0 QX c ⟨[(s, .v (.pointer (some ⟨g, 0, none⟩)))], [], [], fv w0.heap.size g T cs :: fs⟩) : XW P n w0 QX c ⟨[(s, .p 0 0)], [⟨T, cs⟩], [], fs⟩ := fun ρ σ a w hr => by
  obtain ⟨hA, hH⟩ := hr
  have hb := hH.box 0 ⟨T, cs⟩ rfl
  have hn : ∀ f ∈ fs, ¬ f.blk (ρ 0) := fun f hf => (hH.fact f hf).2 0 (by simp)
  refine h (ρ 0) hb.1 hn ρ σ a w ⟨⟨hA.size, hA.defers, fun t x hx => ?_⟩, ⟨hH.below, fun i b hi => by simp at hi, fun i j hi => by simp at hi, fun k r hr => by simp at hr, fun f hf => ?_, hH.apart.cons fun f hf b hb' hfb => ?_⟩⟩
  · have h0 := hA.tmps
    simp only [lkp] at hx h0
    split at hx
    · rename_i e
      simp only [Option.some.injEq] at hx; subst hx
      refine ⟨trivial, ?_⟩
      have := (h0 t (.p 0 0) (by rw [if_pos e])).2
      rw [this]; simp only [di]
    · simp at hx
  · rcases List.mem_cons.1 hf with rfl | hf
    · exact ⟨⟨hb.1, hb.2⟩, fun i hi => by simp at hi⟩
    · exact ⟨(hH.fact f hf).1, fun i hi => by simp at hi⟩
  · have e : b = ρ 0 := hb'
    subst e; exact hn f hf hfb
theorem apart_cur2 {W : World} {B g T : Nat} {V : Value} {N : Nat} {f f2 : Fact} (h : ¬ f.blk g) (ho : f.own = false) (h2 : ¬ f2.blk g) (ho2 : f2.own = false) : Apart [eU B g T V N, f, bd W (fun b => b = g), f2] :=
  (Apart.plain (fs := [f, bd W (fun b => b = g), f2]) (fun x hx => by simp only [List.mem_cons, List.not_mem_nil, or_false] at hx; rcases hx with rfl | rfl | rfl <;> first | exact ho | exact ho2 | rfl)).cons fun x hx b hb hxb => by
    have e : b = g := hb
    subst e
    simp only [List.mem_cons, List.not_mem_nil, or_false] at hx
    rcases hx with rfl | rfl | rfl
    · exact h hxb
    · exact hxb.2 rfl
    · exact h2 hxb
theorem bf {B e K k : Nat} {v : Value} {rs rs' : List (List Value)} {b : Nat} (h : (bz v k rs').blk b) : (a9 B e K v rs).blk b := by
  have := h.2; rw [vblk_eq] at this; exact this
theorem dj {P : Program} {n : Nat} {w0 : World} {QX : Exit → St → Prop} {ops : Array Oper} {l : List Oper} {st : St} {φ : Prop} (h : ∀ ρ σ a w, XRep n w0 st ρ σ a w → φ) (hn : φ → XL P n w0 ops QX l st) : XL P n w0 ops QX l st := fun ρ σ a w hr => hn (h ρ σ a w hr) ρ σ a w hr
theorem fH {P : Program} {n : Nat} {w0 : World} {QX : Exit → St → Prop} {ops : Array Oper} {st : St} {fuel : Nat} {listed : Array Bool} {B : List Box} {R : List (List Value)} {ρ : Nat → Nat} {σ : Nat → Nat × Nat} {i : Nat} {φ : Prop} (h : ∀ ρ σ a w, XRep n w0 st ρ σ a w → φ)
    (hn : φ → XEs P n w0 ops QX fuel listed B R ρ σ st i) : XEs P n w0 ops QX fuel listed B R ρ σ st i := fun ρ' a w hag hr hS => hn (h _ _ _ _ hr) ρ' a w hag hr hS
theorem tmod_bd {a n : Int} (h : 0 ≤ a) (hn : 0 < n) : 0 ≤ a.tmod n ∧ (0 < n → a.tmod n < n) := by
  rw [Int.tmod_eq_emod_of_nonneg h]
  exact ⟨Int.emod_nonneg _ (by omega), fun _ => Int.emod_lt_of_pos _ hn⟩
theorem eI {P : Program} {n : Nat} {w0 : World} {f : FuncId} {fn : Func} {c : Code} {args : List Value} (fs : List Fact) (B : Nat) {R : Ending → World → Prop} (hf : P.funcs[f]? = some fn) (hb : fn.body = some c) (hn : fn.ntmps = n) (hl : Nat.ble args.length n = true)
    (hB : B ≤ w0.heap.size) (hfs : ∀ g ∈ fs, g.p w0) (hap : Apart fs) (h : XW P n (aw w0 B) (XPostA P (aw w0 B) fn R) c ⟨argT 0 args, [], [], fs⟩) : Calls P f args.toArray w0 R := by
  have hl' : args.length ≤ n := by simpa using hl
  have hA : XAct n ⟨argT 0 args, [], [], fs⟩ id (fun _ => (0, 0)) { tmps := args.toArray ++ Array.replicate (fn.ntmps - args.toArray.size) undef, defers := [] } := by
    refine ⟨?_, rfl, fun t x ht => ?_⟩
    · simp [hn]; omega
    · obtain ⟨-, v, h1, rfl⟩ := argT_lkp args 0 t x ht
      refine ⟨trivial, ?_⟩
      have hlt : t < args.length := (List.getElem?_eq_some_iff.1 h1).1
      simp only [Nat.sub_zero] at h1
      simp only [di, Array.getD_eq_getD_getElem?]
      rw [Array.getElem?_append_left (by simpa using hlt)]
      simp [h1]
  have hH : XHeap (aw w0 B) [] [] fs id (fun _ => (0, 0)) w0 := ⟨cutW_below hB, fun i b hi => by simp at hi, fun i j hi => by simp at hi, fun k r hr => by simp at hr, fun g hg => ⟨hfs g hg, fun i hi => by simp at hi⟩, hap⟩
  refine calls_of_wp hf hb (Code.wp_mono (fun e a w hq => ?_) (h _ _ _ w0 ⟨hA, hH⟩))
  obtain ⟨s, ρ, σ, h1, h2⟩ := hq
  cases e <;> first
    | (obtain ⟨vs, g1, g2⟩ := h1
       exact ⟨h2.1.defers, _, xres_run h2 g1, g2 w h2.2.below (fun g hg => (h2.2.fact g hg).1) h2.2.apart⟩)
    | exact h1.elim
theorem bv {w : World} {B B' e K : Nat} {v : Value} {rs : List (List Value)} (h : (a9 B e K v rs).p w) (hb : ∀ b, (a9 B e K v rs).blk b → B' ≤ b) : (a9 B' e K v rs).p w := by
  refine ⟨⟨h.1.1, ?_⟩, h.2⟩
  rcases h.1.2 with hn | ⟨g, cap, cur, hv, hg, rest⟩
  · exact .inl hn
  · exact .inr ⟨g, cap, cur, hv, hb g (by rw [hv]; rfl), rest⟩
theorem row_new {W : World} {B B0 e K g T N : Nat} {V v : Value} {rs : List (List Value)} {fs : List Fact} {i j k : Nat} (hap : Apart fs) (hi : fs[i]? = some (a9 B e K v rs)) (hj : fs[j]? = some (eU B0 g T V N)) (hk : fs[k]? = some (bd W (fun b => b = g))) (hij : i ≠ j) (hik : i ≠ k) :
    ∀ b, (a9 B e K v rs).blk b → W.heap.size ≤ b := fun b hb => by
  rcases Nat.lt_or_ge b W.heap.size with h | h
  · exact (hap i k _ _ hi hk hik rfl b hb ⟨h, fun e => hap i j _ _ hi hj hij rfl b hb e⟩).elim
  · exact h
theorem eT {P : Program} {w0 : World} {fs : List Fact} {f : FuncId} {args : List Value} {B g T N e K : Nat} {V : Value} {α : Type} {F : α → Value} {v : α → Value} {rs : α → List (List Value)}
    (h : ∀ w, w0.heap.size ≤ w.heap.size → (∀ g ∈ fs, g.p w) → Calls P f args.toArray w fun e' w' => ∃ y, e' = .returned (F y) ∧ (eU B g T V N).p w' ∧ (a9 w.heap.size e K (v y) (rs y)).p w' ∧ g < w.heap.size ∧ Chgd (fun b => b = g) w w') :
    XCM P w0 fs (eU B g T V N).blk f args F (fun y => [a9 w0.heap.size e K (v y) (rs y), eU B g T V N]) := fun w hw hf => (h w hw hf).mono fun e' w' ⟨y, he, hc, hr, hg, hb⟩ =>
  ⟨y, he, fun x hx => by
    simp only [List.mem_cons, List.not_mem_nil, or_false] at hx
    rcases hx with rfl | rfl
    · exact ⟨ga hr hw, fun b hb => .inr (fm hr hb)⟩
    · exact ⟨hc, fun b hb => .inl hb⟩,
    (Apart.one _).cons fun x hx b hb hxb => by
      obtain rfl : x = eU B g T V N := by simpa using hx
      have e1 : b = g := hxb
      have := fm hr hb
      omega, hb⟩
theorem cU (l : List Int) : (ai l).size = l.length := by
  have key : ∀ (l : List Int) (b : ByteArray), (l.foldl (fun r n => r.push (UInt8.ofNat n.toNat)) b).size = b.size + l.length := by
    intro l
    induction l with
    | nil => intro b; rfl
    | cons x l ih => intro b; rw [List.foldl_cons, ih, ByteArray.size_push, List.length_cons]; omega
  have := key l ByteArray.empty
  unfold ai; rw [this]; show 0 + l.length = l.length; omega
end
/- The machine: an element of a row of the call's own, by its address: stores, also in drawn regions. -/
section
open Go.RowKit
set_option linter.unusedVariables false
set_option linter.unusedSimpArgs false
def bP (t : ByteArray) (k : Nat) : Int := ((t.data.getD k 0).toNat : Int)
theorem gf (t : ByteArray) (k : Nat) : 0 ≤ bP t k ∧ bP t k ≤ 255 := by
  unfold bP; have := (t.data.getD k 0).toNat_lt; omega
theorem setL_cons {r R cs : List Value} {K a : Nat} (hr : r.length = K) : r ++ setL R a cs = setL (r ++ R) (K + a) cs := by
  subst hr
  simp only [setL]
  rw [List.take_length_add_append, show r.length + a + cs.length = r.length + (a + cs.length) by omega, List.drop_length_add_append]
  simp only [List.append_assoc]
theorem flat_set {K po : Nat} {cs : List Value} : ∀ {rs : List (List Value)} {j : Nat} {row : List Value}, (∀ r ∈ rs, r.length = K) → rs[j]? = some row → po + cs.length ≤ K → (rs.set j (setL row po cs)).flatten = setL rs.flatten (j * K + po) cs
  | [], j, row, _, h, _ => by simp at h
  | r :: rs, 0, row, hK, h, hp => by
    simp only [List.getElem?_cons_zero, Option.some.injEq] at h; subst h
    have hr := hK r (by simp)
    simp only [List.set_cons_zero, List.flatten_cons, setL, Nat.zero_mul, Nat.zero_add]
    rw [List.take_append_of_le_length (by omega), List.drop_append_of_le_length (by omega)]
    simp only [List.append_assoc]
  | r :: rs, j + 1, row, hK, h, hp => by
    simp only [List.getElem?_cons_succ] at h
    have hr := hK r (by simp)
    simp only [List.set_cons_succ, List.flatten_cons]
    rw [flat_set (fun q hq => hK q (by simp [hq])) h hp, setL_cons hr, Nat.succ_mul]
    congr 1; omega
theorem setL_take {l cs : List Value} {o m : Nat} (h : o + cs.length ≤ m) (hm : m ≤ l.length) : (setL l o cs).take m = setL (l.take m) o cs := by
  have hl : (l.take o).length = o := by rw [List.length_take]; omega
  simp only [setL]
  rw [List.append_assoc, List.append_assoc, List.take_append, hl, List.take_append, List.take_of_length_le (l := List.take o l) (by omega), List.take_of_length_le (l := cs) (by omega), List.take_take, Nat.min_eq_left (by omega), List.drop_take, show m - (o + cs.length) = m - o - cs.length by omega]
theorem setL_len {l cs : List Value} {o : Nat} (h : o + cs.length ≤ l.length) : (setL l o cs).length = l.length := by
  simp only [setL, List.length_append, List.length_take, List.length_drop]; omega
section
variable {P : Program} {n : Nat} {w0 : World} {st : St}
theorem e9 {ρ : Nat → Nat} {σ : Nat → Nat × Nat} {a : Act} {o : Oper} {T e : TypeId} {x idx : Operand} {g K N cap : Nat} {kd : IntKind} {A : Option Addr} (j : Nat) (hA : A = some ⟨g, 0, none⟩) (h : XAct n st ρ σ a) (hop : o.op = .indexAddr T x idx)
    (hu : P.underlying T = some (.slice e)) (hi : (P.info? e).map (·.size) = some K) (hx : dO st.tmps x = some (.v (.slice A N cap))) (hidx : dO st.tmps idx = some (.v (.int kd (j : Int)))) (hlt : j < N) (w : World) :
    (execOp a.eval o).run P w = .ok (.value (.pointer (some ⟨g, j * K, none⟩))) w := by
  simp only [execOp, hop, bZ h hx, bZ h hidx, Sem.run_bind, index_run hu hi hA hlt w, Result.andThen_ok, Sem.run_pure, Nat.zero_add]
theorem dN {ρ : Nat → Nat} {σ : Nat → Nat × Nat} {a : Act} {w : World} {o : Oper} {t : TypeId} {x : Operand} {B e K g N cap po j off : Nat} {rs : List (List Value)} {row : List Value} {v : Value} (f : Fact) (hr : XRep n w0 st ρ σ a w) (ho : o.op = .load t x) (hx : dO st.tmps x = some (.v (.pointer (some ⟨g, off, none⟩))))
    (hfm : f ∈ st.facts) (hrow : rs[j]? = some row) (hv : loadC P t row po = some v) {A : Option Addr} (hA : A = some ⟨g, 0, none⟩) (hf : f = a9 B e K (.slice A N cap) rs := by rfl) (hoff : off = j * K + po := by rfl) :
    (execOp a.eval o).run P w = .ok (.value v) w := by
  subst hf hoff hA
  obtain ⟨a1, c1, g1, g2, g3, g4, g5⟩ := au (hr.2.fact _ hfm).1
  simp only [Value.slice.injEq] at g1
  obtain ⟨rfl, rfl, rfl⟩ := g1
  obtain ⟨b, off, g6, g7, g8⟩ := g5 j _ hrow
  simp only [Option.some.injEq, Addr.mk.injEq, and_true] at g6
  obtain ⟨rfl, rfl⟩ := g6
  have := eH (P := P) (o0 := 0 + j * K) g8 hv
  rw [Nat.zero_add] at this
  simp only [execOp, ho, bZ hr.1 hx, Sem.run_bind, this, Result.andThen_ok, Sem.run_pure]
def HSg (P : Program) (n : Nat) (w0 : World) (st : St) (o : Oper) (g : Nat) (G : List Fact) : Prop :=
  ∀ ρ σ a w, XRep n w0 st ρ σ a w → ∃ w', (execOp a.eval o).run P w = .ok .skip w' ∧ XHeap w0 st.boxes [] G ρ σ w' ∧ Chgd (fun b => b = g) w w'
theorem HSg.hs {o : Oper} {g : Nat} {G : List Fact} (h : HSg P n w0 st o g G) : HS P n w0 st o G := fun ρ σ a w hr => let ⟨w', h1, h2, _⟩ := h ρ σ a w hr; ⟨w', h1, h2⟩
theorem hs_stR {o : Oper} {t : TypeId} {x y : Operand} {g B e K N cap i off : Nat} {A : Option Addr} {rs rs' : List (List Value)} {v : Value} (j po : Nat) (row : List Value) {row' : List Value} (hA : A = some ⟨g, 0, none⟩) (hop : o.op = .store t x y)
    (hx : dO st.tmps x = some (.v (.pointer (some ⟨g, off, none⟩)))) (ho : off = j * K + po) (hy : dO st.tmps y = some (.v v)) (hsz : (P.info? t).map (·.size) = some v.cells.size) (h1 : v.cells.toList.all (·.oneCell') = true)
    (hi : st.facts[i]? = some (a9 B e K (.slice A N cap) rs)) (hlo : w0.heap.size ≤ B) (hrow : rs[j]? = some row) (hpo : Nat.ble (po + v.cells.toList.length) K = true) (hr' : setL row po v.cells.toList = row') (hrs : rs.set j row' = rs') :
    HSg P n w0 st o g (a9 B e K (.slice A N cap) rs' :: dropF st.facts i) := fun ρ σ a w hr => by
  subst hrs hr' ho hA
  have hown := (hr.2.fact _ (List.mem_of_getElem? hi)).1
  have hpo := Nat.le_of_ble_eq_true hpo
  obtain ⟨⟨hfl, hor⟩, hK⟩ := hown
  have hj : j < rs.length := (List.getElem?_eq_some_iff.1 hrow).1
  have hbd : j * K + K ≤ rs.length * K := by
    have : (j + 1) * K ≤ rs.length * K := Nat.mul_le_mul_right K hj
    rw [Nat.succ_mul] at this; exact this
  rcases hor with ⟨h1', h2⟩ | ⟨g', cap', cur, hv, hB, hg, hle, hmx, hcs, htk⟩
  · exact absurd h1' (by simp)
  simp only [Value.slice.injEq, Option.some.injEq, Addr.mk.injEq, and_true] at hv
  obtain ⟨rfl, rfl, rfl⟩ := hv
  have hcap : rs.length * K ≤ cap * K := Nat.mul_le_mul_right _ hle
  have hfit : j * K + po + v.cells.toList.length ≤ cur.size := by omega
  cases hin : P.info? t with
  | none => simp [hin] at hsz
  | some inf =>
    have hs : inf.size = v.cells.size := by simpa [hin] using hsz
    have hst := run_storeCells_cells (P := P) g (j * K + po) v.cells.toList 0 w (fun m hm => by
        rw [cell_of_row w g _ cur e (0, 0) hg, Array.getElem?_eq_getElem (by omega)]; rfl) (fun m hm => frozen_of_row w g _ cur e hg) (fun u hu => List.all_eq_true.1 h1 u hu)
    simp only [Nat.add_zero] at hst
    have hw2 := eA g v.cells.toList (j * K + po) w cur e hg hfit
    have hlen : cur.toList.length = cur.size := by simp
    refine ⟨w.setCells g (j * K + po) v.cells.toList, ?_, hr.2.noRows.turn hi rfl (fun b hb => by have : (some g) = some b := hb; simp only [Option.some.injEq] at this; omega) (chgd_cells rfl) _
      ⟨⟨?_, .inr ⟨g, cap, _, by rw [List.length_set], hB, hw2, by rw [List.length_set]; exact hle, hmx, ?_, ?_⟩⟩, fun r hr => ?_⟩ fun b hb => .inl hb, chgd_cells rfl⟩
    · simp only [execOp, hop, bZ hr.1 hx, bZ hr.1 hy, Sem.run_bind, Instr.storeAt, Instr.sureAddr, Sem.run_pure, Result.andThen_ok, storeVar, sizeOf, typeInfo, run_program, hin, hs, ne_eq, not_true_eq_false, if_false, hst]
    · rw [flat_set hK hrow hpo, setL_len (by rw [hfl]; omega), List.length_set]; exact hfl
    · rw [List.size_toArray, setL_len (by rw [hlen]; exact hfit)]; rw [hlen]; exact hcs
    · rw [List.length_set, flat_set hK hrow hpo, ← htk]
      exact setL_take (by omega) (by omega)
    · rcases List.mem_or_eq_of_mem_set hr with h | h
      · exact hK r h
      · rw [h, setL_len (by rw [hK row (List.mem_of_getElem? hrow)]; exact hpo)]; exact hK row (List.mem_of_getElem? hrow)
theorem act_tix {ρ : Nat → Nat} {σ : Nat → Nat × Nat} {a : Act} {o : Oper} {T : TypeId} {x idx : Operand} {t : ByteArray} {kd : IntKind} (j : Nat) (h : XAct n st ρ σ a) (hop : o.op = .index T x idx)
    (hu : P.underlying T = some .string) (hx : dO st.tmps x = some (.v (.string t))) (hidx : dO st.tmps idx = some (.v (.int kd (j : Int)))) (hlt : j < t.size) (w : World) :
    (execOp a.eval o).run P w = .ok (.value (.int .u8 (bP t j))) w := by
  have hb : bP t j = (t[j].toNat : Int) := by
    unfold bP
    have hl : j < t.data.size := hlt
    rw [Array.getD_eq_getD_getElem?, Array.getElem?_eq_getElem hl]; rfl
  simp only [execOp, hop, bZ h hx, bZ h hidx, Sem.run_bind, run_index_string w T t kd _ hu]
  rw [dif_pos ⟨by omega, by omega⟩, hb]
  simp [Result.andThen_ok, Sem.run_pure]
theorem act_ixO {ρ : Nat → Nat} {σ : Nat → Nat × Nat} {a : Act} {o : Oper} {T e : TypeId} {x idx : Operand} {b off K N cap : Nat} {kd : IntKind} {A : Option Addr} (j : Nat) (hA : A = some ⟨b, off, none⟩) (h : XAct n st ρ σ a) (hop : o.op = .indexAddr T x idx)
    (hu : P.underlying T = some (.slice e)) (hi : (P.info? e).map (·.size) = some K) (hx : dO st.tmps x = some (.v (.slice A N cap))) (hidx : dO st.tmps idx = some (.v (.int kd (j : Int)))) (hlt : j < N) (w : World) :
    (execOp a.eval o).run P w = .ok (.value (.pointer (some ⟨b, off + j * K, none⟩))) w := by
  simp only [execOp, hop, bZ h hx, bZ h hidx, Sem.run_bind, index_run hu hi hA hlt w, Result.andThen_ok, Sem.run_pure]
theorem ldS_run {ρ : Nat → Nat} {σ : Nat → Nat × Nat} {a : Act} {w : World} {o : Oper} {t : TypeId} {x : Operand} {K b off N cap j : Nat} {rs : List (List Value)} {row : List Value} {v : Value} (f : Fact) (hr : XRep n w0 st ρ σ a w) (ho : o.op = .load t x) (hx : dO st.tmps x = some (.v (.pointer (some ⟨b, off + j * K, none⟩))))
    (hfm : f ∈ st.facts) (hrow : rs[j]? = some row) (hv : loadC P t row 0 = some v) {A : Option Addr} (hA : A = some ⟨b, off, none⟩) (hf : f = bz (.slice A N cap) K rs := by rfl) :
    (execOp a.eval o).run P w = .ok (.value v) w := by
  subst hf hA
  have hsl : Sl w (.slice (some ⟨b, off, none⟩) N cap) K rs := (hr.2.fact _ hfm).1
  obtain ⟨a1, c1, g1, g2, g3, g4, g5⟩ := hsl
  simp only [Value.slice.injEq] at g1
  obtain ⟨rfl, rfl, rfl⟩ := g1
  obtain ⟨b', off', g6, g7, g8⟩ := g5 j _ hrow
  simp only [Option.some.injEq, Addr.mk.injEq, and_true] at g6
  obtain ⟨rfl, rfl⟩ := g6
  have := eH (P := P) (o0 := off + j * K) g8 hv
  rw [Nat.add_zero] at this
  simp only [execOp, ho, bZ hr.1 hx, Sem.run_bind, this, Result.andThen_ok, Sem.run_pure]
theorem xw_know {QX : Exit → St → Prop} {c : Code} {φ : Prop} (h : ∀ ρ σ a w, XRep n w0 st ρ σ a w → φ) (hn : φ → XW P n w0 QX c st) : XW P n w0 QX c st := fun ρ σ a w hr => hn (h ρ σ a w hr) ρ σ a w hr
variable {QX : Exit → St → Prop} {ops : Array Oper}
theorem xws_know {c : Code} {φ : (Nat → Nat × Nat) → Prop} {ψ : Prop} (h : ∀ ρ σ a w, XRep n w0 st ρ σ a w → ψ) (hn : ψ → XWs P n w0 QX φ c st) : XWs P n w0 QX φ c st := fun ρ σ a w hr hp => hn (h ρ σ a w hr) ρ σ a w hr hp
theorem row_at {w : World} {B e K N cap : Nat} {A : Option Addr} {rs : List (List Value)} (h : (a9 B e K (.slice A N cap) rs).p w) {j : Nat} {row : List Value} (hrow : rs[j]? = some row) : ∃ g, A = some ⟨g, 0, none⟩ := by
  obtain ⟨⟨hfl, hor⟩, hK⟩ := h
  rcases hor with ⟨h1, h2⟩ | ⟨g, cap', cur, h1, hB, hg, hle, hmx, hcs, htk⟩
  · have : rs = [] := List.length_eq_zero_iff.1 h2
    subst this; simp at hrow
  · simp only [Value.slice.injEq] at h1; exact ⟨g, h1.1⟩
theorem know_row {ρ : Nat → Nat} {σ : Nat → Nat × Nat} {a : Act} {w : World} {φ : Prop} (hr : XRep n w0 st ρ σ a w) {B e K N cap : Nat} {A : Option Addr} {rs : List (List Value)} (i : Nat) (hi : st.facts[i]? = some (a9 B e K (.slice A N cap) rs)) {j : Nat} {row : List Value} (hrow : φ → rs[j]? = some row) :
    ∃ g, φ → A = some ⟨g, 0, none⟩ := by
  by_cases h : φ
  · obtain ⟨g, hg⟩ := row_at (hr.2.fact _ (List.mem_of_getElem? hi)).1 (hrow h); exact ⟨g, fun _ => hg⟩
  · exact ⟨0, fun h' => absurd h' h⟩
theorem know_sl {ρ : Nat → Nat} {σ : Nat → Nat × Nat} {a : Act} {w : World} (hr : XRep n w0 st ρ σ a w) {K N cap : Nat} {A : Option Addr} {rs : List (List Value)} (i : Nat) (hi : st.facts[i]? = some (bz (.slice A N cap) K rs)) {j : Nat} {row : List Value} (hrow : rs[j]? = some row) :
    ∃ b off, A = some ⟨b, off, none⟩ := by
  have hsl : Sl w (.slice A N cap) K rs := (hr.2.fact _ (List.mem_of_getElem? hi)).1
  obtain ⟨a1, c1, g1, g2, g3, g4, g5⟩ := hsl
  simp only [Value.slice.injEq] at g1
  obtain ⟨rfl, rfl, rfl⟩ := g1
  obtain ⟨b', off', g6, g7, g8⟩ := g5 j _ hrow
  exact ⟨b', off', g6⟩
theorem row_ne {ρ : Nat → Nat} {σ : Nat → Nat × Nat} {a : Act} {w : World} (hr : XRep n w0 st ρ σ a w) {B e K K' g N cap len cap' b off : Nat} {A A' : Option Addr} {rs rs' : List (List Value)} (i j : Nat) (hA' : A' = some ⟨g, 0, none⟩) (hi : st.facts[i]? = some (a9 B e K (.slice A' N cap) rs))
    (hj : st.facts[j]? = some (bz (.slice A len cap') K' rs')) (hij : i ≠ j) (hA : A = some ⟨b, off, none⟩) (q : Nat) (row : List Value) (hrow : rs'[q]? = some row) : b ≠ g := fun e => by
  have hne : rs' ≠ [] := fun e => by rw [e] at hrow; simp at hrow
  subst hA hA' e
  exact hr.2.apart i j _ _ hi hj hij rfl b rfl ⟨hne, rfl⟩
variable {fuel : Nat} {listed : Array Bool} {B : List Box} {R : List (List Value)} {ρ : Nat → Nat} {σ : Nat → Nat × Nat}
theorem xs_hsG (i g : Nat) {G : List Fact} {o : Oper} (hi : ops[i]? = some o) (hw : bH ops st.tmps o = some true) (hd : cb n o.dst = true) (hr : allT (eO st.boxes) 0 st.tmps = true)
    (hB : Under B st.boxes) (hR : ∀ k r, R[k]? = some r → r = [] ∨ (σ k).1 ≠ g) (hk : HSg P n w0 st o g G)
    (h : XE P n w0 ops QX fuel (listed.setIfInBounds i true) B R ρ σ ⟨cW st.tmps o.dst (.v undef), st.boxes, [], G⟩) : XEs P n w0 ops QX fuel listed B R ρ σ st i := fun ρ' a w hag hr' hS => by
  obtain ⟨w', h1, h2, hc⟩ := hk ρ' σ a w hr'
  unfold wpOp
  simp only [hi, bp hr'.1 hw, if_true]
  left
  rw [Oper.wp, h1, Oper.upon_skip]
  have hS0 : XRd B [] ρ σ w' := (h2.under hB (.inl rfl)).from hag
  have hS' : XRd B R ρ σ w' := ⟨hS0.box, fun k r hk => by
    obtain ⟨g1, g2⟩ := hS.row k r hk
    refine ⟨Nat.lt_of_lt_of_le g1 hc.size, fun q v hv => ?_⟩
    rcases hR k r hk with hz | hne
    · rw [hz] at hv; simp at hv
    · rw [World.cell?_of_block (a := ⟨(σ k).1, (σ k).2 + q, none⟩) (hc.block _ g1 hne)]; exact g2 q v hv⟩
  exact ⟨hS', h _ _ w' hag ⟨(hr'.1.bare hr G).put (x := .v undef) (cZ hd) trivial, h2⟩ hS'⟩
def QJoinF {α : Type} (f : α → St) (QX : Exit → St → Prop) : Exit → St → Prop
  | .normal, s => ∃ x, Wk s (f x)
  | e, s => QX e s
theorem d9 {c : Code} {α : Type} (f : α → St) (h1 : XW P n w0 (QJoinF f QX) c st) (h2 : ∀ x, QX .normal (f x)) : XW P n w0 QX c st := fun ρ σ a w hr =>
  Code.wp_mono (fun e a w ⟨s, ρ, σ, hq, hs⟩ => by
    cases e
    case normal => obtain ⟨x, hx⟩ := hq; exact ⟨f x, ρ, σ, h2 x, hx _ _ _ _ _ _ hs⟩
    all_goals exact ⟨s, ρ, σ, hq, hs⟩) (h1 ρ σ a w hr)
end
end
/- The machine: draws that make a struct with a slice of its own. -/
section
open Go.RowKit
set_option linter.unusedVariables false
set_option linter.unusedSimpArgs false
def cX (s : ByteArray) : List Value := [.string s]
def eF (B : Nat) (v : Value) (k : Nat) (rs : List (List Value)) : Fact where
  own := true
  p := fun w => (bz v k rs).p w ∧ ∀ b, (bz v k rs).blk b → B ≤ b
  blk := (bz v k rs).blk
  lt := fun w b h hb => (bz v k rs).lt w b h.1 hb
  keep := fun w w' h hs hb => ⟨(bz v k rs).keep w w' h.1 hs hb, h.2⟩
theorem newF_own {w : World} {B B' K : Nat} {v : Value} {rs : List (List Value)} (h : (aC B v K rs).p w) (hb : ∀ b, (aC B v K rs).blk b → B' ≤ b) : (eF B' v K rs).p w := ⟨Own.sl h, hb⟩
theorem newF_row {w : World} {B B' e K : Nat} {v : Value} {rs : List (List Value)} (h : (a9 B e K v rs).p w) (hb : ∀ b, (a9 B e K v rs).blk b → B' ≤ b) : (eF B' v K rs).p w := ⟨au h, fun b hbk => hb b (bf hbk)⟩
theorem eg {w : World} {B B' K : Nat} {v : Value} {rs : List (List Value)} (h : (eF B v K rs).p w) (hb : ∀ b, (eF B v K rs).blk b → B' ≤ b) : (eF B' v K rs).p w := ⟨h.1, hb⟩
theorem newF_lo {w : World} {B K : Nat} {v : Value} {rs : List (List Value)} (h : (eF B v K rs).p w) {b : Nat} (hb : (eF B v K rs).blk b) : B ≤ b := h.2 b hb
theorem aF {W : World} {f : Fact} {B0 g T N : Nat} {V : Value} {fs : List Fact} {i j k : Nat} (hap : Apart fs) (hi : fs[i]? = some f) (ho : f.own = true) (hj : fs[j]? = some (eU B0 g T V N)) (hk : fs[k]? = some (bd W (fun b => b = g))) (hij : i ≠ j) (hik : i ≠ k) :
    ∀ b, f.blk b → W.heap.size ≤ b := fun b hb => by
  rcases Nat.lt_or_ge b W.heap.size with h | h
  · exact (hap i k _ _ hi hk hik ho b hb ⟨h, fun e => hap i j _ _ hi hj hij ho b hb e⟩).elim
  · exact h
theorem xcm_curN {P : Program} {w0 : World} {fs : List Fact} {f : FuncId} {args : List Value} {B g T N K : Nat} {V : Value} {α : Type} {F : α → Value} {v : α → Value} {rs : α → List (List Value)}
    (h : ∀ w, w0.heap.size ≤ w.heap.size → (∀ g ∈ fs, g.p w) → Calls P f args.toArray w fun e' w' => ∃ y, e' = .returned (F y) ∧ (eU B g T V N).p w' ∧ (eF w.heap.size (v y) K (rs y)).p w' ∧ g < w.heap.size ∧ Chgd (fun b => b = g) w w') :
    XCM P w0 fs (eU B g T V N).blk f args F (fun y => [eF w0.heap.size (v y) K (rs y), eU B g T V N]) := fun w hw hf => (h w hw hf).mono fun e' w' ⟨y, he, hc, hr, hg, hb⟩ =>
  ⟨y, he, fun x hx => by
    simp only [List.mem_cons, List.not_mem_nil, or_false] at hx
    rcases hx with rfl | rfl
    · exact ⟨eg hr (fun b hb => Nat.le_trans hw (newF_lo hr hb)), fun b hb => .inr (newF_lo hr hb)⟩
    · exact ⟨hc, fun b hb => .inl hb⟩,
    (Apart.one _).cons fun x hx b hb hxb => by
      obtain rfl : x = eU B g T V N := by simpa using hx
      have e1 : b = g := hxb
      have := newF_lo hr hb
      omega, hb⟩
def listL : Nat → Nat → List Bool
  | 0, _ => []
  | n + 1, m => Nat.beq (m % 2) 1 :: listL n (m / 2)
def bi (n m : Nat) : Array Bool := ⟨listL n m⟩
section
variable {P : Program} {n : Nat} {w0 : World} {QX : Exit → St → Prop} {st st' : St} {ops : Array Oper} {fuel fuel' : Nat} {listed listed' : Array Bool} {B : List Box} {R : List (List Value)} {ρ : Nat → Nat} {σ : Nat → Nat × Nat}
theorem xe_cut {α : Type} (f : α → St) (fuel' : Nat) (listed' : Array Bool) (h1 : ∀ x, XE P n w0 ops QX fuel' listed' B R ρ σ (f x)) (h2 : (∀ x, XE P n w0 ops QX fuel' listed' B R ρ σ (f x)) → XE P n w0 ops QX fuel listed B R ρ σ st) : XE P n w0 ops QX fuel listed B R ρ σ st := h2 h1
theorem cf {α : Type} {t : List (Nat × AV)} {b : List Box} {r : List (List Value)} {fs : List Fact} (f : α → List (Nat × AV)) (ks : List Nat) (fuel' : Nat) (listed' : Array Bool) (h1 : ∀ x, XE P n w0 ops QX fuel' listed' B R ρ σ ⟨dt (f x) t ks, b, r, fs⟩) (h2 : (∀ x, XE P n w0 ops QX fuel' listed' B R ρ σ ⟨dt (f x) t ks, b, r, fs⟩) → XE P n w0 ops QX fuel listed B R ρ σ ⟨t, b, r, fs⟩) : XE P n w0 ops QX fuel listed B R ρ σ ⟨t, b, r, fs⟩ := h2 h1
theorem bc {α : Type} {t : List (Nat × AV)} {b : List Box} {r : List (List Value)} {fs : List Fact} (f : α → List (Nat × AV)) (ks : List Nat) (bx : α → List Box) (ex : α → List Fact) (fuel' : Nat) (listed' : Array Bool) (h1 : ∀ x, XE P n w0 ops QX fuel' listed' B R ρ σ ⟨dt (f x) t ks, b ++ bx x, r, fs ++ ex x⟩) (h2 : (∀ x, XE P n w0 ops QX fuel' listed' B R ρ σ ⟨dt (f x) t ks, b ++ bx x, r, fs ++ ex x⟩) → XE P n w0 ops QX fuel listed B R ρ σ ⟨t, b, r, fs⟩) : XE P n w0 ops QX fuel listed B R ρ σ ⟨t, b, r, fs⟩ := h2 h1
theorem ao (h : Wk st st') (hl : listed = listed') (h1 : XE P n w0 ops QX fuel listed' B R ρ σ st') : XE P n w0 ops QX fuel listed B R ρ σ st := fun ρ' a w hag hr hS => by
  subst hl; exact h1 ρ' a w hag (h _ _ _ _ _ _ hr) hS
end
end
/- The machine: function values that hold variables, calls of them, and memory kept together as one fact. -/
section
open Go.RowKit
set_option linter.unusedVariables false
set_option linter.unusedSimpArgs false
def allF (gs : List Fact) : Fact where
  own := true
  p := fun w => (∀ g ∈ gs, g.p w) ∧ Apart gs
  blk := fun b => ∃ g ∈ gs, g.blk b
  lt := fun w b h ⟨g, hg, hb⟩ => g.lt w b (h.1 g hg) hb
  keep := fun w w' h hs hb => ⟨fun g hg => g.keep w w' (h.1 g hg) hs fun b hgb => hb b ⟨g, hg, hgb⟩, h.2⟩
theorem Apart.back {gs hs : List Fact} (h : Apart (gs ++ hs)) : Apart hs := fun i j f g hi hj hij => by
  refine h (gs.length + i) (gs.length + j) f g ?_ ?_ (by omega)
  · rw [List.getElem?_append_right (by omega), Nat.add_sub_cancel_left]; exact hi
  · rw [List.getElem?_append_right (by omega), Nat.add_sub_cancel_left]; exact hj
theorem Apart.pickN {fs gs : List Fact} (m : List Nat) (h : Apart fs) (hm : nodupB m = true) (hp : pickF fs m = some gs) : Apart gs := fun i j f g hi hj hij => by
  obtain ⟨g1, g2⟩ := pickF_get hp
  have hl1 := (List.getElem?_eq_some_iff.1 hi).1
  have hl2 := (List.getElem?_eq_some_iff.1 hj).1
  have e1 := List.getElem?_eq_getElem (l := m) (i := i) (by omega)
  have e2 := List.getElem?_eq_getElem (l := m) (i := j) (by omega)
  refine h _ _ f g (g2 i f _ hi e1) (g2 j g _ hj e2) fun e => hij ?_
  have hk := List.pairwise_iff_getElem.1 (nodupB_spec hm)
  rcases Nat.lt_trichotomy i j with h1 | h1 | h1
  · exact (hk i j (by omega) (by omega) h1 e).elim
  · exact h1
  · exact (hk j i (by omega) (by omega) h1 e.symm).elim
section
variable {P : Program} {n : Nat} {w0 : World} {QX : Exit → St → Prop} {st st' : St} {ops : Array Oper} {l : List Oper}
variable {fuel : Nat} {listed : Array Bool} {B : List Box} {R : List (List Value)} {ρ : Nat → Nat} {σ : Nat → Nat × Nat}
end
end
/- Plain definitions: connections (no program in sight). -/
section
open Go.RowKit
def ax (c : Con) (g : Seg) : Int :=
  if !aE c || (decide (c.state = 8) || !dk g) then 1
  else if cL g.flags 4 then (if g.seq = c.r.next then 2 else if cy g.seq c.r.next (wO c.r) then 3 else 1)
  else if cL g.flags 2 then 3 else if !dw c g then 4 else if !cL g.flags 16 then 1 else if !fk c g.ack then 3 else 5
def tS (c : Con) : Int :=
  if c.state = 1 then (if c.r.done then 4 else 1)
  else if c.state = 2 then (if c.s.done && c.r.done then 7 else if c.s.done then 3 else if c.r.done then 5 else 2)
  else if c.state = 3 then (if c.r.done then 7 else 3)
  else if c.state = 5 then (if c.s.done then 7 else 5)
  else if c.state = 6 then (if c.s.done then 8 else 6)
  else c.state
def bT (c : Con) : Con :=
  if tS c = c.state then c
  else if aE { c with state := tS c, timer := 0 } && cR c.timer 0 4 then
    (if tS c = 7 then { c with state := 7, timer := 4, tries := 0 } else if tS c = 8 then { c with state := 8, timer := 0, tries := 0 } else { c with state := tS c })
  else c
def cut (s : ByteArray) (n : Int) : Int := max 0 (min n s.size)
def ay (r : Rcv) (n : Int) : Rcv × ByteArray := if rO r then ({ r with data := r.data.extract (cut r.data n).toNat r.data.size }, r.data.extract 0 (cut r.data n).toNat) else (r, ⟨#[]⟩)
def bu (c : Con) (n : Int) : Con × ByteArray × List Seg :=
  if aE c then
    (if decide (wO c.r = 0) && (!decide (wO (ay c.r n).1 = 0) && (!decide (c.state = 8) && !decide (c.state = 7))) then ({ c with r := (ay c.r n).1 }, (ay c.r n).2, [bQ { c with r := (ay c.r n).1 }])
     else ({ c with r := (ay c.r n).1 }, (ay c.r n).2, []))
  else (c, ⟨#[]⟩, [])
def aK (s : Snd) (ack : Int) : Snd × Bool :=
  if aM s && cR (aY ack s.una) 0 (af s) then
    (if s.sent < aY ack s.una then ({ s with una := sA s.una (aY ack s.una), data := s.data.extract s.sent.toNat s.data.size, sent := 0, finSent := false, done := true }, true)
     else ({ s with una := sA s.una (aY ack s.una), data := s.data.extract (aY ack s.una).toNat s.data.size, sent := s.sent - aY ack s.una }, true))
  else (s, false)
end
/- The machine: a sign bT; an element of a slice by its address, where the slice may be empty. -/
section
open Go.RowKit
set_option linter.unusedVariables false
set_option linter.unusedSimpArgs false
section
variable {P : Program} {n : Nat} {w0 : World} {st : St} {ρ : Nat → Nat} {σ : Nat → Nat × Nat} {a : Act}
theorem ldQ_run {w : World} {o : Oper} {t : TypeId} {x : Operand} {K b off N cap j po : Nat} {rs : List (List Value)} {row : List Value} {v : Value} {A : Option Addr} (f : Fact) (hsl : ∀ w, f.p w → Sl w (.slice A N cap) K rs) (hr : XRep n w0 st ρ σ a w) (ho : o.op = .load t x) (hx : dO st.tmps x = some (.v (.pointer (some ⟨b, off + j * K + po, none⟩))))
    (hfm : f ∈ st.facts) (hrow : rs[j]? = some row) (hv : loadC P t row po = some v) (hA : A = some ⟨b, off, none⟩) :
    (execOp a.eval o).run P w = .ok (.value v) w := by
  subst hA
  obtain ⟨a1, c1, g1, g2, g3, g4, g5⟩ := hsl w (hr.2.fact _ hfm).1
  simp only [Value.slice.injEq] at g1
  obtain ⟨rfl, rfl, rfl⟩ := g1
  obtain ⟨b', off', g6, g7, g8⟩ := g5 j _ hrow
  simp only [Option.some.injEq, Addr.mk.injEq, and_true] at g6
  obtain ⟨rfl, rfl⟩ := g6
  have := eH (P := P) (o0 := off + j * K) g8 hv
  simp only [execOp, ho, bZ hr.1 hx, Sem.run_bind, this, Result.andThen_ok, Sem.run_pure]
end
end
/- Plain definitions: segments that arrive (no program in sight). -/
section
open Go.RowKit
def slotAt (l : List Int) (i : Nat) : Int := l.getD i (-1)
def gp (l : List Int) (off : Nat) (t : ByteArray) : Nat → List Int
  | 0 => l
  | k + 1 => (gp l off t k).set (off + k) (bP t k)
def eB (l : List Int) : List Pce → List Int
  | [] => l
  | p :: ps => eB (gp l p.off.toNat p.text p.text.size) ps
def aa (r : Rcv) : List Int := eB (List.replicate 33 (-1)) r.held
def restOf (n : Int) : Int := n % 4294967296
def textStep (r : Rcv) (seq : Int) (t : ByteArray) (l : List Int) (k : Nat) : List Int :=
  if restOf (sA seq k - r.next) < wO r ∧ (r.fin < 0 ∨ restOf (sA seq k - r.next) < r.fin) ∧ slotAt l (restOf (sA seq k - r.next)).toNat < 0 then l.set (restOf (sA seq k - r.next)).toNat (bP t k) else l
def gu (r : Rcv) (seq : Int) (t : ByteArray) (l : List Int) : Nat → List Int
  | 0 => l
  | k + 1 => textStep r seq t (gu r seq t l k) k
def da (l : List Int) (i : Nat) : Bool := (l.drop i).all fun x => decide (x < 0)
def f0 (acc : List Pce) (j : Nat) (x : Int) : List Pce := match acc.getLast? with
  | some p => if p.off + (p.text.size : Int) = (j : Int) then acc.dropLast ++ [⟨p.off, p.text ++ ai [x]⟩] else acc ++ [⟨(j : Int), ai [x]⟩]
  | none => [⟨(j : Int), ai [x]⟩]
def gb (acc : List Pce) (j : Nat) : List Int → List Pce
  | [] => acc
  | x :: xs => gb (if x < 0 then acc else f0 acc j x) (j + 1) xs
def eS (l : List Int) : Nat := (l.takeWhile fun x => decide (0 ≤ x)).length
def dD (r : Rcv) (seq : Int) (t : ByteArray) : List Int := gu r seq t (aa r) t.size
def cT (r : Rcv) (seq : Int) (k : Nat) : Nat := (restOf (sA seq k - r.next)).toNat
def finIn (r : Rcv) (seq : Int) (t : ByteArray) (fin : Bool) : Int :=
  if fin && (decide (r.fin < 0) && (decide ((cT r seq t.size : Int) ≤ wO r) && da (dD r seq t) (cT r seq t.size))) then (cT r seq t.size : Int) else r.fin
def finOut (r : Rcv) (seq : Int) (t : ByteArray) (fin : Bool) : Int := if 0 ≤ finIn r seq t fin then finIn r seq t fin - (eS (dD r seq t) : Int) else finIn r seq t fin
def ah (r : Rcv) (seq : Int) (t : ByteArray) (fin : Bool) : Rcv :=
  if rO r && !r.done then
    (if 3 < (gb [] 0 ((dD r seq t).drop (eS (dD r seq t)))).length then r
     else if finOut r seq t fin = 0 then ⟨sA (sA r.next (eS (dD r seq t))) 1, r.data ++ ai ((dD r seq t).take (eS (dD r seq t))), gb [] 0 ((dD r seq t).drop (eS (dD r seq t))), -1, true⟩
     else ⟨sA r.next (eS (dD r seq t)), r.data ++ ai ((dD r seq t).take (eS (dD r seq t))), gb [] 0 ((dD r seq t).drop (eS (dD r seq t))), finOut r seq t fin, r.done⟩)
  else r
theorem offN_eq (r : Rcv) (seq : Int) (k : Nat) : (sA seq (k : Int) - r.next) % 4294967296 = ((cT r seq k : Nat) : Int) := by
  unfold cT restOf
  have := Int.emod_nonneg (sA seq (k : Int) - r.next) (b := 4294967296) (by omega)
  omega
theorem seqAdd_in (a n : Int) : 0 ≤ sA a n ∧ sA a n ≤ 4294967295 := by unfold sA; omega
theorem eY (r : Rcv) (seq : Int) (t : ByteArray) (l : List Int) (k : Nat) : textStep r seq t l k = if ((cT r seq k : Nat) : Int) < wO r ∧ (r.fin < 0 ∨ ((cT r seq k : Nat) : Int) < r.fin) ∧ slotAt l (cT r seq k) < 0 then l.set (cT r seq k) (bP t k) else l := by
  unfold textStep
  have : restOf (sA seq (k : Int) - r.next) = ((cT r seq k : Nat) : Int) := offN_eq r seq k
  rw [this]; rfl
theorem slotAt_of {l : List Int} {i : Nat} {x : Int} (h : l[i]? = some x) : slotAt l i = x := by unfold slotAt; rw [List.getD_eq_getElem?_getD, h]; rfl
theorem freeFrom_step {l : List Int} {i : Nat} {x : Int} (h : l[i]? = some x) : da l i = (decide (x < 0) && da l (i + 1)) := by
  unfold da
  rw [List.drop_eq_getElem_cons (List.getElem?_eq_some_iff.1 h).1, List.all_cons, (List.getElem?_eq_some_iff.1 h).2]
theorem freeFrom_end (l : List Int) : da l l.length = true := by unfold da; rw [List.drop_length]; rfl
theorem init_step {l : List Int} {k : Nat} (h : l.take k = List.replicate k (-1)) (hk : k < l.length) : (l.set k (-1)).take (k + 1) = List.replicate (k + 1) (-1) := by
  rw [List.take_succ_eq_append_getElem (by simpa using hk), List.getElem_set_self, List.take_set_of_le (Nat.le_refl k), h, ← List.replicate_succ']
theorem putText_len (l : List Int) (off : Nat) (t : ByteArray) : ∀ k, (gp l off t k).length = l.length
  | 0 => rfl
  | k + 1 => by simp only [gp, List.length_set]; exact putText_len l off t k
theorem putHeld_len : ∀ (ps : List Pce) (l : List Int), (eB l ps).length = l.length
  | [], _ => rfl
  | p :: ps, l => by simp only [eB]; rw [putHeld_len ps, putText_len]
theorem slotsOf_len (r : Rcv) : (aa r).length = 33 := by unfold aa; rw [putHeld_len, List.length_replicate]
theorem textN_len (r : Rcv) (seq : Int) (t : ByteArray) (l : List Int) : ∀ k, (gu r seq t l k).length = l.length
  | 0 => rfl
  | k + 1 => by
    simp only [gu, textStep]; split
    · rw [List.length_set]; exact textN_len r seq t l k
    · exact textN_len r seq t l k
theorem allIn_len (r : Rcv) (seq : Int) (t : ByteArray) : (dD r seq t).length = 33 := by unfold dD; rw [textN_len, slotsOf_len]
theorem set_le {l : List Int} {i : Nat} {v : Int} (h : ∀ x ∈ l, x ≤ 255) (hv : v ≤ 255) : ∀ x ∈ l.set i v, x ≤ 255 := fun x hx => by
  rcases List.mem_or_eq_of_mem_set hx with h1 | h1
  · exact h x h1
  · omega
theorem putText_le {l : List Int} {off : Nat} {t : ByteArray} (h : ∀ x ∈ l, x ≤ 255) : ∀ k, ∀ x ∈ gp l off t k, x ≤ 255
  | 0 => h
  | k + 1 => by simp only [gp]; exact set_le (putText_le h k) (gf t k).2
theorem putHeld_le : ∀ (ps : List Pce) {l : List Int}, (∀ x ∈ l, x ≤ 255) → ∀ x ∈ eB l ps, x ≤ 255
  | [], _, h => h
  | p :: ps, _, h => by simp only [eB]; exact putHeld_le ps (putText_le h _)
theorem slotsOf_le (r : Rcv) : ∀ x ∈ aa r, x ≤ 255 := by
  unfold aa; exact putHeld_le _ (fun x hx => by have := (List.mem_replicate.1 hx).2; omega)
theorem textN_le {r : Rcv} {seq : Int} {t : ByteArray} {l : List Int} (h : ∀ x ∈ l, x ≤ 255) : ∀ k, ∀ x ∈ gu r seq t l k, x ≤ 255
  | 0 => h
  | k + 1 => by
    simp only [gu, textStep]; split
    · exact set_le (textN_le h k) (gf t k).2
    · exact textN_le h k
theorem allIn_le (r : Rcv) (seq : Int) (t : ByteArray) : ∀ x ∈ dD r seq t, x ≤ 255 := textN_le (slotsOf_le r) _
theorem fA {l : List Int} {k : Nat} (hk : k ≤ l.length) (h : ∀ x ∈ l.take k, 0 ≤ x) (he : ∀ x, l[k]? = some x → x < 0) : eS l = k := by
  unfold eS
  induction l generalizing k with
  | nil => simp at hk; subst hk; rfl
  | cons a l ih =>
    cases k with
    | zero => rw [List.takeWhile_cons, if_neg (by have := he a rfl; simp; omega)]; rfl
    | succ k =>
      rw [List.takeWhile_cons, if_pos (by have := h a (by simp); simpa using this), List.length_cons, ih (by simpa using hk) (fun x hx => h x (by simp [hx])) (fun x hx => he x (by simpa using hx))]
theorem take_more {l : List Int} {k : Nat} {x : Int} (hx : l[k]? = some x) : l.take (k + 1) = l.take k ++ [x] := by rw [List.take_add_one, hx]; rfl
theorem take_pos {l : List Int} {k : Nat} {x : Int} (h : ∀ y ∈ l.take k, 0 ≤ y) (hx : l[k]? = some x) (h0 : 0 ≤ x) : ∀ y ∈ l.take (k + 1), 0 ≤ y := fun y hy => by
  rw [take_more hx] at hy
  rcases List.mem_append.1 hy with hy | hy
  · exact h y hy
  · rw [List.mem_singleton] at hy; omega
theorem bstr_len (l : List Int) : (ai l).size = l.length := by
  have key : ∀ (l : List Int) (b : ByteArray), (l.foldl (fun r n => r.push (UInt8.ofNat n.toNat)) b).size = b.size + l.length := by
    intro l
    induction l with
    | nil => intro b; rfl
    | cons x l ih => intro b; rw [List.foldl_cons, ih, ByteArray.size_push, List.length_cons]; omega
  have := key l ByteArray.empty
  unfold ai; rw [this]; show 0 + l.length = l.length; omega
theorem addByte_set {out : List Pce} {j : Nat} {x : Int} {p : Pce} (h : out[out.length - 1]? = some p) (e : p.off + (p.text.size : Int) = (j : Int)) : f0 out j x = out.set (out.length - 1) ⟨p.off, p.text ++ ai [x]⟩ := by
  have hl : out.getLast? = some p := by rw [List.getLast?_eq_getElem?]; exact h
  unfold f0; rw [hl]; dsimp only; rw [if_pos e]
  have hne : out ≠ [] := fun e => by subst e; simp at h
  obtain ⟨a, b, rfl⟩ : ∃ a b, out = a ++ [b] := ⟨out.dropLast, out.getLast hne, (List.dropLast_concat_getLast hne).symm⟩
  simp
theorem addByte_far {out : List Pce} {j : Nat} {x : Int} {p : Pce} (h : out[out.length - 1]? = some p) (e : ¬ p.off + (p.text.size : Int) = (j : Int)) : f0 out j x = out ++ [⟨(j : Int), ai [x]⟩] := by
  have hl : out.getLast? = some p := by rw [List.getLast?_eq_getElem?]; exact h
  unfold f0; rw [hl]; dsimp only; rw [if_neg e]
theorem addByte_nil {out : List Pce} {j : Nat} {x : Int} (h : out.length = 0) : f0 out j x = out ++ [⟨(j : Int), ai [x]⟩] := by
  rw [List.length_eq_zero_iff] at h; subst h; rfl
theorem addByte_bd {out : List Pce} {j : Nat} {x : Int} (h : ∀ p ∈ out, 0 ≤ p.off ∧ p.off + (p.text.size : Int) ≤ (j : Int)) : ∀ p ∈ f0 out j x, 0 ≤ p.off ∧ p.off + (p.text.size : Int) ≤ (j : Int) + 1 := by
  have h1 : (ai [x]).size = 1 := bstr_len [x]
  have hnew : ∀ p ∈ out ++ [(⟨(j : Int), ai [x]⟩ : Pce)], 0 ≤ p.off ∧ p.off + (p.text.size : Int) ≤ (j : Int) + 1 := fun p hp => by
    rcases List.mem_append.1 hp with hp | hp
    · have := h p hp; omega
    · rw [List.mem_singleton] at hp; subst hp; dsimp only; omega
  cases hl : out[out.length - 1]? with
  | none =>
    rw [addByte_nil (by rw [List.getElem?_eq_none_iff] at hl; omega)]; exact hnew
  | some q =>
    by_cases e : q.off + (q.text.size : Int) = (j : Int)
    · rw [addByte_set hl e]
      intro p hp
      have hq := h q (List.mem_of_getElem? hl)
      rcases List.mem_or_eq_of_mem_set hp with hp | hp
      · have := h p hp; omega
      · subst hp; dsimp only; rw [ByteArray.size_append, h1]; omega
    · rw [addByte_far hl e]; exact hnew
theorem pcs_step {l : List Int} {out : List Pce} {i m : Nat} {x : Int} (h : l[i]? = some x) (hm : m ≤ i) : gb out (i - m) (l.drop i) = gb (if x < 0 then out else f0 out (i - m) x) (i + 1 - m) (l.drop (i + 1)) := by
  rw [List.drop_eq_getElem_cons (List.getElem?_eq_some_iff.1 h).1, (List.getElem?_eq_some_iff.1 h).2, gb, show i - m + 1 = i + 1 - m by omega]
theorem u8_id {x : Int} (h0 : 0 ≤ x) (h1 : x ≤ 255) : IntKind.u8.wrap x = x := by
  have e : IntKind.u8.wrap x = x % 256 := by simp [IntKind.wrap, IntKind.bits, IntKind.signed]
  rw [e]; omega
theorem heldOk_in (m : Int) : ∀ (l : List Pce) (e : Int), 0 ≤ e → ft m e l = true → ∀ p ∈ l, 0 < p.off ∧ p.off + (p.text.size : Int) ≤ m
  | [], _, _, _, p, hp => by simp at hp
  | q :: l, e, he, h, p, hp => by
    simp only [ft, Bool.and_eq_true, decide_eq_true_eq, Bool.not_eq_true'] at h
    have hq : e < q.off ∧ q.off + (q.text.size : Int) ≤ m := by
      obtain ⟨h1, h2⟩ := h
      simp at h1 h2; omega
    rcases List.mem_cons.1 hp with rfl | hp
    · omega
    · exact heldOk_in m l (q.off + (q.text.size : Int)) (by omega) (by simp_all) p hp
theorem ek {r : Rcv} {seq : Int} {t : ByteArray} {fin : Bool} (h1 : rO r = true) (h2 : r.done = false) (h3 : 3 < (gb [] 0 ((dD r seq t).drop (eS (dD r seq t)))).length) : ah r seq t fin = r := by
  unfold ah; rw [if_pos (by rw [h1, h2]; rfl), if_pos h3]
theorem rok_facts {r : Rcv} (h : rO r = true) : r.data.size ≤ 32 ∧ r.held.length ≤ 3 ∧ (0 ≤ r.next ∧ r.next ≤ 4294967295) ∧ (-1 ≤ r.fin ∧ r.fin ≤ wO r) ∧ r.fin ≠ 0 ∧ ∀ p ∈ r.held, 0 < p.off ∧ p.off + (p.text.size : Int) ≤ 32 := by
  unfold rO at h
  simp only [Bool.and_eq_true] at h
  obtain ⟨h1, h2, h3⟩ := h
  obtain ⟨g1, g2, g3, g4, g5⟩ := rcvPre_iff.1 h1
  have hw := fE r
  have g4' := inB_tt.1 g4
  refine ⟨g2, g3, by (have g1b : cR r.next 0 4294967295 = true := by simp [aR] at g1; exact g1.2); exact inB_tt.1 g1b, g4', g5, fun p hp => ?_⟩
  have := heldOk_in _ _ _ (Int.le_refl 0) h2 p hp
  split at this <;> omega
end
/- Plain definitions: sending (no program in sight). -/
section
open Go.RowKit
theorem ca {s : Snd} (h : aM s = true) : 0 ≤ s.una ∧ s.una ≤ 4294967295 ∧ s.data.size ≤ 48 ∧ 0 ≤ s.sent ∧ s.sent ≤ s.data.size ∧ 0 ≤ af s ∧ af s ≤ s.sent + 1 ∧ s.sent ≤ af s ∧
    (s.finSent = true → s.fin = true ∧ s.sent = s.data.size ∧ af s = s.sent + 1) ∧ (s.finSent = false → af s = s.sent) ∧ (s.done = true → s.fin = true ∧ s.finSent = false ∧ s.data.size = 0) := by
  unfold aM at h
  simp only [Bool.and_eq_true, decide_eq_true_eq, aR, cR, Bool.or_eq_true, Bool.not_eq_true'] at h
  obtain ⟨⟨⟨⟨h1, h2⟩, h3⟩, h4⟩, h5⟩ := h
  have e : (2 : Int) ^ (32 : Int).toNat - 1 = 4294967295 := by decide
  rw [e] at h1
  have hw : wrap64 (s.sent + 1) = s.sent + 1 := by unfold wrap64; omega
  refine ⟨by omega, by omega, h2, by omega, by omega, ?_, ?_, ?_, fun hf => ?_, fun hf => ?_, fun hd => ?_⟩
  · unfold af; split <;> omega
  · unfold af; split <;> omega
  · unfold af; split <;> omega
  · simp [hf] at h4; refine ⟨h4.1, h4.2, ?_⟩; unfold af; rw [if_pos hf, hw]
  · unfold af; simp [hf]
  · simp [hd] at h5
    refine ⟨h5.1.1, h5.1.2, ?_⟩
    have h6 := h5.2
    rw [ByteArray.toList_eq] at h6
    have h7 : s.data.data.toList = [] := by simpa only [List.isEmpty_iff] using h6
    show s.data.data.size = 0
    rw [← Array.length_toList, h7]; rfl
theorem conOk_tries (c : Con) : aE c = (aE { c with tries := 0 } && cR c.tries 0 3) := by
  have h : cR 0 0 3 = true := rfl
  simp only [aE, dH, ea, d7, h, Bool.and_true]
  cases cR c.tries 0 3 <;> simp
theorem takenIn_sz (r : Rcv) (n : Int) : (ay r n).1.data.size ≤ r.data.size := by
  unfold ay; split
  · simp only [ByteArray.size_extract]; omega
  · exact Nat.le_refl _
theorem turned_r (c : Con) : (bT c).r = c.r := by unfold bT; (repeat' split) <;> rfl
theorem turned_bd (c : Con) (h : c.r.held.length ≤ 1048576) : (bT c).r.held.length ≤ 1048576 := by rw [turned_r]; exact h
theorem gc (r : Rcv) (n : Int) : (ay r n).1.held = r.held := by unfold ay; split <;> rfl
theorem readConn_bd (c : Con) (n : Int) (h : c.r.held.length ≤ 1048576) : (bu c n).1.r.held.length ≤ 1048576 ∧ (bu c n).2.2.length ≤ 1 := by
  unfold bu; (repeat' split) <;> simp [gc, h]
def bg : Chk := ⟨0, ⟨#[]⟩, false⟩
def fg (s : Snd) (window : Int) : Int := max 0 (max 0 (min window 1000000) - af s)
def aZ (s : Snd) (window mss : Int) : Int := max 0 (min (min mss (fg s window)) (s.data.size - s.sent))
def aX (s : Snd) (window mss : Int) : Bool := s.fin && (!s.finSent && (!s.done && (decide (s.sent + aZ s window mss = s.data.size) && decide (aZ s window mss < fg s window))))
def nC (s : Snd) (window mss : Int) : Chk × Bool :=
  if aM s then
    (if decide (aZ s window mss = 0) && !aX s window mss then (bg, false)
     else (⟨ag s, s.data.extract s.sent.toNat (s.sent + aZ s window mss).toNat, aX s window mss⟩, true))
  else (bg, false)
def sentS (s : Snd) (c : Chk) : Snd := { s with sent := IntKind.i64.wrap (s.sent + (c.text.size : Int)), finSent := s.finSent || c.fin }
def sO (s : Snd) (c : Chk) : Snd := if aM s && (aM (sentS s c) && !(c.fin && s.done)) then sentS s c else s
end
/- The machine, in short: calls that write, in draws. -/
section
open Go.RowKit
set_option linter.unusedVariables false
section
variable {P : Program} {n : Nat} {w0 : World} {QX : Exit → St → Prop} {ops : Array Oper} {l : List Oper} {st st' : St} {t t' : List (Nat × AV)} {b : List Box} {r : List (List Value)} {fs : List Fact}
theorem kWS (k : Nat) (ks : List Nat) (t' : List (Nat × AV)) (f : FuncId) (args : List Value) (d : Option Nat) {α : Type} {F : α → Value} {G : α → List Fact} {o : Oper} (i : Nat) {fi : Fact} (ho : l[k]? = some o) (hi : fs[i]? = some fi) (hlo : ∀ w b, fi.p w → fi.blk b → w0.heap.size ≤ b) (hk : XCM P w0 fs fi.blk f args F G)
    (hn : ∀ y, XL P n w0 ops QX (l.drop (k + 1)) ⟨cW t' d (.v (F y)), b, [], G y ++ dropF fs i⟩) (hown : fi.own = true := by rfl) (h : dl P n ops l k ks ⟨t, b, r, fs⟩ = some ⟨t', b, r, fs⟩ := by kernel_rfl) (hc : ej ops ⟨t', b, r, fs⟩ o = some (f, args, d) := by kernel_rfl) (hd : cb n d = true := by kernel_rfl) (hf : fnOk P f = true := by kernel_rfl) (hrows : allT (eO b) 0 t' = true := by kernel_rfl) : XL P n w0 ops QX l ⟨t, b, r, fs⟩ := xl_callW k ks ⟨t', b, r, fs⟩ f args d i fi h ho hc hd hf hi hown hlo hrows hk hn
theorem d2 (k : Nat) (ks : List Nat) (us : List (Nat × AV)) (f : FuncId) (args : List Value) (d : Option Nat) {α : Type} {F : α → Value} {G : α → List Fact} {o : Oper} (i : Nat) {fi : Fact} (ho : l[k]? = some o) (hi : fs[i]? = some fi) (hlo : ∀ w b, fi.p w → fi.blk b → w0.heap.size ≤ b) (hk : XCM P w0 fs fi.blk f args F G)
    (hn : ∀ y, XL P n w0 ops QX (l.drop (k + 1)) ⟨cW (dt us t ks) d (.v (F y)), b, [], G y ++ dropF fs i⟩) (hown : fi.own = true := by rfl) (h : dl P n ops l k ks ⟨t, b, r, fs⟩ = some ⟨dt us t ks, b, r, fs⟩ := by kernel_rfl) (hc : ej ops ⟨dt us t ks, b, r, fs⟩ o = some (f, args, d) := by kernel_rfl) (hd : cb n d = true := by kernel_rfl) (hf : fnOk P f = true := by kernel_rfl) (hrows : allT (eO b) 0 (dt us t ks) = true := by kernel_rfl) : XL P n w0 ops QX l ⟨t, b, r, fs⟩ := xl_callW k ks ⟨dt us t ks, b, r, fs⟩ f args d i fi h ho hc hd hf hi hown hlo hrows hk hn
variable {fuel : Nat} {listed : Array Bool} {B : List Box} {R : List (List Value)} {ρ : Nat → Nat} {σ : Nat → Nat × Nat}
theorem eD (i : Nat) (f : FuncId) (args : List Value) (d : Option Nat) {α : Type} {F : α → Value} {G : α → List Fact} {o : Oper} (k : Nat) {fi : Fact} (hi : ops[i]? = some o) (hfi : st.facts[k]? = some fi) (hlo : ∀ w b, fi.p w → fi.blk b → w0.heap.size ≤ b) (hB : Under B st.boxes) (hk : XCM P w0 st.facts fi.blk f args F G)
    (h : ∀ y, XE P n w0 ops QX fuel (listed.setIfInBounds i true) B [] ρ σ ⟨cW st.tmps d (.v (F y)), st.boxes, [], G y ++ dropF st.facts k⟩) (hown : fi.own = true := by rfl) (hc : ej ops st o = some (f, args, d) := by kernel_rfl) (hd : cb n d = true := by kernel_rfl) (hf : fnOk P f = true := by kernel_rfl) (hrows : allT (eO st.boxes) 0 st.tmps = true := by kernel_rfl) : XEs P n w0 ops QX fuel listed B [] ρ σ st i := xs_callW i f args d k fi hi hc hd hf hfi hown hlo hrows hB rfl hk h
end
end
/- Plain definitions: new connections (no program in sight). -/
section
open Go.RowKit
def cj (window : Int) (o : Opt) : Int := window * 2 ^ (max 0 o.scale).toNat
def rN (n : Int) : Rcv := ⟨n % 4294967296, ⟨#[]⟩, [], -1, false⟩
def cY (t : Tup) (iss irs : Int) (o : Opt) (window : Int) : Con :=
  if bL o then (if aR window 16 then ⟨t, 1, ⟨sA iss 1, ⟨#[]⟩, 0, false, false, false⟩, rN (sA irs 1), cj window o, cj window o, o, 0, 0⟩
    else ⟨t, 1, ⟨sA iss 1, ⟨#[]⟩, 0, false, false, false⟩, rN (sA irs 1), cj 0 o, cj 0 o, o, 0, 0⟩)
  else (if aR window 16 then ⟨t, 1, ⟨sA iss 1, ⟨#[]⟩, 0, false, false, false⟩, rN (sA irs 1), cj window ⟨0, -1, false, false, 0, 0⟩, cj window ⟨0, -1, false, false, 0, 0⟩, ⟨0, -1, false, false, 0, 0⟩, 0, 0⟩
    else ⟨t, 1, ⟨sA iss 1, ⟨#[]⟩, 0, false, false, false⟩, rN (sA irs 1), cj 0 ⟨0, -1, false, false, 0, 0⟩, cj 0 ⟨0, -1, false, false, 0, 0⟩, ⟨0, -1, false, false, 0, 0⟩, 0, 0⟩)
theorem connNew_bd (t : Tup) (iss irs : Int) (o : Opt) (window : Int) (h : 0 ≤ 1) : (cY t iss irs o window).r.held.length ≤ 1048576 := by
  unfold cY; (repeat' split) <;> exact Nat.zero_le _
theorem wordOk16_bd {n : Int} (h : aR n 16 = true) : 0 ≤ n ∧ n ≤ 65535 := by
  simp only [aR, Bool.and_eq_true, inB_tt] at h
  have e : (2 : Int) ^ (16 : Int).toNat - 1 = 65535 := by decide
  rw [e] at h; omega
theorem gk {o : Opt} (h : bL o = true) : -1 ≤ o.scale ∧ o.scale ≤ 14 := by
  simp only [bL, Bool.and_eq_true, inB_tt] at h; omega
theorem ed {n : Int} (h1 : 0 ≤ n) (h2 : n ≤ 9223372036854775807) : IntKind.u64.wrap n = n := by
  simp only [IntKind.wrap, IntKind.bits, IntKind.signed]; simp; omega
end
/- Opening an argument of bytes. -/
section
open Go.RowKit Go.ChangeShapes Go.WideShapes
set_option linter.unusedVariables false
set_option maxRecDepth 100000 in
theorem openS_byte {H : Type} {enc : TypeId × Value → H} {W : World} {v : Value} {d : DataW H} {p : List MemPlace} {b0 : Nat} (hv : Value.okWide Try.prog W .any b0 22 v)
    (h : DataW.Trod enc Try.prog W 0 (fun _ => true) true 22 v d p) : ∃ l : List Int, Sl W v 1 (l.map bR) := by
  obtain ⟨a0, len0, cap0, rfl⟩ := Go.WideShapes.okWide_slice Try.underlying22 hv
  obtain ⟨fuel, hf⟩ := h
  have hc : Try.prog.cellsOf 5 = 1 := by kernel_rfl
  rcases Go.Deep.open_slice Try.underlying22 hf with ⟨hcs, -⟩ | ⟨a, len, cap, m, n, D, Pl, hcs, hb, hl, hm, hmm, hx, hi⟩
  · simp only [Value.cells, List.cons.injEq, and_true] at hcs
    have hcs' : Value.slice a0 len0 cap0 = .slice none 0 0 := by simpa using hcs
    rw [hcs']
    exact ⟨[], Sl.nil W 1⟩
  · have hs : ∀ i, i < len → ∃ x : Int, W.cells? 0 (a.add (i * 1)) 1 = some (bR x) := fun i hlt => by
      obtain ⟨cs', h1, h2⟩ := hi i (by simp at hmm; omega)
      rw [hc] at h1
      obtain ⟨k, e, -, -⟩ := DataW.trod_int Try.underlying5 h2
      subst e
      exact ⟨k, h1⟩
    obtain ⟨f, hf⟩ := Go.Deep.choose_lt hs
    refine ⟨(List.range len).map f, ?_⟩
    have hcs' : Value.slice a0 len0 cap0 = .slice (some a) len cap := by simpa [Value.cells] using hcs
    rw [hcs', List.map_map]
    exact Sl.of_open hl hm (by omega) hf
end
end Go.Proofs.Ytccijpdjfelbmaa
