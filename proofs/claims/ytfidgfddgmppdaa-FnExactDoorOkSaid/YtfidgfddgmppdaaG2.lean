/- Plain definitions, the machine and its rules: what this law's contracts need of them, part 2. -/
import Derived.Test.YtfidgfddgmppdaaG1
import Derived.ArgAppend
/- Plain laws: tables of connections (no program in sight). -/
namespace Go.Proofs.Ytfidgfddgmppdaa
section
open Go.RowKit
def pl (cs : List CV) : List Con := cs.map (·.1)
def conMax (c : Con) : Prop := c.s.data.size ≤ maxLen ∧ c.r.data.size ≤ maxLen ∧ ∀ p ∈ c.r.held, p.text.size ≤ maxLen
def cr (c : Con) : Prop := c.s.data.size ≤ 1048576 ∧ c.r.data.size ≤ 1048576 ∧ c.r.held.length ≤ 1048576 ∧ ∀ p ∈ c.r.held, p.text.size ≤ 1048576
def ay (t : Tab) (x : Tup) : Int := dl (t.conns.findIdx? (fun c => aU c.1.t x))
def cF (l : List Tup) (x : Tup) : Bool := l.any (fun y => aU y x)
def ct (l : List Tup) (x : Tup) : Int := dl (l.findIdx? (fun y => aU y x))
def allI {α : Type} (p : Nat → α → Bool) : List α → Nat → Bool
  | [], _ => true
  | x :: r, i => p i x && allI p r (i + 1)
def cOne (t : Tab) (i : Nat) (c : CV) : Bool := aY c.1 && decide (ay t c.1.t = (i : Int))
def wOne (t : Tab) (i : Nat) (x : Tup) : Bool := decide (0 ≤ ay t x) && decide (ct t.waiting x = (i : Int))
def aW (t : Tab) (l : Lim) : Bool := bM l && (decide ((t.conns.length : Int) ≤ l.conns) && (decide ((t.waiting.length : Int) ≤ l.waiting) && (allI (cOne t) t.conns 0 && allI (wOne t) t.waiting 0)))
theorem allI_no {α : Type} {p : Nat → α → Bool} : ∀ (r : List α) (i k : Nat) (x : α), r[k]? = some x → p (i + k) x = false → allI p r i = false
  | [], i, k, x, hk, _ => by simp at hk
  | y :: r, i, 0, x, hk, hh => by
    simp at hk; subst hk
    simp only [Nat.add_zero] at hh
    simp [allI, hh]
  | y :: r, i, k + 1, x, hk, hh => by
    have := allI_no r (i + 1) k x (by simpa using hk) (by rw [show i + 1 + k = i + (k + 1) by omega]; exact hh)
    simp [allI, this]
theorem allI_yes {α : Type} {p : Nat → α → Bool} : ∀ (r : List α) (i : Nat), (∀ (k : Nat) (x : α), r[k]? = some x → p (i + k) x = true) → allI p r i = true
  | [], _, _ => rfl
  | x :: r, i, hh => by
    have h0 := hh 0 x rfl
    simp only [Nat.add_zero] at h0
    have h1 := allI_yes r (i + 1) (fun k y hk => by rw [show i + 1 + k = i + (k + 1) by omega]; exact hh (k + 1) y (by simpa using hk))
    simp [allI, h0, h1]
theorem allI_one {α : Type} {p : Nat → α → Bool} {l : List α} {k : Nat} {x : α} (hx : l[k]? = some x) (h : p k x = false) : allI p l 0 = false := allI_no l 0 k x hx (by rw [Nat.zero_add]; exact h)
theorem allI_all {α : Type} {p : Nat → α → Bool} {l : List α} {k : Nat} (hk : k = l.length) (h : ∀ (i : Nat) (x : α), i < k → l[i]? = some x → p i x = true) : allI p l 0 = true :=
  allI_yes l 0 fun i x hi => by rw [Nat.zero_add]; exact h i x (by rw [hk]; exact (List.getElem?_eq_some_iff.1 hi).1) hi
theorem df {α : Type} {p : Nat → α → Bool} {l : List α} {k : Nat} {x : α} (hx : l[k]? = some x) (h : p k x = true) (hk : ∀ (i : Nat) (x : α), i < k → l[i]? = some x → p i x = true) : ∀ (i : Nat) (x : α), i < k + 1 → l[i]? = some x → p i x = true := fun i y hi hy => by
  rcases Nat.lt_succ_iff_lt_or_eq.1 hi with hi | rfl
  · exact hk i y hi hy
  · rw [hx] at hy; simp only [Option.some.injEq] at hy; subst hy; exact h
theorem dk {α : Type} {p : α → Bool} {l : List α} {k : Nat} {x : α} (hx : l[k]? = some x) (h : p x = false) (hk : ∀ (i : Nat) (x : α), i < k → l[i]? = some x → p x = false) : ∀ (i : Nat) (x : α), i < k + 1 → l[i]? = some x → p x = false := fun i y hi hy => by
  rcases Nat.lt_succ_iff_lt_or_eq.1 hi with hi | rfl
  · exact hk i y hi hy
  · rw [hx] at hy; simp only [Option.some.injEq] at hy; subst hy; exact h
theorem findConn_eq {t : Tab} {x : Tup} {k : Nat} {c : CV} (hk : t.conns[k]? = some c) (hp : aU c.1.t x = true) (hno : ∀ (i : Nat) (h' : CV), i < k → t.conns[i]? = some h' → aU h'.1.t x = false) : ay t x = (k : Int) := by
  unfold ay; rw [cE (p := fun c : CV => aU c.1.t x) hk hp hno]; rfl
theorem findConn_no {t : Tab} {x : Tup} {k : Nat} (hk : k = t.conns.length) (hno : ∀ (i : Nat) (h' : CV), i < k → t.conns[i]? = some h' → aU h'.1.t x = false) : ay t x = -1 := by
  unfold ay; rw [cB (p := fun c : CV => aU c.1.t x) fun i h' hh => hno i h' (by rw [hk]; exact (List.getElem?_eq_some_iff.1 hh).1) hh]; rfl
theorem idxTup_eq {l : List Tup} {x y : Tup} {k : Nat} (hk : l[k]? = some y) (hp : aU y x = true) (hno : ∀ (i : Nat) (h' : Tup), i < k → l[i]? = some h' → aU h' x = false) : ct l x = (k : Int) := by
  unfold ct; rw [cE (p := fun y => aU y x) hk hp hno]; rfl
theorem idxTup_no {l : List Tup} {x : Tup} {k : Nat} (hk : k = l.length) (hno : ∀ (i : Nat) (h' : Tup), i < k → l[i]? = some h' → aU h' x = false) : ct l x = -1 := by
  unfold ct; rw [cB (p := fun y => aU y x) fun i h' hh => hno i h' (by rw [hk]; exact (List.getElem?_eq_some_iff.1 hh).1) hh]; rfl
theorem isWait_yes {l : List Tup} {x y : Tup} {k : Nat} (hk : l[k]? = some y) (hp : aU y x = true) : cF l x = true := by
  unfold cF; rw [List.any_eq_true]; exact ⟨y, List.mem_of_getElem? hk, hp⟩
theorem isWait_no {l : List Tup} {x : Tup} {k : Nat} (hk : k = l.length) (hno : ∀ (i : Nat) (h' : Tup), i < k → l[i]? = some h' → aU h' x = false) : cF l x = false := by
  unfold cF; rw [List.any_eq_false]; intro y hy
  obtain ⟨i, hi⟩ := List.getElem?_of_mem hy
  rw [hno i y (by rw [hk]; exact (List.getElem?_eq_some_iff.1 hi).1) hi]; simp
theorem tupSelf (t : Tup) : aU t t = true := by simp [aU]
theorem tupEq_comm (a b : Tup) : aU a b = aU b a := by unfold aU; simp only [eq_comm]
theorem isWait_pre {l : List Tup} {k : Nat} {x : Tup} (hx : l[k]? = some x) : cF (l.take k) x = true ↔ ¬ ct l x = (k : Int) := by
  obtain ⟨hlt, e⟩ := List.getElem?_eq_some_iff.1 hx
  cases hf : l.findIdx? (fun y => aU y x) with
  | none =>
    rw [List.findIdx?_eq_none_iff] at hf
    have := hf x (List.mem_of_getElem? hx)
    rw [tupSelf] at this; cases this
  | some j =>
    obtain ⟨h1, h2, h3⟩ := List.findIdx?_eq_some_iff_getElem.1 hf
    have e2 : ct l x = (j : Int) := by unfold ct dl; rw [hf]
    have hjk : j ≤ k := by
      rcases Nat.lt_or_ge k j with h | h
      · have := h3 k h; rw [e, tupSelf] at this; simp at this
      · exact h
    rw [e2]
    unfold cF
    rw [List.any_eq_true]
    constructor
    · rintro ⟨y, hy, hyx⟩ hjk2
      obtain ⟨i, hi, rfl⟩ := List.mem_take_iff_getElem.1 hy
      have := h3 i (by omega)
      rw [hyx] at this; simp at this
    · intro hne
      have hlt2 : j < k := by omega
      exact ⟨l[j], List.mem_take_iff_getElem.2 ⟨j, by omega, rfl⟩, h2⟩
theorem pl_len {a b : List CV} (h : pl a = pl b) : a.length = b.length := by
  have := congrArg List.length h; simpa [pl] using this
theorem pl_get {a b : List CV} (h : pl a = pl b) {i : Nat} {x : CV} (hx : a[i]? = some x) : ∃ v, b[i]? = some (x.1, v) := by
  have h1 : (pl a)[i]? = some x.1 := by unfold pl; rw [List.getElem?_map, hx]; rfl
  rw [h] at h1
  unfold pl at h1
  rw [List.getElem?_map] at h1
  cases hb : b[i]? with
  | none => rw [hb] at h1; cases h1
  | some y =>
    rw [hb] at h1
    simp only [Option.map_some, Option.some.injEq] at h1
    obtain ⟨c, v⟩ := y
    exact ⟨v, by simp only at h1; rw [h1]⟩
theorem pl_set {L a : List CV} {i : Nat} {x : CV} {v : Value} (h : (pl L).take i = (pl a).take i) (hx : a[i]? = some x) (hl : i < L.length) : (pl (L.set i (x.1, v))).take (i + 1) = (pl a).take (i + 1) := by
  have h1 : (pl a)[i]? = some x.1 := by unfold pl; rw [List.getElem?_map, hx]; rfl
  have h2 : (pl (L.set i (x.1, v)))[i]? = some x.1 := by unfold pl; rw [List.getElem?_map, List.getElem?_set_self hl]; rfl
  rw [List.take_add_one, List.take_add_one, h1, h2, ← h]
  unfold pl
  rw [List.map_set, List.take_set_of_le (Nat.le_refl i)]
theorem findConn_pl {t t' : Tab} (h : pl t.conns = pl t'.conns) (x : Tup) : ay t x = ay t' x := by
  have key : ∀ s : Tab, ay s x = dl ((pl s.conns).findIdx? (fun c => aU c.t x)) := fun s => by
    unfold ay pl; rw [List.findIdx?_map]; rfl
  rw [key, key, h]
theorem conFit_pl {a b : List CV} (h : pl a = pl b) (hb : ∀ x ∈ b, cr x.1) : ∀ x ∈ a, cr x.1 := fun x hx => by
  obtain ⟨i, hi⟩ := List.getElem?_of_mem hx
  obtain ⟨v, hv⟩ := pl_get h hi
  exact hb (x.1, v) (List.mem_of_getElem? hv)
theorem tableOk_c {t : Tab} {l : Lim} {k : Nat} {x : CV} (hx : t.conns[k]? = some x) (h : cOne t k x = false) : aW t l = false := by
  unfold aW; rw [allI_one hx h]; simp
theorem tableOk_w {t : Tab} {l : Lim} {k : Nat} {x : Tup} (hx : t.waiting[k]? = some x) (h : wOne t k x = false) : aW t l = false := by
  unfold aW; rw [allI_one hx h]; simp
theorem b0 {t : Tab} {l : Lim} {k : Nat} (hl : bM l = true) (h1 : ¬ (t.conns.length : Int) > l.conns) (h2 : ¬ (t.waiting.length : Int) > l.waiting) (hc : allI (cOne t) t.conns 0 = true) (hk : k = t.waiting.length) (hw : ∀ (i : Nat) (x : Tup), i < k → t.waiting[i]? = some x → wOne t i x = true) : aW t l = true := by
  unfold aW; rw [hl, hc, allI_all hk hw, decide_eq_true (by omega), decide_eq_true (by omega)]; rfl
theorem b6 {t : Tab} {l : Lim} (h : bM l = false) : aW t l = false := by unfold aW; rw [h]; rfl
theorem b5 {t : Tab} {l : Lim} (h : (t.conns.length : Int) > l.conns) : aW t l = false := by unfold aW; rw [decide_eq_false (p := (t.conns.length : Int) ≤ l.conns) (by omega)]; simp
theorem aH {t : Tab} {l : Lim} (h : (t.waiting.length : Int) > l.waiting) : aW t l = false := by unfold aW; rw [decide_eq_false (p := (t.waiting.length : Int) ≤ l.waiting) (by omega)]; simp
theorem wait_pre {l : List Tup} {k : Nat} {x : Tup} (hx : l[k]? = some x) : cF ((l.drop 0).take (k - 0)) x = !decide (ct l x = (k : Int)) := by
  rw [List.drop_zero, Nat.sub_zero]
  have h := isWait_pre hx
  by_cases e : ct l x = (k : Int)
  · rw [decide_eq_true e]
    cases hw : cF (l.take k) x
    · rfl
    · exact absurd e (h.1 hw)
  · rw [decide_eq_false e, h.2 e]; rfl
theorem cOne_no1 {t : Tab} {k : Nat} {x : CV} (h : aY x.1 = false) : cOne t k x = false := by unfold cOne; rw [h]; rfl
theorem cOne_no2 {t : Tab} {k : Nat} {x : CV} (h : ¬ ay t x.1.t = (k : Int)) : cOne t k x = false := by unfold cOne; rw [decide_eq_false h]; simp
theorem cOne_yes {t : Tab} {k : Nat} {x : CV} (h : aY x.1 = true) (h2 : ay t x.1.t = (k : Int)) : cOne t k x = true := by unfold cOne; rw [h, decide_eq_true h2]; rfl
theorem wOne_no1 {t : Tab} {k : Nat} {x : Tup} (h : ay t x < 0) : wOne t k x = false := by unfold wOne; rw [decide_eq_false (by omega)]; rfl
theorem wOne_no2 {t : Tab} {k : Nat} {x : Tup} (h : ¬ ct t.waiting x = (k : Int)) : wOne t k x = false := by unfold wOne; rw [decide_eq_false h]; simp
theorem wOne_yes {t : Tab} {k : Nat} {x : Tup} (h : ¬ ay t x < 0) (h2 : ct t.waiting x = (k : Int)) : wOne t k x = true := by unfold wOne; rw [decide_eq_true (by omega), decide_eq_true h2]; rfl
theorem allI_map {α β : Type} (f : α → β) {p : Nat → α → Bool} {q : Nat → β → Bool} (h : ∀ i x, p i x = q i (f x)) : ∀ (l : List α) (i : Nat), allI p l i = allI q (l.map f) i
  | [], _ => rfl
  | x :: l, i => by simp only [allI, List.map_cons]; rw [h, allI_map f h l]
def cOneP (f : Tup → Int) (i : Nat) (c : Con) : Bool := aY c && decide (f c.t = (i : Int))
def wOneP (f : Tup → Int) (l : List Tup) (i : Nat) (x : Tup) : Bool := decide (0 ≤ f x) && decide (ct l x = (i : Int))
theorem cOne_P (t : Tab) (i : Nat) (x : CV) : cOne t i x = cOneP (ay t) i x.1 := by unfold cOne cOneP; rfl
theorem wOne_P (t : Tab) : wOne t = wOneP (ay t) t.waiting := by funext i x; unfold wOne wOneP; rfl
theorem allC_P (t : Tab) : allI (cOne t) t.conns 0 = allI (cOneP (ay t)) (pl t.conns) 0 := allI_map (fun x : CV => x.1) (cOne_P t) t.conns 0
theorem tableOk_pl {t t' : Tab} (h : pl t.conns = pl t'.conns) (hw : t.waiting = t'.waiting) (l : Lim) : aW t l = aW t' l := by
  have hf : ay t = ay t' := funext (findConn_pl h)
  unfold aW; rw [allC_P, allC_P, wOne_P, wOne_P, hf, h, hw, pl_len h]
end
/- The machine: a row of the call's own, cut in place. -/
section
open Go.RowKit
set_option linter.unusedVariables false
set_option linter.unusedSimpArgs false
section
variable {P : Program} {n : Nat} {w0 : World} {QX : Exit → St → Prop} {st st' : St} {ops : Array Oper} {l : List Oper} {ρ : Nat → Nat} {σ : Nat → Nat × Nat} {a : Act}
theorem chgd_cells {w : World} {g o : Nat} {cs : List Value} {S : Nat → Prop} (hS : S g) : Chgd S w (w.setCells g o cs) := by
  obtain ⟨h1, h2, h3⟩ := cA g cs o w
  exact ⟨h1, h2, h3, Nat.le_of_eq (cR g cs o w).symm, fun k _ hk => cq g cs o w k (fun e => hk (e ▸ hS))⟩
end
end
/- The machine: a variable of the caller's, by its address; calls in drawn regions that write. -/
section
open Go.RowKit
set_option linter.unusedVariables false
set_option linter.unusedSimpArgs false
def cellF (B g T : Nat) (cs : List Value) : Fact where
  own := true
  p := fun w => B ≤ g ∧ w.heap[g]? = some (.cells cs.toArray T (0, 0))
  blk := fun b => b = g
  lt := fun w b h hb => by subst hb; exact (Array.getElem?_eq_some_iff.1 h.2).1
  keep := fun w w' h hs hb => ⟨h.1, (hb g rfl).trans h.2⟩
section
variable {P : Program} {n : Nat} {w0 : World} {QX : Exit → St → Prop} {st st' : St} {ops : Array Oper} {l : List Oper} {ρ : Nat → Nat} {σ : Nat → Nat × Nat} {a : Act}
theorem act_fld {w : World} {o : Oper} {s fi : Nat} {fs : Array Field} {fd : Field} {x : Operand} {b m q sz : Nat} (h : XAct n st ρ σ a) (ho : o.op = .fieldAddr s x fi)
    (hu : P.underlying s = some (.struct fs)) (hf : fs[fi]? = some fd) (hi : (P.info? fd.type).map (·.size) = some sz) (hz : Nat.beq sz 0 = false) (hx : cC st.tmps x = some (.v (.pointer (some ⟨b, m, none⟩)))) (hq : m + fd.offset = q) :
    (execOp a.eval o).run P w = .ok (.value (.pointer (some ⟨b, q, none⟩))) w := by
  subst hq
  have h1 := bf h hx
  cases hin : P.info? fd.type with
  | none => simp [hin] at hi
  | some inf =>
    have hs : ¬ inf.size = 0 := by
      have : inf.size = sz := by simpa [hin] using hi
      intro e; rw [this] at e; subst e; cases hz
    simp only [execOp, ho, h1, ck, Instr.fieldAt, Sem.run_bind, run_underlying hu, Result.andThen_ok, hf, Instr.sureAddr, Sem.run_pure, fieldPlace, sizeOf, typeInfo, run_program, hin, hs, if_false, Addr.add_mid]
theorem ld_range {w : World} {o : Oper} {t : TypeId} {x : Operand} {g off : Nat} {cs : List Value} {v : Value} (h : XAct n st ρ σ a) (ho : o.op = .load t x) (hx : cC st.tmps x = some (.v (.pointer (some ⟨g, off, none⟩)))) (hr : w.rangeAt g 0 cs) (hv : loadC P t cs off = some v) :
    (execOp a.eval o).run P w = .ok (.value v) w := by
  have := loadC_run (P := P) (o0 := 0) hr hv
  rw [Nat.zero_add] at this
  simp only [execOp, ho, bf h hx, Sem.run_bind, this, Result.andThen_ok, Sem.run_pure]
theorem cellF_range {w : World} {B g T : Nat} {cs : List Value} (h : (cellF B g T cs).p w) : w.rangeAt g 0 cs := fun j v hv => by
  rw [Nat.zero_add, cell_of_row w g j _ T (0, 0) h.2]; simpa using hv
theorem ldP_run {w : World} {o : Oper} {t : TypeId} {x : Operand} {B g T off : Nat} {cs : List Value} {v : Value} (hr : XRep n w0 st ρ σ a w) (ho : o.op = .load t x) (hx : cC st.tmps x = some (.v (.pointer (some ⟨g, off, none⟩)))) (hf : cellF B g T cs ∈ st.facts) (hv : loadC P t cs off = some v) :
    (execOp a.eval o).run P w = .ok (.value v) w := ld_range hr.1 ho hx (cellF_range (hr.2.fact _ hf).1) hv
variable {fuel : Nat} {listed : Array Bool} {B : List Box} {R : List (List Value)}
end
end
/- The cursor of the draws: a block of the call's own, of which little is known. -/
section
open Go.RowKit
set_option linter.unusedVariables false
set_option linter.unusedSimpArgs false
end
/- The machine: an element of a row of the call's own, by its address: stores, also in drawn regions. -/
section
open Go.RowKit
set_option linter.unusedVariables false
set_option linter.unusedSimpArgs false
theorem setL_cons {r R cs : List Value} {K a : Nat} (hr : r.length = K) : r ++ setL R a cs = setL (r ++ R) (K + a) cs := by
  subst hr
  simp only [setL]
  rw [List.take_length_add_append, show r.length + a + cs.length = r.length + (a + cs.length) by omega, List.drop_length_add_append]
  simp only [List.append_assoc]
theorem flat_set {K po : Nat} {cs : List Value} : ∀ {rs : List (List Value)} {j : Nat} {row : List Value}, (∀ r ∈ rs, r.length = K) → rs[j]? = some row → po + cs.length ≤ K → (rs.set j (setL row po cs)).flatten = setL rs.flatten (j * K + po) cs
  | [], j, row, _, h, _ => by simp at h
  | r :: rs, 0, row, hK, h, hp => by
    simp only [List.getElem?_cons_zero, Option.some.injEq] at h; subst h
    have hr := hK r (by simp)
    simp only [List.set_cons_zero, List.flatten_cons, setL, Nat.zero_mul, Nat.zero_add]
    rw [List.take_append_of_le_length (by omega), List.drop_append_of_le_length (by omega)]
    simp only [List.append_assoc]
  | r :: rs, j + 1, row, hK, h, hp => by
    simp only [List.getElem?_cons_succ] at h
    have hr := hK r (by simp)
    simp only [List.set_cons_succ, List.flatten_cons]
    rw [flat_set (fun q hq => hK q (by simp [hq])) h hp, setL_cons hr, Nat.succ_mul]
    congr 1; omega
theorem setL_take {l cs : List Value} {o m : Nat} (h : o + cs.length ≤ m) (hm : m ≤ l.length) : (setL l o cs).take m = setL (l.take m) o cs := by
  have hl : (l.take o).length = o := by rw [List.length_take]; omega
  simp only [setL]
  rw [List.append_assoc, List.append_assoc, List.take_append, hl, List.take_append, List.take_of_length_le (l := List.take o l) (by omega), List.take_of_length_le (l := cs) (by omega), List.take_take, Nat.min_eq_left (by omega), List.drop_take, show m - (o + cs.length) = m - o - cs.length by omega]
theorem setL_len {l cs : List Value} {o : Nat} (h : o + cs.length ≤ l.length) : (setL l o cs).length = l.length := by
  simp only [setL, List.length_append, List.length_take, List.length_drop]; omega
section
variable {P : Program} {n : Nat} {w0 : World} {st : St}
theorem act_ix {ρ : Nat → Nat} {σ : Nat → Nat × Nat} {a : Act} {o : Oper} {T e : TypeId} {x idx : Operand} {g K N cap : Nat} {kd : IntKind} {A : Option Addr} (j : Nat) (hA : A = some ⟨g, 0, none⟩) (h : XAct n st ρ σ a) (hop : o.op = .indexAddr T x idx)
    (hu : P.underlying T = some (.slice e)) (hi : (P.info? e).map (·.size) = some K) (hx : cC st.tmps x = some (.v (.slice A N cap))) (hidx : cC st.tmps idx = some (.v (.int kd (j : Int)))) (hlt : j < N) (w : World) :
    (execOp a.eval o).run P w = .ok (.value (.pointer (some ⟨g, j * K, none⟩))) w := by
  simp only [execOp, hop, bf h hx, bf h hidx, Sem.run_bind, index_run hu hi hA hlt w, Result.andThen_ok, Sem.run_pure, Nat.zero_add]
def HSg (P : Program) (n : Nat) (w0 : World) (st : St) (o : Oper) (g : Nat) (G : List Fact) : Prop :=
  ∀ ρ σ a w, XRep n w0 st ρ σ a w → ∃ w', (execOp a.eval o).run P w = .ok .skip w' ∧ XHeap w0 st.boxes [] G ρ σ w' ∧ Chgd (fun b => b = g) w w'
theorem HSg.hs {o : Oper} {g : Nat} {G : List Fact} (h : HSg P n w0 st o g G) : HS P n w0 st o G := fun ρ σ a w hr => let ⟨w', h1, h2, _⟩ := h ρ σ a w hr; ⟨w', h1, h2⟩
theorem hs_stR {o : Oper} {t : TypeId} {x y : Operand} {g B e K N cap i off : Nat} {A : Option Addr} {rs rs' : List (List Value)} {v : Value} (j po : Nat) (row : List Value) {row' : List Value} (hA : A = some ⟨g, 0, none⟩) (hop : o.op = .store t x y)
    (hx : cC st.tmps x = some (.v (.pointer (some ⟨g, off, none⟩)))) (ho : off = j * K + po) (hy : cC st.tmps y = some (.v v)) (hsz : (P.info? t).map (·.size) = some v.cells.size) (h1 : v.cells.toList.all (·.oneCell') = true)
    (hi : st.facts[i]? = some (dg B e K (.slice A N cap) rs)) (hlo : w0.heap.size ≤ B) (hrow : rs[j]? = some row) (hpo : Nat.ble (po + v.cells.toList.length) K = true) (hr' : setL row po v.cells.toList = row') (hrs : rs.set j row' = rs') :
    HSg P n w0 st o g (dg B e K (.slice A N cap) rs' :: dropF st.facts i) := fun ρ σ a w hr => by
  subst hrs hr' ho hA
  have hown := (hr.2.fact _ (List.mem_of_getElem? hi)).1
  have hpo := Nat.le_of_ble_eq_true hpo
  obtain ⟨⟨hfl, hor⟩, hK⟩ := hown
  have hj : j < rs.length := (List.getElem?_eq_some_iff.1 hrow).1
  have hbd : j * K + K ≤ rs.length * K := by
    have : (j + 1) * K ≤ rs.length * K := Nat.mul_le_mul_right K hj
    rw [Nat.succ_mul] at this; exact this
  rcases hor with ⟨h1', h2⟩ | ⟨g', cap', cur, hv, hB, hg, hle, hmx, hcs, htk⟩
  · exact absurd h1' (by simp)
  simp only [Value.slice.injEq, Option.some.injEq, Addr.mk.injEq, and_true] at hv
  obtain ⟨rfl, rfl, rfl⟩ := hv
  have hcap : rs.length * K ≤ cap * K := Nat.mul_le_mul_right _ hle
  have hfit : j * K + po + v.cells.toList.length ≤ cur.size := by omega
  cases hin : P.info? t with
  | none => simp [hin] at hsz
  | some inf =>
    have hs : inf.size = v.cells.size := by simpa [hin] using hsz
    have hst := run_storeCells_cells (P := P) g (j * K + po) v.cells.toList 0 w (fun m hm => by
        rw [cell_of_row w g _ cur e (0, 0) hg, Array.getElem?_eq_getElem (by omega)]; rfl) (fun m hm => frozen_of_row w g _ cur e hg) (fun u hu => List.all_eq_true.1 h1 u hu)
    simp only [Nat.add_zero] at hst
    have hw2 := di g v.cells.toList (j * K + po) w cur e hg hfit
    have hlen : cur.toList.length = cur.size := by simp
    refine ⟨w.setCells g (j * K + po) v.cells.toList, ?_, hr.2.noRows.turn hi rfl (fun b hb => by have : (some g) = some b := hb; simp only [Option.some.injEq] at this; omega) (chgd_cells rfl) _
      ⟨⟨?_, .inr ⟨g, cap, _, by rw [List.length_set], hB, hw2, by rw [List.length_set]; exact hle, hmx, ?_, ?_⟩⟩, fun r hr => ?_⟩ fun b hb => .inl hb, chgd_cells rfl⟩
    · simp only [execOp, hop, bf hr.1 hx, bf hr.1 hy, Sem.run_bind, Instr.storeAt, Instr.sureAddr, Sem.run_pure, Result.andThen_ok, storeVar, sizeOf, typeInfo, run_program, hin, hs, ne_eq, not_true_eq_false, if_false, hst]
    · rw [flat_set hK hrow hpo, setL_len (by rw [hfl]; omega), List.length_set]; exact hfl
    · rw [List.size_toArray, setL_len (by rw [hlen]; exact hfit)]; rw [hlen]; exact hcs
    · rw [List.length_set, flat_set hK hrow hpo, ← htk]
      exact setL_take (by omega) (by omega)
    · rcases List.mem_or_eq_of_mem_set hr with h | h
      · exact hK r h
      · rw [h, setL_len (by rw [hK row (List.mem_of_getElem? hrow)]; exact hpo)]; exact hK row (List.mem_of_getElem? hrow)
variable {QX : Exit → St → Prop} {ops : Array Oper}
variable {fuel : Nat} {listed : Array Bool} {B : List Box} {R : List (List Value)} {ρ : Nat → Nat} {σ : Nat → Nat × Nat}
end
end
/- The machine: draws that make a struct with a slice of its own. -/
section
open Go.RowKit
set_option linter.unusedVariables false
set_option linter.unusedSimpArgs false
section
variable {P : Program} {n : Nat} {w0 : World} {QX : Exit → St → Prop} {st st' : St} {ops : Array Oper} {fuel fuel' : Nat} {listed listed' : Array Bool} {B : List Box} {R : List (List Value)} {ρ : Nat → Nat} {σ : Nat → Nat × Nat}
end
end
/- The machine: function values that hold variables, calls of them, and memory kept together as one fact. -/
section
open Go.RowKit
set_option linter.unusedVariables false
set_option linter.unusedSimpArgs false
def allF (gs : List Fact) : Fact where
  own := true
  p := fun w => (∀ g ∈ gs, g.p w) ∧ Apart gs
  blk := fun b => ∃ g ∈ gs, g.blk b
  lt := fun w b h ⟨g, hg, hb⟩ => g.lt w b (h.1 g hg) hb
  keep := fun w w' h hs hb => ⟨fun g hg => g.keep w w' (h.1 g hg) hs fun b hgb => hb b ⟨g, hg, hgb⟩, h.2⟩
theorem Apart.back {gs hs : List Fact} (h : Apart (gs ++ hs)) : Apart hs := fun i j f g hi hj hij => by
  refine h (gs.length + i) (gs.length + j) f g ?_ ?_ (by omega)
  · rw [List.getElem?_append_right (by omega), Nat.add_sub_cancel_left]; exact hi
  · rw [List.getElem?_append_right (by omega), Nat.add_sub_cancel_left]; exact hj
theorem Apart.pickN {fs gs : List Fact} (m : List Nat) (h : Apart fs) (hm : nodupB m = true) (hp : pickF fs m = some gs) : Apart gs := fun i j f g hi hj hij => by
  obtain ⟨g1, g2⟩ := pickF_get hp
  have hl1 := (List.getElem?_eq_some_iff.1 hi).1
  have hl2 := (List.getElem?_eq_some_iff.1 hj).1
  have e1 := List.getElem?_eq_getElem (l := m) (i := i) (by omega)
  have e2 := List.getElem?_eq_getElem (l := m) (i := j) (by omega)
  refine h _ _ f g (g2 i f _ hi e1) (g2 j g _ hj e2) fun e => hij ?_
  have hk := List.pairwise_iff_getElem.1 (nodupB_spec hm)
  rcases Nat.lt_trichotomy i j with h1 | h1 | h1
  · exact (hk i j (by omega) (by omega) h1 e).elim
  · exact h1
  · exact (hk j i (by omega) (by omega) h1 e.symm).elim
section
variable {P : Program} {n : Nat} {w0 : World} {QX : Exit → St → Prop} {st st' : St} {ops : Array Oper} {l : List Oper}
theorem lenB_len : ∀ (b : List Box), dd b = b.length
  | [] => rfl
  | _ :: b => by simp only [dd, List.length_cons]; rw [lenB_len b]
theorem xw_pinL {c : Code} {s T : Nat} {cs : List Value} {t : List (Nat × AV)} {b : List Box} {r : List (List Value)} {fs : List Fact} (hs : lkp t s = some (.p (dd b) 0)) (ht : allT (dd b) 0 (del t s) = true)
    (h : ∀ g, w0.heap.size ≤ g → (∀ f ∈ fs, ¬ f.blk g) → XW P n w0 QX c ⟨(s, .v (.pointer (some ⟨g, 0, none⟩))) :: del t s, b, [], cellF w0.heap.size g T cs :: fs⟩) : XW P n w0 QX c ⟨t, b ++ [⟨T, cs⟩], r, fs⟩ := fun ρ σ a w hr => by
  have hA := hr.1
  have hH : XHeap w0 (b ++ [(⟨T, cs⟩ : Box)]) r fs ρ σ w := hr.2
  rw [lenB_len] at hs ht
  have hlen : (b ++ [(⟨T, cs⟩ : Box)]).length = b.length + 1 := by simp
  have hbx := hH.box b.length ⟨T, cs⟩ (by rw [List.getElem?_append_right (Nat.le_refl _)]; simp)
  have hn : ∀ f ∈ fs, ¬ f.blk (ρ b.length) := fun f hf => (hH.fact f hf).2 b.length (by omega)
  have hinj : ∀ i j, i < b.length → j < b.length → ρ i = ρ j → i = j := fun i j hi hj => hH.inj i j (by omega) (by omega)
  have hlast : ∀ i, i < b.length → ρ i ≠ ρ b.length := fun i hi e => by have := hH.inj i b.length (by omega) (by omega) e; omega
  have hfb : ∀ f ∈ fs, ∀ i, i < b.length → ¬ f.blk (ρ i) := fun f hf i hi => (hH.fact f hf).2 i (by omega)
  refine h (ρ b.length) hbx.1 hn ρ σ a w ⟨⟨hA.size, hA.defers, fun t' x hx => ?_⟩, ⟨hH.below, fun i q hi => ?_, fun i j hi hj => hinj i j hi hj, fun k r hr => by simp at hr, fun f hf => ?_, hH.apart.cons fun f hf q hq hfq => ?_⟩⟩
  · simp only [lkp] at hx
    split at hx
    · rename_i e
      simp only [Option.some.injEq] at hx; subst hx
      have e2 : s = t' := Nat.eq_of_beq_eq_true e
      subst e2
      exact ⟨trivial, (hA.tmps s _ hs).2⟩
    · refine ⟨allT_lkp _ t' x ht hx, ?_⟩
      rw [lkp_del] at hx
      split at hx
      · cases hx
      · exact (hA.tmps t' x hx).2
  · exact hH.box i q (by rw [List.getElem?_append_left (List.getElem?_eq_some_iff.1 hi).1]; exact hi)
  · rcases List.mem_cons.1 hf with rfl | hf
    · exact ⟨⟨hbx.1, hbx.2⟩, fun i hi e => hlast i hi e⟩
    · exact ⟨(hH.fact f hf).1, hfb f hf⟩
  · have e : q = ρ b.length := hq
    subst e; exact hn f hf hfq
theorem xw_pinB {c : Code} {t : List (Nat × AV)} {bs : List Box} {r : List (List Value)} {fs : List Fact} (s T : Nat) (cs : List Value) (b : List Box) (hbx : bs = b ++ [⟨T, cs⟩]) (hs : lkp t s = some (.p (dd b) 0)) (ht : allT (dd b) 0 (del t s) = true)
    (h : ∀ g, w0.heap.size ≤ g → (∀ f ∈ fs, ¬ f.blk g) → XW P n w0 QX c ⟨(s, .v (.pointer (some ⟨g, 0, none⟩))) :: del t s, b, [], cellF w0.heap.size g T cs :: fs⟩) : XW P n w0 QX c ⟨t, bs, r, fs⟩ := by
  subst hbx; exact xw_pinL hs ht h
def xcalleeC (ops : Array Oper) (st : St) (o : Oper) : Option (FuncId × List Value × Option Nat) :=
  match bW ops st.tmps o with
  | some true => match o.op with
    | .call c => match c.callee with
      | .value x => match cC st.tmps x, vals st.tmps c.args.toList with
        | some (.v (.func (.func f) ⟨[]⟩ ⟨cs⟩)), some vs => some (f, vs ++ cs, o.dst)
        | _, _ => none
      | _ => none
    | _ => none
  | _ => none
theorem xcalleeC_sound {o : Oper} {f : FuncId} {vs : List Value} {d : Option Nat} {ρ : Nat → Nat} {σ : Nat → Nat × Nat} {a : Act} (hA : XAct n st ρ σ a) (h : xcalleeC ops st o = some (f, vs, d)) (hf : fnOk P f = true) (w : World) :
    Region.wanted o (yielded ops a.tmps) = true ∧ o.dst = d ∧ (execOp a.eval o).run P w = .ok (.enter f vs.toArray) w := by
  unfold xcalleeC at h
  split at h
  · rename_i hw
    refine ⟨bz hA hw, ?_⟩
    split at h
    · rename_i c hc
      split at h
      · rename_i x hx
        split at h
        · rename_i g cs us h1 h2
          simp only [Option.some.injEq, Prod.mk.injEq] at h
          obtain ⟨rfl, rfl, rfl⟩ := h
          refine ⟨rfl, ?_⟩
          have e1 := bf hA h1
          have e2 := vals_eval hA _ _ h2
          have e3 : c.args.map a.eval = us.toArray := by rw [← e2]; apply Array.toList_inj.1; simp
          simp only [execOp, hc, resolve, hx, e1, e3, Sem.run_bind, Deferred.ofValue, Sem.run_pure, Result.andThen_ok, invoke]
          have := fnOk_run hf (us ++ cs).toArray w
          simpa using this
        · simp at h
      · simp at h
    · simp at h
  · simp at h
variable {fuel : Nat} {listed : Array Bool} {B : List Box} {R : List (List Value)} {ρ : Nat → Nat} {σ : Nat → Nat × Nat}
theorem act_mkf {a : Act} {o : Oper} {f : Fn} {c : Array Operand} (cs : List Value) (h : XAct n st ρ σ a) (hop : o.op = .makeFunc f #[] c) (hc : vals st.tmps c.toList = some cs) (w : World) : (execOp a.eval o).run P w = .ok (.value (.func f #[] cs.toArray)) w := by
  have e2 := vals_eval h _ _ hc
  have e3 : c.map a.eval = cs.toArray := by rw [← e2]; apply Array.toList_inj.1; simp
  simp only [execOp, hop, e3, Instr.makeFunc, Sem.run_bind, Sem.run_pure, Result.andThen_ok, Array.map_empty]
end
end
/- Plain definitions: connections (no program in sight). -/
section
open Go.RowKit
def tS (c : Con) : Int :=
  if c.state = 1 then (if c.r.done then 4 else 1)
  else if c.state = 2 then (if c.s.done && c.r.done then 7 else if c.s.done then 3 else if c.r.done then 5 else 2)
  else if c.state = 3 then (if c.r.done then 7 else 3)
  else if c.state = 5 then (if c.s.done then 7 else 5)
  else if c.state = 6 then (if c.s.done then 8 else 6)
  else c.state
def turned (c : Con) : Con :=
  if tS c = c.state then c
  else if aY { c with state := tS c, timer := 0 } && aX c.timer 0 4 then
    (if tS c = 7 then { c with state := 7, timer := 4, tries := 0 } else if tS c = 8 then { c with state := 8, timer := 0, tries := 0 } else { c with state := tS c })
  else c
def cut (s : ByteArray) (n : Int) : Int := max 0 (min n s.size)
end
/- Plain definitions: new connections (no program in sight). -/
section
open Go.RowKit
theorem dj {n : Int} (h : ar n 16 = true) : 0 ≤ n ∧ n ≤ 65535 := by
  simp only [ar, Bool.and_eq_true, inB_tt] at h
  have e : (2 : Int) ^ (16 : Int).toNat - 1 = 65535 := by decide
  rw [e] at h; omega
theorem optionsOk_bd {o : Opt} (h : aQ o = true) : -1 ≤ o.scale ∧ o.scale ≤ 14 := by
  simp only [aQ, Bool.and_eq_true, inB_tt] at h; omega
end
end Go.Proofs.Ytfidgfddgmppdaa
