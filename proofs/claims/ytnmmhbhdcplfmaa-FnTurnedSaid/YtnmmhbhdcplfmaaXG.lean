/- More rules of the machine: forgetting, loops, elements of slices. -/
import Derived.Test.YtnmmhbhdcplfmaaXF
namespace Go.Proofs.Ytnmmhbhdcplfmaa
open Go.RowKit
set_option linter.unusedVariables false
set_option linter.unusedSimpArgs false

theorem wrap_id {n : Int} (h1 : -9223372036854775808 ≤ n) (h2 : n ≤ 9223372036854775807) : IntKind.i64.wrap n = n := by
  rw [IntKind.wrap_i64]; omega
def Wk (s s' : St) : Prop := ∀ (n : Nat) (w0 : World) (ρ : Nat → Nat) (σ : Nat → Nat × Nat) (a : Act) (w : World), XRep n w0 s ρ σ a w → XRep n w0 s' ρ σ a w
theorem Wk.refl (s : St) : Wk s s := fun _ _ _ _ _ _ h => h
theorem Wk.trans {a b c : St} (h : Wk a b) (k : Wk b c) : Wk a c := fun n w0 ρ σ x w r => k n w0 ρ σ x w (h n w0 ρ σ x w r)
def avOk (m r : Nat) : AV → Bool
  | .v _ => true
  | .p i _ => Nat.blt i m
  | .r h _ => Nat.blt h r
def allT (m r : Nat) : List (Nat × AV) → Bool
  | [] => true
  | (_, x) :: l => avOk m r x && allT m r l
theorem allT_lkp {m r : Nat} : ∀ (l : List (Nat × AV)) (t : Nat) (x : AV), allT m r l = true → lkp l t = some x → x.wf m r
  | [], t, x, _, h => by simp [lkp] at h
  | (k, y) :: l, t, x, ha, h => by
    simp only [allT, Bool.and_eq_true] at ha
    simp only [lkp] at h
    split at h
    · simp only [Option.some.injEq] at h; subst h
      cases y <;> simp [avOk, AV.wf] at * <;> exact ha.1
    · exact allT_lkp l t x ha.2 h
def xforget (m r : Nat) (ks : List Nat) (s : St) : Option St :=
  match keepT s.tmps ks with
  | some t => if allT m r t then some ⟨t, s.boxes.take m, s.rows.take r, s.facts⟩ else none
  | none => none
theorem getElem?_of_take {α : Type} {l : List α} {m i : Nat} {x : α} (h : (l.take m)[i]? = some x) : l[i]? = some x := by
  rw [List.getElem?_take] at h
  split at h
  · exact h
  · simp at h
theorem wk_forget (m r : Nat) (ks : List Nat) {s s' : St} (h : xforget m r ks s = some s') (hm : Nat.ble m (lenB s.boxes) = true) (hr : Nat.ble r s.rows.length = true) : Wk s s' := by
  intro n w0 ρ σ a w hx
  rw [lenB_eq] at hm
  have hm := Nat.le_of_ble_eq_true hm
  have hr := Nat.le_of_ble_eq_true hr
  unfold xforget at h
  split at h
  · rename_i t ht
    split at h
    · rename_i hall
      simp only [Option.some.injEq] at h; subst h
      obtain ⟨h1, h2⟩ := hx.keep ht
      have h2 : XHeap w0 s.boxes s.rows s.facts ρ σ w := h2
      refine ⟨⟨h1.size, h1.defers, fun u x hu => ⟨?_, (h1.tmps u x hu).2⟩⟩, ⟨h2.below, fun i b hb => h2.box i b (getElem?_of_take hb), fun i j hi hj he => ?_, fun k q hq => ?_, fun f hf => ?_, ?_⟩⟩
      · have := allT_lkp _ _ _ hall hu
        simp only [List.length_take, Nat.min_eq_left hm, Nat.min_eq_left hr]; exact this
      · simp only [List.length_take] at hi hj; exact h2.inj i j (by omega) (by omega) he
      · obtain ⟨g1, g2, g3⟩ := h2.row k q (getElem?_of_take hq)
        exact ⟨g1, g2, fun i hi => g3 i (by simp only [List.length_take] at hi; omega)⟩
      · obtain ⟨g1, g2⟩ := h2.fact f hf
        exact ⟨g1, fun i hi => g2 i (by simp only [List.length_take] at hi; omega)⟩
      · exact h2.apart
    · simp at h
  · simp at h
def dropF : List Fact → Nat → List Fact
  | [], _ => []
  | _ :: r, 0 => r
  | f :: r, i + 1 => f :: dropF r i
theorem dropF_get (l : List Fact) : ∀ i j, (dropF l i)[j]? = if j < i then l[j]? else l[j + 1]? := by
  induction l with
  | nil => intro i j; simp [dropF]
  | cons f r ih =>
    intro i j
    cases i with
    | zero => simp [dropF]
    | succ i =>
      cases j with
      | zero => simp [dropF]
      | succ j => simp [dropF, ih, Nat.add_lt_add_iff_right]
theorem dropF_sub {l : List Fact} {i j : Nat} {f : Fact} (h : (dropF l i)[j]? = some f) : ∃ k, l[k]? = some f ∧ (k = if j < i then j else j + 1) := by
  rw [dropF_get] at h
  split at h
  · exact ⟨j, h, by simp [*]⟩
  · exact ⟨j + 1, h, by simp [*]⟩
theorem Apart.dropF {l : List Fact} (h : Apart l) (i : Nat) : Apart (Go.Proofs.Ytnmmhbhdcplfmaa.dropF l i) := fun a b f g ha hb hab ho => by
  obtain ⟨k, hk, e1⟩ := dropF_sub ha
  obtain ⟨m, hm, e2⟩ := dropF_sub hb
  refine h k m f g hk hm ?_ ho
  subst e1 e2
  split <;> split <;> omega
section
variable {P : Program} {n : Nat} {w0 : World} {QX : Exit → St → Prop} {st st' : St} {ops : Array Oper} {l : List Oper}
theorem xw_wk {c : Code} (h : Wk st st') (h1 : XW P n w0 QX c st') : XW P n w0 QX c st := fun ρ σ a w hr => h1 ρ σ a w (h _ _ _ _ _ _ hr)
theorem xw_loopW {c : Code} {α : Type} (Inv : α → St) (μ : α → Nat) (x0 : α) (h0 : Wk st (Inv x0))
    (h : ∀ x, XW P n w0 (fun e s => match e with | .normal => ∃ x', Wk s (Inv x') ∧ μ x' < μ x | e => QX e s) c (Inv x)) : XW P n w0 QX (.loop c) st := by
  refine xw_wk h0 (xw_loop Inv μ x0 rfl fun x ρ σ a w hr => Code.wp_mono (fun e a w hq => ?_) (h x ρ σ a w hr))
  obtain ⟨s, ρ1, σ1, h1, h2⟩ := hq
  cases e
  case normal =>
    obtain ⟨x', hw, hlt⟩ := h1
    exact ⟨Inv x', ρ1, σ1, ⟨x', rfl, hlt⟩, hw _ _ _ _ _ _ h2⟩
  all_goals exact ⟨s, ρ1, σ1, h1, h2⟩

def addRow : List (List Value) → List Value → List (List Value)
  | [], b => [b]
  | c :: r, b => c :: addRow r b
def lenR : List (List Value) → Nat
  | [] => 0
  | _ :: r => lenR r + 1
theorem lenR_eq (l : List (List Value)) : lenR l = l.length := by induction l with | nil => rfl | cons b l ih => simp [lenR, ih]
theorem addRow_eq (l : List (List Value)) (b : List Value) : addRow l b = l ++ [b] := by induction l with | nil => rfl | cons c l ih => simp [addRow, ih]
theorem XHeap.addRow {boxes : List Box} {rows : List (List Value)} {facts : List Fact} {ρ : Nat → Nat} {σ : Nat → Nat × Nat} {w : World} (h : XHeap w0 boxes rows facts ρ σ w) {b o : Nat} {row : List Value}
    (h1 : w.rangeAt b o row) (h2 : b < w.heap.size) (h3 : ∀ i, i < boxes.length → b ≠ ρ i) : XHeap w0 boxes (addRow rows row) facts ρ (fun k => if k = lenR rows then (b, o) else σ k) w := by
  rw [addRow_eq, lenR_eq]
  refine ⟨h.below, h.box, h.inj, fun k r hr => ?_, h.fact, h.apart⟩
  by_cases hk : k < rows.length
  · rw [List.getElem?_append_left hk] at hr
    simp only [show ¬ k = rows.length by omega, if_false]
    exact h.row k r hr
  · rw [List.getElem?_append_right (by omega)] at hr
    have h0 : k - rows.length = 0 := by
      have := (List.getElem?_eq_some_iff.1 hr).1
      simp at this; omega
    obtain rfl : k = rows.length := by omega
    simp at hr; subst hr
    simp only [if_true]
    exact ⟨h1, h2, h3⟩
theorem XAct.addRow {ρ : Nat → Nat} {σ : Nat → Nat × Nat} {a : Act} (h : XAct n st ρ σ a) (row : List Value) (x : Nat × Nat) : XAct n ⟨st.tmps, st.boxes, Go.Proofs.Ytnmmhbhdcplfmaa.addRow st.rows row, st.facts⟩ ρ (fun k => if k = lenR st.rows then x else σ k) a :=
  ⟨h.size, h.defers, fun t y ht => by
    obtain ⟨g1, g2⟩ := h.tmps t y ht
    refine ⟨AV.wf_mono (x := y) g1 (Nat.le_refl _) (by rw [addRow_eq]; simp), ?_⟩
    rw [g2]
    cases y with
    | v y => rfl
    | p i off => rfl
    | r k off => simp only [AV.wf] at g1; simp only [conc, lenR_eq, show ¬ k = st.rows.length by omega, if_false]⟩
theorem index_run {T e : TypeId} {K j len cap : Nat} {A : Option Addr} {kd : IntKind} {b off : Nat} (hu : P.underlying T = some (.slice e)) (hi : (P.info? e).map (·.size) = some K) (hA : A = some ⟨b, off, none⟩) (hlt : j < len) (w : World) :
    (Instr.indexAt T (.slice A len cap) (.int kd (j : Int))).run P w = .ok (.pointer (some ⟨b, off + j * K, none⟩)) w := by
  subst hA
  cases hq : P.info? e with
  | none => simp [hq] at hi
  | some inf =>
    have hs : inf.size = K := by simpa [hq] using hi
    have h1 : (0 : Int) ≤ (j : Int) ∧ (j : Int) < (len : Int) := ⟨Int.natCast_nonneg _, by omega⟩
    simp only [Instr.indexAt, asIntOf, Sem.run_bind, Sem.run_pure, Result.andThen_ok, run_underlying hu, h1, and_self, if_true, sizeOf, typeInfo, run_program, hq, hs, Int.toNat_natCast, Addr.add_mid]
theorem xl_index (k : Nat) (ks : List Nat) (st' : St) {o : Oper} {T e : TypeId} {x idx : Operand} {K len cap : Nat} {A : Option Addr} {kd : IntKind} (j : Nat) {rs : List (List Value)} (row : List Value) (f : Fact)
    (h : xpart P n ops l k ks st = some st') (ho : l[k]? = some o) (hw : xwanted ops st'.tmps o = some true) (hd : dstOk n o.dst = true) (hop : o.op = .indexAddr T x idx)
    (hu : P.underlying T = some (.slice e)) (hi : (P.info? e).map (·.size) = some K) (hx : opv st'.tmps x = some (.v (.slice A len cap))) (hidx : opv st'.tmps idx = some (.v (.int kd (j : Int))))
    (hlt : j < len) (hf : f ∈ st'.facts) (hsl : ∀ w, f.p w → Sl w (.slice A len cap) K rs) (hblk : ∀ b, (rs ≠ [] ∧ vblk (.slice A len cap) = some b) → f.blk b) (hrow : rs[j]? = some row)
    (hn : XL P n w0 ops QX (l.drop (k + 1)) ⟨putT st'.tmps o.dst (.r (lenR st'.rows) 0), st'.boxes, addRow st'.rows row, st'.facts⟩) : XL P n w0 ops QX l st :=
  fun ρ σ a w hr => xpart_sound h hr (fun ρ' σ' a' w' hr' => by
    have hdrop : l.drop k = o :: l.drop (k + 1) := by
      obtain ⟨hlt, rfl⟩ := List.getElem?_eq_some_iff.1 ho
      exact List.drop_eq_getElem_cons hlt
    rw [hdrop]
    simp only [wpList]
    rw [xwanted_sound hr'.1 hw, if_pos rfl]
    left
    obtain ⟨a1, c1, g1, g2, g3, g4, g5⟩ := hsl w' (hr'.2.fact f hf).1
    simp only [Value.slice.injEq] at g1
    obtain ⟨rfl, rfl, rfl⟩ := g1
    obtain ⟨b, off, g6, g7, g8⟩ := g5 j row hrow
    have hne : rs ≠ [] := fun e => by rw [e] at hrow; simp at hrow
    have hb : ∀ i, i < st'.boxes.length → b ≠ ρ' i := fun i hi e => (hr'.2.fact f hf).2 i hi (hblk _ ⟨hne, by rw [g6]; simp only [vblk, e]⟩)
    have hrun : (execOp a'.eval o).run P w' = .ok (.value (.pointer (some ⟨b, off + j * K, none⟩))) w' := by
      simp only [execOp, hop, opv_v hr'.1 hx, opv_v hr'.1 hidx, Sem.run_bind, index_run hu hi g6 hlt w', Result.andThen_ok, Sem.run_pure]
    rw [Oper.wp, hrun, Oper.upon_value]
    have hA := (hr'.1.addRow row (b, off + j * K)).put (d := o.dst) (x := .r (lenR st'.rows) 0) (dstOk_lt hd) (by simp only [AV.wf]; rw [addRow_eq, lenR_eq]; simp)
    simp only [conc, if_true, Nat.add_zero] at hA
    exact hn ρ' _ _ w' ⟨hA, hr'.2.addRow g8 g7 hb⟩)

def XWs (P : Program) (n : Nat) (w0 : World) (QX : Exit → St → Prop) (φ : (Nat → Nat × Nat) → Prop) (c : Code) (st : St) : Prop :=
  ∀ ρ σ a w, XRep n w0 st ρ σ a w → φ σ → c.wp P (QQ n w0 QX) a w
theorem xws_start {c : Code} (h : XWs P n w0 QX (fun _ => True) c st) : XW P n w0 QX c st := fun ρ σ a w hr => h ρ σ a w hr trivial
theorem xws_row {c : Code} {φ : (Nat → Nat × Nat) → Prop} {K len cap j : Nat} {A : Option Addr} {rs : List (List Value)} (row : List Value) (f : Fact) (hφ : ∀ σ x, φ σ → φ (fun k => if k = lenR st.rows then x else σ k))
    (hf : f ∈ st.facts) (hsl : ∀ w, f.p w → Sl w (.slice A len cap) K rs) (hblk : ∀ b, (rs ≠ [] ∧ vblk (.slice A len cap) = some b) → f.blk b) (hrow : rs[j]? = some row)
    (hn : ∀ b off, A = some ⟨b, off, none⟩ → XWs P n w0 QX (fun σ => φ σ ∧ σ (lenR st.rows) = (b, off + j * K)) c ⟨st.tmps, st.boxes, addRow st.rows row, st.facts⟩) : XWs P n w0 QX φ c st :=
  fun ρ σ a w hr hp => by
    obtain ⟨a1, c1, g1, g2, g3, g4, g5⟩ := hsl w (hr.2.fact f hf).1
    simp only [Value.slice.injEq] at g1
    obtain ⟨rfl, rfl, rfl⟩ := g1
    obtain ⟨b, off, g6, g7, g8⟩ := g5 j row hrow
    have hne : rs ≠ [] := fun e => by rw [e] at hrow; simp at hrow
    have hb : ∀ i, i < st.boxes.length → b ≠ ρ i := fun i hi e => (hr.2.fact f hf).2 i hi (hblk _ ⟨hne, by rw [g6]; simp only [vblk, e]⟩)
    exact hn b off g6 ρ _ a w ⟨hr.1.addRow row (b, off + j * K), hr.2.addRow g8 g7 hb⟩ ⟨hφ σ _ hp, by simp⟩
theorem XRep.split {b : Bool} {ρ : Nat → Nat} {σ : Nat → Nat × Nat} {a : Act} {w : World} (hr : XRep n w0 st ρ σ a w) (t : Nat) (h : lkp st.tmps t = some (.v (.bool b))) (b' : Bool) (hb : b = b') : XRep n w0 ⟨putT st.tmps (some t) (.v (.bool b')), st.boxes, st.rows, st.facts⟩ ρ σ a w := by
  subst hb
  refine ⟨⟨hr.1.size, hr.1.defers, fun u x hu => ?_⟩, hr.2⟩
  simp only [putT, lkp] at hu
  split at hu
  · rename_i he
    obtain rfl : t = u := Nat.eq_of_beq_eq_true he
    simp only [Option.some.injEq] at hu; subst hu
    exact hr.1.tmps t _ h
  · rename_i he
    rw [lkp_del, if_neg (fun e => he (by subst e; exact Nat.beq_refl t))] at hu
    exact hr.1.tmps u x hu
theorem agg_run {op : BinOp} {T : TypeId} {x y : Operand} {a b : Array Value} {v : Value} {w : World} (hg : P.eqGuardType P.depth T = false) (hr : (binOp op T (.agg a) (.agg b)).run P w = .ok v w) :
    (do eqGuard op T x y (.agg a) (.agg b); binOp op T (.agg a) (.agg b) : Sem Value).run P w = .ok v w := by
  have he : (eqGuard op T x y (.agg a) (.agg b)).run P w = .ok () w := by
    unfold eqGuard
    cases op <;> simp [hg]
  rw [Sem.run_bind, he]; exact hr
def QJoin (stm : St) (QX : Exit → St → Prop) : Exit → St → Prop
  | .normal, s => Wk s stm
  | e, s => QX e s
theorem xw_join {c : Code} (stm : St) (h1 : XW P n w0 (QJoin stm QX) c st) (h2 : QX .normal stm) : XW P n w0 QX c st := fun ρ σ a w hr =>
  Code.wp_mono (fun e a w ⟨s, ρ, σ, hq, hs⟩ => by
    cases e
    case normal => exact ⟨stm, ρ, σ, h2, hq _ _ _ _ _ _ hs⟩
    all_goals exact ⟨s, ρ, σ, hq, hs⟩) (h1 ρ σ a w hr)
end
end Go.Proofs.Ytnmmhbhdcplfmaa
