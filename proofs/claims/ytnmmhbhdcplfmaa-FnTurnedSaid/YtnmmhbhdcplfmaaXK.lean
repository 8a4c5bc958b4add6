/- Regions that draw their order, with calls and writes in them; ways that meet again; parts of slices; calls that write. -/
import Derived.Test.YtnmmhbhdcplfmaaXJ
namespace Go.Proofs.Ytnmmhbhdcplfmaa
open Go.RowKit
set_option linter.unusedVariables false
set_option linter.unusedSimpArgs false

def mskB : List Bool → List Box → List Box
  | true :: k, b :: r => b :: mskB k r
  | false :: k, b :: r => ⟨b.ty, []⟩ :: mskB k r
  | [], r => r
  | _, [] => []
theorem mskB_get : ∀ (k : List Bool) (l : List Box) (i : Nat) (b : Box), (mskB k l)[i]? = some b → ∃ c, l[i]? = some c ∧ (b = c ∨ b.cells = [])
  | true :: k, c :: r, 0, b, h => by simp [mskB] at h; exact ⟨c, by simp, .inl h.symm⟩
  | false :: k, c :: r, 0, b, h => by simp [mskB] at h; exact ⟨c, by simp, .inr (by rw [← h])⟩
  | true :: k, c :: r, i + 1, b, h => by simp [mskB] at h; simpa using mskB_get k r i b h
  | false :: k, c :: r, i + 1, b, h => by simp [mskB] at h; simpa using mskB_get k r i b h
  | [], r, i, b, h => by
    have h : r[i]? = some b := by cases r <;> exact h
    exact ⟨b, h, .inl rfl⟩
  | true :: k, [], i, b, h => by simp [mskB] at h
  | false :: k, [], i, b, h => by simp [mskB] at h
def Under (B : List Box) (boxes : List Box) : Prop := ∀ (i : Nat) (b : Box), B[i]? = some b → ∃ c : Box, boxes[i]? = some c ∧ (b.cells = c.cells ∨ b.cells = [])
theorem under_nil {l : List Box} : Under [] l := fun i b h => by simp at h
theorem under_t {b : Box} {B l : List Box} (h : Under B l) : Under (b :: B) (b :: l) := fun i x hx => by
  cases i with
  | zero => simp at hx; subst hx; exact ⟨b, by simp, .inl rfl⟩
  | succ i => simp at hx; simpa using h i x hx
theorem under_f {b c : Box} {B l : List Box} (hb : b.cells = []) (h : Under B l) : Under (b :: B) (c :: l) := fun i x hx => by
  cases i with
  | zero => simp at hx; subst hx; exact ⟨c, by simp, .inr hb⟩
  | succ i => simp at hx; simpa using h i x hx
theorem Under.msk (k : List Bool) (l : List Box) : Under (mskB k l) l := fun i b h => by
  obtain ⟨c, h1, h2⟩ := mskB_get k l i b h
  exact ⟨c, h1, h2.imp (fun e => by rw [e]) id⟩
section
variable {P : Program} {n : Nat} {w0 : World} {QX : Exit → St → Prop} {st st' : St} {ops : Array Oper} {l : List Oper}
theorem XHeap.under {boxes B : List Box} {rows R : List (List Value)} {facts : List Fact} {ρ : Nat → Nat} {σ : Nat → Nat × Nat} {w : World} (h : XHeap w0 boxes rows facts ρ σ w) (hB : Under B boxes) (hR : R = [] ∨ R = rows) : XRd B R ρ σ w where
  box := fun i b hb => by
    obtain ⟨c, h1, h2⟩ := hB i b hb
    refine ⟨(h.rd.box i c h1).1, fun j v hv => ?_⟩
    rcases h2 with h2 | h2
    · rw [h2] at hv; exact (h.rd.box i c h1).2 j v hv
    · rw [h2] at hv; simp at hv
  row := fun k r hr => by
    rcases hR with rfl | rfl
    · simp at hr
    · exact h.rd.row k r hr
def Agr (B : List Box) (ρ' ρ : Nat → Nat) : Prop := ∀ i, i < B.length → ρ' i = ρ i
theorem Agr.refl (B : List Box) (ρ : Nat → Nat) : Agr B ρ ρ := fun _ _ => rfl
theorem XRd.to {B : List Box} {R : List (List Value)} {ρ ρ' : Nat → Nat} {σ : Nat → Nat × Nat} {w : World} (h : XRd B R ρ σ w) (hag : Agr B ρ' ρ) : XRd B R ρ' σ w :=
  ⟨fun i b hb => by rw [hag i (List.getElem?_eq_some_iff.1 hb).1]; exact h.box i b hb, h.row⟩
theorem XRd.from {B : List Box} {R : List (List Value)} {ρ ρ' : Nat → Nat} {σ : Nat → Nat × Nat} {w : World} (h : XRd B R ρ' σ w) (hag : Agr B ρ' ρ) : XRd B R ρ σ w :=
  ⟨fun i b hb => by rw [← hag i (List.getElem?_eq_some_iff.1 hb).1]; exact h.box i b hb, h.row⟩
def XE (P : Program) (n : Nat) (w0 : World) (ops : Array Oper) (QX : Exit → St → Prop) (fuel : Nat) (listed : Array Bool) (B : List Box) (R : List (List Value)) (ρ : Nat → Nat) (σ : Nat → Nat × Nat) (st : St) : Prop :=
  ∀ ρ' a w, Agr B ρ' ρ → XRep n w0 st ρ' σ a w → XRd B R ρ σ w → wpAnyH P .any ops (QQ n w0 QX) (XRd B R ρ σ) fuel listed a w
theorem xe_region {id : Nat} (k : List Bool) (hm : P.follows .mixedOrders = true) (h : ∀ ρ σ, XE P n w0 ops QX ops.size (Array.replicate ops.size false) (mskB k st.boxes) st.rows ρ σ st) : XW P n w0 QX (.region id ops true) st :=
  fun ρ σ a w hr => wp_region_held hm (h ρ σ ρ a w.drew (Agr.refl _ _) ⟨hr.1, hr.2.drew⟩ (hr.2.drew.under (Under.msk k _) (.inr rfl)))
variable {fuel : Nat} {listed : Array Bool} {B : List Box} {R : List (List Value)} {ρ : Nat → Nat} {σ : Nat → Nat × Nat}
theorem xe_done (hr : Region.ready .any ops listed = []) (h : QX .normal st) : XE P n w0 ops QX fuel listed B R ρ σ st := fun ρ' a w hag hr' _ => wpAnyH_done hr ⟨st, ρ', σ, h, hr'⟩ fuel
theorem xe_take (i : Nat) (x : AV) (st' : St) {o : Oper} (hi : ops[i]? = some o) (hs : Region.noSelect ops = true) (hf : Region.free .any ops listed i = true) (hr : (Region.ready .any ops listed).contains i = true)
    (hp : ∀ c s, ¬ QX (.panic c) s) (hw : xwanted ops st.tmps o = some true) (hx : xop P st.tmps B R o.op = some (.val x)) (hd : dstOk n o.dst = true) (hst : (⟨putT st.tmps o.dst x, st.boxes, st.rows, st.facts⟩ : St) = st')
    (h : XE P n w0 ops QX fuel (listed.setIfInBounds i true) B R ρ σ st') : XE P n w0 ops QX (fuel + 1) listed B R ρ σ st :=
  fun ρ' a w hag hr' hS => by
    subst hst
    obtain ⟨h1, h2⟩ := xop_rd (P := P) (st := st) hx hr'.1 (hS.to hag)
    exact wpAnyH_take hi hs hf hr (v := conc ρ' σ x) (fun c a w ⟨s, _, _, hq, _⟩ => (hp c s hq).elim) (.inl ⟨xwanted_sound hr'.1 hw, fun w' hS => (xop_rd (P := P) (st := st) hx hr'.1 (hS.to hag)).2⟩) hS (h _ _ w hag ⟨hr'.1.put (dstOk_lt hd) h1, hr'.2⟩ hS)
def setAll : Array Bool → List Nat → Array Bool
  | l, [] => l
  | l, i :: is => setAll (l.setIfInBounds i true) is
def xtk (P : Program) (n : Nat) (ops : Array Oper) (B : List Box) (R : List (List Value)) (ks : List Nat) : List Nat → Array Bool → St → Option St
  | [], _, s => match keepT s.tmps ks with
    | some t => some ⟨t, s.boxes, s.rows, s.facts⟩
    | none => none
  | i :: is, l, s => match ops[i]? with
    | none => none
    | some o => match Region.noSelect ops && (Region.free .any ops l i && ((Region.ready .any ops l).contains i && dstOk n o.dst)) with
      | false => none
      | true => match xwanted ops s.tmps o with
        | none => none
        | some false => xtk P n ops B R ks is (l.setIfInBounds i true) ⟨putT s.tmps o.dst (.v undef), s.boxes, s.rows, s.facts⟩
        | some true => match xop P s.tmps B R o.op with
          | some (.val x) => xtk P n ops B R ks is (l.setIfInBounds i true) ⟨putT s.tmps o.dst x, s.boxes, s.rows, s.facts⟩
          | _ => none
theorem xe_op (i : Nat) (v : Value) (st' : St) {o : Oper} (hi : ops[i]? = some o) (hs : Region.noSelect ops = true) (hf : Region.free .any ops listed i = true) (hr : (Region.ready .any ops listed).contains i = true)
    (hp : ∀ c s, ¬ QX (.panic c) s) (hw : xwanted ops st.tmps o = some true) (hd : dstOk n o.dst = true)
    (hrun : ∀ (ρ' : Nat → Nat) (a : Act) (w : World), XAct n st ρ' σ a → (execOp a.eval o).run P w = .ok (.value v) w) (hst : (⟨putT st.tmps o.dst (.v v), st.boxes, st.rows, st.facts⟩ : St) = st')
    (h : XE P n w0 ops QX fuel (listed.setIfInBounds i true) B R ρ σ st') : XE P n w0 ops QX (fuel + 1) listed B R ρ σ st :=
  fun ρ' a w hag hr' hS => by
    subst hst
    exact wpAnyH_take hi hs hf hr (v := v) (fun c a w ⟨s, _, _, hq, _⟩ => (hp c s hq).elim) (.inl ⟨xwanted_sound hr'.1 hw, fun w' hS => hrun _ a w' hr'.1⟩) hS (h _ _ w hag ⟨hr'.1.put (x := .v v) (dstOk_lt hd) trivial, hr'.2⟩ hS)
theorem xe_skip (i : Nat) (st' : St) {o : Oper} (hi : ops[i]? = some o) (hs : Region.noSelect ops = true) (hf : Region.free .any ops listed i = true) (hr : (Region.ready .any ops listed).contains i = true)
    (hp : ∀ c s, ¬ QX (.panic c) s) (hw : xwanted ops st.tmps o = some false) (hd : dstOk n o.dst = true) (hst : (⟨putT st.tmps o.dst (.v undef), st.boxes, st.rows, st.facts⟩ : St) = st')
    (h : XE P n w0 ops QX fuel (listed.setIfInBounds i true) B R ρ σ st') : XE P n w0 ops QX (fuel + 1) listed B R ρ σ st :=
  fun ρ' a w hag hr' hS => by
    subst hst
    exact wpAnyH_take hi hs hf hr (v := undef) (fun c a w ⟨s, _, _, hq, _⟩ => (hp c s hq).elim) (.inr ⟨xwanted_sound hr'.1 hw, rfl⟩) hS (h _ _ w hag ⟨hr'.1.put (x := .v undef) (dstOk_lt hd) trivial, hr'.2⟩ hS)
theorem xe_tk (is ks : List Nat) (f' : Nat) (st' : St) (hp : ∀ c s, ¬ QX (.panic c) s) (hf : fuel = is.length + f') (hx : xtk P n ops B R ks is listed st = some st')
    (h : XE P n w0 ops QX f' (setAll listed is) B R ρ σ st') : XE P n w0 ops QX fuel listed B R ρ σ st := by
  induction is generalizing fuel listed st with
  | nil =>
    simp only [List.length_nil, Nat.zero_add] at hf; subst hf
    simp only [xtk] at hx
    split at hx
    · rename_i t ht
      simp only [Option.some.injEq] at hx; subst hx
      exact fun ρ' a w hag hr hS => h ρ' a w hag (hr.keep ht) hS
    · cases hx
  | cons i is ih =>
    simp only [List.length_cons] at hf
    obtain rfl : fuel = (is.length + f') + 1 := by omega
    simp only [xtk] at hx
    split at hx
    · cases hx
    · rename_i o ho
      split at hx
      · cases hx
      · rename_i hb
        simp only [Bool.and_eq_true] at hb
        obtain ⟨h1, h2, h3, h4⟩ := hb
        split at hx
        · cases hx
        · rename_i hw
          exact xe_skip i _ ho h1 h2 h3 hp hw h4 rfl (ih rfl hx h)
        · rename_i hw
          split at hx
          · rename_i x hv
            exact xe_take i x _ ho h1 h2 h3 hp hw hv h4 rfl (ih rfl hx h)
          · cases hx
theorem xe_split (t : Nat) {b : Bool} (h : lkp st.tmps t = some (.v (.bool b)))
    (h1 : b = true → XE P n w0 ops QX fuel listed B R ρ σ ⟨putT st.tmps (some t) (.v (.bool true)), st.boxes, st.rows, st.facts⟩)
    (h2 : b = false → XE P n w0 ops QX fuel listed B R ρ σ ⟨putT st.tmps (some t) (.v (.bool false)), st.boxes, st.rows, st.facts⟩) : XE P n w0 ops QX fuel listed B R ρ σ st := fun ρ' a w hag hr hS => by
  cases b
  · exact h2 rfl _ a w hag (hr.split t h _ rfl) hS
  · exact h1 rfl _ a w hag (hr.split t h _ rfl) hS
def XEs (P : Program) (n : Nat) (w0 : World) (ops : Array Oper) (QX : Exit → St → Prop) (fuel : Nat) (listed : Array Bool) (B : List Box) (R : List (List Value)) (ρ : Nat → Nat) (σ : Nat → Nat × Nat) (st : St) (i : Nat) : Prop :=
  ∀ ρ' a w, Agr B ρ' ρ → XRep n w0 st ρ' σ a w → XRd B R ρ σ w → wpOp P ops (QQ n w0 QX) i (fun a' w' => XRd B R ρ σ w' ∧ wpAnyH P .any ops (QQ n w0 QX) (XRd B R ρ σ) fuel (listed.setIfInBounds i true) a' w') a w
def XEa (P : Program) (n : Nat) (w0 : World) (ops : Array Oper) (QX : Exit → St → Prop) (fuel : Nat) (listed : Array Bool) (B : List Box) (R : List (List Value)) (ρ : Nat → Nat) (σ : Nat → Nat × Nat) (st : St) : List Nat → Prop
  | [] => True
  | [i] => XEs P n w0 ops QX fuel listed B R ρ σ st i
  | i :: l => XEs P n w0 ops QX fuel listed B R ρ σ st i ∧ XEa P n w0 ops QX fuel listed B R ρ σ st l
theorem XEa.mem : ∀ {l : List Nat}, XEa P n w0 ops QX fuel listed B R ρ σ st l → ∀ i ∈ l, XEs P n w0 ops QX fuel listed B R ρ σ st i
  | [], _, i, hi => by simp at hi
  | [j], h, i, hi => by obtain rfl : i = j := (by simpa using hi); exact h
  | j :: k :: l, h, i, hi => by
    rcases List.mem_cons.1 hi with rfl | hi
    · exact h.1
    · exact XEa.mem h.2 i hi
theorem xe_all (l : List Nat) (hr : Region.ready .any ops listed = l) (hne : l ≠ []) (h : XEa P n w0 ops QX fuel listed B R ρ σ st l) : XE P n w0 ops QX (fuel + 1) listed B R ρ σ st :=
  fun ρ' a w hag hr' hS => wpAnyH_all hr hne fun i hi => h.mem i hi ρ' a w hag hr' hS
theorem xs_val (i : Nat) (x : AV) (st' : St) {o : Oper} (hi : ops[i]? = some o) (hw : xwanted ops st.tmps o = some true) (hx : xop P st.tmps st.boxes st.rows o.op = some (.val x)) (hd : dstOk n o.dst = true)
    (hst : (⟨putT st.tmps o.dst x, st.boxes, st.rows, st.facts⟩ : St) = st') (h : XE P n w0 ops QX fuel (listed.setIfInBounds i true) B R ρ σ st') : XEs P n w0 ops QX fuel listed B R ρ σ st i := fun ρ' a w hag hr hS => by
  subst hst
  obtain ⟨h1, h2⟩ := xop_val (P := P) hx hr.1 hr.2
  unfold wpOp
  simp only [hi, xwanted_sound hr.1 hw, if_true]
  left
  rw [Oper.wp, h2, Oper.upon_value]
  exact ⟨hS, h _ _ w hag ⟨hr.1.put (dstOk_lt hd) h1, hr.2⟩ hS⟩
def unread (B : List Box) (i : Nat) : Bool := match B[i]? with | some b => b.cells.isEmpty | none => true
theorem xs_store (i : Nat) (j off : Nat) (cs : List Value) (st' : St) {o : Oper} (hi : ops[i]? = some o) (hw : xwanted ops st.tmps o = some true) (hx : xop P st.tmps st.boxes st.rows o.op = some (.store j off cs)) (hd : dstOk n o.dst = true)
    (hu : unread B j = true) (hR : R = [] ∨ R = st.rows) (hlen : Nat.ble B.length (lenB st.boxes) = true)
    (hst : (⟨putT st.tmps o.dst (.v undef), setBox st.boxes j off cs, st.rows, st.facts⟩ : St) = st') (h : XE P n w0 ops QX fuel (listed.setIfInBounds i true) B R ρ σ st') : XEs P n w0 ops QX fuel listed B R ρ σ st i := fun ρ' a w hag hr hS => by
  subst hst
  have hlen := Nat.le_of_ble_eq_true hlen
  rw [lenB_eq] at hlen
  obtain ⟨b, h1, h2, h3⟩ := xop_store (P := P) hx hr.1 hr.2
  unfold wpOp
  simp only [hi, xwanted_sound hr.1 hw, if_true]
  left
  rw [Oper.wp, h3, Oper.upon_skip]
  have hA' : XAct n ⟨st.tmps, setBox st.boxes j off cs, st.rows, st.facts⟩ ρ' σ a := ⟨hr.1.size, hr.1.defers, fun t x ht => by
    obtain ⟨g1, g2⟩ := hr.1.tmps t x ht
    exact ⟨by rw [setBox_len]; exact g1, g2⟩⟩
  have hS' : XRd B R ρ σ (w.setCells (ρ' j) off cs) := by
    refine ⟨fun k c hk => ?_, fun k r hk => ?_⟩
    · obtain ⟨g1, g2⟩ := hS.box k c hk
      refine ⟨by rw [setCells_size]; exact g1, fun q v hv => ?_⟩
      by_cases hkj : k = j
      · subst hkj
        simp only [unread, hk, List.isEmpty_iff] at hu
        rw [hu] at hv; simp at hv
      · have hkl : k < st.boxes.length := by have := (List.getElem?_eq_some_iff.1 hk).1; omega
        have hjl : j < st.boxes.length := (List.getElem?_eq_some_iff.1 h1).1
        have hne : ρ k ≠ ρ' j := fun e => hkj (hr.2.inj k j hkl hjl ((hag k (List.getElem?_eq_some_iff.1 hk).1).trans e))
        rw [World.cell?_of_block (a := ⟨ρ k, 0 + q, none⟩) (setCells_other (ρ' j) cs off w _ hne)]
        exact g2 q v hv
    · rcases hR with rfl | rfl
      · simp at hk
      · obtain ⟨g1, g2⟩ := hS.row k r hk
        refine ⟨by rw [setCells_size]; exact g1, fun q v hv => ?_⟩
        have hjl : j < st.boxes.length := (List.getElem?_eq_some_iff.1 h1).1
        rw [World.cell?_of_block (a := ⟨(σ k).1, (σ k).2 + q, none⟩) (setCells_other (ρ' j) cs off w _ ((hr.2.row k r hk).2.2 j hjl))]
        exact g2 q v hv
  exact ⟨hS', h _ _ _ hag ⟨hA'.put (x := .v undef) (dstOk_lt hd) trivial, hr.2.write h1 h2⟩ hS'⟩
theorem XRd.step {w w' : World} (h : XRd B R ρ σ w) (hb : Below w.heap.size w w') : XRd B R ρ σ w' :=
  ⟨fun k c hk => by
    obtain ⟨g1, g2⟩ := h.box k c hk
    refine ⟨Nat.lt_of_lt_of_le g1 hb.size, fun q v hv => ?_⟩
    rw [World.cell?_of_block (a := ⟨ρ k, 0 + q, none⟩) (hb.block _ g1)]; exact g2 q v hv,
   fun k r hk => by
    obtain ⟨g1, g2⟩ := h.row k r hk
    refine ⟨Nat.lt_of_lt_of_le g1 hb.size, fun q v hv => ?_⟩
    rw [World.cell?_of_block (a := ⟨(σ k).1, (σ k).2 + q, none⟩) (hb.block _ g1)]; exact g2 q v hv⟩
theorem xs_call (i : Nat) (f : FuncId) (args : List Value) (d : Option Nat) {α : Type} {F : α → Value} {G : α → List Fact} {o : Oper} (hi : ops[i]? = some o)
    (hc : xcallee ops st o = some (f, args, d)) (hd : dstOk n d = true) (hf : fnOk P f = true) (hk : XC P w0 st.facts f args F G)
    (h : ∀ y, XE P n w0 ops QX fuel (listed.setIfInBounds i true) B R ρ σ ⟨putT st.tmps d (.v (F y)), st.boxes, st.rows, G y ++ st.facts⟩) : XEs P n w0 ops QX fuel listed B R ρ σ st i := fun ρ' a w hag hr' hS => by
  obtain ⟨h1, h2, h3⟩ := xcallee_sound (P := P) hr'.1 hc hf w
  unfold wpOp
  simp only [hi, h1, if_true]
  left
  rw [Oper.wp, h3, Oper.upon_enter]
  refine (hk w hr'.2.below.size (fun g hg => (hr'.2.fact g hg).1)).mono fun e w'' ⟨y, he, hg, hap, hb⟩ => ?_
  subst he
  have hH := (hr'.2.step hb).addAll (G y) (fun g hgm => ⟨(hg g hgm).1, fun i hi hblk => by have := (hg g hgm).2 _ hblk; have := hr'.2.boxLt hi; omega, fun f hf b hgb hfb => by have := (hg g hgm).2 _ hgb; have := f.lt _ b (hr'.2.fact f hf).1 hfb; omega⟩) hap
  have hA := hr'.1.put (d := o.dst) (x := .v (F y)) (by rw [h2]; exact dstOk_lt hd) trivial
  rw [h2] at hA
  simp only [conc] at hA
  have hA' : XAct n ⟨putT st.tmps d (.v (F y)), st.boxes, st.rows, G y ++ st.facts⟩ ρ' σ (a.put d (F y)) := ⟨hA.size, hA.defers, hA.tmps⟩
  simp only [h2]
  exact ⟨hS.step hb, h y _ _ w'' hag ⟨hA', hH⟩ (hS.step hb)⟩
theorem xs_hv (i : Nat) {α : Type} {F : α → Value} {G : α → List Fact} {o : Oper} (hi : ops[i]? = some o) (hw : xwanted ops st.tmps o = some true) (hd : dstOk n o.dst = true) (hr : allT (lenB st.boxes) 0 st.tmps = true)
    (hB : Under B st.boxes) (hR : R = []) (hk : HV P n w0 st o F G)
    (h : ∀ y, XE P n w0 ops QX fuel (listed.setIfInBounds i true) B R ρ σ ⟨putT st.tmps o.dst (.v (F y)), st.boxes, [], G y⟩) : XEs P n w0 ops QX fuel listed B R ρ σ st i := fun ρ' a w hag hr' hS => by
  obtain ⟨y, w', h1, h2⟩ := hk ρ' σ a w hr'
  unfold wpOp
  simp only [hi, xwanted_sound hr'.1 hw, if_true]
  left
  rw [Oper.wp, h1, Oper.upon_value]
  have hS' : XRd B R ρ σ w' := (h2.under hB (.inl hR)).from hag
  exact ⟨hS', h y _ _ w' hag ⟨(hr'.1.bare hr (G y)).put (x := .v (F y)) (dstOk_lt hd) trivial, h2⟩ hS'⟩
theorem xs_box (i : Nat) (b : Box) (st' : St) {o : Oper} (hi : ops[i]? = some o) (hw : xwanted ops st.tmps o = some true) (hx : xop P st.tmps st.boxes st.rows o.op = some (.box b)) (hd : dstOk n o.dst = true) (hlen : Nat.ble B.length (lenB st.boxes) = true)
    (hst : (⟨putT st.tmps o.dst (.p (lenB st.boxes) 0), addBox st.boxes b, st.rows, st.facts⟩ : St) = st') (h : XE P n w0 ops QX fuel (listed.setIfInBounds i true) B R ρ σ st') : XEs P n w0 ops QX fuel listed B R ρ σ st i := fun ρ' a w hag hr hS => by
  subst hst
  unfold wpOp
  simp only [hi, xwanted_sound hr.1 hw, if_true]
  left
  rw [Oper.wp, xop_box hx hr.1, Oper.upon_value]
  have hA' : XAct n ⟨st.tmps, addBox st.boxes b, st.rows, st.facts⟩ (upd ρ' (lenB st.boxes) w.heap.size) σ a := ⟨hr.1.size, hr.1.defers, fun t x ht => by
    obtain ⟨g1, g2⟩ := hr.1.tmps t x ht
    refine ⟨AV.wf_mono (x := x) g1 (by rw [addBox_eq]; simp) (Nat.le_refl _), ?_⟩
    rw [lenB_eq, conc_upd g1]; exact g2⟩
  have hA2 := hA'.put (d := o.dst) (x := .p (lenB st.boxes) 0) (dstOk_lt hd) (by simp only [AV.wf]; rw [addBox_eq, lenB_eq]; simp)
  have hS' : XRd B R ρ σ (w.alloc (.cells b.cells.toArray b.ty)) := hS.step ((Below.refl _ _).alloc (Nat.le_refl _) _)
  have hag' : Agr B (upd ρ' (lenB st.boxes) w.heap.size) ρ := fun k hk => by
    have := Nat.le_of_ble_eq_true hlen
    unfold upd; rw [if_neg (by omega)]; exact hag k hk
  refine ⟨hS', h _ _ _ hag' ⟨?_, hr.2.push b⟩ hS'⟩
  simpa [conc, upd] using hA2
def QJoinE {α : Type} (stm : α → St) (QX : Exit → St → Prop) : Exit → St → Prop
  | .normal, s => ∃ y, Wk s (stm y)
  | e, s => QX e s
theorem xw_joinE {c : Code} {α : Type} (stm : α → St) (h1 : XW P n w0 (QJoinE stm QX) c st) (h2 : ∀ y, QX .normal (stm y)) : XW P n w0 QX c st := fun ρ σ a w hr =>
  Code.wp_mono (fun e a w ⟨s, ρ, σ, hq, hs⟩ => by
    cases e
    case normal => obtain ⟨y, hy⟩ := hq; exact ⟨stm y, ρ, σ, h2 y, hy _ _ _ _ _ _ hs⟩
    all_goals exact ⟨s, ρ, σ, hq, hs⟩) (h1 ρ σ a w hr)
theorem wk_facts {t : List (Nat × AV)} {b : List Box} {r : List (List Value)} {fs gs : List Fact} (m : List Nat) (hm : m.Nodup) (hl : gs.length = m.length)
    (h : ∀ (i : Nat) (g : Fact) (k : Nat), gs[i]? = some g → m[i]? = some k → ∃ f, fs[k]? = some f ∧ (∀ w, f.p w → g.p w) ∧ (∀ w b, f.p w → g.blk b → f.blk b) ∧ (g.own = true → f.own = true)) : Wk ⟨t, b, r, fs⟩ ⟨t, b, r, gs⟩ :=
  fun n w0 ρ σ a w ⟨h1, h2⟩ => by
    have key : ∀ (i : Nat) (g : Fact), gs[i]? = some g → ∃ k f, m[i]? = some k ∧ fs[k]? = some f ∧ (∀ w, f.p w → g.p w) ∧ (∀ b, g.blk b → f.blk b) ∧ (g.own = true → f.own = true) := fun i g hi => by
      have hlt : i < m.length := by have := (List.getElem?_eq_some_iff.1 hi).1; omega
      obtain ⟨f, e1, e2, e3, e4⟩ := h i g _ hi (List.getElem?_eq_getElem hlt)
      exact ⟨_, f, List.getElem?_eq_getElem hlt, e1, e2, fun b hb => e3 w b ((h2.fact f (List.mem_of_getElem? e1)).1) hb, e4⟩
    refine ⟨⟨h1.size, h1.defers, h1.tmps⟩, ⟨h2.below, h2.box, h2.inj, h2.row, fun g hg => ?_, fun i j f g hi hj hij ho bb hb hb' => ?_⟩⟩
    · obtain ⟨i, hi⟩ := List.getElem?_of_mem hg
      obtain ⟨k, f, _, e1, e2, e3, _⟩ := key i g hi
      have := h2.fact f (List.mem_of_getElem? e1)
      exact ⟨e2 w this.1, fun i hi hb => this.2 i hi (e3 _ hb)⟩
    · obtain ⟨k1, f1, m1, a1, a2, a3, a4⟩ := key i f hi
      obtain ⟨k2, f2, m2, b1, b2, b3, b4⟩ := key j g hj
      refine h2.apart k1 k2 f1 f2 a1 b1 (fun e => ?_) (a4 ho) bb (a3 bb hb) (b3 bb hb')
      subst e
      obtain ⟨l1, q1⟩ := List.getElem?_eq_some_iff.1 m1
      obtain ⟨l2, q2⟩ := List.getElem?_eq_some_iff.1 m2
      rcases Nat.lt_or_gt_of_ne hij with hlt | hlt
      · exact List.pairwise_iff_getElem.1 hm i j l1 l2 hlt (q1.trans q2.symm)
      · exact List.pairwise_iff_getElem.1 hm j i l2 l1 hlt (q2.trans q1.symm)

def pickF (fs : List Fact) : List Nat → Option (List Fact)
  | [] => some []
  | k :: m => match fs[k]?, pickF fs m with
    | some f, some r => some (f :: r)
    | _, _ => none
theorem pickF_get {fs : List Fact} : ∀ {m : List Nat} {gs : List Fact}, pickF fs m = some gs → gs.length = m.length ∧ ∀ (i : Nat) (g : Fact) (k : Nat), gs[i]? = some g → m[i]? = some k → fs[k]? = some g
  | [], gs, h => by simp [pickF] at h; subst h; simp
  | k :: m, gs, h => by
    simp only [pickF] at h
    split at h
    · rename_i f r h1 h2
      simp only [Option.some.injEq] at h; subst h
      obtain ⟨g1, g2⟩ := pickF_get h2
      refine ⟨by simp [g1], fun i g q hi hq => ?_⟩
      cases i with
      | zero => simp at hi hq; subst hi hq; exact h1
      | succ i => simp at hi hq; exact g2 i g q hi hq
    · simp at h
def nodupB : List Nat → Bool
  | [] => true
  | k :: m => m.all (fun q => !Nat.beq k q) && nodupB m
theorem nodupB_spec : ∀ {m : List Nat}, nodupB m = true → m.Nodup
  | [], _ => List.nodup_nil
  | k :: m, h => by
    simp only [nodupB, Bool.and_eq_true, List.all_eq_true, Bool.not_eq_true'] at h
    refine List.nodup_cons.2 ⟨fun hk => ?_, nodupB_spec h.2⟩
    have := h.1 k hk
    rw [Nat.beq_refl] at this; cases this
theorem wk_pick (m : List Nat) {t : List (Nat × AV)} {b : List Box} {r : List (List Value)} {fs : List Fact} (gs : List Fact) (hm : nodupB m = true) (h : pickF fs m = some gs) : Wk ⟨t, b, r, fs⟩ ⟨t, b, r, gs⟩ := by
  obtain ⟨g1, g2⟩ := pickF_get h
  exact wk_facts m (nodupB_spec hm) g1 fun i g k hi hk => ⟨g, g2 i g k hi hk, fun _ h => h, fun _ _ _ h => h, fun h => h⟩
theorem xl_callW (k : Nat) (ks : List Nat) (st' : St) (f : FuncId) (args : List Value) (d : Option Nat) {α : Type} {F : α → Value} {G : α → List Fact} {o : Oper} (i : Nat) (fi : Fact)
    (h : xpart P n ops l k ks st = some st') (ho : l[k]? = some o) (hc : xcallee ops st' o = some (f, args, d)) (hd : dstOk n d = true) (hf : fnOk P f = true)
    (hi : st'.facts[i]? = some fi) (hown : fi.own = true) (hlo : ∀ w b, fi.p w → fi.blk b → w0.heap.size ≤ b) (hrows : allT (lenB st'.boxes) 0 st'.tmps = true)
    (hk : XCM P w0 st'.facts fi.blk f args F G)
    (hn : ∀ y, XL P n w0 ops QX (l.drop (k + 1)) ⟨putT st'.tmps d (.v (F y)), st'.boxes, [], G y ++ dropF st'.facts i⟩) : XL P n w0 ops QX l st :=
  fun ρ σ a w hr => xpart_sound h hr (fun ρ' σ' a' w' hr' => by
    have hdrop : l.drop k = o :: l.drop (k + 1) := by
      obtain ⟨hlt, rfl⟩ := List.getElem?_eq_some_iff.1 ho
      exact List.drop_eq_getElem_cons hlt
    rw [hdrop]
    obtain ⟨h1, h2, h3⟩ := xcallee_sound (P := P) hr'.1 hc hf w'
    simp only [wpList]
    rw [h1, if_pos rfl]
    left
    rw [Oper.wp, h3, Oper.upon_enter]
    have hr2 := hr'.2.noRows
    have hfi := hr2.fact fi (List.mem_of_getElem? hi)
    refine (hk w' hr'.2.below.size (fun g hg => (hr'.2.fact g hg).1)).mono fun e w'' ⟨y, he, hg, hap, hb⟩ => ?_
    subst he
    have hH := (hr2.stepM hi hown (fun b hbk => hlo w' b hfi.1 hbk) hb).addAll (G y) (fun g hgm => ⟨(hg g hgm).1, fun j hj hblk => ?_, fun f hf b hgb hfb => ?_⟩) hap
    · have hA := (hr'.1.bare hrows (G y ++ dropF st'.facts i)).put (d := o.dst) (x := .v (F y)) (by rw [h2]; exact dstOk_lt hd) trivial
      rw [h2] at hA
      simp only [conc] at hA
      simpa only [h2] using hn y ρ' σ' _ w'' ⟨hA, hH⟩
    · rcases (hg g hgm).2 _ hblk with hs | hs
      · exact hfi.2 j hj hs
      · have := hr'.2.boxLt hj; omega
    · obtain ⟨j, hj⟩ := List.getElem?_of_mem hf
      obtain ⟨m, hm, e⟩ := dropF_sub hj
      have hmi : i ≠ m := by subst e; split <;> omega
      rcases (hg g hgm).2 _ hgb with hs | hs
      · exact hr2.apart i m fi f hi hm hmi hown b hs hfb
      · have := f.lt _ b (hr2.fact f (List.mem_of_getElem? hm)).1 hfb; omega)
end
end Go.Proofs.Ytnmmhbhdcplfmaa
