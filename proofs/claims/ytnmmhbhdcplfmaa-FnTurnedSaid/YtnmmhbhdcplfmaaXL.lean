/- Single operations of the machine with facts of their own. -/
import Derived.Test.YtnmmhbhdcplfmaaXK
import Derived.Laws.Cover3
import Derived.Laws.BytesString
import Derived.Laws.Cells
namespace Go.Proofs.Ytnmmhbhdcplfmaa
open Go.RowKit
set_option linter.unusedVariables false
set_option linter.unusedSimpArgs false

section
variable {P : Program} {n : Nat} {w0 : World} {QX : Exit → St → Prop} {st st' : St} {ops : Array Oper} {l : List Oper} {ρ : Nat → Nat} {σ : Nat → Nat × Nat} {a : Act}
theorem act_bin {o : Oper} {op : BinOp} {t ty : TypeId} {x y : Operand} {va vb v : Value} (h : XAct n st ρ σ a) (ho : o.op = .binOp op t x y ty)
    (hx : opv st.tmps x = some (.v va)) (hy : opv st.tmps y = some (.v vb)) {w : World} (hrun : (do eqGuard op t x y va vb; binOp op t va vb : Sem Value).run P w = .ok v w) : (execOp a.eval o).run P w = .ok (.value v) w := by
  have h1 := opv_v h hx
  have h2 := opv_v h hy
  simp only [execOp, ho, h1, h2, Sem.run_bind] at hrun ⊢
  simp only [hrun, Result.andThen_ok, Sem.run_pure]
theorem str_add {t : TypeId} {x y : Operand} {a b : ByteArray} (h : a.size + b.size ≤ 9223372036854775807) (w : World) : (do eqGuard .add t x y (.string a) (.string b); binOp .add t (.string a) (.string b) : Sem Value).run P w = .ok (.string (a ++ b)) w := by
  have h1 : ¬ ((a.size + b.size : Nat) : Int) > IntKind.i64.max := by
    have : IntKind.i64.max = 9223372036854775807 := by decide
    rw [this]; omega
  have h2 : ¬ (IntKind.i64.max < (a.size : Int) + (b.size : Int)) := by
    have : IntKind.i64.max = 9223372036854775807 := by decide
    rw [this]; omega
  have h3 : (a.size : Int) + (b.size : Int) ≤ IntKind.i64.max := by omega
  simp [eqGuard, binOp, Op.stringOp, h1, h2, h3]
  try omega
theorem shl_run {t : TypeId} {x y : Operand} {k k' : IntKind} {a b : Int} (hb : 0 ≤ b) (hb' : b ≤ k.bits) (w : World) : (do eqGuard .shl t x y (.int k a) (.int k' b); binOp .shl t (.int k a) (.int k' b) : Sem Value).run P w = .ok (.int k (k.wrap (a * 2 ^ b.toNat))) w := by
  have h1 : ¬ b < 0 := by omega
  have h2 : min b.toNat k.bits = b.toNat := by omega
  simp [eqGuard, binOp, Op.shift, h1, h2]
theorem rem_run {t : TypeId} {x y : Operand} {k : IntKind} {a b : Int} (hb : b ≠ 0) (w : World) : (do eqGuard .rem t x y (.int k a) (.int k b); binOp .rem t (.int k a) (.int k b) : Sem Value).run P w = .ok (.int k (a.tmod b)) w := by
  simp [eqGuard, binOp, Op.intArith, Op.intDiv, hb]
theorem agg_bin {op : BinOp} {T : TypeId} {x y : Operand} {a b : Array Value} {v : Value} {w : World} (hg : P.eqGuardType P.depth T = false) (hr : (binOp op T (.agg a) (.agg b)).run P w = .ok v w) :
    (do eqGuard op T x y (.agg a) (.agg b); binOp op T (.agg a) (.agg b) : Sem Value).run P w = .ok v w := agg_run hg hr
theorem act_build {o : Oper} {t : TypeId} {parts : Array (Nat × Operand)} (ps : List (Nat × Value)) {cells : Array Value} (h : XAct n st ρ σ a) (ho : o.op = .build t parts) (hv : partV st.tmps parts.toList = some ps) (hb : P.built t ps = some cells) (w : World) :
    (execOp a.eval o).run P w = .ok (.value (.agg cells)) w := by
  have hpe : (parts.map fun x => (x.1, a.eval x.2)).toList = ps := by rw [Array.toList_map]; exact partV_eval h _ _ hv
  have := Go.run_build (P := P) w t (parts.map fun x => (x.1, a.eval x.2)) cells (by rw [hpe]; exact hb)
  simp only [execOp, ho, Sem.run_bind]
  rw [this]; rfl
theorem act_slS {o : Oper} {t : TypeId} {x lo hi : Operand} {s : ByteArray} {k k' : IntKind} (p q : Int) (h : XAct n st ρ σ a) (ho : o.op = .slice t x (some lo) (some hi) none) (hu : (P.underlying t).map (fun d => d matches .string) = some true) (hx : opv st.tmps x = some (.v (.string s)))
    (hlo : opv st.tmps lo = some (.v (.int k p))) (hhi : opv st.tmps hi = some (.v (.int k' q))) (h1 : 0 ≤ p) (h2 : p ≤ q) (h3 : q ≤ s.size) (w : World) :
    (execOp a.eval o).run P w = .ok (.value (.string (s.extract p.toNat q.toNat))) w := by
  cases hq : P.underlying t with
  | none => simp [hq] at hu
  | some d =>
    cases d <;> simp [hq] at hu
    have e1 : (0 ≤ q ∧ q ≤ (s.size : Int)) := by omega
    have e2 : (0 ≤ p ∧ p ≤ (q.toNat : Int)) := by omega
    simp only [execOp, ho, opv_v h hx, opv_v h hlo, opv_v h hhi, Option.map_some, Option.map_none, Sem.run_bind, Instr.sliceAt, Instr.slice, run_underlying hq, Result.andThen_ok]
    simp [Instr.sliceBounds, Instr.sliceBound, asIntOf, e1, e2]
    try (intro hh; exfalso; omega)
theorem act_slS0 {o : Oper} {t : TypeId} {x hi : Operand} {s : ByteArray} {k' : IntKind} (q : Int) (h : XAct n st ρ σ a) (ho : o.op = .slice t x none (some hi) none) (hu : (P.underlying t).map (fun d => d matches .string) = some true) (hx : opv st.tmps x = some (.v (.string s)))
    (hhi : opv st.tmps hi = some (.v (.int k' q))) (h2 : 0 ≤ q) (h3 : q ≤ s.size) (w : World) :
    (execOp a.eval o).run P w = .ok (.value (.string (s.extract 0 q.toNat))) w := by
  cases hq : P.underlying t with
  | none => simp [hq] at hu
  | some d =>
    cases d <;> simp [hq] at hu
    have e1 : (0 ≤ q ∧ q ≤ (s.size : Int)) := by omega
    simp only [execOp, ho, opv_v h hx, opv_v h hhi, Option.map_some, Option.map_none, Sem.run_bind, Instr.sliceAt, Instr.slice, run_underlying hq, Result.andThen_ok]
    simp [Instr.sliceBounds, Instr.sliceBound, asIntOf, e1]
theorem act_slSe {o : Oper} {t : TypeId} {x lo : Operand} {s : ByteArray} {k : IntKind} (p : Int) (h : XAct n st ρ σ a) (ho : o.op = .slice t x (some lo) none none) (hu : (P.underlying t).map (fun d => d matches .string) = some true) (hx : opv st.tmps x = some (.v (.string s)))
    (hlo : opv st.tmps lo = some (.v (.int k p))) (h1 : 0 ≤ p) (h2 : p ≤ s.size) (w : World) :
    (execOp a.eval o).run P w = .ok (.value (.string (s.extract p.toNat s.size))) w := by
  cases hq : P.underlying t with
  | none => simp [hq] at hu
  | some d =>
    cases d <;> simp [hq] at hu
    have e2 : (0 ≤ p ∧ p ≤ (s.size : Int)) := by omega
    simp only [execOp, ho, opv_v h hx, opv_v h hlo, Option.map_some, Option.map_none, Sem.run_bind, Instr.sliceAt, Instr.slice, run_underlying hq, Result.andThen_ok]
    simp [Instr.sliceBounds, Instr.sliceBound, asIntOf, e2]
theorem act_nilEq {o : Oper} {t ty e : TypeId} {x y : Operand} {A : Option Addr} {m c : Nat} (h : XAct n st ρ σ a) (ho : o.op = .binOp .eql t x y ty) (hu : P.underlying t = some (.slice e))
    (hx : opv st.tmps x = some (.v (.slice A m c))) (hy : opv st.tmps y = some (.v (.slice none 0 0))) (w : World) : (execOp a.eval o).run P w = .ok (.value (.bool A.isNone)) w := by
  have h1 := opv_v h hx
  have h2 := opv_v h hy
  simp only [execOp, ho, h1, h2, Sem.run_bind]
  have hq : (Op.equalIn Op.maxDepth t (.slice A m c) (.slice none 0 0)).run P w = .ok A.isNone w := run_equalIn_slice_nil (P := P) w 9999 t e A m c hu
  cases A <;> simp [eqGuard, binOp, Op.equal, hq] <;> (rw [hq]; rfl)

def byteRow (z : Int) : List Value := [.int .u8 z]
def bstr (zs : List Int) : ByteArray := zs.foldl (fun r n => r.push (UInt8.ofNat n.toNat)) ByteArray.empty
theorem act_b2s {o : Oper} {s d e : TypeId} {x : Operand} {A : Option Addr} {m c : Nat} {w : World} (zs : List Int) (h : XAct n st ρ σ a) (ho : o.op = .convert s d x) (hs : P.underlying s = some (.slice e)) (hd : P.underlying d = some .string) (he : P.underlying e = some (.int .u8))
    (hx : opv st.tmps x = some (.v (.slice A m c))) (hsl : Sl w (.slice A m c) 1 (zs.map byteRow)) : (execOp a.eval o).run P w = .ok (.value (.string (bstr zs))) w := by
  have h1 := opv_v h hx
  obtain ⟨a1, c1, g1, g2, g3, g4, g5⟩ := hsl
  simp only [Value.slice.injEq] at g1
  obtain ⟨rfl, rfl, rfl⟩ := g1
  have hcv : (convert s d (.slice A (zs.map byteRow).length c)).run P w = .ok (.string (bstr zs)) w := by
    have key : (Conv.bytesToString (.slice A (zs.map byteRow).length c)).run P w = .ok (.string (bstr zs)) w := by
      cases zs with
      | nil =>
        cases A with
        | none => simp [Conv.bytesToString, bstr]
        | some ad => exact run_bytesToString w ad _ c [] (by simp [loadCells, loadCellsFrom])
      | cons z zs =>
        obtain ⟨b, off, rfl, g7, g8⟩ := g5 0 (byteRow z) (by simp)
        refine run_bytesToString w _ _ c (z :: zs) ?_
        have hlen : (List.map byteRow (z :: zs)).length = ((z :: zs).map (Value.int .u8)).length := by simp
        rw [hlen, run_loadCells_list w ⟨b, off, none⟩ ((z :: zs).map (Value.int .u8)) (fun j v hv => ?_)]
        · obtain ⟨q, hq, rfl⟩ : ∃ q, (z :: zs)[j]? = some q ∧ Value.int .u8 q = v := by
            rw [List.getElem?_map] at hv
            cases hz : (z :: zs)[j]? with
            | none => rw [hz] at hv; simp at hv
            | some q => rw [hz] at hv; simp at hv; exact ⟨q, rfl, hv⟩
          obtain ⟨b', off', e1, _, h8⟩ := g5 j (byteRow q) (by rw [List.getElem?_map, hq]; rfl)
          simp only [Option.some.injEq, Addr.mk.injEq, and_true] at e1
          obtain ⟨rfl, rfl⟩ := e1
          have := h8 0 (.int .u8 q) rfl
          rw [Addr.add_mid]; simpa using this
    unfold convert
    simp only [Sem.run_bind, run_underlying hs, run_underlying hd, Result.andThen_ok]
    cases A with
    | none => simp only [Sem.run_bind, run_underlying he, Result.andThen_ok]; exact key
    | some ad => simp only [Sem.run_bind, run_underlying he, Result.andThen_ok]; exact key
  simp only [execOp, ho, h1, Sem.run_bind, hcv, Result.andThen_ok, Sem.run_pure]

theorem XRep.free {w : World} (hr : XRep n w0 st ρ σ a w) (f : Fact) (hf : f.p w) (hb : ∀ b, ¬ f.blk b) : XRep n w0 ⟨st.tmps, st.boxes, st.rows, f :: st.facts⟩ ρ σ a w :=
  ⟨⟨hr.1.size, hr.1.defers, hr.1.tmps⟩, hr.2.add f hf (fun i hi h => hb _ h) (fun g hg b h => (hb b h).elim)⟩
theorem nilF_b (B e K b : Nat) : ¬ (rowF B e K (.slice none 0 0) []).blk b := fun h => by
  have h : none = some b := h
  cases h
theorem xe_takeI {fuel : Nat} {listed : Array Bool} {B : List Box} {R : List (List Value)} (i h : Nat) (st' : St) {o : Oper} {T e : TypeId} {x idx : Operand} {K len cap j b off : Nat} {A : Option Addr} {kd : IntKind}
    (hi : ops[i]? = some o) (hs : Region.noSelect ops = true) (hf : Region.free .any ops listed i = true) (hr : (Region.ready .any ops listed).contains i = true)
    (hp : ∀ c s, ¬ QX (.panic c) s) (hw : xwanted ops st.tmps o = some true) (hd : dstOk n o.dst = true) (hop : o.op = .indexAddr T x idx)
    (hu : P.underlying T = some (.slice e)) (hK : (P.info? e).map (·.size) = some K) (hx : opv st.tmps x = some (.v (.slice A len cap))) (hidx : opv st.tmps idx = some (.v (.int kd (j : Int))))
    (hlt : j < len) (hA : A = some ⟨b, off, none⟩) (hσ : σ h = (b, off + j * K)) (hh : Nat.blt h (lenR st.rows) = true) (hst : (⟨putT st.tmps o.dst (.r h 0), st.boxes, st.rows, st.facts⟩ : St) = st')
    (hn : XE P n w0 ops QX fuel (listed.setIfInBounds i true) B R ρ σ st') : XE P n w0 ops QX (fuel + 1) listed B R ρ σ st :=
  fun ρ' a w hag hr' hS => by
    subst hst
    have hrun : ∀ w, (execOp a.eval o).run P w = .ok (.value (conc ρ' σ (.r h 0))) w := fun w => by
      simp only [execOp, hop, opv_v hr'.1 hx, opv_v hr'.1 hidx, Sem.run_bind, index_run hu hK hA hlt w, Result.andThen_ok, Sem.run_pure, conc, hσ, Nat.add_zero]
    exact wpAnyH_take hi hs hf hr (v := conc ρ' σ (.r h 0)) (fun c a w ⟨s, _, _, hq, _⟩ => (hp c s hq).elim) (.inl ⟨xwanted_sound hr'.1 hw, fun w' hS => hrun w'⟩) hS
      (hn _ _ w hag ⟨hr'.1.put (x := .r h 0) (dstOk_lt hd) (by simp only [AV.wf]; rw [lenR_eq] at hh; simpa using hh), hr'.2⟩ hS)
theorem xws_regionE {id : Nat} {φ : (Nat → Nat × Nat) → Prop} (k : List Bool) (hm : P.follows .mixedOrders = true) (h : ∀ ρ σ, φ σ → XE P n w0 ops QX ops.size (Array.replicate ops.size false) (mskB k st.boxes) st.rows ρ σ st) : XWs P n w0 QX φ (.region id ops true) st :=
  fun ρ σ a w hr hp => wp_region_held hm (h ρ σ hp ρ a w.drew (Agr.refl _ _) ⟨hr.1, hr.2.drew⟩ (hr.2.drew.under (Under.msk k _) (.inr rfl)))
theorem xe_region0 {id : Nat} (k : List Bool) (hm : P.follows .mixedOrders = true) (h : ∀ ρ σ, XE P n w0 ops QX ops.size (Array.replicate ops.size false) (mskB k st.boxes) [] ρ σ st) : XW P n w0 QX (.region id ops true) st :=
  fun ρ σ a w hr => wp_region_held hm (h ρ σ ρ a w.drew (Agr.refl _ _) ⟨hr.1, hr.2.drew⟩ (hr.2.drew.under (Under.msk k _) (.inl rfl)))
theorem xs_opR {fuel : Nat} {listed : Array Bool} {B : List Box} {R : List (List Value)} (i : Nat) (v : Value) (st' : St) {o : Oper} (hi : ops[i]? = some o) (hw : xwanted ops st.tmps o = some true) (hd : dstOk n o.dst = true)
    (hrun : ∀ (ρ' : Nat → Nat) (a : Act) (w : World), XRep n w0 st ρ' σ a w → (execOp a.eval o).run P w = .ok (.value v) w) (hst : (⟨putT st.tmps o.dst (.v v), st.boxes, st.rows, st.facts⟩ : St) = st')
    (h : XE P n w0 ops QX fuel (listed.setIfInBounds i true) B R ρ σ st') : XEs P n w0 ops QX fuel listed B R ρ σ st i := fun ρ' a w hag hr hS => by
  subst hst
  unfold wpOp
  simp only [hi, xwanted_sound hr.1 hw, if_true]
  left
  rw [Oper.wp, hrun _ a w hr, Oper.upon_value]
  exact ⟨hS, h _ _ w hag ⟨hr.1.put (x := .v v) (dstOk_lt hd) trivial, hr.2⟩ hS⟩
theorem eqT {α : Type} [BEq α] [LawfulBEq α] {a b : α} (h : (a == b) = true) : a = b := eq_of_beq h
theorem eqF {α : Type} [BEq α] [LawfulBEq α] {a b : α} (h : (a == b) = false) : ¬ a = b := by simpa using h
theorem neT {α : Type} [BEq α] [LawfulBEq α] {a b : α} (h : (a != b) = true) : ¬ a = b := by simpa using h
theorem neF {α : Type} [BEq α] [LawfulBEq α] {a b : α} (h : (a != b) = false) : a = b := by simpa using h
theorem not_t {b : Bool} (h : (!b) = true) : b = false := by simpa using h
theorem not_f {b : Bool} (h : (!b) = false) : b = true := by simpa using h
theorem and_l {a b : Bool} (h : (a && b) = true) : a = true := by simp at h; exact h.1
theorem and_r {a b : Bool} (h : (a && b) = true) : b = true := by simp at h; exact h.2
theorem or_l {a b : Bool} (h : (a || b) = false) : a = false := by simp at h; exact h.1
theorem or_r {a b : Bool} (h : (a || b) = false) : b = false := by simp at h; exact h.2
theorem Sl.nil_of {α : Type} {w : World} {A : Option Addr} {n c K : Nat} {l : List α} {f : α → List Value} (h : A.isNone = true) (hl : Sl w (.slice A n c) K (l.map f)) : l = [] := by
  obtain ⟨a1, c1, g1, g2, g3, g4, g5⟩ := hl
  simp only [Value.slice.injEq] at g1
  obtain ⟨rfl, rfl, rfl⟩ := g1
  have := g4 (by simpa using h)
  exact List.eq_nil_of_length_eq_zero (by simp at g2; omega)
def intRow (z : Int) : List Value := [.int .i64 z]
theorem Sl.part {w : World} {A : Option Addr} {len cap K : Nat} {rs : List (List Value)} (h : Sl w (.slice A len cap) K rs) (p q : Nat) (h1 : p ≤ q) (h2 : q ≤ len) : Sl w (.slice (if cap = p then A else A.map (·.add (p * K))) (q - p) (cap - p)) K ((rs.drop p).take (q - p)) := by
  obtain ⟨a1, c1, g1, g2, g3, g4, g5⟩ := h
  simp only [Value.slice.injEq] at g1
  obtain ⟨rfl, rfl, rfl⟩ := g1
  refine ⟨if cap = p then A else A.map (·.add (p * K)), cap - p, ?_, ?_, by omega, fun e => ?_, fun i r hr => ?_⟩
  · congr 1; simp; omega
  · simp; omega
  · split at e
    · omega
    · have : A = none := by simpa using e
      have := g4 this; omega
  · have hi : i < q - p := by have := (List.getElem?_eq_some_iff.1 hr).1; simp at this; omega
    rw [List.getElem?_take, if_pos hi, List.getElem?_drop] at hr
    obtain ⟨b, off, rfl, g7, g8⟩ := g5 (p + i) r hr
    refine ⟨b, off + p * K, ?_, g7, ?_⟩
    · rw [if_neg (by omega)]; simp only [Option.map_some, Addr.add_mid]
    · rw [show off + p * K + i * K = off + (p + i) * K by rw [Nat.add_mul]; omega]; exact g8
end
end Go.Proofs.Ytnmmhbhdcplfmaa
