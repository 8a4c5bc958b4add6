/- The machine: a variable of the caller's, by its address; calls in drawn regions that write. -/
import Derived.Test.YtnmmhbhdcplfmaaXO
namespace Go.Proofs.Ytnmmhbhdcplfmaa
open Go.RowKit
set_option linter.unusedVariables false
set_option linter.unusedSimpArgs false
def cellF (B g T : Nat) (cs : List Value) : Fact where
  own := true
  p := fun w => B ≤ g ∧ w.heap[g]? = some (.cells cs.toArray T (0, 0))
  blk := fun b => b = g
  lt := fun w b h hb => by subst hb; exact (Array.getElem?_eq_some_iff.1 h.2).1
  keep := fun w w' h hs hb => ⟨h.1, (hb g rfl).trans h.2⟩
section
variable {P : Program} {n : Nat} {w0 : World} {QX : Exit → St → Prop} {st st' : St} {ops : Array Oper} {l : List Oper} {ρ : Nat → Nat} {σ : Nat → Nat × Nat} {a : Act}
theorem act_nil {o : Oper} {x : Operand} {b m : Nat} (h : XAct n st ρ σ a) (ho : o.op = .nilCheck x) (hx : opv st.tmps x = some (.v (.pointer (some ⟨b, m, none⟩)))) (w : World) : (execOp a.eval o).run P w = .ok (.value (.pointer (some ⟨b, m, none⟩))) w := by
  simp only [execOp, ho, opv_v h hx]; rfl
theorem act_fld {w : World} {o : Oper} {s fi : Nat} {fs : Array Field} {fd : Field} {x : Operand} {b m q sz : Nat} (h : XAct n st ρ σ a) (ho : o.op = .fieldAddr s x fi)
    (hu : P.underlying s = some (.struct fs)) (hf : fs[fi]? = some fd) (hi : (P.info? fd.type).map (·.size) = some sz) (hz : Nat.beq sz 0 = false) (hx : opv st.tmps x = some (.v (.pointer (some ⟨b, m, none⟩)))) (hq : m + fd.offset = q) :
    (execOp a.eval o).run P w = .ok (.value (.pointer (some ⟨b, q, none⟩))) w := by
  subst hq
  have h1 := opv_v h hx
  cases hin : P.info? fd.type with
  | none => simp [hin] at hi
  | some inf =>
    have hs : ¬ inf.size = 0 := by
      have : inf.size = sz := by simpa [hin] using hi
      intro e; rw [this] at e; subst e; cases hz
    simp only [execOp, ho, h1, conc, Instr.fieldAt, Sem.run_bind, run_underlying hu, Result.andThen_ok, hf, Instr.sureAddr, Sem.run_pure, fieldPlace, sizeOf, typeInfo, run_program, hin, hs, if_false, Addr.add_mid]
theorem ld_range {w : World} {o : Oper} {t : TypeId} {x : Operand} {g off : Nat} {cs : List Value} {v : Value} (h : XAct n st ρ σ a) (ho : o.op = .load t x) (hx : opv st.tmps x = some (.v (.pointer (some ⟨g, off, none⟩)))) (hr : w.rangeAt g 0 cs) (hv : loadC P t cs off = some v) :
    (execOp a.eval o).run P w = .ok (.value v) w := by
  have := loadC_run (P := P) (o0 := 0) hr hv
  rw [Nat.zero_add] at this
  simp only [execOp, ho, opv_v h hx, Sem.run_bind, this, Result.andThen_ok, Sem.run_pure]
theorem cellF_range {w : World} {B g T : Nat} {cs : List Value} (h : (cellF B g T cs).p w) : w.rangeAt g 0 cs := fun j v hv => by
  rw [Nat.zero_add, cell_of_row w g j _ T (0, 0) h.2]; simpa using hv
theorem ldP_run {w : World} {o : Oper} {t : TypeId} {x : Operand} {B g T off : Nat} {cs : List Value} {v : Value} (hr : XRep n w0 st ρ σ a w) (ho : o.op = .load t x) (hx : opv st.tmps x = some (.v (.pointer (some ⟨g, off, none⟩)))) (hf : cellF B g T cs ∈ st.facts) (hv : loadC P t cs off = some v) :
    (execOp a.eval o).run P w = .ok (.value v) w := ld_range hr.1 ho hx (cellF_range (hr.2.fact _ hf).1) hv
theorem hs_stP {o : Oper} {t : TypeId} {x y : Operand} {B g T off i : Nat} {cs : List Value} {v : Value} (vs : List Value) {cs' : List Value} (ho : o.op = .store t x y) (hx : opv st.tmps x = some (.v (.pointer (some ⟨g, off, none⟩)))) (hy : opv st.tmps y = some (.v v)) (hvs : v.cells.toList = vs)
    (hsz : (P.info? t).map (·.size) = some vs.length) (h1 : vs.all (·.oneCell') = true) (hfit : Nat.ble (off + vs.length) cs.length = true) (hi : st.facts[i]? = some (cellF B g T cs)) (hcs : setL cs off vs = cs') (hlo : w0.heap.size ≤ B) :
    HS P n w0 st o (cellF B g T cs' :: dropF st.facts i) := fun ρ σ a w hr => by
  subst hcs hvs
  have hown := (hr.2.fact _ (List.mem_of_getElem? hi)).1
  have hfit := Nat.le_of_ble_eq_true hfit
  cases hin : P.info? t with
  | none => simp [hin] at hsz
  | some inf =>
    have hs : inf.size = v.cells.toList.length := by simpa [hin] using hsz
    have hc := run_storeCells_cells (P := P) g off v.cells.toList 0 w (fun j hj => by
        rw [cell_of_row w g _ _ T (0, 0) hown.2, Array.getElem?_eq_getElem (by simp only [List.size_toArray]; omega)]; rfl)
      (fun j hj => frozen_of_row w g _ _ T hown.2) (fun u hu => List.all_eq_true.1 h1 u hu)
    simp only [Nat.add_zero] at hc
    have hw2 := setCells_heap g v.cells.toList off w cs.toArray T hown.2 (by simpa using hfit)
    refine ⟨w.setCells g off v.cells.toList, ?_, hr.2.noRows.turn hi rfl (fun b hb => by subst hb; exact Nat.le_trans hlo hown.1) (chgd_cells rfl) _ ⟨hown.1, hw2⟩ fun b hb => .inl hb⟩
    have hne : inf.size = v.cells.size := by simpa using hs
    simp only [execOp, ho, opv_v hr.1 hx, opv_v hr.1 hy, Sem.run_bind, Instr.storeAt, Instr.sureAddr, Sem.run_pure, Result.andThen_ok, storeVar, sizeOf, typeInfo, run_program, hin, hne, ne_eq, not_true_eq_false, if_false, hc]
theorem xws_cell {c : Code} {φ : (Nat → Nat × Nat) → Prop} {B g T : Nat} {cs : List Value} (hφ : ∀ σ x, φ σ → φ (fun k => if k = lenR st.rows then x else σ k)) (hf : cellF B g T cs ∈ st.facts)
    (hn : XWs P n w0 QX (fun σ => φ σ ∧ σ (lenR st.rows) = (g, 0)) c ⟨st.tmps, st.boxes, addRow st.rows cs, st.facts⟩) : XWs P n w0 QX φ c st :=
  fun ρ σ a w hr hp => by
    obtain ⟨h1, h2⟩ := hr.2.fact _ hf
    exact hn ρ _ a w ⟨hr.1.addRow cs (g, 0), hr.2.addRow (cellF_range h1) (Array.getElem?_eq_some_iff.1 h1.2).1 (fun i hi e => h2 i hi e.symm)⟩ ⟨hφ σ _ hp, by simp⟩
variable {fuel : Nat} {listed : Array Bool} {B : List Box} {R : List (List Value)}
theorem xe_opH (i : Nat) (v : Value) (st' : St) {o : Oper} (hi : ops[i]? = some o) (hs : Region.noSelect ops = true) (hf : Region.free .any ops listed i = true) (hr : (Region.ready .any ops listed).contains i = true)
    (hp : ∀ c s, ¬ QX (.panic c) s) (hw : xwanted ops st.tmps o = some true) (hd : dstOk n o.dst = true)
    (hrun : ∀ (ρ' : Nat → Nat) (a : Act) (w : World), XAct n st ρ' σ a → XRd B R ρ σ w → (execOp a.eval o).run P w = .ok (.value v) w) (hst : (⟨putT st.tmps o.dst (.v v), st.boxes, st.rows, st.facts⟩ : St) = st')
    (h : XE P n w0 ops QX fuel (listed.setIfInBounds i true) B R ρ σ st') : XE P n w0 ops QX (fuel + 1) listed B R ρ σ st :=
  fun ρ' a w hag hr' hS => by
    subst hst
    exact wpAnyH_take hi hs hf hr (v := v) (fun c a w ⟨s, _, _, hq, _⟩ => (hp c s hq).elim) (.inl ⟨xwanted_sound hr'.1 hw, fun w' hS => hrun _ a w' hr'.1 hS⟩) hS (h _ _ w hag ⟨hr'.1.put (x := .v v) (dstOk_lt hd) trivial, hr'.2⟩ hS)
theorem rd_row {w : World} {g h : Nat} {cs : List Value} (hS : XRd B R ρ σ w) (hr : R[h]? = some cs) (hσ : σ h = (g, 0)) : w.rangeAt g 0 cs := by
  have := (hS.row h cs hr).2; rw [hσ] at this; exact this
theorem xs_callW (i : Nat) (f : FuncId) (args : List Value) (d : Option Nat) {α : Type} {F : α → Value} {G : α → List Fact} {o : Oper} (k : Nat) (fi : Fact) (hi : ops[i]? = some o)
    (hc : xcallee ops st o = some (f, args, d)) (hd : dstOk n d = true) (hf : fnOk P f = true) (hfi : st.facts[k]? = some fi) (hown : fi.own = true) (hlo : ∀ w b, fi.p w → fi.blk b → w0.heap.size ≤ b) (hrows : allT (lenB st.boxes) 0 st.tmps = true)
    (hB : Under B st.boxes) (hR : R = []) (hk : XCM P w0 st.facts fi.blk f args F G)
    (h : ∀ y, XE P n w0 ops QX fuel (listed.setIfInBounds i true) B R ρ σ ⟨putT st.tmps d (.v (F y)), st.boxes, [], G y ++ dropF st.facts k⟩) : XEs P n w0 ops QX fuel listed B R ρ σ st i := fun ρ' a w hag hr' hS => by
  obtain ⟨h1, h2, h3⟩ := xcallee_sound (P := P) hr'.1 hc hf w
  unfold wpOp
  simp only [hi, h1, if_true]
  left
  rw [Oper.wp, h3, Oper.upon_enter]
  have hr2 := hr'.2.noRows
  have hff := hr2.fact fi (List.mem_of_getElem? hfi)
  refine (hk w hr'.2.below.size (fun g hg => (hr'.2.fact g hg).1)).mono fun e w'' ⟨y, he, hg, hap, hb⟩ => ?_
  subst he
  have hH := (hr2.stepM hfi hown (fun b hbk => hlo w b hff.1 hbk) hb).addAll (G y) (fun g hgm => ⟨(hg g hgm).1, fun j hj hblk => ?_, fun f hf b hgb hfb => ?_⟩) hap
  · have hA := (hr'.1.bare hrows (G y ++ dropF st.facts k)).put (d := o.dst) (x := .v (F y)) (by rw [h2]; exact dstOk_lt hd) trivial
    rw [h2] at hA
    simp only [conc] at hA
    have hS' : XRd B R ρ σ w'' := (hH.under hB (.inl hR)).from hag
    simpa only [h2] using (⟨hS', h y ρ' _ w'' hag ⟨hA, hH⟩ hS'⟩ : _ ∧ _)
  · rcases (hg g hgm).2 _ hblk with hs | hs
    · exact hff.2 j hj hs
    · have := hr'.2.boxLt hj; omega
  · obtain ⟨j, hj⟩ := List.getElem?_of_mem hf
    obtain ⟨m, hm, e⟩ := dropF_sub hj
    have hmi : k ≠ m := by subst e; split <;> omega
    rcases (hg g hgm).2 _ hgb with hs | hs
    · exact hr2.apart k m fi f hfi hm hmi hown b hs hfb
    · have := f.lt w b (hr2.fact f (List.mem_of_getElem? hm)).1 hfb; omega
end
theorem shr_run {P : Program} {t : TypeId} {x y : Operand} {k k' : IntKind} {a b : Int} (hb : 0 ≤ b) (hb' : b ≤ k.bits) (w : World) : (do eqGuard .shr t x y (.int k a) (.int k' b); binOp .shr t (.int k a) (.int k' b) : Sem Value).run P w = .ok (.int k (a.fdiv (2 ^ b.toNat))) w := by
  have h1 : ¬ b < 0 := by omega
  have h2 : min b.toNat k.bits = b.toNat := by omega
  simp [eqGuard, binOp, Op.shift, h1, h2]
theorem xor_run {P : Program} {t : TypeId} {x y : Operand} {k : IntKind} {a b : Int} (w : World) : (do eqGuard .xor t x y (.int k a) (.int k b); binOp .xor t (.int k a) (.int k b) : Sem Value).run P w = .ok (.int k (k.wrap (BitVec.ofInt k.bits a ^^^ BitVec.ofInt k.bits b).toNat)) w := by
  simp [eqGuard, binOp, Op.intArith, Op.intBits]
theorem and255 (x : Int) : 0 ≤ IntKind.i64.wrap (BitVec.ofInt 64 x &&& BitVec.ofInt 64 255).toNat ∧ IntKind.i64.wrap (BitVec.ofInt 64 x &&& BitVec.ofInt 64 255).toNat ≤ 255 := by
  have h : (BitVec.ofInt 64 x &&& BitVec.ofInt 64 255).toNat ≤ 255 := by
    rw [BitVec.toNat_and, show (BitVec.ofInt 64 255).toNat = 255 from by decide]; exact Nat.and_le_right
  rw [wrap_id (by omega) (by omega)]; omega
end Go.Proofs.Ytnmmhbhdcplfmaa
