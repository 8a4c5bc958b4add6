/- More of the machine: making slices, parts of slices, calls that write, regions that draw their order with calls in them, results of the call's own. -/
import Derived.Test.YtnmmhbhdcplfmaaXI
namespace Go.Proofs.Ytnmmhbhdcplfmaa
open Go.RowKit
set_option linter.unusedVariables false
set_option linter.unusedSimpArgs false

section
variable {P : Program} {n : Nat} {w0 : World} {QX : Exit → St → Prop} {st st' : St} {ops : Array Oper} {l : List Oper}
def partV (l : List (Nat × AV)) : List (Nat × Operand) → Option (List (Nat × Value))
  | [] => some []
  | (i, x) :: r => match opv l x, partV l r with
    | some (.v v), some vs => some ((i, v) :: vs)
    | _, _ => none
theorem partV_eval {ρ : Nat → Nat} {σ : Nat → Nat × Nat} {a : Act} (h : XAct n st ρ σ a) : ∀ (xs : List (Nat × Operand)) (vs : List (Nat × Value)), partV st.tmps xs = some vs → (xs.map fun x => (x.1, a.eval x.2)) = vs
  | [], vs, hv => by simp [partV] at hv; subst hv; rfl
  | (i, x) :: r, vs, hv => by
    simp only [partV] at hv
    split at hv
    · rename_i v us h1 h2
      simp only [Option.some.injEq] at hv; subst hv
      rw [List.map_cons, opv_v h h1, partV_eval h r us h2]
    · simp at hv
def allK (K : Nat) : List Value → Bool
  | [] => true
  | v :: r => Nat.beq v.cells.size K && allK K r
theorem allK_spec {K : Nat} : ∀ {vs : List Value}, allK K vs = true → ∀ v ∈ vs, v.cells.size = K
  | [], _, v, hv => by simp at hv
  | u :: r, h, v, hv => by
    simp only [allK, Bool.and_eq_true] at h
    rcases List.mem_cons.1 hv with rfl | hv
    · exact Nat.eq_of_beq_eq_true h.1
    · exact allK_spec h.2 v hv
theorem XHeap.fresh {boxes : List Box} {rows : List (List Value)} {facts : List Fact} {ρ : Nat → Nat} {σ : Nat → Nat × Nat} {w w' : World} (h : XHeap w0 boxes rows facts ρ σ w) (hb : Below w.heap.size w w') (f : Fact) (hf : f.p w') (hlo : ∀ b, f.blk b → w.heap.size ≤ b) :
    XHeap w0 boxes rows (f :: facts) ρ σ w' :=
  (h.step hb).add f hf (fun i hi hbk => by have := hlo _ hbk; have := h.boxLt hi; omega) (fun g hg b hbk hgb => by have := hlo _ hbk; have := g.lt _ b (h.fact g hg).1 hgb; omega)
theorem hv_build {o : Oper} {T e K bytes len : Nat} {parts : Array (Nat × Operand)} (vs : List Value) {rs : List (List Value)} (hop : o.op = .buildSlice T len parts) (hp : appOk P T e K bytes = true) (hv : partV st.tmps parts.toList = some ((vs.zipIdx 0).map fun x => (x.2, x.1)))
    (hl : Nat.beq vs.length len = true) (hk : allK K vs = true) (hs : Nat.ble (len * K) 16777216 = true) (hrs : vs.map (fun v => v.cells.toList) = rs) :
    HV P n w0 st o (α := Nat) (fun g => .slice (some ⟨g, 0, none⟩) len len) (fun g => rowF w0.heap.size e K (.slice (some ⟨g, 0, none⟩) len len) rs :: st.facts) := fun ρ σ a w hr => by
  obtain ⟨hu, i, z, hi, hz, hsz, hby, hzs, h0⟩ := appOk_spec hp
  have hl := Nat.eq_of_beq_eq_true hl
  have hk := allK_spec hk
  have hs := Nat.le_of_ble_eq_true hs
  subst hl hrs
  have hkr : ∀ r ∈ vs.map (fun v => v.cells.toList), r.length = K := fun r hr => by
    obtain ⟨v, hv, rfl⟩ := List.mem_map.1 hr
    simpa using hk v hv
  have hcs : (vs.flatMap fun v => v.cells.toList) = (vs.map (fun v => v.cells.toList)).flatten := List.flatMap_def
  have hrun : (execOp a.eval o).run P w = .ok (.value (.slice (some ⟨w.heap.size, 0, none⟩) vs.length vs.length)) (w.alloc (.cells (vs.flatMap fun v => v.cells.toList).toArray e)) := by
    have hpe : (parts.map fun x => (x.1, a.eval x.2)).toList = (vs.zipIdx 0).map fun x => (x.2, x.1) := by
      rw [Array.toList_map]; exact partV_eval hr.1 _ _ hv
    by_cases hpos : vs.length * i.size = 0
    · have hv0 : vs = [] := List.eq_nil_of_length_eq_zero (by
        rcases Nat.mul_eq_zero.1 hpos with h | h
        · exact h
        · omega)
      subst hv0
      simp only [List.zipIdx_nil, List.map_nil, Array.toList_eq_nil_iff] at hpe
      have hp0 : parts = #[] := by
        have : parts.size = 0 := by have := congrArg Array.size hpe; simpa using this
        exact Array.eq_empty_of_size_eq_zero this
      subst hp0
      simp [execOp, hop, Instr.buildSlice, run_underlying hu, sizeOf, typeInfo, hi, Instr.fill, newRow, show Array.range 0 = #[] from by simp]
    · have hf := Go.Great.fill_whole (s := i.size) (by omega) vs ((Array.range (vs.length * i.size)).map (z.cells[· % z.cells.size]!)) (fun v h => by rw [hk v h, hsz]) (by simp)
      have := Go.run_buildSlice (P := P) w T e vs.length (parts.map fun x => (x.1, a.eval x.2)) _ i z hu hi hz (by rw [hsz]; omega) hpos (by rw [hpe]; exact hf)
      simp only [execOp, hop, Sem.run_bind]
      rw [this]; rfl
  have hm : vs.length ≤ maxLen := by
    have : vs.length * 1 ≤ vs.length * K := Nat.mul_le_mul_left _ h0
    unfold maxLen; omega
  have hfl : (vs.map fun v => v.cells.toList).flatten.length = vs.length * K := by rw [flat_len hkr]; simp
  refine ⟨w.heap.size, _, hrun, (hr.2.noRows.fresh ((Below.refl _ _).alloc (Nat.le_refl _) _) _ ⟨⟨by rw [hfl]; simp, .inr ⟨w.heap.size, vs.length, _, by simp, hr.2.below.size, Go.heap_alloc_new w _, by simp, hm, ?_, ?_⟩⟩, hkr⟩ (fun b hb => ?_))⟩
  · rw [hcs]; simp [hfl]
  · rw [hcs]; simp only [List.length_map]; rw [← hfl]; exact List.take_length
  · have hb : some w.heap.size = some b := hb
    simp only [Option.some.injEq] at hb; omega
theorem hv_make {o : Oper} {T e K bytes m : Nat} {x y : Operand} {kl kc : IntKind} {z : Value} {rs : List (List Value)} (hop : o.op = .makeSlice T x y) (hp : appOk P T e K bytes = true) (hz : (P.info? e).bind (·.zero) = some z) (hx : opv st.tmps x = some (.v (.int kl m))) (hy : opv st.tmps y = some (.v (.int kc m)))
    (hb : bytes * m ≤ 281474976710656) (hm : m ≤ maxLen) (hrs : List.replicate m z.cells.toList = rs) :
    HV P n w0 st o (α := Nat) (fun g => .slice (some ⟨g, 0, none⟩) m m) (fun g => rowF w0.heap.size e K (.slice (some ⟨g, 0, none⟩) m m) rs :: st.facts) := fun ρ σ a w hr => by
  subst hrs
  obtain ⟨hu, i, z', hi, hz', hsz, hby, hzs, h0⟩ := appOk_spec hp
  obtain rfl : z' = z := by simp [hi, hz'] at hz; exact hz
  have hm' : (m : Int) ≤ 9223372036854775807 := by unfold maxLen at hm; omega
  have hb' : (i.bytes : Int) * (m : Int) ≤ 281474976710656 := by
    have h : ((i.bytes * m : Nat) : Int) ≤ 281474976710656 := by rw [hby]; omega
    rwa [Int.natCast_mul] at h
  have hrun := run_make (P := P) w T e i z' hu hi hz' kl kc m m (by omega) (by omega) hb' hm'
  simp only [Int.toNat_natCast] at hrun
  have hkr : ∀ r ∈ List.replicate m z'.cells.toList, r.length = K := fun r hr => by
    obtain ⟨_, rfl⟩ := List.mem_replicate.1 hr; simpa using hzs
  have hfl : (List.replicate m z'.cells.toList).flatten.length = m * K := by rw [flat_len hkr]; simp
  have hcells : ∀ m, (madeCells z'.cells (m * K)).toList = (List.replicate m z'.cells.toList).flatten := fun m => by
    have hkr : ∀ r ∈ List.replicate m z'.cells.toList, r.length = K := fun r hr => by
      obtain ⟨_, rfl⟩ := List.mem_replicate.1 hr; simpa using hzs
    apply List.ext_getElem?
    intro j
    by_cases hj : j < m * K
    · have h1 : (madeCells z'.cells (m * K)).toList[j]? = some (z'.cells[j % K]'(by rw [hzs]; exact Nat.mod_lt _ h0)) := by
        have hlt : j % z'.cells.size < z'.cells.size := by rw [hzs]; exact Nat.mod_lt _ h0
        have hlt' : j % K < z'.cells.size := by rw [hzs]; exact Nat.mod_lt _ h0
        simp only [madeCells, Array.toList_map, List.getElem?_map, Array.getElem?_toList, Array.getElem?_range, hj, if_true, Option.map_some, Option.some.injEq]
        simp only [hzs]
        exact getElem!_pos z'.cells (j % K) hlt'
      rw [h1]
      have hjd : j / K < m := (Nat.div_lt_iff_lt_mul h0).2 hj
      have h2 : (List.replicate m z'.cells.toList)[j / K]? = some z'.cells.toList := by simp [hjd]
      have h3 : z'.cells.toList[j % K]? = some (z'.cells[j % K]'(by rw [hzs]; exact Nat.mod_lt _ h0)) := by
        rw [Array.getElem?_toList, Array.getElem?_eq_getElem]
      have := flat_get hkr h2 h3
      rw [show j / K * K + j % K = j by have := Nat.div_add_mod j K; rw [Nat.mul_comm] at this; exact this] at this
      exact this.symm
    · rw [List.getElem?_eq_none (by simp [madeCells]; omega), List.getElem?_eq_none (by rw [flat_len hkr]; simp; omega)]
  refine ⟨w.heap.size, _, ?_, hr.2.noRows.fresh ((Below.refl _ _).alloc (Nat.le_refl _) (.cells (madeCells z'.cells (m * i.size)) e)) _ ⟨⟨by rw [hfl]; simp, .inr ⟨w.heap.size, m, _, by simp, hr.2.below.size, Go.heap_alloc_new w _, by simp, hm, ?_, ?_⟩⟩, hkr⟩ (fun b hb => ?_)⟩
  · simp only [execOp, hop, opv_v hr.1 hx, opv_v hr.1 hy, Sem.run_bind, hrun, Result.andThen_ok, Sem.run_pure]
  · simp [madeCells, hsz]
  · rw [hsz, hcells, List.length_replicate, ← hfl]; exact List.take_length
  · have hb : some w.heap.size = some b := hb
    simp only [Option.some.injEq] at hb; omega

theorem Apart.sub2 {fs : List Fact} (h : Apart fs) {i j : Nat} {f g f' g' : Fact} (hi : fs[i]? = some f) (hj : fs[j]? = some g) (hij : i ≠ j) (hf : f.own = true) (h1 : ∀ b, f'.blk b → f.blk b) (h2 : ∀ b, g'.blk b → g.blk b) : Apart [f', g'] :=
  (Apart.one g').cons fun x hx b hb hxb => by
    obtain rfl : x = g' := by simpa using hx
    exact h i j f g hi hj hij hf b (h1 b hb) (h2 b hxb)
def XPostA (P : Program) (w0 : World) (fn : Func) (R : Ending → World → Prop) : Exit → St → Prop
  | .normal, st | .ret, st => ∃ vs, xres P st fn.results.toList = some vs ∧ ∀ w', Below w0.heap.size w0 w' → (∀ g ∈ st.facts, g.p w') → Apart st.facts → R (.returned (pack vs)) w'
  | _, _ => False
theorem x_callsA {f : FuncId} {fn : Func} {c : Code} {args : List Value} (fs : List Fact) {R : Ending → World → Prop} (hf : P.funcs[f]? = some fn) (hb : fn.body = some c) (hn : fn.ntmps = n) (hl : Nat.ble args.length n = true)
    (hfs : ∀ g ∈ fs, g.own = false ∧ g.p w0) (h : XW P n w0 (XPostA P w0 fn R) c ⟨argT 0 args, [], [], fs⟩) : Calls P f args.toArray w0 R := by
  have hl' : args.length ≤ n := by simpa using hl
  have hA : XAct n ⟨argT 0 args, [], [], fs⟩ id (fun _ => (0, 0)) { tmps := args.toArray ++ Array.replicate (fn.ntmps - args.toArray.size) undef, defers := [] } := by
    refine ⟨?_, rfl, fun t x ht => ?_⟩
    · simp [hn]; omega
    · obtain ⟨-, v, h1, rfl⟩ := argT_lkp args 0 t x ht
      refine ⟨trivial, ?_⟩
      have hlt : t < args.length := (List.getElem?_eq_some_iff.1 h1).1
      simp only [Nat.sub_zero] at h1
      simp only [conc, Array.getD_eq_getD_getElem?]
      rw [Array.getElem?_append_left (by simpa using hlt)]
      simp [h1]
  have hH : XHeap w0 [] [] fs id (fun _ => (0, 0)) w0 := ⟨Below.refl _ _, fun i b hi => by simp at hi, fun i j hi => by simp at hi, fun k r hr => by simp at hr, fun g hg => ⟨(hfs g hg).2, fun i hi => by simp at hi⟩, Apart.plain fun g hg => (hfs g hg).1⟩
  refine calls_of_wp hf hb (Code.wp_mono (fun e a w hq => ?_) (h _ _ _ w0 ⟨hA, hH⟩))
  obtain ⟨s, ρ, σ, h1, h2⟩ := hq
  cases e <;> first
    | (obtain ⟨vs, g1, g2⟩ := h1
       exact ⟨h2.1.defers, _, xres_run h2 g1, g2 w h2.2.below (fun g hg => (h2.2.fact g hg).1) h2.2.apart⟩)
    | exact h1.elim
def XRs (w w' : World) (e : Ending) {α : Type} (F : α → Value) (G : α → List Fact) : Prop :=
  ∃ y, e = .returned (F y) ∧ (∀ g ∈ G y, g.p w' ∧ ∀ b, g.blk b → w.heap.size ≤ b) ∧ Apart (G y) ∧ Below w.heap.size w w'
theorem xc_r {fs : List Fact} {f : FuncId} {args : List Value} {α : Type} {F : α → Value} {G : α → List Fact}
    (h : ∀ w, w0.heap.size ≤ w.heap.size → (∀ g ∈ fs, g.p w) → Calls P f args.toArray w fun e w' => XRs w w' e F G) : XC P w0 fs f args F G := fun w hw hf => h w hw hf
theorem xr_one {w w' : World} {α : Type} {F : α → Value} {G : α → List Fact} (y : α) {v : Value} {f : Fact} (hv : v = F y) (hG : G y = [f]) (hf : f.p w') (hlo : ∀ b, f.blk b → w.heap.size ≤ b) (hb : Below w.heap.size w w') : XRs w w' (.returned v) F G :=
  ⟨y, by rw [hv], fun g hg => by rw [hG] at hg; have e : g = f := (by simpa using hg); subst e; exact ⟨hf, hlo⟩, by rw [hG]; exact Apart.one f, hb⟩
theorem xr_two {w w' : World} {α : Type} {F : α → Value} {G : α → List Fact} (y : α) {v : Value} {f g : Fact} (hv : v = F y) (hG : G y = [f, g]) (hf : f.p w') (hlo : ∀ b, f.blk b → w.heap.size ≤ b) (hg : g.p w') (hlo' : ∀ b, g.blk b → w.heap.size ≤ b) (ha : Apart [f, g]) (hb : Below w.heap.size w w') : XRs w w' (.returned v) F G :=
  ⟨y, by rw [hv], fun x hx => by
    rw [hG] at hx
    rcases List.mem_cons.1 hx with rfl | hx
    · exact ⟨hf, hlo⟩
    · obtain rfl : x = g := by simpa using hx
      exact ⟨hg, hlo'⟩, by rw [hG]; exact ha, hb⟩
theorem ownF_lo {w : World} {B K : Nat} {v : Value} {rs : List (List Value)} (h : (ownF B v K rs).p w) {b : Nat} (hb : (ownF B v K rs).blk b) : B ≤ b := vblk_lo h hb
theorem rowF_ownF {w : World} {B B' e K : Nat} {v : Value} {rs : List (List Value)} (h : (rowF B e K v rs).p w) (hB : B' ≤ B) : (ownF B' v K rs).p w := (rowF_own h).lower hB
theorem ownF_ownF {w : World} {B B' K : Nat} {v : Value} {rs : List (List Value)} (h : (ownF B v K rs).p w) (hB : B' ≤ B) : (ownF B' v K rs).p w := Own.lower h hB
theorem rowF_blk {B B' e K : Nat} {v : Value} {rs rs' : List (List Value)} {b : Nat} (h : (ownF B' v K rs').blk b) : (rowF B e K v rs).blk b := by
  have := h.2; rw [vblk_eq] at this; exact this
end
end Go.Proofs.Ytnmmhbhdcplfmaa
