/- Rules of the machine for calls and stores that write into memory of the call's own. -/
import Derived.Test.YtnmmhbhdcplfmaaXG
namespace Go.Proofs.Ytnmmhbhdcplfmaa
open Go.RowKit
set_option linter.unusedVariables false
set_option linter.unusedSimpArgs false

/-- The world as it was when it had B blocks. -/
def cutW (w : World) (B : Nat) : World := { w with heap := w.heap.extract 0 B }
theorem cutW_size {w : World} {B : Nat} (h : B ≤ w.heap.size) : (cutW w B).heap.size = B := by simp [cutW]; omega
theorem cutW_le (w : World) (B : Nat) : (cutW w B).heap.size ≤ B := by simp [cutW]; omega
theorem cutW_below {w : World} {B : Nat} (h : B ≤ w.heap.size) : Below (cutW w B).heap.size (cutW w B) w :=
  ⟨rfl, rfl, rfl, by rw [cutW_size h]; exact h, fun k hk => by
    rw [cutW_size h] at hk
    simp only [cutW, Array.getElem?_extract]
    simp [hk]; omega⟩
/-- Of the blocks that were there only those of S may have turned. -/
structure Chgd (S : Nat → Prop) (w w' : World) : Prop where
  os : w'.os = w.os
  tape : w'.tape = w.tape
  output : w'.output = w.output
  size : w.heap.size ≤ w'.heap.size
  block : ∀ k, k < w.heap.size → ¬ S k → w'.heap[k]? = w.heap[k]?
theorem Chgd.of_below {S : Nat → Prop} {w w' : World} (h : Below w.heap.size w w') : Chgd S w w' := ⟨h.os, h.tape, h.output, h.size, fun k hk _ => h.block k hk⟩
/-- All blocks but those of S are as they were in W. -/
def frF (W : World) (S : Nat → Prop) : Fact where
  own := false
  p := fun w => W.heap.size ≤ w.heap.size ∧ ∀ b, b < W.heap.size → ¬ S b → w.heap[b]? = W.heap[b]?
  blk := fun b => b < W.heap.size ∧ ¬ S b
  lt := fun w b h hb => Nat.lt_of_lt_of_le hb.1 h.1
  keep := fun w w' h hs hb => ⟨Nat.le_trans h.1 hs, fun b h1 h2 => (hb b ⟨h1, h2⟩).trans (h.2 b h1 h2)⟩
theorem frF_start (W : World) (S : Nat → Prop) : (frF W S).p W := ⟨Nat.le_refl _, fun _ _ _ => rfl⟩
theorem frF_chgd {W w w0 : World} {S : Nat → Prop} (h : (frF W S).p w) (hb : Below w0.heap.size w0 w) (h1 : w0.os = W.os) (h2 : w0.tape = W.tape) (h3 : w0.output = W.output) : Chgd S W w :=
  ⟨hb.os.trans h1, hb.tape.trans h2, hb.output.trans h3, h.1, h.2⟩
theorem vblk_lo {w : World} {B b : Nat} {v : Value} {k : Nat} {rs : List (List Value)} (h : Own w B v k rs) (hb : rs ≠ [] ∧ vblk v = some b) : B ≤ b := by
  rcases h with ⟨h, _⟩ | ⟨g, off, cap, rfl, h1, h2⟩
  · exact absurd h hb.1
  · simp only [vblk, Option.some.injEq] at hb; omega

section
variable {P : Program} {n : Nat} {w0 : World} {QX : Exit → St → Prop} {st st' : St} {ops : Array Oper} {l : List Oper}
theorem XHeap.stepM {boxes : List Box} {facts : List Fact} {ρ : Nat → Nat} {σ : Nat → Nat × Nat} {w w' : World} (h : XHeap w0 boxes [] facts ρ σ w) {i : Nat} {fi : Fact} (hi : facts[i]? = some fi) (hown : fi.own = true)
    (hlo : ∀ b, fi.blk b → w0.heap.size ≤ b) (hc : Chgd fi.blk w w') : XHeap w0 boxes [] (dropF facts i) ρ σ w' := by
  have hfi := h.fact fi (List.mem_of_getElem? hi)
  refine ⟨⟨hc.os.trans h.below.os, hc.tape.trans h.below.tape, hc.output.trans h.below.output, Nat.le_trans h.below.size hc.size, fun k hk => ?_⟩, fun j b hj => ?_, h.inj, fun k r hr => by simp at hr, fun g hg => ?_, h.apart.dropF i⟩
  · rw [hc.block k (Nat.lt_of_lt_of_le hk h.below.size) (fun hb => by have := hlo k hb; omega)]
    exact h.below.block k hk
  · obtain ⟨h1, h2⟩ := h.box j b hj
    have hjl : j < boxes.length := (List.getElem?_eq_some_iff.1 hj).1
    refine ⟨h1, ?_⟩
    rw [hc.block _ (h.boxLt hjl) (hfi.2 j hjl)]; exact h2
  · obtain ⟨j, hj⟩ := List.getElem?_of_mem hg
    obtain ⟨k, hk, e⟩ := dropF_sub hj
    have hki : i ≠ k := by subst e; split <;> omega
    obtain ⟨g1, g2⟩ := h.fact g (List.mem_of_getElem? hk)
    exact ⟨g.keep w w' g1 hc.size (fun b hb => hc.block b (g.lt w b g1 hb) (fun hf => h.apart i k fi g hi hk hki hown b hf hb)), g2⟩
/-- As XC: the blocks of S may have turned; what is said behind the call hangs on them and on new ones. -/
def XCM (P : Program) (w0 : World) (fs : List Fact) (S : Nat → Prop) (f : FuncId) (args : List Value) {α : Type} (F : α → Value) (G : α → List Fact) : Prop :=
  ∀ w, w0.heap.size ≤ w.heap.size → (∀ g ∈ fs, g.p w) → Calls P f args.toArray w fun e w' => ∃ y, e = .returned (F y) ∧ (∀ g ∈ G y, g.p w' ∧ ∀ b, g.blk b → S b ∨ w.heap.size ≤ b) ∧ Apart (G y) ∧ Chgd S w w'
theorem xl_callM (k : Nat) (ks : List Nat) (st' : St) (f : FuncId) (args : List Value) (d : Option Nat) {α : Type} {F : α → Value} {G : α → List Fact} {o : Oper} (i : Nat) (fi : Fact)
    (h : xpart P n ops l k ks st = some st') (ho : l[k]? = some o) (hc : xcallee ops st' o = some (f, args, d)) (hd : dstOk n d = true) (hf : fnOk P f = true)
    (hi : st'.facts[i]? = some fi) (hown : fi.own = true) (hlo : ∀ w b, fi.p w → fi.blk b → w0.heap.size ≤ b) (hrows : st'.rows = [])
    (hk : XCM P w0 st'.facts fi.blk f args F G)
    (hn : ∀ y, XL P n w0 ops QX (l.drop (k + 1)) ⟨putT st'.tmps d (.v (F y)), st'.boxes, [], G y ++ dropF st'.facts i⟩) : XL P n w0 ops QX l st :=
  fun ρ σ a w hr => xpart_sound h hr (fun ρ' σ' a' w' hr' => by
    have hdrop : l.drop k = o :: l.drop (k + 1) := by
      obtain ⟨hlt, rfl⟩ := List.getElem?_eq_some_iff.1 ho
      exact List.drop_eq_getElem_cons hlt
    rw [hdrop]
    obtain ⟨h1, h2, h3⟩ := xcallee_sound (P := P) hr'.1 hc hf w'
    simp only [wpList]
    rw [h1, if_pos rfl]
    left
    rw [Oper.wp, h3, Oper.upon_enter]
    have hr2 := hr'.2
    rw [hrows] at hr2
    have hfi := hr2.fact fi (List.mem_of_getElem? hi)
    refine (hk w' hr'.2.below.size (fun g hg => (hr'.2.fact g hg).1)).mono fun e w'' ⟨y, he, hg, hap, hb⟩ => ?_
    subst he
    have hH := (hr2.stepM hi hown (fun b hbk => hlo w' b hfi.1 hbk) hb).addAll (G y) (fun g hgm => ⟨(hg g hgm).1, fun j hj hblk => ?_, fun f hf b hgb hfb => ?_⟩) hap
    · have hA := hr'.1.put (d := o.dst) (x := .v (F y)) (by rw [h2]; exact dstOk_lt hd) trivial
      rw [h2] at hA
      simp only [conc] at hA
      have hA' : XAct n ⟨putT st'.tmps d (.v (F y)), st'.boxes, [], G y ++ dropF st'.facts i⟩ ρ' σ' (a'.put d (F y)) := ⟨hA.size, hA.defers, by have := hA.tmps; rw [hrows] at this; exact this⟩
      simpa only [h2] using hn y ρ' σ' _ w'' ⟨hA', hH⟩
    · rcases (hg g hgm).2 _ hblk with hs | hs
      · exact hfi.2 j hj hs
      · have := hr'.2.boxLt hj; omega
    · obtain ⟨j, hj⟩ := List.getElem?_of_mem hf
      obtain ⟨m, hm, e⟩ := dropF_sub hj
      have hmi : i ≠ m := by subst e; split <;> omega
      rcases (hg g hgm).2 _ hgb with hs | hs
      · exact hr2.apart i m fi f hi hm hmi hown b hs hfb
      · have := f.lt _ b (hr2.fact f (List.mem_of_getElem? hm)).1 hfb; omega)
/-- A whole function that writes into memory of its caller's own, which lies from block B on. -/
theorem x_callsM {f : FuncId} {fn : Func} {c : Code} {args : List Value} (fs : List Fact) (B : Nat) {R : Ending → World → Prop} (hf : P.funcs[f]? = some fn) (hb : fn.body = some c) (hn : fn.ntmps = n) (hl : Nat.ble args.length n = true)
    (hB : B ≤ w0.heap.size) (hfs : ∀ g ∈ fs, g.p w0) (hap : Apart fs) (h : XW P n (cutW w0 B) (XPost P (cutW w0 B) fn R) c ⟨argT 0 args, [], [], fs⟩) : Calls P f args.toArray w0 R := by
  have hl' : args.length ≤ n := by simpa using hl
  have hA : XAct n ⟨argT 0 args, [], [], fs⟩ id (fun _ => (0, 0)) { tmps := args.toArray ++ Array.replicate (fn.ntmps - args.toArray.size) undef, defers := [] } := by
    refine ⟨?_, rfl, fun t x ht => ?_⟩
    · simp [hn]; omega
    · obtain ⟨-, v, h1, rfl⟩ := argT_lkp args 0 t x ht
      refine ⟨trivial, ?_⟩
      have hlt : t < args.length := (List.getElem?_eq_some_iff.1 h1).1
      simp only [Nat.sub_zero] at h1
      simp only [conc, Array.getD_eq_getD_getElem?]
      rw [Array.getElem?_append_left (by simpa using hlt)]
      simp [h1]
  have hH : XHeap (cutW w0 B) [] [] fs id (fun _ => (0, 0)) w0 := ⟨cutW_below hB, fun i b hi => by simp at hi, fun i j hi => by simp at hi, fun k r hr => by simp at hr, fun g hg => ⟨hfs g hg, fun i hi => by simp at hi⟩, hap⟩
  refine calls_of_wp hf hb (Code.wp_mono (fun e a w hq => ?_) (h _ _ _ w0 ⟨hA, hH⟩))
  obtain ⟨s, ρ, σ, h1, h2⟩ := hq
  cases e <;> first
    | (obtain ⟨vs, g1, g2⟩ := h1
       exact ⟨h2.1.defers, _, xres_run h2 g1, g2 w h2.2.below (fun g hg => (h2.2.fact g hg).1)⟩)
    | exact h1.elim
/-! ### An element of a slice of the call's own, to be written -/
theorem xl_elem (k : Nat) (ks : List Nat) (st' : St) {o : Oper} {T e : TypeId} {x idx : Operand} {K len cap : Nat} {A : Option Addr} {kd : IntKind} (j : Nat) {rs : List (List Value)} (f : Fact)
    (h : xpart P n ops l k ks st = some st') (ho : l[k]? = some o) (hw : xwanted ops st'.tmps o = some true) (hd : dstOk n o.dst = true) (hop : o.op = .indexAddr T x idx)
    (hu : P.underlying T = some (.slice e)) (hi : (P.info? e).map (·.size) = some K) (hx : opv st'.tmps x = some (.v (.slice A len cap))) (hidx : opv st'.tmps idx = some (.v (.int kd (j : Int))))
    (hlt : j < len) (hf : f ∈ st'.facts) (hsl : ∀ w, f.p w → Sl w (.slice A len cap) K rs) (hj : j < rs.length)
    (hn : ∀ b off, A = some ⟨b, off, none⟩ → XL P n w0 ops QX (l.drop (k + 1)) ⟨putT st'.tmps o.dst (.v (.pointer (some ⟨b, off + j * K, none⟩))), st'.boxes, st'.rows, st'.facts⟩) : XL P n w0 ops QX l st :=
  fun ρ σ a w hr => xpart_sound h hr (fun ρ' σ' a' w' hr' => by
    have hdrop : l.drop k = o :: l.drop (k + 1) := by
      obtain ⟨hlt, rfl⟩ := List.getElem?_eq_some_iff.1 ho
      exact List.drop_eq_getElem_cons hlt
    rw [hdrop]
    simp only [wpList]
    rw [xwanted_sound hr'.1 hw, if_pos rfl]
    left
    obtain ⟨a1, c1, g1, g2, g3, g4, g5⟩ := hsl w' (hr'.2.fact f hf).1
    simp only [Value.slice.injEq] at g1
    obtain ⟨rfl, rfl, rfl⟩ := g1
    obtain ⟨b, off, g6, g7, g8⟩ := g5 j _ (List.getElem?_eq_getElem hj)
    have hrun : (execOp a'.eval o).run P w' = .ok (.value (.pointer (some ⟨b, off + j * K, none⟩))) w' := by
      simp only [execOp, hop, opv_v hr'.1 hx, opv_v hr'.1 hidx, Sem.run_bind, index_run hu hi g6 hlt w', Result.andThen_ok, Sem.run_pure]
    rw [Oper.wp, hrun, Oper.upon_value]
    exact hn b off g6 ρ' _ _ w' ⟨hr'.1.put (x := .v _) (dstOk_lt hd) trivial, hr'.2⟩)
theorem fld_run {ρ : Nat → Nat} {σ : Nat → Nat × Nat} {a : Act} {w : World} {o : Oper} {s fi : Nat} {fs : Array Field} {fd : Field} {x : Operand} {b m q sz : Nat} (hr : XRep n w0 st ρ σ a w) (ho : o.op = .fieldAddr s x fi)
    (hu : P.underlying s = some (.struct fs)) (hf : fs[fi]? = some fd) (hi : (P.info? fd.type).map (·.size) = some sz) (hz : Nat.beq sz 0 = false) (hx : opv st.tmps x = some (.v (.pointer (some ⟨b, m, none⟩)))) (hq : m + fd.offset = q) :
    (execOp a.eval o).run P w = .ok (.value (.pointer (some ⟨b, q, none⟩))) w := by
  subst hq
  have h1 := opv_v hr.1 hx
  cases hin : P.info? fd.type with
  | none => simp [hin] at hi
  | some inf =>
    have hs : ¬ inf.size = 0 := by
      have : inf.size = sz := by simpa [hin] using hi
      intro e; rw [this] at e; subst e; cases hz
    simp only [execOp, ho, h1, conc, Instr.fieldAt, Sem.run_bind, run_underlying hu, Result.andThen_ok, hf, Instr.sureAddr, Sem.run_pure, fieldPlace, sizeOf, typeInfo, run_program, hin, hs, if_false, Addr.add_mid]
theorem own_store {w : World} {B b off j po K len cap : Nat} {rs : List (List Value)} {row cs : List Value} (h : Own w B (.slice (some ⟨b, off, none⟩) len cap) K rs) (hK : ∀ r ∈ rs, r.length = K) (hrow : rs[j]? = some row) (hpo : po + cs.length ≤ K) :
    Own (w.setCells b (off + j * K + po) cs) B (.slice (some ⟨b, off, none⟩) len cap) K (rs.set j (setL row po cs)) := by
  have hj : j < rs.length := (List.getElem?_eq_some_iff.1 hrow).1
  rcases h with ⟨h, _⟩ | ⟨g, off', cap', h0, h1, h2, h3, h4, h5, h6⟩
  · rw [h] at hj; simp at hj
  · simp only [Value.slice.injEq, Option.some.injEq, Addr.mk.injEq, and_true] at h0
    obtain ⟨⟨rfl, rfl⟩, rfl, rfl⟩ := h0
    have hrl : row.length = K := hK row (List.mem_of_getElem? hrow)
    have hbd : j * K + K ≤ rs.length * K := by
      have : (j + 1) * K ≤ rs.length * K := Nat.mul_le_mul_right K hj
      rw [Nat.succ_mul] at this; exact this
    refine .inr ⟨b, off, cap, by rw [List.length_set], h1, by rw [size_setCells]; exact h2, by rw [List.length_set]; exact h3, h4, by rw [List.length_set]; exact World.there_setCells h5 _ _ _, fun i r hr => ?_⟩
    rw [List.getElem?_set] at hr
    by_cases hij : j = i
    · subst hij
      rw [if_pos rfl, if_pos hj] at hr
      simp only [Option.some.injEq] at hr; subst hr
      have hw := h6 j row hrow
      intro q v hv
      have hql : (setL row po cs).length = K := by simp [setL]; omega
      have hq : q < K := by have := (List.getElem?_eq_some_iff.1 hv).1; omega
      by_cases h7 : po ≤ q ∧ q < po + cs.length
      · have := World.cell?_setCells_in b cs (off + j * K + po) w (fun m hm => by
            have := (h5 (j * K + po + m) (by omega)).1
            rw [show off + j * K + po + m = off + (j * K + po + m) by omega]; exact this) (q - po) (by omega)
        rw [show off + j * K + po + (q - po) = off + j * K + q by omega] at this
        rw [this, ← hv]
        simp only [setL, List.append_assoc]
        rw [List.getElem?_append_right (by simp; omega), List.getElem?_append_left (by simp; omega)]
        simp only [List.length_take, hrl, Nat.min_eq_left (show po ≤ K by omega)]
        rw [List.getElem?_eq_getElem (by omega)]
      · rw [World.cell?_setCells_out b _ _ _ _ (fun _ _ => by show off + j * K + q < off + j * K + po ∨ off + j * K + po + cs.length ≤ off + j * K + q; omega)]
        refine hw q v ?_
        rw [← hv]
        simp only [setL, List.append_assoc]
        by_cases h8 : q < po
        · rw [List.getElem?_append_left (by simp; omega), List.getElem?_take, if_pos h8]
        · rw [List.getElem?_append_right (by simp; omega), List.getElem?_append_right (by simp; omega), List.getElem?_drop]
          congr 1
          simp [Nat.min_eq_left (show po ≤ row.length by omega)]; omega
    · rw [if_neg hij] at hr
      have hrl' : r.length = K := hK r (List.mem_of_getElem? hr)
      refine World.rangeAt_setCells_apart (h6 i r hr) _ _ _ (.inr ?_)
      rw [hrl']
      rcases Nat.lt_or_gt_of_ne hij with hlt | hlt
      · right
        have : (j + 1) * K ≤ i * K := Nat.mul_le_mul_right K hlt
        rw [Nat.succ_mul] at this; omega
      · left
        have : (i + 1) * K ≤ j * K := Nat.mul_le_mul_right K hlt
        rw [Nat.succ_mul] at this; omega
/-- A store into an element's cells. -/
theorem xl_stE (k : Nat) (ks : List Nat) (st' : St) {o : Oper} {t : TypeId} {x y : Operand} (j : Nat) {K len cap b off po B : Nat} {A : Option Addr} {rs : List (List Value)} (row : List Value) {row' : List Value} {v : Value} (i : Nat)
    (h : xpart P n ops l k ks st = some st') (ho : l[k]? = some o) (hw : xwanted ops st'.tmps o = some true) (hd : dstOk n o.dst = true) (hop : o.op = .store t x y)
    (hx : opv st'.tmps x = some (.v (.pointer (some ⟨b, off + j * K + po, none⟩)))) (hy : opv st'.tmps y = some (.v v)) (hi : (P.info? t).map (·.size) = some v.cells.size) (h1 : v.cells.toList.all (·.oneCell') = true)
    (hfi : st'.facts[i]? = some (ownF B (.slice A len cap) K (rs.set j row))) (hB : w0.heap.size ≤ B) (hA : A = some ⟨b, off, none⟩) (hj : j < rs.length) (hK : ∀ r ∈ rs, r.length = K) (hrl : Nat.beq row.length K = true)
    (hpo : Nat.ble (po + v.cells.toList.length) K = true) (hrows : st'.rows = []) (hr' : setL row po v.cells.toList = row')
    (hn : XL P n w0 ops QX (l.drop (k + 1)) ⟨putT st'.tmps o.dst (.v undef), st'.boxes, [], ownF B (.slice A len cap) K (rs.set j row') :: dropF st'.facts i⟩) : XL P n w0 ops QX l st :=
  fun ρ σ a w hr => xpart_sound h hr (fun ρ' σ' a' w' hrr => by
    subst hr'
    have hdrop : l.drop k = o :: l.drop (k + 1) := by
      obtain ⟨hlt, rfl⟩ := List.getElem?_eq_some_iff.1 ho
      exact List.drop_eq_getElem_cons hlt
    rw [hdrop]
    simp only [wpList]
    rw [xwanted_sound hrr.1 hw, if_pos rfl]
    left
    have hrl := Nat.eq_of_beq_eq_true hrl
    have hpo := Nat.le_of_ble_eq_true hpo
    have hr2 := hrr.2
    rw [hrows] at hr2
    obtain ⟨hown, hnb⟩ := hr2.fact _ (List.mem_of_getElem? hfi)
    have hown : Own w' B (.slice A len cap) K (rs.set j row) := hown
    subst hA
    have hK' : ∀ r ∈ rs.set j row, r.length = K := fun r hr => by
      rcases List.mem_or_eq_of_mem_set hr with h | h
      · exact hK r h
      · rw [h]; exact hrl
    have hrow : (rs.set j row)[j]? = some row := by rw [List.getElem?_set, if_pos rfl, if_pos hj]
    have hne : rs.set j row ≠ [] := fun e => by rw [e] at hrow; simp at hrow
    have hnew := own_store hown hK' hrow (po := po) (cs := v.cells.toList) hpo
    rw [List.set_set] at hnew
    have hbB : B ≤ b := vblk_lo hown ⟨hne, rfl⟩
    have hblt : b < w'.heap.size := (ownF B (.slice (some ⟨b, off, none⟩) len cap) K (rs.set j row)).lt w' b hown ⟨hne, rfl⟩
    have hcell : ∀ m, m < v.cells.toList.length → (w'.cell? ⟨b, off + j * K + po + m, none⟩).isSome = true ∧ w'.frozen? ⟨b, off + j * K + po + m, none⟩ = false := fun m hm => by
      rcases hown with ⟨h, _⟩ | ⟨g, off', cap', h0, g1, g2, g3, g4, g5, g6⟩
      · exact absurd h hne
      · simp only [Value.slice.injEq, Option.some.injEq, Addr.mk.injEq, and_true] at h0
        obtain ⟨⟨rfl, rfl⟩, rfl, rfl⟩ := h0
        have hbd : j * K + K ≤ (rs.set j row).length * K := by
          rw [List.length_set]
          have : (j + 1) * K ≤ rs.length * K := Nat.mul_le_mul_right K hj
          rw [Nat.succ_mul] at this; exact this
        have := g5 (j * K + po + m) (by omega)
        rw [show off + j * K + po + m = off + (j * K + po + m) by omega]; exact this
    have hst := run_storeCells_cells (P := P) b (off + j * K + po) v.cells.toList 0 w' (fun m hm => by rw [Nat.add_zero]; exact (hcell m hm).1) (fun m hm => by rw [Nat.add_zero]; exact (hcell m hm).2) (fun u hu => List.all_eq_true.1 h1 u hu)
    simp only [Nat.add_zero] at hst
    have hrun : (execOp a'.eval o).run P w' = .ok .skip (w'.setCells b (off + j * K + po) v.cells.toList) := by
      cases hin : P.info? t with
      | none => simp [hin] at hi
      | some inf =>
        have hs : inf.size = v.cells.size := by simpa [hin] using hi
        simp only [execOp, hop, opv_v hrr.1 hx, opv_v hrr.1 hy, Sem.run_bind, Instr.storeAt, Instr.sureAddr, Sem.run_pure, Result.andThen_ok, storeVar, sizeOf, typeInfo, run_program, hin, hs, ne_eq, not_true_eq_false, if_false, hst]
    rw [Oper.wp, hrun, Oper.upon_skip]
    obtain ⟨s1, s2, s3⟩ := setCells_streams b v.cells.toList (off + j * K + po) w'
    have hchg : Chgd (ownF B (.slice (some ⟨b, off, none⟩) len cap) K (rs.set j row)).blk w' (w'.setCells b (off + j * K + po) v.cells.toList) :=
      ⟨s1, s2, s3, by rw [size_setCells]; exact Nat.le_refl _, fun q hq hnq => setCells_other b _ _ _ q (fun e => hnq ⟨hne, by rw [e]; rfl⟩)⟩
    have hH := (hr2.stepM hfi rfl (fun q hq => by have := vblk_lo hown hq; omega) hchg).add (ownF B (.slice (some ⟨b, off, none⟩) len cap) K (rs.set j (setL row po v.cells.toList))) hnew
      (fun q hq hbk => hnb q hq ⟨hne, hbk.2⟩)
      (fun g hg q hq hgq => by
        obtain ⟨m, hm⟩ := List.getElem?_of_mem hg
        obtain ⟨p, hp, e⟩ := dropF_sub hm
        exact hr2.apart i p _ g hfi hp (by subst e; split <;> omega) rfl q ⟨hne, hq.2⟩ hgq)
    have hA := hrr.1.put (d := o.dst) (x := .v undef) (dstOk_lt hd) trivial
    exact hn ρ' σ' _ _ ⟨⟨hA.size, hA.defers, by have := hA.tmps; rw [hrows] at this; exact this⟩, hH⟩)
/-- A fact said in other words. -/
theorem xw_fact (i : Nat) {f g : Fact} {c : Code} (h : f = g) (hf : st.facts[i]? = some f) (h1 : XW P n w0 QX c ⟨st.tmps, st.boxes, st.rows, st.facts.set i g⟩) : XW P n w0 QX c st := by
  subst h
  have : st.facts.set i f = st.facts := by
    obtain ⟨hlt, e⟩ := List.getElem?_eq_some_iff.1 hf
    rw [← e]; exact List.set_getElem_self hlt
  rw [this] at h1; exact h1
end
end Go.Proofs.Ytnmmhbhdcplfmaa
