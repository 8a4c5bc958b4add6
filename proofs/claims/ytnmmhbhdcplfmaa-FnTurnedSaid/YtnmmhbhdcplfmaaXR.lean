/- The machine: an element of a row of the call's own, by its address: stores, also in drawn regions. -/
import Derived.Test.YtnmmhbhdcplfmaaXQ
namespace Go.Proofs.Ytnmmhbhdcplfmaa
open Go.RowKit
set_option linter.unusedVariables false
set_option linter.unusedSimpArgs false
def byteAt (t : ByteArray) (k : Nat) : Int := ((t.data.getD k 0).toNat : Int)
theorem byteAt_rng (t : ByteArray) (k : Nat) : 0 ≤ byteAt t k ∧ byteAt t k ≤ 255 := by
  unfold byteAt; have := (t.data.getD k 0).toNat_lt; omega
theorem setL_cons {r R cs : List Value} {K a : Nat} (hr : r.length = K) : r ++ setL R a cs = setL (r ++ R) (K + a) cs := by
  subst hr
  simp only [setL]
  rw [List.take_length_add_append, show r.length + a + cs.length = r.length + (a + cs.length) by omega, List.drop_length_add_append]
  simp only [List.append_assoc]
theorem flat_set {K po : Nat} {cs : List Value} : ∀ {rs : List (List Value)} {j : Nat} {row : List Value}, (∀ r ∈ rs, r.length = K) → rs[j]? = some row → po + cs.length ≤ K → (rs.set j (setL row po cs)).flatten = setL rs.flatten (j * K + po) cs
  | [], j, row, _, h, _ => by simp at h
  | r :: rs, 0, row, hK, h, hp => by
    simp only [List.getElem?_cons_zero, Option.some.injEq] at h; subst h
    have hr := hK r (by simp)
    simp only [List.set_cons_zero, List.flatten_cons, setL, Nat.zero_mul, Nat.zero_add]
    rw [List.take_append_of_le_length (by omega), List.drop_append_of_le_length (by omega)]
    simp only [List.append_assoc]
  | r :: rs, j + 1, row, hK, h, hp => by
    simp only [List.getElem?_cons_succ] at h
    have hr := hK r (by simp)
    simp only [List.set_cons_succ, List.flatten_cons]
    rw [flat_set (fun q hq => hK q (by simp [hq])) h hp, setL_cons hr, Nat.succ_mul]
    congr 1; omega
theorem setL_take {l cs : List Value} {o m : Nat} (h : o + cs.length ≤ m) (hm : m ≤ l.length) : (setL l o cs).take m = setL (l.take m) o cs := by
  have hl : (l.take o).length = o := by rw [List.length_take]; omega
  simp only [setL]
  rw [List.append_assoc, List.append_assoc, List.take_append, hl, List.take_append, List.take_of_length_le (l := List.take o l) (by omega), List.take_of_length_le (l := cs) (by omega), List.take_take, Nat.min_eq_left (by omega), List.drop_take, show m - (o + cs.length) = m - o - cs.length by omega]
theorem setL_len {l cs : List Value} {o : Nat} (h : o + cs.length ≤ l.length) : (setL l o cs).length = l.length := by
  simp only [setL, List.length_append, List.length_take, List.length_drop]; omega
section
variable {P : Program} {n : Nat} {w0 : World} {st : St}
theorem act_ix {ρ : Nat → Nat} {σ : Nat → Nat × Nat} {a : Act} {o : Oper} {T e : TypeId} {x idx : Operand} {g K N cap : Nat} {kd : IntKind} {A : Option Addr} (j : Nat) (hA : A = some ⟨g, 0, none⟩) (h : XAct n st ρ σ a) (hop : o.op = .indexAddr T x idx)
    (hu : P.underlying T = some (.slice e)) (hi : (P.info? e).map (·.size) = some K) (hx : opv st.tmps x = some (.v (.slice A N cap))) (hidx : opv st.tmps idx = some (.v (.int kd (j : Int)))) (hlt : j < N) (w : World) :
    (execOp a.eval o).run P w = .ok (.value (.pointer (some ⟨g, j * K, none⟩))) w := by
  simp only [execOp, hop, opv_v h hx, opv_v h hidx, Sem.run_bind, index_run hu hi hA hlt w, Result.andThen_ok, Sem.run_pure, Nat.zero_add]
theorem ldR_run {ρ : Nat → Nat} {σ : Nat → Nat × Nat} {a : Act} {w : World} {o : Oper} {t : TypeId} {x : Operand} {B e K g N cap po j off : Nat} {rs : List (List Value)} {row : List Value} {v : Value} (f : Fact) (hr : XRep n w0 st ρ σ a w) (ho : o.op = .load t x) (hx : opv st.tmps x = some (.v (.pointer (some ⟨g, off, none⟩))))
    (hfm : f ∈ st.facts) (hrow : rs[j]? = some row) (hv : loadC P t row po = some v) {A : Option Addr} (hA : A = some ⟨g, 0, none⟩) (hf : f = rowF B e K (.slice A N cap) rs := by rfl) (hoff : off = j * K + po := by rfl) :
    (execOp a.eval o).run P w = .ok (.value v) w := by
  subst hf hoff hA
  obtain ⟨a1, c1, g1, g2, g3, g4, g5⟩ := rowF_sl (hr.2.fact _ hfm).1
  simp only [Value.slice.injEq] at g1
  obtain ⟨rfl, rfl, rfl⟩ := g1
  obtain ⟨b, off, g6, g7, g8⟩ := g5 j _ hrow
  simp only [Option.some.injEq, Addr.mk.injEq, and_true] at g6
  obtain ⟨rfl, rfl⟩ := g6
  have := loadC_run (P := P) (o0 := 0 + j * K) g8 hv
  rw [Nat.zero_add] at this
  simp only [execOp, ho, opv_v hr.1 hx, Sem.run_bind, this, Result.andThen_ok, Sem.run_pure]
def HSg (P : Program) (n : Nat) (w0 : World) (st : St) (o : Oper) (g : Nat) (G : List Fact) : Prop :=
  ∀ ρ σ a w, XRep n w0 st ρ σ a w → ∃ w', (execOp a.eval o).run P w = .ok .skip w' ∧ XHeap w0 st.boxes [] G ρ σ w' ∧ Chgd (fun b => b = g) w w'
theorem HSg.hs {o : Oper} {g : Nat} {G : List Fact} (h : HSg P n w0 st o g G) : HS P n w0 st o G := fun ρ σ a w hr => let ⟨w', h1, h2, _⟩ := h ρ σ a w hr; ⟨w', h1, h2⟩
theorem hs_stR {o : Oper} {t : TypeId} {x y : Operand} {g B e K N cap i off : Nat} {A : Option Addr} {rs rs' : List (List Value)} {v : Value} (j po : Nat) (row : List Value) {row' : List Value} (hA : A = some ⟨g, 0, none⟩) (hop : o.op = .store t x y)
    (hx : opv st.tmps x = some (.v (.pointer (some ⟨g, off, none⟩)))) (ho : off = j * K + po) (hy : opv st.tmps y = some (.v v)) (hsz : (P.info? t).map (·.size) = some v.cells.size) (h1 : v.cells.toList.all (·.oneCell') = true)
    (hi : st.facts[i]? = some (rowF B e K (.slice A N cap) rs)) (hlo : w0.heap.size ≤ B) (hrow : rs[j]? = some row) (hpo : Nat.ble (po + v.cells.toList.length) K = true) (hr' : setL row po v.cells.toList = row') (hrs : rs.set j row' = rs') :
    HSg P n w0 st o g (rowF B e K (.slice A N cap) rs' :: dropF st.facts i) := fun ρ σ a w hr => by
  subst hrs hr' ho hA
  have hown := (hr.2.fact _ (List.mem_of_getElem? hi)).1
  have hpo := Nat.le_of_ble_eq_true hpo
  obtain ⟨⟨hfl, hor⟩, hK⟩ := hown
  have hj : j < rs.length := (List.getElem?_eq_some_iff.1 hrow).1
  have hbd : j * K + K ≤ rs.length * K := by
    have : (j + 1) * K ≤ rs.length * K := Nat.mul_le_mul_right K hj
    rw [Nat.succ_mul] at this; exact this
  rcases hor with ⟨h1', h2⟩ | ⟨g', cap', cur, hv, hB, hg, hle, hmx, hcs, htk⟩
  · exact absurd h1' (by simp)
  simp only [Value.slice.injEq, Option.some.injEq, Addr.mk.injEq, and_true] at hv
  obtain ⟨rfl, rfl, rfl⟩ := hv
  have hcap : rs.length * K ≤ cap * K := Nat.mul_le_mul_right _ hle
  have hfit : j * K + po + v.cells.toList.length ≤ cur.size := by omega
  cases hin : P.info? t with
  | none => simp [hin] at hsz
  | some inf =>
    have hs : inf.size = v.cells.size := by simpa [hin] using hsz
    have hst := run_storeCells_cells (P := P) g (j * K + po) v.cells.toList 0 w (fun m hm => by
        rw [cell_of_row w g _ cur e (0, 0) hg, Array.getElem?_eq_getElem (by omega)]; rfl) (fun m hm => frozen_of_row w g _ cur e hg) (fun u hu => List.all_eq_true.1 h1 u hu)
    simp only [Nat.add_zero] at hst
    have hw2 := setCells_heap g v.cells.toList (j * K + po) w cur e hg hfit
    have hlen : cur.toList.length = cur.size := by simp
    refine ⟨w.setCells g (j * K + po) v.cells.toList, ?_, hr.2.noRows.turn hi rfl (fun b hb => by have : (some g) = some b := hb; simp only [Option.some.injEq] at this; omega) (chgd_cells rfl) _
      ⟨⟨?_, .inr ⟨g, cap, _, by rw [List.length_set], hB, hw2, by rw [List.length_set]; exact hle, hmx, ?_, ?_⟩⟩, fun r hr => ?_⟩ fun b hb => .inl hb, chgd_cells rfl⟩
    · simp only [execOp, hop, opv_v hr.1 hx, opv_v hr.1 hy, Sem.run_bind, Instr.storeAt, Instr.sureAddr, Sem.run_pure, Result.andThen_ok, storeVar, sizeOf, typeInfo, run_program, hin, hs, ne_eq, not_true_eq_false, if_false, hst]
    · rw [flat_set hK hrow hpo, setL_len (by rw [hfl]; omega), List.length_set]; exact hfl
    · rw [List.size_toArray, setL_len (by rw [hlen]; exact hfit)]; rw [hlen]; exact hcs
    · rw [List.length_set, flat_set hK hrow hpo, ← htk]
      exact setL_take (by omega) (by omega)
    · rcases List.mem_or_eq_of_mem_set hr with h | h
      · exact hK r h
      · rw [h, setL_len (by rw [hK row (List.mem_of_getElem? hrow)]; exact hpo)]; exact hK row (List.mem_of_getElem? hrow)
theorem act_tix {ρ : Nat → Nat} {σ : Nat → Nat × Nat} {a : Act} {o : Oper} {T : TypeId} {x idx : Operand} {t : ByteArray} {kd : IntKind} (j : Nat) (h : XAct n st ρ σ a) (hop : o.op = .index T x idx)
    (hu : P.underlying T = some .string) (hx : opv st.tmps x = some (.v (.string t))) (hidx : opv st.tmps idx = some (.v (.int kd (j : Int)))) (hlt : j < t.size) (w : World) :
    (execOp a.eval o).run P w = .ok (.value (.int .u8 (byteAt t j))) w := by
  have hb : byteAt t j = (t[j].toNat : Int) := by
    unfold byteAt
    have hl : j < t.data.size := hlt
    rw [Array.getD_eq_getD_getElem?, Array.getElem?_eq_getElem hl]; rfl
  simp only [execOp, hop, opv_v h hx, opv_v h hidx, Sem.run_bind, run_index_string w T t kd _ hu]
  rw [dif_pos ⟨by omega, by omega⟩, hb]
  simp [Result.andThen_ok, Sem.run_pure]
theorem act_ixO {ρ : Nat → Nat} {σ : Nat → Nat × Nat} {a : Act} {o : Oper} {T e : TypeId} {x idx : Operand} {b off K N cap : Nat} {kd : IntKind} {A : Option Addr} (j : Nat) (hA : A = some ⟨b, off, none⟩) (h : XAct n st ρ σ a) (hop : o.op = .indexAddr T x idx)
    (hu : P.underlying T = some (.slice e)) (hi : (P.info? e).map (·.size) = some K) (hx : opv st.tmps x = some (.v (.slice A N cap))) (hidx : opv st.tmps idx = some (.v (.int kd (j : Int)))) (hlt : j < N) (w : World) :
    (execOp a.eval o).run P w = .ok (.value (.pointer (some ⟨b, off + j * K, none⟩))) w := by
  simp only [execOp, hop, opv_v h hx, opv_v h hidx, Sem.run_bind, index_run hu hi hA hlt w, Result.andThen_ok, Sem.run_pure]
theorem ldS_run {ρ : Nat → Nat} {σ : Nat → Nat × Nat} {a : Act} {w : World} {o : Oper} {t : TypeId} {x : Operand} {K b off N cap j : Nat} {rs : List (List Value)} {row : List Value} {v : Value} (f : Fact) (hr : XRep n w0 st ρ σ a w) (ho : o.op = .load t x) (hx : opv st.tmps x = some (.v (.pointer (some ⟨b, off + j * K, none⟩))))
    (hfm : f ∈ st.facts) (hrow : rs[j]? = some row) (hv : loadC P t row 0 = some v) {A : Option Addr} (hA : A = some ⟨b, off, none⟩) (hf : f = slF (.slice A N cap) K rs := by rfl) :
    (execOp a.eval o).run P w = .ok (.value v) w := by
  subst hf hA
  have hsl : Sl w (.slice (some ⟨b, off, none⟩) N cap) K rs := (hr.2.fact _ hfm).1
  obtain ⟨a1, c1, g1, g2, g3, g4, g5⟩ := hsl
  simp only [Value.slice.injEq] at g1
  obtain ⟨rfl, rfl, rfl⟩ := g1
  obtain ⟨b', off', g6, g7, g8⟩ := g5 j _ hrow
  simp only [Option.some.injEq, Addr.mk.injEq, and_true] at g6
  obtain ⟨rfl, rfl⟩ := g6
  have := loadC_run (P := P) (o0 := off + j * K) g8 hv
  rw [Nat.add_zero] at this
  simp only [execOp, ho, opv_v hr.1 hx, Sem.run_bind, this, Result.andThen_ok, Sem.run_pure]
theorem xw_know {QX : Exit → St → Prop} {c : Code} {φ : Prop} (h : ∀ ρ σ a w, XRep n w0 st ρ σ a w → φ) (hn : φ → XW P n w0 QX c st) : XW P n w0 QX c st := fun ρ σ a w hr => hn (h ρ σ a w hr) ρ σ a w hr
variable {QX : Exit → St → Prop} {ops : Array Oper}
theorem xws_know {c : Code} {φ : (Nat → Nat × Nat) → Prop} {ψ : Prop} (h : ∀ ρ σ a w, XRep n w0 st ρ σ a w → ψ) (hn : ψ → XWs P n w0 QX φ c st) : XWs P n w0 QX φ c st := fun ρ σ a w hr hp => hn (h ρ σ a w hr) ρ σ a w hr hp
theorem row_at {w : World} {B e K N cap : Nat} {A : Option Addr} {rs : List (List Value)} (h : (rowF B e K (.slice A N cap) rs).p w) {j : Nat} {row : List Value} (hrow : rs[j]? = some row) : ∃ g, A = some ⟨g, 0, none⟩ := by
  obtain ⟨⟨hfl, hor⟩, hK⟩ := h
  rcases hor with ⟨h1, h2⟩ | ⟨g, cap', cur, h1, hB, hg, hle, hmx, hcs, htk⟩
  · have : rs = [] := List.length_eq_zero_iff.1 h2
    subst this; simp at hrow
  · simp only [Value.slice.injEq] at h1; exact ⟨g, h1.1⟩
theorem know_row {ρ : Nat → Nat} {σ : Nat → Nat × Nat} {a : Act} {w : World} {φ : Prop} (hr : XRep n w0 st ρ σ a w) {B e K N cap : Nat} {A : Option Addr} {rs : List (List Value)} (i : Nat) (hi : st.facts[i]? = some (rowF B e K (.slice A N cap) rs)) {j : Nat} {row : List Value} (hrow : φ → rs[j]? = some row) :
    ∃ g, φ → A = some ⟨g, 0, none⟩ := by
  by_cases h : φ
  · obtain ⟨g, hg⟩ := row_at (hr.2.fact _ (List.mem_of_getElem? hi)).1 (hrow h); exact ⟨g, fun _ => hg⟩
  · exact ⟨0, fun h' => absurd h' h⟩
theorem know_sl {ρ : Nat → Nat} {σ : Nat → Nat × Nat} {a : Act} {w : World} (hr : XRep n w0 st ρ σ a w) {K N cap : Nat} {A : Option Addr} {rs : List (List Value)} (i : Nat) (hi : st.facts[i]? = some (slF (.slice A N cap) K rs)) {j : Nat} {row : List Value} (hrow : rs[j]? = some row) :
    ∃ b off, A = some ⟨b, off, none⟩ := by
  have hsl : Sl w (.slice A N cap) K rs := (hr.2.fact _ (List.mem_of_getElem? hi)).1
  obtain ⟨a1, c1, g1, g2, g3, g4, g5⟩ := hsl
  simp only [Value.slice.injEq] at g1
  obtain ⟨rfl, rfl, rfl⟩ := g1
  obtain ⟨b', off', g6, g7, g8⟩ := g5 j _ hrow
  exact ⟨b', off', g6⟩
theorem row_ne {ρ : Nat → Nat} {σ : Nat → Nat × Nat} {a : Act} {w : World} (hr : XRep n w0 st ρ σ a w) {B e K K' g N cap len cap' b off : Nat} {A A' : Option Addr} {rs rs' : List (List Value)} (i j : Nat) (hA' : A' = some ⟨g, 0, none⟩) (hi : st.facts[i]? = some (rowF B e K (.slice A' N cap) rs))
    (hj : st.facts[j]? = some (slF (.slice A len cap') K' rs')) (hij : i ≠ j) (hA : A = some ⟨b, off, none⟩) (q : Nat) (row : List Value) (hrow : rs'[q]? = some row) : b ≠ g := fun e => by
  have hne : rs' ≠ [] := fun e => by rw [e] at hrow; simp at hrow
  subst hA hA' e
  exact hr.2.apart i j _ _ hi hj hij rfl b rfl ⟨hne, rfl⟩
variable {fuel : Nat} {listed : Array Bool} {B : List Box} {R : List (List Value)} {ρ : Nat → Nat} {σ : Nat → Nat × Nat}
theorem xs_hsG (i g : Nat) {G : List Fact} {o : Oper} (hi : ops[i]? = some o) (hw : xwanted ops st.tmps o = some true) (hd : dstOk n o.dst = true) (hr : allT (lenB st.boxes) 0 st.tmps = true)
    (hB : Under B st.boxes) (hR : ∀ k r, R[k]? = some r → r = [] ∨ (σ k).1 ≠ g) (hk : HSg P n w0 st o g G)
    (h : XE P n w0 ops QX fuel (listed.setIfInBounds i true) B R ρ σ ⟨putT st.tmps o.dst (.v undef), st.boxes, [], G⟩) : XEs P n w0 ops QX fuel listed B R ρ σ st i := fun ρ' a w hag hr' hS => by
  obtain ⟨w', h1, h2, hc⟩ := hk ρ' σ a w hr'
  unfold wpOp
  simp only [hi, xwanted_sound hr'.1 hw, if_true]
  left
  rw [Oper.wp, h1, Oper.upon_skip]
  have hS0 : XRd B [] ρ σ w' := (h2.under hB (.inl rfl)).from hag
  have hS' : XRd B R ρ σ w' := ⟨hS0.box, fun k r hk => by
    obtain ⟨g1, g2⟩ := hS.row k r hk
    refine ⟨Nat.lt_of_lt_of_le g1 hc.size, fun q v hv => ?_⟩
    rcases hR k r hk with hz | hne
    · rw [hz] at hv; simp at hv
    · rw [World.cell?_of_block (a := ⟨(σ k).1, (σ k).2 + q, none⟩) (hc.block _ g1 hne)]; exact g2 q v hv⟩
  exact ⟨hS', h _ _ w' hag ⟨(hr'.1.bare hr G).put (x := .v undef) (dstOk_lt hd) trivial, h2⟩ hS'⟩
def QJoinF {α : Type} (f : α → St) (QX : Exit → St → Prop) : Exit → St → Prop
  | .normal, s => ∃ x, Wk s (f x)
  | e, s => QX e s
theorem xw_joinF {c : Code} {α : Type} (f : α → St) (h1 : XW P n w0 (QJoinF f QX) c st) (h2 : ∀ x, QX .normal (f x)) : XW P n w0 QX c st := fun ρ σ a w hr =>
  Code.wp_mono (fun e a w ⟨s, ρ, σ, hq, hs⟩ => by
    cases e
    case normal => obtain ⟨x, hx⟩ := hq; exact ⟨f x, ρ, σ, h2 x, hx _ _ _ _ _ _ hs⟩
    all_goals exact ⟨s, ρ, σ, hq, hs⟩) (h1 ρ σ a w hr)
end
end Go.Proofs.Ytnmmhbhdcplfmaa
