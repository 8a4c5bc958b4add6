/- Plain definitions, the machine and its rules: what this law's contracts need of them, part 2. -/
import Derived.Test.YtebgmdiejgcoiaaG1
/- The cursor of the draws: a block of the call's own, of which little is known. -/
namespace Go.Proofs.Ytebgmdiejgcoiaa
section
open Go.RowKit
set_option linter.unusedVariables false
set_option linter.unusedSimpArgs false
def dB (B g T : Nat) (V : Value) (N : Nat) : Fact where
  own := true
  p := fun w => B ≤ g ∧ ∃ (i : Nat) (h : Int), i ≤ N ∧ w.heap[g]? = some (.cells [V, .int .i64 (i : Int), .int .i64 h].toArray T (0, 0))
  blk := fun b => b = g
  lt := fun w b h hb => by subst hb; obtain ⟨_, i, x, _, h⟩ := h; exact (Array.getElem?_eq_some_iff.1 h).1
  keep := fun w w' h hs hb => by obtain ⟨h0, i, x, h1, h2⟩ := h; exact ⟨h0, i, x, h1, (hb g rfl).trans h2⟩
theorem cJ {w : World} {B g T : Nat} {V : Value} {N : Nat} (h : (dB B g T V N).p w) {b : Nat} (hb : (dB B g T V N).blk b) : B ≤ b := by
  have e : b = g := hb
  subst e; exact h.1
theorem apart_cell {W : World} {B g T : Nat} {cs : List Value} {f : Fact} (h : ¬ f.blk g) (ho : f.own = false) : Apart [aY B g T cs, f, cy W (fun b => b = g)] :=
  (Apart.plain (fs := [f, cy W (fun b => b = g)]) (fun x hx => by simp only [List.mem_cons, List.not_mem_nil, or_false] at hx; rcases hx with rfl | rfl <;> first | exact ho | rfl)).cons fun x hx b hb hxb => by
    have e : b = g := hb
    subst e
    simp only [List.mem_cons, List.not_mem_nil, or_false] at hx
    rcases hx with rfl | rfl
    · exact h hxb
    · exact hxb.2 rfl
theorem cg {W : World} {B g T : Nat} {V : Value} {N : Nat} {f : Fact} (h : ¬ f.blk g) (ho : f.own = false) : Apart [dB B g T V N, f, cy W (fun b => b = g)] :=
  (Apart.plain (fs := [f, cy W (fun b => b = g)]) (fun x hx => by simp only [List.mem_cons, List.not_mem_nil, or_false] at hx; rcases hx with rfl | rfl <;> first | exact ho | rfl)).cons fun x hx b hb hxb => by
    have e : b = g := hb
    subst e
    simp only [List.mem_cons, List.not_mem_nil, or_false] at hx
    rcases hx with rfl | rfl
    · exact h hxb
    · exact hxb.2 rfl
theorem dm {P : Program} {w0 : World} {fs : List Fact} {f : FuncId} {args : List Value} {B g T N : Nat} {V : Value} {α : Type} {F : α → Value}
    (h : ∀ w, w0.heap.size ≤ w.heap.size → (∀ g ∈ fs, g.p w) → Calls P f args.toArray w fun e w' => ∃ y, e = .returned (F y) ∧ (dB B g T V N).p w' ∧ Chgd (fun b => b = g) w w') :
    XCM P w0 fs (dB B g T V N).blk f args F (fun _ => [dB B g T V N]) := fun w hw hf => (h w hw hf).mono fun e w' ⟨y, he, hc, hb⟩ =>
  ⟨y, he, fun x hx => by
    have e : x = dB B g T V N := (by simpa using hx)
    subst e; exact ⟨hc, fun b hb => .inl hb⟩, Apart.one _, hb⟩
theorem xc_new {P : Program} {w0 : World} {fs : List Fact} {f : FuncId} {args : List Value} {T N : Nat} {V : Value} {Q : Nat → Prop}
    (h : ∀ w, w0.heap.size ≤ w.heap.size → (∀ g ∈ fs, g.p w) → Calls P f args.toArray w fun e w' => ∃ y : {g : Nat // Q g}, e = .returned (.pointer (some ⟨y.1, 0, none⟩)) ∧ (dB w.heap.size y.1 T V N).p w' ∧ Below w.heap.size w w') :
    XC P w0 fs f args (fun y : {g : Nat // Q g} => .pointer (some ⟨y.1, 0, none⟩)) (fun y => [dB w0.heap.size y.1 T V N]) := fun w hw hf => (h w hw hf).mono fun e w' ⟨y, he, hc, hb⟩ =>
  ⟨y, he, fun x hx => by
    have e : x = dB w0.heap.size y.1 T V N := (by simpa using hx)
    subst e; exact ⟨⟨Nat.le_trans hw hc.1, hc.2⟩, fun b hb => by have e : b = y.1 := hb; subst e; exact hc.1⟩, Apart.one _, hb⟩
theorem xw_pin {P : Program} {n : Nat} {w0 : World} {QX : Exit → St → Prop} {c : Code} {s T : Nat} {cs : List Value} {fs : List Fact}
    (h : ∀ g, w0.heap.size ≤ g → (∀ f ∈ fs, ¬ f.blk g) → XW P n w0 QX c ⟨[(s, .v (.pointer (some ⟨g, 0, none⟩)))], [], [], aY w0.heap.size g T cs :: fs⟩) : XW P n w0 QX c ⟨[(s, .p 0 0)], [⟨T, cs⟩], [], fs⟩ := fun ρ σ a w hr => by
  obtain ⟨hA, hH⟩ := hr
  have hb := hH.box 0 ⟨T, cs⟩ rfl
  have hn : ∀ f ∈ fs, ¬ f.blk (ρ 0) := fun f hf => (hH.fact f hf).2 0 (by simp)
  refine h (ρ 0) hb.1 hn ρ σ a w ⟨⟨hA.size, hA.defers, fun t x hx => ?_⟩, ⟨hH.below, fun i b hi => by simp at hi, fun i j hi => by simp at hi, fun k r hr => by simp at hr, fun f hf => ?_, hH.apart.cons fun f hf b hb' hfb => ?_⟩⟩
  · have h0 := hA.tmps
    simp only [lkp] at hx h0
    split at hx
    · rename_i e
      simp only [Option.some.injEq] at hx; subst hx
      refine ⟨trivial, ?_⟩
      have := (h0 t (.p 0 0) (by rw [if_pos e])).2
      rw [this]; simp only [bF]
    · simp at hx
  · rcases List.mem_cons.1 hf with rfl | hf
    · exact ⟨⟨hb.1, hb.2⟩, fun i hi => by simp at hi⟩
    · exact ⟨(hH.fact f hf).1, fun i hi => by simp at hi⟩
  · have e : b = ρ 0 := hb'
    subst e; exact hn f hf hfb
theorem apart_cur2 {W : World} {B g T : Nat} {V : Value} {N : Nat} {f f2 : Fact} (h : ¬ f.blk g) (ho : f.own = false) (h2 : ¬ f2.blk g) (ho2 : f2.own = false) : Apart [dB B g T V N, f, cy W (fun b => b = g), f2] :=
  (Apart.plain (fs := [f, cy W (fun b => b = g), f2]) (fun x hx => by simp only [List.mem_cons, List.not_mem_nil, or_false] at hx; rcases hx with rfl | rfl | rfl <;> first | exact ho | exact ho2 | rfl)).cons fun x hx b hb hxb => by
    have e : b = g := hb
    subst e
    simp only [List.mem_cons, List.not_mem_nil, or_false] at hx
    rcases hx with rfl | rfl | rfl
    · exact h hxb
    · exact hxb.2 rfl
    · exact h2 hxb
theorem ct {B e K k : Nat} {v : Value} {rs rs' : List (List Value)} {b : Nat} (h : (aM v k rs').blk b) : (a8 B e K v rs).blk b := by
  have := h.2; rw [vblk_eq] at this; exact this
theorem xl_know {P : Program} {n : Nat} {w0 : World} {QX : Exit → St → Prop} {ops : Array Oper} {l : List Oper} {st : St} {φ : Prop} (h : ∀ ρ σ a w, XRep n w0 st ρ σ a w → φ) (hn : φ → XL P n w0 ops QX l st) : XL P n w0 ops QX l st := fun ρ σ a w hr => hn (h ρ σ a w hr) ρ σ a w hr
theorem xs_know {P : Program} {n : Nat} {w0 : World} {QX : Exit → St → Prop} {ops : Array Oper} {st : St} {fuel : Nat} {listed : Array Bool} {B : List Box} {R : List (List Value)} {ρ : Nat → Nat} {σ : Nat → Nat × Nat} {i : Nat} {φ : Prop} (h : ∀ ρ σ a w, XRep n w0 st ρ σ a w → φ)
    (hn : φ → XEs P n w0 ops QX fuel listed B R ρ σ st i) : XEs P n w0 ops QX fuel listed B R ρ σ st i := fun ρ' a w hag hr hS => hn (h _ _ _ _ hr) ρ' a w hag hr hS
theorem cb {a n : Int} (h : 0 ≤ a) (hn : 0 < n) : 0 ≤ a.tmod n ∧ (0 < n → a.tmod n < n) := by
  rw [Int.tmod_eq_emod_of_nonneg h]
  exact ⟨Int.emod_nonneg _ (by omega), fun _ => Int.emod_lt_of_pos _ hn⟩
theorem x_callsMA {P : Program} {n : Nat} {w0 : World} {f : FuncId} {fn : Func} {c : Code} {args : List Value} (fs : List Fact) (B : Nat) {R : Ending → World → Prop} (hf : P.funcs[f]? = some fn) (hb : fn.body = some c) (hn : fn.ntmps = n) (hl : Nat.ble args.length n = true)
    (hB : B ≤ w0.heap.size) (hfs : ∀ g ∈ fs, g.p w0) (hap : Apart fs) (h : XW P n (ah w0 B) (XPostA P (ah w0 B) fn R) c ⟨argT 0 args, [], [], fs⟩) : Calls P f args.toArray w0 R := by
  have hl' : args.length ≤ n := by simpa using hl
  have hA : XAct n ⟨argT 0 args, [], [], fs⟩ id (fun _ => (0, 0)) { tmps := args.toArray ++ Array.replicate (fn.ntmps - args.toArray.size) undef, defers := [] } := by
    refine ⟨?_, rfl, fun t x ht => ?_⟩
    · simp [hn]; omega
    · obtain ⟨-, v, h1, rfl⟩ := argT_lkp args 0 t x ht
      refine ⟨trivial, ?_⟩
      have hlt : t < args.length := (List.getElem?_eq_some_iff.1 h1).1
      simp only [Nat.sub_zero] at h1
      simp only [bF, Array.getD_eq_getD_getElem?]
      rw [Array.getElem?_append_left (by simpa using hlt)]
      simp [h1]
  have hH : XHeap (ah w0 B) [] [] fs id (fun _ => (0, 0)) w0 := ⟨cutW_below hB, fun i b hi => by simp at hi, fun i j hi => by simp at hi, fun k r hr => by simp at hr, fun g hg => ⟨hfs g hg, fun i hi => by simp at hi⟩, hap⟩
  refine calls_of_wp hf hb (Code.wp_mono (fun e a w hq => ?_) (h _ _ _ w0 ⟨hA, hH⟩))
  obtain ⟨s, ρ, σ, h1, h2⟩ := hq
  cases e <;> first
    | (obtain ⟨vs, g1, g2⟩ := h1
       exact ⟨h2.1.defers, _, xres_run h2 g1, g2 w h2.2.below (fun g hg => (h2.2.fact g hg).1) h2.2.apart⟩)
    | exact h1.elim
theorem rowF_raise {w : World} {B B' e K : Nat} {v : Value} {rs : List (List Value)} (h : (a8 B e K v rs).p w) (hb : ∀ b, (a8 B e K v rs).blk b → B' ≤ b) : (a8 B' e K v rs).p w := by
  refine ⟨⟨h.1.1, ?_⟩, h.2⟩
  rcases h.1.2 with hn | ⟨g, cap, cur, hv, hg, rest⟩
  · exact .inl hn
  · exact .inr ⟨g, cap, cur, hv, hb g (by rw [hv]; rfl), rest⟩
theorem row_new {W : World} {B B0 e K g T N : Nat} {V v : Value} {rs : List (List Value)} {fs : List Fact} {i j k : Nat} (hap : Apart fs) (hi : fs[i]? = some (a8 B e K v rs)) (hj : fs[j]? = some (dB B0 g T V N)) (hk : fs[k]? = some (cy W (fun b => b = g))) (hij : i ≠ j) (hik : i ≠ k) :
    ∀ b, (a8 B e K v rs).blk b → W.heap.size ≤ b := fun b hb => by
  rcases Nat.lt_or_ge b W.heap.size with h | h
  · exact (hap i k _ _ hi hk hik rfl b hb ⟨h, fun e => hap i j _ _ hi hj hij rfl b hb e⟩).elim
  · exact h
theorem xcm_curR {P : Program} {w0 : World} {fs : List Fact} {f : FuncId} {args : List Value} {B g T N e K : Nat} {V : Value} {α : Type} {F : α → Value} {v : α → Value} {rs : α → List (List Value)}
    (h : ∀ w, w0.heap.size ≤ w.heap.size → (∀ g ∈ fs, g.p w) → Calls P f args.toArray w fun e' w' => ∃ y, e' = .returned (F y) ∧ (dB B g T V N).p w' ∧ (a8 w.heap.size e K (v y) (rs y)).p w' ∧ g < w.heap.size ∧ Chgd (fun b => b = g) w w') :
    XCM P w0 fs (dB B g T V N).blk f args F (fun y => [a8 w0.heap.size e K (v y) (rs y), dB B g T V N]) := fun w hw hf => (h w hw hf).mono fun e' w' ⟨y, he, hc, hr, hg, hb⟩ =>
  ⟨y, he, fun x hx => by
    simp only [List.mem_cons, List.not_mem_nil, or_false] at hx
    rcases hx with rfl | rfl
    · exact ⟨rowF_lower hr hw, fun b hb => .inr (dW hr hb)⟩
    · exact ⟨hc, fun b hb => .inl hb⟩,
    (Apart.one _).cons fun x hx b hb hxb => by
      obtain rfl : x = dB B g T V N := by simpa using hx
      have e1 : b = g := hxb
      have := dW hr hb
      omega, hb⟩
theorem bS (l : List Int) : (a6 l).size = l.length := by
  have key : ∀ (l : List Int) (b : ByteArray), (l.foldl (fun r n => r.push (UInt8.ofNat n.toNat)) b).size = b.size + l.length := by
    intro l
    induction l with
    | nil => intro b; rfl
    | cons x l ih => intro b; rw [List.foldl_cons, ih, ByteArray.size_push, List.length_cons]; omega
  have := key l ByteArray.empty
  unfold a6; rw [this]; show 0 + l.length = l.length; omega
end
/- The machine: an element of a row of the call's own, by its address: stores, also in drawn regions. -/
section
open Go.RowKit
set_option linter.unusedVariables false
set_option linter.unusedSimpArgs false
def ar (t : ByteArray) (k : Nat) : Int := ((t.data.getD k 0).toNat : Int)
theorem cQ (t : ByteArray) (k : Nat) : 0 ≤ ar t k ∧ ar t k ≤ 255 := by
  unfold ar; have := (t.data.getD k 0).toNat_lt; omega
theorem setL_cons {r R cs : List Value} {K a : Nat} (hr : r.length = K) : r ++ setL R a cs = setL (r ++ R) (K + a) cs := by
  subst hr
  simp only [setL]
  rw [List.take_length_add_append, show r.length + a + cs.length = r.length + (a + cs.length) by omega, List.drop_length_add_append]
  simp only [List.append_assoc]
theorem flat_set {K po : Nat} {cs : List Value} : ∀ {rs : List (List Value)} {j : Nat} {row : List Value}, (∀ r ∈ rs, r.length = K) → rs[j]? = some row → po + cs.length ≤ K → (rs.set j (setL row po cs)).flatten = setL rs.flatten (j * K + po) cs
  | [], j, row, _, h, _ => by simp at h
  | r :: rs, 0, row, hK, h, hp => by
    simp only [List.getElem?_cons_zero, Option.some.injEq] at h; subst h
    have hr := hK r (by simp)
    simp only [List.set_cons_zero, List.flatten_cons, setL, Nat.zero_mul, Nat.zero_add]
    rw [List.take_append_of_le_length (by omega), List.drop_append_of_le_length (by omega)]
    simp only [List.append_assoc]
  | r :: rs, j + 1, row, hK, h, hp => by
    simp only [List.getElem?_cons_succ] at h
    have hr := hK r (by simp)
    simp only [List.set_cons_succ, List.flatten_cons]
    rw [flat_set (fun q hq => hK q (by simp [hq])) h hp, setL_cons hr, Nat.succ_mul]
    congr 1; omega
theorem setL_take {l cs : List Value} {o m : Nat} (h : o + cs.length ≤ m) (hm : m ≤ l.length) : (setL l o cs).take m = setL (l.take m) o cs := by
  have hl : (l.take o).length = o := by rw [List.length_take]; omega
  simp only [setL]
  rw [List.append_assoc, List.append_assoc, List.take_append, hl, List.take_append, List.take_of_length_le (l := List.take o l) (by omega), List.take_of_length_le (l := cs) (by omega), List.take_take, Nat.min_eq_left (by omega), List.drop_take, show m - (o + cs.length) = m - o - cs.length by omega]
theorem setL_len {l cs : List Value} {o : Nat} (h : o + cs.length ≤ l.length) : (setL l o cs).length = l.length := by
  simp only [setL, List.length_append, List.length_take, List.length_drop]; omega
section
variable {P : Program} {n : Nat} {w0 : World} {st : St}
theorem c6 {ρ : Nat → Nat} {σ : Nat → Nat × Nat} {a : Act} {o : Oper} {T e : TypeId} {x idx : Operand} {g K N cap : Nat} {kd : IntKind} {A : Option Addr} (j : Nat) (hA : A = some ⟨g, 0, none⟩) (h : XAct n st ρ σ a) (hop : o.op = .indexAddr T x idx)
    (hu : P.underlying T = some (.slice e)) (hi : (P.info? e).map (·.size) = some K) (hx : cm st.tmps x = some (.v (.slice A N cap))) (hidx : cm st.tmps idx = some (.v (.int kd (j : Int)))) (hlt : j < N) (w : World) :
    (execOp a.eval o).run P w = .ok (.value (.pointer (some ⟨g, j * K, none⟩))) w := by
  simp only [execOp, hop, ac h hx, ac h hidx, Sem.run_bind, index_run hu hi hA hlt w, Result.andThen_ok, Sem.run_pure, Nat.zero_add]
theorem c9 {ρ : Nat → Nat} {σ : Nat → Nat × Nat} {a : Act} {w : World} {o : Oper} {t : TypeId} {x : Operand} {B e K g N cap po j off : Nat} {rs : List (List Value)} {row : List Value} {v : Value} (f : Fact) (hr : XRep n w0 st ρ σ a w) (ho : o.op = .load t x) (hx : cm st.tmps x = some (.v (.pointer (some ⟨g, off, none⟩))))
    (hfm : f ∈ st.facts) (hrow : rs[j]? = some row) (hv : loadC P t row po = some v) {A : Option Addr} (hA : A = some ⟨g, 0, none⟩) (hf : f = a8 B e K (.slice A N cap) rs := by rfl) (hoff : off = j * K + po := by rfl) :
    (execOp a.eval o).run P w = .ok (.value v) w := by
  subst hf hoff hA
  obtain ⟨a1, c1, g1, g2, g3, g4, g5⟩ := aq (hr.2.fact _ hfm).1
  simp only [Value.slice.injEq] at g1
  obtain ⟨rfl, rfl, rfl⟩ := g1
  obtain ⟨b, off, g6, g7, g8⟩ := g5 j _ hrow
  simp only [Option.some.injEq, Addr.mk.injEq, and_true] at g6
  obtain ⟨rfl, rfl⟩ := g6
  have := dP (P := P) (o0 := 0 + j * K) g8 hv
  rw [Nat.zero_add] at this
  simp only [execOp, ho, ac hr.1 hx, Sem.run_bind, this, Result.andThen_ok, Sem.run_pure]
def HSg (P : Program) (n : Nat) (w0 : World) (st : St) (o : Oper) (g : Nat) (G : List Fact) : Prop :=
  ∀ ρ σ a w, XRep n w0 st ρ σ a w → ∃ w', (execOp a.eval o).run P w = .ok .skip w' ∧ XHeap w0 st.boxes [] G ρ σ w' ∧ Chgd (fun b => b = g) w w'
theorem HSg.hs {o : Oper} {g : Nat} {G : List Fact} (h : HSg P n w0 st o g G) : HS P n w0 st o G := fun ρ σ a w hr => let ⟨w', h1, h2, _⟩ := h ρ σ a w hr; ⟨w', h1, h2⟩
theorem e5 {o : Oper} {t : TypeId} {x y : Operand} {g B e K N cap i off : Nat} {A : Option Addr} {rs rs' : List (List Value)} {v : Value} (j po : Nat) (row : List Value) {row' : List Value} (hA : A = some ⟨g, 0, none⟩) (hop : o.op = .store t x y)
    (hx : cm st.tmps x = some (.v (.pointer (some ⟨g, off, none⟩)))) (ho : off = j * K + po) (hy : cm st.tmps y = some (.v v)) (hsz : (P.info? t).map (·.size) = some v.cells.size) (h1 : v.cells.toList.all (·.oneCell') = true)
    (hi : st.facts[i]? = some (a8 B e K (.slice A N cap) rs)) (hlo : w0.heap.size ≤ B) (hrow : rs[j]? = some row) (hpo : Nat.ble (po + v.cells.toList.length) K = true) (hr' : setL row po v.cells.toList = row') (hrs : rs.set j row' = rs') :
    HSg P n w0 st o g (a8 B e K (.slice A N cap) rs' :: dropF st.facts i) := fun ρ σ a w hr => by
  subst hrs hr' ho hA
  have hown := (hr.2.fact _ (List.mem_of_getElem? hi)).1
  have hpo := Nat.le_of_ble_eq_true hpo
  obtain ⟨⟨hfl, hor⟩, hK⟩ := hown
  have hj : j < rs.length := (List.getElem?_eq_some_iff.1 hrow).1
  have hbd : j * K + K ≤ rs.length * K := by
    have : (j + 1) * K ≤ rs.length * K := Nat.mul_le_mul_right K hj
    rw [Nat.succ_mul] at this; exact this
  rcases hor with ⟨h1', h2⟩ | ⟨g', cap', cur, hv, hB, hg, hle, hmx, hcs, htk⟩
  · exact absurd h1' (by simp)
  simp only [Value.slice.injEq, Option.some.injEq, Addr.mk.injEq, and_true] at hv
  obtain ⟨rfl, rfl, rfl⟩ := hv
  have hcap : rs.length * K ≤ cap * K := Nat.mul_le_mul_right _ hle
  have hfit : j * K + po + v.cells.toList.length ≤ cur.size := by omega
  cases hin : P.info? t with
  | none => simp [hin] at hsz
  | some inf =>
    have hs : inf.size = v.cells.size := by simpa [hin] using hsz
    have hst := run_storeCells_cells (P := P) g (j * K + po) v.cells.toList 0 w (fun m hm => by
        rw [cell_of_row w g _ cur e (0, 0) hg, Array.getElem?_eq_getElem (by omega)]; rfl) (fun m hm => frozen_of_row w g _ cur e hg) (fun u hu => List.all_eq_true.1 h1 u hu)
    simp only [Nat.add_zero] at hst
    have hw2 := dl g v.cells.toList (j * K + po) w cur e hg hfit
    have hlen : cur.toList.length = cur.size := by simp
    refine ⟨w.setCells g (j * K + po) v.cells.toList, ?_, hr.2.noRows.turn hi rfl (fun b hb => by have : (some g) = some b := hb; simp only [Option.some.injEq] at this; omega) (chgd_cells rfl) _
      ⟨⟨?_, .inr ⟨g, cap, _, by rw [List.length_set], hB, hw2, by rw [List.length_set]; exact hle, hmx, ?_, ?_⟩⟩, fun r hr => ?_⟩ fun b hb => .inl hb, chgd_cells rfl⟩
    · simp only [execOp, hop, ac hr.1 hx, ac hr.1 hy, Sem.run_bind, Instr.storeAt, Instr.sureAddr, Sem.run_pure, Result.andThen_ok, storeVar, sizeOf, typeInfo, run_program, hin, hs, ne_eq, not_true_eq_false, if_false, hst]
    · rw [flat_set hK hrow hpo, setL_len (by rw [hfl]; omega), List.length_set]; exact hfl
    · rw [List.size_toArray, setL_len (by rw [hlen]; exact hfit)]; rw [hlen]; exact hcs
    · rw [List.length_set, flat_set hK hrow hpo, ← htk]
      exact setL_take (by omega) (by omega)
    · rcases List.mem_or_eq_of_mem_set hr with h | h
      · exact hK r h
      · rw [h, setL_len (by rw [hK row (List.mem_of_getElem? hrow)]; exact hpo)]; exact hK row (List.mem_of_getElem? hrow)
theorem eo {ρ : Nat → Nat} {σ : Nat → Nat × Nat} {a : Act} {o : Oper} {T : TypeId} {x idx : Operand} {t : ByteArray} {kd : IntKind} (j : Nat) (h : XAct n st ρ σ a) (hop : o.op = .index T x idx)
    (hu : P.underlying T = some .string) (hx : cm st.tmps x = some (.v (.string t))) (hidx : cm st.tmps idx = some (.v (.int kd (j : Int)))) (hlt : j < t.size) (w : World) :
    (execOp a.eval o).run P w = .ok (.value (.int .u8 (ar t j))) w := by
  have hb : ar t j = (t[j].toNat : Int) := by
    unfold ar
    have hl : j < t.data.size := hlt
    rw [Array.getD_eq_getD_getElem?, Array.getElem?_eq_getElem hl]; rfl
  simp only [execOp, hop, ac h hx, ac h hidx, Sem.run_bind, run_index_string w T t kd _ hu]
  rw [dif_pos ⟨by omega, by omega⟩, hb]
  simp [Result.andThen_ok, Sem.run_pure]
theorem act_ixO {ρ : Nat → Nat} {σ : Nat → Nat × Nat} {a : Act} {o : Oper} {T e : TypeId} {x idx : Operand} {b off K N cap : Nat} {kd : IntKind} {A : Option Addr} (j : Nat) (hA : A = some ⟨b, off, none⟩) (h : XAct n st ρ σ a) (hop : o.op = .indexAddr T x idx)
    (hu : P.underlying T = some (.slice e)) (hi : (P.info? e).map (·.size) = some K) (hx : cm st.tmps x = some (.v (.slice A N cap))) (hidx : cm st.tmps idx = some (.v (.int kd (j : Int)))) (hlt : j < N) (w : World) :
    (execOp a.eval o).run P w = .ok (.value (.pointer (some ⟨b, off + j * K, none⟩))) w := by
  simp only [execOp, hop, ac h hx, ac h hidx, Sem.run_bind, index_run hu hi hA hlt w, Result.andThen_ok, Sem.run_pure]
theorem ldS_run {ρ : Nat → Nat} {σ : Nat → Nat × Nat} {a : Act} {w : World} {o : Oper} {t : TypeId} {x : Operand} {K b off N cap j : Nat} {rs : List (List Value)} {row : List Value} {v : Value} (f : Fact) (hr : XRep n w0 st ρ σ a w) (ho : o.op = .load t x) (hx : cm st.tmps x = some (.v (.pointer (some ⟨b, off + j * K, none⟩))))
    (hfm : f ∈ st.facts) (hrow : rs[j]? = some row) (hv : loadC P t row 0 = some v) {A : Option Addr} (hA : A = some ⟨b, off, none⟩) (hf : f = aM (.slice A N cap) K rs := by rfl) :
    (execOp a.eval o).run P w = .ok (.value v) w := by
  subst hf hA
  have hsl : Sl w (.slice (some ⟨b, off, none⟩) N cap) K rs := (hr.2.fact _ hfm).1
  obtain ⟨a1, c1, g1, g2, g3, g4, g5⟩ := hsl
  simp only [Value.slice.injEq] at g1
  obtain ⟨rfl, rfl, rfl⟩ := g1
  obtain ⟨b', off', g6, g7, g8⟩ := g5 j _ hrow
  simp only [Option.some.injEq, Addr.mk.injEq, and_true] at g6
  obtain ⟨rfl, rfl⟩ := g6
  have := dP (P := P) (o0 := off + j * K) g8 hv
  rw [Nat.add_zero] at this
  simp only [execOp, ho, ac hr.1 hx, Sem.run_bind, this, Result.andThen_ok, Sem.run_pure]
theorem xw_know {QX : Exit → St → Prop} {c : Code} {φ : Prop} (h : ∀ ρ σ a w, XRep n w0 st ρ σ a w → φ) (hn : φ → XW P n w0 QX c st) : XW P n w0 QX c st := fun ρ σ a w hr => hn (h ρ σ a w hr) ρ σ a w hr
variable {QX : Exit → St → Prop} {ops : Array Oper}
theorem xws_know {c : Code} {φ : (Nat → Nat × Nat) → Prop} {ψ : Prop} (h : ∀ ρ σ a w, XRep n w0 st ρ σ a w → ψ) (hn : ψ → XWs P n w0 QX φ c st) : XWs P n w0 QX φ c st := fun ρ σ a w hr hp => hn (h ρ σ a w hr) ρ σ a w hr hp
theorem row_at {w : World} {B e K N cap : Nat} {A : Option Addr} {rs : List (List Value)} (h : (a8 B e K (.slice A N cap) rs).p w) {j : Nat} {row : List Value} (hrow : rs[j]? = some row) : ∃ g, A = some ⟨g, 0, none⟩ := by
  obtain ⟨⟨hfl, hor⟩, hK⟩ := h
  rcases hor with ⟨h1, h2⟩ | ⟨g, cap', cur, h1, hB, hg, hle, hmx, hcs, htk⟩
  · have : rs = [] := List.length_eq_zero_iff.1 h2
    subst this; simp at hrow
  · simp only [Value.slice.injEq] at h1; exact ⟨g, h1.1⟩
theorem know_row {ρ : Nat → Nat} {σ : Nat → Nat × Nat} {a : Act} {w : World} {φ : Prop} (hr : XRep n w0 st ρ σ a w) {B e K N cap : Nat} {A : Option Addr} {rs : List (List Value)} (i : Nat) (hi : st.facts[i]? = some (a8 B e K (.slice A N cap) rs)) {j : Nat} {row : List Value} (hrow : φ → rs[j]? = some row) :
    ∃ g, φ → A = some ⟨g, 0, none⟩ := by
  by_cases h : φ
  · obtain ⟨g, hg⟩ := row_at (hr.2.fact _ (List.mem_of_getElem? hi)).1 (hrow h); exact ⟨g, fun _ => hg⟩
  · exact ⟨0, fun h' => absurd h' h⟩
theorem know_sl {ρ : Nat → Nat} {σ : Nat → Nat × Nat} {a : Act} {w : World} (hr : XRep n w0 st ρ σ a w) {K N cap : Nat} {A : Option Addr} {rs : List (List Value)} (i : Nat) (hi : st.facts[i]? = some (aM (.slice A N cap) K rs)) {j : Nat} {row : List Value} (hrow : rs[j]? = some row) :
    ∃ b off, A = some ⟨b, off, none⟩ := by
  have hsl : Sl w (.slice A N cap) K rs := (hr.2.fact _ (List.mem_of_getElem? hi)).1
  obtain ⟨a1, c1, g1, g2, g3, g4, g5⟩ := hsl
  simp only [Value.slice.injEq] at g1
  obtain ⟨rfl, rfl, rfl⟩ := g1
  obtain ⟨b', off', g6, g7, g8⟩ := g5 j _ hrow
  exact ⟨b', off', g6⟩
theorem row_ne {ρ : Nat → Nat} {σ : Nat → Nat × Nat} {a : Act} {w : World} (hr : XRep n w0 st ρ σ a w) {B e K K' g N cap len cap' b off : Nat} {A A' : Option Addr} {rs rs' : List (List Value)} (i j : Nat) (hA' : A' = some ⟨g, 0, none⟩) (hi : st.facts[i]? = some (a8 B e K (.slice A' N cap) rs))
    (hj : st.facts[j]? = some (aM (.slice A len cap') K' rs')) (hij : i ≠ j) (hA : A = some ⟨b, off, none⟩) (q : Nat) (row : List Value) (hrow : rs'[q]? = some row) : b ≠ g := fun e => by
  have hne : rs' ≠ [] := fun e => by rw [e] at hrow; simp at hrow
  subst hA hA' e
  exact hr.2.apart i j _ _ hi hj hij rfl b rfl ⟨hne, rfl⟩
variable {fuel : Nat} {listed : Array Bool} {B : List Box} {R : List (List Value)} {ρ : Nat → Nat} {σ : Nat → Nat × Nat}
theorem xs_hsG (i g : Nat) {G : List Fact} {o : Oper} (hi : ops[i]? = some o) (hw : aW ops st.tmps o = some true) (hd : aA n o.dst = true) (hr : dA (ce st.boxes) 0 st.tmps = true)
    (hB : Under B st.boxes) (hR : ∀ k r, R[k]? = some r → r = [] ∨ (σ k).1 ≠ g) (hk : HSg P n w0 st o g G)
    (h : XE P n w0 ops QX fuel (listed.setIfInBounds i true) B R ρ σ ⟨bt st.tmps o.dst (.v undef), st.boxes, [], G⟩) : XEs P n w0 ops QX fuel listed B R ρ σ st i := fun ρ' a w hag hr' hS => by
  obtain ⟨w', h1, h2, hc⟩ := hk ρ' σ a w hr'
  unfold wpOp
  simp only [hi, ak hr'.1 hw, if_true]
  left
  rw [Oper.wp, h1, Oper.upon_skip]
  have hS0 : XRd B [] ρ σ w' := (h2.under hB (.inl rfl)).from hag
  have hS' : XRd B R ρ σ w' := ⟨hS0.box, fun k r hk => by
    obtain ⟨g1, g2⟩ := hS.row k r hk
    refine ⟨Nat.lt_of_lt_of_le g1 hc.size, fun q v hv => ?_⟩
    rcases hR k r hk with hz | hne
    · rw [hz] at hv; simp at hv
    · rw [World.cell?_of_block (a := ⟨(σ k).1, (σ k).2 + q, none⟩) (hc.block _ g1 hne)]; exact g2 q v hv⟩
  exact ⟨hS', h _ _ w' hag ⟨(hr'.1.bare hr G).put (x := .v undef) (aE hd) trivial, h2⟩ hS'⟩
def QJoinF {α : Type} (f : α → St) (QX : Exit → St → Prop) : Exit → St → Prop
  | .normal, s => ∃ x, Wk s (f x)
  | e, s => QX e s
theorem cH {c : Code} {α : Type} (f : α → St) (h1 : XW P n w0 (QJoinF f QX) c st) (h2 : ∀ x, QX .normal (f x)) : XW P n w0 QX c st := fun ρ σ a w hr =>
  Code.wp_mono (fun e a w ⟨s, ρ, σ, hq, hs⟩ => by
    cases e
    case normal => obtain ⟨x, hx⟩ := hq; exact ⟨f x, ρ, σ, h2 x, hx _ _ _ _ _ _ hs⟩
    all_goals exact ⟨s, ρ, σ, hq, hs⟩) (h1 ρ σ a w hr)
end
end
/- Plain definitions: segments that arrive (no program in sight). -/
section
open Go.RowKit
def slotAt (l : List Int) (i : Nat) : Int := l.getD i (-1)
def c5 (l : List Int) (off : Nat) (t : ByteArray) : Nat → List Int
  | 0 => l
  | k + 1 => (c5 l off t k).set (off + k) (ar t k)
def aa (l : List Int) : List Pce → List Int
  | [] => l
  | p :: ps => aa (c5 l p.off.toNat p.text p.text.size) ps
def ax (r : Rcv) : List Int := aa (List.replicate 33 (-1)) r.held
def restOf (n : Int) : Int := n % 4294967296
def de (r : Rcv) (seq : Int) (t : ByteArray) (l : List Int) (k : Nat) : List Int :=
  if restOf (sA seq k - r.next) < wO r ∧ (r.fin < 0 ∨ restOf (sA seq k - r.next) < r.fin) ∧ slotAt l (restOf (sA seq k - r.next)).toNat < 0 then l.set (restOf (sA seq k - r.next)).toNat (ar t k) else l
def ck (r : Rcv) (seq : Int) (t : ByteArray) (l : List Int) : Nat → List Int
  | 0 => l
  | k + 1 => de r seq t (ck r seq t l k) k
def bm (l : List Int) (i : Nat) : Bool := (l.drop i).all fun x => decide (x < 0)
def bG (acc : List Pce) (j : Nat) (x : Int) : List Pce := match acc.getLast? with
  | some p => if p.off + (p.text.size : Int) = (j : Int) then acc.dropLast ++ [⟨p.off, p.text ++ a6 [x]⟩] else acc ++ [⟨(j : Int), a6 [x]⟩]
  | none => [⟨(j : Int), a6 [x]⟩]
def ca (acc : List Pce) (j : Nat) : List Int → List Pce
  | [] => acc
  | x :: xs => ca (if x < 0 then acc else bG acc j x) (j + 1) xs
def aS (l : List Int) : Nat := (l.takeWhile fun x => decide (0 ≤ x)).length
def aj (r : Rcv) (seq : Int) (t : ByteArray) : List Int := ck r seq t (ax r) t.size
def ae (r : Rcv) (seq : Int) (k : Nat) : Nat := (restOf (sA seq k - r.next)).toNat
def bk (r : Rcv) (seq : Int) (t : ByteArray) (fin : Bool) : Int :=
  if fin && (decide (r.fin < 0) && (decide ((ae r seq t.size : Int) ≤ wO r) && bm (aj r seq t) (ae r seq t.size))) then (ae r seq t.size : Int) else r.fin
def cd (r : Rcv) (seq : Int) (t : ByteArray) (fin : Bool) : Int := if 0 ≤ bk r seq t fin then bk r seq t fin - (aS (aj r seq t) : Int) else bk r seq t fin
def a5 (r : Rcv) (seq : Int) (t : ByteArray) (fin : Bool) : Rcv :=
  if rO r && !r.done then
    (if 3 < (ca [] 0 ((aj r seq t).drop (aS (aj r seq t)))).length then r
     else if cd r seq t fin = 0 then ⟨sA (sA r.next (aS (aj r seq t))) 1, r.data ++ a6 ((aj r seq t).take (aS (aj r seq t))), ca [] 0 ((aj r seq t).drop (aS (aj r seq t))), -1, true⟩
     else ⟨sA r.next (aS (aj r seq t)), r.data ++ a6 ((aj r seq t).take (aS (aj r seq t))), ca [] 0 ((aj r seq t).drop (aS (aj r seq t))), cd r seq t fin, r.done⟩)
  else r
theorem offN_eq (r : Rcv) (seq : Int) (k : Nat) : (sA seq (k : Int) - r.next) % 4294967296 = ((ae r seq k : Nat) : Int) := by
  unfold ae restOf
  have := Int.emod_nonneg (sA seq (k : Int) - r.next) (b := 4294967296) (by omega)
  omega
theorem e7 (a n : Int) : 0 ≤ sA a n ∧ sA a n ≤ 4294967295 := by unfold sA; omega
theorem bV (r : Rcv) (seq : Int) (t : ByteArray) (l : List Int) (k : Nat) : de r seq t l k = if ((ae r seq k : Nat) : Int) < wO r ∧ (r.fin < 0 ∨ ((ae r seq k : Nat) : Int) < r.fin) ∧ slotAt l (ae r seq k) < 0 then l.set (ae r seq k) (ar t k) else l := by
  unfold de
  have : restOf (sA seq (k : Int) - r.next) = ((ae r seq k : Nat) : Int) := offN_eq r seq k
  rw [this]; rfl
theorem slotAt_of {l : List Int} {i : Nat} {x : Int} (h : l[i]? = some x) : slotAt l i = x := by unfold slotAt; rw [List.getD_eq_getElem?_getD, h]; rfl
theorem freeFrom_step {l : List Int} {i : Nat} {x : Int} (h : l[i]? = some x) : bm l i = (decide (x < 0) && bm l (i + 1)) := by
  unfold bm
  rw [List.drop_eq_getElem_cons (List.getElem?_eq_some_iff.1 h).1, List.all_cons, (List.getElem?_eq_some_iff.1 h).2]
theorem freeFrom_end (l : List Int) : bm l l.length = true := by unfold bm; rw [List.drop_length]; rfl
theorem init_step {l : List Int} {k : Nat} (h : l.take k = List.replicate k (-1)) (hk : k < l.length) : (l.set k (-1)).take (k + 1) = List.replicate (k + 1) (-1) := by
  rw [List.take_succ_eq_append_getElem (by simpa using hk), List.getElem_set_self, List.take_set_of_le (Nat.le_refl k), h, ← List.replicate_succ']
theorem putText_len (l : List Int) (off : Nat) (t : ByteArray) : ∀ k, (c5 l off t k).length = l.length
  | 0 => rfl
  | k + 1 => by simp only [c5, List.length_set]; exact putText_len l off t k
theorem putHeld_len : ∀ (ps : List Pce) (l : List Int), (aa l ps).length = l.length
  | [], _ => rfl
  | p :: ps, l => by simp only [aa]; rw [putHeld_len ps, putText_len]
theorem dC (r : Rcv) : (ax r).length = 33 := by unfold ax; rw [putHeld_len, List.length_replicate]
theorem textN_len (r : Rcv) (seq : Int) (t : ByteArray) (l : List Int) : ∀ k, (ck r seq t l k).length = l.length
  | 0 => rfl
  | k + 1 => by
    simp only [ck, de]; split
    · rw [List.length_set]; exact textN_len r seq t l k
    · exact textN_len r seq t l k
theorem e6 (r : Rcv) (seq : Int) (t : ByteArray) : (aj r seq t).length = 33 := by unfold aj; rw [textN_len, dC]
theorem filled_le (l : List Int) : aS l ≤ l.length := by unfold aS; exact (List.takeWhile_sublist _).length_le
theorem set_le {l : List Int} {i : Nat} {v : Int} (h : ∀ x ∈ l, x ≤ 255) (hv : v ≤ 255) : ∀ x ∈ l.set i v, x ≤ 255 := fun x hx => by
  rcases List.mem_or_eq_of_mem_set hx with h1 | h1
  · exact h x h1
  · omega
theorem putText_le {l : List Int} {off : Nat} {t : ByteArray} (h : ∀ x ∈ l, x ≤ 255) : ∀ k, ∀ x ∈ c5 l off t k, x ≤ 255
  | 0 => h
  | k + 1 => by simp only [c5]; exact set_le (putText_le h k) (cQ t k).2
theorem putHeld_le : ∀ (ps : List Pce) {l : List Int}, (∀ x ∈ l, x ≤ 255) → ∀ x ∈ aa l ps, x ≤ 255
  | [], _, h => h
  | p :: ps, _, h => by simp only [aa]; exact putHeld_le ps (putText_le h _)
theorem slotsOf_le (r : Rcv) : ∀ x ∈ ax r, x ≤ 255 := by
  unfold ax; exact putHeld_le _ (fun x hx => by have := (List.mem_replicate.1 hx).2; omega)
theorem textN_le {r : Rcv} {seq : Int} {t : ByteArray} {l : List Int} (h : ∀ x ∈ l, x ≤ 255) : ∀ k, ∀ x ∈ ck r seq t l k, x ≤ 255
  | 0 => h
  | k + 1 => by
    simp only [ck, de]; split
    · exact set_le (textN_le h k) (cQ t k).2
    · exact textN_le h k
theorem allIn_le (r : Rcv) (seq : Int) (t : ByteArray) : ∀ x ∈ aj r seq t, x ≤ 255 := textN_le (slotsOf_le r) _
theorem co {l : List Int} {k : Nat} (hk : k ≤ l.length) (h : ∀ x ∈ l.take k, 0 ≤ x) (he : ∀ x, l[k]? = some x → x < 0) : aS l = k := by
  unfold aS
  induction l generalizing k with
  | nil => simp at hk; subst hk; rfl
  | cons a l ih =>
    cases k with
    | zero => rw [List.takeWhile_cons, if_neg (by have := he a rfl; simp; omega)]; rfl
    | succ k =>
      rw [List.takeWhile_cons, if_pos (by have := h a (by simp); simpa using this), List.length_cons, ih (by simpa using hk) (fun x hx => h x (by simp [hx])) (fun x hx => he x (by simpa using hx))]
theorem take_more {l : List Int} {k : Nat} {x : Int} (hx : l[k]? = some x) : l.take (k + 1) = l.take k ++ [x] := by rw [List.take_add_one, hx]; rfl
theorem take_pos {l : List Int} {k : Nat} {x : Int} (h : ∀ y ∈ l.take k, 0 ≤ y) (hx : l[k]? = some x) (h0 : 0 ≤ x) : ∀ y ∈ l.take (k + 1), 0 ≤ y := fun y hy => by
  rw [take_more hx] at hy
  rcases List.mem_append.1 hy with hy | hy
  · exact h y hy
  · rw [List.mem_singleton] at hy; omega
def touches (acc : List Pce) (j : Nat) : Prop := ∃ p, acc.getLast? = some p ∧ p.off + (p.text.size : Int) = (j : Int)
theorem addByte_new {acc : List Pce} {j : Nat} {x : Int} (h : ¬ touches acc j) : bG acc j x = acc ++ [⟨(j : Int), a6 [x]⟩] := by
  unfold bG
  cases hl : acc.getLast? with
  | none => rw [List.getLast?_eq_none_iff] at hl; subst hl; rfl
  | some p => dsimp only; rw [if_neg (fun e => h ⟨p, hl, e⟩)]
theorem addByte_more {acc : List Pce} {o j : Nat} {t : ByteArray} {x : Int} (h : o + t.size = j) : bG (acc ++ [⟨(o : Int), t⟩]) j x = acc ++ [⟨(o : Int), t ++ a6 [x]⟩] := by
  unfold bG
  rw [List.getLast?_concat]
  dsimp only; rw [if_pos (by omega), List.dropLast_concat]
theorem bstr_app (a : List Int) (x : Int) : a6 (a ++ [x]) = a6 a ++ a6 [x] := by
  unfold a6; rw [List.foldl_append]
  generalize a.foldl (fun r n => r.push (UInt8.ofNat n.toNat)) ByteArray.empty = b
  simp only [List.foldl_cons, List.foldl_nil]
  cases b
  simp only [ByteArray.push, ByteArray.empty]
  apply ByteArray.ext
  simp
theorem ci (l : List Int) : (a6 l).size = l.length := by
  have key : ∀ (l : List Int) (b : ByteArray), (l.foldl (fun r n => r.push (UInt8.ofNat n.toNat)) b).size = b.size + l.length := by
    intro l
    induction l with
    | nil => intro b; rfl
    | cons x l ih => intro b; rw [List.foldl_cons, ih, ByteArray.size_push, List.length_cons]; omega
  have := key l ByteArray.empty
  unfold a6; rw [this]; show 0 + l.length = l.length; omega
theorem pcs_run (acc : List Pce) (o : Nat) : ∀ (run pre rest : List Int), (∀ x ∈ run, 0 ≤ x) → ca (acc ++ [⟨(o : Int), a6 pre⟩]) (o + pre.length) (run ++ rest) = ca (acc ++ [⟨(o : Int), a6 (pre ++ run)⟩]) (o + pre.length + run.length) rest
  | [], pre, rest, _ => by simp
  | x :: run, pre, rest, h => by
    have hx : ¬ x < 0 := by have := h x (by simp); omega
    rw [List.cons_append, ca, if_neg hx, addByte_more (by rw [ci]), ← bstr_app]
    have := pcs_run acc o run (pre ++ [x]) rest (fun y hy => h y (by simp [hy]))
    simp only [List.length_append, List.length_cons, List.length_nil, List.append_assoc, List.cons_append, List.nil_append] at this ⊢
    rw [show o + pre.length + 1 = o + (pre.length + (0 + 1)) by omega, this]
    congr 1; omega
theorem pcs_begin (acc : List Pce) (o : Nat) (x : Int) (run rest : List Int) (hx : 0 ≤ x) (h : ∀ y ∈ run, 0 ≤ y) (hn : ¬ touches acc o) : ca acc o (x :: run ++ rest) = ca (acc ++ [⟨(o : Int), a6 (x :: run)⟩]) (o + (run.length + 1)) rest := by
  rw [List.cons_append, ca, if_neg (by omega), addByte_new hn]
  have := pcs_run acc o run [x] rest h
  simp only [List.length_cons, List.length_nil, List.cons_append, List.nil_append] at this
  rw [show o + 1 = o + (0 + 1) by omega, this]
  congr 1; omega
theorem dc {out : List Pce} {j : Nat} {x : Int} {p : Pce} (h : out[out.length - 1]? = some p) (e : p.off + (p.text.size : Int) = (j : Int)) : bG out j x = out.set (out.length - 1) ⟨p.off, p.text ++ a6 [x]⟩ := by
  have hl : out.getLast? = some p := by rw [List.getLast?_eq_getElem?]; exact h
  unfold bG; rw [hl]; dsimp only; rw [if_pos e]
  have hne : out ≠ [] := fun e => by subst e; simp at h
  obtain ⟨a, b, rfl⟩ : ∃ a b, out = a ++ [b] := ⟨out.dropLast, out.getLast hne, (List.dropLast_concat_getLast hne).symm⟩
  simp
theorem da {out : List Pce} {j : Nat} {x : Int} {p : Pce} (h : out[out.length - 1]? = some p) (e : ¬ p.off + (p.text.size : Int) = (j : Int)) : bG out j x = out ++ [⟨(j : Int), a6 [x]⟩] := by
  have hl : out.getLast? = some p := by rw [List.getLast?_eq_getElem?]; exact h
  unfold bG; rw [hl]; dsimp only; rw [if_neg e]
theorem df {out : List Pce} {j : Nat} {x : Int} (h : out.length = 0) : bG out j x = out ++ [⟨(j : Int), a6 [x]⟩] := by
  rw [List.length_eq_zero_iff] at h; subst h; rfl
theorem es {out : List Pce} {j : Nat} {x : Int} (h : ∀ p ∈ out, 0 ≤ p.off ∧ p.off + (p.text.size : Int) ≤ (j : Int)) : ∀ p ∈ bG out j x, 0 ≤ p.off ∧ p.off + (p.text.size : Int) ≤ (j : Int) + 1 := by
  have h1 : (a6 [x]).size = 1 := ci [x]
  have hnew : ∀ p ∈ out ++ [(⟨(j : Int), a6 [x]⟩ : Pce)], 0 ≤ p.off ∧ p.off + (p.text.size : Int) ≤ (j : Int) + 1 := fun p hp => by
    rcases List.mem_append.1 hp with hp | hp
    · have := h p hp; omega
    · rw [List.mem_singleton] at hp; subst hp; dsimp only; omega
  cases hl : out[out.length - 1]? with
  | none =>
    rw [df (by rw [List.getElem?_eq_none_iff] at hl; omega)]; exact hnew
  | some q =>
    by_cases e : q.off + (q.text.size : Int) = (j : Int)
    · rw [dc hl e]
      intro p hp
      have hq := h q (List.mem_of_getElem? hl)
      rcases List.mem_or_eq_of_mem_set hp with hp | hp
      · have := h p hp; omega
      · subst hp; dsimp only; rw [ByteArray.size_append, h1]; omega
    · rw [da hl e]; exact hnew
theorem pcs_step {l : List Int} {out : List Pce} {i m : Nat} {x : Int} (h : l[i]? = some x) (hm : m ≤ i) : ca out (i - m) (l.drop i) = ca (if x < 0 then out else bG out (i - m) x) (i + 1 - m) (l.drop (i + 1)) := by
  rw [List.drop_eq_getElem_cons (List.getElem?_eq_some_iff.1 h).1, (List.getElem?_eq_some_iff.1 h).2, ca, show i - m + 1 = i + 1 - m by omega]
theorem u8_id {x : Int} (h0 : 0 ≤ x) (h1 : x ≤ 255) : IntKind.u8.wrap x = x := by
  have e : IntKind.u8.wrap x = x % 256 := by simp [IntKind.wrap, IntKind.bits, IntKind.signed]
  rw [e]; omega
theorem heldOk_in (m : Int) : ∀ (l : List Pce) (e : Int), 0 ≤ e → aX m e l = true → ∀ p ∈ l, 0 < p.off ∧ p.off + (p.text.size : Int) ≤ m
  | [], _, _, _, p, hp => by simp at hp
  | q :: l, e, he, h, p, hp => by
    simp only [aX, Bool.and_eq_true, decide_eq_true_eq, Bool.not_eq_true'] at h
    have hq : e < q.off ∧ q.off + (q.text.size : Int) ≤ m := by
      obtain ⟨h1, h2⟩ := h
      simp at h1 h2; omega
    rcases List.mem_cons.1 hp with rfl | hp
    · omega
    · exact heldOk_in m l (q.off + (q.text.size : Int)) (by omega) (by simp_all) p hp
theorem bo {r : Rcv} {seq : Int} {t : ByteArray} {fin : Bool} (h1 : rO r = true) (h2 : r.done = false) (h3 : 3 < (ca [] 0 ((aj r seq t).drop (aS (aj r seq t)))).length) : a5 r seq t fin = r := by
  unfold a5; rw [if_pos (by rw [h1, h2]; rfl), if_pos h3]
theorem dR {r : Rcv} (h : rO r = true) : r.data.size ≤ 32 ∧ r.held.length ≤ 3 ∧ (0 ≤ r.next ∧ r.next ≤ 4294967295) ∧ (-1 ≤ r.fin ∧ r.fin ≤ wO r) ∧ r.fin ≠ 0 ∧ ∀ p ∈ r.held, 0 < p.off ∧ p.off + (p.text.size : Int) ≤ 32 := by
  unfold rO at h
  simp only [Bool.and_eq_true] at h
  obtain ⟨h1, h2, h3⟩ := h
  obtain ⟨g1, g2, g3, g4, g5⟩ := rcvPre_iff.1 h1
  have hw := bW r
  have g4' := inB_tt.1 g4
  refine ⟨g2, g3, by (have g1b : dT r.next 0 4294967295 = true := by simp [aD] at g1; exact g1.2); exact inB_tt.1 g1b, g4', g5, fun p hp => ?_⟩
  have := heldOk_in _ _ _ (Int.le_refl 0) h2 p hp
  split at this <;> omega
theorem finIn_bd {r : Rcv} {seq : Int} {t : ByteArray} {fin : Bool} (h : -1 ≤ r.fin ∧ r.fin ≤ wO r) : -1 ≤ bk r seq t fin ∧ bk r seq t fin ≤ 32 := by
  have hw := bW r
  unfold bk; split
  · rename_i h1; simp only [Bool.and_eq_true, decide_eq_true_eq] at h1; omega
  · omega
end
/- Plain definitions: sending (no program in sight). -/
section
open Go.RowKit
theorem dD {s : Snd} (h : bH s = true) : 0 ≤ s.una ∧ s.una ≤ 4294967295 ∧ s.data.size ≤ 48 ∧ 0 ≤ s.sent ∧ s.sent ≤ s.data.size ∧ 0 ≤ dX s ∧ dX s ≤ s.sent + 1 ∧ s.sent ≤ dX s ∧
    (s.finSent = true → s.fin = true ∧ s.sent = s.data.size ∧ dX s = s.sent + 1) ∧ (s.finSent = false → dX s = s.sent) ∧ (s.done = true → s.fin = true ∧ s.finSent = false ∧ s.data.size = 0) := by
  unfold bH at h
  simp only [Bool.and_eq_true, decide_eq_true_eq, aD, dT, Bool.or_eq_true, Bool.not_eq_true'] at h
  obtain ⟨⟨⟨⟨h1, h2⟩, h3⟩, h4⟩, h5⟩ := h
  have e : (2 : Int) ^ (32 : Int).toNat - 1 = 4294967295 := by decide
  rw [e] at h1
  have hw : wrap64 (s.sent + 1) = s.sent + 1 := by unfold wrap64; omega
  refine ⟨by omega, by omega, h2, by omega, by omega, ?_, ?_, ?_, fun hf => ?_, fun hf => ?_, fun hd => ?_⟩
  · unfold dX; split <;> omega
  · unfold dX; split <;> omega
  · unfold dX; split <;> omega
  · simp [hf] at h4; refine ⟨h4.1, h4.2, ?_⟩; unfold dX; rw [if_pos hf, hw]
  · unfold dX; simp [hf]
  · simp [hd] at h5
    refine ⟨h5.1.1, h5.1.2, ?_⟩
    have h6 := h5.2
    rw [ByteArray.toList_eq] at h6
    have h7 : s.data.data.toList = [] := by simpa only [List.isEmpty_iff] using h6
    show s.data.data.size = 0
    rw [← Array.length_toList, h7]; rfl
theorem takenIn_sz (r : Rcv) (n : Int) : (ay r n).1.data.size ≤ r.data.size := by
  unfold ay; split
  · simp only [ByteArray.size_extract]; omega
  · exact Nat.le_refl _
theorem takenIn_held (r : Rcv) (n : Int) : (ay r n).1.held = r.held := by unfold ay; split <;> rfl
def zeroChk : Chk := ⟨0, ⟨#[]⟩, false⟩
def wnd (s : Snd) (window : Int) : Int := max 0 (max 0 (min window 1000000) - dX s)
def cr (s : Snd) (window mss : Int) : Int := max 0 (min (min mss (wnd s window)) (s.data.size - s.sent))
def bY (s : Snd) (window mss : Int) : Bool := s.fin && (!s.finSent && (!s.done && (decide (s.sent + cr s window mss = s.data.size) && decide (cr s window mss < wnd s window))))
def nC (s : Snd) (window mss : Int) : Chk × Bool :=
  if bH s then
    (if decide (cr s window mss = 0) && !bY s window mss then (zeroChk, false)
     else (⟨nextOf s, s.data.extract s.sent.toNat (s.sent + cr s window mss).toNat, bY s window mss⟩, true))
  else (zeroChk, false)
def sentS (s : Snd) (c : Chk) : Snd := { s with sent := IntKind.i64.wrap (s.sent + (c.text.size : Int)), finSent := s.finSent || c.fin }
def sO (s : Snd) (c : Chk) : Snd := if bH s && (bH (sentS s c) && !(c.fin && s.done)) then sentS s c else s
end
/- The machine, in short: calls that write, in draws. -/
section
open Go.RowKit
set_option linter.unusedVariables false
section
variable {P : Program} {n : Nat} {w0 : World} {QX : Exit → St → Prop} {ops : Array Oper} {l : List Oper} {st st' : St} {t t' : List (Nat × AV)} {b : List Box} {r : List (List Value)} {fs : List Fact}
theorem kWS (k : Nat) (ks : List Nat) (t' : List (Nat × AV)) (f : FuncId) (args : List Value) (d : Option Nat) {α : Type} {F : α → Value} {G : α → List Fact} {o : Oper} (i : Nat) {fi : Fact} (ho : l[k]? = some o) (hi : fs[i]? = some fi) (hlo : ∀ w b, fi.p w → fi.blk b → w0.heap.size ≤ b) (hk : XCM P w0 fs fi.blk f args F G)
    (hn : ∀ y, XL P n w0 ops QX (l.drop (k + 1)) ⟨bt t' d (.v (F y)), b, [], G y ++ dropF fs i⟩) (hown : fi.own = true := by rfl) (h : bJ P n ops l k ks ⟨t, b, r, fs⟩ = some ⟨t', b, r, fs⟩ := by kernel_rfl) (hc : cD ops ⟨t', b, r, fs⟩ o = some (f, args, d) := by kernel_rfl) (hd : aA n d = true := by kernel_rfl) (hf : fnOk P f = true := by kernel_rfl) (hrows : dA (ce b) 0 t' = true := by kernel_rfl) : XL P n w0 ops QX l ⟨t, b, r, fs⟩ := xl_callW k ks ⟨t', b, r, fs⟩ f args d i fi h ho hc hd hf hi hown hlo hrows hk hn
theorem kWD (k : Nat) (ks : List Nat) (us : List (Nat × AV)) (f : FuncId) (args : List Value) (d : Option Nat) {α : Type} {F : α → Value} {G : α → List Fact} {o : Oper} (i : Nat) {fi : Fact} (ho : l[k]? = some o) (hi : fs[i]? = some fi) (hlo : ∀ w b, fi.p w → fi.blk b → w0.heap.size ≤ b) (hk : XCM P w0 fs fi.blk f args F G)
    (hn : ∀ y, XL P n w0 ops QX (l.drop (k + 1)) ⟨bt (bM us t ks) d (.v (F y)), b, [], G y ++ dropF fs i⟩) (hown : fi.own = true := by rfl) (h : bJ P n ops l k ks ⟨t, b, r, fs⟩ = some ⟨bM us t ks, b, r, fs⟩ := by kernel_rfl) (hc : cD ops ⟨bM us t ks, b, r, fs⟩ o = some (f, args, d) := by kernel_rfl) (hd : aA n d = true := by kernel_rfl) (hf : fnOk P f = true := by kernel_rfl) (hrows : dA (ce b) 0 (bM us t ks) = true := by kernel_rfl) : XL P n w0 ops QX l ⟨t, b, r, fs⟩ := xl_callW k ks ⟨bM us t ks, b, r, fs⟩ f args d i fi h ho hc hd hf hi hown hlo hrows hk hn
variable {fuel : Nat} {listed : Array Bool} {B : List Box} {R : List (List Value)} {ρ : Nat → Nat} {σ : Nat → Nat × Nat}
theorem kSW (i : Nat) (f : FuncId) (args : List Value) (d : Option Nat) {α : Type} {F : α → Value} {G : α → List Fact} {o : Oper} (k : Nat) {fi : Fact} (hi : ops[i]? = some o) (hfi : st.facts[k]? = some fi) (hlo : ∀ w b, fi.p w → fi.blk b → w0.heap.size ≤ b) (hB : Under B st.boxes) (hk : XCM P w0 st.facts fi.blk f args F G)
    (h : ∀ y, XE P n w0 ops QX fuel (listed.setIfInBounds i true) B [] ρ σ ⟨bt st.tmps d (.v (F y)), st.boxes, [], G y ++ dropF st.facts k⟩) (hown : fi.own = true := by rfl) (hc : cD ops st o = some (f, args, d) := by kernel_rfl) (hd : aA n d = true := by kernel_rfl) (hf : fnOk P f = true := by kernel_rfl) (hrows : dA (ce st.boxes) 0 st.tmps = true := by kernel_rfl) : XEs P n w0 ops QX fuel listed B [] ρ σ st i := xs_callW i f args d k fi hi hc hd hf hfi hown hlo hrows hB rfl hk h
end
end
/- Plain definitions: new connections (no program in sight). -/
section
open Go.RowKit
def farW (window : Int) (o : Opt) : Int := window * 2 ^ (max 0 o.scale).toNat
def rN (n : Int) : Rcv := ⟨n % 4294967296, ⟨#[]⟩, [], -1, false⟩
end
/- The machine: draws that make a struct with a slice of its own. -/
section
open Go.RowKit
set_option linter.unusedVariables false
set_option linter.unusedSimpArgs false
def bu (s : ByteArray) : List Value := [.string s]
def newF (B : Nat) (v : Value) (k : Nat) (rs : List (List Value)) : Fact where
  own := true
  p := fun w => (aM v k rs).p w ∧ ∀ b, (aM v k rs).blk b → B ≤ b
  blk := (aM v k rs).blk
  lt := fun w b h hb => (aM v k rs).lt w b h.1 hb
  keep := fun w w' h hs hb => ⟨(aM v k rs).keep w w' h.1 hs hb, h.2⟩
theorem newF_row {w : World} {B B' e K : Nat} {v : Value} {rs : List (List Value)} (h : (a8 B e K v rs).p w) (hb : ∀ b, (a8 B e K v rs).blk b → B' ≤ b) : (newF B' v K rs).p w := ⟨aq h, fun b hbk => hb b (ct hbk)⟩
theorem newF_new {w : World} {B B' K : Nat} {v : Value} {rs : List (List Value)} (h : (newF B v K rs).p w) (hb : ∀ b, (newF B v K rs).blk b → B' ≤ b) : (newF B' v K rs).p w := ⟨h.1, hb⟩
theorem newF_lo {w : World} {B K : Nat} {v : Value} {rs : List (List Value)} (h : (newF B v K rs).p w) {b : Nat} (hb : (newF B v K rs).blk b) : B ≤ b := h.2 b hb
theorem own_new {W : World} {f : Fact} {B0 g T N : Nat} {V : Value} {fs : List Fact} {i j k : Nat} (hap : Apart fs) (hi : fs[i]? = some f) (ho : f.own = true) (hj : fs[j]? = some (dB B0 g T V N)) (hk : fs[k]? = some (cy W (fun b => b = g))) (hij : i ≠ j) (hik : i ≠ k) :
    ∀ b, f.blk b → W.heap.size ≤ b := fun b hb => by
  rcases Nat.lt_or_ge b W.heap.size with h | h
  · exact (hap i k _ _ hi hk hik ho b hb ⟨h, fun e => hap i j _ _ hi hj hij ho b hb e⟩).elim
  · exact h
theorem xc_newF {P : Program} {w0 : World} {fs : List Fact} {f : FuncId} {args : List Value} {K : Nat} {α : Type} {F : α → Value} {v : α → Value} {rs : α → List (List Value)}
    (h : ∀ w, w0.heap.size ≤ w.heap.size → (∀ g ∈ fs, g.p w) → Calls P f args.toArray w fun e' w' => ∃ y, e' = .returned (F y) ∧ (newF w.heap.size (v y) K (rs y)).p w' ∧ Below w.heap.size w w') :
    XC P w0 fs f args F (fun y => [newF w0.heap.size (v y) K (rs y)]) := fun w hw hf => (h w hw hf).mono fun e' w' ⟨y, he, hr, hb⟩ =>
  ⟨y, he, fun x hx => by
    have e1 : x = newF w0.heap.size (v y) K (rs y) := (by simpa using hx)
    subst e1; exact ⟨newF_new hr (fun b hb => Nat.le_trans hw (newF_lo hr hb)), fun b hb => newF_lo hr hb⟩, Apart.one _, hb⟩
def listL : Nat → Nat → List Bool
  | 0, _ => []
  | n + 1, m => Nat.beq (m % 2) 1 :: listL n (m / 2)
def dy (n m : Nat) : Array Bool := ⟨listL n m⟩
section
variable {P : Program} {n : Nat} {w0 : World} {QX : Exit → St → Prop} {st st' : St} {ops : Array Oper} {fuel fuel' : Nat} {listed listed' : Array Bool} {B : List Box} {R : List (List Value)} {ρ : Nat → Nat} {σ : Nat → Nat × Nat}
theorem xe_cut {α : Type} (f : α → St) (fuel' : Nat) (listed' : Array Bool) (h1 : ∀ x, XE P n w0 ops QX fuel' listed' B R ρ σ (f x)) (h2 : (∀ x, XE P n w0 ops QX fuel' listed' B R ρ σ (f x)) → XE P n w0 ops QX fuel listed B R ρ σ st) : XE P n w0 ops QX fuel listed B R ρ σ st := h2 h1
theorem xe_cutT {α : Type} {t : List (Nat × AV)} {b : List Box} {r : List (List Value)} {fs : List Fact} (f : α → List (Nat × AV)) (ks : List Nat) (fuel' : Nat) (listed' : Array Bool) (h1 : ∀ x, XE P n w0 ops QX fuel' listed' B R ρ σ ⟨bM (f x) t ks, b, r, fs⟩) (h2 : (∀ x, XE P n w0 ops QX fuel' listed' B R ρ σ ⟨bM (f x) t ks, b, r, fs⟩) → XE P n w0 ops QX fuel listed B R ρ σ ⟨t, b, r, fs⟩) : XE P n w0 ops QX fuel listed B R ρ σ ⟨t, b, r, fs⟩ := h2 h1
theorem cl {α : Type} {t : List (Nat × AV)} {b : List Box} {r : List (List Value)} {fs : List Fact} (f : α → List (Nat × AV)) (ks : List Nat) (bx : α → List Box) (ex : α → List Fact) (fuel' : Nat) (listed' : Array Bool) (h1 : ∀ x, XE P n w0 ops QX fuel' listed' B R ρ σ ⟨bM (f x) t ks, b ++ bx x, r, fs ++ ex x⟩) (h2 : (∀ x, XE P n w0 ops QX fuel' listed' B R ρ σ ⟨bM (f x) t ks, b ++ bx x, r, fs ++ ex x⟩) → XE P n w0 ops QX fuel listed B R ρ σ ⟨t, b, r, fs⟩) : XE P n w0 ops QX fuel listed B R ρ σ ⟨t, b, r, fs⟩ := h2 h1
theorem bn (h : Wk st st') (hl : listed = listed') (h1 : XE P n w0 ops QX fuel listed' B R ρ σ st') : XE P n w0 ops QX fuel listed B R ρ σ st := fun ρ' a w hag hr hS => by
  subst hl; exact h1 ρ' a w hag (h _ _ _ _ _ _ hr) hS
end
end
/- The machine: function values that hold variables, calls of them, and memory kept together as one fact. -/
section
open Go.RowKit
set_option linter.unusedVariables false
set_option linter.unusedSimpArgs false
def allF (gs : List Fact) : Fact where
  own := true
  p := fun w => (∀ g ∈ gs, g.p w) ∧ Apart gs
  blk := fun b => ∃ g ∈ gs, g.blk b
  lt := fun w b h ⟨g, hg, hb⟩ => g.lt w b (h.1 g hg) hb
  keep := fun w w' h hs hb => ⟨fun g hg => g.keep w w' (h.1 g hg) hs fun b hgb => hb b ⟨g, hg, hgb⟩, h.2⟩
theorem Apart.front {gs hs : List Fact} (h : Apart (gs ++ hs)) : Apart gs := fun i j f g hi hj => by
  have h1 := (List.getElem?_eq_some_iff.1 hi).1
  have h2 := (List.getElem?_eq_some_iff.1 hj).1
  exact h i j f g (by rw [List.getElem?_append_left h1]; exact hi) (by rw [List.getElem?_append_left h2]; exact hj)
theorem Apart.back {gs hs : List Fact} (h : Apart (gs ++ hs)) : Apart hs := fun i j f g hi hj hij => by
  refine h (gs.length + i) (gs.length + j) f g ?_ ?_ (by omega)
  · rw [List.getElem?_append_right (by omega), Nat.add_sub_cancel_left]; exact hi
  · rw [List.getElem?_append_right (by omega), Nat.add_sub_cancel_left]; exact hj
theorem Apart.pickN {fs gs : List Fact} (m : List Nat) (h : Apart fs) (hm : nodupB m = true) (hp : pickF fs m = some gs) : Apart gs := fun i j f g hi hj hij => by
  obtain ⟨g1, g2⟩ := pickF_get hp
  have hl1 := (List.getElem?_eq_some_iff.1 hi).1
  have hl2 := (List.getElem?_eq_some_iff.1 hj).1
  have e1 := List.getElem?_eq_getElem (l := m) (i := i) (by omega)
  have e2 := List.getElem?_eq_getElem (l := m) (i := j) (by omega)
  refine h _ _ f g (g2 i f _ hi e1) (g2 j g _ hj e2) fun e => hij ?_
  have hk := List.pairwise_iff_getElem.1 (nodupB_spec hm)
  rcases Nat.lt_trichotomy i j with h1 | h1 | h1
  · exact (hk i j (by omega) (by omega) h1 e).elim
  · exact h1
  · exact (hk j i (by omega) (by omega) h1 e.symm).elim
theorem allF_pick {fs gs : List Fact} {w : World} (m : List Nat) (hf : ∀ g ∈ fs, g.p w) (ha : Apart fs) (hm : nodupB m = true) (hp : pickF fs m = some gs) : (allF gs).p w := ⟨fun g hg => by
    obtain ⟨i, hi⟩ := List.getElem?_of_mem hg
    obtain ⟨g1, g2⟩ := pickF_get hp
    have hl1 := (List.getElem?_eq_some_iff.1 hi).1
    exact hf g (List.mem_of_getElem? (g2 i g _ hi (List.getElem?_eq_getElem (l := m) (i := i) (by omega)))), ha.pickN m hm hp⟩
section
variable {P : Program} {n : Nat} {w0 : World} {QX : Exit → St → Prop} {st st' : St} {ops : Array Oper} {l : List Oper}
theorem xw_turnF {c : Code} {t : List (Nat × AV)} {b : List Box} {r : List (List Value)} {fs fs' : List Fact} (h : ∀ ρ σ w, XHeap w0 b r fs ρ σ w → XHeap w0 b r fs' ρ σ w) (hn : XW P n w0 QX c ⟨t, b, r, fs'⟩) : XW P n w0 QX c ⟨t, b, r, fs⟩ :=
  fun ρ σ a w hr => hn ρ σ a w ⟨⟨hr.1.size, hr.1.defers, hr.1.tmps⟩, h ρ σ w hr.2⟩
theorem all_in {b : List Box} {r : List (List Value)} {gs hs : List Fact} (hown : ∀ g ∈ gs, g.own = true) (ρ : Nat → Nat) (σ : Nat → Nat × Nat) (w : World) (h : XHeap w0 b r (gs ++ hs) ρ σ w) : XHeap w0 b r (allF gs :: hs) ρ σ w := by
  refine ⟨h.below, h.box, h.inj, h.row, fun f hf => ?_, h.apart.back.cons fun f hf q hq hfq => ?_⟩
  · rcases List.mem_cons.1 hf with rfl | hf
    · exact ⟨⟨fun g hg => (h.fact g (List.mem_append_left _ hg)).1, h.apart.front⟩, fun i hi hb => let ⟨g, hg, hb⟩ := hb; (h.fact g (List.mem_append_left _ hg)).2 i hi hb⟩
    · exact h.fact f (List.mem_append_right _ hf)
  · obtain ⟨g, hg, hb⟩ := hq
    obtain ⟨i, hi⟩ := List.getElem?_of_mem hg
    obtain ⟨j, hj⟩ := List.getElem?_of_mem hf
    have h1 := (List.getElem?_eq_some_iff.1 hi).1
    exact h.apart i (gs.length + j) g f (by rw [List.getElem?_append_left h1]; exact hi) (by rw [List.getElem?_append_right (by omega), Nat.add_sub_cancel_left]; exact hj) (by omega) (hown g hg) q hb hfq
theorem all_out {b : List Box} {r : List (List Value)} {gs hs : List Fact} (ρ : Nat → Nat) (σ : Nat → Nat × Nat) (w : World) (h : XHeap w0 b r (allF gs :: hs) ρ σ w) : XHeap w0 b r (gs ++ hs) ρ σ w := by
  obtain ⟨⟨h1, h2⟩, h3⟩ := h.fact (allF gs) (List.mem_cons_self ..)
  refine ⟨h.below, h.box, h.inj, h.row, fun f hf => ?_, h2.append (Apart.back (gs := [allF gs]) h.apart) fun f hf g hg q hq hgq => ?_⟩
  · rcases List.mem_append.1 hf with hf | hf
    · exact ⟨h1 f hf, fun i hi hb => h3 i hi ⟨f, hf, hb⟩⟩
    · exact h.fact f (List.mem_cons_of_mem _ hf)
  · obtain ⟨j, hj⟩ := List.getElem?_of_mem hg
    exact h.apart 0 (j + 1) (allF gs) g rfl hj (by omega) rfl q ⟨f, hf, hq⟩ hgq
theorem lenB_len : ∀ (b : List Box), ce b = b.length
  | [] => rfl
  | _ :: b => by simp only [ce, List.length_cons]; rw [lenB_len b]
theorem xw_pinL {c : Code} {s T : Nat} {cs : List Value} {t : List (Nat × AV)} {b : List Box} {r : List (List Value)} {fs : List Fact} (hs : lkp t s = some (.p (ce b) 0)) (ht : dA (ce b) 0 (del t s) = true)
    (h : ∀ g, w0.heap.size ≤ g → (∀ f ∈ fs, ¬ f.blk g) → XW P n w0 QX c ⟨(s, .v (.pointer (some ⟨g, 0, none⟩))) :: del t s, b, [], aY w0.heap.size g T cs :: fs⟩) : XW P n w0 QX c ⟨t, b ++ [⟨T, cs⟩], r, fs⟩ := fun ρ σ a w hr => by
  have hA := hr.1
  have hH : XHeap w0 (b ++ [(⟨T, cs⟩ : Box)]) r fs ρ σ w := hr.2
  rw [lenB_len] at hs ht
  have hlen : (b ++ [(⟨T, cs⟩ : Box)]).length = b.length + 1 := by simp
  have hbx := hH.box b.length ⟨T, cs⟩ (by rw [List.getElem?_append_right (Nat.le_refl _)]; simp)
  have hn : ∀ f ∈ fs, ¬ f.blk (ρ b.length) := fun f hf => (hH.fact f hf).2 b.length (by omega)
  have hinj : ∀ i j, i < b.length → j < b.length → ρ i = ρ j → i = j := fun i j hi hj => hH.inj i j (by omega) (by omega)
  have hlast : ∀ i, i < b.length → ρ i ≠ ρ b.length := fun i hi e => by have := hH.inj i b.length (by omega) (by omega) e; omega
  have hfb : ∀ f ∈ fs, ∀ i, i < b.length → ¬ f.blk (ρ i) := fun f hf i hi => (hH.fact f hf).2 i (by omega)
  refine h (ρ b.length) hbx.1 hn ρ σ a w ⟨⟨hA.size, hA.defers, fun t' x hx => ?_⟩, ⟨hH.below, fun i q hi => ?_, fun i j hi hj => hinj i j hi hj, fun k r hr => by simp at hr, fun f hf => ?_, hH.apart.cons fun f hf q hq hfq => ?_⟩⟩
  · simp only [lkp] at hx
    split at hx
    · rename_i e
      simp only [Option.some.injEq] at hx; subst hx
      have e2 : s = t' := Nat.eq_of_beq_eq_true e
      subst e2
      exact ⟨trivial, (hA.tmps s _ hs).2⟩
    · refine ⟨allT_lkp _ t' x ht hx, ?_⟩
      rw [lkp_del] at hx
      split at hx
      · cases hx
      · exact (hA.tmps t' x hx).2
  · exact hH.box i q (by rw [List.getElem?_append_left (List.getElem?_eq_some_iff.1 hi).1]; exact hi)
  · rcases List.mem_cons.1 hf with rfl | hf
    · exact ⟨⟨hbx.1, hbx.2⟩, fun i hi e => hlast i hi e⟩
    · exact ⟨(hH.fact f hf).1, hfb f hf⟩
  · have e : q = ρ b.length := hq
    subst e; exact hn f hf hfq
theorem xw_pinB {c : Code} {t : List (Nat × AV)} {bs : List Box} {r : List (List Value)} {fs : List Fact} (s T : Nat) (cs : List Value) (b : List Box) (hbx : bs = b ++ [⟨T, cs⟩]) (hs : lkp t s = some (.p (ce b) 0)) (ht : dA (ce b) 0 (del t s) = true)
    (h : ∀ g, w0.heap.size ≤ g → (∀ f ∈ fs, ¬ f.blk g) → XW P n w0 QX c ⟨(s, .v (.pointer (some ⟨g, 0, none⟩))) :: del t s, b, [], aY w0.heap.size g T cs :: fs⟩) : XW P n w0 QX c ⟨t, bs, r, fs⟩ := by
  subst hbx; exact xw_pinL hs ht h
def xcalleeC (ops : Array Oper) (st : St) (o : Oper) : Option (FuncId × List Value × Option Nat) :=
  match aW ops st.tmps o with
  | some true => match o.op with
    | .call c => match c.callee with
      | .value x => match cm st.tmps x, vals st.tmps c.args.toList with
        | some (.v (.func (.func f) ⟨[]⟩ ⟨cs⟩)), some vs => some (f, vs ++ cs, o.dst)
        | _, _ => none
      | _ => none
    | _ => none
  | _ => none
theorem xcalleeC_sound {o : Oper} {f : FuncId} {vs : List Value} {d : Option Nat} {ρ : Nat → Nat} {σ : Nat → Nat × Nat} {a : Act} (hA : XAct n st ρ σ a) (h : xcalleeC ops st o = some (f, vs, d)) (hf : fnOk P f = true) (w : World) :
    Region.wanted o (yielded ops a.tmps) = true ∧ o.dst = d ∧ (execOp a.eval o).run P w = .ok (.enter f vs.toArray) w := by
  unfold xcalleeC at h
  split at h
  · rename_i hw
    refine ⟨ak hA hw, ?_⟩
    split at h
    · rename_i c hc
      split at h
      · rename_i x hx
        split at h
        · rename_i g cs us h1 h2
          simp only [Option.some.injEq, Prod.mk.injEq] at h
          obtain ⟨rfl, rfl, rfl⟩ := h
          refine ⟨rfl, ?_⟩
          have e1 := ac hA h1
          have e2 := vals_eval hA _ _ h2
          have e3 : c.args.map a.eval = us.toArray := by rw [← e2]; apply Array.toList_inj.1; simp
          simp only [execOp, hc, resolve, hx, e1, e3, Sem.run_bind, Deferred.ofValue, Sem.run_pure, Result.andThen_ok, invoke]
          have := fnOk_run hf (us ++ cs).toArray w
          simpa using this
        · simp at h
      · simp at h
    · simp at h
  · simp at h
theorem xl_callWC (k : Nat) (ks : List Nat) (st' : St) (f : FuncId) (args : List Value) (d : Option Nat) {α : Type} {F : α → Value} {G : α → List Fact} {o : Oper} (i : Nat) (fi : Fact)
    (h : bJ P n ops l k ks st = some st') (ho : l[k]? = some o) (hc : xcalleeC ops st' o = some (f, args, d)) (hd : aA n d = true) (hf : fnOk P f = true)
    (hi : st'.facts[i]? = some fi) (hown : fi.own = true) (hlo : ∀ w b, fi.p w → fi.blk b → w0.heap.size ≤ b) (hrows : dA (ce st'.boxes) 0 st'.tmps = true)
    (hk : XCM P w0 st'.facts fi.blk f args F G)
    (hn : ∀ y, XL P n w0 ops QX (l.drop (k + 1)) ⟨bt st'.tmps d (.v (F y)), st'.boxes, [], G y ++ dropF st'.facts i⟩) : XL P n w0 ops QX l st :=
  fun ρ σ a w hr => bB h hr (fun ρ' σ' a' w' hr' => by
    have hdrop : l.drop k = o :: l.drop (k + 1) := by
      obtain ⟨hlt, rfl⟩ := List.getElem?_eq_some_iff.1 ho
      exact List.drop_eq_getElem_cons hlt
    rw [hdrop]
    obtain ⟨h1, h2, h3⟩ := xcalleeC_sound (P := P) hr'.1 hc hf w'
    simp only [wpList]
    rw [h1, if_pos rfl]
    left
    rw [Oper.wp, h3, Oper.upon_enter]
    have hr2 := hr'.2.noRows
    have hfi := hr2.fact fi (List.mem_of_getElem? hi)
    refine (hk w' hr'.2.below.size (fun g hg => (hr'.2.fact g hg).1)).mono fun e w'' ⟨y, he, hg, hap, hb⟩ => ?_
    subst he
    have hH := (hr2.stepM hi hown (fun b hbk => hlo w' b hfi.1 hbk) hb).addAll (G y) (fun g hgm => ⟨(hg g hgm).1, fun j hj hblk => ?_, fun f hf b hgb hfb => ?_⟩) hap
    · have hA := (hr'.1.bare hrows (G y ++ dropF st'.facts i)).put (d := o.dst) (x := .v (F y)) (by rw [h2]; exact aE hd) trivial
      rw [h2] at hA
      simp only [bF] at hA
      simpa only [h2] using hn y ρ' σ' _ w'' ⟨hA, hH⟩
    · rcases (hg g hgm).2 _ hblk with hs | hs
      · exact hfi.2 j hj hs
      · have := hr'.2.boxLt hj; omega
    · obtain ⟨j, hj⟩ := List.getElem?_of_mem hf
      obtain ⟨m, hm, e⟩ := d3 hj
      have hmi : i ≠ m := by subst e; split <;> omega
      rcases (hg g hgm).2 _ hgb with hs | hs
      · exact hr2.apart i m fi f hi hm hmi hown b hs hfb
      · have := f.lt _ b (hr2.fact f (List.mem_of_getElem? hm)).1 hfb; omega)
variable {fuel : Nat} {listed : Array Bool} {B : List Box} {R : List (List Value)} {ρ : Nat → Nat} {σ : Nat → Nat × Nat}
theorem xs_callWC (i : Nat) (f : FuncId) (args : List Value) (d : Option Nat) {α : Type} {F : α → Value} {G : α → List Fact} {o : Oper} (k : Nat) (fi : Fact) (hi : ops[i]? = some o)
    (hc : xcalleeC ops st o = some (f, args, d)) (hd : aA n d = true) (hf : fnOk P f = true) (hfi : st.facts[k]? = some fi) (hown : fi.own = true) (hlo : ∀ w b, fi.p w → fi.blk b → w0.heap.size ≤ b) (hrows : dA (ce st.boxes) 0 st.tmps = true)
    (hB : Under B st.boxes) (hR : R = []) (hk : XCM P w0 st.facts fi.blk f args F G)
    (h : ∀ y, XE P n w0 ops QX fuel (listed.setIfInBounds i true) B R ρ σ ⟨bt st.tmps d (.v (F y)), st.boxes, [], G y ++ dropF st.facts k⟩) : XEs P n w0 ops QX fuel listed B R ρ σ st i := fun ρ' a w hag hr' hS => by
  obtain ⟨h1, h2, h3⟩ := xcalleeC_sound (P := P) hr'.1 hc hf w
  unfold wpOp
  simp only [hi, h1, if_true]
  left
  rw [Oper.wp, h3, Oper.upon_enter]
  have hr2 := hr'.2.noRows
  have hff := hr2.fact fi (List.mem_of_getElem? hfi)
  refine (hk w hr'.2.below.size (fun g hg => (hr'.2.fact g hg).1)).mono fun e w'' ⟨y, he, hg, hap, hb⟩ => ?_
  subst he
  have hH := (hr2.stepM hfi hown (fun b hbk => hlo w b hff.1 hbk) hb).addAll (G y) (fun g hgm => ⟨(hg g hgm).1, fun j hj hblk => ?_, fun f hf b hgb hfb => ?_⟩) hap
  · have hA := (hr'.1.bare hrows (G y ++ dropF st.facts k)).put (d := o.dst) (x := .v (F y)) (by rw [h2]; exact aE hd) trivial
    rw [h2] at hA
    simp only [bF] at hA
    have hS' : XRd B R ρ σ w'' := (hH.under hB (.inl hR)).from hag
    simpa only [h2] using (⟨hS', h y ρ' _ w'' hag ⟨hA, hH⟩ hS'⟩ : _ ∧ _)
  · rcases (hg g hgm).2 _ hblk with hs | hs
    · exact hff.2 j hj hs
    · have := hr'.2.boxLt hj; omega
  · obtain ⟨j, hj⟩ := List.getElem?_of_mem hf
    obtain ⟨m, hm, e⟩ := d3 hj
    have hmi : k ≠ m := by subst e; split <;> omega
    rcases (hg g hgm).2 _ hgb with hs | hs
    · exact hr2.apart k m fi f hfi hm hmi hown b hs hfb
    · have := f.lt w b (hr2.fact f (List.mem_of_getElem? hm)).1 hfb; omega
theorem act_mkf {a : Act} {o : Oper} {f : Fn} {c : Array Operand} (cs : List Value) (h : XAct n st ρ σ a) (hop : o.op = .makeFunc f #[] c) (hc : vals st.tmps c.toList = some cs) (w : World) : (execOp a.eval o).run P w = .ok (.value (.func f #[] cs.toArray)) w := by
  have e2 := vals_eval h _ _ hc
  have e3 : c.map a.eval = cs.toArray := by rw [← e2]; apply Array.toList_inj.1; simp
  simp only [execOp, hop, e3, Instr.makeFunc, Sem.run_bind, Sem.run_pure, Result.andThen_ok, Array.map_empty]
end
end
/- Opening an argument of bytes, each of which is one. -/
section
open Go.RowKit Go.ChangeShapes Go.WideShapes
set_option linter.unusedVariables false
set_option maxRecDepth 100000 in
theorem openS_byteR {H : Type} {enc : TypeId × Value → H} {W : World} {v : Value} {d : DataW H} {p : List MemPlace} {b0 : Nat} (hv : Value.okWide Try.prog W .any b0 59 v)
    (h : DataW.Trod enc Try.prog W 0 (fun _ => true) true 59 v d p) : ∃ l : List Int, Sl W v 1 (l.map bR) ∧ ∀ x ∈ l, 0 ≤ x ∧ x ≤ 255 := by
  obtain ⟨a0, len0, cap0, rfl⟩ := Go.WideShapes.okWide_slice Try.underlying59 hv
  obtain ⟨fuel, hf⟩ := h
  have hc : Try.prog.cellsOf 5 = 1 := by kernel_rfl
  rcases Go.Deep.open_slice Try.underlying59 hf with ⟨hcs, -⟩ | ⟨a, len, cap, m, n, D, Pl, hcs, hb, hl, hm, hmm, hx, hi⟩
  · simp only [Value.cells, List.cons.injEq, and_true] at hcs
    have hcs' : Value.slice a0 len0 cap0 = .slice none 0 0 := by simpa using hcs
    rw [hcs']
    exact ⟨[], Sl.nil W 1, fun x hx => by cases hx⟩
  · have hs : ∀ i, i < len → ∃ x : Int, W.cells? 0 (a.add (i * 1)) 1 = some (bR x) ∧ (0 ≤ x ∧ x ≤ 255) := fun i hlt => by
      obtain ⟨cs', h1, h2⟩ := hi i (by simp at hmm; omega)
      rw [hc] at h1
      obtain ⟨k, e, -, hwf⟩ := DataW.trod_int Try.underlying5 h2
      subst e
      exact ⟨k, h1, by have h := hwf; simp only [Lit.wf, Bool.and_eq_true, decide_eq_true_eq] at h; exact h⟩
    obtain ⟨f, hf⟩ := Go.Deep.choose_lt hs
    refine ⟨(List.range len).map f, ?_, fun x hx => by obtain ⟨i, hi, rfl⟩ := List.mem_map.1 hx; exact (hf i (List.mem_range.1 hi)).2⟩
    have hcs' : Value.slice a0 len0 cap0 = .slice (some a) len cap := by simpa [Value.cells] using hcs
    rw [hcs', List.map_map]
    exact Sl.of_open hl hm (by omega) fun i hi => (hf i hi).1
end
end Go.Proofs.Ytebgmdiejgcoiaa
