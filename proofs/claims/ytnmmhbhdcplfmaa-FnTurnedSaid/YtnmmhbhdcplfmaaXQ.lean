/- The cursor of the draws: a block of the call's own, of which little is known. -/
import Derived.Test.YtnmmhbhdcplfmaaXP
namespace Go.Proofs.Ytnmmhbhdcplfmaa
open Go.RowKit
set_option linter.unusedVariables false
set_option linter.unusedSimpArgs false
def curF (B g T : Nat) (V : Value) (N : Nat) : Fact where
  own := true
  p := fun w => B ≤ g ∧ ∃ (i : Nat) (h : Int), i ≤ N ∧ w.heap[g]? = some (.cells [V, .int .i64 (i : Int), .int .i64 h].toArray T (0, 0))
  blk := fun b => b = g
  lt := fun w b h hb => by subst hb; obtain ⟨_, i, x, _, h⟩ := h; exact (Array.getElem?_eq_some_iff.1 h).1
  keep := fun w w' h hs hb => by obtain ⟨h0, i, x, h1, h2⟩ := h; exact ⟨h0, i, x, h1, (hb g rfl).trans h2⟩
theorem cur_lo {w : World} {B g T : Nat} {V : Value} {N : Nat} (h : (curF B g T V N).p w) {b : Nat} (hb : (curF B g T V N).blk b) : B ≤ b := by
  have e : b = g := hb
  subst e; exact h.1
theorem apart_cell {W : World} {B g T : Nat} {cs : List Value} {f : Fact} (h : ¬ f.blk g) (ho : f.own = false) : Apart [cellF B g T cs, f, frF W (fun b => b = g)] :=
  (Apart.plain (fs := [f, frF W (fun b => b = g)]) (fun x hx => by simp only [List.mem_cons, List.not_mem_nil, or_false] at hx; rcases hx with rfl | rfl <;> first | exact ho | rfl)).cons fun x hx b hb hxb => by
    have e : b = g := hb
    subst e
    simp only [List.mem_cons, List.not_mem_nil, or_false] at hx
    rcases hx with rfl | rfl
    · exact h hxb
    · exact hxb.2 rfl
theorem apart_cur {W : World} {B g T : Nat} {V : Value} {N : Nat} {f : Fact} (h : ¬ f.blk g) (ho : f.own = false) : Apart [curF B g T V N, f, frF W (fun b => b = g)] :=
  (Apart.plain (fs := [f, frF W (fun b => b = g)]) (fun x hx => by simp only [List.mem_cons, List.not_mem_nil, or_false] at hx; rcases hx with rfl | rfl <;> first | exact ho | rfl)).cons fun x hx b hb hxb => by
    have e : b = g := hb
    subst e
    simp only [List.mem_cons, List.not_mem_nil, or_false] at hx
    rcases hx with rfl | rfl
    · exact h hxb
    · exact hxb.2 rfl
theorem xcm_cur {P : Program} {w0 : World} {fs : List Fact} {f : FuncId} {args : List Value} {B g T N : Nat} {V : Value} {α : Type} {F : α → Value}
    (h : ∀ w, w0.heap.size ≤ w.heap.size → (∀ g ∈ fs, g.p w) → Calls P f args.toArray w fun e w' => ∃ y, e = .returned (F y) ∧ (curF B g T V N).p w' ∧ Chgd (fun b => b = g) w w') :
    XCM P w0 fs (curF B g T V N).blk f args F (fun _ => [curF B g T V N]) := fun w hw hf => (h w hw hf).mono fun e w' ⟨y, he, hc, hb⟩ =>
  ⟨y, he, fun x hx => by
    have e : x = curF B g T V N := (by simpa using hx)
    subst e; exact ⟨hc, fun b hb => .inl hb⟩, Apart.one _, hb⟩
theorem xc_new {P : Program} {w0 : World} {fs : List Fact} {f : FuncId} {args : List Value} {T N : Nat} {V : Value} {Q : Nat → Prop}
    (h : ∀ w, w0.heap.size ≤ w.heap.size → (∀ g ∈ fs, g.p w) → Calls P f args.toArray w fun e w' => ∃ y : {g : Nat // Q g}, e = .returned (.pointer (some ⟨y.1, 0, none⟩)) ∧ (curF w.heap.size y.1 T V N).p w' ∧ Below w.heap.size w w') :
    XC P w0 fs f args (fun y : {g : Nat // Q g} => .pointer (some ⟨y.1, 0, none⟩)) (fun y => [curF w0.heap.size y.1 T V N]) := fun w hw hf => (h w hw hf).mono fun e w' ⟨y, he, hc, hb⟩ =>
  ⟨y, he, fun x hx => by
    have e : x = curF w0.heap.size y.1 T V N := (by simpa using hx)
    subst e; exact ⟨⟨Nat.le_trans hw hc.1, hc.2⟩, fun b hb => by have e : b = y.1 := hb; subst e; exact hc.1⟩, Apart.one _, hb⟩
theorem xw_pin {P : Program} {n : Nat} {w0 : World} {QX : Exit → St → Prop} {c : Code} {s T : Nat} {cs : List Value} {fs : List Fact}
    (h : ∀ g, w0.heap.size ≤ g → (∀ f ∈ fs, ¬ f.blk g) → XW P n w0 QX c ⟨[(s, .v (.pointer (some ⟨g, 0, none⟩)))], [], [], cellF w0.heap.size g T cs :: fs⟩) : XW P n w0 QX c ⟨[(s, .p 0 0)], [⟨T, cs⟩], [], fs⟩ := fun ρ σ a w hr => by
  obtain ⟨hA, hH⟩ := hr
  have hb := hH.box 0 ⟨T, cs⟩ rfl
  have hn : ∀ f ∈ fs, ¬ f.blk (ρ 0) := fun f hf => (hH.fact f hf).2 0 (by simp)
  refine h (ρ 0) hb.1 hn ρ σ a w ⟨⟨hA.size, hA.defers, fun t x hx => ?_⟩, ⟨hH.below, fun i b hi => by simp at hi, fun i j hi => by simp at hi, fun k r hr => by simp at hr, fun f hf => ?_, hH.apart.cons fun f hf b hb' hfb => ?_⟩⟩
  · have h0 := hA.tmps
    simp only [lkp] at hx h0
    split at hx
    · rename_i e
      simp only [Option.some.injEq] at hx; subst hx
      refine ⟨trivial, ?_⟩
      have := (h0 t (.p 0 0) (by rw [if_pos e])).2
      rw [this]; simp only [conc]
    · simp at hx
  · rcases List.mem_cons.1 hf with rfl | hf
    · exact ⟨⟨hb.1, hb.2⟩, fun i hi => by simp at hi⟩
    · exact ⟨(hH.fact f hf).1, fun i hi => by simp at hi⟩
  · have e : b = ρ 0 := hb'
    subst e; exact hn f hf hfb
theorem apart_cur2 {W : World} {B g T : Nat} {V : Value} {N : Nat} {f f2 : Fact} (h : ¬ f.blk g) (ho : f.own = false) (h2 : ¬ f2.blk g) (ho2 : f2.own = false) : Apart [curF B g T V N, f, frF W (fun b => b = g), f2] :=
  (Apart.plain (fs := [f, frF W (fun b => b = g), f2]) (fun x hx => by simp only [List.mem_cons, List.not_mem_nil, or_false] at hx; rcases hx with rfl | rfl | rfl <;> first | exact ho | exact ho2 | rfl)).cons fun x hx b hb hxb => by
    have e : b = g := hb
    subst e
    simp only [List.mem_cons, List.not_mem_nil, or_false] at hx
    rcases hx with rfl | rfl | rfl
    · exact h hxb
    · exact hxb.2 rfl
    · exact h2 hxb
theorem rowF_sblk {B e K k : Nat} {v : Value} {rs rs' : List (List Value)} {b : Nat} (h : (slF v k rs').blk b) : (rowF B e K v rs).blk b := by
  have := h.2; rw [vblk_eq] at this; exact this
theorem xl_know {P : Program} {n : Nat} {w0 : World} {QX : Exit → St → Prop} {ops : Array Oper} {l : List Oper} {st : St} {φ : Prop} (h : ∀ ρ σ a w, XRep n w0 st ρ σ a w → φ) (hn : φ → XL P n w0 ops QX l st) : XL P n w0 ops QX l st := fun ρ σ a w hr => hn (h ρ σ a w hr) ρ σ a w hr
theorem xs_know {P : Program} {n : Nat} {w0 : World} {QX : Exit → St → Prop} {ops : Array Oper} {st : St} {fuel : Nat} {listed : Array Bool} {B : List Box} {R : List (List Value)} {ρ : Nat → Nat} {σ : Nat → Nat × Nat} {i : Nat} {φ : Prop} (h : ∀ ρ σ a w, XRep n w0 st ρ σ a w → φ)
    (hn : φ → XEs P n w0 ops QX fuel listed B R ρ σ st i) : XEs P n w0 ops QX fuel listed B R ρ σ st i := fun ρ' a w hag hr hS => hn (h _ _ _ _ hr) ρ' a w hag hr hS
theorem tmod_bd {a n : Int} (h : 0 ≤ a) (hn : 0 < n) : 0 ≤ a.tmod n ∧ (0 < n → a.tmod n < n) := by
  rw [Int.tmod_eq_emod_of_nonneg h]
  exact ⟨Int.emod_nonneg _ (by omega), fun _ => Int.emod_lt_of_pos _ hn⟩
theorem x_callsMA {P : Program} {n : Nat} {w0 : World} {f : FuncId} {fn : Func} {c : Code} {args : List Value} (fs : List Fact) (B : Nat) {R : Ending → World → Prop} (hf : P.funcs[f]? = some fn) (hb : fn.body = some c) (hn : fn.ntmps = n) (hl : Nat.ble args.length n = true)
    (hB : B ≤ w0.heap.size) (hfs : ∀ g ∈ fs, g.p w0) (hap : Apart fs) (h : XW P n (cutW w0 B) (XPostA P (cutW w0 B) fn R) c ⟨argT 0 args, [], [], fs⟩) : Calls P f args.toArray w0 R := by
  have hl' : args.length ≤ n := by simpa using hl
  have hA : XAct n ⟨argT 0 args, [], [], fs⟩ id (fun _ => (0, 0)) { tmps := args.toArray ++ Array.replicate (fn.ntmps - args.toArray.size) undef, defers := [] } := by
    refine ⟨?_, rfl, fun t x ht => ?_⟩
    · simp [hn]; omega
    · obtain ⟨-, v, h1, rfl⟩ := argT_lkp args 0 t x ht
      refine ⟨trivial, ?_⟩
      have hlt : t < args.length := (List.getElem?_eq_some_iff.1 h1).1
      simp only [Nat.sub_zero] at h1
      simp only [conc, Array.getD_eq_getD_getElem?]
      rw [Array.getElem?_append_left (by simpa using hlt)]
      simp [h1]
  have hH : XHeap (cutW w0 B) [] [] fs id (fun _ => (0, 0)) w0 := ⟨cutW_below hB, fun i b hi => by simp at hi, fun i j hi => by simp at hi, fun k r hr => by simp at hr, fun g hg => ⟨hfs g hg, fun i hi => by simp at hi⟩, hap⟩
  refine calls_of_wp hf hb (Code.wp_mono (fun e a w hq => ?_) (h _ _ _ w0 ⟨hA, hH⟩))
  obtain ⟨s, ρ, σ, h1, h2⟩ := hq
  cases e <;> first
    | (obtain ⟨vs, g1, g2⟩ := h1
       exact ⟨h2.1.defers, _, xres_run h2 g1, g2 w h2.2.below (fun g hg => (h2.2.fact g hg).1) h2.2.apart⟩)
    | exact h1.elim
theorem rowF_raise {w : World} {B B' e K : Nat} {v : Value} {rs : List (List Value)} (h : (rowF B e K v rs).p w) (hb : ∀ b, (rowF B e K v rs).blk b → B' ≤ b) : (rowF B' e K v rs).p w := by
  refine ⟨⟨h.1.1, ?_⟩, h.2⟩
  rcases h.1.2 with hn | ⟨g, cap, cur, hv, hg, rest⟩
  · exact .inl hn
  · exact .inr ⟨g, cap, cur, hv, hb g (by rw [hv]; rfl), rest⟩
theorem row_new {W : World} {B B0 e K g T N : Nat} {V v : Value} {rs : List (List Value)} {fs : List Fact} {i j k : Nat} (hap : Apart fs) (hi : fs[i]? = some (rowF B e K v rs)) (hj : fs[j]? = some (curF B0 g T V N)) (hk : fs[k]? = some (frF W (fun b => b = g))) (hij : i ≠ j) (hik : i ≠ k) :
    ∀ b, (rowF B e K v rs).blk b → W.heap.size ≤ b := fun b hb => by
  rcases Nat.lt_or_ge b W.heap.size with h | h
  · exact (hap i k _ _ hi hk hik rfl b hb ⟨h, fun e => hap i j _ _ hi hj hij rfl b hb e⟩).elim
  · exact h
theorem xcm_curR {P : Program} {w0 : World} {fs : List Fact} {f : FuncId} {args : List Value} {B g T N e K : Nat} {V : Value} {α : Type} {F : α → Value} {v : α → Value} {rs : α → List (List Value)}
    (h : ∀ w, w0.heap.size ≤ w.heap.size → (∀ g ∈ fs, g.p w) → Calls P f args.toArray w fun e' w' => ∃ y, e' = .returned (F y) ∧ (curF B g T V N).p w' ∧ (rowF w.heap.size e K (v y) (rs y)).p w' ∧ g < w.heap.size ∧ Chgd (fun b => b = g) w w') :
    XCM P w0 fs (curF B g T V N).blk f args F (fun y => [rowF w0.heap.size e K (v y) (rs y), curF B g T V N]) := fun w hw hf => (h w hw hf).mono fun e' w' ⟨y, he, hc, hr, hg, hb⟩ =>
  ⟨y, he, fun x hx => by
    simp only [List.mem_cons, List.not_mem_nil, or_false] at hx
    rcases hx with rfl | rfl
    · exact ⟨rowF_lower hr hw, fun b hb => .inr (rowF_lo hr hb)⟩
    · exact ⟨hc, fun b hb => .inl hb⟩,
    (Apart.one _).cons fun x hx b hb hxb => by
      obtain rfl : x = curF B g T V N := by simpa using hx
      have e1 : b = g := hxb
      have := rowF_lo hr hb
      omega, hb⟩
theorem bstr_size (l : List Int) : (bstr l).size = l.length := by
  have key : ∀ (l : List Int) (b : ByteArray), (l.foldl (fun r n => r.push (UInt8.ofNat n.toNat)) b).size = b.size + l.length := by
    intro l
    induction l with
    | nil => intro b; rfl
    | cons x l ih => intro b; rw [List.foldl_cons, ih, ByteArray.size_push, List.length_cons]; omega
  have := key l ByteArray.empty
  unfold bstr; rw [this]; show 0 + l.length = l.length; omega
end Go.Proofs.Ytnmmhbhdcplfmaa
