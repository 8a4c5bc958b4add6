/- Plain definitions, the machine and its rules: what this law's contracts need of them, part 3. -/
import Derived.Test.YtccijpdjfelbmaaGreatG1
import Derived.Test.YtccijpdjfelbmaaGreatA3
import Derived.Test.YtccijpdjfelbmaaGreatA4
import Derived.Test.YtccijpdjfelbmaaGreatA5
import Derived.Test.YtccijpdjfelbmaaGreatYW
import Derived.Test.YtccijpdjfelbmaaGreatG2
import Derived.Test.YtccijpdjfelbmaaGreatYD
/- Contracts: slices of Piece in the laws. -/
namespace Go.Proofs.YtccijpdjfelbmaaGreat
section
open Go.RowKit
attribute [local go_sem] gq gu fB fH ek eo et er ei eh ef es ej ec ed eu el aC cell?_grow frozen?_grow cV dO dh
attribute [local go_sem] ci bB dp dk dz cl c5 di dj d8 dN fY bV bl ce cg
set_option linter.unusedVariables false
set_option linter.unusedSimpArgs false
end
/- Contracts (C1). -/
section
open Go.RowKit
attribute [local go_sem] gq gu fB fH ek eo et er ei eh ef es ej ec ed eu el aC cell?_grow frozen?_grow cV dO dh
attribute [local go_sem] ci bB dp dk dz cl c5 di dj d8 dN fY bV bl ce cg
attribute [local go_sem ↓] pload_implConn pstore_implConn pload_implReceiver pstore_implReceiver pload_implSegment pstore_implSegment pload_implTable pstore_implTable
attribute [local go_sem] Value.oneCell' load_implConn store_implConn load_implReceiver store_implReceiver load_implSegment store_implSegment load_implTable store_implTable
set_option linter.unusedVariables false
set_option linter.unusedSimpArgs false
end
/- The machine: connections in rows, each with a slice of its own. -/
section
open Go.RowKit
set_option linter.unusedVariables false
set_option linter.unusedSimpArgs false
def az (x : CV) : List Value := a7 x.1 x.2
def bi (cs : List CV) : Fact where
  own := false
  p := fun w => ∀ x ∈ cs, Sl w x.2 2 (x.1.r.held.map pC)
  blk := fun b => ∃ x ∈ cs, (aX x.2 2 (x.1.r.held.map pC)).blk b
  lt := fun w b h ⟨x, hx, hb⟩ => (aX x.2 2 (x.1.r.held.map pC)).lt w b (h x hx) hb
  keep := fun w w' h hs hb x hx => (aX x.2 2 (x.1.r.held.map pC)).keep w w' (h x hx) hs fun b hbx => hb b ⟨x, hx, hbx⟩
def bI (g T : Nat) (cs : List Value) : Fact where
  own := false
  p := fun w => w.heap[g]? = some (.cells cs.toArray T (0, 0))
  blk := fun b => b = g
  lt := fun w b h hb => by subst hb; exact (Array.getElem?_eq_some_iff.1 h).1
  keep := fun w w' h hs hb => (hb g rfl).trans h
theorem sl_block {w : World} {A : Option Addr} {n cap K j : Nat} {rs : List (List Value)} {row : List Value} (h : Sl w (.slice A n cap) K rs) (hrow : rs[j]? = some row) : ∃ b off, A = some ⟨b, off, none⟩ := by
  obtain ⟨a, cp, h1, -, -, -, h5⟩ := h
  obtain ⟨b, off, h6, -⟩ := h5 j row hrow
  simp only [Value.slice.injEq] at h1
  exact ⟨b, off, h1.1.trans h6⟩
theorem fz {w : World} {x : CV} (h : Sl w x.2 2 (x.1.r.held.map pC)) : ∃ c a cp, x = (c, .slice a c.r.held.length cp) := by
  obtain ⟨c, v⟩ := x
  obtain ⟨a, cp, hv⟩ := h.form
  exact ⟨c, a, cp, by simp only at hv; rw [hv, List.length_map]⟩
section
variable {P : Program} {n : Nat} {w0 : World} {QX : Exit → St → Prop} {st st' : St} {ops : Array Oper} {l : List Oper}
theorem xl_callC (k : Nat) (ks : List Nat) (st' : St) (f : FuncId) (args : List Value) (d : Option Nat) {α : Type} {F : α → Value} {G : α → List Fact} {o : Oper}
    (h : dt P n ops l k ks st = some st') (ho : l[k]? = some o) (hc : xcalleeC ops st' o = some (f, args, d)) (hd : cZ n d = true) (hf : fnOk P f = true)
    (hk : XC P w0 st'.facts f args F G)
    (hn : ∀ y, XL P n w0 ops QX (l.drop (k + 1)) ⟨cT st'.tmps d (.v (F y)), st'.boxes, st'.rows, G y ++ st'.facts⟩) : XL P n w0 ops QX l st :=
  fun ρ σ a w hr => dY h hr (fun ρ' σ' a' w' hr' => by
    have hdrop : l.drop k = o :: l.drop (k + 1) := by
      obtain ⟨hlt, rfl⟩ := List.getElem?_eq_some_iff.1 ho
      exact List.drop_eq_getElem_cons hlt
    rw [hdrop]
    obtain ⟨h1, h2, h3⟩ := xcalleeC_sound (P := P) hr'.1 hc hf w'
    simp only [wpList]
    rw [h1, if_pos rfl]
    left
    rw [Oper.wp, h3, Oper.upon_enter]
    refine (hk w' hr'.2.below.size (fun g hg => (hr'.2.fact g hg).1)).mono fun e w'' ⟨y, he, hg, hap, hb⟩ => ?_
    subst he
    have hH := (hr'.2.step hb).addAll (G y) (fun g hgm => ⟨(hg g hgm).1, fun i hi hblk => by have := (hg g hgm).2 _ hblk; have := hr'.2.boxLt hi; omega, fun f hf b hgb hfb => by have := (hg g hgm).2 _ hgb; have := f.lt _ b (hr'.2.fact f hf).1 hfb; omega⟩) hap
    have hA := hr'.1.put (d := o.dst) (x := .v (F y)) (by rw [h2]; exact cY hd) trivial
    rw [h2] at hA
    simp only [dc] at hA
    have hA' : XAct n ⟨cT st'.tmps d (.v (F y)), st'.boxes, st'.rows, G y ++ st'.facts⟩ ρ' σ' (a'.put d (F y)) := ⟨hA.size, hA.defers, hA.tmps⟩
    simpa only [h2] using hn y ρ' σ' _ w'' ⟨hA', hH⟩)
variable {fuel : Nat} {listed : Array Bool} {B : List Box} {R : List (List Value)} {ρ : Nat → Nat} {σ : Nat → Nat × Nat}
theorem ldK_run {st : St} {a : Act} {w : World} {o : Oper} {t : TypeId} {x : Operand} {g T off : Nat} {cs : List Value} {v : Value} (hr : XRep n w0 st ρ σ a w) (ho : o.op = .load t x) (hx : dI st.tmps x = some (.v (.pointer (some ⟨g, off, none⟩)))) (hf : bI g T cs ∈ st.facts) (hv : loadC P t cs off = some v) :
    (execOp a.eval o).run P w = .ok (.value v) w := fV hr.1 ho hx (cellF_range (B := 0) ⟨Nat.zero_le _, (hr.2.fact _ hf).1⟩) hv
end
end
/- The machine: memory of the call's own, one slice a connection, kept together. -/
section
open Go.RowKit
set_option linter.unusedVariables false
set_option linter.unusedSimpArgs false
def ApR (f g : Fact) : Prop := (f.own = true → ∀ b, f.blk b → ¬ g.blk b) ∧ (g.own = true → ∀ b, g.blk b → ¬ f.blk b)
theorem apart_iff {fs : List Fact} : Apart fs ↔ fs.Pairwise ApR := by
  rw [List.pairwise_iff_getElem]
  constructor
  · intro h i j hi hj hij
    have e1 := List.getElem?_eq_getElem hi
    have e2 := List.getElem?_eq_getElem hj
    exact ⟨fun ho b => h i j _ _ e1 e2 (by omega) ho b, fun ho b => h j i _ _ e2 e1 (by omega) ho b⟩
  · intro h i j f g hi hj hij ho b hb
    obtain ⟨h1, rfl⟩ := List.getElem?_eq_some_iff.1 hi
    obtain ⟨h2, rfl⟩ := List.getElem?_eq_some_iff.1 hj
    rcases Nat.lt_or_gt_of_ne hij with hlt | hlt
    · exact (h i j h1 h2 hlt).1 ho b hb
    · exact (h j i h2 h1 hlt).2 ho b hb
theorem Apart.sublist {fs gs : List Fact} (h : Apart fs) (hs : gs.Sublist fs) : Apart gs := apart_iff.2 ((apart_iff.1 h).sublist hs)
theorem ApR.symm {f g : Fact} (h : ApR f g) : ApR g f := ⟨h.2, h.1⟩
theorem Apart.mid {p s : List Fact} {f : Fact} (h : Apart (p ++ s)) (hf : ∀ g ∈ p ++ s, ApR f g) : Apart (p ++ f :: s) := by
  rw [apart_iff] at h ⊢
  rw [List.pairwise_append] at h ⊢
  obtain ⟨h1, h2, h3⟩ := h
  refine ⟨h1, List.pairwise_cons.2 ⟨fun g hg => hf g (List.mem_append_right _ hg), h2⟩, fun a ha b hb => ?_⟩
  rcases List.mem_cons.1 hb with rfl | hb
  · exact (hf a (List.mem_append_left _ ha)).symm
  · exact h3 a ha b hb
section
variable {w0 : World} {b : List Box} {r : List (List Value)} {ρ : Nat → Nat} {σ : Nat → Nat × Nat} {w : World} {hs : List Fact}
theorem XHeap.weak {f f' : Fact} (h : XHeap w0 b r (f :: hs) ρ σ w) (ho : f.own = true) (hp : f.p w → f'.p w) (hb : ∀ q, f'.blk q → f.blk q) : XHeap w0 b r (f' :: hs) ρ σ w := by
  obtain ⟨h1, h2⟩ := h.fact f (List.mem_cons_self ..)
  refine ⟨h.below, h.box, h.inj, h.row, fun g hg => ?_, (Apart.back (gs := [f]) h.apart).cons fun g hg q hq hgq => ?_⟩
  · rcases List.mem_cons.1 hg with rfl | hg
    · exact ⟨hp h1, fun i hi hq => h2 i hi (hb _ hq)⟩
    · exact h.fact g (List.mem_cons_of_mem _ hg)
  · obtain ⟨j, hj⟩ := List.getElem?_of_mem hg
    exact h.apart 0 (j + 1) f g rfl hj (by omega) ho q (hb q hq) hgq
theorem all_put {p s : List Fact} {f : Fact} (ho : f.own = true) (h : XHeap w0 b r (f :: allF (p ++ s) :: hs) ρ σ w) : XHeap w0 b r (allF (p ++ f :: s) :: hs) ρ σ w := by
  obtain ⟨h1, h2⟩ := h.fact f (List.mem_cons_self ..)
  obtain ⟨⟨h3, h4⟩, h5⟩ := h.fact (allF (p ++ s)) (by simp)
  have hmem : ∀ g ∈ p ++ f :: s, g = f ∨ g ∈ p ++ s := fun g hg => by
    simp only [List.mem_append, List.mem_cons] at hg ⊢
    rcases hg with hg | rfl | hg
    · exact .inr (.inl hg)
    · exact .inl rfl
    · exact .inr (.inr hg)
  refine ⟨h.below, h.box, h.inj, h.row, fun g hg => ?_, (Apart.back (gs := [f, allF (p ++ s)]) h.apart).cons fun g hg q hq hgq => ?_⟩
  · rcases List.mem_cons.1 hg with rfl | hg
    · refine ⟨⟨fun k hk => ?_, h4.mid fun g hg => ⟨fun _ q hq hgq => ?_, fun _ q hgq hq => ?_⟩⟩, fun i hi hq => ?_⟩
      · rcases hmem k hk with rfl | hk
        · exact h1
        · exact h3 k hk
      · exact h.apart 0 1 f _ rfl rfl (by omega) ho q hq ⟨g, hg, hgq⟩
      · exact h.apart 1 0 _ f rfl rfl (by omega) rfl q ⟨g, hg, hgq⟩ hq
      · obtain ⟨k, hk, hkq⟩ := hq
        rcases hmem k hk with rfl | hk
        · exact h2 i hi hkq
        · exact h5 i hi ⟨k, hk, hkq⟩
    · exact h.fact g (by simp [hg])
  · obtain ⟨j, hj⟩ := List.getElem?_of_mem hg
    obtain ⟨k, hk, hkq⟩ := hq
    rcases hmem k hk with rfl | hk
    · exact h.apart 0 (j + 2) _ g rfl hj (by omega) ho q hkq hgq
    · exact h.apart 1 (j + 2) _ g rfl hj (by omega) rfl q ⟨k, hk, hkq⟩ hgq
end
def hlF (B : Nat) (x : CV) : Fact := br B x.2 2 (x.1.r.held.map pC)
def bc (B : Nat) (cs : List CV) : Fact := allF (cs.map (hlF B))
theorem eS {B : Nat} {cs : List CV} {w : World} (h : (bc B cs).p w) : ∀ x ∈ cs, Sl w x.2 2 (x.1.r.held.map pC) := fun x hx => Own.sl (h.1 (hlF B x) (List.mem_map_of_mem hx))
theorem hownF_lo {B : Nat} {cs : List CV} {w : World} (h : (bc B cs).p w) {q : Nat} (hq : (bc B cs).blk q) : B ≤ q := by
  obtain ⟨g, hg, hq⟩ := hq
  have := h.1 g hg
  obtain ⟨x, hx, rfl⟩ := List.mem_map.1 hg
  exact ownF_lo this hq
theorem hownF_nil (w : World) (B : Nat) : (bc B []).p w := ⟨fun g hg => by simp at hg, Apart.nil⟩
theorem hownF_nob {B q : Nat} : ¬ (bc B []).blk q := fun ⟨g, hg, _⟩ => by simp at hg
section
variable {w0 : World} {b : List Box} {r : List (List Value)} {ρ : Nat → Nat} {σ : Nat → Nat × Nat} {w : World} {hs : List Fact} {B : Nat}
theorem gX {cs : List CV} {x : CV} (h : XHeap w0 b r (hlF B x :: bc B cs :: hs) ρ σ w) : XHeap w0 b r (bc B (cs ++ [x]) :: hs) ρ σ w := by
  unfold bc at h ⊢
  have : XHeap w0 b r (hlF B x :: allF (cs.map (hlF B) ++ []) :: hs) ρ σ w := by rw [List.append_nil]; exact h
  have := all_put rfl this
  rw [List.map_append]; exact this
theorem hown_sub {cs cs' : List CV} (hs' : cs'.Sublist cs) (h : XHeap w0 b r (bc B cs :: hs) ρ σ w) : XHeap w0 b r (bc B cs' :: hs) ρ σ w :=
  h.weak rfl (fun ⟨h1, h2⟩ => ⟨fun g hg => h1 g ((hs'.map (hlF B)).subset hg), h2.sublist (hs'.map (hlF B))⟩) fun q ⟨g, hg, hq⟩ => ⟨g, (hs'.map (hlF B)).subset hg, hq⟩
end
theorem eX {t : List (Nat × AV)} {b : List Box} {r : List (List Value)} {fs fs' : List Fact} (h : ∀ w0 ρ σ w, XHeap w0 b r fs ρ σ w → XHeap w0 b r fs' ρ σ w) : Wk ⟨t, b, r, fs⟩ ⟨t, b, r, fs'⟩ :=
  fun n w0 ρ σ a w hr => ⟨⟨hr.1.size, hr.1.defers, hr.1.tmps⟩, h w0 ρ σ w hr.2⟩
theorem ea {B B' : Nat} {cs : List CV} {q : Nat} (h : (bc B cs).blk q) : (bc B' cs).blk q := by
  obtain ⟨g, hg, hq⟩ := h
  obtain ⟨x, hx, rfl⟩ := List.mem_map.1 hg
  exact ⟨hlF B' x, List.mem_map_of_mem hx, hq⟩
theorem hownF_lower {B B0 : Nat} {cs : List CV} {w : World} (h : (bc B0 cs).p w) (hB : B ≤ B0) : (bc B cs).p w := by
  refine ⟨fun g hg => ?_, ?_⟩
  · obtain ⟨x, hx, rfl⟩ := List.mem_map.1 hg
    exact ownF_ownF (h.1 (hlF B0 x) (List.mem_map_of_mem hx)) hB
  · have h2 := h.2
    rw [apart_iff] at h2 ⊢
    rw [List.pairwise_map] at h2 ⊢
    exact h2
theorem pH {B B0 : Nat} {cs : List CV} {w' : World} (h : (bc B0 cs).p w') (hB : B ≤ B0) : (bc B cs).p w' ∧ ∀ b, (bc B cs).blk b → B0 ≤ b := ⟨hownF_lower h hB, fun b hb => hownF_lo h (ea hb)⟩
theorem xo3 {w w' : World} {α : Type} {F : α → Value} {G : α → List Fact} (y : α) {v : Value} {f g h : Fact} (hv : v = F y) (hG : G y = [f, g, h]) (p : f.p w' ∧ ∀ b, f.blk b → w.heap.size ≤ b) (q : g.p w' ∧ ∀ b, g.blk b → w.heap.size ≤ b) (s : h.p w' ∧ ∀ b, h.blk b → w.heap.size ≤ b) (ha : Apart [f, g, h]) (hb : Below w.heap.size w w') : XRs w w' (.returned v) F G :=
  ⟨y, by rw [hv], fun k hk => by
    rw [hG] at hk
    simp only [List.mem_cons, List.not_mem_nil, or_false] at hk
    rcases hk with rfl | rfl | rfl
    · exact p
    · exact q
    · exact s, by rw [hG]; exact ha, hb⟩
theorem Apart.sub3 {fs : List Fact} (h : Apart fs) (m : List Nat) {f g k f' g' k' : Fact} (hp : pickF fs m = some [f, g, k]) (hm : nodupB m = true) (o1 : f.own = true) (o2 : g.own = true) (o3 : k.own = true) (h1 : ∀ b, f'.blk b → f.blk b) (h2 : ∀ b, g'.blk b → g.blk b) (h3 : ∀ b, k'.blk b → k.blk b) : Apart [f', g', k'] := by
  have h0 := apart_iff.1 (h.pickN m hm hp)
  simp only [List.pairwise_cons, List.mem_cons, List.not_mem_nil, or_false, forall_eq_or_imp, forall_eq] at h0
  obtain ⟨⟨a1, a2⟩, a3, -⟩ := h0
  have sub : ∀ {x y x' y' : Fact}, x.own = true → y.own = true → ApR x y → (∀ b, x'.blk b → x.blk b) → (∀ b, y'.blk b → y.blk b) → ApR x' y' := fun ox oy hr hx hy =>
    ⟨fun _ b hb hb' => hr.1 ox b (hx b hb) (hy b hb'), fun _ b hb hb' => hr.2 oy b (hy b hb) (hx b hb')⟩
  rw [apart_iff]
  refine List.pairwise_cons.2 ⟨fun z hz => ?_, List.pairwise_cons.2 ⟨fun z hz => ?_, List.pairwise_singleton _ _⟩⟩
  · simp only [List.mem_cons, List.not_mem_nil, or_false] at hz
    rcases hz with rfl | rfl
    · exact sub o1 o2 a1 h1 h2
    · exact sub o1 o3 a2 h1 h3
  · obtain rfl : z = k' := by simpa using hz
    exact sub o2 o3 a3 h2 h3
theorem gC {w0 : World} : ∀ w : World, w0.heap.size ≤ w.heap.size → (bc w0.heap.size []).p w := fun w _ => hownF_nil w _
end
/- Plain definitions: marks (no program in sight). -/
section
open Go.RowKit
def marks {α : Type} (mk : Int → α) (c k : Int) (n : Nat) : List α := (List.range n).map fun (i : Nat) => mk (k + c * (i : Int))
end
/- Plain definitions: the pump (no program in sight). -/
section
open Go.RowKit
theorem ext_size (a : ByteArray) (i j : Nat) (h : j ≤ a.size) : (a.extract i j).size = j - i := by rw [ByteArray.size_extract]; omega
theorem chunkN_bd {s : Snd} {window mss : Int} (h : aG s = true) : 0 ≤ aW s window mss ∧ s.sent + aW s window mss ≤ s.data.size ∧ aW s window mss ≤ fL s window ∧ 0 ≤ fL s window ∧ fL s window ≤ 1000000 := by
  obtain ⟨b0, b1, b2, b3, b4, b5, b6, b7, b8, b9, b10⟩ := cP h
  unfold aW fL; omega
theorem chunk_text {s : Snd} {window mss : Int} (h : aG s = true) : (s.data.extract s.sent.toNat (s.sent + aW s window mss).toNat).size = (aW s window mss).toNat := by
  obtain ⟨b0, b1, b2, b3, b4, b5, b6, b7, b8, b9, b10⟩ := cP h
  obtain ⟨c0, c1, c2, c3, c4⟩ := chunkN_bd (window := window) (mss := mss) h
  rw [ext_size _ _ _ (by omega)]; omega
theorem wnd_s {s : Snd} {window : Int} : max 0 (max 0 (min window 1000000) - ae s) = fL s window := rfl
def bX (o : Opt) : Int := if o.mss = 0 then 536 else max 1 (min o.mss 1460)
def meas (s : Snd) : Nat := (s.data.size - s.sent.toNat) + (if s.finSent then 0 else 1)
theorem sentS_fin (s : Snd) (c : Chk) (h : aG (sentS s c) = true) (hf : c.fin = true) : s.fin = true := by
  obtain ⟨-, -, -, -, -, -, -, -, b8, -, -⟩ := cP h
  exact (b8 (by simp [sentS, hf])).1
theorem next_ok {s : Snd} {window mss : Int} (h : (nC s window mss).2 = true) : aG s = true ∧ (nC s window mss).1 = ⟨af s, s.data.extract s.sent.toNat (s.sent + aW s window mss).toNat, aS s window mss⟩ ∧ (aW s window mss ≠ 0 ∨ aS s window mss = true) := by
  unfold nC at h ⊢
  split at h
  · rename_i hs
    split at h
    · simp at h
    · rename_i hc
      refine ⟨hs, by rw [if_pos hs, if_neg hc], ?_⟩
      simp only [Bool.and_eq_true, decide_eq_true_eq, Bool.not_eq_true', not_and, Bool.not_eq_false] at hc
      by_cases h0 : aW s window mss = 0
      · exact .inr (hc h0)
      · exact .inl h0
  · simp at h
theorem sent_next {s : Snd} {window mss : Int} (h : (nC s window mss).2 = true) : sO s (nC s window mss).1 = { s with sent := s.sent + aW s window mss, finSent := s.finSent || aS s window mss } ∧ aG { s with sent := s.sent + aW s window mss, finSent := s.finSent || aS s window mss } = true := by
  obtain ⟨hs, hc, hne⟩ := next_ok h
  have hx := chunkN_bd (window := window) (mss := mss) hs
  have ht := chunk_text (window := window) (mss := mss) hs
  have hb := cP hs
  obtain ⟨c0, c1, c2, c3, c4⟩ := hx
  obtain ⟨b0, b1, b2, b3, b4, b5, b6, b7, b8, b9, b10⟩ := hb
  have e : sentS s (nC s window mss).1 = { s with sent := s.sent + aW s window mss, finSent := s.finSent || aS s window mss } := by
    rw [hc]; unfold sentS; simp only [ht]
    rw [show s.sent + ((aW s window mss).toNat : Int) = s.sent + aW s window mss by omega, ao (by omega) (by omega)]
  have hs2 := hs
  unfold aG at hs2
  simp only [Bool.and_eq_true, decide_eq_true_eq, Bool.or_eq_true, Bool.not_eq_true'] at hs2
  have hok : aG { s with sent := s.sent + aW s window mss, finSent := s.finSent || aS s window mss } = true := by
    unfold aG
    simp only [Bool.and_eq_true, decide_eq_true_eq, Bool.or_eq_true, Bool.not_eq_true', cG]
    obtain ⟨⟨⟨⟨g1, g2⟩, g3⟩, g4⟩, g5⟩ := hs2
    refine ⟨⟨⟨⟨g1, g2⟩, by omega, by omega⟩, ?_⟩, ?_⟩
    · cases hf : aS s window mss
      · cases hq : s.finSent
        · exact .inl rfl
        · right
          have := b8 hq
          exact ⟨this.1, by omega⟩
      · right
        unfold aS at hf
        simp only [Bool.and_eq_true, decide_eq_true_eq, Bool.not_eq_true'] at hf
        exact ⟨hf.1, hf.2.2.2.1⟩
    · rcases g5 with g5 | g5
      · exact .inl g5
      · cases hd : s.done
        · exact .inl rfl
        · right
          refine ⟨⟨g5.1.1, ?_⟩, g5.2⟩
          have : aS s window mss = false := by unfold aS; simp [hd]
          rw [this, g5.1.2]; rfl
  refine ⟨?_, hok⟩
  unfold sO
  rw [e, hs, hok]
  have : ((nC s window mss).1.fin && s.done) = false := by
    rw [hc]; simp only
    cases hd : s.done
    · simp
    · unfold aS; simp [hd]
  rw [this]; rfl
theorem fN {s : Snd} {window mss : Int} (h : (nC s window mss).2 = true) : meas (sO s (nC s window mss).1) < meas s := by
  obtain ⟨e, -⟩ := sent_next h
  obtain ⟨hs, hc, hne⟩ := next_ok h
  obtain ⟨c0, c1, c2, c3, c4⟩ := chunkN_bd (window := window) (mss := mss) hs
  obtain ⟨b0, b1, b2, b3, b4, b5, b6, b7, b8, b9, b10⟩ := cP hs
  rw [e]; unfold meas; simp only
  by_cases h0 : aW s window mss = 0
  · have hf : aS s window mss = true := hne.resolve_left (fun h => h h0)
    have hq : s.finSent = false := by unfold aS at hf; simp at hf; exact hf.2.1
    simp [h0, hf, hq]
  · cases hq : s.finSent <;> cases hf : aS s window mss <;> simp <;> omega
def dm (s : Snd) (window mss : Int) : Snd × List Chk :=
  if _h : (nC s window mss).2 = true then ((dm (sO s (nC s window mss).1) window mss).1, (nC s window mss).1 :: (dm (sO s (nC s window mss).1) window mss).2) else (s, [])
termination_by meas s
decreasing_by all_goals exact fN (by assumption)
def fC (c : Con) (ch : Chk) : Seg := ⟨c.t.my, c.t.port, ch.seq, c.r.next, (if ch.text.toList.isEmpty then 16 else 24) + (if ch.fin then 1 else 0), wO c.r, ⟨0, -1, false, false, 0, 0⟩, ch.text⟩
def segFl (ch : Chk) (f : Bool) : Int := (if ch.text.toList.isEmpty then 16 else 24) + (if f then 1 else 0)
theorem segFl_or {ch : Chk} {ka : Int} (h : ka = segFl ch false) : IntKind.i64.wrap (BitVec.ofInt 64 ka ||| BitVec.ofInt 64 1).toNat = ka + 1 := by
  subst h; unfold segFl; split <;> decide
def tmr {α : Type} (c : Con) (l : List α) : Int := if l.isEmpty then c.timer else if c.timer = 0 then 3 else c.timer
def pump (c : Con) (window : Int) : Con × List Seg :=
  if bv c && (!decide (c.state = 8) && !decide (c.state = 7)) then
    ({ c with s := (dm c.s window (bX c.o)).1, timer := tmr c ((dm c.s window (bX c.o)).2.map (fC c)) }, (dm c.s window (bX c.o)).2.map (fC c))
  else (c, [])
theorem pumpL_step {c : Con} {s0 s : Snd} {L : List Seg} {row : Seg} {window mss : Int} (h : (nC s window mss).2 = true) (hrow : fC c (nC s window mss).1 = row)
    (hk : (dm s0 window mss).2.map (fC c) = L ++ (dm s window mss).2.map (fC c)) : (dm s0 window mss).2.map (fC c) = (L ++ [row]) ++ (dm (sO s (nC s window mss).1) window mss).2.map (fC c) := by
  rw [hk, dm, dif_pos h, ← hrow]; simp
theorem pumpS_step {s0 s : Snd} {window mss : Int} (h : (nC s window mss).2 = true) (hk : (dm s0 window mss).1 = (dm s window mss).1) : (dm s0 window mss).1 = (dm (sO s (nC s window mss).1) window mss).1 := by
  rw [hk, dm, dif_pos h]
theorem pumpL_end {c : Con} {s0 s : Snd} {L : List Seg} {window mss : Int} (h : (nC s window mss).2 = false) (hk : (dm s0 window mss).2.map (fC c) = L ++ (dm s window mss).2.map (fC c)) : (dm s0 window mss).2.map (fC c) = L := by
  rw [hk, dm, dif_neg (by rw [h]; simp)]; simp
theorem pumpS_end {s0 s : Snd} {window mss : Int} (h : (nC s window mss).2 = false) (hk : (dm s0 window mss).1 = (dm s window mss).1) : (dm s0 window mss).1 = s := by
  rw [hk, dm, dif_neg (by rw [h]; simp)]
theorem pump_yes {c : Con} {s : Snd} {L : List Seg} {window t : Int} (h1 : bv c = true) (h2 : ¬ c.state = 8) (h3 : ¬ c.state = 7) (hS : (dm c.s window (bX c.o)).1 = s) (hL : (dm c.s window (bX c.o)).2.map (fC c) = L) (ht : tmr c L = t) : pump c window = ({ c with s := s, timer := t }, L) := by
  unfold pump; rw [hS, hL, ht, if_pos (by simp [h1, h2, h3])]
theorem tmr_next {α : Type} {c : Con} {l : List α} {x : α} {t t' : Int} (h : t = tmr c l) (h' : (if t = 0 then 3 else t) = t') : t' = tmr c (l ++ [x]) := by
  subst h; subst h'; unfold tmr
  cases l with
  | nil => simp
  | cons a l => simp; split <;> simp [*]
theorem row_len {l : List Seg} {x : Seg} {a b n : Nat} (h : l.length + a ≤ n) (hb : b < a) : (l ++ [x]).length + b ≤ n := by simp; omega
theorem conOk_s {c : Con} (h : bv c = true) : aG c.s = true := by
  simp only [bv, e8, Bool.and_eq_true] at h; exact h.1.2.1
theorem meas_le {s : Snd} (h : aG s = true) : meas s ≤ 49 := by
  obtain ⟨b0, b1, b2, b3, b4, b5, b6, b7, b8, b9, b10⟩ := cP h
  unfold meas; split <;> omega
theorem pumpC_len (window mss : Int) (s : Snd) : (dm s window mss).2.length ≤ meas s := by
  induction hn : meas s using Nat.strongRecOn generalizing s with
  | _ n ih =>
    rw [dm]; split
    · rename_i h
      have h1 := fN h
      have := ih _ (by omega) (sO s (nC s window mss).1) rfl
      simp only [List.length_cons]; omega
    · simp
theorem fj (c : Con) (window : Int) (h : c.r.held.length ≤ 1048576) : (pump c window).1.r.held.length ≤ 1048576 ∧ (pump c window).2.length ≤ 49 := by
  unfold pump; split
  · rename_i hc
    refine ⟨h, ?_⟩
    simp only [Bool.and_eq_true] at hc
    have hs : aG c.s = true := by have := hc.1; simp only [bv, e8, Bool.and_eq_true] at this; exact this.1.2.1
    have := pumpC_len window (bX c.o) c.s; have := meas_le hs
    simp only [List.length_map]; omega
  · exact ⟨h, by simp⟩
end
/- Plain definitions: calls and ticks (no program in sight). -/
section
open Go.RowKit
def shut (c : Con) : Con × List Seg :=
  if bv c then (if c.state = 1 then pump { c with s := { c.s with fin := true }, state := 2 } c.window else if c.state = 4 then pump { c with s := { c.s with fin := true }, state := 6 } c.window else (c, [])) else (c, [])
def write (c : Con) (text : ByteArray) : Con × Int × List Seg :=
  if bv c && (decide (c.state = 1) || decide (c.state = 4)) then ((pump { c with s := (aJ c.s text).1 } c.window).1, (aJ c.s text).2, (pump { c with s := (aJ c.s text).1 } c.window).2) else (c, 0, [])
def aN (c : Con) : Con × List Seg :=
  if waits c then
    (if c.timer = 0 then ({ c with timer := if c.state = 7 then 3 else 2 }, [])
     else if 0 < c.timer - 1 then ({ c with timer := c.timer - 1 }, [])
     else if c.state = 7 then ({ c with state := 8, timer := c.timer - 1, tries := 0 }, [])
     else if c.tries = 3 then ({ c with state := 8, timer := 0, tries := 0 }, [{ bG c with flags := 20 }])
     else ({ (pump { c with s := ab c.s, timer := c.timer - 1, tries := c.tries + 1 } (max 1 c.window)).1 with timer := 3 }, (pump { c with s := ab c.s, timer := c.timer - 1, tries := c.tries + 1 } (max 1 c.window)).2))
  else if bv c then ({ c with timer := 0, tries := 0 }, []) else (c, [])
theorem gw {c : Con} (h : bv c = true) : 0 ≤ c.most ∧ c.most ≤ 1073725440 ∧ 0 ≤ c.window ∧ c.window ≤ 1073725440 ∧ 0 ≤ c.timer ∧ c.timer ≤ 4 ∧ 0 ≤ c.tries ∧ c.tries ≤ 3 ∧ 1 ≤ c.state ∧ c.state ≤ 8 := by
  simp only [bv, e8, eQ, Bool.and_eq_true] at h
  obtain ⟨⟨-, -, -, -, h1⟩, ⟨h2, h3, h4, h5⟩, -⟩ := h
  rw [inB_tt] at h1 h2 h3 h4 h5
  refine ⟨by omega, by omega, by omega, by omega, by omega, ?_, by omega, by omega, by omega, by omega⟩
  split at h4 <;> omega
theorem waits_ok {c : Con} (h : waits c = true) : bv c = true := by
  unfold waits at h; simp only [Bool.and_eq_true] at h; exact h.1
theorem shut_bd (c : Con) (h : c.r.held.length ≤ 1048576) : (shut c).1.r.held.length ≤ 1048576 ∧ (shut c).2.length ≤ 49 := by
  unfold shut; (repeat' split) <;> first | exact fj _ _ h | exact ⟨h, by simp⟩
theorem write_bd (c : Con) (t : ByteArray) (h : c.r.held.length ≤ 1048576) : (write c t).1.r.held.length ≤ 1048576 ∧ (write c t).2.2.length ≤ 49 := by
  unfold write; split
  · exact fj _ _ h
  · exact ⟨h, by simp⟩
theorem tickConn_bd (c : Con) (h : c.r.held.length ≤ 1048576) : (aN c).1.r.held.length ≤ 1048576 ∧ (aN c).2.length ≤ 49 := by
  unfold aN; (repeat' split) <;> first | exact fj _ _ h | exact ⟨h, by simp⟩
end
/- Plain definitions: what is heard, and ac (no program in sight). -/
section
open Go.RowKit
def cC (c : Con) (g : Seg) : Con :=
  if (aD c.s g.ack).2 then
    (if (¬ (aD c.s g.ack).1.una = c.s.una ∨ ae (aD c.s g.ack).1 = 0) ∧ ¬ c.state = 7 then
      { c with s := (aD c.s g.ack).1, window := cX g.window c.o, most := max c.most (cX g.window c.o), tries := 0, timer := if 0 < ae (aD c.s g.ack).1 then 3 else 0 }
     else { c with s := (aD c.s g.ack).1, window := cX g.window c.o, most := max c.most (cX g.window c.o) })
  else c
def fU (c : Con) (g : Seg) : Rcv := if cG c.state 1 3 then ag c.r g.seq g.body (cB g.flags 1) else c.r
def heard (c : Con) (g : Seg) : Con := if av c g = 5 then bH { cC c g with r := fU c g } else c
def cm (c : Con) (g : Seg) : Con × List Seg :=
  if c.state = 8 then (c, []) else ((pump c c.window).1, if 0 < d7 g ∧ (pump c c.window).2.length = 0 then [bG c] else (pump c c.window).2)
def ac (c : Con) (g : Seg) : Con × List Seg × Int :=
  if av c g = 1 then (c, [], 1)
  else if av c g = 2 then ({ c with state := 8, timer := 0, tries := 0 }, [], 2)
  else if av c g = 3 then (c, [bG c], 3)
  else if av c g = 4 then (if c.state = 7 ∧ cB g.flags 1 = true then { c with timer := 4 } else c, [bG c], 4)
  else ((cm (heard c g) g).1, (cm (heard c g) g).2, 5)
theorem received_ack {c : Con} {g : Seg} {tm : Int} (h : av c g = 4) (htm : tm = if av c g = 4 ∧ c.state = 7 ∧ cB g.flags 1 = true then 4 else c.timer) : ac c g = ({ c with timer := tm }, [bG c], 4) := by
  unfold ac; rw [if_neg (by omega), if_neg (by omega), if_neg (by omega), if_pos h]
  by_cases hx : c.state = 7 ∧ cB g.flags 1 = true
  · rw [if_pos hx, htm, if_pos ⟨h, hx⟩]
  · rw [if_neg hx, htm, if_neg (fun e => hx e.2)]
theorem received_chal {c : Con} {g : Seg} {tm : Int} (h : av c g = 3) (htm : tm = if av c g = 4 ∧ c.state = 7 ∧ cB g.flags 1 = true then 4 else c.timer) : ac c g = ({ c with timer := tm }, [bG c], 3) := by
  unfold ac; rw [if_neg (by omega), if_neg (by omega), if_pos h, htm, if_neg (fun e => by omega)]
theorem verdict_rng (c : Con) (g : Seg) : 1 ≤ av c g ∧ av c g ≤ 5 := by unfold av; (repeat' split) <;> omega
theorem verdict_fine {c : Con} {g : Seg} (h : av c g = 5) : bv c = true ∧ ¬ c.state = 8 ∧ dZ g = true ∧ cB g.flags 4 = false ∧ cB g.flags 2 = false ∧ dn c g = true ∧ cB g.flags 16 = true ∧ fR c g.ack = true := by
  unfold av at h
  split at h
  · omega
  rename_i h1
  simp only [Bool.or_eq_true, Bool.not_eq_true', decide_eq_true_eq, not_or, Bool.not_eq_false] at h1
  split at h
  · (repeat' split at h) <;> omega
  split at h
  · omega
  split at h
  · omega
  split at h
  · omega
  split at h
  · omega
  simp_all
theorem conOk_r {c : Con} (h : bv c = true) : rO c.r = true ∧ c7 c.o = true ∧ eD c.t = true := by
  simp only [bv, e8, Bool.and_eq_true] at h; exact ⟨h.1.2.2.1, h.1.2.2.2.1, h.1.1⟩
theorem segmentOk_w {g : Seg} (h : dZ g = true) : 0 ≤ g.window ∧ g.window ≤ 65535 := by
  simp only [dZ, Bool.and_eq_true] at h; exact wordOk16_bd h.2.2.1
theorem farW_bd {w : Int} {o : Opt} (h : 0 ≤ w ∧ w ≤ 65535) (ho : c7 o = true) : 0 ≤ cX w o ∧ cX w o ≤ 1073725440 := by
  have := gE ho
  unfold cX
  exact ⟨Int.mul_nonneg h.1 (Int.pow_nonneg (by omega)), far_le h.1 h.2 (by omega) (by omega)⟩
theorem pcs_bd : ∀ (l : List Int) (acc : List Pce) (j : Nat), (∀ p ∈ acc, 0 ≤ p.off ∧ p.off + (p.text.size : Int) ≤ (j : Int)) → ∀ p ∈ gS acc j l, 0 ≤ p.off ∧ p.off + (p.text.size : Int) ≤ ((j + l.length : Nat) : Int)
  | [], acc, j, h, p, hp => by simpa using h p hp
  | x :: l, acc, j, h, p, hp => by
    rw [gS] at hp
    have := pcs_bd l _ (j + 1) (fun q hq => by
      split at hq
      · have := h q hq; omega
      · have := addByte_bd h q hq; omega) p hp
    rw [List.length_cons]; omega
theorem arrived_sz {r : Rcv} {seq : Int} {t : ByteArray} {fin : Bool} {H T D : Nat} (h1 : r.held.length ≤ H) (h2 : ∀ p ∈ r.held, p.text.size ≤ T) (h3 : r.data.size ≤ D) (hH : 3 ≤ H) (hT : 33 ≤ T) (hD : 65 ≤ D) :
    (ag r seq t fin).held.length ≤ H ∧ (∀ p ∈ (ag r seq t fin).held, p.text.size ≤ T) ∧ (ag r seq t fin).data.size ≤ D := by
  unfold ag
  split
  · rename_i hok
    simp only [Bool.and_eq_true] at hok
    have hr := rok_facts hok.1
    have hl := allIn_len r seq t
    have hb : ∀ p ∈ gS [] 0 ((e9 r seq t).drop (fy (e9 r seq t))), p.text.size ≤ T := fun p hp => by
      have := pcs_bd _ [] 0 (by simp) p hp
      rw [List.length_drop, hl] at this; omega
    have hd : (r.data ++ ah ((e9 r seq t).take (fy (e9 r seq t)))).size ≤ D := by
      rw [ByteArray.size_append, bstr_len, List.length_take, hl]; omega
    split
    · exact ⟨h1, h2, h3⟩
    · rename_i hn
      split
      · exact ⟨by dsimp only; omega, hb, hd⟩
      · exact ⟨by dsimp only; omega, hb, hd⟩
  · exact ⟨h1, h2, h3⟩
theorem turned_w (c : Con) : (bH c).window = c.window ∧ (bH c).s = c.s ∧ (bH c).r = c.r ∧ (bH c).most = c.most ∧ (bH c).o = c.o ∧ (bH c).t = c.t := by unfold bH; (repeat' split) <;> exact ⟨rfl, rfl, rfl, rfl, rfl, rfl⟩
theorem heardMid_eq (c : Con) (g : Seg) : (cC c g).r = c.r ∧ (cC c g).t = c.t ∧ (cC c g).state = c.state ∧ (cC c g).o = c.o := by unfold cC; (repeat' split) <;> exact ⟨rfl, rfl, rfl, rfl⟩
theorem heardR_sz {c : Con} {g : Seg} {H T D : Nat} (h1 : c.r.held.length ≤ H) (h2 : ∀ p ∈ c.r.held, p.text.size ≤ T) (h3 : c.r.data.size ≤ D) (hH : 3 ≤ H) (hT : 33 ≤ T) (hD : 65 ≤ D) :
    (fU c g).held.length ≤ H ∧ (∀ p ∈ (fU c g).held, p.text.size ≤ T) ∧ (fU c g).data.size ≤ D := by
  unfold fU; split
  · exact arrived_sz h1 h2 h3 hH hT hD
  · exact ⟨h1, h2, h3⟩
theorem heard_r (c : Con) (g : Seg) : (heard c g).r = fU c g ∨ (heard c g).r = c.r := by
  unfold heard; split
  · rw [(turned_w _).2.2.1]; exact .inl rfl
  · exact .inr rfl
theorem heard_sz {c : Con} {g : Seg} {H T D : Nat} (h1 : c.r.held.length ≤ H) (h2 : ∀ p ∈ c.r.held, p.text.size ≤ T) (h3 : c.r.data.size ≤ D) (hH : 3 ≤ H) (hT : 33 ≤ T) (hD : 65 ≤ D) :
    (heard c g).r.held.length ≤ H ∧ (∀ p ∈ (heard c g).r.held, p.text.size ≤ T) ∧ (heard c g).r.data.size ≤ D := by
  rcases heard_r c g with e | e <;> rw [e]
  · exact heardR_sz h1 h2 h3 hH hT hD
  · exact ⟨h1, h2, h3⟩
theorem heard_w {c : Con} {g : Seg} (h : av c g = 5) : 0 ≤ (heard c g).window ∧ (heard c g).window ≤ 1073725440 := by
  obtain ⟨h1, -, h3, -⟩ := verdict_fine h
  have hf := farW_bd (segmentOk_w h3) (conOk_r h1).2.1
  have hc := gw h1
  unfold heard; rw [if_pos h, (turned_w _).1]
  show 0 ≤ (cC c g).window ∧ (cC c g).window ≤ _
  unfold cC; (repeat' split) <;> first | exact hf | exact ⟨hc.2.2.1, hc.2.2.2.1⟩
end
/- Plain definitions: sizes of what is drawn (no program in sight). -/
section
open Go.RowKit
def RB (H : Nat) (r : Rcv) : Prop := r.held.length ≤ H ∧ (∀ p ∈ r.held, p.text.size ≤ 33) ∧ r.data.size ≤ 65
theorem RB.kn {r : Rcv} (h : RB 4 r) : r.held.length ≤ 1048576 := Nat.le_trans h.1 (by decide)
theorem RB.hm {r : Rcv} {H : Nat} (h : RB H r) : ∀ p ∈ r.held, p.text.size ≤ 1048576 := fun p hp => Nat.le_trans (h.2.1 p hp) (by decide)
theorem RB.sz {r : Rcv} {H : Nat} (h : RB H r) : r.data.size ≤ 4611686018427387904 := Nat.le_trans h.2.2 (by decide)
theorem RB.up {r : Rcv} (h : RB 3 r) : RB 4 r := ⟨Nat.le_trans h.1 (by decide), h.2.1, h.2.2⟩
theorem RB.new (n : Int) : RB 3 (rN n) := ⟨Nat.zero_le _, fun p hp => by simp [rN] at hp, Nat.zero_le _⟩
theorem RB.arr {r : Rcv} {H : Nat} (h : RB H r) (hH : 3 ≤ H) (seq : Int) (t : ByteArray) (fin : Bool) : RB H (ag r seq t fin) := arrived_sz h.1 h.2.1 h.2.2 hH (Nat.le_refl _) (Nat.le_refl _)
theorem RB.taken {r : Rcv} {H : Nat} (h : RB H r) (n : Int) : RB H (ax r n).1 := ⟨by rw [gM]; exact h.1, by rw [gM]; exact h.2.1, Nat.le_trans (takenIn_sz r n) h.2.2⟩
theorem RB.more {r : Rcv} (h : RB 3 r) (p : Pce) (hp : p.text.size ≤ 33) {d : ByteArray} (hd : d.size ≤ 65) {next fin : Int} {done : Bool} : RB 4 ⟨next, d, r.held ++ [p], fin, done⟩ :=
  ⟨by rw [List.length_append]; have := h.1; simp; omega, fun q hq => by
    rcases List.mem_append.1 hq with hq | hq
    · exact h.2.1 q hq
    · rw [List.mem_singleton] at hq; subst hq; exact hp, hd⟩
theorem pump_r (c : Con) (w : Int) : (pump c w).1.r = c.r := by unfold pump; split <;> rfl
theorem RB.pump {c : Con} {H : Nat} (h : RB H c.r) (w : Int) : RB H (Go.Proofs.YtccijpdjfelbmaaGreat.pump c w).1.r := by rw [pump_r]; exact h
theorem RB.write {c : Con} {H : Nat} (h : RB H c.r) (t : ByteArray) : RB H (Go.Proofs.YtccijpdjfelbmaaGreat.write c t).1.r := by unfold Go.Proofs.YtccijpdjfelbmaaGreat.write; split <;> first | (dsimp only; rw [pump_r]; exact h) | exact h
theorem RB.shut {c : Con} {H : Nat} (h : RB H c.r) : RB H (Go.Proofs.YtccijpdjfelbmaaGreat.shut c).1.r := by
  unfold Go.Proofs.YtccijpdjfelbmaaGreat.shut; (repeat' split) <;> first | exact h | (rw [pump_r]; exact h)
theorem RB.tick {c : Con} {H : Nat} (h : RB H c.r) : RB H (aN c).1.r := by
  unfold aN; (repeat' split) <;> first | exact h | (dsimp only; rw [pump_r]; exact h)
theorem RB.read {c : Con} {H : Nat} (h : RB H c.r) (n : Int) : RB H (bm c n).1.r := by
  unfold bm; (repeat' split) <;> first | exact h | exact RB.taken h n
theorem RB.heard {c : Con} {H : Nat} (h : RB H c.r) (hH : 3 ≤ H) (g : Seg) : RB H (Go.Proofs.YtccijpdjfelbmaaGreat.heard c g).r := heard_sz h.1 h.2.1 h.2.2 hH (Nat.le_refl _) (Nat.le_refl _)
theorem RB.recv {c : Con} {H : Nat} (h : RB H c.r) (hH : 3 ≤ H) (g : Seg) : RB H (ac c g).1.r := by
  unfold ac cm; (repeat' split) <;> first | exact h | exact RB.heard h hH g | exact RB.pump (RB.heard h hH g) _
theorem RB.newC (t : Tup) (iss irs : Int) (o : Opt) (w : Int) : RB 3 (cO t iss irs o w).r := by
  unfold cO; (repeat' split) <;> exact RB.new _
end
/- The machine: a drawn table: rows of connections whose slices are the call's own, and may be shared. -/
section
open Go.RowKit
set_option linter.unusedVariables false
set_option linter.unusedSimpArgs false
def hnF (B : Nat) (x : CV) : Fact := fm B x.2 2 (x.1.r.held.map pC)
def eA (B : Nat) (cs : List CV) : Fact where
  own := true
  p := fun w => ∀ x ∈ cs, (hnF B x).p w
  blk := fun b => ∃ x ∈ cs, (hnF B x).blk b
  lt := fun w b h hb => by obtain ⟨x, hx, hb⟩ := hb; exact (hnF B x).lt w b (h x hx) hb
  keep := fun w w' h hs hb x hx => (hnF B x).keep w w' (h x hx) hs (fun b hq => hb b ⟨x, hx, hq⟩)
theorem hwF_sl {B : Nat} {cs : List CV} {w : World} (h : (eA B cs).p w) : ∀ x ∈ cs, Sl w x.2 2 (x.1.r.held.map pC) := fun x hx => (h x hx).1
theorem hwF_lo {B : Nat} {cs : List CV} {w : World} (h : (eA B cs).p w) {q : Nat} (hq : (eA B cs).blk q) : B ≤ q := by
  obtain ⟨x, hx, hq⟩ := hq
  exact newF_lo (h x hx) hq
theorem co {B B' : Nat} {cs : List CV} {q : Nat} (h : (eA B cs).blk q) : (eA B' cs).blk q := h
theorem dw {B B' : Nat} {cs : List CV} {w : World} (h : (eA B cs).p w) (hb : ∀ b, (eA B cs).blk b → B' ≤ b) : (eA B' cs).p w := fun x hx => eT (h x hx) (fun b hq => hb b ⟨x, hx, hq⟩)
theorem hwF_hown {B : Nat} {cs : List CV} {w : World} (h : (bc B cs).p w) : (eA B cs).p w := fun x hx => newF_own (h.1 (hlF B x) (List.mem_map_of_mem hx)) (fun b hb => ownF_lo (h.1 (hlF B x) (List.mem_map_of_mem hx)) hb)
theorem hwF_hblk {B B' : Nat} {cs : List CV} {q : Nat} (h : (eA B cs).blk q) : (bc B' cs).blk q := by
  obtain ⟨x, hx, hq⟩ := h
  exact ⟨hlF B' x, List.mem_map_of_mem hx, hq⟩
section
variable {w0 : World} {b : List Box} {r : List (List Value)} {ρ : Nat → Nat} {σ : Nat → Nat × Nat} {w : World} {hs : List Fact} {B : Nat}
theorem hw_dup {cs : List CV} {x : CV} (hx : x ∈ cs) (h : XHeap w0 b r (eA B cs :: hs) ρ σ w) : XHeap w0 b r (eA B (cs ++ [x]) :: hs) ρ σ w := by
  have hm : ∀ y ∈ cs ++ [x], y ∈ cs := fun y hy => by
    rcases List.mem_append.1 hy with hy | hy
    · exact hy
    · rw [List.mem_singleton] at hy; subst hy; exact hx
  exact h.weak rfl (fun hp y hy => hp y (hm y hy)) fun q hq => let ⟨y, hy, hyq⟩ := hq; ⟨y, hm y hy, hyq⟩
theorem hw_set {cs : List CV} {i : Nat} {x y : CV} (hx : cs[i]? = some x) (h2 : y.2 = x.2) (h1 : y.1.r.held = x.1.r.held) (h : XHeap w0 b r (eA B cs :: hs) ρ σ w) : XHeap w0 b r (eA B (cs.set i y) :: hs) ρ σ w := by
  have hm : ∀ z ∈ cs.set i y, ∃ z' ∈ cs, hnF B z = hnF B z' := fun z hz => by
    rcases List.mem_or_eq_of_mem_set hz with hz | hz
    · exact ⟨z, hz, rfl⟩
    · subst hz; exact ⟨x, List.mem_of_getElem? hx, by unfold hnF; rw [h2, h1]⟩
  exact h.weak rfl (fun hp z hz => by obtain ⟨z', hz', e⟩ := hm z hz; rw [e]; exact hp z' hz') fun q hq => by
    obtain ⟨z, hz, hzq⟩ := hq
    obtain ⟨z', hz', e⟩ := hm z hz
    rw [e] at hzq; exact ⟨z', hz', hzq⟩
theorem hw_snoc {cs : List CV} {x : CV} (h : XHeap w0 b r (fm B x.2 2 (x.1.r.held.map pC) :: eA B cs :: hs) ρ σ w) : XHeap w0 b r (eA B (cs ++ [x]) :: hs) ρ σ w := by
  obtain ⟨h1, h2⟩ := h.fact (fm B x.2 2 (x.1.r.held.map pC)) (List.mem_cons_self ..)
  obtain ⟨h3, h4⟩ := h.fact (eA B cs) (by simp)
  refine ⟨h.below, h.box, h.inj, h.row, fun g hg => ?_, (Apart.back (gs := [fm B x.2 2 (x.1.r.held.map pC), eA B cs]) h.apart).cons fun g hg q hq hgq => ?_⟩
  · rcases List.mem_cons.1 hg with rfl | hg
    · refine ⟨fun y hy => ?_, fun i hi hq => ?_⟩
      · rcases List.mem_append.1 hy with hy | hy
        · exact h3 y hy
        · rw [List.mem_singleton] at hy; subst hy; exact h1
      · obtain ⟨y, hy, hyq⟩ := hq
        rcases List.mem_append.1 hy with hy | hy
        · exact h4 i hi ⟨y, hy, hyq⟩
        · rw [List.mem_singleton] at hy; subst hy; exact h2 i hi hyq
    · exact h.fact g (by simp [hg])
  · obtain ⟨j, hj⟩ := List.getElem?_of_mem hg
    obtain ⟨y, hy, hyq⟩ := hq
    rcases List.mem_append.1 hy with hy | hy
    · exact h.apart 1 (j + 2) _ g rfl hj (by omega) rfl q ⟨y, hy, hyq⟩ hgq
    · rw [List.mem_singleton] at hy; subst hy; exact h.apart 0 (j + 2) _ g rfl hj (by omega) rfl q hyq hgq
end
theorem pHw {B B0 : Nat} {cs : List CV} {w' : World} (h : (eA B0 cs).p w') (hB : B ≤ B0) : (eA B cs).p w' ∧ ∀ b, (eA B cs).blk b → B0 ≤ b := ⟨dw h (fun b hb => Nat.le_trans hB (hwF_lo h hb)), fun b hb => hwF_lo h (co hb)⟩
theorem xcm_curT {P : Program} {w0 : World} {fs : List Fact} {f : FuncId} {args : List Value} {B g T N e e' : Nat} {V : Value} {α : Type} {F : α → Value} {v u : α → Value} {cs : α → List CV} {rs : α → List (List Value)}
    (h : ∀ w, w0.heap.size ≤ w.heap.size → (∀ g ∈ fs, g.p w) → Calls P f args.toArray w fun x' w' => ∃ y, x' = .returned (F y) ∧ (eg B g T V N).p w' ∧ (a8 w.heap.size e 25 (v y) ((cs y).map az)).p w' ∧ (eA w.heap.size (cs y)).p w' ∧ (a8 w.heap.size e' 3 (u y) (rs y)).p w' ∧ Apart [a8 w.heap.size e 25 (v y) ((cs y).map az), eA w.heap.size (cs y), a8 w.heap.size e' 3 (u y) (rs y)] ∧ g < w.heap.size ∧ Chgd (fun b => b = g) w w') :
    XCM P w0 fs (eg B g T V N).blk f args F (fun y => [a8 w0.heap.size e 25 (v y) ((cs y).map az), eA w0.heap.size (cs y), a8 w0.heap.size e' 3 (u y) (rs y), eg B g T V N]) := fun w hw hf => (h w hw hf).mono fun x' w' ⟨y, he, hc, h1, h2, h3, ha, hg, hb⟩ =>
  ⟨y, he, fun x hx => by
    simp only [List.mem_cons, List.not_mem_nil, or_false] at hx
    rcases hx with rfl | rfl | rfl | rfl
    · exact ⟨gA h1 hw, fun b hb => .inr (f0 h1 hb)⟩
    · exact ⟨dw h2 (fun b hb => Nat.le_trans hw (hwF_lo h2 hb)), fun b hb => .inr (hwF_lo h2 (co hb))⟩
    · exact ⟨gA h3 hw, fun b hb => .inr (f0 h3 hb)⟩
    · exact ⟨hc, fun b hb => .inl hb⟩,
    by
      have h0 := apart_iff.1 ha
      simp only [List.pairwise_cons, List.mem_cons, List.not_mem_nil, or_false, forall_eq_or_imp, forall_eq] at h0
      obtain ⟨⟨a1, a2⟩, a3, -⟩ := h0
      have cr : ∀ {f' f : Fact}, (∀ b, f'.blk b → f.blk b) → (∀ b, f.blk b → w.heap.size ≤ b) → ApR f' (eg B g T V N) := fun hs hl => ⟨fun _ b hb hbg => by
        have e1 : b = g := hbg
        have := hl b (hs b hb); omega, fun _ b hbg hb => by
        have e1 : b = g := hbg
        have := hl b (hs b hb); omega⟩
      have sub : ∀ {x y x' y' : Fact}, x.own = true → y.own = true → ApR x y → (∀ b, x'.blk b → x.blk b) → (∀ b, y'.blk b → y.blk b) → ApR x' y' := fun ox oy hr hx hy =>
        ⟨fun _ b hb hb' => hr.1 ox b (hx b hb) (hy b hb'), fun _ b hb hb' => hr.2 oy b (hy b hb) (hx b hb')⟩
      refine apart_iff.2 (List.pairwise_cons.2 ⟨fun z hz => ?_, List.pairwise_cons.2 ⟨fun z hz => ?_, List.pairwise_cons.2 ⟨fun z hz => ?_, List.pairwise_singleton _ _⟩⟩⟩)
      · simp only [List.mem_cons, List.not_mem_nil, or_false] at hz
        rcases hz with rfl | rfl | rfl
        · exact sub rfl rfl a1 (fun b h => h) (fun b h => co h)
        · exact sub rfl rfl a2 (fun b h => h) (fun b h => h)
        · exact cr (fun b h => h) (fun b h => f0 h1 h)
      · simp only [List.mem_cons, List.not_mem_nil, or_false] at hz
        rcases hz with rfl | rfl
        · exact sub rfl rfl a3 (fun b h => co h) (fun b h => h)
        · exact cr (fun b h => co h) (fun b h => hwF_lo h2 h)
      · obtain rfl : z = eg B g T V N := by simpa using hz
        exact cr (fun b h => h) (fun b h => f0 h3 h), hb⟩
end
/- Plain laws: of tables that are drawn: what is put, taken, swept (no program in sight). -/
section
open Go.RowKit
set_option linter.unusedVariables false
theorem RB.fit {c : Con} (h : RB 4 c.r) : bj c := ⟨trivial, Nat.le_trans h.2.2 (by decide), h.kn, h.hm⟩
theorem putP_len1 (t : Tab) (c : Con) (l : Lim) : (putP t c l).length ≤ t.conns.length + 1 := by
  unfold putP pl; split <;> simp
theorem putW_len1 (t : Tab) (c : Con) (l : Lim) : (gn t c l).length ≤ t.waiting.length + 1 := by
  unfold gn; split <;> simp
theorem takeW_le (t : Tab) : (fE t).length ≤ t.waiting.length := by unfold fE; rw [List.length_drop]; omega
theorem swept_no {t : Tab} {xs : List CV} {i : Nat} {x : CV} (h : pl xs = ge t) (hx : xs[i]? = some x) : eB t.waiting x.1 = false := by
  have h1 : x.1 ∈ pl xs := List.mem_map_of_mem (List.mem_of_getElem? hx)
  rw [h] at h1
  have := (List.mem_filter.1 h1).2
  simpa using this
theorem met_step {wt : List Tup} {k : Nat} {y : Tup} {u : Tup} {b m : Bool} (hy : wt[k]? = some y) (h : m = (b || cU (wt.take k) u)) : (m || bd y u) = (b || cU (wt.take (k + 1)) u) := by
  obtain ⟨hlt, rfl⟩ := List.getElem?_eq_some_iff.1 hy
  rw [h, List.take_succ_eq_append_getElem hlt]
  unfold cU
  rw [List.any_append, List.any_cons, List.any_nil, Bool.or_false, Bool.or_assoc]
end
/- Plain laws: a new connection (no program in sight). -/
section
open Go.RowKit
theorem sameL_self {α : Type} {eq : α → α → Bool} (h : ∀ x, eq x x = true) (l : List α) : gl eq l l = true := sameL_yes rfl fun i x y h1 h2 => by
  rw [h1] at h2; simp only [Option.some.injEq] at h2; subst h2; exact h x
theorem sameConn_self (c : Con) : dX c c = true := by
  simp [dX, bJ, bd, sndEq, optEq, sameL_self (eq := pceEq) (fun x => by simp [pceEq])]
end
/- The machine: a row of the call's own, swept in place by a test. -/
section
open Go.RowKit
set_option linter.unusedVariables false
set_option linter.unusedSimpArgs false
def nof (t : Tab) (x : Tup) : Bool := decide (aK t x < 0)
theorem swp_of {t : Tab} {c : Con} {b : Bool} (h1 : (c.state == 8) = true) (h : cU t.waiting c.t = b) : eB t.waiting c = !b := by unfold eB; rw [h1, h]; rfl
theorem swp_no {t : Tab} {c : Con} (h1 : (c.state == 8) = false) : eB t.waiting c = false := by unfold eB; rw [h1]; rfl
def iof {α : Type} (p : α → Bool) (l : List α) : Int := idxOf (l.findIdx? p)
section
variable {α : Type} {p q : α → Bool} {l R : List α} {i j k : Nat} {x : α}
theorem iof_eq (hk : l[k]? = some x) (hp : p x = true) (hno : ∀ (i : Nat) (h' : α), i < k → l[i]? = some h' → p h' = false) : iof p l = (k : Int) := by
  unfold iof; rw [findIdx_eq (p := p) hk hp hno]; rfl
theorem iof_no (hk : k = l.length) (hno : ∀ (i : Nat) (h' : α), i < k → l[i]? = some h' → p h' = false) : iof p l = -1 := by
  unfold iof; rw [findIdx_no (p := p) fun i h' hh => hno i h' (by rw [hk]; exact (List.getElem?_eq_some_iff.1 hh).1) hh]; rfl
theorem iof_none (h : iof p l = -1) : l.filter (fun x => !p x) = l := by
  unfold iof idxOf at h
  cases hq : l.findIdx? p with
  | none => rw [List.findIdx?_eq_none_iff] at hq; rw [List.filter_eq_self]; intro a ha; rw [hq a ha]; rfl
  | some i => rw [hq] at h; simp only at h; omega
theorem iof_nat (h : iof p l ≠ -1) : ∃ k : Nat, iof p l = (k : Int) := by
  unfold iof idxOf at h ⊢
  cases hq : l.findIdx? p with
  | none => rw [hq] at h; exact absurd rfl h
  | some i => exact ⟨i, rfl⟩
theorem iof_at (h : iof p l = (k : Int)) : k < l.length ∧ l.take k = (l.take (k + 1)).filter (fun x => !p x) := by
  unfold iof idxOf at h
  cases hq : l.findIdx? p with
  | none => rw [hq] at h; simp only at h; omega
  | some i =>
    rw [hq] at h; simp only at h
    obtain rfl : i = k := by omega
    obtain ⟨h1, h2, h3⟩ := List.findIdx?_eq_some_iff_getElem.1 hq
    refine ⟨h1, ?_⟩
    rw [List.take_add_one, List.getElem?_eq_getElem h1, List.filter_append]
    have e1 : (l.take i).filter (fun x => !p x) = l.take i := by
      rw [List.filter_eq_self]; intro a ha
      obtain ⟨n, hn⟩ := List.getElem?_of_mem ha
      rw [List.getElem?_take] at hn
      split at hn
      · obtain ⟨hl, he⟩ := List.getElem?_eq_some_iff.1 hn
        have := h3 n (by omega); rw [he] at this; simpa using this
      · cases hn
    rw [e1]; simp [h2]
theorem del_no (h : R.take i = (l.take j).filter q) (hx : l[j]? = some x) (hq : q x = false) : R.take i = (l.take (j + 1)).filter q := by
  rw [List.take_add_one, hx, List.filter_append, ← h]; simp [hq]
theorem del_yes (h : R.take i = (l.take j).filter q) (hx : l[j]? = some x) (hq : q x = true) (hi : i < R.length) : (R.set i x).take (i + 1) = (l.take (j + 1)).filter q := by
  rw [List.take_add_one (i := j), hx, List.filter_append, ← h, List.take_add_one, List.getElem?_set_self hi, List.take_set_of_le (Nat.le_refl _)]; simp [hq]
theorem del_drop (h : R.drop j = l.drop j) : R.drop (j + 1) = l.drop (j + 1) := by
  have := congrArg (List.drop 1) h; rw [List.drop_drop, List.drop_drop] at this; exact this
theorem del_dset (h : R.drop j = l.drop j) (hi : i ≤ j) : (R.set i x).drop (j + 1) = l.drop (j + 1) := by
  rw [List.drop_set_of_lt (by omega)]; exact del_drop h
theorem del_at (h : R.drop j = l.drop j) (hx : l[j]? = some x) : R[j]? = some x := by
  have h1 : (R.drop j)[0]? = (l.drop j)[0]? := by rw [h]
  rw [List.getElem?_drop, List.getElem?_drop] at h1; exact h1.trans hx
theorem del_end (h : R.take i = (l.take j).filter q) (hj : j = l.length) : R.take i = l.filter q := by
  rw [h, hj, List.take_length]
theorem del_len (h : R.take i = l.filter q) (hi : i ≤ R.length) : i = (l.filter q).length := by
  rw [← h, List.length_take]; omega
end
theorem sw_cap {A : Option Addr} {g cap : Nat} (K : Nat) (h : A = some ⟨g, 0, none⟩) : (if cap = 0 then A else A.map (·.add (0 * K))) = A := by
  subst h; split <;> simp [Addr.add]
theorem row_pre {w : World} {B e K N cap i : Nat} {A : Option Addr} {rs : List (List Value)} (hn : rs.length = N) (hi : i ≤ N) (h : (a8 B e K (.slice A N cap) rs).p w) : (a8 B e K (.slice A i cap) (rs.take i)).p w := by
  subst hn
  obtain ⟨⟨hfl, hor⟩, hK⟩ := h
  have hl : (rs.take i).length = i := by rw [List.length_take]; omega
  have hft := flat_take hK i
  have hm : i * K ≤ rs.length * K := Nat.mul_le_mul_right _ hi
  refine ⟨⟨?_, ?_⟩, fun r hr => hK r (List.mem_of_mem_take hr)⟩
  · rw [hft, hl, List.length_take, hfl]; exact Nat.min_eq_left hm
  · rcases hor with ⟨h1, h2⟩ | ⟨g, cap', cur, h1, hB, hg, hle, hmx, hcs, htk⟩
    · simp only [Value.slice.injEq] at h1
      obtain ⟨rfl, h3, rfl⟩ := h1
      have : i = 0 := by omega
      subst this; exact .inl ⟨rfl, by simp⟩
    · simp only [Value.slice.injEq] at h1
      obtain ⟨rfl, -, rfl⟩ := h1
      exact .inr ⟨g, cap, cur, by rw [hl], hB, hg, by omega, hmx, hcs, by rw [hl, hft, ← htk, List.take_take, Nat.min_eq_left hm]⟩
theorem rowpre_weak {w0 : World} {b : List Box} {r : List (List Value)} {ρ : Nat → Nat} {σ : Nat → Nat × Nat} {w : World} {hs : List Fact} {B e K N cap i : Nat} {A : Option Addr} {α : Type} {cf : α → List Value} {R : List α} (hn : R.length = N) (hi : i ≤ N)
    (h : XHeap w0 b r (a8 B e K (.slice A N cap) (R.map cf) :: hs) ρ σ w) : XHeap w0 b r (a8 B e K (.slice A i cap) ((R.take i).map cf) :: hs) ρ σ w := by
  rw [List.map_take]
  exact h.weak rfl (fun hp => row_pre (by rw [List.length_map]; exact hn) hi hp) (fun q hq => by cases A <;> exact hq)
theorem apart_own {f : Fact} {fs : List Fact} (ho : ∀ x ∈ fs, x.own = false) (h : ∀ x ∈ fs, ∀ b, f.blk b → ¬ x.blk b) : Apart (f :: fs) := (Apart.plain ho).cons h
theorem ret_sl {A : Option Addr} {n c : Nat} {A' : Option Addr} {n' c' : Nat} (h1 : A = A') (h2 : n = n') (h3 : c = c') : Ending.returned (.slice A n c) = .returned (.slice A' n' c') := by rw [h1, h2, h3]
theorem del_row {α : Type} {cf : α → List Value} {R NL : List α} {B e K i cap : Nat} {A : Option Addr} {w : World} (hR : R.take i = NL) (hi : i ≤ R.length) (h : (a8 B e K (.slice A i cap) ((R.take i).map cf)).p w) : (a8 B e K (.slice A NL.length cap) (NL.map cf)).p w := by
  subst hR; rw [List.length_take, Nat.min_eq_left hi]; exact h
theorem sl_blkA {A : Option Addr} {n n' c c' b : Nat} {B e K : Nat} {rs rs' : List (List Value)} (h : (a8 B e K (.slice A n c) rs).blk b) : (a8 B e K (.slice A n' c') rs').blk b := by cases A <;> exact h
theorem sweep_pl {l : List CV} {t : Tab} (h : pl l = pl t.conns) : pl (l.filter (fun c : CV => !eB t.waiting c.1)) = ge t := by
  unfold ge; rw [← h]; unfold pl; rw [List.filter_map]; rfl
theorem sweepW_nof (t : Tab) : al t = t.waiting.filter (fun x : Tup => !nof t x) := by
  have : (fun x => decide (0 ≤ aK t x)) = fun x => !nof t x := funext fun x => by
    unfold nof
    by_cases h : aK t x < 0
    · rw [decide_eq_true h, decide_eq_false (by omega)]; rfl
    · rw [decide_eq_false h, decide_eq_true (by omega)]; rfl
  unfold al; rw [this]
theorem xw_swap2 {P : Program} {n : Nat} {w0 : World} {QX : Exit → St → Prop} {c : Code} {s1 s2 : Nat} {b0 b1 : Box} {r : List (List Value)} {fs : List Fact} (h : XW P n w0 QX c ⟨[(s1, .p 1 0), (s2, .p 0 0)], [b1, b0], [], fs⟩) : XW P n w0 QX c ⟨[(s1, .p 0 0), (s2, .p 1 0)], [b0, b1], r, fs⟩ := fun ρ σ a w hr => by
  have hA := hr.1
  have hH : XHeap w0 [b0, b1] r fs ρ σ w := hr.2
  have h01 : ρ 0 ≠ ρ 1 := fun e => by have := hH.inj 0 1 (by simp) (by simp) e; omega
  refine h (fun i => if i = 0 then ρ 1 else ρ 0) σ a w ⟨⟨hA.size, hA.defers, fun t x hx => ?_⟩, ⟨hH.below, fun i b hi => ?_, fun i j hi hj e => ?_, fun k r hr => by simp at hr, fun f hf => ⟨(hH.fact f hf).1, fun i hi => ?_⟩, hH.apart⟩⟩
  · simp only [gN] at hx
    split at hx
    · rename_i e; simp only [Option.some.injEq] at hx; subst hx
      have h0 := hA.tmps t (.p 0 0) (by simp only [gN]; rw [if_pos e])
      exact ⟨by simp [AV.wf], h0.2⟩
    · rename_i e
      split at hx
      · rename_i e2; simp only [Option.some.injEq] at hx; subst hx
        have h0 := hA.tmps t (.p 1 0) (by simp only [gN]; rw [if_neg e, if_pos e2])
        exact ⟨by simp [AV.wf], h0.2⟩
      · cases hx
  · match i, hi with
    | 0, hi => exact hH.box 1 b hi
    | 1, hi => exact hH.box 0 b hi
    | i + 2, hi => simp at hi
  · have hi' : i < 2 := hi
    have hj' : j < 2 := hj
    by_cases h1 : i = 0 <;> by_cases h2 : j = 0 <;> simp only [h1, h2, if_true, if_false] at e <;> first | omega | exact absurd e h01 | exact absurd e.symm h01
  · have h0 := (hH.fact f hf).2 0 (by simp)
    have h1 := (hH.fact f hf).2 1 (by simp)
    by_cases h : i = 0
    · simp only [h, if_true]; exact h1
    · simp only [h, if_false]; exact h0
theorem hld_hown {B b : Nat} {cs : List CV} (h : (bi cs).blk b) : (bc B cs).blk b := by
  obtain ⟨x, hx, hb⟩ := h
  exact ⟨hlF B x, List.mem_map_of_mem hx, hb⟩
end
end Go.Proofs.YtccijpdjfelbmaaGreat
