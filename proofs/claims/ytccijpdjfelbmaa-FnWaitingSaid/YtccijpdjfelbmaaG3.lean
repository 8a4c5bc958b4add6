/- Plain definitions, the machine and its rules: what this law's contracts need of them, part 3. -/
import Derived.Test.YtccijpdjfelbmaaG1
import Derived.Test.YtccijpdjfelbmaaA3
import Derived.Test.YtccijpdjfelbmaaA4
import Derived.Test.YtccijpdjfelbmaaA5
import Derived.Test.YtccijpdjfelbmaaYW
import Derived.Test.YtccijpdjfelbmaaG2
import Derived.Test.YtccijpdjfelbmaaYD
/- Contracts: slices of Piece in the laws. -/
namespace Go.Proofs.Ytccijpdjfelbmaa
section
open Go.RowKit
attribute [local go_sem] fZ fM fN fL ew er eu ez es ev ey e0 dA dC e5 dB e8 aJ cell?_grow frozen?_grow cg dX dq
attribute [local go_sem] c8 bK dr dv cC c9 bM dy dx cA dc fx bh bt cx cu
set_option linter.unusedVariables false
set_option linter.unusedSimpArgs false
end
/- Contracts (C1). -/
section
open Go.RowKit
attribute [local go_sem] fZ fM fN fL ew er eu ez es ev ey e0 dA dC e5 dB e8 aJ cell?_grow frozen?_grow cg dX dq
attribute [local go_sem] c8 bK dr dv cC c9 bM dy dx cA dc fx bh bt cx cu
attribute [local go_sem ↓] pload_implConn pstore_implConn pload_implReceiver pstore_implReceiver pload_implSegment pstore_implSegment pload_implTable pstore_implTable
attribute [local go_sem] Value.oneCell' load_implConn store_implConn load_implReceiver store_implReceiver load_implSegment store_implSegment load_implTable store_implTable
set_option linter.unusedVariables false
set_option linter.unusedSimpArgs false
end
/- The machine: connections in rows, each with a slice of its own. -/
section
open Go.RowKit
set_option linter.unusedVariables false
set_option linter.unusedSimpArgs false
def ak (x : CV) : List Value := a6 x.1 x.2
def dV (cs : List CV) : Fact where
  own := false
  p := fun w => ∀ x ∈ cs, Sl w x.2 2 (x.1.r.held.map pC)
  blk := fun b => ∃ x ∈ cs, (bz x.2 2 (x.1.r.held.map pC)).blk b
  lt := fun w b h ⟨x, hx, hb⟩ => (bz x.2 2 (x.1.r.held.map pC)).lt w b (h x hx) hb
  keep := fun w w' h hs hb x hx => (bz x.2 2 (x.1.r.held.map pC)).keep w w' (h x hx) hs fun b hbx => hb b ⟨x, hx, hbx⟩
theorem sl_block {w : World} {A : Option Addr} {n cap K j : Nat} {rs : List (List Value)} {row : List Value} (h : Sl w (.slice A n cap) K rs) (hrow : rs[j]? = some row) : ∃ b off, A = some ⟨b, off, none⟩ := by
  obtain ⟨a, cp, h1, -, -, -, h5⟩ := h
  obtain ⟨b, off, h6, -⟩ := h5 j row hrow
  simp only [Value.slice.injEq] at h1
  exact ⟨b, off, h1.1.trans h6⟩
theorem gi {w : World} {x : CV} (h : Sl w x.2 2 (x.1.r.held.map pC)) : ∃ c a cp, x = (c, .slice a c.r.held.length cp) := by
  obtain ⟨c, v⟩ := x
  obtain ⟨a, cp, hv⟩ := h.form
  exact ⟨c, a, cp, by simp only at hv; rw [hv, List.length_map]⟩
section
variable {P : Program} {n : Nat} {w0 : World} {QX : Exit → St → Prop} {st st' : St} {ops : Array Oper} {l : List Oper}
variable {fuel : Nat} {listed : Array Bool} {B : List Box} {R : List (List Value)} {ρ : Nat → Nat} {σ : Nat → Nat × Nat}
end
end
/- The machine: memory of the call's own, one slice a connection, kept together. -/
section
open Go.RowKit
set_option linter.unusedVariables false
set_option linter.unusedSimpArgs false
def ApR (f g : Fact) : Prop := (f.own = true → ∀ b, f.blk b → ¬ g.blk b) ∧ (g.own = true → ∀ b, g.blk b → ¬ f.blk b)
theorem apart_iff {fs : List Fact} : Apart fs ↔ fs.Pairwise ApR := by
  rw [List.pairwise_iff_getElem]
  constructor
  · intro h i j hi hj hij
    have e1 := List.getElem?_eq_getElem hi
    have e2 := List.getElem?_eq_getElem hj
    exact ⟨fun ho b => h i j _ _ e1 e2 (by omega) ho b, fun ho b => h j i _ _ e2 e1 (by omega) ho b⟩
  · intro h i j f g hi hj hij ho b hb
    obtain ⟨h1, rfl⟩ := List.getElem?_eq_some_iff.1 hi
    obtain ⟨h2, rfl⟩ := List.getElem?_eq_some_iff.1 hj
    rcases Nat.lt_or_gt_of_ne hij with hlt | hlt
    · exact (h i j h1 h2 hlt).1 ho b hb
    · exact (h j i h2 h1 hlt).2 ho b hb
theorem ApR.symm {f g : Fact} (h : ApR f g) : ApR g f := ⟨h.2, h.1⟩
theorem Apart.mid {p s : List Fact} {f : Fact} (h : Apart (p ++ s)) (hf : ∀ g ∈ p ++ s, ApR f g) : Apart (p ++ f :: s) := by
  rw [apart_iff] at h ⊢
  rw [List.pairwise_append] at h ⊢
  obtain ⟨h1, h2, h3⟩ := h
  refine ⟨h1, List.pairwise_cons.2 ⟨fun g hg => hf g (List.mem_append_right _ hg), h2⟩, fun a ha b hb => ?_⟩
  rcases List.mem_cons.1 hb with rfl | hb
  · exact (hf a (List.mem_append_left _ ha)).symm
  · exact h3 a ha b hb
section
variable {w0 : World} {b : List Box} {r : List (List Value)} {ρ : Nat → Nat} {σ : Nat → Nat × Nat} {w : World} {hs : List Fact}
theorem XHeap.weak {f f' : Fact} (h : XHeap w0 b r (f :: hs) ρ σ w) (ho : f.own = true) (hp : f.p w → f'.p w) (hb : ∀ q, f'.blk q → f.blk q) : XHeap w0 b r (f' :: hs) ρ σ w := by
  obtain ⟨h1, h2⟩ := h.fact f (List.mem_cons_self ..)
  refine ⟨h.below, h.box, h.inj, h.row, fun g hg => ?_, (Apart.back (gs := [f]) h.apart).cons fun g hg q hq hgq => ?_⟩
  · rcases List.mem_cons.1 hg with rfl | hg
    · exact ⟨hp h1, fun i hi hq => h2 i hi (hb _ hq)⟩
    · exact h.fact g (List.mem_cons_of_mem _ hg)
  · obtain ⟨j, hj⟩ := List.getElem?_of_mem hg
    exact h.apart 0 (j + 1) f g rfl hj (by omega) ho q (hb q hq) hgq
theorem all_put {p s : List Fact} {f : Fact} (ho : f.own = true) (h : XHeap w0 b r (f :: allF (p ++ s) :: hs) ρ σ w) : XHeap w0 b r (allF (p ++ f :: s) :: hs) ρ σ w := by
  obtain ⟨h1, h2⟩ := h.fact f (List.mem_cons_self ..)
  obtain ⟨⟨h3, h4⟩, h5⟩ := h.fact (allF (p ++ s)) (by simp)
  have hmem : ∀ g ∈ p ++ f :: s, g = f ∨ g ∈ p ++ s := fun g hg => by
    simp only [List.mem_append, List.mem_cons] at hg ⊢
    rcases hg with hg | rfl | hg
    · exact .inr (.inl hg)
    · exact .inl rfl
    · exact .inr (.inr hg)
  refine ⟨h.below, h.box, h.inj, h.row, fun g hg => ?_, (Apart.back (gs := [f, allF (p ++ s)]) h.apart).cons fun g hg q hq hgq => ?_⟩
  · rcases List.mem_cons.1 hg with rfl | hg
    · refine ⟨⟨fun k hk => ?_, h4.mid fun g hg => ⟨fun _ q hq hgq => ?_, fun _ q hgq hq => ?_⟩⟩, fun i hi hq => ?_⟩
      · rcases hmem k hk with rfl | hk
        · exact h1
        · exact h3 k hk
      · exact h.apart 0 1 f _ rfl rfl (by omega) ho q hq ⟨g, hg, hgq⟩
      · exact h.apart 1 0 _ f rfl rfl (by omega) rfl q ⟨g, hg, hgq⟩ hq
      · obtain ⟨k, hk, hkq⟩ := hq
        rcases hmem k hk with rfl | hk
        · exact h2 i hi hkq
        · exact h5 i hi ⟨k, hk, hkq⟩
    · exact h.fact g (by simp [hg])
  · obtain ⟨j, hj⟩ := List.getElem?_of_mem hg
    obtain ⟨k, hk, hkq⟩ := hq
    rcases hmem k hk with rfl | hk
    · exact h.apart 0 (j + 2) _ g rfl hj (by omega) ho q hkq hgq
    · exact h.apart 1 (j + 2) _ g rfl hj (by omega) rfl q ⟨k, hk, hkq⟩ hgq
end
def hlF (B : Nat) (x : CV) : Fact := aC B x.2 2 (x.1.r.held.map pC)
def cd (B : Nat) (cs : List CV) : Fact := allF (cs.map (hlF B))
theorem hownF_sl {B : Nat} {cs : List CV} {w : World} (h : (cd B cs).p w) : ∀ x ∈ cs, Sl w x.2 2 (x.1.r.held.map pC) := fun x hx => Own.sl (h.1 (hlF B x) (List.mem_map_of_mem hx))
theorem hownF_lo {B : Nat} {cs : List CV} {w : World} (h : (cd B cs).p w) {q : Nat} (hq : (cd B cs).blk q) : B ≤ q := by
  obtain ⟨g, hg, hq⟩ := hq
  have := h.1 g hg
  obtain ⟨x, hx, rfl⟩ := List.mem_map.1 hg
  exact ownF_lo this hq
theorem hownF_nil (w : World) (B : Nat) : (cd B []).p w := ⟨fun g hg => by simp at hg, Apart.nil⟩
theorem hownF_nob {B q : Nat} : ¬ (cd B []).blk q := fun ⟨g, hg, _⟩ => by simp at hg
section
variable {w0 : World} {b : List Box} {r : List (List Value)} {ρ : Nat → Nat} {σ : Nat → Nat × Nat} {w : World} {hs : List Fact} {B : Nat}
theorem hown_snoc {cs : List CV} {x : CV} (h : XHeap w0 b r (hlF B x :: cd B cs :: hs) ρ σ w) : XHeap w0 b r (cd B (cs ++ [x]) :: hs) ρ σ w := by
  unfold cd at h ⊢
  have : XHeap w0 b r (hlF B x :: allF (cs.map (hlF B) ++ []) :: hs) ρ σ w := by rw [List.append_nil]; exact h
  have := all_put rfl this
  rw [List.map_append]; exact this
end
theorem fB {t : List (Nat × AV)} {b : List Box} {r : List (List Value)} {fs fs' : List Fact} (h : ∀ w0 ρ σ w, XHeap w0 b r fs ρ σ w → XHeap w0 b r fs' ρ σ w) : Wk ⟨t, b, r, fs⟩ ⟨t, b, r, fs'⟩ :=
  fun n w0 ρ σ a w hr => ⟨⟨hr.1.size, hr.1.defers, hr.1.tmps⟩, h w0 ρ σ w hr.2⟩
theorem el {B B' : Nat} {cs : List CV} {q : Nat} (h : (cd B cs).blk q) : (cd B' cs).blk q := by
  obtain ⟨g, hg, hq⟩ := h
  obtain ⟨x, hx, rfl⟩ := List.mem_map.1 hg
  exact ⟨hlF B' x, List.mem_map_of_mem hx, hq⟩
theorem hownF_lower {B B0 : Nat} {cs : List CV} {w : World} (h : (cd B0 cs).p w) (hB : B ≤ B0) : (cd B cs).p w := by
  refine ⟨fun g hg => ?_, ?_⟩
  · obtain ⟨x, hx, rfl⟩ := List.mem_map.1 hg
    exact ownF_ownF (h.1 (hlF B0 x) (List.mem_map_of_mem hx)) hB
  · have h2 := h.2
    rw [apart_iff] at h2 ⊢
    rw [List.pairwise_map] at h2 ⊢
    exact h2
theorem pH {B B0 : Nat} {cs : List CV} {w' : World} (h : (cd B0 cs).p w') (hB : B ≤ B0) : (cd B cs).p w' ∧ ∀ b, (cd B cs).blk b → B0 ≤ b := ⟨hownF_lower h hB, fun b hb => hownF_lo h (el hb)⟩
theorem xo3 {w w' : World} {α : Type} {F : α → Value} {G : α → List Fact} (y : α) {v : Value} {f g h : Fact} (hv : v = F y) (hG : G y = [f, g, h]) (p : f.p w' ∧ ∀ b, f.blk b → w.heap.size ≤ b) (q : g.p w' ∧ ∀ b, g.blk b → w.heap.size ≤ b) (s : h.p w' ∧ ∀ b, h.blk b → w.heap.size ≤ b) (ha : Apart [f, g, h]) (hb : Below w.heap.size w w') : XRs w w' (.returned v) F G :=
  ⟨y, by rw [hv], fun k hk => by
    rw [hG] at hk
    simp only [List.mem_cons, List.not_mem_nil, or_false] at hk
    rcases hk with rfl | rfl | rfl
    · exact p
    · exact q
    · exact s, by rw [hG]; exact ha, hb⟩
theorem Apart.sub3 {fs : List Fact} (h : Apart fs) (m : List Nat) {f g k f' g' k' : Fact} (hp : pickF fs m = some [f, g, k]) (hm : nodupB m = true) (o1 : f.own = true) (o2 : g.own = true) (o3 : k.own = true) (h1 : ∀ b, f'.blk b → f.blk b) (h2 : ∀ b, g'.blk b → g.blk b) (h3 : ∀ b, k'.blk b → k.blk b) : Apart [f', g', k'] := by
  have h0 := apart_iff.1 (h.pickN m hm hp)
  simp only [List.pairwise_cons, List.mem_cons, List.not_mem_nil, or_false, forall_eq_or_imp, forall_eq] at h0
  obtain ⟨⟨a1, a2⟩, a3, -⟩ := h0
  have sub : ∀ {x y x' y' : Fact}, x.own = true → y.own = true → ApR x y → (∀ b, x'.blk b → x.blk b) → (∀ b, y'.blk b → y.blk b) → ApR x' y' := fun ox oy hr hx hy =>
    ⟨fun _ b hb hb' => hr.1 ox b (hx b hb) (hy b hb'), fun _ b hb hb' => hr.2 oy b (hy b hb) (hx b hb')⟩
  rw [apart_iff]
  refine List.pairwise_cons.2 ⟨fun z hz => ?_, List.pairwise_cons.2 ⟨fun z hz => ?_, List.pairwise_singleton _ _⟩⟩
  · simp only [List.mem_cons, List.not_mem_nil, or_false] at hz
    rcases hz with rfl | rfl
    · exact sub o1 o2 a1 h1 h2
    · exact sub o1 o3 a2 h1 h3
  · obtain rfl : z = k' := by simpa using hz
    exact sub o2 o3 a3 h2 h3
theorem hownF_nilp {w0 : World} : ∀ w : World, w0.heap.size ≤ w.heap.size → (cd w0.heap.size []).p w := fun w _ => hownF_nil w _
theorem own_tail {B e K N cap : Nat} {A : Option Addr} {rs : List (List Value)} {w : World} (h : (a9 B e K (.slice A N cap) rs).p w) (hN : rs.length = N) (h1 : 1 ≤ N) :
    (aC B (.slice (if cap = 1 then A else A.map (·.add (1 * K))) (N - 1) (cap - 1)) K (rs.drop 1)).p w := by
  rcases rowF_own h with ⟨h0, -⟩ | ⟨g, off, cap', h0, g1, g2, g3, g4, g5, g6⟩
  · rw [h0] at hN; simp at hN; omega
  · simp only [Value.slice.injEq] at h0
    obtain ⟨rfl, e2, rfl⟩ := h0
    by_cases hc : cap = 1
    · have hl : rs.length = 1 := by omega
      refine .inl ⟨List.eq_nil_of_length_eq_zero (by rw [List.length_drop]; omega), some ⟨g, off, none⟩, ?_⟩
      rw [if_pos hc, hc, show N = 1 by omega]
    · rw [if_neg hc]
      refine .inr ⟨g, off + 1 * K, cap - 1, ?_, g1, g2, by rw [List.length_drop]; omega, by omega, fun j hj => ?_, fun i r hr => ?_⟩
      · rw [List.length_drop, hN, Option.map_some, Addr.add_mid]
      · rw [List.length_drop] at hj
        have : K + j < rs.length * K := by
          have h2 : rs.length * K = (rs.length - 1) * K + K := by
            conv => lhs; rw [show rs.length = (rs.length - 1) + 1 by omega, Nat.succ_mul]
          omega
        have := g5 (K + j) this
        rw [show off + 1 * K + j = off + (K + j) by omega]; exact this
      · rw [List.getElem?_drop] at hr
        have := g6 (1 + i) r hr
        rw [Nat.add_mul] at this
        rw [show off + 1 * K + i * K = off + (1 * K + i * K) by omega]; exact this
theorem tail_blk {B e K N cap q : Nat} {A : Option Addr} {rs rs' : List (List Value)} (h : (aC B (.slice (if cap = 1 then A else A.map (·.add (1 * K))) (N - 1) (cap - 1)) K rs').blk q) : (a9 B e K (.slice A N cap) rs).blk q := by
  have h2 := h.2
  have hb : ∀ a : Addr, (a.add (1 * K)).block = a.block := fun a => by unfold Addr.add; split <;> rfl
  cases A with
  | none => split at h2 <;> cases h2
  | some a =>
    split at h2
    · exact h2
    · rw [Option.map_some] at h2
      have h3 : some (a.add (1 * K)).block = some q := h2
      rw [hb] at h3; exact h3
theorem tail_weak {w0 : World} {b : List Box} {r : List (List Value)} {ρ : Nat → Nat} {σ : Nat → Nat × Nat} {w : World} {hs : List Fact} {B e N cap : Nat} {A : Option Addr} {W : List Tup} (hN : W.length = N) (h1 : 1 ≤ N)
    (h : XHeap w0 b r (a9 B e 3 (.slice A N cap) (W.map a8) :: hs) ρ σ w) : XHeap w0 b r (aC B (.slice (if cap = 1 then A else A.map (·.add (1 * 3))) (N - 1) (cap - 1)) 3 ((W.drop 1).map a8) :: hs) ρ σ w := by
  rw [List.map_drop]
  exact h.weak rfl (fun hp => own_tail hp (by rw [List.length_map]; exact hN) h1) (fun q hq => tail_blk hq)
end
/- Plain definitions: marks (no program in sight). -/
section
open Go.RowKit
def marks {α : Type} (mk : Int → α) (c k : Int) (n : Nat) : List α := (List.range n).map fun (i : Nat) => mk (k + c * (i : Int))
end
/- Plain definitions: the pump (no program in sight). -/
section
open Go.RowKit
theorem ext_size (a : ByteArray) (i j : Nat) (h : j ≤ a.size) : (a.extract i j).size = j - i := by rw [ByteArray.size_extract]; omega
theorem chunkN_bd {s : Snd} {window mss : Int} (h : aM s = true) : 0 ≤ aZ s window mss ∧ s.sent + aZ s window mss ≤ s.data.size ∧ aZ s window mss ≤ fg s window ∧ 0 ≤ fg s window ∧ fg s window ≤ 1000000 := by
  obtain ⟨b0, b1, b2, b3, b4, b5, b6, b7, b8, b9, b10⟩ := ca h
  unfold aZ fg; omega
theorem chunk_text {s : Snd} {window mss : Int} (h : aM s = true) : (s.data.extract s.sent.toNat (s.sent + aZ s window mss).toNat).size = (aZ s window mss).toNat := by
  obtain ⟨b0, b1, b2, b3, b4, b5, b6, b7, b8, b9, b10⟩ := ca h
  obtain ⟨c0, c1, c2, c3, c4⟩ := chunkN_bd (window := window) (mss := mss) h
  rw [ext_size _ _ _ (by omega)]; omega
theorem wnd_s {s : Snd} {window : Int} : max 0 (max 0 (min window 1000000) - af s) = fg s window := rfl
def bm (o : Opt) : Int := if o.mss = 0 then 536 else max 1 (min o.mss 1460)
def meas (s : Snd) : Nat := (s.data.size - s.sent.toNat) + (if s.finSent then 0 else 1)
theorem sentS_fin (s : Snd) (c : Chk) (h : aM (sentS s c) = true) (hf : c.fin = true) : s.fin = true := by
  obtain ⟨-, -, -, -, -, -, -, -, b8, -, -⟩ := ca h
  exact (b8 (by simp [sentS, hf])).1
theorem next_ok {s : Snd} {window mss : Int} (h : (nC s window mss).2 = true) : aM s = true ∧ (nC s window mss).1 = ⟨ag s, s.data.extract s.sent.toNat (s.sent + aZ s window mss).toNat, aX s window mss⟩ ∧ (aZ s window mss ≠ 0 ∨ aX s window mss = true) := by
  unfold nC at h ⊢
  split at h
  · rename_i hs
    split at h
    · simp at h
    · rename_i hc
      refine ⟨hs, by rw [if_pos hs, if_neg hc], ?_⟩
      simp only [Bool.and_eq_true, decide_eq_true_eq, Bool.not_eq_true', not_and, Bool.not_eq_false] at hc
      by_cases h0 : aZ s window mss = 0
      · exact .inr (hc h0)
      · exact .inl h0
  · simp at h
theorem sent_next {s : Snd} {window mss : Int} (h : (nC s window mss).2 = true) : sO s (nC s window mss).1 = { s with sent := s.sent + aZ s window mss, finSent := s.finSent || aX s window mss } ∧ aM { s with sent := s.sent + aZ s window mss, finSent := s.finSent || aX s window mss } = true := by
  obtain ⟨hs, hc, hne⟩ := next_ok h
  have hx := chunkN_bd (window := window) (mss := mss) hs
  have ht := chunk_text (window := window) (mss := mss) hs
  have hb := ca hs
  obtain ⟨c0, c1, c2, c3, c4⟩ := hx
  obtain ⟨b0, b1, b2, b3, b4, b5, b6, b7, b8, b9, b10⟩ := hb
  have e : sentS s (nC s window mss).1 = { s with sent := s.sent + aZ s window mss, finSent := s.finSent || aX s window mss } := by
    rw [hc]; unfold sentS; simp only [ht]
    rw [show s.sent + ((aZ s window mss).toNat : Int) = s.sent + aZ s window mss by omega, al (by omega) (by omega)]
  have hs2 := hs
  unfold aM at hs2
  simp only [Bool.and_eq_true, decide_eq_true_eq, Bool.or_eq_true, Bool.not_eq_true'] at hs2
  have hok : aM { s with sent := s.sent + aZ s window mss, finSent := s.finSent || aX s window mss } = true := by
    unfold aM
    simp only [Bool.and_eq_true, decide_eq_true_eq, Bool.or_eq_true, Bool.not_eq_true', cR]
    obtain ⟨⟨⟨⟨g1, g2⟩, g3⟩, g4⟩, g5⟩ := hs2
    refine ⟨⟨⟨⟨g1, g2⟩, by omega, by omega⟩, ?_⟩, ?_⟩
    · cases hf : aX s window mss
      · cases hq : s.finSent
        · exact .inl rfl
        · right
          have := b8 hq
          exact ⟨this.1, by omega⟩
      · right
        unfold aX at hf
        simp only [Bool.and_eq_true, decide_eq_true_eq, Bool.not_eq_true'] at hf
        exact ⟨hf.1, hf.2.2.2.1⟩
    · rcases g5 with g5 | g5
      · exact .inl g5
      · cases hd : s.done
        · exact .inl rfl
        · right
          refine ⟨⟨g5.1.1, ?_⟩, g5.2⟩
          have : aX s window mss = false := by unfold aX; simp [hd]
          rw [this, g5.1.2]; rfl
  refine ⟨?_, hok⟩
  unfold sO
  rw [e, hs, hok]
  have : ((nC s window mss).1.fin && s.done) = false := by
    rw [hc]; simp only
    cases hd : s.done
    · simp
    · unfold aX; simp [hd]
  rw [this]; rfl
theorem ff {s : Snd} {window mss : Int} (h : (nC s window mss).2 = true) : meas (sO s (nC s window mss).1) < meas s := by
  obtain ⟨e, -⟩ := sent_next h
  obtain ⟨hs, hc, hne⟩ := next_ok h
  obtain ⟨c0, c1, c2, c3, c4⟩ := chunkN_bd (window := window) (mss := mss) hs
  obtain ⟨b0, b1, b2, b3, b4, b5, b6, b7, b8, b9, b10⟩ := ca hs
  rw [e]; unfold meas; simp only
  by_cases h0 : aZ s window mss = 0
  · have hf : aX s window mss = true := hne.resolve_left (fun h => h h0)
    have hq : s.finSent = false := by unfold aX at hf; simp at hf; exact hf.2.1
    simp [h0, hf, hq]
  · cases hq : s.finSent <;> cases hf : aX s window mss <;> simp <;> omega
def dz (s : Snd) (window mss : Int) : Snd × List Chk :=
  if _h : (nC s window mss).2 = true then ((dz (sO s (nC s window mss).1) window mss).1, (nC s window mss).1 :: (dz (sO s (nC s window mss).1) window mss).2) else (s, [])
termination_by meas s
decreasing_by all_goals exact ff (by assumption)
def fa (c : Con) (ch : Chk) : Seg := ⟨c.t.my, c.t.port, ch.seq, c.r.next, (if ch.text.toList.isEmpty then 16 else 24) + (if ch.fin then 1 else 0), wO c.r, ⟨0, -1, false, false, 0, 0⟩, ch.text⟩
def segFl (ch : Chk) (f : Bool) : Int := (if ch.text.toList.isEmpty then 16 else 24) + (if f then 1 else 0)
theorem segFl_or {ch : Chk} {ka : Int} (h : ka = segFl ch false) : IntKind.i64.wrap (BitVec.ofInt 64 ka ||| BitVec.ofInt 64 1).toNat = ka + 1 := by
  subst h; unfold segFl; split <;> decide
def tmr {α : Type} (c : Con) (l : List α) : Int := if l.isEmpty then c.timer else if c.timer = 0 then 3 else c.timer
def pump (c : Con) (window : Int) : Con × List Seg :=
  if aE c && (!decide (c.state = 8) && !decide (c.state = 7)) then
    ({ c with s := (dz c.s window (bm c.o)).1, timer := tmr c ((dz c.s window (bm c.o)).2.map (fa c)) }, (dz c.s window (bm c.o)).2.map (fa c))
  else (c, [])
theorem pumpL_step {c : Con} {s0 s : Snd} {L : List Seg} {row : Seg} {window mss : Int} (h : (nC s window mss).2 = true) (hrow : fa c (nC s window mss).1 = row)
    (hk : (dz s0 window mss).2.map (fa c) = L ++ (dz s window mss).2.map (fa c)) : (dz s0 window mss).2.map (fa c) = (L ++ [row]) ++ (dz (sO s (nC s window mss).1) window mss).2.map (fa c) := by
  rw [hk, dz, dif_pos h, ← hrow]; simp
theorem pumpS_step {s0 s : Snd} {window mss : Int} (h : (nC s window mss).2 = true) (hk : (dz s0 window mss).1 = (dz s window mss).1) : (dz s0 window mss).1 = (dz (sO s (nC s window mss).1) window mss).1 := by
  rw [hk, dz, dif_pos h]
theorem pumpL_end {c : Con} {s0 s : Snd} {L : List Seg} {window mss : Int} (h : (nC s window mss).2 = false) (hk : (dz s0 window mss).2.map (fa c) = L ++ (dz s window mss).2.map (fa c)) : (dz s0 window mss).2.map (fa c) = L := by
  rw [hk, dz, dif_neg (by rw [h]; simp)]; simp
theorem pumpS_end {s0 s : Snd} {window mss : Int} (h : (nC s window mss).2 = false) (hk : (dz s0 window mss).1 = (dz s window mss).1) : (dz s0 window mss).1 = s := by
  rw [hk, dz, dif_neg (by rw [h]; simp)]
theorem pump_yes {c : Con} {s : Snd} {L : List Seg} {window t : Int} (h1 : aE c = true) (h2 : ¬ c.state = 8) (h3 : ¬ c.state = 7) (hS : (dz c.s window (bm c.o)).1 = s) (hL : (dz c.s window (bm c.o)).2.map (fa c) = L) (ht : tmr c L = t) : pump c window = ({ c with s := s, timer := t }, L) := by
  unfold pump; rw [hS, hL, ht, if_pos (by simp [h1, h2, h3])]
theorem tmr_next {α : Type} {c : Con} {l : List α} {x : α} {t t' : Int} (h : t = tmr c l) (h' : (if t = 0 then 3 else t) = t') : t' = tmr c (l ++ [x]) := by
  subst h; subst h'; unfold tmr
  cases l with
  | nil => simp
  | cons a l => simp; split <;> simp [*]
theorem row_len {l : List Seg} {x : Seg} {a b n : Nat} (h : l.length + a ≤ n) (hb : b < a) : (l ++ [x]).length + b ≤ n := by simp; omega
theorem conOk_s {c : Con} (h : aE c = true) : aM c.s = true := by
  simp only [aE, dH, Bool.and_eq_true] at h; exact h.1.2.1
theorem meas_le {s : Snd} (h : aM s = true) : meas s ≤ 49 := by
  obtain ⟨b0, b1, b2, b3, b4, b5, b6, b7, b8, b9, b10⟩ := ca h
  unfold meas; split <;> omega
theorem pumpC_len (window mss : Int) (s : Snd) : (dz s window mss).2.length ≤ meas s := by
  induction hn : meas s using Nat.strongRecOn generalizing s with
  | _ n ih =>
    rw [dz]; split
    · rename_i h
      have h1 := ff h
      have := ih _ (by omega) (sO s (nC s window mss).1) rfl
      simp only [List.length_cons]; omega
    · simp
theorem fz (c : Con) (window : Int) (h : c.r.held.length ≤ 1048576) : (pump c window).1.r.held.length ≤ 1048576 ∧ (pump c window).2.length ≤ 49 := by
  unfold pump; split
  · rename_i hc
    refine ⟨h, ?_⟩
    simp only [Bool.and_eq_true] at hc
    have hs : aM c.s = true := by have := hc.1; simp only [aE, dH, Bool.and_eq_true] at this; exact this.1.2.1
    have := pumpC_len window (bm c.o) c.s; have := meas_le hs
    simp only [List.length_map]; omega
  · exact ⟨h, by simp⟩
end
/- Plain definitions: calls and ticks (no program in sight). -/
section
open Go.RowKit
def shut (c : Con) : Con × List Seg :=
  if aE c then (if c.state = 1 then pump { c with s := { c.s with fin := true }, state := 2 } c.window else if c.state = 4 then pump { c with s := { c.s with fin := true }, state := 6 } c.window else (c, [])) else (c, [])
def write (c : Con) (text : ByteArray) : Con × Int × List Seg :=
  if aE c && (decide (c.state = 1) || decide (c.state = 4)) then ((pump { c with s := (aN c.s text).1 } c.window).1, (aN c.s text).2, (pump { c with s := (aN c.s text).1 } c.window).2) else (c, 0, [])
def aT (c : Con) : Con × List Seg :=
  if waits c then
    (if c.timer = 0 then ({ c with timer := if c.state = 7 then 3 else 2 }, [])
     else if 0 < c.timer - 1 then ({ c with timer := c.timer - 1 }, [])
     else if c.state = 7 then ({ c with state := 8, timer := c.timer - 1, tries := 0 }, [])
     else if c.tries = 3 then ({ c with state := 8, timer := 0, tries := 0 }, [{ bQ c with flags := 20 }])
     else ({ (pump { c with s := ac c.s, timer := c.timer - 1, tries := c.tries + 1 } (max 1 c.window)).1 with timer := 3 }, (pump { c with s := ac c.s, timer := c.timer - 1, tries := c.tries + 1 } (max 1 c.window)).2))
  else if aE c then ({ c with timer := 0, tries := 0 }, []) else (c, [])
theorem fX {c : Con} (h : aE c = true) : 0 ≤ c.most ∧ c.most ≤ 1073725440 ∧ 0 ≤ c.window ∧ c.window ≤ 1073725440 ∧ 0 ≤ c.timer ∧ c.timer ≤ 4 ∧ 0 ≤ c.tries ∧ c.tries ≤ 3 ∧ 1 ≤ c.state ∧ c.state ≤ 8 := by
  simp only [aE, dH, ea, Bool.and_eq_true] at h
  obtain ⟨⟨-, -, -, -, h1⟩, ⟨h2, h3, h4, h5⟩, -⟩ := h
  rw [inB_tt] at h1 h2 h3 h4 h5
  refine ⟨by omega, by omega, by omega, by omega, by omega, ?_, by omega, by omega, by omega, by omega⟩
  split at h4 <;> omega
theorem waits_ok {c : Con} (h : waits c = true) : aE c = true := by
  unfold waits at h; simp only [Bool.and_eq_true] at h; exact h.1
theorem shut_bd (c : Con) (h : c.r.held.length ≤ 1048576) : (shut c).1.r.held.length ≤ 1048576 ∧ (shut c).2.length ≤ 49 := by
  unfold shut; (repeat' split) <;> first | exact fz _ _ h | exact ⟨h, by simp⟩
theorem write_bd (c : Con) (t : ByteArray) (h : c.r.held.length ≤ 1048576) : (write c t).1.r.held.length ≤ 1048576 ∧ (write c t).2.2.length ≤ 49 := by
  unfold write; split
  · exact fz _ _ h
  · exact ⟨h, by simp⟩
theorem tickConn_bd (c : Con) (h : c.r.held.length ≤ 1048576) : (aT c).1.r.held.length ≤ 1048576 ∧ (aT c).2.length ≤ 49 := by
  unfold aT; (repeat' split) <;> first | exact fz _ _ h | exact ⟨h, by simp⟩
end
/- Plain definitions: what is heard, and ae (no program in sight). -/
section
open Go.RowKit
def cP (c : Con) (g : Seg) : Con :=
  if (aK c.s g.ack).2 then
    (if (¬ (aK c.s g.ack).1.una = c.s.una ∨ af (aK c.s g.ack).1 = 0) ∧ ¬ c.state = 7 then
      { c with s := (aK c.s g.ack).1, window := cj g.window c.o, most := max c.most (cj g.window c.o), tries := 0, timer := if 0 < af (aK c.s g.ack).1 then 3 else 0 }
     else { c with s := (aK c.s g.ack).1, window := cj g.window c.o, most := max c.most (cj g.window c.o) })
  else c
def fq (c : Con) (g : Seg) : Rcv := if cR c.state 1 3 then ah c.r g.seq g.body (cL g.flags 1) else c.r
def heard (c : Con) (g : Seg) : Con := if ax c g = 5 then bT { cP c g with r := fq c g } else c
def cz (c : Con) (g : Seg) : Con × List Seg :=
  if c.state = 8 then (c, []) else ((pump c c.window).1, if 0 < cD g ∧ (pump c c.window).2.length = 0 then [bQ c] else (pump c c.window).2)
def ae (c : Con) (g : Seg) : Con × List Seg × Int :=
  if ax c g = 1 then (c, [], 1)
  else if ax c g = 2 then ({ c with state := 8, timer := 0, tries := 0 }, [], 2)
  else if ax c g = 3 then (c, [bQ c], 3)
  else if ax c g = 4 then (if c.state = 7 ∧ cL g.flags 1 = true then { c with timer := 4 } else c, [bQ c], 4)
  else ((cz (heard c g) g).1, (cz (heard c g) g).2, 5)
theorem received_ack {c : Con} {g : Seg} {tm : Int} (h : ax c g = 4) (htm : tm = if ax c g = 4 ∧ c.state = 7 ∧ cL g.flags 1 = true then 4 else c.timer) : ae c g = ({ c with timer := tm }, [bQ c], 4) := by
  unfold ae; rw [if_neg (by omega), if_neg (by omega), if_neg (by omega), if_pos h]
  by_cases hx : c.state = 7 ∧ cL g.flags 1 = true
  · rw [if_pos hx, htm, if_pos ⟨h, hx⟩]
  · rw [if_neg hx, htm, if_neg (fun e => hx e.2)]
theorem received_chal {c : Con} {g : Seg} {tm : Int} (h : ax c g = 3) (htm : tm = if ax c g = 4 ∧ c.state = 7 ∧ cL g.flags 1 = true then 4 else c.timer) : ae c g = ({ c with timer := tm }, [bQ c], 3) := by
  unfold ae; rw [if_neg (by omega), if_neg (by omega), if_pos h, htm, if_neg (fun e => by omega)]
theorem verdict_rng (c : Con) (g : Seg) : 1 ≤ ax c g ∧ ax c g ≤ 5 := by unfold ax; (repeat' split) <;> omega
theorem verdict_fine {c : Con} {g : Seg} (h : ax c g = 5) : aE c = true ∧ ¬ c.state = 8 ∧ dk g = true ∧ cL g.flags 4 = false ∧ cL g.flags 2 = false ∧ dw c g = true ∧ cL g.flags 16 = true ∧ fk c g.ack = true := by
  unfold ax at h
  split at h
  · omega
  rename_i h1
  simp only [Bool.or_eq_true, Bool.not_eq_true', decide_eq_true_eq, not_or, Bool.not_eq_false] at h1
  split at h
  · (repeat' split at h) <;> omega
  split at h
  · omega
  split at h
  · omega
  split at h
  · omega
  split at h
  · omega
  simp_all
theorem conOk_r {c : Con} (h : aE c = true) : rO c.r = true ∧ bL c.o = true ∧ eR c.t = true := by
  simp only [aE, dH, Bool.and_eq_true] at h; exact ⟨h.1.2.2.1, h.1.2.2.2.1, h.1.1⟩
theorem segmentOk_w {g : Seg} (h : dk g = true) : 0 ≤ g.window ∧ g.window ≤ 65535 := by
  simp only [dk, Bool.and_eq_true] at h; exact wordOk16_bd h.2.2.1
theorem farW_bd {w : Int} {o : Opt} (h : 0 ≤ w ∧ w ≤ 65535) (ho : bL o = true) : 0 ≤ cj w o ∧ cj w o ≤ 1073725440 := by
  have := gk ho
  unfold cj
  exact ⟨Int.mul_nonneg h.1 (Int.pow_nonneg (by omega)), far_le h.1 h.2 (by omega) (by omega)⟩
theorem pcs_bd : ∀ (l : List Int) (acc : List Pce) (j : Nat), (∀ p ∈ acc, 0 ≤ p.off ∧ p.off + (p.text.size : Int) ≤ (j : Int)) → ∀ p ∈ gb acc j l, 0 ≤ p.off ∧ p.off + (p.text.size : Int) ≤ ((j + l.length : Nat) : Int)
  | [], acc, j, h, p, hp => by simpa using h p hp
  | x :: l, acc, j, h, p, hp => by
    rw [gb] at hp
    have := pcs_bd l _ (j + 1) (fun q hq => by
      split at hq
      · have := h q hq; omega
      · have := addByte_bd h q hq; omega) p hp
    rw [List.length_cons]; omega
theorem arrived_sz {r : Rcv} {seq : Int} {t : ByteArray} {fin : Bool} {H T D : Nat} (h1 : r.held.length ≤ H) (h2 : ∀ p ∈ r.held, p.text.size ≤ T) (h3 : r.data.size ≤ D) (hH : 3 ≤ H) (hT : 33 ≤ T) (hD : 65 ≤ D) :
    (ah r seq t fin).held.length ≤ H ∧ (∀ p ∈ (ah r seq t fin).held, p.text.size ≤ T) ∧ (ah r seq t fin).data.size ≤ D := by
  unfold ah
  split
  · rename_i hok
    simp only [Bool.and_eq_true] at hok
    have hr := rok_facts hok.1
    have hl := allIn_len r seq t
    have hb : ∀ p ∈ gb [] 0 ((dD r seq t).drop (eS (dD r seq t))), p.text.size ≤ T := fun p hp => by
      have := pcs_bd _ [] 0 (by simp) p hp
      rw [List.length_drop, hl] at this; omega
    have hd : (r.data ++ ai ((dD r seq t).take (eS (dD r seq t)))).size ≤ D := by
      rw [ByteArray.size_append, bstr_len, List.length_take, hl]; omega
    split
    · exact ⟨h1, h2, h3⟩
    · rename_i hn
      split
      · exact ⟨by dsimp only; omega, hb, hd⟩
      · exact ⟨by dsimp only; omega, hb, hd⟩
  · exact ⟨h1, h2, h3⟩
theorem turned_w (c : Con) : (bT c).window = c.window ∧ (bT c).s = c.s ∧ (bT c).r = c.r ∧ (bT c).most = c.most ∧ (bT c).o = c.o ∧ (bT c).t = c.t := by unfold bT; (repeat' split) <;> exact ⟨rfl, rfl, rfl, rfl, rfl, rfl⟩
theorem heardMid_eq (c : Con) (g : Seg) : (cP c g).r = c.r ∧ (cP c g).t = c.t ∧ (cP c g).state = c.state ∧ (cP c g).o = c.o := by unfold cP; (repeat' split) <;> exact ⟨rfl, rfl, rfl, rfl⟩
theorem heardR_sz {c : Con} {g : Seg} {H T D : Nat} (h1 : c.r.held.length ≤ H) (h2 : ∀ p ∈ c.r.held, p.text.size ≤ T) (h3 : c.r.data.size ≤ D) (hH : 3 ≤ H) (hT : 33 ≤ T) (hD : 65 ≤ D) :
    (fq c g).held.length ≤ H ∧ (∀ p ∈ (fq c g).held, p.text.size ≤ T) ∧ (fq c g).data.size ≤ D := by
  unfold fq; split
  · exact arrived_sz h1 h2 h3 hH hT hD
  · exact ⟨h1, h2, h3⟩
theorem heard_r (c : Con) (g : Seg) : (heard c g).r = fq c g ∨ (heard c g).r = c.r := by
  unfold heard; split
  · rw [(turned_w _).2.2.1]; exact .inl rfl
  · exact .inr rfl
theorem heard_sz {c : Con} {g : Seg} {H T D : Nat} (h1 : c.r.held.length ≤ H) (h2 : ∀ p ∈ c.r.held, p.text.size ≤ T) (h3 : c.r.data.size ≤ D) (hH : 3 ≤ H) (hT : 33 ≤ T) (hD : 65 ≤ D) :
    (heard c g).r.held.length ≤ H ∧ (∀ p ∈ (heard c g).r.held, p.text.size ≤ T) ∧ (heard c g).r.data.size ≤ D := by
  rcases heard_r c g with e | e <;> rw [e]
  · exact heardR_sz h1 h2 h3 hH hT hD
  · exact ⟨h1, h2, h3⟩
theorem heard_w {c : Con} {g : Seg} (h : ax c g = 5) : 0 ≤ (heard c g).window ∧ (heard c g).window ≤ 1073725440 := by
  obtain ⟨h1, -, h3, -⟩ := verdict_fine h
  have hf := farW_bd (segmentOk_w h3) (conOk_r h1).2.1
  have hc := fX h1
  unfold heard; rw [if_pos h, (turned_w _).1]
  show 0 ≤ (cP c g).window ∧ (cP c g).window ≤ _
  unfold cP; (repeat' split) <;> first | exact hf | exact ⟨hc.2.2.1, hc.2.2.2.1⟩
end
/- Plain definitions: sizes of what is drawn (no program in sight). -/
section
open Go.RowKit
def RB (H : Nat) (r : Rcv) : Prop := r.held.length ≤ H ∧ (∀ p ∈ r.held, p.text.size ≤ 33) ∧ r.data.size ≤ 65
theorem RB.kn {r : Rcv} (h : RB 4 r) : r.held.length ≤ 1048576 := Nat.le_trans h.1 (by decide)
theorem RB.hm {r : Rcv} {H : Nat} (h : RB H r) : ∀ p ∈ r.held, p.text.size ≤ 1048576 := fun p hp => Nat.le_trans (h.2.1 p hp) (by decide)
theorem RB.sz {r : Rcv} {H : Nat} (h : RB H r) : r.data.size ≤ 4611686018427387904 := Nat.le_trans h.2.2 (by decide)
theorem RB.up {r : Rcv} (h : RB 3 r) : RB 4 r := ⟨Nat.le_trans h.1 (by decide), h.2.1, h.2.2⟩
theorem RB.new (n : Int) : RB 3 (rN n) := ⟨Nat.zero_le _, fun p hp => by simp [rN] at hp, Nat.zero_le _⟩
theorem RB.arr {r : Rcv} {H : Nat} (h : RB H r) (hH : 3 ≤ H) (seq : Int) (t : ByteArray) (fin : Bool) : RB H (ah r seq t fin) := arrived_sz h.1 h.2.1 h.2.2 hH (Nat.le_refl _) (Nat.le_refl _)
theorem RB.taken {r : Rcv} {H : Nat} (h : RB H r) (n : Int) : RB H (ay r n).1 := ⟨by rw [gc]; exact h.1, by rw [gc]; exact h.2.1, Nat.le_trans (takenIn_sz r n) h.2.2⟩
theorem RB.more {r : Rcv} (h : RB 3 r) (p : Pce) (hp : p.text.size ≤ 33) {d : ByteArray} (hd : d.size ≤ 65) {next fin : Int} {done : Bool} : RB 4 ⟨next, d, r.held ++ [p], fin, done⟩ :=
  ⟨by rw [List.length_append]; have := h.1; simp; omega, fun q hq => by
    rcases List.mem_append.1 hq with hq | hq
    · exact h.2.1 q hq
    · rw [List.mem_singleton] at hq; subst hq; exact hp, hd⟩
theorem pump_r (c : Con) (w : Int) : (pump c w).1.r = c.r := by unfold pump; split <;> rfl
theorem RB.pump {c : Con} {H : Nat} (h : RB H c.r) (w : Int) : RB H (Go.Proofs.Ytccijpdjfelbmaa.pump c w).1.r := by rw [pump_r]; exact h
theorem RB.write {c : Con} {H : Nat} (h : RB H c.r) (t : ByteArray) : RB H (Go.Proofs.Ytccijpdjfelbmaa.write c t).1.r := by unfold Go.Proofs.Ytccijpdjfelbmaa.write; split <;> first | (dsimp only; rw [pump_r]; exact h) | exact h
theorem RB.shut {c : Con} {H : Nat} (h : RB H c.r) : RB H (Go.Proofs.Ytccijpdjfelbmaa.shut c).1.r := by
  unfold Go.Proofs.Ytccijpdjfelbmaa.shut; (repeat' split) <;> first | exact h | (rw [pump_r]; exact h)
theorem RB.tick {c : Con} {H : Nat} (h : RB H c.r) : RB H (aT c).1.r := by
  unfold aT; (repeat' split) <;> first | exact h | (dsimp only; rw [pump_r]; exact h)
theorem RB.read {c : Con} {H : Nat} (h : RB H c.r) (n : Int) : RB H (bu c n).1.r := by
  unfold bu; (repeat' split) <;> first | exact h | exact RB.taken h n
theorem RB.heard {c : Con} {H : Nat} (h : RB H c.r) (hH : 3 ≤ H) (g : Seg) : RB H (Go.Proofs.Ytccijpdjfelbmaa.heard c g).r := heard_sz h.1 h.2.1 h.2.2 hH (Nat.le_refl _) (Nat.le_refl _)
theorem RB.recv {c : Con} {H : Nat} (h : RB H c.r) (hH : 3 ≤ H) (g : Seg) : RB H (ae c g).1.r := by
  unfold ae cz; (repeat' split) <;> first | exact h | exact RB.heard h hH g | exact RB.pump (RB.heard h hH g) _
theorem RB.newC (t : Tup) (iss irs : Int) (o : Opt) (w : Int) : RB 3 (cY t iss irs o w).r := by
  unfold cY; (repeat' split) <;> exact RB.new _
end
/- The machine: a drawn table: rows of connections whose slices are the call's own, and may be shared. -/
section
open Go.RowKit
set_option linter.unusedVariables false
set_option linter.unusedSimpArgs false
def hnF (B : Nat) (x : CV) : Fact := eF B x.2 2 (x.1.r.held.map pC)
def fQ (B : Nat) (cs : List CV) : Fact where
  own := true
  p := fun w => ∀ x ∈ cs, (hnF B x).p w
  blk := fun b => ∃ x ∈ cs, (hnF B x).blk b
  lt := fun w b h hb => by obtain ⟨x, hx, hb⟩ := hb; exact (hnF B x).lt w b (h x hx) hb
  keep := fun w w' h hs hb x hx => (hnF B x).keep w w' (h x hx) hs (fun b hq => hb b ⟨x, hx, hq⟩)
theorem hwF_sl {B : Nat} {cs : List CV} {w : World} (h : (fQ B cs).p w) : ∀ x ∈ cs, Sl w x.2 2 (x.1.r.held.map pC) := fun x hx => (h x hx).1
theorem hwF_lo {B : Nat} {cs : List CV} {w : World} (h : (fQ B cs).p w) {q : Nat} (hq : (fQ B cs).blk q) : B ≤ q := by
  obtain ⟨x, hx, hq⟩ := hq
  exact newF_lo (h x hx) hq
theorem c6 {B B' : Nat} {cs : List CV} {q : Nat} (h : (fQ B cs).blk q) : (fQ B' cs).blk q := h
theorem d6 {B B' : Nat} {cs : List CV} {w : World} (h : (fQ B cs).p w) (hb : ∀ b, (fQ B cs).blk b → B' ≤ b) : (fQ B' cs).p w := fun x hx => eg (h x hx) (fun b hq => hb b ⟨x, hx, hq⟩)
theorem hwF_hown {B : Nat} {cs : List CV} {w : World} (h : (cd B cs).p w) : (fQ B cs).p w := fun x hx => newF_own (h.1 (hlF B x) (List.mem_map_of_mem hx)) (fun b hb => ownF_lo (h.1 (hlF B x) (List.mem_map_of_mem hx)) hb)
theorem hwF_hblk {B B' : Nat} {cs : List CV} {q : Nat} (h : (fQ B cs).blk q) : (cd B' cs).blk q := by
  obtain ⟨x, hx, hq⟩ := h
  exact ⟨hlF B' x, List.mem_map_of_mem hx, hq⟩
section
variable {w0 : World} {b : List Box} {r : List (List Value)} {ρ : Nat → Nat} {σ : Nat → Nat × Nat} {w : World} {hs : List Fact} {B : Nat}
theorem hw_dup {cs : List CV} {x : CV} (hx : x ∈ cs) (h : XHeap w0 b r (fQ B cs :: hs) ρ σ w) : XHeap w0 b r (fQ B (cs ++ [x]) :: hs) ρ σ w := by
  have hm : ∀ y ∈ cs ++ [x], y ∈ cs := fun y hy => by
    rcases List.mem_append.1 hy with hy | hy
    · exact hy
    · rw [List.mem_singleton] at hy; subst hy; exact hx
  exact h.weak rfl (fun hp y hy => hp y (hm y hy)) fun q hq => let ⟨y, hy, hyq⟩ := hq; ⟨y, hm y hy, hyq⟩
theorem hw_snoc {cs : List CV} {x : CV} (h : XHeap w0 b r (eF B x.2 2 (x.1.r.held.map pC) :: fQ B cs :: hs) ρ σ w) : XHeap w0 b r (fQ B (cs ++ [x]) :: hs) ρ σ w := by
  obtain ⟨h1, h2⟩ := h.fact (eF B x.2 2 (x.1.r.held.map pC)) (List.mem_cons_self ..)
  obtain ⟨h3, h4⟩ := h.fact (fQ B cs) (by simp)
  refine ⟨h.below, h.box, h.inj, h.row, fun g hg => ?_, (Apart.back (gs := [eF B x.2 2 (x.1.r.held.map pC), fQ B cs]) h.apart).cons fun g hg q hq hgq => ?_⟩
  · rcases List.mem_cons.1 hg with rfl | hg
    · refine ⟨fun y hy => ?_, fun i hi hq => ?_⟩
      · rcases List.mem_append.1 hy with hy | hy
        · exact h3 y hy
        · rw [List.mem_singleton] at hy; subst hy; exact h1
      · obtain ⟨y, hy, hyq⟩ := hq
        rcases List.mem_append.1 hy with hy | hy
        · exact h4 i hi ⟨y, hy, hyq⟩
        · rw [List.mem_singleton] at hy; subst hy; exact h2 i hi hyq
    · exact h.fact g (by simp [hg])
  · obtain ⟨j, hj⟩ := List.getElem?_of_mem hg
    obtain ⟨y, hy, hyq⟩ := hq
    rcases List.mem_append.1 hy with hy | hy
    · exact h.apart 1 (j + 2) _ g rfl hj (by omega) rfl q ⟨y, hy, hyq⟩ hgq
    · rw [List.mem_singleton] at hy; subst hy; exact h.apart 0 (j + 2) _ g rfl hj (by omega) rfl q hyq hgq
end
theorem pHw {B B0 : Nat} {cs : List CV} {w' : World} (h : (fQ B0 cs).p w') (hB : B ≤ B0) : (fQ B cs).p w' ∧ ∀ b, (fQ B cs).blk b → B0 ≤ b := ⟨d6 h (fun b hb => Nat.le_trans hB (hwF_lo h hb)), fun b hb => hwF_lo h (c6 hb)⟩
theorem xcm_curT {P : Program} {w0 : World} {fs : List Fact} {f : FuncId} {args : List Value} {B g T N e e' : Nat} {V : Value} {α : Type} {F : α → Value} {v u : α → Value} {cs : α → List CV} {rs : α → List (List Value)}
    (h : ∀ w, w0.heap.size ≤ w.heap.size → (∀ g ∈ fs, g.p w) → Calls P f args.toArray w fun x' w' => ∃ y, x' = .returned (F y) ∧ (eU B g T V N).p w' ∧ (a9 w.heap.size e 25 (v y) ((cs y).map ak)).p w' ∧ (fQ w.heap.size (cs y)).p w' ∧ (a9 w.heap.size e' 3 (u y) (rs y)).p w' ∧ Apart [a9 w.heap.size e 25 (v y) ((cs y).map ak), fQ w.heap.size (cs y), a9 w.heap.size e' 3 (u y) (rs y)] ∧ g < w.heap.size ∧ Chgd (fun b => b = g) w w') :
    XCM P w0 fs (eU B g T V N).blk f args F (fun y => [a9 w0.heap.size e 25 (v y) ((cs y).map ak), fQ w0.heap.size (cs y), a9 w0.heap.size e' 3 (u y) (rs y), eU B g T V N]) := fun w hw hf => (h w hw hf).mono fun x' w' ⟨y, he, hc, h1, h2, h3, ha, hg, hb⟩ =>
  ⟨y, he, fun x hx => by
    simp only [List.mem_cons, List.not_mem_nil, or_false] at hx
    rcases hx with rfl | rfl | rfl | rfl
    · exact ⟨ga h1 hw, fun b hb => .inr (fm h1 hb)⟩
    · exact ⟨d6 h2 (fun b hb => Nat.le_trans hw (hwF_lo h2 hb)), fun b hb => .inr (hwF_lo h2 (c6 hb))⟩
    · exact ⟨ga h3 hw, fun b hb => .inr (fm h3 hb)⟩
    · exact ⟨hc, fun b hb => .inl hb⟩,
    by
      have h0 := apart_iff.1 ha
      simp only [List.pairwise_cons, List.mem_cons, List.not_mem_nil, or_false, forall_eq_or_imp, forall_eq] at h0
      obtain ⟨⟨a1, a2⟩, a3, -⟩ := h0
      have cr : ∀ {f' f : Fact}, (∀ b, f'.blk b → f.blk b) → (∀ b, f.blk b → w.heap.size ≤ b) → ApR f' (eU B g T V N) := fun hs hl => ⟨fun _ b hb hbg => by
        have e1 : b = g := hbg
        have := hl b (hs b hb); omega, fun _ b hbg hb => by
        have e1 : b = g := hbg
        have := hl b (hs b hb); omega⟩
      have sub : ∀ {x y x' y' : Fact}, x.own = true → y.own = true → ApR x y → (∀ b, x'.blk b → x.blk b) → (∀ b, y'.blk b → y.blk b) → ApR x' y' := fun ox oy hr hx hy =>
        ⟨fun _ b hb hb' => hr.1 ox b (hx b hb) (hy b hb'), fun _ b hb hb' => hr.2 oy b (hy b hb) (hx b hb')⟩
      refine apart_iff.2 (List.pairwise_cons.2 ⟨fun z hz => ?_, List.pairwise_cons.2 ⟨fun z hz => ?_, List.pairwise_cons.2 ⟨fun z hz => ?_, List.pairwise_singleton _ _⟩⟩⟩)
      · simp only [List.mem_cons, List.not_mem_nil, or_false] at hz
        rcases hz with rfl | rfl | rfl
        · exact sub rfl rfl a1 (fun b h => h) (fun b h => c6 h)
        · exact sub rfl rfl a2 (fun b h => h) (fun b h => h)
        · exact cr (fun b h => h) (fun b h => fm h1 h)
      · simp only [List.mem_cons, List.not_mem_nil, or_false] at hz
        rcases hz with rfl | rfl
        · exact sub rfl rfl a3 (fun b h => c6 h) (fun b h => h)
        · exact cr (fun b h => c6 h) (fun b h => hwF_lo h2 h)
      · obtain rfl : z = eU B g T V N := by simpa using hz
        exact cr (fun b h => h) (fun b h => fm h3 h), hb⟩
end
/- Plain laws: of tables that are drawn: what is put, taken, swept (no program in sight). -/
section
open Go.RowKit
set_option linter.unusedVariables false
theorem RB.fit {c : Con} (h : RB 4 c.r) : bO c := ⟨trivial, Nat.le_trans h.2.2 (by decide), h.kn, h.hm⟩
theorem putP_len1 (t : Tab) (c : Con) (l : Lim) : (putP t c l).length ≤ t.conns.length + 1 := by
  unfold putP pl; split <;> simp
theorem putW_len1 (t : Tab) (c : Con) (l : Lim) : (fJ t c l).length ≤ t.waiting.length + 1 := by
  unfold fJ; split <;> simp
theorem takeW_le (t : Tab) : (cq t).length ≤ t.waiting.length := by unfold cq; rw [List.length_drop]; omega
end
/- Plain laws: a new connection (no program in sight). -/
section
open Go.RowKit
theorem sameL_self {α : Type} {eq : α → α → Bool} (h : ∀ x, eq x x = true) (l : List α) : fF eq l l = true := sameL_yes rfl fun i x y h1 h2 => by
  rw [h1] at h2; simp only [Option.some.injEq] at h2; subst h2; exact h x
theorem sameConn_self (c : Con) : dh c c = true := by
  simp [dh, bW, bG, sndEq, optEq, sameL_self (eq := pceEq) (fun x => by simp [pceEq])]
end
end Go.Proofs.Ytccijpdjfelbmaa
