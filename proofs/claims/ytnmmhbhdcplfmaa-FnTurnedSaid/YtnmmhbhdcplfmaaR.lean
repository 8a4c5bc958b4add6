/- How a slice of structs reads: its rows of cells. -/
import Derived.Test.YtnmmhbhdcplfmaaB
import Derived.Deep.MidRow
namespace Go.Proofs.Ytnmmhbhdcplfmaa
open Go.RowKit
set_option linter.unusedVariables false
set_option linter.unusedSimpArgs false

def pceCells (p : Pce) : List Value := [.int .i64 p.off, .string p.text]
def segCells (g : Seg) : List Value := [.int .i64 g.src, .int .i64 g.dst, .int .i64 g.seq, .int .i64 g.ack, .int .i64 g.flags, .int .i64 g.window, .int .i64 g.o.mss, .int .i64 g.o.scale, .bool g.o.sack, .bool g.o.stamp, .int .i64 g.o.val, .int .i64 g.o.echo, .string g.body]

def Sl (w : World) (v : Value) (k : Nat) (rs : List (List Value)) : Prop :=
  ∃ a cap, v = .slice a rs.length cap ∧ rs.length ≤ cap ∧ cap ≤ maxLen ∧ (a = none → cap = 0) ∧
    ∀ i r, rs[i]? = some r → ∃ b off, a = some ⟨b, off, none⟩ ∧ b < w.heap.size ∧ w.rangeAt b (off + i * k) r

theorem Sl.kept {w w' : World} {v : Value} {k : Nat} {rs : List (List Value)} (h : Sl w v k rs) {B : Nat} (hb : Below B w w') (hB : w.heap.size ≤ B) : Sl w' v k rs := by
  obtain ⟨a, cap, h1, h2, h3, h4, h5⟩ := h
  refine ⟨a, cap, h1, h2, h3, h4, fun i r hr => ?_⟩
  obtain ⟨b, off, h6, h7, h8⟩ := h5 i r hr
  refine ⟨b, off, h6, by have := hb.size; omega, fun j c hc => ?_⟩
  rw [hb.cell (p := ⟨b, off + i * k + j, none⟩) (by simp; omega)]
  exact h8 j c hc

theorem Sl.nil (w : World) (k : Nat) : Sl w (.slice none 0 0) k [] := ⟨none, 0, rfl, Nat.le_refl _, Nat.zero_le _, fun _ => rfl, fun i r h => by simp at h⟩

theorem Below.rangeAt {B : Nat} {w w' : World} (h : Below B w w') {b o : Nat} {cs : List Value} (hb : b < B) (hr : w.rangeAt b o cs) : w'.rangeAt b o cs := fun j v hv => by
  rw [h.cell (p := ⟨b, o + j, none⟩) (by simpa using hb)]
  exact hr j v hv

def Own (w : World) (B : Nat) (v : Value) (k : Nat) (rs : List (List Value)) : Prop :=
  (rs = [] ∧ ∃ a, v = .slice a 0 0) ∨
  ∃ g off cap, v = .slice (some ⟨g, off, none⟩) rs.length cap ∧ B ≤ g ∧ g < w.heap.size ∧ rs.length ≤ cap ∧ cap ≤ maxLen ∧ w.there g off (rs.length * k) ∧
    ∀ i r, rs[i]? = some r → w.rangeAt g (off + i * k) r
theorem Own.sl {w : World} {B : Nat} {v : Value} {k : Nat} {rs : List (List Value)} (h : Own w B v k rs) : Sl w v k rs := by
  rcases h with ⟨rfl, a, rfl⟩ | ⟨g, off, cap, rfl, h1, h2, h3, h4, h5, h6⟩
  · exact ⟨a, 0, rfl, Nat.le_refl _, Nat.zero_le _, fun _ => rfl, fun i r h => by simp at h⟩
  · exact ⟨_, cap, rfl, h3, h4, fun h => by simp at h, fun i r hr => ⟨g, off, rfl, h2, h6 i r hr⟩⟩
theorem Own.kept {w w' : World} {B : Nat} {v : Value} {k : Nat} {rs : List (List Value)} (h : Own w B v k rs) (hs : w.heap.size ≤ w'.heap.size) (hb : ∀ g, v.ownBlock = some g → B ≤ g → w'.heap[g]? = w.heap[g]?) : Own w' B v k rs := by
  rcases h with ⟨rfl, a, rfl⟩ | ⟨g, off, cap, rfl, h1, h2, h3, h4, h5, h6⟩
  · exact .inl ⟨rfl, a, rfl⟩
  · have hg := hb g rfl h1
    have hc : ∀ o, w'.cell? ⟨g, o, none⟩ = w.cell? ⟨g, o, none⟩ := fun o => World.cell?_of_block (a := ⟨g, o, none⟩) hg
    have hf : ∀ o, w'.frozen? ⟨g, o, none⟩ = w.frozen? ⟨g, o, none⟩ := fun o => World.frozen?_of_block (a := ⟨g, o, none⟩) hg
    refine .inr ⟨g, off, cap, rfl, h1, by omega, h3, h4, fun j hj => ?_, fun i r hr j v hv => ?_⟩
    · rw [hc, hf]; exact h5 j hj
    · rw [hc]; exact h6 i r hr j v hv
theorem Own.below {w w' : World} {B : Nat} {v : Value} {k : Nat} {rs : List (List Value)} (h : Own w B v k rs) {C : Nat} (hb : Below C w w') (hC : w.heap.size ≤ C) : Own w' B v k rs :=
by
  rcases h with ⟨rfl, a, rfl⟩ | ⟨g', off, cap, rfl, h1, h2, h3⟩
  · exact .inl ⟨rfl, a, rfl⟩
  · exact Own.kept (.inr ⟨g', off, cap, rfl, h1, h2, h3⟩) hb.size (fun g hg _ => hb.block g (by simp [Value.ownBlock] at hg; omega))
theorem Own.lower {w : World} {B B' : Nat} {v : Value} {k : Nat} {rs : List (List Value)} (h : Own w B v k rs) (hB : B' ≤ B) : Own w B' v k rs := by
  rcases h with h | ⟨g, off, cap, h0, h1, h2⟩
  · exact .inl h
  · exact .inr ⟨g, off, cap, h0, by omega, h2⟩

theorem flat_get {k : Nat} : ∀ {rs : List (List Value)}, (∀ r ∈ rs, r.length = k) → ∀ {i : Nat} {r : List Value}, rs[i]? = some r → ∀ {j : Nat} {c : Value}, r[j]? = some c → rs.flatten[i * k + j]? = some c
  | [], _, i, r, hr, _, _, _ => by simp at hr
  | x :: rs, hk, i, r, hr, j, c, hc => by
    have hx : x.length = k := hk x (by simp)
    cases i with
    | zero =>
      simp at hr; subst hr
      have hj := (List.getElem?_eq_some_iff.1 hc).1
      simp only [List.flatten_cons, Nat.zero_mul, Nat.zero_add]
      rw [List.getElem?_append_left hj]; exact hc
    | succ i =>
      simp at hr
      have := flat_get (fun r h => hk r (by simp [h])) hr hc
      simp only [List.flatten_cons]
      rw [List.getElem?_append_right (by rw [hx, Nat.succ_mul]; omega), hx, Nat.succ_mul, show i * k + k + j - k = i * k + j by omega]
      exact this
theorem flat_len {k : Nat} {rs : List (List Value)} (hk : ∀ r ∈ rs, r.length = k) : rs.flatten.length = rs.length * k := by
  induction rs with
  | nil => simp
  | cons x rs ih => simp [hk x (by simp), ih (fun r h => hk r (by simp [h])), Nat.succ_mul, Nat.add_comm]
theorem Own.of_row {w : World} {B e k n : Nat} {v : Value} {rs : List (List Value)} (h : w.ownsRow B e k v n rs.flatten) (hk : ∀ r ∈ rs, r.length = k) (hn : n = rs.length) : Own w B v k rs := by
  obtain ⟨hl, h⟩ := h
  rcases h with ⟨rfl, rfl⟩ | ⟨g, cap, cur, rfl, hg, hh, hn', hc, hs, ht⟩
  · exact .inl ⟨List.eq_nil_of_length_eq_zero hn.symm, _, rfl⟩
  · subst hn
    have hcell : ∀ o, w.cell? ⟨g, o, none⟩ = cur[o]? := fun o => cell_of_row w g o cur e (0, 0) hh
    refine .inr ⟨g, 0, cap, rfl, hg, ?_, hn', hc, fun j hj => ?_, fun i r hr j c hc => ?_⟩
    · have := (Array.getElem?_eq_some_iff.1 hh).1; exact this
    · rw [hcell, frozen_of_row w g _ cur e hh]
      have : rs.length * k ≤ cap * k := Nat.mul_le_mul_right k hn'
      exact ⟨by simp; omega, rfl⟩
    · rw [hcell]
      have h1 := flat_get hk hr hc
      rw [← ht] at h1
      simp only [Nat.zero_add]
      rw [← Array.getElem?_toList]
      rw [List.getElem?_take] at h1
      split at h1
      · exact h1
      · simp at h1

theorem Below.setCells {B : Nat} {a : World} {g : Nat} (hg : B ≤ g) : ∀ (vs : List Value) (o : Nat) {w : World}, Below B a w → Below B a (w.setCells g o vs)
  | [], _, _, h => h
  | v :: r, o, w, h => Below.setCells hg r (o + 1) (Below.setCell h hg v)
def Fill (w : World) (g n K : Nat) (rs : List (List Value)) (k : Nat) : Prop := w.there g 0 (n * K) ∧ ∀ i r, i < k → rs[i]? = some r → w.rangeAt g (i * K) r
theorem Fill.below {w w' : World} {g n K k : Nat} {rs : List (List Value)} (h : Fill w g n K rs k) {C : Nat} (hb : Below C w w') (hg : g < C) : Fill w' g n K rs k :=
  ⟨fun j hj => by
    rw [hb.cell (p := ⟨g, 0 + j, none⟩) hg, hb.frozen (p := ⟨g, 0 + j, none⟩) hg]; exact h.1 j hj,
   fun i r hi hr j v hv => by rw [hb.cell (p := ⟨g, i * K + j, none⟩) hg]; exact h.2 i r hi hr j v hv⟩
theorem Fill.step {w : World} {g n K k : Nat} {rs : List (List Value)} {r : List Value} (h : Fill w g n K rs k) (hk : ∀ r ∈ rs, r.length = K) (hr : rs[k]? = some r) (hn : rs.length = n) : Fill (w.setCells g (k * K) r) g n K rs (k + 1) := by
  have hkn : k < n := by have := (List.getElem?_eq_some_iff.1 hr).1; omega
  have hrl : r.length = K := hk r (List.mem_of_getElem? hr)
  have hbd : k * K + K ≤ n * K := by
    have : (k + 1) * K ≤ n * K := Nat.mul_le_mul_right K hkn
    rw [Nat.succ_mul] at this; exact this
  refine ⟨World.there_setCells h.1 _ _ _, fun i r' hi hr' => ?_⟩
  rcases Nat.lt_succ_iff_lt_or_eq.1 hi with hi | rfl
  · refine World.rangeAt_setCells_apart (h.2 i r' hi hr') _ _ _ (.inr (.inl ?_))
    rw [hk r' (List.mem_of_getElem? hr')]
    have : (i + 1) * K ≤ k * K := Nat.mul_le_mul_right K hi
    rw [Nat.succ_mul] at this; exact this
  · rw [hr] at hr'; simp only [Option.some.injEq] at hr'; subst hr'
    refine World.rangeAt_setCells_same _ _ _ _ fun j hj => ?_
    have := h.1 (i * K + j) (by omega)
    simpa using this
theorem Fill.own {w : World} {B g n K : Nat} {rs : List (List Value)} (h : Fill w g n K rs n) (hn : rs.length = n) (hB : B ≤ g) (hg : g < w.heap.size) (hm : n ≤ maxLen) : Own w B (.slice (some ⟨g, 0, none⟩) n n) K rs := by
  subst hn
  exact .inr ⟨g, 0, _, rfl, hB, hg, Nat.le_refl _, hm, h.1, fun i r hr => by
    have := h.2 i r (List.getElem?_eq_some_iff.1 hr).1 hr
    simpa using this⟩
theorem Fill.there {w : World} {g n K k : Nat} {rs : List (List Value)} (h : Fill w g n K rs k) (hk : k < n) : w.there g (k * K) K := fun j hj => by
  have hbd : k * K + K ≤ n * K := by
    have : (k + 1) * K ≤ n * K := Nat.mul_le_mul_right K hk
    rw [Nat.succ_mul] at this; exact this
  have := h.1 (k * K + j) (by omega)
  simpa using this
theorem Fill.old {w : World} {g n K k : Nat} {rs : List (List Value)} (h : Fill w g n K rs k) (hk : k < n) (j : Nat) (hj : j < K) : (∃ v, w.cell? ⟨g, k * K + j, none⟩ = some v) ∧ w.frozen? ⟨g, k * K + j, none⟩ = false := by
  obtain ⟨h1, h2⟩ := h.there hk j hj
  exact ⟨Option.isSome_iff_exists.1 h1, h2⟩
theorem Sl.of_open {w : World} {a : Addr} {len cap k : Nat} {rows : Nat → List Value} (hl : len ≤ cap) (hm : cap ≤ maxLen) (hk : 0 < k) (h : ∀ i, i < len → w.cells? 0 (a.add (i * k)) k = some (rows i)) :
    Sl w (.slice (some a) len cap) k ((List.range len).map rows) := by
  refine ⟨some a, cap, by simp, by simpa using hl, hm, fun h => by simp at h, fun i r hr => ?_⟩
  have hi : i < len := by have := (List.getElem?_eq_some_iff.1 hr).1; simpa using this
  have hr' : rows i = r := by simpa [hi] using hr
  subst hr'
  have hsp : a.spot = none := by
    obtain ⟨_, hl0, hc⟩ := World.cells?_some (h 0 (by omega))
    have h0 := hc 0 hk
    have : w.cell? a = some ((rows 0)[0]'(by omega)) := by simpa [Addr.add] using h0.trans (List.getElem?_eq_getElem (by omega))
    cases hsp : a.spot with
    | none => rfl
    | some s =>
      unfold World.cell? at this
      simp only [hsp, Option.isSome_some, if_true] at this
      split at this <;> simp at this
  obtain ⟨b, off, sp⟩ := a
  simp only at hsp
  subst hsp
  obtain ⟨_, hli, hci⟩ := World.cells?_some (h i hi)
  have hrange : w.rangeAt b (off + i * k) (rows i) := fun j v hv => by
    have hj : j < k := by have := (List.getElem?_eq_some_iff.1 hv).1; omega
    have := hci j hj
    rw [Addr.add_mid, Addr.add_mid] at this
    exact this.trans hv
  refine ⟨b, off, rfl, ?_, hrange⟩
  have := hrange 0 _ (List.getElem?_eq_getElem (by omega))
  exact block_lt_of_cell this

structure Mid (L U : Nat) (w w' : World) : Prop where
  size : w.heap.size ≤ w'.heap.size
  block : ∀ k, L ≤ k → k < U → w'.heap[k]? = w.heap[k]?
theorem Mid.refl (L U : Nat) (w : World) : Mid L U w w := ⟨Nat.le_refl _, fun _ _ _ => rfl⟩
theorem Mid.alloc {L U : Nat} {a w : World} (h : Mid L U a w) (hU : U ≤ w.heap.size) (o : Obj) : Mid L U a (w.alloc o) :=
  ⟨Nat.le_trans h.size (by simp), fun k h1 h2 => (Below.heap_alloc w o k (by omega)).trans (h.block k h1 h2)⟩
theorem Mid.setCell {L U : Nat} {a w : World} (h : Mid L U a w) {p : Addr} (hp : p.block < L ∨ U ≤ p.block) (u : Value) : Mid L U a (w.setCell p u) :=
  ⟨by simpa [World.setCell] using h.size, fun k h1 h2 => (Below.heap_setCell w p u k (by omega)).trans (h.block k h1 h2)⟩
theorem Mid.drew {L U : Nat} {a w : World} (h : Mid L U a w) : Mid L U a w.drew := ⟨h.size, h.block⟩
theorem Mid.drewN {L U : Nat} {a w : World} (h : Mid L U a w) (n : Nat) : Mid L U a (w.drewN n) := ⟨h.size, h.block⟩
theorem Mid.below {L U : Nat} {a W w1 : World} (h : Mid L U a W) (hb : Below W.heap.size W w1) (hU : U ≤ W.heap.size) : Mid L U a w1 :=
  ⟨Nat.le_trans h.size hb.size, fun k h1 h2 => (hb.block k (by omega)).trans (h.block k h1 h2)⟩
theorem Own.form {w : World} {B : Nat} {v : Value} {k : Nat} {rs : List (List Value)} (h : Own w B v k rs) : ∃ a cap, v = .slice a rs.length cap := by
  rcases h with ⟨rfl, a, rfl⟩ | ⟨g', off, cap, rfl, h3⟩
  · exact ⟨a, 0, rfl⟩
  · exact ⟨_, _, rfl⟩
theorem Sl.form {w : World} {v : Value} {k : Nat} {rs : List (List Value)} (h : Sl w v k rs) : ∃ a cap, v = .slice a rs.length cap := by
  obtain ⟨a, cap, h, _⟩ := h; exact ⟨a, cap, h⟩
theorem Mid.grow {L U : Nat} {a w : World} (h : Mid L U a w) (hU : U ≤ w.heap.size) (d : Nat) (os : List Obj) : Mid L U a (Wgrow w d os) :=
  ⟨Nat.le_trans h.size (by rw [size_grow]; omega), fun k h1 h2 => (heap_grow w d os k (by omega)).trans (h.block k h1 h2)⟩
end Go.Proofs.Ytnmmhbhdcplfmaa