/- Words and rules for walks that make memory: what a call that only makes new blocks leaves, and the order of blocks' numbers. -/
import Derived.Test.YtnmmhbhdcplfmaaRows
import Derived.Test.YtnmmhbhdcplfmaaM
import Derived.WalkKit
import Derived.ProofKit
import Derived.OpenShut
import Derived.Deep.Slices
import Derived.Deep.QuietTactic
import Derived.BigQuiet
import Derived.Deep.RegionHeld3
import Derived.Deep.MidRow
namespace Go.Proofs.Ytnmmhbhdcplfmaa
open Go.RowKit

def gap (k : Nat) : Nat := k
def StuckF (a x k : Nat) : Prop := a < x + k
def StuckG (a x k : Nat) : Prop := a ≤ x + k
def StuckE (a x k : Nat) : Prop := a = x + k
theorem lt_gap (a x k : Nat) : (a < x + gap k) = (a < x ∨ StuckF a x (gap k)) := by
  unfold StuckF gap; rw [eq_iff_iff]; omega
theorem le_gap (a x k : Nat) : (a ≤ x + gap k) = (a ≤ x ∨ StuckG a x (gap k)) := by
  unfold StuckG gap; rw [eq_iff_iff]; omega
theorem eq_gap (a x k : Nat) : (a = x + gap k) = (x ≤ a ∧ StuckE a x (gap k)) := by
  unfold StuckE gap; rw [eq_iff_iff]; omega
theorem gap_eq (a x k : Nat) : (x + gap k = a) = (x ≤ a ∧ StuckE a x (gap k)) := by
  unfold StuckE gap; rw [eq_iff_iff]; omega

theorem lt_ones2 (n : Nat) : (n < n + 1 + 1) = True := by rw [eq_iff_iff]; simp only [iff_true]; omega
theorem lt_ones3 (n : Nat) : (n < n + 1 + 1 + 1) = True := by rw [eq_iff_iff]; simp only [iff_true]; omega
theorem lt_ones4 (n : Nat) : (n < n + 1 + 1 + 1 + 1) = True := by rw [eq_iff_iff]; simp only [iff_true]; omega
theorem lt_ones5 (n : Nat) : (n < n + 1 + 1 + 1 + 1 + 1) = True := by rw [eq_iff_iff]; simp only [iff_true]; omega
theorem lt_ones6 (n : Nat) : (n < n + 1 + 1 + 1 + 1 + 1 + 1) = True := by rw [eq_iff_iff]; simp only [iff_true]; omega
theorem lt_ones7 (n : Nat) : (n < n + 1 + 1 + 1 + 1 + 1 + 1 + 1) = True := by rw [eq_iff_iff]; simp only [iff_true]; omega
theorem lt_ones8 (n : Nat) : (n < n + 1 + 1 + 1 + 1 + 1 + 1 + 1 + 1) = True := by rw [eq_iff_iff]; simp only [iff_true]; omega
theorem lt_gap_1 (a x k : Nat) : (a < x + gap k + 1) = (a < x ∨ a = x + gap k ∨ StuckF a x (gap k)) := by
  unfold StuckF gap; rw [eq_iff_iff]; omega
theorem lt_gap_2 (a x k : Nat) : (a < x + gap k + 1 + 1) = (a < x ∨ a = x + gap k ∨ a = x + gap k + 1 ∨ StuckF a x (gap k)) := by
  unfold StuckF gap; rw [eq_iff_iff]; omega
theorem lt_gap_3 (a x k : Nat) : (a < x + gap k + 1 + 1 + 1) = (a < x ∨ a = x + gap k ∨ a = x + gap k + 1 ∨ a = x + gap k + 1 + 1 ∨ StuckF a x (gap k)) := by
  unfold StuckF gap; rw [eq_iff_iff]; omega
theorem lt_gap_4 (a x k : Nat) : (a < x + gap k + 1 + 1 + 1 + 1) = (a < x ∨ a = x + gap k ∨ a = x + gap k + 1 ∨ a = x + gap k + 1 + 1 ∨ a = x + gap k + 1 + 1 + 1 ∨ StuckF a x (gap k)) := by
  unfold StuckF gap; rw [eq_iff_iff]; omega
theorem lt_gap_5 (a x k : Nat) : (a < x + gap k + 1 + 1 + 1 + 1 + 1) = (a < x ∨ a = x + gap k ∨ a = x + gap k + 1 ∨ a = x + gap k + 1 + 1 ∨ a = x + gap k + 1 + 1 + 1 ∨ a = x + gap k + 1 + 1 + 1 + 1 ∨ StuckF a x (gap k)) := by
  unfold StuckF gap; rw [eq_iff_iff]; omega
theorem lt_gap_6 (a x k : Nat) : (a < x + gap k + 1 + 1 + 1 + 1 + 1 + 1) = (a < x ∨ a = x + gap k ∨ a = x + gap k + 1 ∨ a = x + gap k + 1 + 1 ∨ a = x + gap k + 1 + 1 + 1 ∨ a = x + gap k + 1 + 1 + 1 + 1 ∨ a = x + gap k + 1 + 1 + 1 + 1 + 1 ∨ StuckF a x (gap k)) := by
  unfold StuckF gap; rw [eq_iff_iff]; omega

def Wgrow (w : World) (d : Nat) (os : List Obj) : World := { w with heap := w.heap ++ os.toArray, drawn := d }
theorem below_grow {W w1 : World} (hb : Below W.heap.size W w1) : ∃ (d : Nat) (os : List Obj), w1 = Wgrow W d os := by
  refine ⟨w1.drawn, (w1.heap.extract W.heap.size w1.heap.size).toList, ?_⟩
  obtain ⟨h1, t1, d1, o1, p1⟩ := w1
  obtain ⟨ho, ht, hp, hs, hblk⟩ := hb
  simp only at ho ht hp hs hblk
  subst ho ht hp
  simp only [Wgrow, World.mk.injEq, and_true]
  apply Array.ext_getElem?
  intro i
  by_cases hi : i < W.heap.size
  · rw [Array.getElem?_append_left hi]; exact hblk i hi
  · rw [Array.getElem?_append_right (by omega)]
    simp only [Array.toArray_toList, Array.getElem?_extract]
    rw [show W.heap.size + (i - W.heap.size) = i by omega]
    by_cases hj : i < h1.size
    · simp; intro h; omega
    · simp at hj
      have : h1[i]? = none := by simp; omega
      rw [this]; simp
section
variable (w : World) (d : Nat) (os : List Obj)
theorem size_grow : (Wgrow w d os).heap.size = w.heap.size + gap os.length := by simp [Wgrow, gap]
theorem heap_grow (i : Nat) (h : i < w.heap.size) : (Wgrow w d os).heap[i]? = w.heap[i]? := by
  show (w.heap ++ os.toArray)[i]? = _
  rw [Array.getElem?_append_left h]
theorem cell?_grow (n i : Nat) (h : n < w.heap.size) : (Wgrow w d os).cell? ⟨n, i, none⟩ = w.cell? ⟨n, i, none⟩ := World.cell?_of_block (heap_grow w d os n h)
theorem frozen?_grow (n i : Nat) (h : n < w.heap.size) : (Wgrow w d os).frozen? ⟨n, i, none⟩ = w.frozen? ⟨n, i, none⟩ := World.frozen?_of_block (heap_grow w d os n h)
theorem setCell_grow (n i : Nat) (v : Value) (h : n < w.heap.size) : (Wgrow w d os).setCell ⟨n, i, none⟩ v = Wgrow (w.setCell ⟨n, i, none⟩ v) d os := by
  simp only [Wgrow, World.setCell, World.mk.injEq, and_true]
  apply Array.ext_getElem?
  intro k
  simp only [Array.getElem?_modify]
  by_cases hk : k < w.heap.size
  · rw [Array.getElem?_append_left hk, Array.getElem?_append_left (by simpa using hk)]
    simp only [Array.getElem?_modify]
  · rw [Array.getElem?_append_right (by omega), Array.getElem?_append_right (by simp; omega), if_neg (by omega)]
    simp
theorem drew_grow : (Wgrow w d os).drew = Wgrow w (d + 1) os := rfl
theorem drewN_grow (n : Nat) : (Wgrow w d os).drewN n = Wgrow w (d + n) os := rfl
end
theorem belowGrow {B : Nat} {a w : World} (h : Below B a w) (hB : B ≤ w.heap.size) (d : Nat) (os : List Obj) : Below B a (Wgrow w d os) :=
  h.trans ⟨rfl, rfl, rfl, by rw [size_grow]; omega, fun k hk => heap_grow w d os k (by omega)⟩
theorem bdrewN {B : Nat} {a w : World} (h : Below B a w) (n : Nat) : Below B a (w.drewN n) := ⟨h.os, h.tape, h.output, h.size, h.block⟩
theorem bstep {B : Nat} {a W w1 : World} (h : Below B a W) (hb : Below W.heap.size W w1) (hB : B ≤ W.heap.size) : Below B a w1 := h.trans (hb.mono hB)
def ldBox (T : TypeId) (v : Value) : Sem Value := Instr.loadAt T v
def stBox (T : TypeId) (v x : Value) : Sem Unit := Instr.storeAt T v x
def boxOf (W : World) (n : Nat) : Array Value := match W.heap[n]? with | some (.cells c _ _) => c | _ => #[]
def isBox (W : World) (n m : Nat) : Bool := match W.heap[n]? with | some (.cells c _ fr) => fr == (0, 0) && decide (m ≤ c.size) | _ => false
def putAt (c : Array Value) : Nat → List Value → Array Value
  | _, [] => c
  | o, v :: r => putAt (c.setIfInBounds o v) (o + 1) r
section
variable (w : World) (c : Array Value) (t : TypeId) (ob : Obj) (d : Nat) (os : List Obj)
theorem boxOf_alloc_at (n : Nat) (hn : n = w.heap.size) : boxOf (w.alloc (.cells c t)) n = c := by
  subst hn; unfold boxOf; rw [Go.heap_alloc_new]
theorem boxOf_alloc_past (n : Nat) (hn : n < w.heap.size) : boxOf (w.alloc ob) n = boxOf w n := by
  unfold boxOf; rw [Below.heap_alloc w ob n hn]
theorem boxOf_grow (n : Nat) (hn : n < w.heap.size) : boxOf (Wgrow w d os) n = boxOf w n := by
  simp [boxOf, heap_grow w d os n hn]
theorem boxOf_drew (n : Nat) : boxOf w.drew n = boxOf w n := rfl
theorem boxOf_drewN (n m : Nat) : boxOf (w.drewN m) n = boxOf w n := rfl
theorem isBox_alloc_at (n m : Nat) (hn : n = w.heap.size) : isBox (w.alloc (.cells c t)) n m = decide (m ≤ c.size) := by
  subst hn; unfold isBox; rw [Go.heap_alloc_new]; simp
theorem isBox_alloc_past (n m : Nat) (hn : n < w.heap.size) : isBox (w.alloc ob) n m = isBox w n m := by
  unfold isBox; rw [Below.heap_alloc w ob n hn]
theorem isBox_grow (n m : Nat) (hn : n < w.heap.size) : isBox (Wgrow w d os) n m = isBox w n m := by
  simp [isBox, heap_grow w d os n hn]
theorem isBox_drew (n m : Nat) : isBox w.drew n m = isBox w n m := rfl
theorem isBox_drewN (n m k : Nat) : isBox (w.drewN k) n m = isBox w n m := rfl
theorem putAt_all (cs : List Value) (h : cs.length = c.size) : putAt c 0 cs = cs.toArray := by
  have key : ∀ (cs : List Value) (o : Nat) (c : Array Value), o + cs.length ≤ c.size → (putAt c o cs).toList = c.toList.take o ++ cs ++ c.toList.drop (o + cs.length) := by
    intro cs
    induction cs with
    | nil => intro o c _; simp [putAt]
    | cons v r ih =>
      intro o c hc
      simp only [List.length_cons] at hc
      rw [putAt, ih (o + 1) _ (by simp; omega)]
      simp only [Array.toList_setIfInBounds, List.length_cons]
      rw [List.take_set, List.drop_set]
      have : o < c.toList.length := by simp; omega
      rw [if_pos (by omega)]
      rw [show o + 1 + r.length = o + (r.length + 1) by omega]
      rw [List.take_succ_eq_append_getElem this, List.set_append_right _ _ (by simp; omega)]
      simp [Nat.min_eq_left (show o ≤ c.size by omega)]
  apply Array.toList_inj.1
  rw [key cs 0 c (by omega)]
  simp [h]
end
theorem setCells_alloc_at (g : Nat) (t : TypeId) : ∀ (cs : List Value) (o : Nat) (c : Array Value) {w : World}, g = w.heap.size → (w.alloc (.cells c t)).setCells g o cs = w.alloc (.cells (putAt c o cs) t)
  | [], _, _, _, _ => rfl
  | v :: r, o, c, w, h => by
    rw [World.setCells, World.setCell_alloc_at c t g o v h, setCells_alloc_at g t r (o + 1) _ h]; rfl
theorem setCells_alloc_past (g : Nat) (ob : Obj) : ∀ (cs : List Value) (o : Nat) {w : World}, g < w.heap.size → (w.alloc ob).setCells g o cs = (w.setCells g o cs).alloc ob
  | [], _, _, _ => rfl
  | v :: r, o, w, h => by
    rw [World.setCells, World.setCell_alloc_past ob g o v h, setCells_alloc_past g ob r (o + 1) (by simpa using h)]; rfl
theorem setCells_grow (g d : Nat) (os : List Obj) : ∀ (cs : List Value) (o : Nat) {w : World}, g < w.heap.size → (Wgrow w d os).setCells g o cs = Wgrow (w.setCells g o cs) d os
  | [], _, _, _ => rfl
  | v :: r, o, w, h => by
    rw [World.setCells, setCell_grow w d os g o v h, setCells_grow g d os r (o + 1) (by simpa using h)]; rfl
theorem setCells_drew (g : Nat) : ∀ (cs : List Value) (o : Nat) (w : World), w.drew.setCells g o cs = (w.setCells g o cs).drew
  | [], _, _ => rfl
  | v :: r, o, w => by rw [World.setCells, World.setCell_drew, setCells_drew g r (o + 1)]; rfl
section
variable {P : Program}
theorem run_loadVar_box {ty : TypeId} {k : Nat} {d : TypeDesc} (hu : P.underlying ty = some d) (hd : d.isRow = true) (hi : (P.info? ty).map (·.size) = some k) (n o : Nat) (W : World) (h : isBox W n (o + k) = true) :
    (loadVar ty ⟨n, o, none⟩).run P W = .ok (.agg ((boxOf W n).extract o (o + k))) W := by
  unfold isBox at h
  split at h
  · rename_i c t fr hb
    simp only [Bool.and_eq_true, decide_eq_true_eq] at h
    have hr := World.rangeAt_of_block hb o k
    have := run_loadVar_mid (P := P) W n o ty _ d hr hu hd (by rw [hi]; simp; omega)
    rw [this]; unfold boxOf; rw [hb]
  · simp at h
theorem run_storeVar_box {ty : TypeId} {k : Nat} (hi : (P.info? ty).map (·.size) = some k) (n o : Nat) (W : World) (cells : Array Value) (h : isBox W n (o + k) = true) (hk : cells.size = k) (h1 : cells.all (·.oneCell') = true) :
    (storeVar ty ⟨n, o, none⟩ (.agg cells)).run P W = .ok () (W.setCells n o cells.toList) := by
  refine run_storeVar_mid W n o ty cells (fun j hj => ?_) (by rw [hi, hk]) h1
  unfold isBox at h
  split at h
  · rename_i c t fr hb
    simp only [Bool.and_eq_true, decide_eq_true_eq, beq_iff_eq] at h
    obtain ⟨rfl, h2⟩ := h
    rw [cell_of_row W n _ c t (0, 0) hb, frozen_of_row W n _ c t hb]
    exact ⟨by simp; omega, rfl⟩
  · simp at h
end
section
open Go.ChangeShapes Go.WideShapes
variable {H : Type} {enc : TypeId × Value → H} {P : Program}
theorem post_of_below {f : Func} {s : ChangeSpec} {apart fresh handsOn again : Bool} {W W' : World} {args : Array Value} {v : Value} {ds gs : List (DataW H)} {before pa pv : List MemPlace}
    (hW : DataW.Whole enc P f.params.toList s.vars apart W args.toList ds gs before)
    (hres : ∀ (b : Nat) (sp : Nat → Bool) (hd : Bool), DataW.TrodAll enc P W' b sp hd f.resultTypes.toList (v.resultList f.resultTypes.size) (s.fn H (ds ++ gs)).results [])
    (hargs : ∀ sp : Nat → Bool, (∀ p ∈ before, sp p.block = true) → DataW.TrodAll enc P W' 0 sp true f.params.toList args.toList (s.fn H (ds ++ gs)).args pa)
    (hvars : ∀ sp : Nat → Bool, (∀ p ∈ before, sp p.block = true) → DataW.TrodVars enc P W' sp s.vars (s.fn H (ds ++ gs)).vars pv)
    (hps : before = pa ++ pv) (hb : Below W.heap.size W W')
    (hok : ∀ (j : Nat) (t : TypeId) (r : Value), f.resultTypes[j]? = some t → (v.resultList f.resultTypes.size)[j]? = some r → Value.okWide P W' .any 0 t r) :
    s.post enc P f apart fresh handsOn again W args v W' := by
  have hlt : ∀ p ∈ before, p.block < W.heap.size := fun p hp => hW.lt p hp
  have hold : ∀ p ∈ before, (fun b => decide (b < W.heap.size)) p.block = true := fun p hp => by simpa using hlt p hp
  refine ⟨ds, gs, before, [], pa, pv, hW, hres _ _ _, hargs _ hold, hvars _ hold, World.keptBut_mono (fun p hp => ⟨hp, ?_⟩) (hb.frame (· ∈ before)), fun _ => ?_⟩
  · rw [hps, List.mem_append] at hp
    exact Or.inr hp
  · obtain ⟨_, _, _, _, _, hz, hn⟩ := hW
    refine ⟨hok, _, _, ([] ++ pa) ++ pv, ⟨[] ++ pa, pv, trodAll_append (hargs _ (fun _ _ => rfl)) (hres _ _ _), hvars _ (fun _ _ => rfl), rfl, ?_, ?_⟩, ?_⟩
    · intro b off hp
      have hin : MemPlace.cell b off ∈ before := by rw [hps]; simpa using hp
      rw [hb.frozen (hlt _ hin)]
      exact hz b off hin
    · intro ha
      have := hn ha
      rw [hps] at this
      simpa using this
    · intro p hp _
      rw [hps]
      simpa using hp
end
end Go.Proofs.Ytnmmhbhdcplfmaa
