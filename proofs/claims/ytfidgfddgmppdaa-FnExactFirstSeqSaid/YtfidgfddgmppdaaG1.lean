/- Plain definitions, the machine and its rules: what this law's contracts need of them, part 1. -/
import Derived.WalkKit
import Derived.Lib.Hide
import Derived.Test.YtfidgfddgmppdaaRows
import Derived.ProofKit
import Derived.OpenShut
import Derived.Deep.Slices
import Derived.Deep.QuietTactic
import Derived.BigQuiet
import Derived.Deep.RegionHeld3
import Derived.Deep.MidRow
import Derived.OrdersHeld
import Derived.Below
import Derived.Defers
import Derived.Tactics
import Derived.Maps.AppendAt
import Derived.Great.FillDense
import Derived.Great.BuildSlice
import Derived.Laws.MakeOwn
import Derived.Laws.Tables
import Derived.Laws.Cover3
import Derived.Laws.BytesString
import Derived.Laws.Cells
/- Plain definitions (no program in sight): what the functions of the package compute, on plain data. -/
namespace Go.Proofs.Ytfidgfddgmppdaa
section
open Go.RowKit
structure Tup where
  ip : Int
  port : Int
  my : Int
structure Opt where
  mss : Int
  scale : Int
  sack : Bool
  stamp : Bool
  val : Int
  echo : Int
structure Snd where
  una : Int
  data : ByteArray
  sent : Int
  fin : Bool
  finSent : Bool
  done : Bool
structure Chk where
  seq : Int
  text : ByteArray
  fin : Bool
structure Pce where
  off : Int
  text : ByteArray
structure Rcv where
  next : Int
  data : ByteArray
  held : List Pce
  fin : Int
  done : Bool
structure Con where
  t : Tup
  state : Int
  s : Snd
  r : Rcv
  window : Int
  most : Int
  o : Opt
  timer : Int
  tries : Int
structure Seg where
  src : Int
  dst : Int
  seq : Int
  ack : Int
  flags : Int
  window : Int
  o : Opt
  body : ByteArray
structure Hlf where
  t : Tup
  iss : Int
  irs : Int
  o : Opt
  age : Int
  window : Int
structure Lim where
  halves : Int
  waiting : Int
  conns : Int
  chal : Int
abbrev CV := Con × Value
structure Tab where
  conns : List CV
  waiting : List Tup
structure Mrw where
  input : ByteArray
  value : Int
structure Mac where
  use : Bool
  k : Int
  l : Int
  rows : List Mrw
structure Kys where
  epoch : Int
  now : Mac
  before : Mac
  two : Bool
structure Dor where
  port : Int
  clock : Int
  keys : Kys
  lim : Lim
  halves : List Hlf
  table : Tab
  chal : Int
def bx (n lo hi : Int) : Bool := decide (lo ≤ n) && decide (n ≤ hi)
def aw (n bits : Int) : Bool := bx bits 1 62 && bx n 0 (2 ^ bits.toNat - 1)
def limitsOk (l : Lim) : Bool := bx l.halves 1 64 && bx l.waiting 1 16 && bx l.conns 1 16 && bx l.chal 0 1000
def co (n : Int) : Prop := -9223372036854775808 ≤ n ∧ n ≤ 9223372036854775807
def U64 (n : Int) : Prop := 0 ≤ n ∧ n ≤ 18446744073709551615
def bL (t : Tup) : Bool := aw t.ip 32 && aw t.port 16 && aw t.my 16
def optionsOk (o : Opt) : Bool := (o.stamp || (o.val == 0 && o.echo == 0)) && aw o.mss 16 && bx o.scale (-1) 14 && aw o.val 32 && aw o.echo 32
def senderOk (s : Snd) : Bool := aw s.una 32 && decide (s.data.size ≤ 48) && bx s.sent 0 s.data.size && (!s.finSent || (s.fin && decide (s.sent = s.data.size))) && (!s.done || (s.fin && !s.finSent && s.data.toList.isEmpty))
def wO (r : Rcv) : Int := if r.done then 0 else max 0 (32 - r.data.size)
theorem inB_tt {n lo hi : Int} : bx n lo hi = true ↔ lo ≤ n ∧ n ≤ hi := by simp [bx]
theorem inB_ff {n lo hi : Int} : bx n lo hi = false ↔ n < lo ∨ hi < n := by
  have := @inB_tt n lo hi
  rw [Bool.eq_false_iff, ne_eq, this]; omega
theorem ret_bool {a b : Bool} (h : a = b) : Ending.returned (.bool a) = .returned (.bool b) := by rw [h]
theorem b9 {k : IntKind} {a b : Int} (h : a = b) : Ending.returned (.int k a) = .returned (.int k b) := by rw [h]
theorem bM {a b : ByteArray} (h : a = b) : Ending.returned (.string a) = .returned (.string b) := by rw [h]
end
/- Words and rules for walks that make memory: what a call that only makes new blocks leaves, and the order of blocks' numbers. -/
section
open Go.RowKit
def cK (k : Nat) : Nat := k
def cZ (a x k : Nat) : Prop := a < x + k
def StuckG (a x k : Nat) : Prop := a ≤ x + k
def StuckE (a x k : Nat) : Prop := a = x + k
theorem cm (a x k : Nat) : (a < x + cK k) = (a < x ∨ cZ a x (cK k)) := by
  unfold cZ cK; rw [eq_iff_iff]; omega
theorem cl (a x k : Nat) : (a ≤ x + cK k) = (a ≤ x ∨ StuckG a x (cK k)) := by
  unfold StuckG cK; rw [eq_iff_iff]; omega
theorem ck (a x k : Nat) : (a = x + cK k) = (x ≤ a ∧ StuckE a x (cK k)) := by
  unfold StuckE cK; rw [eq_iff_iff]; omega
theorem cj (a x k : Nat) : (x + cK k = a) = (x ≤ a ∧ StuckE a x (cK k)) := by
  unfold StuckE cK; rw [eq_iff_iff]; omega
theorem bj (n : Nat) : (n < n + 1 + 1) = True := by rw [eq_iff_iff]; simp only [iff_true]; omega
theorem bY (n : Nat) : (n < n + 1 + 1 + 1) = True := by rw [eq_iff_iff]; simp only [iff_true]; omega
theorem bi (n : Nat) : (n < n + 1 + 1 + 1 + 1) = True := by rw [eq_iff_iff]; simp only [iff_true]; omega
theorem bl (n : Nat) : (n < n + 1 + 1 + 1 + 1 + 1) = True := by rw [eq_iff_iff]; simp only [iff_true]; omega
theorem bf (n : Nat) : (n < n + 1 + 1 + 1 + 1 + 1 + 1) = True := by rw [eq_iff_iff]; simp only [iff_true]; omega
theorem bg (n : Nat) : (n < n + 1 + 1 + 1 + 1 + 1 + 1 + 1) = True := by rw [eq_iff_iff]; simp only [iff_true]; omega
theorem bc (n : Nat) : (n < n + 1 + 1 + 1 + 1 + 1 + 1 + 1 + 1) = True := by rw [eq_iff_iff]; simp only [iff_true]; omega
theorem ba (a x k : Nat) : (a < x + cK k + 1) = (a < x ∨ a = x + cK k ∨ cZ a x (cK k)) := by
  unfold cZ cK; rw [eq_iff_iff]; omega
theorem bh (a x k : Nat) : (a < x + cK k + 1 + 1) = (a < x ∨ a = x + cK k ∨ a = x + cK k + 1 ∨ cZ a x (cK k)) := by
  unfold cZ cK; rw [eq_iff_iff]; omega
theorem bd (a x k : Nat) : (a < x + cK k + 1 + 1 + 1) = (a < x ∨ a = x + cK k ∨ a = x + cK k + 1 ∨ a = x + cK k + 1 + 1 ∨ cZ a x (cK k)) := by
  unfold cZ cK; rw [eq_iff_iff]; omega
theorem bn (a x k : Nat) : (a < x + cK k + 1 + 1 + 1 + 1) = (a < x ∨ a = x + cK k ∨ a = x + cK k + 1 ∨ a = x + cK k + 1 + 1 ∨ a = x + cK k + 1 + 1 + 1 ∨ cZ a x (cK k)) := by
  unfold cZ cK; rw [eq_iff_iff]; omega
theorem bo (a x k : Nat) : (a < x + cK k + 1 + 1 + 1 + 1 + 1) = (a < x ∨ a = x + cK k ∨ a = x + cK k + 1 ∨ a = x + cK k + 1 + 1 ∨ a = x + cK k + 1 + 1 + 1 ∨ a = x + cK k + 1 + 1 + 1 + 1 ∨ cZ a x (cK k)) := by
  unfold cZ cK; rw [eq_iff_iff]; omega
theorem bm (a x k : Nat) : (a < x + cK k + 1 + 1 + 1 + 1 + 1 + 1) = (a < x ∨ a = x + cK k ∨ a = x + cK k + 1 ∨ a = x + cK k + 1 + 1 ∨ a = x + cK k + 1 + 1 + 1 ∨ a = x + cK k + 1 + 1 + 1 + 1 ∨ a = x + cK k + 1 + 1 + 1 + 1 + 1 ∨ cZ a x (cK k)) := by
  unfold cZ cK; rw [eq_iff_iff]; omega
def cu (w : World) (d : Nat) (os : List Obj) : World := { w with heap := w.heap ++ os.toArray, drawn := d }
theorem aS {W w1 : World} (hb : Below W.heap.size W w1) : ∃ (d : Nat) (os : List Obj), w1 = cu W d os := by
  refine ⟨w1.drawn, (w1.heap.extract W.heap.size w1.heap.size).toList, ?_⟩
  obtain ⟨h1, t1, d1, o1, p1⟩ := w1
  obtain ⟨ho, ht, hp, hs, hblk⟩ := hb
  simp only at ho ht hp hs hblk
  subst ho ht hp
  simp only [cu, World.mk.injEq, and_true]
  apply Array.ext_getElem?
  intro i
  by_cases hi : i < W.heap.size
  · rw [Array.getElem?_append_left hi]; exact hblk i hi
  · rw [Array.getElem?_append_right (by omega)]
    simp only [Array.toArray_toList, Array.getElem?_extract]
    rw [show W.heap.size + (i - W.heap.size) = i by omega]
    by_cases hj : i < h1.size
    · simp; intro h; omega
    · simp at hj
      have : h1[i]? = none := by simp; omega
      rw [this]; simp
section
variable (w : World) (d : Nat) (os : List Obj)
theorem a8 : (cu w d os).heap.size = w.heap.size + cK os.length := by simp [cu, cK]
theorem cG (i : Nat) (h : i < w.heap.size) : (cu w d os).heap[i]? = w.heap[i]? := by
  show (w.heap ++ os.toArray)[i]? = _
  rw [Array.getElem?_append_left h]
theorem cell?_grow (n i : Nat) (h : n < w.heap.size) : (cu w d os).cell? ⟨n, i, none⟩ = w.cell? ⟨n, i, none⟩ := World.cell?_of_block (cG w d os n h)
theorem frozen?_grow (n i : Nat) (h : n < w.heap.size) : (cu w d os).frozen? ⟨n, i, none⟩ = w.frozen? ⟨n, i, none⟩ := World.frozen?_of_block (cG w d os n h)
theorem aU (n i : Nat) (v : Value) (h : n < w.heap.size) : (cu w d os).setCell ⟨n, i, none⟩ v = cu (w.setCell ⟨n, i, none⟩ v) d os := by
  simp only [cu, World.setCell, World.mk.injEq, and_true]
  apply Array.ext_getElem?
  intro k
  simp only [Array.getElem?_modify]
  by_cases hk : k < w.heap.size
  · rw [Array.getElem?_append_left hk, Array.getElem?_append_left (by simpa using hk)]
    simp only [Array.getElem?_modify]
  · rw [Array.getElem?_append_right (by omega), Array.getElem?_append_right (by simp; omega), if_neg (by omega)]
    simp
theorem bw : (cu w d os).drew = cu w (d + 1) os := rfl
theorem b0 (n : Nat) : (cu w d os).drewN n = cu w (d + n) os := rfl
end
theorem au {B : Nat} {a w : World} (h : Below B a w) (hB : B ≤ w.heap.size) (d : Nat) (os : List Obj) : Below B a (cu w d os) :=
  h.trans ⟨rfl, rfl, rfl, by rw [a8]; omega, fun k hk => cG w d os k (by omega)⟩
theorem aT {B : Nat} {a w : World} (h : Below B a w) (n : Nat) : Below B a (w.drewN n) := ⟨h.os, h.tape, h.output, h.size, h.block⟩
theorem aF {B : Nat} {a W w1 : World} (h : Below B a W) (hb : Below W.heap.size W w1) (hB : B ≤ W.heap.size) : Below B a w1 := h.trans (hb.mono hB)
def bC (T : TypeId) (v : Value) : Sem Value := Instr.loadAt T v
def bA (T : TypeId) (v x : Value) : Sem Unit := Instr.storeAt T v x
def cx (W : World) (n : Nat) : Array Value := match W.heap[n]? with | some (.cells c _ _) => c | _ => #[]
def bq (W : World) (n m : Nat) : Bool := match W.heap[n]? with | some (.cells c _ fr) => fr == (0, 0) && decide (m ≤ c.size) | _ => false
def ct (c : Array Value) : Nat → List Value → Array Value
  | _, [] => c
  | o, v :: r => ct (c.setIfInBounds o v) (o + 1) r
section
variable (w : World) (c : Array Value) (t : TypeId) (ob : Obj) (d : Nat) (os : List Obj)
theorem ae (n : Nat) (hn : n = w.heap.size) : cx (w.alloc (.cells c t)) n = c := by
  subst hn; unfold cx; rw [Go.heap_alloc_new]
theorem al (n : Nat) (hn : n < w.heap.size) : cx (w.alloc ob) n = cx w n := by
  unfold cx; rw [Below.heap_alloc w ob n hn]
theorem b5 (n : Nat) (hn : n < w.heap.size) : cx (cu w d os) n = cx w n := by
  simp [cx, cG w d os n hn]
theorem aC (n : Nat) : cx w.drew n = cx w n := rfl
theorem aK (n m : Nat) : cx (w.drewN m) n = cx w n := rfl
theorem af (n m : Nat) (hn : n = w.heap.size) : bq (w.alloc (.cells c t)) n m = decide (m ≤ c.size) := by
  subst hn; unfold bq; rw [Go.heap_alloc_new]; simp
theorem ak (n m : Nat) (hn : n < w.heap.size) : bq (w.alloc ob) n m = bq w n m := by
  unfold bq; rw [Below.heap_alloc w ob n hn]
theorem aA (n m : Nat) (hn : n < w.heap.size) : bq (cu w d os) n m = bq w n m := by
  simp [bq, cG w d os n hn]
theorem aD (n m : Nat) : bq w.drew n m = bq w n m := rfl
theorem aJ (n m k : Nat) : bq (w.drewN k) n m = bq w n m := rfl
theorem bv (cs : List Value) (h : cs.length = c.size) : ct c 0 cs = cs.toArray := by
  have key : ∀ (cs : List Value) (o : Nat) (c : Array Value), o + cs.length ≤ c.size → (ct c o cs).toList = c.toList.take o ++ cs ++ c.toList.drop (o + cs.length) := by
    intro cs
    induction cs with
    | nil => intro o c _; simp [ct]
    | cons v r ih =>
      intro o c hc
      simp only [List.length_cons] at hc
      rw [ct, ih (o + 1) _ (by simp; omega)]
      simp only [Array.toList_setIfInBounds, List.length_cons]
      rw [List.take_set, List.drop_set]
      have : o < c.toList.length := by simp; omega
      rw [if_pos (by omega)]
      rw [show o + 1 + r.length = o + (r.length + 1) by omega]
      rw [List.take_succ_eq_append_getElem this, List.set_append_right _ _ (by simp; omega)]
      simp [Nat.min_eq_left (show o ≤ c.size by omega)]
  apply Array.toList_inj.1
  rw [key cs 0 c (by omega)]
  simp [h]
end
theorem ap (g : Nat) (t : TypeId) : ∀ (cs : List Value) (o : Nat) (c : Array Value) {w : World}, g = w.heap.size → (w.alloc (.cells c t)).setCells g o cs = w.alloc (.cells (ct c o cs) t)
  | [], _, _, _, _ => rfl
  | v :: r, o, c, w, h => by
    rw [World.setCells, World.setCell_alloc_at c t g o v h, ap g t r (o + 1) _ h]; rfl
theorem ar (g : Nat) (ob : Obj) : ∀ (cs : List Value) (o : Nat) {w : World}, g < w.heap.size → (w.alloc ob).setCells g o cs = (w.setCells g o cs).alloc ob
  | [], _, _, _ => rfl
  | v :: r, o, w, h => by
    rw [World.setCells, World.setCell_alloc_past ob g o v h, ar g ob r (o + 1) (by simpa using h)]; rfl
theorem aa (g d : Nat) (os : List Obj) : ∀ (cs : List Value) (o : Nat) {w : World}, g < w.heap.size → (cu w d os).setCells g o cs = cu (w.setCells g o cs) d os
  | [], _, _, _ => rfl
  | v :: r, o, w, h => by
    rw [World.setCells, aU w d os g o v h, aa g d os r (o + 1) (by simpa using h)]; rfl
theorem ab (g : Nat) : ∀ (cs : List Value) (o : Nat) (w : World), w.drew.setCells g o cs = (w.setCells g o cs).drew
  | [], _, _ => rfl
  | v :: r, o, w => by rw [World.setCells, World.setCell_drew, ab g r (o + 1)]; rfl
section
variable {P : Program}
theorem aE {ty : TypeId} {k : Nat} {d : TypeDesc} (hu : P.underlying ty = some d) (hd : d.isRow = true) (hi : (P.info? ty).map (·.size) = some k) (n o : Nat) (W : World) (h : bq W n (o + k) = true) :
    (loadVar ty ⟨n, o, none⟩).run P W = .ok (.agg ((cx W n).extract o (o + k))) W := by
  unfold bq at h
  split at h
  · rename_i c t fr hb
    simp only [Bool.and_eq_true, decide_eq_true_eq] at h
    have hr := World.rangeAt_of_block hb o k
    have := run_loadVar_mid (P := P) W n o ty _ d hr hu hd (by rw [hi]; simp; omega)
    rw [this]; unfold cx; rw [hb]
  · simp at h
theorem b6 {ty : TypeId} {k : Nat} (hi : (P.info? ty).map (·.size) = some k) (n o : Nat) (W : World) (cells : Array Value) (h : bq W n (o + k) = true) (hk : cells.size = k) (h1 : cells.all (·.oneCell') = true) :
    (storeVar ty ⟨n, o, none⟩ (.agg cells)).run P W = .ok () (W.setCells n o cells.toList) := by
  refine run_storeVar_mid W n o ty cells (fun j hj => ?_) (by rw [hi, hk]) h1
  unfold bq at h
  split at h
  · rename_i c t fr hb
    simp only [Bool.and_eq_true, decide_eq_true_eq, beq_iff_eq] at h
    obtain ⟨rfl, h2⟩ := h
    rw [cell_of_row W n _ c t (0, 0) hb, frozen_of_row W n _ c t hb]
    exact ⟨by simp; omega, rfl⟩
  · simp at h
end
section
open Go.ChangeShapes Go.WideShapes
variable {H : Type} {enc : TypeId × Value → H} {P : Program}
theorem post_of_below {f : Func} {s : ChangeSpec} {apart fresh handsOn again : Bool} {W W' : World} {args : Array Value} {v : Value} {ds gs : List (DataW H)} {before pa pv : List MemPlace}
    (hW : DataW.Whole enc P f.params.toList s.vars apart W args.toList ds gs before)
    (hres : ∀ (b : Nat) (sp : Nat → Bool) (hd : Bool), DataW.TrodAll enc P W' b sp hd f.resultTypes.toList (v.resultList f.resultTypes.size) (s.fn H (ds ++ gs)).results [])
    (hargs : ∀ sp : Nat → Bool, (∀ p ∈ before, sp p.block = true) → DataW.TrodAll enc P W' 0 sp true f.params.toList args.toList (s.fn H (ds ++ gs)).args pa)
    (hvars : ∀ sp : Nat → Bool, (∀ p ∈ before, sp p.block = true) → DataW.TrodVars enc P W' sp s.vars (s.fn H (ds ++ gs)).vars pv)
    (hps : before = pa ++ pv) (hb : Below W.heap.size W W')
    (hok : ∀ (j : Nat) (t : TypeId) (r : Value), f.resultTypes[j]? = some t → (v.resultList f.resultTypes.size)[j]? = some r → Value.okWide P W' .any 0 t r) :
    s.post enc P f apart fresh handsOn again W args v W' := by
  have hlt : ∀ p ∈ before, p.block < W.heap.size := fun p hp => hW.lt p hp
  have hold : ∀ p ∈ before, (fun b => decide (b < W.heap.size)) p.block = true := fun p hp => by simpa using hlt p hp
  refine ⟨ds, gs, before, [], pa, pv, hW, hres _ _ _, hargs _ hold, hvars _ hold, World.keptBut_mono (fun p hp => ⟨hp, ?_⟩) (hb.frame (· ∈ before)), fun _ => ?_⟩
  · rw [hps, List.mem_append] at hp
    exact Or.inr hp
  · obtain ⟨_, _, _, _, _, hz, hn⟩ := hW
    refine ⟨hok, _, _, ([] ++ pa) ++ pv, ⟨[] ++ pa, pv, trodAll_append (hargs _ (fun _ _ => rfl)) (hres _ _ _), hvars _ (fun _ _ => rfl), rfl, ?_, ?_⟩, ?_⟩
    · intro b off hp
      have hin : MemPlace.cell b off ∈ before := by rw [hps]; simpa using hp
      rw [hb.frozen (hlt _ hin)]
      exact hz b off hin
    · intro ha
      have := hn ha
      rw [hps] at this
      simpa using this
    · intro p hp _
      rw [hps]
      simpa using hp
end
end
/- Contracts (E). -/
section
open Go.RowKit
attribute [local go_sem] cm cl ck cj bj bY bi bl bf bg bc ba bh bd bn bo bm a8 cell?_grow frozen?_grow aU bw b0
attribute [local go_sem] ae al b5 aC aK af ak aA aD aJ bv ct ap ar aa ab
set_option linter.unusedVariables false
set_option linter.unusedSimpArgs false
theorem ite_res (c : Prop) [Decidable c] (x : Bool) (w : World) : (if c then Result.ok x w else Result.ok false w) = Result.ok (decide c && x) w := by by_cases h : c <;> simp [h]
theorem ite_res1 (c : Prop) [Decidable c] (w : World) : (if c then Result.ok true w else Result.ok false w) = Result.ok (decide c) w := by by_cases h : c <;> simp [h]
def tupEq (a b : Tup) : Bool := decide (a.ip = b.ip) && (decide (a.port = b.port) && (decide (a.my = b.my)))
theorem run_equalIn_TUP (d : Nat) (a_ip : Int) (a_port : Int) (a_my : Int) (b_ip : Int) (b_port : Int) (b_my : Int) (w : World) : (Op.equalIn (d + 3) 62 (.agg #[.int .i64 a_ip, .int .i64 a_port, .int .i64 a_my]) (.agg #[.int .i64 b_ip, .int .i64 b_port, .int .i64 b_my])).run Try.prog w = .ok (tupEq ⟨a_ip, a_port, a_my⟩ ⟨b_ip, b_port, b_my⟩) w := by
  have hu := Try.underlying62
  have hp : Try.prog.stoodInHeld 62 = false := by kernel_rfl
  have c_i : (Try.prog.info? 3).map (·.size) = some 1 := by kernel_rfl
  rw [run_equalIn_struct w (d + 2) _ _ _ (by simp [Program.fieldsOf, hu]) hp]
  simp [Program.fieldsOf, hu, go_sem]
  simp only [ite_res, ite_res1, tupEq, Bool.and_true, Bool.decide_eq_true, Bool.and_assoc]
theorem run_eql_TUP (a_ip : Int) (a_port : Int) (a_my : Int) (b_ip : Int) (b_port : Int) (b_my : Int) (w : World) : (binOp .eql 62 (.agg #[.int .i64 a_ip, .int .i64 a_port, .int .i64 a_my]) (.agg #[.int .i64 b_ip, .int .i64 b_port, .int .i64 b_my])).run Try.prog w = .ok (.bool (tupEq ⟨a_ip, a_port, a_my⟩ ⟨b_ip, b_port, b_my⟩)) w := by
  simp [binOp, Op.equal, Op.maxDepth, run_equalIn_TUP 9997]
def optEq (a b : Opt) : Bool := decide (a.mss = b.mss) && (decide (a.scale = b.scale) && (decide (a.sack = b.sack) && (decide (a.stamp = b.stamp) && (decide (a.val = b.val) && (decide (a.echo = b.echo))))))
theorem run_equalIn_OPT (d : Nat) (a_mss : Int) (a_scale : Int) (a_sack : Bool) (a_stamp : Bool) (a_val : Int) (a_echo : Int) (b_mss : Int) (b_scale : Int) (b_sack : Bool) (b_stamp : Bool) (b_val : Int) (b_echo : Int) (w : World) : (Op.equalIn (d + 3) 64 (.agg #[.int .i64 a_mss, .int .i64 a_scale, .bool a_sack, .bool a_stamp, .int .i64 a_val, .int .i64 a_echo]) (.agg #[.int .i64 b_mss, .int .i64 b_scale, .bool b_sack, .bool b_stamp, .int .i64 b_val, .int .i64 b_echo])).run Try.prog w = .ok (optEq ⟨a_mss, a_scale, a_sack, a_stamp, a_val, a_echo⟩ ⟨b_mss, b_scale, b_sack, b_stamp, b_val, b_echo⟩) w := by
  have hu := Try.underlying64
  have hp : Try.prog.stoodInHeld 64 = false := by kernel_rfl
  have c_b : (Try.prog.info? 4).map (·.size) = some 1 := by kernel_rfl
  have c_i : (Try.prog.info? 3).map (·.size) = some 1 := by kernel_rfl
  rw [run_equalIn_struct w (d + 2) _ _ _ (by simp [Program.fieldsOf, hu]) hp]
  simp [Program.fieldsOf, hu, go_sem]
  simp only [ite_res, ite_res1, optEq, Bool.and_true, Bool.decide_eq_true, Bool.and_assoc]
def hlfEq (a b : Hlf) : Bool := tupEq a.t b.t && (decide (a.iss = b.iss) && (decide (a.irs = b.irs) && (optEq a.o b.o && (decide (a.age = b.age) && (decide (a.window = b.window))))))
theorem run_equalIn_HLF (d : Nat) (a_t_ip : Int) (a_t_port : Int) (a_t_my : Int) (a_iss : Int) (a_irs : Int) (a_o_mss : Int) (a_o_scale : Int) (a_o_sack : Bool) (a_o_stamp : Bool) (a_o_val : Int) (a_o_echo : Int) (a_age : Int) (a_window : Int) (b_t_ip : Int) (b_t_port : Int) (b_t_my : Int) (b_iss : Int) (b_irs : Int) (b_o_mss : Int) (b_o_scale : Int) (b_o_sack : Bool) (b_o_stamp : Bool) (b_o_val : Int) (b_o_echo : Int) (b_age : Int) (b_window : Int) (w : World) : (Op.equalIn (d + 3) 94 (.agg #[.int .i64 a_t_ip, .int .i64 a_t_port, .int .i64 a_t_my, .int .i64 a_iss, .int .i64 a_irs, .int .i64 a_o_mss, .int .i64 a_o_scale, .bool a_o_sack, .bool a_o_stamp, .int .i64 a_o_val, .int .i64 a_o_echo, .int .i64 a_age, .int .i64 a_window]) (.agg #[.int .i64 b_t_ip, .int .i64 b_t_port, .int .i64 b_t_my, .int .i64 b_iss, .int .i64 b_irs, .int .i64 b_o_mss, .int .i64 b_o_scale, .bool b_o_sack, .bool b_o_stamp, .int .i64 b_o_val, .int .i64 b_o_echo, .int .i64 b_age, .int .i64 b_window])).run Try.prog w = .ok (hlfEq ⟨⟨a_t_ip, a_t_port, a_t_my⟩, a_iss, a_irs, ⟨a_o_mss, a_o_scale, a_o_sack, a_o_stamp, a_o_val, a_o_echo⟩, a_age, a_window⟩ ⟨⟨b_t_ip, b_t_port, b_t_my⟩, b_iss, b_irs, ⟨b_o_mss, b_o_scale, b_o_sack, b_o_stamp, b_o_val, b_o_echo⟩, b_age, b_window⟩) w := by
  have hu := Try.underlying94
  have hp : Try.prog.stoodInHeld 94 = false := by kernel_rfl
  have c_OPT : (Try.prog.info? 64).map (·.size) = some 6 := by kernel_rfl
  have c_TUP : (Try.prog.info? 62).map (·.size) = some 3 := by kernel_rfl
  have c_i : (Try.prog.info? 3).map (·.size) = some 1 := by kernel_rfl
  rw [run_equalIn_struct w (d + 2) _ _ _ (by simp [Program.fieldsOf, hu]) hp]
  simp [Program.fieldsOf, hu, go_sem, run_equalIn_TUP, run_equalIn_OPT]
  simp only [ite_res, ite_res1, hlfEq, tupEq, optEq, Bool.and_true, Bool.decide_eq_true, Bool.and_assoc]
theorem run_neq_HLF (a_t_ip : Int) (a_t_port : Int) (a_t_my : Int) (a_iss : Int) (a_irs : Int) (a_o_mss : Int) (a_o_scale : Int) (a_o_sack : Bool) (a_o_stamp : Bool) (a_o_val : Int) (a_o_echo : Int) (a_age : Int) (a_window : Int) (b_t_ip : Int) (b_t_port : Int) (b_t_my : Int) (b_iss : Int) (b_irs : Int) (b_o_mss : Int) (b_o_scale : Int) (b_o_sack : Bool) (b_o_stamp : Bool) (b_o_val : Int) (b_o_echo : Int) (b_age : Int) (b_window : Int) (w : World) : (binOp .neq 94 (.agg #[.int .i64 a_t_ip, .int .i64 a_t_port, .int .i64 a_t_my, .int .i64 a_iss, .int .i64 a_irs, .int .i64 a_o_mss, .int .i64 a_o_scale, .bool a_o_sack, .bool a_o_stamp, .int .i64 a_o_val, .int .i64 a_o_echo, .int .i64 a_age, .int .i64 a_window]) (.agg #[.int .i64 b_t_ip, .int .i64 b_t_port, .int .i64 b_t_my, .int .i64 b_iss, .int .i64 b_irs, .int .i64 b_o_mss, .int .i64 b_o_scale, .bool b_o_sack, .bool b_o_stamp, .int .i64 b_o_val, .int .i64 b_o_echo, .int .i64 b_age, .int .i64 b_window])).run Try.prog w = .ok (.bool (!hlfEq ⟨⟨a_t_ip, a_t_port, a_t_my⟩, a_iss, a_irs, ⟨a_o_mss, a_o_scale, a_o_sack, a_o_stamp, a_o_val, a_o_echo⟩, a_age, a_window⟩ ⟨⟨b_t_ip, b_t_port, b_t_my⟩, b_iss, b_irs, ⟨b_o_mss, b_o_scale, b_o_sack, b_o_stamp, b_o_val, b_o_echo⟩, b_age, b_window⟩)) w := by
  simp [binOp, Op.equal, Op.maxDepth, run_equalIn_HLF 9997]
end
/- Plain lemmas on lists (no program in sight). -/
section
def idxOf (o : Option Nat) : Int := match o with | some i => (i : Int) | none => -1
end
/- How a slice of structs reads: its rows of cells. -/
section
open Go.RowKit
set_option linter.unusedVariables false
set_option linter.unusedSimpArgs false
def ay (t : Tup) : List Value := [.int .i64 t.ip, .int .i64 t.port, .int .i64 t.my]
def pC (p : Pce) : List Value := [.int .i64 p.off, .string p.text]
def av (h : Hlf) : List Value := [.int .i64 h.t.ip, .int .i64 h.t.port, .int .i64 h.t.my, .int .i64 h.iss, .int .i64 h.irs, .int .i64 h.o.mss, .int .i64 h.o.scale, .bool h.o.sack, .bool h.o.stamp, .int .i64 h.o.val, .int .i64 h.o.echo, .int .i64 h.age, .int .i64 h.window]
def a6 (r : Mrw) : List Value := [.string r.input, .int .i64 r.value]
def Sl (w : World) (v : Value) (k : Nat) (rs : List (List Value)) : Prop :=
  ∃ a cap, v = .slice a rs.length cap ∧ rs.length ≤ cap ∧ cap ≤ maxLen ∧ (a = none → cap = 0) ∧
    ∀ i r, rs[i]? = some r → ∃ b off, a = some ⟨b, off, none⟩ ∧ b < w.heap.size ∧ w.rangeAt b (off + i * k) r
theorem Sl.kept {w w' : World} {v : Value} {k : Nat} {rs : List (List Value)} (h : Sl w v k rs) {B : Nat} (hb : Below B w w') (hB : w.heap.size ≤ B) : Sl w' v k rs := by
  obtain ⟨a, cap, h1, h2, h3, h4, h5⟩ := h
  refine ⟨a, cap, h1, h2, h3, h4, fun i r hr => ?_⟩
  obtain ⟨b, off, h6, h7, h8⟩ := h5 i r hr
  refine ⟨b, off, h6, by have := hb.size; omega, fun j c hc => ?_⟩
  rw [hb.cell (p := ⟨b, off + i * k + j, none⟩) (by simp; omega)]
  exact h8 j c hc
theorem Sl.nil (w : World) (k : Nat) : Sl w (.slice none 0 0) k [] := ⟨none, 0, rfl, Nat.le_refl _, Nat.zero_le _, fun _ => rfl, fun i r h => by simp at h⟩
theorem Below.rangeAt {B : Nat} {w w' : World} (h : Below B w w') {b o : Nat} {cs : List Value} (hb : b < B) (hr : w.rangeAt b o cs) : w'.rangeAt b o cs := fun j v hv => by
  rw [h.cell (p := ⟨b, o + j, none⟩) (by simpa using hb)]
  exact hr j v hv
def Own (w : World) (B : Nat) (v : Value) (k : Nat) (rs : List (List Value)) : Prop :=
  (rs = [] ∧ ∃ a, v = .slice a 0 0) ∨
  ∃ g off cap, v = .slice (some ⟨g, off, none⟩) rs.length cap ∧ B ≤ g ∧ g < w.heap.size ∧ rs.length ≤ cap ∧ cap ≤ maxLen ∧ w.there g off (rs.length * k) ∧
    ∀ i r, rs[i]? = some r → w.rangeAt g (off + i * k) r
theorem Own.sl {w : World} {B : Nat} {v : Value} {k : Nat} {rs : List (List Value)} (h : Own w B v k rs) : Sl w v k rs := by
  rcases h with ⟨rfl, a, rfl⟩ | ⟨g, off, cap, rfl, h1, h2, h3, h4, h5, h6⟩
  · exact ⟨a, 0, rfl, Nat.le_refl _, Nat.zero_le _, fun _ => rfl, fun i r h => by simp at h⟩
  · exact ⟨_, cap, rfl, h3, h4, fun h => by simp at h, fun i r hr => ⟨g, off, rfl, h2, h6 i r hr⟩⟩
theorem Own.kept {w w' : World} {B : Nat} {v : Value} {k : Nat} {rs : List (List Value)} (h : Own w B v k rs) (hs : w.heap.size ≤ w'.heap.size) (hb : ∀ g, v.ownBlock = some g → B ≤ g → w'.heap[g]? = w.heap[g]?) : Own w' B v k rs := by
  rcases h with ⟨rfl, a, rfl⟩ | ⟨g, off, cap, rfl, h1, h2, h3, h4, h5, h6⟩
  · exact .inl ⟨rfl, a, rfl⟩
  · have hg := hb g rfl h1
    have hc : ∀ o, w'.cell? ⟨g, o, none⟩ = w.cell? ⟨g, o, none⟩ := fun o => World.cell?_of_block (a := ⟨g, o, none⟩) hg
    have hf : ∀ o, w'.frozen? ⟨g, o, none⟩ = w.frozen? ⟨g, o, none⟩ := fun o => World.frozen?_of_block (a := ⟨g, o, none⟩) hg
    refine .inr ⟨g, off, cap, rfl, h1, by omega, h3, h4, fun j hj => ?_, fun i r hr j v hv => ?_⟩
    · rw [hc, hf]; exact h5 j hj
    · rw [hc]; exact h6 i r hr j v hv
theorem Own.below {w w' : World} {B : Nat} {v : Value} {k : Nat} {rs : List (List Value)} (h : Own w B v k rs) {C : Nat} (hb : Below C w w') (hC : w.heap.size ≤ C) : Own w' B v k rs :=
by
  rcases h with ⟨rfl, a, rfl⟩ | ⟨g', off, cap, rfl, h1, h2, h3⟩
  · exact .inl ⟨rfl, a, rfl⟩
  · exact Own.kept (.inr ⟨g', off, cap, rfl, h1, h2, h3⟩) hb.size (fun g hg _ => hb.block g (by simp [Value.ownBlock] at hg; omega))
theorem Own.lower {w : World} {B B' : Nat} {v : Value} {k : Nat} {rs : List (List Value)} (h : Own w B v k rs) (hB : B' ≤ B) : Own w B' v k rs := by
  rcases h with h | ⟨g, off, cap, h0, h1, h2⟩
  · exact .inl h
  · exact .inr ⟨g, off, cap, h0, by omega, h2⟩
theorem flat_get {k : Nat} : ∀ {rs : List (List Value)}, (∀ r ∈ rs, r.length = k) → ∀ {i : Nat} {r : List Value}, rs[i]? = some r → ∀ {j : Nat} {c : Value}, r[j]? = some c → rs.flatten[i * k + j]? = some c
  | [], _, i, r, hr, _, _, _ => by simp at hr
  | x :: rs, hk, i, r, hr, j, c, hc => by
    have hx : x.length = k := hk x (by simp)
    cases i with
    | zero =>
      simp at hr; subst hr
      have hj := (List.getElem?_eq_some_iff.1 hc).1
      simp only [List.flatten_cons, Nat.zero_mul, Nat.zero_add]
      rw [List.getElem?_append_left hj]; exact hc
    | succ i =>
      simp at hr
      have := flat_get (fun r h => hk r (by simp [h])) hr hc
      simp only [List.flatten_cons]
      rw [List.getElem?_append_right (by rw [hx, Nat.succ_mul]; omega), hx, Nat.succ_mul, show i * k + k + j - k = i * k + j by omega]
      exact this
theorem flat_len {k : Nat} {rs : List (List Value)} (hk : ∀ r ∈ rs, r.length = k) : rs.flatten.length = rs.length * k := by
  induction rs with
  | nil => simp
  | cons x rs ih => simp [hk x (by simp), ih (fun r h => hk r (by simp [h])), Nat.succ_mul, Nat.add_comm]
theorem Own.of_row {w : World} {B e k n : Nat} {v : Value} {rs : List (List Value)} (h : w.ownsRow B e k v n rs.flatten) (hk : ∀ r ∈ rs, r.length = k) (hn : n = rs.length) : Own w B v k rs := by
  obtain ⟨hl, h⟩ := h
  rcases h with ⟨rfl, rfl⟩ | ⟨g, cap, cur, rfl, hg, hh, hn', hc, hs, ht⟩
  · exact .inl ⟨List.eq_nil_of_length_eq_zero hn.symm, _, rfl⟩
  · subst hn
    have hcell : ∀ o, w.cell? ⟨g, o, none⟩ = cur[o]? := fun o => cell_of_row w g o cur e (0, 0) hh
    refine .inr ⟨g, 0, cap, rfl, hg, ?_, hn', hc, fun j hj => ?_, fun i r hr j c hc => ?_⟩
    · have := (Array.getElem?_eq_some_iff.1 hh).1; exact this
    · rw [hcell, frozen_of_row w g _ cur e hh]
      have : rs.length * k ≤ cap * k := Nat.mul_le_mul_right k hn'
      exact ⟨by simp; omega, rfl⟩
    · rw [hcell]
      have h1 := flat_get hk hr hc
      rw [← ht] at h1
      simp only [Nat.zero_add]
      rw [← Array.getElem?_toList]
      rw [List.getElem?_take] at h1
      split at h1
      · exact h1
      · simp at h1
theorem Below.setCells {B : Nat} {a : World} {g : Nat} (hg : B ≤ g) : ∀ (vs : List Value) (o : Nat) {w : World}, Below B a w → Below B a (w.setCells g o vs)
  | [], _, _, h => h
  | v :: r, o, w, h => Below.setCells hg r (o + 1) (Below.setCell h hg v)
theorem cq (g : Nat) : ∀ (vs : List Value) (o : Nat) (w : World), (w.setCells g o vs).heap.size = w.heap.size
  | [], _, _ => rfl
  | v :: r, o, w => (cq g r (o + 1) _).trans (by simp [World.setCell])
def Fill (w : World) (g n K : Nat) (rs : List (List Value)) (k : Nat) : Prop := w.there g 0 (n * K) ∧ ∀ i r, i < k → rs[i]? = some r → w.rangeAt g (i * K) r
theorem Fill.below {w w' : World} {g n K k : Nat} {rs : List (List Value)} (h : Fill w g n K rs k) {C : Nat} (hb : Below C w w') (hg : g < C) : Fill w' g n K rs k :=
  ⟨fun j hj => by
    rw [hb.cell (p := ⟨g, 0 + j, none⟩) hg, hb.frozen (p := ⟨g, 0 + j, none⟩) hg]; exact h.1 j hj,
   fun i r hi hr j v hv => by rw [hb.cell (p := ⟨g, i * K + j, none⟩) hg]; exact h.2 i r hi hr j v hv⟩
theorem Fill.step {w : World} {g n K k : Nat} {rs : List (List Value)} {r : List Value} (h : Fill w g n K rs k) (hk : ∀ r ∈ rs, r.length = K) (hr : rs[k]? = some r) (hn : rs.length = n) : Fill (w.setCells g (k * K) r) g n K rs (k + 1) := by
  have hkn : k < n := by have := (List.getElem?_eq_some_iff.1 hr).1; omega
  have hrl : r.length = K := hk r (List.mem_of_getElem? hr)
  have hbd : k * K + K ≤ n * K := by
    have : (k + 1) * K ≤ n * K := Nat.mul_le_mul_right K hkn
    rw [Nat.succ_mul] at this; exact this
  refine ⟨World.there_setCells h.1 _ _ _, fun i r' hi hr' => ?_⟩
  rcases Nat.lt_succ_iff_lt_or_eq.1 hi with hi | rfl
  · refine World.rangeAt_setCells_apart (h.2 i r' hi hr') _ _ _ (.inr (.inl ?_))
    rw [hk r' (List.mem_of_getElem? hr')]
    have : (i + 1) * K ≤ k * K := Nat.mul_le_mul_right K hi
    rw [Nat.succ_mul] at this; exact this
  · rw [hr] at hr'; simp only [Option.some.injEq] at hr'; subst hr'
    refine World.rangeAt_setCells_same _ _ _ _ fun j hj => ?_
    have := h.1 (i * K + j) (by omega)
    simpa using this
theorem Fill.own {w : World} {B g n K : Nat} {rs : List (List Value)} (h : Fill w g n K rs n) (hn : rs.length = n) (hB : B ≤ g) (hg : g < w.heap.size) (hm : n ≤ maxLen) : Own w B (.slice (some ⟨g, 0, none⟩) n n) K rs := by
  subst hn
  exact .inr ⟨g, 0, _, rfl, hB, hg, Nat.le_refl _, hm, h.1, fun i r hr => by
    have := h.2 i r (List.getElem?_eq_some_iff.1 hr).1 hr
    simpa using this⟩
theorem Fill.there {w : World} {g n K k : Nat} {rs : List (List Value)} (h : Fill w g n K rs k) (hk : k < n) : w.there g (k * K) K := fun j hj => by
  have hbd : k * K + K ≤ n * K := by
    have : (k + 1) * K ≤ n * K := Nat.mul_le_mul_right K hk
    rw [Nat.succ_mul] at this; exact this
  have := h.1 (k * K + j) (by omega)
  simpa using this
theorem Fill.old {w : World} {g n K k : Nat} {rs : List (List Value)} (h : Fill w g n K rs k) (hk : k < n) (j : Nat) (hj : j < K) : (∃ v, w.cell? ⟨g, k * K + j, none⟩ = some v) ∧ w.frozen? ⟨g, k * K + j, none⟩ = false := by
  obtain ⟨h1, h2⟩ := h.there hk j hj
  exact ⟨Option.isSome_iff_exists.1 h1, h2⟩
theorem Fill.start {w : World} {B e K n g cap : Nat} {xs : List Value} {rs : List (List Value)} (h : w.ownsRow B e K (.slice (some ⟨g, 0, none⟩) n cap) n xs) : Fill w g n K rs 0 := by
  obtain ⟨hl, h⟩ := h
  rcases h with ⟨h, _⟩ | ⟨g', cap', cur, h, _, hh, hn', hc, hs, ht⟩
  · simp at h
  · simp at h; obtain ⟨rfl, rfl⟩ := h
    refine ⟨fun j hj => ?_, fun i r hi => by omega⟩
    rw [cell_of_row w g _ cur e (0, 0) hh, frozen_of_row w g _ cur e hh]
    have : n * K ≤ cap * K := Nat.mul_le_mul_right K hn'
    exact ⟨by simp; omega, rfl⟩
theorem Sl.of_open {w : World} {a : Addr} {len cap k : Nat} {rows : Nat → List Value} (hl : len ≤ cap) (hm : cap ≤ maxLen) (hk : 0 < k) (h : ∀ i, i < len → w.cells? 0 (a.add (i * k)) k = some (rows i)) :
    Sl w (.slice (some a) len cap) k ((List.range len).map rows) := by
  refine ⟨some a, cap, by simp, by simpa using hl, hm, fun h => by simp at h, fun i r hr => ?_⟩
  have hi : i < len := by have := (List.getElem?_eq_some_iff.1 hr).1; simpa using this
  have hr' : rows i = r := by simpa [hi] using hr
  subst hr'
  have hsp : a.spot = none := by
    obtain ⟨_, hl0, hc⟩ := World.cells?_some (h 0 (by omega))
    have h0 := hc 0 hk
    have : w.cell? a = some ((rows 0)[0]'(by omega)) := by simpa [Addr.add] using h0.trans (List.getElem?_eq_getElem (by omega))
    cases hsp : a.spot with
    | none => rfl
    | some s =>
      unfold World.cell? at this
      simp only [hsp, Option.isSome_some, if_true] at this
      split at this <;> simp at this
  obtain ⟨b, off, sp⟩ := a
  simp only at hsp
  subst hsp
  obtain ⟨_, hli, hci⟩ := World.cells?_some (h i hi)
  have hrange : w.rangeAt b (off + i * k) (rows i) := fun j v hv => by
    have hj : j < k := by have := (List.getElem?_eq_some_iff.1 hv).1; omega
    have := hci j hj
    rw [Addr.add_mid, Addr.add_mid] at this
    exact this.trans hv
  refine ⟨b, off, rfl, ?_, hrange⟩
  have := hrange 0 _ (List.getElem?_eq_getElem (by omega))
  exact block_lt_of_cell this
structure Mid (L U : Nat) (w w' : World) : Prop where
  size : w.heap.size ≤ w'.heap.size
  block : ∀ k, L ≤ k → k < U → w'.heap[k]? = w.heap[k]?
theorem Mid.refl (L U : Nat) (w : World) : Mid L U w w := ⟨Nat.le_refl _, fun _ _ _ => rfl⟩
theorem Mid.alloc {L U : Nat} {a w : World} (h : Mid L U a w) (hU : U ≤ w.heap.size) (o : Obj) : Mid L U a (w.alloc o) :=
  ⟨Nat.le_trans h.size (by simp), fun k h1 h2 => (Below.heap_alloc w o k (by omega)).trans (h.block k h1 h2)⟩
theorem Mid.setCell {L U : Nat} {a w : World} (h : Mid L U a w) {p : Addr} (hp : p.block < L ∨ U ≤ p.block) (u : Value) : Mid L U a (w.setCell p u) :=
  ⟨by simpa [World.setCell] using h.size, fun k h1 h2 => (Below.heap_setCell w p u k (by omega)).trans (h.block k h1 h2)⟩
theorem Mid.drew {L U : Nat} {a w : World} (h : Mid L U a w) : Mid L U a w.drew := ⟨h.size, h.block⟩
theorem Mid.drewN {L U : Nat} {a w : World} (h : Mid L U a w) (n : Nat) : Mid L U a (w.drewN n) := ⟨h.size, h.block⟩
theorem Mid.below {L U : Nat} {a W w1 : World} (h : Mid L U a W) (hb : Below W.heap.size W w1) (hU : U ≤ W.heap.size) : Mid L U a w1 :=
  ⟨Nat.le_trans h.size hb.size, fun k h1 h2 => (hb.block k (by omega)).trans (h.block k h1 h2)⟩
theorem Own.mid {w w' : World} {B : Nat} {v : Value} {k : Nat} {rs : List (List Value)} (h : Own w B v k rs) (hm : Mid B w.heap.size w w') : Own w' B v k rs := by
  rcases h with ⟨rfl, a, rfl⟩ | ⟨g', off, cap, rfl, h1, h2, h3⟩
  · exact .inl ⟨rfl, a, rfl⟩
  · exact Own.kept (.inr ⟨g', off, cap, rfl, h1, h2, h3⟩) hm.size (fun g hg _ => hm.block g (by simp [Value.ownBlock] at hg; omega) (by simp [Value.ownBlock] at hg; omega))
theorem Own.form {w : World} {B : Nat} {v : Value} {k : Nat} {rs : List (List Value)} (h : Own w B v k rs) : ∃ a cap, v = .slice a rs.length cap := by
  rcases h with ⟨rfl, a, rfl⟩ | ⟨g', off, cap, rfl, h3⟩
  · exact ⟨a, 0, rfl⟩
  · exact ⟨_, _, rfl⟩
theorem Sl.form {w : World} {v : Value} {k : Nat} {rs : List (List Value)} (h : Sl w v k rs) : ∃ a cap, v = .slice a rs.length cap := by
  obtain ⟨a, cap, h, _⟩ := h; exact ⟨a, cap, h⟩
theorem Mid.grow {L U : Nat} {a w : World} (h : Mid L U a w) (hU : U ≤ w.heap.size) (d : Nat) (os : List Obj) : Mid L U a (cu w d os) :=
  ⟨Nat.le_trans h.size (by rw [a8]; omega), fun k h1 h2 => (cG w d os k (by omega)).trans (h.block k h1 h2)⟩
theorem Mid.swap {U : Nat} {W W' : World} {d d' : Nat} {os : List Obj} (h : W.heap.size = W'.heap.size) : Mid W.heap.size U (cu W d os) (cu W' d' os) :=
  ⟨by rw [a8, a8]; omega, fun k h1 _ => by
    show (W'.heap ++ os.toArray)[k]? = (W.heap ++ os.toArray)[k]?
    rw [Array.getElem?_append_right (by omega), Array.getElem?_append_right (by omega), h]⟩
end
/- Contracts (O). -/
section
open Go.RowKit
attribute [local go_sem] cm cl ck cj bj bY bi bl bf bg bc ba bh bd bn bo bm a8 cell?_grow frozen?_grow aU bw b0
attribute [local go_sem] ae al b5 aC aK af ak aA aD aJ bv ct ap ar aa ab
set_option linter.unusedVariables false
set_option linter.unusedSimpArgs false
theorem shape2 {l : List Value} (h : l.length = 2) : ∃ c0 c1, l = [c0, c1] := by
  match l, h with
  | [c0, c1], _ => exact ⟨_, _, rfl⟩
theorem shape3 {l : List Value} (h : l.length = 3) : ∃ c0 c1 c2, l = [c0, c1, c2] := by
  match l, h with
  | [c0, c1, c2], _ => exact ⟨_, _, _, rfl⟩
theorem shape4 {l : List Value} (h : l.length = 4) : ∃ c0 c1 c2 c3, l = [c0, c1, c2, c3] := by
  match l, h with
  | [c0, c1, c2, c3], _ => exact ⟨_, _, _, _, rfl⟩
theorem shape5 {l : List Value} (h : l.length = 5) : ∃ c0 c1 c2 c3 c4, l = [c0, c1, c2, c3, c4] := by
  match l, h with
  | [c0, c1, c2, c3, c4], _ => exact ⟨_, _, _, _, _, rfl⟩
theorem shape6 {l : List Value} (h : l.length = 6) : ∃ c0 c1 c2 c3 c4 c5, l = [c0, c1, c2, c3, c4, c5] := by
  match l, h with
  | [c0, c1, c2, c3, c4, c5], _ => exact ⟨_, _, _, _, _, _, rfl⟩
theorem shape10 {l : List Value} (h : l.length = 10) : ∃ c0 c1 c2 c3 c4 c5 c6 c7 c8 c9, l = [c0, c1, c2, c3, c4, c5, c6, c7, c8, c9] := by
  match l, h with
  | [c0, c1, c2, c3, c4, c5, c6, c7, c8, c9], _ => exact ⟨_, _, _, _, _, _, _, _, _, _, rfl⟩
theorem shape13 {l : List Value} (h : l.length = 13) : ∃ c0 c1 c2 c3 c4 c5 c6 c7 c8 c9 c10 c11 c12, l = [c0, c1, c2, c3, c4, c5, c6, c7, c8, c9, c10, c11, c12] := by
  match l, h with
  | [c0, c1, c2, c3, c4, c5, c6, c7, c8, c9, c10, c11, c12], _ => exact ⟨_, _, _, _, _, _, _, _, _, _, _, _, _, rfl⟩
theorem shape20 {l : List Value} (h : l.length = 20) : ∃ c0 c1 c2 c3 c4 c5 c6 c7 c8 c9 c10 c11 c12 c13 c14 c15 c16 c17 c18 c19, l = [c0, c1, c2, c3, c4, c5, c6, c7, c8, c9, c10, c11, c12, c13, c14, c15, c16, c17, c18, c19] := by
  match l, h with
  | [c0, c1, c2, c3, c4, c5, c6, c7, c8, c9, c10, c11, c12, c13, c14, c15, c16, c17, c18, c19], _ => exact ⟨_, _, _, _, _, _, _, _, _, _, _, _, _, _, _, _, _, _, _, _, rfl⟩
theorem shape25 {l : List Value} (h : l.length = 25) : ∃ c0 c1 c2 c3 c4 c5 c6 c7 c8 c9 c10 c11 c12 c13 c14 c15 c16 c17 c18 c19 c20 c21 c22 c23 c24, l = [c0, c1, c2, c3, c4, c5, c6, c7, c8, c9, c10, c11, c12, c13, c14, c15, c16, c17, c18, c19, c20, c21, c22, c23, c24] := by
  match l, h with
  | [c0, c1, c2, c3, c4, c5, c6, c7, c8, c9, c10, c11, c12, c13, c14, c15, c16, c17, c18, c19, c20, c21, c22, c23, c24], _ => exact ⟨_, _, _, _, _, _, _, _, _, _, _, _, _, _, _, _, _, _, _, _, _, _, _, _, _, rfl⟩
theorem aO {n : Int} (h : (Lit.int .i64 n).wf = true) : co n := by
  simp [Lit.wf, IntKind.min, IntKind.max, IntKind.signed, IntKind.bits] at h
  exact ⟨by omega, by omega⟩
theorem wf_u64 {n : Int} (h : (Lit.int .u64 n).wf = true) : U64 n := by
  simp [Lit.wf, IntKind.min, IntKind.max, IntKind.signed, IntKind.bits] at h
  exact ⟨by omega, by omega⟩
theorem Try.ownK : ownKnob Try.prog.godebug = none := by kernel_rfl
theorem Try.laidOut : laidOutB Try.prog = true := by kernel_rfl
section
variable {H : Type} {enc : TypeId × Value → H} {w : World} {base : Nat} {spare : Nat → Bool} {held : Bool} {fuel : Nat} {cs : List Value} {x : DataW H × List MemPlace}
theorem open_TUP (h : DataW.trod enc Try.prog w base spare held fuel 55 cs = some x) :
    ∃ (a_ip : Int) (a_port : Int) (a_my : Int), cs = [.int .i64 a_ip, .int .i64 a_port, .int .i64 a_my] ∧ co a_ip ∧ co a_port ∧ co a_my := by
  have cT : Try.prog.cellsOf 55 = 3 := by kernel_rfl
  have ct0 : Try.prog.cellsOf 3 = 1 := by kernel_rfl
  obtain ⟨xs, n, _, _, hl, hxl, hg⟩ := DataW.trod_struct Try.underlying55 h
  rw [cT] at hl
  obtain ⟨c0, c1, c2, rfl⟩ := shape3 hl
  obtain ⟨y0, hy0⟩ : ∃ y, xs[0]? = some y := ⟨_, List.getElem?_eq_getElem (by simp at hxl; omega)⟩
  have h0 : DataW.trod enc Try.prog w base spare held n 3 [c0] = some y0 := by rw [← hy0]; simpa [ct0] using hg 0 _ rfl
  obtain ⟨m0, e0, -, w0⟩ := DataW.trod_int Try.underlying3 h0
  obtain ⟨y1, hy1⟩ : ∃ y, xs[1]? = some y := ⟨_, List.getElem?_eq_getElem (by simp at hxl; omega)⟩
  have h1 : DataW.trod enc Try.prog w base spare held n 3 [c1] = some y1 := by rw [← hy1]; simpa [ct0] using hg 1 _ rfl
  obtain ⟨m1, e1, -, w1⟩ := DataW.trod_int Try.underlying3 h1
  obtain ⟨y2, hy2⟩ : ∃ y, xs[2]? = some y := ⟨_, List.getElem?_eq_getElem (by simp at hxl; omega)⟩
  have h2 : DataW.trod enc Try.prog w base spare held n 3 [c2] = some y2 := by rw [← hy2]; simpa [ct0] using hg 2 _ rfl
  obtain ⟨m2, e2, -, w2⟩ := DataW.trod_int Try.underlying3 h2
  simp only [List.cons.injEq, and_true] at e0 e1 e2
  subst e0
  subst e1
  subst e2
  exact ⟨_, _, _, rfl, aO w0, aO w1, aO w2⟩
theorem open_OPT (h : DataW.trod enc Try.prog w base spare held fuel 57 cs = some x) :
    ∃ (a_mss : Int) (a_scale : Int) (a_sack : Bool) (a_stamp : Bool) (a_val : Int) (a_echo : Int), cs = [.int .i64 a_mss, .int .i64 a_scale, .bool a_sack, .bool a_stamp, .int .i64 a_val, .int .i64 a_echo] ∧ co a_mss ∧ co a_scale ∧ co a_val ∧ co a_echo := by
  have cT : Try.prog.cellsOf 57 = 6 := by kernel_rfl
  have ct0 : Try.prog.cellsOf 4 = 1 := by kernel_rfl
  have ct1 : Try.prog.cellsOf 3 = 1 := by kernel_rfl
  obtain ⟨xs, n, _, _, hl, hxl, hg⟩ := DataW.trod_struct Try.underlying57 h
  rw [cT] at hl
  obtain ⟨c0, c1, c2, c3, c4, c5, rfl⟩ := shape6 hl
  obtain ⟨y0, hy0⟩ : ∃ y, xs[0]? = some y := ⟨_, List.getElem?_eq_getElem (by simp at hxl; omega)⟩
  have h0 : DataW.trod enc Try.prog w base spare held n 3 [c0] = some y0 := by rw [← hy0]; simpa [ct0, ct1] using hg 0 _ rfl
  obtain ⟨m0, e0, -, w0⟩ := DataW.trod_int Try.underlying3 h0
  obtain ⟨y1, hy1⟩ : ∃ y, xs[1]? = some y := ⟨_, List.getElem?_eq_getElem (by simp at hxl; omega)⟩
  have h1 : DataW.trod enc Try.prog w base spare held n 3 [c1] = some y1 := by rw [← hy1]; simpa [ct0, ct1] using hg 1 _ rfl
  obtain ⟨m1, e1, -, w1⟩ := DataW.trod_int Try.underlying3 h1
  obtain ⟨y2, hy2⟩ : ∃ y, xs[2]? = some y := ⟨_, List.getElem?_eq_getElem (by simp at hxl; omega)⟩
  have h2 : DataW.trod enc Try.prog w base spare held n 4 [c2] = some y2 := by rw [← hy2]; simpa [ct0, ct1] using hg 2 _ rfl
  obtain ⟨m2, e2, -⟩ := DataW.trod_bool Try.underlying4 h2
  obtain ⟨y3, hy3⟩ : ∃ y, xs[3]? = some y := ⟨_, List.getElem?_eq_getElem (by simp at hxl; omega)⟩
  have h3 : DataW.trod enc Try.prog w base spare held n 4 [c3] = some y3 := by rw [← hy3]; simpa [ct0, ct1] using hg 3 _ rfl
  obtain ⟨m3, e3, -⟩ := DataW.trod_bool Try.underlying4 h3
  obtain ⟨y4, hy4⟩ : ∃ y, xs[4]? = some y := ⟨_, List.getElem?_eq_getElem (by simp at hxl; omega)⟩
  have h4 : DataW.trod enc Try.prog w base spare held n 3 [c4] = some y4 := by rw [← hy4]; simpa [ct0, ct1] using hg 4 _ rfl
  obtain ⟨m4, e4, -, w4⟩ := DataW.trod_int Try.underlying3 h4
  obtain ⟨y5, hy5⟩ : ∃ y, xs[5]? = some y := ⟨_, List.getElem?_eq_getElem (by simp at hxl; omega)⟩
  have h5 : DataW.trod enc Try.prog w base spare held n 3 [c5] = some y5 := by rw [← hy5]; simpa [ct0, ct1] using hg 5 _ rfl
  obtain ⟨m5, e5, -, w5⟩ := DataW.trod_int Try.underlying3 h5
  simp only [List.cons.injEq, and_true] at e0 e1 e2 e3 e4 e5
  subst e0
  subst e1
  subst e2
  subst e3
  subst e4
  subst e5
  exact ⟨_, _, _, _, _, _, rfl, aO w0, aO w1, aO w4, aO w5⟩
theorem open_SND (h : DataW.trod enc Try.prog w base spare held fuel 134 cs = some x) :
    ∃ (a_una : Int) (a_data : ByteArray) (a_sent : Int) (a_fin : Bool) (a_finSent : Bool) (a_done : Bool), cs = [.int .i64 a_una, .string a_data, .int .i64 a_sent, .bool a_fin, .bool a_finSent, .bool a_done] ∧ co a_una ∧ a_data.size ≤ maxLen ∧ co a_sent := by
  have cT : Try.prog.cellsOf 134 = 6 := by kernel_rfl
  have ct0 : Try.prog.cellsOf 4 = 1 := by kernel_rfl
  have ct1 : Try.prog.cellsOf 3 = 1 := by kernel_rfl
  have ct2 : Try.prog.cellsOf 9 = 1 := by kernel_rfl
  obtain ⟨xs, n, _, _, hl, hxl, hg⟩ := DataW.trod_struct Try.underlying134 h
  rw [cT] at hl
  obtain ⟨c0, c1, c2, c3, c4, c5, rfl⟩ := shape6 hl
  obtain ⟨y0, hy0⟩ : ∃ y, xs[0]? = some y := ⟨_, List.getElem?_eq_getElem (by simp at hxl; omega)⟩
  have h0 : DataW.trod enc Try.prog w base spare held n 3 [c0] = some y0 := by rw [← hy0]; simpa [ct0, ct1, ct2] using hg 0 _ rfl
  obtain ⟨m0, e0, -, w0⟩ := DataW.trod_int Try.underlying3 h0
  obtain ⟨y1, hy1⟩ : ∃ y, xs[1]? = some y := ⟨_, List.getElem?_eq_getElem (by simp at hxl; omega)⟩
  have h1 : DataW.trod enc Try.prog w base spare held n 9 [c1] = some y1 := by rw [← hy1]; simpa [ct0, ct1, ct2] using hg 1 _ rfl
  obtain ⟨m1, e1, -, w1⟩ := DataW.trod_string Try.underlying9 h1
  obtain ⟨y2, hy2⟩ : ∃ y, xs[2]? = some y := ⟨_, List.getElem?_eq_getElem (by simp at hxl; omega)⟩
  have h2 : DataW.trod enc Try.prog w base spare held n 3 [c2] = some y2 := by rw [← hy2]; simpa [ct0, ct1, ct2] using hg 2 _ rfl
  obtain ⟨m2, e2, -, w2⟩ := DataW.trod_int Try.underlying3 h2
  obtain ⟨y3, hy3⟩ : ∃ y, xs[3]? = some y := ⟨_, List.getElem?_eq_getElem (by simp at hxl; omega)⟩
  have h3 : DataW.trod enc Try.prog w base spare held n 4 [c3] = some y3 := by rw [← hy3]; simpa [ct0, ct1, ct2] using hg 3 _ rfl
  obtain ⟨m3, e3, -⟩ := DataW.trod_bool Try.underlying4 h3
  obtain ⟨y4, hy4⟩ : ∃ y, xs[4]? = some y := ⟨_, List.getElem?_eq_getElem (by simp at hxl; omega)⟩
  have h4 : DataW.trod enc Try.prog w base spare held n 4 [c4] = some y4 := by rw [← hy4]; simpa [ct0, ct1, ct2] using hg 4 _ rfl
  obtain ⟨m4, e4, -⟩ := DataW.trod_bool Try.underlying4 h4
  obtain ⟨y5, hy5⟩ : ∃ y, xs[5]? = some y := ⟨_, List.getElem?_eq_getElem (by simp at hxl; omega)⟩
  have h5 : DataW.trod enc Try.prog w base spare held n 4 [c5] = some y5 := by rw [← hy5]; simpa [ct0, ct1, ct2] using hg 5 _ rfl
  obtain ⟨m5, e5, -⟩ := DataW.trod_bool Try.underlying4 h5
  simp only [List.cons.injEq, and_true] at e0 e1 e2 e3 e4 e5
  subst e0
  subst e1
  subst e2
  subst e3
  subst e4
  subst e5
  exact ⟨_, _, _, _, _, _, rfl, aO w0, w1, aO w2⟩
theorem open_PCE (h : DataW.trod enc Try.prog w base spare held fuel 182 cs = some x) :
    ∃ (a_off : Int) (a_text : ByteArray), cs = [.int .i64 a_off, .string a_text] ∧ co a_off ∧ a_text.size ≤ maxLen := by
  have cT : Try.prog.cellsOf 182 = 2 := by kernel_rfl
  have ct0 : Try.prog.cellsOf 3 = 1 := by kernel_rfl
  have ct1 : Try.prog.cellsOf 9 = 1 := by kernel_rfl
  obtain ⟨xs, n, _, _, hl, hxl, hg⟩ := DataW.trod_struct Try.underlying182 h
  rw [cT] at hl
  obtain ⟨c0, c1, rfl⟩ := shape2 hl
  obtain ⟨y0, hy0⟩ : ∃ y, xs[0]? = some y := ⟨_, List.getElem?_eq_getElem (by simp at hxl; omega)⟩
  have h0 : DataW.trod enc Try.prog w base spare held n 3 [c0] = some y0 := by rw [← hy0]; simpa [ct0, ct1] using hg 0 _ rfl
  obtain ⟨m0, e0, -, w0⟩ := DataW.trod_int Try.underlying3 h0
  obtain ⟨y1, hy1⟩ : ∃ y, xs[1]? = some y := ⟨_, List.getElem?_eq_getElem (by simp at hxl; omega)⟩
  have h1 : DataW.trod enc Try.prog w base spare held n 9 [c1] = some y1 := by rw [← hy1]; simpa [ct0, ct1] using hg 1 _ rfl
  obtain ⟨m1, e1, -, w1⟩ := DataW.trod_string Try.underlying9 h1
  simp only [List.cons.injEq, and_true] at e0 e1
  subst e0
  subst e1
  exact ⟨_, _, rfl, aO w0, w1⟩
theorem open_RCV (h : DataW.trod enc Try.prog w base spare held fuel 137 cs = some x) :
    ∃ (a_next : Int) (a_data : ByteArray) (a_held_v : Value) (a_fin : Int) (a_done : Bool), cs = [.int .i64 a_next, .string a_data, a_held_v, .int .i64 a_fin, .bool a_done] ∧ co a_next ∧ a_data.size ≤ maxLen ∧ (∃ m y, DataW.trod enc Try.prog w base spare held m 135 [a_held_v] = some y) ∧ co a_fin := by
  have cT : Try.prog.cellsOf 137 = 5 := by kernel_rfl
  have ct0 : Try.prog.cellsOf 4 = 1 := by kernel_rfl
  have ct1 : Try.prog.cellsOf 3 = 1 := by kernel_rfl
  have ct2 : Try.prog.cellsOf 9 = 1 := by kernel_rfl
  have ct3 : Try.prog.cellsOf 135 = 1 := by kernel_rfl
  obtain ⟨xs, n, _, _, hl, hxl, hg⟩ := DataW.trod_struct Try.underlying137 h
  rw [cT] at hl
  obtain ⟨c0, c1, c2, c3, c4, rfl⟩ := shape5 hl
  obtain ⟨y0, hy0⟩ : ∃ y, xs[0]? = some y := ⟨_, List.getElem?_eq_getElem (by simp at hxl; omega)⟩
  have h0 : DataW.trod enc Try.prog w base spare held n 3 [c0] = some y0 := by rw [← hy0]; simpa [ct0, ct1, ct2, ct3] using hg 0 _ rfl
  obtain ⟨m0, e0, -, w0⟩ := DataW.trod_int Try.underlying3 h0
  obtain ⟨y1, hy1⟩ : ∃ y, xs[1]? = some y := ⟨_, List.getElem?_eq_getElem (by simp at hxl; omega)⟩
  have h1 : DataW.trod enc Try.prog w base spare held n 9 [c1] = some y1 := by rw [← hy1]; simpa [ct0, ct1, ct2, ct3] using hg 1 _ rfl
  obtain ⟨m1, e1, -, w1⟩ := DataW.trod_string Try.underlying9 h1
  obtain ⟨y2, hy2⟩ : ∃ y, xs[2]? = some y := ⟨_, List.getElem?_eq_getElem (by simp at hxl; omega)⟩
  have h2 : DataW.trod enc Try.prog w base spare held n 135 [c2] = some y2 := by rw [← hy2]; simpa [ct0, ct1, ct2, ct3] using hg 2 _ rfl
  obtain ⟨y3, hy3⟩ : ∃ y, xs[3]? = some y := ⟨_, List.getElem?_eq_getElem (by simp at hxl; omega)⟩
  have h3 : DataW.trod enc Try.prog w base spare held n 3 [c3] = some y3 := by rw [← hy3]; simpa [ct0, ct1, ct2, ct3] using hg 3 _ rfl
  obtain ⟨m3, e3, -, w3⟩ := DataW.trod_int Try.underlying3 h3
  obtain ⟨y4, hy4⟩ : ∃ y, xs[4]? = some y := ⟨_, List.getElem?_eq_getElem (by simp at hxl; omega)⟩
  have h4 : DataW.trod enc Try.prog w base spare held n 4 [c4] = some y4 := by rw [← hy4]; simpa [ct0, ct1, ct2, ct3] using hg 4 _ rfl
  obtain ⟨m4, e4, -⟩ := DataW.trod_bool Try.underlying4 h4
  simp only [List.cons.injEq, and_true] at e0 e1 e3 e4
  subst e0
  subst e1
  subst e3
  subst e4
  exact ⟨_, _, _, _, _, rfl, aO w0, w1, ⟨_, _, h2⟩, aO w3⟩
theorem open_SEG (h : DataW.trod enc Try.prog w base spare held fuel 59 cs = some x) :
    ∃ (a_src : Int) (a_dst : Int) (a_seq : Int) (a_ack : Int) (a_flags : Int) (a_window : Int) (a_o_mss : Int) (a_o_scale : Int) (a_o_sack : Bool) (a_o_stamp : Bool) (a_o_val : Int) (a_o_echo : Int) (a_body : ByteArray), cs = [.int .i64 a_src, .int .i64 a_dst, .int .i64 a_seq, .int .i64 a_ack, .int .i64 a_flags, .int .i64 a_window, .int .i64 a_o_mss, .int .i64 a_o_scale, .bool a_o_sack, .bool a_o_stamp, .int .i64 a_o_val, .int .i64 a_o_echo, .string a_body] ∧ co a_src ∧ co a_dst ∧ co a_seq ∧ co a_ack ∧ co a_flags ∧ co a_window ∧ co a_o_mss ∧ co a_o_scale ∧ co a_o_val ∧ co a_o_echo ∧ a_body.size ≤ maxLen := by
  have cT : Try.prog.cellsOf 59 = 13 := by kernel_rfl
  have ct0 : Try.prog.cellsOf 57 = 6 := by kernel_rfl
  have ct1 : Try.prog.cellsOf 3 = 1 := by kernel_rfl
  have ct2 : Try.prog.cellsOf 9 = 1 := by kernel_rfl
  obtain ⟨xs, n, _, _, hl, hxl, hg⟩ := DataW.trod_struct Try.underlying59 h
  rw [cT] at hl
  obtain ⟨c0, c1, c2, c3, c4, c5, c6, c7, c8, c9, c10, c11, c12, rfl⟩ := shape13 hl
  obtain ⟨y0, hy0⟩ : ∃ y, xs[0]? = some y := ⟨_, List.getElem?_eq_getElem (by simp at hxl; omega)⟩
  have h0 : DataW.trod enc Try.prog w base spare held n 3 [c0] = some y0 := by rw [← hy0]; simpa [ct0, ct1, ct2] using hg 0 _ rfl
  obtain ⟨m0, e0, -, w0⟩ := DataW.trod_int Try.underlying3 h0
  obtain ⟨y1, hy1⟩ : ∃ y, xs[1]? = some y := ⟨_, List.getElem?_eq_getElem (by simp at hxl; omega)⟩
  have h1 : DataW.trod enc Try.prog w base spare held n 3 [c1] = some y1 := by rw [← hy1]; simpa [ct0, ct1, ct2] using hg 1 _ rfl
  obtain ⟨m1, e1, -, w1⟩ := DataW.trod_int Try.underlying3 h1
  obtain ⟨y2, hy2⟩ : ∃ y, xs[2]? = some y := ⟨_, List.getElem?_eq_getElem (by simp at hxl; omega)⟩
  have h2 : DataW.trod enc Try.prog w base spare held n 3 [c2] = some y2 := by rw [← hy2]; simpa [ct0, ct1, ct2] using hg 2 _ rfl
  obtain ⟨m2, e2, -, w2⟩ := DataW.trod_int Try.underlying3 h2
  obtain ⟨y3, hy3⟩ : ∃ y, xs[3]? = some y := ⟨_, List.getElem?_eq_getElem (by simp at hxl; omega)⟩
  have h3 : DataW.trod enc Try.prog w base spare held n 3 [c3] = some y3 := by rw [← hy3]; simpa [ct0, ct1, ct2] using hg 3 _ rfl
  obtain ⟨m3, e3, -, w3⟩ := DataW.trod_int Try.underlying3 h3
  obtain ⟨y4, hy4⟩ : ∃ y, xs[4]? = some y := ⟨_, List.getElem?_eq_getElem (by simp at hxl; omega)⟩
  have h4 : DataW.trod enc Try.prog w base spare held n 3 [c4] = some y4 := by rw [← hy4]; simpa [ct0, ct1, ct2] using hg 4 _ rfl
  obtain ⟨m4, e4, -, w4⟩ := DataW.trod_int Try.underlying3 h4
  obtain ⟨y5, hy5⟩ : ∃ y, xs[5]? = some y := ⟨_, List.getElem?_eq_getElem (by simp at hxl; omega)⟩
  have h5 : DataW.trod enc Try.prog w base spare held n 3 [c5] = some y5 := by rw [← hy5]; simpa [ct0, ct1, ct2] using hg 5 _ rfl
  obtain ⟨m5, e5, -, w5⟩ := DataW.trod_int Try.underlying3 h5
  obtain ⟨y6, hy6⟩ : ∃ y, xs[6]? = some y := ⟨_, List.getElem?_eq_getElem (by simp at hxl; omega)⟩
  have h6 : DataW.trod enc Try.prog w base spare held n 57 [c6, c7, c8, c9, c10, c11] = some y6 := by rw [← hy6]; simpa [ct0, ct1, ct2] using hg 6 _ rfl
  obtain ⟨q6_0, q6_1, q6_2, q6_3, q6_4, q6_5, e6, g6_0, g6_1, g6_2, g6_3⟩ := open_OPT h6
  obtain ⟨y7, hy7⟩ : ∃ y, xs[7]? = some y := ⟨_, List.getElem?_eq_getElem (by simp at hxl; omega)⟩
  have h7 : DataW.trod enc Try.prog w base spare held n 9 [c12] = some y7 := by rw [← hy7]; simpa [ct0, ct1, ct2] using hg 7 _ rfl
  obtain ⟨m7, e7, -, w7⟩ := DataW.trod_string Try.underlying9 h7
  simp only [List.cons.injEq, and_true] at e0 e1 e2 e3 e4 e5 e6 e7
  subst e0
  subst e1
  subst e2
  subst e3
  subst e4
  subst e5
  obtain ⟨rfl, rfl, rfl, rfl, rfl, rfl⟩ := e6
  subst e7
  exact ⟨_, _, _, _, _, _, _, _, _, _, _, _, _, rfl, aO w0, aO w1, aO w2, aO w3, aO w4, aO w5, g6_0, g6_1, g6_2, g6_3, w7⟩
theorem open_HLF (h : DataW.trod enc Try.prog w base spare held fuel 112 cs = some x) :
    ∃ (a_t_ip : Int) (a_t_port : Int) (a_t_my : Int) (a_iss : Int) (a_irs : Int) (a_o_mss : Int) (a_o_scale : Int) (a_o_sack : Bool) (a_o_stamp : Bool) (a_o_val : Int) (a_o_echo : Int) (a_age : Int) (a_window : Int), cs = [.int .i64 a_t_ip, .int .i64 a_t_port, .int .i64 a_t_my, .int .i64 a_iss, .int .i64 a_irs, .int .i64 a_o_mss, .int .i64 a_o_scale, .bool a_o_sack, .bool a_o_stamp, .int .i64 a_o_val, .int .i64 a_o_echo, .int .i64 a_age, .int .i64 a_window] ∧ co a_t_ip ∧ co a_t_port ∧ co a_t_my ∧ co a_iss ∧ co a_irs ∧ co a_o_mss ∧ co a_o_scale ∧ co a_o_val ∧ co a_o_echo ∧ co a_age ∧ co a_window := by
  have cT : Try.prog.cellsOf 112 = 13 := by kernel_rfl
  have ct0 : Try.prog.cellsOf 57 = 6 := by kernel_rfl
  have ct1 : Try.prog.cellsOf 55 = 3 := by kernel_rfl
  have ct2 : Try.prog.cellsOf 3 = 1 := by kernel_rfl
  obtain ⟨xs, n, _, _, hl, hxl, hg⟩ := DataW.trod_struct Try.underlying112 h
  rw [cT] at hl
  obtain ⟨c0, c1, c2, c3, c4, c5, c6, c7, c8, c9, c10, c11, c12, rfl⟩ := shape13 hl
  obtain ⟨y0, hy0⟩ : ∃ y, xs[0]? = some y := ⟨_, List.getElem?_eq_getElem (by simp at hxl; omega)⟩
  have h0 : DataW.trod enc Try.prog w base spare held n 55 [c0, c1, c2] = some y0 := by rw [← hy0]; simpa [ct0, ct1, ct2] using hg 0 _ rfl
  obtain ⟨q0_0, q0_1, q0_2, e0, g0_0, g0_1, g0_2⟩ := open_TUP h0
  obtain ⟨y1, hy1⟩ : ∃ y, xs[1]? = some y := ⟨_, List.getElem?_eq_getElem (by simp at hxl; omega)⟩
  have h1 : DataW.trod enc Try.prog w base spare held n 3 [c3] = some y1 := by rw [← hy1]; simpa [ct0, ct1, ct2] using hg 1 _ rfl
  obtain ⟨m1, e1, -, w1⟩ := DataW.trod_int Try.underlying3 h1
  obtain ⟨y2, hy2⟩ : ∃ y, xs[2]? = some y := ⟨_, List.getElem?_eq_getElem (by simp at hxl; omega)⟩
  have h2 : DataW.trod enc Try.prog w base spare held n 3 [c4] = some y2 := by rw [← hy2]; simpa [ct0, ct1, ct2] using hg 2 _ rfl
  obtain ⟨m2, e2, -, w2⟩ := DataW.trod_int Try.underlying3 h2
  obtain ⟨y3, hy3⟩ : ∃ y, xs[3]? = some y := ⟨_, List.getElem?_eq_getElem (by simp at hxl; omega)⟩
  have h3 : DataW.trod enc Try.prog w base spare held n 57 [c5, c6, c7, c8, c9, c10] = some y3 := by rw [← hy3]; simpa [ct0, ct1, ct2] using hg 3 _ rfl
  obtain ⟨q3_0, q3_1, q3_2, q3_3, q3_4, q3_5, e3, g3_0, g3_1, g3_2, g3_3⟩ := open_OPT h3
  obtain ⟨y4, hy4⟩ : ∃ y, xs[4]? = some y := ⟨_, List.getElem?_eq_getElem (by simp at hxl; omega)⟩
  have h4 : DataW.trod enc Try.prog w base spare held n 3 [c11] = some y4 := by rw [← hy4]; simpa [ct0, ct1, ct2] using hg 4 _ rfl
  obtain ⟨m4, e4, -, w4⟩ := DataW.trod_int Try.underlying3 h4
  obtain ⟨y5, hy5⟩ : ∃ y, xs[5]? = some y := ⟨_, List.getElem?_eq_getElem (by simp at hxl; omega)⟩
  have h5 : DataW.trod enc Try.prog w base spare held n 3 [c12] = some y5 := by rw [← hy5]; simpa [ct0, ct1, ct2] using hg 5 _ rfl
  obtain ⟨m5, e5, -, w5⟩ := DataW.trod_int Try.underlying3 h5
  simp only [List.cons.injEq, and_true] at e0 e1 e2 e3 e4 e5
  obtain ⟨rfl, rfl, rfl⟩ := e0
  subst e1
  subst e2
  obtain ⟨rfl, rfl, rfl, rfl, rfl, rfl⟩ := e3
  subst e4
  subst e5
  exact ⟨_, _, _, _, _, _, _, _, _, _, _, _, _, rfl, g0_0, g0_1, g0_2, aO w1, aO w2, g3_0, g3_1, g3_2, g3_3, aO w4, aO w5⟩
theorem open_LIM (h : DataW.trod enc Try.prog w base spare held fuel 29 cs = some x) :
    ∃ (a_halves : Int) (a_waiting : Int) (a_conns : Int) (a_chal : Int), cs = [.int .i64 a_halves, .int .i64 a_waiting, .int .i64 a_conns, .int .i64 a_chal] ∧ co a_halves ∧ co a_waiting ∧ co a_conns ∧ co a_chal := by
  have cT : Try.prog.cellsOf 29 = 4 := by kernel_rfl
  have ct0 : Try.prog.cellsOf 3 = 1 := by kernel_rfl
  obtain ⟨xs, n, _, _, hl, hxl, hg⟩ := DataW.trod_struct Try.underlying29 h
  rw [cT] at hl
  obtain ⟨c0, c1, c2, c3, rfl⟩ := shape4 hl
  obtain ⟨y0, hy0⟩ : ∃ y, xs[0]? = some y := ⟨_, List.getElem?_eq_getElem (by simp at hxl; omega)⟩
  have h0 : DataW.trod enc Try.prog w base spare held n 3 [c0] = some y0 := by rw [← hy0]; simpa [ct0] using hg 0 _ rfl
  obtain ⟨m0, e0, -, w0⟩ := DataW.trod_int Try.underlying3 h0
  obtain ⟨y1, hy1⟩ : ∃ y, xs[1]? = some y := ⟨_, List.getElem?_eq_getElem (by simp at hxl; omega)⟩
  have h1 : DataW.trod enc Try.prog w base spare held n 3 [c1] = some y1 := by rw [← hy1]; simpa [ct0] using hg 1 _ rfl
  obtain ⟨m1, e1, -, w1⟩ := DataW.trod_int Try.underlying3 h1
  obtain ⟨y2, hy2⟩ : ∃ y, xs[2]? = some y := ⟨_, List.getElem?_eq_getElem (by simp at hxl; omega)⟩
  have h2 : DataW.trod enc Try.prog w base spare held n 3 [c2] = some y2 := by rw [← hy2]; simpa [ct0] using hg 2 _ rfl
  obtain ⟨m2, e2, -, w2⟩ := DataW.trod_int Try.underlying3 h2
  obtain ⟨y3, hy3⟩ : ∃ y, xs[3]? = some y := ⟨_, List.getElem?_eq_getElem (by simp at hxl; omega)⟩
  have h3 : DataW.trod enc Try.prog w base spare held n 3 [c3] = some y3 := by rw [← hy3]; simpa [ct0] using hg 3 _ rfl
  obtain ⟨m3, e3, -, w3⟩ := DataW.trod_int Try.underlying3 h3
  simp only [List.cons.injEq, and_true] at e0 e1 e2 e3
  subst e0
  subst e1
  subst e2
  subst e3
  exact ⟨_, _, _, _, rfl, aO w0, aO w1, aO w2, aO w3⟩
theorem open_MRW (h : DataW.trod enc Try.prog w base spare held fuel 157 cs = some x) :
    ∃ (a_input : ByteArray) (a_value : Int), cs = [.string a_input, .int .i64 a_value] ∧ a_input.size ≤ maxLen ∧ co a_value := by
  have cT : Try.prog.cellsOf 157 = 2 := by kernel_rfl
  have ct0 : Try.prog.cellsOf 3 = 1 := by kernel_rfl
  have ct1 : Try.prog.cellsOf 9 = 1 := by kernel_rfl
  obtain ⟨xs, n, _, _, hl, hxl, hg⟩ := DataW.trod_struct Try.underlying157 h
  rw [cT] at hl
  obtain ⟨c0, c1, rfl⟩ := shape2 hl
  obtain ⟨y0, hy0⟩ : ∃ y, xs[0]? = some y := ⟨_, List.getElem?_eq_getElem (by simp at hxl; omega)⟩
  have h0 : DataW.trod enc Try.prog w base spare held n 9 [c0] = some y0 := by rw [← hy0]; simpa [ct0, ct1] using hg 0 _ rfl
  obtain ⟨m0, e0, -, w0⟩ := DataW.trod_string Try.underlying9 h0
  obtain ⟨y1, hy1⟩ : ∃ y, xs[1]? = some y := ⟨_, List.getElem?_eq_getElem (by simp at hxl; omega)⟩
  have h1 : DataW.trod enc Try.prog w base spare held n 3 [c1] = some y1 := by rw [← hy1]; simpa [ct0, ct1] using hg 1 _ rfl
  obtain ⟨m1, e1, -, w1⟩ := DataW.trod_int Try.underlying3 h1
  simp only [List.cons.injEq, and_true] at e0 e1
  subst e0
  subst e1
  exact ⟨_, _, rfl, w0, aO w1⟩
theorem open_MAC (h : DataW.trod enc Try.prog w base spare held fuel 25 cs = some x) :
    ∃ (a_use : Bool) (a_k : Int) (a_l : Int) (a_rows_v : Value), cs = [.bool a_use, .int .u64 a_k, .int .u64 a_l, a_rows_v] ∧ U64 a_k ∧ U64 a_l ∧ (∃ m y, DataW.trod enc Try.prog w base spare held m 23 [a_rows_v] = some y) := by
  have cT : Try.prog.cellsOf 25 = 4 := by kernel_rfl
  have ct0 : Try.prog.cellsOf 4 = 1 := by kernel_rfl
  have ct1 : Try.prog.cellsOf 22 = 1 := by kernel_rfl
  have ct2 : Try.prog.cellsOf 23 = 1 := by kernel_rfl
  obtain ⟨xs, n, _, _, hl, hxl, hg⟩ := DataW.trod_struct Try.underlying25 h
  rw [cT] at hl
  obtain ⟨c0, c1, c2, c3, rfl⟩ := shape4 hl
  obtain ⟨y0, hy0⟩ : ∃ y, xs[0]? = some y := ⟨_, List.getElem?_eq_getElem (by simp at hxl; omega)⟩
  have h0 : DataW.trod enc Try.prog w base spare held n 4 [c0] = some y0 := by rw [← hy0]; simpa [ct0, ct1, ct2] using hg 0 _ rfl
  obtain ⟨m0, e0, -⟩ := DataW.trod_bool Try.underlying4 h0
  obtain ⟨y1, hy1⟩ : ∃ y, xs[1]? = some y := ⟨_, List.getElem?_eq_getElem (by simp at hxl; omega)⟩
  have h1 : DataW.trod enc Try.prog w base spare held n 22 [c1] = some y1 := by rw [← hy1]; simpa [ct0, ct1, ct2] using hg 1 _ rfl
  obtain ⟨m1, e1, -, w1⟩ := DataW.trod_int Try.underlying22 h1
  obtain ⟨y2, hy2⟩ : ∃ y, xs[2]? = some y := ⟨_, List.getElem?_eq_getElem (by simp at hxl; omega)⟩
  have h2 : DataW.trod enc Try.prog w base spare held n 22 [c2] = some y2 := by rw [← hy2]; simpa [ct0, ct1, ct2] using hg 2 _ rfl
  obtain ⟨m2, e2, -, w2⟩ := DataW.trod_int Try.underlying22 h2
  obtain ⟨y3, hy3⟩ : ∃ y, xs[3]? = some y := ⟨_, List.getElem?_eq_getElem (by simp at hxl; omega)⟩
  have h3 : DataW.trod enc Try.prog w base spare held n 23 [c3] = some y3 := by rw [← hy3]; simpa [ct0, ct1, ct2] using hg 3 _ rfl
  simp only [List.cons.injEq, and_true] at e0 e1 e2
  subst e0
  subst e1
  subst e2
  exact ⟨_, _, _, _, rfl, wf_u64 w1, wf_u64 w2, ⟨_, _, h3⟩⟩
theorem open_CON (h : DataW.trod enc Try.prog w base spare held fuel 139 cs = some x) :
    ∃ (a_t_ip : Int) (a_t_port : Int) (a_t_my : Int) (a_state : Int) (a_s_una : Int) (a_s_data : ByteArray) (a_s_sent : Int) (a_s_fin : Bool) (a_s_finSent : Bool) (a_s_done : Bool) (a_r_next : Int) (a_r_data : ByteArray) (a_r_held_v : Value) (a_r_fin : Int) (a_r_done : Bool) (a_window : Int) (a_most : Int) (a_o_mss : Int) (a_o_scale : Int) (a_o_sack : Bool) (a_o_stamp : Bool) (a_o_val : Int) (a_o_echo : Int) (a_timer : Int) (a_tries : Int), cs = [.int .i64 a_t_ip, .int .i64 a_t_port, .int .i64 a_t_my, .int .i64 a_state, .int .i64 a_s_una, .string a_s_data, .int .i64 a_s_sent, .bool a_s_fin, .bool a_s_finSent, .bool a_s_done, .int .i64 a_r_next, .string a_r_data, a_r_held_v, .int .i64 a_r_fin, .bool a_r_done, .int .i64 a_window, .int .i64 a_most, .int .i64 a_o_mss, .int .i64 a_o_scale, .bool a_o_sack, .bool a_o_stamp, .int .i64 a_o_val, .int .i64 a_o_echo, .int .i64 a_timer, .int .i64 a_tries] ∧ co a_t_ip ∧ co a_t_port ∧ co a_t_my ∧ co a_state ∧ co a_s_una ∧ a_s_data.size ≤ maxLen ∧ co a_s_sent ∧ co a_r_next ∧ a_r_data.size ≤ maxLen ∧ (∃ m y, DataW.trod enc Try.prog w base spare held m 135 [a_r_held_v] = some y) ∧ co a_r_fin ∧ co a_window ∧ co a_most ∧ co a_o_mss ∧ co a_o_scale ∧ co a_o_val ∧ co a_o_echo ∧ co a_timer ∧ co a_tries := by
  have cT : Try.prog.cellsOf 139 = 25 := by kernel_rfl
  have ct0 : Try.prog.cellsOf 57 = 6 := by kernel_rfl
  have ct1 : Try.prog.cellsOf 137 = 5 := by kernel_rfl
  have ct2 : Try.prog.cellsOf 134 = 6 := by kernel_rfl
  have ct3 : Try.prog.cellsOf 55 = 3 := by kernel_rfl
  have ct4 : Try.prog.cellsOf 3 = 1 := by kernel_rfl
  obtain ⟨xs, n, _, _, hl, hxl, hg⟩ := DataW.trod_struct Try.underlying139 h
  rw [cT] at hl
  obtain ⟨c0, c1, c2, c3, c4, c5, c6, c7, c8, c9, c10, c11, c12, c13, c14, c15, c16, c17, c18, c19, c20, c21, c22, c23, c24, rfl⟩ := shape25 hl
  obtain ⟨y0, hy0⟩ : ∃ y, xs[0]? = some y := ⟨_, List.getElem?_eq_getElem (by simp at hxl; omega)⟩
  have h0 : DataW.trod enc Try.prog w base spare held n 55 [c0, c1, c2] = some y0 := by rw [← hy0]; simpa [ct0, ct1, ct2, ct3, ct4] using hg 0 _ rfl
  obtain ⟨q0_0, q0_1, q0_2, e0, g0_0, g0_1, g0_2⟩ := open_TUP h0
  obtain ⟨y1, hy1⟩ : ∃ y, xs[1]? = some y := ⟨_, List.getElem?_eq_getElem (by simp at hxl; omega)⟩
  have h1 : DataW.trod enc Try.prog w base spare held n 3 [c3] = some y1 := by rw [← hy1]; simpa [ct0, ct1, ct2, ct3, ct4] using hg 1 _ rfl
  obtain ⟨m1, e1, -, w1⟩ := DataW.trod_int Try.underlying3 h1
  obtain ⟨y2, hy2⟩ : ∃ y, xs[2]? = some y := ⟨_, List.getElem?_eq_getElem (by simp at hxl; omega)⟩
  have h2 : DataW.trod enc Try.prog w base spare held n 134 [c4, c5, c6, c7, c8, c9] = some y2 := by rw [← hy2]; simpa [ct0, ct1, ct2, ct3, ct4] using hg 2 _ rfl
  obtain ⟨q2_0, q2_1, q2_2, q2_3, q2_4, q2_5, e2, g2_0, g2_1, g2_2⟩ := open_SND h2
  obtain ⟨y3, hy3⟩ : ∃ y, xs[3]? = some y := ⟨_, List.getElem?_eq_getElem (by simp at hxl; omega)⟩
  have h3 : DataW.trod enc Try.prog w base spare held n 137 [c10, c11, c12, c13, c14] = some y3 := by rw [← hy3]; simpa [ct0, ct1, ct2, ct3, ct4] using hg 3 _ rfl
  obtain ⟨q3_0, q3_1, q3_2, q3_3, q3_4, e3, g3_0, g3_1, g3_2, g3_3⟩ := open_RCV h3
  obtain ⟨y4, hy4⟩ : ∃ y, xs[4]? = some y := ⟨_, List.getElem?_eq_getElem (by simp at hxl; omega)⟩
  have h4 : DataW.trod enc Try.prog w base spare held n 3 [c15] = some y4 := by rw [← hy4]; simpa [ct0, ct1, ct2, ct3, ct4] using hg 4 _ rfl
  obtain ⟨m4, e4, -, w4⟩ := DataW.trod_int Try.underlying3 h4
  obtain ⟨y5, hy5⟩ : ∃ y, xs[5]? = some y := ⟨_, List.getElem?_eq_getElem (by simp at hxl; omega)⟩
  have h5 : DataW.trod enc Try.prog w base spare held n 3 [c16] = some y5 := by rw [← hy5]; simpa [ct0, ct1, ct2, ct3, ct4] using hg 5 _ rfl
  obtain ⟨m5, e5, -, w5⟩ := DataW.trod_int Try.underlying3 h5
  obtain ⟨y6, hy6⟩ : ∃ y, xs[6]? = some y := ⟨_, List.getElem?_eq_getElem (by simp at hxl; omega)⟩
  have h6 : DataW.trod enc Try.prog w base spare held n 57 [c17, c18, c19, c20, c21, c22] = some y6 := by rw [← hy6]; simpa [ct0, ct1, ct2, ct3, ct4] using hg 6 _ rfl
  obtain ⟨q6_0, q6_1, q6_2, q6_3, q6_4, q6_5, e6, g6_0, g6_1, g6_2, g6_3⟩ := open_OPT h6
  obtain ⟨y7, hy7⟩ : ∃ y, xs[7]? = some y := ⟨_, List.getElem?_eq_getElem (by simp at hxl; omega)⟩
  have h7 : DataW.trod enc Try.prog w base spare held n 3 [c23] = some y7 := by rw [← hy7]; simpa [ct0, ct1, ct2, ct3, ct4] using hg 7 _ rfl
  obtain ⟨m7, e7, -, w7⟩ := DataW.trod_int Try.underlying3 h7
  obtain ⟨y8, hy8⟩ : ∃ y, xs[8]? = some y := ⟨_, List.getElem?_eq_getElem (by simp at hxl; omega)⟩
  have h8 : DataW.trod enc Try.prog w base spare held n 3 [c24] = some y8 := by rw [← hy8]; simpa [ct0, ct1, ct2, ct3, ct4] using hg 8 _ rfl
  obtain ⟨m8, e8, -, w8⟩ := DataW.trod_int Try.underlying3 h8
  simp only [List.cons.injEq, and_true] at e0 e1 e2 e3 e4 e5 e6 e7 e8
  obtain ⟨rfl, rfl, rfl⟩ := e0
  subst e1
  obtain ⟨rfl, rfl, rfl, rfl, rfl, rfl⟩ := e2
  obtain ⟨rfl, rfl, rfl, rfl, rfl⟩ := e3
  subst e4
  subst e5
  obtain ⟨rfl, rfl, rfl, rfl, rfl, rfl⟩ := e6
  subst e7
  subst e8
  exact ⟨_, _, _, _, _, _, _, _, _, _, _, _, _, _, _, _, _, _, _, _, _, _, _, _, _, rfl, g0_0, g0_1, g0_2, aO w1, g2_0, g2_1, g2_2, g3_0, g3_1, g3_2, g3_3, aO w4, aO w5, g6_0, g6_1, g6_2, g6_3, aO w7, aO w8⟩
theorem open_KYS (h : DataW.trod enc Try.prog w base spare held fuel 27 cs = some x) :
    ∃ (a_epoch : Int) (a_now_use : Bool) (a_now_k : Int) (a_now_l : Int) (a_now_rows_v : Value) (a_before_use : Bool) (a_before_k : Int) (a_before_l : Int) (a_before_rows_v : Value) (a_two : Bool), cs = [.int .i64 a_epoch, .bool a_now_use, .int .u64 a_now_k, .int .u64 a_now_l, a_now_rows_v, .bool a_before_use, .int .u64 a_before_k, .int .u64 a_before_l, a_before_rows_v, .bool a_two] ∧ co a_epoch ∧ U64 a_now_k ∧ U64 a_now_l ∧ (∃ m y, DataW.trod enc Try.prog w base spare held m 23 [a_now_rows_v] = some y) ∧ U64 a_before_k ∧ U64 a_before_l ∧ (∃ m y, DataW.trod enc Try.prog w base spare held m 23 [a_before_rows_v] = some y) := by
  have cT : Try.prog.cellsOf 27 = 10 := by kernel_rfl
  have ct0 : Try.prog.cellsOf 25 = 4 := by kernel_rfl
  have ct1 : Try.prog.cellsOf 4 = 1 := by kernel_rfl
  have ct2 : Try.prog.cellsOf 3 = 1 := by kernel_rfl
  obtain ⟨xs, n, _, _, hl, hxl, hg⟩ := DataW.trod_struct Try.underlying27 h
  rw [cT] at hl
  obtain ⟨c0, c1, c2, c3, c4, c5, c6, c7, c8, c9, rfl⟩ := shape10 hl
  obtain ⟨y0, hy0⟩ : ∃ y, xs[0]? = some y := ⟨_, List.getElem?_eq_getElem (by simp at hxl; omega)⟩
  have h0 : DataW.trod enc Try.prog w base spare held n 3 [c0] = some y0 := by rw [← hy0]; simpa [ct0, ct1, ct2] using hg 0 _ rfl
  obtain ⟨m0, e0, -, w0⟩ := DataW.trod_int Try.underlying3 h0
  obtain ⟨y1, hy1⟩ : ∃ y, xs[1]? = some y := ⟨_, List.getElem?_eq_getElem (by simp at hxl; omega)⟩
  have h1 : DataW.trod enc Try.prog w base spare held n 25 [c1, c2, c3, c4] = some y1 := by rw [← hy1]; simpa [ct0, ct1, ct2] using hg 1 _ rfl
  obtain ⟨q1_0, q1_1, q1_2, q1_3, e1, g1_0, g1_1, g1_2⟩ := open_MAC h1
  obtain ⟨y2, hy2⟩ : ∃ y, xs[2]? = some y := ⟨_, List.getElem?_eq_getElem (by simp at hxl; omega)⟩
  have h2 : DataW.trod enc Try.prog w base spare held n 25 [c5, c6, c7, c8] = some y2 := by rw [← hy2]; simpa [ct0, ct1, ct2] using hg 2 _ rfl
  obtain ⟨q2_0, q2_1, q2_2, q2_3, e2, g2_0, g2_1, g2_2⟩ := open_MAC h2
  obtain ⟨y3, hy3⟩ : ∃ y, xs[3]? = some y := ⟨_, List.getElem?_eq_getElem (by simp at hxl; omega)⟩
  have h3 : DataW.trod enc Try.prog w base spare held n 4 [c9] = some y3 := by rw [← hy3]; simpa [ct0, ct1, ct2] using hg 3 _ rfl
  obtain ⟨m3, e3, -⟩ := DataW.trod_bool Try.underlying4 h3
  simp only [List.cons.injEq, and_true] at e0 e1 e2 e3
  subst e0
  obtain ⟨rfl, rfl, rfl, rfl⟩ := e1
  obtain ⟨rfl, rfl, rfl, rfl⟩ := e2
  subst e3
  exact ⟨_, _, _, _, _, _, _, _, _, _, rfl, aO w0, g1_0, g1_1, g1_2, g2_0, g2_1, g2_2⟩
theorem open_TAB (h : DataW.trod enc Try.prog w base spare held fuel 34 cs = some x) :
    ∃ (a_conns_v : Value) (a_waiting_v : Value), cs = [a_conns_v, a_waiting_v] ∧ (∃ m y, DataW.trod enc Try.prog w base spare held m 31 [a_conns_v] = some y) ∧ (∃ m y, DataW.trod enc Try.prog w base spare held m 32 [a_waiting_v] = some y) := by
  have cT : Try.prog.cellsOf 34 = 2 := by kernel_rfl
  have ct0 : Try.prog.cellsOf 31 = 1 := by kernel_rfl
  have ct1 : Try.prog.cellsOf 32 = 1 := by kernel_rfl
  obtain ⟨xs, n, _, _, hl, hxl, hg⟩ := DataW.trod_struct Try.underlying34 h
  rw [cT] at hl
  obtain ⟨c0, c1, rfl⟩ := shape2 hl
  obtain ⟨y0, hy0⟩ : ∃ y, xs[0]? = some y := ⟨_, List.getElem?_eq_getElem (by simp at hxl; omega)⟩
  have h0 : DataW.trod enc Try.prog w base spare held n 31 [c0] = some y0 := by rw [← hy0]; simpa [ct0, ct1] using hg 0 _ rfl
  obtain ⟨y1, hy1⟩ : ∃ y, xs[1]? = some y := ⟨_, List.getElem?_eq_getElem (by simp at hxl; omega)⟩
  have h1 : DataW.trod enc Try.prog w base spare held n 32 [c1] = some y1 := by rw [← hy1]; simpa [ct0, ct1] using hg 1 _ rfl
  exact ⟨_, _, rfl, ⟨_, _, h0⟩, ⟨_, _, h1⟩⟩
theorem open_DOR (h : DataW.trod enc Try.prog w base spare held fuel 36 cs = some x) :
    ∃ (a_port : Int) (a_clock : Int) (a_keys_epoch : Int) (a_keys_now_use : Bool) (a_keys_now_k : Int) (a_keys_now_l : Int) (a_keys_now_rows_v : Value) (a_keys_before_use : Bool) (a_keys_before_k : Int) (a_keys_before_l : Int) (a_keys_before_rows_v : Value) (a_keys_two : Bool) (a_lim_halves : Int) (a_lim_waiting : Int) (a_lim_conns : Int) (a_lim_chal : Int) (a_halves_v : Value) (a_table_conns_v : Value) (a_table_waiting_v : Value) (a_chal : Int), cs = [.int .i64 a_port, .int .i64 a_clock, .int .i64 a_keys_epoch, .bool a_keys_now_use, .int .u64 a_keys_now_k, .int .u64 a_keys_now_l, a_keys_now_rows_v, .bool a_keys_before_use, .int .u64 a_keys_before_k, .int .u64 a_keys_before_l, a_keys_before_rows_v, .bool a_keys_two, .int .i64 a_lim_halves, .int .i64 a_lim_waiting, .int .i64 a_lim_conns, .int .i64 a_lim_chal, a_halves_v, a_table_conns_v, a_table_waiting_v, .int .i64 a_chal] ∧ co a_port ∧ co a_clock ∧ co a_keys_epoch ∧ U64 a_keys_now_k ∧ U64 a_keys_now_l ∧ (∃ m y, DataW.trod enc Try.prog w base spare held m 23 [a_keys_now_rows_v] = some y) ∧ U64 a_keys_before_k ∧ U64 a_keys_before_l ∧ (∃ m y, DataW.trod enc Try.prog w base spare held m 23 [a_keys_before_rows_v] = some y) ∧ co a_lim_halves ∧ co a_lim_waiting ∧ co a_lim_conns ∧ co a_lim_chal ∧ (∃ m y, DataW.trod enc Try.prog w base spare held m 30 [a_halves_v] = some y) ∧ (∃ m y, DataW.trod enc Try.prog w base spare held m 31 [a_table_conns_v] = some y) ∧ (∃ m y, DataW.trod enc Try.prog w base spare held m 32 [a_table_waiting_v] = some y) ∧ co a_chal := by
  have cT : Try.prog.cellsOf 36 = 20 := by kernel_rfl
  have ct0 : Try.prog.cellsOf 27 = 10 := by kernel_rfl
  have ct1 : Try.prog.cellsOf 29 = 4 := by kernel_rfl
  have ct2 : Try.prog.cellsOf 34 = 2 := by kernel_rfl
  have ct3 : Try.prog.cellsOf 3 = 1 := by kernel_rfl
  have ct4 : Try.prog.cellsOf 30 = 1 := by kernel_rfl
  obtain ⟨xs, n, _, _, hl, hxl, hg⟩ := DataW.trod_struct Try.underlying36 h
  rw [cT] at hl
  obtain ⟨c0, c1, c2, c3, c4, c5, c6, c7, c8, c9, c10, c11, c12, c13, c14, c15, c16, c17, c18, c19, rfl⟩ := shape20 hl
  obtain ⟨y0, hy0⟩ : ∃ y, xs[0]? = some y := ⟨_, List.getElem?_eq_getElem (by simp at hxl; omega)⟩
  have h0 : DataW.trod enc Try.prog w base spare held n 3 [c0] = some y0 := by rw [← hy0]; simpa [ct0, ct1, ct2, ct3, ct4] using hg 0 _ rfl
  obtain ⟨m0, e0, -, w0⟩ := DataW.trod_int Try.underlying3 h0
  obtain ⟨y1, hy1⟩ : ∃ y, xs[1]? = some y := ⟨_, List.getElem?_eq_getElem (by simp at hxl; omega)⟩
  have h1 : DataW.trod enc Try.prog w base spare held n 3 [c1] = some y1 := by rw [← hy1]; simpa [ct0, ct1, ct2, ct3, ct4] using hg 1 _ rfl
  obtain ⟨m1, e1, -, w1⟩ := DataW.trod_int Try.underlying3 h1
  obtain ⟨y2, hy2⟩ : ∃ y, xs[2]? = some y := ⟨_, List.getElem?_eq_getElem (by simp at hxl; omega)⟩
  have h2 : DataW.trod enc Try.prog w base spare held n 27 [c2, c3, c4, c5, c6, c7, c8, c9, c10, c11] = some y2 := by rw [← hy2]; simpa [ct0, ct1, ct2, ct3, ct4] using hg 2 _ rfl
  obtain ⟨q2_0, q2_1, q2_2, q2_3, q2_4, q2_5, q2_6, q2_7, q2_8, q2_9, e2, g2_0, g2_1, g2_2, g2_3, g2_4, g2_5, g2_6⟩ := open_KYS h2
  obtain ⟨y3, hy3⟩ : ∃ y, xs[3]? = some y := ⟨_, List.getElem?_eq_getElem (by simp at hxl; omega)⟩
  have h3 : DataW.trod enc Try.prog w base spare held n 29 [c12, c13, c14, c15] = some y3 := by rw [← hy3]; simpa [ct0, ct1, ct2, ct3, ct4] using hg 3 _ rfl
  obtain ⟨q3_0, q3_1, q3_2, q3_3, e3, g3_0, g3_1, g3_2, g3_3⟩ := open_LIM h3
  obtain ⟨y4, hy4⟩ : ∃ y, xs[4]? = some y := ⟨_, List.getElem?_eq_getElem (by simp at hxl; omega)⟩
  have h4 : DataW.trod enc Try.prog w base spare held n 30 [c16] = some y4 := by rw [← hy4]; simpa [ct0, ct1, ct2, ct3, ct4] using hg 4 _ rfl
  obtain ⟨y5, hy5⟩ : ∃ y, xs[5]? = some y := ⟨_, List.getElem?_eq_getElem (by simp at hxl; omega)⟩
  have h5 : DataW.trod enc Try.prog w base spare held n 34 [c17, c18] = some y5 := by rw [← hy5]; simpa [ct0, ct1, ct2, ct3, ct4] using hg 5 _ rfl
  obtain ⟨q5_0, q5_1, e5, g5_0, g5_1⟩ := open_TAB h5
  obtain ⟨y6, hy6⟩ : ∃ y, xs[6]? = some y := ⟨_, List.getElem?_eq_getElem (by simp at hxl; omega)⟩
  have h6 : DataW.trod enc Try.prog w base spare held n 3 [c19] = some y6 := by rw [← hy6]; simpa [ct0, ct1, ct2, ct3, ct4] using hg 6 _ rfl
  obtain ⟨m6, e6, -, w6⟩ := DataW.trod_int Try.underlying3 h6
  simp only [List.cons.injEq, and_true] at e0 e1 e2 e3 e5 e6
  subst e0
  subst e1
  obtain ⟨rfl, rfl, rfl, rfl, rfl, rfl, rfl, rfl, rfl, rfl⟩ := e2
  obtain ⟨rfl, rfl, rfl, rfl⟩ := e3
  obtain ⟨rfl, rfl⟩ := e5
  subst e6
  exact ⟨_, _, _, _, _, _, _, _, _, _, _, _, _, _, _, _, _, _, _, _, rfl, aO w0, aO w1, g2_0, g2_1, g2_2, g2_3, g2_4, g2_5, g2_6, g3_0, g3_1, g3_2, g3_3, ⟨_, _, h4⟩, g5_0, g5_1, aO w6⟩
end
end
/- Contracts: slices of arguments in the laws. -/
section
open Go.RowKit
attribute [local go_sem] cm cl ck cj bj bY bi bl bf bg bc ba bh bd bn bo bm a8 cell?_grow frozen?_grow aU bw b0
attribute [local go_sem] ae al b5 aC aK af ak aA aD aJ bv ct ap ar aa ab
set_option linter.unusedVariables false
set_option linter.unusedSimpArgs false
theorem openSc_HLF {H : Type} {enc : TypeId × Value → H} {W : World} {v : Value} {fuel : Nat} {x : DataW H × List MemPlace}
    (h : DataW.trod enc Try.prog W 0 (fun _ => true) true fuel 30 [v] = some x) : ∃ l : List Hlf, Sl W v 13 (l.map av) := by
  have hc : Try.prog.cellsOf 112 = 13 := by kernel_rfl
  haveI : Inhabited Hlf := ⟨⟨⟨0, 0, 0⟩, 0, 0, ⟨0, 0, false, false, 0, 0⟩, 0, 0⟩⟩
  rcases Go.Deep.open_slice Try.underlying30 h with ⟨hcs, -⟩ | ⟨a, len, cap, m, n, D, Pl, hcs, hb, hl, hm, hmm, hx, hi⟩
  · simp only [List.cons.injEq, and_true] at hcs
    subst hcs
    exact ⟨[], Sl.nil W 13⟩
  · have hs : ∀ i, i < len → ∃ x : Hlf, W.cells? 0 (a.add (i * 13)) 13 = some (av x) := fun i hlt => by
      obtain ⟨cs', h1, h2⟩ := hi i (by simp at hmm; omega)
      rw [hc] at h1
      obtain ⟨a_t_ip, a_t_port, a_t_my, a_iss, a_irs, a_o_mss, a_o_scale, a_o_sack, a_o_stamp, a_o_val, a_o_echo, a_age, a_window, rfl, -, -, -, -, -, -, -, -, -, -, -⟩ := open_HLF h2
      exact ⟨⟨⟨a_t_ip, a_t_port, a_t_my⟩, a_iss, a_irs, ⟨a_o_mss, a_o_scale, a_o_sack, a_o_stamp, a_o_val, a_o_echo⟩, a_age, a_window⟩, h1⟩
    obtain ⟨f, hf⟩ := Go.Deep.choose_lt hs
    refine ⟨(List.range len).map f, ?_⟩
    simp only [List.cons.injEq, and_true] at hcs
    rw [hcs, List.map_map]
    exact Sl.of_open hl hm (by omega) hf
theorem openSc_PCE {H : Type} {enc : TypeId × Value → H} {W : World} {v : Value} {fuel : Nat} {x : DataW H × List MemPlace}
    (h : DataW.trod enc Try.prog W 0 (fun _ => true) true fuel 135 [v] = some x) : ∃ l : List Pce, Sl W v 2 (l.map pC) ∧ ∀ p ∈ l, p.text.size ≤ maxLen := by
  have hc : Try.prog.cellsOf 182 = 2 := by kernel_rfl
  haveI : Inhabited Pce := ⟨⟨0, ⟨#[]⟩⟩⟩
  rcases Go.Deep.open_slice Try.underlying135 h with ⟨hcs, -⟩ | ⟨a, len, cap, m, n, D, Pl, hcs, hb, hl, hm, hmm, hx, hi⟩
  · simp only [List.cons.injEq, and_true] at hcs
    subst hcs
    exact ⟨[], Sl.nil W 2, by simp⟩
  · have hs : ∀ i, i < len → ∃ x : Pce, W.cells? 0 (a.add (i * 2)) 2 = some (pC x) ∧ x.text.size ≤ maxLen := fun i hlt => by
      obtain ⟨cs', h1, h2⟩ := hi i (by simp at hmm; omega)
      rw [hc] at h1
      obtain ⟨a_off, a_text, rfl, _, _⟩ := open_PCE h2
      exact ⟨⟨a_off, a_text⟩, h1, by assumption⟩
    obtain ⟨f, hf⟩ := Go.Deep.choose_lt hs
    refine ⟨(List.range len).map f, ?_⟩
    simp only [List.cons.injEq, and_true] at hcs
    rw [hcs, List.map_map]
    exact ⟨Sl.of_open hl hm (by omega) (fun i h => (hf i h).1), fun p hp => by obtain ⟨i, hi, rfl⟩ := List.mem_map.1 hp; exact (hf i (List.mem_range.1 hi)).2⟩
theorem openSc_TUP {H : Type} {enc : TypeId × Value → H} {W : World} {v : Value} {fuel : Nat} {x : DataW H × List MemPlace}
    (h : DataW.trod enc Try.prog W 0 (fun _ => true) true fuel 32 [v] = some x) : ∃ l : List Tup, Sl W v 3 (l.map ay) := by
  have hc : Try.prog.cellsOf 55 = 3 := by kernel_rfl
  haveI : Inhabited Tup := ⟨⟨0, 0, 0⟩⟩
  rcases Go.Deep.open_slice Try.underlying32 h with ⟨hcs, -⟩ | ⟨a, len, cap, m, n, D, Pl, hcs, hb, hl, hm, hmm, hx, hi⟩
  · simp only [List.cons.injEq, and_true] at hcs
    subst hcs
    exact ⟨[], Sl.nil W 3⟩
  · have hs : ∀ i, i < len → ∃ x : Tup, W.cells? 0 (a.add (i * 3)) 3 = some (ay x) := fun i hlt => by
      obtain ⟨cs', h1, h2⟩ := hi i (by simp at hmm; omega)
      rw [hc] at h1
      obtain ⟨a_ip, a_port, a_my, rfl, -, -, -⟩ := open_TUP h2
      exact ⟨⟨a_ip, a_port, a_my⟩, h1⟩
    obtain ⟨f, hf⟩ := Go.Deep.choose_lt hs
    refine ⟨(List.range len).map f, ?_⟩
    simp only [List.cons.injEq, and_true] at hcs
    rw [hcs, List.map_map]
    exact Sl.of_open hl hm (by omega) hf
theorem openSc_MRW {H : Type} {enc : TypeId × Value → H} {W : World} {v : Value} {fuel : Nat} {x : DataW H × List MemPlace}
    (h : DataW.trod enc Try.prog W 0 (fun _ => true) true fuel 23 [v] = some x) : ∃ l : List Mrw, Sl W v 2 (l.map a6) ∧ ∀ p ∈ l, p.input.size ≤ maxLen := by
  have hc : Try.prog.cellsOf 157 = 2 := by kernel_rfl
  haveI : Inhabited Mrw := ⟨⟨⟨#[]⟩, 0⟩⟩
  rcases Go.Deep.open_slice Try.underlying23 h with ⟨hcs, -⟩ | ⟨a, len, cap, m, n, D, Pl, hcs, hb, hl, hm, hmm, hx, hi⟩
  · simp only [List.cons.injEq, and_true] at hcs
    subst hcs
    exact ⟨[], Sl.nil W 2, by simp⟩
  · have hs : ∀ i, i < len → ∃ x : Mrw, W.cells? 0 (a.add (i * 2)) 2 = some (a6 x) ∧ x.input.size ≤ maxLen := fun i hlt => by
      obtain ⟨cs', h1, h2⟩ := hi i (by simp at hmm; omega)
      rw [hc] at h1
      obtain ⟨a_input, a_value, rfl, _, _⟩ := open_MRW h2
      exact ⟨⟨a_input, a_value⟩, h1, by assumption⟩
    obtain ⟨f, hf⟩ := Go.Deep.choose_lt hs
    refine ⟨(List.range len).map f, ?_⟩
    simp only [List.cons.injEq, and_true] at hcs
    rw [hcs, List.map_map]
    exact ⟨Sl.of_open hl hm (by omega) (fun i h => (hf i h).1), fun p hp => by obtain ⟨i, hi, rfl⟩ := List.mem_map.1 hp; exact (hf i (List.mem_range.1 hi)).2⟩
end
/- Contracts (X). -/
section
open Go.RowKit
attribute [local go_sem] cm cl ck cj bj bY bi bl bf bg bc ba bh bd bn bo bm a8 cell?_grow frozen?_grow aU bw b0
attribute [local go_sem] ae al b5 aC aK af ak aA aD aJ bv ct ap ar aa ab
set_option linter.unusedVariables false
set_option linter.unusedSimpArgs false
theorem pload_implReceiver (v : Value) : Instr.loadAt 106 v = bC 106 v := rfl
theorem pstore_implReceiver (v x : Value) : Instr.storeAt 106 v x = bA 106 v x := rfl
theorem load_implReceiver (n o : Nat) (W : World) (h : bq W n (o + 5) = true) : (bC 106 (.pointer (some ⟨n, o, none⟩))).run Try.prog W = .ok (.agg ((cx W n).extract o (o + 5))) W := by
  simp only [bC, Instr.loadAt, Instr.sureAddr, Sem.run_bind, Sem.run_pure, Result.andThen_ok, aE Try.underlying106 rfl (k := 5) (by kernel_rfl) n o W h]
theorem store_implReceiver (n o : Nat) (W : World) (cells : Array Value) (h : bq W n (o + 5) = true) (hk : cells.size = 5) (h1 : cells.all (·.oneCell') = true) : (bA 106 (.pointer (some ⟨n, o, none⟩)) (.agg cells)).run Try.prog W = .ok () (W.setCells n o cells.toList) := by
  simp only [bA, Instr.storeAt, Instr.sureAddr, Sem.run_bind, Sem.run_pure, Result.andThen_ok, b6 (P := Try.prog) (ty := 106) (k := 5) (by kernel_rfl) n o W cells h hk h1]
theorem pload_lawsReceiver (v : Value) : Instr.loadAt 137 v = bC 137 v := rfl
theorem pstore_lawsReceiver (v x : Value) : Instr.storeAt 137 v x = bA 137 v x := rfl
theorem load_lawsReceiver (n o : Nat) (W : World) (h : bq W n (o + 5) = true) : (bC 137 (.pointer (some ⟨n, o, none⟩))).run Try.prog W = .ok (.agg ((cx W n).extract o (o + 5))) W := by
  simp only [bC, Instr.loadAt, Instr.sureAddr, Sem.run_bind, Sem.run_pure, Result.andThen_ok, aE Try.underlying137 rfl (k := 5) (by kernel_rfl) n o W h]
theorem store_lawsReceiver (n o : Nat) (W : World) (cells : Array Value) (h : bq W n (o + 5) = true) (hk : cells.size = 5) (h1 : cells.all (·.oneCell') = true) : (bA 137 (.pointer (some ⟨n, o, none⟩)) (.agg cells)).run Try.prog W = .ok () (W.setCells n o cells.toList) := by
  simp only [bA, Instr.storeAt, Instr.sureAddr, Sem.run_bind, Sem.run_pure, Result.andThen_ok, b6 (P := Try.prog) (ty := 137) (k := 5) (by kernel_rfl) n o W cells h hk h1]
theorem pload_implConn (v : Value) : Instr.loadAt 108 v = bC 108 v := rfl
theorem pstore_implConn (v x : Value) : Instr.storeAt 108 v x = bA 108 v x := rfl
theorem load_implConn (n o : Nat) (W : World) (h : bq W n (o + 25) = true) : (bC 108 (.pointer (some ⟨n, o, none⟩))).run Try.prog W = .ok (.agg ((cx W n).extract o (o + 25))) W := by
  simp only [bC, Instr.loadAt, Instr.sureAddr, Sem.run_bind, Sem.run_pure, Result.andThen_ok, aE Try.underlying108 rfl (k := 25) (by kernel_rfl) n o W h]
theorem store_implConn (n o : Nat) (W : World) (cells : Array Value) (h : bq W n (o + 25) = true) (hk : cells.size = 25) (h1 : cells.all (·.oneCell') = true) : (bA 108 (.pointer (some ⟨n, o, none⟩)) (.agg cells)).run Try.prog W = .ok () (W.setCells n o cells.toList) := by
  simp only [bA, Instr.storeAt, Instr.sureAddr, Sem.run_bind, Sem.run_pure, Result.andThen_ok, b6 (P := Try.prog) (ty := 108) (k := 25) (by kernel_rfl) n o W cells h hk h1]
theorem res_implConn {fn : Func} {p : Tmp} (h : fn.results = #[.cell p 108]) (tmps : Array Value) (n : Nat) (W : World) (hp : tmps.getD p undef = .pointer (some ⟨n, 0, none⟩)) (hb : bq W n 25 = true) : (results fn tmps).run Try.prog W = .ok (.agg ((cx W n).extract 0 25)) W := by
  have hp' : tmps[p]?.getD undef = .pointer (some ⟨n, 0, none⟩) := by simpa using hp
  have := aE (P := Try.prog) Try.underlying108 rfl (k := 25) (by kernel_rfl) n 0 W (by simpa using hb)
  simp only [Nat.zero_add] at this
  simp [results, h, hp', asAddr, this]
theorem pload_lawsConn (v : Value) : Instr.loadAt 139 v = bC 139 v := rfl
theorem pstore_lawsConn (v x : Value) : Instr.storeAt 139 v x = bA 139 v x := rfl
theorem load_lawsConn (n o : Nat) (W : World) (h : bq W n (o + 25) = true) : (bC 139 (.pointer (some ⟨n, o, none⟩))).run Try.prog W = .ok (.agg ((cx W n).extract o (o + 25))) W := by
  simp only [bC, Instr.loadAt, Instr.sureAddr, Sem.run_bind, Sem.run_pure, Result.andThen_ok, aE Try.underlying139 rfl (k := 25) (by kernel_rfl) n o W h]
theorem store_lawsConn (n o : Nat) (W : World) (cells : Array Value) (h : bq W n (o + 25) = true) (hk : cells.size = 25) (h1 : cells.all (·.oneCell') = true) : (bA 139 (.pointer (some ⟨n, o, none⟩)) (.agg cells)).run Try.prog W = .ok () (W.setCells n o cells.toList) := by
  simp only [bA, Instr.storeAt, Instr.sureAddr, Sem.run_bind, Sem.run_pure, Result.andThen_ok, b6 (P := Try.prog) (ty := 139) (k := 25) (by kernel_rfl) n o W cells h hk h1]
theorem pload_implSegment (v : Value) : Instr.loadAt 66 v = bC 66 v := rfl
theorem pstore_implSegment (v x : Value) : Instr.storeAt 66 v x = bA 66 v x := rfl
theorem load_implSegment (n o : Nat) (W : World) (h : bq W n (o + 13) = true) : (bC 66 (.pointer (some ⟨n, o, none⟩))).run Try.prog W = .ok (.agg ((cx W n).extract o (o + 13))) W := by
  simp only [bC, Instr.loadAt, Instr.sureAddr, Sem.run_bind, Sem.run_pure, Result.andThen_ok, aE Try.underlying66 rfl (k := 13) (by kernel_rfl) n o W h]
theorem store_implSegment (n o : Nat) (W : World) (cells : Array Value) (h : bq W n (o + 13) = true) (hk : cells.size = 13) (h1 : cells.all (·.oneCell') = true) : (bA 66 (.pointer (some ⟨n, o, none⟩)) (.agg cells)).run Try.prog W = .ok () (W.setCells n o cells.toList) := by
  simp only [bA, Instr.storeAt, Instr.sureAddr, Sem.run_bind, Sem.run_pure, Result.andThen_ok, b6 (P := Try.prog) (ty := 66) (k := 13) (by kernel_rfl) n o W cells h hk h1]
theorem pload_lawsSegment (v : Value) : Instr.loadAt 59 v = bC 59 v := rfl
theorem pstore_lawsSegment (v x : Value) : Instr.storeAt 59 v x = bA 59 v x := rfl
theorem load_lawsSegment (n o : Nat) (W : World) (h : bq W n (o + 13) = true) : (bC 59 (.pointer (some ⟨n, o, none⟩))).run Try.prog W = .ok (.agg ((cx W n).extract o (o + 13))) W := by
  simp only [bC, Instr.loadAt, Instr.sureAddr, Sem.run_bind, Sem.run_pure, Result.andThen_ok, aE Try.underlying59 rfl (k := 13) (by kernel_rfl) n o W h]
theorem store_lawsSegment (n o : Nat) (W : World) (cells : Array Value) (h : bq W n (o + 13) = true) (hk : cells.size = 13) (h1 : cells.all (·.oneCell') = true) : (bA 59 (.pointer (some ⟨n, o, none⟩)) (.agg cells)).run Try.prog W = .ok () (W.setCells n o cells.toList) := by
  simp only [bA, Instr.storeAt, Instr.sureAddr, Sem.run_bind, Sem.run_pure, Result.andThen_ok, b6 (P := Try.prog) (ty := 59) (k := 13) (by kernel_rfl) n o W cells h hk h1]
theorem pload_implTable (v : Value) : Instr.loadAt 49 v = bC 49 v := rfl
theorem pstore_implTable (v x : Value) : Instr.storeAt 49 v x = bA 49 v x := rfl
theorem load_implTable (n o : Nat) (W : World) (h : bq W n (o + 2) = true) : (bC 49 (.pointer (some ⟨n, o, none⟩))).run Try.prog W = .ok (.agg ((cx W n).extract o (o + 2))) W := by
  simp only [bC, Instr.loadAt, Instr.sureAddr, Sem.run_bind, Sem.run_pure, Result.andThen_ok, aE Try.underlying49 rfl (k := 2) (by kernel_rfl) n o W h]
theorem store_implTable (n o : Nat) (W : World) (cells : Array Value) (h : bq W n (o + 2) = true) (hk : cells.size = 2) (h1 : cells.all (·.oneCell') = true) : (bA 49 (.pointer (some ⟨n, o, none⟩)) (.agg cells)).run Try.prog W = .ok () (W.setCells n o cells.toList) := by
  simp only [bA, Instr.storeAt, Instr.sureAddr, Sem.run_bind, Sem.run_pure, Result.andThen_ok, b6 (P := Try.prog) (ty := 49) (k := 2) (by kernel_rfl) n o W cells h hk h1]
theorem pload_lawsTable (v : Value) : Instr.loadAt 34 v = bC 34 v := rfl
theorem pstore_lawsTable (v x : Value) : Instr.storeAt 34 v x = bA 34 v x := rfl
theorem load_lawsTable (n o : Nat) (W : World) (h : bq W n (o + 2) = true) : (bC 34 (.pointer (some ⟨n, o, none⟩))).run Try.prog W = .ok (.agg ((cx W n).extract o (o + 2))) W := by
  simp only [bC, Instr.loadAt, Instr.sureAddr, Sem.run_bind, Sem.run_pure, Result.andThen_ok, aE Try.underlying34 rfl (k := 2) (by kernel_rfl) n o W h]
theorem store_lawsTable (n o : Nat) (W : World) (cells : Array Value) (h : bq W n (o + 2) = true) (hk : cells.size = 2) (h1 : cells.all (·.oneCell') = true) : (bA 34 (.pointer (some ⟨n, o, none⟩)) (.agg cells)).run Try.prog W = .ok () (W.setCells n o cells.toList) := by
  simp only [bA, Instr.storeAt, Instr.sureAddr, Sem.run_bind, Sem.run_pure, Result.andThen_ok, b6 (P := Try.prog) (ty := 34) (k := 2) (by kernel_rfl) n o W cells h hk h1]
end
/- Plain definitions: receivers and connections (no program in sight). -/
section
open Go.RowKit
def heldOk (m : Int) : Int → List Pce → Bool
  | _, [] => true
  | e, p :: l => !p.text.toList.isEmpty && (decide (e < p.off) && (decide (p.off ≤ m - p.text.size) && heldOk m (p.off + p.text.size) l))
def rcvPre (r : Rcv) : Bool := aw r.next 32 && (decide (r.data.size ≤ 32) && (decide (r.held.length ≤ 3) && (bx r.fin (-1) (wO r) && !decide (r.fin = 0))))
def rcvPost (r : Rcv) : Bool := !r.done || (decide (r.held.length = 0) && decide (r.fin = -1))
def rO (r : Rcv) : Bool := rcvPre r && (heldOk (if r.fin = -1 then wO r else r.fin) 0 r.held && rcvPost r)
def stateFits (c : Con) : Bool := if c.state = 8 then true else ((c.s.fin == decide (c.state ≠ 1 ∧ c.state ≠ 4)) && ((c.s.done == decide (c.state = 3 ∨ c.state = 7)) && (c.r.done == decide (c.state = 4 ∨ 5 ≤ c.state))))
def conPre (c : Con) : Bool := bL c.t && (senderOk c.s && (rO c.r && (optionsOk c.o && bx c.state 1 8)))
def conMid (c : Con) : Bool := bx c.most 0 1073725440 && (bx c.window 0 c.most && (bx c.timer 0 (if c.state = 7 then 4 else 3) && bx c.tries 0 3))
def conOk (c : Con) : Bool := conPre c && (conMid c && stateFits c)
end
/- A small machine on abstract states: what an operation does to known variables, checked by the kernel's reckoning; and that the model's operation does the same. -/
section
open Go.RowKit
set_option linter.unusedVariables false
set_option linter.unusedSimpArgs false
inductive AV where
  | v (x : Value)
  | p (i off : Nat)
  | r (h off : Nat)
structure Box where
  ty : TypeId
  cells : List Value
structure Fact where
  own : Bool
  p : World → Prop
  blk : Nat → Prop
  lt : ∀ w b, p w → blk b → b < w.heap.size
  keep : ∀ w w', p w → w.heap.size ≤ w'.heap.size → (∀ b, blk b → w'.heap[b]? = w.heap[b]?) → p w'
structure St where
  tmps : List (Nat × AV)
  boxes : List Box
  rows : List (List Value)
  facts : List Fact
def bD (ρ : Nat → Nat) (σ : Nat → Nat × Nat) : AV → Value
  | .v x => x
  | .p i off => .pointer (some ⟨ρ i, off, none⟩)
  | .r h off => .pointer (some ⟨(σ h).1, (σ h).2 + off, none⟩)
def AV.wf (nb nr : Nat) : AV → Prop
  | .v _ => True
  | .p i _ => i < nb
  | .r h _ => h < nr
def lkp : List (Nat × AV) → Nat → Option AV
  | [], _ => none
  | (k, x) :: l, t => if Nat.beq k t then some x else lkp l t
def del : List (Nat × AV) → Nat → List (Nat × AV)
  | [], _ => []
  | (k, x) :: l, t => if Nat.beq k t then del l t else (k, x) :: del l t
def bO (l : List (Nat × AV)) (t : Option Nat) (x : AV) : List (Nat × AV) := match t with | some t => (t, x) :: del l t | none => l
def keepT (l : List (Nat × AV)) : List Nat → Option (List (Nat × AV))
  | [] => some []
  | t :: r => match lkp l t, keepT l r with
    | some x, some y => some ((t, x) :: y)
    | _, _ => none
theorem lkp_del (l : List (Nat × AV)) (t u : Nat) : lkp (del l t) u = if t = u then none else lkp l u := by
  induction l with
  | nil => simp [del, lkp]
  | cons y l ih =>
    obtain ⟨k, x⟩ := y
    simp only [del]
    by_cases hk : k = t
    · subst hk
      simp only [Nat.beq_refl, if_true, ih]
      by_cases hu : k = u
      · simp [hu]
      · simp only [hu, if_false, lkp]
        rw [if_neg (by simpa using hu)]
    · rw [if_neg (by simpa using hk)]
      simp only [lkp, ih]
      by_cases hu : k = u
      · subst hu; simp [Ne.symm hk]
      · have hb : Nat.beq k u = false := by rw [← Bool.not_eq_true]; exact fun e => hu (Nat.eq_of_beq_eq_true e)
        simp only [hb, Bool.false_eq_true, if_false]
theorem lkp_keep (l : List (Nat × AV)) : ∀ (ks : List Nat) (l' : List (Nat × AV)), keepT l ks = some l' → ∀ t x, lkp l' t = some x → lkp l t = some x
  | [], l', h, t, x, hx => by simp [keepT] at h; subst h; simp [lkp] at hx
  | k :: ks, l', h, t, x, hx => by
    simp only [keepT] at h
    split at h
    · rename_i y z hy hz
      simp only [Option.some.injEq] at h
      subst h
      simp only [lkp] at hx
      split at hx
      · rename_i hb
        have : k = t := by simpa using hb
        subst this
        rw [hy, hx]
      · exact lkp_keep l ks z hz t x hx
    · simp at h
def Apart (fs : List Fact) : Prop := ∀ (i j : Nat) (f g : Fact), fs[i]? = some f → fs[j]? = some g → i ≠ j → f.own = true → ∀ b, f.blk b → ¬ g.blk b
theorem Apart.nil : Apart [] := fun i j f g h => by simp at h
theorem Apart.one (f : Fact) : Apart [f] := fun i j f' g h1 h2 hij => by
  have := (List.getElem?_eq_some_iff.1 h1).1
  have := (List.getElem?_eq_some_iff.1 h2).1
  simp at *; omega
theorem Apart.cons {f : Fact} {fs : List Fact} (h : Apart fs) (hf : ∀ g ∈ fs, ∀ b, f.blk b → ¬ g.blk b) : Apart (f :: fs) := fun i j f' g h1 h2 hij ho b h3 h4 => by
  cases i with
  | zero =>
    simp at h1; subst h1
    cases j with
    | zero => exact hij rfl
    | succ j => simp at h2; exact hf g (List.mem_of_getElem? h2) b h3 h4
  | succ i =>
    simp at h1
    cases j with
    | zero => simp at h2; subst h2; exact hf f' (List.mem_of_getElem? h1) b h4 h3
    | succ j => simp at h2; exact h i j f' g h1 h2 (by omega) ho b h3 h4
theorem Apart.plain {fs : List Fact} (h : ∀ f ∈ fs, f.own = false) : Apart fs := fun i j f g h1 h2 hij ho => by
  rw [h f (List.mem_of_getElem? h1)] at ho; cases ho
theorem Apart.append {fs gs : List Fact} (h1 : Apart fs) (h2 : Apart gs) (h : ∀ f ∈ fs, ∀ g ∈ gs, ∀ b, f.blk b → ¬ g.blk b) : Apart (fs ++ gs) := fun i j f g hi hj hij ho b hb hb' => by
  by_cases i1 : i < fs.length
  · rw [List.getElem?_append_left i1] at hi
    by_cases j1 : j < fs.length
    · rw [List.getElem?_append_left j1] at hj; exact h1 i j f g hi hj hij ho b hb hb'
    · rw [List.getElem?_append_right (by omega)] at hj; exact h f (List.mem_of_getElem? hi) g (List.mem_of_getElem? hj) b hb hb'
  · rw [List.getElem?_append_right (by omega)] at hi
    by_cases j1 : j < fs.length
    · rw [List.getElem?_append_left j1] at hj; exact h g (List.mem_of_getElem? hj) f (List.mem_of_getElem? hi) b hb' hb
    · rw [List.getElem?_append_right (by omega)] at hj; exact h2 _ _ f g hi hj (by omega) ho b hb hb'
structure XHeap (w0 : World) (boxes : List Box) (rows : List (List Value)) (facts : List Fact) (ρ : Nat → Nat) (σ : Nat → Nat × Nat) (w : World) : Prop where
  below : Below w0.heap.size w0 w
  box : ∀ i b, boxes[i]? = some b → w0.heap.size ≤ ρ i ∧ w.heap[ρ i]? = some (.cells b.cells.toArray b.ty (0, 0))
  inj : ∀ i j, i < boxes.length → j < boxes.length → ρ i = ρ j → i = j
  row : ∀ h r, rows[h]? = some r → w.rangeAt (σ h).1 (σ h).2 r ∧ (σ h).1 < w.heap.size ∧ ∀ i, i < boxes.length → (σ h).1 ≠ ρ i
  fact : ∀ f ∈ facts, f.p w ∧ ∀ i, i < boxes.length → ¬ f.blk (ρ i)
  apart : Apart facts
structure XAct (n : Nat) (st : St) (ρ : Nat → Nat) (σ : Nat → Nat × Nat) (a : Act) : Prop where
  size : a.tmps.size = n
  defers : a.defers = []
  tmps : ∀ t x, lkp st.tmps t = some x → x.wf st.boxes.length st.rows.length ∧ a.tmps.getD t undef = bD ρ σ x
def XRep (n : Nat) (w0 : World) (st : St) (ρ : Nat → Nat) (σ : Nat → Nat × Nat) (a : Act) (w : World) : Prop :=
  XAct n st ρ σ a ∧ XHeap w0 st.boxes st.rows st.facts ρ σ w
section
variable {w0 : World} {boxes : List Box} {rows : List (List Value)} {facts : List Fact} {ρ : Nat → Nat} {σ : Nat → Nat × Nat} {w w' : World}
theorem XHeap.boxLt (h : XHeap w0 boxes rows facts ρ σ w) {i : Nat} (hi : i < boxes.length) : ρ i < w.heap.size := by
  have := (h.box i _ (List.getElem?_eq_getElem hi)).2
  exact (Array.getElem?_eq_some_iff.1 this).1
theorem XHeap.step (h : XHeap w0 boxes rows facts ρ σ w) (hb : Below w.heap.size w w') : XHeap w0 boxes rows facts ρ σ w' where
  below := h.below.trans (hb.mono h.below.size)
  box := fun i b hi => by
    obtain ⟨h1, h2⟩ := h.box i b hi
    exact ⟨h1, (hb.block _ (Array.getElem?_eq_some_iff.1 h2).1).trans h2⟩
  inj := h.inj
  row := fun k r hr => by
    obtain ⟨h1, h2, h3⟩ := h.row k r hr
    refine ⟨fun j v hv => ?_, Nat.lt_of_lt_of_le h2 hb.size, h3⟩
    rw [hb.cell (p := ⟨(σ k).1, (σ k).2 + j, none⟩) h2]
    exact h1 j v hv
  fact := fun f hf => by
    obtain ⟨h1, h2⟩ := h.fact f hf
    exact ⟨f.keep w w' h1 hb.size (fun b hbk => hb.block b (f.lt w b h1 hbk)), h2⟩
  apart := h.apart
structure XRd (boxes : List Box) (rows : List (List Value)) (ρ : Nat → Nat) (σ : Nat → Nat × Nat) (w : World) : Prop where
  box : ∀ i b, boxes[i]? = some b → ρ i < w.heap.size ∧ w.rangeAt (ρ i) 0 b.cells
  row : ∀ h r, rows[h]? = some r → (σ h).1 < w.heap.size ∧ w.rangeAt (σ h).1 (σ h).2 r
theorem XHeap.drew (h : XHeap w0 boxes rows facts ρ σ w) : XHeap w0 boxes rows facts ρ σ w.drew := h.step ((Below.refl _ _).drew)
theorem XHeap.add (h : XHeap w0 boxes rows facts ρ σ w) (f : Fact) (hf : f.p w) (hn : ∀ i, i < boxes.length → ¬ f.blk (ρ i)) (ha : ∀ g ∈ facts, ∀ b, f.blk b → ¬ g.blk b) : XHeap w0 boxes rows (f :: facts) ρ σ w :=
  ⟨h.below, h.box, h.inj, h.row, fun g hg => (List.mem_cons.1 hg).elim (fun e => by subst e; exact ⟨hf, hn⟩) (fun hg => h.fact g hg), h.apart.cons ha⟩
theorem XHeap.cells (h : XHeap w0 boxes rows facts ρ σ w) {i : Nat} {b : Box} (hi : boxes[i]? = some b) (o : Nat) : w.cell? ⟨ρ i, o, none⟩ = b.cells[o]? := by
  rw [cell_of_row w (ρ i) o _ b.ty (0, 0) (h.box i b hi).2]; simp
theorem XHeap.rd (h : XHeap w0 boxes rows facts ρ σ w) : XRd boxes rows ρ σ w where
  box := fun i b hi => ⟨(Array.getElem?_eq_some_iff.1 (h.box i b hi).2).1, fun j v hv => by rw [Nat.zero_add, h.cells hi]; exact hv⟩
  row := fun k r hr => ⟨(h.row k r hr).2.1, (h.row k r hr).1⟩
theorem XHeap.frozen (h : XHeap w0 boxes rows facts ρ σ w) {i : Nat} {b : Box} (hi : boxes[i]? = some b) (o : Nat) : w.frozen? ⟨ρ i, o, none⟩ = false :=
  frozen_of_row w (ρ i) o _ b.ty (h.box i b hi).2
end
end
/- The machine's operations, and that the model's do the same. -/
section
open Go.RowKit
set_option linter.unusedVariables false
set_option linter.unusedSimpArgs false
inductive XR where
  | val (x : AV)
  | box (b : Box)
  | store (i off : Nat) (cs : List Value)
def cn (l : List (Nat × AV)) : Operand → Option AV
  | .tmp t => lkp l t
  | .const v => some (.v v)
  | .func f => some (.v (.func (.func f) #[] #[]))
  | .global _ => none
def intOp (op : BinOp) (k : IntKind) (a b : Int) : Option Value :=
  match op with
  | .add => some (.int k (k.wrap (a + b)))
  | .sub => some (.int k (k.wrap (a - b)))
  | .mul => some (.int k (k.wrap (a * b)))
  | .eql => some (.bool (a == b))
  | .neq => some (.bool (a != b))
  | .lss => some (.bool (decide (a < b)))
  | .leq => some (.bool (decide (a ≤ b)))
  | .gtr => some (.bool (decide (a > b)))
  | .geq => some (.bool (decide (a ≥ b)))
  | .and => some (.int k (k.wrap (BitVec.ofInt k.bits a &&& BitVec.ofInt k.bits b).toNat))
  | .or => some (.int k (k.wrap (BitVec.ofInt k.bits a ||| BitVec.ofInt k.bits b).toNat))
  | _ => none
def sameKind : IntKind → IntKind → Bool
  | .i64, .i64 => true
  | .u64, .u64 => true
  | .u8, .u8 => true
  | .i32, .i32 => true
  | .u32, .u32 => true
  | _, _ => false
theorem sameKind_eq {a b : IntKind} (h : sameKind a b = true) : a = b := by cases a <;> cases b <;> first | rfl | simp [sameKind] at h
def binV (P : Program) (op : BinOp) (t : TypeId) (x y : Value) : Option Value :=
  match x, y with
  | .int k a, .int k' b => if sameKind k k' then intOp op k a b else none
  | .string a, .string b => match op with
    | .eql => some (.bool (a.toList == b.toList))
    | .neq => some (.bool !(a.toList == b.toList))
    | _ => none
  | .bool a, .bool b => match P.underlying t with
    | some .bool => match op with
      | .eql => some (.bool (a == b))
      | .neq => some (.bool !(a == b))
      | _ => none
    | _ => none
  | _, _ => none
def loadC (P : Program) (t : TypeId) (cs : List Value) (off : Nat) : Option Value :=
  match P.underlying t, P.info? t with
  | some d, some i => if d.isRow then (if Nat.ble (off + i.size) cs.length then some (.agg ((cs.drop off).take i.size).toArray) else none) else cs[off]?
  | _, _ => none
def xop (P : Program) (l : List (Nat × AV)) (boxes : List Box) (rows : List (List Value)) : Op → Option XR
  | .move x | .assign x => match cn l x with | some y => some (.val y) | none => none
  | .pick c a b => match cn l c with
    | some (.v (.bool cc)) => match cn l a, cn l b with
      | some (.v (.bool x)), some (.v (.bool y)) => some (.val (.v (.bool (cond cc x y))))
      | some x, some y => match cc with
        | true => some (.val x)
        | false => some (.val y)
      | _, _ => none
    | _ => none
  | .box t x => match cn l x with
    | some (.v v) => some (.box ⟨t, v.cells.toList⟩)
    | _ => none
  | .alloc t => match P.info? t with
    | some i => match i.zero with
      | some z => some (.box ⟨t, z.cells.toList⟩)
      | none => none
    | none => none
  | .load t x => match cn l x with
    | some (.p i off) => match boxes[i]? with
      | some b => match loadC P t b.cells off with | some v => some (.val (.v v)) | none => none
      | none => none
    | some (.r h off) => match rows[h]? with
      | some r => match loadC P t r off with | some v => some (.val (.v v)) | none => none
      | none => none
    | _ => none
  | .store t a x => match cn l a, cn l x with
    | some (.p i off), some (.v v) => match boxes[i]?, P.info? t with
      | some b, some inf => if Nat.beq v.cells.size inf.size && (Nat.ble (off + inf.size) b.cells.length && v.cells.toList.all (·.oneCell')) then some (.store i off v.cells.toList) else none
      | _, _ => none
    | _, _ => none
  | .fieldAddr s x f => match P.underlying s with
    | some (.struct fs) => match fs[f]? with
      | some fd => match P.info? fd.type with
        | some inf => if Nat.beq inf.size 0 then none else match cn l x with
          | some (.p i off) => some (.val (.p i (off + fd.offset)))
          | some (.r h off) => some (.val (.r h (off + fd.offset)))
          | _ => none
        | none => none
      | none => none
    | _ => none
  | .binOp op t x y _ => match cn l x, cn l y with
    | some (.v a), some (.v b) => match binV P op t a b with | some v => some (.val (.v v)) | none => none
    | _, _ => none
  | .unOp .not _ x => match cn l x with
    | some (.v (.bool b)) => some (.val (.v (.bool !b)))
    | _ => none
  | .convert s d x => match P.underlying s, P.underlying d, cn l x with
    | some _, some (.int k), some (.v (.int _ n)) => some (.val (.v (.int k (k.wrap n))))
    | _, _, _ => none
  | .extract x i => match cn l x with
    | some (.v (.tuple vs)) => match vs[i]? with | some v => some (.val (.v v)) | none => none
    | _ => none
  | .call c => match c.callee, c.args.toList, c.argTypes.toList with
    | .builtin .len, [x], [t] => match cn l x, P.underlying t with
      | some (.v (.string s)), some .string => some (.val (.v (.int .i64 s.size)))
      | some (.v (.slice _ n _)), some (.slice _) => some (.val (.v (.int .i64 n)))
      | _, _ => none
    | .builtin .min, [x, y], _ => match cn l x, cn l y with
      | some (.v (.int k a)), some (.v (.int _ b)) => some (.val (.v (.int k (if b < a then b else a))))
      | _, _ => none
    | .builtin .max, [x, y], _ => match cn l x, cn l y with
      | some (.v (.int k a)), some (.v (.int _ b)) => some (.val (.v (.int k (if a < b then b else a))))
      | _, _ => none
    | _, _, _ => none
  | _ => none
section
variable {P : Program} {n : Nat} {w0 : World} {st : St} {ρ : Nat → Nat} {σ : Nat → Nat × Nat} {a : Act} {w : World}
theorem cr (h : XAct n st ρ σ a) {x : Operand} {y : AV} (hx : cn st.tmps x = some y) : a.eval x = bD ρ σ y ∧ y.wf st.boxes.length st.rows.length := by
  cases x with
  | tmp t => simp only [cn] at hx; obtain ⟨h1, h2⟩ := h.tmps t y hx; exact ⟨h2, h1⟩
  | const v => simp only [cn, Option.some.injEq] at hx; subst hx; exact ⟨rfl, trivial⟩
  | global g => simp [cn] at hx
  | func f => simp only [cn, Option.some.injEq] at hx; subst hx; exact ⟨rfl, trivial⟩
theorem aG (h : XAct n st ρ σ a) {x : Operand} {v : Value} (hx : cn st.tmps x = some (.v v)) : a.eval x = v := (cr h hx).1
theorem binV_run (op : BinOp) (t : TypeId) (x y : Operand) (a b v : Value) (h : binV P op t a b = some v) (w : World) : (do eqGuard op t x y a b; binOp op t a b : Sem Value).run P w = .ok v w := by
  unfold binV at h
  split at h
  · split at h
    · rename_i k a k' b hk
      obtain rfl := sameKind_eq hk
      unfold intOp at h
      split at h <;> first
        | (simp only [Option.some.injEq] at h; subst h
           simp [eqGuard, binOp, Op.intArith, Op.intCmp, Op.intBits])
        | simp at h
    · simp at h
  · rename_i a b
    split at h <;> first
      | (simp only [Option.some.injEq] at h; subst h
         simp [eqGuard, binOp, Op.stringOp])
      | simp at h
  · rename_i a b
    split at h
    · rename_i hu
      split at h <;> first
        | (simp only [Option.some.injEq] at h; subst h
           simp [eqGuard, run_eql_bool, run_neq_bool, hu])
        | simp at h
    · simp at h
  · simp at h
end
end
/- The model's operations do what the machine's do. -/
section
open Go.RowKit
set_option linter.unusedVariables false
set_option linter.unusedSimpArgs false
section
variable {P : Program} {n : Nat} {w0 : World} {st : St} {facts : List Fact} {ρ : Nat → Nat} {σ : Nat → Nat × Nat} {a : Act} {w : World}
theorem loadC_run {t : TypeId} {cs : List Value} {off b o0 : Nat} {v : Value} (hr : w.rangeAt b o0 cs) (h : loadC P t cs off = some v) : (Instr.loadAt t (.pointer (some ⟨b, o0 + off, none⟩))).run P w = .ok v w := by
  unfold loadC at h
  split at h
  · rename_i d i hd hi
    split at h
    · rename_i hrow
      split at h
      · rename_i hb
        simp only [Option.some.injEq] at h
        subst h
        have hle : off + i.size ≤ cs.length := by simpa using hb
        refine run_loadAt_mid w b (o0 + off) t _ d (fun j v hv => ?_) hd hrow (by rw [hi]; simp; omega)
        have hj : j < i.size := by
          have := (List.getElem?_eq_some_iff.1 hv).1
          simp at this; omega
        have hv' : cs[off + j]? = some v := by
          rw [List.getElem?_take, if_pos hj, List.getElem?_drop] at hv
          exact hv
        rw [Nat.add_assoc]
        exact hr (off + j) v hv'
      · simp at h
    · rename_i hrow
      have hagg : (isAgg t).run P w = .ok false w := by
        unfold isAgg
        rw [Sem.run_bind, run_underlying hd w]
        cases d <;> simp_all
      simp only [Instr.loadAt, Instr.sureAddr, Sem.run_bind, Sem.run_pure, Result.andThen_ok, loadVar, hagg, Bool.false_eq_true, if_false, run_load, hr off v h]
  · simp at h
theorem XHeap.range (h : XHeap w0 st.boxes st.rows facts ρ σ w) {i : Nat} {b : Box} (hi : st.boxes[i]? = some b) : w.rangeAt (ρ i) 0 b.cells := fun j v hv => by
  rw [Nat.zero_add, h.cells hi]; exact hv
theorem cond_run (c : Bool) (x y : Bool) : (if c = true then Value.bool x else Value.bool y) = Value.bool (cond c x y) := by cases c <;> rfl
theorem xop_rd {o : Oper} {y : AV} {bs : List Box} {rs : List (List Value)} (hx : xop P st.tmps bs rs o.op = some (.val y)) (hA : XAct n st ρ σ a) (hH : XRd bs rs ρ σ w) :
    y.wf st.boxes.length st.rows.length ∧ (execOp a.eval o).run P w = .ok (.value (bD ρ σ y)) w := by
  unfold xop at hx
  split at hx
  case h_1 x ho =>
    split at hx
    · rename_i z hz; simp only [Option.some.injEq, XR.val.injEq] at hx; subst hx
      obtain ⟨h1, h2⟩ := cr hA hz
      exact ⟨h2, by simp only [execOp, ho, h1]; rfl⟩
    · simp at hx
  case h_2 x ho =>
    split at hx
    · rename_i z hz; simp only [Option.some.injEq, XR.val.injEq] at hx; subst hx
      obtain ⟨h1, h2⟩ := cr hA hz
      exact ⟨h2, by simp only [execOp, ho, h1]; rfl⟩
    · simp at hx
  case h_3 c x z ho =>
    split at hx
    · rename_i cc hc
      have hc' := aG hA hc
      split at hx
      · rename_i xa ya h1 h2
        simp only [Option.some.injEq, XR.val.injEq] at hx; subst hx
        have h1' := aG hA h1
        have h2' := aG hA h2
        refine ⟨trivial, ?_⟩
        simp only [execOp, ho, hc', asBool, Sem.run_bind, Sem.run_pure, Result.andThen_ok, h1', h2', cond_run, bD]
      · rename_i xa ya _ h1 h2
        obtain ⟨h1', g1⟩ := cr hA h1
        obtain ⟨h2', g2⟩ := cr hA h2
        split at hx
        · simp only [Option.some.injEq, XR.val.injEq] at hx; subst hx
          refine ⟨g1, ?_⟩
          simp only [execOp, ho, hc', asBool, Sem.run_bind, Sem.run_pure, Result.andThen_ok, if_true, h1']
        · simp only [Option.some.injEq, XR.val.injEq] at hx; subst hx
          refine ⟨g2, ?_⟩
          simp only [execOp, ho, hc', asBool, Sem.run_bind, Sem.run_pure, Result.andThen_ok, Bool.false_eq_true, if_false, h2']
      · simp at hx
    · simp at hx
  case h_4 => split at hx <;> simp at hx
  case h_5 =>
    split at hx
    · split at hx <;> simp at hx
    · simp at hx
  case h_6 t x ho =>
    split at hx
    · rename_i i off hxx
      have hev := (cr hA hxx).1
      split at hx
      · rename_i b hb
        split at hx
        · rename_i v hv
          simp only [Option.some.injEq, XR.val.injEq] at hx; subst hx
          refine ⟨trivial, ?_⟩
          have hl := loadC_run (P := P) (hH.box _ _ hb).2 hv
          rw [Nat.zero_add] at hl
          simp only [execOp, ho, hev, bD, Sem.run_bind, hl, Result.andThen_ok, Sem.run_pure]
        · simp at hx
      · simp at hx
    · rename_i k off hxx
      have hev := (cr hA hxx).1
      split at hx
      · rename_i r hr
        split at hx
        · rename_i v hv
          simp only [Option.some.injEq, XR.val.injEq] at hx; subst hx
          refine ⟨trivial, ?_⟩
          have hl := loadC_run (P := P) (hH.row k r hr).2 hv
          simp only [execOp, ho, hev, bD, Sem.run_bind, hl, Result.andThen_ok, Sem.run_pure]
        · simp at hx
      · simp at hx
    · simp at hx
  case h_7 =>
    split at hx
    · split at hx
      · split at hx <;> simp at hx
      · simp at hx
    · simp at hx
  case h_8 s x f ho =>
    split at hx
    · rename_i fs hu
      split at hx
      · rename_i fd hf
        split at hx
        · rename_i inf hi
          split at hx
          · simp at hx
          · rename_i hz
            have hz' : ¬ inf.size = 0 := by simpa using hz
            split at hx
            · rename_i i off hxx
              simp only [Option.some.injEq, XR.val.injEq] at hx; subst hx
              obtain ⟨h1, h2⟩ := cr hA hxx
              refine ⟨h2, ?_⟩
              simp only [execOp, ho, h1, bD, Instr.fieldAt, Sem.run_bind, run_underlying hu, Result.andThen_ok, hf, Instr.sureAddr, Sem.run_pure, fieldPlace, sizeOf, typeInfo, run_program, hi, hz', if_false, Addr.add_mid]
            · rename_i k off hxx
              simp only [Option.some.injEq, XR.val.injEq] at hx; subst hx
              obtain ⟨h1, h2⟩ := cr hA hxx
              refine ⟨h2, ?_⟩
              simp only [execOp, ho, h1, bD, Instr.fieldAt, Sem.run_bind, run_underlying hu, Result.andThen_ok, hf, Instr.sureAddr, Sem.run_pure, fieldPlace, sizeOf, typeInfo, run_program, hi, hz', if_false, Addr.add_mid, Nat.add_assoc]
            · simp at hx
        · simp at hx
      · simp at hx
    · simp at hx
  case h_9 op t x y' ty ho =>
    split at hx
    · rename_i va vb h1 h2
      split at hx
      · rename_i v hv
        simp only [Option.some.injEq, XR.val.injEq] at hx; subst hx
        have h1' := aG hA h1
        have h2' := aG hA h2
        refine ⟨trivial, ?_⟩
        have := binV_run op t x y' va vb v hv w
        simp only [execOp, ho, h1', h2', bD, Sem.run_bind] at this ⊢
        simp only [this, Result.andThen_ok, Sem.run_pure]
      · simp at hx
    · simp at hx
  case h_10 t x ho =>
    split at hx
    · rename_i b hb
      simp only [Option.some.injEq, XR.val.injEq] at hx; subst hx
      have h1 := aG hA hb
      exact ⟨trivial, by simp [execOp, ho, h1, Op.unary, bD]⟩
    · simp at hx
  case h_11 s d x ho =>
    split at hx
    · rename_i d0 k k' m hs hd hxx
      simp only [Option.some.injEq, XR.val.injEq] at hx; subst hx
      have h1 := aG hA hxx
      refine ⟨trivial, ?_⟩
      simp only [execOp, ho, h1, bD, Sem.run_bind, convert, run_underlying hs, run_underlying hd, Result.andThen_ok]
      cases d0 <;> simp [Conv.intToInt]
    · simp at hx
  case h_12 x i ho =>
    split at hx
    · rename_i vs hv
      split at hx
      · rename_i v hvi
        simp only [Option.some.injEq, XR.val.injEq] at hx; subst hx
        have h1 := aG hA hv
        exact ⟨trivial, by simp [execOp, ho, h1, Instr.extract, hvi, bD]⟩
      · simp at hx
    · simp at hx
  case h_13 c ho =>
    split at hx
    · rename_i x t hc1 hc2 hc3
      have e2 : c.args = #[x] := by rw [← Array.toArray_toList (xs := c.args), hc2]
      have e3 : c.argTypes = #[t] := by rw [← Array.toArray_toList (xs := c.argTypes), hc3]
      split at hx
      · rename_i s hs hu
        simp only [Option.some.injEq, XR.val.injEq] at hx; subst hx
        have h1 := aG hA hs
        refine ⟨trivial, ?_⟩
        simp only [execOp, ho, resolve, hc1, e2, e3, invoke, builtin, Builtin.len_, Sem.run_bind, Sem.run_pure, Result.andThen_ok, List.map_toArray, List.map_cons, List.map_nil, h1, bD]
        simp [run_underlying hu, goInt]
      · rename_i a0 nn cc e hs hu
        simp only [Option.some.injEq, XR.val.injEq] at hx; subst hx
        have h1 := aG hA hs
        refine ⟨trivial, ?_⟩
        simp only [execOp, ho, resolve, hc1, e2, e3, invoke, builtin, Builtin.len_, Sem.run_bind, Sem.run_pure, Result.andThen_ok, List.map_toArray, List.map_cons, List.map_nil, h1, bD]
        simp [run_underlying hu, goInt]
      · simp at hx
    · rename_i x y hc1 hc2
      have e2 : c.args = #[x, y] := by rw [← Array.toArray_toList (xs := c.args), hc2]
      split at hx
      · rename_i k a1 k' b1 h1 h2
        simp only [Option.some.injEq, XR.val.injEq] at hx; subst hx
        have h1' := aG hA h1
        have h2' := aG hA h2
        refine ⟨trivial, ?_⟩
        simp only [execOp, ho, resolve, hc1, e2, invoke, builtin, Builtin.min_, Sem.run_bind, Sem.run_pure, Result.andThen_ok, List.map_toArray, List.map_cons, List.map_nil, h1', h2', bD]
        simp [Builtin.min2]
      · simp at hx
    · rename_i x y hc1 hc2
      have e2 : c.args = #[x, y] := by rw [← Array.toArray_toList (xs := c.args), hc2]
      split at hx
      · rename_i k a1 k' b1 h1 h2
        simp only [Option.some.injEq, XR.val.injEq] at hx; subst hx
        have h1' := aG hA h1
        have h2' := aG hA h2
        refine ⟨trivial, ?_⟩
        simp only [execOp, ho, resolve, hc1, e2, invoke, builtin, Builtin.max_, Sem.run_bind, Sem.run_pure, Result.andThen_ok, List.map_toArray, List.map_cons, List.map_nil, h1', h2', bD]
        simp [Builtin.max2]
      · simp at hx
    · simp at hx
  case h_14 => simp at hx
theorem xop_val {o : Oper} {y : AV} (hx : xop P st.tmps st.boxes st.rows o.op = some (.val y)) (hA : XAct n st ρ σ a) (hH : XHeap w0 st.boxes st.rows facts ρ σ w) :
    y.wf st.boxes.length st.rows.length ∧ (execOp a.eval o).run P w = .ok (.value (bD ρ σ y)) w := xop_rd hx hA hH.rd
end
end
/- The machine walks through J. -/
section
open Go.RowKit
set_option linter.unusedVariables false
set_option linter.unusedSimpArgs false
def du (c : List Value) (o : Nat) (cs : List Value) : List Value := c.take o ++ cs ++ c.drop (o + cs.length)
def cP : List Box → Nat → Nat → List Value → List Box
  | [], _, _, _ => []
  | b :: r, 0, o, cs => ⟨b.ty, du b.cells o cs⟩ :: r
  | b :: r, i + 1, o, cs => b :: cP r i o cs
def addBox : List Box → Box → List Box
  | [], b => [b]
  | c :: r, b => c :: addBox r b
def lenB : List Box → Nat
  | [] => 0
  | _ :: r => lenB r + 1
theorem lenB_eq (l : List Box) : lenB l = l.length := by induction l with | nil => rfl | cons b l ih => simp [lenB, ih]
theorem addBox_eq (l : List Box) (b : Box) : addBox l b = l ++ [b] := by induction l with | nil => rfl | cons c l ih => simp [addBox, ih]
theorem cC (l : List Box) (i o : Nat) (cs : List Value) : (cP l i o cs).length = l.length := by
  induction l generalizing i with
  | nil => rfl
  | cons b l ih => cases i <;> simp [cP, ih]
theorem setBox_get (l : List Box) (i o : Nat) (cs : List Value) (j : Nat) : (cP l i o cs)[j]? = if j = i then (l[j]?).map (fun b => ⟨b.ty, du b.cells o cs⟩) else l[j]? := by
  induction l generalizing i j with
  | nil => simp [cP]
  | cons b l ih =>
    cases i with
    | zero => cases j <;> simp [cP]
    | succ i => cases j <;> simp [cP, ih]
theorem cO (g : Nat) : ∀ (cs : List Value) (o : Nat) (w : World) (c : Array Value) (t : TypeId), w.heap[g]? = some (.cells c t (0, 0)) → o + cs.length ≤ c.size →
    (w.setCells g o cs).heap[g]? = some (.cells (du c.toList o cs).toArray t (0, 0))
  | [], o, w, c, t, h, hl => by simp [World.setCells, du, h]
  | v :: r, o, w, c, t, h, hl => by
    simp only [List.length_cons] at hl
    have h1 : (w.setCell ⟨g, o, none⟩ v).heap[g]? = some (.cells (c.setIfInBounds o v) t (0, 0)) := by
      simp [World.setCell, Array.getElem?_modify, h]
    rw [World.setCells, cO g r (o + 1) _ _ t h1 (by simp; omega)]
    congr 2
    apply Array.toList_inj.1
    simp only [du, Array.toList_setIfInBounds, List.length_cons]
    have ho : o < c.toList.length := by simp; omega
    rw [List.take_set, List.drop_set, if_pos (by omega)]
    rw [show o + 1 + r.length = o + (r.length + 1) by omega]
    rw [List.take_succ_eq_append_getElem ho, List.set_append_right _ _ (by simp; omega)]
    simp [Nat.min_eq_left (show o ≤ c.size by omega)]
theorem bu (g : Nat) : ∀ (cs : List Value) (o : Nat) (w : World) (k : Nat), k ≠ g → (w.setCells g o cs).heap[k]? = w.heap[k]?
  | [], _, _, _, _ => rfl
  | v :: r, o, w, k, h => by
    rw [World.setCells, bu g r (o + 1) _ k h, Below.heap_setCell _ _ _ _ h]
theorem bW (g : Nat) : ∀ (vs : List Value) (o : Nat) (w : World), (w.setCells g o vs).heap.size = w.heap.size
  | [], _, _ => rfl
  | v :: r, o, w => (bW g r (o + 1) _).trans (by simp [World.setCell])
theorem cQ (g : Nat) : ∀ (vs : List Value) (o : Nat) (w : World), (w.setCells g o vs).os = w.os ∧ (w.setCells g o vs).tape = w.tape ∧ (w.setCells g o vs).output = w.output
  | [], _, _ => ⟨rfl, rfl, rfl⟩
  | v :: r, o, w => cQ g r (o + 1) (w.setCell ⟨g, o, none⟩ v)
section
variable {w0 : World} {boxes : List Box} {rows : List (List Value)} {facts : List Fact} {ρ : Nat → Nat} {σ : Nat → Nat × Nat} {w w' : World}
def upd (ρ : Nat → Nat) (i m : Nat) : Nat → Nat := fun j => if j = i then m else ρ j
theorem XHeap.push (h : XHeap w0 boxes rows facts ρ σ w) (b : Box) : XHeap w0 (addBox boxes b) rows facts (upd ρ (lenB boxes) w.heap.size) σ (w.alloc (.cells b.cells.toArray b.ty)) := by
  rw [addBox_eq, lenB_eq]
  have hst := h.step (w' := w.alloc (.cells b.cells.toArray b.ty)) ((Below.refl _ _).alloc (Nat.le_refl _) _)
  refine ⟨hst.below, fun i c hi => ?_, fun i j hi hj he => ?_, fun k r hr => ?_, fun f hf => ?_, h.apart⟩
  · unfold upd
    by_cases hlt : i < boxes.length
    · rw [List.getElem?_append_left hlt] at hi
      rw [if_neg (by omega)]
      exact hst.box i c hi
    · rw [List.getElem?_append_right (by omega)] at hi
      have hi0 : i - boxes.length = 0 := by
        have := (List.getElem?_eq_some_iff.1 hi).1
        simp at this; omega
      obtain rfl : i = boxes.length := by omega
      simp at hi; subst hi
      rw [if_pos rfl]
      exact ⟨h.below.size, by rw [Go.heap_alloc_new]⟩
  · simp only [List.length_append, List.length_cons, List.length_nil] at hi hj
    unfold upd at he
    by_cases h1 : i = boxes.length <;> by_cases h2 : j = boxes.length
    · omega
    · rw [if_pos h1, if_neg h2] at he
      have := h.boxLt (i := j) (by omega); omega
    · rw [if_neg h1, if_pos h2] at he
      have := h.boxLt (i := i) (by omega); omega
    · rw [if_neg h1, if_neg h2] at he
      exact h.inj i j (by omega) (by omega) he
  · obtain ⟨h1, h2, h3⟩ := hst.row k r hr
    refine ⟨h1, h2, fun i hi => ?_⟩
    simp only [List.length_append, List.length_cons, List.length_nil] at hi
    unfold upd
    by_cases h1 : i = boxes.length
    · rw [if_pos h1]; have := (h.row k r hr).2.1; omega
    · rw [if_neg h1]; exact h3 i (by omega)
  · obtain ⟨h1, h2⟩ := hst.fact f hf
    refine ⟨h1, fun i hi => ?_⟩
    simp only [List.length_append, List.length_cons, List.length_nil] at hi
    unfold upd
    by_cases h3 : i = boxes.length
    · rw [if_pos h3]; intro hb; have := f.lt w _ (h.fact f hf).1 hb; omega
    · rw [if_neg h3]; exact h2 i (by omega)
theorem XHeap.write (h : XHeap w0 boxes rows facts ρ σ w) {i : Nat} {b : Box} (hi : boxes[i]? = some b) {o : Nat} {cs : List Value} (hl : o + cs.length ≤ b.cells.length) :
    XHeap w0 (cP boxes i o cs) rows facts ρ σ (w.setCells (ρ i) o cs) := by
  have hil : i < boxes.length := (List.getElem?_eq_some_iff.1 hi).1
  obtain ⟨hB, hbox⟩ := h.box i b hi
  obtain ⟨s1, s2, s3⟩ := cQ (ρ i) cs o w
  refine ⟨⟨s1.trans h.below.os, s2.trans h.below.tape, s3.trans h.below.output, by rw [bW]; exact h.below.size, fun k hk => ?_⟩, fun j c hj => ?_, fun i j h1 h2 he => ?_, fun k r hr => ?_, fun f hf => ?_, h.apart⟩
  · rw [bu _ _ _ _ _ (by omega)]; exact h.below.block k hk
  · rw [setBox_get] at hj
    by_cases hji : j = i
    · subst hji
      rw [if_pos rfl, hi] at hj
      simp only [Option.map_some, Option.some.injEq] at hj
      subst hj
      refine ⟨hB, ?_⟩
      have := cO (ρ j) cs o w b.cells.toArray b.ty hbox (by simpa using hl)
      simpa using this
    · rw [if_neg hji] at hj
      obtain ⟨h1, h2⟩ := h.box j c hj
      refine ⟨h1, ?_⟩
      rw [bu _ _ _ _ _ (fun e => hji (h.inj j i (List.getElem?_eq_some_iff.1 hj).1 hil e))]
      exact h2
  · rw [cC] at h1 h2; exact h.inj i j h1 h2 he
  · obtain ⟨h1, h2, h3⟩ := h.row k r hr
    refine ⟨fun j v hv => ?_, by rw [bW]; exact h2, fun i hi => h3 i (by rw [cC] at hi; exact hi)⟩
    rw [World.cell?_of_block (a := ⟨(σ k).1, (σ k).2 + j, none⟩) (bu (ρ i) cs o w _ (h3 i hil))]
    exact h1 j v hv
  · obtain ⟨h1, h2⟩ := h.fact f hf
    refine ⟨f.keep w _ h1 (by rw [bW]; exact Nat.le_refl _) (fun b hb => bu _ _ _ _ _ (fun e => h2 i hil (e ▸ hb))), fun i hi => h2 i (by rw [cC] at hi; exact hi)⟩
end
section
variable {P : Program} {n : Nat} {w0 : World} {st : St} {facts : List Fact} {ρ : Nat → Nat} {σ : Nat → Nat × Nat} {a : Act} {w : World}
theorem AV.wf_mono {x : AV} {nb nr nb' nr' : Nat} (h : x.wf nb nr) (h1 : nb ≤ nb') (h2 : nr ≤ nr') : x.wf nb' nr' := by
  cases x <;> simp only [AV.wf] at * <;> omega
theorem conc_upd {x : AV} {nb nr m : Nat} (h : x.wf nb nr) : bD (upd ρ nb m) σ x = bD ρ σ x := by
  cases x with
  | v x => rfl
  | p i off => simp only [AV.wf] at h; simp only [bD, upd]; rw [if_neg (by omega)]
  | r h off => rfl
theorem XAct.put (h : XAct n st ρ σ a) {d : Option Nat} {x : AV} (hd : ∀ t, d = some t → t < n) (hx : x.wf st.boxes.length st.rows.length) : XAct n { st with tmps := bO st.tmps d x } ρ σ (a.put d (bD ρ σ x)) := by
  cases d with
  | none => exact h
  | some t =>
    refine ⟨by simp [Act.put, h.size], h.defers, fun u y hu => ?_⟩
    simp only [bO, lkp] at hu
    split at hu
    · rename_i hb
      obtain rfl : t = u := Nat.eq_of_beq_eq_true hb
      simp only [Option.some.injEq] at hu; subst hu
      refine ⟨hx, ?_⟩
      have : t < a.tmps.size := by rw [h.size]; exact hd t rfl
      simp [Act.put, Array.getD_eq_getD_getElem?, this]
    · rename_i hb
      have hne : t ≠ u := fun e => hb (by subst e; exact Nat.beq_refl t)
      rw [lkp_del, if_neg hne] at hu
      obtain ⟨h1, h2⟩ := h.tmps u y hu
      refine ⟨h1, ?_⟩
      rw [← h2]
      simp [Act.put, Array.getD_eq_getD_getElem?, Array.getElem?_setIfInBounds, hne]
def b7 (ops : Array Oper) (l : List (Nat × AV)) (o : Oper) : Option Bool :=
  match o.guard with
  | none => some true
  | some (j, b) => match ops[j]? with
    | some oj => match oj.dst with
      | some t => match lkp l t with
        | some (.v (.bool x)) => match x, b with
          | true, true => some true
          | false, false => some true
          | true, false => some false
          | false, true => some false
        | some (.v (.tuple _)) => some false
        | _ => none
      | none => none
    | none => none
def bS (n : Nat) : Option Nat → Bool
  | none => true
  | some t => Nat.blt t n
theorem bK {n : Nat} {d : Option Nat} (h : bS n d = true) : ∀ t, d = some t → t < n := fun t e => by subst e; simpa [bS] using h
theorem aR {ops : Array Oper} {o : Oper} {b : Bool} (h : XAct n st ρ σ a) (hx : b7 ops st.tmps o = some b) : Region.wanted o (yielded ops a.tmps) = b := by
  unfold b7 at hx
  unfold Region.wanted
  split at hx
  · rename_i hg; rw [hg]; simpa using hx
  · rename_i j bb hg
    rw [hg]
    simp only
    split at hx
    · rename_i oj hj
      split at hx
      · rename_i t ht
        split at hx
        · rename_i x hl
          have hv := (h.tmps t _ hl).2
          simp only [bD] at hv
          have hy : yielded ops a.tmps j = some x := by
            unfold yielded
            simp only [hj, Option.bind_some, ht]
            rw [Array.getD_eq_getD_getElem?] at hv
            cases hq : a.tmps[t]? with
            | none => rw [hq] at hv; simp [undef] at hv
            | some z => rw [hq] at hv; simp only [Option.getD_some] at hv; subst hv; rfl
          rw [hy]
          split at hx <;> simp only [Option.some.injEq] at hx <;> subst hx <;> rfl
        · rename_i vs hl
          simp only [Option.some.injEq] at hx; subst hx
          have hv := (h.tmps t _ hl).2
          simp only [bD] at hv
          have hy : yielded ops a.tmps j = none := by
            unfold yielded
            simp only [hj, Option.bind_some, ht]
            rw [Array.getD_eq_getD_getElem?] at hv
            cases hq : a.tmps[t]? with
            | none => rfl
            | some z => rw [hq] at hv; simp only [Option.getD_some] at hv; subst hv; rfl
          rw [hy]; rfl
        · simp at hx
      · simp at hx
    · simp at hx
def xrun (P : Program) (n : Nat) (ops : Array Oper) : List Oper → St → Option St
  | [], st => some st
  | o :: rest, st =>
    if bS n o.dst then
      match b7 ops st.tmps o with
      | some true => match xop P st.tmps st.boxes st.rows o.op with
        | some (.val x) => xrun P n ops rest ⟨bO st.tmps o.dst x, st.boxes, st.rows, st.facts⟩
        | some (.box b) => xrun P n ops rest ⟨bO st.tmps o.dst (.p (lenB st.boxes) 0), addBox st.boxes b, st.rows, st.facts⟩
        | some (.store i off cs) => xrun P n ops rest ⟨bO st.tmps o.dst (.v undef), cP st.boxes i off cs, st.rows, st.facts⟩
        | none => none
      | some false => xrun P n ops rest ⟨bO st.tmps o.dst (.v undef), st.boxes, st.rows, st.facts⟩
      | none => none
    else none
theorem run_newVar' (t : TypeId) (v : Value) (w : World) : (newVar t v).run P w = .ok ⟨w.heap.size, 0, none⟩ (w.alloc (.cells v.cells t)) := by
  rfl
theorem xop_box {o : Oper} {b : Box} (hx : xop P st.tmps st.boxes st.rows o.op = some (.box b)) (hA : XAct n st ρ σ a) :
    (execOp a.eval o).run P w = .ok (.value (.pointer (some ⟨w.heap.size, 0, none⟩))) (w.alloc (.cells b.cells.toArray b.ty)) := by
  unfold xop at hx
  split at hx
  case h_4 t x ho =>
    split at hx
    · rename_i v hv
      simp only [Option.some.injEq, XR.box.injEq] at hx; subst hx
      have h1 := aG hA hv
      simp only [execOp, ho, h1, Instr.box, Sem.run_bind, run_newVar', Result.andThen_ok, Sem.run_pure, Array.toArray_toList]
    · simp at hx
  case h_5 t ho =>
    split at hx
    · rename_i i hi
      split at hx
      · rename_i z hz
        simp only [Option.some.injEq, XR.box.injEq] at hx; subst hx
        simp only [execOp, ho, Instr.alloc, zeroValue, typeInfo, Sem.run_bind, run_program, hi, Result.andThen_ok, Sem.run_pure, hz, run_newVar', Array.toArray_toList]
      · simp at hx
    · simp at hx
  all_goals (exfalso; revert hx; (repeat' split) <;> simp)
theorem xop_store {o : Oper} {i off : Nat} {cs : List Value} (hx : xop P st.tmps st.boxes st.rows o.op = some (.store i off cs)) (hA : XAct n st ρ σ a) (hH : XHeap w0 st.boxes st.rows facts ρ σ w) :
    ∃ b, st.boxes[i]? = some b ∧ off + cs.length ≤ b.cells.length ∧ (execOp a.eval o).run P w = .ok .skip (w.setCells (ρ i) off cs) := by
  unfold xop at hx
  split at hx
  case h_7 t x y ho =>
    split at hx
    · rename_i i off v h1 h2
      split at hx
      · rename_i b inf hb hi
        split at hx
        · rename_i hc
          simp only [Option.some.injEq, XR.store.injEq] at hx
          obtain ⟨rfl, rfl, rfl⟩ := hx
          simp only [Bool.and_eq_true, Nat.ble_eq] at hc
          obtain ⟨c1, c2, c3⟩ := hc
          have c1 := Nat.eq_of_beq_eq_true c1
          have h1' := (cr hA h1).1
          have h2' := aG hA h2
          refine ⟨b, hb, by simp; omega, ?_⟩
          have hc := run_storeCells_cells (P := P) (ρ i) off v.cells.toList 0 w
            (fun j hj => by
              rw [hH.cells hb]; simp at hj ⊢; omega)
            (fun j hj => hH.frozen hb _) (fun u hu => List.all_eq_true.1 c3 u hu)
          simp only [Nat.add_zero] at hc
          simp only [execOp, ho, h1', h2', bD, Sem.run_bind, Instr.storeAt, Instr.sureAddr, Sem.run_pure, Result.andThen_ok, storeVar, sizeOf, typeInfo, run_program, hi, c1, ne_eq, not_true_eq_false, if_false, hc]
        · simp at hx
      · simp at hx
    · simp at hx
  all_goals (exfalso; revert hx; (repeat' split) <;> simp)
theorem cE {ops : Array Oper} {Q : Exit → Act → World → Prop} {rest : List Oper} {st' : St} : ∀ (l : List Oper) (st : St) {ρ : Nat → Nat} {σ : Nat → Nat × Nat} {a : Act} {w : World}, xrun P n ops l st = some st' → XRep n w0 st ρ σ a w →
    (∀ ρ' σ' a' w', XRep n w0 st' ρ' σ' a' w' → wpList P ops Q rest a' w') → wpList P ops Q (l ++ rest) a w
  | [], st, ρ, σ, a, w, h, hr, k => by simp only [xrun, Option.some.injEq] at h; subst h; exact k _ _ _ _ hr
  | o :: l, st, ρ, σ, a, w, h, ⟨hA, hH⟩, k => by
    simp only [xrun] at h
    split at h
    · rename_i hd
      have hd := bK hd
      simp only [List.cons_append, wpList]
      split at h
      · rename_i hw
        rw [aR hA hw, if_pos rfl]
        left
        split at h
        · rename_i x hx
          obtain ⟨h1, h2⟩ := xop_val (P := P) hx hA hH
          rw [Oper.wp, h2, Oper.upon_value]
          exact cE l _ h ⟨hA.put hd h1, hH⟩ k
        · rename_i b hx
          rw [Oper.wp, xop_box hx hA, Oper.upon_value]
          refine cE l _ h ⟨?_, hH.push b⟩ k
          have hA' : XAct n ⟨st.tmps, addBox st.boxes b, st.rows, st.facts⟩ (upd ρ (lenB st.boxes) w.heap.size) σ a := ⟨hA.size, hA.defers, fun t x ht => by
            obtain ⟨g1, g2⟩ := hA.tmps t x ht
            refine ⟨AV.wf_mono (x := x) g1 (by rw [addBox_eq]; simp) (Nat.le_refl _), ?_⟩
            rw [lenB_eq, conc_upd g1]; exact g2⟩
          have := hA'.put (d := o.dst) (x := .p (lenB st.boxes) 0) hd (by simp only [AV.wf]; rw [addBox_eq, lenB_eq]; simp)
          simpa [bD, upd] using this
        · rename_i i off cs hx
          obtain ⟨b, h1, h2, h3⟩ := xop_store (P := P) hx hA hH
          rw [Oper.wp, h3, Oper.upon_skip]
          have hA' : XAct n ⟨st.tmps, cP st.boxes i off cs, st.rows, st.facts⟩ ρ σ a := ⟨hA.size, hA.defers, fun t x ht => by
            obtain ⟨g1, g2⟩ := hA.tmps t x ht
            exact ⟨by rw [cC]; exact g1, g2⟩⟩
          exact cE l _ h ⟨hA'.put (x := .v undef) hd trivial, hH.write h1 h2⟩ k
        · simp at h
      · rename_i hw
        rw [aR hA hw, if_neg (by simp)]
        exact cE l _ h ⟨hA.put (x := .v undef) hd trivial, hH⟩ k
      · simp at h
    · simp at h
end
end
/- Rules of the machine: regions, calls, branches, loops, a whole function. -/
section
open Go.RowKit
set_option linter.unusedVariables false
set_option linter.unusedSimpArgs false
section
variable {P : Program} {n : Nat} {w0 : World}
def QQ (n : Nat) (w0 : World) (QX : Exit → St → Prop) (e : Exit) (a : Act) (w : World) : Prop := ∃ st ρ σ, QX e st ∧ XRep n w0 st ρ σ a w
def XW (P : Program) (n : Nat) (w0 : World) (QX : Exit → St → Prop) (c : Code) (st : St) : Prop :=
  ∀ ρ σ a w, XRep n w0 st ρ σ a w → c.wp P (QQ n w0 QX) a w
def XL (P : Program) (n : Nat) (w0 : World) (ops : Array Oper) (QX : Exit → St → Prop) (l : List Oper) (st : St) : Prop :=
  ∀ ρ σ a w, XRep n w0 st ρ σ a w → wpList P ops (QQ n w0 QX) l a w
def QSeq (P : Program) (n : Nat) (w0 : World) (y : Code) (QX : Exit → St → Prop) : Exit → St → Prop
  | .normal, st => XW P n w0 QX y st
  | e, st => QX e st
def QBlock (id : Nat) (QX : Exit → St → Prop) : Exit → St → Prop
  | .exit id', st => match Nat.beq id' id with
    | true => QX .normal st
    | false => QX (.exit id') st
  | e, st => QX e st
variable {QX : Exit → St → Prop} {st st' : St} {ops : Array Oper} {l : List Oper}
theorem xw_skip (h : QX .normal st) : XW P n w0 QX .skip st := fun ρ σ a w hr => wp_skip ⟨st, ρ, σ, h, hr⟩
theorem xw_ret (h : QX .ret st) : XW P n w0 QX .ret st := fun ρ σ a w hr => wp_ret ⟨st, ρ, σ, h, hr⟩
theorem bF {id : Nat} (h : QX (.exit id) st) : XW P n w0 QX (.exit id) st := fun ρ σ a w hr => wp_exit ⟨st, ρ, σ, h, hr⟩
theorem xw_seq {x y : Code} (h : XW P n w0 (QSeq P n w0 y QX) x st) : XW P n w0 QX (.seq x y) st := fun ρ σ a w hr => by
  refine wp_seq (Code.wp_mono (fun e a w ⟨s, ρ, σ, h1, h2⟩ => ?_) (h ρ σ a w hr))
  cases e <;> first | exact h1 ρ σ a w h2 | exact ⟨s, ρ, σ, h1, h2⟩
theorem aZ {id : Nat} {c : Code} (h : XW P n w0 (QBlock id QX) c st) : XW P n w0 QX (.block id c) st := fun ρ σ a w hr => by
  refine wp_block (Code.wp_mono (fun e a w ⟨s, ρ, σ, h1, h2⟩ => ?_) (h ρ σ a w hr))
  cases e <;> try exact ⟨s, ρ, σ, h1, h2⟩
  rename_i id'
  simp only [QBlock] at h1
  simp only [Exit.inBlock]
  split at h1
  · rename_i he; rw [if_pos (Nat.eq_of_beq_eq_true he)]; exact ⟨s, ρ, σ, h1, h2⟩
  · rename_i he; rw [if_neg (fun e => by rw [e, Nat.beq_refl] at he; cases he)]; exact ⟨s, ρ, σ, h1, h2⟩
theorem xw_cond {c : Operand} {x y : Code} {b : Bool} (hc : cn st.tmps c = some (.v (.bool b))) (h1 : b = true → XW P n w0 QX x st) (h2 : b = false → XW P n w0 QX y st) : XW P n w0 QX (.cond c x y) st :=
  fun ρ σ a w hr => wp_cond_split (aG hr.1 hc) (fun e => h1 e ρ σ a w hr) (fun e => h2 e ρ σ a w hr)
theorem xw_true {c : Operand} {x y : Code} (hc : cn st.tmps c = some (.v (.bool true))) (h1 : XW P n w0 QX x st) : XW P n w0 QX (.cond c x y) st := xw_cond hc (fun _ => h1) (fun e => by cases e)
theorem xw_false {c : Operand} {x y : Code} (hc : cn st.tmps c = some (.v (.bool false))) (h1 : XW P n w0 QX y st) : XW P n w0 QX (.cond c x y) st := xw_cond hc (fun e => by cases e) (fun _ => h1)
theorem xw_eq {c : Code} (h : st = st') (h1 : XW P n w0 QX c st') : XW P n w0 QX c st := h ▸ h1
theorem xw_loop {c : Code} {α : Type} (Inv : α → St) (μ : α → Nat) (x0 : α) (h0 : st = Inv x0)
    (h : ∀ x, XW P n w0 (fun e s => match e with | .normal => ∃ x', s = Inv x' ∧ μ x' < μ x | e => QX e s) c (Inv x)) : XW P n w0 QX (.loop c) st := by
  subst h0
  intro ρ σ a w hr
  let I : Act → World → α → Prop := fun a w x => ∃ ρ σ, XRep n w0 (Inv x) ρ σ a w
  have least : ∀ a w, (∃ x, I a w x) → ∃ x, I a w x ∧ ∀ y, I a w y → μ x ≤ μ y := fun a w ⟨x, hx⟩ => by
    have key : ∀ m x, μ x = m → I a w x → ∃ x, I a w x ∧ ∀ y, I a w y → μ x ≤ μ y := by
      intro m
      induction m using Nat.strongRecOn with
      | _ m ih =>
        intro x hm hx
        by_cases hl : ∃ y, I a w y ∧ μ y < μ x
        · obtain ⟨y, hy, hlt⟩ := hl
          exact ih (μ y) (hm ▸ hlt) y rfl hy
        · exact ⟨x, hx, fun y hy => Nat.le_of_not_lt fun hlt => hl ⟨y, hy, hlt⟩⟩
    exact key _ x rfl hx
  classical
  refine wp_loop (fun a w => ∃ x, I a w x) (fun a w => if h : ∃ x, I a w x then μ (Classical.choose (least a w h)) else 0) ⟨x0, ρ, σ, hr⟩ (fun a w hI => ?_)
  obtain ⟨⟨ρ', σ', hx⟩, hmin⟩ := Classical.choose_spec (least a w hI)
  refine Code.wp_mono (fun e a' w' ⟨s, ρ1, σ1, h1, h2⟩ => ?_) (h (Classical.choose (least a w hI)) ρ' σ' a w hx)
  cases e
  case normal =>
    obtain ⟨x', rfl, hlt⟩ := h1
    have hI' : ∃ x, I a' w' x := ⟨x', ρ1, σ1, h2⟩
    refine ⟨hI', ?_⟩
    rw [dif_pos hI', dif_pos hI]
    exact Nat.lt_of_le_of_lt ((Classical.choose_spec (least a' w' hI')).2 x' ⟨ρ1, σ1, h2⟩) hlt
  all_goals exact ⟨s, ρ1, σ1, h1, h2⟩
def bB (P : Program) (n : Nat) (ops : Array Oper) (l : List Oper) (k : Nat) (ks : List Nat) (st : St) : Option St :=
  match xrun P n ops (l.take k) st with
  | some s => match keepT s.tmps ks with
    | some t => some ⟨t, s.boxes, s.rows, s.facts⟩
    | none => none
  | none => none
theorem XRep.keep {ks : List Nat} {t : List (Nat × AV)} {ρ : Nat → Nat} {σ : Nat → Nat × Nat} {a : Act} {w : World} (h : XRep n w0 st ρ σ a w) (hk : keepT st.tmps ks = some t) : XRep n w0 ⟨t, st.boxes, st.rows, st.facts⟩ ρ σ a w :=
  ⟨⟨h.1.size, h.1.defers, fun u x hu => h.1.tmps u x (lkp_keep _ _ _ hk u x hu)⟩, h.2⟩
theorem cz {k : Nat} {ks : List Nat} (h : bB P n ops l k ks st = some st') {Q : Exit → Act → World → Prop} {ρ : Nat → Nat} {σ : Nat → Nat × Nat} {a : Act} {w : World} (hr : XRep n w0 st ρ σ a w)
    (hn : ∀ ρ' σ' a' w', XRep n w0 st' ρ' σ' a' w' → wpList P ops Q (l.drop k) a' w') : wpList P ops Q l a w := by
  unfold bB at h
  split at h
  · rename_i s hs
    split at h
    · rename_i t ht
      simp only [Option.some.injEq] at h; subst h
      rw [← List.take_append_drop k l]
      exact cE _ _ hs hr (fun ρ' σ' a' w' h' => hn ρ' σ' a' w' (h'.keep ht))
    · simp at h
  · simp at h
theorem xl_run (k : Nat) (ks : List Nat) (st' : St) (h : bB P n ops l k ks st = some st') (hn : XL P n w0 ops QX (l.drop k) st') : XL P n w0 ops QX l st :=
  fun ρ σ a w hr => cz h hr (fun ρ' σ' a' w' h' => hn ρ' σ' a' w' h')
theorem xl_end (ks : List Nat) (st' : St) (h : bB P n ops l l.length ks st = some st') (hn : QX .normal st') : XL P n w0 ops QX l st :=
  fun ρ σ a w hr => cz h hr (fun ρ' σ' a' w' h' => by rw [List.drop_length]; exact ⟨st', ρ', σ', hn, h'⟩)
theorem xw_region {id : Nat} {l : List Oper} (h : XL P n w0 l.toArray QX l st) : XW P n w0 QX (.region id l.toArray false) st :=
  fun ρ σ a w hr => wp_region_lit (h ρ σ a w hr)
theorem xl_split (t : Nat) {b : Bool} (h : lkp st.tmps t = some (.v (.bool b))) (h1 : b = true → XL P n w0 ops QX l ⟨bO st.tmps (some t) (.v (.bool true)), st.boxes, st.rows, st.facts⟩)
    (h2 : b = false → XL P n w0 ops QX l ⟨bO st.tmps (some t) (.v (.bool false)), st.boxes, st.rows, st.facts⟩) : XL P n w0 ops QX l st := by
  intro ρ σ a w hr
  have key : ∀ b', b = b' → XRep n w0 ⟨bO st.tmps (some t) (.v (.bool b')), st.boxes, st.rows, st.facts⟩ ρ σ a w := fun b' hb => by
    subst hb
    refine ⟨⟨hr.1.size, hr.1.defers, fun u x hu => ?_⟩, hr.2⟩
    simp only [bO, lkp] at hu
    split at hu
    · rename_i he
      obtain rfl : t = u := Nat.eq_of_beq_eq_true he
      simp only [Option.some.injEq] at hu; subst hu
      exact hr.1.tmps t _ h
    · rename_i he
      rw [lkp_del, if_neg (fun e => he (by subst e; exact Nat.beq_refl t))] at hu
      exact hr.1.tmps u x hu
  cases b
  · exact h2 rfl ρ σ a w (key _ rfl)
  · exact h1 rfl ρ σ a w (key _ rfl)
def vals (l : List (Nat × AV)) : List Operand → Option (List Value)
  | [] => some []
  | x :: r => match cn l x, vals l r with
    | some (.v v), some vs => some (v :: vs)
    | _, _ => none
theorem vals_eval {ρ : Nat → Nat} {σ : Nat → Nat × Nat} {a : Act} (h : XAct n st ρ σ a) : ∀ (xs : List Operand) (vs : List Value), vals st.tmps xs = some vs → xs.map a.eval = vs
  | [], vs, hv => by simp [vals] at hv; subst hv; rfl
  | x :: r, vs, hv => by
    simp only [vals] at hv
    split at hv
    · rename_i v us h1 h2
      simp only [Option.some.injEq] at hv; subst hv
      rw [List.map_cons, aG h h1, vals_eval h r us h2]
    · simp at hv
def fnOk (P : Program) (f : FuncId) : Bool := match P.funcs[f]? with
  | some fn => !(fn.name == "runtime.NumGoroutine") && !fn.body.isNone
  | none => false
theorem fnOk_run {f : FuncId} (h : fnOk P f = true) (args : Array Value) (w : World) : (callFunc f args).run P w = .ok (.enter f args) w := by
  unfold fnOk at h
  split at h
  · rename_i fn hf
    simp only [Bool.and_eq_true, Bool.not_eq_true'] at h
    have h1 : ¬ fn.name = "runtime.NumGoroutine" := by simpa using h.1
    have h2 : ¬ fn.body = none := fun e => by rw [e] at h; simp at h
    simp [callFunc, hf, h1, h2]
  · simp at h
def dv (ops : Array Oper) (st : St) (o : Oper) : Option (FuncId × List Value × Option Nat) :=
  match b7 ops st.tmps o with
  | some true => match o.op with
    | .call c => match c.callee with
      | .value x => match cn st.tmps x, vals st.tmps c.args.toList with
        | some (.v (.func (.func f) ⟨[]⟩ ⟨[]⟩)), some vs => some (f, vs, o.dst)
        | _, _ => none
      | _ => none
    | _ => none
  | _ => none
theorem xcallee_sound {o : Oper} {f : FuncId} {vs : List Value} {d : Option Nat} {ρ : Nat → Nat} {σ : Nat → Nat × Nat} {a : Act} (hA : XAct n st ρ σ a) (h : dv ops st o = some (f, vs, d)) (hf : fnOk P f = true) (w : World) :
    Region.wanted o (yielded ops a.tmps) = true ∧ o.dst = d ∧ (execOp a.eval o).run P w = .ok (.enter f vs.toArray) w := by
  unfold dv at h
  split at h
  · rename_i hw
    refine ⟨aR hA hw, ?_⟩
    split at h
    · rename_i c hc
      split at h
      · rename_i x hx
        split at h
        · rename_i g us h1 h2
          simp only [Option.some.injEq, Prod.mk.injEq] at h
          obtain ⟨rfl, rfl, rfl⟩ := h
          refine ⟨rfl, ?_⟩
          have e1 := aG hA h1
          have e2 := vals_eval hA _ _ h2
          have e3 : c.args.map a.eval = us.toArray := by rw [← e2]; apply Array.toList_inj.1; simp
          simp only [execOp, hc, resolve, hx, e1, e3, Sem.run_bind, Deferred.ofValue, Sem.run_pure, Result.andThen_ok, invoke]
          have := fnOk_run hf us.toArray w
          simpa using this
        · simp at h
      · simp at h
    · simp at h
  · simp at h
def XC (P : Program) (w0 : World) (fs : List Fact) (f : FuncId) (args : List Value) {α : Type} (F : α → Value) (G : α → List Fact) : Prop :=
  ∀ w, w0.heap.size ≤ w.heap.size → (∀ g ∈ fs, g.p w) → Calls P f args.toArray w fun e w' => ∃ y, e = .returned (F y) ∧ (∀ g ∈ G y, g.p w' ∧ ∀ b, g.blk b → w.heap.size ≤ b) ∧ Apart (G y) ∧ Below w.heap.size w w'
theorem XHeap.addAll {boxes : List Box} {rows : List (List Value)} {facts : List Fact} {ρ : Nat → Nat} {σ : Nat → Nat × Nat} {w : World} (h : XHeap w0 boxes rows facts ρ σ w) :
    ∀ (gs : List Fact), (∀ g ∈ gs, g.p w ∧ (∀ i, i < boxes.length → ¬ g.blk (ρ i)) ∧ ∀ f ∈ facts, ∀ b, g.blk b → ¬ f.blk b) → Apart gs → XHeap w0 boxes rows (gs ++ facts) ρ σ w :=
  fun gs hg ha => ⟨h.below, h.box, h.inj, h.row, fun f hf => by
    rcases List.mem_append.1 hf with hf | hf
    · exact ⟨(hg f hf).1, (hg f hf).2.1⟩
    · exact h.fact f hf, ha.append h.apart fun g hgm f hf b h1 => (hg g hgm).2.2 f hf b h1⟩
theorem xl_call (k : Nat) (ks : List Nat) (st' : St) (f : FuncId) (args : List Value) (d : Option Nat) {α : Type} {F : α → Value} {G : α → List Fact} {o : Oper}
    (h : bB P n ops l k ks st = some st') (ho : l[k]? = some o) (hc : dv ops st' o = some (f, args, d)) (hd : bS n d = true) (hf : fnOk P f = true)
    (hk : XC P w0 st'.facts f args F G)
    (hn : ∀ y, XL P n w0 ops QX (l.drop (k + 1)) ⟨bO st'.tmps d (.v (F y)), st'.boxes, st'.rows, G y ++ st'.facts⟩) : XL P n w0 ops QX l st :=
  fun ρ σ a w hr => cz h hr (fun ρ' σ' a' w' hr' => by
    have hdrop : l.drop k = o :: l.drop (k + 1) := by
      obtain ⟨hlt, rfl⟩ := List.getElem?_eq_some_iff.1 ho
      exact List.drop_eq_getElem_cons hlt
    rw [hdrop]
    obtain ⟨h1, h2, h3⟩ := xcallee_sound (P := P) hr'.1 hc hf w'
    simp only [wpList]
    rw [h1, if_pos rfl]
    left
    rw [Oper.wp, h3, Oper.upon_enter]
    refine (hk w' hr'.2.below.size (fun g hg => (hr'.2.fact g hg).1)).mono fun e w'' ⟨y, he, hg, hap, hb⟩ => ?_
    subst he
    have hH := (hr'.2.step hb).addAll (G y) (fun g hgm => ⟨(hg g hgm).1, fun i hi hblk => by have := (hg g hgm).2 _ hblk; have := hr'.2.boxLt hi; omega, fun f hf b hgb hfb => by have := (hg g hgm).2 _ hgb; have := f.lt _ b (hr'.2.fact f hf).1 hfb; omega⟩) hap
    have hA := hr'.1.put (d := o.dst) (x := .v (F y)) (by rw [h2]; exact bK hd) trivial
    rw [h2] at hA
    simp only [bD] at hA
    have hA' : XAct n ⟨bO st'.tmps d (.v (F y)), st'.boxes, st'.rows, G y ++ st'.facts⟩ ρ' σ' (a'.put d (F y)) := ⟨hA.size, hA.defers, hA.tmps⟩
    simpa only [h2] using hn y ρ' σ' _ w'' ⟨hA', hH⟩)
def argT : Nat → List Value → List (Nat × AV)
  | _, [] => []
  | k, v :: r => (k, .v v) :: argT (k + 1) r
theorem argT_lkp : ∀ (l : List Value) (k t : Nat) (x : AV), lkp (argT k l) t = some x → k ≤ t ∧ ∃ v, l[t - k]? = some v ∧ x = .v v
  | [], k, t, x, h => by simp [argT, lkp] at h
  | v :: r, k, t, x, h => by
    simp only [argT, lkp] at h
    split at h
    · rename_i hb
      obtain rfl : k = t := Nat.eq_of_beq_eq_true hb
      simp only [Option.some.injEq] at h; subst h
      exact ⟨Nat.le_refl _, v, by simp, rfl⟩
    · obtain ⟨h1, u, h2, h3⟩ := argT_lkp r (k + 1) t x h
      refine ⟨by omega, u, ?_, h3⟩
      rw [show t - k = (t - (k + 1)) + 1 by omega]; simpa using h2
def xres1 (P : Program) (st : St) : ResultVar → Option Value
  | .tmp t => match lkp st.tmps t with | some (.v v) => some v | _ => none
  | .cell t ty => match lkp st.tmps t with
    | some (.p i off) => match st.boxes[i]? with
      | some b => loadC P ty b.cells off
      | none => none
    | _ => none
def xres (P : Program) (st : St) : List ResultVar → Option (List Value)
  | [] => some []
  | r :: l => match xres1 P st r, xres P st l with
    | some v, some vs => some (v :: vs)
    | _, _ => none
def pack : List Value → Value
  | [v] => v
  | vs => .tuple vs.toArray
def resRun (tmps : Array Value) : ResultVar → Sem Value
  | .tmp t => pure (tmps.getD t undef)
  | .cell p t => do loadVar t (← asAddr (tmps.getD p undef))
theorem xres1_run {ρ : Nat → Nat} {σ : Nat → Nat × Nat} {a : Act} {w : World} (hr : XRep n w0 st ρ σ a w) {r : ResultVar} {v : Value} (h : xres1 P st r = some v) : (resRun a.tmps r).run P w = .ok v w := by
  cases r with
  | tmp t =>
    simp only [xres1] at h
    split at h
    · rename_i u hu
      simp only [Option.some.injEq] at h; subst h
      have := (hr.1.tmps t _ hu).2
      simp only [bD] at this
      simp only [resRun, this]; rfl
    · simp at h
  | cell t ty =>
    simp only [xres1] at h
    split at h
    · rename_i i off hu
      split at h
      · rename_i b hb
        have := (hr.1.tmps t _ hu).2
        simp only [bD] at this
        have hl := loadC_run (P := P) (XHeap.range hr.2 hb) h
        rw [Nat.zero_add] at hl
        simp only [resRun, this]
        simpa [asAddr, Instr.loadAt, Instr.sureAddr] using hl
      · simp at h
    · simp at h
theorem xres_run {ρ : Nat → Nat} {σ : Nat → Nat × Nat} {a : Act} {w : World} {fn : Func} (hr : XRep n w0 st ρ σ a w) {vs : List Value} (h : xres P st fn.results.toList = some vs) :
    (results fn a.tmps).run P w = .ok (pack vs) w := by
  have key : ∀ (l : List ResultVar) (vs : List Value), xres P st l = some vs → (l.mapM (resRun a.tmps)).run P w = .ok vs w := by
    intro l
    induction l with
    | nil => intro vs h; simp [xres] at h; subst h; rfl
    | cons r l ih =>
      intro vs h
      simp only [xres] at h
      split at h
      · rename_i v us h1 h2
        simp only [Option.some.injEq] at h; subst h
        rw [List.mapM_cons, Sem.run_bind, xres1_run hr h1, Result.andThen_ok, Sem.run_bind, ih us h2]
        rfl
      · simp at h
  have hk := key _ _ h
  have he : results fn a.tmps = (do let vs ← fn.results.mapM (resRun a.tmps); pure (if h : vs.size = 1 then vs[0] else .tuple vs)) := by
    unfold results
    congr 2
  rw [he, Sem.run_bind, Array.mapM_eq_mapM_toList]
  simp [hk]
  match vs with
  | [] => rfl
  | [v] => rfl
  | v :: u :: r => simp [pack]
def XPost (P : Program) (w0 : World) (fn : Func) (R : Ending → World → Prop) : Exit → St → Prop
  | .normal, st | .ret, st => ∃ vs, xres P st fn.results.toList = some vs ∧ ∀ w', Below w0.heap.size w0 w' → (∀ g ∈ st.facts, g.p w') → R (.returned (pack vs)) w'
  | _, _ => False
theorem aq {f : FuncId} {fn : Func} {c : Code} {args : List Value} (fs : List Fact) {R : Ending → World → Prop} (hf : P.funcs[f]? = some fn) (hb : fn.body = some c) (hn : fn.ntmps = n) (hl : Nat.ble args.length n = true)
    (hfs : ∀ g ∈ fs, g.own = false ∧ g.p w0) (h : XW P n w0 (XPost P w0 fn R) c ⟨argT 0 args, [], [], fs⟩) : Calls P f args.toArray w0 R := by
  have hl' : args.length ≤ n := by simpa using hl
  have hA : XAct n ⟨argT 0 args, [], [], fs⟩ id (fun _ => (0, 0)) { tmps := args.toArray ++ Array.replicate (fn.ntmps - args.toArray.size) undef, defers := [] } := by
    refine ⟨?_, rfl, fun t x ht => ?_⟩
    · simp [hn]; omega
    · obtain ⟨-, v, h1, rfl⟩ := argT_lkp args 0 t x ht
      refine ⟨trivial, ?_⟩
      have hlt : t < args.length := (List.getElem?_eq_some_iff.1 h1).1
      simp only [Nat.sub_zero] at h1
      simp only [bD, Array.getD_eq_getD_getElem?]
      rw [Array.getElem?_append_left (by simpa using hlt)]
      simp [h1]
  have hH : XHeap w0 [] [] fs id (fun _ => (0, 0)) w0 := ⟨Below.refl _ _, fun i b hi => by simp at hi, fun i j hi => by simp at hi, fun k r hr => by simp at hr, fun g hg => ⟨(hfs g hg).2, fun i hi => by simp at hi⟩, Apart.plain fun g hg => (hfs g hg).1⟩
  refine calls_of_wp hf hb (Code.wp_mono (fun e a w hq => ?_) (h _ _ _ w0 ⟨hA, hH⟩))
  obtain ⟨s, ρ, σ, h1, h2⟩ := hq
  cases e <;> first
    | (obtain ⟨vs, g1, g2⟩ := h1
       exact ⟨h2.1.defers, _, xres_run h2 g1, g2 w h2.2.below (fun g hg => (h2.2.fact g hg).1)⟩)
    | exact h1.elim
theorem xl_op (k : Nat) (ks : List Nat) (st' : St) (v : Value) {o : Oper} (h : bB P n ops l k ks st = some st') (ho : l[k]? = some o) (hw : b7 ops st'.tmps o = some true) (hd : bS n o.dst = true)
    (hrun : ∀ (ρ : Nat → Nat) (σ : Nat → Nat × Nat) (a : Act) (w : World), XRep n w0 st' ρ σ a w → (execOp a.eval o).run P w = .ok (.value v) w)
    (hn : XL P n w0 ops QX (l.drop (k + 1)) ⟨bO st'.tmps o.dst (.v v), st'.boxes, st'.rows, st'.facts⟩) : XL P n w0 ops QX l st :=
  fun ρ σ a w hr => cz h hr (fun ρ' σ' a' w' hr' => by
    have hdrop : l.drop k = o :: l.drop (k + 1) := by
      obtain ⟨hlt, rfl⟩ := List.getElem?_eq_some_iff.1 ho
      exact List.drop_eq_getElem_cons hlt
    rw [hdrop]
    simp only [wpList]
    rw [aR hr'.1 hw, if_pos rfl]
    left
    rw [Oper.wp, hrun ρ' σ' a' w' hr', Oper.upon_value]
    exact hn ρ' σ' _ w' ⟨hr'.1.put (x := .v v) (bK hd) trivial, hr'.2⟩)
theorem XHeap.bare {boxes : List Box} {rows : List (List Value)} {facts : List Fact} {ρ : Nat → Nat} {σ : Nat → Nat × Nat} {w : World} (h : XHeap w0 boxes rows facts ρ σ w) : XHeap w0 boxes rows [] ρ σ w :=
  ⟨h.below, h.box, h.inj, h.row, fun g hg => by simp at hg, Apart.nil⟩
variable {fuel : Nat} {listed : Array Bool} {B : List Box} {R : List (List Value)} {ρ : Nat → Nat} {σ : Nat → Nat × Nat}
end
end
/- Facts of slices, and contracts as the machine wants them. -/
section
open Go.RowKit
set_option linter.unusedVariables false
set_option linter.unusedSimpArgs false
theorem Sl.len {w : World} {v : Value} {k : Nat} {rs : List (List Value)} (h : Sl w v k rs) : rs.length ≤ 9223372036854775807 := by
  obtain ⟨a, cap, -, h2, h3, -⟩ := h
  unfold maxLen at h3; omega
def vblk : Value → Option Nat
  | .slice (some a) _ _ => some a.block
  | _ => none
theorem Sl.keepAt {w w' : World} {v : Value} {k : Nat} {rs : List (List Value)} (h : Sl w v k rs) (hs : w.heap.size ≤ w'.heap.size) (hb : ∀ b, (rs ≠ [] ∧ vblk v = some b) → w'.heap[b]? = w.heap[b]?) : Sl w' v k rs := by
  obtain ⟨a, cap, h1, h2, h3, h4, h5⟩ := h
  refine ⟨a, cap, h1, h2, h3, h4, fun i r hr => ?_⟩
  obtain ⟨b, off, h6, h7, h8⟩ := h5 i r hr
  have hk := hb b ⟨fun e => by rw [e] at hr; simp at hr, by rw [h1, h6]; rfl⟩
  refine ⟨b, off, h6, by omega, fun j c hc => ?_⟩
  rw [World.cell?_of_block (a := ⟨b, off + i * k + j, none⟩) hk]
  exact h8 j c hc
def ag (v : Value) (k : Nat) (rs : List (List Value)) : Fact where
  own := false
  p := fun w => Sl w v k rs
  blk := fun b => rs ≠ [] ∧ vblk v = some b
  lt := fun w b h ⟨h1, h2⟩ => by
    obtain ⟨a, cap, rfl, g2, g3, g4, g5⟩ := h
    cases rs with
    | nil => exact absurd rfl h1
    | cons r rs =>
      obtain ⟨b', off, rfl, h7, h8⟩ := g5 0 r rfl
      simp only [vblk, Option.some.injEq] at h2
      omega
  keep := fun w w' h hs hb => h.keepAt hs hb
def bQ (B : Nat) (v : Value) (k : Nat) (rs : List (List Value)) : Fact where
  own := true
  p := fun w => Own w B v k rs
  blk := fun b => rs ≠ [] ∧ vblk v = some b
  lt := fun w b h ⟨h1, h2⟩ => by
    rcases h with ⟨h, _⟩ | ⟨g, off, cap, rfl, g1, g2, g3⟩
    · exact absurd h h1
    · simp only [vblk, Option.some.injEq] at h2; omega
  keep := fun w w' h hs hb => by
    rcases h with h | ⟨g, off, cap, rfl, g1, g2, g3, g4, g5, g6⟩
    · exact .inl h
    · by_cases hr : rs = []
      · subst hr; exact .inr ⟨g, off, cap, rfl, g1, by omega, g3, g4, fun j hj => by simp at hj, fun i r h => by simp at h⟩
      · have hg := hb g ⟨hr, rfl⟩
        refine .inr ⟨g, off, cap, rfl, g1, by omega, g3, g4, fun j hj => ?_, fun i r h j v hv => ?_⟩
        · rw [World.cell?_of_block (a := ⟨g, off + j, none⟩) hg, World.frozen?_of_block (a := ⟨g, off + j, none⟩) hg]; exact g5 j hj
        · rw [World.cell?_of_block (a := ⟨g, off + i * k + j, none⟩) hg]; exact g6 i r h j v hv
section
variable {P : Program} {w0 : World} {fs : List Fact} {f : FuncId} {args : List Value} {v : Value}
theorem xc_s (h : ∀ w, (∀ g ∈ fs, g.p w) → Calls P f args.toArray w fun e w' => e = .returned v ∧ w = w') : XC P w0 fs f args (α := Unit) (fun _ => v) (fun _ => []) :=
  fun w _ hf => (h w hf).mono fun e w' ⟨he, hw⟩ => ⟨(), he, fun g hg => by simp at hg, Apart.nil, by subst hw; exact Below.refl _ _⟩
theorem ai (h : ∀ w, (∀ g ∈ fs, g.p w) → Calls P f args.toArray w fun e w' => e = .returned v ∧ Below w.heap.size w w') : XC P w0 fs f args (α := Unit) (fun _ => v) (fun _ => []) :=
  fun w _ hf => (h w hf).mono fun e w' ⟨he, hw⟩ => ⟨(), he, fun g hg => by simp at hg, Apart.nil, hw⟩
theorem xc_o {F : Value → Value} {k : Nat} {rs : List (List Value)} (h : ∀ w, (∀ g ∈ fs, g.p w) → Calls P f args.toArray w fun e w' => ∃ v', e = .returned (F v') ∧ Own w' w.heap.size v' k rs ∧ Below w.heap.size w w') :
    XC P w0 fs f args (α := Option Addr × Nat) (fun y => F (.slice y.1 rs.length y.2)) (fun y => [bQ w0.heap.size (.slice y.1 rs.length y.2) k rs]) :=
  fun w hw hf => (h w hf).mono fun e w' ⟨v', he, ho, hb⟩ => by
    obtain ⟨a, cap, rfl⟩ := ho.form
    refine ⟨(a, cap), he, fun g hg => ?_, Apart.one _, hb⟩
    obtain rfl : g = _ := by simpa using hg
    refine ⟨ho.lower hw, fun b ⟨h1, h2⟩ => ?_⟩
    rcases ho with ⟨h, _⟩ | ⟨g, off, cap', h0, g1, g2⟩
    · exact absurd h h1
    · simp only [Value.slice.injEq] at h0
      obtain ⟨rfl, -, -⟩ := h0
      simp only [vblk, Option.some.injEq] at h2; omega
theorem xc_on {F : Value → Value} {k m : Nat} {rs : List (List Value)} (hm : rs.length = m) (h : ∀ w, (∀ g ∈ fs, g.p w) → Calls P f args.toArray w fun e w' => ∃ v', e = .returned (F v') ∧ Own w' w.heap.size v' k rs ∧ Below w.heap.size w w') :
    XC P w0 fs f args (α := Option Addr × Nat) (fun y => F (.slice y.1 m y.2)) (fun y => [bQ w0.heap.size (.slice y.1 m y.2) k rs]) := by
  subst hm; exact xc_o h
theorem xc_e {α : Type} {F : α → Value} {p : α → Prop} (h : ∀ w, (∀ g ∈ fs, g.p w) → Calls P f args.toArray w fun e w' => ∃ y, e = .returned (F y) ∧ p y ∧ Below w.heap.size w w') :
    XC P w0 fs f args (α := {y : α // p y}) (fun y => F y.1) (fun _ => []) :=
  fun w _ hf => (h w hf).mono fun e w' ⟨y, he, hp, hw⟩ => ⟨⟨y, hp⟩, he, fun g hg => by simp at hg, Apart.nil, hw⟩
end
end
/- More rules of the machine: forgetting, loops, elements of slices. -/
section
open Go.RowKit
set_option linter.unusedVariables false
set_option linter.unusedSimpArgs false
theorem aY {n : Int} (h1 : -9223372036854775808 ≤ n) (h2 : n ≤ 9223372036854775807) : IntKind.i64.wrap n = n := by
  rw [IntKind.wrap_i64]; omega
def Wk (s s' : St) : Prop := ∀ (n : Nat) (w0 : World) (ρ : Nat → Nat) (σ : Nat → Nat × Nat) (a : Act) (w : World), XRep n w0 s ρ σ a w → XRep n w0 s' ρ σ a w
theorem Wk.refl (s : St) : Wk s s := fun _ _ _ _ _ _ h => h
theorem Wk.trans {a b c : St} (h : Wk a b) (k : Wk b c) : Wk a c := fun n w0 ρ σ x w r => k n w0 ρ σ x w (h n w0 ρ σ x w r)
def avOk (m r : Nat) : AV → Bool
  | .v _ => true
  | .p i _ => Nat.blt i m
  | .r h _ => Nat.blt h r
def allT (m r : Nat) : List (Nat × AV) → Bool
  | [] => true
  | (_, x) :: l => avOk m r x && allT m r l
theorem allT_lkp {m r : Nat} : ∀ (l : List (Nat × AV)) (t : Nat) (x : AV), allT m r l = true → lkp l t = some x → x.wf m r
  | [], t, x, _, h => by simp [lkp] at h
  | (k, y) :: l, t, x, ha, h => by
    simp only [allT, Bool.and_eq_true] at ha
    simp only [lkp] at h
    split at h
    · simp only [Option.some.injEq] at h; subst h
      cases y <;> simp [avOk, AV.wf] at * <;> exact ha.1
    · exact allT_lkp l t x ha.2 h
def xforget (m r : Nat) (ks : List Nat) (s : St) : Option St :=
  match keepT s.tmps ks with
  | some t => if allT m r t then some ⟨t, s.boxes.take m, s.rows.take r, s.facts⟩ else none
  | none => none
theorem getElem?_of_take {α : Type} {l : List α} {m i : Nat} {x : α} (h : (l.take m)[i]? = some x) : l[i]? = some x := by
  rw [List.getElem?_take] at h
  split at h
  · exact h
  · simp at h
theorem wk_forget (m r : Nat) (ks : List Nat) {s s' : St} (h : xforget m r ks s = some s') (hm : Nat.ble m (lenB s.boxes) = true) (hr : Nat.ble r s.rows.length = true) : Wk s s' := by
  intro n w0 ρ σ a w hx
  rw [lenB_eq] at hm
  have hm := Nat.le_of_ble_eq_true hm
  have hr := Nat.le_of_ble_eq_true hr
  unfold xforget at h
  split at h
  · rename_i t ht
    split at h
    · rename_i hall
      simp only [Option.some.injEq] at h; subst h
      obtain ⟨h1, h2⟩ := hx.keep ht
      have h2 : XHeap w0 s.boxes s.rows s.facts ρ σ w := h2
      refine ⟨⟨h1.size, h1.defers, fun u x hu => ⟨?_, (h1.tmps u x hu).2⟩⟩, ⟨h2.below, fun i b hb => h2.box i b (getElem?_of_take hb), fun i j hi hj he => ?_, fun k q hq => ?_, fun f hf => ?_, ?_⟩⟩
      · have := allT_lkp _ _ _ hall hu
        simp only [List.length_take, Nat.min_eq_left hm, Nat.min_eq_left hr]; exact this
      · simp only [List.length_take] at hi hj; exact h2.inj i j (by omega) (by omega) he
      · obtain ⟨g1, g2, g3⟩ := h2.row k q (getElem?_of_take hq)
        exact ⟨g1, g2, fun i hi => g3 i (by simp only [List.length_take] at hi; omega)⟩
      · obtain ⟨g1, g2⟩ := h2.fact f hf
        exact ⟨g1, fun i hi => g2 i (by simp only [List.length_take] at hi; omega)⟩
      · exact h2.apart
    · simp at h
  · simp at h
def dropF : List Fact → Nat → List Fact
  | [], _ => []
  | _ :: r, 0 => r
  | f :: r, i + 1 => f :: dropF r i
theorem dropF_get (l : List Fact) : ∀ i j, (dropF l i)[j]? = if j < i then l[j]? else l[j + 1]? := by
  induction l with
  | nil => intro i j; simp [dropF]
  | cons f r ih =>
    intro i j
    cases i with
    | zero => simp [dropF]
    | succ i =>
      cases j with
      | zero => simp [dropF]
      | succ j => simp [dropF, ih, Nat.add_lt_add_iff_right]
theorem dropF_sub {l : List Fact} {i j : Nat} {f : Fact} (h : (dropF l i)[j]? = some f) : ∃ k, l[k]? = some f ∧ (k = if j < i then j else j + 1) := by
  rw [dropF_get] at h
  split at h
  · exact ⟨j, h, by simp [*]⟩
  · exact ⟨j + 1, h, by simp [*]⟩
theorem Apart.dropF {l : List Fact} (h : Apart l) (i : Nat) : Apart (Go.Proofs.Ytfidgfddgmppdaa.dropF l i) := fun a b f g ha hb hab ho => by
  obtain ⟨k, hk, e1⟩ := dropF_sub ha
  obtain ⟨m, hm, e2⟩ := dropF_sub hb
  refine h k m f g hk hm ?_ ho
  subst e1 e2
  split <;> split <;> omega
section
variable {P : Program} {n : Nat} {w0 : World} {QX : Exit → St → Prop} {st st' : St} {ops : Array Oper} {l : List Oper}
theorem xw_wk {c : Code} (h : Wk st st') (h1 : XW P n w0 QX c st') : XW P n w0 QX c st := fun ρ σ a w hr => h1 ρ σ a w (h _ _ _ _ _ _ hr)
theorem bk {c : Code} {α : Type} (Inv : α → St) (μ : α → Nat) (x0 : α) (h0 : Wk st (Inv x0))
    (h : ∀ x, XW P n w0 (fun e s => match e with | .normal => ∃ x', Wk s (Inv x') ∧ μ x' < μ x | e => QX e s) c (Inv x)) : XW P n w0 QX (.loop c) st := by
  refine xw_wk h0 (xw_loop Inv μ x0 rfl fun x ρ σ a w hr => Code.wp_mono (fun e a w hq => ?_) (h x ρ σ a w hr))
  obtain ⟨s, ρ1, σ1, h1, h2⟩ := hq
  cases e
  case normal =>
    obtain ⟨x', hw, hlt⟩ := h1
    exact ⟨Inv x', ρ1, σ1, ⟨x', rfl, hlt⟩, hw _ _ _ _ _ _ h2⟩
  all_goals exact ⟨s, ρ1, σ1, h1, h2⟩
def addRow : List (List Value) → List Value → List (List Value)
  | [], b => [b]
  | c :: r, b => c :: addRow r b
def lenR : List (List Value) → Nat
  | [] => 0
  | _ :: r => lenR r + 1
theorem lenR_eq (l : List (List Value)) : lenR l = l.length := by induction l with | nil => rfl | cons b l ih => simp [lenR, ih]
theorem addRow_eq (l : List (List Value)) (b : List Value) : addRow l b = l ++ [b] := by induction l with | nil => rfl | cons c l ih => simp [addRow, ih]
theorem XHeap.addRow {boxes : List Box} {rows : List (List Value)} {facts : List Fact} {ρ : Nat → Nat} {σ : Nat → Nat × Nat} {w : World} (h : XHeap w0 boxes rows facts ρ σ w) {b o : Nat} {row : List Value}
    (h1 : w.rangeAt b o row) (h2 : b < w.heap.size) (h3 : ∀ i, i < boxes.length → b ≠ ρ i) : XHeap w0 boxes (addRow rows row) facts ρ (fun k => if k = lenR rows then (b, o) else σ k) w := by
  rw [addRow_eq, lenR_eq]
  refine ⟨h.below, h.box, h.inj, fun k r hr => ?_, h.fact, h.apart⟩
  by_cases hk : k < rows.length
  · rw [List.getElem?_append_left hk] at hr
    simp only [show ¬ k = rows.length by omega, if_false]
    exact h.row k r hr
  · rw [List.getElem?_append_right (by omega)] at hr
    have h0 : k - rows.length = 0 := by
      have := (List.getElem?_eq_some_iff.1 hr).1
      simp at this; omega
    obtain rfl : k = rows.length := by omega
    simp at hr; subst hr
    simp only [if_true]
    exact ⟨h1, h2, h3⟩
theorem XAct.addRow {ρ : Nat → Nat} {σ : Nat → Nat × Nat} {a : Act} (h : XAct n st ρ σ a) (row : List Value) (x : Nat × Nat) : XAct n ⟨st.tmps, st.boxes, Go.Proofs.Ytfidgfddgmppdaa.addRow st.rows row, st.facts⟩ ρ (fun k => if k = lenR st.rows then x else σ k) a :=
  ⟨h.size, h.defers, fun t y ht => by
    obtain ⟨g1, g2⟩ := h.tmps t y ht
    refine ⟨AV.wf_mono (x := y) g1 (Nat.le_refl _) (by rw [addRow_eq]; simp), ?_⟩
    rw [g2]
    cases y with
    | v y => rfl
    | p i off => rfl
    | r k off => simp only [AV.wf] at g1; simp only [bD, lenR_eq, show ¬ k = st.rows.length by omega, if_false]⟩
theorem index_run {T e : TypeId} {K j len cap : Nat} {A : Option Addr} {kd : IntKind} {b off : Nat} (hu : P.underlying T = some (.slice e)) (hi : (P.info? e).map (·.size) = some K) (hA : A = some ⟨b, off, none⟩) (hlt : j < len) (w : World) :
    (Instr.indexAt T (.slice A len cap) (.int kd (j : Int))).run P w = .ok (.pointer (some ⟨b, off + j * K, none⟩)) w := by
  subst hA
  cases hq : P.info? e with
  | none => simp [hq] at hi
  | some inf =>
    have hs : inf.size = K := by simpa [hq] using hi
    have h1 : (0 : Int) ≤ (j : Int) ∧ (j : Int) < (len : Int) := ⟨Int.natCast_nonneg _, by omega⟩
    simp only [Instr.indexAt, asIntOf, Sem.run_bind, Sem.run_pure, Result.andThen_ok, run_underlying hu, h1, and_self, if_true, sizeOf, typeInfo, run_program, hq, hs, Int.toNat_natCast, Addr.add_mid]
theorem xl_index (k : Nat) (ks : List Nat) (st' : St) {o : Oper} {T e : TypeId} {x idx : Operand} {K len cap : Nat} {A : Option Addr} {kd : IntKind} (j : Nat) {rs : List (List Value)} (row : List Value) (f : Fact)
    (h : bB P n ops l k ks st = some st') (ho : l[k]? = some o) (hw : b7 ops st'.tmps o = some true) (hd : bS n o.dst = true) (hop : o.op = .indexAddr T x idx)
    (hu : P.underlying T = some (.slice e)) (hi : (P.info? e).map (·.size) = some K) (hx : cn st'.tmps x = some (.v (.slice A len cap))) (hidx : cn st'.tmps idx = some (.v (.int kd (j : Int))))
    (hlt : j < len) (hf : f ∈ st'.facts) (hsl : ∀ w, f.p w → Sl w (.slice A len cap) K rs) (hblk : ∀ b, (rs ≠ [] ∧ vblk (.slice A len cap) = some b) → f.blk b) (hrow : rs[j]? = some row)
    (hn : XL P n w0 ops QX (l.drop (k + 1)) ⟨bO st'.tmps o.dst (.r (lenR st'.rows) 0), st'.boxes, addRow st'.rows row, st'.facts⟩) : XL P n w0 ops QX l st :=
  fun ρ σ a w hr => cz h hr (fun ρ' σ' a' w' hr' => by
    have hdrop : l.drop k = o :: l.drop (k + 1) := by
      obtain ⟨hlt, rfl⟩ := List.getElem?_eq_some_iff.1 ho
      exact List.drop_eq_getElem_cons hlt
    rw [hdrop]
    simp only [wpList]
    rw [aR hr'.1 hw, if_pos rfl]
    left
    obtain ⟨a1, c1, g1, g2, g3, g4, g5⟩ := hsl w' (hr'.2.fact f hf).1
    simp only [Value.slice.injEq] at g1
    obtain ⟨rfl, rfl, rfl⟩ := g1
    obtain ⟨b, off, g6, g7, g8⟩ := g5 j row hrow
    have hne : rs ≠ [] := fun e => by rw [e] at hrow; simp at hrow
    have hb : ∀ i, i < st'.boxes.length → b ≠ ρ' i := fun i hi e => (hr'.2.fact f hf).2 i hi (hblk _ ⟨hne, by rw [g6]; simp only [vblk, e]⟩)
    have hrun : (execOp a'.eval o).run P w' = .ok (.value (.pointer (some ⟨b, off + j * K, none⟩))) w' := by
      simp only [execOp, hop, aG hr'.1 hx, aG hr'.1 hidx, Sem.run_bind, index_run hu hi g6 hlt w', Result.andThen_ok, Sem.run_pure]
    rw [Oper.wp, hrun, Oper.upon_value]
    have hA := (hr'.1.addRow row (b, off + j * K)).put (d := o.dst) (x := .r (lenR st'.rows) 0) (bK hd) (by simp only [AV.wf]; rw [addRow_eq, lenR_eq]; simp)
    simp only [bD, if_true, Nat.add_zero] at hA
    exact hn ρ' _ _ w' ⟨hA, hr'.2.addRow g8 g7 hb⟩)
def XWs (P : Program) (n : Nat) (w0 : World) (QX : Exit → St → Prop) (φ : (Nat → Nat × Nat) → Prop) (c : Code) (st : St) : Prop :=
  ∀ ρ σ a w, XRep n w0 st ρ σ a w → φ σ → c.wp P (QQ n w0 QX) a w
theorem xws_start {c : Code} (h : XWs P n w0 QX (fun _ => True) c st) : XW P n w0 QX c st := fun ρ σ a w hr => h ρ σ a w hr trivial
theorem xws_row {c : Code} {φ : (Nat → Nat × Nat) → Prop} {K len cap j : Nat} {A : Option Addr} {rs : List (List Value)} (row : List Value) (f : Fact) (hφ : ∀ σ x, φ σ → φ (fun k => if k = lenR st.rows then x else σ k))
    (hf : f ∈ st.facts) (hsl : ∀ w, f.p w → Sl w (.slice A len cap) K rs) (hblk : ∀ b, (rs ≠ [] ∧ vblk (.slice A len cap) = some b) → f.blk b) (hrow : rs[j]? = some row)
    (hn : ∀ b off, A = some ⟨b, off, none⟩ → XWs P n w0 QX (fun σ => φ σ ∧ σ (lenR st.rows) = (b, off + j * K)) c ⟨st.tmps, st.boxes, addRow st.rows row, st.facts⟩) : XWs P n w0 QX φ c st :=
  fun ρ σ a w hr hp => by
    obtain ⟨a1, c1, g1, g2, g3, g4, g5⟩ := hsl w (hr.2.fact f hf).1
    simp only [Value.slice.injEq] at g1
    obtain ⟨rfl, rfl, rfl⟩ := g1
    obtain ⟨b, off, g6, g7, g8⟩ := g5 j row hrow
    have hne : rs ≠ [] := fun e => by rw [e] at hrow; simp at hrow
    have hb : ∀ i, i < st.boxes.length → b ≠ ρ i := fun i hi e => (hr.2.fact f hf).2 i hi (hblk _ ⟨hne, by rw [g6]; simp only [vblk, e]⟩)
    exact hn b off g6 ρ _ a w ⟨hr.1.addRow row (b, off + j * K), hr.2.addRow g8 g7 hb⟩ ⟨hφ σ _ hp, by simp⟩
theorem XRep.split {b : Bool} {ρ : Nat → Nat} {σ : Nat → Nat × Nat} {a : Act} {w : World} (hr : XRep n w0 st ρ σ a w) (t : Nat) (h : lkp st.tmps t = some (.v (.bool b))) (b' : Bool) (hb : b = b') : XRep n w0 ⟨bO st.tmps (some t) (.v (.bool b')), st.boxes, st.rows, st.facts⟩ ρ σ a w := by
  subst hb
  refine ⟨⟨hr.1.size, hr.1.defers, fun u x hu => ?_⟩, hr.2⟩
  simp only [bO, lkp] at hu
  split at hu
  · rename_i he
    obtain rfl : t = u := Nat.eq_of_beq_eq_true he
    simp only [Option.some.injEq] at hu; subst hu
    exact hr.1.tmps t _ h
  · rename_i he
    rw [lkp_del, if_neg (fun e => he (by subst e; exact Nat.beq_refl t))] at hu
    exact hr.1.tmps u x hu
def QJoin (stm : St) (QX : Exit → St → Prop) : Exit → St → Prop
  | .normal, s => Wk s stm
  | e, s => QX e s
theorem cM {c : Code} (stm : St) (h1 : XW P n w0 (QJoin stm QX) c st) (h2 : QX .normal stm) : XW P n w0 QX c st := fun ρ σ a w hr =>
  Code.wp_mono (fun e a w ⟨s, ρ, σ, hq, hs⟩ => by
    cases e
    case normal => exact ⟨stm, ρ, σ, h2, hq _ _ _ _ _ _ hs⟩
    all_goals exact ⟨s, ρ, σ, hq, hs⟩) (h1 ρ σ a w hr)
end
end
/- Rules of the machine for calls and stores that write into memory of the call's own. -/
section
open Go.RowKit
set_option linter.unusedVariables false
set_option linter.unusedSimpArgs false
structure Chgd (S : Nat → Prop) (w w' : World) : Prop where
  os : w'.os = w.os
  tape : w'.tape = w.tape
  output : w'.output = w.output
  size : w.heap.size ≤ w'.heap.size
  block : ∀ k, k < w.heap.size → ¬ S k → w'.heap[k]? = w.heap[k]?
theorem vblk_lo {w : World} {B b : Nat} {v : Value} {k : Nat} {rs : List (List Value)} (h : Own w B v k rs) (hb : rs ≠ [] ∧ vblk v = some b) : B ≤ b := by
  rcases h with ⟨h, _⟩ | ⟨g, off, cap, rfl, h1, h2⟩
  · exact absurd h hb.1
  · simp only [vblk, Option.some.injEq] at hb; omega
section
variable {P : Program} {n : Nat} {w0 : World} {QX : Exit → St → Prop} {st st' : St} {ops : Array Oper} {l : List Oper}
theorem XHeap.stepM {boxes : List Box} {facts : List Fact} {ρ : Nat → Nat} {σ : Nat → Nat × Nat} {w w' : World} (h : XHeap w0 boxes [] facts ρ σ w) {i : Nat} {fi : Fact} (hi : facts[i]? = some fi) (hown : fi.own = true)
    (hlo : ∀ b, fi.blk b → w0.heap.size ≤ b) (hc : Chgd fi.blk w w') : XHeap w0 boxes [] (dropF facts i) ρ σ w' := by
  have hfi := h.fact fi (List.mem_of_getElem? hi)
  refine ⟨⟨hc.os.trans h.below.os, hc.tape.trans h.below.tape, hc.output.trans h.below.output, Nat.le_trans h.below.size hc.size, fun k hk => ?_⟩, fun j b hj => ?_, h.inj, fun k r hr => by simp at hr, fun g hg => ?_, h.apart.dropF i⟩
  · rw [hc.block k (Nat.lt_of_lt_of_le hk h.below.size) (fun hb => by have := hlo k hb; omega)]
    exact h.below.block k hk
  · obtain ⟨h1, h2⟩ := h.box j b hj
    have hjl : j < boxes.length := (List.getElem?_eq_some_iff.1 hj).1
    refine ⟨h1, ?_⟩
    rw [hc.block _ (h.boxLt hjl) (hfi.2 j hjl)]; exact h2
  · obtain ⟨j, hj⟩ := List.getElem?_of_mem hg
    obtain ⟨k, hk, e⟩ := dropF_sub hj
    have hki : i ≠ k := by subst e; split <;> omega
    obtain ⟨g1, g2⟩ := h.fact g (List.mem_of_getElem? hk)
    exact ⟨g.keep w w' g1 hc.size (fun b hb => hc.block b (g.lt w b g1 hb) (fun hf => h.apart i k fi g hi hk hki hown b hf hb)), g2⟩
end
end
/- Memory of the call's own: rows that grow; results that are the call's own. -/
section
open Go.RowKit
set_option linter.unusedVariables false
set_option linter.unusedSimpArgs false
def bU (B e K : Nat) (v : Value) (rs : List (List Value)) : Fact where
  own := true
  p := fun w => w.ownsRow B e K v rs.length rs.flatten ∧ ∀ r ∈ rs, r.length = K
  blk := fun b => v.ownBlock = some b
  lt := fun w b h hb => (h.1.lt b hb).2
  keep := fun w w' h hs hb => ⟨⟨h.1.1, by
    rcases h.1.2 with hn | ⟨g, cap, cur, hv, hB, hgg, rest⟩
    · exact .inl hn
    · exact .inr ⟨g, cap, cur, hv, hB, by rw [hb g (by rw [hv]; rfl)]; exact hgg, rest⟩⟩, h.2⟩
theorem rowF_own {w : World} {B e K : Nat} {v : Value} {rs : List (List Value)} (h : (bU B e K v rs).p w) : Own w B v K rs := Own.of_row h.1 h.2 rfl
theorem cA {w : World} {B e K : Nat} {v : Value} {rs : List (List Value)} (h : (bU B e K v rs).p w) : Sl w v K rs := (rowF_own h).sl
theorem rowF_lo {w : World} {B e K : Nat} {v : Value} {rs : List (List Value)} (h : (bU B e K v rs).p w) {b : Nat} (hb : (bU B e K v rs).blk b) : B ≤ b := (h.1.lt b hb).1
section
variable {P : Program} {n : Nat} {w0 : World} {QX : Exit → St → Prop} {st st' : St} {ops : Array Oper} {l : List Oper}
def HV (P : Program) (n : Nat) (w0 : World) (st : St) (o : Oper) {α : Type} (F : α → Value) (G : α → List Fact) : Prop :=
  ∀ ρ σ a w, XRep n w0 st ρ σ a w → ∃ y w', (execOp a.eval o).run P w = .ok (.value (F y)) w' ∧ XHeap w0 st.boxes [] (G y) ρ σ w'
def HS (P : Program) (n : Nat) (w0 : World) (st : St) (o : Oper) (G : List Fact) : Prop :=
  ∀ ρ σ a w, XRep n w0 st ρ σ a w → ∃ w', (execOp a.eval o).run P w = .ok .skip w' ∧ XHeap w0 st.boxes [] G ρ σ w'
theorem XAct.bare {ρ : Nat → Nat} {σ : Nat → Nat × Nat} {a : Act} (h : XAct n st ρ σ a) (hr : allT (lenB st.boxes) 0 st.tmps = true) (G : List Fact) : XAct n ⟨st.tmps, st.boxes, [], G⟩ ρ σ a :=
  ⟨h.size, h.defers, fun t x hx => ⟨by have := allT_lkp _ _ _ hr hx; rw [lenB_eq] at this; exact this, (h.tmps t x hx).2⟩⟩
theorem xl_hv {α : Type} {F : α → Value} {G : α → List Fact} (k : Nat) (ks : List Nat) (st' : St) {o : Oper} (h : bB P n ops l k ks st = some st') (ho : l[k]? = some o) (hw : b7 ops st'.tmps o = some true) (hd : bS n o.dst = true)
    (hr : allT (lenB st'.boxes) 0 st'.tmps = true) (hk : HV P n w0 st' o F G)
    (hn : ∀ y, XL P n w0 ops QX (l.drop (k + 1)) ⟨bO st'.tmps o.dst (.v (F y)), st'.boxes, [], G y⟩) : XL P n w0 ops QX l st :=
  fun ρ σ a w hrr => cz h hrr (fun ρ' σ' a' w' hr' => by
    have hdrop : l.drop k = o :: l.drop (k + 1) := by
      obtain ⟨hlt, rfl⟩ := List.getElem?_eq_some_iff.1 ho
      exact List.drop_eq_getElem_cons hlt
    rw [hdrop]
    simp only [wpList]
    rw [aR hr'.1 hw, if_pos rfl]
    left
    obtain ⟨y, w'', h1, h2⟩ := hk ρ' σ' a' w' hr'
    rw [Oper.wp, h1, Oper.upon_value]
    exact hn y ρ' σ' _ w'' ⟨(hr'.1.bare hr (G y)).put (x := .v (F y)) (bK hd) trivial, h2⟩)
theorem xl_hs {G : List Fact} (k : Nat) (ks : List Nat) (st' : St) {o : Oper} (h : bB P n ops l k ks st = some st') (ho : l[k]? = some o) (hw : b7 ops st'.tmps o = some true) (hd : bS n o.dst = true)
    (hr : allT (lenB st'.boxes) 0 st'.tmps = true) (hk : HS P n w0 st' o G)
    (hn : XL P n w0 ops QX (l.drop (k + 1)) ⟨bO st'.tmps o.dst (.v undef), st'.boxes, [], G⟩) : XL P n w0 ops QX l st :=
  fun ρ σ a w hrr => cz h hrr (fun ρ' σ' a' w' hr' => by
    have hdrop : l.drop k = o :: l.drop (k + 1) := by
      obtain ⟨hlt, rfl⟩ := List.getElem?_eq_some_iff.1 ho
      exact List.drop_eq_getElem_cons hlt
    rw [hdrop]
    simp only [wpList]
    rw [aR hr'.1 hw, if_pos rfl]
    left
    obtain ⟨w'', h1, h2⟩ := hk ρ' σ' a' w' hr'
    rw [Oper.wp, h1, Oper.upon_skip]
    exact hn ρ' σ' _ w'' ⟨(hr'.1.bare hr G).put (x := .v undef) (bK hd) trivial, h2⟩)
theorem XHeap.noRows {boxes : List Box} {rows : List (List Value)} {facts : List Fact} {ρ : Nat → Nat} {σ : Nat → Nat × Nat} {w : World} (h : XHeap w0 boxes rows facts ρ σ w) : XHeap w0 boxes [] facts ρ σ w :=
  ⟨h.below, h.box, h.inj, fun k r hr => by simp at hr, h.fact, h.apart⟩
def appOk (P : Program) (T e K : Nat) (bytes : Nat) : Bool :=
  match P.underlying T with
  | some (.slice e') => Nat.beq e' e && match P.info? e with
    | some i => Nat.beq i.size K && (Nat.beq i.bytes bytes && (Nat.blt 0 K && match i.zero with | some z => Nat.beq z.cells.size K | none => false))
    | none => false
  | _ => false
theorem appOk_spec {T e K bytes : Nat} (h : appOk P T e K bytes = true) : P.underlying T = some (.slice e) ∧ ∃ i z, P.info? e = some i ∧ i.zero = some z ∧ i.size = K ∧ i.bytes = bytes ∧ z.cells.size = K ∧ 0 < K := by
  unfold appOk at h
  split at h
  · rename_i e' hu
    simp only [Bool.and_eq_true] at h
    obtain ⟨h1, h2⟩ := h
    have h1 : e' = e := Nat.eq_of_beq_eq_true h1
    subst h1
    refine ⟨hu, ?_⟩
    split at h2
    · rename_i i hi
      simp only [Bool.and_eq_true] at h2
      obtain ⟨g1, g2, g3, g4⟩ := h2
      split at g4
      · rename_i z hz
        exact ⟨i, z, hi, hz, Nat.eq_of_beq_eq_true g1, Nat.eq_of_beq_eq_true g2, Nat.eq_of_beq_eq_true g4, Nat.le_of_ble_eq_true g3⟩
      · cases g4
    · cases h2
  · cases h
theorem XHeap.turn {boxes : List Box} {facts : List Fact} {ρ : Nat → Nat} {σ : Nat → Nat × Nat} {w w' : World} (h : XHeap w0 boxes [] facts ρ σ w) {i : Nat} {fi : Fact} (hi : facts[i]? = some fi) (hown : fi.own = true)
    (hlo : ∀ b, fi.blk b → w0.heap.size ≤ b) (hc : Chgd fi.blk w w') (f : Fact) (hf : f.p w') (hb : ∀ b, f.blk b → fi.blk b ∨ w.heap.size ≤ b) : XHeap w0 boxes [] (f :: dropF facts i) ρ σ w' := by
  have hfi := h.fact fi (List.mem_of_getElem? hi)
  refine (h.stepM hi hown hlo hc).add f hf (fun j hj hbk => ?_) (fun g hg b hbk hgb => ?_)
  · rcases hb _ hbk with h1 | h1
    · exact hfi.2 j hj h1
    · have := h.boxLt hj; omega
  · obtain ⟨j, hj⟩ := List.getElem?_of_mem hg
    obtain ⟨m, hm, e⟩ := dropF_sub hj
    have hmi : i ≠ m := by subst e; split <;> omega
    rcases hb _ hbk with h1 | h1
    · exact h.apart i m fi g hi hm hmi hown b h1 hgb
    · have := g.lt _ b (h.fact g (List.mem_of_getElem? hm)).1 hgb; omega
end
end
/- More of the machine: making slices, parts of slices, calls that write, regions that draw their order with calls in them, results of the call's own. -/
section
open Go.RowKit
set_option linter.unusedVariables false
set_option linter.unusedSimpArgs false
section
variable {P : Program} {n : Nat} {w0 : World} {QX : Exit → St → Prop} {st st' : St} {ops : Array Oper} {l : List Oper}
def partV (l : List (Nat × AV)) : List (Nat × Operand) → Option (List (Nat × Value))
  | [] => some []
  | (i, x) :: r => match cn l x, partV l r with
    | some (.v v), some vs => some ((i, v) :: vs)
    | _, _ => none
theorem partV_eval {ρ : Nat → Nat} {σ : Nat → Nat × Nat} {a : Act} (h : XAct n st ρ σ a) : ∀ (xs : List (Nat × Operand)) (vs : List (Nat × Value)), partV st.tmps xs = some vs → (xs.map fun x => (x.1, a.eval x.2)) = vs
  | [], vs, hv => by simp [partV] at hv; subst hv; rfl
  | (i, x) :: r, vs, hv => by
    simp only [partV] at hv
    split at hv
    · rename_i v us h1 h2
      simp only [Option.some.injEq] at hv; subst hv
      rw [List.map_cons, aG h h1, partV_eval h r us h2]
    · simp at hv
def allK (K : Nat) : List Value → Bool
  | [] => true
  | v :: r => Nat.beq v.cells.size K && allK K r
theorem allK_spec {K : Nat} : ∀ {vs : List Value}, allK K vs = true → ∀ v ∈ vs, v.cells.size = K
  | [], _, v, hv => by simp at hv
  | u :: r, h, v, hv => by
    simp only [allK, Bool.and_eq_true] at h
    rcases List.mem_cons.1 hv with rfl | hv
    · exact Nat.eq_of_beq_eq_true h.1
    · exact allK_spec h.2 v hv
theorem XHeap.fresh {boxes : List Box} {rows : List (List Value)} {facts : List Fact} {ρ : Nat → Nat} {σ : Nat → Nat × Nat} {w w' : World} (h : XHeap w0 boxes rows facts ρ σ w) (hb : Below w.heap.size w w') (f : Fact) (hf : f.p w') (hlo : ∀ b, f.blk b → w.heap.size ≤ b) :
    XHeap w0 boxes rows (f :: facts) ρ σ w' :=
  (h.step hb).add f hf (fun i hi hbk => by have := hlo _ hbk; have := h.boxLt hi; omega) (fun g hg b hbk hgb => by have := hlo _ hbk; have := g.lt _ b (h.fact g hg).1 hgb; omega)
theorem hv_build {o : Oper} {T e K bytes len : Nat} {parts : Array (Nat × Operand)} (vs : List Value) {rs : List (List Value)} (hop : o.op = .buildSlice T len parts) (hp : appOk P T e K bytes = true) (hv : partV st.tmps parts.toList = some ((vs.zipIdx 0).map fun x => (x.2, x.1)))
    (hl : Nat.beq vs.length len = true) (hk : allK K vs = true) (hs : Nat.ble (len * K) 16777216 = true) (hrs : vs.map (fun v => v.cells.toList) = rs) :
    HV P n w0 st o (α := Nat) (fun g => .slice (some ⟨g, 0, none⟩) len len) (fun g => bU w0.heap.size e K (.slice (some ⟨g, 0, none⟩) len len) rs :: st.facts) := fun ρ σ a w hr => by
  obtain ⟨hu, i, z, hi, hz, hsz, hby, hzs, h0⟩ := appOk_spec hp
  have hl := Nat.eq_of_beq_eq_true hl
  have hk := allK_spec hk
  have hs := Nat.le_of_ble_eq_true hs
  subst hl hrs
  have hkr : ∀ r ∈ vs.map (fun v => v.cells.toList), r.length = K := fun r hr => by
    obtain ⟨v, hv, rfl⟩ := List.mem_map.1 hr
    simpa using hk v hv
  have hcs : (vs.flatMap fun v => v.cells.toList) = (vs.map (fun v => v.cells.toList)).flatten := List.flatMap_def
  have hrun : (execOp a.eval o).run P w = .ok (.value (.slice (some ⟨w.heap.size, 0, none⟩) vs.length vs.length)) (w.alloc (.cells (vs.flatMap fun v => v.cells.toList).toArray e)) := by
    have hpe : (parts.map fun x => (x.1, a.eval x.2)).toList = (vs.zipIdx 0).map fun x => (x.2, x.1) := by
      rw [Array.toList_map]; exact partV_eval hr.1 _ _ hv
    by_cases hpos : vs.length * i.size = 0
    · have hv0 : vs = [] := List.eq_nil_of_length_eq_zero (by
        rcases Nat.mul_eq_zero.1 hpos with h | h
        · exact h
        · omega)
      subst hv0
      simp only [List.zipIdx_nil, List.map_nil, Array.toList_eq_nil_iff] at hpe
      have hp0 : parts = #[] := by
        have : parts.size = 0 := by have := congrArg Array.size hpe; simpa using this
        exact Array.eq_empty_of_size_eq_zero this
      subst hp0
      simp [execOp, hop, Instr.buildSlice, run_underlying hu, sizeOf, typeInfo, hi, Instr.fill, newRow, show Array.range 0 = #[] from by simp]
    · have hf := Go.Great.fill_whole (s := i.size) (by omega) vs ((Array.range (vs.length * i.size)).map (z.cells[· % z.cells.size]!)) (fun v h => by rw [hk v h, hsz]) (by simp)
      have := Go.run_buildSlice (P := P) w T e vs.length (parts.map fun x => (x.1, a.eval x.2)) _ i z hu hi hz (by rw [hsz]; omega) hpos (by rw [hpe]; exact hf)
      simp only [execOp, hop, Sem.run_bind]
      rw [this]; rfl
  have hm : vs.length ≤ maxLen := by
    have : vs.length * 1 ≤ vs.length * K := Nat.mul_le_mul_left _ h0
    unfold maxLen; omega
  have hfl : (vs.map fun v => v.cells.toList).flatten.length = vs.length * K := by rw [flat_len hkr]; simp
  refine ⟨w.heap.size, _, hrun, (hr.2.noRows.fresh ((Below.refl _ _).alloc (Nat.le_refl _) _) _ ⟨⟨by rw [hfl]; simp, .inr ⟨w.heap.size, vs.length, _, by simp, hr.2.below.size, Go.heap_alloc_new w _, by simp, hm, ?_, ?_⟩⟩, hkr⟩ (fun b hb => ?_))⟩
  · rw [hcs]; simp [hfl]
  · rw [hcs]; simp only [List.length_map]; rw [← hfl]; exact List.take_length
  · have hb : some w.heap.size = some b := hb
    simp only [Option.some.injEq] at hb; omega
theorem hv_make {o : Oper} {T e K bytes m : Nat} {x y : Operand} {kl kc : IntKind} {z : Value} {rs : List (List Value)} (hop : o.op = .makeSlice T x y) (hp : appOk P T e K bytes = true) (hz : (P.info? e).bind (·.zero) = some z) (hx : cn st.tmps x = some (.v (.int kl m))) (hy : cn st.tmps y = some (.v (.int kc m)))
    (hb : bytes * m ≤ 281474976710656) (hm : m ≤ maxLen) (hrs : List.replicate m z.cells.toList = rs) :
    HV P n w0 st o (α := Nat) (fun g => .slice (some ⟨g, 0, none⟩) m m) (fun g => bU w0.heap.size e K (.slice (some ⟨g, 0, none⟩) m m) rs :: st.facts) := fun ρ σ a w hr => by
  subst hrs
  obtain ⟨hu, i, z', hi, hz', hsz, hby, hzs, h0⟩ := appOk_spec hp
  obtain rfl : z' = z := by simp [hi, hz'] at hz; exact hz
  have hm' : (m : Int) ≤ 9223372036854775807 := by unfold maxLen at hm; omega
  have hb' : (i.bytes : Int) * (m : Int) ≤ 281474976710656 := by
    have h : ((i.bytes * m : Nat) : Int) ≤ 281474976710656 := by rw [hby]; omega
    rwa [Int.natCast_mul] at h
  have hrun := run_make (P := P) w T e i z' hu hi hz' kl kc m m (by omega) (by omega) hb' hm'
  simp only [Int.toNat_natCast] at hrun
  have hkr : ∀ r ∈ List.replicate m z'.cells.toList, r.length = K := fun r hr => by
    obtain ⟨_, rfl⟩ := List.mem_replicate.1 hr; simpa using hzs
  have hfl : (List.replicate m z'.cells.toList).flatten.length = m * K := by rw [flat_len hkr]; simp
  have hcells : ∀ m, (madeCells z'.cells (m * K)).toList = (List.replicate m z'.cells.toList).flatten := fun m => by
    have hkr : ∀ r ∈ List.replicate m z'.cells.toList, r.length = K := fun r hr => by
      obtain ⟨_, rfl⟩ := List.mem_replicate.1 hr; simpa using hzs
    apply List.ext_getElem?
    intro j
    by_cases hj : j < m * K
    · have h1 : (madeCells z'.cells (m * K)).toList[j]? = some (z'.cells[j % K]'(by rw [hzs]; exact Nat.mod_lt _ h0)) := by
        have hlt : j % z'.cells.size < z'.cells.size := by rw [hzs]; exact Nat.mod_lt _ h0
        have hlt' : j % K < z'.cells.size := by rw [hzs]; exact Nat.mod_lt _ h0
        simp only [madeCells, Array.toList_map, List.getElem?_map, Array.getElem?_toList, Array.getElem?_range, hj, if_true, Option.map_some, Option.some.injEq]
        simp only [hzs]
        exact getElem!_pos z'.cells (j % K) hlt'
      rw [h1]
      have hjd : j / K < m := (Nat.div_lt_iff_lt_mul h0).2 hj
      have h2 : (List.replicate m z'.cells.toList)[j / K]? = some z'.cells.toList := by simp [hjd]
      have h3 : z'.cells.toList[j % K]? = some (z'.cells[j % K]'(by rw [hzs]; exact Nat.mod_lt _ h0)) := by
        rw [Array.getElem?_toList, Array.getElem?_eq_getElem]
      have := flat_get hkr h2 h3
      rw [show j / K * K + j % K = j by have := Nat.div_add_mod j K; rw [Nat.mul_comm] at this; exact this] at this
      exact this.symm
    · rw [List.getElem?_eq_none (by simp [madeCells]; omega), List.getElem?_eq_none (by rw [flat_len hkr]; simp; omega)]
  refine ⟨w.heap.size, _, ?_, hr.2.noRows.fresh ((Below.refl _ _).alloc (Nat.le_refl _) (.cells (madeCells z'.cells (m * i.size)) e)) _ ⟨⟨by rw [hfl]; simp, .inr ⟨w.heap.size, m, _, by simp, hr.2.below.size, Go.heap_alloc_new w _, by simp, hm, ?_, ?_⟩⟩, hkr⟩ (fun b hb => ?_)⟩
  · simp only [execOp, hop, aG hr.1 hx, aG hr.1 hy, Sem.run_bind, hrun, Result.andThen_ok, Sem.run_pure]
  · simp [madeCells, hsz]
  · rw [hsz, hcells, List.length_replicate, ← hfl]; exact List.take_length
  · have hb : some w.heap.size = some b := hb
    simp only [Option.some.injEq] at hb; omega
theorem Apart.sub2 {fs : List Fact} (h : Apart fs) {i j : Nat} {f g f' g' : Fact} (hi : fs[i]? = some f) (hj : fs[j]? = some g) (hij : i ≠ j) (hf : f.own = true) (h1 : ∀ b, f'.blk b → f.blk b) (h2 : ∀ b, g'.blk b → g.blk b) : Apart [f', g'] :=
  (Apart.one g').cons fun x hx b hb hxb => by
    obtain rfl : x = g' := by simpa using hx
    exact h i j f g hi hj hij hf b (h1 b hb) (h2 b hxb)
def XPostA (P : Program) (w0 : World) (fn : Func) (R : Ending → World → Prop) : Exit → St → Prop
  | .normal, st | .ret, st => ∃ vs, xres P st fn.results.toList = some vs ∧ ∀ w', Below w0.heap.size w0 w' → (∀ g ∈ st.facts, g.p w') → Apart st.facts → R (.returned (pack vs)) w'
  | _, _ => False
theorem x_callsA {f : FuncId} {fn : Func} {c : Code} {args : List Value} (fs : List Fact) {R : Ending → World → Prop} (hf : P.funcs[f]? = some fn) (hb : fn.body = some c) (hn : fn.ntmps = n) (hl : Nat.ble args.length n = true)
    (hfs : ∀ g ∈ fs, g.own = false ∧ g.p w0) (h : XW P n w0 (XPostA P w0 fn R) c ⟨argT 0 args, [], [], fs⟩) : Calls P f args.toArray w0 R := by
  have hl' : args.length ≤ n := by simpa using hl
  have hA : XAct n ⟨argT 0 args, [], [], fs⟩ id (fun _ => (0, 0)) { tmps := args.toArray ++ Array.replicate (fn.ntmps - args.toArray.size) undef, defers := [] } := by
    refine ⟨?_, rfl, fun t x ht => ?_⟩
    · simp [hn]; omega
    · obtain ⟨-, v, h1, rfl⟩ := argT_lkp args 0 t x ht
      refine ⟨trivial, ?_⟩
      have hlt : t < args.length := (List.getElem?_eq_some_iff.1 h1).1
      simp only [Nat.sub_zero] at h1
      simp only [bD, Array.getD_eq_getD_getElem?]
      rw [Array.getElem?_append_left (by simpa using hlt)]
      simp [h1]
  have hH : XHeap w0 [] [] fs id (fun _ => (0, 0)) w0 := ⟨Below.refl _ _, fun i b hi => by simp at hi, fun i j hi => by simp at hi, fun k r hr => by simp at hr, fun g hg => ⟨(hfs g hg).2, fun i hi => by simp at hi⟩, Apart.plain fun g hg => (hfs g hg).1⟩
  refine calls_of_wp hf hb (Code.wp_mono (fun e a w hq => ?_) (h _ _ _ w0 ⟨hA, hH⟩))
  obtain ⟨s, ρ, σ, h1, h2⟩ := hq
  cases e <;> first
    | (obtain ⟨vs, g1, g2⟩ := h1
       exact ⟨h2.1.defers, _, xres_run h2 g1, g2 w h2.2.below (fun g hg => (h2.2.fact g hg).1) h2.2.apart⟩)
    | exact h1.elim
def XRs (w w' : World) (e : Ending) {α : Type} (F : α → Value) (G : α → List Fact) : Prop :=
  ∃ y, e = .returned (F y) ∧ (∀ g ∈ G y, g.p w' ∧ ∀ b, g.blk b → w.heap.size ≤ b) ∧ Apart (G y) ∧ Below w.heap.size w w'
theorem xc_r {fs : List Fact} {f : FuncId} {args : List Value} {α : Type} {F : α → Value} {G : α → List Fact}
    (h : ∀ w, w0.heap.size ≤ w.heap.size → (∀ g ∈ fs, g.p w) → Calls P f args.toArray w fun e w' => XRs w w' e F G) : XC P w0 fs f args F G := fun w hw hf => h w hw hf
theorem xr_one {w w' : World} {α : Type} {F : α → Value} {G : α → List Fact} (y : α) {v : Value} {f : Fact} (hv : v = F y) (hG : G y = [f]) (hf : f.p w') (hlo : ∀ b, f.blk b → w.heap.size ≤ b) (hb : Below w.heap.size w w') : XRs w w' (.returned v) F G :=
  ⟨y, by rw [hv], fun g hg => by rw [hG] at hg; have e : g = f := (by simpa using hg); subst e; exact ⟨hf, hlo⟩, by rw [hG]; exact Apart.one f, hb⟩
theorem xr_two {w w' : World} {α : Type} {F : α → Value} {G : α → List Fact} (y : α) {v : Value} {f g : Fact} (hv : v = F y) (hG : G y = [f, g]) (hf : f.p w') (hlo : ∀ b, f.blk b → w.heap.size ≤ b) (hg : g.p w') (hlo' : ∀ b, g.blk b → w.heap.size ≤ b) (ha : Apart [f, g]) (hb : Below w.heap.size w w') : XRs w w' (.returned v) F G :=
  ⟨y, by rw [hv], fun x hx => by
    rw [hG] at hx
    rcases List.mem_cons.1 hx with rfl | hx
    · exact ⟨hf, hlo⟩
    · obtain rfl : x = g := by simpa using hx
      exact ⟨hg, hlo'⟩, by rw [hG]; exact ha, hb⟩
theorem ownF_lo {w : World} {B K : Nat} {v : Value} {rs : List (List Value)} (h : (bQ B v K rs).p w) {b : Nat} (hb : (bQ B v K rs).blk b) : B ≤ b := vblk_lo h hb
theorem ownF_ownF {w : World} {B B' K : Nat} {v : Value} {rs : List (List Value)} (h : (bQ B v K rs).p w) (hB : B' ≤ B) : (bQ B' v K rs).p w := Own.lower h hB
end
end
/- Regions that draw their order, with calls and writes in them; ways that meet again; parts of slices; calls that write. -/
section
open Go.RowKit
set_option linter.unusedVariables false
set_option linter.unusedSimpArgs false
def mskB : List Bool → List Box → List Box
  | true :: k, b :: r => b :: mskB k r
  | false :: k, b :: r => ⟨b.ty, []⟩ :: mskB k r
  | [], r => r
  | _, [] => []
theorem mskB_get : ∀ (k : List Bool) (l : List Box) (i : Nat) (b : Box), (mskB k l)[i]? = some b → ∃ c, l[i]? = some c ∧ (b = c ∨ b.cells = [])
  | true :: k, c :: r, 0, b, h => by simp [mskB] at h; exact ⟨c, by simp, .inl h.symm⟩
  | false :: k, c :: r, 0, b, h => by simp [mskB] at h; exact ⟨c, by simp, .inr (by rw [← h])⟩
  | true :: k, c :: r, i + 1, b, h => by simp [mskB] at h; simpa using mskB_get k r i b h
  | false :: k, c :: r, i + 1, b, h => by simp [mskB] at h; simpa using mskB_get k r i b h
  | [], r, i, b, h => by
    have h : r[i]? = some b := by cases r <;> exact h
    exact ⟨b, h, .inl rfl⟩
  | true :: k, [], i, b, h => by simp [mskB] at h
  | false :: k, [], i, b, h => by simp [mskB] at h
def Under (B : List Box) (boxes : List Box) : Prop := ∀ (i : Nat) (b : Box), B[i]? = some b → ∃ c : Box, boxes[i]? = some c ∧ (b.cells = c.cells ∨ b.cells = [])
theorem Under.msk (k : List Bool) (l : List Box) : Under (mskB k l) l := fun i b h => by
  obtain ⟨c, h1, h2⟩ := mskB_get k l i b h
  exact ⟨c, h1, h2.imp (fun e => by rw [e]) id⟩
section
variable {P : Program} {n : Nat} {w0 : World} {QX : Exit → St → Prop} {st st' : St} {ops : Array Oper} {l : List Oper}
theorem XHeap.under {boxes B : List Box} {rows R : List (List Value)} {facts : List Fact} {ρ : Nat → Nat} {σ : Nat → Nat × Nat} {w : World} (h : XHeap w0 boxes rows facts ρ σ w) (hB : Under B boxes) (hR : R = [] ∨ R = rows) : XRd B R ρ σ w where
  box := fun i b hb => by
    obtain ⟨c, h1, h2⟩ := hB i b hb
    refine ⟨(h.rd.box i c h1).1, fun j v hv => ?_⟩
    rcases h2 with h2 | h2
    · rw [h2] at hv; exact (h.rd.box i c h1).2 j v hv
    · rw [h2] at hv; simp at hv
  row := fun k r hr => by
    rcases hR with rfl | rfl
    · simp at hr
    · exact h.rd.row k r hr
def Agr (B : List Box) (ρ' ρ : Nat → Nat) : Prop := ∀ i, i < B.length → ρ' i = ρ i
theorem Agr.refl (B : List Box) (ρ : Nat → Nat) : Agr B ρ ρ := fun _ _ => rfl
theorem XRd.to {B : List Box} {R : List (List Value)} {ρ ρ' : Nat → Nat} {σ : Nat → Nat × Nat} {w : World} (h : XRd B R ρ σ w) (hag : Agr B ρ' ρ) : XRd B R ρ' σ w :=
  ⟨fun i b hb => by rw [hag i (List.getElem?_eq_some_iff.1 hb).1]; exact h.box i b hb, h.row⟩
theorem XRd.from {B : List Box} {R : List (List Value)} {ρ ρ' : Nat → Nat} {σ : Nat → Nat × Nat} {w : World} (h : XRd B R ρ' σ w) (hag : Agr B ρ' ρ) : XRd B R ρ σ w :=
  ⟨fun i b hb => by rw [← hag i (List.getElem?_eq_some_iff.1 hb).1]; exact h.box i b hb, h.row⟩
def XE (P : Program) (n : Nat) (w0 : World) (ops : Array Oper) (QX : Exit → St → Prop) (fuel : Nat) (listed : Array Bool) (B : List Box) (R : List (List Value)) (ρ : Nat → Nat) (σ : Nat → Nat × Nat) (st : St) : Prop :=
  ∀ ρ' a w, Agr B ρ' ρ → XRep n w0 st ρ' σ a w → XRd B R ρ σ w → wpAnyH P .any ops (QQ n w0 QX) (XRd B R ρ σ) fuel listed a w
theorem aN {id : Nat} (k : List Bool) (hm : P.follows .mixedOrders = true) (h : ∀ ρ σ, XE P n w0 ops QX ops.size (Array.replicate ops.size false) (mskB k st.boxes) st.rows ρ σ st) : XW P n w0 QX (.region id ops true) st :=
  fun ρ σ a w hr => wp_region_held hm (h ρ σ ρ a w.drew (Agr.refl _ _) ⟨hr.1, hr.2.drew⟩ (hr.2.drew.under (Under.msk k _) (.inr rfl)))
variable {fuel : Nat} {listed : Array Bool} {B : List Box} {R : List (List Value)} {ρ : Nat → Nat} {σ : Nat → Nat × Nat}
theorem xe_done (hr : Region.ready .any ops listed = []) (h : QX .normal st) : XE P n w0 ops QX fuel listed B R ρ σ st := fun ρ' a w hag hr' _ => wpAnyH_done hr ⟨st, ρ', σ, h, hr'⟩ fuel
theorem xe_take (i : Nat) (x : AV) (st' : St) {o : Oper} (hi : ops[i]? = some o) (hs : Region.noSelect ops = true) (hf : Region.free .any ops listed i = true) (hr : (Region.ready .any ops listed).contains i = true)
    (hp : ∀ c s, ¬ QX (.panic c) s) (hw : b7 ops st.tmps o = some true) (hx : xop P st.tmps B R o.op = some (.val x)) (hd : bS n o.dst = true) (hst : (⟨bO st.tmps o.dst x, st.boxes, st.rows, st.facts⟩ : St) = st')
    (h : XE P n w0 ops QX fuel (listed.setIfInBounds i true) B R ρ σ st') : XE P n w0 ops QX (fuel + 1) listed B R ρ σ st :=
  fun ρ' a w hag hr' hS => by
    subst hst
    obtain ⟨h1, h2⟩ := xop_rd (P := P) (st := st) hx hr'.1 (hS.to hag)
    exact wpAnyH_take hi hs hf hr (v := bD ρ' σ x) (fun c a w ⟨s, _, _, hq, _⟩ => (hp c s hq).elim) (.inl ⟨aR hr'.1 hw, fun w' hS => (xop_rd (P := P) (st := st) hx hr'.1 (hS.to hag)).2⟩) hS (h _ _ w hag ⟨hr'.1.put (bK hd) h1, hr'.2⟩ hS)
def setAll : Array Bool → List Nat → Array Bool
  | l, [] => l
  | l, i :: is => setAll (l.setIfInBounds i true) is
def xtk (P : Program) (n : Nat) (ops : Array Oper) (B : List Box) (R : List (List Value)) (ks : List Nat) : List Nat → Array Bool → St → Option St
  | [], _, s => match keepT s.tmps ks with
    | some t => some ⟨t, s.boxes, s.rows, s.facts⟩
    | none => none
  | i :: is, l, s => match ops[i]? with
    | none => none
    | some o => match Region.noSelect ops && (Region.free .any ops l i && ((Region.ready .any ops l).contains i && bS n o.dst)) with
      | false => none
      | true => match b7 ops s.tmps o with
        | none => none
        | some false => xtk P n ops B R ks is (l.setIfInBounds i true) ⟨bO s.tmps o.dst (.v undef), s.boxes, s.rows, s.facts⟩
        | some true => match xop P s.tmps B R o.op with
          | some (.val x) => xtk P n ops B R ks is (l.setIfInBounds i true) ⟨bO s.tmps o.dst x, s.boxes, s.rows, s.facts⟩
          | _ => none
theorem xe_op (i : Nat) (v : Value) (st' : St) {o : Oper} (hi : ops[i]? = some o) (hs : Region.noSelect ops = true) (hf : Region.free .any ops listed i = true) (hr : (Region.ready .any ops listed).contains i = true)
    (hp : ∀ c s, ¬ QX (.panic c) s) (hw : b7 ops st.tmps o = some true) (hd : bS n o.dst = true)
    (hrun : ∀ (ρ' : Nat → Nat) (a : Act) (w : World), XAct n st ρ' σ a → (execOp a.eval o).run P w = .ok (.value v) w) (hst : (⟨bO st.tmps o.dst (.v v), st.boxes, st.rows, st.facts⟩ : St) = st')
    (h : XE P n w0 ops QX fuel (listed.setIfInBounds i true) B R ρ σ st') : XE P n w0 ops QX (fuel + 1) listed B R ρ σ st :=
  fun ρ' a w hag hr' hS => by
    subst hst
    exact wpAnyH_take hi hs hf hr (v := v) (fun c a w ⟨s, _, _, hq, _⟩ => (hp c s hq).elim) (.inl ⟨aR hr'.1 hw, fun w' hS => hrun _ a w' hr'.1⟩) hS (h _ _ w hag ⟨hr'.1.put (x := .v v) (bK hd) trivial, hr'.2⟩ hS)
theorem xe_skip (i : Nat) (st' : St) {o : Oper} (hi : ops[i]? = some o) (hs : Region.noSelect ops = true) (hf : Region.free .any ops listed i = true) (hr : (Region.ready .any ops listed).contains i = true)
    (hp : ∀ c s, ¬ QX (.panic c) s) (hw : b7 ops st.tmps o = some false) (hd : bS n o.dst = true) (hst : (⟨bO st.tmps o.dst (.v undef), st.boxes, st.rows, st.facts⟩ : St) = st')
    (h : XE P n w0 ops QX fuel (listed.setIfInBounds i true) B R ρ σ st') : XE P n w0 ops QX (fuel + 1) listed B R ρ σ st :=
  fun ρ' a w hag hr' hS => by
    subst hst
    exact wpAnyH_take hi hs hf hr (v := undef) (fun c a w ⟨s, _, _, hq, _⟩ => (hp c s hq).elim) (.inr ⟨aR hr'.1 hw, rfl⟩) hS (h _ _ w hag ⟨hr'.1.put (x := .v undef) (bK hd) trivial, hr'.2⟩ hS)
theorem xe_tk (is ks : List Nat) (f' : Nat) (st' : St) (hp : ∀ c s, ¬ QX (.panic c) s) (hf : fuel = is.length + f') (hx : xtk P n ops B R ks is listed st = some st')
    (h : XE P n w0 ops QX f' (setAll listed is) B R ρ σ st') : XE P n w0 ops QX fuel listed B R ρ σ st := by
  induction is generalizing fuel listed st with
  | nil =>
    simp only [List.length_nil, Nat.zero_add] at hf; subst hf
    simp only [xtk] at hx
    split at hx
    · rename_i t ht
      simp only [Option.some.injEq] at hx; subst hx
      exact fun ρ' a w hag hr hS => h ρ' a w hag (hr.keep ht) hS
    · cases hx
  | cons i is ih =>
    simp only [List.length_cons] at hf
    obtain rfl : fuel = (is.length + f') + 1 := by omega
    simp only [xtk] at hx
    split at hx
    · cases hx
    · rename_i o ho
      split at hx
      · cases hx
      · rename_i hb
        simp only [Bool.and_eq_true] at hb
        obtain ⟨h1, h2, h3, h4⟩ := hb
        split at hx
        · cases hx
        · rename_i hw
          exact xe_skip i _ ho h1 h2 h3 hp hw h4 rfl (ih rfl hx h)
        · rename_i hw
          split at hx
          · rename_i x hv
            exact xe_take i x _ ho h1 h2 h3 hp hw hv h4 rfl (ih rfl hx h)
          · cases hx
def XEs (P : Program) (n : Nat) (w0 : World) (ops : Array Oper) (QX : Exit → St → Prop) (fuel : Nat) (listed : Array Bool) (B : List Box) (R : List (List Value)) (ρ : Nat → Nat) (σ : Nat → Nat × Nat) (st : St) (i : Nat) : Prop :=
  ∀ ρ' a w, Agr B ρ' ρ → XRep n w0 st ρ' σ a w → XRd B R ρ σ w → wpOp P ops (QQ n w0 QX) i (fun a' w' => XRd B R ρ σ w' ∧ wpAnyH P .any ops (QQ n w0 QX) (XRd B R ρ σ) fuel (listed.setIfInBounds i true) a' w') a w
def XEa (P : Program) (n : Nat) (w0 : World) (ops : Array Oper) (QX : Exit → St → Prop) (fuel : Nat) (listed : Array Bool) (B : List Box) (R : List (List Value)) (ρ : Nat → Nat) (σ : Nat → Nat × Nat) (st : St) : List Nat → Prop
  | [] => True
  | [i] => XEs P n w0 ops QX fuel listed B R ρ σ st i
  | i :: l => XEs P n w0 ops QX fuel listed B R ρ σ st i ∧ XEa P n w0 ops QX fuel listed B R ρ σ st l
theorem XEa.mem : ∀ {l : List Nat}, XEa P n w0 ops QX fuel listed B R ρ σ st l → ∀ i ∈ l, XEs P n w0 ops QX fuel listed B R ρ σ st i
  | [], _, i, hi => by simp at hi
  | [j], h, i, hi => by obtain rfl : i = j := (by simpa using hi); exact h
  | j :: k :: l, h, i, hi => by
    rcases List.mem_cons.1 hi with rfl | hi
    · exact h.1
    · exact XEa.mem h.2 i hi
theorem xe_all (l : List Nat) (hr : Region.ready .any ops listed = l) (hne : l ≠ []) (h : XEa P n w0 ops QX fuel listed B R ρ σ st l) : XE P n w0 ops QX (fuel + 1) listed B R ρ σ st :=
  fun ρ' a w hag hr' hS => wpAnyH_all hr hne fun i hi => h.mem i hi ρ' a w hag hr' hS
theorem xs_val (i : Nat) (x : AV) (st' : St) {o : Oper} (hi : ops[i]? = some o) (hw : b7 ops st.tmps o = some true) (hx : xop P st.tmps st.boxes st.rows o.op = some (.val x)) (hd : bS n o.dst = true)
    (hst : (⟨bO st.tmps o.dst x, st.boxes, st.rows, st.facts⟩ : St) = st') (h : XE P n w0 ops QX fuel (listed.setIfInBounds i true) B R ρ σ st') : XEs P n w0 ops QX fuel listed B R ρ σ st i := fun ρ' a w hag hr hS => by
  subst hst
  obtain ⟨h1, h2⟩ := xop_val (P := P) hx hr.1 hr.2
  unfold wpOp
  simp only [hi, aR hr.1 hw, if_true]
  left
  rw [Oper.wp, h2, Oper.upon_value]
  exact ⟨hS, h _ _ w hag ⟨hr.1.put (bK hd) h1, hr.2⟩ hS⟩
def unread (B : List Box) (i : Nat) : Bool := match B[i]? with | some b => b.cells.isEmpty | none => true
theorem xs_store (i : Nat) (j off : Nat) (cs : List Value) (st' : St) {o : Oper} (hi : ops[i]? = some o) (hw : b7 ops st.tmps o = some true) (hx : xop P st.tmps st.boxes st.rows o.op = some (.store j off cs)) (hd : bS n o.dst = true)
    (hu : unread B j = true) (hR : R = [] ∨ R = st.rows) (hlen : Nat.ble B.length (lenB st.boxes) = true)
    (hst : (⟨bO st.tmps o.dst (.v undef), cP st.boxes j off cs, st.rows, st.facts⟩ : St) = st') (h : XE P n w0 ops QX fuel (listed.setIfInBounds i true) B R ρ σ st') : XEs P n w0 ops QX fuel listed B R ρ σ st i := fun ρ' a w hag hr hS => by
  subst hst
  have hlen := Nat.le_of_ble_eq_true hlen
  rw [lenB_eq] at hlen
  obtain ⟨b, h1, h2, h3⟩ := xop_store (P := P) hx hr.1 hr.2
  unfold wpOp
  simp only [hi, aR hr.1 hw, if_true]
  left
  rw [Oper.wp, h3, Oper.upon_skip]
  have hA' : XAct n ⟨st.tmps, cP st.boxes j off cs, st.rows, st.facts⟩ ρ' σ a := ⟨hr.1.size, hr.1.defers, fun t x ht => by
    obtain ⟨g1, g2⟩ := hr.1.tmps t x ht
    exact ⟨by rw [cC]; exact g1, g2⟩⟩
  have hS' : XRd B R ρ σ (w.setCells (ρ' j) off cs) := by
    refine ⟨fun k c hk => ?_, fun k r hk => ?_⟩
    · obtain ⟨g1, g2⟩ := hS.box k c hk
      refine ⟨by rw [bW]; exact g1, fun q v hv => ?_⟩
      by_cases hkj : k = j
      · subst hkj
        simp only [unread, hk, List.isEmpty_iff] at hu
        rw [hu] at hv; simp at hv
      · have hkl : k < st.boxes.length := by have := (List.getElem?_eq_some_iff.1 hk).1; omega
        have hjl : j < st.boxes.length := (List.getElem?_eq_some_iff.1 h1).1
        have hne : ρ k ≠ ρ' j := fun e => hkj (hr.2.inj k j hkl hjl ((hag k (List.getElem?_eq_some_iff.1 hk).1).trans e))
        rw [World.cell?_of_block (a := ⟨ρ k, 0 + q, none⟩) (bu (ρ' j) cs off w _ hne)]
        exact g2 q v hv
    · rcases hR with rfl | rfl
      · simp at hk
      · obtain ⟨g1, g2⟩ := hS.row k r hk
        refine ⟨by rw [bW]; exact g1, fun q v hv => ?_⟩
        have hjl : j < st.boxes.length := (List.getElem?_eq_some_iff.1 h1).1
        rw [World.cell?_of_block (a := ⟨(σ k).1, (σ k).2 + q, none⟩) (bu (ρ' j) cs off w _ ((hr.2.row k r hk).2.2 j hjl))]
        exact g2 q v hv
  exact ⟨hS', h _ _ _ hag ⟨hA'.put (x := .v undef) (bK hd) trivial, hr.2.write h1 h2⟩ hS'⟩
theorem XRd.step {w w' : World} (h : XRd B R ρ σ w) (hb : Below w.heap.size w w') : XRd B R ρ σ w' :=
  ⟨fun k c hk => by
    obtain ⟨g1, g2⟩ := h.box k c hk
    refine ⟨Nat.lt_of_lt_of_le g1 hb.size, fun q v hv => ?_⟩
    rw [World.cell?_of_block (a := ⟨ρ k, 0 + q, none⟩) (hb.block _ g1)]; exact g2 q v hv,
   fun k r hk => by
    obtain ⟨g1, g2⟩ := h.row k r hk
    refine ⟨Nat.lt_of_lt_of_le g1 hb.size, fun q v hv => ?_⟩
    rw [World.cell?_of_block (a := ⟨(σ k).1, (σ k).2 + q, none⟩) (hb.block _ g1)]; exact g2 q v hv⟩
theorem xs_call (i : Nat) (f : FuncId) (args : List Value) (d : Option Nat) {α : Type} {F : α → Value} {G : α → List Fact} {o : Oper} (hi : ops[i]? = some o)
    (hc : dv ops st o = some (f, args, d)) (hd : bS n d = true) (hf : fnOk P f = true) (hk : XC P w0 st.facts f args F G)
    (h : ∀ y, XE P n w0 ops QX fuel (listed.setIfInBounds i true) B R ρ σ ⟨bO st.tmps d (.v (F y)), st.boxes, st.rows, G y ++ st.facts⟩) : XEs P n w0 ops QX fuel listed B R ρ σ st i := fun ρ' a w hag hr' hS => by
  obtain ⟨h1, h2, h3⟩ := xcallee_sound (P := P) hr'.1 hc hf w
  unfold wpOp
  simp only [hi, h1, if_true]
  left
  rw [Oper.wp, h3, Oper.upon_enter]
  refine (hk w hr'.2.below.size (fun g hg => (hr'.2.fact g hg).1)).mono fun e w'' ⟨y, he, hg, hap, hb⟩ => ?_
  subst he
  have hH := (hr'.2.step hb).addAll (G y) (fun g hgm => ⟨(hg g hgm).1, fun i hi hblk => by have := (hg g hgm).2 _ hblk; have := hr'.2.boxLt hi; omega, fun f hf b hgb hfb => by have := (hg g hgm).2 _ hgb; have := f.lt _ b (hr'.2.fact f hf).1 hfb; omega⟩) hap
  have hA := hr'.1.put (d := o.dst) (x := .v (F y)) (by rw [h2]; exact bK hd) trivial
  rw [h2] at hA
  simp only [bD] at hA
  have hA' : XAct n ⟨bO st.tmps d (.v (F y)), st.boxes, st.rows, G y ++ st.facts⟩ ρ' σ (a.put d (F y)) := ⟨hA.size, hA.defers, hA.tmps⟩
  simp only [h2]
  exact ⟨hS.step hb, h y _ _ w'' hag ⟨hA', hH⟩ (hS.step hb)⟩
theorem wk_facts {t : List (Nat × AV)} {b : List Box} {r : List (List Value)} {fs gs : List Fact} (m : List Nat) (hm : m.Nodup) (hl : gs.length = m.length)
    (h : ∀ (i : Nat) (g : Fact) (k : Nat), gs[i]? = some g → m[i]? = some k → ∃ f, fs[k]? = some f ∧ (∀ w, f.p w → g.p w) ∧ (∀ w b, f.p w → g.blk b → f.blk b) ∧ (g.own = true → f.own = true)) : Wk ⟨t, b, r, fs⟩ ⟨t, b, r, gs⟩ :=
  fun n w0 ρ σ a w ⟨h1, h2⟩ => by
    have key : ∀ (i : Nat) (g : Fact), gs[i]? = some g → ∃ k f, m[i]? = some k ∧ fs[k]? = some f ∧ (∀ w, f.p w → g.p w) ∧ (∀ b, g.blk b → f.blk b) ∧ (g.own = true → f.own = true) := fun i g hi => by
      have hlt : i < m.length := by have := (List.getElem?_eq_some_iff.1 hi).1; omega
      obtain ⟨f, e1, e2, e3, e4⟩ := h i g _ hi (List.getElem?_eq_getElem hlt)
      exact ⟨_, f, List.getElem?_eq_getElem hlt, e1, e2, fun b hb => e3 w b ((h2.fact f (List.mem_of_getElem? e1)).1) hb, e4⟩
    refine ⟨⟨h1.size, h1.defers, h1.tmps⟩, ⟨h2.below, h2.box, h2.inj, h2.row, fun g hg => ?_, fun i j f g hi hj hij ho bb hb hb' => ?_⟩⟩
    · obtain ⟨i, hi⟩ := List.getElem?_of_mem hg
      obtain ⟨k, f, _, e1, e2, e3, _⟩ := key i g hi
      have := h2.fact f (List.mem_of_getElem? e1)
      exact ⟨e2 w this.1, fun i hi hb => this.2 i hi (e3 _ hb)⟩
    · obtain ⟨k1, f1, m1, a1, a2, a3, a4⟩ := key i f hi
      obtain ⟨k2, f2, m2, b1, b2, b3, b4⟩ := key j g hj
      refine h2.apart k1 k2 f1 f2 a1 b1 (fun e => ?_) (a4 ho) bb (a3 bb hb) (b3 bb hb')
      subst e
      obtain ⟨l1, q1⟩ := List.getElem?_eq_some_iff.1 m1
      obtain ⟨l2, q2⟩ := List.getElem?_eq_some_iff.1 m2
      rcases Nat.lt_or_gt_of_ne hij with hlt | hlt
      · exact List.pairwise_iff_getElem.1 hm i j l1 l2 hlt (q1.trans q2.symm)
      · exact List.pairwise_iff_getElem.1 hm j i l2 l1 hlt (q2.trans q1.symm)
def pickF (fs : List Fact) : List Nat → Option (List Fact)
  | [] => some []
  | k :: m => match fs[k]?, pickF fs m with
    | some f, some r => some (f :: r)
    | _, _ => none
theorem pickF_get {fs : List Fact} : ∀ {m : List Nat} {gs : List Fact}, pickF fs m = some gs → gs.length = m.length ∧ ∀ (i : Nat) (g : Fact) (k : Nat), gs[i]? = some g → m[i]? = some k → fs[k]? = some g
  | [], gs, h => by simp [pickF] at h; subst h; simp
  | k :: m, gs, h => by
    simp only [pickF] at h
    split at h
    · rename_i f r h1 h2
      simp only [Option.some.injEq] at h; subst h
      obtain ⟨g1, g2⟩ := pickF_get h2
      refine ⟨by simp [g1], fun i g q hi hq => ?_⟩
      cases i with
      | zero => simp at hi hq; subst hi hq; exact h1
      | succ i => simp at hi hq; exact g2 i g q hi hq
    · simp at h
def nodupB : List Nat → Bool
  | [] => true
  | k :: m => m.all (fun q => !Nat.beq k q) && nodupB m
theorem nodupB_spec : ∀ {m : List Nat}, nodupB m = true → m.Nodup
  | [], _ => List.nodup_nil
  | k :: m, h => by
    simp only [nodupB, Bool.and_eq_true, List.all_eq_true, Bool.not_eq_true'] at h
    refine List.nodup_cons.2 ⟨fun hk => ?_, nodupB_spec h.2⟩
    have := h.1 k hk
    rw [Nat.beq_refl] at this; cases this
theorem wk_pick (m : List Nat) {t : List (Nat × AV)} {b : List Box} {r : List (List Value)} {fs : List Fact} (gs : List Fact) (hm : nodupB m = true) (h : pickF fs m = some gs) : Wk ⟨t, b, r, fs⟩ ⟨t, b, r, gs⟩ := by
  obtain ⟨g1, g2⟩ := pickF_get h
  exact wk_facts m (nodupB_spec hm) g1 fun i g k hi hk => ⟨g, g2 i g k hi hk, fun _ h => h, fun _ _ _ h => h, fun h => h⟩
end
end
/- Single operations of the machine with facts of their own. -/
section
open Go.RowKit
set_option linter.unusedVariables false
set_option linter.unusedSimpArgs false
section
variable {P : Program} {n : Nat} {w0 : World} {QX : Exit → St → Prop} {st st' : St} {ops : Array Oper} {l : List Oper} {ρ : Nat → Nat} {σ : Nat → Nat × Nat} {a : Act}
theorem az {o : Oper} {op : BinOp} {t ty : TypeId} {x y : Operand} {va vb v : Value} (h : XAct n st ρ σ a) (ho : o.op = .binOp op t x y ty)
    (hx : cn st.tmps x = some (.v va)) (hy : cn st.tmps y = some (.v vb)) {w : World} (hrun : (do eqGuard op t x y va vb; binOp op t va vb : Sem Value).run P w = .ok v w) : (execOp a.eval o).run P w = .ok (.value v) w := by
  have h1 := aG h hx
  have h2 := aG h hy
  simp only [execOp, ho, h1, h2, Sem.run_bind] at hrun ⊢
  simp only [hrun, Result.andThen_ok, Sem.run_pure]
theorem cN {t : TypeId} {x y : Operand} {a b : ByteArray} (h : a.size + b.size ≤ 9223372036854775807) (w : World) : (do eqGuard .add t x y (.string a) (.string b); binOp .add t (.string a) (.string b) : Sem Value).run P w = .ok (.string (a ++ b)) w := by
  have h1 : ¬ ((a.size + b.size : Nat) : Int) > IntKind.i64.max := by
    have : IntKind.i64.max = 9223372036854775807 := by decide
    rw [this]; omega
  have h2 : ¬ (IntKind.i64.max < (a.size : Int) + (b.size : Int)) := by
    have : IntKind.i64.max = 9223372036854775807 := by decide
    rw [this]; omega
  have h3 : (a.size : Int) + (b.size : Int) ≤ IntKind.i64.max := by omega
  simp [eqGuard, binOp, Op.stringOp, h1, h2, h3]
  try omega
theorem bG {t : TypeId} {x y : Operand} {k k' : IntKind} {a b : Int} (hb : 0 ≤ b) (hb' : b ≤ k.bits) (w : World) : (do eqGuard .shl t x y (.int k a) (.int k' b); binOp .shl t (.int k a) (.int k' b) : Sem Value).run P w = .ok (.int k (k.wrap (a * 2 ^ b.toNat))) w := by
  have h1 : ¬ b < 0 := by omega
  have h2 : min b.toNat k.bits = b.toNat := by omega
  simp [eqGuard, binOp, Op.shift, h1, h2]
theorem cH {t : TypeId} {x y : Operand} {k : IntKind} {a b : Int} (hb : b ≠ 0) (w : World) : (do eqGuard .rem t x y (.int k a) (.int k b); binOp .rem t (.int k a) (.int k b) : Sem Value).run P w = .ok (.int k (a.tmod b)) w := by
  simp [eqGuard, binOp, Op.intArith, Op.intDiv, hb]
theorem quo_run {t : TypeId} {x y : Operand} {k : IntKind} {a b : Int} (hb : b ≠ 0) (w : World) : (do eqGuard .quo t x y (.int k a) (.int k b); binOp .quo t (.int k a) (.int k b) : Sem Value).run P w = .ok (.int k (k.wrap (a.tdiv b))) w := by
  simp [eqGuard, binOp, Op.intArith, Op.intDiv, hb]
theorem act_build {o : Oper} {t : TypeId} {parts : Array (Nat × Operand)} (ps : List (Nat × Value)) {cells : Array Value} (h : XAct n st ρ σ a) (ho : o.op = .build t parts) (hv : partV st.tmps parts.toList = some ps) (hb : P.built t ps = some cells) (w : World) :
    (execOp a.eval o).run P w = .ok (.value (.agg cells)) w := by
  have hpe : (parts.map fun x => (x.1, a.eval x.2)).toList = ps := by rw [Array.toList_map]; exact partV_eval h _ _ hv
  have := Go.run_build (P := P) w t (parts.map fun x => (x.1, a.eval x.2)) cells (by rw [hpe]; exact hb)
  simp only [execOp, ho, Sem.run_bind]
  rw [this]; rfl
theorem act_slS {o : Oper} {t : TypeId} {x lo hi : Operand} {s : ByteArray} {k k' : IntKind} (p q : Int) (h : XAct n st ρ σ a) (ho : o.op = .slice t x (some lo) (some hi) none) (hu : (P.underlying t).map (fun d => d matches .string) = some true) (hx : cn st.tmps x = some (.v (.string s)))
    (hlo : cn st.tmps lo = some (.v (.int k p))) (hhi : cn st.tmps hi = some (.v (.int k' q))) (h1 : 0 ≤ p) (h2 : p ≤ q) (h3 : q ≤ s.size) (w : World) :
    (execOp a.eval o).run P w = .ok (.value (.string (s.extract p.toNat q.toNat))) w := by
  cases hq : P.underlying t with
  | none => simp [hq] at hu
  | some d =>
    cases d <;> simp [hq] at hu
    have e1 : (0 ≤ q ∧ q ≤ (s.size : Int)) := by omega
    have e2 : (0 ≤ p ∧ p ≤ (q.toNat : Int)) := by omega
    simp only [execOp, ho, aG h hx, aG h hlo, aG h hhi, Option.map_some, Option.map_none, Sem.run_bind, Instr.sliceAt, Instr.slice, run_underlying hq, Result.andThen_ok]
    simp [Instr.sliceBounds, Instr.sliceBound, asIntOf, e1, e2]
    try (intro hh; exfalso; omega)
theorem act_slSe {o : Oper} {t : TypeId} {x lo : Operand} {s : ByteArray} {k : IntKind} (p : Int) (h : XAct n st ρ σ a) (ho : o.op = .slice t x (some lo) none none) (hu : (P.underlying t).map (fun d => d matches .string) = some true) (hx : cn st.tmps x = some (.v (.string s)))
    (hlo : cn st.tmps lo = some (.v (.int k p))) (h1 : 0 ≤ p) (h2 : p ≤ s.size) (w : World) :
    (execOp a.eval o).run P w = .ok (.value (.string (s.extract p.toNat s.size))) w := by
  cases hq : P.underlying t with
  | none => simp [hq] at hu
  | some d =>
    cases d <;> simp [hq] at hu
    have e2 : (0 ≤ p ∧ p ≤ (s.size : Int)) := by omega
    simp only [execOp, ho, aG h hx, aG h hlo, Option.map_some, Option.map_none, Sem.run_bind, Instr.sliceAt, Instr.slice, run_underlying hq, Result.andThen_ok]
    simp [Instr.sliceBounds, Instr.sliceBound, asIntOf, e2]
def bR (z : Int) : List Value := [.int .u8 z]
def bstr (zs : List Int) : ByteArray := zs.foldl (fun r n => r.push (UInt8.ofNat n.toNat)) ByteArray.empty
theorem act_b2s {o : Oper} {s d e : TypeId} {x : Operand} {A : Option Addr} {m c : Nat} {w : World} (zs : List Int) (h : XAct n st ρ σ a) (ho : o.op = .convert s d x) (hs : P.underlying s = some (.slice e)) (hd : P.underlying d = some .string) (he : P.underlying e = some (.int .u8))
    (hx : cn st.tmps x = some (.v (.slice A m c))) (hsl : Sl w (.slice A m c) 1 (zs.map bR)) : (execOp a.eval o).run P w = .ok (.value (.string (bstr zs))) w := by
  have h1 := aG h hx
  obtain ⟨a1, c1, g1, g2, g3, g4, g5⟩ := hsl
  simp only [Value.slice.injEq] at g1
  obtain ⟨rfl, rfl, rfl⟩ := g1
  have hcv : (convert s d (.slice A (zs.map bR).length c)).run P w = .ok (.string (bstr zs)) w := by
    have key : (Conv.bytesToString (.slice A (zs.map bR).length c)).run P w = .ok (.string (bstr zs)) w := by
      cases zs with
      | nil =>
        cases A with
        | none => simp [Conv.bytesToString, bstr]
        | some ad => exact run_bytesToString w ad _ c [] (by simp [loadCells, loadCellsFrom])
      | cons z zs =>
        obtain ⟨b, off, rfl, g7, g8⟩ := g5 0 (bR z) (by simp)
        refine run_bytesToString w _ _ c (z :: zs) ?_
        have hlen : (List.map bR (z :: zs)).length = ((z :: zs).map (Value.int .u8)).length := by simp
        rw [hlen, run_loadCells_list w ⟨b, off, none⟩ ((z :: zs).map (Value.int .u8)) (fun j v hv => ?_)]
        · obtain ⟨q, hq, rfl⟩ : ∃ q, (z :: zs)[j]? = some q ∧ Value.int .u8 q = v := by
            rw [List.getElem?_map] at hv
            cases hz : (z :: zs)[j]? with
            | none => rw [hz] at hv; simp at hv
            | some q => rw [hz] at hv; simp at hv; exact ⟨q, rfl, hv⟩
          obtain ⟨b', off', e1, _, h8⟩ := g5 j (bR q) (by rw [List.getElem?_map, hq]; rfl)
          simp only [Option.some.injEq, Addr.mk.injEq, and_true] at e1
          obtain ⟨rfl, rfl⟩ := e1
          have := h8 0 (.int .u8 q) rfl
          rw [Addr.add_mid]; simpa using this
    unfold convert
    simp only [Sem.run_bind, run_underlying hs, run_underlying hd, Result.andThen_ok]
    cases A with
    | none => simp only [Sem.run_bind, run_underlying he, Result.andThen_ok]; exact key
    | some ad => simp only [Sem.run_bind, run_underlying he, Result.andThen_ok]; exact key
  simp only [execOp, ho, h1, Sem.run_bind, hcv, Result.andThen_ok, Sem.run_pure]
theorem XRep.free {w : World} (hr : XRep n w0 st ρ σ a w) (f : Fact) (hf : f.p w) (hb : ∀ b, ¬ f.blk b) : XRep n w0 ⟨st.tmps, st.boxes, st.rows, f :: st.facts⟩ ρ σ a w :=
  ⟨⟨hr.1.size, hr.1.defers, hr.1.tmps⟩, hr.2.add f hf (fun i hi h => hb _ h) (fun g hg b h => (hb b h).elim)⟩
theorem xw_free {c : Code} (f : Fact) (hf : ∀ w, w0.heap.size ≤ w.heap.size → f.p w) (hb : ∀ b, ¬ f.blk b) (hn : XW P n w0 QX c ⟨st.tmps, st.boxes, st.rows, f :: st.facts⟩) : XW P n w0 QX c st :=
  fun ρ σ a w hr => hn ρ σ a w (hr.free f (hf w hr.2.below.size) hb)
theorem xe_takeI {fuel : Nat} {listed : Array Bool} {B : List Box} {R : List (List Value)} (i h : Nat) (st' : St) {o : Oper} {T e : TypeId} {x idx : Operand} {K len cap j b off : Nat} {A : Option Addr} {kd : IntKind}
    (hi : ops[i]? = some o) (hs : Region.noSelect ops = true) (hf : Region.free .any ops listed i = true) (hr : (Region.ready .any ops listed).contains i = true)
    (hp : ∀ c s, ¬ QX (.panic c) s) (hw : b7 ops st.tmps o = some true) (hd : bS n o.dst = true) (hop : o.op = .indexAddr T x idx)
    (hu : P.underlying T = some (.slice e)) (hK : (P.info? e).map (·.size) = some K) (hx : cn st.tmps x = some (.v (.slice A len cap))) (hidx : cn st.tmps idx = some (.v (.int kd (j : Int))))
    (hlt : j < len) (hA : A = some ⟨b, off, none⟩) (hσ : σ h = (b, off + j * K)) (hh : Nat.blt h (lenR st.rows) = true) (hst : (⟨bO st.tmps o.dst (.r h 0), st.boxes, st.rows, st.facts⟩ : St) = st')
    (hn : XE P n w0 ops QX fuel (listed.setIfInBounds i true) B R ρ σ st') : XE P n w0 ops QX (fuel + 1) listed B R ρ σ st :=
  fun ρ' a w hag hr' hS => by
    subst hst
    have hrun : ∀ w, (execOp a.eval o).run P w = .ok (.value (bD ρ' σ (.r h 0))) w := fun w => by
      simp only [execOp, hop, aG hr'.1 hx, aG hr'.1 hidx, Sem.run_bind, index_run hu hK hA hlt w, Result.andThen_ok, Sem.run_pure, bD, hσ, Nat.add_zero]
    exact wpAnyH_take hi hs hf hr (v := bD ρ' σ (.r h 0)) (fun c a w ⟨s, _, _, hq, _⟩ => (hp c s hq).elim) (.inl ⟨aR hr'.1 hw, fun w' hS => hrun w'⟩) hS
      (hn _ _ w hag ⟨hr'.1.put (x := .r h 0) (bK hd) (by simp only [AV.wf]; rw [lenR_eq] at hh; simpa using hh), hr'.2⟩ hS)
theorem xws_regionE {id : Nat} {φ : (Nat → Nat × Nat) → Prop} (k : List Bool) (hm : P.follows .mixedOrders = true) (h : ∀ ρ σ, φ σ → XE P n w0 ops QX ops.size (Array.replicate ops.size false) (mskB k st.boxes) st.rows ρ σ st) : XWs P n w0 QX φ (.region id ops true) st :=
  fun ρ σ a w hr hp => wp_region_held hm (h ρ σ hp ρ a w.drew (Agr.refl _ _) ⟨hr.1, hr.2.drew⟩ (hr.2.drew.under (Under.msk k _) (.inr rfl)))
theorem eqT {α : Type} [BEq α] [LawfulBEq α] {a b : α} (h : (a == b) = true) : a = b := eq_of_beq h
theorem eqF {α : Type} [BEq α] [LawfulBEq α] {a b : α} (h : (a == b) = false) : ¬ a = b := by simpa using h
theorem neT {α : Type} [BEq α] [LawfulBEq α] {a b : α} (h : (a != b) = true) : ¬ a = b := by simpa using h
theorem neF {α : Type} [BEq α] [LawfulBEq α] {a b : α} (h : (a != b) = false) : a = b := by simpa using h
theorem cR {b : Bool} (h : (!b) = true) : b = false := by simpa using h
theorem cV {b : Bool} (h : (!b) = false) : b = true := by simpa using h
def intRow (z : Int) : List Value := [.int .i64 z]
theorem Sl.part {w : World} {A : Option Addr} {len cap K : Nat} {rs : List (List Value)} (h : Sl w (.slice A len cap) K rs) (p q : Nat) (h1 : p ≤ q) (h2 : q ≤ len) : Sl w (.slice (if cap = p then A else A.map (·.add (p * K))) (q - p) (cap - p)) K ((rs.drop p).take (q - p)) := by
  obtain ⟨a1, c1, g1, g2, g3, g4, g5⟩ := h
  simp only [Value.slice.injEq] at g1
  obtain ⟨rfl, rfl, rfl⟩ := g1
  refine ⟨if cap = p then A else A.map (·.add (p * K)), cap - p, ?_, ?_, by omega, fun e => ?_, fun i r hr => ?_⟩
  · congr 1; simp; omega
  · simp; omega
  · split at e
    · omega
    · have : A = none := by simpa using e
      have := g4 this; omega
  · have hi : i < q - p := by have := (List.getElem?_eq_some_iff.1 hr).1; simp at this; omega
    rw [List.getElem?_take, if_pos hi, List.getElem?_drop] at hr
    obtain ⟨b, off, rfl, g7, g8⟩ := g5 (p + i) r hr
    refine ⟨b, off + p * K, ?_, g7, ?_⟩
    · rw [if_neg (by omega)]; simp only [Option.map_some, Addr.add_mid]
    · rw [show off + p * K + i * K = off + (p + i) * K by rw [Nat.add_mul]; omega]; exact g8
end
end
/- The machine: parts of slices. -/
section
open Go.RowKit
set_option linter.unusedVariables false
set_option linter.unusedSimpArgs false
section
variable {P : Program} {n : Nat} {w0 : World} {QX : Exit → St → Prop} {st st' : St} {ops : Array Oper} {l : List Oper} {ρ : Nat → Nat} {σ : Nat → Nat × Nat} {a : Act}
theorem act_slVe {o : Oper} {t e : TypeId} {x lo : Operand} {A : Option Addr} {len cap K : Nat} {k : IntKind} {p' : Int} (p : Nat) (h : XAct n st ρ σ a) (ho : o.op = .slice t x (some lo) none none) (hu : P.underlying t = some (.slice e)) (hi' : (P.info? e).map (·.size) = some K)
    (hx : cn st.tmps x = some (.v (.slice A len cap))) (hlo : cn st.tmps lo = some (.v (.int k p'))) (ep : p' = p) (h1 : p ≤ len) (w : World) :
    (execOp a.eval o).run P w = .ok (.value (.slice (if cap = p then A else A.map (·.add (p * K))) (len - p) (cap - p))) w := by
  subst ep
  cases hq : P.info? e with
  | none => simp [hq] at hi'
  | some i =>
    have hs : i.size = K := by simpa [hq] using hi'
    simp only [execOp, ho, aG h hx, aG h hlo, Option.map_some, Option.map_none, Sem.run_bind, Instr.sliceAt, Instr.slice, run_underlying hu, Result.andThen_ok]
    have e2 : (0 ≤ (p : Int) ∧ (p : Int) ≤ (len : Int)) := by omega
    simp [Instr.sliceBounds, Instr.sliceBound, asIntOf, e2, sizeOf, typeInfo, run_program, hq, hs, h1]
theorem Sl.capLe {w : World} {A : Option Addr} {len cap K : Nat} {rs : List (List Value)} (h : Sl w (.slice A len cap) K rs) : len ≤ cap := by
  obtain ⟨a1, c1, g1, g2, -⟩ := h
  simp only [Value.slice.injEq] at g1; omega
theorem Sl.partM {w : World} {A : Option Addr} {len cap K : Nat} {α : Type} {l : List α} {f : α → List Value} (h : Sl w (.slice A len cap) K (l.map f)) (p q : Nat) (h1 : p ≤ q) (h2 : q ≤ len) :
    Sl w (.slice (if cap = p then A else A.map (·.add (p * K))) (q - p) (cap - p)) K (((l.drop p).take (q - p)).map f) := by
  rw [List.map_take, List.map_drop]; exact h.part p q h1 h2
theorem rowF_lower {w : World} {B B' e K : Nat} {v : Value} {rs : List (List Value)} (h : (bU B e K v rs).p w) (hB : B' ≤ B) : (bU B' e K v rs).p w := by
  refine ⟨⟨h.1.1, ?_⟩, h.2⟩
  rcases h.1.2 with hn | ⟨g, cap, cur, hv, hg, rest⟩
  · exact .inl hn
  · exact .inr ⟨g, cap, cur, hv, Nat.le_trans hB hg, rest⟩
end
end
/- The machine: steps that leave the variables, the rows and the facts as they are. -/
section
open Go.RowKit
set_option linter.unusedVariables false
@[simp] theorem dropF_0 (f : Fact) (l : List Fact) : dropF (f :: l) 0 = l := rfl
@[simp] theorem dropF_1 (f : Fact) (l : List Fact) : dropF (f :: l) 1 = f :: dropF l 0 := rfl
@[simp] theorem dropF_2 (f : Fact) (l : List Fact) : dropF (f :: l) 2 = f :: dropF l 1 := rfl
@[simp] theorem dropF_3 (f : Fact) (l : List Fact) : dropF (f :: l) 3 = f :: dropF l 2 := rfl
@[simp] theorem dropF_4 (f : Fact) (l : List Fact) : dropF (f :: l) 4 = f :: dropF l 3 := rfl
@[simp] theorem dropF_5 (f : Fact) (l : List Fact) : dropF (f :: l) 5 = f :: dropF l 4 := rfl
@[simp] theorem dropF_6 (f : Fact) (l : List Fact) : dropF (f :: l) 6 = f :: dropF l 5 := rfl
@[simp] theorem dropF_7 (f : Fact) (l : List Fact) : dropF (f :: l) 7 = f :: dropF l 6 := rfl
@[simp] theorem dropF_8 (f : Fact) (l : List Fact) : dropF (f :: l) 8 = f :: dropF l 7 := rfl
@[simp] theorem dropF_9 (f : Fact) (l : List Fact) : dropF (f :: l) 9 = f :: dropF l 8 := rfl
@[simp] theorem dropF_10 (f : Fact) (l : List Fact) : dropF (f :: l) 10 = f :: dropF l 9 := rfl
@[simp] theorem dropF_11 (f : Fact) (l : List Fact) : dropF (f :: l) 11 = f :: dropF l 10 := rfl
@[simp] theorem dropF_12 (f : Fact) (l : List Fact) : dropF (f :: l) 12 = f :: dropF l 11 := rfl
@[simp] theorem dropF_13 (f : Fact) (l : List Fact) : dropF (f :: l) 13 = f :: dropF l 12 := rfl
def bE (us : List (Nat × AV)) (t : List (Nat × AV)) : List Nat → List (Nat × AV)
  | [] => []
  | k :: ks => match lkp us k with
    | some v => (k, v) :: bE us t ks
    | none => match lkp t k with
      | some v => (k, v) :: bE us t ks
      | none => bE us t ks
def setBx : List Box → Nat → Box → List Box
  | [], _, _ => []
  | _ :: l, 0, x => x :: l
  | b :: l, j + 1, x => b :: setBx l j x
def xfgt (m r : Nat) (ks : List Nat) (s : St) : Option St := if Nat.ble m (lenB s.boxes) && Nat.ble r s.rows.length then xforget m r ks s else none
theorem wkf (m r : Nat) (ks : List Nat) {s s' : St} (h : xfgt m r ks s = some s') : Wk s s' := by
  unfold xfgt at h
  split at h
  · rename_i hb
    simp only [Bool.and_eq_true] at hb
    exact wk_forget m r ks h hb.1 hb.2
  · cases h
section
variable {P : Program} {n : Nat} {w0 : World} {QX : Exit → St → Prop} {ops : Array Oper} {l : List Oper} {t t' : List (Nat × AV)} {b : List Box} {r : List (List Value)} {fs : List Fact}
theorem cF (k : Nat) (ks : List Nat) (us : List (Nat × AV)) {o : Oper} {T e : TypeId} {x idx : Operand} {K len cap : Nat} {A : Option Addr} {kd : IntKind} (j : Nat) {rs : List (List Value)} (row : List Value) (f : Fact)
    (h : bB P n ops l k ks ⟨t, b, r, fs⟩ = some ⟨bE us t ks, b, r, fs⟩) (ho : l[k]? = some o) (hw : b7 ops (bE us t ks) o = some true) (hd : bS n o.dst = true) (hop : o.op = .indexAddr T x idx)
    (hu : P.underlying T = some (.slice e)) (hi : (P.info? e).map (·.size) = some K) (hx : cn (bE us t ks) x = some (.v (.slice A len cap))) (hidx : cn (bE us t ks) idx = some (.v (.int kd (j : Int))))
    (hlt : j < len) (hf : f ∈ fs) (hsl : ∀ w, f.p w → Sl w (.slice A len cap) K rs) (hblk : ∀ b, (rs ≠ [] ∧ vblk (.slice A len cap) = some b) → f.blk b) (hrow : rs[j]? = some row)
    (hn : XL P n w0 ops QX (l.drop (k + 1)) ⟨bO (bE us t ks) o.dst (.r (lenR r) 0), b, addRow r row, fs⟩) : XL P n w0 ops QX l ⟨t, b, r, fs⟩ := xl_index k ks ⟨bE us t ks, b, r, fs⟩ j row f h ho hw hd hop hu hi hx hidx hlt hf hsl hblk hrow hn
theorem bX (ks : List Nat) (us us' : List (Nat × AV)) (h : us = us') (hu : bE us t ks = t) (h1 : XL P n w0 ops QX l ⟨bE us' t ks, b, r, fs⟩) : XL P n w0 ops QX l ⟨t, b, r, fs⟩ := by
  subst h; rw [hu] at h1; exact h1
theorem xl_eqS (h : t = t') (h1 : XL P n w0 ops QX l ⟨t', b, r, fs⟩) : XL P n w0 ops QX l ⟨t, b, r, fs⟩ := h ▸ h1
theorem xl_indexS (k : Nat) (ks : List Nat) (t' : List (Nat × AV)) {o : Oper} {T e : TypeId} {x idx : Operand} {K len cap : Nat} {A : Option Addr} {kd : IntKind} (j : Nat) {rs : List (List Value)} (row : List Value) (f : Fact)
    (h : bB P n ops l k ks ⟨t, b, r, fs⟩ = some ⟨t', b, r, fs⟩) (ho : l[k]? = some o) (hw : b7 ops t' o = some true) (hd : bS n o.dst = true) (hop : o.op = .indexAddr T x idx)
    (hu : P.underlying T = some (.slice e)) (hi : (P.info? e).map (·.size) = some K) (hx : cn t' x = some (.v (.slice A len cap))) (hidx : cn t' idx = some (.v (.int kd (j : Int))))
    (hlt : j < len) (hf : f ∈ fs) (hsl : ∀ w, f.p w → Sl w (.slice A len cap) K rs) (hblk : ∀ b, (rs ≠ [] ∧ vblk (.slice A len cap) = some b) → f.blk b) (hrow : rs[j]? = some row)
    (hn : XL P n w0 ops QX (l.drop (k + 1)) ⟨bO t' o.dst (.r (lenR r) 0), b, addRow r row, fs⟩) : XL P n w0 ops QX l ⟨t, b, r, fs⟩ := xl_index k ks ⟨t', b, r, fs⟩ j row f h ho hw hd hop hu hi hx hidx hlt hf hsl hblk hrow hn
variable {fuel : Nat} {listed : Array Bool} {B : List Box} {R : List (List Value)} {ρ : Nat → Nat} {σ : Nat → Nat × Nat}
theorem xe_nv (ks : List Nat) (us us' : List (Nat × AV)) (h : us = us') (hu : bE us t ks = t) (h1 : XE P n w0 ops QX fuel listed B R ρ σ ⟨bE us' t ks, b, r, fs⟩) : XE P n w0 ops QX fuel listed B R ρ σ ⟨t, b, r, fs⟩ := by
  subst h; rw [hu] at h1; exact h1
end
end
end Go.Proofs.Ytfidgfddgmppdaa
