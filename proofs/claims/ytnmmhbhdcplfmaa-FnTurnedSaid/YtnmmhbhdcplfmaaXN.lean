/- The machine: steps that leave the variables, the rows and the facts as they are. -/
import Derived.Test.YtnmmhbhdcplfmaaXM
namespace Go.Proofs.Ytnmmhbhdcplfmaa
open Go.RowKit
set_option linter.unusedVariables false
@[simp] theorem dropF_0 (f : Fact) (l : List Fact) : dropF (f :: l) 0 = l := rfl
@[simp] theorem dropF_1 (f : Fact) (l : List Fact) : dropF (f :: l) 1 = f :: dropF l 0 := rfl
@[simp] theorem dropF_2 (f : Fact) (l : List Fact) : dropF (f :: l) 2 = f :: dropF l 1 := rfl
@[simp] theorem dropF_3 (f : Fact) (l : List Fact) : dropF (f :: l) 3 = f :: dropF l 2 := rfl
@[simp] theorem dropF_4 (f : Fact) (l : List Fact) : dropF (f :: l) 4 = f :: dropF l 3 := rfl
@[simp] theorem dropF_5 (f : Fact) (l : List Fact) : dropF (f :: l) 5 = f :: dropF l 4 := rfl
@[simp] theorem dropF_6 (f : Fact) (l : List Fact) : dropF (f :: l) 6 = f :: dropF l 5 := rfl
@[simp] theorem dropF_7 (f : Fact) (l : List Fact) : dropF (f :: l) 7 = f :: dropF l 6 := rfl
@[simp] theorem dropF_8 (f : Fact) (l : List Fact) : dropF (f :: l) 8 = f :: dropF l 7 := rfl
@[simp] theorem dropF_9 (f : Fact) (l : List Fact) : dropF (f :: l) 9 = f :: dropF l 8 := rfl
@[simp] theorem dropF_10 (f : Fact) (l : List Fact) : dropF (f :: l) 10 = f :: dropF l 9 := rfl
@[simp] theorem dropF_11 (f : Fact) (l : List Fact) : dropF (f :: l) 11 = f :: dropF l 10 := rfl
@[simp] theorem dropF_12 (f : Fact) (l : List Fact) : dropF (f :: l) 12 = f :: dropF l 11 := rfl
@[simp] theorem dropF_13 (f : Fact) (l : List Fact) : dropF (f :: l) 13 = f :: dropF l 12 := rfl
def updT (us : List (Nat × AV)) (t : List (Nat × AV)) : List Nat → List (Nat × AV)
  | [] => []
  | k :: ks => match lkp us k with
    | some v => (k, v) :: updT us t ks
    | none => match lkp t k with
      | some v => (k, v) :: updT us t ks
      | none => updT us t ks
def setBx : List Box → Nat → Box → List Box
  | [], _, _ => []
  | _ :: l, 0, x => x :: l
  | b :: l, j + 1, x => b :: setBx l j x
def xfgt (m r : Nat) (ks : List Nat) (s : St) : Option St := if Nat.ble m (lenB s.boxes) && Nat.ble r s.rows.length then xforget m r ks s else none
theorem wkf (m r : Nat) (ks : List Nat) {s s' : St} (h : xfgt m r ks s = some s') : Wk s s' := by
  unfold xfgt at h
  split at h
  · rename_i hb
    simp only [Bool.and_eq_true] at hb
    exact wk_forget m r ks h hb.1 hb.2
  · cases h
section
variable {P : Program} {n : Nat} {w0 : World} {QX : Exit → St → Prop} {ops : Array Oper} {l : List Oper} {t t' : List (Nat × AV)} {b : List Box} {r : List (List Value)} {fs : List Fact}
theorem xl_indexD (k : Nat) (ks : List Nat) (us : List (Nat × AV)) {o : Oper} {T e : TypeId} {x idx : Operand} {K len cap : Nat} {A : Option Addr} {kd : IntKind} (j : Nat) {rs : List (List Value)} (row : List Value) (f : Fact)
    (h : xpart P n ops l k ks ⟨t, b, r, fs⟩ = some ⟨updT us t ks, b, r, fs⟩) (ho : l[k]? = some o) (hw : xwanted ops (updT us t ks) o = some true) (hd : dstOk n o.dst = true) (hop : o.op = .indexAddr T x idx)
    (hu : P.underlying T = some (.slice e)) (hi : (P.info? e).map (·.size) = some K) (hx : opv (updT us t ks) x = some (.v (.slice A len cap))) (hidx : opv (updT us t ks) idx = some (.v (.int kd (j : Int))))
    (hlt : j < len) (hf : f ∈ fs) (hsl : ∀ w, f.p w → Sl w (.slice A len cap) K rs) (hblk : ∀ b, (rs ≠ [] ∧ vblk (.slice A len cap) = some b) → f.blk b) (hrow : rs[j]? = some row)
    (hn : XL P n w0 ops QX (l.drop (k + 1)) ⟨putT (updT us t ks) o.dst (.r (lenR r) 0), b, addRow r row, fs⟩) : XL P n w0 ops QX l ⟨t, b, r, fs⟩ := xl_index k ks ⟨updT us t ks, b, r, fs⟩ j row f h ho hw hd hop hu hi hx hidx hlt hf hsl hblk hrow hn
theorem xl_eqS (h : t = t') (h1 : XL P n w0 ops QX l ⟨t', b, r, fs⟩) : XL P n w0 ops QX l ⟨t, b, r, fs⟩ := h ▸ h1
theorem xl_indexS (k : Nat) (ks : List Nat) (t' : List (Nat × AV)) {o : Oper} {T e : TypeId} {x idx : Operand} {K len cap : Nat} {A : Option Addr} {kd : IntKind} (j : Nat) {rs : List (List Value)} (row : List Value) (f : Fact)
    (h : xpart P n ops l k ks ⟨t, b, r, fs⟩ = some ⟨t', b, r, fs⟩) (ho : l[k]? = some o) (hw : xwanted ops t' o = some true) (hd : dstOk n o.dst = true) (hop : o.op = .indexAddr T x idx)
    (hu : P.underlying T = some (.slice e)) (hi : (P.info? e).map (·.size) = some K) (hx : opv t' x = some (.v (.slice A len cap))) (hidx : opv t' idx = some (.v (.int kd (j : Int))))
    (hlt : j < len) (hf : f ∈ fs) (hsl : ∀ w, f.p w → Sl w (.slice A len cap) K rs) (hblk : ∀ b, (rs ≠ [] ∧ vblk (.slice A len cap) = some b) → f.blk b) (hrow : rs[j]? = some row)
    (hn : XL P n w0 ops QX (l.drop (k + 1)) ⟨putT t' o.dst (.r (lenR r) 0), b, addRow r row, fs⟩) : XL P n w0 ops QX l ⟨t, b, r, fs⟩ := xl_index k ks ⟨t', b, r, fs⟩ j row f h ho hw hd hop hu hi hx hidx hlt hf hsl hblk hrow hn
variable {fuel : Nat} {listed : Array Bool} {B : List Box} {R : List (List Value)} {ρ : Nat → Nat} {σ : Nat → Nat × Nat}
theorem xe_eqS (h : t = t') (h1 : XE P n w0 ops QX fuel listed B R ρ σ ⟨t', b, r, fs⟩) : XE P n w0 ops QX fuel listed B R ρ σ ⟨t, b, r, fs⟩ := h ▸ h1
end
end Go.Proofs.Ytnmmhbhdcplfmaa
