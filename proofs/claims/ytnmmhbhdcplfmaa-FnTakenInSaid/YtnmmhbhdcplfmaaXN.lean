/- The machine: steps that leave the variables, the rows and the facts as they are. -/
import Derived.Test.YtnmmhbhdcplfmaaXM
namespace Go.Proofs.Ytnmmhbhdcplfmaa
open Go.RowKit
set_option linter.unusedVariables false
@[simp] theorem dropF_0 (f : Fact) (l : List Fact) : dropF (f :: l) 0 = l := rfl
@[simp] theorem dropF_1 (f : Fact) (l : List Fact) : dropF (f :: l) 1 = f :: dropF l 0 := rfl
@[simp] theorem dropF_2 (f : Fact) (l : List Fact) : dropF (f :: l) 2 = f :: dropF l 1 := rfl
@[simp] theorem dropF_3 (f : Fact) (l : List Fact) : dropF (f :: l) 3 = f :: dropF l 2 := rfl
@[simp] theorem dropF_4 (f : Fact) (l : List Fact) : dropF (f :: l) 4 = f :: dropF l 3 := rfl
@[simp] theorem dropF_5 (f : Fact) (l : List Fact) : dropF (f :: l) 5 = f :: dropF l 4 := rfl
@[simp] theorem dropF_6 (f : Fact) (l : List Fact) : dropF (f :: l) 6 = f :: dropF l 5 := rfl
@[simp] theorem dropF_7 (f : Fact) (l : List Fact) : dropF (f :: l) 7 = f :: dropF l 6 := rfl
@[simp] theorem dropF_8 (f : Fact) (l : List Fact) : dropF (f :: l) 8 = f :: dropF l 7 := rfl
@[simp] theorem dropF_9 (f : Fact) (l : List Fact) : dropF (f :: l) 9 = f :: dropF l 8 := rfl
@[simp] theorem dropF_10 (f : Fact) (l : List Fact) : dropF (f :: l) 10 = f :: dropF l 9 := rfl
@[simp] theorem dropF_11 (f : Fact) (l : List Fact) : dropF (f :: l) 11 = f :: dropF l 10 := rfl
@[simp] theorem dropF_12 (f : Fact) (l : List Fact) : dropF (f :: l) 12 = f :: dropF l 11 := rfl
@[simp] theorem dropF_13 (f : Fact) (l : List Fact) : dropF (f :: l) 13 = f :: dropF l 12 := rfl
section
variable {P : Program} {n : Nat} {w0 : World} {QX : Exit → St → Prop} {ops : Array Oper} {l : List Oper} {t t' : List (Nat × AV)} {b : List Box} {r : List (List Value)} {fs : List Fact}
theorem xl_runS (k : Nat) (ks : List Nat) (t' : List (Nat × AV)) (h : xpart P n ops l k ks ⟨t, b, r, fs⟩ = some ⟨t', b, r, fs⟩) (hn : XL P n w0 ops QX (l.drop k) ⟨t', b, r, fs⟩) : XL P n w0 ops QX l ⟨t, b, r, fs⟩ := xl_run k ks _ h hn
theorem xl_endS (ks : List Nat) (t' : List (Nat × AV)) (h : xpart P n ops l l.length ks ⟨t, b, r, fs⟩ = some ⟨t', b, r, fs⟩) (hn : QX .normal ⟨t', b, r, fs⟩) : XL P n w0 ops QX l ⟨t, b, r, fs⟩ := xl_end ks _ h hn
theorem xl_eqS (h : t = t') (h1 : XL P n w0 ops QX l ⟨t', b, r, fs⟩) : XL P n w0 ops QX l ⟨t, b, r, fs⟩ := h ▸ h1
theorem xl_opS (k : Nat) (ks : List Nat) (t' : List (Nat × AV)) (v : Value) {o : Oper} (h : xpart P n ops l k ks ⟨t, b, r, fs⟩ = some ⟨t', b, r, fs⟩) (ho : l[k]? = some o) (hw : xwanted ops t' o = some true) (hd : dstOk n o.dst = true)
    (hrun : ∀ (ρ : Nat → Nat) (σ : Nat → Nat × Nat) (a : Act) (w : World), XRep n w0 ⟨t', b, r, fs⟩ ρ σ a w → (execOp a.eval o).run P w = .ok (.value v) w)
    (hn : XL P n w0 ops QX (l.drop (k + 1)) ⟨putT t' o.dst (.v v), b, r, fs⟩) : XL P n w0 ops QX l ⟨t, b, r, fs⟩ := xl_op k ks ⟨t', b, r, fs⟩ v h ho hw hd hrun hn
theorem xl_callS (k : Nat) (ks : List Nat) (t' : List (Nat × AV)) (f : FuncId) (args : List Value) (d : Option Nat) {α : Type} {F : α → Value} {G : α → List Fact} {o : Oper}
    (h : xpart P n ops l k ks ⟨t, b, r, fs⟩ = some ⟨t', b, r, fs⟩) (ho : l[k]? = some o) (hc : xcallee ops ⟨t', b, r, fs⟩ o = some (f, args, d)) (hd : dstOk n d = true) (hf : fnOk P f = true)
    (hk : XC P w0 fs f args F G)
    (hn : ∀ y, XL P n w0 ops QX (l.drop (k + 1)) ⟨putT t' d (.v (F y)), b, r, G y ++ fs⟩) : XL P n w0 ops QX l ⟨t, b, r, fs⟩ := xl_call k ks ⟨t', b, r, fs⟩ f args d h ho hc hd hf hk hn
theorem xl_callWS (k : Nat) (ks : List Nat) (t' : List (Nat × AV)) (f : FuncId) (args : List Value) (d : Option Nat) {α : Type} {F : α → Value} {G : α → List Fact} {o : Oper} (i : Nat) (fi : Fact)
    (h : xpart P n ops l k ks ⟨t, b, r, fs⟩ = some ⟨t', b, r, fs⟩) (ho : l[k]? = some o) (hc : xcallee ops ⟨t', b, r, fs⟩ o = some (f, args, d)) (hd : dstOk n d = true) (hf : fnOk P f = true)
    (hi : fs[i]? = some fi) (hown : fi.own = true) (hlo : ∀ w b, fi.p w → fi.blk b → w0.heap.size ≤ b) (hrows : allT (lenB b) 0 t' = true)
    (hk : XCM P w0 fs fi.blk f args F G)
    (hn : ∀ y, XL P n w0 ops QX (l.drop (k + 1)) ⟨putT t' d (.v (F y)), b, [], G y ++ dropF fs i⟩) : XL P n w0 ops QX l ⟨t, b, r, fs⟩ := xl_callW k ks ⟨t', b, r, fs⟩ f args d i fi h ho hc hd hf hi hown hlo hrows hk hn
theorem xl_indexS (k : Nat) (ks : List Nat) (t' : List (Nat × AV)) {o : Oper} {T e : TypeId} {x idx : Operand} {K len cap : Nat} {A : Option Addr} {kd : IntKind} (j : Nat) {rs : List (List Value)} (row : List Value) (f : Fact)
    (h : xpart P n ops l k ks ⟨t, b, r, fs⟩ = some ⟨t', b, r, fs⟩) (ho : l[k]? = some o) (hw : xwanted ops t' o = some true) (hd : dstOk n o.dst = true) (hop : o.op = .indexAddr T x idx)
    (hu : P.underlying T = some (.slice e)) (hi : (P.info? e).map (·.size) = some K) (hx : opv t' x = some (.v (.slice A len cap))) (hidx : opv t' idx = some (.v (.int kd (j : Int))))
    (hlt : j < len) (hf : f ∈ fs) (hsl : ∀ w, f.p w → Sl w (.slice A len cap) K rs) (hblk : ∀ b, (rs ≠ [] ∧ vblk (.slice A len cap) = some b) → f.blk b) (hrow : rs[j]? = some row)
    (hn : XL P n w0 ops QX (l.drop (k + 1)) ⟨putT t' o.dst (.r (lenR r) 0), b, addRow r row, fs⟩) : XL P n w0 ops QX l ⟨t, b, r, fs⟩ := xl_index k ks ⟨t', b, r, fs⟩ j row f h ho hw hd hop hu hi hx hidx hlt hf hsl hblk hrow hn
theorem xl_hvS {α : Type} {F : α → Value} {G : α → List Fact} (k : Nat) (ks : List Nat) (t' : List (Nat × AV)) {o : Oper} (h : xpart P n ops l k ks ⟨t, b, r, fs⟩ = some ⟨t', b, r, fs⟩) (ho : l[k]? = some o) (hw : xwanted ops t' o = some true) (hd : dstOk n o.dst = true)
    (hr : allT (lenB b) 0 t' = true) (hk : HV P n w0 ⟨t', b, r, fs⟩ o F G)
    (hn : ∀ y, XL P n w0 ops QX (l.drop (k + 1)) ⟨putT t' o.dst (.v (F y)), b, [], G y⟩) : XL P n w0 ops QX l ⟨t, b, r, fs⟩ := xl_hv k ks ⟨t', b, r, fs⟩ h ho hw hd hr hk hn
variable {fuel : Nat} {listed : Array Bool} {B : List Box} {R : List (List Value)} {ρ : Nat → Nat} {σ : Nat → Nat × Nat}
theorem xe_tkS (is ks : List Nat) (f' : Nat) (t' : List (Nat × AV)) (hp : ∀ c s, ¬ QX (.panic c) s) (hf : fuel = is.length + f') (hx : xtk P n ops B R ks is listed ⟨t, b, r, fs⟩ = some ⟨t', b, r, fs⟩)
    (h : XE P n w0 ops QX f' (setAll listed is) B R ρ σ ⟨t', b, r, fs⟩) : XE P n w0 ops QX fuel listed B R ρ σ ⟨t, b, r, fs⟩ := xe_tk is ks f' _ hp hf hx h
theorem xe_eqS (h : t = t') (h1 : XE P n w0 ops QX fuel listed B R ρ σ ⟨t', b, r, fs⟩) : XE P n w0 ops QX fuel listed B R ρ σ ⟨t, b, r, fs⟩ := h ▸ h1
end
end Go.Proofs.Ytnmmhbhdcplfmaa
