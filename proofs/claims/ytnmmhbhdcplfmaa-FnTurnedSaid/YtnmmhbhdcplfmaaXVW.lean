/- The machine, in short: calls that write, in draws. -/
import Derived.Test.YtnmmhbhdcplfmaaXQ
import Derived.Test.YtnmmhbhdcplfmaaXV
namespace Go.Proofs.Ytnmmhbhdcplfmaa
open Go.RowKit
set_option linter.unusedVariables false
section
variable {P : Program} {n : Nat} {w0 : World} {QX : Exit → St → Prop} {ops : Array Oper} {l : List Oper} {st st' : St} {t t' : List (Nat × AV)} {b : List Box} {r : List (List Value)} {fs : List Fact}
theorem kWS (k : Nat) (ks : List Nat) (t' : List (Nat × AV)) (f : FuncId) (args : List Value) (d : Option Nat) {α : Type} {F : α → Value} {G : α → List Fact} {o : Oper} (i : Nat) {fi : Fact} (ho : l[k]? = some o) (hi : fs[i]? = some fi) (hlo : ∀ w b, fi.p w → fi.blk b → w0.heap.size ≤ b) (hk : XCM P w0 fs fi.blk f args F G)
    (hn : ∀ y, XL P n w0 ops QX (l.drop (k + 1)) ⟨putT t' d (.v (F y)), b, [], G y ++ dropF fs i⟩) (hown : fi.own = true := by rfl) (h : xpart P n ops l k ks ⟨t, b, r, fs⟩ = some ⟨t', b, r, fs⟩ := by kernel_rfl) (hc : xcallee ops ⟨t', b, r, fs⟩ o = some (f, args, d) := by kernel_rfl) (hd : dstOk n d = true := by kernel_rfl) (hf : fnOk P f = true := by kernel_rfl) (hrows : allT (lenB b) 0 t' = true := by kernel_rfl) : XL P n w0 ops QX l ⟨t, b, r, fs⟩ := xl_callW k ks ⟨t', b, r, fs⟩ f args d i fi h ho hc hd hf hi hown hlo hrows hk hn
theorem kWD (k : Nat) (ks : List Nat) (us : List (Nat × AV)) (f : FuncId) (args : List Value) (d : Option Nat) {α : Type} {F : α → Value} {G : α → List Fact} {o : Oper} (i : Nat) {fi : Fact} (ho : l[k]? = some o) (hi : fs[i]? = some fi) (hlo : ∀ w b, fi.p w → fi.blk b → w0.heap.size ≤ b) (hk : XCM P w0 fs fi.blk f args F G)
    (hn : ∀ y, XL P n w0 ops QX (l.drop (k + 1)) ⟨putT (updT us t ks) d (.v (F y)), b, [], G y ++ dropF fs i⟩) (hown : fi.own = true := by rfl) (h : xpart P n ops l k ks ⟨t, b, r, fs⟩ = some ⟨updT us t ks, b, r, fs⟩ := by kernel_rfl) (hc : xcallee ops ⟨updT us t ks, b, r, fs⟩ o = some (f, args, d) := by kernel_rfl) (hd : dstOk n d = true := by kernel_rfl) (hf : fnOk P f = true := by kernel_rfl) (hrows : allT (lenB b) 0 (updT us t ks) = true := by kernel_rfl) : XL P n w0 ops QX l ⟨t, b, r, fs⟩ := xl_callW k ks ⟨updT us t ks, b, r, fs⟩ f args d i fi h ho hc hd hf hi hown hlo hrows hk hn
variable {fuel : Nat} {listed : Array Bool} {B : List Box} {R : List (List Value)} {ρ : Nat → Nat} {σ : Nat → Nat × Nat}
theorem kSW (i : Nat) (f : FuncId) (args : List Value) (d : Option Nat) {α : Type} {F : α → Value} {G : α → List Fact} {o : Oper} (k : Nat) {fi : Fact} (hi : ops[i]? = some o) (hfi : st.facts[k]? = some fi) (hlo : ∀ w b, fi.p w → fi.blk b → w0.heap.size ≤ b) (hB : Under B st.boxes) (hk : XCM P w0 st.facts fi.blk f args F G)
    (h : ∀ y, XE P n w0 ops QX fuel (listed.setIfInBounds i true) B [] ρ σ ⟨putT st.tmps d (.v (F y)), st.boxes, [], G y ++ dropF st.facts k⟩) (hown : fi.own = true := by rfl) (hc : xcallee ops st o = some (f, args, d) := by kernel_rfl) (hd : dstOk n d = true := by kernel_rfl) (hf : fnOk P f = true := by kernel_rfl) (hrows : allT (lenB st.boxes) 0 st.tmps = true := by kernel_rfl) : XEs P n w0 ops QX fuel listed B [] ρ σ st i := xs_callW i f args d k fi hi hc hd hf hfi hown hlo hrows hB rfl hk h
end
end Go.Proofs.Ytnmmhbhdcplfmaa
