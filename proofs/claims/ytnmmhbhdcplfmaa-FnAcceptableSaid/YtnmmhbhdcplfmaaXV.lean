/- The machine, in short: what can be reckoned is reckoned by itself. -/
import Derived.Test.YtnmmhbhdcplfmaaXN
namespace Go.Proofs.Ytnmmhbhdcplfmaa
open Go.RowKit
set_option linter.unusedVariables false
section
variable {α : Type} {a b c d e f g h : α} {l : List α}
theorem m0 : a ∈ a :: l := .head _
theorem m1 : b ∈ a :: b :: l := .tail _ (.head _)
theorem m2 : c ∈ a :: b :: c :: l := .tail _ m1
theorem m3 : d ∈ a :: b :: c :: d :: l := .tail _ m2
theorem m4 : e ∈ a :: b :: c :: d :: e :: l := .tail _ m3
end
section
variable {w w' : World} {B B0 K e : Nat} {v : Value} {rs : List (List Value)}
theorem pO (h : (ownF B0 v K rs).p w') (hB : B ≤ B0) : (ownF B v K rs).p w' ∧ ∀ b, (ownF B v K rs).blk b → B0 ≤ b := ⟨ownF_ownF h hB, fun b hb => ownF_lo h hb⟩
theorem pR (h : (rowF B0 e K v rs).p w') (hB : B ≤ B0) : (ownF B v K rs).p w' ∧ ∀ b, (ownF B v K rs).blk b → B0 ≤ b := ⟨rowF_ownF h hB, fun b hb => rowF_lo h (rowF_blk hb)⟩
theorem pW (h : (rowF B0 e K v rs).p w') (hB : B ≤ B0) : (rowF B e K v rs).p w' ∧ ∀ b, (rowF B e K v rs).blk b → B0 ≤ b := ⟨rowF_lower h hB, fun b hb => rowF_lo h hb⟩
theorem xo1 {α : Type} {F : α → Value} {G : α → List Fact} (y : α) {v : Value} {f : Fact} (hv : v = F y) (hG : G y = [f]) (p : f.p w' ∧ ∀ b, f.blk b → w.heap.size ≤ b) (hb : Below w.heap.size w w') : XRs w w' (.returned v) F G := xr_one y hv hG p.1 p.2 hb
theorem xo2 {α : Type} {F : α → Value} {G : α → List Fact} (y : α) {v : Value} {f g : Fact} (hv : v = F y) (hG : G y = [f, g]) (p : f.p w' ∧ ∀ b, f.blk b → w.heap.size ≤ b) (q : g.p w' ∧ ∀ b, g.blk b → w.heap.size ≤ b) (ha : Apart [f, g]) (hb : Below w.heap.size w w') : XRs w w' (.returned v) F G := xr_two y hv hG p.1 p.2 q.1 q.2 ha hb
end
section
variable {P : Program} {n : Nat} {w0 : World} {QX : Exit → St → Prop} {ops : Array Oper} {l : List Oper} {st st' : St} {t t' : List (Nat × AV)} {b : List Box} {r : List (List Value)} {fs : List Fact}
theorem kQ {y : Code} {id : Nat} {l : List Oper} (h : XL P n w0 l.toArray (QSeq P n w0 y QX) l st) : XW P n w0 QX (.seq (.region id l.toArray false) y) st := xw_seq (xw_region h)
theorem kS {x y : Code} (h : XW P n w0 (QSeq P n w0 y QX) x st) : XW P n w0 QX (.seq x y) st := xw_seq h
theorem kR (h : QX .ret st) : XW P n w0 QX .ret st := xw_ret h
theorem kK (h : QX .normal st) : XW P n w0 QX .skip st := xw_skip h
theorem kG {id : Nat} {l : List Oper} (h : XL P n w0 l.toArray QX l st) : XW P n w0 QX (.region id l.toArray false) st := xw_region h
theorem kF (m r : Nat) (ks : List Nat) {s s' : St} (h : xfgt m r ks s = some s' := by kernel_rfl) : Wk s s' := wkf m r ks h
theorem kC {c : Operand} {x y : Code} (b : Bool) (h1 : b = true → XW P n w0 QX x st) (h2 : b = false → XW P n w0 QX y st) (hc : opv st.tmps c = some (.v (.bool b)) := by kernel_rfl) : XW P n w0 QX (.cond c x y) st := xw_cond hc h1 h2
theorem kT {c : Operand} {x y : Code} (h1 : XW P n w0 QX x st) (hc : opv st.tmps c = some (.v (.bool true)) := by kernel_rfl) : XW P n w0 QX (.cond c x y) st := xw_true hc h1
theorem kN {c : Operand} {x y : Code} (h1 : XW P n w0 QX y st) (hc : opv st.tmps c = some (.v (.bool false)) := by kernel_rfl) : XW P n w0 QX (.cond c x y) st := xw_false hc h1
theorem kP (t : Nat) (b : Bool) (h1 : b = true → XL P n w0 ops QX l ⟨putT st.tmps (some t) (.v (.bool true)), st.boxes, st.rows, st.facts⟩)
    (h2 : b = false → XL P n w0 ops QX l ⟨putT st.tmps (some t) (.v (.bool false)), st.boxes, st.rows, st.facts⟩) (h : lkp st.tmps t = some (.v (.bool b)) := by kernel_rfl) : XL P n w0 ops QX l st := xl_split t h h1 h2
theorem kRF (k : Nat) (ks : List Nat) (st' : St) (hn : XL P n w0 ops QX (l.drop k) st') (h : xpart P n ops l k ks st = some st' := by kernel_rfl) : XL P n w0 ops QX l st := xl_run k ks st' h hn
theorem kRS (k : Nat) (ks : List Nat) (t' : List (Nat × AV)) (hn : XL P n w0 ops QX (l.drop k) ⟨t', b, r, fs⟩) (h : xpart P n ops l k ks ⟨t, b, r, fs⟩ = some ⟨t', b, r, fs⟩ := by kernel_rfl) : XL P n w0 ops QX l ⟨t, b, r, fs⟩ := xl_run k ks _ h hn
theorem kRD (k : Nat) (ks : List Nat) (us : List (Nat × AV)) (hn : XL P n w0 ops QX (l.drop k) ⟨updT us t ks, b, r, fs⟩) (h : xpart P n ops l k ks ⟨t, b, r, fs⟩ = some ⟨updT us t ks, b, r, fs⟩ := by kernel_rfl) : XL P n w0 ops QX l ⟨t, b, r, fs⟩ := xl_run k ks _ h hn
theorem kEF (ks : List Nat) (st' : St) (hn : QX .normal st') (h : xpart P n ops l l.length ks st = some st' := by kernel_rfl) : XL P n w0 ops QX l st := xl_end ks st' h hn
theorem kES (ks : List Nat) (t' : List (Nat × AV)) (hn : QX .normal ⟨t', b, r, fs⟩) (h : xpart P n ops l l.length ks ⟨t, b, r, fs⟩ = some ⟨t', b, r, fs⟩ := by kernel_rfl) : XL P n w0 ops QX l ⟨t, b, r, fs⟩ := xl_end ks _ h hn
theorem kED (ks : List Nat) (us : List (Nat × AV)) (hn : QX .normal ⟨updT us t ks, b, r, fs⟩) (h : xpart P n ops l l.length ks ⟨t, b, r, fs⟩ = some ⟨updT us t ks, b, r, fs⟩ := by kernel_rfl) : XL P n w0 ops QX l ⟨t, b, r, fs⟩ := xl_end ks _ h hn
theorem kEU (ks : List Nat) (us : List (Nat × AV)) (j : Nat) (x : Box) (hn : QX .normal ⟨updT us t ks, setBx b j x, r, fs⟩) (h : xpart P n ops l l.length ks ⟨t, b, r, fs⟩ = some ⟨updT us t ks, setBx b j x, r, fs⟩ := by kernel_rfl) : XL P n w0 ops QX l ⟨t, b, r, fs⟩ := xl_end ks _ h hn
theorem kEA (ks : List Nat) (us : List (Nat × AV)) (x : List Box) (hn : QX .normal ⟨updT us t ks, b ++ x, r, fs⟩) (h : xpart P n ops l l.length ks ⟨t, b, r, fs⟩ = some ⟨updT us t ks, b ++ x, r, fs⟩ := by kernel_rfl) : XL P n w0 ops QX l ⟨t, b, r, fs⟩ := xl_end ks _ h hn
theorem kCS (k : Nat) (ks : List Nat) (t' : List (Nat × AV)) (f : FuncId) (args : List Value) (d : Option Nat) {α : Type} {F : α → Value} {G : α → List Fact} {o : Oper} (ho : l[k]? = some o) (hk : XC P w0 fs f args F G)
    (hn : ∀ y, XL P n w0 ops QX (l.drop (k + 1)) ⟨putT t' d (.v (F y)), b, r, G y ++ fs⟩) (h : xpart P n ops l k ks ⟨t, b, r, fs⟩ = some ⟨t', b, r, fs⟩ := by kernel_rfl) (hc : xcallee ops ⟨t', b, r, fs⟩ o = some (f, args, d) := by kernel_rfl) (hd : dstOk n d = true := by kernel_rfl) (hf : fnOk P f = true := by kernel_rfl) : XL P n w0 ops QX l ⟨t, b, r, fs⟩ := xl_call k ks ⟨t', b, r, fs⟩ f args d h ho hc hd hf hk hn
theorem kCD (k : Nat) (ks : List Nat) (us : List (Nat × AV)) (f : FuncId) (args : List Value) (d : Option Nat) {α : Type} {F : α → Value} {G : α → List Fact} {o : Oper} (ho : l[k]? = some o) (hk : XC P w0 fs f args F G)
    (hn : ∀ y, XL P n w0 ops QX (l.drop (k + 1)) ⟨putT (updT us t ks) d (.v (F y)), b, r, G y ++ fs⟩) (h : xpart P n ops l k ks ⟨t, b, r, fs⟩ = some ⟨updT us t ks, b, r, fs⟩ := by kernel_rfl) (hc : xcallee ops ⟨updT us t ks, b, r, fs⟩ o = some (f, args, d) := by kernel_rfl) (hd : dstOk n d = true := by kernel_rfl) (hf : fnOk P f = true := by kernel_rfl) : XL P n w0 ops QX l ⟨t, b, r, fs⟩ := xl_call k ks ⟨updT us t ks, b, r, fs⟩ f args d h ho hc hd hf hk hn
theorem kHS {α : Type} {F : α → Value} {G : α → List Fact} (k : Nat) (ks : List Nat) (t' : List (Nat × AV)) {o : Oper} (ho : l[k]? = some o) (hk : HV P n w0 ⟨t', b, r, fs⟩ o F G)
    (hn : ∀ y, XL P n w0 ops QX (l.drop (k + 1)) ⟨putT t' o.dst (.v (F y)), b, [], G y⟩) (h : xpart P n ops l k ks ⟨t, b, r, fs⟩ = some ⟨t', b, r, fs⟩ := by kernel_rfl) (hw : xwanted ops t' o = some true := by kernel_rfl) (hd : dstOk n o.dst = true := by kernel_rfl) (hr : allT (lenB b) 0 t' = true := by kernel_rfl) : XL P n w0 ops QX l ⟨t, b, r, fs⟩ := xl_hv k ks ⟨t', b, r, fs⟩ h ho hw hd hr hk hn
theorem kHD {α : Type} {F : α → Value} {G : α → List Fact} (k : Nat) (ks : List Nat) (us : List (Nat × AV)) {o : Oper} (ho : l[k]? = some o) (hk : HV P n w0 ⟨updT us t ks, b, r, fs⟩ o F G)
    (hn : ∀ y, XL P n w0 ops QX (l.drop (k + 1)) ⟨putT (updT us t ks) o.dst (.v (F y)), b, [], G y⟩) (h : xpart P n ops l k ks ⟨t, b, r, fs⟩ = some ⟨updT us t ks, b, r, fs⟩ := by kernel_rfl) (hw : xwanted ops (updT us t ks) o = some true := by kernel_rfl) (hd : dstOk n o.dst = true := by kernel_rfl) (hr : allT (lenB b) 0 (updT us t ks) = true := by kernel_rfl) : XL P n w0 ops QX l ⟨t, b, r, fs⟩ := xl_hv k ks ⟨updT us t ks, b, r, fs⟩ h ho hw hd hr hk hn
theorem kOS (k : Nat) (ks : List Nat) (t' : List (Nat × AV)) (v : Value) {o : Oper} (ho : l[k]? = some o) (hrun : ∀ (ρ : Nat → Nat) (σ : Nat → Nat × Nat) (a : Act) (w : World), XRep n w0 ⟨t', b, r, fs⟩ ρ σ a w → (execOp a.eval o).run P w = .ok (.value v) w)
    (hn : XL P n w0 ops QX (l.drop (k + 1)) ⟨putT t' o.dst (.v v), b, r, fs⟩) (h : xpart P n ops l k ks ⟨t, b, r, fs⟩ = some ⟨t', b, r, fs⟩ := by kernel_rfl) (hw : xwanted ops t' o = some true := by kernel_rfl) (hd : dstOk n o.dst = true := by kernel_rfl) : XL P n w0 ops QX l ⟨t, b, r, fs⟩ := xl_op k ks ⟨t', b, r, fs⟩ v h ho hw hd hrun hn
theorem kOD (k : Nat) (ks : List Nat) (us : List (Nat × AV)) (v : Value) {o : Oper} (ho : l[k]? = some o) (hrun : ∀ (ρ : Nat → Nat) (σ : Nat → Nat × Nat) (a : Act) (w : World), XRep n w0 ⟨updT us t ks, b, r, fs⟩ ρ σ a w → (execOp a.eval o).run P w = .ok (.value v) w)
    (hn : XL P n w0 ops QX (l.drop (k + 1)) ⟨putT (updT us t ks) o.dst (.v v), b, r, fs⟩) (h : xpart P n ops l k ks ⟨t, b, r, fs⟩ = some ⟨updT us t ks, b, r, fs⟩ := by kernel_rfl) (hw : xwanted ops (updT us t ks) o = some true := by kernel_rfl) (hd : dstOk n o.dst = true := by kernel_rfl) : XL P n w0 ops QX l ⟨t, b, r, fs⟩ := xl_op k ks ⟨updT us t ks, b, r, fs⟩ v h ho hw hd hrun hn
variable {fuel : Nat} {listed : Array Bool} {B : List Box} {R : List (List Value)} {ρ : Nat → Nat} {σ : Nat → Nat × Nat}
theorem kTS (is ks : List Nat) (f' : Nat) (t' : List (Nat × AV)) (h : XE P n w0 ops QX f' (setAll listed is) B R ρ σ ⟨t', b, r, fs⟩) (hp : ∀ c s, ¬ QX (.panic c) s := by exact fun _ _ h => h) (hf : fuel = is.length + f' := by kernel_rfl) (hx : xtk P n ops B R ks is listed ⟨t, b, r, fs⟩ = some ⟨t', b, r, fs⟩ := by kernel_rfl) : XE P n w0 ops QX fuel listed B R ρ σ ⟨t, b, r, fs⟩ := xe_tk is ks f' _ hp hf hx h
theorem kTD (is ks : List Nat) (f' : Nat) (us : List (Nat × AV)) (h : XE P n w0 ops QX f' (setAll listed is) B R ρ σ ⟨updT us t ks, b, r, fs⟩) (hp : ∀ c s, ¬ QX (.panic c) s := by exact fun _ _ h => h) (hf : fuel = is.length + f' := by kernel_rfl) (hx : xtk P n ops B R ks is listed ⟨t, b, r, fs⟩ = some ⟨updT us t ks, b, r, fs⟩ := by kernel_rfl) : XE P n w0 ops QX fuel listed B R ρ σ ⟨t, b, r, fs⟩ := xe_tk is ks f' _ hp hf hx h
theorem kZ (h : QX .normal st) (hr : Region.ready .any ops listed = [] := by kernel_rfl) : XE P n w0 ops QX fuel listed B R ρ σ st := xe_done hr h
theorem kY (t : Nat) (b : Bool) (h1 : b = true → XE P n w0 ops QX fuel listed B R ρ σ ⟨putT st.tmps (some t) (.v (.bool true)), st.boxes, st.rows, st.facts⟩)
    (h2 : b = false → XE P n w0 ops QX fuel listed B R ρ σ ⟨putT st.tmps (some t) (.v (.bool false)), st.boxes, st.rows, st.facts⟩) (h : lkp st.tmps t = some (.v (.bool b)) := by kernel_rfl) : XE P n w0 ops QX fuel listed B R ρ σ st := xe_split t h h1 h2
theorem kX (i : Nat) (v : Value) {o : Oper} (hi : ops[i]? = some o) (hrun : ∀ (ρ' : Nat → Nat) (a : Act) (w : World), XAct n st ρ' σ a → (execOp a.eval o).run P w = .ok (.value v) w) (h : XE P n w0 ops QX fuel (listed.setIfInBounds i true) B R ρ σ ⟨putT st.tmps o.dst (.v v), st.boxes, st.rows, st.facts⟩)
    (hs : Region.noSelect ops = true := by kernel_rfl) (hf : Region.free .any ops listed i = true := by kernel_rfl) (hr : (Region.ready .any ops listed).contains i = true := by kernel_rfl) (hp : ∀ c s, ¬ QX (.panic c) s := by exact fun _ _ h => h) (hw : xwanted ops st.tmps o = some true := by kernel_rfl) (hd : dstOk n o.dst = true := by rfl) : XE P n w0 ops QX (fuel + 1) listed B R ρ σ st := xe_op i v _ hi hs hf hr hp hw hd hrun rfl h
theorem kA (l : List Nat) (h : XEa P n w0 ops QX fuel listed B R ρ σ st l) (hr : Region.ready .any ops listed = l := by kernel_rfl) (hne : l ≠ [] := by simp) : XE P n w0 ops QX (fuel + 1) listed B R ρ σ st := xe_all l hr hne h
theorem kSC (i : Nat) (f : FuncId) (args : List Value) (d : Option Nat) {α : Type} {F : α → Value} {G : α → List Fact} {o : Oper} (hi : ops[i]? = some o) (hk : XC P w0 st.facts f args F G)
    (h : ∀ y, XE P n w0 ops QX fuel (listed.setIfInBounds i true) B R ρ σ ⟨putT st.tmps d (.v (F y)), st.boxes, st.rows, G y ++ st.facts⟩) (hc : xcallee ops st o = some (f, args, d) := by kernel_rfl) (hd : dstOk n d = true := by kernel_rfl) (hf : fnOk P f = true := by kernel_rfl) : XEs P n w0 ops QX fuel listed B R ρ σ st i := xs_call i f args d hi hc hd hf hk h
theorem kSV (i : Nat) (x : AV) {o : Oper} (hi : ops[i]? = some o) (h : XE P n w0 ops QX fuel (listed.setIfInBounds i true) B R ρ σ ⟨putT st.tmps o.dst x, st.boxes, st.rows, st.facts⟩) (hw : xwanted ops st.tmps o = some true := by kernel_rfl) (hx : xop P st.tmps st.boxes st.rows o.op = some (.val x) := by kernel_rfl) (hd : dstOk n o.dst = true := by kernel_rfl) : XEs P n w0 ops QX fuel listed B R ρ σ st i := xs_val i x _ hi hw hx hd rfl h
theorem kSS (i j off : Nat) (cs : List Value) {o : Oper} (hi : ops[i]? = some o) (h : XE P n w0 ops QX fuel (listed.setIfInBounds i true) B R ρ σ ⟨putT st.tmps o.dst (.v undef), setBox st.boxes j off cs, st.rows, st.facts⟩) (hR : R = [] ∨ R = st.rows := by first | exact .inr rfl | exact .inl rfl) (hw : xwanted ops st.tmps o = some true := by kernel_rfl) (hx : xop P st.tmps st.boxes st.rows o.op = some (.store j off cs) := by kernel_rfl) (hd : dstOk n o.dst = true := by kernel_rfl)
    (hu : unread B j = true := by kernel_rfl) (hlen : Nat.ble B.length (lenB st.boxes) = true := by kernel_rfl) : XEs P n w0 ops QX fuel listed B R ρ σ st i := xs_store i j off cs _ hi hw hx hd hu hR hlen rfl h
theorem kSR (i : Nat) (v : Value) {o : Oper} (hi : ops[i]? = some o) (hrun : ∀ (ρ' : Nat → Nat) (a : Act) (w : World), XRep n w0 st ρ' σ a w → (execOp a.eval o).run P w = .ok (.value v) w) (h : XE P n w0 ops QX fuel (listed.setIfInBounds i true) B R ρ σ ⟨putT st.tmps o.dst (.v v), st.boxes, st.rows, st.facts⟩) (hw : xwanted ops st.tmps o = some true := by kernel_rfl) (hd : dstOk n o.dst = true := by kernel_rfl) : XEs P n w0 ops QX fuel listed B R ρ σ st i := xs_opR i v _ hi hw hd hrun rfl h
theorem kSH (i : Nat) {α : Type} {F : α → Value} {G : α → List Fact} {o : Oper} (hi : ops[i]? = some o) (hB : Under B st.boxes) (hk : HV P n w0 st o F G)
    (h : ∀ y, XE P n w0 ops QX fuel (listed.setIfInBounds i true) B [] ρ σ ⟨putT st.tmps o.dst (.v (F y)), st.boxes, [], G y⟩) (hw : xwanted ops st.tmps o = some true := by kernel_rfl) (hd : dstOk n o.dst = true := by kernel_rfl) (hr : allT (lenB st.boxes) 0 st.tmps = true := by kernel_rfl) : XEs P n w0 ops QX fuel listed B [] ρ σ st i := xs_hv i hi hw hd hr hB rfl hk h
end
end Go.Proofs.Ytnmmhbhdcplfmaa
