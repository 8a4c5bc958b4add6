/- Plain definitions, the machine and its rules: what this law's contracts need of them, part 2. -/
import Derived.Test.YtnhpmgcllclhfaaG1
import Derived.ArgAppend
/- The machine, in short: what can be reckoned is reckoned by itself. -/
namespace Go.Proofs.Ytnhpmgcllclhfaa
section
open Go.RowKit
set_option linter.unusedVariables false
section
variable {α : Type} {a b c d e f g h : α} {l : List α}
theorem m0 : a ∈ a :: l := .head _
theorem m1 : b ∈ a :: b :: l := .tail _ (.head _)
theorem m2 : c ∈ a :: b :: c :: l := .tail _ m1
theorem m3 : d ∈ a :: b :: c :: d :: l := .tail _ m2
theorem m4 : e ∈ a :: b :: c :: d :: e :: l := .tail _ m3
theorem m5 : f ∈ a :: b :: c :: d :: e :: f :: l := .tail _ m4
theorem m6 : g ∈ a :: b :: c :: d :: e :: f :: g :: l := .tail _ m5
theorem m7 : h ∈ a :: b :: c :: d :: e :: f :: g :: h :: l := .tail _ m6
end
section
variable {w w' : World} {B B0 K e : Nat} {v : Value} {rs : List (List Value)}
theorem pO (h : (aw B0 v K rs).p w') (hB : B ≤ B0) : (aw B v K rs).p w' ∧ ∀ b, (aw B v K rs).blk b → B0 ≤ b := ⟨ownF_ownF h hB, fun b hb => ownF_lo h hb⟩
theorem pR (h : (a8 B0 e K v rs).p w') (hB : B ≤ B0) : (aw B v K rs).p w' ∧ ∀ b, (aw B v K rs).blk b → B0 ≤ b := ⟨rowF_ownF h hB, fun b hb => dU h (rowF_blk hb)⟩
theorem pW (h : (a8 B0 e K v rs).p w') (hB : B ≤ B0) : (a8 B e K v rs).p w' ∧ ∀ b, (a8 B e K v rs).blk b → B0 ≤ b := ⟨rowF_lower h hB, fun b hb => dU h hb⟩
theorem xo1 {α : Type} {F : α → Value} {G : α → List Fact} (y : α) {v : Value} {f : Fact} (hv : v = F y) (hG : G y = [f]) (p : f.p w' ∧ ∀ b, f.blk b → w.heap.size ≤ b) (hb : Below w.heap.size w w') : XRs w w' (.returned v) F G := xr_one y hv hG p.1 p.2 hb
theorem xo2 {α : Type} {F : α → Value} {G : α → List Fact} (y : α) {v : Value} {f g : Fact} (hv : v = F y) (hG : G y = [f, g]) (p : f.p w' ∧ ∀ b, f.blk b → w.heap.size ≤ b) (q : g.p w' ∧ ∀ b, g.blk b → w.heap.size ≤ b) (ha : Apart [f, g]) (hb : Below w.heap.size w w') : XRs w w' (.returned v) F G := xr_two y hv hG p.1 p.2 q.1 q.2 ha hb
end
section
variable {P : Program} {n : Nat} {w0 : World} {QX : Exit → St → Prop} {ops : Array Oper} {l : List Oper} {st st' : St} {t t' : List (Nat × AV)} {b : List Box} {r : List (List Value)} {fs : List Fact}
theorem kQ {y : Code} {id : Nat} {l : List Oper} (h : XL P n w0 l.toArray (QSeq P n w0 y QX) l st) : XW P n w0 QX (.seq (.region id l.toArray false) y) st := xw_seq (xw_region h)
theorem kS {x y : Code} (h : XW P n w0 (QSeq P n w0 y QX) x st) : XW P n w0 QX (.seq x y) st := xw_seq h
theorem kR (h : QX .ret st) : XW P n w0 QX .ret st := xw_ret h
theorem kK (h : QX .normal st) : XW P n w0 QX .skip st := xw_skip h
theorem kG {id : Nat} {l : List Oper} (h : XL P n w0 l.toArray QX l st) : XW P n w0 QX (.region id l.toArray false) st := xw_region h
theorem kPk (m : List Nat) {s' : St} (h2 : Wk ⟨t, b, r, (pickF fs m).getD []⟩ s') (hm : nodupB m = true := by kernel_rfl) (h : (pickF fs m).isSome = true := by kernel_rfl) : Wk ⟨t, b, r, fs⟩ s' := by
  obtain ⟨gs, hg⟩ := Option.isSome_iff_exists.1 h
  rw [hg] at h2
  exact (cV m gs hm hg).trans h2
theorem kF (m r : Nat) (ks : List Nat) {s s' : St} (h : xfgt m r ks s = some s' := by kernel_rfl) : Wk s s' := wkf m r ks h
theorem kC {c : Operand} {x y : Code} (b : Bool) (h1 : b = true → XW P n w0 QX x st) (h2 : b = false → XW P n w0 QX y st) (hc : cl st.tmps c = some (.v (.bool b)) := by kernel_rfl) : XW P n w0 QX (.cond c x y) st := xw_cond hc h1 h2
theorem kT {c : Operand} {x y : Code} (h1 : XW P n w0 QX x st) (hc : cl st.tmps c = some (.v (.bool true)) := by kernel_rfl) : XW P n w0 QX (.cond c x y) st := xw_true hc h1
theorem kN {c : Operand} {x y : Code} (h1 : XW P n w0 QX y st) (hc : cl st.tmps c = some (.v (.bool false)) := by kernel_rfl) : XW P n w0 QX (.cond c x y) st := xw_false hc h1
theorem kP (t : Nat) (b : Bool) (h1 : b = true → XL P n w0 ops QX l ⟨br st.tmps (some t) (.v (.bool true)), st.boxes, st.rows, st.facts⟩)
    (h2 : b = false → XL P n w0 ops QX l ⟨br st.tmps (some t) (.v (.bool false)), st.boxes, st.rows, st.facts⟩) (h : lkp st.tmps t = some (.v (.bool b)) := by kernel_rfl) : XL P n w0 ops QX l st := xl_split t h h1 h2
theorem kRF (k : Nat) (ks : List Nat) (st' : St) (hn : XL P n w0 ops QX (l.drop k) st') (h : bS P n ops l k ks st = some st' := by kernel_rfl) : XL P n w0 ops QX l st := xl_run k ks st' h hn
theorem kRS (k : Nat) (ks : List Nat) (t' : List (Nat × AV)) (hn : XL P n w0 ops QX (l.drop k) ⟨t', b, r, fs⟩) (h : bS P n ops l k ks ⟨t, b, r, fs⟩ = some ⟨t', b, r, fs⟩ := by kernel_rfl) : XL P n w0 ops QX l ⟨t, b, r, fs⟩ := xl_run k ks _ h hn
theorem cW (k : Nat) (ks : List Nat) (us : List (Nat × AV)) (hn : XL P n w0 ops QX (l.drop k) ⟨bL us t ks, b, r, fs⟩) (h : bS P n ops l k ks ⟨t, b, r, fs⟩ = some ⟨bL us t ks, b, r, fs⟩ := by kernel_rfl) : XL P n w0 ops QX l ⟨t, b, r, fs⟩ := xl_run k ks _ h hn
theorem dy (ks : List Nat) (st' : St) (hn : QX .normal st') (h : bS P n ops l l.length ks st = some st' := by kernel_rfl) : XL P n w0 ops QX l st := xl_end ks st' h hn
theorem bX (ks : List Nat) (t' : List (Nat × AV)) (hn : QX .normal ⟨t', b, r, fs⟩) (h : bS P n ops l l.length ks ⟨t, b, r, fs⟩ = some ⟨t', b, r, fs⟩ := by kernel_rfl) : XL P n w0 ops QX l ⟨t, b, r, fs⟩ := xl_end ks _ h hn
theorem aa (ks : List Nat) (us : List (Nat × AV)) (hn : QX .normal ⟨bL us t ks, b, r, fs⟩) (h : bS P n ops l l.length ks ⟨t, b, r, fs⟩ = some ⟨bL us t ks, b, r, fs⟩ := by kernel_rfl) : XL P n w0 ops QX l ⟨t, b, r, fs⟩ := xl_end ks _ h hn
theorem kEU (ks : List Nat) (us : List (Nat × AV)) (j : Nat) (x : Box) (hn : QX .normal ⟨bL us t ks, setBx b j x, r, fs⟩) (h : bS P n ops l l.length ks ⟨t, b, r, fs⟩ = some ⟨bL us t ks, setBx b j x, r, fs⟩ := by kernel_rfl) : XL P n w0 ops QX l ⟨t, b, r, fs⟩ := xl_end ks _ h hn
theorem kEA (ks : List Nat) (us : List (Nat × AV)) (x : List Box) (hn : QX .normal ⟨bL us t ks, b ++ x, r, fs⟩) (h : bS P n ops l l.length ks ⟨t, b, r, fs⟩ = some ⟨bL us t ks, b ++ x, r, fs⟩ := by kernel_rfl) : XL P n w0 ops QX l ⟨t, b, r, fs⟩ := xl_end ks _ h hn
theorem kOF (k : Nat) (ks : List Nat) (st' : St) (v : Value) {o : Oper} (ho : l[k]? = some o) (hrun : ∀ (ρ : Nat → Nat) (σ : Nat → Nat × Nat) (a : Act) (w : World), XRep n w0 st' ρ σ a w → (execOp a.eval o).run P w = .ok (.value v) w)
    (hn : XL P n w0 ops QX (l.drop (k + 1)) ⟨br st'.tmps o.dst (.v v), st'.boxes, st'.rows, st'.facts⟩) (h : bS P n ops l k ks st = some st' := by kernel_rfl) (hw : aS ops st'.tmps o = some true := by kernel_rfl) (hd : bu n o.dst = true := by kernel_rfl) : XL P n w0 ops QX l st := xl_op k ks st' v h ho hw hd hrun hn
theorem kCS (k : Nat) (ks : List Nat) (t' : List (Nat × AV)) (f : FuncId) (args : List Value) (d : Option Nat) {α : Type} {F : α → Value} {G : α → List Fact} {o : Oper} (ho : l[k]? = some o) (hk : XC P w0 fs f args F G)
    (hn : ∀ y, XL P n w0 ops QX (l.drop (k + 1)) ⟨br t' d (.v (F y)), b, r, G y ++ fs⟩) (h : bS P n ops l k ks ⟨t, b, r, fs⟩ = some ⟨t', b, r, fs⟩ := by kernel_rfl) (hc : dn ops ⟨t', b, r, fs⟩ o = some (f, args, d) := by kernel_rfl) (hd : bu n d = true := by kernel_rfl) (hf : fnOk P f = true := by kernel_rfl) : XL P n w0 ops QX l ⟨t, b, r, fs⟩ := xl_call k ks ⟨t', b, r, fs⟩ f args d h ho hc hd hf hk hn
theorem kCD (k : Nat) (ks : List Nat) (us : List (Nat × AV)) (f : FuncId) (args : List Value) (d : Option Nat) {α : Type} {F : α → Value} {G : α → List Fact} {o : Oper} (ho : l[k]? = some o) (hk : XC P w0 fs f args F G)
    (hn : ∀ y, XL P n w0 ops QX (l.drop (k + 1)) ⟨br (bL us t ks) d (.v (F y)), b, r, G y ++ fs⟩) (h : bS P n ops l k ks ⟨t, b, r, fs⟩ = some ⟨bL us t ks, b, r, fs⟩ := by kernel_rfl) (hc : dn ops ⟨bL us t ks, b, r, fs⟩ o = some (f, args, d) := by kernel_rfl) (hd : bu n d = true := by kernel_rfl) (hf : fnOk P f = true := by kernel_rfl) : XL P n w0 ops QX l ⟨t, b, r, fs⟩ := xl_call k ks ⟨bL us t ks, b, r, fs⟩ f args d h ho hc hd hf hk hn
theorem kHS {α : Type} {F : α → Value} {G : α → List Fact} (k : Nat) (ks : List Nat) (t' : List (Nat × AV)) {o : Oper} (ho : l[k]? = some o) (hk : HV P n w0 ⟨t', b, r, fs⟩ o F G)
    (hn : ∀ y, XL P n w0 ops QX (l.drop (k + 1)) ⟨br t' o.dst (.v (F y)), b, [], G y⟩) (h : bS P n ops l k ks ⟨t, b, r, fs⟩ = some ⟨t', b, r, fs⟩ := by kernel_rfl) (hw : aS ops t' o = some true := by kernel_rfl) (hd : bu n o.dst = true := by kernel_rfl) (hr : allT (dx b) 0 t' = true := by kernel_rfl) : XL P n w0 ops QX l ⟨t, b, r, fs⟩ := xl_hv k ks ⟨t', b, r, fs⟩ h ho hw hd hr hk hn
theorem kHD {α : Type} {F : α → Value} {G : α → List Fact} (k : Nat) (ks : List Nat) (us : List (Nat × AV)) {o : Oper} (ho : l[k]? = some o) (hk : HV P n w0 ⟨bL us t ks, b, r, fs⟩ o F G)
    (hn : ∀ y, XL P n w0 ops QX (l.drop (k + 1)) ⟨br (bL us t ks) o.dst (.v (F y)), b, [], G y⟩) (h : bS P n ops l k ks ⟨t, b, r, fs⟩ = some ⟨bL us t ks, b, r, fs⟩ := by kernel_rfl) (hw : aS ops (bL us t ks) o = some true := by kernel_rfl) (hd : bu n o.dst = true := by kernel_rfl) (hr : allT (dx b) 0 (bL us t ks) = true := by kernel_rfl) : XL P n w0 ops QX l ⟨t, b, r, fs⟩ := xl_hv k ks ⟨bL us t ks, b, r, fs⟩ h ho hw hd hr hk hn
theorem kOS (k : Nat) (ks : List Nat) (t' : List (Nat × AV)) (v : Value) {o : Oper} (ho : l[k]? = some o) (hrun : ∀ (ρ : Nat → Nat) (σ : Nat → Nat × Nat) (a : Act) (w : World), XRep n w0 ⟨t', b, r, fs⟩ ρ σ a w → (execOp a.eval o).run P w = .ok (.value v) w)
    (hn : XL P n w0 ops QX (l.drop (k + 1)) ⟨br t' o.dst (.v v), b, r, fs⟩) (h : bS P n ops l k ks ⟨t, b, r, fs⟩ = some ⟨t', b, r, fs⟩ := by kernel_rfl) (hw : aS ops t' o = some true := by kernel_rfl) (hd : bu n o.dst = true := by kernel_rfl) : XL P n w0 ops QX l ⟨t, b, r, fs⟩ := xl_op k ks ⟨t', b, r, fs⟩ v h ho hw hd hrun hn
theorem bD (k : Nat) (ks : List Nat) (us : List (Nat × AV)) (v : Value) {o : Oper} (ho : l[k]? = some o) (hrun : ∀ (ρ : Nat → Nat) (σ : Nat → Nat × Nat) (a : Act) (w : World), XRep n w0 ⟨bL us t ks, b, r, fs⟩ ρ σ a w → (execOp a.eval o).run P w = .ok (.value v) w)
    (hn : XL P n w0 ops QX (l.drop (k + 1)) ⟨br (bL us t ks) o.dst (.v v), b, r, fs⟩) (h : bS P n ops l k ks ⟨t, b, r, fs⟩ = some ⟨bL us t ks, b, r, fs⟩ := by kernel_rfl) (hw : aS ops (bL us t ks) o = some true := by kernel_rfl) (hd : bu n o.dst = true := by kernel_rfl) : XL P n w0 ops QX l ⟨t, b, r, fs⟩ := xl_op k ks ⟨bL us t ks, b, r, fs⟩ v h ho hw hd hrun hn
variable {fuel : Nat} {listed : Array Bool} {B : List Box} {R : List (List Value)} {ρ : Nat → Nat} {σ : Nat → Nat × Nat}
theorem kTS (is ks : List Nat) (f' : Nat) (t' : List (Nat × AV)) (h : XE P n w0 ops QX f' (setAll listed is) B R ρ σ ⟨t', b, r, fs⟩) (hp : ∀ c s, ¬ QX (.panic c) s := by exact fun _ _ h => h) (hf : fuel = is.length + f' := by kernel_rfl) (hx : xtk P n ops B R ks is listed ⟨t, b, r, fs⟩ = some ⟨t', b, r, fs⟩ := by kernel_rfl) : XE P n w0 ops QX fuel listed B R ρ σ ⟨t, b, r, fs⟩ := xe_tk is ks f' _ hp hf hx h
theorem kTD (is ks : List Nat) (f' : Nat) (us : List (Nat × AV)) (h : XE P n w0 ops QX f' (setAll listed is) B R ρ σ ⟨bL us t ks, b, r, fs⟩) (hp : ∀ c s, ¬ QX (.panic c) s := by exact fun _ _ h => h) (hf : fuel = is.length + f' := by kernel_rfl) (hx : xtk P n ops B R ks is listed ⟨t, b, r, fs⟩ = some ⟨bL us t ks, b, r, fs⟩ := by kernel_rfl) : XE P n w0 ops QX fuel listed B R ρ σ ⟨t, b, r, fs⟩ := xe_tk is ks f' _ hp hf hx h
theorem kZ (h : QX .normal st) (hr : Region.ready .any ops listed = [] := by kernel_rfl) : XE P n w0 ops QX fuel listed B R ρ σ st := xe_done hr h
theorem kY (t : Nat) (b : Bool) (h1 : b = true → XE P n w0 ops QX fuel listed B R ρ σ ⟨br st.tmps (some t) (.v (.bool true)), st.boxes, st.rows, st.facts⟩)
    (h2 : b = false → XE P n w0 ops QX fuel listed B R ρ σ ⟨br st.tmps (some t) (.v (.bool false)), st.boxes, st.rows, st.facts⟩) (h : lkp st.tmps t = some (.v (.bool b)) := by kernel_rfl) : XE P n w0 ops QX fuel listed B R ρ σ st := xe_split t h h1 h2
theorem kX (i : Nat) (v : Value) {o : Oper} (hi : ops[i]? = some o) (hrun : ∀ (ρ' : Nat → Nat) (a : Act) (w : World), XAct n st ρ' σ a → (execOp a.eval o).run P w = .ok (.value v) w) (h : XE P n w0 ops QX fuel (listed.setIfInBounds i true) B R ρ σ ⟨br st.tmps o.dst (.v v), st.boxes, st.rows, st.facts⟩)
    (hs : Region.noSelect ops = true := by kernel_rfl) (hf : Region.free .any ops listed i = true := by kernel_rfl) (hr : (Region.ready .any ops listed).contains i = true := by kernel_rfl) (hp : ∀ c s, ¬ QX (.panic c) s := by exact fun _ _ h => h) (hw : aS ops st.tmps o = some true := by kernel_rfl) (hd : bu n o.dst = true := by rfl) : XE P n w0 ops QX (fuel + 1) listed B R ρ σ st := xe_op i v _ hi hs hf hr hp hw hd hrun rfl h
theorem kA (l : List Nat) (h : XEa P n w0 ops QX fuel listed B R ρ σ st l) (hr : Region.ready .any ops listed = l := by kernel_rfl) (hne : l ≠ [] := by simp) : XE P n w0 ops QX (fuel + 1) listed B R ρ σ st := xe_all l hr hne h
theorem kSC (i : Nat) (f : FuncId) (args : List Value) (d : Option Nat) {α : Type} {F : α → Value} {G : α → List Fact} {o : Oper} (hi : ops[i]? = some o) (hk : XC P w0 st.facts f args F G)
    (h : ∀ y, XE P n w0 ops QX fuel (listed.setIfInBounds i true) B R ρ σ ⟨br st.tmps d (.v (F y)), st.boxes, st.rows, G y ++ st.facts⟩) (hc : dn ops st o = some (f, args, d) := by kernel_rfl) (hd : bu n d = true := by kernel_rfl) (hf : fnOk P f = true := by kernel_rfl) : XEs P n w0 ops QX fuel listed B R ρ σ st i := xs_call i f args d hi hc hd hf hk h
theorem kSV (i : Nat) (x : AV) {o : Oper} (hi : ops[i]? = some o) (h : XE P n w0 ops QX fuel (listed.setIfInBounds i true) B R ρ σ ⟨br st.tmps o.dst x, st.boxes, st.rows, st.facts⟩) (hw : aS ops st.tmps o = some true := by kernel_rfl) (hx : xop P st.tmps st.boxes st.rows o.op = some (.val x) := by kernel_rfl) (hd : bu n o.dst = true := by kernel_rfl) : XEs P n w0 ops QX fuel listed B R ρ σ st i := xs_val i x _ hi hw hx hd rfl h
theorem kSS (i j off : Nat) (cs : List Value) {o : Oper} (hi : ops[i]? = some o) (h : XE P n w0 ops QX fuel (listed.setIfInBounds i true) B R ρ σ ⟨br st.tmps o.dst (.v undef), cG st.boxes j off cs, st.rows, st.facts⟩) (hR : R = [] ∨ R = st.rows := by first | exact .inr rfl | exact .inl rfl) (hw : aS ops st.tmps o = some true := by kernel_rfl) (hx : xop P st.tmps st.boxes st.rows o.op = some (.store j off cs) := by kernel_rfl) (hd : bu n o.dst = true := by kernel_rfl)
    (hu : unread B j = true := by kernel_rfl) (hlen : Nat.ble B.length (dx st.boxes) = true := by kernel_rfl) : XEs P n w0 ops QX fuel listed B R ρ σ st i := xs_store i j off cs _ hi hw hx hd hu hR hlen rfl h
theorem kSR (i : Nat) (v : Value) {o : Oper} (hi : ops[i]? = some o) (hrun : ∀ (ρ' : Nat → Nat) (a : Act) (w : World), XRep n w0 st ρ' σ a w → (execOp a.eval o).run P w = .ok (.value v) w) (h : XE P n w0 ops QX fuel (listed.setIfInBounds i true) B R ρ σ ⟨br st.tmps o.dst (.v v), st.boxes, st.rows, st.facts⟩) (hw : aS ops st.tmps o = some true := by kernel_rfl) (hd : bu n o.dst = true := by kernel_rfl) : XEs P n w0 ops QX fuel listed B R ρ σ st i := xs_opR i v _ hi hw hd hrun rfl h
theorem kSH (i : Nat) {α : Type} {F : α → Value} {G : α → List Fact} {o : Oper} (hi : ops[i]? = some o) (hB : Under B st.boxes) (hk : HV P n w0 st o F G)
    (h : ∀ y, XE P n w0 ops QX fuel (listed.setIfInBounds i true) B [] ρ σ ⟨br st.tmps o.dst (.v (F y)), st.boxes, [], G y⟩) (hw : aS ops st.tmps o = some true := by kernel_rfl) (hd : bu n o.dst = true := by kernel_rfl) (hr : allT (dx st.boxes) 0 st.tmps = true := by kernel_rfl) : XEs P n w0 ops QX fuel listed B [] ρ σ st i := xs_hv i hi hw hd hr hB rfl hk h
theorem cN {o : Oper} {T e K bytes len : Nat} {parts : Array (Nat × Operand)} (vs : List Value) {rs : List (List Value)} (hop : o.op = .buildSlice T len parts) (hrs : vs.map (fun v => v.cells.toList) = rs) (hp : appOk P T e K bytes = true := by kernel_rfl) (hv : partV st.tmps parts.toList = some ((vs.zipIdx 0).map fun x => (x.2, x.1)) := by kernel_rfl)
    (hl : Nat.beq vs.length len = true := by kernel_rfl) (hk : allK K vs = true := by kernel_rfl) (hs : Nat.ble (len * K) 16777216 = true := by kernel_rfl) :
    HV P n w0 st o (α := Nat) (fun g => .slice (some ⟨g, 0, none⟩) len len) (fun g => a8 w0.heap.size e K (.slice (some ⟨g, 0, none⟩) len len) rs :: st.facts) := hv_build vs hop hp hv hl hk hs hrs
end
end
/- Plain laws: tables of connections (no program in sight). -/
section
open Go.RowKit
def pl (cs : List CV) : List Con := cs.map (·.1)
def conMax (c : Con) : Prop := c.s.data.size ≤ maxLen ∧ c.r.data.size ≤ maxLen ∧ ∀ p ∈ c.r.held, p.text.size ≤ maxLen
def bp (c : Con) : Prop := c.s.data.size ≤ 1048576 ∧ c.r.data.size ≤ 1048576 ∧ c.r.held.length ≤ 1048576 ∧ ∀ p ∈ c.r.held, p.text.size ≤ 1048576
def ab (t : Tab) (x : Tup) : Int := idxOf (t.conns.findIdx? (fun c => aJ c.1.t x))
def ci (l : List Tup) (x : Tup) : Bool := l.any (fun y => aJ y x)
def cJ (l : List Tup) (x : Tup) : Int := idxOf (l.findIdx? (fun y => aJ y x))
def allI {α : Type} (p : Nat → α → Bool) : List α → Nat → Bool
  | [], _ => true
  | x :: r, i => p i x && allI p r (i + 1)
def cOne (t : Tab) (i : Nat) (c : CV) : Bool := conOk c.1 && decide (ab t c.1.t = (i : Int))
def wOne (t : Tab) (i : Nat) (x : Tup) : Bool := decide (0 ≤ ab t x) && decide (cJ t.waiting x = (i : Int))
def tableOk (t : Tab) (l : Lim) : Bool := limitsOk l && (decide ((t.conns.length : Int) ≤ l.conns) && (decide ((t.waiting.length : Int) ≤ l.waiting) && (allI (cOne t) t.conns 0 && allI (wOne t) t.waiting 0)))
theorem no_step {α : Type} {p : α → Bool} {l : List α} {k : Nat} {x : α} (hx : l[k]? = some x) (h : p x = false) (hk : ∀ (i : Nat) (x : α), i < k → l[i]? = some x → p x = false) : ∀ (i : Nat) (x : α), i < k + 1 → l[i]? = some x → p x = false := fun i y hi hy => by
  rcases Nat.lt_succ_iff_lt_or_eq.1 hi with hi | rfl
  · exact hk i y hi hy
  · rw [hx] at hy; simp only [Option.some.injEq] at hy; subst hy; exact h
theorem findConn_eq {t : Tab} {x : Tup} {k : Nat} {c : CV} (hk : t.conns[k]? = some c) (hp : aJ c.1.t x = true) (hno : ∀ (i : Nat) (h' : CV), i < k → t.conns[i]? = some h' → aJ h'.1.t x = false) : ab t x = (k : Int) := by
  unfold ab; rw [findIdx_eq (p := fun c : CV => aJ c.1.t x) hk hp hno]; rfl
theorem findConn_no {t : Tab} {x : Tup} {k : Nat} (hk : k = t.conns.length) (hno : ∀ (i : Nat) (h' : CV), i < k → t.conns[i]? = some h' → aJ h'.1.t x = false) : ab t x = -1 := by
  unfold ab; rw [findIdx_no (p := fun c : CV => aJ c.1.t x) fun i h' hh => hno i h' (by rw [hk]; exact (List.getElem?_eq_some_iff.1 hh).1) hh]; rfl
theorem idxTup_eq {l : List Tup} {x y : Tup} {k : Nat} (hk : l[k]? = some y) (hp : aJ y x = true) (hno : ∀ (i : Nat) (h' : Tup), i < k → l[i]? = some h' → aJ h' x = false) : cJ l x = (k : Int) := by
  unfold cJ; rw [findIdx_eq (p := fun y => aJ y x) hk hp hno]; rfl
theorem idxTup_no {l : List Tup} {x : Tup} {k : Nat} (hk : k = l.length) (hno : ∀ (i : Nat) (h' : Tup), i < k → l[i]? = some h' → aJ h' x = false) : cJ l x = -1 := by
  unfold cJ; rw [findIdx_no (p := fun y => aJ y x) fun i h' hh => hno i h' (by rw [hk]; exact (List.getElem?_eq_some_iff.1 hh).1) hh]; rfl
theorem isWait_yes {l : List Tup} {x y : Tup} {k : Nat} (hk : l[k]? = some y) (hp : aJ y x = true) : ci l x = true := by
  unfold ci; rw [List.any_eq_true]; exact ⟨y, List.mem_of_getElem? hk, hp⟩
theorem isWait_no {l : List Tup} {x : Tup} {k : Nat} (hk : k = l.length) (hno : ∀ (i : Nat) (h' : Tup), i < k → l[i]? = some h' → aJ h' x = false) : ci l x = false := by
  unfold ci; rw [List.any_eq_false]; intro y hy
  obtain ⟨i, hi⟩ := List.getElem?_of_mem hy
  rw [hno i y (by rw [hk]; exact (List.getElem?_eq_some_iff.1 hi).1) hi]; simp
theorem isWait_idx (l : List Tup) (x : Tup) : ci l x = decide (0 ≤ cJ l x) := by
  unfold ci cJ idxOf
  cases h : l.findIdx? (fun y => aJ y x) with
  | none =>
    rw [List.findIdx?_eq_none_iff] at h
    simp only [show ¬ (0 : Int) ≤ -1 by omega, decide_false, List.any_eq_false]
    intro y hy; rw [h y hy]; simp
  | some i =>
    obtain ⟨h1, h2, -⟩ := List.findIdx?_eq_some_iff_getElem.1 h
    simp only [Int.natCast_nonneg, decide_true, List.any_eq_true]
    exact ⟨_, List.getElem_mem h1, h2⟩
theorem tupEq_comm (a b : Tup) : aJ a b = aJ b a := by unfold aJ; simp only [eq_comm]
theorem pl_len {a b : List CV} (h : pl a = pl b) : a.length = b.length := by
  have := congrArg List.length h; simpa [pl] using this
theorem pl_get {a b : List CV} (h : pl a = pl b) {i : Nat} {x : CV} (hx : a[i]? = some x) : ∃ v, b[i]? = some (x.1, v) := by
  have h1 : (pl a)[i]? = some x.1 := by unfold pl; rw [List.getElem?_map, hx]; rfl
  rw [h] at h1
  unfold pl at h1
  rw [List.getElem?_map] at h1
  cases hb : b[i]? with
  | none => rw [hb] at h1; cases h1
  | some y =>
    rw [hb] at h1
    simp only [Option.map_some, Option.some.injEq] at h1
    obtain ⟨c, v⟩ := y
    exact ⟨v, by simp only at h1; rw [h1]⟩
theorem pl_snoc {L a : List CV} {i : Nat} {x : CV} {v : Value} (h : pl L = (pl a).take i) (hx : a[i]? = some x) : pl (L ++ [(x.1, v)]) = (pl a).take (i + 1) := by
  have h1 : (pl a)[i]? = some x.1 := by unfold pl; rw [List.getElem?_map, hx]; rfl
  rw [List.take_add_one, h1]
  unfold pl at h ⊢
  rw [List.map_append, h]; rfl
theorem pl_take_len {L a : List CV} {i : Nat} (h : pl L = (pl a).take i) (hi : i ≤ a.length) : L.length = i := by
  have := congrArg List.length h
  unfold pl at this
  rw [List.length_map, List.length_take, List.length_map] at this; omega
theorem pl_take_all {L a : List CV} {i : Nat} (h : pl L = (pl a).take i) (hi : i = a.length) : pl L = pl a := by
  rw [h, hi]; unfold pl; rw [List.take_of_length_le (by simp)]
theorem pl_set {L a : List CV} {i : Nat} {x : CV} {v : Value} (h : (pl L).take i = (pl a).take i) (hx : a[i]? = some x) (hl : i < L.length) : (pl (L.set i (x.1, v))).take (i + 1) = (pl a).take (i + 1) := by
  have h1 : (pl a)[i]? = some x.1 := by unfold pl; rw [List.getElem?_map, hx]; rfl
  have h2 : (pl (L.set i (x.1, v)))[i]? = some x.1 := by unfold pl; rw [List.getElem?_map, List.getElem?_set_self hl]; rfl
  rw [List.take_add_one, List.take_add_one, h1, h2, ← h]
  unfold pl
  rw [List.map_set, List.take_set_of_le (Nat.le_refl i)]
theorem findConn_pl {t t' : Tab} (h : pl t.conns = pl t'.conns) (x : Tup) : ab t x = ab t' x := by
  have key : ∀ s : Tab, ab s x = idxOf ((pl s.conns).findIdx? (fun c => aJ c.t x)) := fun s => by
    unfold ab pl; rw [List.findIdx?_map]; rfl
  rw [key, key, h]
theorem cI {a b : List CV} (h : pl a = pl b) (hb : ∀ x ∈ b, bp x.1) : ∀ x ∈ a, bp x.1 := fun x hx => by
  obtain ⟨i, hi⟩ := List.getElem?_of_mem hx
  obtain ⟨v, hv⟩ := pl_get h hi
  exact hb (x.1, v) (List.mem_of_getElem? hv)
theorem pl_snocc (L : List CV) (c : Con) (v : Value) : pl (L ++ [(c, v)]) = pl L ++ [c] := by unfold pl; rw [List.map_append]; rfl
theorem fit_of {cs : List CV} {M : List Con} (h : pl cs = M) (hM : ∀ c ∈ M, bp c) : ∀ x ∈ cs, bp x.1 := fun x hx => hM _ (by rw [← h]; unfold pl; exact List.mem_map_of_mem hx)
theorem len_of {cs : List CV} {M : List Con} (h : pl cs = M) : cs.length = M.length := by rw [← h]; unfold pl; rw [List.length_map]
theorem pl_fit {cs : List CV} (h : ∀ x ∈ cs, bp x.1) : ∀ c ∈ pl cs, bp c := fun c hc => by
  unfold pl at hc
  obtain ⟨x, hx, rfl⟩ := List.mem_map.1 hc
  exact h x hx
def cD (wt : List Tup) (c : Con) : Bool := (c.state == 8) && !ci wt c.t
def cU (t : Tab) : List Con := (pl t.conns).filter fun c => !cD t.waiting c
def az (t : Tab) : List Tup := t.waiting.filter fun x => decide (0 ≤ ab t x)
theorem pl_at {a : List CV} {i : Nat} {x : CV} (hx : a[i]? = some x) : (pl a).take (i + 1) = (pl a).take i ++ [x.1] := by
  have h1 : (pl a)[i]? = some x.1 := by unfold pl; rw [List.getElem?_map, hx]; rfl
  rw [List.take_add_one, h1]; rfl
theorem keep_yes {q : Con → Bool} {L a : List CV} {i : Nat} {x : CV} {v : Value} (h : pl L = ((pl a).take i).filter q) (hx : a[i]? = some x) (hq : q x.1 = true) : pl (L ++ [(x.1, v)]) = ((pl a).take (i + 1)).filter q := by
  rw [pl_snocc, h, pl_at hx, List.filter_append]; simp [hq]
theorem keep_no {q : Con → Bool} {L a : List CV} {i : Nat} {x : CV} (h : pl L = ((pl a).take i).filter q) (hx : a[i]? = some x) (hq : q x.1 = false) : pl L = ((pl a).take (i + 1)).filter q := by
  rw [h, pl_at hx, List.filter_append]; simp [hq]
theorem keep_len {q : Con → Bool} {L a : List CV} {i : Nat} (h : pl L = ((pl a).take i).filter q) : L.length ≤ i := by
  have h1 := congrArg List.length h
  have h2 := List.length_filter_le q ((pl a).take i)
  rw [List.length_take] at h2
  unfold pl at h1 h2
  rw [List.length_map] at h1; omega
theorem keep_all {q : Con → Bool} {L a : List CV} {i : Nat} (h : pl L = ((pl a).take i).filter q) (hi : i = a.length) : pl L = (pl a).filter q := by
  rw [h, hi]; unfold pl; rw [List.take_of_length_le (by simp)]
theorem keepW_yes {q : Tup → Bool} {W a : List Tup} {i : Nat} {x : Tup} (h : W = (a.take i).filter q) (hx : a[i]? = some x) (hq : q x = true) : W ++ [x] = (a.take (i + 1)).filter q := by
  rw [List.take_add_one, hx, List.filter_append, ← h]; simp [hq]
theorem keepW_no {q : Tup → Bool} {W a : List Tup} {i : Nat} {x : Tup} (h : W = (a.take i).filter q) (hx : a[i]? = some x) (hq : q x = false) : W = (a.take (i + 1)).filter q := by
  rw [List.take_add_one, hx, List.filter_append, ← h]; simp [hq]
theorem keepW_len {q : Tup → Bool} {W a : List Tup} {i : Nat} (h : W = (a.take i).filter q) : W.length ≤ i := by
  have h2 := List.length_filter_le q (a.take i)
  rw [← h, List.length_take] at h2; omega
theorem sweepC_fit {t : Tab} (h : ∀ x ∈ t.conns, bp x.1) : ∀ c ∈ cU t, bp c := fun c hc => pl_fit h c (List.mem_filter.1 hc).1
theorem sweepC_len (t : Tab) : (cU t).length ≤ t.conns.length := by
  have := List.length_filter_le (fun c => !cD t.waiting c) (pl t.conns)
  unfold cU; unfold pl at this ⊢; rw [List.length_map] at this; exact this
theorem sweepW_len (t : Tab) : (az t).length ≤ t.waiting.length := List.length_filter_le _ _
theorem sweepC_pl {t t' : Tab} (h : pl t.conns = pl t'.conns) (hw : t.waiting = t'.waiting) : cU t = cU t' := by unfold cU; rw [h, hw]
theorem sweepW_pl {t t' : Tab} (h : pl t.conns = pl t'.conns) (hw : t.waiting = t'.waiting) : az t = az t' := by
  unfold az; rw [hw, show (fun x => decide (0 ≤ ab t x)) = fun x => decide (0 ≤ ab t' x) from funext fun x => by rw [findConn_pl h]]
end
/- The machine: a row of the call's own, cut in place. -/
section
open Go.RowKit
set_option linter.unusedVariables false
set_option linter.unusedSimpArgs false
theorem flat_take {K : Nat} : ∀ {rs : List (List Value)}, (∀ r ∈ rs, r.length = K) → ∀ j : Nat, (rs.take j).flatten = rs.flatten.take (j * K)
  | [], _, j => by simp
  | r :: rs, h, 0 => by simp
  | r :: rs, h, j + 1 => by
    have hr : r.length = K := h r (by simp)
    have ih := flat_take (rs := rs) (fun x hx => h x (by simp [hx])) j
    rw [List.take_succ_cons, List.flatten_cons, List.flatten_cons, ih, List.take_append, List.take_of_length_le (l := r) (by rw [hr, Nat.add_mul]; omega), hr, show (j + 1) * K - K = j * K by rw [Nat.add_mul]; omega]
theorem rowF_cap {w : World} {B e K N cap : Nat} {A : Option Addr} {rs : List (List Value)} (h : (a8 B e K (.slice A N cap) rs).p w) : N ≤ cap := by
  rcases h.1.2 with ⟨h1, h2⟩ | ⟨g, cap', cur, h1, _, _, h2, _⟩
  · simp only [Value.slice.injEq] at h1; omega
  · simp only [Value.slice.injEq] at h1; omega
section
variable {P : Program} {n : Nat} {w0 : World} {QX : Exit → St → Prop} {st st' : St} {ops : Array Oper} {l : List Oper} {ρ : Nat → Nat} {σ : Nat → Nat × Nat} {a : Act}
theorem chgd_cells {w : World} {g o : Nat} {cs : List Value} {S : Nat → Prop} (hS : S g) : Chgd S w (w.setCells g o cs) := by
  obtain ⟨h1, h2, h3⟩ := cd g cs o w
  exact ⟨h1, h2, h3, Nat.le_of_eq (bJ g cs o w).symm, fun k _ hk => aA g cs o w k (fun e => hk (e ▸ hS))⟩
theorem hv_clear {fs' : List Fact} {o : Oper} {c : Call} {x : Operand} {T e K bytes i B : Nat} {A : Option Addr} {N cap q : Nat} {rs : List (List Value)} (z : List Value) (hop : o.op = .call c) (hc : c.callee = .builtin .clear) (hargs : c.args.toList = [x]) (hts : c.argTypes.toList = [T])
    (hp : appOk P T e K bytes = true) (hz : (P.info? e).bind (·.zero) = some (.agg z.toArray)) (hz1 : ∀ u ∈ z, u.oneCell' = true) (hx : cl st.tmps x = some (.v (.slice (if cap = N then A else A.map (·.add (N * K))) (q - N) (cap - N))))
    (hi : st.facts[i]? = some (a8 B e K (.slice A N cap) rs)) (hn : rs.length = N) (hq : N < q) (hqc : q ≤ cap) (hlo : w0.heap.size ≤ B) (hfs : a8 B e K (.slice A N cap) rs :: dropF st.facts i = fs') :
    HV P n w0 st o (α := Unit) (fun _ => .tuple #[]) (fun _ => fs') := fun ρ σ a w hr => by
  subst hn hfs
  have hown := (hr.2.fact _ (List.mem_of_getElem? hi)).1
  obtain ⟨hu, ti, z', hti, hzt, hs, hby, hzs, h0⟩ := dS hp
  obtain ⟨⟨hfl, hor⟩, hK⟩ := hown
  rcases hor with ⟨h1, h2⟩ | ⟨g, cap', cur, h1, hB, hg, hle, hmx, hcs, htk⟩
  · simp only [Value.slice.injEq] at h1; omega
  simp only [Value.slice.injEq] at h1
  obtain ⟨rfl, -, rfl⟩ := h1
  rw [hti] at hz; simp only [Option.bind_some, hzt, Option.some.injEq] at hz; subst hz
  have hqK : q * K ≤ cap * K := Nat.mul_le_mul_right _ hqc
  have hzl : z.length = K := by simpa [Value.cells] using hzs
  generalize hzc : (Builtin.zeroCells (Value.agg z.toArray).cells (q - rs.length)).toList = cs
  have hcl : cs.length = (q - rs.length) * K := by subst hzc; simp [Builtin.zeroCells, Value.cells, hzl]
  have hc1 : ∀ u ∈ cs, u.oneCell' = true := by
    subst hzc
    intro u hu'
    simp only [Builtin.zeroCells, Array.toList_map, List.mem_map] at hu'
    obtain ⟨k, -, rfl⟩ := hu'
    have hk : k % (Value.agg z.toArray).cells.size < (Value.agg z.toArray).cells.size := Nat.mod_lt _ (by simp [Value.cells, hzl]; exact h0)
    rw [getElem!_pos (Value.agg z.toArray).cells _ hk]
    apply hz1
    simp [Value.cells]
  have hfit : rs.length * K + cs.length ≤ cur.size := by rw [hcl, hcs, ← Nat.add_mul]; exact Nat.mul_le_mul_right _ (by omega)
  have hst := run_storeCells_cells (P := P) g (rs.length * K) cs 0 w (fun j hj => by
      rw [cell_of_row w g _ cur e (0, 0) hg, Array.getElem?_eq_getElem (by omega)]; rfl) (fun j hj => frozen_of_row w g _ cur e hg) hc1
  simp only [Nat.add_zero] at hst
  have e2 : c.args = #[x] := by rw [← Array.toArray_toList (xs := c.args), hargs]
  have e3 : c.argTypes = #[T] := by rw [← Array.toArray_toList (xs := c.argTypes), hts]
  have hw2 := cA g cs (rs.length * K) w cur e hg hfit
  refine ⟨(), w.setCells g (rs.length * K) cs, ?_, hr.2.noRows.turn hi rfl (fun b hb => by have : (some g) = some b := hb; simp only [Option.some.injEq] at this; omega) (chgd_cells rfl) _ ⟨⟨hfl, .inr ⟨g, cap, _, rfl, hB, hw2, hle, hmx, ?_, ?_⟩⟩, hK⟩ fun b hb => .inl hb⟩
  · simp only [execOp, hop, resolve, hc, e2, e3, Sem.run_bind, Sem.run_pure, Result.andThen_ok, List.map_toArray, List.map_cons, List.map_nil, aR hr.1 hx, invoke, builtin]
    rw [if_neg (by omega)]
    obtain ⟨m, hm⟩ : ∃ m, q - rs.length = m + 1 := ⟨q - rs.length - 1, by omega⟩
    simp only [Option.map_some, Addr.add_mid, Nat.zero_add]
    have hzv : ∀ w, (zeroValue e).run P w = .ok (.agg z.toArray) w := fun w => by simp [zeroValue, typeInfo, run_program, hti, hzt]
    rw [hm] at hzc ⊢
    simp [Builtin.clear_, run_underlying hu, hzv, hzc, hst]
  · simp only [dw, List.size_toArray, List.length_append, List.length_take, List.length_drop, Array.length_toList]; omega
  · simp only [dw]
    have hl1 : (cur.toList.take (rs.length * K)).length = rs.length * K := by rw [List.length_take, Array.length_toList]; exact Nat.min_eq_left (Nat.le_trans (Nat.le_add_right _ _) hfit)
    rw [List.append_assoc, List.take_append, hl1, Nat.sub_self, List.take_zero, List.append_nil, List.take_of_length_le (by rw [hl1]; exact Nat.le_refl _), htk]
end
end
/- The machine: a variable of the caller's, by its address; calls in drawn regions that write. -/
section
open Go.RowKit
set_option linter.unusedVariables false
set_option linter.unusedSimpArgs false
def cellF (B g T : Nat) (cs : List Value) : Fact where
  own := true
  p := fun w => B ≤ g ∧ w.heap[g]? = some (.cells cs.toArray T (0, 0))
  blk := fun b => b = g
  lt := fun w b h hb => by subst hb; exact (Array.getElem?_eq_some_iff.1 h.2).1
  keep := fun w w' h hs hb => ⟨h.1, (hb g rfl).trans h.2⟩
section
variable {P : Program} {n : Nat} {w0 : World} {QX : Exit → St → Prop} {st st' : St} {ops : Array Oper} {l : List Oper} {ρ : Nat → Nat} {σ : Nat → Nat × Nat} {a : Act}
theorem ao {w : World} {o : Oper} {s fi : Nat} {fs : Array Field} {fd : Field} {x : Operand} {b m q sz : Nat} (h : XAct n st ρ σ a) (ho : o.op = .fieldAddr s x fi)
    (hu : P.underlying s = some (.struct fs)) (hf : fs[fi]? = some fd) (hi : (P.info? fd.type).map (·.size) = some sz) (hz : Nat.beq sz 0 = false) (hx : cl st.tmps x = some (.v (.pointer (some ⟨b, m, none⟩)))) (hq : m + fd.offset = q) :
    (execOp a.eval o).run P w = .ok (.value (.pointer (some ⟨b, q, none⟩))) w := by
  subst hq
  have h1 := aR h hx
  cases hin : P.info? fd.type with
  | none => simp [hin] at hi
  | some inf =>
    have hs : ¬ inf.size = 0 := by
      have : inf.size = sz := by simpa [hin] using hi
      intro e; rw [this] at e; subst e; cases hz
    simp only [execOp, ho, h1, bK, Instr.fieldAt, Sem.run_bind, run_underlying hu, Result.andThen_ok, hf, Instr.sureAddr, Sem.run_pure, fieldPlace, sizeOf, typeInfo, run_program, hin, hs, if_false, Addr.add_mid]
theorem ld_range {w : World} {o : Oper} {t : TypeId} {x : Operand} {g off : Nat} {cs : List Value} {v : Value} (h : XAct n st ρ σ a) (ho : o.op = .load t x) (hx : cl st.tmps x = some (.v (.pointer (some ⟨g, off, none⟩)))) (hr : w.rangeAt g 0 cs) (hv : loadC P t cs off = some v) :
    (execOp a.eval o).run P w = .ok (.value v) w := by
  have := di (P := P) (o0 := 0) hr hv
  rw [Nat.zero_add] at this
  simp only [execOp, ho, aR h hx, Sem.run_bind, this, Result.andThen_ok, Sem.run_pure]
theorem cellF_range {w : World} {B g T : Nat} {cs : List Value} (h : (cellF B g T cs).p w) : w.rangeAt g 0 cs := fun j v hv => by
  rw [Nat.zero_add, cell_of_row w g j _ T (0, 0) h.2]; simpa using hv
theorem ldP_run {w : World} {o : Oper} {t : TypeId} {x : Operand} {B g T off : Nat} {cs : List Value} {v : Value} (hr : XRep n w0 st ρ σ a w) (ho : o.op = .load t x) (hx : cl st.tmps x = some (.v (.pointer (some ⟨g, off, none⟩)))) (hf : cellF B g T cs ∈ st.facts) (hv : loadC P t cs off = some v) :
    (execOp a.eval o).run P w = .ok (.value v) w := ld_range hr.1 ho hx (cellF_range (hr.2.fact _ hf).1) hv
variable {fuel : Nat} {listed : Array Bool} {B : List Box} {R : List (List Value)}
end
end
/- The cursor of the draws: a block of the call's own, of which little is known. -/
section
open Go.RowKit
set_option linter.unusedVariables false
set_option linter.unusedSimpArgs false
theorem x_callsMA {P : Program} {n : Nat} {w0 : World} {f : FuncId} {fn : Func} {c : Code} {args : List Value} (fs : List Fact) (B : Nat) {R : Ending → World → Prop} (hf : P.funcs[f]? = some fn) (hb : fn.body = some c) (hn : fn.ntmps = n) (hl : Nat.ble args.length n = true)
    (hB : B ≤ w0.heap.size) (hfs : ∀ g ∈ fs, g.p w0) (hap : Apart fs) (h : XW P n (cutW w0 B) (XPostA P (cutW w0 B) fn R) c ⟨argT 0 args, [], [], fs⟩) : Calls P f args.toArray w0 R := by
  have hl' : args.length ≤ n := by simpa using hl
  have hA : XAct n ⟨argT 0 args, [], [], fs⟩ id (fun _ => (0, 0)) { tmps := args.toArray ++ Array.replicate (fn.ntmps - args.toArray.size) undef, defers := [] } := by
    refine ⟨?_, rfl, fun t x ht => ?_⟩
    · simp [hn]; omega
    · obtain ⟨-, v, h1, rfl⟩ := argT_lkp args 0 t x ht
      refine ⟨trivial, ?_⟩
      have hlt : t < args.length := (List.getElem?_eq_some_iff.1 h1).1
      simp only [Nat.sub_zero] at h1
      simp only [bK, Array.getD_eq_getD_getElem?]
      rw [Array.getElem?_append_left (by simpa using hlt)]
      simp [h1]
  have hH : XHeap (cutW w0 B) [] [] fs id (fun _ => (0, 0)) w0 := ⟨cutW_below hB, fun i b hi => by simp at hi, fun i j hi => by simp at hi, fun k r hr => by simp at hr, fun g hg => ⟨hfs g hg, fun i hi => by simp at hi⟩, hap⟩
  refine calls_of_wp hf hb (Code.wp_mono (fun e a w hq => ?_) (h _ _ _ w0 ⟨hA, hH⟩))
  obtain ⟨s, ρ, σ, h1, h2⟩ := hq
  cases e <;> first
    | (obtain ⟨vs, g1, g2⟩ := h1
       exact ⟨h2.1.defers, _, xres_run h2 g1, g2 w h2.2.below (fun g hg => (h2.2.fact g hg).1) h2.2.apart⟩)
    | exact h1.elim
end
/- The machine: an element of a row of the call's own, by its address: stores, also in drawn regions. -/
section
open Go.RowKit
set_option linter.unusedVariables false
set_option linter.unusedSimpArgs false
def byteAt (t : ByteArray) (k : Nat) : Int := ((t.data.getD k 0).toNat : Int)
theorem setL_cons {r R cs : List Value} {K a : Nat} (hr : r.length = K) : r ++ dw R a cs = dw (r ++ R) (K + a) cs := by
  subst hr
  simp only [dw]
  rw [List.take_length_add_append, show r.length + a + cs.length = r.length + (a + cs.length) by omega, List.drop_length_add_append]
  simp only [List.append_assoc]
theorem flat_set {K po : Nat} {cs : List Value} : ∀ {rs : List (List Value)} {j : Nat} {row : List Value}, (∀ r ∈ rs, r.length = K) → rs[j]? = some row → po + cs.length ≤ K → (rs.set j (dw row po cs)).flatten = dw rs.flatten (j * K + po) cs
  | [], j, row, _, h, _ => by simp at h
  | r :: rs, 0, row, hK, h, hp => by
    simp only [List.getElem?_cons_zero, Option.some.injEq] at h; subst h
    have hr := hK r (by simp)
    simp only [List.set_cons_zero, List.flatten_cons, dw, Nat.zero_mul, Nat.zero_add]
    rw [List.take_append_of_le_length (by omega), List.drop_append_of_le_length (by omega)]
    simp only [List.append_assoc]
  | r :: rs, j + 1, row, hK, h, hp => by
    simp only [List.getElem?_cons_succ] at h
    have hr := hK r (by simp)
    simp only [List.set_cons_succ, List.flatten_cons]
    rw [flat_set (fun q hq => hK q (by simp [hq])) h hp, setL_cons hr, Nat.succ_mul]
    congr 1; omega
theorem setL_take {l cs : List Value} {o m : Nat} (h : o + cs.length ≤ m) (hm : m ≤ l.length) : (dw l o cs).take m = dw (l.take m) o cs := by
  have hl : (l.take o).length = o := by rw [List.length_take]; omega
  simp only [dw]
  rw [List.append_assoc, List.append_assoc, List.take_append, hl, List.take_append, List.take_of_length_le (l := List.take o l) (by omega), List.take_of_length_le (l := cs) (by omega), List.take_take, Nat.min_eq_left (by omega), List.drop_take, show m - (o + cs.length) = m - o - cs.length by omega]
theorem setL_len {l cs : List Value} {o : Nat} (h : o + cs.length ≤ l.length) : (dw l o cs).length = l.length := by
  simp only [dw, List.length_append, List.length_take, List.length_drop]; omega
section
variable {P : Program} {n : Nat} {w0 : World} {st : St}
theorem bq {ρ : Nat → Nat} {σ : Nat → Nat × Nat} {a : Act} {o : Oper} {T e : TypeId} {x idx : Operand} {g K N cap : Nat} {kd : IntKind} {A : Option Addr} (j : Nat) (hA : A = some ⟨g, 0, none⟩) (h : XAct n st ρ σ a) (hop : o.op = .indexAddr T x idx)
    (hu : P.underlying T = some (.slice e)) (hi : (P.info? e).map (·.size) = some K) (hx : cl st.tmps x = some (.v (.slice A N cap))) (hidx : cl st.tmps idx = some (.v (.int kd (j : Int)))) (hlt : j < N) (w : World) :
    (execOp a.eval o).run P w = .ok (.value (.pointer (some ⟨g, j * K, none⟩))) w := by
  simp only [execOp, hop, aR h hx, aR h hidx, Sem.run_bind, dV hu hi hA hlt w, Result.andThen_ok, Sem.run_pure, Nat.zero_add]
theorem ldR_run {ρ : Nat → Nat} {σ : Nat → Nat × Nat} {a : Act} {w : World} {o : Oper} {t : TypeId} {x : Operand} {B e K g N cap po j off : Nat} {rs : List (List Value)} {row : List Value} {v : Value} (f : Fact) (hr : XRep n w0 st ρ σ a w) (ho : o.op = .load t x) (hx : cl st.tmps x = some (.v (.pointer (some ⟨g, off, none⟩))))
    (hfm : f ∈ st.facts) (hrow : rs[j]? = some row) (hv : loadC P t row po = some v) {A : Option Addr} (hA : A = some ⟨g, 0, none⟩) (hf : f = a8 B e K (.slice A N cap) rs := by rfl) (hoff : off = j * K + po := by rfl) :
    (execOp a.eval o).run P w = .ok (.value v) w := by
  subst hf hoff hA
  obtain ⟨a1, c1, g1, g2, g3, g4, g5⟩ := al (hr.2.fact _ hfm).1
  simp only [Value.slice.injEq] at g1
  obtain ⟨rfl, rfl, rfl⟩ := g1
  obtain ⟨b, off, g6, g7, g8⟩ := g5 j _ hrow
  simp only [Option.some.injEq, Addr.mk.injEq, and_true] at g6
  obtain ⟨rfl, rfl⟩ := g6
  have := di (P := P) (o0 := 0 + j * K) g8 hv
  rw [Nat.zero_add] at this
  simp only [execOp, ho, aR hr.1 hx, Sem.run_bind, this, Result.andThen_ok, Sem.run_pure]
def HSg (P : Program) (n : Nat) (w0 : World) (st : St) (o : Oper) (g : Nat) (G : List Fact) : Prop :=
  ∀ ρ σ a w, XRep n w0 st ρ σ a w → ∃ w', (execOp a.eval o).run P w = .ok .skip w' ∧ XHeap w0 st.boxes [] G ρ σ w' ∧ Chgd (fun b => b = g) w w'
theorem HSg.hs {o : Oper} {g : Nat} {G : List Fact} (h : HSg P n w0 st o g G) : HS P n w0 st o G := fun ρ σ a w hr => let ⟨w', h1, h2, _⟩ := h ρ σ a w hr; ⟨w', h1, h2⟩
theorem bo {o : Oper} {t : TypeId} {x y : Operand} {g B e K N cap i off : Nat} {A : Option Addr} {rs rs' : List (List Value)} {v : Value} (j po : Nat) (row : List Value) {row' : List Value} (hA : A = some ⟨g, 0, none⟩) (hop : o.op = .store t x y)
    (hx : cl st.tmps x = some (.v (.pointer (some ⟨g, off, none⟩)))) (ho : off = j * K + po) (hy : cl st.tmps y = some (.v v)) (hsz : (P.info? t).map (·.size) = some v.cells.size) (h1 : v.cells.toList.all (·.oneCell') = true)
    (hi : st.facts[i]? = some (a8 B e K (.slice A N cap) rs)) (hlo : w0.heap.size ≤ B) (hrow : rs[j]? = some row) (hpo : Nat.ble (po + v.cells.toList.length) K = true) (hr' : dw row po v.cells.toList = row') (hrs : rs.set j row' = rs') :
    HSg P n w0 st o g (a8 B e K (.slice A N cap) rs' :: dropF st.facts i) := fun ρ σ a w hr => by
  subst hrs hr' ho hA
  have hown := (hr.2.fact _ (List.mem_of_getElem? hi)).1
  have hpo := Nat.le_of_ble_eq_true hpo
  obtain ⟨⟨hfl, hor⟩, hK⟩ := hown
  have hj : j < rs.length := (List.getElem?_eq_some_iff.1 hrow).1
  have hbd : j * K + K ≤ rs.length * K := by
    have : (j + 1) * K ≤ rs.length * K := Nat.mul_le_mul_right K hj
    rw [Nat.succ_mul] at this; exact this
  rcases hor with ⟨h1', h2⟩ | ⟨g', cap', cur, hv, hB, hg, hle, hmx, hcs, htk⟩
  · exact absurd h1' (by simp)
  simp only [Value.slice.injEq, Option.some.injEq, Addr.mk.injEq, and_true] at hv
  obtain ⟨rfl, rfl, rfl⟩ := hv
  have hcap : rs.length * K ≤ cap * K := Nat.mul_le_mul_right _ hle
  have hfit : j * K + po + v.cells.toList.length ≤ cur.size := by omega
  cases hin : P.info? t with
  | none => simp [hin] at hsz
  | some inf =>
    have hs : inf.size = v.cells.size := by simpa [hin] using hsz
    have hst := run_storeCells_cells (P := P) g (j * K + po) v.cells.toList 0 w (fun m hm => by
        rw [cell_of_row w g _ cur e (0, 0) hg, Array.getElem?_eq_getElem (by omega)]; rfl) (fun m hm => frozen_of_row w g _ cur e hg) (fun u hu => List.all_eq_true.1 h1 u hu)
    simp only [Nat.add_zero] at hst
    have hw2 := cA g v.cells.toList (j * K + po) w cur e hg hfit
    have hlen : cur.toList.length = cur.size := by simp
    refine ⟨w.setCells g (j * K + po) v.cells.toList, ?_, hr.2.noRows.turn hi rfl (fun b hb => by have : (some g) = some b := hb; simp only [Option.some.injEq] at this; omega) (chgd_cells rfl) _
      ⟨⟨?_, .inr ⟨g, cap, _, by rw [List.length_set], hB, hw2, by rw [List.length_set]; exact hle, hmx, ?_, ?_⟩⟩, fun r hr => ?_⟩ fun b hb => .inl hb, chgd_cells rfl⟩
    · simp only [execOp, hop, aR hr.1 hx, aR hr.1 hy, Sem.run_bind, Instr.storeAt, Instr.sureAddr, Sem.run_pure, Result.andThen_ok, storeVar, sizeOf, typeInfo, run_program, hin, hs, ne_eq, not_true_eq_false, if_false, hst]
    · rw [flat_set hK hrow hpo, setL_len (by rw [hfl]; omega), List.length_set]; exact hfl
    · rw [List.size_toArray, setL_len (by rw [hlen]; exact hfit)]; rw [hlen]; exact hcs
    · rw [List.length_set, flat_set hK hrow hpo, ← htk]
      exact setL_take (by omega) (by omega)
    · rcases List.mem_or_eq_of_mem_set hr with h | h
      · exact hK r h
      · rw [h, setL_len (by rw [hK row (List.mem_of_getElem? hrow)]; exact hpo)]; exact hK row (List.mem_of_getElem? hrow)
theorem act_ixO {ρ : Nat → Nat} {σ : Nat → Nat × Nat} {a : Act} {o : Oper} {T e : TypeId} {x idx : Operand} {b off K N cap : Nat} {kd : IntKind} {A : Option Addr} (j : Nat) (hA : A = some ⟨b, off, none⟩) (h : XAct n st ρ σ a) (hop : o.op = .indexAddr T x idx)
    (hu : P.underlying T = some (.slice e)) (hi : (P.info? e).map (·.size) = some K) (hx : cl st.tmps x = some (.v (.slice A N cap))) (hidx : cl st.tmps idx = some (.v (.int kd (j : Int)))) (hlt : j < N) (w : World) :
    (execOp a.eval o).run P w = .ok (.value (.pointer (some ⟨b, off + j * K, none⟩))) w := by
  simp only [execOp, hop, aR h hx, aR h hidx, Sem.run_bind, dV hu hi hA hlt w, Result.andThen_ok, Sem.run_pure]
theorem xw_know {QX : Exit → St → Prop} {c : Code} {φ : Prop} (h : ∀ ρ σ a w, XRep n w0 st ρ σ a w → φ) (hn : φ → XW P n w0 QX c st) : XW P n w0 QX c st := fun ρ σ a w hr => hn (h ρ σ a w hr) ρ σ a w hr
variable {QX : Exit → St → Prop} {ops : Array Oper}
theorem row_at {w : World} {B e K N cap : Nat} {A : Option Addr} {rs : List (List Value)} (h : (a8 B e K (.slice A N cap) rs).p w) {j : Nat} {row : List Value} (hrow : rs[j]? = some row) : ∃ g, A = some ⟨g, 0, none⟩ := by
  obtain ⟨⟨hfl, hor⟩, hK⟩ := h
  rcases hor with ⟨h1, h2⟩ | ⟨g, cap', cur, h1, hB, hg, hle, hmx, hcs, htk⟩
  · have : rs = [] := List.length_eq_zero_iff.1 h2
    subst this; simp at hrow
  · simp only [Value.slice.injEq] at h1; exact ⟨g, h1.1⟩
variable {fuel : Nat} {listed : Array Bool} {B : List Box} {R : List (List Value)} {ρ : Nat → Nat} {σ : Nat → Nat × Nat}
end
end
/- The machine: draws that make a struct with a slice of its own. -/
section
open Go.RowKit
set_option linter.unusedVariables false
set_option linter.unusedSimpArgs false
def listL : Nat → Nat → List Bool
  | 0, _ => []
  | n + 1, m => Nat.beq (m % 2) 1 :: listL n (m / 2)
def listB (n m : Nat) : Array Bool := ⟨listL n m⟩
section
variable {P : Program} {n : Nat} {w0 : World} {QX : Exit → St → Prop} {st st' : St} {ops : Array Oper} {fuel fuel' : Nat} {listed listed' : Array Bool} {B : List Box} {R : List (List Value)} {ρ : Nat → Nat} {σ : Nat → Nat × Nat}
theorem xe_cutX {α : Type} {t : List (Nat × AV)} {b : List Box} {r : List (List Value)} {fs : List Fact} (f : α → List (Nat × AV)) (ks : List Nat) (bx : α → List Box) (ex : α → List Fact) (fuel' : Nat) (listed' : Array Bool) (h1 : ∀ x, XE P n w0 ops QX fuel' listed' B R ρ σ ⟨bL (f x) t ks, b ++ bx x, r, fs ++ ex x⟩) (h2 : (∀ x, XE P n w0 ops QX fuel' listed' B R ρ σ ⟨bL (f x) t ks, b ++ bx x, r, fs ++ ex x⟩) → XE P n w0 ops QX fuel listed B R ρ σ ⟨t, b, r, fs⟩) : XE P n w0 ops QX fuel listed B R ρ σ ⟨t, b, r, fs⟩ := h2 h1
theorem xe_wkL (h : Wk st st') (hl : listed = listed') (h1 : XE P n w0 ops QX fuel listed' B R ρ σ st') : XE P n w0 ops QX fuel listed B R ρ σ st := fun ρ' a w hag hr hS => by
  subst hl; exact h1 ρ' a w hag (h _ _ _ _ _ _ hr) hS
end
end
/- The machine: function values that hold variables, calls of them, and memory kept together as one fact. -/
section
open Go.RowKit
set_option linter.unusedVariables false
set_option linter.unusedSimpArgs false
def ac (gs : List Fact) : Fact where
  own := true
  p := fun w => (∀ g ∈ gs, g.p w) ∧ Apart gs
  blk := fun b => ∃ g ∈ gs, g.blk b
  lt := fun w b h ⟨g, hg, hb⟩ => g.lt w b (h.1 g hg) hb
  keep := fun w w' h hs hb => ⟨fun g hg => g.keep w w' (h.1 g hg) hs fun b hgb => hb b ⟨g, hg, hgb⟩, h.2⟩
theorem Apart.front {gs hs : List Fact} (h : Apart (gs ++ hs)) : Apart gs := fun i j f g hi hj => by
  have h1 := (List.getElem?_eq_some_iff.1 hi).1
  have h2 := (List.getElem?_eq_some_iff.1 hj).1
  exact h i j f g (by rw [List.getElem?_append_left h1]; exact hi) (by rw [List.getElem?_append_left h2]; exact hj)
theorem Apart.back {gs hs : List Fact} (h : Apart (gs ++ hs)) : Apart hs := fun i j f g hi hj hij => by
  refine h (gs.length + i) (gs.length + j) f g ?_ ?_ (by omega)
  · rw [List.getElem?_append_right (by omega), Nat.add_sub_cancel_left]; exact hi
  · rw [List.getElem?_append_right (by omega), Nat.add_sub_cancel_left]; exact hj
theorem Apart.pickN {fs gs : List Fact} (m : List Nat) (h : Apart fs) (hm : nodupB m = true) (hp : pickF fs m = some gs) : Apart gs := fun i j f g hi hj hij => by
  obtain ⟨g1, g2⟩ := pickF_get hp
  have hl1 := (List.getElem?_eq_some_iff.1 hi).1
  have hl2 := (List.getElem?_eq_some_iff.1 hj).1
  have e1 := List.getElem?_eq_getElem (l := m) (i := i) (by omega)
  have e2 := List.getElem?_eq_getElem (l := m) (i := j) (by omega)
  refine h _ _ f g (g2 i f _ hi e1) (g2 j g _ hj e2) fun e => hij ?_
  have hk := List.pairwise_iff_getElem.1 (nodupB_spec hm)
  rcases Nat.lt_trichotomy i j with h1 | h1 | h1
  · exact (hk i j (by omega) (by omega) h1 e).elim
  · exact h1
  · exact (hk j i (by omega) (by omega) h1 e.symm).elim
theorem allF_pick {fs gs : List Fact} {w : World} (m : List Nat) (hf : ∀ g ∈ fs, g.p w) (ha : Apart fs) (hm : nodupB m = true) (hp : pickF fs m = some gs) : (ac gs).p w := ⟨fun g hg => by
    obtain ⟨i, hi⟩ := List.getElem?_of_mem hg
    obtain ⟨g1, g2⟩ := pickF_get hp
    have hl1 := (List.getElem?_eq_some_iff.1 hi).1
    exact hf g (List.mem_of_getElem? (g2 i g _ hi (List.getElem?_eq_getElem (l := m) (i := i) (by omega)))), ha.pickN m hm hp⟩
section
variable {P : Program} {n : Nat} {w0 : World} {QX : Exit → St → Prop} {st st' : St} {ops : Array Oper} {l : List Oper}
theorem all_in {b : List Box} {r : List (List Value)} {gs hs : List Fact} (hown : ∀ g ∈ gs, g.own = true) (ρ : Nat → Nat) (σ : Nat → Nat × Nat) (w : World) (h : XHeap w0 b r (gs ++ hs) ρ σ w) : XHeap w0 b r (ac gs :: hs) ρ σ w := by
  refine ⟨h.below, h.box, h.inj, h.row, fun f hf => ?_, h.apart.back.cons fun f hf q hq hfq => ?_⟩
  · rcases List.mem_cons.1 hf with rfl | hf
    · exact ⟨⟨fun g hg => (h.fact g (List.mem_append_left _ hg)).1, h.apart.front⟩, fun i hi hb => let ⟨g, hg, hb⟩ := hb; (h.fact g (List.mem_append_left _ hg)).2 i hi hb⟩
    · exact h.fact f (List.mem_append_right _ hf)
  · obtain ⟨g, hg, hb⟩ := hq
    obtain ⟨i, hi⟩ := List.getElem?_of_mem hg
    obtain ⟨j, hj⟩ := List.getElem?_of_mem hf
    have h1 := (List.getElem?_eq_some_iff.1 hi).1
    exact h.apart i (gs.length + j) g f (by rw [List.getElem?_append_left h1]; exact hi) (by rw [List.getElem?_append_right (by omega), Nat.add_sub_cancel_left]; exact hj) (by omega) (hown g hg) q hb hfq
theorem all_out {b : List Box} {r : List (List Value)} {gs hs : List Fact} (ρ : Nat → Nat) (σ : Nat → Nat × Nat) (w : World) (h : XHeap w0 b r (ac gs :: hs) ρ σ w) : XHeap w0 b r (gs ++ hs) ρ σ w := by
  obtain ⟨⟨h1, h2⟩, h3⟩ := h.fact (ac gs) (List.mem_cons_self ..)
  refine ⟨h.below, h.box, h.inj, h.row, fun f hf => ?_, h2.append (Apart.back (gs := [ac gs]) h.apart) fun f hf g hg q hq hgq => ?_⟩
  · rcases List.mem_append.1 hf with hf | hf
    · exact ⟨h1 f hf, fun i hi hb => h3 i hi ⟨f, hf, hb⟩⟩
    · exact h.fact f (List.mem_cons_of_mem _ hf)
  · obtain ⟨j, hj⟩ := List.getElem?_of_mem hg
    exact h.apart 0 (j + 1) (ac gs) g rfl hj (by omega) rfl q ⟨f, hf, hq⟩ hgq
theorem lenB_len : ∀ (b : List Box), dx b = b.length
  | [] => rfl
  | _ :: b => by simp only [dx, List.length_cons]; rw [lenB_len b]
theorem xw_pinL {c : Code} {s T : Nat} {cs : List Value} {t : List (Nat × AV)} {b : List Box} {r : List (List Value)} {fs : List Fact} (hs : lkp t s = some (.p (dx b) 0)) (ht : allT (dx b) 0 (del t s) = true)
    (h : ∀ g, w0.heap.size ≤ g → (∀ f ∈ fs, ¬ f.blk g) → XW P n w0 QX c ⟨(s, .v (.pointer (some ⟨g, 0, none⟩))) :: del t s, b, [], cellF w0.heap.size g T cs :: fs⟩) : XW P n w0 QX c ⟨t, b ++ [⟨T, cs⟩], r, fs⟩ := fun ρ σ a w hr => by
  have hA := hr.1
  have hH : XHeap w0 (b ++ [(⟨T, cs⟩ : Box)]) r fs ρ σ w := hr.2
  rw [lenB_len] at hs ht
  have hlen : (b ++ [(⟨T, cs⟩ : Box)]).length = b.length + 1 := by simp
  have hbx := hH.box b.length ⟨T, cs⟩ (by rw [List.getElem?_append_right (Nat.le_refl _)]; simp)
  have hn : ∀ f ∈ fs, ¬ f.blk (ρ b.length) := fun f hf => (hH.fact f hf).2 b.length (by omega)
  have hinj : ∀ i j, i < b.length → j < b.length → ρ i = ρ j → i = j := fun i j hi hj => hH.inj i j (by omega) (by omega)
  have hlast : ∀ i, i < b.length → ρ i ≠ ρ b.length := fun i hi e => by have := hH.inj i b.length (by omega) (by omega) e; omega
  have hfb : ∀ f ∈ fs, ∀ i, i < b.length → ¬ f.blk (ρ i) := fun f hf i hi => (hH.fact f hf).2 i (by omega)
  refine h (ρ b.length) hbx.1 hn ρ σ a w ⟨⟨hA.size, hA.defers, fun t' x hx => ?_⟩, ⟨hH.below, fun i q hi => ?_, fun i j hi hj => hinj i j hi hj, fun k r hr => by simp at hr, fun f hf => ?_, hH.apart.cons fun f hf q hq hfq => ?_⟩⟩
  · simp only [lkp] at hx
    split at hx
    · rename_i e
      simp only [Option.some.injEq] at hx; subst hx
      have e2 : s = t' := Nat.eq_of_beq_eq_true e
      subst e2
      exact ⟨trivial, (hA.tmps s _ hs).2⟩
    · refine ⟨allT_lkp _ t' x ht hx, ?_⟩
      rw [lkp_del] at hx
      split at hx
      · cases hx
      · exact (hA.tmps t' x hx).2
  · exact hH.box i q (by rw [List.getElem?_append_left (List.getElem?_eq_some_iff.1 hi).1]; exact hi)
  · rcases List.mem_cons.1 hf with rfl | hf
    · exact ⟨⟨hbx.1, hbx.2⟩, fun i hi e => hlast i hi e⟩
    · exact ⟨(hH.fact f hf).1, hfb f hf⟩
  · have e : q = ρ b.length := hq
    subst e; exact hn f hf hfq
theorem xw_pinB {c : Code} {t : List (Nat × AV)} {bs : List Box} {r : List (List Value)} {fs : List Fact} (s T : Nat) (cs : List Value) (b : List Box) (hbx : bs = b ++ [⟨T, cs⟩]) (hs : lkp t s = some (.p (dx b) 0)) (ht : allT (dx b) 0 (del t s) = true)
    (h : ∀ g, w0.heap.size ≤ g → (∀ f ∈ fs, ¬ f.blk g) → XW P n w0 QX c ⟨(s, .v (.pointer (some ⟨g, 0, none⟩))) :: del t s, b, [], cellF w0.heap.size g T cs :: fs⟩) : XW P n w0 QX c ⟨t, bs, r, fs⟩ := by
  subst hbx; exact xw_pinL hs ht h
def xcalleeC (ops : Array Oper) (st : St) (o : Oper) : Option (FuncId × List Value × Option Nat) :=
  match aS ops st.tmps o with
  | some true => match o.op with
    | .call c => match c.callee with
      | .value x => match cl st.tmps x, vals st.tmps c.args.toList with
        | some (.v (.func (.func f) ⟨[]⟩ ⟨cs⟩)), some vs => some (f, vs ++ cs, o.dst)
        | _, _ => none
      | _ => none
    | _ => none
  | _ => none
theorem xcalleeC_sound {o : Oper} {f : FuncId} {vs : List Value} {d : Option Nat} {ρ : Nat → Nat} {σ : Nat → Nat × Nat} {a : Act} (hA : XAct n st ρ σ a) (h : xcalleeC ops st o = some (f, vs, d)) (hf : fnOk P f = true) (w : World) :
    Region.wanted o (yielded ops a.tmps) = true ∧ o.dst = d ∧ (execOp a.eval o).run P w = .ok (.enter f vs.toArray) w := by
  unfold xcalleeC at h
  split at h
  · rename_i hw
    refine ⟨ag hA hw, ?_⟩
    split at h
    · rename_i c hc
      split at h
      · rename_i x hx
        split at h
        · rename_i g cs us h1 h2
          simp only [Option.some.injEq, Prod.mk.injEq] at h
          obtain ⟨rfl, rfl, rfl⟩ := h
          refine ⟨rfl, ?_⟩
          have e1 := aR hA h1
          have e2 := vals_eval hA _ _ h2
          have e3 : c.args.map a.eval = us.toArray := by rw [← e2]; apply Array.toList_inj.1; simp
          simp only [execOp, hc, resolve, hx, e1, e3, Sem.run_bind, Deferred.ofValue, Sem.run_pure, Result.andThen_ok, invoke]
          have := fnOk_run hf (us ++ cs).toArray w
          simpa using this
        · simp at h
      · simp at h
    · simp at h
  · simp at h
variable {fuel : Nat} {listed : Array Bool} {B : List Box} {R : List (List Value)} {ρ : Nat → Nat} {σ : Nat → Nat × Nat}
theorem act_mkf {a : Act} {o : Oper} {f : Fn} {c : Array Operand} (cs : List Value) (h : XAct n st ρ σ a) (hop : o.op = .makeFunc f #[] c) (hc : vals st.tmps c.toList = some cs) (w : World) : (execOp a.eval o).run P w = .ok (.value (.func f #[] cs.toArray)) w := by
  have e2 := vals_eval h _ _ hc
  have e3 : c.map a.eval = cs.toArray := by rw [← e2]; apply Array.toList_inj.1; simp
  simp only [execOp, hop, e3, Instr.makeFunc, Sem.run_bind, Sem.run_pure, Result.andThen_ok, Array.map_empty]
end
end
/- Plain definitions: connections (no program in sight). -/
section
open Go.RowKit
def verdict (c : Con) (g : Seg) : Int :=
  if !conOk c || (decide (c.state = 8) || !segmentOk g) then 1
  else if hasF g.flags 4 then (if g.seq = c.r.next then 2 else if inWindow g.seq c.r.next (wO c.r) then 3 else 1)
  else if hasF g.flags 2 then 3 else if !acceptable c g then 4 else if !hasF g.flags 16 then 1 else if !ackFits c g.ack then 3 else 5
def tS (c : Con) : Int :=
  if c.state = 1 then (if c.r.done then 4 else 1)
  else if c.state = 2 then (if c.s.done && c.r.done then 7 else if c.s.done then 3 else if c.r.done then 5 else 2)
  else if c.state = 3 then (if c.r.done then 7 else 3)
  else if c.state = 5 then (if c.s.done then 7 else 5)
  else if c.state = 6 then (if c.s.done then 8 else 6)
  else c.state
def turned (c : Con) : Con :=
  if tS c = c.state then c
  else if conOk { c with state := tS c, timer := 0 } && inB c.timer 0 4 then
    (if tS c = 7 then { c with state := 7, timer := 4, tries := 0 } else if tS c = 8 then { c with state := 8, timer := 0, tries := 0 } else { c with state := tS c })
  else c
def cut (s : ByteArray) (n : Int) : Int := max 0 (min n s.size)
def acked (s : Snd) (ack : Int) : Snd × Bool :=
  if bP s && inB (dp ack s.una) 0 (dq s) then
    (if s.sent < dp ack s.una then ({ s with una := sA s.una (dp ack s.una), data := s.data.extract s.sent.toNat s.data.size, sent := 0, finSent := false, done := true }, true)
     else ({ s with una := sA s.una (dp ack s.una), data := s.data.extract (dp ack s.una).toNat s.data.size, sent := s.sent - dp ack s.una }, true))
  else (s, false)
end
/- Plain definitions: sending (no program in sight). -/
section
open Go.RowKit
theorem de {s : Snd} (h : bP s = true) : 0 ≤ s.una ∧ s.una ≤ 4294967295 ∧ s.data.size ≤ 48 ∧ 0 ≤ s.sent ∧ s.sent ≤ s.data.size ∧ 0 ≤ dq s ∧ dq s ≤ s.sent + 1 ∧ s.sent ≤ dq s ∧
    (s.finSent = true → s.fin = true ∧ s.sent = s.data.size ∧ dq s = s.sent + 1) ∧ (s.finSent = false → dq s = s.sent) ∧ (s.done = true → s.fin = true ∧ s.finSent = false ∧ s.data.size = 0) := by
  unfold bP at h
  simp only [Bool.and_eq_true, decide_eq_true_eq, cR, inB, Bool.or_eq_true, Bool.not_eq_true'] at h
  obtain ⟨⟨⟨⟨h1, h2⟩, h3⟩, h4⟩, h5⟩ := h
  have e : (2 : Int) ^ (32 : Int).toNat - 1 = 4294967295 := by decide
  rw [e] at h1
  have hw : wrap64 (s.sent + 1) = s.sent + 1 := by unfold wrap64; omega
  refine ⟨by omega, by omega, h2, by omega, by omega, ?_, ?_, ?_, fun hf => ?_, fun hf => ?_, fun hd => ?_⟩
  · unfold dq; split <;> omega
  · unfold dq; split <;> omega
  · unfold dq; split <;> omega
  · simp [hf] at h4; refine ⟨h4.1, h4.2, ?_⟩; unfold dq; rw [if_pos hf, hw]
  · unfold dq; simp [hf]
  · simp [hd] at h5
    refine ⟨h5.1.1, h5.1.2, ?_⟩
    have h6 := h5.2
    rw [ByteArray.toList_eq] at h6
    have h7 : s.data.data.toList = [] := by simpa only [List.isEmpty_iff] using h6
    show s.data.data.size = 0
    rw [← Array.length_toList, h7]; rfl
def zeroChk : Chk := ⟨0, ⟨#[]⟩, false⟩
def wnd (s : Snd) (window : Int) : Int := max 0 (max 0 (min window 1000000) - dq s)
def bG (s : Snd) (window mss : Int) : Int := max 0 (min (min mss (wnd s window)) (s.data.size - s.sent))
def bY (s : Snd) (window mss : Int) : Bool := s.fin && (!s.finSent && (!s.done && (decide (s.sent + bG s window mss = s.data.size) && decide (bG s window mss < wnd s window))))
def nC (s : Snd) (window mss : Int) : Chk × Bool :=
  if bP s then
    (if decide (bG s window mss = 0) && !bY s window mss then (zeroChk, false)
     else (⟨nextOf s, s.data.extract s.sent.toNat (s.sent + bG s window mss).toNat, bY s window mss⟩, true))
  else (zeroChk, false)
def sentS (s : Snd) (c : Chk) : Snd := { s with sent := IntKind.i64.wrap (s.sent + (c.text.size : Int)), finSent := s.finSent || c.fin }
def sO (s : Snd) (c : Chk) : Snd := if bP s && (bP (sentS s c) && !(c.fin && s.done)) then sentS s c else s
end
/- The machine, in short: calls that write, in draws. -/
section
open Go.RowKit
set_option linter.unusedVariables false
section
variable {P : Program} {n : Nat} {w0 : World} {QX : Exit → St → Prop} {ops : Array Oper} {l : List Oper} {st st' : St} {t t' : List (Nat × AV)} {b : List Box} {r : List (List Value)} {fs : List Fact}
theorem kWD (k : Nat) (ks : List Nat) (us : List (Nat × AV)) (f : FuncId) (args : List Value) (d : Option Nat) {α : Type} {F : α → Value} {G : α → List Fact} {o : Oper} (i : Nat) {fi : Fact} (ho : l[k]? = some o) (hi : fs[i]? = some fi) (hlo : ∀ w b, fi.p w → fi.blk b → w0.heap.size ≤ b) (hk : XCM P w0 fs fi.blk f args F G)
    (hn : ∀ y, XL P n w0 ops QX (l.drop (k + 1)) ⟨br (bL us t ks) d (.v (F y)), b, [], G y ++ dropF fs i⟩) (hown : fi.own = true := by rfl) (h : bS P n ops l k ks ⟨t, b, r, fs⟩ = some ⟨bL us t ks, b, r, fs⟩ := by kernel_rfl) (hc : dn ops ⟨bL us t ks, b, r, fs⟩ o = some (f, args, d) := by kernel_rfl) (hd : bu n d = true := by kernel_rfl) (hf : fnOk P f = true := by kernel_rfl) (hrows : allT (dx b) 0 (bL us t ks) = true := by kernel_rfl) : XL P n w0 ops QX l ⟨t, b, r, fs⟩ := xl_callW k ks ⟨bL us t ks, b, r, fs⟩ f args d i fi h ho hc hd hf hi hown hlo hrows hk hn
variable {fuel : Nat} {listed : Array Bool} {B : List Box} {R : List (List Value)} {ρ : Nat → Nat} {σ : Nat → Nat × Nat}
end
end
/- Plain definitions: segments that arrive (no program in sight). -/
section
open Go.RowKit
def slotAt (l : List Int) (i : Nat) : Int := l.getD i (-1)
def putText (l : List Int) (off : Nat) (t : ByteArray) : Nat → List Int
  | 0 => l
  | k + 1 => (putText l off t k).set (off + k) (byteAt t k)
def putHeld (l : List Int) : List Pce → List Int
  | [] => l
  | p :: ps => putHeld (putText l p.off.toNat p.text p.text.size) ps
def slotsOf (r : Rcv) : List Int := putHeld (List.replicate 33 (-1)) r.held
def restOf (n : Int) : Int := n % 4294967296
def textStep (r : Rcv) (seq : Int) (t : ByteArray) (l : List Int) (k : Nat) : List Int :=
  if restOf (sA seq k - r.next) < wO r ∧ (r.fin < 0 ∨ restOf (sA seq k - r.next) < r.fin) ∧ slotAt l (restOf (sA seq k - r.next)).toNat < 0 then l.set (restOf (sA seq k - r.next)).toNat (byteAt t k) else l
def textN (r : Rcv) (seq : Int) (t : ByteArray) (l : List Int) : Nat → List Int
  | 0 => l
  | k + 1 => textStep r seq t (textN r seq t l k) k
def freeFrom (l : List Int) (i : Nat) : Bool := (l.drop i).all fun x => decide (x < 0)
def addByte (acc : List Pce) (j : Nat) (x : Int) : List Pce := match acc.getLast? with
  | some p => if p.off + (p.text.size : Int) = (j : Int) then acc.dropLast ++ [⟨p.off, p.text ++ d8 [x]⟩] else acc ++ [⟨(j : Int), d8 [x]⟩]
  | none => [⟨(j : Int), d8 [x]⟩]
def pcs (acc : List Pce) (j : Nat) : List Int → List Pce
  | [] => acc
  | x :: xs => pcs (if x < 0 then acc else addByte acc j x) (j + 1) xs
def filled (l : List Int) : Nat := (l.takeWhile fun x => decide (0 ≤ x)).length
def dc (r : Rcv) (seq : Int) (t : ByteArray) : List Int := textN r seq t (slotsOf r) t.size
def offN (r : Rcv) (seq : Int) (k : Nat) : Nat := (restOf (sA seq k - r.next)).toNat
def finIn (r : Rcv) (seq : Int) (t : ByteArray) (fin : Bool) : Int :=
  if fin && (decide (r.fin < 0) && (decide ((offN r seq t.size : Int) ≤ wO r) && freeFrom (dc r seq t) (offN r seq t.size))) then (offN r seq t.size : Int) else r.fin
def finOut (r : Rcv) (seq : Int) (t : ByteArray) (fin : Bool) : Int := if 0 ≤ finIn r seq t fin then finIn r seq t fin - (filled (dc r seq t) : Int) else finIn r seq t fin
def arrived (r : Rcv) (seq : Int) (t : ByteArray) (fin : Bool) : Rcv :=
  if rO r && !r.done then
    (if 3 < (pcs [] 0 ((dc r seq t).drop (filled (dc r seq t)))).length then r
     else if finOut r seq t fin = 0 then ⟨sA (sA r.next (filled (dc r seq t))) 1, r.data ++ d8 ((dc r seq t).take (filled (dc r seq t))), pcs [] 0 ((dc r seq t).drop (filled (dc r seq t))), -1, true⟩
     else ⟨sA r.next (filled (dc r seq t)), r.data ++ d8 ((dc r seq t).take (filled (dc r seq t))), pcs [] 0 ((dc r seq t).drop (filled (dc r seq t))), finOut r seq t fin, r.done⟩)
  else r
end
/- Plain definitions: new connections (no program in sight). -/
section
open Go.RowKit
def farW (window : Int) (o : Opt) : Int := window * 2 ^ (max 0 o.scale).toNat
end
/- The machine: a sign turned; an element of a slice by its address, where the slice may be empty. -/
section
open Go.RowKit
set_option linter.unusedVariables false
set_option linter.unusedSimpArgs false
section
variable {P : Program} {n : Nat} {w0 : World} {st : St} {ρ : Nat → Nat} {σ : Nat → Nat × Nat} {a : Act}
theorem dm {w : World} {o : Oper} {t : TypeId} {x : Operand} {K b off N cap j po : Nat} {rs : List (List Value)} {row : List Value} {v : Value} {A : Option Addr} (f : Fact) (hsl : ∀ w, f.p w → Sl w (.slice A N cap) K rs) (hr : XRep n w0 st ρ σ a w) (ho : o.op = .load t x) (hx : cl st.tmps x = some (.v (.pointer (some ⟨b, off + j * K + po, none⟩))))
    (hfm : f ∈ st.facts) (hrow : rs[j]? = some row) (hv : loadC P t row po = some v) (hA : A = some ⟨b, off, none⟩) :
    (execOp a.eval o).run P w = .ok (.value v) w := by
  subst hA
  obtain ⟨a1, c1, g1, g2, g3, g4, g5⟩ := hsl w (hr.2.fact _ hfm).1
  simp only [Value.slice.injEq] at g1
  obtain ⟨rfl, rfl, rfl⟩ := g1
  obtain ⟨b', off', g6, g7, g8⟩ := g5 j _ hrow
  simp only [Option.some.injEq, Addr.mk.injEq, and_true] at g6
  obtain ⟨rfl, rfl⟩ := g6
  have := di (P := P) (o0 := off + j * K) g8 hv
  simp only [execOp, ho, aR hr.1 hx, Sem.run_bind, this, Result.andThen_ok, Sem.run_pure]
end
end
end Go.Proofs.Ytnhpmgcllclhfaa
