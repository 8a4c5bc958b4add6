/- Plain definitions, the machine and its rules: what this law's contracts need of them, part 2. -/
import Derived.Test.YtfidgfddgmppdaaG1
import Derived.ArgAppend
import Derived.Lib.ConvBytes
import Derived.Laws.IdiomCopy
/- The machine, in short: what can be reckoned is reckoned by itself. -/
namespace Go.Proofs.Ytfidgfddgmppdaa
section
open Go.RowKit
set_option linter.unusedVariables false
section
variable {α : Type} {a b c d e f g h : α} {l : List α}
theorem m0 : a ∈ a :: l := .head _
theorem m1 : b ∈ a :: b :: l := .tail _ (.head _)
theorem m2 : c ∈ a :: b :: c :: l := .tail _ m1
theorem m3 : d ∈ a :: b :: c :: d :: l := .tail _ m2
theorem m4 : e ∈ a :: b :: c :: d :: e :: l := .tail _ m3
theorem m5 : f ∈ a :: b :: c :: d :: e :: f :: l := .tail _ m4
theorem m6 : g ∈ a :: b :: c :: d :: e :: f :: g :: l := .tail _ m5
theorem m7 : h ∈ a :: b :: c :: d :: e :: f :: g :: h :: l := .tail _ m6
end
section
variable {w w' : World} {B B0 K e : Nat} {v : Value} {rs : List (List Value)}
theorem pO (h : (bQ B0 v K rs).p w') (hB : B ≤ B0) : (bQ B v K rs).p w' ∧ ∀ b, (bQ B v K rs).blk b → B0 ≤ b := ⟨ownF_ownF h hB, fun b hb => ownF_lo h hb⟩
theorem pW (h : (bU B0 e K v rs).p w') (hB : B ≤ B0) : (bU B e K v rs).p w' ∧ ∀ b, (bU B e K v rs).blk b → B0 ≤ b := ⟨rowF_lower h hB, fun b hb => rowF_lo h hb⟩
theorem xo1 {α : Type} {F : α → Value} {G : α → List Fact} (y : α) {v : Value} {f : Fact} (hv : v = F y) (hG : G y = [f]) (p : f.p w' ∧ ∀ b, f.blk b → w.heap.size ≤ b) (hb : Below w.heap.size w w') : XRs w w' (.returned v) F G := xr_one y hv hG p.1 p.2 hb
theorem xo2 {α : Type} {F : α → Value} {G : α → List Fact} (y : α) {v : Value} {f g : Fact} (hv : v = F y) (hG : G y = [f, g]) (p : f.p w' ∧ ∀ b, f.blk b → w.heap.size ≤ b) (q : g.p w' ∧ ∀ b, g.blk b → w.heap.size ≤ b) (ha : Apart [f, g]) (hb : Below w.heap.size w w') : XRs w w' (.returned v) F G := xr_two y hv hG p.1 p.2 q.1 q.2 ha hb
end
section
variable {P : Program} {n : Nat} {w0 : World} {QX : Exit → St → Prop} {ops : Array Oper} {l : List Oper} {st st' : St} {t t' : List (Nat × AV)} {b : List Box} {r : List (List Value)} {fs : List Fact}
theorem kQ {y : Code} {id : Nat} {l : List Oper} (h : XL P n w0 l.toArray (QSeq P n w0 y QX) l st) : XW P n w0 QX (.seq (.region id l.toArray false) y) st := xw_seq (xw_region h)
theorem kS {x y : Code} (h : XW P n w0 (QSeq P n w0 y QX) x st) : XW P n w0 QX (.seq x y) st := xw_seq h
theorem kR (h : QX .ret st) : XW P n w0 QX .ret st := xw_ret h
theorem kK (h : QX .normal st) : XW P n w0 QX .skip st := xw_skip h
theorem kG {id : Nat} {l : List Oper} (h : XL P n w0 l.toArray QX l st) : XW P n w0 QX (.region id l.toArray false) st := xw_region h
theorem kPk (m : List Nat) {s' : St} (h2 : Wk ⟨t, b, r, (pickF fs m).getD []⟩ s') (hm : nodupB m = true := by kernel_rfl) (h : (pickF fs m).isSome = true := by kernel_rfl) : Wk ⟨t, b, r, fs⟩ s' := by
  obtain ⟨gs, hg⟩ := Option.isSome_iff_exists.1 h
  rw [hg] at h2
  exact (wk_pick m gs hm hg).trans h2
theorem kF (m r : Nat) (ks : List Nat) {s s' : St} (h : xfgt m r ks s = some s' := by kernel_rfl) : Wk s s' := wkf m r ks h
theorem kC {c : Operand} {x y : Code} (b : Bool) (h1 : b = true → XW P n w0 QX x st) (h2 : b = false → XW P n w0 QX y st) (hc : cn st.tmps c = some (.v (.bool b)) := by kernel_rfl) : XW P n w0 QX (.cond c x y) st := xw_cond hc h1 h2
theorem kT {c : Operand} {x y : Code} (h1 : XW P n w0 QX x st) (hc : cn st.tmps c = some (.v (.bool true)) := by kernel_rfl) : XW P n w0 QX (.cond c x y) st := xw_true hc h1
theorem kN {c : Operand} {x y : Code} (h1 : XW P n w0 QX y st) (hc : cn st.tmps c = some (.v (.bool false)) := by kernel_rfl) : XW P n w0 QX (.cond c x y) st := xw_false hc h1
theorem kP (t : Nat) (b : Bool) (h1 : b = true → XL P n w0 ops QX l ⟨bO st.tmps (some t) (.v (.bool true)), st.boxes, st.rows, st.facts⟩)
    (h2 : b = false → XL P n w0 ops QX l ⟨bO st.tmps (some t) (.v (.bool false)), st.boxes, st.rows, st.facts⟩) (h : lkp st.tmps t = some (.v (.bool b)) := by kernel_rfl) : XL P n w0 ops QX l st := xl_split t h h1 h2
theorem kRS (k : Nat) (ks : List Nat) (t' : List (Nat × AV)) (hn : XL P n w0 ops QX (l.drop k) ⟨t', b, r, fs⟩) (h : bB P n ops l k ks ⟨t, b, r, fs⟩ = some ⟨t', b, r, fs⟩ := by kernel_rfl) : XL P n w0 ops QX l ⟨t, b, r, fs⟩ := xl_run k ks _ h hn
theorem kRD (k : Nat) (ks : List Nat) (us : List (Nat × AV)) (hn : XL P n w0 ops QX (l.drop k) ⟨bE us t ks, b, r, fs⟩) (h : bB P n ops l k ks ⟨t, b, r, fs⟩ = some ⟨bE us t ks, b, r, fs⟩ := by kernel_rfl) : XL P n w0 ops QX l ⟨t, b, r, fs⟩ := xl_run k ks _ h hn
theorem bH (ks : List Nat) (st' : St) (hn : QX .normal st') (h : bB P n ops l l.length ks st = some st' := by kernel_rfl) : XL P n w0 ops QX l st := xl_end ks st' h hn
theorem bZ (ks : List Nat) (t' : List (Nat × AV)) (hn : QX .normal ⟨t', b, r, fs⟩) (h : bB P n ops l l.length ks ⟨t, b, r, fs⟩ = some ⟨t', b, r, fs⟩ := by kernel_rfl) : XL P n w0 ops QX l ⟨t, b, r, fs⟩ := xl_end ks _ h hn
theorem aH (ks : List Nat) (us : List (Nat × AV)) (hn : QX .normal ⟨bE us t ks, b, r, fs⟩) (h : bB P n ops l l.length ks ⟨t, b, r, fs⟩ = some ⟨bE us t ks, b, r, fs⟩ := by kernel_rfl) : XL P n w0 ops QX l ⟨t, b, r, fs⟩ := xl_end ks _ h hn
theorem kEU (ks : List Nat) (us : List (Nat × AV)) (j : Nat) (x : Box) (hn : QX .normal ⟨bE us t ks, setBx b j x, r, fs⟩) (h : bB P n ops l l.length ks ⟨t, b, r, fs⟩ = some ⟨bE us t ks, setBx b j x, r, fs⟩ := by kernel_rfl) : XL P n w0 ops QX l ⟨t, b, r, fs⟩ := xl_end ks _ h hn
theorem kEA (ks : List Nat) (us : List (Nat × AV)) (x : List Box) (hn : QX .normal ⟨bE us t ks, b ++ x, r, fs⟩) (h : bB P n ops l l.length ks ⟨t, b, r, fs⟩ = some ⟨bE us t ks, b ++ x, r, fs⟩ := by kernel_rfl) : XL P n w0 ops QX l ⟨t, b, r, fs⟩ := xl_end ks _ h hn
theorem kOF (k : Nat) (ks : List Nat) (st' : St) (v : Value) {o : Oper} (ho : l[k]? = some o) (hrun : ∀ (ρ : Nat → Nat) (σ : Nat → Nat × Nat) (a : Act) (w : World), XRep n w0 st' ρ σ a w → (execOp a.eval o).run P w = .ok (.value v) w)
    (hn : XL P n w0 ops QX (l.drop (k + 1)) ⟨bO st'.tmps o.dst (.v v), st'.boxes, st'.rows, st'.facts⟩) (h : bB P n ops l k ks st = some st' := by kernel_rfl) (hw : b7 ops st'.tmps o = some true := by kernel_rfl) (hd : bS n o.dst = true := by kernel_rfl) : XL P n w0 ops QX l st := xl_op k ks st' v h ho hw hd hrun hn
theorem kCS (k : Nat) (ks : List Nat) (t' : List (Nat × AV)) (f : FuncId) (args : List Value) (d : Option Nat) {α : Type} {F : α → Value} {G : α → List Fact} {o : Oper} (ho : l[k]? = some o) (hk : XC P w0 fs f args F G)
    (hn : ∀ y, XL P n w0 ops QX (l.drop (k + 1)) ⟨bO t' d (.v (F y)), b, r, G y ++ fs⟩) (h : bB P n ops l k ks ⟨t, b, r, fs⟩ = some ⟨t', b, r, fs⟩ := by kernel_rfl) (hc : dv ops ⟨t', b, r, fs⟩ o = some (f, args, d) := by kernel_rfl) (hd : bS n d = true := by kernel_rfl) (hf : fnOk P f = true := by kernel_rfl) : XL P n w0 ops QX l ⟨t, b, r, fs⟩ := xl_call k ks ⟨t', b, r, fs⟩ f args d h ho hc hd hf hk hn
theorem ci (k : Nat) (ks : List Nat) (us : List (Nat × AV)) (f : FuncId) (args : List Value) (d : Option Nat) {α : Type} {F : α → Value} {G : α → List Fact} {o : Oper} (ho : l[k]? = some o) (hk : XC P w0 fs f args F G)
    (hn : ∀ y, XL P n w0 ops QX (l.drop (k + 1)) ⟨bO (bE us t ks) d (.v (F y)), b, r, G y ++ fs⟩) (h : bB P n ops l k ks ⟨t, b, r, fs⟩ = some ⟨bE us t ks, b, r, fs⟩ := by kernel_rfl) (hc : dv ops ⟨bE us t ks, b, r, fs⟩ o = some (f, args, d) := by kernel_rfl) (hd : bS n d = true := by kernel_rfl) (hf : fnOk P f = true := by kernel_rfl) : XL P n w0 ops QX l ⟨t, b, r, fs⟩ := xl_call k ks ⟨bE us t ks, b, r, fs⟩ f args d h ho hc hd hf hk hn
theorem kHD {α : Type} {F : α → Value} {G : α → List Fact} (k : Nat) (ks : List Nat) (us : List (Nat × AV)) {o : Oper} (ho : l[k]? = some o) (hk : HV P n w0 ⟨bE us t ks, b, r, fs⟩ o F G)
    (hn : ∀ y, XL P n w0 ops QX (l.drop (k + 1)) ⟨bO (bE us t ks) o.dst (.v (F y)), b, [], G y⟩) (h : bB P n ops l k ks ⟨t, b, r, fs⟩ = some ⟨bE us t ks, b, r, fs⟩ := by kernel_rfl) (hw : b7 ops (bE us t ks) o = some true := by kernel_rfl) (hd : bS n o.dst = true := by kernel_rfl) (hr : allT (lenB b) 0 (bE us t ks) = true := by kernel_rfl) : XL P n w0 ops QX l ⟨t, b, r, fs⟩ := xl_hv k ks ⟨bE us t ks, b, r, fs⟩ h ho hw hd hr hk hn
theorem kOS (k : Nat) (ks : List Nat) (t' : List (Nat × AV)) (v : Value) {o : Oper} (ho : l[k]? = some o) (hrun : ∀ (ρ : Nat → Nat) (σ : Nat → Nat × Nat) (a : Act) (w : World), XRep n w0 ⟨t', b, r, fs⟩ ρ σ a w → (execOp a.eval o).run P w = .ok (.value v) w)
    (hn : XL P n w0 ops QX (l.drop (k + 1)) ⟨bO t' o.dst (.v v), b, r, fs⟩) (h : bB P n ops l k ks ⟨t, b, r, fs⟩ = some ⟨t', b, r, fs⟩ := by kernel_rfl) (hw : b7 ops t' o = some true := by kernel_rfl) (hd : bS n o.dst = true := by kernel_rfl) : XL P n w0 ops QX l ⟨t, b, r, fs⟩ := xl_op k ks ⟨t', b, r, fs⟩ v h ho hw hd hrun hn
theorem cU (k : Nat) (ks : List Nat) (us : List (Nat × AV)) (v : Value) {o : Oper} (ho : l[k]? = some o) (hrun : ∀ (ρ : Nat → Nat) (σ : Nat → Nat × Nat) (a : Act) (w : World), XRep n w0 ⟨bE us t ks, b, r, fs⟩ ρ σ a w → (execOp a.eval o).run P w = .ok (.value v) w)
    (hn : XL P n w0 ops QX (l.drop (k + 1)) ⟨bO (bE us t ks) o.dst (.v v), b, r, fs⟩) (h : bB P n ops l k ks ⟨t, b, r, fs⟩ = some ⟨bE us t ks, b, r, fs⟩ := by kernel_rfl) (hw : b7 ops (bE us t ks) o = some true := by kernel_rfl) (hd : bS n o.dst = true := by kernel_rfl) : XL P n w0 ops QX l ⟨t, b, r, fs⟩ := xl_op k ks ⟨bE us t ks, b, r, fs⟩ v h ho hw hd hrun hn
variable {fuel : Nat} {listed : Array Bool} {B : List Box} {R : List (List Value)} {ρ : Nat → Nat} {σ : Nat → Nat × Nat}
theorem kTS (is ks : List Nat) (f' : Nat) (t' : List (Nat × AV)) (h : XE P n w0 ops QX f' (setAll listed is) B R ρ σ ⟨t', b, r, fs⟩) (hp : ∀ c s, ¬ QX (.panic c) s := by exact fun _ _ h => h) (hf : fuel = is.length + f' := by kernel_rfl) (hx : xtk P n ops B R ks is listed ⟨t, b, r, fs⟩ = some ⟨t', b, r, fs⟩ := by kernel_rfl) : XE P n w0 ops QX fuel listed B R ρ σ ⟨t, b, r, fs⟩ := xe_tk is ks f' _ hp hf hx h
theorem kTD (is ks : List Nat) (f' : Nat) (us : List (Nat × AV)) (h : XE P n w0 ops QX f' (setAll listed is) B R ρ σ ⟨bE us t ks, b, r, fs⟩) (hp : ∀ c s, ¬ QX (.panic c) s := by exact fun _ _ h => h) (hf : fuel = is.length + f' := by kernel_rfl) (hx : xtk P n ops B R ks is listed ⟨t, b, r, fs⟩ = some ⟨bE us t ks, b, r, fs⟩ := by kernel_rfl) : XE P n w0 ops QX fuel listed B R ρ σ ⟨t, b, r, fs⟩ := xe_tk is ks f' _ hp hf hx h
theorem kZ (h : QX .normal st) (hr : Region.ready .any ops listed = [] := by kernel_rfl) : XE P n w0 ops QX fuel listed B R ρ σ st := xe_done hr h
theorem kX (i : Nat) (v : Value) {o : Oper} (hi : ops[i]? = some o) (hrun : ∀ (ρ' : Nat → Nat) (a : Act) (w : World), XAct n st ρ' σ a → (execOp a.eval o).run P w = .ok (.value v) w) (h : XE P n w0 ops QX fuel (listed.setIfInBounds i true) B R ρ σ ⟨bO st.tmps o.dst (.v v), st.boxes, st.rows, st.facts⟩)
    (hs : Region.noSelect ops = true := by kernel_rfl) (hf : Region.free .any ops listed i = true := by kernel_rfl) (hr : (Region.ready .any ops listed).contains i = true := by kernel_rfl) (hp : ∀ c s, ¬ QX (.panic c) s := by exact fun _ _ h => h) (hw : b7 ops st.tmps o = some true := by kernel_rfl) (hd : bS n o.dst = true := by rfl) : XE P n w0 ops QX (fuel + 1) listed B R ρ σ st := xe_op i v _ hi hs hf hr hp hw hd hrun rfl h
theorem kA (l : List Nat) (h : XEa P n w0 ops QX fuel listed B R ρ σ st l) (hr : Region.ready .any ops listed = l := by kernel_rfl) (hne : l ≠ [] := by simp) : XE P n w0 ops QX (fuel + 1) listed B R ρ σ st := xe_all l hr hne h
theorem cw (i : Nat) (f : FuncId) (args : List Value) (d : Option Nat) {α : Type} {F : α → Value} {G : α → List Fact} {o : Oper} (hi : ops[i]? = some o) (hk : XC P w0 st.facts f args F G)
    (h : ∀ y, XE P n w0 ops QX fuel (listed.setIfInBounds i true) B R ρ σ ⟨bO st.tmps d (.v (F y)), st.boxes, st.rows, G y ++ st.facts⟩) (hc : dv ops st o = some (f, args, d) := by kernel_rfl) (hd : bS n d = true := by kernel_rfl) (hf : fnOk P f = true := by kernel_rfl) : XEs P n w0 ops QX fuel listed B R ρ σ st i := xs_call i f args d hi hc hd hf hk h
theorem dz (i : Nat) (x : AV) {o : Oper} (hi : ops[i]? = some o) (h : XE P n w0 ops QX fuel (listed.setIfInBounds i true) B R ρ σ ⟨bO st.tmps o.dst x, st.boxes, st.rows, st.facts⟩) (hw : b7 ops st.tmps o = some true := by kernel_rfl) (hx : xop P st.tmps st.boxes st.rows o.op = some (.val x) := by kernel_rfl) (hd : bS n o.dst = true := by kernel_rfl) : XEs P n w0 ops QX fuel listed B R ρ σ st i := xs_val i x _ hi hw hx hd rfl h
theorem kSS (i j off : Nat) (cs : List Value) {o : Oper} (hi : ops[i]? = some o) (h : XE P n w0 ops QX fuel (listed.setIfInBounds i true) B R ρ σ ⟨bO st.tmps o.dst (.v undef), cP st.boxes j off cs, st.rows, st.facts⟩) (hR : R = [] ∨ R = st.rows := by first | exact .inr rfl | exact .inl rfl) (hw : b7 ops st.tmps o = some true := by kernel_rfl) (hx : xop P st.tmps st.boxes st.rows o.op = some (.store j off cs) := by kernel_rfl) (hd : bS n o.dst = true := by kernel_rfl)
    (hu : unread B j = true := by kernel_rfl) (hlen : Nat.ble B.length (lenB st.boxes) = true := by kernel_rfl) : XEs P n w0 ops QX fuel listed B R ρ σ st i := xs_store i j off cs _ hi hw hx hd hu hR hlen rfl h
theorem hv_bK {o : Oper} {T e K bytes len : Nat} {parts : Array (Nat × Operand)} (vs : List Value) {rs : List (List Value)} (hop : o.op = .buildSlice T len parts) (hrs : vs.map (fun v => v.cells.toList) = rs) (hp : appOk P T e K bytes = true := by kernel_rfl) (hv : partV st.tmps parts.toList = some ((vs.zipIdx 0).map fun x => (x.2, x.1)) := by kernel_rfl)
    (hl : Nat.beq vs.length len = true := by kernel_rfl) (hk : allK K vs = true := by kernel_rfl) (hs : Nat.ble (len * K) 16777216 = true := by kernel_rfl) :
    HV P n w0 st o (α := Nat) (fun g => .slice (some ⟨g, 0, none⟩) len len) (fun g => bU w0.heap.size e K (.slice (some ⟨g, 0, none⟩) len len) rs :: st.facts) := hv_build vs hop hp hv hl hk hs hrs
end
end
/- Plain laws: tables of connections (no program in sight). -/
section
open Go.RowKit
def pl (cs : List CV) : List Con := cs.map (·.1)
def conMax (c : Con) : Prop := c.s.data.size ≤ maxLen ∧ c.r.data.size ≤ maxLen ∧ ∀ p ∈ c.r.held, p.text.size ≤ maxLen
def cX (c : Con) : Prop := c.s.data.size ≤ 1048576 ∧ c.r.data.size ≤ 1048576 ∧ c.r.held.length ≤ 1048576 ∧ ∀ p ∈ c.r.held, p.text.size ≤ 1048576
def findConn (t : Tab) (x : Tup) : Int := idxOf (t.conns.findIdx? (fun c => tupEq c.1.t x))
def idxTup (l : List Tup) (x : Tup) : Int := idxOf (l.findIdx? (fun y => tupEq y x))
def allI {α : Type} (p : Nat → α → Bool) : List α → Nat → Bool
  | [], _ => true
  | x :: r, i => p i x && allI p r (i + 1)
def cOne (t : Tab) (i : Nat) (c : CV) : Bool := conOk c.1 && decide (findConn t c.1.t = (i : Int))
def wOne (t : Tab) (i : Nat) (x : Tup) : Bool := decide (0 ≤ findConn t x) && decide (idxTup t.waiting x = (i : Int))
def tableOk (t : Tab) (l : Lim) : Bool := limitsOk l && (decide ((t.conns.length : Int) ≤ l.conns) && (decide ((t.waiting.length : Int) ≤ l.waiting) && (allI (cOne t) t.conns 0 && allI (wOne t) t.waiting 0)))
theorem no_step {α : Type} {p : α → Bool} {l : List α} {k : Nat} {x : α} (hx : l[k]? = some x) (h : p x = false) (hk : ∀ (i : Nat) (x : α), i < k → l[i]? = some x → p x = false) : ∀ (i : Nat) (x : α), i < k + 1 → l[i]? = some x → p x = false := fun i y hi hy => by
  rcases Nat.lt_succ_iff_lt_or_eq.1 hi with hi | rfl
  · exact hk i y hi hy
  · rw [hx] at hy; simp only [Option.some.injEq] at hy; subst hy; exact h
theorem pl_len {a b : List CV} (h : pl a = pl b) : a.length = b.length := by
  have := congrArg List.length h; simpa [pl] using this
theorem pl_get {a b : List CV} (h : pl a = pl b) {i : Nat} {x : CV} (hx : a[i]? = some x) : ∃ v, b[i]? = some (x.1, v) := by
  have h1 : (pl a)[i]? = some x.1 := by unfold pl; rw [List.getElem?_map, hx]; rfl
  rw [h] at h1
  unfold pl at h1
  rw [List.getElem?_map] at h1
  cases hb : b[i]? with
  | none => rw [hb] at h1; cases h1
  | some y =>
    rw [hb] at h1
    simp only [Option.map_some, Option.some.injEq] at h1
    obtain ⟨c, v⟩ := y
    exact ⟨v, by simp only at h1; rw [h1]⟩
theorem pl_set {L a : List CV} {i : Nat} {x : CV} {v : Value} (h : (pl L).take i = (pl a).take i) (hx : a[i]? = some x) (hl : i < L.length) : (pl (L.set i (x.1, v))).take (i + 1) = (pl a).take (i + 1) := by
  have h1 : (pl a)[i]? = some x.1 := by unfold pl; rw [List.getElem?_map, hx]; rfl
  have h2 : (pl (L.set i (x.1, v)))[i]? = some x.1 := by unfold pl; rw [List.getElem?_map, List.getElem?_set_self hl]; rfl
  rw [List.take_add_one, List.take_add_one, h1, h2, ← h]
  unfold pl
  rw [List.map_set, List.take_set_of_le (Nat.le_refl i)]
theorem conFit_pl {a b : List CV} (h : pl a = pl b) (hb : ∀ x ∈ b, cX x.1) : ∀ x ∈ a, cX x.1 := fun x hx => by
  obtain ⟨i, hi⟩ := List.getElem?_of_mem hx
  obtain ⟨v, hv⟩ := pl_get h hi
  exact hb (x.1, v) (List.mem_of_getElem? hv)
end
/- The machine: a row of the call's own, cut in place. -/
section
open Go.RowKit
set_option linter.unusedVariables false
set_option linter.unusedSimpArgs false
section
variable {P : Program} {n : Nat} {w0 : World} {QX : Exit → St → Prop} {st st' : St} {ops : Array Oper} {l : List Oper} {ρ : Nat → Nat} {σ : Nat → Nat × Nat} {a : Act}
theorem chgd_cells {w : World} {g o : Nat} {cs : List Value} {S : Nat → Prop} (hS : S g) : Chgd S w (w.setCells g o cs) := by
  obtain ⟨h1, h2, h3⟩ := cQ g cs o w
  exact ⟨h1, h2, h3, Nat.le_of_eq (bW g cs o w).symm, fun k _ hk => bu g cs o w k (fun e => hk (e ▸ hS))⟩
end
end
/- The machine: a variable of the caller's, by its address; calls in drawn regions that write. -/
section
open Go.RowKit
set_option linter.unusedVariables false
set_option linter.unusedSimpArgs false
section
variable {P : Program} {n : Nat} {w0 : World} {QX : Exit → St → Prop} {st st' : St} {ops : Array Oper} {l : List Oper} {ρ : Nat → Nat} {σ : Nat → Nat × Nat} {a : Act}
variable {fuel : Nat} {listed : Array Bool} {B : List Box} {R : List (List Value)}
end
theorem cY {P : Program} {t : TypeId} {x y : Operand} {k k' : IntKind} {a b : Int} (hb : 0 ≤ b) (hb' : b ≤ k.bits) (w : World) : (do eqGuard .shr t x y (.int k a) (.int k' b); binOp .shr t (.int k a) (.int k' b) : Sem Value).run P w = .ok (.int k (a.fdiv (2 ^ b.toNat))) w := by
  have h1 : ¬ b < 0 := by omega
  have h2 : min b.toNat k.bits = b.toNat := by omega
  simp [eqGuard, binOp, Op.shift, h1, h2]
theorem am {P : Program} {t : TypeId} {x y : Operand} {k : IntKind} {a b : Int} (w : World) : (do eqGuard .xor t x y (.int k a) (.int k b); binOp .xor t (.int k a) (.int k b) : Sem Value).run P w = .ok (.int k (k.wrap (BitVec.ofInt k.bits a ^^^ BitVec.ofInt k.bits b).toNat)) w := by
  simp [eqGuard, binOp, Op.intArith, Op.intBits]
end
/- The cursor of the draws: a block of the call's own, of which little is known. -/
section
open Go.RowKit
set_option linter.unusedVariables false
set_option linter.unusedSimpArgs false
theorem bstr_size (l : List Int) : (bstr l).size = l.length := by
  have key : ∀ (l : List Int) (b : ByteArray), (l.foldl (fun r n => r.push (UInt8.ofNat n.toNat)) b).size = b.size + l.length := by
    intro l
    induction l with
    | nil => intro b; rfl
    | cons x l ih => intro b; rw [List.foldl_cons, ih, ByteArray.size_push, List.length_cons]; omega
  have := key l ByteArray.empty
  unfold bstr; rw [this]; show 0 + l.length = l.length; omega
end
/- The machine: an element of a row of the call's own, by its address: stores, also in drawn regions. -/
section
open Go.RowKit
set_option linter.unusedVariables false
set_option linter.unusedSimpArgs false
def aW (t : ByteArray) (k : Nat) : Int := ((t.data.getD k 0).toNat : Int)
theorem byteAt_rng (t : ByteArray) (k : Nat) : 0 ≤ aW t k ∧ aW t k ≤ 255 := by
  unfold aW; have := (t.data.getD k 0).toNat_lt; omega
theorem setL_cons {r R cs : List Value} {K a : Nat} (hr : r.length = K) : r ++ du R a cs = du (r ++ R) (K + a) cs := by
  subst hr
  simp only [du]
  rw [List.take_length_add_append, show r.length + a + cs.length = r.length + (a + cs.length) by omega, List.drop_length_add_append]
  simp only [List.append_assoc]
theorem flat_set {K po : Nat} {cs : List Value} : ∀ {rs : List (List Value)} {j : Nat} {row : List Value}, (∀ r ∈ rs, r.length = K) → rs[j]? = some row → po + cs.length ≤ K → (rs.set j (du row po cs)).flatten = du rs.flatten (j * K + po) cs
  | [], j, row, _, h, _ => by simp at h
  | r :: rs, 0, row, hK, h, hp => by
    simp only [List.getElem?_cons_zero, Option.some.injEq] at h; subst h
    have hr := hK r (by simp)
    simp only [List.set_cons_zero, List.flatten_cons, du, Nat.zero_mul, Nat.zero_add]
    rw [List.take_append_of_le_length (by omega), List.drop_append_of_le_length (by omega)]
    simp only [List.append_assoc]
  | r :: rs, j + 1, row, hK, h, hp => by
    simp only [List.getElem?_cons_succ] at h
    have hr := hK r (by simp)
    simp only [List.set_cons_succ, List.flatten_cons]
    rw [flat_set (fun q hq => hK q (by simp [hq])) h hp, setL_cons hr, Nat.succ_mul]
    congr 1; omega
theorem setL_take {l cs : List Value} {o m : Nat} (h : o + cs.length ≤ m) (hm : m ≤ l.length) : (du l o cs).take m = du (l.take m) o cs := by
  have hl : (l.take o).length = o := by rw [List.length_take]; omega
  simp only [du]
  rw [List.append_assoc, List.append_assoc, List.take_append, hl, List.take_append, List.take_of_length_le (l := List.take o l) (by omega), List.take_of_length_le (l := cs) (by omega), List.take_take, Nat.min_eq_left (by omega), List.drop_take, show m - (o + cs.length) = m - o - cs.length by omega]
theorem setL_len {l cs : List Value} {o : Nat} (h : o + cs.length ≤ l.length) : (du l o cs).length = l.length := by
  simp only [du, List.length_append, List.length_take, List.length_drop]; omega
section
variable {P : Program} {n : Nat} {w0 : World} {st : St}
theorem act_ix {ρ : Nat → Nat} {σ : Nat → Nat × Nat} {a : Act} {o : Oper} {T e : TypeId} {x idx : Operand} {g K N cap : Nat} {kd : IntKind} {A : Option Addr} (j : Nat) (hA : A = some ⟨g, 0, none⟩) (h : XAct n st ρ σ a) (hop : o.op = .indexAddr T x idx)
    (hu : P.underlying T = some (.slice e)) (hi : (P.info? e).map (·.size) = some K) (hx : cn st.tmps x = some (.v (.slice A N cap))) (hidx : cn st.tmps idx = some (.v (.int kd (j : Int)))) (hlt : j < N) (w : World) :
    (execOp a.eval o).run P w = .ok (.value (.pointer (some ⟨g, j * K, none⟩))) w := by
  simp only [execOp, hop, aG h hx, aG h hidx, Sem.run_bind, index_run hu hi hA hlt w, Result.andThen_ok, Sem.run_pure, Nat.zero_add]
theorem ldR_run {ρ : Nat → Nat} {σ : Nat → Nat × Nat} {a : Act} {w : World} {o : Oper} {t : TypeId} {x : Operand} {B e K g N cap po j off : Nat} {rs : List (List Value)} {row : List Value} {v : Value} (f : Fact) (hr : XRep n w0 st ρ σ a w) (ho : o.op = .load t x) (hx : cn st.tmps x = some (.v (.pointer (some ⟨g, off, none⟩))))
    (hfm : f ∈ st.facts) (hrow : rs[j]? = some row) (hv : loadC P t row po = some v) {A : Option Addr} (hA : A = some ⟨g, 0, none⟩) (hf : f = bU B e K (.slice A N cap) rs := by rfl) (hoff : off = j * K + po := by rfl) :
    (execOp a.eval o).run P w = .ok (.value v) w := by
  subst hf hoff hA
  obtain ⟨a1, c1, g1, g2, g3, g4, g5⟩ := cA (hr.2.fact _ hfm).1
  simp only [Value.slice.injEq] at g1
  obtain ⟨rfl, rfl, rfl⟩ := g1
  obtain ⟨b, off, g6, g7, g8⟩ := g5 j _ hrow
  simp only [Option.some.injEq, Addr.mk.injEq, and_true] at g6
  obtain ⟨rfl, rfl⟩ := g6
  have := loadC_run (P := P) (o0 := 0 + j * K) g8 hv
  rw [Nat.zero_add] at this
  simp only [execOp, ho, aG hr.1 hx, Sem.run_bind, this, Result.andThen_ok, Sem.run_pure]
def HSg (P : Program) (n : Nat) (w0 : World) (st : St) (o : Oper) (g : Nat) (G : List Fact) : Prop :=
  ∀ ρ σ a w, XRep n w0 st ρ σ a w → ∃ w', (execOp a.eval o).run P w = .ok .skip w' ∧ XHeap w0 st.boxes [] G ρ σ w' ∧ Chgd (fun b => b = g) w w'
theorem HSg.hs {o : Oper} {g : Nat} {G : List Fact} (h : HSg P n w0 st o g G) : HS P n w0 st o G := fun ρ σ a w hr => let ⟨w', h1, h2, _⟩ := h ρ σ a w hr; ⟨w', h1, h2⟩
theorem hs_stR {o : Oper} {t : TypeId} {x y : Operand} {g B e K N cap i off : Nat} {A : Option Addr} {rs rs' : List (List Value)} {v : Value} (j po : Nat) (row : List Value) {row' : List Value} (hA : A = some ⟨g, 0, none⟩) (hop : o.op = .store t x y)
    (hx : cn st.tmps x = some (.v (.pointer (some ⟨g, off, none⟩)))) (ho : off = j * K + po) (hy : cn st.tmps y = some (.v v)) (hsz : (P.info? t).map (·.size) = some v.cells.size) (h1 : v.cells.toList.all (·.oneCell') = true)
    (hi : st.facts[i]? = some (bU B e K (.slice A N cap) rs)) (hlo : w0.heap.size ≤ B) (hrow : rs[j]? = some row) (hpo : Nat.ble (po + v.cells.toList.length) K = true) (hr' : du row po v.cells.toList = row') (hrs : rs.set j row' = rs') :
    HSg P n w0 st o g (bU B e K (.slice A N cap) rs' :: dropF st.facts i) := fun ρ σ a w hr => by
  subst hrs hr' ho hA
  have hown := (hr.2.fact _ (List.mem_of_getElem? hi)).1
  have hpo := Nat.le_of_ble_eq_true hpo
  obtain ⟨⟨hfl, hor⟩, hK⟩ := hown
  have hj : j < rs.length := (List.getElem?_eq_some_iff.1 hrow).1
  have hbd : j * K + K ≤ rs.length * K := by
    have : (j + 1) * K ≤ rs.length * K := Nat.mul_le_mul_right K hj
    rw [Nat.succ_mul] at this; exact this
  rcases hor with ⟨h1', h2⟩ | ⟨g', cap', cur, hv, hB, hg, hle, hmx, hcs, htk⟩
  · exact absurd h1' (by simp)
  simp only [Value.slice.injEq, Option.some.injEq, Addr.mk.injEq, and_true] at hv
  obtain ⟨rfl, rfl, rfl⟩ := hv
  have hcap : rs.length * K ≤ cap * K := Nat.mul_le_mul_right _ hle
  have hfit : j * K + po + v.cells.toList.length ≤ cur.size := by omega
  cases hin : P.info? t with
  | none => simp [hin] at hsz
  | some inf =>
    have hs : inf.size = v.cells.size := by simpa [hin] using hsz
    have hst := run_storeCells_cells (P := P) g (j * K + po) v.cells.toList 0 w (fun m hm => by
        rw [cell_of_row w g _ cur e (0, 0) hg, Array.getElem?_eq_getElem (by omega)]; rfl) (fun m hm => frozen_of_row w g _ cur e hg) (fun u hu => List.all_eq_true.1 h1 u hu)
    simp only [Nat.add_zero] at hst
    have hw2 := cO g v.cells.toList (j * K + po) w cur e hg hfit
    have hlen : cur.toList.length = cur.size := by simp
    refine ⟨w.setCells g (j * K + po) v.cells.toList, ?_, hr.2.noRows.turn hi rfl (fun b hb => by have : (some g) = some b := hb; simp only [Option.some.injEq] at this; omega) (chgd_cells rfl) _
      ⟨⟨?_, .inr ⟨g, cap, _, by rw [List.length_set], hB, hw2, by rw [List.length_set]; exact hle, hmx, ?_, ?_⟩⟩, fun r hr => ?_⟩ fun b hb => .inl hb, chgd_cells rfl⟩
    · simp only [execOp, hop, aG hr.1 hx, aG hr.1 hy, Sem.run_bind, Instr.storeAt, Instr.sureAddr, Sem.run_pure, Result.andThen_ok, storeVar, sizeOf, typeInfo, run_program, hin, hs, ne_eq, not_true_eq_false, if_false, hst]
    · rw [flat_set hK hrow hpo, setL_len (by rw [hfl]; omega), List.length_set]; exact hfl
    · rw [List.size_toArray, setL_len (by rw [hlen]; exact hfit)]; rw [hlen]; exact hcs
    · rw [List.length_set, flat_set hK hrow hpo, ← htk]
      exact setL_take (by omega) (by omega)
    · rcases List.mem_or_eq_of_mem_set hr with h | h
      · exact hK r h
      · rw [h, setL_len (by rw [hK row (List.mem_of_getElem? hrow)]; exact hpo)]; exact hK row (List.mem_of_getElem? hrow)
theorem act_tix {ρ : Nat → Nat} {σ : Nat → Nat × Nat} {a : Act} {o : Oper} {T : TypeId} {x idx : Operand} {t : ByteArray} {kd : IntKind} (j : Nat) (h : XAct n st ρ σ a) (hop : o.op = .index T x idx)
    (hu : P.underlying T = some .string) (hx : cn st.tmps x = some (.v (.string t))) (hidx : cn st.tmps idx = some (.v (.int kd (j : Int)))) (hlt : j < t.size) (w : World) :
    (execOp a.eval o).run P w = .ok (.value (.int .u8 (aW t j))) w := by
  have hb : aW t j = (t[j].toNat : Int) := by
    unfold aW
    have hl : j < t.data.size := hlt
    rw [Array.getD_eq_getD_getElem?, Array.getElem?_eq_getElem hl]; rfl
  simp only [execOp, hop, aG h hx, aG h hidx, Sem.run_bind, run_index_string w T t kd _ hu]
  rw [dif_pos ⟨by omega, by omega⟩, hb]
  simp [Result.andThen_ok, Sem.run_pure]
variable {QX : Exit → St → Prop} {ops : Array Oper}
variable {fuel : Nat} {listed : Array Bool} {B : List Box} {R : List (List Value)} {ρ : Nat → Nat} {σ : Nat → Nat × Nat}
end
end
/- The machine: draws that make a struct with a slice of its own. -/
section
open Go.RowKit
set_option linter.unusedVariables false
set_option linter.unusedSimpArgs false
def newF (B : Nat) (v : Value) (k : Nat) (rs : List (List Value)) : Fact where
  own := true
  p := fun w => (ag v k rs).p w ∧ ∀ b, (ag v k rs).blk b → B ≤ b
  blk := (ag v k rs).blk
  lt := fun w b h hb => (ag v k rs).lt w b h.1 hb
  keep := fun w w' h hs hb => ⟨(ag v k rs).keep w w' h.1 hs hb, h.2⟩
section
variable {P : Program} {n : Nat} {w0 : World} {QX : Exit → St → Prop} {st st' : St} {ops : Array Oper} {fuel fuel' : Nat} {listed listed' : Array Bool} {B : List Box} {R : List (List Value)} {ρ : Nat → Nat} {σ : Nat → Nat × Nat}
end
end
/- The machine: function values that hold variables, calls of them, and memory kept together as one fact. -/
section
open Go.RowKit
set_option linter.unusedVariables false
set_option linter.unusedSimpArgs false
def allF (gs : List Fact) : Fact where
  own := true
  p := fun w => (∀ g ∈ gs, g.p w) ∧ Apart gs
  blk := fun b => ∃ g ∈ gs, g.blk b
  lt := fun w b h ⟨g, hg, hb⟩ => g.lt w b (h.1 g hg) hb
  keep := fun w w' h hs hb => ⟨fun g hg => g.keep w w' (h.1 g hg) hs fun b hgb => hb b ⟨g, hg, hgb⟩, h.2⟩
theorem Apart.back {gs hs : List Fact} (h : Apart (gs ++ hs)) : Apart hs := fun i j f g hi hj hij => by
  refine h (gs.length + i) (gs.length + j) f g ?_ ?_ (by omega)
  · rw [List.getElem?_append_right (by omega), Nat.add_sub_cancel_left]; exact hi
  · rw [List.getElem?_append_right (by omega), Nat.add_sub_cancel_left]; exact hj
theorem Apart.pickN {fs gs : List Fact} (m : List Nat) (h : Apart fs) (hm : nodupB m = true) (hp : pickF fs m = some gs) : Apart gs := fun i j f g hi hj hij => by
  obtain ⟨g1, g2⟩ := pickF_get hp
  have hl1 := (List.getElem?_eq_some_iff.1 hi).1
  have hl2 := (List.getElem?_eq_some_iff.1 hj).1
  have e1 := List.getElem?_eq_getElem (l := m) (i := i) (by omega)
  have e2 := List.getElem?_eq_getElem (l := m) (i := j) (by omega)
  refine h _ _ f g (g2 i f _ hi e1) (g2 j g _ hj e2) fun e => hij ?_
  have hk := List.pairwise_iff_getElem.1 (nodupB_spec hm)
  rcases Nat.lt_trichotomy i j with h1 | h1 | h1
  · exact (hk i j (by omega) (by omega) h1 e).elim
  · exact h1
  · exact (hk j i (by omega) (by omega) h1 e.symm).elim
section
variable {P : Program} {n : Nat} {w0 : World} {QX : Exit → St → Prop} {st st' : St} {ops : Array Oper} {l : List Oper}
variable {fuel : Nat} {listed : Array Bool} {B : List Box} {R : List (List Value)} {ρ : Nat → Nat} {σ : Nat → Nat × Nat}
end
end
/- The machine: bytes made of a text ('[]byte(s)'), written one by one. -/
section
open Go.RowKit
set_option linter.unusedVariables false
set_option linter.unusedSimpArgs false
def ac (t : ByteArray) : List Int := t.data.toList.map fun b => (b.toNat : Int)
theorem cy (t : ByteArray) : (ac t).length = t.size := by unfold ac; rw [List.length_map]; rfl
def bytF (B g e N cap : Nat) (bs : List Int) : Fact where
  own := true
  p := fun w => B ≤ g ∧ bs.length = N ∧ N ≤ cap ∧ cap ≤ maxLen ∧ ∃ cur : Array Value, w.heap[g]? = some (.cells cur e (cur.size, cur.size + 1)) ∧ cur.size = cap ∧ ∀ (j : Nat) x, bs[j]? = some x → cur[j]? = some (.int .u8 x)
  blk := fun b => b = g
  lt := fun w b h hb => by subst hb; obtain ⟨-, -, -, -, cur, h1, -⟩ := h; exact (Array.getElem?_eq_some_iff.1 h1).1
  keep := fun w w' h hs hb => by obtain ⟨h0, h1, h2, h3, cur, h4, h5⟩ := h; exact ⟨h0, h1, h2, h3, cur, (hb g rfl).trans h4, h5⟩
theorem bytF_cell {w : World} {B g e N cap j : Nat} {bs : List Int} {x : Int} (h : (bytF B g e N cap bs).p w) (hx : bs[j]? = some x) : w.cell? ⟨g, j, none⟩ = some (.int .u8 x) := by
  obtain ⟨-, -, -, -, cur, h1, -, h2⟩ := h
  simp only [World.cell?, h1]; exact h2 j x hx
theorem bytF_sl {w : World} {B g e N cap : Nat} {bs : List Int} (h : (bytF B g e N cap bs).p w) : Sl w (.slice (some ⟨g, 0, none⟩) N cap) 1 (bs.map bR) := by
  have h0 := h
  obtain ⟨h1, h2, h3, h4, cur, h5, h6, h7⟩ := h
  refine ⟨some ⟨g, 0, none⟩, cap, by rw [List.length_map, h2], by rw [List.length_map, h2]; exact h3, h4, fun e => (by cases e), fun i r hr => ⟨g, 0, rfl, (Array.getElem?_eq_some_iff.1 h5).1, fun j v hv => ?_⟩⟩
  rw [List.getElem?_map] at hr
  cases hx : bs[i]? with
  | none => rw [hx] at hr; simp at hr
  | some x =>
    rw [hx] at hr; simp only [Option.map_some, Option.some.injEq] at hr; subst hr
    cases j with
    | zero =>
      simp only [bR, List.getElem?_cons_zero, Option.some.injEq] at hv; subst hv
      rw [show 0 + i * 1 + 0 = i by omega]; exact bytF_cell h0 hx
    | succ j => simp [bR] at hv
section
variable {P : Program} {n : Nat} {w0 : World} {st : St}
theorem hv_s2b {o : Oper} {src dst e : TypeId} {x : Operand} {t : ByteArray} {u : TypeDesc} (hop : o.op = .convert src dst x) (hs : P.underlying src = some u) (hd : P.underlying dst = some (.slice e)) (he : P.underlying e = some (.int .u8)) (hx : cn st.tmps x = some (.v (.string t))) (ht : t.size ≤ maxLen) :
    HV P n w0 st o (α := Nat × Nat) (fun y => .slice (some ⟨y.1, 0, none⟩) t.size y.2) (fun y => bytF w0.heap.size y.1 e t.size y.2 (ac t) :: st.facts) := fun ρ σ a w hr => by
  have hsz : (Lib.bytesCells w e t).size = grownCap w t.size 0 e := by
    have := grownCap_ge w t.size 0 e
    simp only [Lib.bytesCells, Array.size_append, Array.size_map, Array.size_replicate]
    show t.size + _ = _; omega
  refine ⟨(w.heap.size, grownCap w t.size 0 e), Lib.bytesWorld w e t, ?_, hr.2.noRows.fresh ⟨by simp [Lib.bytesWorld, World.freeze, World.alloc, World.drew, -World.alloc_eq, -World.drew_eq], by simp [Lib.bytesWorld, World.freeze, World.alloc, World.drew, -World.alloc_eq, -World.drew_eq], by simp [Lib.bytesWorld, World.freeze, World.alloc, World.drew, -World.alloc_eq, -World.drew_eq], by rw [Lib.bytesWorld_size]; omega, fun k hk => Lib.bytesWorld_at_old w e t k hk⟩ _
    ⟨hr.2.below.size, cy t, grownCap_ge _ _ _ _, grownCap_le_maxLen _ _ _ _ ht, _, Lib.bytesWorld_at_new w e t, hsz, fun j y hy => ?_⟩ (fun b hb => ?_)⟩
  · simp only [execOp, hop, aG hr.1 hx, Sem.run_bind, Lib.run_convert_string_bytes w src dst e t hs hd he, Result.andThen_ok, Sem.run_pure]
  · unfold ac at hy
    rw [List.getElem?_map] at hy
    have hlt : j < t.data.size := by
      rcases Nat.lt_or_ge j t.data.size with h | h
      · exact h
      · rw [List.getElem?_eq_none (by simpa using h)] at hy; simp at hy
    simp only [Lib.bytesCells]
    rw [Array.getElem?_append_left (by simpa using hlt), Array.getElem?_map]
    rw [Array.getElem?_toList] at hy
    cases hq : t.data[j]? with
    | none => rw [hq] at hy; simp at hy
    | some b => rw [hq] at hy; simp only [Option.map_some, Option.some.injEq] at hy ⊢; rw [hy]
  · have e1 : b = w.heap.size := hb
    omega
end
end
/- The machine: bytes copied onto a row of the call's own. -/
section
open Go.RowKit
set_option linter.unusedVariables false
set_option linter.unusedSimpArgs false
section
variable {P : Program} {n : Nat} {w0 : World} {st : St}
theorem flat_byte : ∀ l : List Int, (l.map bR).flatten = l.map (fun x => Value.int .u8 x)
  | [] => rfl
  | x :: l => by simp only [List.map_cons, List.flatten_cons, flat_byte l, bR, List.singleton_append]
theorem hv_copyB {fs' : List Fact} {o : Oper} {c : Call} {x y : Operand} {T e bytes i B g N cap : Nat} {sv : Value} {L l : List Int} (hop : o.op = .call c) (hc : c.callee = .builtin .copy) (hargs : c.args.toList = [x, y]) (hts : c.argTypes.toList = [T, T]) (hp : appOk P T e 1 bytes = true)
    (hx : cn st.tmps x = some (.v (.slice (some ⟨g, 0, none⟩) N cap))) (hy : cn st.tmps y = some (.v sv)) (hi : st.facts[i]? = some (bU B e 1 (.slice (some ⟨g, 0, none⟩) N cap) (L.map bR))) (hn : L.length = N)
    (hsl : ∀ (ρ : Nat → Nat) (σ : Nat → Nat × Nat) (a : Act) (w : World), XRep n w0 st ρ σ a w → Sl w sv 1 (l.map bR)) (hle : l.length ≤ N) (hlo : w0.heap.size ≤ B)
    (hfs : bU B e 1 (.slice (some ⟨g, 0, none⟩) N cap) ((l ++ L.drop l.length).map bR) :: dropF st.facts i = fs') :
    HV P n w0 st o (α := Unit) (fun _ => .int .i64 (l.length : Int)) (fun _ => fs') := fun ρ σ a w hr => by
  subst hn hfs
  have hown := (hr.2.fact _ (List.mem_of_getElem? hi)).1
  obtain ⟨hu, ti, z', hti, hzt, hs, hby, hzs, h0⟩ := appOk_spec hp
  obtain ⟨⟨hfl, hor⟩, hK⟩ := hown
  rcases hor with ⟨h1, h2⟩ | ⟨g', cap', cur, h1, hB, hg, hle', hmx, hcs, htk⟩
  · simp at h1
  simp only [Value.slice.injEq, Option.some.injEq, Addr.mk.injEq, true_and, and_true] at h1
  obtain ⟨rfl, -, rfl⟩ := h1
  obtain ⟨sa, sc, hsv, hl1, hl2, hl3, hl4⟩ := hsl ρ σ a w hr
  subst hsv
  simp only [List.length_map, Nat.mul_one, flat_byte] at hle' hl1 htk hcs hy
  have hsz : (P.info? e).map (·.size) = some 1 := by rw [hti]; simp [hs]
  have e2 : c.args = #[x, y] := by rw [← Array.toArray_toList (xs := c.args), hargs]
  have e3 : c.argTypes = #[T, T] := by rw [← Array.toArray_toList (xs := c.argTypes), hts]
  have hcur : L.length ≤ cur.size := by rw [hcs]; omega
  have hc1 : ∀ u ∈ l.map (fun x => Value.int .u8 x), u.oneCell' = true := fun u hu' => by obtain ⟨q, -, rfl⟩ := List.mem_map.1 hu'; rfl
  have hw2 := cO g (l.map (fun x => Value.int .u8 x)) 0 w cur e hg (by rw [List.length_map]; omega)
  refine ⟨(), w.setCells g 0 (l.map (fun x => Value.int .u8 x)), ?_, hr.2.noRows.turn hi rfl (fun b hb => by have : (some g) = some b := hb; simp only [Option.some.injEq] at this; omega) (chgd_cells rfl) _ ⟨⟨?_, .inr ⟨g, cap, _, by rw [List.length_map, List.length_append, List.length_drop]; congr 1; omega, hB, hw2, ?_, hmx, ?_, ?_⟩⟩, ?_⟩ (fun b hb => .inl hb)⟩
  · simp only [execOp, hop, resolve, hc, e2, e3, Sem.run_bind, Sem.run_pure, Result.andThen_ok, List.map_toArray, List.map_cons, List.map_nil, aG hr.1 hx, aG hr.1 hy, invoke, builtin]
    by_cases hl0 : l = []
    · subst hl0
      have := run_copy_none (P := P) w T T o.type e (some ⟨g, 0, none⟩) sa L.length cap 0 sc hu hsz (by simp)
      simp only [List.map_nil, List.length_nil, World.setCells] at this ⊢
      rw [this]; rfl
    · obtain ⟨x0, l', rfl⟩ := List.exists_cons_of_ne_nil hl0
      obtain ⟨b, off, rfl, hb1, hb2⟩ := hl4 0 (bR x0) rfl
      have key := run_copy_cells (P := P) w T T o.type e g 0 L.length cap ⟨b, off, none⟩ (x0 :: l').length sc ((x0 :: l').map (fun x => Value.int .u8 x)) hu hsz (by rw [List.length_map]; exact (Nat.min_eq_left hle).symm)
        (fun j v hv => by
          rw [List.getElem?_map] at hv
          cases hj : (x0 :: l')[j]? with
          | none => rw [hj] at hv; simp at hv
          | some q =>
            rw [hj] at hv; simp only [Option.map_some, Option.some.injEq] at hv; subst hv
            obtain ⟨b', off', he, h5, h6⟩ := hl4 j (bR q) (by rw [List.getElem?_map, hj]; rfl)
            simp only [Option.some.injEq, Addr.mk.injEq, and_true] at he
            obtain ⟨rfl, rfl⟩ := he
            have := h6 0 (.int .u8 q) rfl
            simpa [Addr.add_mid] using this)
        (fun j hj => by rw [List.length_map] at hj; rw [cell_of_row w g _ cur e (0, 0) hg, Array.getElem?_eq_getElem (by omega)]; rfl) (fun j hj => frozen_of_row w g _ cur e hg) hc1
      rw [key, List.length_map]; rfl
  · rw [flat_byte, List.length_map, List.length_map, Nat.mul_one]
  · rw [List.length_map, List.length_append, List.length_drop]; omega
  · simp only [du, List.size_toArray, List.length_append, List.length_take, List.length_drop, Array.length_toList, List.length_map]; rw [hcs]; omega
  · rw [flat_byte, List.length_map, Nat.mul_one]
    simp only [du, List.take_zero, List.nil_append, List.length_map, List.map_append, List.length_append, List.length_drop, Nat.zero_add]
    rw [List.take_append, List.length_map, List.take_of_length_le (by rw [List.length_map]; omega)]
    congr 1
    have h9 : l.length + (L.length - l.length) - l.length = L.length - l.length := by omega
    rw [h9, List.map_drop, ← htk, List.drop_take]
  · intro r hr'
    obtain ⟨q, -, rfl⟩ := List.mem_map.1 hr'; rfl
end
end
/- Plain definitions: connections (no program in sight). -/
section
open Go.RowKit
def tS (c : Con) : Int :=
  if c.state = 1 then (if c.r.done then 4 else 1)
  else if c.state = 2 then (if c.s.done && c.r.done then 7 else if c.s.done then 3 else if c.r.done then 5 else 2)
  else if c.state = 3 then (if c.r.done then 7 else 3)
  else if c.state = 5 then (if c.s.done then 7 else 5)
  else if c.state = 6 then (if c.s.done then 8 else 6)
  else c.state
def turned (c : Con) : Con :=
  if tS c = c.state then c
  else if conOk { c with state := tS c, timer := 0 } && bx c.timer 0 4 then
    (if tS c = 7 then { c with state := 7, timer := 4, tries := 0 } else if tS c = 8 then { c with state := 8, timer := 0, tries := 0 } else { c with state := tS c })
  else c
def cut (s : ByteArray) (n : Int) : Int := max 0 (min n s.size)
end
/- Plain definitions: new connections (no program in sight). -/
section
open Go.RowKit
theorem u64_id {n : Int} (h1 : 0 ≤ n) (h2 : n ≤ 9223372036854775807) : IntKind.u64.wrap n = n := by
  simp only [IntKind.wrap, IntKind.bits, IntKind.signed]; simp; omega
end
end Go.Proofs.Ytfidgfddgmppdaa
