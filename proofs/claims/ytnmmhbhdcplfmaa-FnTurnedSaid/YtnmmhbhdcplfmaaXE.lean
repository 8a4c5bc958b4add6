/- Rules of the machine: regions, calls, branches, loops, a whole function. -/
import Derived.Test.YtnmmhbhdcplfmaaXD
import Derived.Defers
import Derived.Tactics
namespace Go.Proofs.Ytnmmhbhdcplfmaa
open Go.RowKit
set_option linter.unusedVariables false
set_option linter.unusedSimpArgs false

section
variable {P : Program} {n : Nat} {w0 : World}
def QQ (n : Nat) (w0 : World) (QX : Exit → St → Prop) (e : Exit) (a : Act) (w : World) : Prop := ∃ st ρ σ, QX e st ∧ XRep n w0 st ρ σ a w
def XW (P : Program) (n : Nat) (w0 : World) (QX : Exit → St → Prop) (c : Code) (st : St) : Prop :=
  ∀ ρ σ a w, XRep n w0 st ρ σ a w → c.wp P (QQ n w0 QX) a w
def XL (P : Program) (n : Nat) (w0 : World) (ops : Array Oper) (QX : Exit → St → Prop) (l : List Oper) (st : St) : Prop :=
  ∀ ρ σ a w, XRep n w0 st ρ σ a w → wpList P ops (QQ n w0 QX) l a w
def QSeq (P : Program) (n : Nat) (w0 : World) (y : Code) (QX : Exit → St → Prop) : Exit → St → Prop
  | .normal, st => XW P n w0 QX y st
  | e, st => QX e st
def QBlock (id : Nat) (QX : Exit → St → Prop) : Exit → St → Prop
  | .exit id', st => match Nat.beq id' id with
    | true => QX .normal st
    | false => QX (.exit id') st
  | e, st => QX e st
variable {QX : Exit → St → Prop} {st st' : St} {ops : Array Oper} {l : List Oper}

theorem xw_skip (h : QX .normal st) : XW P n w0 QX .skip st := fun ρ σ a w hr => wp_skip ⟨st, ρ, σ, h, hr⟩
theorem xw_ret (h : QX .ret st) : XW P n w0 QX .ret st := fun ρ σ a w hr => wp_ret ⟨st, ρ, σ, h, hr⟩
theorem xw_exit {id : Nat} (h : QX (.exit id) st) : XW P n w0 QX (.exit id) st := fun ρ σ a w hr => wp_exit ⟨st, ρ, σ, h, hr⟩
theorem xw_seq {x y : Code} (h : XW P n w0 (QSeq P n w0 y QX) x st) : XW P n w0 QX (.seq x y) st := fun ρ σ a w hr => by
  refine wp_seq (Code.wp_mono (fun e a w ⟨s, ρ, σ, h1, h2⟩ => ?_) (h ρ σ a w hr))
  cases e <;> first | exact h1 ρ σ a w h2 | exact ⟨s, ρ, σ, h1, h2⟩
theorem xw_block {id : Nat} {c : Code} (h : XW P n w0 (QBlock id QX) c st) : XW P n w0 QX (.block id c) st := fun ρ σ a w hr => by
  refine wp_block (Code.wp_mono (fun e a w ⟨s, ρ, σ, h1, h2⟩ => ?_) (h ρ σ a w hr))
  cases e <;> try exact ⟨s, ρ, σ, h1, h2⟩
  rename_i id'
  simp only [QBlock] at h1
  simp only [Exit.inBlock]
  split at h1
  · rename_i he; rw [if_pos (Nat.eq_of_beq_eq_true he)]; exact ⟨s, ρ, σ, h1, h2⟩
  · rename_i he; rw [if_neg (fun e => by rw [e, Nat.beq_refl] at he; cases he)]; exact ⟨s, ρ, σ, h1, h2⟩
theorem xw_cond {c : Operand} {x y : Code} {b : Bool} (hc : opv st.tmps c = some (.v (.bool b))) (h1 : b = true → XW P n w0 QX x st) (h2 : b = false → XW P n w0 QX y st) : XW P n w0 QX (.cond c x y) st :=
  fun ρ σ a w hr => wp_cond_split (opv_v hr.1 hc) (fun e => h1 e ρ σ a w hr) (fun e => h2 e ρ σ a w hr)
theorem xw_true {c : Operand} {x y : Code} (hc : opv st.tmps c = some (.v (.bool true))) (h1 : XW P n w0 QX x st) : XW P n w0 QX (.cond c x y) st := xw_cond hc (fun _ => h1) (fun e => by cases e)
theorem xw_false {c : Operand} {x y : Code} (hc : opv st.tmps c = some (.v (.bool false))) (h1 : XW P n w0 QX y st) : XW P n w0 QX (.cond c x y) st := xw_cond hc (fun e => by cases e) (fun _ => h1)
theorem xl_eq (h : st = st') (h1 : XL P n w0 ops QX l st') : XL P n w0 ops QX l st := h ▸ h1
theorem xw_loop {c : Code} {α : Type} (Inv : α → St) (μ : α → Nat) (x0 : α) (h0 : st = Inv x0)
    (h : ∀ x, XW P n w0 (fun e s => match e with | .normal => ∃ x', s = Inv x' ∧ μ x' < μ x | e => QX e s) c (Inv x)) : XW P n w0 QX (.loop c) st := by
  subst h0
  intro ρ σ a w hr
  let I : Act → World → α → Prop := fun a w x => ∃ ρ σ, XRep n w0 (Inv x) ρ σ a w
  have least : ∀ a w, (∃ x, I a w x) → ∃ x, I a w x ∧ ∀ y, I a w y → μ x ≤ μ y := fun a w ⟨x, hx⟩ => by
    have key : ∀ m x, μ x = m → I a w x → ∃ x, I a w x ∧ ∀ y, I a w y → μ x ≤ μ y := by
      intro m
      induction m using Nat.strongRecOn with
      | _ m ih =>
        intro x hm hx
        by_cases hl : ∃ y, I a w y ∧ μ y < μ x
        · obtain ⟨y, hy, hlt⟩ := hl
          exact ih (μ y) (hm ▸ hlt) y rfl hy
        · exact ⟨x, hx, fun y hy => Nat.le_of_not_lt fun hlt => hl ⟨y, hy, hlt⟩⟩
    exact key _ x rfl hx
  classical
  refine wp_loop (fun a w => ∃ x, I a w x) (fun a w => if h : ∃ x, I a w x then μ (Classical.choose (least a w h)) else 0) ⟨x0, ρ, σ, hr⟩ (fun a w hI => ?_)
  obtain ⟨⟨ρ', σ', hx⟩, hmin⟩ := Classical.choose_spec (least a w hI)
  refine Code.wp_mono (fun e a' w' ⟨s, ρ1, σ1, h1, h2⟩ => ?_) (h (Classical.choose (least a w hI)) ρ' σ' a w hx)
  cases e
  case normal =>
    obtain ⟨x', rfl, hlt⟩ := h1
    have hI' : ∃ x, I a' w' x := ⟨x', ρ1, σ1, h2⟩
    refine ⟨hI', ?_⟩
    rw [dif_pos hI', dif_pos hI]
    exact Nat.lt_of_le_of_lt ((Classical.choose_spec (least a' w' hI')).2 x' ⟨ρ1, σ1, h2⟩) hlt
  all_goals exact ⟨s, ρ1, σ1, h1, h2⟩

def xpart (P : Program) (n : Nat) (ops : Array Oper) (l : List Oper) (k : Nat) (ks : List Nat) (st : St) : Option St :=
  match xrun P n ops (l.take k) st with
  | some s => match keepT s.tmps ks with
    | some t => some ⟨t, s.boxes, s.rows, s.facts⟩
    | none => none
  | none => none
theorem XRep.keep {ks : List Nat} {t : List (Nat × AV)} {ρ : Nat → Nat} {σ : Nat → Nat × Nat} {a : Act} {w : World} (h : XRep n w0 st ρ σ a w) (hk : keepT st.tmps ks = some t) : XRep n w0 ⟨t, st.boxes, st.rows, st.facts⟩ ρ σ a w :=
  ⟨⟨h.1.size, h.1.defers, fun u x hu => h.1.tmps u x (lkp_keep _ _ _ hk u x hu)⟩, h.2⟩
theorem xpart_sound {k : Nat} {ks : List Nat} (h : xpart P n ops l k ks st = some st') {Q : Exit → Act → World → Prop} {ρ : Nat → Nat} {σ : Nat → Nat × Nat} {a : Act} {w : World} (hr : XRep n w0 st ρ σ a w)
    (hn : ∀ ρ' σ' a' w', XRep n w0 st' ρ' σ' a' w' → wpList P ops Q (l.drop k) a' w') : wpList P ops Q l a w := by
  unfold xpart at h
  split at h
  · rename_i s hs
    split at h
    · rename_i t ht
      simp only [Option.some.injEq] at h; subst h
      rw [← List.take_append_drop k l]
      exact xrun_sound _ _ hs hr (fun ρ' σ' a' w' h' => hn ρ' σ' a' w' (h'.keep ht))
    · simp at h
  · simp at h
theorem xl_run (k : Nat) (ks : List Nat) (st' : St) (h : xpart P n ops l k ks st = some st') (hn : XL P n w0 ops QX (l.drop k) st') : XL P n w0 ops QX l st :=
  fun ρ σ a w hr => xpart_sound h hr (fun ρ' σ' a' w' h' => hn ρ' σ' a' w' h')
theorem xl_end (ks : List Nat) (st' : St) (h : xpart P n ops l l.length ks st = some st') (hn : QX .normal st') : XL P n w0 ops QX l st :=
  fun ρ σ a w hr => xpart_sound h hr (fun ρ' σ' a' w' h' => by rw [List.drop_length]; exact ⟨st', ρ', σ', hn, h'⟩)
theorem xw_region {id : Nat} {l : List Oper} (h : XL P n w0 l.toArray QX l st) : XW P n w0 QX (.region id l.toArray false) st :=
  fun ρ σ a w hr => wp_region_lit (h ρ σ a w hr)
theorem xl_split (t : Nat) {b : Bool} (h : lkp st.tmps t = some (.v (.bool b))) (h1 : b = true → XL P n w0 ops QX l ⟨putT st.tmps (some t) (.v (.bool true)), st.boxes, st.rows, st.facts⟩)
    (h2 : b = false → XL P n w0 ops QX l ⟨putT st.tmps (some t) (.v (.bool false)), st.boxes, st.rows, st.facts⟩) : XL P n w0 ops QX l st := by
  intro ρ σ a w hr
  have key : ∀ b', b = b' → XRep n w0 ⟨putT st.tmps (some t) (.v (.bool b')), st.boxes, st.rows, st.facts⟩ ρ σ a w := fun b' hb => by
    subst hb
    refine ⟨⟨hr.1.size, hr.1.defers, fun u x hu => ?_⟩, hr.2⟩
    simp only [putT, lkp] at hu
    split at hu
    · rename_i he
      obtain rfl : t = u := Nat.eq_of_beq_eq_true he
      simp only [Option.some.injEq] at hu; subst hu
      exact hr.1.tmps t _ h
    · rename_i he
      rw [lkp_del, if_neg (fun e => he (by subst e; exact Nat.beq_refl t))] at hu
      exact hr.1.tmps u x hu
  cases b
  · exact h2 rfl ρ σ a w (key _ rfl)
  · exact h1 rfl ρ σ a w (key _ rfl)

def vals (l : List (Nat × AV)) : List Operand → Option (List Value)
  | [] => some []
  | x :: r => match opv l x, vals l r with
    | some (.v v), some vs => some (v :: vs)
    | _, _ => none
theorem vals_eval {ρ : Nat → Nat} {σ : Nat → Nat × Nat} {a : Act} (h : XAct n st ρ σ a) : ∀ (xs : List Operand) (vs : List Value), vals st.tmps xs = some vs → xs.map a.eval = vs
  | [], vs, hv => by simp [vals] at hv; subst hv; rfl
  | x :: r, vs, hv => by
    simp only [vals] at hv
    split at hv
    · rename_i v us h1 h2
      simp only [Option.some.injEq] at hv; subst hv
      rw [List.map_cons, opv_v h h1, vals_eval h r us h2]
    · simp at hv
def fnOk (P : Program) (f : FuncId) : Bool := match P.funcs[f]? with
  | some fn => !(fn.name == "runtime.NumGoroutine") && !fn.body.isNone
  | none => false
theorem fnOk_run {f : FuncId} (h : fnOk P f = true) (args : Array Value) (w : World) : (callFunc f args).run P w = .ok (.enter f args) w := by
  unfold fnOk at h
  split at h
  · rename_i fn hf
    simp only [Bool.and_eq_true, Bool.not_eq_true'] at h
    have h1 : ¬ fn.name = "runtime.NumGoroutine" := by simpa using h.1
    have h2 : ¬ fn.body = none := fun e => by rw [e] at h; simp at h
    simp [callFunc, hf, h1, h2]
  · simp at h
def xcallee (ops : Array Oper) (st : St) (o : Oper) : Option (FuncId × List Value × Option Nat) :=
  match xwanted ops st.tmps o with
  | some true => match o.op with
    | .call c => match c.callee with
      | .value x => match opv st.tmps x, vals st.tmps c.args.toList with
        | some (.v (.func (.func f) ⟨[]⟩ ⟨[]⟩)), some vs => some (f, vs, o.dst)
        | _, _ => none
      | _ => none
    | _ => none
  | _ => none
theorem xcallee_sound {o : Oper} {f : FuncId} {vs : List Value} {d : Option Nat} {ρ : Nat → Nat} {σ : Nat → Nat × Nat} {a : Act} (hA : XAct n st ρ σ a) (h : xcallee ops st o = some (f, vs, d)) (hf : fnOk P f = true) (w : World) :
    Region.wanted o (yielded ops a.tmps) = true ∧ o.dst = d ∧ (execOp a.eval o).run P w = .ok (.enter f vs.toArray) w := by
  unfold xcallee at h
  split at h
  · rename_i hw
    refine ⟨xwanted_sound hA hw, ?_⟩
    split at h
    · rename_i c hc
      split at h
      · rename_i x hx
        split at h
        · rename_i g us h1 h2
          simp only [Option.some.injEq, Prod.mk.injEq] at h
          obtain ⟨rfl, rfl, rfl⟩ := h
          refine ⟨rfl, ?_⟩
          have e1 := opv_v hA h1
          have e2 := vals_eval hA _ _ h2
          have e3 : c.args.map a.eval = us.toArray := by rw [← e2]; apply Array.toList_inj.1; simp
          simp only [execOp, hc, resolve, hx, e1, e3, Sem.run_bind, Deferred.ofValue, Sem.run_pure, Result.andThen_ok, invoke]
          have := fnOk_run hf us.toArray w
          simpa using this
        · simp at h
      · simp at h
    · simp at h
  · simp at h
def XC (P : Program) (w0 : World) (fs : List Fact) (f : FuncId) (args : List Value) {α : Type} (F : α → Value) (G : α → List Fact) : Prop :=
  ∀ w, w0.heap.size ≤ w.heap.size → (∀ g ∈ fs, g.p w) → Calls P f args.toArray w fun e w' => ∃ y, e = .returned (F y) ∧ (∀ g ∈ G y, g.p w' ∧ ∀ b, g.blk b → w.heap.size ≤ b) ∧ Apart (G y) ∧ Below w.heap.size w w'
theorem XHeap.addAll {boxes : List Box} {rows : List (List Value)} {facts : List Fact} {ρ : Nat → Nat} {σ : Nat → Nat × Nat} {w : World} (h : XHeap w0 boxes rows facts ρ σ w) :
    ∀ (gs : List Fact), (∀ g ∈ gs, g.p w ∧ (∀ i, i < boxes.length → ¬ g.blk (ρ i)) ∧ ∀ f ∈ facts, ∀ b, g.blk b → ¬ f.blk b) → Apart gs → XHeap w0 boxes rows (gs ++ facts) ρ σ w :=
  fun gs hg ha => ⟨h.below, h.box, h.inj, h.row, fun f hf => by
    rcases List.mem_append.1 hf with hf | hf
    · exact ⟨(hg f hf).1, (hg f hf).2.1⟩
    · exact h.fact f hf, ha.append h.apart fun g hgm f hf b h1 => (hg g hgm).2.2 f hf b h1⟩
theorem xl_call (k : Nat) (ks : List Nat) (st' : St) (f : FuncId) (args : List Value) (d : Option Nat) {α : Type} {F : α → Value} {G : α → List Fact} {o : Oper}
    (h : xpart P n ops l k ks st = some st') (ho : l[k]? = some o) (hc : xcallee ops st' o = some (f, args, d)) (hd : dstOk n d = true) (hf : fnOk P f = true)
    (hk : XC P w0 st'.facts f args F G)
    (hn : ∀ y, XL P n w0 ops QX (l.drop (k + 1)) ⟨putT st'.tmps d (.v (F y)), st'.boxes, st'.rows, G y ++ st'.facts⟩) : XL P n w0 ops QX l st :=
  fun ρ σ a w hr => xpart_sound h hr (fun ρ' σ' a' w' hr' => by
    have hdrop : l.drop k = o :: l.drop (k + 1) := by
      obtain ⟨hlt, rfl⟩ := List.getElem?_eq_some_iff.1 ho
      exact List.drop_eq_getElem_cons hlt
    rw [hdrop]
    obtain ⟨h1, h2, h3⟩ := xcallee_sound (P := P) hr'.1 hc hf w'
    simp only [wpList]
    rw [h1, if_pos rfl]
    left
    rw [Oper.wp, h3, Oper.upon_enter]
    refine (hk w' hr'.2.below.size (fun g hg => (hr'.2.fact g hg).1)).mono fun e w'' ⟨y, he, hg, hap, hb⟩ => ?_
    subst he
    have hH := (hr'.2.step hb).addAll (G y) (fun g hgm => ⟨(hg g hgm).1, fun i hi hblk => by have := (hg g hgm).2 _ hblk; have := hr'.2.boxLt hi; omega, fun f hf b hgb hfb => by have := (hg g hgm).2 _ hgb; have := f.lt _ b (hr'.2.fact f hf).1 hfb; omega⟩) hap
    have hA := hr'.1.put (d := o.dst) (x := .v (F y)) (by rw [h2]; exact dstOk_lt hd) trivial
    rw [h2] at hA
    simp only [conc] at hA
    have hA' : XAct n ⟨putT st'.tmps d (.v (F y)), st'.boxes, st'.rows, G y ++ st'.facts⟩ ρ' σ' (a'.put d (F y)) := ⟨hA.size, hA.defers, hA.tmps⟩
    simpa only [h2] using hn y ρ' σ' _ w'' ⟨hA', hH⟩)

def argT : Nat → List Value → List (Nat × AV)
  | _, [] => []
  | k, v :: r => (k, .v v) :: argT (k + 1) r
theorem argT_lkp : ∀ (l : List Value) (k t : Nat) (x : AV), lkp (argT k l) t = some x → k ≤ t ∧ ∃ v, l[t - k]? = some v ∧ x = .v v
  | [], k, t, x, h => by simp [argT, lkp] at h
  | v :: r, k, t, x, h => by
    simp only [argT, lkp] at h
    split at h
    · rename_i hb
      obtain rfl : k = t := Nat.eq_of_beq_eq_true hb
      simp only [Option.some.injEq] at h; subst h
      exact ⟨Nat.le_refl _, v, by simp, rfl⟩
    · obtain ⟨h1, u, h2, h3⟩ := argT_lkp r (k + 1) t x h
      refine ⟨by omega, u, ?_, h3⟩
      rw [show t - k = (t - (k + 1)) + 1 by omega]; simpa using h2
def xres1 (P : Program) (st : St) : ResultVar → Option Value
  | .tmp t => match lkp st.tmps t with | some (.v v) => some v | _ => none
  | .cell t ty => match lkp st.tmps t with
    | some (.p i off) => match st.boxes[i]? with
      | some b => loadC P ty b.cells off
      | none => none
    | _ => none
def xres (P : Program) (st : St) : List ResultVar → Option (List Value)
  | [] => some []
  | r :: l => match xres1 P st r, xres P st l with
    | some v, some vs => some (v :: vs)
    | _, _ => none
def pack : List Value → Value
  | [v] => v
  | vs => .tuple vs.toArray
def resRun (tmps : Array Value) : ResultVar → Sem Value
  | .tmp t => pure (tmps.getD t undef)
  | .cell p t => do loadVar t (← asAddr (tmps.getD p undef))
theorem xres1_run {ρ : Nat → Nat} {σ : Nat → Nat × Nat} {a : Act} {w : World} (hr : XRep n w0 st ρ σ a w) {r : ResultVar} {v : Value} (h : xres1 P st r = some v) : (resRun a.tmps r).run P w = .ok v w := by
  cases r with
  | tmp t =>
    simp only [xres1] at h
    split at h
    · rename_i u hu
      simp only [Option.some.injEq] at h; subst h
      have := (hr.1.tmps t _ hu).2
      simp only [conc] at this
      simp only [resRun, this]; rfl
    · simp at h
  | cell t ty =>
    simp only [xres1] at h
    split at h
    · rename_i i off hu
      split at h
      · rename_i b hb
        have := (hr.1.tmps t _ hu).2
        simp only [conc] at this
        have hl := loadC_run (P := P) (XHeap.range hr.2 hb) h
        rw [Nat.zero_add] at hl
        simp only [resRun, this]
        simpa [asAddr, Instr.loadAt, Instr.sureAddr] using hl
      · simp at h
    · simp at h
theorem xres_run {ρ : Nat → Nat} {σ : Nat → Nat × Nat} {a : Act} {w : World} {fn : Func} (hr : XRep n w0 st ρ σ a w) {vs : List Value} (h : xres P st fn.results.toList = some vs) :
    (results fn a.tmps).run P w = .ok (pack vs) w := by
  have key : ∀ (l : List ResultVar) (vs : List Value), xres P st l = some vs → (l.mapM (resRun a.tmps)).run P w = .ok vs w := by
    intro l
    induction l with
    | nil => intro vs h; simp [xres] at h; subst h; rfl
    | cons r l ih =>
      intro vs h
      simp only [xres] at h
      split at h
      · rename_i v us h1 h2
        simp only [Option.some.injEq] at h; subst h
        rw [List.mapM_cons, Sem.run_bind, xres1_run hr h1, Result.andThen_ok, Sem.run_bind, ih us h2]
        rfl
      · simp at h
  have hk := key _ _ h
  have he : results fn a.tmps = (do let vs ← fn.results.mapM (resRun a.tmps); pure (if h : vs.size = 1 then vs[0] else .tuple vs)) := by
    unfold results
    congr 2
  rw [he, Sem.run_bind, Array.mapM_eq_mapM_toList]
  simp [hk]
  match vs with
  | [] => rfl
  | [v] => rfl
  | v :: u :: r => simp [pack]
def XPost (P : Program) (w0 : World) (fn : Func) (R : Ending → World → Prop) : Exit → St → Prop
  | .normal, st | .ret, st => ∃ vs, xres P st fn.results.toList = some vs ∧ ∀ w', Below w0.heap.size w0 w' → (∀ g ∈ st.facts, g.p w') → R (.returned (pack vs)) w'
  | _, _ => False
theorem x_calls {f : FuncId} {fn : Func} {c : Code} {args : List Value} (fs : List Fact) {R : Ending → World → Prop} (hf : P.funcs[f]? = some fn) (hb : fn.body = some c) (hn : fn.ntmps = n) (hl : Nat.ble args.length n = true)
    (hfs : ∀ g ∈ fs, g.own = false ∧ g.p w0) (h : XW P n w0 (XPost P w0 fn R) c ⟨argT 0 args, [], [], fs⟩) : Calls P f args.toArray w0 R := by
  have hl' : args.length ≤ n := by simpa using hl
  have hA : XAct n ⟨argT 0 args, [], [], fs⟩ id (fun _ => (0, 0)) { tmps := args.toArray ++ Array.replicate (fn.ntmps - args.toArray.size) undef, defers := [] } := by
    refine ⟨?_, rfl, fun t x ht => ?_⟩
    · simp [hn]; omega
    · obtain ⟨-, v, h1, rfl⟩ := argT_lkp args 0 t x ht
      refine ⟨trivial, ?_⟩
      have hlt : t < args.length := (List.getElem?_eq_some_iff.1 h1).1
      simp only [Nat.sub_zero] at h1
      simp only [conc, Array.getD_eq_getD_getElem?]
      rw [Array.getElem?_append_left (by simpa using hlt)]
      simp [h1]
  have hH : XHeap w0 [] [] fs id (fun _ => (0, 0)) w0 := ⟨Below.refl _ _, fun i b hi => by simp at hi, fun i j hi => by simp at hi, fun k r hr => by simp at hr, fun g hg => ⟨(hfs g hg).2, fun i hi => by simp at hi⟩, Apart.plain fun g hg => (hfs g hg).1⟩
  refine calls_of_wp hf hb (Code.wp_mono (fun e a w hq => ?_) (h _ _ _ w0 ⟨hA, hH⟩))
  obtain ⟨s, ρ, σ, h1, h2⟩ := hq
  cases e <;> first
    | (obtain ⟨vs, g1, g2⟩ := h1
       exact ⟨h2.1.defers, _, xres_run h2 g1, g2 w h2.2.below (fun g hg => (h2.2.fact g hg).1)⟩)
    | exact h1.elim

theorem xl_op (k : Nat) (ks : List Nat) (st' : St) (v : Value) {o : Oper} (h : xpart P n ops l k ks st = some st') (ho : l[k]? = some o) (hw : xwanted ops st'.tmps o = some true) (hd : dstOk n o.dst = true)
    (hrun : ∀ (ρ : Nat → Nat) (σ : Nat → Nat × Nat) (a : Act) (w : World), XRep n w0 st' ρ σ a w → (execOp a.eval o).run P w = .ok (.value v) w)
    (hn : XL P n w0 ops QX (l.drop (k + 1)) ⟨putT st'.tmps o.dst (.v v), st'.boxes, st'.rows, st'.facts⟩) : XL P n w0 ops QX l st :=
  fun ρ σ a w hr => xpart_sound h hr (fun ρ' σ' a' w' hr' => by
    have hdrop : l.drop k = o :: l.drop (k + 1) := by
      obtain ⟨hlt, rfl⟩ := List.getElem?_eq_some_iff.1 ho
      exact List.drop_eq_getElem_cons hlt
    rw [hdrop]
    simp only [wpList]
    rw [xwanted_sound hr'.1 hw, if_pos rfl]
    left
    rw [Oper.wp, hrun ρ' σ' a' w' hr', Oper.upon_value]
    exact hn ρ' σ' _ w' ⟨hr'.1.put (x := .v v) (dstOk_lt hd) trivial, hr'.2⟩)
theorem XHeap.bare {boxes : List Box} {rows : List (List Value)} {facts : List Fact} {ρ : Nat → Nat} {σ : Nat → Nat × Nat} {w : World} (h : XHeap w0 boxes rows facts ρ σ w) : XHeap w0 boxes rows [] ρ σ w :=
  ⟨h.below, h.box, h.inj, h.row, fun g hg => by simp at hg, Apart.nil⟩
variable {fuel : Nat} {listed : Array Bool} {B : List Box} {R : List (List Value)} {ρ : Nat → Nat} {σ : Nat → Nat × Nat}
end
end Go.Proofs.Ytnmmhbhdcplfmaa
