/- The machine's operations, and that the model's do the same. -/
import Derived.Test.YtnmmhbhdcplfmaaXA
namespace Go.Proofs.Ytnmmhbhdcplfmaa
open Go.RowKit
set_option linter.unusedVariables false
set_option linter.unusedSimpArgs false

inductive XR where
  | val (x : AV)
  | box (b : Box)
  | store (i off : Nat) (cs : List Value)

def opv (l : List (Nat × AV)) : Operand → Option AV
  | .tmp t => lkp l t
  | .const v => some (.v v)
  | .func f => some (.v (.func (.func f) #[] #[]))
  | .global _ => none
def intOp (op : BinOp) (k : IntKind) (a b : Int) : Option Value :=
  match op with
  | .add => some (.int k (k.wrap (a + b)))
  | .sub => some (.int k (k.wrap (a - b)))
  | .mul => some (.int k (k.wrap (a * b)))
  | .eql => some (.bool (a == b))
  | .neq => some (.bool (a != b))
  | .lss => some (.bool (decide (a < b)))
  | .leq => some (.bool (decide (a ≤ b)))
  | .gtr => some (.bool (decide (a > b)))
  | .geq => some (.bool (decide (a ≥ b)))
  | .and => some (.int k (k.wrap (BitVec.ofInt k.bits a &&& BitVec.ofInt k.bits b).toNat))
  | .or => some (.int k (k.wrap (BitVec.ofInt k.bits a ||| BitVec.ofInt k.bits b).toNat))
  | _ => none
def sameKind : IntKind → IntKind → Bool
  | .i64, .i64 => true
  | .u64, .u64 => true
  | .u8, .u8 => true
  | .i32, .i32 => true
  | .u32, .u32 => true
  | _, _ => false
theorem sameKind_eq {a b : IntKind} (h : sameKind a b = true) : a = b := by cases a <;> cases b <;> first | rfl | simp [sameKind] at h
def binV (P : Program) (op : BinOp) (t : TypeId) (x y : Value) : Option Value :=
  match x, y with
  | .int k a, .int k' b => if sameKind k k' then intOp op k a b else none
  | .string a, .string b => match op with
    | .eql => some (.bool (a.toList == b.toList))
    | .neq => some (.bool !(a.toList == b.toList))
    | _ => none
  | .bool a, .bool b => match P.underlying t with
    | some .bool => match op with
      | .eql => some (.bool (a == b))
      | .neq => some (.bool !(a == b))
      | _ => none
    | _ => none
  | _, _ => none
def loadC (P : Program) (t : TypeId) (cs : List Value) (off : Nat) : Option Value :=
  match P.underlying t, P.info? t with
  | some d, some i => if d.isRow then (if Nat.ble (off + i.size) cs.length then some (.agg ((cs.drop off).take i.size).toArray) else none) else cs[off]?
  | _, _ => none
def xop (P : Program) (l : List (Nat × AV)) (boxes : List Box) (rows : List (List Value)) : Op → Option XR
  | .move x | .assign x => match opv l x with | some y => some (.val y) | none => none
  | .pick c a b => match opv l c with
    | some (.v (.bool cc)) => match opv l a, opv l b with
      | some (.v (.bool x)), some (.v (.bool y)) => some (.val (.v (.bool (cond cc x y))))
      | some x, some y => match cc with
        | true => some (.val x)
        | false => some (.val y)
      | _, _ => none
    | _ => none
  | .box t x => match opv l x with
    | some (.v v) => some (.box ⟨t, v.cells.toList⟩)
    | _ => none
  | .alloc t => match P.info? t with
    | some i => match i.zero with
      | some z => some (.box ⟨t, z.cells.toList⟩)
      | none => none
    | none => none
  | .load t x => match opv l x with
    | some (.p i off) => match boxes[i]? with
      | some b => match loadC P t b.cells off with | some v => some (.val (.v v)) | none => none
      | none => none
    | some (.r h off) => match rows[h]? with
      | some r => match loadC P t r off with | some v => some (.val (.v v)) | none => none
      | none => none
    | _ => none
  | .store t a x => match opv l a, opv l x with
    | some (.p i off), some (.v v) => match boxes[i]?, P.info? t with
      | some b, some inf => if Nat.beq v.cells.size inf.size && (Nat.ble (off + inf.size) b.cells.length && v.cells.toList.all (·.oneCell')) then some (.store i off v.cells.toList) else none
      | _, _ => none
    | _, _ => none
  | .fieldAddr s x f => match P.underlying s with
    | some (.struct fs) => match fs[f]? with
      | some fd => match P.info? fd.type with
        | some inf => if Nat.beq inf.size 0 then none else match opv l x with
          | some (.p i off) => some (.val (.p i (off + fd.offset)))
          | some (.r h off) => some (.val (.r h (off + fd.offset)))
          | _ => none
        | none => none
      | none => none
    | _ => none
  | .binOp op t x y _ => match opv l x, opv l y with
    | some (.v a), some (.v b) => match binV P op t a b with | some v => some (.val (.v v)) | none => none
    | _, _ => none
  | .unOp .not _ x => match opv l x with
    | some (.v (.bool b)) => some (.val (.v (.bool !b)))
    | _ => none
  | .convert s d x => match P.underlying s, P.underlying d, opv l x with
    | some _, some (.int k), some (.v (.int _ n)) => some (.val (.v (.int k (k.wrap n))))
    | _, _, _ => none
  | .extract x i => match opv l x with
    | some (.v (.tuple vs)) => match vs[i]? with | some v => some (.val (.v v)) | none => none
    | _ => none
  | .call c => match c.callee, c.args.toList, c.argTypes.toList with
    | .builtin .len, [x], [t] => match opv l x, P.underlying t with
      | some (.v (.string s)), some .string => some (.val (.v (.int .i64 s.size)))
      | some (.v (.slice _ n _)), some (.slice _) => some (.val (.v (.int .i64 n)))
      | _, _ => none
    | .builtin .min, [x, y], _ => match opv l x, opv l y with
      | some (.v (.int k a)), some (.v (.int _ b)) => some (.val (.v (.int k (if b < a then b else a))))
      | _, _ => none
    | .builtin .max, [x, y], _ => match opv l x, opv l y with
      | some (.v (.int k a)), some (.v (.int _ b)) => some (.val (.v (.int k (if a < b then b else a))))
      | _, _ => none
    | _, _, _ => none
  | _ => none

section
variable {P : Program} {n : Nat} {w0 : World} {st : St} {ρ : Nat → Nat} {σ : Nat → Nat × Nat} {a : Act} {w : World}
theorem opv_eval (h : XAct n st ρ σ a) {x : Operand} {y : AV} (hx : opv st.tmps x = some y) : a.eval x = conc ρ σ y ∧ y.wf st.boxes.length st.rows.length := by
  cases x with
  | tmp t => simp only [opv] at hx; obtain ⟨h1, h2⟩ := h.tmps t y hx; exact ⟨h2, h1⟩
  | const v => simp only [opv, Option.some.injEq] at hx; subst hx; exact ⟨rfl, trivial⟩
  | global g => simp [opv] at hx
  | func f => simp only [opv, Option.some.injEq] at hx; subst hx; exact ⟨rfl, trivial⟩
theorem opv_v (h : XAct n st ρ σ a) {x : Operand} {v : Value} (hx : opv st.tmps x = some (.v v)) : a.eval x = v := (opv_eval h hx).1

theorem binV_run (op : BinOp) (t : TypeId) (x y : Operand) (a b v : Value) (h : binV P op t a b = some v) (w : World) : (do eqGuard op t x y a b; binOp op t a b : Sem Value).run P w = .ok v w := by
  unfold binV at h
  split at h
  · split at h
    · rename_i k a k' b hk
      obtain rfl := sameKind_eq hk
      unfold intOp at h
      split at h <;> first
        | (simp only [Option.some.injEq] at h; subst h
           simp [eqGuard, binOp, Op.intArith, Op.intCmp, Op.intBits])
        | simp at h
    · simp at h
  · rename_i a b
    split at h <;> first
      | (simp only [Option.some.injEq] at h; subst h
         simp [eqGuard, binOp, Op.stringOp])
      | simp at h
  · rename_i a b
    split at h
    · rename_i hu
      split at h <;> first
        | (simp only [Option.some.injEq] at h; subst h
           simp [eqGuard, run_eql_bool, run_neq_bool, hu])
        | simp at h
    · simp at h
  · simp at h
end
end Go.Proofs.Ytnmmhbhdcplfmaa
