/- The machine: parts of slices. -/
import Derived.Test.YtnmmhbhdcplfmaaXL
namespace Go.Proofs.Ytnmmhbhdcplfmaa
open Go.RowKit
set_option linter.unusedVariables false
set_option linter.unusedSimpArgs false
section
variable {P : Program} {n : Nat} {w0 : World} {QX : Exit → St → Prop} {st st' : St} {ops : Array Oper} {l : List Oper} {ρ : Nat → Nat} {σ : Nat → Nat × Nat} {a : Act}
theorem act_slV {o : Oper} {t e : TypeId} {x lo hi : Operand} {A : Option Addr} {len cap K : Nat} {k k' : IntKind} {p' q' : Int} (p q : Nat) (h : XAct n st ρ σ a) (ho : o.op = .slice t x (some lo) (some hi) none) (hu : P.underlying t = some (.slice e)) (hi' : (P.info? e).map (·.size) = some K)
    (hx : opv st.tmps x = some (.v (.slice A len cap))) (hlo : opv st.tmps lo = some (.v (.int k p'))) (hhi : opv st.tmps hi = some (.v (.int k' q'))) (ep : p' = p) (eq : q' = q) (h1 : p ≤ q) (h2 : q ≤ cap) (w : World) :
    (execOp a.eval o).run P w = .ok (.value (.slice (if cap = p then A else A.map (·.add (p * K))) (q - p) (cap - p))) w := by
  subst ep; subst eq
  cases hq : P.info? e with
  | none => simp [hq] at hi'
  | some i =>
    have hs : i.size = K := by simpa [hq] using hi'
    simp only [execOp, ho, opv_v h hx, opv_v h hlo, opv_v h hhi, Option.map_some, Option.map_none, Sem.run_bind, Instr.sliceAt, Instr.slice, run_underlying hu, Result.andThen_ok]
    have e1 : (0 ≤ (q : Int) ∧ (q : Int) ≤ (cap : Int)) := by omega
    have e2 : (0 ≤ (p : Int) ∧ (p : Int) ≤ ((q : Int).toNat : Int)) := by omega
    simp [Instr.sliceBounds, Instr.sliceBound, asIntOf, e1, e2, sizeOf, typeInfo, run_program, hq, hs, h1, h2]
theorem act_slV0 {o : Oper} {t e : TypeId} {x hi : Operand} {A : Option Addr} {len cap K : Nat} {k' : IntKind} {q' : Int} (q : Nat) (h : XAct n st ρ σ a) (ho : o.op = .slice t x none (some hi) none) (hu : P.underlying t = some (.slice e)) (hi' : (P.info? e).map (·.size) = some K)
    (hx : opv st.tmps x = some (.v (.slice A len cap))) (hhi : opv st.tmps hi = some (.v (.int k' q'))) (eq : q' = q) (h2 : q ≤ cap) (w : World) :
    (execOp a.eval o).run P w = .ok (.value (.slice (if cap = 0 then A else A.map (·.add (0 * K))) (q - 0) (cap - 0))) w := by
  subst eq
  cases hq : P.info? e with
  | none => simp [hq] at hi'
  | some i =>
    have hs : i.size = K := by simpa [hq] using hi'
    simp only [execOp, ho, opv_v h hx, opv_v h hhi, Option.map_some, Option.map_none, Sem.run_bind, Instr.sliceAt, Instr.slice, run_underlying hu, Result.andThen_ok]
    have e1 : (0 ≤ (q : Int) ∧ (q : Int) ≤ (cap : Int)) := by omega
    simp [Instr.sliceBounds, Instr.sliceBound, asIntOf, e1, sizeOf, typeInfo, run_program, hq, hs, h2]
theorem act_slVe {o : Oper} {t e : TypeId} {x lo : Operand} {A : Option Addr} {len cap K : Nat} {k : IntKind} {p' : Int} (p : Nat) (h : XAct n st ρ σ a) (ho : o.op = .slice t x (some lo) none none) (hu : P.underlying t = some (.slice e)) (hi' : (P.info? e).map (·.size) = some K)
    (hx : opv st.tmps x = some (.v (.slice A len cap))) (hlo : opv st.tmps lo = some (.v (.int k p'))) (ep : p' = p) (h1 : p ≤ len) (w : World) :
    (execOp a.eval o).run P w = .ok (.value (.slice (if cap = p then A else A.map (·.add (p * K))) (len - p) (cap - p))) w := by
  subst ep
  cases hq : P.info? e with
  | none => simp [hq] at hi'
  | some i =>
    have hs : i.size = K := by simpa [hq] using hi'
    simp only [execOp, ho, opv_v h hx, opv_v h hlo, Option.map_some, Option.map_none, Sem.run_bind, Instr.sliceAt, Instr.slice, run_underlying hu, Result.andThen_ok]
    have e2 : (0 ≤ (p : Int) ∧ (p : Int) ≤ (len : Int)) := by omega
    simp [Instr.sliceBounds, Instr.sliceBound, asIntOf, e2, sizeOf, typeInfo, run_program, hq, hs, h1]
theorem Sl.capLe {w : World} {A : Option Addr} {len cap K : Nat} {rs : List (List Value)} (h : Sl w (.slice A len cap) K rs) : len ≤ cap := by
  obtain ⟨a1, c1, g1, g2, -⟩ := h
  simp only [Value.slice.injEq] at g1; omega
theorem Sl.partM {w : World} {A : Option Addr} {len cap K : Nat} {α : Type} {l : List α} {f : α → List Value} (h : Sl w (.slice A len cap) K (l.map f)) (p q : Nat) (h1 : p ≤ q) (h2 : q ≤ len) :
    Sl w (.slice (if cap = p then A else A.map (·.add (p * K))) (q - p) (cap - p)) K (((l.drop p).take (q - p)).map f) := by
  rw [List.map_take, List.map_drop]; exact h.part p q h1 h2
/-- A row of the call's own as a result that begins at block B. -/
theorem rowF_lower {w : World} {B B' e K : Nat} {v : Value} {rs : List (List Value)} (h : (rowF B e K v rs).p w) (hB : B' ≤ B) : (rowF B' e K v rs).p w := by
  refine ⟨⟨h.1.1, ?_⟩, h.2⟩
  rcases h.1.2 with hn | ⟨g, cap, cur, hv, hg, rest⟩
  · exact .inl hn
  · exact .inr ⟨g, cap, cur, hv, Nat.le_trans hB hg, rest⟩
theorem far_wrap {a b : Int} (h1 : 0 ≤ a) (h2 : a ≤ 65535) (h3 : 0 ≤ b) (h4 : b ≤ 14) : IntKind.i64.wrap (a * 2 ^ b.toNat) = a * 2 ^ b.toNat := by
  have hp : (2 : Int) ^ b.toNat ≤ 16384 := by
    have h : (2 : Nat) ^ b.toNat ≤ 2 ^ 14 := Nat.pow_le_pow_right (by decide) (by omega)
    have e : ((2 ^ b.toNat : Nat) : Int) = (2 : Int) ^ b.toNat := by rw [Int.natCast_pow]; rfl
    rw [← e]; have h2 : (2 : Nat) ^ 14 = 16384 := by decide
    omega
  have hp0 : (0 : Int) < 2 ^ b.toNat := Int.pow_pos (by decide)
  have : a * 2 ^ b.toNat ≤ 65535 * 16384 := Int.mul_le_mul h2 hp (by omega) (by decide)
  have : 0 ≤ a * 2 ^ b.toNat := Int.mul_nonneg h1 (by omega)
  exact wrap_id (by omega) (by omega)
theorem far_le {a b : Int} (h1 : 0 ≤ a) (h2 : a ≤ 65535) (h3 : 0 ≤ b) (h4 : b ≤ 14) : a * 2 ^ b.toNat ≤ 1073725440 := by
  have hp : (2 : Int) ^ b.toNat ≤ 16384 := by
    have h : (2 : Nat) ^ b.toNat ≤ 2 ^ 14 := Nat.pow_le_pow_right (by decide) (by omega)
    have e : ((2 ^ b.toNat : Nat) : Int) = (2 : Int) ^ b.toNat := by rw [Int.natCast_pow]; rfl
    rw [← e]; have h2 : (2 : Nat) ^ 14 = 16384 := by decide
    omega
  have hp0 : (0 : Int) < 2 ^ b.toNat := Int.pow_pos (by decide)
  have : a * 2 ^ b.toNat ≤ 65535 * 16384 := Int.mul_le_mul h2 hp (by omega) (by decide)
  omega
end
end Go.Proofs.Ytnmmhbhdcplfmaa
