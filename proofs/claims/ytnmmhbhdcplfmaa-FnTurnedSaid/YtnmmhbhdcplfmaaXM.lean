/- The machine: parts of slices. -/
import Derived.Test.YtnmmhbhdcplfmaaXL
namespace Go.Proofs.Ytnmmhbhdcplfmaa
open Go.RowKit
set_option linter.unusedVariables false
set_option linter.unusedSimpArgs false
section
variable {P : Program} {n : Nat} {w0 : World} {QX : Exit → St → Prop} {st st' : St} {ops : Array Oper} {l : List Oper} {ρ : Nat → Nat} {σ : Nat → Nat × Nat} {a : Act}
theorem Sl.capLe {w : World} {A : Option Addr} {len cap K : Nat} {rs : List (List Value)} (h : Sl w (.slice A len cap) K rs) : len ≤ cap := by
  obtain ⟨a1, c1, g1, g2, -⟩ := h
  simp only [Value.slice.injEq] at g1; omega
theorem rowF_lower {w : World} {B B' e K : Nat} {v : Value} {rs : List (List Value)} (h : (rowF B e K v rs).p w) (hB : B' ≤ B) : (rowF B' e K v rs).p w := by
  refine ⟨⟨h.1.1, ?_⟩, h.2⟩
  rcases h.1.2 with hn | ⟨g, cap, cur, hv, hg, rest⟩
  · exact .inl hn
  · exact .inr ⟨g, cap, cur, hv, Nat.le_trans hB hg, rest⟩
theorem far_wrap {a b : Int} (h1 : 0 ≤ a) (h2 : a ≤ 65535) (h3 : 0 ≤ b) (h4 : b ≤ 14) : IntKind.i64.wrap (a * 2 ^ b.toNat) = a * 2 ^ b.toNat := by
  have hp : (2 : Int) ^ b.toNat ≤ 16384 := by
    have h : (2 : Nat) ^ b.toNat ≤ 2 ^ 14 := Nat.pow_le_pow_right (by decide) (by omega)
    have e : ((2 ^ b.toNat : Nat) : Int) = (2 : Int) ^ b.toNat := by rw [Int.natCast_pow]; rfl
    rw [← e]; have h2 : (2 : Nat) ^ 14 = 16384 := by decide
    omega
  have hp0 : (0 : Int) < 2 ^ b.toNat := Int.pow_pos (by decide)
  have : a * 2 ^ b.toNat ≤ 65535 * 16384 := Int.mul_le_mul h2 hp (by omega) (by decide)
  have : 0 ≤ a * 2 ^ b.toNat := Int.mul_nonneg h1 (by omega)
  exact wrap_id (by omega) (by omega)
theorem far_le {a b : Int} (h1 : 0 ≤ a) (h2 : a ≤ 65535) (h3 : 0 ≤ b) (h4 : b ≤ 14) : a * 2 ^ b.toNat ≤ 1073725440 := by
  have hp : (2 : Int) ^ b.toNat ≤ 16384 := by
    have h : (2 : Nat) ^ b.toNat ≤ 2 ^ 14 := Nat.pow_le_pow_right (by decide) (by omega)
    have e : ((2 ^ b.toNat : Nat) : Int) = (2 : Int) ^ b.toNat := by rw [Int.natCast_pow]; rfl
    rw [← e]; have h2 : (2 : Nat) ^ 14 = 16384 := by decide
    omega
  have hp0 : (0 : Int) < 2 ^ b.toNat := Int.pow_pos (by decide)
  have : a * 2 ^ b.toNat ≤ 65535 * 16384 := Int.mul_le_mul h2 hp (by omega) (by decide)
  omega
end
end Go.Proofs.Ytnmmhbhdcplfmaa
