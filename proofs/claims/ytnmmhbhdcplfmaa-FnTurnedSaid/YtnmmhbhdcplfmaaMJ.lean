/- Plain definitions: sizes of what is drawn (no program in sight). -/
import Derived.Test.YtnmmhbhdcplfmaaMI
namespace Go.Proofs.Ytnmmhbhdcplfmaa
open Go.RowKit
def RB (H : Nat) (r : Rcv) : Prop := r.held.length ≤ H ∧ (∀ p ∈ r.held, p.text.size ≤ 33) ∧ r.data.size ≤ 65
theorem RB.kn {r : Rcv} (h : RB 4 r) : r.held.length ≤ 1048576 := Nat.le_trans h.1 (by decide)
theorem RB.hm {r : Rcv} {H : Nat} (h : RB H r) : ∀ p ∈ r.held, p.text.size ≤ 1048576 := fun p hp => Nat.le_trans (h.2.1 p hp) (by decide)
theorem RB.sz {r : Rcv} {H : Nat} (h : RB H r) : r.data.size ≤ 4611686018427387904 := Nat.le_trans h.2.2 (by decide)
theorem RB.up {r : Rcv} (h : RB 3 r) : RB 4 r := ⟨Nat.le_trans h.1 (by decide), h.2.1, h.2.2⟩
theorem RB.new (n : Int) : RB 3 (receiverNew n) := ⟨Nat.zero_le _, fun p hp => by simp [receiverNew] at hp, Nat.zero_le _⟩
theorem RB.arr {r : Rcv} {H : Nat} (h : RB H r) (hH : 3 ≤ H) (seq : Int) (t : ByteArray) (fin : Bool) : RB H (arrived r seq t fin) := arrived_sz h.1 h.2.1 h.2.2 hH (Nat.le_refl _) (Nat.le_refl _)
theorem RB.taken {r : Rcv} {H : Nat} (h : RB H r) (n : Int) : RB H (takenIn r n).1 := ⟨by rw [takenIn_held]; exact h.1, by rw [takenIn_held]; exact h.2.1, Nat.le_trans (takenIn_sz r n) h.2.2⟩
theorem RB.more {r : Rcv} (h : RB 3 r) (p : Pce) (hp : p.text.size ≤ 33) {d : ByteArray} (hd : d.size ≤ 65) {next fin : Int} {done : Bool} : RB 4 ⟨next, d, r.held ++ [p], fin, done⟩ :=
  ⟨by rw [List.length_append]; have := h.1; simp; omega, fun q hq => by
    rcases List.mem_append.1 hq with hq | hq
    · exact h.2.1 q hq
    · rw [List.mem_singleton] at hq; subst hq; exact hp, hd⟩
theorem pump_r (c : Con) (w : Int) : (pump c w).1.r = c.r := by unfold pump; split <;> rfl
theorem RB.pump {c : Con} {H : Nat} (h : RB H c.r) (w : Int) : RB H (Go.Proofs.Ytnmmhbhdcplfmaa.pump c w).1.r := by rw [pump_r]; exact h
theorem RB.write {c : Con} {H : Nat} (h : RB H c.r) (t : ByteArray) : RB H (Go.Proofs.Ytnmmhbhdcplfmaa.write c t).1.r := by unfold Go.Proofs.Ytnmmhbhdcplfmaa.write; split <;> first | (dsimp only; rw [pump_r]; exact h) | exact h
theorem RB.shut {c : Con} {H : Nat} (h : RB H c.r) : RB H (Go.Proofs.Ytnmmhbhdcplfmaa.shut c).1.r := by
  unfold Go.Proofs.Ytnmmhbhdcplfmaa.shut; (repeat' split) <;> first | exact h | (rw [pump_r]; exact h)
theorem RB.tick {c : Con} {H : Nat} (h : RB H c.r) : RB H (tickConn c).1.r := by
  unfold tickConn; (repeat' split) <;> first | exact h | (dsimp only; rw [pump_r]; exact h)
theorem RB.read {c : Con} {H : Nat} (h : RB H c.r) (n : Int) : RB H (readConn c n).1.r := by
  unfold readConn; (repeat' split) <;> first | exact h | exact RB.taken h n
theorem RB.heard {c : Con} {H : Nat} (h : RB H c.r) (hH : 3 ≤ H) (g : Seg) : RB H (Go.Proofs.Ytnmmhbhdcplfmaa.heard c g).r := heard_sz h.1 h.2.1 h.2.2 hH (Nat.le_refl _) (Nat.le_refl _)
theorem RB.recv {c : Con} {H : Nat} (h : RB H c.r) (hH : 3 ≤ H) (g : Seg) : RB H (received c g).1.r := by
  unfold received answered; (repeat' split) <;> first | exact h | exact RB.heard h hH g | exact RB.pump (RB.heard h hH g) _
theorem RB.newC (t : Tup) (iss irs : Int) (o : Opt) (w : Int) : RB 3 (connNew t iss irs o w).r := by
  unfold connNew; (repeat' split) <;> exact RB.new _
end Go.Proofs.Ytnmmhbhdcplfmaa
