/- Plain definitions: new connections (no program in sight). -/
import Derived.Test.YtnmmhbhdcplfmaaXM
import Derived.Test.YtnmmhbhdcplfmaaME
namespace Go.Proofs.Ytnmmhbhdcplfmaa
open Go.RowKit
def farW (window : Int) (o : Opt) : Int := window * 2 ^ (max 0 o.scale).toNat
def receiverNew (n : Int) : Rcv := ⟨n % 4294967296, ⟨#[]⟩, [], -1, false⟩
def connNew (t : Tup) (iss irs : Int) (o : Opt) (window : Int) : Con :=
  if optionsOk o then (if wordOk window 16 then ⟨t, 1, ⟨seqAdd iss 1, ⟨#[]⟩, 0, false, false, false⟩, receiverNew (seqAdd irs 1), farW window o, farW window o, o, 0, 0⟩
    else ⟨t, 1, ⟨seqAdd iss 1, ⟨#[]⟩, 0, false, false, false⟩, receiverNew (seqAdd irs 1), farW 0 o, farW 0 o, o, 0, 0⟩)
  else (if wordOk window 16 then ⟨t, 1, ⟨seqAdd iss 1, ⟨#[]⟩, 0, false, false, false⟩, receiverNew (seqAdd irs 1), farW window ⟨0, -1, false, false, 0, 0⟩, farW window ⟨0, -1, false, false, 0, 0⟩, ⟨0, -1, false, false, 0, 0⟩, 0, 0⟩
    else ⟨t, 1, ⟨seqAdd iss 1, ⟨#[]⟩, 0, false, false, false⟩, receiverNew (seqAdd irs 1), farW 0 ⟨0, -1, false, false, 0, 0⟩, farW 0 ⟨0, -1, false, false, 0, 0⟩, ⟨0, -1, false, false, 0, 0⟩, 0, 0⟩)
theorem connNew_bd (t : Tup) (iss irs : Int) (o : Opt) (window : Int) (h : 0 ≤ 1) : (connNew t iss irs o window).r.held.length ≤ 1048576 := by
  unfold connNew; (repeat' split) <;> exact Nat.zero_le _
theorem wordOk16_bd {n : Int} (h : wordOk n 16 = true) : 0 ≤ n ∧ n ≤ 65535 := by
  simp only [wordOk, Bool.and_eq_true, inB_tt] at h
  have e : (2 : Int) ^ (16 : Int).toNat - 1 = 65535 := by decide
  rw [e] at h; omega
theorem optionsOk_bd {o : Opt} (h : optionsOk o = true) : -1 ≤ o.scale ∧ o.scale ≤ 14 := by
  simp only [optionsOk, Bool.and_eq_true, inB_tt] at h; omega
theorem u64_id {n : Int} (h1 : 0 ≤ n) (h2 : n ≤ 9223372036854775807) : IntKind.u64.wrap n = n := by
  simp only [IntKind.wrap, IntKind.bits, IntKind.signed]; simp; omega
end Go.Proofs.Ytnmmhbhdcplfmaa
