/- Contracts (X). -/
import Derived.Test.YtnmmhbhdcplfmaaB
namespace Go.Proofs.Ytnmmhbhdcplfmaa
open Go.RowKit
attribute [local go_sem] lt_gap le_gap eq_gap gap_eq lt_ones2 lt_ones3 lt_ones4 lt_ones5 lt_ones6 lt_ones7 lt_ones8 lt_gap_1 lt_gap_2 lt_gap_3 lt_gap_4 lt_gap_5 lt_gap_6 size_grow cell?_grow frozen?_grow setCell_grow drew_grow drewN_grow
attribute [local go_sem] boxOf_alloc_at boxOf_alloc_past boxOf_grow boxOf_drew boxOf_drewN isBox_alloc_at isBox_alloc_past isBox_grow isBox_drew isBox_drewN putAt_all putAt setCells_alloc_at setCells_alloc_past setCells_grow setCells_drew
set_option linter.unusedVariables false
set_option linter.unusedSimpArgs false

theorem pload_implReceiver (v : Value) : Instr.loadAt 26 v = ldBox 26 v := rfl
theorem pstore_implReceiver (v x : Value) : Instr.storeAt 26 v x = stBox 26 v x := rfl
theorem load_implReceiver (n o : Nat) (W : World) (h : isBox W n (o + 5) = true) : (ldBox 26 (.pointer (some ⟨n, o, none⟩))).run Try.prog W = .ok (.agg ((boxOf W n).extract o (o + 5))) W := by
  simp only [ldBox, Instr.loadAt, Instr.sureAddr, Sem.run_bind, Sem.run_pure, Result.andThen_ok, run_loadVar_box Try.underlying26 rfl (k := 5) (by kernel_rfl) n o W h]
theorem store_implReceiver (n o : Nat) (W : World) (cells : Array Value) (h : isBox W n (o + 5) = true) (hk : cells.size = 5) (h1 : cells.all (·.oneCell') = true) : (stBox 26 (.pointer (some ⟨n, o, none⟩)) (.agg cells)).run Try.prog W = .ok () (W.setCells n o cells.toList) := by
  simp only [stBox, Instr.storeAt, Instr.sureAddr, Sem.run_bind, Sem.run_pure, Result.andThen_ok, run_storeVar_box (P := Try.prog) (ty := 26) (k := 5) (by kernel_rfl) n o W cells h hk h1]
theorem pload_implConn (v : Value) : Instr.loadAt 41 v = ldBox 41 v := rfl
theorem pstore_implConn (v x : Value) : Instr.storeAt 41 v x = stBox 41 v x := rfl
theorem load_implConn (n o : Nat) (W : World) (h : isBox W n (o + 25) = true) : (ldBox 41 (.pointer (some ⟨n, o, none⟩))).run Try.prog W = .ok (.agg ((boxOf W n).extract o (o + 25))) W := by
  simp only [ldBox, Instr.loadAt, Instr.sureAddr, Sem.run_bind, Sem.run_pure, Result.andThen_ok, run_loadVar_box Try.underlying41 rfl (k := 25) (by kernel_rfl) n o W h]
theorem store_implConn (n o : Nat) (W : World) (cells : Array Value) (h : isBox W n (o + 25) = true) (hk : cells.size = 25) (h1 : cells.all (·.oneCell') = true) : (stBox 41 (.pointer (some ⟨n, o, none⟩)) (.agg cells)).run Try.prog W = .ok () (W.setCells n o cells.toList) := by
  simp only [stBox, Instr.storeAt, Instr.sureAddr, Sem.run_bind, Sem.run_pure, Result.andThen_ok, run_storeVar_box (P := Try.prog) (ty := 41) (k := 25) (by kernel_rfl) n o W cells h hk h1]
theorem pload_implSegment (v : Value) : Instr.loadAt 46 v = ldBox 46 v := rfl
theorem pstore_implSegment (v x : Value) : Instr.storeAt 46 v x = stBox 46 v x := rfl
theorem load_implSegment (n o : Nat) (W : World) (h : isBox W n (o + 13) = true) : (ldBox 46 (.pointer (some ⟨n, o, none⟩))).run Try.prog W = .ok (.agg ((boxOf W n).extract o (o + 13))) W := by
  simp only [ldBox, Instr.loadAt, Instr.sureAddr, Sem.run_bind, Sem.run_pure, Result.andThen_ok, run_loadVar_box Try.underlying46 rfl (k := 13) (by kernel_rfl) n o W h]
theorem store_implSegment (n o : Nat) (W : World) (cells : Array Value) (h : isBox W n (o + 13) = true) (hk : cells.size = 13) (h1 : cells.all (·.oneCell') = true) : (stBox 46 (.pointer (some ⟨n, o, none⟩)) (.agg cells)).run Try.prog W = .ok () (W.setCells n o cells.toList) := by
  simp only [stBox, Instr.storeAt, Instr.sureAddr, Sem.run_bind, Sem.run_pure, Result.andThen_ok, run_storeVar_box (P := Try.prog) (ty := 46) (k := 13) (by kernel_rfl) n o W cells h hk h1]
end Go.Proofs.Ytnmmhbhdcplfmaa
