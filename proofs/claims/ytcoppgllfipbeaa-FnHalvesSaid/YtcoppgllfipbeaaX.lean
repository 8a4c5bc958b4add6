/- Contracts (X). -/
import Derived.Test.YtcoppgllfipbeaaB
namespace Go.Proofs.Ytcoppgllfipbeaa
open Go.RowKit
attribute [local go_sem] lt_gap le_gap eq_gap gap_eq lt_ones2 lt_ones3 lt_ones4 lt_ones5 lt_ones6 lt_ones7 lt_ones8 lt_gap_1 lt_gap_2 lt_gap_3 lt_gap_4 lt_gap_5 lt_gap_6 size_grow cell?_grow frozen?_grow setCell_grow drew_grow drewN_grow
attribute [local go_sem] boxOf_alloc_at boxOf_alloc_past boxOf_grow boxOf_drew boxOf_drewN isBox_alloc_at isBox_alloc_past isBox_grow isBox_drew isBox_drewN putAt_all putAt setCells_alloc_at setCells_alloc_past setCells_grow setCells_drew
set_option linter.unusedVariables false
set_option linter.unusedSimpArgs false

theorem pload_implTuple (v : Value) : Instr.loadAt 36 v = ldBox 36 v := rfl
theorem pstore_implTuple (v x : Value) : Instr.storeAt 36 v x = stBox 36 v x := rfl
theorem load_implTuple (n o : Nat) (W : World) (h : isBox W n (o + 3) = true) : (ldBox 36 (.pointer (some ⟨n, o, none⟩))).run Try.prog W = .ok (.agg ((boxOf W n).extract o (o + 3))) W := by
  simp only [ldBox, Instr.loadAt, Instr.sureAddr, Sem.run_bind, Sem.run_pure, Result.andThen_ok, run_loadVar_box Try.underlying36 rfl (k := 3) (by kernel_rfl) n o W h]
theorem store_implTuple (n o : Nat) (W : World) (cells : Array Value) (h : isBox W n (o + 3) = true) (hk : cells.size = 3) (h1 : cells.all (·.oneCell') = true) : (stBox 36 (.pointer (some ⟨n, o, none⟩)) (.agg cells)).run Try.prog W = .ok () (W.setCells n o cells.toList) := by
  simp only [stBox, Instr.storeAt, Instr.sureAddr, Sem.run_bind, Sem.run_pure, Result.andThen_ok, run_storeVar_box (P := Try.prog) (ty := 36) (k := 3) (by kernel_rfl) n o W cells h hk h1]
theorem res_implTuple {fn : Func} {p : Tmp} (h : fn.results = #[.cell p 36]) (tmps : Array Value) (n : Nat) (W : World) (hp : tmps.getD p undef = .pointer (some ⟨n, 0, none⟩)) (hb : isBox W n 3 = true) : (results fn tmps).run Try.prog W = .ok (.agg ((boxOf W n).extract 0 3)) W := by
  have hp' : tmps[p]?.getD undef = .pointer (some ⟨n, 0, none⟩) := by simpa using hp
  have := run_loadVar_box (P := Try.prog) Try.underlying36 rfl (k := 3) (by kernel_rfl) n 0 W (by simpa using hb)
  simp only [Nat.zero_add] at this
  simp [results, h, hp', asAddr, this]
theorem pload_implOptions (v : Value) : Instr.loadAt 25 v = ldBox 25 v := rfl
theorem pstore_implOptions (v x : Value) : Instr.storeAt 25 v x = stBox 25 v x := rfl
theorem load_implOptions (n o : Nat) (W : World) (h : isBox W n (o + 6) = true) : (ldBox 25 (.pointer (some ⟨n, o, none⟩))).run Try.prog W = .ok (.agg ((boxOf W n).extract o (o + 6))) W := by
  simp only [ldBox, Instr.loadAt, Instr.sureAddr, Sem.run_bind, Sem.run_pure, Result.andThen_ok, run_loadVar_box Try.underlying25 rfl (k := 6) (by kernel_rfl) n o W h]
theorem store_implOptions (n o : Nat) (W : World) (cells : Array Value) (h : isBox W n (o + 6) = true) (hk : cells.size = 6) (h1 : cells.all (·.oneCell') = true) : (stBox 25 (.pointer (some ⟨n, o, none⟩)) (.agg cells)).run Try.prog W = .ok () (W.setCells n o cells.toList) := by
  simp only [stBox, Instr.storeAt, Instr.sureAddr, Sem.run_bind, Sem.run_pure, Result.andThen_ok, run_storeVar_box (P := Try.prog) (ty := 25) (k := 6) (by kernel_rfl) n o W cells h hk h1]
theorem res_implOptions {fn : Func} {p : Tmp} (h : fn.results = #[.cell p 25]) (tmps : Array Value) (n : Nat) (W : World) (hp : tmps.getD p undef = .pointer (some ⟨n, 0, none⟩)) (hb : isBox W n 6 = true) : (results fn tmps).run Try.prog W = .ok (.agg ((boxOf W n).extract 0 6)) W := by
  have hp' : tmps[p]?.getD undef = .pointer (some ⟨n, 0, none⟩) := by simpa using hp
  have := run_loadVar_box (P := Try.prog) Try.underlying25 rfl (k := 6) (by kernel_rfl) n 0 W (by simpa using hb)
  simp only [Nat.zero_add] at this
  simp [results, h, hp', asAddr, this]
theorem pload_implSender (v : Value) : Instr.loadAt 40 v = ldBox 40 v := rfl
theorem pstore_implSender (v x : Value) : Instr.storeAt 40 v x = stBox 40 v x := rfl
theorem load_implSender (n o : Nat) (W : World) (h : isBox W n (o + 6) = true) : (ldBox 40 (.pointer (some ⟨n, o, none⟩))).run Try.prog W = .ok (.agg ((boxOf W n).extract o (o + 6))) W := by
  simp only [ldBox, Instr.loadAt, Instr.sureAddr, Sem.run_bind, Sem.run_pure, Result.andThen_ok, run_loadVar_box Try.underlying40 rfl (k := 6) (by kernel_rfl) n o W h]
theorem store_implSender (n o : Nat) (W : World) (cells : Array Value) (h : isBox W n (o + 6) = true) (hk : cells.size = 6) (h1 : cells.all (·.oneCell') = true) : (stBox 40 (.pointer (some ⟨n, o, none⟩)) (.agg cells)).run Try.prog W = .ok () (W.setCells n o cells.toList) := by
  simp only [stBox, Instr.storeAt, Instr.sureAddr, Sem.run_bind, Sem.run_pure, Result.andThen_ok, run_storeVar_box (P := Try.prog) (ty := 40) (k := 6) (by kernel_rfl) n o W cells h hk h1]
theorem res_implSender {fn : Func} {p : Tmp} (h : fn.results = #[.cell p 40]) (tmps : Array Value) (n : Nat) (W : World) (hp : tmps.getD p undef = .pointer (some ⟨n, 0, none⟩)) (hb : isBox W n 6 = true) : (results fn tmps).run Try.prog W = .ok (.agg ((boxOf W n).extract 0 6)) W := by
  have hp' : tmps[p]?.getD undef = .pointer (some ⟨n, 0, none⟩) := by simpa using hp
  have := run_loadVar_box (P := Try.prog) Try.underlying40 rfl (k := 6) (by kernel_rfl) n 0 W (by simpa using hb)
  simp only [Nat.zero_add] at this
  simp [results, h, hp', asAddr, this]
theorem pload_implPiece (v : Value) : Instr.loadAt 98 v = ldBox 98 v := rfl
theorem pstore_implPiece (v x : Value) : Instr.storeAt 98 v x = stBox 98 v x := rfl
theorem load_implPiece (n o : Nat) (W : World) (h : isBox W n (o + 2) = true) : (ldBox 98 (.pointer (some ⟨n, o, none⟩))).run Try.prog W = .ok (.agg ((boxOf W n).extract o (o + 2))) W := by
  simp only [ldBox, Instr.loadAt, Instr.sureAddr, Sem.run_bind, Sem.run_pure, Result.andThen_ok, run_loadVar_box Try.underlying98 rfl (k := 2) (by kernel_rfl) n o W h]
theorem store_implPiece (n o : Nat) (W : World) (cells : Array Value) (h : isBox W n (o + 2) = true) (hk : cells.size = 2) (h1 : cells.all (·.oneCell') = true) : (stBox 98 (.pointer (some ⟨n, o, none⟩)) (.agg cells)).run Try.prog W = .ok () (W.setCells n o cells.toList) := by
  simp only [stBox, Instr.storeAt, Instr.sureAddr, Sem.run_bind, Sem.run_pure, Result.andThen_ok, run_storeVar_box (P := Try.prog) (ty := 98) (k := 2) (by kernel_rfl) n o W cells h hk h1]
theorem res_implPiece {fn : Func} {p : Tmp} (h : fn.results = #[.cell p 98]) (tmps : Array Value) (n : Nat) (W : World) (hp : tmps.getD p undef = .pointer (some ⟨n, 0, none⟩)) (hb : isBox W n 2 = true) : (results fn tmps).run Try.prog W = .ok (.agg ((boxOf W n).extract 0 2)) W := by
  have hp' : tmps[p]?.getD undef = .pointer (some ⟨n, 0, none⟩) := by simpa using hp
  have := run_loadVar_box (P := Try.prog) Try.underlying98 rfl (k := 2) (by kernel_rfl) n 0 W (by simpa using hb)
  simp only [Nat.zero_add] at this
  simp [results, h, hp', asAddr, this]
theorem pload_implReceiver (v : Value) : Instr.loadAt 43 v = ldBox 43 v := rfl
theorem pstore_implReceiver (v x : Value) : Instr.storeAt 43 v x = stBox 43 v x := rfl
theorem load_implReceiver (n o : Nat) (W : World) (h : isBox W n (o + 5) = true) : (ldBox 43 (.pointer (some ⟨n, o, none⟩))).run Try.prog W = .ok (.agg ((boxOf W n).extract o (o + 5))) W := by
  simp only [ldBox, Instr.loadAt, Instr.sureAddr, Sem.run_bind, Sem.run_pure, Result.andThen_ok, run_loadVar_box Try.underlying43 rfl (k := 5) (by kernel_rfl) n o W h]
theorem store_implReceiver (n o : Nat) (W : World) (cells : Array Value) (h : isBox W n (o + 5) = true) (hk : cells.size = 5) (h1 : cells.all (·.oneCell') = true) : (stBox 43 (.pointer (some ⟨n, o, none⟩)) (.agg cells)).run Try.prog W = .ok () (W.setCells n o cells.toList) := by
  simp only [stBox, Instr.storeAt, Instr.sureAddr, Sem.run_bind, Sem.run_pure, Result.andThen_ok, run_storeVar_box (P := Try.prog) (ty := 43) (k := 5) (by kernel_rfl) n o W cells h hk h1]
theorem res_implReceiver {fn : Func} {p : Tmp} (h : fn.results = #[.cell p 43]) (tmps : Array Value) (n : Nat) (W : World) (hp : tmps.getD p undef = .pointer (some ⟨n, 0, none⟩)) (hb : isBox W n 5 = true) : (results fn tmps).run Try.prog W = .ok (.agg ((boxOf W n).extract 0 5)) W := by
  have hp' : tmps[p]?.getD undef = .pointer (some ⟨n, 0, none⟩) := by simpa using hp
  have := run_loadVar_box (P := Try.prog) Try.underlying43 rfl (k := 5) (by kernel_rfl) n 0 W (by simpa using hb)
  simp only [Nat.zero_add] at this
  simp [results, h, hp', asAddr, this]
theorem pload_implConn (v : Value) : Instr.loadAt 45 v = ldBox 45 v := rfl
theorem pstore_implConn (v x : Value) : Instr.storeAt 45 v x = stBox 45 v x := rfl
theorem load_implConn (n o : Nat) (W : World) (h : isBox W n (o + 25) = true) : (ldBox 45 (.pointer (some ⟨n, o, none⟩))).run Try.prog W = .ok (.agg ((boxOf W n).extract o (o + 25))) W := by
  simp only [ldBox, Instr.loadAt, Instr.sureAddr, Sem.run_bind, Sem.run_pure, Result.andThen_ok, run_loadVar_box Try.underlying45 rfl (k := 25) (by kernel_rfl) n o W h]
theorem store_implConn (n o : Nat) (W : World) (cells : Array Value) (h : isBox W n (o + 25) = true) (hk : cells.size = 25) (h1 : cells.all (·.oneCell') = true) : (stBox 45 (.pointer (some ⟨n, o, none⟩)) (.agg cells)).run Try.prog W = .ok () (W.setCells n o cells.toList) := by
  simp only [stBox, Instr.storeAt, Instr.sureAddr, Sem.run_bind, Sem.run_pure, Result.andThen_ok, run_storeVar_box (P := Try.prog) (ty := 45) (k := 25) (by kernel_rfl) n o W cells h hk h1]
theorem res_implConn {fn : Func} {p : Tmp} (h : fn.results = #[.cell p 45]) (tmps : Array Value) (n : Nat) (W : World) (hp : tmps.getD p undef = .pointer (some ⟨n, 0, none⟩)) (hb : isBox W n 25 = true) : (results fn tmps).run Try.prog W = .ok (.agg ((boxOf W n).extract 0 25)) W := by
  have hp' : tmps[p]?.getD undef = .pointer (some ⟨n, 0, none⟩) := by simpa using hp
  have := run_loadVar_box (P := Try.prog) Try.underlying45 rfl (k := 25) (by kernel_rfl) n 0 W (by simpa using hb)
  simp only [Nat.zero_add] at this
  simp [results, h, hp', asAddr, this]
theorem pload_implSegment (v : Value) : Instr.loadAt 30 v = ldBox 30 v := rfl
theorem pstore_implSegment (v x : Value) : Instr.storeAt 30 v x = stBox 30 v x := rfl
theorem load_implSegment (n o : Nat) (W : World) (h : isBox W n (o + 13) = true) : (ldBox 30 (.pointer (some ⟨n, o, none⟩))).run Try.prog W = .ok (.agg ((boxOf W n).extract o (o + 13))) W := by
  simp only [ldBox, Instr.loadAt, Instr.sureAddr, Sem.run_bind, Sem.run_pure, Result.andThen_ok, run_loadVar_box Try.underlying30 rfl (k := 13) (by kernel_rfl) n o W h]
theorem store_implSegment (n o : Nat) (W : World) (cells : Array Value) (h : isBox W n (o + 13) = true) (hk : cells.size = 13) (h1 : cells.all (·.oneCell') = true) : (stBox 30 (.pointer (some ⟨n, o, none⟩)) (.agg cells)).run Try.prog W = .ok () (W.setCells n o cells.toList) := by
  simp only [stBox, Instr.storeAt, Instr.sureAddr, Sem.run_bind, Sem.run_pure, Result.andThen_ok, run_storeVar_box (P := Try.prog) (ty := 30) (k := 13) (by kernel_rfl) n o W cells h hk h1]
theorem res_implSegment {fn : Func} {p : Tmp} (h : fn.results = #[.cell p 30]) (tmps : Array Value) (n : Nat) (W : World) (hp : tmps.getD p undef = .pointer (some ⟨n, 0, none⟩)) (hb : isBox W n 13 = true) : (results fn tmps).run Try.prog W = .ok (.agg ((boxOf W n).extract 0 13)) W := by
  have hp' : tmps[p]?.getD undef = .pointer (some ⟨n, 0, none⟩) := by simpa using hp
  have := run_loadVar_box (P := Try.prog) Try.underlying30 rfl (k := 13) (by kernel_rfl) n 0 W (by simpa using hb)
  simp only [Nat.zero_add] at this
  simp [results, h, hp', asAddr, this]
theorem pload_implHalf (v : Value) : Instr.loadAt 56 v = ldBox 56 v := rfl
theorem pstore_implHalf (v x : Value) : Instr.storeAt 56 v x = stBox 56 v x := rfl
theorem load_implHalf (n o : Nat) (W : World) (h : isBox W n (o + 13) = true) : (ldBox 56 (.pointer (some ⟨n, o, none⟩))).run Try.prog W = .ok (.agg ((boxOf W n).extract o (o + 13))) W := by
  simp only [ldBox, Instr.loadAt, Instr.sureAddr, Sem.run_bind, Sem.run_pure, Result.andThen_ok, run_loadVar_box Try.underlying56 rfl (k := 13) (by kernel_rfl) n o W h]
theorem store_implHalf (n o : Nat) (W : World) (cells : Array Value) (h : isBox W n (o + 13) = true) (hk : cells.size = 13) (h1 : cells.all (·.oneCell') = true) : (stBox 56 (.pointer (some ⟨n, o, none⟩)) (.agg cells)).run Try.prog W = .ok () (W.setCells n o cells.toList) := by
  simp only [stBox, Instr.storeAt, Instr.sureAddr, Sem.run_bind, Sem.run_pure, Result.andThen_ok, run_storeVar_box (P := Try.prog) (ty := 56) (k := 13) (by kernel_rfl) n o W cells h hk h1]
theorem res_implHalf {fn : Func} {p : Tmp} (h : fn.results = #[.cell p 56]) (tmps : Array Value) (n : Nat) (W : World) (hp : tmps.getD p undef = .pointer (some ⟨n, 0, none⟩)) (hb : isBox W n 13 = true) : (results fn tmps).run Try.prog W = .ok (.agg ((boxOf W n).extract 0 13)) W := by
  have hp' : tmps[p]?.getD undef = .pointer (some ⟨n, 0, none⟩) := by simpa using hp
  have := run_loadVar_box (P := Try.prog) Try.underlying56 rfl (k := 13) (by kernel_rfl) n 0 W (by simpa using hb)
  simp only [Nat.zero_add] at this
  simp [results, h, hp', asAddr, this]
end Go.Proofs.Ytcoppgllfipbeaa
