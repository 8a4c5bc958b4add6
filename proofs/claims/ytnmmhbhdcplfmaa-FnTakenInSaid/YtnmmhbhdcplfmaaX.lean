/- Contracts (X). -/
import Derived.Test.YtnmmhbhdcplfmaaB
namespace Go.Proofs.Ytnmmhbhdcplfmaa
open Go.RowKit
attribute [local go_sem] lt_gap le_gap eq_gap gap_eq lt_ones2 lt_ones3 lt_ones4 lt_ones5 lt_ones6 lt_ones7 lt_ones8 lt_gap_1 lt_gap_2 lt_gap_3 lt_gap_4 lt_gap_5 lt_gap_6 size_grow cell?_grow frozen?_grow setCell_grow drew_grow drewN_grow
attribute [local go_sem] boxOf_alloc_at boxOf_alloc_past boxOf_grow boxOf_drew boxOf_drewN isBox_alloc_at isBox_alloc_past isBox_grow isBox_drew isBox_drewN putAt_all putAt setCells_alloc_at setCells_alloc_past setCells_grow setCells_drew
set_option linter.unusedVariables false
set_option linter.unusedSimpArgs false

theorem pload_implTuple (v : Value) : Instr.loadAt 35 v = ldBox 35 v := rfl
theorem pstore_implTuple (v x : Value) : Instr.storeAt 35 v x = stBox 35 v x := rfl
theorem load_implTuple (n o : Nat) (W : World) (h : isBox W n (o + 3) = true) : (ldBox 35 (.pointer (some ⟨n, o, none⟩))).run Try.prog W = .ok (.agg ((boxOf W n).extract o (o + 3))) W := by
  simp only [ldBox, Instr.loadAt, Instr.sureAddr, Sem.run_bind, Sem.run_pure, Result.andThen_ok, run_loadVar_box Try.underlying35 rfl (k := 3) (by kernel_rfl) n o W h]
theorem store_implTuple (n o : Nat) (W : World) (cells : Array Value) (h : isBox W n (o + 3) = true) (hk : cells.size = 3) (h1 : cells.all (·.oneCell') = true) : (stBox 35 (.pointer (some ⟨n, o, none⟩)) (.agg cells)).run Try.prog W = .ok () (W.setCells n o cells.toList) := by
  simp only [stBox, Instr.storeAt, Instr.sureAddr, Sem.run_bind, Sem.run_pure, Result.andThen_ok, run_storeVar_box (P := Try.prog) (ty := 35) (k := 3) (by kernel_rfl) n o W cells h hk h1]
theorem res_implTuple {fn : Func} {p : Tmp} (h : fn.results = #[.cell p 35]) (tmps : Array Value) (n : Nat) (W : World) (hp : tmps.getD p undef = .pointer (some ⟨n, 0, none⟩)) (hb : isBox W n 3 = true) : (results fn tmps).run Try.prog W = .ok (.agg ((boxOf W n).extract 0 3)) W := by
  have hp' : tmps[p]?.getD undef = .pointer (some ⟨n, 0, none⟩) := by simpa using hp
  have := run_loadVar_box (P := Try.prog) Try.underlying35 rfl (k := 3) (by kernel_rfl) n 0 W (by simpa using hb)
  simp only [Nat.zero_add] at this
  simp [results, h, hp', asAddr, this]
theorem pload_implOptions (v : Value) : Instr.loadAt 39 v = ldBox 39 v := rfl
theorem pstore_implOptions (v x : Value) : Instr.storeAt 39 v x = stBox 39 v x := rfl
theorem load_implOptions (n o : Nat) (W : World) (h : isBox W n (o + 6) = true) : (ldBox 39 (.pointer (some ⟨n, o, none⟩))).run Try.prog W = .ok (.agg ((boxOf W n).extract o (o + 6))) W := by
  simp only [ldBox, Instr.loadAt, Instr.sureAddr, Sem.run_bind, Sem.run_pure, Result.andThen_ok, run_loadVar_box Try.underlying39 rfl (k := 6) (by kernel_rfl) n o W h]
theorem store_implOptions (n o : Nat) (W : World) (cells : Array Value) (h : isBox W n (o + 6) = true) (hk : cells.size = 6) (h1 : cells.all (·.oneCell') = true) : (stBox 39 (.pointer (some ⟨n, o, none⟩)) (.agg cells)).run Try.prog W = .ok () (W.setCells n o cells.toList) := by
  simp only [stBox, Instr.storeAt, Instr.sureAddr, Sem.run_bind, Sem.run_pure, Result.andThen_ok, run_storeVar_box (P := Try.prog) (ty := 39) (k := 6) (by kernel_rfl) n o W cells h hk h1]
theorem res_implOptions {fn : Func} {p : Tmp} (h : fn.results = #[.cell p 39]) (tmps : Array Value) (n : Nat) (W : World) (hp : tmps.getD p undef = .pointer (some ⟨n, 0, none⟩)) (hb : isBox W n 6 = true) : (results fn tmps).run Try.prog W = .ok (.agg ((boxOf W n).extract 0 6)) W := by
  have hp' : tmps[p]?.getD undef = .pointer (some ⟨n, 0, none⟩) := by simpa using hp
  have := run_loadVar_box (P := Try.prog) Try.underlying39 rfl (k := 6) (by kernel_rfl) n 0 W (by simpa using hb)
  simp only [Nat.zero_add] at this
  simp [results, h, hp', asAddr, this]
theorem pload_implSender (v : Value) : Instr.loadAt 37 v = ldBox 37 v := rfl
theorem pstore_implSender (v x : Value) : Instr.storeAt 37 v x = stBox 37 v x := rfl
theorem load_implSender (n o : Nat) (W : World) (h : isBox W n (o + 6) = true) : (ldBox 37 (.pointer (some ⟨n, o, none⟩))).run Try.prog W = .ok (.agg ((boxOf W n).extract o (o + 6))) W := by
  simp only [ldBox, Instr.loadAt, Instr.sureAddr, Sem.run_bind, Sem.run_pure, Result.andThen_ok, run_loadVar_box Try.underlying37 rfl (k := 6) (by kernel_rfl) n o W h]
theorem store_implSender (n o : Nat) (W : World) (cells : Array Value) (h : isBox W n (o + 6) = true) (hk : cells.size = 6) (h1 : cells.all (·.oneCell') = true) : (stBox 37 (.pointer (some ⟨n, o, none⟩)) (.agg cells)).run Try.prog W = .ok () (W.setCells n o cells.toList) := by
  simp only [stBox, Instr.storeAt, Instr.sureAddr, Sem.run_bind, Sem.run_pure, Result.andThen_ok, run_storeVar_box (P := Try.prog) (ty := 37) (k := 6) (by kernel_rfl) n o W cells h hk h1]
theorem res_implSender {fn : Func} {p : Tmp} (h : fn.results = #[.cell p 37]) (tmps : Array Value) (n : Nat) (W : World) (hp : tmps.getD p undef = .pointer (some ⟨n, 0, none⟩)) (hb : isBox W n 6 = true) : (results fn tmps).run Try.prog W = .ok (.agg ((boxOf W n).extract 0 6)) W := by
  have hp' : tmps[p]?.getD undef = .pointer (some ⟨n, 0, none⟩) := by simpa using hp
  have := run_loadVar_box (P := Try.prog) Try.underlying37 rfl (k := 6) (by kernel_rfl) n 0 W (by simpa using hb)
  simp only [Nat.zero_add] at this
  simp [results, h, hp', asAddr, this]
theorem pload_implPiece (v : Value) : Instr.loadAt 65 v = ldBox 65 v := rfl
theorem pstore_implPiece (v x : Value) : Instr.storeAt 65 v x = stBox 65 v x := rfl
theorem load_implPiece (n o : Nat) (W : World) (h : isBox W n (o + 2) = true) : (ldBox 65 (.pointer (some ⟨n, o, none⟩))).run Try.prog W = .ok (.agg ((boxOf W n).extract o (o + 2))) W := by
  simp only [ldBox, Instr.loadAt, Instr.sureAddr, Sem.run_bind, Sem.run_pure, Result.andThen_ok, run_loadVar_box Try.underlying65 rfl (k := 2) (by kernel_rfl) n o W h]
theorem store_implPiece (n o : Nat) (W : World) (cells : Array Value) (h : isBox W n (o + 2) = true) (hk : cells.size = 2) (h1 : cells.all (·.oneCell') = true) : (stBox 65 (.pointer (some ⟨n, o, none⟩)) (.agg cells)).run Try.prog W = .ok () (W.setCells n o cells.toList) := by
  simp only [stBox, Instr.storeAt, Instr.sureAddr, Sem.run_bind, Sem.run_pure, Result.andThen_ok, run_storeVar_box (P := Try.prog) (ty := 65) (k := 2) (by kernel_rfl) n o W cells h hk h1]
theorem res_implPiece {fn : Func} {p : Tmp} (h : fn.results = #[.cell p 65]) (tmps : Array Value) (n : Nat) (W : World) (hp : tmps.getD p undef = .pointer (some ⟨n, 0, none⟩)) (hb : isBox W n 2 = true) : (results fn tmps).run Try.prog W = .ok (.agg ((boxOf W n).extract 0 2)) W := by
  have hp' : tmps[p]?.getD undef = .pointer (some ⟨n, 0, none⟩) := by simpa using hp
  have := run_loadVar_box (P := Try.prog) Try.underlying65 rfl (k := 2) (by kernel_rfl) n 0 W (by simpa using hb)
  simp only [Nat.zero_add] at this
  simp [results, h, hp', asAddr, this]
theorem pload_implReceiver (v : Value) : Instr.loadAt 26 v = ldBox 26 v := rfl
theorem pstore_implReceiver (v x : Value) : Instr.storeAt 26 v x = stBox 26 v x := rfl
theorem load_implReceiver (n o : Nat) (W : World) (h : isBox W n (o + 5) = true) : (ldBox 26 (.pointer (some ⟨n, o, none⟩))).run Try.prog W = .ok (.agg ((boxOf W n).extract o (o + 5))) W := by
  simp only [ldBox, Instr.loadAt, Instr.sureAddr, Sem.run_bind, Sem.run_pure, Result.andThen_ok, run_loadVar_box Try.underlying26 rfl (k := 5) (by kernel_rfl) n o W h]
theorem store_implReceiver (n o : Nat) (W : World) (cells : Array Value) (h : isBox W n (o + 5) = true) (hk : cells.size = 5) (h1 : cells.all (·.oneCell') = true) : (stBox 26 (.pointer (some ⟨n, o, none⟩)) (.agg cells)).run Try.prog W = .ok () (W.setCells n o cells.toList) := by
  simp only [stBox, Instr.storeAt, Instr.sureAddr, Sem.run_bind, Sem.run_pure, Result.andThen_ok, run_storeVar_box (P := Try.prog) (ty := 26) (k := 5) (by kernel_rfl) n o W cells h hk h1]
theorem res_implReceiver {fn : Func} {p : Tmp} (h : fn.results = #[.cell p 26]) (tmps : Array Value) (n : Nat) (W : World) (hp : tmps.getD p undef = .pointer (some ⟨n, 0, none⟩)) (hb : isBox W n 5 = true) : (results fn tmps).run Try.prog W = .ok (.agg ((boxOf W n).extract 0 5)) W := by
  have hp' : tmps[p]?.getD undef = .pointer (some ⟨n, 0, none⟩) := by simpa using hp
  have := run_loadVar_box (P := Try.prog) Try.underlying26 rfl (k := 5) (by kernel_rfl) n 0 W (by simpa using hb)
  simp only [Nat.zero_add] at this
  simp [results, h, hp', asAddr, this]
theorem pload_implConn (v : Value) : Instr.loadAt 41 v = ldBox 41 v := rfl
theorem pstore_implConn (v x : Value) : Instr.storeAt 41 v x = stBox 41 v x := rfl
theorem load_implConn (n o : Nat) (W : World) (h : isBox W n (o + 25) = true) : (ldBox 41 (.pointer (some ⟨n, o, none⟩))).run Try.prog W = .ok (.agg ((boxOf W n).extract o (o + 25))) W := by
  simp only [ldBox, Instr.loadAt, Instr.sureAddr, Sem.run_bind, Sem.run_pure, Result.andThen_ok, run_loadVar_box Try.underlying41 rfl (k := 25) (by kernel_rfl) n o W h]
theorem store_implConn (n o : Nat) (W : World) (cells : Array Value) (h : isBox W n (o + 25) = true) (hk : cells.size = 25) (h1 : cells.all (·.oneCell') = true) : (stBox 41 (.pointer (some ⟨n, o, none⟩)) (.agg cells)).run Try.prog W = .ok () (W.setCells n o cells.toList) := by
  simp only [stBox, Instr.storeAt, Instr.sureAddr, Sem.run_bind, Sem.run_pure, Result.andThen_ok, run_storeVar_box (P := Try.prog) (ty := 41) (k := 25) (by kernel_rfl) n o W cells h hk h1]
theorem res_implConn {fn : Func} {p : Tmp} (h : fn.results = #[.cell p 41]) (tmps : Array Value) (n : Nat) (W : World) (hp : tmps.getD p undef = .pointer (some ⟨n, 0, none⟩)) (hb : isBox W n 25 = true) : (results fn tmps).run Try.prog W = .ok (.agg ((boxOf W n).extract 0 25)) W := by
  have hp' : tmps[p]?.getD undef = .pointer (some ⟨n, 0, none⟩) := by simpa using hp
  have := run_loadVar_box (P := Try.prog) Try.underlying41 rfl (k := 25) (by kernel_rfl) n 0 W (by simpa using hb)
  simp only [Nat.zero_add] at this
  simp [results, h, hp', asAddr, this]
theorem pload_implSegment (v : Value) : Instr.loadAt 46 v = ldBox 46 v := rfl
theorem pstore_implSegment (v x : Value) : Instr.storeAt 46 v x = stBox 46 v x := rfl
theorem load_implSegment (n o : Nat) (W : World) (h : isBox W n (o + 13) = true) : (ldBox 46 (.pointer (some ⟨n, o, none⟩))).run Try.prog W = .ok (.agg ((boxOf W n).extract o (o + 13))) W := by
  simp only [ldBox, Instr.loadAt, Instr.sureAddr, Sem.run_bind, Sem.run_pure, Result.andThen_ok, run_loadVar_box Try.underlying46 rfl (k := 13) (by kernel_rfl) n o W h]
theorem store_implSegment (n o : Nat) (W : World) (cells : Array Value) (h : isBox W n (o + 13) = true) (hk : cells.size = 13) (h1 : cells.all (·.oneCell') = true) : (stBox 46 (.pointer (some ⟨n, o, none⟩)) (.agg cells)).run Try.prog W = .ok () (W.setCells n o cells.toList) := by
  simp only [stBox, Instr.storeAt, Instr.sureAddr, Sem.run_bind, Sem.run_pure, Result.andThen_ok, run_storeVar_box (P := Try.prog) (ty := 46) (k := 13) (by kernel_rfl) n o W cells h hk h1]
theorem res_implSegment {fn : Func} {p : Tmp} (h : fn.results = #[.cell p 46]) (tmps : Array Value) (n : Nat) (W : World) (hp : tmps.getD p undef = .pointer (some ⟨n, 0, none⟩)) (hb : isBox W n 13 = true) : (results fn tmps).run Try.prog W = .ok (.agg ((boxOf W n).extract 0 13)) W := by
  have hp' : tmps[p]?.getD undef = .pointer (some ⟨n, 0, none⟩) := by simpa using hp
  have := run_loadVar_box (P := Try.prog) Try.underlying46 rfl (k := 13) (by kernel_rfl) n 0 W (by simpa using hb)
  simp only [Nat.zero_add] at this
  simp [results, h, hp', asAddr, this]
theorem pload_implChunk (v : Value) : Instr.loadAt 123 v = ldBox 123 v := rfl
theorem pstore_implChunk (v x : Value) : Instr.storeAt 123 v x = stBox 123 v x := rfl
theorem load_implChunk (n o : Nat) (W : World) (h : isBox W n (o + 3) = true) : (ldBox 123 (.pointer (some ⟨n, o, none⟩))).run Try.prog W = .ok (.agg ((boxOf W n).extract o (o + 3))) W := by
  simp only [ldBox, Instr.loadAt, Instr.sureAddr, Sem.run_bind, Sem.run_pure, Result.andThen_ok, run_loadVar_box Try.underlying123 rfl (k := 3) (by kernel_rfl) n o W h]
theorem store_implChunk (n o : Nat) (W : World) (cells : Array Value) (h : isBox W n (o + 3) = true) (hk : cells.size = 3) (h1 : cells.all (·.oneCell') = true) : (stBox 123 (.pointer (some ⟨n, o, none⟩)) (.agg cells)).run Try.prog W = .ok () (W.setCells n o cells.toList) := by
  simp only [stBox, Instr.storeAt, Instr.sureAddr, Sem.run_bind, Sem.run_pure, Result.andThen_ok, run_storeVar_box (P := Try.prog) (ty := 123) (k := 3) (by kernel_rfl) n o W cells h hk h1]
theorem res_implChunk {fn : Func} {p : Tmp} (h : fn.results = #[.cell p 123]) (tmps : Array Value) (n : Nat) (W : World) (hp : tmps.getD p undef = .pointer (some ⟨n, 0, none⟩)) (hb : isBox W n 3 = true) : (results fn tmps).run Try.prog W = .ok (.agg ((boxOf W n).extract 0 3)) W := by
  have hp' : tmps[p]?.getD undef = .pointer (some ⟨n, 0, none⟩) := by simpa using hp
  have := run_loadVar_box (P := Try.prog) Try.underlying123 rfl (k := 3) (by kernel_rfl) n 0 W (by simpa using hb)
  simp only [Nat.zero_add] at this
  simp [results, h, hp', asAddr, this]
end Go.Proofs.Ytnmmhbhdcplfmaa
