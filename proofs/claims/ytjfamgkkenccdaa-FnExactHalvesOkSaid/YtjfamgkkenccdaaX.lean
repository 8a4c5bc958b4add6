/- Contracts (X). -/
import Derived.Test.YtjfamgkkenccdaaB
namespace Go.Proofs.Ytjfamgkkenccdaa
open Go.RowKit
attribute [local go_sem] lt_gap le_gap eq_gap gap_eq lt_ones2 lt_ones3 lt_ones4 lt_ones5 lt_ones6 lt_ones7 lt_ones8 lt_gap_1 lt_gap_2 lt_gap_3 lt_gap_4 lt_gap_5 lt_gap_6 size_grow cell?_grow frozen?_grow setCell_grow drew_grow drewN_grow
attribute [local go_sem] boxOf_alloc_at boxOf_alloc_past boxOf_grow boxOf_drew boxOf_drewN isBox_alloc_at isBox_alloc_past isBox_grow isBox_drew isBox_drewN putAt_all putAt setCells_alloc_at setCells_alloc_past setCells_grow setCells_drew
set_option linter.unusedVariables false
set_option linter.unusedSimpArgs false

theorem pload_implTuple (v : Value) : Instr.loadAt 35 v = ldBox 35 v := rfl
theorem pstore_implTuple (v x : Value) : Instr.storeAt 35 v x = stBox 35 v x := rfl
theorem load_implTuple (n o : Nat) (W : World) (h : isBox W n (o + 3) = true) : (ldBox 35 (.pointer (some ⟨n, o, none⟩))).run Try.prog W = .ok (.agg ((boxOf W n).extract o (o + 3))) W := by
  simp only [ldBox, Instr.loadAt, Instr.sureAddr, Sem.run_bind, Sem.run_pure, Result.andThen_ok, run_loadVar_box Try.underlying35 rfl (k := 3) (by kernel_rfl) n o W h]
theorem store_implTuple (n o : Nat) (W : World) (cells : Array Value) (h : isBox W n (o + 3) = true) (hk : cells.size = 3) (h1 : cells.all (·.oneCell') = true) : (stBox 35 (.pointer (some ⟨n, o, none⟩)) (.agg cells)).run Try.prog W = .ok () (W.setCells n o cells.toList) := by
  simp only [stBox, Instr.storeAt, Instr.sureAddr, Sem.run_bind, Sem.run_pure, Result.andThen_ok, run_storeVar_box (P := Try.prog) (ty := 35) (k := 3) (by kernel_rfl) n o W cells h hk h1]
theorem res_implTuple {fn : Func} {p : Tmp} (h : fn.results = #[.cell p 35]) (tmps : Array Value) (n : Nat) (W : World) (hp : tmps.getD p undef = .pointer (some ⟨n, 0, none⟩)) (hb : isBox W n 3 = true) : (results fn tmps).run Try.prog W = .ok (.agg ((boxOf W n).extract 0 3)) W := by
  have hp' : tmps[p]?.getD undef = .pointer (some ⟨n, 0, none⟩) := by simpa using hp
  have := run_loadVar_box (P := Try.prog) Try.underlying35 rfl (k := 3) (by kernel_rfl) n 0 W (by simpa using hb)
  simp only [Nat.zero_add] at this
  simp [results, h, hp', asAddr, this]
theorem pload_lawsTuple (v : Value) : Instr.loadAt 23 v = ldBox 23 v := rfl
theorem pstore_lawsTuple (v x : Value) : Instr.storeAt 23 v x = stBox 23 v x := rfl
theorem load_lawsTuple (n o : Nat) (W : World) (h : isBox W n (o + 3) = true) : (ldBox 23 (.pointer (some ⟨n, o, none⟩))).run Try.prog W = .ok (.agg ((boxOf W n).extract o (o + 3))) W := by
  simp only [ldBox, Instr.loadAt, Instr.sureAddr, Sem.run_bind, Sem.run_pure, Result.andThen_ok, run_loadVar_box Try.underlying23 rfl (k := 3) (by kernel_rfl) n o W h]
theorem store_lawsTuple (n o : Nat) (W : World) (cells : Array Value) (h : isBox W n (o + 3) = true) (hk : cells.size = 3) (h1 : cells.all (·.oneCell') = true) : (stBox 23 (.pointer (some ⟨n, o, none⟩)) (.agg cells)).run Try.prog W = .ok () (W.setCells n o cells.toList) := by
  simp only [stBox, Instr.storeAt, Instr.sureAddr, Sem.run_bind, Sem.run_pure, Result.andThen_ok, run_storeVar_box (P := Try.prog) (ty := 23) (k := 3) (by kernel_rfl) n o W cells h hk h1]
theorem res_lawsTuple {fn : Func} {p : Tmp} (h : fn.results = #[.cell p 23]) (tmps : Array Value) (n : Nat) (W : World) (hp : tmps.getD p undef = .pointer (some ⟨n, 0, none⟩)) (hb : isBox W n 3 = true) : (results fn tmps).run Try.prog W = .ok (.agg ((boxOf W n).extract 0 3)) W := by
  have hp' : tmps[p]?.getD undef = .pointer (some ⟨n, 0, none⟩) := by simpa using hp
  have := run_loadVar_box (P := Try.prog) Try.underlying23 rfl (k := 3) (by kernel_rfl) n 0 W (by simpa using hb)
  simp only [Nat.zero_add] at this
  simp [results, h, hp', asAddr, this]
theorem pload_implOptions (v : Value) : Instr.loadAt 40 v = ldBox 40 v := rfl
theorem pstore_implOptions (v x : Value) : Instr.storeAt 40 v x = stBox 40 v x := rfl
theorem load_implOptions (n o : Nat) (W : World) (h : isBox W n (o + 6) = true) : (ldBox 40 (.pointer (some ⟨n, o, none⟩))).run Try.prog W = .ok (.agg ((boxOf W n).extract o (o + 6))) W := by
  simp only [ldBox, Instr.loadAt, Instr.sureAddr, Sem.run_bind, Sem.run_pure, Result.andThen_ok, run_loadVar_box Try.underlying40 rfl (k := 6) (by kernel_rfl) n o W h]
theorem store_implOptions (n o : Nat) (W : World) (cells : Array Value) (h : isBox W n (o + 6) = true) (hk : cells.size = 6) (h1 : cells.all (·.oneCell') = true) : (stBox 40 (.pointer (some ⟨n, o, none⟩)) (.agg cells)).run Try.prog W = .ok () (W.setCells n o cells.toList) := by
  simp only [stBox, Instr.storeAt, Instr.sureAddr, Sem.run_bind, Sem.run_pure, Result.andThen_ok, run_storeVar_box (P := Try.prog) (ty := 40) (k := 6) (by kernel_rfl) n o W cells h hk h1]
theorem res_implOptions {fn : Func} {p : Tmp} (h : fn.results = #[.cell p 40]) (tmps : Array Value) (n : Nat) (W : World) (hp : tmps.getD p undef = .pointer (some ⟨n, 0, none⟩)) (hb : isBox W n 6 = true) : (results fn tmps).run Try.prog W = .ok (.agg ((boxOf W n).extract 0 6)) W := by
  have hp' : tmps[p]?.getD undef = .pointer (some ⟨n, 0, none⟩) := by simpa using hp
  have := run_loadVar_box (P := Try.prog) Try.underlying40 rfl (k := 6) (by kernel_rfl) n 0 W (by simpa using hb)
  simp only [Nat.zero_add] at this
  simp [results, h, hp', asAddr, this]
theorem pload_lawsOptions (v : Value) : Instr.loadAt 30 v = ldBox 30 v := rfl
theorem pstore_lawsOptions (v x : Value) : Instr.storeAt 30 v x = stBox 30 v x := rfl
theorem load_lawsOptions (n o : Nat) (W : World) (h : isBox W n (o + 6) = true) : (ldBox 30 (.pointer (some ⟨n, o, none⟩))).run Try.prog W = .ok (.agg ((boxOf W n).extract o (o + 6))) W := by
  simp only [ldBox, Instr.loadAt, Instr.sureAddr, Sem.run_bind, Sem.run_pure, Result.andThen_ok, run_loadVar_box Try.underlying30 rfl (k := 6) (by kernel_rfl) n o W h]
theorem store_lawsOptions (n o : Nat) (W : World) (cells : Array Value) (h : isBox W n (o + 6) = true) (hk : cells.size = 6) (h1 : cells.all (·.oneCell') = true) : (stBox 30 (.pointer (some ⟨n, o, none⟩)) (.agg cells)).run Try.prog W = .ok () (W.setCells n o cells.toList) := by
  simp only [stBox, Instr.storeAt, Instr.sureAddr, Sem.run_bind, Sem.run_pure, Result.andThen_ok, run_storeVar_box (P := Try.prog) (ty := 30) (k := 6) (by kernel_rfl) n o W cells h hk h1]
theorem res_lawsOptions {fn : Func} {p : Tmp} (h : fn.results = #[.cell p 30]) (tmps : Array Value) (n : Nat) (W : World) (hp : tmps.getD p undef = .pointer (some ⟨n, 0, none⟩)) (hb : isBox W n 6 = true) : (results fn tmps).run Try.prog W = .ok (.agg ((boxOf W n).extract 0 6)) W := by
  have hp' : tmps[p]?.getD undef = .pointer (some ⟨n, 0, none⟩) := by simpa using hp
  have := run_loadVar_box (P := Try.prog) Try.underlying30 rfl (k := 6) (by kernel_rfl) n 0 W (by simpa using hb)
  simp only [Nat.zero_add] at this
  simp [results, h, hp', asAddr, this]
theorem pload_implSender (v : Value) : Instr.loadAt 36 v = ldBox 36 v := rfl
theorem pstore_implSender (v x : Value) : Instr.storeAt 36 v x = stBox 36 v x := rfl
theorem load_implSender (n o : Nat) (W : World) (h : isBox W n (o + 6) = true) : (ldBox 36 (.pointer (some ⟨n, o, none⟩))).run Try.prog W = .ok (.agg ((boxOf W n).extract o (o + 6))) W := by
  simp only [ldBox, Instr.loadAt, Instr.sureAddr, Sem.run_bind, Sem.run_pure, Result.andThen_ok, run_loadVar_box Try.underlying36 rfl (k := 6) (by kernel_rfl) n o W h]
theorem store_implSender (n o : Nat) (W : World) (cells : Array Value) (h : isBox W n (o + 6) = true) (hk : cells.size = 6) (h1 : cells.all (·.oneCell') = true) : (stBox 36 (.pointer (some ⟨n, o, none⟩)) (.agg cells)).run Try.prog W = .ok () (W.setCells n o cells.toList) := by
  simp only [stBox, Instr.storeAt, Instr.sureAddr, Sem.run_bind, Sem.run_pure, Result.andThen_ok, run_storeVar_box (P := Try.prog) (ty := 36) (k := 6) (by kernel_rfl) n o W cells h hk h1]
theorem res_implSender {fn : Func} {p : Tmp} (h : fn.results = #[.cell p 36]) (tmps : Array Value) (n : Nat) (W : World) (hp : tmps.getD p undef = .pointer (some ⟨n, 0, none⟩)) (hb : isBox W n 6 = true) : (results fn tmps).run Try.prog W = .ok (.agg ((boxOf W n).extract 0 6)) W := by
  have hp' : tmps[p]?.getD undef = .pointer (some ⟨n, 0, none⟩) := by simpa using hp
  have := run_loadVar_box (P := Try.prog) Try.underlying36 rfl (k := 6) (by kernel_rfl) n 0 W (by simpa using hb)
  simp only [Nat.zero_add] at this
  simp [results, h, hp', asAddr, this]
theorem pload_lawsSender (v : Value) : Instr.loadAt 25 v = ldBox 25 v := rfl
theorem pstore_lawsSender (v x : Value) : Instr.storeAt 25 v x = stBox 25 v x := rfl
theorem load_lawsSender (n o : Nat) (W : World) (h : isBox W n (o + 6) = true) : (ldBox 25 (.pointer (some ⟨n, o, none⟩))).run Try.prog W = .ok (.agg ((boxOf W n).extract o (o + 6))) W := by
  simp only [ldBox, Instr.loadAt, Instr.sureAddr, Sem.run_bind, Sem.run_pure, Result.andThen_ok, run_loadVar_box Try.underlying25 rfl (k := 6) (by kernel_rfl) n o W h]
theorem store_lawsSender (n o : Nat) (W : World) (cells : Array Value) (h : isBox W n (o + 6) = true) (hk : cells.size = 6) (h1 : cells.all (·.oneCell') = true) : (stBox 25 (.pointer (some ⟨n, o, none⟩)) (.agg cells)).run Try.prog W = .ok () (W.setCells n o cells.toList) := by
  simp only [stBox, Instr.storeAt, Instr.sureAddr, Sem.run_bind, Sem.run_pure, Result.andThen_ok, run_storeVar_box (P := Try.prog) (ty := 25) (k := 6) (by kernel_rfl) n o W cells h hk h1]
theorem res_lawsSender {fn : Func} {p : Tmp} (h : fn.results = #[.cell p 25]) (tmps : Array Value) (n : Nat) (W : World) (hp : tmps.getD p undef = .pointer (some ⟨n, 0, none⟩)) (hb : isBox W n 6 = true) : (results fn tmps).run Try.prog W = .ok (.agg ((boxOf W n).extract 0 6)) W := by
  have hp' : tmps[p]?.getD undef = .pointer (some ⟨n, 0, none⟩) := by simpa using hp
  have := run_loadVar_box (P := Try.prog) Try.underlying25 rfl (k := 6) (by kernel_rfl) n 0 W (by simpa using hb)
  simp only [Nat.zero_add] at this
  simp [results, h, hp', asAddr, this]
theorem pload_implPiece (v : Value) : Instr.loadAt 149 v = ldBox 149 v := rfl
theorem pstore_implPiece (v x : Value) : Instr.storeAt 149 v x = stBox 149 v x := rfl
theorem load_implPiece (n o : Nat) (W : World) (h : isBox W n (o + 2) = true) : (ldBox 149 (.pointer (some ⟨n, o, none⟩))).run Try.prog W = .ok (.agg ((boxOf W n).extract o (o + 2))) W := by
  simp only [ldBox, Instr.loadAt, Instr.sureAddr, Sem.run_bind, Sem.run_pure, Result.andThen_ok, run_loadVar_box Try.underlying149 rfl (k := 2) (by kernel_rfl) n o W h]
theorem store_implPiece (n o : Nat) (W : World) (cells : Array Value) (h : isBox W n (o + 2) = true) (hk : cells.size = 2) (h1 : cells.all (·.oneCell') = true) : (stBox 149 (.pointer (some ⟨n, o, none⟩)) (.agg cells)).run Try.prog W = .ok () (W.setCells n o cells.toList) := by
  simp only [stBox, Instr.storeAt, Instr.sureAddr, Sem.run_bind, Sem.run_pure, Result.andThen_ok, run_storeVar_box (P := Try.prog) (ty := 149) (k := 2) (by kernel_rfl) n o W cells h hk h1]
theorem res_implPiece {fn : Func} {p : Tmp} (h : fn.results = #[.cell p 149]) (tmps : Array Value) (n : Nat) (W : World) (hp : tmps.getD p undef = .pointer (some ⟨n, 0, none⟩)) (hb : isBox W n 2 = true) : (results fn tmps).run Try.prog W = .ok (.agg ((boxOf W n).extract 0 2)) W := by
  have hp' : tmps[p]?.getD undef = .pointer (some ⟨n, 0, none⟩) := by simpa using hp
  have := run_loadVar_box (P := Try.prog) Try.underlying149 rfl (k := 2) (by kernel_rfl) n 0 W (by simpa using hb)
  simp only [Nat.zero_add] at this
  simp [results, h, hp', asAddr, this]
theorem pload_lawsPiece (v : Value) : Instr.loadAt 152 v = ldBox 152 v := rfl
theorem pstore_lawsPiece (v x : Value) : Instr.storeAt 152 v x = stBox 152 v x := rfl
theorem load_lawsPiece (n o : Nat) (W : World) (h : isBox W n (o + 2) = true) : (ldBox 152 (.pointer (some ⟨n, o, none⟩))).run Try.prog W = .ok (.agg ((boxOf W n).extract o (o + 2))) W := by
  simp only [ldBox, Instr.loadAt, Instr.sureAddr, Sem.run_bind, Sem.run_pure, Result.andThen_ok, run_loadVar_box Try.underlying152 rfl (k := 2) (by kernel_rfl) n o W h]
theorem store_lawsPiece (n o : Nat) (W : World) (cells : Array Value) (h : isBox W n (o + 2) = true) (hk : cells.size = 2) (h1 : cells.all (·.oneCell') = true) : (stBox 152 (.pointer (some ⟨n, o, none⟩)) (.agg cells)).run Try.prog W = .ok () (W.setCells n o cells.toList) := by
  simp only [stBox, Instr.storeAt, Instr.sureAddr, Sem.run_bind, Sem.run_pure, Result.andThen_ok, run_storeVar_box (P := Try.prog) (ty := 152) (k := 2) (by kernel_rfl) n o W cells h hk h1]
theorem res_lawsPiece {fn : Func} {p : Tmp} (h : fn.results = #[.cell p 152]) (tmps : Array Value) (n : Nat) (W : World) (hp : tmps.getD p undef = .pointer (some ⟨n, 0, none⟩)) (hb : isBox W n 2 = true) : (results fn tmps).run Try.prog W = .ok (.agg ((boxOf W n).extract 0 2)) W := by
  have hp' : tmps[p]?.getD undef = .pointer (some ⟨n, 0, none⟩) := by simpa using hp
  have := run_loadVar_box (P := Try.prog) Try.underlying152 rfl (k := 2) (by kernel_rfl) n 0 W (by simpa using hb)
  simp only [Nat.zero_add] at this
  simp [results, h, hp', asAddr, this]
theorem pload_implReceiver (v : Value) : Instr.loadAt 39 v = ldBox 39 v := rfl
theorem pstore_implReceiver (v x : Value) : Instr.storeAt 39 v x = stBox 39 v x := rfl
theorem load_implReceiver (n o : Nat) (W : World) (h : isBox W n (o + 5) = true) : (ldBox 39 (.pointer (some ⟨n, o, none⟩))).run Try.prog W = .ok (.agg ((boxOf W n).extract o (o + 5))) W := by
  simp only [ldBox, Instr.loadAt, Instr.sureAddr, Sem.run_bind, Sem.run_pure, Result.andThen_ok, run_loadVar_box Try.underlying39 rfl (k := 5) (by kernel_rfl) n o W h]
theorem store_implReceiver (n o : Nat) (W : World) (cells : Array Value) (h : isBox W n (o + 5) = true) (hk : cells.size = 5) (h1 : cells.all (·.oneCell') = true) : (stBox 39 (.pointer (some ⟨n, o, none⟩)) (.agg cells)).run Try.prog W = .ok () (W.setCells n o cells.toList) := by
  simp only [stBox, Instr.storeAt, Instr.sureAddr, Sem.run_bind, Sem.run_pure, Result.andThen_ok, run_storeVar_box (P := Try.prog) (ty := 39) (k := 5) (by kernel_rfl) n o W cells h hk h1]
theorem res_implReceiver {fn : Func} {p : Tmp} (h : fn.results = #[.cell p 39]) (tmps : Array Value) (n : Nat) (W : World) (hp : tmps.getD p undef = .pointer (some ⟨n, 0, none⟩)) (hb : isBox W n 5 = true) : (results fn tmps).run Try.prog W = .ok (.agg ((boxOf W n).extract 0 5)) W := by
  have hp' : tmps[p]?.getD undef = .pointer (some ⟨n, 0, none⟩) := by simpa using hp
  have := run_loadVar_box (P := Try.prog) Try.underlying39 rfl (k := 5) (by kernel_rfl) n 0 W (by simpa using hb)
  simp only [Nat.zero_add] at this
  simp [results, h, hp', asAddr, this]
theorem pload_lawsReceiver (v : Value) : Instr.loadAt 28 v = ldBox 28 v := rfl
theorem pstore_lawsReceiver (v x : Value) : Instr.storeAt 28 v x = stBox 28 v x := rfl
theorem load_lawsReceiver (n o : Nat) (W : World) (h : isBox W n (o + 5) = true) : (ldBox 28 (.pointer (some ⟨n, o, none⟩))).run Try.prog W = .ok (.agg ((boxOf W n).extract o (o + 5))) W := by
  simp only [ldBox, Instr.loadAt, Instr.sureAddr, Sem.run_bind, Sem.run_pure, Result.andThen_ok, run_loadVar_box Try.underlying28 rfl (k := 5) (by kernel_rfl) n o W h]
theorem store_lawsReceiver (n o : Nat) (W : World) (cells : Array Value) (h : isBox W n (o + 5) = true) (hk : cells.size = 5) (h1 : cells.all (·.oneCell') = true) : (stBox 28 (.pointer (some ⟨n, o, none⟩)) (.agg cells)).run Try.prog W = .ok () (W.setCells n o cells.toList) := by
  simp only [stBox, Instr.storeAt, Instr.sureAddr, Sem.run_bind, Sem.run_pure, Result.andThen_ok, run_storeVar_box (P := Try.prog) (ty := 28) (k := 5) (by kernel_rfl) n o W cells h hk h1]
theorem res_lawsReceiver {fn : Func} {p : Tmp} (h : fn.results = #[.cell p 28]) (tmps : Array Value) (n : Nat) (W : World) (hp : tmps.getD p undef = .pointer (some ⟨n, 0, none⟩)) (hb : isBox W n 5 = true) : (results fn tmps).run Try.prog W = .ok (.agg ((boxOf W n).extract 0 5)) W := by
  have hp' : tmps[p]?.getD undef = .pointer (some ⟨n, 0, none⟩) := by simpa using hp
  have := run_loadVar_box (P := Try.prog) Try.underlying28 rfl (k := 5) (by kernel_rfl) n 0 W (by simpa using hb)
  simp only [Nat.zero_add] at this
  simp [results, h, hp', asAddr, this]
theorem pload_implConn (v : Value) : Instr.loadAt 42 v = ldBox 42 v := rfl
theorem pstore_implConn (v x : Value) : Instr.storeAt 42 v x = stBox 42 v x := rfl
theorem load_implConn (n o : Nat) (W : World) (h : isBox W n (o + 25) = true) : (ldBox 42 (.pointer (some ⟨n, o, none⟩))).run Try.prog W = .ok (.agg ((boxOf W n).extract o (o + 25))) W := by
  simp only [ldBox, Instr.loadAt, Instr.sureAddr, Sem.run_bind, Sem.run_pure, Result.andThen_ok, run_loadVar_box Try.underlying42 rfl (k := 25) (by kernel_rfl) n o W h]
theorem store_implConn (n o : Nat) (W : World) (cells : Array Value) (h : isBox W n (o + 25) = true) (hk : cells.size = 25) (h1 : cells.all (·.oneCell') = true) : (stBox 42 (.pointer (some ⟨n, o, none⟩)) (.agg cells)).run Try.prog W = .ok () (W.setCells n o cells.toList) := by
  simp only [stBox, Instr.storeAt, Instr.sureAddr, Sem.run_bind, Sem.run_pure, Result.andThen_ok, run_storeVar_box (P := Try.prog) (ty := 42) (k := 25) (by kernel_rfl) n o W cells h hk h1]
theorem res_implConn {fn : Func} {p : Tmp} (h : fn.results = #[.cell p 42]) (tmps : Array Value) (n : Nat) (W : World) (hp : tmps.getD p undef = .pointer (some ⟨n, 0, none⟩)) (hb : isBox W n 25 = true) : (results fn tmps).run Try.prog W = .ok (.agg ((boxOf W n).extract 0 25)) W := by
  have hp' : tmps[p]?.getD undef = .pointer (some ⟨n, 0, none⟩) := by simpa using hp
  have := run_loadVar_box (P := Try.prog) Try.underlying42 rfl (k := 25) (by kernel_rfl) n 0 W (by simpa using hb)
  simp only [Nat.zero_add] at this
  simp [results, h, hp', asAddr, this]
theorem pload_lawsConn (v : Value) : Instr.loadAt 32 v = ldBox 32 v := rfl
theorem pstore_lawsConn (v x : Value) : Instr.storeAt 32 v x = stBox 32 v x := rfl
theorem load_lawsConn (n o : Nat) (W : World) (h : isBox W n (o + 25) = true) : (ldBox 32 (.pointer (some ⟨n, o, none⟩))).run Try.prog W = .ok (.agg ((boxOf W n).extract o (o + 25))) W := by
  simp only [ldBox, Instr.loadAt, Instr.sureAddr, Sem.run_bind, Sem.run_pure, Result.andThen_ok, run_loadVar_box Try.underlying32 rfl (k := 25) (by kernel_rfl) n o W h]
theorem store_lawsConn (n o : Nat) (W : World) (cells : Array Value) (h : isBox W n (o + 25) = true) (hk : cells.size = 25) (h1 : cells.all (·.oneCell') = true) : (stBox 32 (.pointer (some ⟨n, o, none⟩)) (.agg cells)).run Try.prog W = .ok () (W.setCells n o cells.toList) := by
  simp only [stBox, Instr.storeAt, Instr.sureAddr, Sem.run_bind, Sem.run_pure, Result.andThen_ok, run_storeVar_box (P := Try.prog) (ty := 32) (k := 25) (by kernel_rfl) n o W cells h hk h1]
theorem res_lawsConn {fn : Func} {p : Tmp} (h : fn.results = #[.cell p 32]) (tmps : Array Value) (n : Nat) (W : World) (hp : tmps.getD p undef = .pointer (some ⟨n, 0, none⟩)) (hb : isBox W n 25 = true) : (results fn tmps).run Try.prog W = .ok (.agg ((boxOf W n).extract 0 25)) W := by
  have hp' : tmps[p]?.getD undef = .pointer (some ⟨n, 0, none⟩) := by simpa using hp
  have := run_loadVar_box (P := Try.prog) Try.underlying32 rfl (k := 25) (by kernel_rfl) n 0 W (by simpa using hb)
  simp only [Nat.zero_add] at this
  simp [results, h, hp', asAddr, this]
theorem pload_implSegment (v : Value) : Instr.loadAt 51 v = ldBox 51 v := rfl
theorem pstore_implSegment (v x : Value) : Instr.storeAt 51 v x = stBox 51 v x := rfl
theorem load_implSegment (n o : Nat) (W : World) (h : isBox W n (o + 13) = true) : (ldBox 51 (.pointer (some ⟨n, o, none⟩))).run Try.prog W = .ok (.agg ((boxOf W n).extract o (o + 13))) W := by
  simp only [ldBox, Instr.loadAt, Instr.sureAddr, Sem.run_bind, Sem.run_pure, Result.andThen_ok, run_loadVar_box Try.underlying51 rfl (k := 13) (by kernel_rfl) n o W h]
theorem store_implSegment (n o : Nat) (W : World) (cells : Array Value) (h : isBox W n (o + 13) = true) (hk : cells.size = 13) (h1 : cells.all (·.oneCell') = true) : (stBox 51 (.pointer (some ⟨n, o, none⟩)) (.agg cells)).run Try.prog W = .ok () (W.setCells n o cells.toList) := by
  simp only [stBox, Instr.storeAt, Instr.sureAddr, Sem.run_bind, Sem.run_pure, Result.andThen_ok, run_storeVar_box (P := Try.prog) (ty := 51) (k := 13) (by kernel_rfl) n o W cells h hk h1]
theorem res_implSegment {fn : Func} {p : Tmp} (h : fn.results = #[.cell p 51]) (tmps : Array Value) (n : Nat) (W : World) (hp : tmps.getD p undef = .pointer (some ⟨n, 0, none⟩)) (hb : isBox W n 13 = true) : (results fn tmps).run Try.prog W = .ok (.agg ((boxOf W n).extract 0 13)) W := by
  have hp' : tmps[p]?.getD undef = .pointer (some ⟨n, 0, none⟩) := by simpa using hp
  have := run_loadVar_box (P := Try.prog) Try.underlying51 rfl (k := 13) (by kernel_rfl) n 0 W (by simpa using hb)
  simp only [Nat.zero_add] at this
  simp [results, h, hp', asAddr, this]
theorem pload_lawsSegment (v : Value) : Instr.loadAt 47 v = ldBox 47 v := rfl
theorem pstore_lawsSegment (v x : Value) : Instr.storeAt 47 v x = stBox 47 v x := rfl
theorem load_lawsSegment (n o : Nat) (W : World) (h : isBox W n (o + 13) = true) : (ldBox 47 (.pointer (some ⟨n, o, none⟩))).run Try.prog W = .ok (.agg ((boxOf W n).extract o (o + 13))) W := by
  simp only [ldBox, Instr.loadAt, Instr.sureAddr, Sem.run_bind, Sem.run_pure, Result.andThen_ok, run_loadVar_box Try.underlying47 rfl (k := 13) (by kernel_rfl) n o W h]
theorem store_lawsSegment (n o : Nat) (W : World) (cells : Array Value) (h : isBox W n (o + 13) = true) (hk : cells.size = 13) (h1 : cells.all (·.oneCell') = true) : (stBox 47 (.pointer (some ⟨n, o, none⟩)) (.agg cells)).run Try.prog W = .ok () (W.setCells n o cells.toList) := by
  simp only [stBox, Instr.storeAt, Instr.sureAddr, Sem.run_bind, Sem.run_pure, Result.andThen_ok, run_storeVar_box (P := Try.prog) (ty := 47) (k := 13) (by kernel_rfl) n o W cells h hk h1]
theorem res_lawsSegment {fn : Func} {p : Tmp} (h : fn.results = #[.cell p 47]) (tmps : Array Value) (n : Nat) (W : World) (hp : tmps.getD p undef = .pointer (some ⟨n, 0, none⟩)) (hb : isBox W n 13 = true) : (results fn tmps).run Try.prog W = .ok (.agg ((boxOf W n).extract 0 13)) W := by
  have hp' : tmps[p]?.getD undef = .pointer (some ⟨n, 0, none⟩) := by simpa using hp
  have := run_loadVar_box (P := Try.prog) Try.underlying47 rfl (k := 13) (by kernel_rfl) n 0 W (by simpa using hb)
  simp only [Nat.zero_add] at this
  simp [results, h, hp', asAddr, this]
theorem pload_implHalf (v : Value) : Instr.loadAt 100 v = ldBox 100 v := rfl
theorem pstore_implHalf (v x : Value) : Instr.storeAt 100 v x = stBox 100 v x := rfl
theorem load_implHalf (n o : Nat) (W : World) (h : isBox W n (o + 13) = true) : (ldBox 100 (.pointer (some ⟨n, o, none⟩))).run Try.prog W = .ok (.agg ((boxOf W n).extract o (o + 13))) W := by
  simp only [ldBox, Instr.loadAt, Instr.sureAddr, Sem.run_bind, Sem.run_pure, Result.andThen_ok, run_loadVar_box Try.underlying100 rfl (k := 13) (by kernel_rfl) n o W h]
theorem store_implHalf (n o : Nat) (W : World) (cells : Array Value) (h : isBox W n (o + 13) = true) (hk : cells.size = 13) (h1 : cells.all (·.oneCell') = true) : (stBox 100 (.pointer (some ⟨n, o, none⟩)) (.agg cells)).run Try.prog W = .ok () (W.setCells n o cells.toList) := by
  simp only [stBox, Instr.storeAt, Instr.sureAddr, Sem.run_bind, Sem.run_pure, Result.andThen_ok, run_storeVar_box (P := Try.prog) (ty := 100) (k := 13) (by kernel_rfl) n o W cells h hk h1]
theorem res_implHalf {fn : Func} {p : Tmp} (h : fn.results = #[.cell p 100]) (tmps : Array Value) (n : Nat) (W : World) (hp : tmps.getD p undef = .pointer (some ⟨n, 0, none⟩)) (hb : isBox W n 13 = true) : (results fn tmps).run Try.prog W = .ok (.agg ((boxOf W n).extract 0 13)) W := by
  have hp' : tmps[p]?.getD undef = .pointer (some ⟨n, 0, none⟩) := by simpa using hp
  have := run_loadVar_box (P := Try.prog) Try.underlying100 rfl (k := 13) (by kernel_rfl) n 0 W (by simpa using hb)
  simp only [Nat.zero_add] at this
  simp [results, h, hp', asAddr, this]
theorem pload_lawsHalf (v : Value) : Instr.loadAt 107 v = ldBox 107 v := rfl
theorem pstore_lawsHalf (v x : Value) : Instr.storeAt 107 v x = stBox 107 v x := rfl
theorem load_lawsHalf (n o : Nat) (W : World) (h : isBox W n (o + 13) = true) : (ldBox 107 (.pointer (some ⟨n, o, none⟩))).run Try.prog W = .ok (.agg ((boxOf W n).extract o (o + 13))) W := by
  simp only [ldBox, Instr.loadAt, Instr.sureAddr, Sem.run_bind, Sem.run_pure, Result.andThen_ok, run_loadVar_box Try.underlying107 rfl (k := 13) (by kernel_rfl) n o W h]
theorem store_lawsHalf (n o : Nat) (W : World) (cells : Array Value) (h : isBox W n (o + 13) = true) (hk : cells.size = 13) (h1 : cells.all (·.oneCell') = true) : (stBox 107 (.pointer (some ⟨n, o, none⟩)) (.agg cells)).run Try.prog W = .ok () (W.setCells n o cells.toList) := by
  simp only [stBox, Instr.storeAt, Instr.sureAddr, Sem.run_bind, Sem.run_pure, Result.andThen_ok, run_storeVar_box (P := Try.prog) (ty := 107) (k := 13) (by kernel_rfl) n o W cells h hk h1]
theorem res_lawsHalf {fn : Func} {p : Tmp} (h : fn.results = #[.cell p 107]) (tmps : Array Value) (n : Nat) (W : World) (hp : tmps.getD p undef = .pointer (some ⟨n, 0, none⟩)) (hb : isBox W n 13 = true) : (results fn tmps).run Try.prog W = .ok (.agg ((boxOf W n).extract 0 13)) W := by
  have hp' : tmps[p]?.getD undef = .pointer (some ⟨n, 0, none⟩) := by simpa using hp
  have := run_loadVar_box (P := Try.prog) Try.underlying107 rfl (k := 13) (by kernel_rfl) n 0 W (by simpa using hb)
  simp only [Nat.zero_add] at this
  simp [results, h, hp', asAddr, this]
theorem pload_implChunk (v : Value) : Instr.loadAt 116 v = ldBox 116 v := rfl
theorem pstore_implChunk (v x : Value) : Instr.storeAt 116 v x = stBox 116 v x := rfl
theorem load_implChunk (n o : Nat) (W : World) (h : isBox W n (o + 3) = true) : (ldBox 116 (.pointer (some ⟨n, o, none⟩))).run Try.prog W = .ok (.agg ((boxOf W n).extract o (o + 3))) W := by
  simp only [ldBox, Instr.loadAt, Instr.sureAddr, Sem.run_bind, Sem.run_pure, Result.andThen_ok, run_loadVar_box Try.underlying116 rfl (k := 3) (by kernel_rfl) n o W h]
theorem store_implChunk (n o : Nat) (W : World) (cells : Array Value) (h : isBox W n (o + 3) = true) (hk : cells.size = 3) (h1 : cells.all (·.oneCell') = true) : (stBox 116 (.pointer (some ⟨n, o, none⟩)) (.agg cells)).run Try.prog W = .ok () (W.setCells n o cells.toList) := by
  simp only [stBox, Instr.storeAt, Instr.sureAddr, Sem.run_bind, Sem.run_pure, Result.andThen_ok, run_storeVar_box (P := Try.prog) (ty := 116) (k := 3) (by kernel_rfl) n o W cells h hk h1]
theorem res_implChunk {fn : Func} {p : Tmp} (h : fn.results = #[.cell p 116]) (tmps : Array Value) (n : Nat) (W : World) (hp : tmps.getD p undef = .pointer (some ⟨n, 0, none⟩)) (hb : isBox W n 3 = true) : (results fn tmps).run Try.prog W = .ok (.agg ((boxOf W n).extract 0 3)) W := by
  have hp' : tmps[p]?.getD undef = .pointer (some ⟨n, 0, none⟩) := by simpa using hp
  have := run_loadVar_box (P := Try.prog) Try.underlying116 rfl (k := 3) (by kernel_rfl) n 0 W (by simpa using hb)
  simp only [Nat.zero_add] at this
  simp [results, h, hp', asAddr, this]
end Go.Proofs.Ytjfamgkkenccdaa
