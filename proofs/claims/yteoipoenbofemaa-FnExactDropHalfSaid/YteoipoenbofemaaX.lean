/- Contracts (X). -/
import Derived.Test.YteoipoenbofemaaB
namespace Go.Proofs.Yteoipoenbofemaa
open Go.RowKit
attribute [local go_sem] lt_gap le_gap eq_gap gap_eq lt_ones2 lt_ones3 lt_ones4 lt_ones5 lt_ones6 lt_ones7 lt_ones8 lt_gap_1 lt_gap_2 lt_gap_3 lt_gap_4 lt_gap_5 lt_gap_6 size_grow cell?_grow frozen?_grow setCell_grow drew_grow drewN_grow
attribute [local go_sem] boxOf_alloc_at boxOf_alloc_past boxOf_grow boxOf_drew boxOf_drewN isBox_alloc_at isBox_alloc_past isBox_grow isBox_drew isBox_drewN putAt_all putAt setCells_alloc_at setCells_alloc_past setCells_grow setCells_drew
set_option linter.unusedVariables false
set_option linter.unusedSimpArgs false

theorem pload_implTuple (v : Value) : Instr.loadAt 29 v = ldBox 29 v := rfl
theorem pstore_implTuple (v x : Value) : Instr.storeAt 29 v x = stBox 29 v x := rfl
theorem load_implTuple (n o : Nat) (W : World) (h : isBox W n (o + 3) = true) : (ldBox 29 (.pointer (some ⟨n, o, none⟩))).run Try.prog W = .ok (.agg ((boxOf W n).extract o (o + 3))) W := by
  simp only [ldBox, Instr.loadAt, Instr.sureAddr, Sem.run_bind, Sem.run_pure, Result.andThen_ok, run_loadVar_box Try.underlying29 rfl (k := 3) (by kernel_rfl) n o W h]
theorem store_implTuple (n o : Nat) (W : World) (cells : Array Value) (h : isBox W n (o + 3) = true) (hk : cells.size = 3) (h1 : cells.all (·.oneCell') = true) : (stBox 29 (.pointer (some ⟨n, o, none⟩)) (.agg cells)).run Try.prog W = .ok () (W.setCells n o cells.toList) := by
  simp only [stBox, Instr.storeAt, Instr.sureAddr, Sem.run_bind, Sem.run_pure, Result.andThen_ok, run_storeVar_box (P := Try.prog) (ty := 29) (k := 3) (by kernel_rfl) n o W cells h hk h1]
theorem res_implTuple {fn : Func} {p : Tmp} (h : fn.results = #[.cell p 29]) (tmps : Array Value) (n : Nat) (W : World) (hp : tmps.getD p undef = .pointer (some ⟨n, 0, none⟩)) (hb : isBox W n 3 = true) : (results fn tmps).run Try.prog W = .ok (.agg ((boxOf W n).extract 0 3)) W := by
  have hp' : tmps[p]?.getD undef = .pointer (some ⟨n, 0, none⟩) := by simpa using hp
  have := run_loadVar_box (P := Try.prog) Try.underlying29 rfl (k := 3) (by kernel_rfl) n 0 W (by simpa using hb)
  simp only [Nat.zero_add] at this
  simp [results, h, hp', asAddr, this]
theorem pload_lawsTuple (v : Value) : Instr.loadAt 24 v = ldBox 24 v := rfl
theorem pstore_lawsTuple (v x : Value) : Instr.storeAt 24 v x = stBox 24 v x := rfl
theorem load_lawsTuple (n o : Nat) (W : World) (h : isBox W n (o + 3) = true) : (ldBox 24 (.pointer (some ⟨n, o, none⟩))).run Try.prog W = .ok (.agg ((boxOf W n).extract o (o + 3))) W := by
  simp only [ldBox, Instr.loadAt, Instr.sureAddr, Sem.run_bind, Sem.run_pure, Result.andThen_ok, run_loadVar_box Try.underlying24 rfl (k := 3) (by kernel_rfl) n o W h]
theorem store_lawsTuple (n o : Nat) (W : World) (cells : Array Value) (h : isBox W n (o + 3) = true) (hk : cells.size = 3) (h1 : cells.all (·.oneCell') = true) : (stBox 24 (.pointer (some ⟨n, o, none⟩)) (.agg cells)).run Try.prog W = .ok () (W.setCells n o cells.toList) := by
  simp only [stBox, Instr.storeAt, Instr.sureAddr, Sem.run_bind, Sem.run_pure, Result.andThen_ok, run_storeVar_box (P := Try.prog) (ty := 24) (k := 3) (by kernel_rfl) n o W cells h hk h1]
theorem res_lawsTuple {fn : Func} {p : Tmp} (h : fn.results = #[.cell p 24]) (tmps : Array Value) (n : Nat) (W : World) (hp : tmps.getD p undef = .pointer (some ⟨n, 0, none⟩)) (hb : isBox W n 3 = true) : (results fn tmps).run Try.prog W = .ok (.agg ((boxOf W n).extract 0 3)) W := by
  have hp' : tmps[p]?.getD undef = .pointer (some ⟨n, 0, none⟩) := by simpa using hp
  have := run_loadVar_box (P := Try.prog) Try.underlying24 rfl (k := 3) (by kernel_rfl) n 0 W (by simpa using hb)
  simp only [Nat.zero_add] at this
  simp [results, h, hp', asAddr, this]
theorem pload_implOptions (v : Value) : Instr.loadAt 40 v = ldBox 40 v := rfl
theorem pstore_implOptions (v x : Value) : Instr.storeAt 40 v x = stBox 40 v x := rfl
theorem load_implOptions (n o : Nat) (W : World) (h : isBox W n (o + 6) = true) : (ldBox 40 (.pointer (some ⟨n, o, none⟩))).run Try.prog W = .ok (.agg ((boxOf W n).extract o (o + 6))) W := by
  simp only [ldBox, Instr.loadAt, Instr.sureAddr, Sem.run_bind, Sem.run_pure, Result.andThen_ok, run_loadVar_box Try.underlying40 rfl (k := 6) (by kernel_rfl) n o W h]
theorem store_implOptions (n o : Nat) (W : World) (cells : Array Value) (h : isBox W n (o + 6) = true) (hk : cells.size = 6) (h1 : cells.all (·.oneCell') = true) : (stBox 40 (.pointer (some ⟨n, o, none⟩)) (.agg cells)).run Try.prog W = .ok () (W.setCells n o cells.toList) := by
  simp only [stBox, Instr.storeAt, Instr.sureAddr, Sem.run_bind, Sem.run_pure, Result.andThen_ok, run_storeVar_box (P := Try.prog) (ty := 40) (k := 6) (by kernel_rfl) n o W cells h hk h1]
theorem res_implOptions {fn : Func} {p : Tmp} (h : fn.results = #[.cell p 40]) (tmps : Array Value) (n : Nat) (W : World) (hp : tmps.getD p undef = .pointer (some ⟨n, 0, none⟩)) (hb : isBox W n 6 = true) : (results fn tmps).run Try.prog W = .ok (.agg ((boxOf W n).extract 0 6)) W := by
  have hp' : tmps[p]?.getD undef = .pointer (some ⟨n, 0, none⟩) := by simpa using hp
  have := run_loadVar_box (P := Try.prog) Try.underlying40 rfl (k := 6) (by kernel_rfl) n 0 W (by simpa using hb)
  simp only [Nat.zero_add] at this
  simp [results, h, hp', asAddr, this]
theorem pload_lawsOptions (v : Value) : Instr.loadAt 35 v = ldBox 35 v := rfl
theorem pstore_lawsOptions (v x : Value) : Instr.storeAt 35 v x = stBox 35 v x := rfl
theorem load_lawsOptions (n o : Nat) (W : World) (h : isBox W n (o + 6) = true) : (ldBox 35 (.pointer (some ⟨n, o, none⟩))).run Try.prog W = .ok (.agg ((boxOf W n).extract o (o + 6))) W := by
  simp only [ldBox, Instr.loadAt, Instr.sureAddr, Sem.run_bind, Sem.run_pure, Result.andThen_ok, run_loadVar_box Try.underlying35 rfl (k := 6) (by kernel_rfl) n o W h]
theorem store_lawsOptions (n o : Nat) (W : World) (cells : Array Value) (h : isBox W n (o + 6) = true) (hk : cells.size = 6) (h1 : cells.all (·.oneCell') = true) : (stBox 35 (.pointer (some ⟨n, o, none⟩)) (.agg cells)).run Try.prog W = .ok () (W.setCells n o cells.toList) := by
  simp only [stBox, Instr.storeAt, Instr.sureAddr, Sem.run_bind, Sem.run_pure, Result.andThen_ok, run_storeVar_box (P := Try.prog) (ty := 35) (k := 6) (by kernel_rfl) n o W cells h hk h1]
theorem res_lawsOptions {fn : Func} {p : Tmp} (h : fn.results = #[.cell p 35]) (tmps : Array Value) (n : Nat) (W : World) (hp : tmps.getD p undef = .pointer (some ⟨n, 0, none⟩)) (hb : isBox W n 6 = true) : (results fn tmps).run Try.prog W = .ok (.agg ((boxOf W n).extract 0 6)) W := by
  have hp' : tmps[p]?.getD undef = .pointer (some ⟨n, 0, none⟩) := by simpa using hp
  have := run_loadVar_box (P := Try.prog) Try.underlying35 rfl (k := 6) (by kernel_rfl) n 0 W (by simpa using hb)
  simp only [Nat.zero_add] at this
  simp [results, h, hp', asAddr, this]
theorem pload_implSender (v : Value) : Instr.loadAt 46 v = ldBox 46 v := rfl
theorem pstore_implSender (v x : Value) : Instr.storeAt 46 v x = stBox 46 v x := rfl
theorem load_implSender (n o : Nat) (W : World) (h : isBox W n (o + 6) = true) : (ldBox 46 (.pointer (some ⟨n, o, none⟩))).run Try.prog W = .ok (.agg ((boxOf W n).extract o (o + 6))) W := by
  simp only [ldBox, Instr.loadAt, Instr.sureAddr, Sem.run_bind, Sem.run_pure, Result.andThen_ok, run_loadVar_box Try.underlying46 rfl (k := 6) (by kernel_rfl) n o W h]
theorem store_implSender (n o : Nat) (W : World) (cells : Array Value) (h : isBox W n (o + 6) = true) (hk : cells.size = 6) (h1 : cells.all (·.oneCell') = true) : (stBox 46 (.pointer (some ⟨n, o, none⟩)) (.agg cells)).run Try.prog W = .ok () (W.setCells n o cells.toList) := by
  simp only [stBox, Instr.storeAt, Instr.sureAddr, Sem.run_bind, Sem.run_pure, Result.andThen_ok, run_storeVar_box (P := Try.prog) (ty := 46) (k := 6) (by kernel_rfl) n o W cells h hk h1]
theorem res_implSender {fn : Func} {p : Tmp} (h : fn.results = #[.cell p 46]) (tmps : Array Value) (n : Nat) (W : World) (hp : tmps.getD p undef = .pointer (some ⟨n, 0, none⟩)) (hb : isBox W n 6 = true) : (results fn tmps).run Try.prog W = .ok (.agg ((boxOf W n).extract 0 6)) W := by
  have hp' : tmps[p]?.getD undef = .pointer (some ⟨n, 0, none⟩) := by simpa using hp
  have := run_loadVar_box (P := Try.prog) Try.underlying46 rfl (k := 6) (by kernel_rfl) n 0 W (by simpa using hb)
  simp only [Nat.zero_add] at this
  simp [results, h, hp', asAddr, this]
theorem pload_lawsSender (v : Value) : Instr.loadAt 91 v = ldBox 91 v := rfl
theorem pstore_lawsSender (v x : Value) : Instr.storeAt 91 v x = stBox 91 v x := rfl
theorem load_lawsSender (n o : Nat) (W : World) (h : isBox W n (o + 6) = true) : (ldBox 91 (.pointer (some ⟨n, o, none⟩))).run Try.prog W = .ok (.agg ((boxOf W n).extract o (o + 6))) W := by
  simp only [ldBox, Instr.loadAt, Instr.sureAddr, Sem.run_bind, Sem.run_pure, Result.andThen_ok, run_loadVar_box Try.underlying91 rfl (k := 6) (by kernel_rfl) n o W h]
theorem store_lawsSender (n o : Nat) (W : World) (cells : Array Value) (h : isBox W n (o + 6) = true) (hk : cells.size = 6) (h1 : cells.all (·.oneCell') = true) : (stBox 91 (.pointer (some ⟨n, o, none⟩)) (.agg cells)).run Try.prog W = .ok () (W.setCells n o cells.toList) := by
  simp only [stBox, Instr.storeAt, Instr.sureAddr, Sem.run_bind, Sem.run_pure, Result.andThen_ok, run_storeVar_box (P := Try.prog) (ty := 91) (k := 6) (by kernel_rfl) n o W cells h hk h1]
theorem res_lawsSender {fn : Func} {p : Tmp} (h : fn.results = #[.cell p 91]) (tmps : Array Value) (n : Nat) (W : World) (hp : tmps.getD p undef = .pointer (some ⟨n, 0, none⟩)) (hb : isBox W n 6 = true) : (results fn tmps).run Try.prog W = .ok (.agg ((boxOf W n).extract 0 6)) W := by
  have hp' : tmps[p]?.getD undef = .pointer (some ⟨n, 0, none⟩) := by simpa using hp
  have := run_loadVar_box (P := Try.prog) Try.underlying91 rfl (k := 6) (by kernel_rfl) n 0 W (by simpa using hb)
  simp only [Nat.zero_add] at this
  simp [results, h, hp', asAddr, this]
theorem pload_implPiece (v : Value) : Instr.loadAt 130 v = ldBox 130 v := rfl
theorem pstore_implPiece (v x : Value) : Instr.storeAt 130 v x = stBox 130 v x := rfl
theorem load_implPiece (n o : Nat) (W : World) (h : isBox W n (o + 2) = true) : (ldBox 130 (.pointer (some ⟨n, o, none⟩))).run Try.prog W = .ok (.agg ((boxOf W n).extract o (o + 2))) W := by
  simp only [ldBox, Instr.loadAt, Instr.sureAddr, Sem.run_bind, Sem.run_pure, Result.andThen_ok, run_loadVar_box Try.underlying130 rfl (k := 2) (by kernel_rfl) n o W h]
theorem store_implPiece (n o : Nat) (W : World) (cells : Array Value) (h : isBox W n (o + 2) = true) (hk : cells.size = 2) (h1 : cells.all (·.oneCell') = true) : (stBox 130 (.pointer (some ⟨n, o, none⟩)) (.agg cells)).run Try.prog W = .ok () (W.setCells n o cells.toList) := by
  simp only [stBox, Instr.storeAt, Instr.sureAddr, Sem.run_bind, Sem.run_pure, Result.andThen_ok, run_storeVar_box (P := Try.prog) (ty := 130) (k := 2) (by kernel_rfl) n o W cells h hk h1]
theorem res_implPiece {fn : Func} {p : Tmp} (h : fn.results = #[.cell p 130]) (tmps : Array Value) (n : Nat) (W : World) (hp : tmps.getD p undef = .pointer (some ⟨n, 0, none⟩)) (hb : isBox W n 2 = true) : (results fn tmps).run Try.prog W = .ok (.agg ((boxOf W n).extract 0 2)) W := by
  have hp' : tmps[p]?.getD undef = .pointer (some ⟨n, 0, none⟩) := by simpa using hp
  have := run_loadVar_box (P := Try.prog) Try.underlying130 rfl (k := 2) (by kernel_rfl) n 0 W (by simpa using hb)
  simp only [Nat.zero_add] at this
  simp [results, h, hp', asAddr, this]
theorem pload_lawsPiece (v : Value) : Instr.loadAt 158 v = ldBox 158 v := rfl
theorem pstore_lawsPiece (v x : Value) : Instr.storeAt 158 v x = stBox 158 v x := rfl
theorem load_lawsPiece (n o : Nat) (W : World) (h : isBox W n (o + 2) = true) : (ldBox 158 (.pointer (some ⟨n, o, none⟩))).run Try.prog W = .ok (.agg ((boxOf W n).extract o (o + 2))) W := by
  simp only [ldBox, Instr.loadAt, Instr.sureAddr, Sem.run_bind, Sem.run_pure, Result.andThen_ok, run_loadVar_box Try.underlying158 rfl (k := 2) (by kernel_rfl) n o W h]
theorem store_lawsPiece (n o : Nat) (W : World) (cells : Array Value) (h : isBox W n (o + 2) = true) (hk : cells.size = 2) (h1 : cells.all (·.oneCell') = true) : (stBox 158 (.pointer (some ⟨n, o, none⟩)) (.agg cells)).run Try.prog W = .ok () (W.setCells n o cells.toList) := by
  simp only [stBox, Instr.storeAt, Instr.sureAddr, Sem.run_bind, Sem.run_pure, Result.andThen_ok, run_storeVar_box (P := Try.prog) (ty := 158) (k := 2) (by kernel_rfl) n o W cells h hk h1]
theorem res_lawsPiece {fn : Func} {p : Tmp} (h : fn.results = #[.cell p 158]) (tmps : Array Value) (n : Nat) (W : World) (hp : tmps.getD p undef = .pointer (some ⟨n, 0, none⟩)) (hb : isBox W n 2 = true) : (results fn tmps).run Try.prog W = .ok (.agg ((boxOf W n).extract 0 2)) W := by
  have hp' : tmps[p]?.getD undef = .pointer (some ⟨n, 0, none⟩) := by simpa using hp
  have := run_loadVar_box (P := Try.prog) Try.underlying158 rfl (k := 2) (by kernel_rfl) n 0 W (by simpa using hb)
  simp only [Nat.zero_add] at this
  simp [results, h, hp', asAddr, this]
theorem pload_implReceiver (v : Value) : Instr.loadAt 49 v = ldBox 49 v := rfl
theorem pstore_implReceiver (v x : Value) : Instr.storeAt 49 v x = stBox 49 v x := rfl
theorem load_implReceiver (n o : Nat) (W : World) (h : isBox W n (o + 5) = true) : (ldBox 49 (.pointer (some ⟨n, o, none⟩))).run Try.prog W = .ok (.agg ((boxOf W n).extract o (o + 5))) W := by
  simp only [ldBox, Instr.loadAt, Instr.sureAddr, Sem.run_bind, Sem.run_pure, Result.andThen_ok, run_loadVar_box Try.underlying49 rfl (k := 5) (by kernel_rfl) n o W h]
theorem store_implReceiver (n o : Nat) (W : World) (cells : Array Value) (h : isBox W n (o + 5) = true) (hk : cells.size = 5) (h1 : cells.all (·.oneCell') = true) : (stBox 49 (.pointer (some ⟨n, o, none⟩)) (.agg cells)).run Try.prog W = .ok () (W.setCells n o cells.toList) := by
  simp only [stBox, Instr.storeAt, Instr.sureAddr, Sem.run_bind, Sem.run_pure, Result.andThen_ok, run_storeVar_box (P := Try.prog) (ty := 49) (k := 5) (by kernel_rfl) n o W cells h hk h1]
theorem res_implReceiver {fn : Func} {p : Tmp} (h : fn.results = #[.cell p 49]) (tmps : Array Value) (n : Nat) (W : World) (hp : tmps.getD p undef = .pointer (some ⟨n, 0, none⟩)) (hb : isBox W n 5 = true) : (results fn tmps).run Try.prog W = .ok (.agg ((boxOf W n).extract 0 5)) W := by
  have hp' : tmps[p]?.getD undef = .pointer (some ⟨n, 0, none⟩) := by simpa using hp
  have := run_loadVar_box (P := Try.prog) Try.underlying49 rfl (k := 5) (by kernel_rfl) n 0 W (by simpa using hb)
  simp only [Nat.zero_add] at this
  simp [results, h, hp', asAddr, this]
theorem pload_lawsReceiver (v : Value) : Instr.loadAt 59 v = ldBox 59 v := rfl
theorem pstore_lawsReceiver (v x : Value) : Instr.storeAt 59 v x = stBox 59 v x := rfl
theorem load_lawsReceiver (n o : Nat) (W : World) (h : isBox W n (o + 5) = true) : (ldBox 59 (.pointer (some ⟨n, o, none⟩))).run Try.prog W = .ok (.agg ((boxOf W n).extract o (o + 5))) W := by
  simp only [ldBox, Instr.loadAt, Instr.sureAddr, Sem.run_bind, Sem.run_pure, Result.andThen_ok, run_loadVar_box Try.underlying59 rfl (k := 5) (by kernel_rfl) n o W h]
theorem store_lawsReceiver (n o : Nat) (W : World) (cells : Array Value) (h : isBox W n (o + 5) = true) (hk : cells.size = 5) (h1 : cells.all (·.oneCell') = true) : (stBox 59 (.pointer (some ⟨n, o, none⟩)) (.agg cells)).run Try.prog W = .ok () (W.setCells n o cells.toList) := by
  simp only [stBox, Instr.storeAt, Instr.sureAddr, Sem.run_bind, Sem.run_pure, Result.andThen_ok, run_storeVar_box (P := Try.prog) (ty := 59) (k := 5) (by kernel_rfl) n o W cells h hk h1]
theorem res_lawsReceiver {fn : Func} {p : Tmp} (h : fn.results = #[.cell p 59]) (tmps : Array Value) (n : Nat) (W : World) (hp : tmps.getD p undef = .pointer (some ⟨n, 0, none⟩)) (hb : isBox W n 5 = true) : (results fn tmps).run Try.prog W = .ok (.agg ((boxOf W n).extract 0 5)) W := by
  have hp' : tmps[p]?.getD undef = .pointer (some ⟨n, 0, none⟩) := by simpa using hp
  have := run_loadVar_box (P := Try.prog) Try.underlying59 rfl (k := 5) (by kernel_rfl) n 0 W (by simpa using hb)
  simp only [Nat.zero_add] at this
  simp [results, h, hp', asAddr, this]
theorem pload_implConn (v : Value) : Instr.loadAt 51 v = ldBox 51 v := rfl
theorem pstore_implConn (v x : Value) : Instr.storeAt 51 v x = stBox 51 v x := rfl
theorem load_implConn (n o : Nat) (W : World) (h : isBox W n (o + 25) = true) : (ldBox 51 (.pointer (some ⟨n, o, none⟩))).run Try.prog W = .ok (.agg ((boxOf W n).extract o (o + 25))) W := by
  simp only [ldBox, Instr.loadAt, Instr.sureAddr, Sem.run_bind, Sem.run_pure, Result.andThen_ok, run_loadVar_box Try.underlying51 rfl (k := 25) (by kernel_rfl) n o W h]
theorem store_implConn (n o : Nat) (W : World) (cells : Array Value) (h : isBox W n (o + 25) = true) (hk : cells.size = 25) (h1 : cells.all (·.oneCell') = true) : (stBox 51 (.pointer (some ⟨n, o, none⟩)) (.agg cells)).run Try.prog W = .ok () (W.setCells n o cells.toList) := by
  simp only [stBox, Instr.storeAt, Instr.sureAddr, Sem.run_bind, Sem.run_pure, Result.andThen_ok, run_storeVar_box (P := Try.prog) (ty := 51) (k := 25) (by kernel_rfl) n o W cells h hk h1]
theorem res_implConn {fn : Func} {p : Tmp} (h : fn.results = #[.cell p 51]) (tmps : Array Value) (n : Nat) (W : World) (hp : tmps.getD p undef = .pointer (some ⟨n, 0, none⟩)) (hb : isBox W n 25 = true) : (results fn tmps).run Try.prog W = .ok (.agg ((boxOf W n).extract 0 25)) W := by
  have hp' : tmps[p]?.getD undef = .pointer (some ⟨n, 0, none⟩) := by simpa using hp
  have := run_loadVar_box (P := Try.prog) Try.underlying51 rfl (k := 25) (by kernel_rfl) n 0 W (by simpa using hb)
  simp only [Nat.zero_add] at this
  simp [results, h, hp', asAddr, this]
theorem pload_lawsConn (v : Value) : Instr.loadAt 93 v = ldBox 93 v := rfl
theorem pstore_lawsConn (v x : Value) : Instr.storeAt 93 v x = stBox 93 v x := rfl
theorem load_lawsConn (n o : Nat) (W : World) (h : isBox W n (o + 25) = true) : (ldBox 93 (.pointer (some ⟨n, o, none⟩))).run Try.prog W = .ok (.agg ((boxOf W n).extract o (o + 25))) W := by
  simp only [ldBox, Instr.loadAt, Instr.sureAddr, Sem.run_bind, Sem.run_pure, Result.andThen_ok, run_loadVar_box Try.underlying93 rfl (k := 25) (by kernel_rfl) n o W h]
theorem store_lawsConn (n o : Nat) (W : World) (cells : Array Value) (h : isBox W n (o + 25) = true) (hk : cells.size = 25) (h1 : cells.all (·.oneCell') = true) : (stBox 93 (.pointer (some ⟨n, o, none⟩)) (.agg cells)).run Try.prog W = .ok () (W.setCells n o cells.toList) := by
  simp only [stBox, Instr.storeAt, Instr.sureAddr, Sem.run_bind, Sem.run_pure, Result.andThen_ok, run_storeVar_box (P := Try.prog) (ty := 93) (k := 25) (by kernel_rfl) n o W cells h hk h1]
theorem res_lawsConn {fn : Func} {p : Tmp} (h : fn.results = #[.cell p 93]) (tmps : Array Value) (n : Nat) (W : World) (hp : tmps.getD p undef = .pointer (some ⟨n, 0, none⟩)) (hb : isBox W n 25 = true) : (results fn tmps).run Try.prog W = .ok (.agg ((boxOf W n).extract 0 25)) W := by
  have hp' : tmps[p]?.getD undef = .pointer (some ⟨n, 0, none⟩) := by simpa using hp
  have := run_loadVar_box (P := Try.prog) Try.underlying93 rfl (k := 25) (by kernel_rfl) n 0 W (by simpa using hb)
  simp only [Nat.zero_add] at this
  simp [results, h, hp', asAddr, this]
theorem pload_implHalf (v : Value) : Instr.loadAt 42 v = ldBox 42 v := rfl
theorem pstore_implHalf (v x : Value) : Instr.storeAt 42 v x = stBox 42 v x := rfl
theorem load_implHalf (n o : Nat) (W : World) (h : isBox W n (o + 13) = true) : (ldBox 42 (.pointer (some ⟨n, o, none⟩))).run Try.prog W = .ok (.agg ((boxOf W n).extract o (o + 13))) W := by
  simp only [ldBox, Instr.loadAt, Instr.sureAddr, Sem.run_bind, Sem.run_pure, Result.andThen_ok, run_loadVar_box Try.underlying42 rfl (k := 13) (by kernel_rfl) n o W h]
theorem store_implHalf (n o : Nat) (W : World) (cells : Array Value) (h : isBox W n (o + 13) = true) (hk : cells.size = 13) (h1 : cells.all (·.oneCell') = true) : (stBox 42 (.pointer (some ⟨n, o, none⟩)) (.agg cells)).run Try.prog W = .ok () (W.setCells n o cells.toList) := by
  simp only [stBox, Instr.storeAt, Instr.sureAddr, Sem.run_bind, Sem.run_pure, Result.andThen_ok, run_storeVar_box (P := Try.prog) (ty := 42) (k := 13) (by kernel_rfl) n o W cells h hk h1]
theorem res_implHalf {fn : Func} {p : Tmp} (h : fn.results = #[.cell p 42]) (tmps : Array Value) (n : Nat) (W : World) (hp : tmps.getD p undef = .pointer (some ⟨n, 0, none⟩)) (hb : isBox W n 13 = true) : (results fn tmps).run Try.prog W = .ok (.agg ((boxOf W n).extract 0 13)) W := by
  have hp' : tmps[p]?.getD undef = .pointer (some ⟨n, 0, none⟩) := by simpa using hp
  have := run_loadVar_box (P := Try.prog) Try.underlying42 rfl (k := 13) (by kernel_rfl) n 0 W (by simpa using hb)
  simp only [Nat.zero_add] at this
  simp [results, h, hp', asAddr, this]
theorem pload_lawsHalf (v : Value) : Instr.loadAt 37 v = ldBox 37 v := rfl
theorem pstore_lawsHalf (v x : Value) : Instr.storeAt 37 v x = stBox 37 v x := rfl
theorem load_lawsHalf (n o : Nat) (W : World) (h : isBox W n (o + 13) = true) : (ldBox 37 (.pointer (some ⟨n, o, none⟩))).run Try.prog W = .ok (.agg ((boxOf W n).extract o (o + 13))) W := by
  simp only [ldBox, Instr.loadAt, Instr.sureAddr, Sem.run_bind, Sem.run_pure, Result.andThen_ok, run_loadVar_box Try.underlying37 rfl (k := 13) (by kernel_rfl) n o W h]
theorem store_lawsHalf (n o : Nat) (W : World) (cells : Array Value) (h : isBox W n (o + 13) = true) (hk : cells.size = 13) (h1 : cells.all (·.oneCell') = true) : (stBox 37 (.pointer (some ⟨n, o, none⟩)) (.agg cells)).run Try.prog W = .ok () (W.setCells n o cells.toList) := by
  simp only [stBox, Instr.storeAt, Instr.sureAddr, Sem.run_bind, Sem.run_pure, Result.andThen_ok, run_storeVar_box (P := Try.prog) (ty := 37) (k := 13) (by kernel_rfl) n o W cells h hk h1]
theorem res_lawsHalf {fn : Func} {p : Tmp} (h : fn.results = #[.cell p 37]) (tmps : Array Value) (n : Nat) (W : World) (hp : tmps.getD p undef = .pointer (some ⟨n, 0, none⟩)) (hb : isBox W n 13 = true) : (results fn tmps).run Try.prog W = .ok (.agg ((boxOf W n).extract 0 13)) W := by
  have hp' : tmps[p]?.getD undef = .pointer (some ⟨n, 0, none⟩) := by simpa using hp
  have := run_loadVar_box (P := Try.prog) Try.underlying37 rfl (k := 13) (by kernel_rfl) n 0 W (by simpa using hb)
  simp only [Nat.zero_add] at this
  simp [results, h, hp', asAddr, this]
theorem pload_implLimits (v : Value) : Instr.loadAt 83 v = ldBox 83 v := rfl
theorem pstore_implLimits (v x : Value) : Instr.storeAt 83 v x = stBox 83 v x := rfl
theorem load_implLimits (n o : Nat) (W : World) (h : isBox W n (o + 4) = true) : (ldBox 83 (.pointer (some ⟨n, o, none⟩))).run Try.prog W = .ok (.agg ((boxOf W n).extract o (o + 4))) W := by
  simp only [ldBox, Instr.loadAt, Instr.sureAddr, Sem.run_bind, Sem.run_pure, Result.andThen_ok, run_loadVar_box Try.underlying83 rfl (k := 4) (by kernel_rfl) n o W h]
theorem store_implLimits (n o : Nat) (W : World) (cells : Array Value) (h : isBox W n (o + 4) = true) (hk : cells.size = 4) (h1 : cells.all (·.oneCell') = true) : (stBox 83 (.pointer (some ⟨n, o, none⟩)) (.agg cells)).run Try.prog W = .ok () (W.setCells n o cells.toList) := by
  simp only [stBox, Instr.storeAt, Instr.sureAddr, Sem.run_bind, Sem.run_pure, Result.andThen_ok, run_storeVar_box (P := Try.prog) (ty := 83) (k := 4) (by kernel_rfl) n o W cells h hk h1]
theorem res_implLimits {fn : Func} {p : Tmp} (h : fn.results = #[.cell p 83]) (tmps : Array Value) (n : Nat) (W : World) (hp : tmps.getD p undef = .pointer (some ⟨n, 0, none⟩)) (hb : isBox W n 4 = true) : (results fn tmps).run Try.prog W = .ok (.agg ((boxOf W n).extract 0 4)) W := by
  have hp' : tmps[p]?.getD undef = .pointer (some ⟨n, 0, none⟩) := by simpa using hp
  have := run_loadVar_box (P := Try.prog) Try.underlying83 rfl (k := 4) (by kernel_rfl) n 0 W (by simpa using hb)
  simp only [Nat.zero_add] at this
  simp [results, h, hp', asAddr, this]
theorem pload_lawsLimits (v : Value) : Instr.loadAt 81 v = ldBox 81 v := rfl
theorem pstore_lawsLimits (v x : Value) : Instr.storeAt 81 v x = stBox 81 v x := rfl
theorem load_lawsLimits (n o : Nat) (W : World) (h : isBox W n (o + 4) = true) : (ldBox 81 (.pointer (some ⟨n, o, none⟩))).run Try.prog W = .ok (.agg ((boxOf W n).extract o (o + 4))) W := by
  simp only [ldBox, Instr.loadAt, Instr.sureAddr, Sem.run_bind, Sem.run_pure, Result.andThen_ok, run_loadVar_box Try.underlying81 rfl (k := 4) (by kernel_rfl) n o W h]
theorem store_lawsLimits (n o : Nat) (W : World) (cells : Array Value) (h : isBox W n (o + 4) = true) (hk : cells.size = 4) (h1 : cells.all (·.oneCell') = true) : (stBox 81 (.pointer (some ⟨n, o, none⟩)) (.agg cells)).run Try.prog W = .ok () (W.setCells n o cells.toList) := by
  simp only [stBox, Instr.storeAt, Instr.sureAddr, Sem.run_bind, Sem.run_pure, Result.andThen_ok, run_storeVar_box (P := Try.prog) (ty := 81) (k := 4) (by kernel_rfl) n o W cells h hk h1]
theorem res_lawsLimits {fn : Func} {p : Tmp} (h : fn.results = #[.cell p 81]) (tmps : Array Value) (n : Nat) (W : World) (hp : tmps.getD p undef = .pointer (some ⟨n, 0, none⟩)) (hb : isBox W n 4 = true) : (results fn tmps).run Try.prog W = .ok (.agg ((boxOf W n).extract 0 4)) W := by
  have hp' : tmps[p]?.getD undef = .pointer (some ⟨n, 0, none⟩) := by simpa using hp
  have := run_loadVar_box (P := Try.prog) Try.underlying81 rfl (k := 4) (by kernel_rfl) n 0 W (by simpa using hb)
  simp only [Nat.zero_add] at this
  simp [results, h, hp', asAddr, this]
theorem pload_implTable (v : Value) : Instr.loadAt 75 v = ldBox 75 v := rfl
theorem pstore_implTable (v x : Value) : Instr.storeAt 75 v x = stBox 75 v x := rfl
theorem load_implTable (n o : Nat) (W : World) (h : isBox W n (o + 2) = true) : (ldBox 75 (.pointer (some ⟨n, o, none⟩))).run Try.prog W = .ok (.agg ((boxOf W n).extract o (o + 2))) W := by
  simp only [ldBox, Instr.loadAt, Instr.sureAddr, Sem.run_bind, Sem.run_pure, Result.andThen_ok, run_loadVar_box Try.underlying75 rfl (k := 2) (by kernel_rfl) n o W h]
theorem store_implTable (n o : Nat) (W : World) (cells : Array Value) (h : isBox W n (o + 2) = true) (hk : cells.size = 2) (h1 : cells.all (·.oneCell') = true) : (stBox 75 (.pointer (some ⟨n, o, none⟩)) (.agg cells)).run Try.prog W = .ok () (W.setCells n o cells.toList) := by
  simp only [stBox, Instr.storeAt, Instr.sureAddr, Sem.run_bind, Sem.run_pure, Result.andThen_ok, run_storeVar_box (P := Try.prog) (ty := 75) (k := 2) (by kernel_rfl) n o W cells h hk h1]
theorem res_implTable {fn : Func} {p : Tmp} (h : fn.results = #[.cell p 75]) (tmps : Array Value) (n : Nat) (W : World) (hp : tmps.getD p undef = .pointer (some ⟨n, 0, none⟩)) (hb : isBox W n 2 = true) : (results fn tmps).run Try.prog W = .ok (.agg ((boxOf W n).extract 0 2)) W := by
  have hp' : tmps[p]?.getD undef = .pointer (some ⟨n, 0, none⟩) := by simpa using hp
  have := run_loadVar_box (P := Try.prog) Try.underlying75 rfl (k := 2) (by kernel_rfl) n 0 W (by simpa using hb)
  simp only [Nat.zero_add] at this
  simp [results, h, hp', asAddr, this]
theorem pload_lawsTable (v : Value) : Instr.loadAt 69 v = ldBox 69 v := rfl
theorem pstore_lawsTable (v x : Value) : Instr.storeAt 69 v x = stBox 69 v x := rfl
theorem load_lawsTable (n o : Nat) (W : World) (h : isBox W n (o + 2) = true) : (ldBox 69 (.pointer (some ⟨n, o, none⟩))).run Try.prog W = .ok (.agg ((boxOf W n).extract o (o + 2))) W := by
  simp only [ldBox, Instr.loadAt, Instr.sureAddr, Sem.run_bind, Sem.run_pure, Result.andThen_ok, run_loadVar_box Try.underlying69 rfl (k := 2) (by kernel_rfl) n o W h]
theorem store_lawsTable (n o : Nat) (W : World) (cells : Array Value) (h : isBox W n (o + 2) = true) (hk : cells.size = 2) (h1 : cells.all (·.oneCell') = true) : (stBox 69 (.pointer (some ⟨n, o, none⟩)) (.agg cells)).run Try.prog W = .ok () (W.setCells n o cells.toList) := by
  simp only [stBox, Instr.storeAt, Instr.sureAddr, Sem.run_bind, Sem.run_pure, Result.andThen_ok, run_storeVar_box (P := Try.prog) (ty := 69) (k := 2) (by kernel_rfl) n o W cells h hk h1]
theorem res_lawsTable {fn : Func} {p : Tmp} (h : fn.results = #[.cell p 69]) (tmps : Array Value) (n : Nat) (W : World) (hp : tmps.getD p undef = .pointer (some ⟨n, 0, none⟩)) (hb : isBox W n 2 = true) : (results fn tmps).run Try.prog W = .ok (.agg ((boxOf W n).extract 0 2)) W := by
  have hp' : tmps[p]?.getD undef = .pointer (some ⟨n, 0, none⟩) := by simpa using hp
  have := run_loadVar_box (P := Try.prog) Try.underlying69 rfl (k := 2) (by kernel_rfl) n 0 W (by simpa using hb)
  simp only [Nat.zero_add] at this
  simp [results, h, hp', asAddr, this]
end Go.Proofs.Yteoipoenbofemaa
