/- Contracts (Y1). -/
import Derived.Test.YtjfamgkkenccdaaYW
import Derived.Test.YtjfamgkkenccdaaA5
import Derived.Test.YtjfamgkkenccdaaD0
namespace Go.Proofs.Ytjfamgkkenccdaa
open Go.RowKit
set_option linter.unusedVariables false
set_option linter.unusedSimpArgs false
set_option maxRecDepth 100000

theorem ysMssFor_c (c : Con) (c_r_heldV : Value) (w : World)  : Calls Try.prog 106 #[.agg (conL c c_r_heldV).toArray] w fun e w' => e = .returned (.int .i64 (mssFor c)) ∧ Below w.heap.size w w' := by
  refine x_calls (args := [.agg (conL c c_r_heldV).toArray]) (fn := Try.f106) [] Try.func106 rfl Try.ntmps106 rfl (by simp) ?_
  refine xw_seq ?_
  refine xw_region ?_
  refine xl_end [1] ⟨[(1, .p 0 0)], [⟨42, conL c c_r_heldV⟩], [], []⟩ (by kernel_rfl) ?_
  refine xw_seq ?_
  refine xw_seq ?_
  refine xw_region ?_
  refine xl_end [1, 6] ⟨[(1, .p 0 0), (6, .v (.bool (c.o.mss == 0)))], [⟨42, conL c c_r_heldV⟩], [], []⟩ (by kernel_rfl) ?_
  refine xw_cond (b := c.o.mss == 0) (by kernel_rfl) (fun h1 => ?_) (fun h1 => ?_)
  · skip
    have h1p := h1; simp only [beq_iff_eq, bne_iff_ne, beq_eq_false_iff_ne, bne_eq_false_iff_eq, ne_eq, toList_lit0] at h1p
    refine xw_seq ?_
    refine xw_region ?_
    refine xl_end [2] ⟨[(2, .v (.int .i64 536))], [⟨42, conL c c_r_heldV⟩], [], []⟩ (by kernel_rfl) ?_
    refine xw_ret ?_
    exact ⟨[.int .i64 536], by kernel_rfl, fun w' hb hf => ⟨ret_int (show (536 : Int) = mssFor c from by first | rfl | (simp [mssFor, *]; done) | (simp [mssFor, *]; omega) | grind [toList_lit0, mssFor]), hb⟩⟩
  · skip
    have h1p := h1; simp only [beq_iff_eq, bne_iff_ne, beq_eq_false_iff_ne, bne_eq_false_iff_eq, ne_eq, toList_lit0] at h1p
    refine xw_skip ?_
    refine xw_seq ?_
    refine xw_region ?_
    refine xl_call 3 [9] ⟨[(9, .v (.int .i64 c.o.mss))], [⟨42, conL c c_r_heldV⟩], [], []⟩ 119 [.int .i64 1460, .int .i64 c.o.mss] (some 10) (by kernel_rfl) rfl (by kernel_rfl) rfl (by kernel_rfl) (xc_s fun ww hf => l1Min_c 1460 c.o.mss ww ) ?_
    intro _
    refine xl_call 0 [10] ⟨[(10, .v (.int .i64 (min 1460 c.o.mss)))], [⟨42, conL c c_r_heldV⟩], [], []⟩ 115 [.int .i64 1, .int .i64 (min 1460 c.o.mss)] (some 11) (by kernel_rfl) rfl (by kernel_rfl) rfl (by kernel_rfl) (xc_s fun ww hf => l1Max_c 1 (min 1460 c.o.mss) ww ) ?_
    intro _
    refine xl_end [2] ⟨[(2, .v (.int .i64 (max 1 (min 1460 c.o.mss))))], [⟨42, conL c c_r_heldV⟩], [], []⟩ (by kernel_rfl) ?_
    refine xw_ret ?_
    exact ⟨[.int .i64 (max 1 (min 1460 c.o.mss))], by kernel_rfl, fun w' hb hf => ⟨ret_int (show (max 1 (min 1460 c.o.mss) : Int) = mssFor c from by first | rfl | (simp [mssFor, *]; done) | (simp [mssFor, *]; omega) | grind [toList_lit0, mssFor]), hb⟩⟩
theorem ysUnsent_c (c : Con) (c_r_heldV : Value) (w : World)  : Calls Try.prog 16 #[.agg (conL c c_r_heldV).toArray] w fun e w' => e = .returned (.bool (unsent c)) ∧ Below w.heap.size w w' := by
  refine x_calls (args := [.agg (conL c c_r_heldV).toArray]) (fn := Try.f16) [] Try.func16 rfl Try.ntmps16 rfl (by simp) ?_
  refine xw_seq ?_
  refine xw_region ?_
  refine xl_end [1] ⟨[(1, .p 0 0)], [⟨42, conL c c_r_heldV⟩], [], []⟩ (by kernel_rfl) ?_
  refine xw_seq ?_
  refine xw_region ?_
  refine xl_run 5 [1, 7] ⟨[(1, .p 0 0), (7, .v (.bool (!(c.s.data.toList == (⟨#[]⟩ : ByteArray).toList))))], [⟨42, conL c c_r_heldV⟩], [], []⟩ (by kernel_rfl) ?_
  refine xl_split 7 (b := !(c.s.data.toList == (⟨#[]⟩ : ByteArray).toList)) (by kernel_rfl) (fun h1 => ?_) (fun h1 => ?_)
  · skip
    refine xl_end [2] ⟨[(2, .v (.bool true))], [⟨42, conL c c_r_heldV⟩], [], []⟩ (by kernel_rfl) ?_
    refine xw_ret ?_
    exact ⟨[.bool true], by kernel_rfl, fun w' hb hf => ⟨ret_bool (show (true : Bool) = unsent c from by first | rfl | (simp [unsent, *]; done) | (simp [unsent, *]; omega) | grind [toList_lit0, unsent]), hb⟩⟩
  · skip
    refine xl_run 4 [1, 7, 11] ⟨[(1, .p 0 0), (7, .v (.bool false)), (11, .v (.bool c.s.fin))], [⟨42, conL c c_r_heldV⟩], [], []⟩ (by kernel_rfl) ?_
    refine xl_split 11 (b := c.s.fin) (by kernel_rfl) (fun h2 => ?_) (fun h2 => ?_)
    · skip
      refine xl_end [2] ⟨[(2, .v (.bool (!c.s.done)))], [⟨42, conL c c_r_heldV⟩], [], []⟩ (by kernel_rfl) ?_
      refine xw_ret ?_
      exact ⟨[.bool (!c.s.done)], by kernel_rfl, fun w' hb hf => ⟨ret_bool (show (!c.s.done : Bool) = unsent c from by first | rfl | (simp [unsent, *]; done) | (simp [unsent, *]; omega) | grind [toList_lit0, unsent]), hb⟩⟩
    · skip
      refine xl_end [2] ⟨[(2, .v (.bool false))], [⟨42, conL c c_r_heldV⟩], [], []⟩ (by kernel_rfl) ?_
      refine xw_ret ?_
      exact ⟨[.bool false], by kernel_rfl, fun w' hb hf => ⟨ret_bool (show (false : Bool) = unsent c from by first | rfl | (simp [unsent, *]; done) | (simp [unsent, *]; omega) | grind [toList_lit0, unsent]), hb⟩⟩
theorem ysReceiverOk_c (r : Rcv) (r_heldV : Value) (w : World) (hl_r_heldV : Sl w r_heldV 2 (r.held.map pceCells)) (hm : ∀ p ∈ r.held, p.text.size ≤ 1048576) (hsz : r.data.size ≤ 4611686018427387904) : Calls Try.prog 130 #[.agg (rcvL r r_heldV).toArray] w fun e w' => e = .returned (.bool (receiverOk r)) ∧ Below w.heap.size w w' := by
  have hw := windowOf_bd r
  obtain ⟨ra_r_heldV, rc_r_heldV, hv_r_heldV⟩ := hl_r_heldV.form
  rw [List.length_map] at hv_r_heldV; subst hv_r_heldV
  have hn_r_heldV := hl_r_heldV.len; rw [List.length_map] at hn_r_heldV
  refine x_calls (args := [.agg (rcvL r (.slice ra_r_heldV r.held.length rc_r_heldV)).toArray]) (fn := Try.f130) [slF (.slice ra_r_heldV r.held.length rc_r_heldV) 2 (r.held.map pceCells)] Try.func130 rfl Try.ntmps130 rfl (by simp only [List.mem_cons, List.not_mem_nil, or_false, forall_eq_or_imp, forall_eq]; exact ⟨rfl, hl_r_heldV⟩) ?_
  refine xw_seq ?_
  refine xw_region ?_
  refine xl_end [1] ⟨[(1, .p 0 0)], [⟨39, rcvL r (.slice ra_r_heldV r.held.length rc_r_heldV)⟩], [], [slF (.slice ra_r_heldV r.held.length rc_r_heldV) 2 (r.held.map pceCells)]⟩ (by kernel_rfl) ?_
  refine xw_seq ?_
  refine xw_region ?_
  refine xl_call 1 [1, 7] ⟨[(1, .p 0 0), (7, .v (.agg (rcvL r (.slice ra_r_heldV r.held.length rc_r_heldV)).toArray))], [⟨39, rcvL r (.slice ra_r_heldV r.held.length rc_r_heldV)⟩], [], [slF (.slice ra_r_heldV r.held.length rc_r_heldV) 2 (r.held.map pceCells)]⟩ 67 [.agg (rcvL r (.slice ra_r_heldV r.held.length rc_r_heldV)).toArray] (some 8) (by kernel_rfl) rfl (by kernel_rfl) rfl (by kernel_rfl) (xc_b fun ww hf => sWindowOf_c r.next r.data r.held (.slice ra_r_heldV r.held.length rc_r_heldV) r.fin r.done ww (by omega)) ?_
  intro _
  refine xl_end [1, 3] ⟨[(1, .p 0 0), (3, .v (.int .i64 (windowOf r)))], [⟨39, rcvL r (.slice ra_r_heldV r.held.length rc_r_heldV)⟩], [], [slF (.slice ra_r_heldV r.held.length rc_r_heldV) 2 (r.held.map pceCells)]⟩ (by kernel_rfl) ?_
  refine xw_seq ?_
  refine xw_seq ?_
  refine xw_region ?_
  refine xl_call 2 [1, 3, 10] ⟨[(1, .p 0 0), (3, .v (.int .i64 (windowOf r))), (10, .v (.int .i64 r.next))], [⟨39, rcvL r (.slice ra_r_heldV r.held.length rc_r_heldV)⟩], [], [slF (.slice ra_r_heldV r.held.length rc_r_heldV) 2 (r.held.map pceCells)]⟩ 84 [.int .i64 r.next, .int .i64 32] (some 11) (by kernel_rfl) rfl (by kernel_rfl) rfl (by kernel_rfl) (xc_s fun ww hf => sWordOk32_c r.next ww) ?_
  intro _
  refine xl_run 2 [1, 3, 13] ⟨[(1, .p 0 0), (3, .v (.int .i64 (windowOf r))), (13, .v (.bool (!(wordOk r.next 32))))], [⟨39, rcvL r (.slice ra_r_heldV r.held.length rc_r_heldV)⟩], [], [slF (.slice ra_r_heldV r.held.length rc_r_heldV) 2 (r.held.map pceCells)]⟩ (by kernel_rfl) ?_
  refine xl_split 13 (b := !(wordOk r.next 32)) (by kernel_rfl) (fun h1 => ?_) (fun h1 => ?_)
  · skip
    refine xl_end [1, 3, 36] ⟨[(1, .p 0 0), (3, .v (.int .i64 (windowOf r))), (36, .v (.bool true))], [⟨39, rcvL r (.slice ra_r_heldV r.held.length rc_r_heldV)⟩], [], [slF (.slice ra_r_heldV r.held.length rc_r_heldV) 2 (r.held.map pceCells)]⟩ (by kernel_rfl) ?_
    refine xw_true (by kernel_rfl) ?_
    refine xw_seq ?_
    refine xw_region ?_
    refine xl_end [2] ⟨[(2, .v (.bool false))], [⟨39, rcvL r (.slice ra_r_heldV r.held.length rc_r_heldV)⟩], [], [slF (.slice ra_r_heldV r.held.length rc_r_heldV) 2 (r.held.map pceCells)]⟩ (by kernel_rfl) ?_
    refine xw_ret ?_
    exact ⟨[.bool false], by kernel_rfl, fun w' hb hf => ⟨ret_bool (show (false : Bool) = receiverOk r from by first | rfl | (rw [HR, HK]; simp [*]; done) | (rw [HR, HK]; simp [*]; omega) | (rw [HR, HK]; grind [rcvPost]) | (simp [receiverOk, rcvPre, *]; done) | (simp [receiverOk, rcvPre, *]; omega) | grind [receiverOk, rcvPre]), hb⟩⟩
  · skip
    refine xl_run 6 [1, 3, 19] ⟨[(1, .p 0 0), (3, .v (.int .i64 (windowOf r))), (19, .v (.bool (decide ((r.data.size : Int) > 32))))], [⟨39, rcvL r (.slice ra_r_heldV r.held.length rc_r_heldV)⟩], [], [slF (.slice ra_r_heldV r.held.length rc_r_heldV) 2 (r.held.map pceCells)]⟩ (by kernel_rfl) ?_
    refine xl_split 19 (b := decide ((r.data.size : Int) > 32)) (by kernel_rfl) (fun h2 => ?_) (fun h2 => ?_)
    · skip
      have h2p : ((r.data.size : Int) > 32) := of_decide_eq_true h2
      refine xl_end [1, 3, 36] ⟨[(1, .p 0 0), (3, .v (.int .i64 (windowOf r))), (36, .v (.bool true))], [⟨39, rcvL r (.slice ra_r_heldV r.held.length rc_r_heldV)⟩], [], [slF (.slice ra_r_heldV r.held.length rc_r_heldV) 2 (r.held.map pceCells)]⟩ (by kernel_rfl) ?_
      refine xw_true (by kernel_rfl) ?_
      refine xw_seq ?_
      refine xw_region ?_
      refine xl_end [2] ⟨[(2, .v (.bool false))], [⟨39, rcvL r (.slice ra_r_heldV r.held.length rc_r_heldV)⟩], [], [slF (.slice ra_r_heldV r.held.length rc_r_heldV) 2 (r.held.map pceCells)]⟩ (by kernel_rfl) ?_
      refine xw_ret ?_
      exact ⟨[.bool false], by kernel_rfl, fun w' hb hf => ⟨ret_bool (show (false : Bool) = receiverOk r from by first | rfl | (rw [HR, HK]; simp [*]; done) | (rw [HR, HK]; simp [*]; omega) | (rw [HR, HK]; grind [rcvPost]) | (simp [receiverOk, rcvPre, *]; done) | (simp [receiverOk, rcvPre, *]; omega) | grind [receiverOk, rcvPre]), hb⟩⟩
    · skip
      have h2p : ¬ ((r.data.size : Int) > 32) := of_decide_eq_false h2
      refine xl_run 6 [1, 3, 25] ⟨[(1, .p 0 0), (3, .v (.int .i64 (windowOf r))), (25, .v (.bool (decide (((r.held.length : Nat) : Int) > 3))))], [⟨39, rcvL r (.slice ra_r_heldV r.held.length rc_r_heldV)⟩], [], [slF (.slice ra_r_heldV r.held.length rc_r_heldV) 2 (r.held.map pceCells)]⟩ (by kernel_rfl) ?_
      refine xl_split 25 (b := decide (((r.held.length : Nat) : Int) > 3)) (by kernel_rfl) (fun h3 => ?_) (fun h3 => ?_)
      · skip
        have h3p : (((r.held.length : Nat) : Int) > 3) := of_decide_eq_true h3
        refine xl_end [1, 3, 36] ⟨[(1, .p 0 0), (3, .v (.int .i64 (windowOf r))), (36, .v (.bool true))], [⟨39, rcvL r (.slice ra_r_heldV r.held.length rc_r_heldV)⟩], [], [slF (.slice ra_r_heldV r.held.length rc_r_heldV) 2 (r.held.map pceCells)]⟩ (by kernel_rfl) ?_
        refine xw_true (by kernel_rfl) ?_
        refine xw_seq ?_
        refine xw_region ?_
        refine xl_end [2] ⟨[(2, .v (.bool false))], [⟨39, rcvL r (.slice ra_r_heldV r.held.length rc_r_heldV)⟩], [], [slF (.slice ra_r_heldV r.held.length rc_r_heldV) 2 (r.held.map pceCells)]⟩ (by kernel_rfl) ?_
        refine xw_ret ?_
        exact ⟨[.bool false], by kernel_rfl, fun w' hb hf => ⟨ret_bool (show (false : Bool) = receiverOk r from by first | rfl | (rw [HR, HK]; simp [*]; done) | (rw [HR, HK]; simp [*]; omega) | (rw [HR, HK]; grind [rcvPost]) | (simp [receiverOk, rcvPre, *]; done) | (simp [receiverOk, rcvPre, *]; omega) | grind [receiverOk, rcvPre]), hb⟩⟩
      · skip
        have h3p : ¬ (((r.held.length : Nat) : Int) > 3) := of_decide_eq_false h3
        refine xl_call 3 [1, 3, 25, 27, 28] ⟨[(1, .p 0 0), (3, .v (.int .i64 (windowOf r))), (25, .v (.bool false)), (27, .v (.int .i64 r.fin)), (28, .v (.int .i64 (windowOf r)))], [⟨39, rcvL r (.slice ra_r_heldV r.held.length rc_r_heldV)⟩], [], [slF (.slice ra_r_heldV r.held.length rc_r_heldV) 2 (r.held.map pceCells)]⟩ 86 [.int .i64 r.fin, .int .i64 (-1), .int .i64 (windowOf r)] (some 29) (by kernel_rfl) rfl (by kernel_rfl) rfl (by kernel_rfl) (xc_s fun ww hf => l1In_c r.fin (-1) (windowOf r) ww ) ?_
        intro _
        refine xl_run 3 [1, 3, 32] ⟨[(1, .p 0 0), (3, .v (.int .i64 (windowOf r))), (32, .v (.bool (!(inB r.fin (-1) (windowOf r)))))], [⟨39, rcvL r (.slice ra_r_heldV r.held.length rc_r_heldV)⟩], [], [slF (.slice ra_r_heldV r.held.length rc_r_heldV) 2 (r.held.map pceCells)]⟩ (by kernel_rfl) ?_
        refine xl_split 32 (b := !(inB r.fin (-1) (windowOf r))) (by kernel_rfl) (fun h4 => ?_) (fun h4 => ?_)
        · skip
          refine xl_end [1, 3, 36] ⟨[(1, .p 0 0), (3, .v (.int .i64 (windowOf r))), (36, .v (.bool true))], [⟨39, rcvL r (.slice ra_r_heldV r.held.length rc_r_heldV)⟩], [], [slF (.slice ra_r_heldV r.held.length rc_r_heldV) 2 (r.held.map pceCells)]⟩ (by kernel_rfl) ?_
          refine xw_true (by kernel_rfl) ?_
          refine xw_seq ?_
          refine xw_region ?_
          refine xl_end [2] ⟨[(2, .v (.bool false))], [⟨39, rcvL r (.slice ra_r_heldV r.held.length rc_r_heldV)⟩], [], [slF (.slice ra_r_heldV r.held.length rc_r_heldV) 2 (r.held.map pceCells)]⟩ (by kernel_rfl) ?_
          refine xw_ret ?_
          exact ⟨[.bool false], by kernel_rfl, fun w' hb hf => ⟨ret_bool (show (false : Bool) = receiverOk r from by first | rfl | (rw [HR, HK]; simp [*]; done) | (rw [HR, HK]; simp [*]; omega) | (rw [HR, HK]; grind [rcvPost]) | (simp [receiverOk, rcvPre, *]; done) | (simp [receiverOk, rcvPre, *]; omega) | grind [receiverOk, rcvPre]), hb⟩⟩
        · skip
          refine xl_end [1, 3, 36] ⟨[(1, .p 0 0), (3, .v (.int .i64 (windowOf r))), (36, .v (.bool (r.fin == 0)))], [⟨39, rcvL r (.slice ra_r_heldV r.held.length rc_r_heldV)⟩], [], [slF (.slice ra_r_heldV r.held.length rc_r_heldV) 2 (r.held.map pceCells)]⟩ (by kernel_rfl) ?_
          refine xw_cond (b := r.fin == 0) (by kernel_rfl) (fun h5 => ?_) (fun h5 => ?_)
          · skip
            have h5p := h5; simp only [beq_iff_eq, bne_iff_ne, beq_eq_false_iff_ne, bne_eq_false_iff_eq, ne_eq, toList_lit0] at h5p
            refine xw_seq ?_
            refine xw_region ?_
            refine xl_end [2] ⟨[(2, .v (.bool false))], [⟨39, rcvL r (.slice ra_r_heldV r.held.length rc_r_heldV)⟩], [], [slF (.slice ra_r_heldV r.held.length rc_r_heldV) 2 (r.held.map pceCells)]⟩ (by kernel_rfl) ?_
            refine xw_ret ?_
            exact ⟨[.bool false], by kernel_rfl, fun w' hb hf => ⟨ret_bool (show (false : Bool) = receiverOk r from by first | rfl | (rw [HR, HK]; simp [*]; done) | (rw [HR, HK]; simp [*]; omega) | (rw [HR, HK]; grind [rcvPost]) | (simp [receiverOk, rcvPre, *]; done) | (simp [receiverOk, rcvPre, *]; omega) | grind [receiverOk, rcvPre]), hb⟩⟩
          · skip
            have h5p := h5; simp only [beq_iff_eq, bne_iff_ne, beq_eq_false_iff_ne, bne_eq_false_iff_eq, ne_eq, toList_lit0] at h5p
            refine xw_skip ?_
            refine xw_seq ?_
            refine xw_region ?_
            refine xl_end [1, 3, 4] ⟨[(1, .p 0 0), (3, .v (.int .i64 (windowOf r))), (4, .v (.int .i64 0))], [⟨39, rcvL r (.slice ra_r_heldV r.held.length rc_r_heldV)⟩], [], [slF (.slice ra_r_heldV r.held.length rc_r_heldV) 2 (r.held.map pceCells)]⟩ (by kernel_rfl) ?_
            refine xw_seq ?_
            refine xw_seq ?_
            refine xw_region ?_
            refine xl_end [1, 3, 4, 5] ⟨[(1, .p 0 0), (3, .v (.int .i64 (windowOf r))), (4, .v (.int .i64 0)), (5, .v (.int .i64 0))], [⟨39, rcvL r (.slice ra_r_heldV r.held.length rc_r_heldV)⟩], [], [slF (.slice ra_r_heldV r.held.length rc_r_heldV) 2 (r.held.map pceCells)]⟩ (by kernel_rfl) ?_
            refine xw_block ?_
            have hp : rcvPre r = true := by first | (simp [rcvPre, *]; done) | (simp [rcvPre, *]; omega) | grind [rcvPre]
            have hin := inB_tt.1 (rcvPre_iff.1 hp).2.2.2.1
            have HR := receiverOkS r hp
            refine xw_loopW (α := {x : Nat × Int // (fun (k : Nat) (z : Int) => k ≤ r.held.length ∧ 0 ≤ z ∧ z ≤ 32 ∧ heldOkS (windowOf r) r.fin 0 r.held = heldOkS (windowOf r) r.fin z (r.held.drop k)) x.1 x.2}) (fun x => (fun (k : Nat) (z : Int) => (⟨[(1, .p 0 0), (3, .v (.int .i64 (windowOf r))), (4, .v (.int .i64 z)), (5, .v (.int .i64 (k : Int)))], [⟨39, rcvL r (.slice ra_r_heldV r.held.length rc_r_heldV)⟩], [], [slF (.slice ra_r_heldV r.held.length rc_r_heldV) 2 (r.held.map pceCells)]⟩ : St)) x.1.1 x.1.2) (fun x => r.held.length - x.1.1) ⟨(0, 0), ⟨Nat.zero_le _, by omega, by omega, rfl⟩⟩ (wk_forget 1 0 [1, 3, 4, 5] (by kernel_rfl) (by kernel_rfl) (by kernel_rfl)) ?_
            rintro ⟨⟨k, z⟩, hk, hz0, hz1, HK⟩
            refine xw_wk (Wk.of_eq (s' := ⟨[(1, .p 0 0), (3, .v (.int .i64 (windowOf r))), (4, .v (.int .i64 z)), (5, .v (.int .i64 (k : Int)))], [⟨39, rcvL r (.slice ra_r_heldV r.held.length rc_r_heldV)⟩], [], [slF (.slice ra_r_heldV r.held.length rc_r_heldV) 2 (r.held.map pceCells)]⟩) rfl) ?_
            try dsimp only at hk hz0 hz1 HK
            refine xw_seq ?_
            refine xw_seq ?_
            refine xw_region ?_
            refine xl_end [1, 3, 4, 5, 41] ⟨[(1, .p 0 0), (3, .v (.int .i64 (windowOf r))), (4, .v (.int .i64 z)), (5, .v (.int .i64 (k : Int))), (41, .v (.bool (decide ((k : Int) < ((r.held.length : Nat) : Int)))))], [⟨39, rcvL r (.slice ra_r_heldV r.held.length rc_r_heldV)⟩], [], [slF (.slice ra_r_heldV r.held.length rc_r_heldV) 2 (r.held.map pceCells)]⟩ (by kernel_rfl) ?_
            refine xw_cond (b := decide ((k : Int) < ((r.held.length : Nat) : Int))) (by kernel_rfl) (fun h6 => ?_) (fun h6 => ?_)
            · skip
              have h6p : ((k : Int) < ((r.held.length : Nat) : Int)) := of_decide_eq_true h6
              have hlt : k < r.held.length := by simpa using h6
              obtain ⟨x, hx⟩ : ∃ x, r.held[k]? = some x := ⟨_, List.getElem?_eq_getElem hlt⟩
              have hxm := hm x (List.mem_of_getElem? hx)
              rw [drop_cons_of hx] at HK; simp only [heldOkS, heldOk] at HK
              refine xw_skip ?_
              refine xw_seq ?_
              refine xw_block ?_
              refine xw_seq ?_
              refine xw_region ?_
              refine xl_index (kd := .i64) (T := 37) (e := 149) (K := 2) 3 [1, 3, 4, 5, 45, 46] ⟨[(1, .p 0 0), (3, .v (.int .i64 (windowOf r))), (4, .v (.int .i64 z)), (5, .v (.int .i64 (k : Int))), (45, .v (.slice ra_r_heldV r.held.length rc_r_heldV)), (46, .v (.int .i64 (k : Int)))], [⟨39, rcvL r (.slice ra_r_heldV r.held.length rc_r_heldV)⟩], [], [slF (.slice ra_r_heldV r.held.length rc_r_heldV) 2 (r.held.map pceCells)]⟩ k [.int .i64 x.off, .string x.text] (slF (.slice ra_r_heldV r.held.length rc_r_heldV) 2 (r.held.map pceCells)) (by kernel_rfl) rfl (by kernel_rfl) rfl rfl (by kernel_rfl) (by kernel_rfl) (by kernel_rfl) (by kernel_rfl) hlt (by simp) (fun w h => h) (fun b h => h) (by simp only [List.getElem?_map, hx]; rfl) ?_
              refine xl_end [1, 3, 4, 5, 6] ⟨[(1, .p 0 0), (3, .v (.int .i64 (windowOf r))), (4, .v (.int .i64 z)), (5, .v (.int .i64 (k : Int))), (6, .p 1 0)], [⟨39, rcvL r (.slice ra_r_heldV r.held.length rc_r_heldV)⟩, ⟨149, pceL x⟩], [[.int .i64 x.off, .string x.text]], [slF (.slice ra_r_heldV r.held.length rc_r_heldV) 2 (r.held.map pceCells)]⟩ (by kernel_rfl) ?_
              refine xw_seq ?_
              refine xw_seq ?_
              refine xw_region ?_
              refine xl_run 4 [1, 3, 4, 5, 6, 52] ⟨[(1, .p 0 0), (3, .v (.int .i64 (windowOf r))), (4, .v (.int .i64 z)), (5, .v (.int .i64 (k : Int))), (6, .p 1 0), (52, .v (.bool (x.text.toList == (⟨#[]⟩ : ByteArray).toList)))], [⟨39, rcvL r (.slice ra_r_heldV r.held.length rc_r_heldV)⟩, ⟨149, pceL x⟩], [[.int .i64 x.off, .string x.text]], [slF (.slice ra_r_heldV r.held.length rc_r_heldV) 2 (r.held.map pceCells)]⟩ (by kernel_rfl) ?_
              refine xl_split 52 (b := x.text.toList == (⟨#[]⟩ : ByteArray).toList) (by kernel_rfl) (fun h7 => ?_) (fun h7 => ?_)
              · skip
                have h7p := h7; simp only [beq_iff_eq, bne_iff_ne, beq_eq_false_iff_ne, bne_eq_false_iff_eq, ne_eq, toList_lit0] at h7p
                refine xl_end [1, 3, 5, 6, 73] ⟨[(1, .p 0 0), (3, .v (.int .i64 (windowOf r))), (5, .v (.int .i64 (k : Int))), (6, .p 1 0), (73, .v (.bool true))], [⟨39, rcvL r (.slice ra_r_heldV r.held.length rc_r_heldV)⟩, ⟨149, pceL x⟩], [[.int .i64 x.off, .string x.text]], [slF (.slice ra_r_heldV r.held.length rc_r_heldV) 2 (r.held.map pceCells)]⟩ (by kernel_rfl) ?_
                refine xw_true (by kernel_rfl) ?_
                refine xw_seq ?_
                refine xw_region ?_
                refine xl_end [2] ⟨[(2, .v (.bool false))], [⟨39, rcvL r (.slice ra_r_heldV r.held.length rc_r_heldV)⟩, ⟨149, pceL x⟩], [[.int .i64 x.off, .string x.text]], [slF (.slice ra_r_heldV r.held.length rc_r_heldV) 2 (r.held.map pceCells)]⟩ (by kernel_rfl) ?_
                refine xw_ret ?_
                exact ⟨[.bool false], by kernel_rfl, fun w' hb hf => ⟨ret_bool (show (false : Bool) = receiverOk r from by first | rfl | (rw [HR, HK]; simp [*]; done) | (rw [HR, HK]; simp [*]; omega) | (rw [HR, HK]; grind [rcvPost]) | (simp [receiverOk, rcvPre, *]; done) | (simp [receiverOk, rcvPre, *]; omega) | grind [receiverOk, rcvPre]), hb⟩⟩
              · skip
                have h7p := h7; simp only [beq_iff_eq, bne_iff_ne, beq_eq_false_iff_ne, bne_eq_false_iff_eq, ne_eq, toList_lit0] at h7p
                refine xl_run 6 [1, 3, 5, 6, 53, 54, 55, 56, 58] ⟨[(1, .p 0 0), (3, .v (.int .i64 (windowOf r))), (5, .v (.int .i64 (k : Int))), (6, .p 1 0), (53, .p 1 0), (54, .v (.int .i64 x.off)), (55, .v (.int .i64 z)), (56, .v (.bool (decide (x.off ≤ z)))), (58, .v (.bool (decide (x.off ≤ z))))], [⟨39, rcvL r (.slice ra_r_heldV r.held.length rc_r_heldV)⟩, ⟨149, pceL x⟩], [[.int .i64 x.off, .string x.text]], [slF (.slice ra_r_heldV r.held.length rc_r_heldV) 2 (r.held.map pceCells)]⟩ (by kernel_rfl) ?_
                refine xl_split 58 (b := decide (x.off ≤ z)) (by kernel_rfl) (fun h8 => ?_) (fun h8 => ?_)
                · skip
                  have h8p : (x.off ≤ z) := of_decide_eq_true h8
                  refine xl_end [1, 3, 5, 6, 53, 54, 55, 56, 73] ⟨[(1, .p 0 0), (3, .v (.int .i64 (windowOf r))), (5, .v (.int .i64 (k : Int))), (6, .p 1 0), (53, .p 1 0), (54, .v (.int .i64 x.off)), (55, .v (.int .i64 z)), (56, .v (.bool (decide (x.off ≤ z)))), (73, .v (.bool true))], [⟨39, rcvL r (.slice ra_r_heldV r.held.length rc_r_heldV)⟩, ⟨149, pceL x⟩], [[.int .i64 x.off, .string x.text]], [slF (.slice ra_r_heldV r.held.length rc_r_heldV) 2 (r.held.map pceCells)]⟩ (by kernel_rfl) ?_
                  refine xw_true (by kernel_rfl) ?_
                  refine xw_seq ?_
                  refine xw_region ?_
                  refine xl_end [2] ⟨[(2, .v (.bool false))], [⟨39, rcvL r (.slice ra_r_heldV r.held.length rc_r_heldV)⟩, ⟨149, pceL x⟩], [[.int .i64 x.off, .string x.text]], [slF (.slice ra_r_heldV r.held.length rc_r_heldV) 2 (r.held.map pceCells)]⟩ (by kernel_rfl) ?_
                  refine xw_ret ?_
                  exact ⟨[.bool false], by kernel_rfl, fun w' hb hf => ⟨ret_bool (show (false : Bool) = receiverOk r from by first | rfl | (rw [HR, HK]; simp [*]; done) | (rw [HR, HK]; simp [*]; omega) | (rw [HR, HK]; grind [rcvPost]) | (simp [receiverOk, rcvPre, *]; done) | (simp [receiverOk, rcvPre, *]; omega) | grind [receiverOk, rcvPre]), hb⟩⟩
                · skip
                  have h8p : ¬ (x.off ≤ z) := of_decide_eq_false h8
                  refine xl_run 6 [1, 3, 5, 6, 53, 54, 55, 56, 59, 60, 61, 62, 64] ⟨[(1, .p 0 0), (3, .v (.int .i64 (windowOf r))), (5, .v (.int .i64 (k : Int))), (6, .p 1 0), (53, .p 1 0), (54, .v (.int .i64 x.off)), (55, .v (.int .i64 z)), (56, .v (.bool (decide (x.off ≤ z)))), (59, .p 1 0), (60, .v (.int .i64 x.off)), (61, .v (.int .i64 (windowOf r))), (62, .v (.bool (decide (x.off > (windowOf r))))), (64, .v (.bool (decide (x.off > (windowOf r)))))], [⟨39, rcvL r (.slice ra_r_heldV r.held.length rc_r_heldV)⟩, ⟨149, pceL x⟩], [[.int .i64 x.off, .string x.text]], [slF (.slice ra_r_heldV r.held.length rc_r_heldV) 2 (r.held.map pceCells)]⟩ (by kernel_rfl) ?_
                  refine xl_split 64 (b := decide (x.off > (windowOf r))) (by kernel_rfl) (fun h9 => ?_) (fun h9 => ?_)
                  · skip
                    have h9p : (x.off > (windowOf r)) := of_decide_eq_true h9
                    refine xl_end [1, 3, 5, 6, 53, 54, 55, 56, 59, 60, 61, 62, 73] ⟨[(1, .p 0 0), (3, .v (.int .i64 (windowOf r))), (5, .v (.int .i64 (k : Int))), (6, .p 1 0), (53, .p 1 0), (54, .v (.int .i64 x.off)), (55, .v (.int .i64 z)), (56, .v (.bool (decide (x.off ≤ z)))), (59, .p 1 0), (60, .v (.int .i64 x.off)), (61, .v (.int .i64 (windowOf r))), (62, .v (.bool (decide (x.off > (windowOf r))))), (73, .v (.bool true))], [⟨39, rcvL r (.slice ra_r_heldV r.held.length rc_r_heldV)⟩, ⟨149, pceL x⟩], [[.int .i64 x.off, .string x.text]], [slF (.slice ra_r_heldV r.held.length rc_r_heldV) 2 (r.held.map pceCells)]⟩ (by kernel_rfl) ?_
                    refine xw_true (by kernel_rfl) ?_
                    refine xw_seq ?_
                    refine xw_region ?_
                    refine xl_end [2] ⟨[(2, .v (.bool false))], [⟨39, rcvL r (.slice ra_r_heldV r.held.length rc_r_heldV)⟩, ⟨149, pceL x⟩], [[.int .i64 x.off, .string x.text]], [slF (.slice ra_r_heldV r.held.length rc_r_heldV) 2 (r.held.map pceCells)]⟩ (by kernel_rfl) ?_
                    refine xw_ret ?_
                    exact ⟨[.bool false], by kernel_rfl, fun w' hb hf => ⟨ret_bool (show (false : Bool) = receiverOk r from by first | rfl | (rw [HR, HK]; simp [*]; done) | (rw [HR, HK]; simp [*]; omega) | (rw [HR, HK]; grind [rcvPost]) | (simp [receiverOk, rcvPre, *]; done) | (simp [receiverOk, rcvPre, *]; omega) | grind [receiverOk, rcvPre]), hb⟩⟩
                  · skip
                    have h9p : ¬ (x.off > (windowOf r)) := of_decide_eq_false h9
                    refine xl_run 9 [1, 3, 5, 6, 53, 54, 55, 56, 59, 60, 61, 62, 65, 66, 67, 68, 69, 70, 71, 72, 73] ⟨[(1, .p 0 0), (3, .v (.int .i64 (windowOf r))), (5, .v (.int .i64 (k : Int))), (6, .p 1 0), (53, .p 1 0), (54, .v (.int .i64 x.off)), (55, .v (.int .i64 z)), (56, .v (.bool (decide (x.off ≤ z)))), (59, .p 1 0), (60, .v (.int .i64 x.off)), (61, .v (.int .i64 (windowOf r))), (62, .v (.bool (decide (x.off > (windowOf r))))), (65, .p 1 0), (66, .v (.int .i64 x.off)), (67, .p 1 1), (68, .v (.string x.text)), (69, .v (.int .i64 (x.text.size : Int))), (70, .v (.int .i64 (IntKind.i64.wrap (x.off + (x.text.size : Int))))), (71, .v (.int .i64 (windowOf r))), (72, .v (.bool (decide ((IntKind.i64.wrap (x.off + (x.text.size : Int))) > (windowOf r))))), (73, .v (.bool (decide ((IntKind.i64.wrap (x.off + (x.text.size : Int))) > (windowOf r)))))], [⟨39, rcvL r (.slice ra_r_heldV r.held.length rc_r_heldV)⟩, ⟨149, pceL x⟩], [[.int .i64 x.off, .string x.text]], [slF (.slice ra_r_heldV r.held.length rc_r_heldV) 2 (r.held.map pceCells)]⟩ (by kernel_rfl) ?_
                    refine xl_eq (st' := ⟨[(1, .p 0 0), (3, .v (.int .i64 (windowOf r))), (5, .v (.int .i64 (k : Int))), (6, .p 1 0), (53, .p 1 0), (54, .v (.int .i64 x.off)), (55, .v (.int .i64 z)), (56, .v (.bool (decide (x.off ≤ z)))), (59, .p 1 0), (60, .v (.int .i64 x.off)), (61, .v (.int .i64 (windowOf r))), (62, .v (.bool (decide (x.off > (windowOf r))))), (65, .p 1 0), (66, .v (.int .i64 x.off)), (67, .p 1 1), (68, .v (.string x.text)), (69, .v (.int .i64 (x.text.size : Int))), (70, .v (.int .i64 (x.off + (x.text.size : Int)))), (71, .v (.int .i64 (windowOf r))), (72, .v (.bool (decide ((x.off + (x.text.size : Int)) > (windowOf r))))), (73, .v (.bool (decide ((x.off + (x.text.size : Int)) > (windowOf r)))))], [⟨39, rcvL r (.slice ra_r_heldV r.held.length rc_r_heldV)⟩, ⟨149, pceL x⟩], [[.int .i64 x.off, .string x.text]], [slF (.slice ra_r_heldV r.held.length rc_r_heldV) 2 (r.held.map pceCells)]⟩) (by rw [show IntKind.i64.wrap (x.off + (x.text.size : Int)) = x.off + (x.text.size : Int) from wrap_id (by omega) (by omega)]) ?_
                    refine xl_end [1, 3, 5, 6, 53, 54, 55, 56, 59, 60, 61, 62, 65, 66, 67, 68, 69, 70, 71, 72, 73] ⟨[(1, .p 0 0), (3, .v (.int .i64 (windowOf r))), (5, .v (.int .i64 (k : Int))), (6, .p 1 0), (53, .p 1 0), (54, .v (.int .i64 x.off)), (55, .v (.int .i64 z)), (56, .v (.bool (decide (x.off ≤ z)))), (59, .p 1 0), (60, .v (.int .i64 x.off)), (61, .v (.int .i64 (windowOf r))), (62, .v (.bool (decide (x.off > (windowOf r))))), (65, .p 1 0), (66, .v (.int .i64 x.off)), (67, .p 1 1), (68, .v (.string x.text)), (69, .v (.int .i64 (x.text.size : Int))), (70, .v (.int .i64 (x.off + (x.text.size : Int)))), (71, .v (.int .i64 (windowOf r))), (72, .v (.bool (decide ((x.off + (x.text.size : Int)) > (windowOf r))))), (73, .v (.bool (decide ((x.off + (x.text.size : Int)) > (windowOf r)))))], [⟨39, rcvL r (.slice ra_r_heldV r.held.length rc_r_heldV)⟩, ⟨149, pceL x⟩], [[.int .i64 x.off, .string x.text]], [slF (.slice ra_r_heldV r.held.length rc_r_heldV) 2 (r.held.map pceCells)]⟩ (by kernel_rfl) ?_
                    refine xw_cond (b := decide ((x.off + (x.text.size : Int)) > (windowOf r))) (by kernel_rfl) (fun h10 => ?_) (fun h10 => ?_)
                    · skip
                      have h10p : ((x.off + (x.text.size : Int)) > (windowOf r)) := of_decide_eq_true h10
                      refine xw_seq ?_
                      refine xw_region ?_
                      refine xl_end [2] ⟨[(2, .v (.bool false))], [⟨39, rcvL r (.slice ra_r_heldV r.held.length rc_r_heldV)⟩, ⟨149, pceL x⟩], [[.int .i64 x.off, .string x.text]], [slF (.slice ra_r_heldV r.held.length rc_r_heldV) 2 (r.held.map pceCells)]⟩ (by kernel_rfl) ?_
                      refine xw_ret ?_
                      exact ⟨[.bool false], by kernel_rfl, fun w' hb hf => ⟨ret_bool (show (false : Bool) = receiverOk r from by first | rfl | (rw [HR, HK]; simp [*]; done) | (rw [HR, HK]; simp [*]; omega) | (rw [HR, HK]; grind [rcvPost]) | (simp [receiverOk, rcvPre, *]; done) | (simp [receiverOk, rcvPre, *]; omega) | grind [receiverOk, rcvPre]), hb⟩⟩
                    · skip
                      have h10p : ¬ ((x.off + (x.text.size : Int)) > (windowOf r)) := of_decide_eq_false h10
                      refine xw_skip ?_
                      refine xw_region ?_
                      refine xl_run 7 [1, 3, 4, 5, 53, 54, 55, 56, 59, 60, 61, 62, 65, 66, 67, 68, 69, 70, 71, 72] ⟨[(1, .p 0 0), (3, .v (.int .i64 (windowOf r))), (4, .v (.int .i64 (IntKind.i64.wrap (x.off + (x.text.size : Int))))), (5, .v (.int .i64 (k : Int))), (53, .p 1 0), (54, .v (.int .i64 x.off)), (55, .v (.int .i64 z)), (56, .v (.bool (decide (x.off ≤ z)))), (59, .p 1 0), (60, .v (.int .i64 x.off)), (61, .v (.int .i64 (windowOf r))), (62, .v (.bool (decide (x.off > (windowOf r))))), (65, .p 1 0), (66, .v (.int .i64 x.off)), (67, .p 1 1), (68, .v (.string x.text)), (69, .v (.int .i64 (x.text.size : Int))), (70, .v (.int .i64 (x.off + (x.text.size : Int)))), (71, .v (.int .i64 (windowOf r))), (72, .v (.bool (decide ((x.off + (x.text.size : Int)) > (windowOf r)))))], [⟨39, rcvL r (.slice ra_r_heldV r.held.length rc_r_heldV)⟩, ⟨149, pceL x⟩], [[.int .i64 x.off, .string x.text]], [slF (.slice ra_r_heldV r.held.length rc_r_heldV) 2 (r.held.map pceCells)]⟩ (by kernel_rfl) ?_
                      refine xl_eq (st' := ⟨[(1, .p 0 0), (3, .v (.int .i64 (windowOf r))), (4, .v (.int .i64 (x.off + (x.text.size : Int)))), (5, .v (.int .i64 (k : Int))), (53, .p 1 0), (54, .v (.int .i64 x.off)), (55, .v (.int .i64 z)), (56, .v (.bool (decide (x.off ≤ z)))), (59, .p 1 0), (60, .v (.int .i64 x.off)), (61, .v (.int .i64 (windowOf r))), (62, .v (.bool (decide (x.off > (windowOf r))))), (65, .p 1 0), (66, .v (.int .i64 x.off)), (67, .p 1 1), (68, .v (.string x.text)), (69, .v (.int .i64 (x.text.size : Int))), (70, .v (.int .i64 (x.off + (x.text.size : Int)))), (71, .v (.int .i64 (windowOf r))), (72, .v (.bool (decide ((x.off + (x.text.size : Int)) > (windowOf r)))))], [⟨39, rcvL r (.slice ra_r_heldV r.held.length rc_r_heldV)⟩, ⟨149, pceL x⟩], [[.int .i64 x.off, .string x.text]], [slF (.slice ra_r_heldV r.held.length rc_r_heldV) 2 (r.held.map pceCells)]⟩) (by rw [show IntKind.i64.wrap (x.off + (x.text.size : Int)) = x.off + (x.text.size : Int) from wrap_id (by omega) (by omega)]) ?_
                      refine xl_end [1, 3, 4, 5, 53, 54, 55, 56, 59, 60, 61, 62, 65, 66, 67, 68, 69, 70, 71, 72] ⟨[(1, .p 0 0), (3, .v (.int .i64 (windowOf r))), (4, .v (.int .i64 (x.off + (x.text.size : Int)))), (5, .v (.int .i64 (k : Int))), (53, .p 1 0), (54, .v (.int .i64 x.off)), (55, .v (.int .i64 z)), (56, .v (.bool (decide (x.off ≤ z)))), (59, .p 1 0), (60, .v (.int .i64 x.off)), (61, .v (.int .i64 (windowOf r))), (62, .v (.bool (decide (x.off > (windowOf r))))), (65, .p 1 0), (66, .v (.int .i64 x.off)), (67, .p 1 1), (68, .v (.string x.text)), (69, .v (.int .i64 (x.text.size : Int))), (70, .v (.int .i64 (x.off + (x.text.size : Int)))), (71, .v (.int .i64 (windowOf r))), (72, .v (.bool (decide ((x.off + (x.text.size : Int)) > (windowOf r)))))], [⟨39, rcvL r (.slice ra_r_heldV r.held.length rc_r_heldV)⟩, ⟨149, pceL x⟩], [[.int .i64 x.off, .string x.text]], [slF (.slice ra_r_heldV r.held.length rc_r_heldV) 2 (r.held.map pceCells)]⟩ (by kernel_rfl) ?_
                      refine xw_region ?_
                      refine xl_run 3 [1, 3, 4, 5, 53, 54, 55, 56, 59, 60, 61, 62, 65, 66, 67, 68, 69, 70, 71, 72] ⟨[(1, .p 0 0), (3, .v (.int .i64 (windowOf r))), (4, .v (.int .i64 (x.off + (x.text.size : Int)))), (5, .v (.int .i64 (IntKind.i64.wrap ((k : Int) + 1)))), (53, .p 1 0), (54, .v (.int .i64 x.off)), (55, .v (.int .i64 z)), (56, .v (.bool (decide (x.off ≤ z)))), (59, .p 1 0), (60, .v (.int .i64 x.off)), (61, .v (.int .i64 (windowOf r))), (62, .v (.bool (decide (x.off > (windowOf r))))), (65, .p 1 0), (66, .v (.int .i64 x.off)), (67, .p 1 1), (68, .v (.string x.text)), (69, .v (.int .i64 (x.text.size : Int))), (70, .v (.int .i64 (x.off + (x.text.size : Int)))), (71, .v (.int .i64 (windowOf r))), (72, .v (.bool (decide ((x.off + (x.text.size : Int)) > (windowOf r)))))], [⟨39, rcvL r (.slice ra_r_heldV r.held.length rc_r_heldV)⟩, ⟨149, pceL x⟩], [[.int .i64 x.off, .string x.text]], [slF (.slice ra_r_heldV r.held.length rc_r_heldV) 2 (r.held.map pceCells)]⟩ (by kernel_rfl) ?_
                      refine xl_eq (st' := ⟨[(1, .p 0 0), (3, .v (.int .i64 (windowOf r))), (4, .v (.int .i64 (x.off + (x.text.size : Int)))), (5, .v (.int .i64 ((k : Int) + 1))), (53, .p 1 0), (54, .v (.int .i64 x.off)), (55, .v (.int .i64 z)), (56, .v (.bool (decide (x.off ≤ z)))), (59, .p 1 0), (60, .v (.int .i64 x.off)), (61, .v (.int .i64 (windowOf r))), (62, .v (.bool (decide (x.off > (windowOf r))))), (65, .p 1 0), (66, .v (.int .i64 x.off)), (67, .p 1 1), (68, .v (.string x.text)), (69, .v (.int .i64 (x.text.size : Int))), (70, .v (.int .i64 (x.off + (x.text.size : Int)))), (71, .v (.int .i64 (windowOf r))), (72, .v (.bool (decide ((x.off + (x.text.size : Int)) > (windowOf r)))))], [⟨39, rcvL r (.slice ra_r_heldV r.held.length rc_r_heldV)⟩, ⟨149, pceL x⟩], [[.int .i64 x.off, .string x.text]], [slF (.slice ra_r_heldV r.held.length rc_r_heldV) 2 (r.held.map pceCells)]⟩) (by rw [show IntKind.i64.wrap ((k : Int) + 1) = (k : Int) + 1 from wrap_id (by omega) (by omega)]) ?_
                      refine xl_end [1, 3, 4, 5, 53, 54, 55, 56, 59, 60, 61, 62, 65, 66, 67, 68, 69, 70, 71, 72] ⟨[(1, .p 0 0), (3, .v (.int .i64 (windowOf r))), (4, .v (.int .i64 (x.off + (x.text.size : Int)))), (5, .v (.int .i64 ((k : Int) + 1))), (53, .p 1 0), (54, .v (.int .i64 x.off)), (55, .v (.int .i64 z)), (56, .v (.bool (decide (x.off ≤ z)))), (59, .p 1 0), (60, .v (.int .i64 x.off)), (61, .v (.int .i64 (windowOf r))), (62, .v (.bool (decide (x.off > (windowOf r))))), (65, .p 1 0), (66, .v (.int .i64 x.off)), (67, .p 1 1), (68, .v (.string x.text)), (69, .v (.int .i64 (x.text.size : Int))), (70, .v (.int .i64 (x.off + (x.text.size : Int)))), (71, .v (.int .i64 (windowOf r))), (72, .v (.bool (decide ((x.off + (x.text.size : Int)) > (windowOf r)))))], [⟨39, rcvL r (.slice ra_r_heldV r.held.length rc_r_heldV)⟩, ⟨149, pceL x⟩], [[.int .i64 x.off, .string x.text]], [slF (.slice ra_r_heldV r.held.length rc_r_heldV) 2 (r.held.map pceCells)]⟩ (by kernel_rfl) ?_
                      exact ⟨⟨(k + 1, x.off + (x.text.size : Int)), ⟨by omega, by omega, by omega, by rw [HK]; first | (simp [*]; done) | (simp [*]; omega) | grind⟩⟩, wk_forget 1 0 [1, 3, 4, 5] (by kernel_rfl) (by kernel_rfl) (by kernel_rfl), by show r.held.length - (k + 1) < r.held.length - k; omega⟩
            · skip
              have h6p : ¬ ((k : Int) < ((r.held.length : Nat) : Int)) := of_decide_eq_false h6
              have hge : k = r.held.length := by simp at h6; omega
              subst hge; simp only [List.drop_length, heldOkS, heldOk] at HK
              refine xw_exit ?_
              refine xw_seq ?_
              refine xw_region ?_
              refine xl_run 4 [1, 4, 83] ⟨[(1, .p 0 0), (4, .v (.int .i64 z)), (83, .v (.bool (decide (r.fin < 0))))], [⟨39, rcvL r (.slice ra_r_heldV r.held.length rc_r_heldV)⟩], [], [slF (.slice ra_r_heldV r.held.length rc_r_heldV) 2 (r.held.map pceCells)]⟩ (by kernel_rfl) ?_
              refine xl_split 83 (b := decide (r.fin < 0)) (by kernel_rfl) (fun h11 => ?_) (fun h11 => ?_)
              · skip
                have h11p : (r.fin < 0) := of_decide_eq_true h11
                refine xl_run 10 [1, 89, 93] ⟨[(1, .p 0 0), (89, .v (.bool true)), (93, .v (.bool (!r.done)))], [⟨39, rcvL r (.slice ra_r_heldV r.held.length rc_r_heldV)⟩], [], [slF (.slice ra_r_heldV r.held.length rc_r_heldV) 2 (r.held.map pceCells)]⟩ (by kernel_rfl) ?_
                refine xl_split 93 (b := !r.done) (by kernel_rfl) (fun h12 => ?_) (fun h12 => ?_)
                · skip
                  refine xl_end [2] ⟨[(2, .v (.bool true))], [⟨39, rcvL r (.slice ra_r_heldV r.held.length rc_r_heldV)⟩], [], [slF (.slice ra_r_heldV r.held.length rc_r_heldV) 2 (r.held.map pceCells)]⟩ (by kernel_rfl) ?_
                  refine xw_ret ?_
                  exact ⟨[.bool true], by kernel_rfl, fun w' hb hf => ⟨ret_bool (show (true : Bool) = receiverOk r from by first | rfl | (rw [HR, HK]; simp [*]; done) | (rw [HR, HK]; simp [*]; omega) | (rw [HR, HK]; grind [rcvPost]) | (simp [receiverOk, rcvPre, *]; done) | (simp [receiverOk, rcvPre, *]; omega) | grind [receiverOk, rcvPre]), hb⟩⟩
                · skip
                  refine xl_run 5 [1, 89, 93, 98] ⟨[(1, .p 0 0), (89, .v (.bool true)), (93, .v (.bool false)), (98, .v (.bool (((r.held.length : Nat) : Int) == 0)))], [⟨39, rcvL r (.slice ra_r_heldV r.held.length rc_r_heldV)⟩], [], [slF (.slice ra_r_heldV r.held.length rc_r_heldV) 2 (r.held.map pceCells)]⟩ (by kernel_rfl) ?_
                  refine xl_split 98 (b := ((r.held.length : Nat) : Int) == 0) (by kernel_rfl) (fun h13 => ?_) (fun h13 => ?_)
                  · skip
                    have h13p := h13; simp only [beq_iff_eq, bne_iff_ne, beq_eq_false_iff_ne, bne_eq_false_iff_eq, ne_eq, toList_lit0] at h13p
                    refine xl_end [2] ⟨[(2, .v (.bool (r.fin == (-1))))], [⟨39, rcvL r (.slice ra_r_heldV r.held.length rc_r_heldV)⟩], [], [slF (.slice ra_r_heldV r.held.length rc_r_heldV) 2 (r.held.map pceCells)]⟩ (by kernel_rfl) ?_
                    refine xw_ret ?_
                    exact ⟨[.bool (r.fin == (-1))], by kernel_rfl, fun w' hb hf => ⟨ret_bool (show (r.fin == (-1) : Bool) = receiverOk r from by first | rfl | (rw [HR, HK]; simp [*]; done) | (rw [HR, HK]; simp [*]; omega) | (rw [HR, HK]; grind [rcvPost]) | (simp [receiverOk, rcvPre, *]; done) | (simp [receiverOk, rcvPre, *]; omega) | grind [receiverOk, rcvPre]), hb⟩⟩
                  · skip
                    have h13p := h13; simp only [beq_iff_eq, bne_iff_ne, beq_eq_false_iff_ne, bne_eq_false_iff_eq, ne_eq, toList_lit0] at h13p
                    refine xl_end [2] ⟨[(2, .v (.bool false))], [⟨39, rcvL r (.slice ra_r_heldV r.held.length rc_r_heldV)⟩], [], [slF (.slice ra_r_heldV r.held.length rc_r_heldV) 2 (r.held.map pceCells)]⟩ (by kernel_rfl) ?_
                    refine xw_ret ?_
                    exact ⟨[.bool false], by kernel_rfl, fun w' hb hf => ⟨ret_bool (show (false : Bool) = receiverOk r from by first | rfl | (rw [HR, HK]; simp [*]; done) | (rw [HR, HK]; simp [*]; omega) | (rw [HR, HK]; grind [rcvPost]) | (simp [receiverOk, rcvPre, *]; done) | (simp [receiverOk, rcvPre, *]; omega) | grind [receiverOk, rcvPre]), hb⟩⟩
              · skip
                have h11p : ¬ (r.fin < 0) := of_decide_eq_false h11
                refine xl_run 6 [1, 89] ⟨[(1, .p 0 0), (89, .v (.bool (decide (z ≤ r.fin))))], [⟨39, rcvL r (.slice ra_r_heldV r.held.length rc_r_heldV)⟩], [], [slF (.slice ra_r_heldV r.held.length rc_r_heldV) 2 (r.held.map pceCells)]⟩ (by kernel_rfl) ?_
                refine xl_split 89 (b := decide (z ≤ r.fin)) (by kernel_rfl) (fun h14 => ?_) (fun h14 => ?_)
                · skip
                  have h14p : (z ≤ r.fin) := of_decide_eq_true h14
                  refine xl_run 4 [1, 89, 93] ⟨[(1, .p 0 0), (89, .v (.bool true)), (93, .v (.bool (!r.done)))], [⟨39, rcvL r (.slice ra_r_heldV r.held.length rc_r_heldV)⟩], [], [slF (.slice ra_r_heldV r.held.length rc_r_heldV) 2 (r.held.map pceCells)]⟩ (by kernel_rfl) ?_
                  refine xl_split 93 (b := !r.done) (by kernel_rfl) (fun h15 => ?_) (fun h15 => ?_)
                  · skip
                    refine xl_end [2] ⟨[(2, .v (.bool true))], [⟨39, rcvL r (.slice ra_r_heldV r.held.length rc_r_heldV)⟩], [], [slF (.slice ra_r_heldV r.held.length rc_r_heldV) 2 (r.held.map pceCells)]⟩ (by kernel_rfl) ?_
                    refine xw_ret ?_
                    exact ⟨[.bool true], by kernel_rfl, fun w' hb hf => ⟨ret_bool (show (true : Bool) = receiverOk r from by first | rfl | (rw [HR, HK]; simp [*]; done) | (rw [HR, HK]; simp [*]; omega) | (rw [HR, HK]; grind [rcvPost]) | (simp [receiverOk, rcvPre, *]; done) | (simp [receiverOk, rcvPre, *]; omega) | grind [receiverOk, rcvPre]), hb⟩⟩
                  · skip
                    refine xl_run 5 [1, 89, 93, 98] ⟨[(1, .p 0 0), (89, .v (.bool true)), (93, .v (.bool false)), (98, .v (.bool (((r.held.length : Nat) : Int) == 0)))], [⟨39, rcvL r (.slice ra_r_heldV r.held.length rc_r_heldV)⟩], [], [slF (.slice ra_r_heldV r.held.length rc_r_heldV) 2 (r.held.map pceCells)]⟩ (by kernel_rfl) ?_
                    refine xl_split 98 (b := ((r.held.length : Nat) : Int) == 0) (by kernel_rfl) (fun h16 => ?_) (fun h16 => ?_)
                    · skip
                      have h16p := h16; simp only [beq_iff_eq, bne_iff_ne, beq_eq_false_iff_ne, bne_eq_false_iff_eq, ne_eq, toList_lit0] at h16p
                      refine xl_end [2] ⟨[(2, .v (.bool (r.fin == (-1))))], [⟨39, rcvL r (.slice ra_r_heldV r.held.length rc_r_heldV)⟩], [], [slF (.slice ra_r_heldV r.held.length rc_r_heldV) 2 (r.held.map pceCells)]⟩ (by kernel_rfl) ?_
                      refine xw_ret ?_
                      exact ⟨[.bool (r.fin == (-1))], by kernel_rfl, fun w' hb hf => ⟨ret_bool (show (r.fin == (-1) : Bool) = receiverOk r from by first | rfl | (rw [HR, HK]; simp [*]; done) | (rw [HR, HK]; simp [*]; omega) | (rw [HR, HK]; grind [rcvPost]) | (simp [receiverOk, rcvPre, *]; done) | (simp [receiverOk, rcvPre, *]; omega) | grind [receiverOk, rcvPre]), hb⟩⟩
                    · skip
                      have h16p := h16; simp only [beq_iff_eq, bne_iff_ne, beq_eq_false_iff_ne, bne_eq_false_iff_eq, ne_eq, toList_lit0] at h16p
                      refine xl_end [2] ⟨[(2, .v (.bool false))], [⟨39, rcvL r (.slice ra_r_heldV r.held.length rc_r_heldV)⟩], [], [slF (.slice ra_r_heldV r.held.length rc_r_heldV) 2 (r.held.map pceCells)]⟩ (by kernel_rfl) ?_
                      refine xw_ret ?_
                      exact ⟨[.bool false], by kernel_rfl, fun w' hb hf => ⟨ret_bool (show (false : Bool) = receiverOk r from by first | rfl | (rw [HR, HK]; simp [*]; done) | (rw [HR, HK]; simp [*]; omega) | (rw [HR, HK]; grind [rcvPost]) | (simp [receiverOk, rcvPre, *]; done) | (simp [receiverOk, rcvPre, *]; omega) | grind [receiverOk, rcvPre]), hb⟩⟩
                · skip
                  have h14p : ¬ (z ≤ r.fin) := of_decide_eq_false h14
                  refine xl_end [2] ⟨[(2, .v (.bool false))], [⟨39, rcvL r (.slice ra_r_heldV r.held.length rc_r_heldV)⟩], [], [slF (.slice ra_r_heldV r.held.length rc_r_heldV) 2 (r.held.map pceCells)]⟩ (by kernel_rfl) ?_
                  refine xw_ret ?_
                  exact ⟨[.bool false], by kernel_rfl, fun w' hb hf => ⟨ret_bool (show (false : Bool) = receiverOk r from by first | rfl | (rw [HR, HK]; simp [*]; done) | (rw [HR, HK]; simp [*]; omega) | (rw [HR, HK]; grind [rcvPost]) | (simp [receiverOk, rcvPre, *]; done) | (simp [receiverOk, rcvPre, *]; omega) | grind [receiverOk, rcvPre]), hb⟩⟩
theorem yiMssFor_c (c : Con) (c_r_heldV : Value) (w : World)  : Calls Try.prog 109 #[.agg (conL c c_r_heldV).toArray] w fun e w' => e = .returned (.int .i64 (mssFor c)) ∧ Below w.heap.size w w' := by
  refine x_calls (args := [.agg (conL c c_r_heldV).toArray]) (fn := Try.f109) [] Try.func109 rfl Try.ntmps109 rfl (by simp) ?_
  refine xw_seq ?_
  refine xw_region ?_
  refine xl_end [1] ⟨[(1, .p 0 0)], [⟨42, conL c c_r_heldV⟩], [], []⟩ (by kernel_rfl) ?_
  refine xw_seq ?_
  refine xw_seq ?_
  refine xw_region ?_
  refine xl_end [1, 6] ⟨[(1, .p 0 0), (6, .v (.bool (c.o.mss == 0)))], [⟨42, conL c c_r_heldV⟩], [], []⟩ (by kernel_rfl) ?_
  refine xw_cond (b := c.o.mss == 0) (by kernel_rfl) (fun h1 => ?_) (fun h1 => ?_)
  · skip
    have h1p := h1; simp only [beq_iff_eq, bne_iff_ne, beq_eq_false_iff_ne, bne_eq_false_iff_eq, ne_eq, toList_lit0] at h1p
    refine xw_seq ?_
    refine xw_region ?_
    refine xl_end [2] ⟨[(2, .v (.int .i64 536))], [⟨42, conL c c_r_heldV⟩], [], []⟩ (by kernel_rfl) ?_
    refine xw_ret ?_
    exact ⟨[.int .i64 536], by kernel_rfl, fun w' hb hf => ⟨ret_int (show (536 : Int) = mssFor c from by first | rfl | (simp [mssFor, *]; done) | (simp [mssFor, *]; omega) | grind [toList_lit0, mssFor]), hb⟩⟩
  · skip
    have h1p := h1; simp only [beq_iff_eq, bne_iff_ne, beq_eq_false_iff_ne, bne_eq_false_iff_eq, ne_eq, toList_lit0] at h1p
    refine xw_skip ?_
    refine xw_seq ?_
    refine xw_region ?_
    refine xl_end [2] ⟨[(2, .v (.int .i64 (if 1 < (if 1460 < c.o.mss then 1460 else c.o.mss) then if 1460 < c.o.mss then 1460 else c.o.mss else 1)))], [⟨42, conL c c_r_heldV⟩], [], []⟩ (by kernel_rfl) ?_
    refine xw_ret ?_
    exact ⟨[.int .i64 (if 1 < (if 1460 < c.o.mss then 1460 else c.o.mss) then if 1460 < c.o.mss then 1460 else c.o.mss else 1)], by kernel_rfl, fun w' hb hf => ⟨ret_int (show (if 1 < (if 1460 < c.o.mss then 1460 else c.o.mss) then if 1460 < c.o.mss then 1460 else c.o.mss else 1 : Int) = mssFor c from by first | rfl | (simp [mssFor, *]; done) | (simp [mssFor, *]; omega) | grind [toList_lit0, mssFor]), hb⟩⟩
theorem yiUnsent_c (c : Con) (c_r_heldV : Value) (w : World)  : Calls Try.prog 18 #[.agg (conL c c_r_heldV).toArray] w fun e w' => e = .returned (.bool (unsent c)) ∧ Below w.heap.size w w' := by
  refine x_calls (args := [.agg (conL c c_r_heldV).toArray]) (fn := Try.f18) [] Try.func18 rfl Try.ntmps18 rfl (by simp) ?_
  refine xw_seq ?_
  refine xw_region ?_
  refine xl_end [1] ⟨[(1, .p 0 0)], [⟨42, conL c c_r_heldV⟩], [], []⟩ (by kernel_rfl) ?_
  refine xw_seq ?_
  refine xw_region ?_
  refine xl_run 5 [1, 7] ⟨[(1, .p 0 0), (7, .v (.bool (!(c.s.data.toList == (⟨#[]⟩ : ByteArray).toList))))], [⟨42, conL c c_r_heldV⟩], [], []⟩ (by kernel_rfl) ?_
  refine xl_split 7 (b := !(c.s.data.toList == (⟨#[]⟩ : ByteArray).toList)) (by kernel_rfl) (fun h1 => ?_) (fun h1 => ?_)
  · skip
    refine xl_end [2] ⟨[(2, .v (.bool true))], [⟨42, conL c c_r_heldV⟩], [], []⟩ (by kernel_rfl) ?_
    refine xw_ret ?_
    exact ⟨[.bool true], by kernel_rfl, fun w' hb hf => ⟨ret_bool (show (true : Bool) = unsent c from by first | rfl | (simp [unsent, *]; done) | (simp [unsent, *]; omega) | grind [toList_lit0, unsent]), hb⟩⟩
  · skip
    refine xl_run 4 [1, 7, 11] ⟨[(1, .p 0 0), (7, .v (.bool false)), (11, .v (.bool c.s.fin))], [⟨42, conL c c_r_heldV⟩], [], []⟩ (by kernel_rfl) ?_
    refine xl_split 11 (b := c.s.fin) (by kernel_rfl) (fun h2 => ?_) (fun h2 => ?_)
    · skip
      refine xl_end [2] ⟨[(2, .v (.bool (!c.s.done)))], [⟨42, conL c c_r_heldV⟩], [], []⟩ (by kernel_rfl) ?_
      refine xw_ret ?_
      exact ⟨[.bool (!c.s.done)], by kernel_rfl, fun w' hb hf => ⟨ret_bool (show (!c.s.done : Bool) = unsent c from by first | rfl | (simp [unsent, *]; done) | (simp [unsent, *]; omega) | grind [toList_lit0, unsent]), hb⟩⟩
    · skip
      refine xl_end [2] ⟨[(2, .v (.bool false))], [⟨42, conL c c_r_heldV⟩], [], []⟩ (by kernel_rfl) ?_
      refine xw_ret ?_
      exact ⟨[.bool false], by kernel_rfl, fun w' hb hf => ⟨ret_bool (show (false : Bool) = unsent c from by first | rfl | (simp [unsent, *]; done) | (simp [unsent, *]; omega) | grind [toList_lit0, unsent]), hb⟩⟩
theorem yiReceiverOk_c (r : Rcv) (r_heldV : Value) (w : World) (hl_r_heldV : Sl w r_heldV 2 (r.held.map pceCells)) (hm : ∀ p ∈ r.held, p.text.size ≤ 1048576) (hsz : r.data.size ≤ 4611686018427387904) : Calls Try.prog 136 #[.agg (rcvL r r_heldV).toArray] w fun e w' => e = .returned (.bool (receiverOk r)) ∧ Below w.heap.size w w' := by
  have hw := windowOf_bd r
  obtain ⟨ra_r_heldV, rc_r_heldV, hv_r_heldV⟩ := hl_r_heldV.form
  rw [List.length_map] at hv_r_heldV; subst hv_r_heldV
  have hn_r_heldV := hl_r_heldV.len; rw [List.length_map] at hn_r_heldV
  refine x_calls (args := [.agg (rcvL r (.slice ra_r_heldV r.held.length rc_r_heldV)).toArray]) (fn := Try.f136) [slF (.slice ra_r_heldV r.held.length rc_r_heldV) 2 (r.held.map pceCells)] Try.func136 rfl Try.ntmps136 rfl (by simp only [List.mem_cons, List.not_mem_nil, or_false, forall_eq_or_imp, forall_eq]; exact ⟨rfl, hl_r_heldV⟩) ?_
  refine xw_seq ?_
  refine xw_region ?_
  refine xl_end [1] ⟨[(1, .p 0 0)], [⟨39, rcvL r (.slice ra_r_heldV r.held.length rc_r_heldV)⟩], [], [slF (.slice ra_r_heldV r.held.length rc_r_heldV) 2 (r.held.map pceCells)]⟩ (by kernel_rfl) ?_
  refine xw_seq ?_
  refine xw_region ?_
  refine xl_call 1 [1, 8] ⟨[(1, .p 0 0), (8, .v (.agg (rcvL r (.slice ra_r_heldV r.held.length rc_r_heldV)).toArray))], [⟨39, rcvL r (.slice ra_r_heldV r.held.length rc_r_heldV)⟩], [], [slF (.slice ra_r_heldV r.held.length rc_r_heldV) 2 (r.held.map pceCells)]⟩ 74 [.agg (rcvL r (.slice ra_r_heldV r.held.length rc_r_heldV)).toArray] (some 9) (by kernel_rfl) rfl (by kernel_rfl) rfl (by kernel_rfl) (xc_b fun ww hf => iWindowOf_c r.next r.data r.held (.slice ra_r_heldV r.held.length rc_r_heldV) r.fin r.done ww (by omega)) ?_
  intro _
  refine xl_end [1, 3] ⟨[(1, .p 0 0), (3, .v (.int .i64 (windowOf r)))], [⟨39, rcvL r (.slice ra_r_heldV r.held.length rc_r_heldV)⟩], [], [slF (.slice ra_r_heldV r.held.length rc_r_heldV) 2 (r.held.map pceCells)]⟩ (by kernel_rfl) ?_
  refine xw_seq ?_
  refine xw_seq ?_
  refine xw_region ?_
  refine xl_call 2 [1, 3, 11] ⟨[(1, .p 0 0), (3, .v (.int .i64 (windowOf r))), (11, .v (.int .i64 r.next))], [⟨39, rcvL r (.slice ra_r_heldV r.held.length rc_r_heldV)⟩], [], [slF (.slice ra_r_heldV r.held.length rc_r_heldV) 2 (r.held.map pceCells)]⟩ 90 [.int .i64 r.next, .int .i64 32] (some 12) (by kernel_rfl) rfl (by kernel_rfl) rfl (by kernel_rfl) (xc_s fun ww hf => iWordOk32_c r.next ww) ?_
  intro _
  refine xl_run 2 [1, 3, 14] ⟨[(1, .p 0 0), (3, .v (.int .i64 (windowOf r))), (14, .v (.bool (!(wordOk r.next 32))))], [⟨39, rcvL r (.slice ra_r_heldV r.held.length rc_r_heldV)⟩], [], [slF (.slice ra_r_heldV r.held.length rc_r_heldV) 2 (r.held.map pceCells)]⟩ (by kernel_rfl) ?_
  refine xl_split 14 (b := !(wordOk r.next 32)) (by kernel_rfl) (fun h1 => ?_) (fun h1 => ?_)
  · skip
    refine xl_end [1, 3, 37] ⟨[(1, .p 0 0), (3, .v (.int .i64 (windowOf r))), (37, .v (.bool true))], [⟨39, rcvL r (.slice ra_r_heldV r.held.length rc_r_heldV)⟩], [], [slF (.slice ra_r_heldV r.held.length rc_r_heldV) 2 (r.held.map pceCells)]⟩ (by kernel_rfl) ?_
    refine xw_true (by kernel_rfl) ?_
    refine xw_seq ?_
    refine xw_region ?_
    refine xl_end [2] ⟨[(2, .v (.bool false))], [⟨39, rcvL r (.slice ra_r_heldV r.held.length rc_r_heldV)⟩], [], [slF (.slice ra_r_heldV r.held.length rc_r_heldV) 2 (r.held.map pceCells)]⟩ (by kernel_rfl) ?_
    refine xw_ret ?_
    exact ⟨[.bool false], by kernel_rfl, fun w' hb hf => ⟨ret_bool (show (false : Bool) = receiverOk r from by first | rfl | (rw [HR, HK]; simp [*]; done) | (rw [HR, HK]; simp [*]; omega) | (rw [HR, HK]; grind [rcvPost]) | (simp [receiverOk, rcvPre, *]; done) | (simp [receiverOk, rcvPre, *]; omega) | grind [receiverOk, rcvPre]), hb⟩⟩
  · skip
    refine xl_run 6 [1, 3, 20] ⟨[(1, .p 0 0), (3, .v (.int .i64 (windowOf r))), (20, .v (.bool (decide ((r.data.size : Int) > 32))))], [⟨39, rcvL r (.slice ra_r_heldV r.held.length rc_r_heldV)⟩], [], [slF (.slice ra_r_heldV r.held.length rc_r_heldV) 2 (r.held.map pceCells)]⟩ (by kernel_rfl) ?_
    refine xl_split 20 (b := decide ((r.data.size : Int) > 32)) (by kernel_rfl) (fun h2 => ?_) (fun h2 => ?_)
    · skip
      have h2p : ((r.data.size : Int) > 32) := of_decide_eq_true h2
      refine xl_end [1, 3, 37] ⟨[(1, .p 0 0), (3, .v (.int .i64 (windowOf r))), (37, .v (.bool true))], [⟨39, rcvL r (.slice ra_r_heldV r.held.length rc_r_heldV)⟩], [], [slF (.slice ra_r_heldV r.held.length rc_r_heldV) 2 (r.held.map pceCells)]⟩ (by kernel_rfl) ?_
      refine xw_true (by kernel_rfl) ?_
      refine xw_seq ?_
      refine xw_region ?_
      refine xl_end [2] ⟨[(2, .v (.bool false))], [⟨39, rcvL r (.slice ra_r_heldV r.held.length rc_r_heldV)⟩], [], [slF (.slice ra_r_heldV r.held.length rc_r_heldV) 2 (r.held.map pceCells)]⟩ (by kernel_rfl) ?_
      refine xw_ret ?_
      exact ⟨[.bool false], by kernel_rfl, fun w' hb hf => ⟨ret_bool (show (false : Bool) = receiverOk r from by first | rfl | (rw [HR, HK]; simp [*]; done) | (rw [HR, HK]; simp [*]; omega) | (rw [HR, HK]; grind [rcvPost]) | (simp [receiverOk, rcvPre, *]; done) | (simp [receiverOk, rcvPre, *]; omega) | grind [receiverOk, rcvPre]), hb⟩⟩
    · skip
      have h2p : ¬ ((r.data.size : Int) > 32) := of_decide_eq_false h2
      refine xl_run 6 [1, 3, 26] ⟨[(1, .p 0 0), (3, .v (.int .i64 (windowOf r))), (26, .v (.bool (decide (((r.held.length : Nat) : Int) > 3))))], [⟨39, rcvL r (.slice ra_r_heldV r.held.length rc_r_heldV)⟩], [], [slF (.slice ra_r_heldV r.held.length rc_r_heldV) 2 (r.held.map pceCells)]⟩ (by kernel_rfl) ?_
      refine xl_split 26 (b := decide (((r.held.length : Nat) : Int) > 3)) (by kernel_rfl) (fun h3 => ?_) (fun h3 => ?_)
      · skip
        have h3p : (((r.held.length : Nat) : Int) > 3) := of_decide_eq_true h3
        refine xl_end [1, 3, 37] ⟨[(1, .p 0 0), (3, .v (.int .i64 (windowOf r))), (37, .v (.bool true))], [⟨39, rcvL r (.slice ra_r_heldV r.held.length rc_r_heldV)⟩], [], [slF (.slice ra_r_heldV r.held.length rc_r_heldV) 2 (r.held.map pceCells)]⟩ (by kernel_rfl) ?_
        refine xw_true (by kernel_rfl) ?_
        refine xw_seq ?_
        refine xw_region ?_
        refine xl_end [2] ⟨[(2, .v (.bool false))], [⟨39, rcvL r (.slice ra_r_heldV r.held.length rc_r_heldV)⟩], [], [slF (.slice ra_r_heldV r.held.length rc_r_heldV) 2 (r.held.map pceCells)]⟩ (by kernel_rfl) ?_
        refine xw_ret ?_
        exact ⟨[.bool false], by kernel_rfl, fun w' hb hf => ⟨ret_bool (show (false : Bool) = receiverOk r from by first | rfl | (rw [HR, HK]; simp [*]; done) | (rw [HR, HK]; simp [*]; omega) | (rw [HR, HK]; grind [rcvPost]) | (simp [receiverOk, rcvPre, *]; done) | (simp [receiverOk, rcvPre, *]; omega) | grind [receiverOk, rcvPre]), hb⟩⟩
      · skip
        have h3p : ¬ (((r.held.length : Nat) : Int) > 3) := of_decide_eq_false h3
        refine xl_call 3 [1, 3, 26, 28, 29] ⟨[(1, .p 0 0), (3, .v (.int .i64 (windowOf r))), (26, .v (.bool false)), (28, .v (.int .i64 r.fin)), (29, .v (.int .i64 (windowOf r)))], [⟨39, rcvL r (.slice ra_r_heldV r.held.length rc_r_heldV)⟩], [], [slF (.slice ra_r_heldV r.held.length rc_r_heldV) 2 (r.held.map pceCells)]⟩ 92 [.int .i64 r.fin, .int .i64 (-1), .int .i64 (windowOf r)] (some 30) (by kernel_rfl) rfl (by kernel_rfl) rfl (by kernel_rfl) (xc_s fun ww hf => within_c r.fin (-1) (windowOf r) ww ) ?_
        intro _
        refine xl_run 3 [1, 3, 33] ⟨[(1, .p 0 0), (3, .v (.int .i64 (windowOf r))), (33, .v (.bool (!(inB r.fin (-1) (windowOf r)))))], [⟨39, rcvL r (.slice ra_r_heldV r.held.length rc_r_heldV)⟩], [], [slF (.slice ra_r_heldV r.held.length rc_r_heldV) 2 (r.held.map pceCells)]⟩ (by kernel_rfl) ?_
        refine xl_split 33 (b := !(inB r.fin (-1) (windowOf r))) (by kernel_rfl) (fun h4 => ?_) (fun h4 => ?_)
        · skip
          refine xl_end [1, 3, 37] ⟨[(1, .p 0 0), (3, .v (.int .i64 (windowOf r))), (37, .v (.bool true))], [⟨39, rcvL r (.slice ra_r_heldV r.held.length rc_r_heldV)⟩], [], [slF (.slice ra_r_heldV r.held.length rc_r_heldV) 2 (r.held.map pceCells)]⟩ (by kernel_rfl) ?_
          refine xw_true (by kernel_rfl) ?_
          refine xw_seq ?_
          refine xw_region ?_
          refine xl_end [2] ⟨[(2, .v (.bool false))], [⟨39, rcvL r (.slice ra_r_heldV r.held.length rc_r_heldV)⟩], [], [slF (.slice ra_r_heldV r.held.length rc_r_heldV) 2 (r.held.map pceCells)]⟩ (by kernel_rfl) ?_
          refine xw_ret ?_
          exact ⟨[.bool false], by kernel_rfl, fun w' hb hf => ⟨ret_bool (show (false : Bool) = receiverOk r from by first | rfl | (rw [HR, HK]; simp [*]; done) | (rw [HR, HK]; simp [*]; omega) | (rw [HR, HK]; grind [rcvPost]) | (simp [receiverOk, rcvPre, *]; done) | (simp [receiverOk, rcvPre, *]; omega) | grind [receiverOk, rcvPre]), hb⟩⟩
        · skip
          refine xl_end [1, 3, 37] ⟨[(1, .p 0 0), (3, .v (.int .i64 (windowOf r))), (37, .v (.bool (r.fin == 0)))], [⟨39, rcvL r (.slice ra_r_heldV r.held.length rc_r_heldV)⟩], [], [slF (.slice ra_r_heldV r.held.length rc_r_heldV) 2 (r.held.map pceCells)]⟩ (by kernel_rfl) ?_
          refine xw_cond (b := r.fin == 0) (by kernel_rfl) (fun h5 => ?_) (fun h5 => ?_)
          · skip
            have h5p := h5; simp only [beq_iff_eq, bne_iff_ne, beq_eq_false_iff_ne, bne_eq_false_iff_eq, ne_eq, toList_lit0] at h5p
            refine xw_seq ?_
            refine xw_region ?_
            refine xl_end [2] ⟨[(2, .v (.bool false))], [⟨39, rcvL r (.slice ra_r_heldV r.held.length rc_r_heldV)⟩], [], [slF (.slice ra_r_heldV r.held.length rc_r_heldV) 2 (r.held.map pceCells)]⟩ (by kernel_rfl) ?_
            refine xw_ret ?_
            exact ⟨[.bool false], by kernel_rfl, fun w' hb hf => ⟨ret_bool (show (false : Bool) = receiverOk r from by first | rfl | (rw [HR, HK]; simp [*]; done) | (rw [HR, HK]; simp [*]; omega) | (rw [HR, HK]; grind [rcvPost]) | (simp [receiverOk, rcvPre, *]; done) | (simp [receiverOk, rcvPre, *]; omega) | grind [receiverOk, rcvPre]), hb⟩⟩
          · skip
            have h5p := h5; simp only [beq_iff_eq, bne_iff_ne, beq_eq_false_iff_ne, bne_eq_false_iff_eq, ne_eq, toList_lit0] at h5p
            refine xw_skip ?_
            refine xw_seq ?_
            refine xw_region ?_
            refine xl_end [1, 4] ⟨[(1, .p 0 0), (4, .v (.int .i64 (windowOf r)))], [⟨39, rcvL r (.slice ra_r_heldV r.held.length rc_r_heldV)⟩], [], [slF (.slice ra_r_heldV r.held.length rc_r_heldV) 2 (r.held.map pceCells)]⟩ (by kernel_rfl) ?_
            refine xw_seq ?_
            refine xw_seq ?_
            refine xw_region ?_
            refine xl_end [1, 4, 41] ⟨[(1, .p 0 0), (4, .v (.int .i64 (windowOf r))), (41, .v (.bool (r.fin != (-1))))], [⟨39, rcvL r (.slice ra_r_heldV r.held.length rc_r_heldV)⟩], [], [slF (.slice ra_r_heldV r.held.length rc_r_heldV) 2 (r.held.map pceCells)]⟩ (by kernel_rfl) ?_
            refine xw_cond (b := r.fin != (-1)) (by kernel_rfl) (fun h6 => ?_) (fun h6 => ?_)
            · skip
              have h6p := h6; simp only [beq_iff_eq, bne_iff_ne, beq_eq_false_iff_ne, bne_eq_false_iff_eq, ne_eq, toList_lit0] at h6p
              refine xw_region ?_
              refine xl_end [1, 4] ⟨[(1, .p 0 0), (4, .v (.int .i64 r.fin))], [⟨39, rcvL r (.slice ra_r_heldV r.held.length rc_r_heldV)⟩], [], [slF (.slice ra_r_heldV r.held.length rc_r_heldV) 2 (r.held.map pceCells)]⟩ (by kernel_rfl) ?_
              refine xw_seq ?_
              refine xw_region ?_
              refine xl_end [1, 4, 5] ⟨[(1, .p 0 0), (4, .v (.int .i64 r.fin)), (5, .v (.int .i64 0))], [⟨39, rcvL r (.slice ra_r_heldV r.held.length rc_r_heldV)⟩], [], [slF (.slice ra_r_heldV r.held.length rc_r_heldV) 2 (r.held.map pceCells)]⟩ (by kernel_rfl) ?_
              refine xw_seq ?_
              refine xw_seq ?_
              refine xw_region ?_
              refine xl_end [1, 4, 5, 45, 46, 47] ⟨[(1, .p 0 0), (4, .v (.int .i64 r.fin)), (5, .v (.int .i64 0)), (45, .v (.slice ra_r_heldV r.held.length rc_r_heldV)), (46, .v (.int .i64 ((r.held.length : Nat) : Int))), (47, .v (.int .i64 0))], [⟨39, rcvL r (.slice ra_r_heldV r.held.length rc_r_heldV)⟩], [], [slF (.slice ra_r_heldV r.held.length rc_r_heldV) 2 (r.held.map pceCells)]⟩ (by kernel_rfl) ?_
              refine xw_block ?_
              have hp : rcvPre r = true := by first | (simp [rcvPre, *]; done) | (simp [rcvPre, *]; omega) | grind [rcvPre]
              have hin := inB_tt.1 (rcvPre_iff.1 hp).2.2.2.1
              have HR : receiverOk r = (heldOk (if r.fin = -1 then windowOf r else r.fin) 0 r.held && rcvPost r) := by unfold receiverOk; rw [hp]; rfl
              refine xw_loopW (α := {x : Nat × Int // (fun (k : Nat) (z : Int) => k ≤ r.held.length ∧ 0 ≤ z ∧ z ≤ 32 ∧ heldOk (if r.fin = -1 then windowOf r else r.fin) 0 r.held = heldOk (if r.fin = -1 then windowOf r else r.fin) z (r.held.drop k)) x.1 x.2}) (fun x => (fun (k : Nat) (z : Int) => (⟨[(1, .p 0 0), (4, .v (.int .i64 r.fin)), (5, .v (.int .i64 z)), (45, .v (.slice ra_r_heldV r.held.length rc_r_heldV)), (46, .v (.int .i64 ((r.held.length : Nat) : Int))), (47, .v (.int .i64 (k : Int)))], [⟨39, rcvL r (.slice ra_r_heldV r.held.length rc_r_heldV)⟩], [], [slF (.slice ra_r_heldV r.held.length rc_r_heldV) 2 (r.held.map pceCells)]⟩ : St)) x.1.1 x.1.2) (fun x => r.held.length - x.1.1) ⟨(0, 0), ⟨Nat.zero_le _, by omega, by omega, rfl⟩⟩ (wk_forget 1 0 [1, 4, 5, 45, 46, 47] (by kernel_rfl) (by kernel_rfl) (by kernel_rfl)) ?_
              rintro ⟨⟨k, z⟩, hk, hz0, hz1, HK⟩
              refine xw_wk (Wk.of_eq (s' := ⟨[(1, .p 0 0), (4, .v (.int .i64 r.fin)), (5, .v (.int .i64 z)), (45, .v (.slice ra_r_heldV r.held.length rc_r_heldV)), (46, .v (.int .i64 ((r.held.length : Nat) : Int))), (47, .v (.int .i64 (k : Int)))], [⟨39, rcvL r (.slice ra_r_heldV r.held.length rc_r_heldV)⟩], [], [slF (.slice ra_r_heldV r.held.length rc_r_heldV) 2 (r.held.map pceCells)]⟩) rfl) ?_
              try dsimp only at hk hz0 hz1 HK
              refine xw_seq ?_
              refine xw_region ?_
              refine xl_end [1, 4, 5, 45, 46, 47, 48] ⟨[(1, .p 0 0), (4, .v (.int .i64 r.fin)), (5, .v (.int .i64 z)), (45, .v (.slice ra_r_heldV r.held.length rc_r_heldV)), (46, .v (.int .i64 ((r.held.length : Nat) : Int))), (47, .v (.int .i64 (k : Int))), (48, .v (.bool (decide ((k : Int) < ((r.held.length : Nat) : Int)))))], [⟨39, rcvL r (.slice ra_r_heldV r.held.length rc_r_heldV)⟩], [], [slF (.slice ra_r_heldV r.held.length rc_r_heldV) 2 (r.held.map pceCells)]⟩ (by kernel_rfl) ?_
              refine xw_seq ?_
              refine xw_cond (b := decide ((k : Int) < ((r.held.length : Nat) : Int))) (by kernel_rfl) (fun h7 => ?_) (fun h7 => ?_)
              · skip
                have h7p : ((k : Int) < ((r.held.length : Nat) : Int)) := of_decide_eq_true h7
                have hlt : k < r.held.length := by simpa using h7
                obtain ⟨x, hx⟩ : ∃ x, r.held[k]? = some x := ⟨_, List.getElem?_eq_getElem hlt⟩
                have hxm := hm x (List.mem_of_getElem? hx)
                rw [drop_cons_of hx] at HK; simp only [heldOkS, heldOk] at HK
                refine xw_skip ?_
                refine xw_seq ?_
                refine xw_block ?_
                refine xw_seq ?_
                refine xw_region ?_
                refine xl_index (kd := .i64) (T := 37) (e := 149) (K := 2) 0 [1, 4, 5, 45, 46, 47] ⟨[(1, .p 0 0), (4, .v (.int .i64 r.fin)), (5, .v (.int .i64 z)), (45, .v (.slice ra_r_heldV r.held.length rc_r_heldV)), (46, .v (.int .i64 ((r.held.length : Nat) : Int))), (47, .v (.int .i64 (k : Int)))], [⟨39, rcvL r (.slice ra_r_heldV r.held.length rc_r_heldV)⟩], [], [slF (.slice ra_r_heldV r.held.length rc_r_heldV) 2 (r.held.map pceCells)]⟩ k [.int .i64 x.off, .string x.text] (slF (.slice ra_r_heldV r.held.length rc_r_heldV) 2 (r.held.map pceCells)) (by kernel_rfl) rfl (by kernel_rfl) rfl rfl (by kernel_rfl) (by kernel_rfl) (by kernel_rfl) (by kernel_rfl) hlt (by simp) (fun w h => h) (fun b h => h) (by simp only [List.getElem?_map, hx]; rfl) ?_
                refine xl_end [1, 4, 5, 7, 45, 46, 47] ⟨[(1, .p 0 0), (4, .v (.int .i64 r.fin)), (5, .v (.int .i64 z)), (7, .p 1 0), (45, .v (.slice ra_r_heldV r.held.length rc_r_heldV)), (46, .v (.int .i64 ((r.held.length : Nat) : Int))), (47, .v (.int .i64 (k : Int)))], [⟨39, rcvL r (.slice ra_r_heldV r.held.length rc_r_heldV)⟩, ⟨149, pceL x⟩], [[.int .i64 x.off, .string x.text]], [slF (.slice ra_r_heldV r.held.length rc_r_heldV) 2 (r.held.map pceCells)]⟩ (by kernel_rfl) ?_
                refine xw_seq ?_
                refine xw_seq ?_
                refine xw_region ?_
                refine xl_run 4 [1, 4, 5, 7, 45, 46, 47, 54] ⟨[(1, .p 0 0), (4, .v (.int .i64 r.fin)), (5, .v (.int .i64 z)), (7, .p 1 0), (45, .v (.slice ra_r_heldV r.held.length rc_r_heldV)), (46, .v (.int .i64 ((r.held.length : Nat) : Int))), (47, .v (.int .i64 (k : Int))), (54, .v (.bool (x.text.toList == (⟨#[]⟩ : ByteArray).toList)))], [⟨39, rcvL r (.slice ra_r_heldV r.held.length rc_r_heldV)⟩, ⟨149, pceL x⟩], [[.int .i64 x.off, .string x.text]], [slF (.slice ra_r_heldV r.held.length rc_r_heldV) 2 (r.held.map pceCells)]⟩ (by kernel_rfl) ?_
                refine xl_split 54 (b := x.text.toList == (⟨#[]⟩ : ByteArray).toList) (by kernel_rfl) (fun h8 => ?_) (fun h8 => ?_)
                · skip
                  have h8p := h8; simp only [beq_iff_eq, bne_iff_ne, beq_eq_false_iff_ne, bne_eq_false_iff_eq, ne_eq, toList_lit0] at h8p
                  refine xl_end [1, 4, 7, 45, 46, 47, 69] ⟨[(1, .p 0 0), (4, .v (.int .i64 r.fin)), (7, .p 1 0), (45, .v (.slice ra_r_heldV r.held.length rc_r_heldV)), (46, .v (.int .i64 ((r.held.length : Nat) : Int))), (47, .v (.int .i64 (k : Int))), (69, .v (.bool true))], [⟨39, rcvL r (.slice ra_r_heldV r.held.length rc_r_heldV)⟩, ⟨149, pceL x⟩], [[.int .i64 x.off, .string x.text]], [slF (.slice ra_r_heldV r.held.length rc_r_heldV) 2 (r.held.map pceCells)]⟩ (by kernel_rfl) ?_
                  refine xw_true (by kernel_rfl) ?_
                  refine xw_seq ?_
                  refine xw_region ?_
                  refine xl_end [2] ⟨[(2, .v (.bool false))], [⟨39, rcvL r (.slice ra_r_heldV r.held.length rc_r_heldV)⟩, ⟨149, pceL x⟩], [[.int .i64 x.off, .string x.text]], [slF (.slice ra_r_heldV r.held.length rc_r_heldV) 2 (r.held.map pceCells)]⟩ (by kernel_rfl) ?_
                  refine xw_ret ?_
                  exact ⟨[.bool false], by kernel_rfl, fun w' hb hf => ⟨ret_bool (show (false : Bool) = receiverOk r from by first | rfl | (rw [HR, HK]; simp [*]; done) | (rw [HR, HK]; simp [*]; omega) | (rw [HR, HK]; grind [rcvPost]) | (simp [receiverOk, rcvPre, *]; done) | (simp [receiverOk, rcvPre, *]; omega) | grind [receiverOk, rcvPre]), hb⟩⟩
                · skip
                  have h8p := h8; simp only [beq_iff_eq, bne_iff_ne, beq_eq_false_iff_ne, bne_eq_false_iff_eq, ne_eq, toList_lit0] at h8p
                  refine xl_run 6 [1, 4, 7, 45, 46, 47, 55, 56, 57, 58, 60] ⟨[(1, .p 0 0), (4, .v (.int .i64 r.fin)), (7, .p 1 0), (45, .v (.slice ra_r_heldV r.held.length rc_r_heldV)), (46, .v (.int .i64 ((r.held.length : Nat) : Int))), (47, .v (.int .i64 (k : Int))), (55, .p 1 0), (56, .v (.int .i64 x.off)), (57, .v (.int .i64 z)), (58, .v (.bool (decide (x.off ≤ z)))), (60, .v (.bool (decide (x.off ≤ z))))], [⟨39, rcvL r (.slice ra_r_heldV r.held.length rc_r_heldV)⟩, ⟨149, pceL x⟩], [[.int .i64 x.off, .string x.text]], [slF (.slice ra_r_heldV r.held.length rc_r_heldV) 2 (r.held.map pceCells)]⟩ (by kernel_rfl) ?_
                  refine xl_split 60 (b := decide (x.off ≤ z)) (by kernel_rfl) (fun h9 => ?_) (fun h9 => ?_)
                  · skip
                    have h9p : (x.off ≤ z) := of_decide_eq_true h9
                    refine xl_end [1, 4, 7, 45, 46, 47, 55, 56, 57, 58, 69] ⟨[(1, .p 0 0), (4, .v (.int .i64 r.fin)), (7, .p 1 0), (45, .v (.slice ra_r_heldV r.held.length rc_r_heldV)), (46, .v (.int .i64 ((r.held.length : Nat) : Int))), (47, .v (.int .i64 (k : Int))), (55, .p 1 0), (56, .v (.int .i64 x.off)), (57, .v (.int .i64 z)), (58, .v (.bool (decide (x.off ≤ z)))), (69, .v (.bool true))], [⟨39, rcvL r (.slice ra_r_heldV r.held.length rc_r_heldV)⟩, ⟨149, pceL x⟩], [[.int .i64 x.off, .string x.text]], [slF (.slice ra_r_heldV r.held.length rc_r_heldV) 2 (r.held.map pceCells)]⟩ (by kernel_rfl) ?_
                    refine xw_true (by kernel_rfl) ?_
                    refine xw_seq ?_
                    refine xw_region ?_
                    refine xl_end [2] ⟨[(2, .v (.bool false))], [⟨39, rcvL r (.slice ra_r_heldV r.held.length rc_r_heldV)⟩, ⟨149, pceL x⟩], [[.int .i64 x.off, .string x.text]], [slF (.slice ra_r_heldV r.held.length rc_r_heldV) 2 (r.held.map pceCells)]⟩ (by kernel_rfl) ?_
                    refine xw_ret ?_
                    exact ⟨[.bool false], by kernel_rfl, fun w' hb hf => ⟨ret_bool (show (false : Bool) = receiverOk r from by first | rfl | (rw [HR, HK]; simp [*]; done) | (rw [HR, HK]; simp [*]; omega) | (rw [HR, HK]; grind [rcvPost]) | (simp [receiverOk, rcvPre, *]; done) | (simp [receiverOk, rcvPre, *]; omega) | grind [receiverOk, rcvPre]), hb⟩⟩
                  · skip
                    have h9p : ¬ (x.off ≤ z) := of_decide_eq_false h9
                    refine xl_run 9 [1, 4, 7, 45, 46, 47, 55, 56, 57, 58, 61, 62, 63, 64, 65, 66, 67, 68, 69] ⟨[(1, .p 0 0), (4, .v (.int .i64 r.fin)), (7, .p 1 0), (45, .v (.slice ra_r_heldV r.held.length rc_r_heldV)), (46, .v (.int .i64 ((r.held.length : Nat) : Int))), (47, .v (.int .i64 (k : Int))), (55, .p 1 0), (56, .v (.int .i64 x.off)), (57, .v (.int .i64 z)), (58, .v (.bool (decide (x.off ≤ z)))), (61, .p 1 0), (62, .v (.int .i64 x.off)), (63, .v (.int .i64 r.fin)), (64, .p 1 1), (65, .v (.string x.text)), (66, .v (.int .i64 (x.text.size : Int))), (67, .v (.int .i64 (IntKind.i64.wrap (r.fin - (x.text.size : Int))))), (68, .v (.bool (decide (x.off > (IntKind.i64.wrap (r.fin - (x.text.size : Int))))))), (69, .v (.bool (decide (x.off > (IntKind.i64.wrap (r.fin - (x.text.size : Int)))))))], [⟨39, rcvL r (.slice ra_r_heldV r.held.length rc_r_heldV)⟩, ⟨149, pceL x⟩], [[.int .i64 x.off, .string x.text]], [slF (.slice ra_r_heldV r.held.length rc_r_heldV) 2 (r.held.map pceCells)]⟩ (by kernel_rfl) ?_
                    refine xl_eq (st' := ⟨[(1, .p 0 0), (4, .v (.int .i64 r.fin)), (7, .p 1 0), (45, .v (.slice ra_r_heldV r.held.length rc_r_heldV)), (46, .v (.int .i64 ((r.held.length : Nat) : Int))), (47, .v (.int .i64 (k : Int))), (55, .p 1 0), (56, .v (.int .i64 x.off)), (57, .v (.int .i64 z)), (58, .v (.bool (decide (x.off ≤ z)))), (61, .p 1 0), (62, .v (.int .i64 x.off)), (63, .v (.int .i64 r.fin)), (64, .p 1 1), (65, .v (.string x.text)), (66, .v (.int .i64 (x.text.size : Int))), (67, .v (.int .i64 (r.fin - (x.text.size : Int)))), (68, .v (.bool (decide (x.off > (r.fin - (x.text.size : Int)))))), (69, .v (.bool (decide (x.off > (r.fin - (x.text.size : Int))))))], [⟨39, rcvL r (.slice ra_r_heldV r.held.length rc_r_heldV)⟩, ⟨149, pceL x⟩], [[.int .i64 x.off, .string x.text]], [slF (.slice ra_r_heldV r.held.length rc_r_heldV) 2 (r.held.map pceCells)]⟩) (by rw [show IntKind.i64.wrap (r.fin - (x.text.size : Int)) = r.fin - (x.text.size : Int) from wrap_id (by omega) (by omega)]) ?_
                    refine xl_end [1, 4, 7, 45, 46, 47, 55, 56, 57, 58, 61, 62, 63, 64, 65, 66, 67, 68, 69] ⟨[(1, .p 0 0), (4, .v (.int .i64 r.fin)), (7, .p 1 0), (45, .v (.slice ra_r_heldV r.held.length rc_r_heldV)), (46, .v (.int .i64 ((r.held.length : Nat) : Int))), (47, .v (.int .i64 (k : Int))), (55, .p 1 0), (56, .v (.int .i64 x.off)), (57, .v (.int .i64 z)), (58, .v (.bool (decide (x.off ≤ z)))), (61, .p 1 0), (62, .v (.int .i64 x.off)), (63, .v (.int .i64 r.fin)), (64, .p 1 1), (65, .v (.string x.text)), (66, .v (.int .i64 (x.text.size : Int))), (67, .v (.int .i64 (r.fin - (x.text.size : Int)))), (68, .v (.bool (decide (x.off > (r.fin - (x.text.size : Int)))))), (69, .v (.bool (decide (x.off > (r.fin - (x.text.size : Int))))))], [⟨39, rcvL r (.slice ra_r_heldV r.held.length rc_r_heldV)⟩, ⟨149, pceL x⟩], [[.int .i64 x.off, .string x.text]], [slF (.slice ra_r_heldV r.held.length rc_r_heldV) 2 (r.held.map pceCells)]⟩ (by kernel_rfl) ?_
                    refine xw_cond (b := decide (x.off > (r.fin - (x.text.size : Int)))) (by kernel_rfl) (fun h10 => ?_) (fun h10 => ?_)
                    · skip
                      have h10p : (x.off > (r.fin - (x.text.size : Int))) := of_decide_eq_true h10
                      refine xw_seq ?_
                      refine xw_region ?_
                      refine xl_end [2] ⟨[(2, .v (.bool false))], [⟨39, rcvL r (.slice ra_r_heldV r.held.length rc_r_heldV)⟩, ⟨149, pceL x⟩], [[.int .i64 x.off, .string x.text]], [slF (.slice ra_r_heldV r.held.length rc_r_heldV) 2 (r.held.map pceCells)]⟩ (by kernel_rfl) ?_
                      refine xw_ret ?_
                      exact ⟨[.bool false], by kernel_rfl, fun w' hb hf => ⟨ret_bool (show (false : Bool) = receiverOk r from by first | rfl | (rw [HR, HK]; simp [*]; done) | (rw [HR, HK]; simp [*]; omega) | (rw [HR, HK]; grind [rcvPost]) | (simp [receiverOk, rcvPre, *]; done) | (simp [receiverOk, rcvPre, *]; omega) | grind [receiverOk, rcvPre]), hb⟩⟩
                    · skip
                      have h10p : ¬ (x.off > (r.fin - (x.text.size : Int))) := of_decide_eq_false h10
                      refine xw_skip ?_
                      refine xw_region ?_
                      refine xl_run 7 [1, 4, 5, 45, 46, 47, 55, 56, 57, 58, 61, 62, 63, 64, 65, 66, 67, 68] ⟨[(1, .p 0 0), (4, .v (.int .i64 r.fin)), (5, .v (.int .i64 (IntKind.i64.wrap (x.off + (x.text.size : Int))))), (45, .v (.slice ra_r_heldV r.held.length rc_r_heldV)), (46, .v (.int .i64 ((r.held.length : Nat) : Int))), (47, .v (.int .i64 (k : Int))), (55, .p 1 0), (56, .v (.int .i64 x.off)), (57, .v (.int .i64 z)), (58, .v (.bool (decide (x.off ≤ z)))), (61, .p 1 0), (62, .v (.int .i64 x.off)), (63, .v (.int .i64 r.fin)), (64, .p 1 1), (65, .v (.string x.text)), (66, .v (.int .i64 (x.text.size : Int))), (67, .v (.int .i64 (r.fin - (x.text.size : Int)))), (68, .v (.bool (decide (x.off > (r.fin - (x.text.size : Int))))))], [⟨39, rcvL r (.slice ra_r_heldV r.held.length rc_r_heldV)⟩, ⟨149, pceL x⟩], [[.int .i64 x.off, .string x.text]], [slF (.slice ra_r_heldV r.held.length rc_r_heldV) 2 (r.held.map pceCells)]⟩ (by kernel_rfl) ?_
                      refine xl_eq (st' := ⟨[(1, .p 0 0), (4, .v (.int .i64 r.fin)), (5, .v (.int .i64 (x.off + (x.text.size : Int)))), (45, .v (.slice ra_r_heldV r.held.length rc_r_heldV)), (46, .v (.int .i64 ((r.held.length : Nat) : Int))), (47, .v (.int .i64 (k : Int))), (55, .p 1 0), (56, .v (.int .i64 x.off)), (57, .v (.int .i64 z)), (58, .v (.bool (decide (x.off ≤ z)))), (61, .p 1 0), (62, .v (.int .i64 x.off)), (63, .v (.int .i64 r.fin)), (64, .p 1 1), (65, .v (.string x.text)), (66, .v (.int .i64 (x.text.size : Int))), (67, .v (.int .i64 (r.fin - (x.text.size : Int)))), (68, .v (.bool (decide (x.off > (r.fin - (x.text.size : Int))))))], [⟨39, rcvL r (.slice ra_r_heldV r.held.length rc_r_heldV)⟩, ⟨149, pceL x⟩], [[.int .i64 x.off, .string x.text]], [slF (.slice ra_r_heldV r.held.length rc_r_heldV) 2 (r.held.map pceCells)]⟩) (by rw [show IntKind.i64.wrap (x.off + (x.text.size : Int)) = x.off + (x.text.size : Int) from wrap_id (by omega) (by omega)]) ?_
                      refine xl_end [1, 4, 5, 45, 46, 47, 55, 56, 57, 58, 61, 62, 63, 64, 65, 66, 67, 68] ⟨[(1, .p 0 0), (4, .v (.int .i64 r.fin)), (5, .v (.int .i64 (x.off + (x.text.size : Int)))), (45, .v (.slice ra_r_heldV r.held.length rc_r_heldV)), (46, .v (.int .i64 ((r.held.length : Nat) : Int))), (47, .v (.int .i64 (k : Int))), (55, .p 1 0), (56, .v (.int .i64 x.off)), (57, .v (.int .i64 z)), (58, .v (.bool (decide (x.off ≤ z)))), (61, .p 1 0), (62, .v (.int .i64 x.off)), (63, .v (.int .i64 r.fin)), (64, .p 1 1), (65, .v (.string x.text)), (66, .v (.int .i64 (x.text.size : Int))), (67, .v (.int .i64 (r.fin - (x.text.size : Int)))), (68, .v (.bool (decide (x.off > (r.fin - (x.text.size : Int))))))], [⟨39, rcvL r (.slice ra_r_heldV r.held.length rc_r_heldV)⟩, ⟨149, pceL x⟩], [[.int .i64 x.off, .string x.text]], [slF (.slice ra_r_heldV r.held.length rc_r_heldV) 2 (r.held.map pceCells)]⟩ (by kernel_rfl) ?_
                      refine xw_region ?_
                      refine xl_run 2 [1, 4, 5, 45, 46, 47, 55, 56, 57, 58, 61, 62, 63, 64, 65, 66, 67, 68] ⟨[(1, .p 0 0), (4, .v (.int .i64 r.fin)), (5, .v (.int .i64 (x.off + (x.text.size : Int)))), (45, .v (.slice ra_r_heldV r.held.length rc_r_heldV)), (46, .v (.int .i64 ((r.held.length : Nat) : Int))), (47, .v (.int .i64 (IntKind.i64.wrap ((k : Int) + 1)))), (55, .p 1 0), (56, .v (.int .i64 x.off)), (57, .v (.int .i64 z)), (58, .v (.bool (decide (x.off ≤ z)))), (61, .p 1 0), (62, .v (.int .i64 x.off)), (63, .v (.int .i64 r.fin)), (64, .p 1 1), (65, .v (.string x.text)), (66, .v (.int .i64 (x.text.size : Int))), (67, .v (.int .i64 (r.fin - (x.text.size : Int)))), (68, .v (.bool (decide (x.off > (r.fin - (x.text.size : Int))))))], [⟨39, rcvL r (.slice ra_r_heldV r.held.length rc_r_heldV)⟩, ⟨149, pceL x⟩], [[.int .i64 x.off, .string x.text]], [slF (.slice ra_r_heldV r.held.length rc_r_heldV) 2 (r.held.map pceCells)]⟩ (by kernel_rfl) ?_
                      refine xl_eq (st' := ⟨[(1, .p 0 0), (4, .v (.int .i64 r.fin)), (5, .v (.int .i64 (x.off + (x.text.size : Int)))), (45, .v (.slice ra_r_heldV r.held.length rc_r_heldV)), (46, .v (.int .i64 ((r.held.length : Nat) : Int))), (47, .v (.int .i64 ((k : Int) + 1))), (55, .p 1 0), (56, .v (.int .i64 x.off)), (57, .v (.int .i64 z)), (58, .v (.bool (decide (x.off ≤ z)))), (61, .p 1 0), (62, .v (.int .i64 x.off)), (63, .v (.int .i64 r.fin)), (64, .p 1 1), (65, .v (.string x.text)), (66, .v (.int .i64 (x.text.size : Int))), (67, .v (.int .i64 (r.fin - (x.text.size : Int)))), (68, .v (.bool (decide (x.off > (r.fin - (x.text.size : Int))))))], [⟨39, rcvL r (.slice ra_r_heldV r.held.length rc_r_heldV)⟩, ⟨149, pceL x⟩], [[.int .i64 x.off, .string x.text]], [slF (.slice ra_r_heldV r.held.length rc_r_heldV) 2 (r.held.map pceCells)]⟩) (by rw [show IntKind.i64.wrap ((k : Int) + 1) = (k : Int) + 1 from wrap_id (by omega) (by omega)]) ?_
                      refine xl_end [1, 4, 5, 45, 46, 47, 55, 56, 57, 58, 61, 62, 63, 64, 65, 66, 67, 68] ⟨[(1, .p 0 0), (4, .v (.int .i64 r.fin)), (5, .v (.int .i64 (x.off + (x.text.size : Int)))), (45, .v (.slice ra_r_heldV r.held.length rc_r_heldV)), (46, .v (.int .i64 ((r.held.length : Nat) : Int))), (47, .v (.int .i64 ((k : Int) + 1))), (55, .p 1 0), (56, .v (.int .i64 x.off)), (57, .v (.int .i64 z)), (58, .v (.bool (decide (x.off ≤ z)))), (61, .p 1 0), (62, .v (.int .i64 x.off)), (63, .v (.int .i64 r.fin)), (64, .p 1 1), (65, .v (.string x.text)), (66, .v (.int .i64 (x.text.size : Int))), (67, .v (.int .i64 (r.fin - (x.text.size : Int)))), (68, .v (.bool (decide (x.off > (r.fin - (x.text.size : Int))))))], [⟨39, rcvL r (.slice ra_r_heldV r.held.length rc_r_heldV)⟩, ⟨149, pceL x⟩], [[.int .i64 x.off, .string x.text]], [slF (.slice ra_r_heldV r.held.length rc_r_heldV) 2 (r.held.map pceCells)]⟩ (by kernel_rfl) ?_
                      exact ⟨⟨(k + 1, x.off + (x.text.size : Int)), ⟨by omega, by omega, by omega, by rw [HK]; first | (simp [*]; done) | (simp [*]; omega) | grind⟩⟩, wk_forget 1 0 [1, 4, 5, 45, 46, 47] (by kernel_rfl) (by kernel_rfl) (by kernel_rfl), by show r.held.length - (k + 1) < r.held.length - k; omega⟩
              · skip
                have h7p : ¬ ((k : Int) < ((r.held.length : Nat) : Int)) := of_decide_eq_false h7
                have hge : k = r.held.length := by simp at h7; omega
                subst hge; simp only [List.drop_length, heldOkS, heldOk] at HK
                refine xw_exit ?_
                refine xw_seq ?_
                refine xw_region ?_
                refine xl_run 4 [1, 80] ⟨[(1, .p 0 0), (80, .v (.bool (!r.done)))], [⟨39, rcvL r (.slice ra_r_heldV r.held.length rc_r_heldV)⟩], [], [slF (.slice ra_r_heldV r.held.length rc_r_heldV) 2 (r.held.map pceCells)]⟩ (by kernel_rfl) ?_
                refine xl_split 80 (b := !r.done) (by kernel_rfl) (fun h11 => ?_) (fun h11 => ?_)
                · skip
                  refine xl_end [2] ⟨[(2, .v (.bool true))], [⟨39, rcvL r (.slice ra_r_heldV r.held.length rc_r_heldV)⟩], [], [slF (.slice ra_r_heldV r.held.length rc_r_heldV) 2 (r.held.map pceCells)]⟩ (by kernel_rfl) ?_
                  refine xw_ret ?_
                  exact ⟨[.bool true], by kernel_rfl, fun w' hb hf => ⟨ret_bool (show (true : Bool) = receiverOk r from by first | rfl | (rw [HR, HK]; simp [*]; done) | (rw [HR, HK]; simp [*]; omega) | (rw [HR, HK]; grind [rcvPost]) | (simp [receiverOk, rcvPre, *]; done) | (simp [receiverOk, rcvPre, *]; omega) | grind [receiverOk, rcvPre]), hb⟩⟩
                · skip
                  refine xl_run 5 [1, 80, 85] ⟨[(1, .p 0 0), (80, .v (.bool false)), (85, .v (.bool (((r.held.length : Nat) : Int) == 0)))], [⟨39, rcvL r (.slice ra_r_heldV r.held.length rc_r_heldV)⟩], [], [slF (.slice ra_r_heldV r.held.length rc_r_heldV) 2 (r.held.map pceCells)]⟩ (by kernel_rfl) ?_
                  refine xl_split 85 (b := ((r.held.length : Nat) : Int) == 0) (by kernel_rfl) (fun h12 => ?_) (fun h12 => ?_)
                  · skip
                    have h12p := h12; simp only [beq_iff_eq, bne_iff_ne, beq_eq_false_iff_ne, bne_eq_false_iff_eq, ne_eq, toList_lit0] at h12p
                    refine xl_end [2] ⟨[(2, .v (.bool (r.fin == (-1))))], [⟨39, rcvL r (.slice ra_r_heldV r.held.length rc_r_heldV)⟩], [], [slF (.slice ra_r_heldV r.held.length rc_r_heldV) 2 (r.held.map pceCells)]⟩ (by kernel_rfl) ?_
                    refine xw_ret ?_
                    exact ⟨[.bool (r.fin == (-1))], by kernel_rfl, fun w' hb hf => ⟨ret_bool (show (r.fin == (-1) : Bool) = receiverOk r from by first | rfl | (rw [HR, HK]; simp [*]; done) | (rw [HR, HK]; simp [*]; omega) | (rw [HR, HK]; grind [rcvPost]) | (simp [receiverOk, rcvPre, *]; done) | (simp [receiverOk, rcvPre, *]; omega) | grind [receiverOk, rcvPre]), hb⟩⟩
                  · skip
                    have h12p := h12; simp only [beq_iff_eq, bne_iff_ne, beq_eq_false_iff_ne, bne_eq_false_iff_eq, ne_eq, toList_lit0] at h12p
                    refine xl_end [2] ⟨[(2, .v (.bool false))], [⟨39, rcvL r (.slice ra_r_heldV r.held.length rc_r_heldV)⟩], [], [slF (.slice ra_r_heldV r.held.length rc_r_heldV) 2 (r.held.map pceCells)]⟩ (by kernel_rfl) ?_
                    refine xw_ret ?_
                    exact ⟨[.bool false], by kernel_rfl, fun w' hb hf => ⟨ret_bool (show (false : Bool) = receiverOk r from by first | rfl | (rw [HR, HK]; simp [*]; done) | (rw [HR, HK]; simp [*]; omega) | (rw [HR, HK]; grind [rcvPost]) | (simp [receiverOk, rcvPre, *]; done) | (simp [receiverOk, rcvPre, *]; omega) | grind [receiverOk, rcvPre]), hb⟩⟩
            · skip
              have h6p := h6; simp only [beq_iff_eq, bne_iff_ne, beq_eq_false_iff_ne, bne_eq_false_iff_eq, ne_eq, toList_lit0] at h6p
              refine xw_skip ?_
              refine xw_seq ?_
              refine xw_region ?_
              refine xl_end [1, 4, 5] ⟨[(1, .p 0 0), (4, .v (.int .i64 (windowOf r))), (5, .v (.int .i64 0))], [⟨39, rcvL r (.slice ra_r_heldV r.held.length rc_r_heldV)⟩], [], [slF (.slice ra_r_heldV r.held.length rc_r_heldV) 2 (r.held.map pceCells)]⟩ (by kernel_rfl) ?_
              refine xw_seq ?_
              refine xw_seq ?_
              refine xw_region ?_
              refine xl_end [1, 4, 5, 45, 46, 47] ⟨[(1, .p 0 0), (4, .v (.int .i64 (windowOf r))), (5, .v (.int .i64 0)), (45, .v (.slice ra_r_heldV r.held.length rc_r_heldV)), (46, .v (.int .i64 ((r.held.length : Nat) : Int))), (47, .v (.int .i64 0))], [⟨39, rcvL r (.slice ra_r_heldV r.held.length rc_r_heldV)⟩], [], [slF (.slice ra_r_heldV r.held.length rc_r_heldV) 2 (r.held.map pceCells)]⟩ (by kernel_rfl) ?_
              refine xw_block ?_
              have hp : rcvPre r = true := by first | (simp [rcvPre, *]; done) | (simp [rcvPre, *]; omega) | grind [rcvPre]
              have hin := inB_tt.1 (rcvPre_iff.1 hp).2.2.2.1
              have HR : receiverOk r = (heldOk (if r.fin = -1 then windowOf r else r.fin) 0 r.held && rcvPost r) := by unfold receiverOk; rw [hp]; rfl
              refine xw_loopW (α := {x : Nat × Int // (fun (k : Nat) (z : Int) => k ≤ r.held.length ∧ 0 ≤ z ∧ z ≤ 32 ∧ heldOk (if r.fin = -1 then windowOf r else r.fin) 0 r.held = heldOk (if r.fin = -1 then windowOf r else r.fin) z (r.held.drop k)) x.1 x.2}) (fun x => (fun (k : Nat) (z : Int) => (⟨[(1, .p 0 0), (4, .v (.int .i64 (windowOf r))), (5, .v (.int .i64 z)), (45, .v (.slice ra_r_heldV r.held.length rc_r_heldV)), (46, .v (.int .i64 ((r.held.length : Nat) : Int))), (47, .v (.int .i64 (k : Int)))], [⟨39, rcvL r (.slice ra_r_heldV r.held.length rc_r_heldV)⟩], [], [slF (.slice ra_r_heldV r.held.length rc_r_heldV) 2 (r.held.map pceCells)]⟩ : St)) x.1.1 x.1.2) (fun x => r.held.length - x.1.1) ⟨(0, 0), ⟨Nat.zero_le _, by omega, by omega, rfl⟩⟩ (wk_forget 1 0 [1, 4, 5, 45, 46, 47] (by kernel_rfl) (by kernel_rfl) (by kernel_rfl)) ?_
              rintro ⟨⟨k, z⟩, hk, hz0, hz1, HK⟩
              refine xw_wk (Wk.of_eq (s' := ⟨[(1, .p 0 0), (4, .v (.int .i64 (windowOf r))), (5, .v (.int .i64 z)), (45, .v (.slice ra_r_heldV r.held.length rc_r_heldV)), (46, .v (.int .i64 ((r.held.length : Nat) : Int))), (47, .v (.int .i64 (k : Int)))], [⟨39, rcvL r (.slice ra_r_heldV r.held.length rc_r_heldV)⟩], [], [slF (.slice ra_r_heldV r.held.length rc_r_heldV) 2 (r.held.map pceCells)]⟩) rfl) ?_
              try dsimp only at hk hz0 hz1 HK
              refine xw_seq ?_
              refine xw_region ?_
              refine xl_end [1, 4, 5, 45, 46, 47, 48] ⟨[(1, .p 0 0), (4, .v (.int .i64 (windowOf r))), (5, .v (.int .i64 z)), (45, .v (.slice ra_r_heldV r.held.length rc_r_heldV)), (46, .v (.int .i64 ((r.held.length : Nat) : Int))), (47, .v (.int .i64 (k : Int))), (48, .v (.bool (decide ((k : Int) < ((r.held.length : Nat) : Int)))))], [⟨39, rcvL r (.slice ra_r_heldV r.held.length rc_r_heldV)⟩], [], [slF (.slice ra_r_heldV r.held.length rc_r_heldV) 2 (r.held.map pceCells)]⟩ (by kernel_rfl) ?_
              refine xw_seq ?_
              refine xw_cond (b := decide ((k : Int) < ((r.held.length : Nat) : Int))) (by kernel_rfl) (fun h13 => ?_) (fun h13 => ?_)
              · skip
                have h13p : ((k : Int) < ((r.held.length : Nat) : Int)) := of_decide_eq_true h13
                have hlt : k < r.held.length := by simpa using h13
                obtain ⟨x, hx⟩ : ∃ x, r.held[k]? = some x := ⟨_, List.getElem?_eq_getElem hlt⟩
                have hxm := hm x (List.mem_of_getElem? hx)
                rw [drop_cons_of hx] at HK; simp only [heldOkS, heldOk] at HK
                refine xw_skip ?_
                refine xw_seq ?_
                refine xw_block ?_
                refine xw_seq ?_
                refine xw_region ?_
                refine xl_index (kd := .i64) (T := 37) (e := 149) (K := 2) 0 [1, 4, 5, 45, 46, 47] ⟨[(1, .p 0 0), (4, .v (.int .i64 (windowOf r))), (5, .v (.int .i64 z)), (45, .v (.slice ra_r_heldV r.held.length rc_r_heldV)), (46, .v (.int .i64 ((r.held.length : Nat) : Int))), (47, .v (.int .i64 (k : Int)))], [⟨39, rcvL r (.slice ra_r_heldV r.held.length rc_r_heldV)⟩], [], [slF (.slice ra_r_heldV r.held.length rc_r_heldV) 2 (r.held.map pceCells)]⟩ k [.int .i64 x.off, .string x.text] (slF (.slice ra_r_heldV r.held.length rc_r_heldV) 2 (r.held.map pceCells)) (by kernel_rfl) rfl (by kernel_rfl) rfl rfl (by kernel_rfl) (by kernel_rfl) (by kernel_rfl) (by kernel_rfl) hlt (by simp) (fun w h => h) (fun b h => h) (by simp only [List.getElem?_map, hx]; rfl) ?_
                refine xl_end [1, 4, 5, 7, 45, 46, 47] ⟨[(1, .p 0 0), (4, .v (.int .i64 (windowOf r))), (5, .v (.int .i64 z)), (7, .p 1 0), (45, .v (.slice ra_r_heldV r.held.length rc_r_heldV)), (46, .v (.int .i64 ((r.held.length : Nat) : Int))), (47, .v (.int .i64 (k : Int)))], [⟨39, rcvL r (.slice ra_r_heldV r.held.length rc_r_heldV)⟩, ⟨149, pceL x⟩], [[.int .i64 x.off, .string x.text]], [slF (.slice ra_r_heldV r.held.length rc_r_heldV) 2 (r.held.map pceCells)]⟩ (by kernel_rfl) ?_
                refine xw_seq ?_
                refine xw_seq ?_
                refine xw_region ?_
                refine xl_run 4 [1, 4, 5, 7, 45, 46, 47, 54] ⟨[(1, .p 0 0), (4, .v (.int .i64 (windowOf r))), (5, .v (.int .i64 z)), (7, .p 1 0), (45, .v (.slice ra_r_heldV r.held.length rc_r_heldV)), (46, .v (.int .i64 ((r.held.length : Nat) : Int))), (47, .v (.int .i64 (k : Int))), (54, .v (.bool (x.text.toList == (⟨#[]⟩ : ByteArray).toList)))], [⟨39, rcvL r (.slice ra_r_heldV r.held.length rc_r_heldV)⟩, ⟨149, pceL x⟩], [[.int .i64 x.off, .string x.text]], [slF (.slice ra_r_heldV r.held.length rc_r_heldV) 2 (r.held.map pceCells)]⟩ (by kernel_rfl) ?_
                refine xl_split 54 (b := x.text.toList == (⟨#[]⟩ : ByteArray).toList) (by kernel_rfl) (fun h14 => ?_) (fun h14 => ?_)
                · skip
                  have h14p := h14; simp only [beq_iff_eq, bne_iff_ne, beq_eq_false_iff_ne, bne_eq_false_iff_eq, ne_eq, toList_lit0] at h14p
                  refine xl_end [1, 4, 7, 45, 46, 47, 69] ⟨[(1, .p 0 0), (4, .v (.int .i64 (windowOf r))), (7, .p 1 0), (45, .v (.slice ra_r_heldV r.held.length rc_r_heldV)), (46, .v (.int .i64 ((r.held.length : Nat) : Int))), (47, .v (.int .i64 (k : Int))), (69, .v (.bool true))], [⟨39, rcvL r (.slice ra_r_heldV r.held.length rc_r_heldV)⟩, ⟨149, pceL x⟩], [[.int .i64 x.off, .string x.text]], [slF (.slice ra_r_heldV r.held.length rc_r_heldV) 2 (r.held.map pceCells)]⟩ (by kernel_rfl) ?_
                  refine xw_true (by kernel_rfl) ?_
                  refine xw_seq ?_
                  refine xw_region ?_
                  refine xl_end [2] ⟨[(2, .v (.bool false))], [⟨39, rcvL r (.slice ra_r_heldV r.held.length rc_r_heldV)⟩, ⟨149, pceL x⟩], [[.int .i64 x.off, .string x.text]], [slF (.slice ra_r_heldV r.held.length rc_r_heldV) 2 (r.held.map pceCells)]⟩ (by kernel_rfl) ?_
                  refine xw_ret ?_
                  exact ⟨[.bool false], by kernel_rfl, fun w' hb hf => ⟨ret_bool (show (false : Bool) = receiverOk r from by first | rfl | (rw [HR, HK]; simp [*]; done) | (rw [HR, HK]; simp [*]; omega) | (rw [HR, HK]; grind [rcvPost]) | (simp [receiverOk, rcvPre, *]; done) | (simp [receiverOk, rcvPre, *]; omega) | grind [receiverOk, rcvPre]), hb⟩⟩
                · skip
                  have h14p := h14; simp only [beq_iff_eq, bne_iff_ne, beq_eq_false_iff_ne, bne_eq_false_iff_eq, ne_eq, toList_lit0] at h14p
                  refine xl_run 6 [1, 4, 7, 45, 46, 47, 55, 56, 57, 58, 60] ⟨[(1, .p 0 0), (4, .v (.int .i64 (windowOf r))), (7, .p 1 0), (45, .v (.slice ra_r_heldV r.held.length rc_r_heldV)), (46, .v (.int .i64 ((r.held.length : Nat) : Int))), (47, .v (.int .i64 (k : Int))), (55, .p 1 0), (56, .v (.int .i64 x.off)), (57, .v (.int .i64 z)), (58, .v (.bool (decide (x.off ≤ z)))), (60, .v (.bool (decide (x.off ≤ z))))], [⟨39, rcvL r (.slice ra_r_heldV r.held.length rc_r_heldV)⟩, ⟨149, pceL x⟩], [[.int .i64 x.off, .string x.text]], [slF (.slice ra_r_heldV r.held.length rc_r_heldV) 2 (r.held.map pceCells)]⟩ (by kernel_rfl) ?_
                  refine xl_split 60 (b := decide (x.off ≤ z)) (by kernel_rfl) (fun h15 => ?_) (fun h15 => ?_)
                  · skip
                    have h15p : (x.off ≤ z) := of_decide_eq_true h15
                    refine xl_end [1, 4, 7, 45, 46, 47, 55, 56, 57, 58, 69] ⟨[(1, .p 0 0), (4, .v (.int .i64 (windowOf r))), (7, .p 1 0), (45, .v (.slice ra_r_heldV r.held.length rc_r_heldV)), (46, .v (.int .i64 ((r.held.length : Nat) : Int))), (47, .v (.int .i64 (k : Int))), (55, .p 1 0), (56, .v (.int .i64 x.off)), (57, .v (.int .i64 z)), (58, .v (.bool (decide (x.off ≤ z)))), (69, .v (.bool true))], [⟨39, rcvL r (.slice ra_r_heldV r.held.length rc_r_heldV)⟩, ⟨149, pceL x⟩], [[.int .i64 x.off, .string x.text]], [slF (.slice ra_r_heldV r.held.length rc_r_heldV) 2 (r.held.map pceCells)]⟩ (by kernel_rfl) ?_
                    refine xw_true (by kernel_rfl) ?_
                    refine xw_seq ?_
                    refine xw_region ?_
                    refine xl_end [2] ⟨[(2, .v (.bool false))], [⟨39, rcvL r (.slice ra_r_heldV r.held.length rc_r_heldV)⟩, ⟨149, pceL x⟩], [[.int .i64 x.off, .string x.text]], [slF (.slice ra_r_heldV r.held.length rc_r_heldV) 2 (r.held.map pceCells)]⟩ (by kernel_rfl) ?_
                    refine xw_ret ?_
                    exact ⟨[.bool false], by kernel_rfl, fun w' hb hf => ⟨ret_bool (show (false : Bool) = receiverOk r from by first | rfl | (rw [HR, HK]; simp [*]; done) | (rw [HR, HK]; simp [*]; omega) | (rw [HR, HK]; grind [rcvPost]) | (simp [receiverOk, rcvPre, *]; done) | (simp [receiverOk, rcvPre, *]; omega) | grind [receiverOk, rcvPre]), hb⟩⟩
                  · skip
                    have h15p : ¬ (x.off ≤ z) := of_decide_eq_false h15
                    refine xl_run 9 [1, 4, 7, 45, 46, 47, 55, 56, 57, 58, 61, 62, 63, 64, 65, 66, 67, 68, 69] ⟨[(1, .p 0 0), (4, .v (.int .i64 (windowOf r))), (7, .p 1 0), (45, .v (.slice ra_r_heldV r.held.length rc_r_heldV)), (46, .v (.int .i64 ((r.held.length : Nat) : Int))), (47, .v (.int .i64 (k : Int))), (55, .p 1 0), (56, .v (.int .i64 x.off)), (57, .v (.int .i64 z)), (58, .v (.bool (decide (x.off ≤ z)))), (61, .p 1 0), (62, .v (.int .i64 x.off)), (63, .v (.int .i64 (windowOf r))), (64, .p 1 1), (65, .v (.string x.text)), (66, .v (.int .i64 (x.text.size : Int))), (67, .v (.int .i64 (IntKind.i64.wrap ((windowOf r) - (x.text.size : Int))))), (68, .v (.bool (decide (x.off > (IntKind.i64.wrap ((windowOf r) - (x.text.size : Int))))))), (69, .v (.bool (decide (x.off > (IntKind.i64.wrap ((windowOf r) - (x.text.size : Int)))))))], [⟨39, rcvL r (.slice ra_r_heldV r.held.length rc_r_heldV)⟩, ⟨149, pceL x⟩], [[.int .i64 x.off, .string x.text]], [slF (.slice ra_r_heldV r.held.length rc_r_heldV) 2 (r.held.map pceCells)]⟩ (by kernel_rfl) ?_
                    refine xl_eq (st' := ⟨[(1, .p 0 0), (4, .v (.int .i64 (windowOf r))), (7, .p 1 0), (45, .v (.slice ra_r_heldV r.held.length rc_r_heldV)), (46, .v (.int .i64 ((r.held.length : Nat) : Int))), (47, .v (.int .i64 (k : Int))), (55, .p 1 0), (56, .v (.int .i64 x.off)), (57, .v (.int .i64 z)), (58, .v (.bool (decide (x.off ≤ z)))), (61, .p 1 0), (62, .v (.int .i64 x.off)), (63, .v (.int .i64 (windowOf r))), (64, .p 1 1), (65, .v (.string x.text)), (66, .v (.int .i64 (x.text.size : Int))), (67, .v (.int .i64 ((windowOf r) - (x.text.size : Int)))), (68, .v (.bool (decide (x.off > ((windowOf r) - (x.text.size : Int)))))), (69, .v (.bool (decide (x.off > ((windowOf r) - (x.text.size : Int))))))], [⟨39, rcvL r (.slice ra_r_heldV r.held.length rc_r_heldV)⟩, ⟨149, pceL x⟩], [[.int .i64 x.off, .string x.text]], [slF (.slice ra_r_heldV r.held.length rc_r_heldV) 2 (r.held.map pceCells)]⟩) (by rw [show IntKind.i64.wrap ((windowOf r) - (x.text.size : Int)) = (windowOf r) - (x.text.size : Int) from wrap_id (by omega) (by omega)]) ?_
                    refine xl_end [1, 4, 7, 45, 46, 47, 55, 56, 57, 58, 61, 62, 63, 64, 65, 66, 67, 68, 69] ⟨[(1, .p 0 0), (4, .v (.int .i64 (windowOf r))), (7, .p 1 0), (45, .v (.slice ra_r_heldV r.held.length rc_r_heldV)), (46, .v (.int .i64 ((r.held.length : Nat) : Int))), (47, .v (.int .i64 (k : Int))), (55, .p 1 0), (56, .v (.int .i64 x.off)), (57, .v (.int .i64 z)), (58, .v (.bool (decide (x.off ≤ z)))), (61, .p 1 0), (62, .v (.int .i64 x.off)), (63, .v (.int .i64 (windowOf r))), (64, .p 1 1), (65, .v (.string x.text)), (66, .v (.int .i64 (x.text.size : Int))), (67, .v (.int .i64 ((windowOf r) - (x.text.size : Int)))), (68, .v (.bool (decide (x.off > ((windowOf r) - (x.text.size : Int)))))), (69, .v (.bool (decide (x.off > ((windowOf r) - (x.text.size : Int))))))], [⟨39, rcvL r (.slice ra_r_heldV r.held.length rc_r_heldV)⟩, ⟨149, pceL x⟩], [[.int .i64 x.off, .string x.text]], [slF (.slice ra_r_heldV r.held.length rc_r_heldV) 2 (r.held.map pceCells)]⟩ (by kernel_rfl) ?_
                    refine xw_cond (b := decide (x.off > ((windowOf r) - (x.text.size : Int)))) (by kernel_rfl) (fun h16 => ?_) (fun h16 => ?_)
                    · skip
                      have h16p : (x.off > ((windowOf r) - (x.text.size : Int))) := of_decide_eq_true h16
                      refine xw_seq ?_
                      refine xw_region ?_
                      refine xl_end [2] ⟨[(2, .v (.bool false))], [⟨39, rcvL r (.slice ra_r_heldV r.held.length rc_r_heldV)⟩, ⟨149, pceL x⟩], [[.int .i64 x.off, .string x.text]], [slF (.slice ra_r_heldV r.held.length rc_r_heldV) 2 (r.held.map pceCells)]⟩ (by kernel_rfl) ?_
                      refine xw_ret ?_
                      exact ⟨[.bool false], by kernel_rfl, fun w' hb hf => ⟨ret_bool (show (false : Bool) = receiverOk r from by first | rfl | (rw [HR, HK]; simp [*]; done) | (rw [HR, HK]; simp [*]; omega) | (rw [HR, HK]; grind [rcvPost]) | (simp [receiverOk, rcvPre, *]; done) | (simp [receiverOk, rcvPre, *]; omega) | grind [receiverOk, rcvPre]), hb⟩⟩
                    · skip
                      have h16p : ¬ (x.off > ((windowOf r) - (x.text.size : Int))) := of_decide_eq_false h16
                      refine xw_skip ?_
                      refine xw_region ?_
                      refine xl_run 7 [1, 4, 5, 45, 46, 47, 55, 56, 57, 58, 61, 62, 63, 64, 65, 66, 67, 68] ⟨[(1, .p 0 0), (4, .v (.int .i64 (windowOf r))), (5, .v (.int .i64 (IntKind.i64.wrap (x.off + (x.text.size : Int))))), (45, .v (.slice ra_r_heldV r.held.length rc_r_heldV)), (46, .v (.int .i64 ((r.held.length : Nat) : Int))), (47, .v (.int .i64 (k : Int))), (55, .p 1 0), (56, .v (.int .i64 x.off)), (57, .v (.int .i64 z)), (58, .v (.bool (decide (x.off ≤ z)))), (61, .p 1 0), (62, .v (.int .i64 x.off)), (63, .v (.int .i64 (windowOf r))), (64, .p 1 1), (65, .v (.string x.text)), (66, .v (.int .i64 (x.text.size : Int))), (67, .v (.int .i64 ((windowOf r) - (x.text.size : Int)))), (68, .v (.bool (decide (x.off > ((windowOf r) - (x.text.size : Int))))))], [⟨39, rcvL r (.slice ra_r_heldV r.held.length rc_r_heldV)⟩, ⟨149, pceL x⟩], [[.int .i64 x.off, .string x.text]], [slF (.slice ra_r_heldV r.held.length rc_r_heldV) 2 (r.held.map pceCells)]⟩ (by kernel_rfl) ?_
                      refine xl_eq (st' := ⟨[(1, .p 0 0), (4, .v (.int .i64 (windowOf r))), (5, .v (.int .i64 (x.off + (x.text.size : Int)))), (45, .v (.slice ra_r_heldV r.held.length rc_r_heldV)), (46, .v (.int .i64 ((r.held.length : Nat) : Int))), (47, .v (.int .i64 (k : Int))), (55, .p 1 0), (56, .v (.int .i64 x.off)), (57, .v (.int .i64 z)), (58, .v (.bool (decide (x.off ≤ z)))), (61, .p 1 0), (62, .v (.int .i64 x.off)), (63, .v (.int .i64 (windowOf r))), (64, .p 1 1), (65, .v (.string x.text)), (66, .v (.int .i64 (x.text.size : Int))), (67, .v (.int .i64 ((windowOf r) - (x.text.size : Int)))), (68, .v (.bool (decide (x.off > ((windowOf r) - (x.text.size : Int))))))], [⟨39, rcvL r (.slice ra_r_heldV r.held.length rc_r_heldV)⟩, ⟨149, pceL x⟩], [[.int .i64 x.off, .string x.text]], [slF (.slice ra_r_heldV r.held.length rc_r_heldV) 2 (r.held.map pceCells)]⟩) (by rw [show IntKind.i64.wrap (x.off + (x.text.size : Int)) = x.off + (x.text.size : Int) from wrap_id (by omega) (by omega)]) ?_
                      refine xl_end [1, 4, 5, 45, 46, 47, 55, 56, 57, 58, 61, 62, 63, 64, 65, 66, 67, 68] ⟨[(1, .p 0 0), (4, .v (.int .i64 (windowOf r))), (5, .v (.int .i64 (x.off + (x.text.size : Int)))), (45, .v (.slice ra_r_heldV r.held.length rc_r_heldV)), (46, .v (.int .i64 ((r.held.length : Nat) : Int))), (47, .v (.int .i64 (k : Int))), (55, .p 1 0), (56, .v (.int .i64 x.off)), (57, .v (.int .i64 z)), (58, .v (.bool (decide (x.off ≤ z)))), (61, .p 1 0), (62, .v (.int .i64 x.off)), (63, .v (.int .i64 (windowOf r))), (64, .p 1 1), (65, .v (.string x.text)), (66, .v (.int .i64 (x.text.size : Int))), (67, .v (.int .i64 ((windowOf r) - (x.text.size : Int)))), (68, .v (.bool (decide (x.off > ((windowOf r) - (x.text.size : Int))))))], [⟨39, rcvL r (.slice ra_r_heldV r.held.length rc_r_heldV)⟩, ⟨149, pceL x⟩], [[.int .i64 x.off, .string x.text]], [slF (.slice ra_r_heldV r.held.length rc_r_heldV) 2 (r.held.map pceCells)]⟩ (by kernel_rfl) ?_
                      refine xw_region ?_
                      refine xl_run 2 [1, 4, 5, 45, 46, 47, 55, 56, 57, 58, 61, 62, 63, 64, 65, 66, 67, 68] ⟨[(1, .p 0 0), (4, .v (.int .i64 (windowOf r))), (5, .v (.int .i64 (x.off + (x.text.size : Int)))), (45, .v (.slice ra_r_heldV r.held.length rc_r_heldV)), (46, .v (.int .i64 ((r.held.length : Nat) : Int))), (47, .v (.int .i64 (IntKind.i64.wrap ((k : Int) + 1)))), (55, .p 1 0), (56, .v (.int .i64 x.off)), (57, .v (.int .i64 z)), (58, .v (.bool (decide (x.off ≤ z)))), (61, .p 1 0), (62, .v (.int .i64 x.off)), (63, .v (.int .i64 (windowOf r))), (64, .p 1 1), (65, .v (.string x.text)), (66, .v (.int .i64 (x.text.size : Int))), (67, .v (.int .i64 ((windowOf r) - (x.text.size : Int)))), (68, .v (.bool (decide (x.off > ((windowOf r) - (x.text.size : Int))))))], [⟨39, rcvL r (.slice ra_r_heldV r.held.length rc_r_heldV)⟩, ⟨149, pceL x⟩], [[.int .i64 x.off, .string x.text]], [slF (.slice ra_r_heldV r.held.length rc_r_heldV) 2 (r.held.map pceCells)]⟩ (by kernel_rfl) ?_
                      refine xl_eq (st' := ⟨[(1, .p 0 0), (4, .v (.int .i64 (windowOf r))), (5, .v (.int .i64 (x.off + (x.text.size : Int)))), (45, .v (.slice ra_r_heldV r.held.length rc_r_heldV)), (46, .v (.int .i64 ((r.held.length : Nat) : Int))), (47, .v (.int .i64 ((k : Int) + 1))), (55, .p 1 0), (56, .v (.int .i64 x.off)), (57, .v (.int .i64 z)), (58, .v (.bool (decide (x.off ≤ z)))), (61, .p 1 0), (62, .v (.int .i64 x.off)), (63, .v (.int .i64 (windowOf r))), (64, .p 1 1), (65, .v (.string x.text)), (66, .v (.int .i64 (x.text.size : Int))), (67, .v (.int .i64 ((windowOf r) - (x.text.size : Int)))), (68, .v (.bool (decide (x.off > ((windowOf r) - (x.text.size : Int))))))], [⟨39, rcvL r (.slice ra_r_heldV r.held.length rc_r_heldV)⟩, ⟨149, pceL x⟩], [[.int .i64 x.off, .string x.text]], [slF (.slice ra_r_heldV r.held.length rc_r_heldV) 2 (r.held.map pceCells)]⟩) (by rw [show IntKind.i64.wrap ((k : Int) + 1) = (k : Int) + 1 from wrap_id (by omega) (by omega)]) ?_
                      refine xl_end [1, 4, 5, 45, 46, 47, 55, 56, 57, 58, 61, 62, 63, 64, 65, 66, 67, 68] ⟨[(1, .p 0 0), (4, .v (.int .i64 (windowOf r))), (5, .v (.int .i64 (x.off + (x.text.size : Int)))), (45, .v (.slice ra_r_heldV r.held.length rc_r_heldV)), (46, .v (.int .i64 ((r.held.length : Nat) : Int))), (47, .v (.int .i64 ((k : Int) + 1))), (55, .p 1 0), (56, .v (.int .i64 x.off)), (57, .v (.int .i64 z)), (58, .v (.bool (decide (x.off ≤ z)))), (61, .p 1 0), (62, .v (.int .i64 x.off)), (63, .v (.int .i64 (windowOf r))), (64, .p 1 1), (65, .v (.string x.text)), (66, .v (.int .i64 (x.text.size : Int))), (67, .v (.int .i64 ((windowOf r) - (x.text.size : Int)))), (68, .v (.bool (decide (x.off > ((windowOf r) - (x.text.size : Int))))))], [⟨39, rcvL r (.slice ra_r_heldV r.held.length rc_r_heldV)⟩, ⟨149, pceL x⟩], [[.int .i64 x.off, .string x.text]], [slF (.slice ra_r_heldV r.held.length rc_r_heldV) 2 (r.held.map pceCells)]⟩ (by kernel_rfl) ?_
                      exact ⟨⟨(k + 1, x.off + (x.text.size : Int)), ⟨by omega, by omega, by omega, by rw [HK]; first | (simp [*]; done) | (simp [*]; omega) | grind⟩⟩, wk_forget 1 0 [1, 4, 5, 45, 46, 47] (by kernel_rfl) (by kernel_rfl) (by kernel_rfl), by show r.held.length - (k + 1) < r.held.length - k; omega⟩
              · skip
                have h13p : ¬ ((k : Int) < ((r.held.length : Nat) : Int)) := of_decide_eq_false h13
                have hge : k = r.held.length := by simp at h13; omega
                subst hge; simp only [List.drop_length, heldOkS, heldOk] at HK
                refine xw_exit ?_
                refine xw_seq ?_
                refine xw_region ?_
                refine xl_run 4 [1, 80] ⟨[(1, .p 0 0), (80, .v (.bool (!r.done)))], [⟨39, rcvL r (.slice ra_r_heldV r.held.length rc_r_heldV)⟩], [], [slF (.slice ra_r_heldV r.held.length rc_r_heldV) 2 (r.held.map pceCells)]⟩ (by kernel_rfl) ?_
                refine xl_split 80 (b := !r.done) (by kernel_rfl) (fun h17 => ?_) (fun h17 => ?_)
                · skip
                  refine xl_end [2] ⟨[(2, .v (.bool true))], [⟨39, rcvL r (.slice ra_r_heldV r.held.length rc_r_heldV)⟩], [], [slF (.slice ra_r_heldV r.held.length rc_r_heldV) 2 (r.held.map pceCells)]⟩ (by kernel_rfl) ?_
                  refine xw_ret ?_
                  exact ⟨[.bool true], by kernel_rfl, fun w' hb hf => ⟨ret_bool (show (true : Bool) = receiverOk r from by first | rfl | (rw [HR, HK]; simp [*]; done) | (rw [HR, HK]; simp [*]; omega) | (rw [HR, HK]; grind [rcvPost]) | (simp [receiverOk, rcvPre, *]; done) | (simp [receiverOk, rcvPre, *]; omega) | grind [receiverOk, rcvPre]), hb⟩⟩
                · skip
                  refine xl_run 5 [1, 80, 85] ⟨[(1, .p 0 0), (80, .v (.bool false)), (85, .v (.bool (((r.held.length : Nat) : Int) == 0)))], [⟨39, rcvL r (.slice ra_r_heldV r.held.length rc_r_heldV)⟩], [], [slF (.slice ra_r_heldV r.held.length rc_r_heldV) 2 (r.held.map pceCells)]⟩ (by kernel_rfl) ?_
                  refine xl_split 85 (b := ((r.held.length : Nat) : Int) == 0) (by kernel_rfl) (fun h18 => ?_) (fun h18 => ?_)
                  · skip
                    have h18p := h18; simp only [beq_iff_eq, bne_iff_ne, beq_eq_false_iff_ne, bne_eq_false_iff_eq, ne_eq, toList_lit0] at h18p
                    refine xl_end [2] ⟨[(2, .v (.bool (r.fin == (-1))))], [⟨39, rcvL r (.slice ra_r_heldV r.held.length rc_r_heldV)⟩], [], [slF (.slice ra_r_heldV r.held.length rc_r_heldV) 2 (r.held.map pceCells)]⟩ (by kernel_rfl) ?_
                    refine xw_ret ?_
                    exact ⟨[.bool (r.fin == (-1))], by kernel_rfl, fun w' hb hf => ⟨ret_bool (show (r.fin == (-1) : Bool) = receiverOk r from by first | rfl | (rw [HR, HK]; simp [*]; done) | (rw [HR, HK]; simp [*]; omega) | (rw [HR, HK]; grind [rcvPost]) | (simp [receiverOk, rcvPre, *]; done) | (simp [receiverOk, rcvPre, *]; omega) | grind [receiverOk, rcvPre]), hb⟩⟩
                  · skip
                    have h18p := h18; simp only [beq_iff_eq, bne_iff_ne, beq_eq_false_iff_ne, bne_eq_false_iff_eq, ne_eq, toList_lit0] at h18p
                    refine xl_end [2] ⟨[(2, .v (.bool false))], [⟨39, rcvL r (.slice ra_r_heldV r.held.length rc_r_heldV)⟩], [], [slF (.slice ra_r_heldV r.held.length rc_r_heldV) 2 (r.held.map pceCells)]⟩ (by kernel_rfl) ?_
                    refine xw_ret ?_
                    exact ⟨[.bool false], by kernel_rfl, fun w' hb hf => ⟨ret_bool (show (false : Bool) = receiverOk r from by first | rfl | (rw [HR, HK]; simp [*]; done) | (rw [HR, HK]; simp [*]; omega) | (rw [HR, HK]; grind [rcvPost]) | (simp [receiverOk, rcvPre, *]; done) | (simp [receiverOk, rcvPre, *]; omega) | grind [receiverOk, rcvPre]), hb⟩⟩
end Go.Proofs.Ytjfamgkkenccdaa
