/- Contracts (Y2). -/
import Derived.Test.YtnbmdmmlnpbjlaaY1
import Derived.Test.YtnbmdmmlnpbjlaaYD
import Derived.Test.YtnbmdmmlnpbjlaaE
import Derived.Test.YtnbmdmmlnpbjlaaSPiece
namespace Go.Proofs.Ytnbmdmmlnpbjlaa
open Go.RowKit
set_option linter.unusedVariables false
set_option linter.unusedSimpArgs false
set_option maxRecDepth 100000

theorem ysSameReceiver_c (a : Rcv) (a_heldV : Value) (b : Rcv) (b_heldV : Value) (w : World) (hl_a_heldV : Sl w a_heldV 2 (a.held.map pceCells)) (hl_b_heldV : Sl w b_heldV 2 (b.held.map pceCells))  : Calls Try.prog 85 #[.agg (rcvL a a_heldV).toArray, .agg (rcvL b b_heldV).toArray] w fun e w' => e = .returned (.bool (sameReceiver a b)) ∧ Below w.heap.size w w' := by
  obtain ⟨ra_a_heldV, rc_a_heldV, hv_a_heldV⟩ := hl_a_heldV.form
  rw [List.length_map] at hv_a_heldV; subst hv_a_heldV
  have hn_a_heldV := hl_a_heldV.len; rw [List.length_map] at hn_a_heldV
  obtain ⟨ra_b_heldV, rc_b_heldV, hv_b_heldV⟩ := hl_b_heldV.form
  rw [List.length_map] at hv_b_heldV; subst hv_b_heldV
  have hn_b_heldV := hl_b_heldV.len; rw [List.length_map] at hn_b_heldV
  refine x_calls (args := [.agg (rcvL a (.slice ra_a_heldV a.held.length rc_a_heldV)).toArray, .agg (rcvL b (.slice ra_b_heldV b.held.length rc_b_heldV)).toArray]) (fn := Try.f85) [slF (.slice ra_a_heldV a.held.length rc_a_heldV) 2 (a.held.map pceCells), slF (.slice ra_b_heldV b.held.length rc_b_heldV) 2 (b.held.map pceCells)] Try.func85 rfl Try.ntmps85 rfl (by simp only [List.mem_cons, List.not_mem_nil, or_false, forall_eq_or_imp, forall_eq]; exact ⟨⟨rfl, hl_a_heldV⟩, ⟨rfl, hl_b_heldV⟩⟩) ?_
  refine xw_seq ?_
  refine xw_region ?_
  refine xl_end [2, 3] ⟨[(2, .p 0 0), (3, .p 1 0)], [⟨49, rcvL a (.slice ra_a_heldV a.held.length rc_a_heldV)⟩, ⟨49, rcvL b (.slice ra_b_heldV b.held.length rc_b_heldV)⟩], [], [slF (.slice ra_a_heldV a.held.length rc_a_heldV) 2 (a.held.map pceCells), slF (.slice ra_b_heldV b.held.length rc_b_heldV) 2 (b.held.map pceCells)]⟩ (by kernel_rfl) ?_
  refine xw_seq ?_
  refine xw_seq ?_
  refine xw_region ?_
  refine xl_run 6 [2, 3, 11] ⟨[(2, .p 0 0), (3, .p 1 0), (11, .v (.bool (a.next != b.next)))], [⟨49, rcvL a (.slice ra_a_heldV a.held.length rc_a_heldV)⟩, ⟨49, rcvL b (.slice ra_b_heldV b.held.length rc_b_heldV)⟩], [], [slF (.slice ra_a_heldV a.held.length rc_a_heldV) 2 (a.held.map pceCells), slF (.slice ra_b_heldV b.held.length rc_b_heldV) 2 (b.held.map pceCells)]⟩ (by kernel_rfl) ?_
  refine xl_split 11 (b := a.next != b.next) (by kernel_rfl) (fun h1 => ?_) (fun h1 => ?_)
  · skip
    have h1p := h1; simp only [beq_iff_eq, bne_iff_ne, beq_eq_false_iff_ne, bne_eq_false_iff_eq, ne_eq, toList_lit0] at h1p
    refine xl_end [2, 3, 40] ⟨[(2, .p 0 0), (3, .p 1 0), (40, .v (.bool true))], [⟨49, rcvL a (.slice ra_a_heldV a.held.length rc_a_heldV)⟩, ⟨49, rcvL b (.slice ra_b_heldV b.held.length rc_b_heldV)⟩], [], [slF (.slice ra_a_heldV a.held.length rc_a_heldV) 2 (a.held.map pceCells), slF (.slice ra_b_heldV b.held.length rc_b_heldV) 2 (b.held.map pceCells)]⟩ (by kernel_rfl) ?_
    refine xw_true (by kernel_rfl) ?_
    refine xw_seq ?_
    refine xw_region ?_
    refine xl_end [4] ⟨[(4, .v (.bool false))], [⟨49, rcvL a (.slice ra_a_heldV a.held.length rc_a_heldV)⟩, ⟨49, rcvL b (.slice ra_b_heldV b.held.length rc_b_heldV)⟩], [], [slF (.slice ra_a_heldV a.held.length rc_a_heldV) 2 (a.held.map pceCells), slF (.slice ra_b_heldV b.held.length rc_b_heldV) 2 (b.held.map pceCells)]⟩ (by kernel_rfl) ?_
    refine xw_ret ?_
    exact ⟨[.bool false], by kernel_rfl, fun w' hb hf => ⟨ret_bool (show (false : Bool) = sameReceiver a b from by first | rfl | (simp [sameReceiver, *]; done) | grind [sameReceiver, sameL_len]), hb⟩⟩
  · skip
    have h1p := h1; simp only [beq_iff_eq, bne_iff_ne, beq_eq_false_iff_ne, bne_eq_false_iff_eq, ne_eq, toList_lit0] at h1p
    refine xl_run 7 [2, 3, 18] ⟨[(2, .p 0 0), (3, .p 1 0), (18, .v (.bool (!(a.data.toList == b.data.toList))))], [⟨49, rcvL a (.slice ra_a_heldV a.held.length rc_a_heldV)⟩, ⟨49, rcvL b (.slice ra_b_heldV b.held.length rc_b_heldV)⟩], [], [slF (.slice ra_a_heldV a.held.length rc_a_heldV) 2 (a.held.map pceCells), slF (.slice ra_b_heldV b.held.length rc_b_heldV) 2 (b.held.map pceCells)]⟩ (by kernel_rfl) ?_
    refine xl_split 18 (b := !(a.data.toList == b.data.toList)) (by kernel_rfl) (fun h2 => ?_) (fun h2 => ?_)
    · skip
      refine xl_end [2, 3, 40] ⟨[(2, .p 0 0), (3, .p 1 0), (40, .v (.bool true))], [⟨49, rcvL a (.slice ra_a_heldV a.held.length rc_a_heldV)⟩, ⟨49, rcvL b (.slice ra_b_heldV b.held.length rc_b_heldV)⟩], [], [slF (.slice ra_a_heldV a.held.length rc_a_heldV) 2 (a.held.map pceCells), slF (.slice ra_b_heldV b.held.length rc_b_heldV) 2 (b.held.map pceCells)]⟩ (by kernel_rfl) ?_
      refine xw_true (by kernel_rfl) ?_
      refine xw_seq ?_
      refine xw_region ?_
      refine xl_end [4] ⟨[(4, .v (.bool false))], [⟨49, rcvL a (.slice ra_a_heldV a.held.length rc_a_heldV)⟩, ⟨49, rcvL b (.slice ra_b_heldV b.held.length rc_b_heldV)⟩], [], [slF (.slice ra_a_heldV a.held.length rc_a_heldV) 2 (a.held.map pceCells), slF (.slice ra_b_heldV b.held.length rc_b_heldV) 2 (b.held.map pceCells)]⟩ (by kernel_rfl) ?_
      refine xw_ret ?_
      exact ⟨[.bool false], by kernel_rfl, fun w' hb hf => ⟨ret_bool (show (false : Bool) = sameReceiver a b from by first | rfl | (simp [sameReceiver, *]; done) | grind [sameReceiver, sameL_len]), hb⟩⟩
    · skip
      refine xl_run 7 [2, 3, 25] ⟨[(2, .p 0 0), (3, .p 1 0), (25, .v (.bool (a.fin != b.fin)))], [⟨49, rcvL a (.slice ra_a_heldV a.held.length rc_a_heldV)⟩, ⟨49, rcvL b (.slice ra_b_heldV b.held.length rc_b_heldV)⟩], [], [slF (.slice ra_a_heldV a.held.length rc_a_heldV) 2 (a.held.map pceCells), slF (.slice ra_b_heldV b.held.length rc_b_heldV) 2 (b.held.map pceCells)]⟩ (by kernel_rfl) ?_
      refine xl_split 25 (b := a.fin != b.fin) (by kernel_rfl) (fun h3 => ?_) (fun h3 => ?_)
      · skip
        have h3p := h3; simp only [beq_iff_eq, bne_iff_ne, beq_eq_false_iff_ne, bne_eq_false_iff_eq, ne_eq, toList_lit0] at h3p
        refine xl_end [2, 3, 40] ⟨[(2, .p 0 0), (3, .p 1 0), (40, .v (.bool true))], [⟨49, rcvL a (.slice ra_a_heldV a.held.length rc_a_heldV)⟩, ⟨49, rcvL b (.slice ra_b_heldV b.held.length rc_b_heldV)⟩], [], [slF (.slice ra_a_heldV a.held.length rc_a_heldV) 2 (a.held.map pceCells), slF (.slice ra_b_heldV b.held.length rc_b_heldV) 2 (b.held.map pceCells)]⟩ (by kernel_rfl) ?_
        refine xw_true (by kernel_rfl) ?_
        refine xw_seq ?_
        refine xw_region ?_
        refine xl_end [4] ⟨[(4, .v (.bool false))], [⟨49, rcvL a (.slice ra_a_heldV a.held.length rc_a_heldV)⟩, ⟨49, rcvL b (.slice ra_b_heldV b.held.length rc_b_heldV)⟩], [], [slF (.slice ra_a_heldV a.held.length rc_a_heldV) 2 (a.held.map pceCells), slF (.slice ra_b_heldV b.held.length rc_b_heldV) 2 (b.held.map pceCells)]⟩ (by kernel_rfl) ?_
        refine xw_ret ?_
        exact ⟨[.bool false], by kernel_rfl, fun w' hb hf => ⟨ret_bool (show (false : Bool) = sameReceiver a b from by first | rfl | (simp [sameReceiver, *]; done) | grind [sameReceiver, sameL_len]), hb⟩⟩
      · skip
        have h3p := h3; simp only [beq_iff_eq, bne_iff_ne, beq_eq_false_iff_ne, bne_eq_false_iff_eq, ne_eq, toList_lit0] at h3p
        refine xl_run 7 [2, 3, 32] ⟨[(2, .p 0 0), (3, .p 1 0), (32, .v (.bool (!(a.done == b.done))))], [⟨49, rcvL a (.slice ra_a_heldV a.held.length rc_a_heldV)⟩, ⟨49, rcvL b (.slice ra_b_heldV b.held.length rc_b_heldV)⟩], [], [slF (.slice ra_a_heldV a.held.length rc_a_heldV) 2 (a.held.map pceCells), slF (.slice ra_b_heldV b.held.length rc_b_heldV) 2 (b.held.map pceCells)]⟩ (by kernel_rfl) ?_
        refine xl_split 32 (b := !(a.done == b.done)) (by kernel_rfl) (fun h4 => ?_) (fun h4 => ?_)
        · skip
          refine xl_end [2, 3, 40] ⟨[(2, .p 0 0), (3, .p 1 0), (40, .v (.bool true))], [⟨49, rcvL a (.slice ra_a_heldV a.held.length rc_a_heldV)⟩, ⟨49, rcvL b (.slice ra_b_heldV b.held.length rc_b_heldV)⟩], [], [slF (.slice ra_a_heldV a.held.length rc_a_heldV) 2 (a.held.map pceCells), slF (.slice ra_b_heldV b.held.length rc_b_heldV) 2 (b.held.map pceCells)]⟩ (by kernel_rfl) ?_
          refine xw_true (by kernel_rfl) ?_
          refine xw_seq ?_
          refine xw_region ?_
          refine xl_end [4] ⟨[(4, .v (.bool false))], [⟨49, rcvL a (.slice ra_a_heldV a.held.length rc_a_heldV)⟩, ⟨49, rcvL b (.slice ra_b_heldV b.held.length rc_b_heldV)⟩], [], [slF (.slice ra_a_heldV a.held.length rc_a_heldV) 2 (a.held.map pceCells), slF (.slice ra_b_heldV b.held.length rc_b_heldV) 2 (b.held.map pceCells)]⟩ (by kernel_rfl) ?_
          refine xw_ret ?_
          exact ⟨[.bool false], by kernel_rfl, fun w' hb hf => ⟨ret_bool (show (false : Bool) = sameReceiver a b from by first | rfl | (simp [sameReceiver, *]; done) | grind [sameReceiver, sameL_len]), hb⟩⟩
        · skip
          refine xl_end [2, 3, 40] ⟨[(2, .p 0 0), (3, .p 1 0), (40, .v (.bool (((a.held.length : Nat) : Int) != ((b.held.length : Nat) : Int))))], [⟨49, rcvL a (.slice ra_a_heldV a.held.length rc_a_heldV)⟩, ⟨49, rcvL b (.slice ra_b_heldV b.held.length rc_b_heldV)⟩], [], [slF (.slice ra_a_heldV a.held.length rc_a_heldV) 2 (a.held.map pceCells), slF (.slice ra_b_heldV b.held.length rc_b_heldV) 2 (b.held.map pceCells)]⟩ (by kernel_rfl) ?_
          refine xw_cond (b := ((a.held.length : Nat) : Int) != ((b.held.length : Nat) : Int)) (by kernel_rfl) (fun h5 => ?_) (fun h5 => ?_)
          · skip
            have h5p := h5; simp only [beq_iff_eq, bne_iff_ne, beq_eq_false_iff_ne, bne_eq_false_iff_eq, ne_eq, toList_lit0] at h5p
            refine xw_seq ?_
            refine xw_region ?_
            refine xl_end [4] ⟨[(4, .v (.bool false))], [⟨49, rcvL a (.slice ra_a_heldV a.held.length rc_a_heldV)⟩, ⟨49, rcvL b (.slice ra_b_heldV b.held.length rc_b_heldV)⟩], [], [slF (.slice ra_a_heldV a.held.length rc_a_heldV) 2 (a.held.map pceCells), slF (.slice ra_b_heldV b.held.length rc_b_heldV) 2 (b.held.map pceCells)]⟩ (by kernel_rfl) ?_
            refine xw_ret ?_
            exact ⟨[.bool false], by kernel_rfl, fun w' hb hf => ⟨ret_bool (show (false : Bool) = sameReceiver a b from by first | rfl | (simp [sameReceiver, *]; done) | grind [sameReceiver, sameL_len]), hb⟩⟩
          · skip
            have h5p := h5; simp only [beq_iff_eq, bne_iff_ne, beq_eq_false_iff_ne, bne_eq_false_iff_eq, ne_eq, toList_lit0] at h5p
            refine xw_skip ?_
            refine xw_seq ?_
            refine xw_seq ?_
            refine xw_region ?_
            refine xl_end [2, 3, 5] ⟨[(2, .p 0 0), (3, .p 1 0), (5, .v (.int .i64 0))], [⟨49, rcvL a (.slice ra_a_heldV a.held.length rc_a_heldV)⟩, ⟨49, rcvL b (.slice ra_b_heldV b.held.length rc_b_heldV)⟩], [], [slF (.slice ra_a_heldV a.held.length rc_a_heldV) 2 (a.held.map pceCells), slF (.slice ra_b_heldV b.held.length rc_b_heldV) 2 (b.held.map pceCells)]⟩ (by kernel_rfl) ?_
            refine xw_block ?_
            have hlen : a.held.length = b.held.length := by omega
            refine xw_loopW (α := {x : Nat // (fun (k : Nat) => k ≤ a.held.length ∧ ∀ (i : Nat) (x y : Pce), i < k → a.held[i]? = some x → b.held[i]? = some y → pceEq x y = true) x}) (fun x => (fun (k : Nat) => (⟨[(2, .p 0 0), (3, .p 1 0), (5, .v (.int .i64 (k : Int)))], [⟨49, rcvL a (.slice ra_a_heldV a.held.length rc_a_heldV)⟩, ⟨49, rcvL b (.slice ra_b_heldV b.held.length rc_b_heldV)⟩], [], [slF (.slice ra_a_heldV a.held.length rc_a_heldV) 2 (a.held.map pceCells), slF (.slice ra_b_heldV b.held.length rc_b_heldV) 2 (b.held.map pceCells)]⟩ : St)) x.1) (fun x => a.held.length - x.1) ⟨(0), ⟨Nat.zero_le _, fun i x y hi => by omega⟩⟩ (wk_forget 2 0 [2, 3, 5] (by kernel_rfl) (by kernel_rfl) (by kernel_rfl)) ?_
            rintro ⟨k, hk, HK⟩
            refine xw_wk (Wk.of_eq (s' := ⟨[(2, .p 0 0), (3, .p 1 0), (5, .v (.int .i64 (k : Int)))], [⟨49, rcvL a (.slice ra_a_heldV a.held.length rc_a_heldV)⟩, ⟨49, rcvL b (.slice ra_b_heldV b.held.length rc_b_heldV)⟩], [], [slF (.slice ra_a_heldV a.held.length rc_a_heldV) 2 (a.held.map pceCells), slF (.slice ra_b_heldV b.held.length rc_b_heldV) 2 (b.held.map pceCells)]⟩) rfl) ?_
            try dsimp only at hk HK
            refine xw_seq ?_
            refine xw_seq ?_
            refine xw_region ?_
            refine xl_end [2, 3, 5, 45] ⟨[(2, .p 0 0), (3, .p 1 0), (5, .v (.int .i64 (k : Int))), (45, .v (.bool (decide ((k : Int) < ((a.held.length : Nat) : Int)))))], [⟨49, rcvL a (.slice ra_a_heldV a.held.length rc_a_heldV)⟩, ⟨49, rcvL b (.slice ra_b_heldV b.held.length rc_b_heldV)⟩], [], [slF (.slice ra_a_heldV a.held.length rc_a_heldV) 2 (a.held.map pceCells), slF (.slice ra_b_heldV b.held.length rc_b_heldV) 2 (b.held.map pceCells)]⟩ (by kernel_rfl) ?_
            refine xw_cond (b := decide ((k : Int) < ((a.held.length : Nat) : Int))) (by kernel_rfl) (fun h6 => ?_) (fun h6 => ?_)
            · skip
              have h6p : ((k : Int) < ((a.held.length : Nat) : Int)) := of_decide_eq_true h6
              have hlt : k < a.held.length := by simpa using h6
              obtain ⟨x, hx⟩ : ∃ x, a.held[k]? = some x := ⟨_, List.getElem?_eq_getElem hlt⟩
              obtain ⟨y, hy⟩ : ∃ y, b.held[k]? = some y := ⟨_, List.getElem?_eq_getElem (by omega)⟩
              refine xw_skip ?_
              refine xw_seq ?_
              refine xw_block ?_
              refine xw_seq ?_
              refine xws_start ?_
              refine xws_row (K := 2) (j := k) [.int .i64 x.off, .string x.text] (slF (.slice ra_a_heldV a.held.length rc_a_heldV) 2 (a.held.map pceCells)) (fun _ _ h => h) (by simp) (fun w h => h) (fun b h => h) (by simp only [List.getElem?_map, hx]; rfl) (fun bq7 offq7 hAq7 => ?_)
              refine xws_row (K := 2) (j := k) [.int .i64 y.off, .string y.text] (slF (.slice ra_b_heldV b.held.length rc_b_heldV) 2 (b.held.map pceCells)) (fun _ _ h => h) (by simp) (fun w h => h) (fun b h => h) (by simp only [List.getElem?_map, hy]; rfl) (fun bq8 offq8 hAq8 => ?_)
              refine xws_region (by kernel_rfl) (fun ρ σ hq9 => ?_)
              refine xd_take 0 (.p 0 2) ⟨[(48, .p 0 2), (2, .p 0 0), (3, .p 1 0), (5, .v (.int .i64 (k : Int))), (45, .v (.bool (decide ((k : Int) < ((a.held.length : Nat) : Int)))))], [⟨49, rcvL a (.slice ra_a_heldV a.held.length rc_a_heldV)⟩, ⟨49, rcvL b (.slice ra_b_heldV b.held.length rc_b_heldV)⟩], [[.int .i64 x.off, .string x.text], [.int .i64 y.off, .string y.text]], [slF (.slice ra_a_heldV a.held.length rc_a_heldV) 2 (a.held.map pceCells), slF (.slice ra_b_heldV b.held.length rc_b_heldV) 2 (b.held.map pceCells)]⟩ rfl (by kernel_rfl) (by kernel_rfl) (by kernel_rfl) (fun _ _ h => h) (by kernel_rfl) (by kernel_rfl) rfl (by kernel_rfl) ?_
              refine xd_take 1 (.v (.slice ra_a_heldV a.held.length rc_a_heldV)) ⟨[(49, .v (.slice ra_a_heldV a.held.length rc_a_heldV)), (48, .p 0 2), (2, .p 0 0), (3, .p 1 0), (5, .v (.int .i64 (k : Int))), (45, .v (.bool (decide ((k : Int) < ((a.held.length : Nat) : Int)))))], [⟨49, rcvL a (.slice ra_a_heldV a.held.length rc_a_heldV)⟩, ⟨49, rcvL b (.slice ra_b_heldV b.held.length rc_b_heldV)⟩], [[.int .i64 x.off, .string x.text], [.int .i64 y.off, .string y.text]], [slF (.slice ra_a_heldV a.held.length rc_a_heldV) 2 (a.held.map pceCells), slF (.slice ra_b_heldV b.held.length rc_b_heldV) 2 (b.held.map pceCells)]⟩ rfl (by kernel_rfl) (by kernel_rfl) (by kernel_rfl) (fun _ _ h => h) (by kernel_rfl) (by kernel_rfl) rfl (by kernel_rfl) ?_
              refine xd_take 2 (.v (.int .i64 (k : Int))) ⟨[(50, .v (.int .i64 (k : Int))), (49, .v (.slice ra_a_heldV a.held.length rc_a_heldV)), (48, .p 0 2), (2, .p 0 0), (3, .p 1 0), (5, .v (.int .i64 (k : Int))), (45, .v (.bool (decide ((k : Int) < ((a.held.length : Nat) : Int)))))], [⟨49, rcvL a (.slice ra_a_heldV a.held.length rc_a_heldV)⟩, ⟨49, rcvL b (.slice ra_b_heldV b.held.length rc_b_heldV)⟩], [[.int .i64 x.off, .string x.text], [.int .i64 y.off, .string y.text]], [slF (.slice ra_a_heldV a.held.length rc_a_heldV) 2 (a.held.map pceCells), slF (.slice ra_b_heldV b.held.length rc_b_heldV) 2 (b.held.map pceCells)]⟩ rfl (by kernel_rfl) (by kernel_rfl) (by kernel_rfl) (fun _ _ h => h) (by kernel_rfl) (by kernel_rfl) rfl (by kernel_rfl) ?_
              refine xd_takeI (kd := .i64) (T := 47) (e := 122) (K := 2) (j := k) (A := ra_a_heldV) (len := a.held.length) (cap := rc_a_heldV) 3 0 ⟨[(51, .r 0 0), (50, .v (.int .i64 (k : Int))), (49, .v (.slice ra_a_heldV a.held.length rc_a_heldV)), (48, .p 0 2), (2, .p 0 0), (3, .p 1 0), (5, .v (.int .i64 (k : Int))), (45, .v (.bool (decide ((k : Int) < ((a.held.length : Nat) : Int)))))], [⟨49, rcvL a (.slice ra_a_heldV a.held.length rc_a_heldV)⟩, ⟨49, rcvL b (.slice ra_b_heldV b.held.length rc_b_heldV)⟩], [[.int .i64 x.off, .string x.text], [.int .i64 y.off, .string y.text]], [slF (.slice ra_a_heldV a.held.length rc_a_heldV) 2 (a.held.map pceCells), slF (.slice ra_b_heldV b.held.length rc_b_heldV) 2 (b.held.map pceCells)]⟩ rfl (by kernel_rfl) (by kernel_rfl) (by kernel_rfl) (fun _ _ h => h) (by kernel_rfl) rfl rfl (by kernel_rfl) (by kernel_rfl) (by kernel_rfl) (by kernel_rfl) hlt hAq7 hq9.1.2 (by kernel_rfl) (by kernel_rfl) ?_
              refine xd_take 4 (.v (.agg (pceL x).toArray)) ⟨[(52, .v (.agg (pceL x).toArray)), (51, .r 0 0), (50, .v (.int .i64 (k : Int))), (49, .v (.slice ra_a_heldV a.held.length rc_a_heldV)), (48, .p 0 2), (2, .p 0 0), (3, .p 1 0), (5, .v (.int .i64 (k : Int))), (45, .v (.bool (decide ((k : Int) < ((a.held.length : Nat) : Int)))))], [⟨49, rcvL a (.slice ra_a_heldV a.held.length rc_a_heldV)⟩, ⟨49, rcvL b (.slice ra_b_heldV b.held.length rc_b_heldV)⟩], [[.int .i64 x.off, .string x.text], [.int .i64 y.off, .string y.text]], [slF (.slice ra_a_heldV a.held.length rc_a_heldV) 2 (a.held.map pceCells), slF (.slice ra_b_heldV b.held.length rc_b_heldV) 2 (b.held.map pceCells)]⟩ rfl (by kernel_rfl) (by kernel_rfl) (by kernel_rfl) (fun _ _ h => h) (by kernel_rfl) (by kernel_rfl) rfl (by kernel_rfl) ?_
              refine xd_take 5 (.p 1 2) ⟨[(53, .p 1 2), (52, .v (.agg (pceL x).toArray)), (51, .r 0 0), (50, .v (.int .i64 (k : Int))), (49, .v (.slice ra_a_heldV a.held.length rc_a_heldV)), (48, .p 0 2), (2, .p 0 0), (3, .p 1 0), (5, .v (.int .i64 (k : Int))), (45, .v (.bool (decide ((k : Int) < ((a.held.length : Nat) : Int)))))], [⟨49, rcvL a (.slice ra_a_heldV a.held.length rc_a_heldV)⟩, ⟨49, rcvL b (.slice ra_b_heldV b.held.length rc_b_heldV)⟩], [[.int .i64 x.off, .string x.text], [.int .i64 y.off, .string y.text]], [slF (.slice ra_a_heldV a.held.length rc_a_heldV) 2 (a.held.map pceCells), slF (.slice ra_b_heldV b.held.length rc_b_heldV) 2 (b.held.map pceCells)]⟩ rfl (by kernel_rfl) (by kernel_rfl) (by kernel_rfl) (fun _ _ h => h) (by kernel_rfl) (by kernel_rfl) rfl (by kernel_rfl) ?_
              refine xd_take 6 (.v (.slice ra_b_heldV b.held.length rc_b_heldV)) ⟨[(54, .v (.slice ra_b_heldV b.held.length rc_b_heldV)), (53, .p 1 2), (52, .v (.agg (pceL x).toArray)), (51, .r 0 0), (50, .v (.int .i64 (k : Int))), (49, .v (.slice ra_a_heldV a.held.length rc_a_heldV)), (48, .p 0 2), (2, .p 0 0), (3, .p 1 0), (5, .v (.int .i64 (k : Int))), (45, .v (.bool (decide ((k : Int) < ((a.held.length : Nat) : Int)))))], [⟨49, rcvL a (.slice ra_a_heldV a.held.length rc_a_heldV)⟩, ⟨49, rcvL b (.slice ra_b_heldV b.held.length rc_b_heldV)⟩], [[.int .i64 x.off, .string x.text], [.int .i64 y.off, .string y.text]], [slF (.slice ra_a_heldV a.held.length rc_a_heldV) 2 (a.held.map pceCells), slF (.slice ra_b_heldV b.held.length rc_b_heldV) 2 (b.held.map pceCells)]⟩ rfl (by kernel_rfl) (by kernel_rfl) (by kernel_rfl) (fun _ _ h => h) (by kernel_rfl) (by kernel_rfl) rfl (by kernel_rfl) ?_
              refine xd_take 7 (.v (.int .i64 (k : Int))) ⟨[(55, .v (.int .i64 (k : Int))), (54, .v (.slice ra_b_heldV b.held.length rc_b_heldV)), (53, .p 1 2), (52, .v (.agg (pceL x).toArray)), (51, .r 0 0), (50, .v (.int .i64 (k : Int))), (49, .v (.slice ra_a_heldV a.held.length rc_a_heldV)), (48, .p 0 2), (2, .p 0 0), (3, .p 1 0), (5, .v (.int .i64 (k : Int))), (45, .v (.bool (decide ((k : Int) < ((a.held.length : Nat) : Int)))))], [⟨49, rcvL a (.slice ra_a_heldV a.held.length rc_a_heldV)⟩, ⟨49, rcvL b (.slice ra_b_heldV b.held.length rc_b_heldV)⟩], [[.int .i64 x.off, .string x.text], [.int .i64 y.off, .string y.text]], [slF (.slice ra_a_heldV a.held.length rc_a_heldV) 2 (a.held.map pceCells), slF (.slice ra_b_heldV b.held.length rc_b_heldV) 2 (b.held.map pceCells)]⟩ rfl (by kernel_rfl) (by kernel_rfl) (by kernel_rfl) (fun _ _ h => h) (by kernel_rfl) (by kernel_rfl) rfl (by kernel_rfl) ?_
              refine xd_takeI (kd := .i64) (T := 47) (e := 122) (K := 2) (j := k) (A := ra_b_heldV) (len := b.held.length) (cap := rc_b_heldV) 8 1 ⟨[(56, .r 1 0), (55, .v (.int .i64 (k : Int))), (54, .v (.slice ra_b_heldV b.held.length rc_b_heldV)), (53, .p 1 2), (52, .v (.agg (pceL x).toArray)), (51, .r 0 0), (50, .v (.int .i64 (k : Int))), (49, .v (.slice ra_a_heldV a.held.length rc_a_heldV)), (48, .p 0 2), (2, .p 0 0), (3, .p 1 0), (5, .v (.int .i64 (k : Int))), (45, .v (.bool (decide ((k : Int) < ((a.held.length : Nat) : Int)))))], [⟨49, rcvL a (.slice ra_a_heldV a.held.length rc_a_heldV)⟩, ⟨49, rcvL b (.slice ra_b_heldV b.held.length rc_b_heldV)⟩], [[.int .i64 x.off, .string x.text], [.int .i64 y.off, .string y.text]], [slF (.slice ra_a_heldV a.held.length rc_a_heldV) 2 (a.held.map pceCells), slF (.slice ra_b_heldV b.held.length rc_b_heldV) 2 (b.held.map pceCells)]⟩ rfl (by kernel_rfl) (by kernel_rfl) (by kernel_rfl) (fun _ _ h => h) (by kernel_rfl) rfl rfl (by kernel_rfl) (by kernel_rfl) (by kernel_rfl) (by kernel_rfl) (by omega) hAq8 hq9.2 (by kernel_rfl) (by kernel_rfl) ?_
              refine xd_take 9 (.v (.agg (pceL y).toArray)) ⟨[(57, .v (.agg (pceL y).toArray)), (56, .r 1 0), (55, .v (.int .i64 (k : Int))), (54, .v (.slice ra_b_heldV b.held.length rc_b_heldV)), (53, .p 1 2), (52, .v (.agg (pceL x).toArray)), (51, .r 0 0), (50, .v (.int .i64 (k : Int))), (49, .v (.slice ra_a_heldV a.held.length rc_a_heldV)), (48, .p 0 2), (2, .p 0 0), (3, .p 1 0), (5, .v (.int .i64 (k : Int))), (45, .v (.bool (decide ((k : Int) < ((a.held.length : Nat) : Int)))))], [⟨49, rcvL a (.slice ra_a_heldV a.held.length rc_a_heldV)⟩, ⟨49, rcvL b (.slice ra_b_heldV b.held.length rc_b_heldV)⟩], [[.int .i64 x.off, .string x.text], [.int .i64 y.off, .string y.text]], [slF (.slice ra_a_heldV a.held.length rc_a_heldV) 2 (a.held.map pceCells), slF (.slice ra_b_heldV b.held.length rc_b_heldV) 2 (b.held.map pceCells)]⟩ rfl (by kernel_rfl) (by kernel_rfl) (by kernel_rfl) (fun _ _ h => h) (by kernel_rfl) (by kernel_rfl) rfl (by kernel_rfl) ?_
              refine xd_op 10 (.bool (!pceEq x y)) ⟨[(58, .v (.bool (!pceEq x y))), (57, .v (.agg (pceL y).toArray)), (56, .r 1 0), (55, .v (.int .i64 (k : Int))), (54, .v (.slice ra_b_heldV b.held.length rc_b_heldV)), (53, .p 1 2), (52, .v (.agg (pceL x).toArray)), (51, .r 0 0), (50, .v (.int .i64 (k : Int))), (49, .v (.slice ra_a_heldV a.held.length rc_a_heldV)), (48, .p 0 2), (2, .p 0 0), (3, .p 1 0), (5, .v (.int .i64 (k : Int))), (45, .v (.bool (decide ((k : Int) < ((a.held.length : Nat) : Int)))))], [⟨49, rcvL a (.slice ra_a_heldV a.held.length rc_a_heldV)⟩, ⟨49, rcvL b (.slice ra_b_heldV b.held.length rc_b_heldV)⟩], [[.int .i64 x.off, .string x.text], [.int .i64 y.off, .string y.text]], [slF (.slice ra_a_heldV a.held.length rc_a_heldV) 2 (a.held.map pceCells), slF (.slice ra_b_heldV b.held.length rc_b_heldV) 2 (b.held.map pceCells)]⟩ rfl (by kernel_rfl) (by kernel_rfl) (by kernel_rfl) (fun _ _ h => h) (by kernel_rfl) rfl (fun _ _ _ ww hr => bin_run hr rfl (by kernel_rfl) (by kernel_rfl) (agg_run (by kernel_rfl) (run_neq_PCE x.off x.text y.off y.text ww))) (by kernel_rfl) ?_
              refine xd_done (by kernel_rfl) ?_
              refine xw_cond (b := !pceEq x y) (by kernel_rfl) (fun h10 => ?_) (fun h10 => ?_)
              · skip
                have hno := sameL_no hx hy (by simpa using h10)
                refine xw_seq ?_
                refine xw_region ?_
                refine xl_end [4] ⟨[(4, .v (.bool false))], [⟨49, rcvL a (.slice ra_a_heldV a.held.length rc_a_heldV)⟩, ⟨49, rcvL b (.slice ra_b_heldV b.held.length rc_b_heldV)⟩], [[.int .i64 x.off, .string x.text], [.int .i64 y.off, .string y.text]], [slF (.slice ra_a_heldV a.held.length rc_a_heldV) 2 (a.held.map pceCells), slF (.slice ra_b_heldV b.held.length rc_b_heldV) 2 (b.held.map pceCells)]⟩ (by kernel_rfl) ?_
                refine xw_ret ?_
                exact ⟨[.bool false], by kernel_rfl, fun w' hb hf => ⟨ret_bool (show (false : Bool) = sameReceiver a b from by first | rfl | (simp [sameReceiver, *]; done) | grind [sameReceiver, sameL_len]), hb⟩⟩
              · skip
                have hye : pceEq x y = true := by simpa using h10
                refine xw_skip ?_
                refine xw_region ?_
                refine xl_run 3 [2, 3, 5] ⟨[(2, .p 0 0), (3, .p 1 0), (5, .v (.int .i64 (IntKind.i64.wrap ((k : Int) + 1))))], [⟨49, rcvL a (.slice ra_a_heldV a.held.length rc_a_heldV)⟩, ⟨49, rcvL b (.slice ra_b_heldV b.held.length rc_b_heldV)⟩], [[.int .i64 x.off, .string x.text], [.int .i64 y.off, .string y.text]], [slF (.slice ra_a_heldV a.held.length rc_a_heldV) 2 (a.held.map pceCells), slF (.slice ra_b_heldV b.held.length rc_b_heldV) 2 (b.held.map pceCells)]⟩ (by kernel_rfl) ?_
                refine xl_eq (st' := ⟨[(2, .p 0 0), (3, .p 1 0), (5, .v (.int .i64 ((k : Int) + 1)))], [⟨49, rcvL a (.slice ra_a_heldV a.held.length rc_a_heldV)⟩, ⟨49, rcvL b (.slice ra_b_heldV b.held.length rc_b_heldV)⟩], [[.int .i64 x.off, .string x.text], [.int .i64 y.off, .string y.text]], [slF (.slice ra_a_heldV a.held.length rc_a_heldV) 2 (a.held.map pceCells), slF (.slice ra_b_heldV b.held.length rc_b_heldV) 2 (b.held.map pceCells)]⟩) (by rw [show IntKind.i64.wrap ((k : Int) + 1) = (k : Int) + 1 from wrap_id (by omega) (by omega)]) ?_
                refine xl_end [2, 3, 5] ⟨[(2, .p 0 0), (3, .p 1 0), (5, .v (.int .i64 ((k : Int) + 1)))], [⟨49, rcvL a (.slice ra_a_heldV a.held.length rc_a_heldV)⟩, ⟨49, rcvL b (.slice ra_b_heldV b.held.length rc_b_heldV)⟩], [[.int .i64 x.off, .string x.text], [.int .i64 y.off, .string y.text]], [slF (.slice ra_a_heldV a.held.length rc_a_heldV) 2 (a.held.map pceCells), slF (.slice ra_b_heldV b.held.length rc_b_heldV) 2 (b.held.map pceCells)]⟩ (by kernel_rfl) ?_
                exact ⟨⟨(k + 1), ⟨by omega, same_step hx hy hye HK⟩⟩, wk_forget 2 0 [2, 3, 5] (by kernel_rfl) (by kernel_rfl) (by kernel_rfl), by show a.held.length - (k + 1) < a.held.length - k; omega⟩
            · skip
              have h6p : ¬ ((k : Int) < ((a.held.length : Nat) : Int)) := of_decide_eq_false h6
              have hge : k = a.held.length := by simp at h6; omega
              have hall := sameL_nil_of hge hlen HK
              refine xw_exit ?_
              refine xw_seq ?_
              refine xw_region ?_
              refine xl_end [4] ⟨[(4, .v (.bool true))], [⟨49, rcvL a (.slice ra_a_heldV a.held.length rc_a_heldV)⟩, ⟨49, rcvL b (.slice ra_b_heldV b.held.length rc_b_heldV)⟩], [], [slF (.slice ra_a_heldV a.held.length rc_a_heldV) 2 (a.held.map pceCells), slF (.slice ra_b_heldV b.held.length rc_b_heldV) 2 (b.held.map pceCells)]⟩ (by kernel_rfl) ?_
              refine xw_ret ?_
              exact ⟨[.bool true], by kernel_rfl, fun w' hb hf => ⟨ret_bool (show (true : Bool) = sameReceiver a b from by first | rfl | (simp [sameReceiver, *]; done) | grind [sameReceiver, sameL_len]), hb⟩⟩
theorem yEqualPiece_c (a : List Pce) (aV : Value) (b : List Pce) (bV : Value) (w : World) (hl_aV : Sl w aV 2 (a.map pceCells)) (hl_bV : Sl w bV 2 (b.map pceCells))  : Calls Try.prog 128 #[aV, bV] w fun e w' => e = .returned (.bool (sameL pceEq a b)) ∧ Below w.heap.size w w' := by
  obtain ⟨ra_aV, rc_aV, hv_aV⟩ := hl_aV.form
  rw [List.length_map] at hv_aV; subst hv_aV
  have hn_aV := hl_aV.len; rw [List.length_map] at hn_aV
  obtain ⟨ra_bV, rc_bV, hv_bV⟩ := hl_bV.form
  rw [List.length_map] at hv_bV; subst hv_bV
  have hn_bV := hl_bV.len; rw [List.length_map] at hn_bV
  refine x_calls (args := [.slice ra_aV a.length rc_aV, .slice ra_bV b.length rc_bV]) (fn := Try.f128) [slF (.slice ra_aV a.length rc_aV) 2 (a.map pceCells), slF (.slice ra_bV b.length rc_bV) 2 (b.map pceCells)] Try.func128 rfl Try.ntmps128 rfl (by simp only [List.mem_cons, List.not_mem_nil, or_false, forall_eq_or_imp, forall_eq]; exact ⟨⟨rfl, hl_aV⟩, ⟨rfl, hl_bV⟩⟩) ?_
  refine xw_seq ?_
  refine xw_region ?_
  refine xl_end [0, 1] ⟨[(0, .v (.slice ra_aV a.length rc_aV)), (1, .v (.slice ra_bV b.length rc_bV))], [], [], [slF (.slice ra_aV a.length rc_aV) 2 (a.map pceCells), slF (.slice ra_bV b.length rc_bV) 2 (b.map pceCells)]⟩ (by kernel_rfl) ?_
  refine xw_seq ?_
  refine xw_seq ?_
  refine xw_region ?_
  refine xl_end [0, 1, 10] ⟨[(0, .v (.slice ra_aV a.length rc_aV)), (1, .v (.slice ra_bV b.length rc_bV)), (10, .v (.bool (((a.length : Nat) : Int) != ((b.length : Nat) : Int))))], [], [], [slF (.slice ra_aV a.length rc_aV) 2 (a.map pceCells), slF (.slice ra_bV b.length rc_bV) 2 (b.map pceCells)]⟩ (by kernel_rfl) ?_
  refine xw_cond (b := ((a.length : Nat) : Int) != ((b.length : Nat) : Int)) (by kernel_rfl) (fun h1 => ?_) (fun h1 => ?_)
  · skip
    have h1p := h1; simp only [beq_iff_eq, bne_iff_ne, beq_eq_false_iff_ne, bne_eq_false_iff_eq, ne_eq, toList_lit0] at h1p
    refine xw_seq ?_
    refine xw_region ?_
    refine xl_end [4] ⟨[(4, .v (.bool false))], [], [], [slF (.slice ra_aV a.length rc_aV) 2 (a.map pceCells), slF (.slice ra_bV b.length rc_bV) 2 (b.map pceCells)]⟩ (by kernel_rfl) ?_
    refine xw_ret ?_
    exact ⟨[.bool false], by kernel_rfl, fun w' hb hf => ⟨ret_bool (show (false : Bool) = sameL pceEq a b from by first | rfl | (simp [sameL_len, *]; done) | grind [sameL_len, sameL_len]), hb⟩⟩
  · skip
    have h1p := h1; simp only [beq_iff_eq, bne_iff_ne, beq_eq_false_iff_ne, bne_eq_false_iff_eq, ne_eq, toList_lit0] at h1p
    refine xw_skip ?_
    refine xw_seq ?_
    refine xw_seq ?_
    refine xw_region ?_
    refine xl_end [0, 1, 12, 13] ⟨[(0, .v (.slice ra_aV a.length rc_aV)), (1, .v (.slice ra_bV b.length rc_bV)), (12, .v (.int .i64 ((a.length : Nat) : Int))), (13, .v (.int .i64 0))], [], [], [slF (.slice ra_aV a.length rc_aV) 2 (a.map pceCells), slF (.slice ra_bV b.length rc_bV) 2 (b.map pceCells)]⟩ (by kernel_rfl) ?_
    refine xw_block ?_
    have hlen : a.length = b.length := by omega
    refine xw_loopW (α := {x : Nat // (fun (k : Nat) => k ≤ a.length ∧ ∀ (i : Nat) (x y : Pce), i < k → a[i]? = some x → b[i]? = some y → pceEq x y = true) x}) (fun x => (fun (k : Nat) => (⟨[(0, .v (.slice ra_aV a.length rc_aV)), (1, .v (.slice ra_bV b.length rc_bV)), (12, .v (.int .i64 ((a.length : Nat) : Int))), (13, .v (.int .i64 (k : Int)))], [], [], [slF (.slice ra_aV a.length rc_aV) 2 (a.map pceCells), slF (.slice ra_bV b.length rc_bV) 2 (b.map pceCells)]⟩ : St)) x.1) (fun x => a.length - x.1) ⟨(0), ⟨Nat.zero_le _, fun i x y hi => by omega⟩⟩ (wk_forget 0 0 [0, 1, 12, 13] (by kernel_rfl) (by kernel_rfl) (by kernel_rfl)) ?_
    rintro ⟨k, hk, HK⟩
    refine xw_wk (Wk.of_eq (s' := ⟨[(0, .v (.slice ra_aV a.length rc_aV)), (1, .v (.slice ra_bV b.length rc_bV)), (12, .v (.int .i64 ((a.length : Nat) : Int))), (13, .v (.int .i64 (k : Int)))], [], [], [slF (.slice ra_aV a.length rc_aV) 2 (a.map pceCells), slF (.slice ra_bV b.length rc_bV) 2 (b.map pceCells)]⟩) rfl) ?_
    try dsimp only at hk HK
    refine xw_seq ?_
    refine xw_region ?_
    refine xl_end [0, 1, 12, 13, 14] ⟨[(0, .v (.slice ra_aV a.length rc_aV)), (1, .v (.slice ra_bV b.length rc_bV)), (12, .v (.int .i64 ((a.length : Nat) : Int))), (13, .v (.int .i64 (k : Int))), (14, .v (.bool (decide ((k : Int) < ((a.length : Nat) : Int)))))], [], [], [slF (.slice ra_aV a.length rc_aV) 2 (a.map pceCells), slF (.slice ra_bV b.length rc_bV) 2 (b.map pceCells)]⟩ (by kernel_rfl) ?_
    refine xw_seq ?_
    refine xw_cond (b := decide ((k : Int) < ((a.length : Nat) : Int))) (by kernel_rfl) (fun h2 => ?_) (fun h2 => ?_)
    · skip
      have h2p : ((k : Int) < ((a.length : Nat) : Int)) := of_decide_eq_true h2
      have hlt : k < a.length := by simpa using h2
      obtain ⟨x, hx⟩ : ∃ x, a[k]? = some x := ⟨_, List.getElem?_eq_getElem hlt⟩
      obtain ⟨y, hy⟩ : ∃ y, b[k]? = some y := ⟨_, List.getElem?_eq_getElem (by omega)⟩
      refine xw_skip ?_
      refine xw_seq ?_
      refine xw_block ?_
      refine xw_seq ?_
      refine xw_region ?_
      refine xl_end [0, 1, 5, 12, 13] ⟨[(0, .v (.slice ra_aV a.length rc_aV)), (1, .v (.slice ra_bV b.length rc_bV)), (5, .v (.int .i64 (k : Int))), (12, .v (.int .i64 ((a.length : Nat) : Int))), (13, .v (.int .i64 (k : Int)))], [], [], [slF (.slice ra_aV a.length rc_aV) 2 (a.map pceCells), slF (.slice ra_bV b.length rc_bV) 2 (b.map pceCells)]⟩ (by kernel_rfl) ?_
      refine xw_seq ?_
      refine xws_start ?_
      refine xws_row (K := 2) (j := k) [.int .i64 x.off, .string x.text] (slF (.slice ra_aV a.length rc_aV) 2 (a.map pceCells)) (fun _ _ h => h) (by simp) (fun w h => h) (fun b h => h) (by simp only [List.getElem?_map, hx]; rfl) (fun bq3 offq3 hAq3 => ?_)
      refine xws_row (K := 2) (j := k) [.int .i64 y.off, .string y.text] (slF (.slice ra_bV b.length rc_bV) 2 (b.map pceCells)) (fun _ _ h => h) (by simp) (fun w h => h) (fun b h => h) (by simp only [List.getElem?_map, hy]; rfl) (fun bq4 offq4 hAq4 => ?_)
      refine xws_region (by kernel_rfl) (fun ρ σ hq5 => ?_)
      refine xd_take 0 (.v (.slice ra_aV a.length rc_aV)) ⟨[(16, .v (.slice ra_aV a.length rc_aV)), (0, .v (.slice ra_aV a.length rc_aV)), (1, .v (.slice ra_bV b.length rc_bV)), (5, .v (.int .i64 (k : Int))), (12, .v (.int .i64 ((a.length : Nat) : Int))), (13, .v (.int .i64 (k : Int)))], [], [[.int .i64 x.off, .string x.text], [.int .i64 y.off, .string y.text]], [slF (.slice ra_aV a.length rc_aV) 2 (a.map pceCells), slF (.slice ra_bV b.length rc_bV) 2 (b.map pceCells)]⟩ rfl (by kernel_rfl) (by kernel_rfl) (by kernel_rfl) (fun _ _ h => h) (by kernel_rfl) (by kernel_rfl) rfl (by kernel_rfl) ?_
      refine xd_take 1 (.v (.int .i64 (k : Int))) ⟨[(17, .v (.int .i64 (k : Int))), (16, .v (.slice ra_aV a.length rc_aV)), (0, .v (.slice ra_aV a.length rc_aV)), (1, .v (.slice ra_bV b.length rc_bV)), (5, .v (.int .i64 (k : Int))), (12, .v (.int .i64 ((a.length : Nat) : Int))), (13, .v (.int .i64 (k : Int)))], [], [[.int .i64 x.off, .string x.text], [.int .i64 y.off, .string y.text]], [slF (.slice ra_aV a.length rc_aV) 2 (a.map pceCells), slF (.slice ra_bV b.length rc_bV) 2 (b.map pceCells)]⟩ rfl (by kernel_rfl) (by kernel_rfl) (by kernel_rfl) (fun _ _ h => h) (by kernel_rfl) (by kernel_rfl) rfl (by kernel_rfl) ?_
      refine xd_takeI (kd := .i64) (T := 47) (e := 122) (K := 2) (j := k) (A := ra_aV) (len := a.length) (cap := rc_aV) 2 0 ⟨[(18, .r 0 0), (17, .v (.int .i64 (k : Int))), (16, .v (.slice ra_aV a.length rc_aV)), (0, .v (.slice ra_aV a.length rc_aV)), (1, .v (.slice ra_bV b.length rc_bV)), (5, .v (.int .i64 (k : Int))), (12, .v (.int .i64 ((a.length : Nat) : Int))), (13, .v (.int .i64 (k : Int)))], [], [[.int .i64 x.off, .string x.text], [.int .i64 y.off, .string y.text]], [slF (.slice ra_aV a.length rc_aV) 2 (a.map pceCells), slF (.slice ra_bV b.length rc_bV) 2 (b.map pceCells)]⟩ rfl (by kernel_rfl) (by kernel_rfl) (by kernel_rfl) (fun _ _ h => h) (by kernel_rfl) rfl rfl (by kernel_rfl) (by kernel_rfl) (by kernel_rfl) (by kernel_rfl) hlt hAq3 hq5.1.2 (by kernel_rfl) (by kernel_rfl) ?_
      refine xd_take 3 (.v (.agg (pceL x).toArray)) ⟨[(19, .v (.agg (pceL x).toArray)), (18, .r 0 0), (17, .v (.int .i64 (k : Int))), (16, .v (.slice ra_aV a.length rc_aV)), (0, .v (.slice ra_aV a.length rc_aV)), (1, .v (.slice ra_bV b.length rc_bV)), (5, .v (.int .i64 (k : Int))), (12, .v (.int .i64 ((a.length : Nat) : Int))), (13, .v (.int .i64 (k : Int)))], [], [[.int .i64 x.off, .string x.text], [.int .i64 y.off, .string y.text]], [slF (.slice ra_aV a.length rc_aV) 2 (a.map pceCells), slF (.slice ra_bV b.length rc_bV) 2 (b.map pceCells)]⟩ rfl (by kernel_rfl) (by kernel_rfl) (by kernel_rfl) (fun _ _ h => h) (by kernel_rfl) (by kernel_rfl) rfl (by kernel_rfl) ?_
      refine xd_take 4 (.v (.slice ra_bV b.length rc_bV)) ⟨[(20, .v (.slice ra_bV b.length rc_bV)), (19, .v (.agg (pceL x).toArray)), (18, .r 0 0), (17, .v (.int .i64 (k : Int))), (16, .v (.slice ra_aV a.length rc_aV)), (0, .v (.slice ra_aV a.length rc_aV)), (1, .v (.slice ra_bV b.length rc_bV)), (5, .v (.int .i64 (k : Int))), (12, .v (.int .i64 ((a.length : Nat) : Int))), (13, .v (.int .i64 (k : Int)))], [], [[.int .i64 x.off, .string x.text], [.int .i64 y.off, .string y.text]], [slF (.slice ra_aV a.length rc_aV) 2 (a.map pceCells), slF (.slice ra_bV b.length rc_bV) 2 (b.map pceCells)]⟩ rfl (by kernel_rfl) (by kernel_rfl) (by kernel_rfl) (fun _ _ h => h) (by kernel_rfl) (by kernel_rfl) rfl (by kernel_rfl) ?_
      refine xd_take 5 (.v (.int .i64 (k : Int))) ⟨[(21, .v (.int .i64 (k : Int))), (20, .v (.slice ra_bV b.length rc_bV)), (19, .v (.agg (pceL x).toArray)), (18, .r 0 0), (17, .v (.int .i64 (k : Int))), (16, .v (.slice ra_aV a.length rc_aV)), (0, .v (.slice ra_aV a.length rc_aV)), (1, .v (.slice ra_bV b.length rc_bV)), (5, .v (.int .i64 (k : Int))), (12, .v (.int .i64 ((a.length : Nat) : Int))), (13, .v (.int .i64 (k : Int)))], [], [[.int .i64 x.off, .string x.text], [.int .i64 y.off, .string y.text]], [slF (.slice ra_aV a.length rc_aV) 2 (a.map pceCells), slF (.slice ra_bV b.length rc_bV) 2 (b.map pceCells)]⟩ rfl (by kernel_rfl) (by kernel_rfl) (by kernel_rfl) (fun _ _ h => h) (by kernel_rfl) (by kernel_rfl) rfl (by kernel_rfl) ?_
      refine xd_takeI (kd := .i64) (T := 47) (e := 122) (K := 2) (j := k) (A := ra_bV) (len := b.length) (cap := rc_bV) 6 1 ⟨[(22, .r 1 0), (21, .v (.int .i64 (k : Int))), (20, .v (.slice ra_bV b.length rc_bV)), (19, .v (.agg (pceL x).toArray)), (18, .r 0 0), (17, .v (.int .i64 (k : Int))), (16, .v (.slice ra_aV a.length rc_aV)), (0, .v (.slice ra_aV a.length rc_aV)), (1, .v (.slice ra_bV b.length rc_bV)), (5, .v (.int .i64 (k : Int))), (12, .v (.int .i64 ((a.length : Nat) : Int))), (13, .v (.int .i64 (k : Int)))], [], [[.int .i64 x.off, .string x.text], [.int .i64 y.off, .string y.text]], [slF (.slice ra_aV a.length rc_aV) 2 (a.map pceCells), slF (.slice ra_bV b.length rc_bV) 2 (b.map pceCells)]⟩ rfl (by kernel_rfl) (by kernel_rfl) (by kernel_rfl) (fun _ _ h => h) (by kernel_rfl) rfl rfl (by kernel_rfl) (by kernel_rfl) (by kernel_rfl) (by kernel_rfl) (by omega) hAq4 hq5.2 (by kernel_rfl) (by kernel_rfl) ?_
      refine xd_take 7 (.v (.agg (pceL y).toArray)) ⟨[(23, .v (.agg (pceL y).toArray)), (22, .r 1 0), (21, .v (.int .i64 (k : Int))), (20, .v (.slice ra_bV b.length rc_bV)), (19, .v (.agg (pceL x).toArray)), (18, .r 0 0), (17, .v (.int .i64 (k : Int))), (16, .v (.slice ra_aV a.length rc_aV)), (0, .v (.slice ra_aV a.length rc_aV)), (1, .v (.slice ra_bV b.length rc_bV)), (5, .v (.int .i64 (k : Int))), (12, .v (.int .i64 ((a.length : Nat) : Int))), (13, .v (.int .i64 (k : Int)))], [], [[.int .i64 x.off, .string x.text], [.int .i64 y.off, .string y.text]], [slF (.slice ra_aV a.length rc_aV) 2 (a.map pceCells), slF (.slice ra_bV b.length rc_bV) 2 (b.map pceCells)]⟩ rfl (by kernel_rfl) (by kernel_rfl) (by kernel_rfl) (fun _ _ h => h) (by kernel_rfl) (by kernel_rfl) rfl (by kernel_rfl) ?_
      refine xd_op 8 (.bool (!pceEq x y)) ⟨[(24, .v (.bool (!pceEq x y))), (23, .v (.agg (pceL y).toArray)), (22, .r 1 0), (21, .v (.int .i64 (k : Int))), (20, .v (.slice ra_bV b.length rc_bV)), (19, .v (.agg (pceL x).toArray)), (18, .r 0 0), (17, .v (.int .i64 (k : Int))), (16, .v (.slice ra_aV a.length rc_aV)), (0, .v (.slice ra_aV a.length rc_aV)), (1, .v (.slice ra_bV b.length rc_bV)), (5, .v (.int .i64 (k : Int))), (12, .v (.int .i64 ((a.length : Nat) : Int))), (13, .v (.int .i64 (k : Int)))], [], [[.int .i64 x.off, .string x.text], [.int .i64 y.off, .string y.text]], [slF (.slice ra_aV a.length rc_aV) 2 (a.map pceCells), slF (.slice ra_bV b.length rc_bV) 2 (b.map pceCells)]⟩ rfl (by kernel_rfl) (by kernel_rfl) (by kernel_rfl) (fun _ _ h => h) (by kernel_rfl) rfl (fun _ _ _ ww hr => bin_run hr rfl (by kernel_rfl) (by kernel_rfl) (agg_run (by kernel_rfl) (run_neq_PCE x.off x.text y.off y.text ww))) (by kernel_rfl) ?_
      refine xd_done (by kernel_rfl) ?_
      refine xw_cond (b := !pceEq x y) (by kernel_rfl) (fun h6 => ?_) (fun h6 => ?_)
      · skip
        have hno := sameL_no hx hy (by simpa using h6)
        refine xw_seq ?_
        refine xw_region ?_
        refine xl_end [4] ⟨[(4, .v (.bool false))], [], [[.int .i64 x.off, .string x.text], [.int .i64 y.off, .string y.text]], [slF (.slice ra_aV a.length rc_aV) 2 (a.map pceCells), slF (.slice ra_bV b.length rc_bV) 2 (b.map pceCells)]⟩ (by kernel_rfl) ?_
        refine xw_ret ?_
        exact ⟨[.bool false], by kernel_rfl, fun w' hb hf => ⟨ret_bool (show (false : Bool) = sameL pceEq a b from by first | rfl | (simp [sameL_len, *]; done) | grind [sameL_len, sameL_len]), hb⟩⟩
      · skip
        have hye : pceEq x y = true := by simpa using h6
        refine xw_skip ?_
        refine xw_region ?_
        refine xl_run 2 [0, 1, 12, 13] ⟨[(0, .v (.slice ra_aV a.length rc_aV)), (1, .v (.slice ra_bV b.length rc_bV)), (12, .v (.int .i64 ((a.length : Nat) : Int))), (13, .v (.int .i64 (IntKind.i64.wrap ((k : Int) + 1))))], [], [[.int .i64 x.off, .string x.text], [.int .i64 y.off, .string y.text]], [slF (.slice ra_aV a.length rc_aV) 2 (a.map pceCells), slF (.slice ra_bV b.length rc_bV) 2 (b.map pceCells)]⟩ (by kernel_rfl) ?_
        refine xl_eq (st' := ⟨[(0, .v (.slice ra_aV a.length rc_aV)), (1, .v (.slice ra_bV b.length rc_bV)), (12, .v (.int .i64 ((a.length : Nat) : Int))), (13, .v (.int .i64 ((k : Int) + 1)))], [], [[.int .i64 x.off, .string x.text], [.int .i64 y.off, .string y.text]], [slF (.slice ra_aV a.length rc_aV) 2 (a.map pceCells), slF (.slice ra_bV b.length rc_bV) 2 (b.map pceCells)]⟩) (by rw [show IntKind.i64.wrap ((k : Int) + 1) = (k : Int) + 1 from wrap_id (by omega) (by omega)]) ?_
        refine xl_end [0, 1, 12, 13] ⟨[(0, .v (.slice ra_aV a.length rc_aV)), (1, .v (.slice ra_bV b.length rc_bV)), (12, .v (.int .i64 ((a.length : Nat) : Int))), (13, .v (.int .i64 ((k : Int) + 1)))], [], [[.int .i64 x.off, .string x.text], [.int .i64 y.off, .string y.text]], [slF (.slice ra_aV a.length rc_aV) 2 (a.map pceCells), slF (.slice ra_bV b.length rc_bV) 2 (b.map pceCells)]⟩ (by kernel_rfl) ?_
        exact ⟨⟨(k + 1), ⟨by omega, same_step hx hy hye HK⟩⟩, wk_forget 0 0 [0, 1, 12, 13] (by kernel_rfl) (by kernel_rfl) (by kernel_rfl), by show a.length - (k + 1) < a.length - k; omega⟩
    · skip
      have h2p : ¬ ((k : Int) < ((a.length : Nat) : Int)) := of_decide_eq_false h2
      have hge : k = a.length := by simp at h2; omega
      have hall := sameL_nil_of hge hlen HK
      refine xw_exit ?_
      refine xw_seq ?_
      refine xw_region ?_
      refine xl_end [4] ⟨[(4, .v (.bool true))], [], [], [slF (.slice ra_aV a.length rc_aV) 2 (a.map pceCells), slF (.slice ra_bV b.length rc_bV) 2 (b.map pceCells)]⟩ (by kernel_rfl) ?_
      refine xw_ret ?_
      exact ⟨[.bool true], by kernel_rfl, fun w' hb hf => ⟨ret_bool (show (true : Bool) = sameL pceEq a b from by first | rfl | (simp [sameL_len, *]; done) | grind [sameL_len, sameL_len]), hb⟩⟩
theorem yiSameReceiver_c (a : Rcv) (a_heldV : Value) (b : Rcv) (b_heldV : Value) (w : World) (hl_a_heldV : Sl w a_heldV 2 (a.held.map pceCells)) (hl_b_heldV : Sl w b_heldV 2 (b.held.map pceCells))  : Calls Try.prog 86 #[.agg (rcvL a a_heldV).toArray, .agg (rcvL b b_heldV).toArray] w fun e w' => e = .returned (.bool (sameReceiver a b)) ∧ Below w.heap.size w w' := by
  obtain ⟨ra_a_heldV, rc_a_heldV, hv_a_heldV⟩ := hl_a_heldV.form
  rw [List.length_map] at hv_a_heldV; subst hv_a_heldV
  have hn_a_heldV := hl_a_heldV.len; rw [List.length_map] at hn_a_heldV
  obtain ⟨ra_b_heldV, rc_b_heldV, hv_b_heldV⟩ := hl_b_heldV.form
  rw [List.length_map] at hv_b_heldV; subst hv_b_heldV
  have hn_b_heldV := hl_b_heldV.len; rw [List.length_map] at hn_b_heldV
  refine x_calls (args := [.agg (rcvL a (.slice ra_a_heldV a.held.length rc_a_heldV)).toArray, .agg (rcvL b (.slice ra_b_heldV b.held.length rc_b_heldV)).toArray]) (fn := Try.f86) [slF (.slice ra_a_heldV a.held.length rc_a_heldV) 2 (a.held.map pceCells), slF (.slice ra_b_heldV b.held.length rc_b_heldV) 2 (b.held.map pceCells)] Try.func86 rfl Try.ntmps86 rfl (by simp only [List.mem_cons, List.not_mem_nil, or_false, forall_eq_or_imp, forall_eq]; exact ⟨⟨rfl, hl_a_heldV⟩, ⟨rfl, hl_b_heldV⟩⟩) ?_
  refine xw_seq ?_
  refine xw_region ?_
  refine xl_end [2, 3] ⟨[(2, .p 0 0), (3, .p 1 0)], [⟨49, rcvL a (.slice ra_a_heldV a.held.length rc_a_heldV)⟩, ⟨49, rcvL b (.slice ra_b_heldV b.held.length rc_b_heldV)⟩], [], [slF (.slice ra_a_heldV a.held.length rc_a_heldV) 2 (a.held.map pceCells), slF (.slice ra_b_heldV b.held.length rc_b_heldV) 2 (b.held.map pceCells)]⟩ (by kernel_rfl) ?_
  refine xw_seq ?_
  refine xw_region ?_
  refine xl_run 6 [2, 3, 10] ⟨[(2, .p 0 0), (3, .p 1 0), (10, .v (.bool (a.next == b.next)))], [⟨49, rcvL a (.slice ra_a_heldV a.held.length rc_a_heldV)⟩, ⟨49, rcvL b (.slice ra_b_heldV b.held.length rc_b_heldV)⟩], [], [slF (.slice ra_a_heldV a.held.length rc_a_heldV) 2 (a.held.map pceCells), slF (.slice ra_b_heldV b.held.length rc_b_heldV) 2 (b.held.map pceCells)]⟩ (by kernel_rfl) ?_
  refine xl_split 10 (b := a.next == b.next) (by kernel_rfl) (fun h1 => ?_) (fun h1 => ?_)
  · skip
    have h1p := h1; simp only [beq_iff_eq, bne_iff_ne, beq_eq_false_iff_ne, bne_eq_false_iff_eq, ne_eq, toList_lit0] at h1p
    refine xl_run 7 [2, 3, 17] ⟨[(2, .p 0 0), (3, .p 1 0), (17, .v (.bool (a.data.toList == b.data.toList)))], [⟨49, rcvL a (.slice ra_a_heldV a.held.length rc_a_heldV)⟩, ⟨49, rcvL b (.slice ra_b_heldV b.held.length rc_b_heldV)⟩], [], [slF (.slice ra_a_heldV a.held.length rc_a_heldV) 2 (a.held.map pceCells), slF (.slice ra_b_heldV b.held.length rc_b_heldV) 2 (b.held.map pceCells)]⟩ (by kernel_rfl) ?_
    refine xl_split 17 (b := a.data.toList == b.data.toList) (by kernel_rfl) (fun h2 => ?_) (fun h2 => ?_)
    · skip
      have h2p := h2; simp only [beq_iff_eq, bne_iff_ne, beq_eq_false_iff_ne, bne_eq_false_iff_eq, ne_eq, toList_lit0] at h2p
      refine xl_call 4 [2, 3, 17, 19, 21] ⟨[(2, .p 0 0), (3, .p 1 0), (17, .v (.bool true)), (19, .v (.slice ra_a_heldV a.held.length rc_a_heldV)), (21, .v (.slice ra_b_heldV b.held.length rc_b_heldV))], [⟨49, rcvL a (.slice ra_a_heldV a.held.length rc_a_heldV)⟩, ⟨49, rcvL b (.slice ra_b_heldV b.held.length rc_b_heldV)⟩], [], [slF (.slice ra_a_heldV a.held.length rc_a_heldV) 2 (a.held.map pceCells), slF (.slice ra_b_heldV b.held.length rc_b_heldV) 2 (b.held.map pceCells)]⟩ 128 [.slice ra_a_heldV a.held.length rc_a_heldV, .slice ra_b_heldV b.held.length rc_b_heldV] (some 22) (by kernel_rfl) rfl (by kernel_rfl) rfl (by kernel_rfl) (xc_b fun ww hf => yEqualPiece_c a.held (.slice ra_a_heldV a.held.length rc_a_heldV) b.held (.slice ra_b_heldV b.held.length rc_b_heldV) ww (hf (slF (.slice ra_a_heldV a.held.length rc_a_heldV) 2 (a.held.map pceCells)) (by simp)) (hf (slF (.slice ra_b_heldV b.held.length rc_b_heldV) 2 (b.held.map pceCells)) (by simp)) ) ?_
      intro _
      refine xl_run 2 [2, 3, 24] ⟨[(2, .p 0 0), (3, .p 1 0), (24, .v (.bool (sameL pceEq a.held b.held)))], [⟨49, rcvL a (.slice ra_a_heldV a.held.length rc_a_heldV)⟩, ⟨49, rcvL b (.slice ra_b_heldV b.held.length rc_b_heldV)⟩], [], [slF (.slice ra_a_heldV a.held.length rc_a_heldV) 2 (a.held.map pceCells), slF (.slice ra_b_heldV b.held.length rc_b_heldV) 2 (b.held.map pceCells)]⟩ (by kernel_rfl) ?_
      refine xl_split 24 (b := sameL pceEq a.held b.held) (by kernel_rfl) (fun h3 => ?_) (fun h3 => ?_)
      · skip
        refine xl_run 7 [2, 3, 31] ⟨[(2, .p 0 0), (3, .p 1 0), (31, .v (.bool (a.fin == b.fin)))], [⟨49, rcvL a (.slice ra_a_heldV a.held.length rc_a_heldV)⟩, ⟨49, rcvL b (.slice ra_b_heldV b.held.length rc_b_heldV)⟩], [], [slF (.slice ra_a_heldV a.held.length rc_a_heldV) 2 (a.held.map pceCells), slF (.slice ra_b_heldV b.held.length rc_b_heldV) 2 (b.held.map pceCells)]⟩ (by kernel_rfl) ?_
        refine xl_split 31 (b := a.fin == b.fin) (by kernel_rfl) (fun h4 => ?_) (fun h4 => ?_)
        · skip
          have h4p := h4; simp only [beq_iff_eq, bne_iff_ne, beq_eq_false_iff_ne, bne_eq_false_iff_eq, ne_eq, toList_lit0] at h4p
          refine xl_end [4] ⟨[(4, .v (.bool (a.done == b.done)))], [⟨49, rcvL a (.slice ra_a_heldV a.held.length rc_a_heldV)⟩, ⟨49, rcvL b (.slice ra_b_heldV b.held.length rc_b_heldV)⟩], [], [slF (.slice ra_a_heldV a.held.length rc_a_heldV) 2 (a.held.map pceCells), slF (.slice ra_b_heldV b.held.length rc_b_heldV) 2 (b.held.map pceCells)]⟩ (by kernel_rfl) ?_
          refine xw_ret ?_
          exact ⟨[.bool (a.done == b.done)], by kernel_rfl, fun w' hb hf => ⟨ret_bool (show (a.done == b.done : Bool) = sameReceiver a b from by first | rfl | (simp [sameReceiver, *]; done) | grind [sameReceiver, sameL_len]), hb⟩⟩
        · skip
          have h4p := h4; simp only [beq_iff_eq, bne_iff_ne, beq_eq_false_iff_ne, bne_eq_false_iff_eq, ne_eq, toList_lit0] at h4p
          refine xl_end [4] ⟨[(4, .v (.bool false))], [⟨49, rcvL a (.slice ra_a_heldV a.held.length rc_a_heldV)⟩, ⟨49, rcvL b (.slice ra_b_heldV b.held.length rc_b_heldV)⟩], [], [slF (.slice ra_a_heldV a.held.length rc_a_heldV) 2 (a.held.map pceCells), slF (.slice ra_b_heldV b.held.length rc_b_heldV) 2 (b.held.map pceCells)]⟩ (by kernel_rfl) ?_
          refine xw_ret ?_
          exact ⟨[.bool false], by kernel_rfl, fun w' hb hf => ⟨ret_bool (show (false : Bool) = sameReceiver a b from by first | rfl | (simp [sameReceiver, *]; done) | grind [sameReceiver, sameL_len]), hb⟩⟩
      · skip
        refine xl_end [4] ⟨[(4, .v (.bool false))], [⟨49, rcvL a (.slice ra_a_heldV a.held.length rc_a_heldV)⟩, ⟨49, rcvL b (.slice ra_b_heldV b.held.length rc_b_heldV)⟩], [], [slF (.slice ra_a_heldV a.held.length rc_a_heldV) 2 (a.held.map pceCells), slF (.slice ra_b_heldV b.held.length rc_b_heldV) 2 (b.held.map pceCells)]⟩ (by kernel_rfl) ?_
        refine xw_ret ?_
        exact ⟨[.bool false], by kernel_rfl, fun w' hb hf => ⟨ret_bool (show (false : Bool) = sameReceiver a b from by first | rfl | (simp [sameReceiver, *]; done) | grind [sameReceiver, sameL_len]), hb⟩⟩
    · skip
      have h2p := h2; simp only [beq_iff_eq, bne_iff_ne, beq_eq_false_iff_ne, bne_eq_false_iff_eq, ne_eq, toList_lit0] at h2p
      refine xl_end [4] ⟨[(4, .v (.bool false))], [⟨49, rcvL a (.slice ra_a_heldV a.held.length rc_a_heldV)⟩, ⟨49, rcvL b (.slice ra_b_heldV b.held.length rc_b_heldV)⟩], [], [slF (.slice ra_a_heldV a.held.length rc_a_heldV) 2 (a.held.map pceCells), slF (.slice ra_b_heldV b.held.length rc_b_heldV) 2 (b.held.map pceCells)]⟩ (by kernel_rfl) ?_
      refine xw_ret ?_
      exact ⟨[.bool false], by kernel_rfl, fun w' hb hf => ⟨ret_bool (show (false : Bool) = sameReceiver a b from by first | rfl | (simp [sameReceiver, *]; done) | grind [sameReceiver, sameL_len]), hb⟩⟩
  · skip
    have h1p := h1; simp only [beq_iff_eq, bne_iff_ne, beq_eq_false_iff_ne, bne_eq_false_iff_eq, ne_eq, toList_lit0] at h1p
    refine xl_end [4] ⟨[(4, .v (.bool false))], [⟨49, rcvL a (.slice ra_a_heldV a.held.length rc_a_heldV)⟩, ⟨49, rcvL b (.slice ra_b_heldV b.held.length rc_b_heldV)⟩], [], [slF (.slice ra_a_heldV a.held.length rc_a_heldV) 2 (a.held.map pceCells), slF (.slice ra_b_heldV b.held.length rc_b_heldV) 2 (b.held.map pceCells)]⟩ (by kernel_rfl) ?_
    refine xw_ret ?_
    exact ⟨[.bool false], by kernel_rfl, fun w' hb hf => ⟨ret_bool (show (false : Bool) = sameReceiver a b from by first | rfl | (simp [sameReceiver, *]; done) | grind [sameReceiver, sameL_len]), hb⟩⟩
theorem ysSameConn_c (a : Con) (a_r_heldV : Value) (b : Con) (b_r_heldV : Value) (w : World) (hl_a_r_heldV : Sl w a_r_heldV 2 (a.r.held.map pceCells)) (hl_b_r_heldV : Sl w b_r_heldV 2 (b.r.held.map pceCells))  : Calls Try.prog 36 #[.agg (conL a a_r_heldV).toArray, .agg (conL b b_r_heldV).toArray] w fun e w' => e = .returned (.bool (sameConn a b)) ∧ Below w.heap.size w w' := by
  obtain ⟨ra_a_r_heldV, rc_a_r_heldV, hv_a_r_heldV⟩ := hl_a_r_heldV.form
  rw [List.length_map] at hv_a_r_heldV; subst hv_a_r_heldV
  have hn_a_r_heldV := hl_a_r_heldV.len; rw [List.length_map] at hn_a_r_heldV
  obtain ⟨ra_b_r_heldV, rc_b_r_heldV, hv_b_r_heldV⟩ := hl_b_r_heldV.form
  rw [List.length_map] at hv_b_r_heldV; subst hv_b_r_heldV
  have hn_b_r_heldV := hl_b_r_heldV.len; rw [List.length_map] at hn_b_r_heldV
  refine x_calls (args := [.agg (conL a (.slice ra_a_r_heldV a.r.held.length rc_a_r_heldV)).toArray, .agg (conL b (.slice ra_b_r_heldV b.r.held.length rc_b_r_heldV)).toArray]) (fn := Try.f36) [slF (.slice ra_a_r_heldV a.r.held.length rc_a_r_heldV) 2 (a.r.held.map pceCells), slF (.slice ra_b_r_heldV b.r.held.length rc_b_r_heldV) 2 (b.r.held.map pceCells)] Try.func36 rfl Try.ntmps36 rfl (by simp only [List.mem_cons, List.not_mem_nil, or_false, forall_eq_or_imp, forall_eq]; exact ⟨⟨rfl, hl_a_r_heldV⟩, ⟨rfl, hl_b_r_heldV⟩⟩) ?_
  refine xw_seq ?_
  refine xw_region ?_
  refine xl_end [2, 3] ⟨[(2, .p 0 0), (3, .p 1 0)], [⟨51, conL a (.slice ra_a_r_heldV a.r.held.length rc_a_r_heldV)⟩, ⟨51, conL b (.slice ra_b_r_heldV b.r.held.length rc_b_r_heldV)⟩], [], [slF (.slice ra_a_r_heldV a.r.held.length rc_a_r_heldV) 2 (a.r.held.map pceCells), slF (.slice ra_b_r_heldV b.r.held.length rc_b_r_heldV) 2 (b.r.held.map pceCells)]⟩ (by kernel_rfl) ?_
  refine xw_seq ?_
  refine xw_region ?_
  refine xl_op 4 [2, 3, 6, 8] ⟨[(2, .p 0 0), (3, .p 1 0), (6, .v (.agg (tupL a.t).toArray)), (8, .v (.agg (tupL b.t).toArray))], [⟨51, conL a (.slice ra_a_r_heldV a.r.held.length rc_a_r_heldV)⟩, ⟨51, conL b (.slice ra_b_r_heldV b.r.held.length rc_b_r_heldV)⟩], [], [slF (.slice ra_a_r_heldV a.r.held.length rc_a_r_heldV) 2 (a.r.held.map pceCells), slF (.slice ra_b_r_heldV b.r.held.length rc_b_r_heldV) 2 (b.r.held.map pceCells)]⟩ (.bool (tupEq a.t b.t)) (by kernel_rfl) rfl (by kernel_rfl) rfl (fun _ _ _ ww hr => bin_run hr rfl (by kernel_rfl) (by kernel_rfl) (agg_run (by kernel_rfl) (run_eql_TUP a.t.ip a.t.port a.t.my b.t.ip b.t.port b.t.my ww))) ?_
  refine xl_run 1 [2, 3, 10] ⟨[(2, .p 0 0), (3, .p 1 0), (10, .v (.bool (tupEq a.t b.t)))], [⟨51, conL a (.slice ra_a_r_heldV a.r.held.length rc_a_r_heldV)⟩, ⟨51, conL b (.slice ra_b_r_heldV b.r.held.length rc_b_r_heldV)⟩], [], [slF (.slice ra_a_r_heldV a.r.held.length rc_a_r_heldV) 2 (a.r.held.map pceCells), slF (.slice ra_b_r_heldV b.r.held.length rc_b_r_heldV) 2 (b.r.held.map pceCells)]⟩ (by kernel_rfl) ?_
  refine xl_split 10 (b := tupEq a.t b.t) (by kernel_rfl) (fun h1 => ?_) (fun h1 => ?_)
  · skip
    refine xl_run 7 [2, 3, 17] ⟨[(2, .p 0 0), (3, .p 1 0), (17, .v (.bool (a.state == b.state)))], [⟨51, conL a (.slice ra_a_r_heldV a.r.held.length rc_a_r_heldV)⟩, ⟨51, conL b (.slice ra_b_r_heldV b.r.held.length rc_b_r_heldV)⟩], [], [slF (.slice ra_a_r_heldV a.r.held.length rc_a_r_heldV) 2 (a.r.held.map pceCells), slF (.slice ra_b_r_heldV b.r.held.length rc_b_r_heldV) 2 (b.r.held.map pceCells)]⟩ (by kernel_rfl) ?_
    refine xl_split 17 (b := a.state == b.state) (by kernel_rfl) (fun h2 => ?_) (fun h2 => ?_)
    · skip
      have h2p := h2; simp only [beq_iff_eq, bne_iff_ne, beq_eq_false_iff_ne, bne_eq_false_iff_eq, ne_eq, toList_lit0] at h2p
      refine xl_op 4 [2, 3, 17, 19, 21] ⟨[(2, .p 0 0), (3, .p 1 0), (17, .v (.bool true)), (19, .v (.agg (sndL a.s).toArray)), (21, .v (.agg (sndL b.s).toArray))], [⟨51, conL a (.slice ra_a_r_heldV a.r.held.length rc_a_r_heldV)⟩, ⟨51, conL b (.slice ra_b_r_heldV b.r.held.length rc_b_r_heldV)⟩], [], [slF (.slice ra_a_r_heldV a.r.held.length rc_a_r_heldV) 2 (a.r.held.map pceCells), slF (.slice ra_b_r_heldV b.r.held.length rc_b_r_heldV) 2 (b.r.held.map pceCells)]⟩ (.bool (sndEq a.s b.s)) (by kernel_rfl) rfl (by kernel_rfl) rfl (fun _ _ _ ww hr => bin_run hr rfl (by kernel_rfl) (by kernel_rfl) (agg_run (by kernel_rfl) (run_eql_SND a.s.una a.s.data a.s.sent a.s.fin a.s.finSent a.s.done b.s.una b.s.data b.s.sent b.s.fin b.s.finSent b.s.done ww))) ?_
      refine xl_run 2 [2, 3, 24] ⟨[(2, .p 0 0), (3, .p 1 0), (24, .v (.bool (sndEq a.s b.s)))], [⟨51, conL a (.slice ra_a_r_heldV a.r.held.length rc_a_r_heldV)⟩, ⟨51, conL b (.slice ra_b_r_heldV b.r.held.length rc_b_r_heldV)⟩], [], [slF (.slice ra_a_r_heldV a.r.held.length rc_a_r_heldV) 2 (a.r.held.map pceCells), slF (.slice ra_b_r_heldV b.r.held.length rc_b_r_heldV) 2 (b.r.held.map pceCells)]⟩ (by kernel_rfl) ?_
      refine xl_split 24 (b := sndEq a.s b.s) (by kernel_rfl) (fun h3 => ?_) (fun h3 => ?_)
      · skip
        refine xl_call 4 [2, 3, 24, 26, 28] ⟨[(2, .p 0 0), (3, .p 1 0), (24, .v (.bool true)), (26, .v (.agg (rcvL a.r (.slice ra_a_r_heldV a.r.held.length rc_a_r_heldV)).toArray)), (28, .v (.agg (rcvL b.r (.slice ra_b_r_heldV b.r.held.length rc_b_r_heldV)).toArray))], [⟨51, conL a (.slice ra_a_r_heldV a.r.held.length rc_a_r_heldV)⟩, ⟨51, conL b (.slice ra_b_r_heldV b.r.held.length rc_b_r_heldV)⟩], [], [slF (.slice ra_a_r_heldV a.r.held.length rc_a_r_heldV) 2 (a.r.held.map pceCells), slF (.slice ra_b_r_heldV b.r.held.length rc_b_r_heldV) 2 (b.r.held.map pceCells)]⟩ 85 [.agg (rcvL a.r (.slice ra_a_r_heldV a.r.held.length rc_a_r_heldV)).toArray, .agg (rcvL b.r (.slice ra_b_r_heldV b.r.held.length rc_b_r_heldV)).toArray] (some 29) (by kernel_rfl) rfl (by kernel_rfl) rfl (by kernel_rfl) (xc_b fun ww hf => ysSameReceiver_c a.r (.slice ra_a_r_heldV a.r.held.length rc_a_r_heldV) b.r (.slice ra_b_r_heldV b.r.held.length rc_b_r_heldV) ww (hf (slF (.slice ra_a_r_heldV a.r.held.length rc_a_r_heldV) 2 (a.r.held.map pceCells)) (by simp)) (hf (slF (.slice ra_b_r_heldV b.r.held.length rc_b_r_heldV) 2 (b.r.held.map pceCells)) (by simp)) ) ?_
        intro _
        refine xl_run 2 [2, 3, 31] ⟨[(2, .p 0 0), (3, .p 1 0), (31, .v (.bool (sameReceiver a.r b.r)))], [⟨51, conL a (.slice ra_a_r_heldV a.r.held.length rc_a_r_heldV)⟩, ⟨51, conL b (.slice ra_b_r_heldV b.r.held.length rc_b_r_heldV)⟩], [], [slF (.slice ra_a_r_heldV a.r.held.length rc_a_r_heldV) 2 (a.r.held.map pceCells), slF (.slice ra_b_r_heldV b.r.held.length rc_b_r_heldV) 2 (b.r.held.map pceCells)]⟩ (by kernel_rfl) ?_
        refine xl_split 31 (b := sameReceiver a.r b.r) (by kernel_rfl) (fun h4 => ?_) (fun h4 => ?_)
        · skip
          refine xl_run 7 [2, 3, 38] ⟨[(2, .p 0 0), (3, .p 1 0), (38, .v (.bool (a.window == b.window)))], [⟨51, conL a (.slice ra_a_r_heldV a.r.held.length rc_a_r_heldV)⟩, ⟨51, conL b (.slice ra_b_r_heldV b.r.held.length rc_b_r_heldV)⟩], [], [slF (.slice ra_a_r_heldV a.r.held.length rc_a_r_heldV) 2 (a.r.held.map pceCells), slF (.slice ra_b_r_heldV b.r.held.length rc_b_r_heldV) 2 (b.r.held.map pceCells)]⟩ (by kernel_rfl) ?_
          refine xl_split 38 (b := a.window == b.window) (by kernel_rfl) (fun h5 => ?_) (fun h5 => ?_)
          · skip
            have h5p := h5; simp only [beq_iff_eq, bne_iff_ne, beq_eq_false_iff_ne, bne_eq_false_iff_eq, ne_eq, toList_lit0] at h5p
            refine xl_run 7 [2, 3, 45] ⟨[(2, .p 0 0), (3, .p 1 0), (45, .v (.bool (a.most == b.most)))], [⟨51, conL a (.slice ra_a_r_heldV a.r.held.length rc_a_r_heldV)⟩, ⟨51, conL b (.slice ra_b_r_heldV b.r.held.length rc_b_r_heldV)⟩], [], [slF (.slice ra_a_r_heldV a.r.held.length rc_a_r_heldV) 2 (a.r.held.map pceCells), slF (.slice ra_b_r_heldV b.r.held.length rc_b_r_heldV) 2 (b.r.held.map pceCells)]⟩ (by kernel_rfl) ?_
            refine xl_split 45 (b := a.most == b.most) (by kernel_rfl) (fun h6 => ?_) (fun h6 => ?_)
            · skip
              have h6p := h6; simp only [beq_iff_eq, bne_iff_ne, beq_eq_false_iff_ne, bne_eq_false_iff_eq, ne_eq, toList_lit0] at h6p
              refine xl_op 4 [2, 3, 45, 47, 49] ⟨[(2, .p 0 0), (3, .p 1 0), (45, .v (.bool true)), (47, .v (.agg (optL a.o).toArray)), (49, .v (.agg (optL b.o).toArray))], [⟨51, conL a (.slice ra_a_r_heldV a.r.held.length rc_a_r_heldV)⟩, ⟨51, conL b (.slice ra_b_r_heldV b.r.held.length rc_b_r_heldV)⟩], [], [slF (.slice ra_a_r_heldV a.r.held.length rc_a_r_heldV) 2 (a.r.held.map pceCells), slF (.slice ra_b_r_heldV b.r.held.length rc_b_r_heldV) 2 (b.r.held.map pceCells)]⟩ (.bool (optEq a.o b.o)) (by kernel_rfl) rfl (by kernel_rfl) rfl (fun _ _ _ ww hr => bin_run hr rfl (by kernel_rfl) (by kernel_rfl) (agg_run (by kernel_rfl) (run_eql_OPT a.o.mss a.o.scale a.o.sack a.o.stamp a.o.val a.o.echo b.o.mss b.o.scale b.o.sack b.o.stamp b.o.val b.o.echo ww))) ?_
              refine xl_run 2 [2, 3, 52] ⟨[(2, .p 0 0), (3, .p 1 0), (52, .v (.bool (optEq a.o b.o)))], [⟨51, conL a (.slice ra_a_r_heldV a.r.held.length rc_a_r_heldV)⟩, ⟨51, conL b (.slice ra_b_r_heldV b.r.held.length rc_b_r_heldV)⟩], [], [slF (.slice ra_a_r_heldV a.r.held.length rc_a_r_heldV) 2 (a.r.held.map pceCells), slF (.slice ra_b_r_heldV b.r.held.length rc_b_r_heldV) 2 (b.r.held.map pceCells)]⟩ (by kernel_rfl) ?_
              refine xl_split 52 (b := optEq a.o b.o) (by kernel_rfl) (fun h7 => ?_) (fun h7 => ?_)
              · skip
                refine xl_run 7 [2, 3, 59] ⟨[(2, .p 0 0), (3, .p 1 0), (59, .v (.bool (a.timer == b.timer)))], [⟨51, conL a (.slice ra_a_r_heldV a.r.held.length rc_a_r_heldV)⟩, ⟨51, conL b (.slice ra_b_r_heldV b.r.held.length rc_b_r_heldV)⟩], [], [slF (.slice ra_a_r_heldV a.r.held.length rc_a_r_heldV) 2 (a.r.held.map pceCells), slF (.slice ra_b_r_heldV b.r.held.length rc_b_r_heldV) 2 (b.r.held.map pceCells)]⟩ (by kernel_rfl) ?_
                refine xl_split 59 (b := a.timer == b.timer) (by kernel_rfl) (fun h8 => ?_) (fun h8 => ?_)
                · skip
                  have h8p := h8; simp only [beq_iff_eq, bne_iff_ne, beq_eq_false_iff_ne, bne_eq_false_iff_eq, ne_eq, toList_lit0] at h8p
                  refine xl_end [4] ⟨[(4, .v (.bool (a.tries == b.tries)))], [⟨51, conL a (.slice ra_a_r_heldV a.r.held.length rc_a_r_heldV)⟩, ⟨51, conL b (.slice ra_b_r_heldV b.r.held.length rc_b_r_heldV)⟩], [], [slF (.slice ra_a_r_heldV a.r.held.length rc_a_r_heldV) 2 (a.r.held.map pceCells), slF (.slice ra_b_r_heldV b.r.held.length rc_b_r_heldV) 2 (b.r.held.map pceCells)]⟩ (by kernel_rfl) ?_
                  refine xw_ret ?_
                  exact ⟨[.bool (a.tries == b.tries)], by kernel_rfl, fun w' hb hf => ⟨ret_bool (show (a.tries == b.tries : Bool) = sameConn a b from by first | rfl | (simp [sameConn, *]; done) | grind [sameConn, sameL_len]), hb⟩⟩
                · skip
                  have h8p := h8; simp only [beq_iff_eq, bne_iff_ne, beq_eq_false_iff_ne, bne_eq_false_iff_eq, ne_eq, toList_lit0] at h8p
                  refine xl_end [4] ⟨[(4, .v (.bool false))], [⟨51, conL a (.slice ra_a_r_heldV a.r.held.length rc_a_r_heldV)⟩, ⟨51, conL b (.slice ra_b_r_heldV b.r.held.length rc_b_r_heldV)⟩], [], [slF (.slice ra_a_r_heldV a.r.held.length rc_a_r_heldV) 2 (a.r.held.map pceCells), slF (.slice ra_b_r_heldV b.r.held.length rc_b_r_heldV) 2 (b.r.held.map pceCells)]⟩ (by kernel_rfl) ?_
                  refine xw_ret ?_
                  exact ⟨[.bool false], by kernel_rfl, fun w' hb hf => ⟨ret_bool (show (false : Bool) = sameConn a b from by first | rfl | (simp [sameConn, *]; done) | grind [sameConn, sameL_len]), hb⟩⟩
              · skip
                refine xl_end [4] ⟨[(4, .v (.bool false))], [⟨51, conL a (.slice ra_a_r_heldV a.r.held.length rc_a_r_heldV)⟩, ⟨51, conL b (.slice ra_b_r_heldV b.r.held.length rc_b_r_heldV)⟩], [], [slF (.slice ra_a_r_heldV a.r.held.length rc_a_r_heldV) 2 (a.r.held.map pceCells), slF (.slice ra_b_r_heldV b.r.held.length rc_b_r_heldV) 2 (b.r.held.map pceCells)]⟩ (by kernel_rfl) ?_
                refine xw_ret ?_
                exact ⟨[.bool false], by kernel_rfl, fun w' hb hf => ⟨ret_bool (show (false : Bool) = sameConn a b from by first | rfl | (simp [sameConn, *]; done) | grind [sameConn, sameL_len]), hb⟩⟩
            · skip
              have h6p := h6; simp only [beq_iff_eq, bne_iff_ne, beq_eq_false_iff_ne, bne_eq_false_iff_eq, ne_eq, toList_lit0] at h6p
              refine xl_end [4] ⟨[(4, .v (.bool false))], [⟨51, conL a (.slice ra_a_r_heldV a.r.held.length rc_a_r_heldV)⟩, ⟨51, conL b (.slice ra_b_r_heldV b.r.held.length rc_b_r_heldV)⟩], [], [slF (.slice ra_a_r_heldV a.r.held.length rc_a_r_heldV) 2 (a.r.held.map pceCells), slF (.slice ra_b_r_heldV b.r.held.length rc_b_r_heldV) 2 (b.r.held.map pceCells)]⟩ (by kernel_rfl) ?_
              refine xw_ret ?_
              exact ⟨[.bool false], by kernel_rfl, fun w' hb hf => ⟨ret_bool (show (false : Bool) = sameConn a b from by first | rfl | (simp [sameConn, *]; done) | grind [sameConn, sameL_len]), hb⟩⟩
          · skip
            have h5p := h5; simp only [beq_iff_eq, bne_iff_ne, beq_eq_false_iff_ne, bne_eq_false_iff_eq, ne_eq, toList_lit0] at h5p
            refine xl_end [4] ⟨[(4, .v (.bool false))], [⟨51, conL a (.slice ra_a_r_heldV a.r.held.length rc_a_r_heldV)⟩, ⟨51, conL b (.slice ra_b_r_heldV b.r.held.length rc_b_r_heldV)⟩], [], [slF (.slice ra_a_r_heldV a.r.held.length rc_a_r_heldV) 2 (a.r.held.map pceCells), slF (.slice ra_b_r_heldV b.r.held.length rc_b_r_heldV) 2 (b.r.held.map pceCells)]⟩ (by kernel_rfl) ?_
            refine xw_ret ?_
            exact ⟨[.bool false], by kernel_rfl, fun w' hb hf => ⟨ret_bool (show (false : Bool) = sameConn a b from by first | rfl | (simp [sameConn, *]; done) | grind [sameConn, sameL_len]), hb⟩⟩
        · skip
          refine xl_end [4] ⟨[(4, .v (.bool false))], [⟨51, conL a (.slice ra_a_r_heldV a.r.held.length rc_a_r_heldV)⟩, ⟨51, conL b (.slice ra_b_r_heldV b.r.held.length rc_b_r_heldV)⟩], [], [slF (.slice ra_a_r_heldV a.r.held.length rc_a_r_heldV) 2 (a.r.held.map pceCells), slF (.slice ra_b_r_heldV b.r.held.length rc_b_r_heldV) 2 (b.r.held.map pceCells)]⟩ (by kernel_rfl) ?_
          refine xw_ret ?_
          exact ⟨[.bool false], by kernel_rfl, fun w' hb hf => ⟨ret_bool (show (false : Bool) = sameConn a b from by first | rfl | (simp [sameConn, *]; done) | grind [sameConn, sameL_len]), hb⟩⟩
      · skip
        refine xl_end [4] ⟨[(4, .v (.bool false))], [⟨51, conL a (.slice ra_a_r_heldV a.r.held.length rc_a_r_heldV)⟩, ⟨51, conL b (.slice ra_b_r_heldV b.r.held.length rc_b_r_heldV)⟩], [], [slF (.slice ra_a_r_heldV a.r.held.length rc_a_r_heldV) 2 (a.r.held.map pceCells), slF (.slice ra_b_r_heldV b.r.held.length rc_b_r_heldV) 2 (b.r.held.map pceCells)]⟩ (by kernel_rfl) ?_
        refine xw_ret ?_
        exact ⟨[.bool false], by kernel_rfl, fun w' hb hf => ⟨ret_bool (show (false : Bool) = sameConn a b from by first | rfl | (simp [sameConn, *]; done) | grind [sameConn, sameL_len]), hb⟩⟩
    · skip
      have h2p := h2; simp only [beq_iff_eq, bne_iff_ne, beq_eq_false_iff_ne, bne_eq_false_iff_eq, ne_eq, toList_lit0] at h2p
      refine xl_end [4] ⟨[(4, .v (.bool false))], [⟨51, conL a (.slice ra_a_r_heldV a.r.held.length rc_a_r_heldV)⟩, ⟨51, conL b (.slice ra_b_r_heldV b.r.held.length rc_b_r_heldV)⟩], [], [slF (.slice ra_a_r_heldV a.r.held.length rc_a_r_heldV) 2 (a.r.held.map pceCells), slF (.slice ra_b_r_heldV b.r.held.length rc_b_r_heldV) 2 (b.r.held.map pceCells)]⟩ (by kernel_rfl) ?_
      refine xw_ret ?_
      exact ⟨[.bool false], by kernel_rfl, fun w' hb hf => ⟨ret_bool (show (false : Bool) = sameConn a b from by first | rfl | (simp [sameConn, *]; done) | grind [sameConn, sameL_len]), hb⟩⟩
  · skip
    refine xl_end [4] ⟨[(4, .v (.bool false))], [⟨51, conL a (.slice ra_a_r_heldV a.r.held.length rc_a_r_heldV)⟩, ⟨51, conL b (.slice ra_b_r_heldV b.r.held.length rc_b_r_heldV)⟩], [], [slF (.slice ra_a_r_heldV a.r.held.length rc_a_r_heldV) 2 (a.r.held.map pceCells), slF (.slice ra_b_r_heldV b.r.held.length rc_b_r_heldV) 2 (b.r.held.map pceCells)]⟩ (by kernel_rfl) ?_
    refine xw_ret ?_
    exact ⟨[.bool false], by kernel_rfl, fun w' hb hf => ⟨ret_bool (show (false : Bool) = sameConn a b from by first | rfl | (simp [sameConn, *]; done) | grind [sameConn, sameL_len]), hb⟩⟩
theorem yiSameConn_c (a : Con) (a_r_heldV : Value) (b : Con) (b_r_heldV : Value) (w : World) (hl_a_r_heldV : Sl w a_r_heldV 2 (a.r.held.map pceCells)) (hl_b_r_heldV : Sl w b_r_heldV 2 (b.r.held.map pceCells))  : Calls Try.prog 37 #[.agg (conL a a_r_heldV).toArray, .agg (conL b b_r_heldV).toArray] w fun e w' => e = .returned (.bool (sameConn a b)) ∧ Below w.heap.size w w' := by
  obtain ⟨ra_a_r_heldV, rc_a_r_heldV, hv_a_r_heldV⟩ := hl_a_r_heldV.form
  rw [List.length_map] at hv_a_r_heldV; subst hv_a_r_heldV
  have hn_a_r_heldV := hl_a_r_heldV.len; rw [List.length_map] at hn_a_r_heldV
  obtain ⟨ra_b_r_heldV, rc_b_r_heldV, hv_b_r_heldV⟩ := hl_b_r_heldV.form
  rw [List.length_map] at hv_b_r_heldV; subst hv_b_r_heldV
  have hn_b_r_heldV := hl_b_r_heldV.len; rw [List.length_map] at hn_b_r_heldV
  refine x_calls (args := [.agg (conL a (.slice ra_a_r_heldV a.r.held.length rc_a_r_heldV)).toArray, .agg (conL b (.slice ra_b_r_heldV b.r.held.length rc_b_r_heldV)).toArray]) (fn := Try.f37) [slF (.slice ra_a_r_heldV a.r.held.length rc_a_r_heldV) 2 (a.r.held.map pceCells), slF (.slice ra_b_r_heldV b.r.held.length rc_b_r_heldV) 2 (b.r.held.map pceCells)] Try.func37 rfl Try.ntmps37 rfl (by simp only [List.mem_cons, List.not_mem_nil, or_false, forall_eq_or_imp, forall_eq]; exact ⟨⟨rfl, hl_a_r_heldV⟩, ⟨rfl, hl_b_r_heldV⟩⟩) ?_
  refine xw_seq ?_
  refine xw_region ?_
  refine xl_end [2, 3] ⟨[(2, .p 0 0), (3, .p 1 0)], [⟨51, conL a (.slice ra_a_r_heldV a.r.held.length rc_a_r_heldV)⟩, ⟨51, conL b (.slice ra_b_r_heldV b.r.held.length rc_b_r_heldV)⟩], [], [slF (.slice ra_a_r_heldV a.r.held.length rc_a_r_heldV) 2 (a.r.held.map pceCells), slF (.slice ra_b_r_heldV b.r.held.length rc_b_r_heldV) 2 (b.r.held.map pceCells)]⟩ (by kernel_rfl) ?_
  refine xw_seq ?_
  refine xw_region ?_
  refine xl_op 4 [2, 3, 6, 8] ⟨[(2, .p 0 0), (3, .p 1 0), (6, .v (.agg (tupL a.t).toArray)), (8, .v (.agg (tupL b.t).toArray))], [⟨51, conL a (.slice ra_a_r_heldV a.r.held.length rc_a_r_heldV)⟩, ⟨51, conL b (.slice ra_b_r_heldV b.r.held.length rc_b_r_heldV)⟩], [], [slF (.slice ra_a_r_heldV a.r.held.length rc_a_r_heldV) 2 (a.r.held.map pceCells), slF (.slice ra_b_r_heldV b.r.held.length rc_b_r_heldV) 2 (b.r.held.map pceCells)]⟩ (.bool (tupEq a.t b.t)) (by kernel_rfl) rfl (by kernel_rfl) rfl (fun _ _ _ ww hr => bin_run hr rfl (by kernel_rfl) (by kernel_rfl) (agg_run (by kernel_rfl) (run_eql_TUP a.t.ip a.t.port a.t.my b.t.ip b.t.port b.t.my ww))) ?_
  refine xl_run 1 [2, 3, 10] ⟨[(2, .p 0 0), (3, .p 1 0), (10, .v (.bool (tupEq a.t b.t)))], [⟨51, conL a (.slice ra_a_r_heldV a.r.held.length rc_a_r_heldV)⟩, ⟨51, conL b (.slice ra_b_r_heldV b.r.held.length rc_b_r_heldV)⟩], [], [slF (.slice ra_a_r_heldV a.r.held.length rc_a_r_heldV) 2 (a.r.held.map pceCells), slF (.slice ra_b_r_heldV b.r.held.length rc_b_r_heldV) 2 (b.r.held.map pceCells)]⟩ (by kernel_rfl) ?_
  refine xl_split 10 (b := tupEq a.t b.t) (by kernel_rfl) (fun h1 => ?_) (fun h1 => ?_)
  · skip
    refine xl_run 7 [2, 3, 17] ⟨[(2, .p 0 0), (3, .p 1 0), (17, .v (.bool (a.state == b.state)))], [⟨51, conL a (.slice ra_a_r_heldV a.r.held.length rc_a_r_heldV)⟩, ⟨51, conL b (.slice ra_b_r_heldV b.r.held.length rc_b_r_heldV)⟩], [], [slF (.slice ra_a_r_heldV a.r.held.length rc_a_r_heldV) 2 (a.r.held.map pceCells), slF (.slice ra_b_r_heldV b.r.held.length rc_b_r_heldV) 2 (b.r.held.map pceCells)]⟩ (by kernel_rfl) ?_
    refine xl_split 17 (b := a.state == b.state) (by kernel_rfl) (fun h2 => ?_) (fun h2 => ?_)
    · skip
      have h2p := h2; simp only [beq_iff_eq, bne_iff_ne, beq_eq_false_iff_ne, bne_eq_false_iff_eq, ne_eq, toList_lit0] at h2p
      refine xl_op 4 [2, 3, 17, 19, 21] ⟨[(2, .p 0 0), (3, .p 1 0), (17, .v (.bool true)), (19, .v (.agg (sndL a.s).toArray)), (21, .v (.agg (sndL b.s).toArray))], [⟨51, conL a (.slice ra_a_r_heldV a.r.held.length rc_a_r_heldV)⟩, ⟨51, conL b (.slice ra_b_r_heldV b.r.held.length rc_b_r_heldV)⟩], [], [slF (.slice ra_a_r_heldV a.r.held.length rc_a_r_heldV) 2 (a.r.held.map pceCells), slF (.slice ra_b_r_heldV b.r.held.length rc_b_r_heldV) 2 (b.r.held.map pceCells)]⟩ (.bool (sndEq a.s b.s)) (by kernel_rfl) rfl (by kernel_rfl) rfl (fun _ _ _ ww hr => bin_run hr rfl (by kernel_rfl) (by kernel_rfl) (agg_run (by kernel_rfl) (run_eql_SND a.s.una a.s.data a.s.sent a.s.fin a.s.finSent a.s.done b.s.una b.s.data b.s.sent b.s.fin b.s.finSent b.s.done ww))) ?_
      refine xl_run 2 [2, 3, 24] ⟨[(2, .p 0 0), (3, .p 1 0), (24, .v (.bool (sndEq a.s b.s)))], [⟨51, conL a (.slice ra_a_r_heldV a.r.held.length rc_a_r_heldV)⟩, ⟨51, conL b (.slice ra_b_r_heldV b.r.held.length rc_b_r_heldV)⟩], [], [slF (.slice ra_a_r_heldV a.r.held.length rc_a_r_heldV) 2 (a.r.held.map pceCells), slF (.slice ra_b_r_heldV b.r.held.length rc_b_r_heldV) 2 (b.r.held.map pceCells)]⟩ (by kernel_rfl) ?_
      refine xl_split 24 (b := sndEq a.s b.s) (by kernel_rfl) (fun h3 => ?_) (fun h3 => ?_)
      · skip
        refine xl_call 4 [2, 3, 24, 26, 28] ⟨[(2, .p 0 0), (3, .p 1 0), (24, .v (.bool true)), (26, .v (.agg (rcvL a.r (.slice ra_a_r_heldV a.r.held.length rc_a_r_heldV)).toArray)), (28, .v (.agg (rcvL b.r (.slice ra_b_r_heldV b.r.held.length rc_b_r_heldV)).toArray))], [⟨51, conL a (.slice ra_a_r_heldV a.r.held.length rc_a_r_heldV)⟩, ⟨51, conL b (.slice ra_b_r_heldV b.r.held.length rc_b_r_heldV)⟩], [], [slF (.slice ra_a_r_heldV a.r.held.length rc_a_r_heldV) 2 (a.r.held.map pceCells), slF (.slice ra_b_r_heldV b.r.held.length rc_b_r_heldV) 2 (b.r.held.map pceCells)]⟩ 86 [.agg (rcvL a.r (.slice ra_a_r_heldV a.r.held.length rc_a_r_heldV)).toArray, .agg (rcvL b.r (.slice ra_b_r_heldV b.r.held.length rc_b_r_heldV)).toArray] (some 29) (by kernel_rfl) rfl (by kernel_rfl) rfl (by kernel_rfl) (xc_b fun ww hf => yiSameReceiver_c a.r (.slice ra_a_r_heldV a.r.held.length rc_a_r_heldV) b.r (.slice ra_b_r_heldV b.r.held.length rc_b_r_heldV) ww (hf (slF (.slice ra_a_r_heldV a.r.held.length rc_a_r_heldV) 2 (a.r.held.map pceCells)) (by simp)) (hf (slF (.slice ra_b_r_heldV b.r.held.length rc_b_r_heldV) 2 (b.r.held.map pceCells)) (by simp)) ) ?_
        intro _
        refine xl_run 2 [2, 3, 31] ⟨[(2, .p 0 0), (3, .p 1 0), (31, .v (.bool (sameReceiver a.r b.r)))], [⟨51, conL a (.slice ra_a_r_heldV a.r.held.length rc_a_r_heldV)⟩, ⟨51, conL b (.slice ra_b_r_heldV b.r.held.length rc_b_r_heldV)⟩], [], [slF (.slice ra_a_r_heldV a.r.held.length rc_a_r_heldV) 2 (a.r.held.map pceCells), slF (.slice ra_b_r_heldV b.r.held.length rc_b_r_heldV) 2 (b.r.held.map pceCells)]⟩ (by kernel_rfl) ?_
        refine xl_split 31 (b := sameReceiver a.r b.r) (by kernel_rfl) (fun h4 => ?_) (fun h4 => ?_)
        · skip
          refine xl_run 7 [2, 3, 38] ⟨[(2, .p 0 0), (3, .p 1 0), (38, .v (.bool (a.window == b.window)))], [⟨51, conL a (.slice ra_a_r_heldV a.r.held.length rc_a_r_heldV)⟩, ⟨51, conL b (.slice ra_b_r_heldV b.r.held.length rc_b_r_heldV)⟩], [], [slF (.slice ra_a_r_heldV a.r.held.length rc_a_r_heldV) 2 (a.r.held.map pceCells), slF (.slice ra_b_r_heldV b.r.held.length rc_b_r_heldV) 2 (b.r.held.map pceCells)]⟩ (by kernel_rfl) ?_
          refine xl_split 38 (b := a.window == b.window) (by kernel_rfl) (fun h5 => ?_) (fun h5 => ?_)
          · skip
            have h5p := h5; simp only [beq_iff_eq, bne_iff_ne, beq_eq_false_iff_ne, bne_eq_false_iff_eq, ne_eq, toList_lit0] at h5p
            refine xl_run 7 [2, 3, 45] ⟨[(2, .p 0 0), (3, .p 1 0), (45, .v (.bool (a.most == b.most)))], [⟨51, conL a (.slice ra_a_r_heldV a.r.held.length rc_a_r_heldV)⟩, ⟨51, conL b (.slice ra_b_r_heldV b.r.held.length rc_b_r_heldV)⟩], [], [slF (.slice ra_a_r_heldV a.r.held.length rc_a_r_heldV) 2 (a.r.held.map pceCells), slF (.slice ra_b_r_heldV b.r.held.length rc_b_r_heldV) 2 (b.r.held.map pceCells)]⟩ (by kernel_rfl) ?_
            refine xl_split 45 (b := a.most == b.most) (by kernel_rfl) (fun h6 => ?_) (fun h6 => ?_)
            · skip
              have h6p := h6; simp only [beq_iff_eq, bne_iff_ne, beq_eq_false_iff_ne, bne_eq_false_iff_eq, ne_eq, toList_lit0] at h6p
              refine xl_op 4 [2, 3, 45, 47, 49] ⟨[(2, .p 0 0), (3, .p 1 0), (45, .v (.bool true)), (47, .v (.agg (optL a.o).toArray)), (49, .v (.agg (optL b.o).toArray))], [⟨51, conL a (.slice ra_a_r_heldV a.r.held.length rc_a_r_heldV)⟩, ⟨51, conL b (.slice ra_b_r_heldV b.r.held.length rc_b_r_heldV)⟩], [], [slF (.slice ra_a_r_heldV a.r.held.length rc_a_r_heldV) 2 (a.r.held.map pceCells), slF (.slice ra_b_r_heldV b.r.held.length rc_b_r_heldV) 2 (b.r.held.map pceCells)]⟩ (.bool (optEq a.o b.o)) (by kernel_rfl) rfl (by kernel_rfl) rfl (fun _ _ _ ww hr => bin_run hr rfl (by kernel_rfl) (by kernel_rfl) (agg_run (by kernel_rfl) (run_eql_OPT a.o.mss a.o.scale a.o.sack a.o.stamp a.o.val a.o.echo b.o.mss b.o.scale b.o.sack b.o.stamp b.o.val b.o.echo ww))) ?_
              refine xl_run 2 [2, 3, 52] ⟨[(2, .p 0 0), (3, .p 1 0), (52, .v (.bool (optEq a.o b.o)))], [⟨51, conL a (.slice ra_a_r_heldV a.r.held.length rc_a_r_heldV)⟩, ⟨51, conL b (.slice ra_b_r_heldV b.r.held.length rc_b_r_heldV)⟩], [], [slF (.slice ra_a_r_heldV a.r.held.length rc_a_r_heldV) 2 (a.r.held.map pceCells), slF (.slice ra_b_r_heldV b.r.held.length rc_b_r_heldV) 2 (b.r.held.map pceCells)]⟩ (by kernel_rfl) ?_
              refine xl_split 52 (b := optEq a.o b.o) (by kernel_rfl) (fun h7 => ?_) (fun h7 => ?_)
              · skip
                refine xl_run 7 [2, 3, 59] ⟨[(2, .p 0 0), (3, .p 1 0), (59, .v (.bool (a.timer == b.timer)))], [⟨51, conL a (.slice ra_a_r_heldV a.r.held.length rc_a_r_heldV)⟩, ⟨51, conL b (.slice ra_b_r_heldV b.r.held.length rc_b_r_heldV)⟩], [], [slF (.slice ra_a_r_heldV a.r.held.length rc_a_r_heldV) 2 (a.r.held.map pceCells), slF (.slice ra_b_r_heldV b.r.held.length rc_b_r_heldV) 2 (b.r.held.map pceCells)]⟩ (by kernel_rfl) ?_
                refine xl_split 59 (b := a.timer == b.timer) (by kernel_rfl) (fun h8 => ?_) (fun h8 => ?_)
                · skip
                  have h8p := h8; simp only [beq_iff_eq, bne_iff_ne, beq_eq_false_iff_ne, bne_eq_false_iff_eq, ne_eq, toList_lit0] at h8p
                  refine xl_end [4] ⟨[(4, .v (.bool (a.tries == b.tries)))], [⟨51, conL a (.slice ra_a_r_heldV a.r.held.length rc_a_r_heldV)⟩, ⟨51, conL b (.slice ra_b_r_heldV b.r.held.length rc_b_r_heldV)⟩], [], [slF (.slice ra_a_r_heldV a.r.held.length rc_a_r_heldV) 2 (a.r.held.map pceCells), slF (.slice ra_b_r_heldV b.r.held.length rc_b_r_heldV) 2 (b.r.held.map pceCells)]⟩ (by kernel_rfl) ?_
                  refine xw_ret ?_
                  exact ⟨[.bool (a.tries == b.tries)], by kernel_rfl, fun w' hb hf => ⟨ret_bool (show (a.tries == b.tries : Bool) = sameConn a b from by first | rfl | (simp [sameConn, *]; done) | grind [sameConn, sameL_len]), hb⟩⟩
                · skip
                  have h8p := h8; simp only [beq_iff_eq, bne_iff_ne, beq_eq_false_iff_ne, bne_eq_false_iff_eq, ne_eq, toList_lit0] at h8p
                  refine xl_end [4] ⟨[(4, .v (.bool false))], [⟨51, conL a (.slice ra_a_r_heldV a.r.held.length rc_a_r_heldV)⟩, ⟨51, conL b (.slice ra_b_r_heldV b.r.held.length rc_b_r_heldV)⟩], [], [slF (.slice ra_a_r_heldV a.r.held.length rc_a_r_heldV) 2 (a.r.held.map pceCells), slF (.slice ra_b_r_heldV b.r.held.length rc_b_r_heldV) 2 (b.r.held.map pceCells)]⟩ (by kernel_rfl) ?_
                  refine xw_ret ?_
                  exact ⟨[.bool false], by kernel_rfl, fun w' hb hf => ⟨ret_bool (show (false : Bool) = sameConn a b from by first | rfl | (simp [sameConn, *]; done) | grind [sameConn, sameL_len]), hb⟩⟩
              · skip
                refine xl_end [4] ⟨[(4, .v (.bool false))], [⟨51, conL a (.slice ra_a_r_heldV a.r.held.length rc_a_r_heldV)⟩, ⟨51, conL b (.slice ra_b_r_heldV b.r.held.length rc_b_r_heldV)⟩], [], [slF (.slice ra_a_r_heldV a.r.held.length rc_a_r_heldV) 2 (a.r.held.map pceCells), slF (.slice ra_b_r_heldV b.r.held.length rc_b_r_heldV) 2 (b.r.held.map pceCells)]⟩ (by kernel_rfl) ?_
                refine xw_ret ?_
                exact ⟨[.bool false], by kernel_rfl, fun w' hb hf => ⟨ret_bool (show (false : Bool) = sameConn a b from by first | rfl | (simp [sameConn, *]; done) | grind [sameConn, sameL_len]), hb⟩⟩
            · skip
              have h6p := h6; simp only [beq_iff_eq, bne_iff_ne, beq_eq_false_iff_ne, bne_eq_false_iff_eq, ne_eq, toList_lit0] at h6p
              refine xl_end [4] ⟨[(4, .v (.bool false))], [⟨51, conL a (.slice ra_a_r_heldV a.r.held.length rc_a_r_heldV)⟩, ⟨51, conL b (.slice ra_b_r_heldV b.r.held.length rc_b_r_heldV)⟩], [], [slF (.slice ra_a_r_heldV a.r.held.length rc_a_r_heldV) 2 (a.r.held.map pceCells), slF (.slice ra_b_r_heldV b.r.held.length rc_b_r_heldV) 2 (b.r.held.map pceCells)]⟩ (by kernel_rfl) ?_
              refine xw_ret ?_
              exact ⟨[.bool false], by kernel_rfl, fun w' hb hf => ⟨ret_bool (show (false : Bool) = sameConn a b from by first | rfl | (simp [sameConn, *]; done) | grind [sameConn, sameL_len]), hb⟩⟩
          · skip
            have h5p := h5; simp only [beq_iff_eq, bne_iff_ne, beq_eq_false_iff_ne, bne_eq_false_iff_eq, ne_eq, toList_lit0] at h5p
            refine xl_end [4] ⟨[(4, .v (.bool false))], [⟨51, conL a (.slice ra_a_r_heldV a.r.held.length rc_a_r_heldV)⟩, ⟨51, conL b (.slice ra_b_r_heldV b.r.held.length rc_b_r_heldV)⟩], [], [slF (.slice ra_a_r_heldV a.r.held.length rc_a_r_heldV) 2 (a.r.held.map pceCells), slF (.slice ra_b_r_heldV b.r.held.length rc_b_r_heldV) 2 (b.r.held.map pceCells)]⟩ (by kernel_rfl) ?_
            refine xw_ret ?_
            exact ⟨[.bool false], by kernel_rfl, fun w' hb hf => ⟨ret_bool (show (false : Bool) = sameConn a b from by first | rfl | (simp [sameConn, *]; done) | grind [sameConn, sameL_len]), hb⟩⟩
        · skip
          refine xl_end [4] ⟨[(4, .v (.bool false))], [⟨51, conL a (.slice ra_a_r_heldV a.r.held.length rc_a_r_heldV)⟩, ⟨51, conL b (.slice ra_b_r_heldV b.r.held.length rc_b_r_heldV)⟩], [], [slF (.slice ra_a_r_heldV a.r.held.length rc_a_r_heldV) 2 (a.r.held.map pceCells), slF (.slice ra_b_r_heldV b.r.held.length rc_b_r_heldV) 2 (b.r.held.map pceCells)]⟩ (by kernel_rfl) ?_
          refine xw_ret ?_
          exact ⟨[.bool false], by kernel_rfl, fun w' hb hf => ⟨ret_bool (show (false : Bool) = sameConn a b from by first | rfl | (simp [sameConn, *]; done) | grind [sameConn, sameL_len]), hb⟩⟩
      · skip
        refine xl_end [4] ⟨[(4, .v (.bool false))], [⟨51, conL a (.slice ra_a_r_heldV a.r.held.length rc_a_r_heldV)⟩, ⟨51, conL b (.slice ra_b_r_heldV b.r.held.length rc_b_r_heldV)⟩], [], [slF (.slice ra_a_r_heldV a.r.held.length rc_a_r_heldV) 2 (a.r.held.map pceCells), slF (.slice ra_b_r_heldV b.r.held.length rc_b_r_heldV) 2 (b.r.held.map pceCells)]⟩ (by kernel_rfl) ?_
        refine xw_ret ?_
        exact ⟨[.bool false], by kernel_rfl, fun w' hb hf => ⟨ret_bool (show (false : Bool) = sameConn a b from by first | rfl | (simp [sameConn, *]; done) | grind [sameConn, sameL_len]), hb⟩⟩
    · skip
      have h2p := h2; simp only [beq_iff_eq, bne_iff_ne, beq_eq_false_iff_ne, bne_eq_false_iff_eq, ne_eq, toList_lit0] at h2p
      refine xl_end [4] ⟨[(4, .v (.bool false))], [⟨51, conL a (.slice ra_a_r_heldV a.r.held.length rc_a_r_heldV)⟩, ⟨51, conL b (.slice ra_b_r_heldV b.r.held.length rc_b_r_heldV)⟩], [], [slF (.slice ra_a_r_heldV a.r.held.length rc_a_r_heldV) 2 (a.r.held.map pceCells), slF (.slice ra_b_r_heldV b.r.held.length rc_b_r_heldV) 2 (b.r.held.map pceCells)]⟩ (by kernel_rfl) ?_
      refine xw_ret ?_
      exact ⟨[.bool false], by kernel_rfl, fun w' hb hf => ⟨ret_bool (show (false : Bool) = sameConn a b from by first | rfl | (simp [sameConn, *]; done) | grind [sameConn, sameL_len]), hb⟩⟩
  · skip
    refine xl_end [4] ⟨[(4, .v (.bool false))], [⟨51, conL a (.slice ra_a_r_heldV a.r.held.length rc_a_r_heldV)⟩, ⟨51, conL b (.slice ra_b_r_heldV b.r.held.length rc_b_r_heldV)⟩], [], [slF (.slice ra_a_r_heldV a.r.held.length rc_a_r_heldV) 2 (a.r.held.map pceCells), slF (.slice ra_b_r_heldV b.r.held.length rc_b_r_heldV) 2 (b.r.held.map pceCells)]⟩ (by kernel_rfl) ?_
    refine xw_ret ?_
    exact ⟨[.bool false], by kernel_rfl, fun w' hb hf => ⟨ret_bool (show (false : Bool) = sameConn a b from by first | rfl | (simp [sameConn, *]; done) | grind [sameConn, sameL_len]), hb⟩⟩
end Go.Proofs.Ytnbmdmmlnpbjlaa
