/- The law FnExactResetFor holds: for every argument the program's function answers true and leaves its arguments as they were. Conditions: none beyond the given row's. -/
import Derived.Test.YtjfamgkkenccdaaY4
namespace Go.Proofs.Ytjfamgkkenccdaa
open Go.RowKit Go.ChangeShapes Go.WideShapes Go.ChangeAt
set_option linter.unusedVariables false
set_option linter.unusedSimpArgs false

set_option maxRecDepth 100000 in
set_option maxHeartbeats 2000000 in
theorem fnExactResetFor_walk (g : Seg) (w : World) (hs_g_body : g.body.size ≤ maxLen) : Calls Try.prog 5 #[.agg (segL g).toArray] w fun e w' => e = .returned (.bool true) ∧ Below w.heap.size w w' := by
  refine x_calls (args := [.agg (segL g).toArray]) (fn := Try.f5) [] Try.func5 rfl Try.ntmps5 rfl (by simp) ?_
  refine xw_seq ?_
  refine xw_region ?_
  refine xl_end [1] ⟨[(1, .p 0 0)], [⟨47, segL g⟩], [], []⟩ (by kernel_rfl) ?_
  refine xw_seq ?_
  refine xw_region ?_
  refine xl_end [1, 3] ⟨[(1, .p 0 0), (3, .v (.int .i64 1048576))], [⟨47, segL g⟩], [], []⟩ (by kernel_rfl) ?_
  refine xw_seq ?_
  refine xw_region ?_
  refine xl_call 2 [1, 3, 8, 9] ⟨[(1, .p 0 0), (3, .v (.int .i64 1048576)), (8, .v (.agg (segL g).toArray)), (9, .v (.int .i64 1048576))], [⟨47, segL g⟩], [], []⟩ 20 [.agg (segL g).toArray, .int .i64 1048576] (some 10) (by kernel_rfl) rfl (by kernel_rfl) rfl (by kernel_rfl) (xc_b fun ww hf => szSegment_c g.src g.dst g.seq g.ack g.flags g.window g.o.mss g.o.scale g.o.sack g.o.stamp g.o.val g.o.echo g.body 1048576 ww (by omega) (by omega) hs_g_body) ?_
  intro _
  refine xl_end [1, 3] ⟨[(1, .p 0 0), (3, .v (.int .i64 (if (1048576 : Int) < g.body.size then -1 else (1048576 : Int) - g.body.size)))], [⟨47, segL g⟩], [], []⟩ (by kernel_rfl) ?_
  refine xw_seq ?_
  refine xw_seq ?_
  refine xw_region ?_
  refine xl_end [1, 12] ⟨[(1, .p 0 0), (12, .v (.bool (decide ((if (1048576 : Int) < g.body.size then -1 else (1048576 : Int) - g.body.size) < 0))))], [⟨47, segL g⟩], [], []⟩ (by kernel_rfl) ?_
  refine xw_cond (b := decide ((if (1048576 : Int) < g.body.size then -1 else (1048576 : Int) - g.body.size) < 0)) (by kernel_rfl) (fun h1 => ?_) (fun h1 => ?_)
  · skip
    have h1p : ((if (1048576 : Int) < g.body.size then -1 else (1048576 : Int) - g.body.size) < 0) := of_decide_eq_true h1
    refine xw_seq ?_
    refine xw_region ?_
    refine xl_end [2] ⟨[(2, .v (.bool true))], [⟨47, segL g⟩], [], []⟩ (by kernel_rfl) ?_
    refine xw_ret ?_
    exact ⟨[.bool true], by kernel_rfl, fun w' hb hf => ⟨rfl, hb⟩⟩
  · skip
    have h1p : ¬ ((if (1048576 : Int) < g.body.size then -1 else (1048576 : Int) - g.body.size) < 0) := of_decide_eq_false h1
    have hsz_g : g.body.size ≤ 1048576 := by by_cases hh : 1048576 < (g.body.size : Int) <;> simp [hh] at h1; omega
    refine xw_skip ?_
    refine xw_seq ?_
    refine xw_region ?_
    refine xl_call 1 [1, 14] ⟨[(1, .p 0 0), (14, .v (.agg (segL g).toArray))], [⟨47, segL g⟩], [], []⟩ 22 [.agg (segL g).toArray] (some 15) (by kernel_rfl) rfl (by kernel_rfl) rfl (by kernel_rfl) (xc_b fun ww hf => toSegment_c g.src g.dst g.seq g.ack g.flags g.window g.o.mss g.o.scale g.o.sack g.o.stamp g.o.val g.o.echo g.body ww) ?_
    intro _
    refine xl_call 0 [1, 15] ⟨[(1, .p 0 0), (15, .v (.agg (segL g).toArray))], [⟨47, segL g⟩], [], []⟩ 24 [.agg (segL g).toArray] (some 16) (by kernel_rfl) rfl (by kernel_rfl) rfl (by kernel_rfl) (xc_b fun ww hf => ysResetFor_c g ww  (by omega)) ?_
    intro _
    refine xl_end [1, 4, 5] ⟨[(1, .p 0 0), (4, .p 1 0), (5, .v (.bool ((resetFor g).2)))], [⟨47, segL g⟩, ⟨51, [.int .i64 ((resetFor g).1.src), .int .i64 ((resetFor g).1.dst), .int .i64 ((resetFor g).1.seq), .int .i64 ((resetFor g).1.ack), .int .i64 ((resetFor g).1.flags), .int .i64 ((resetFor g).1.window), .int .i64 ((resetFor g).1.o.mss), .int .i64 ((resetFor g).1.o.scale), .bool ((resetFor g).1.o.sack), .bool ((resetFor g).1.o.stamp), .int .i64 ((resetFor g).1.o.val), .int .i64 ((resetFor g).1.o.echo), .string ((resetFor g).1.body)]⟩], [], []⟩ (by kernel_rfl) ?_
    refine xw_seq ?_
    refine xw_region ?_
    refine xl_call 1 [4, 5, 20] ⟨[(4, .p 1 0), (5, .v (.bool ((resetFor g).2))), (20, .v (.agg (segL g).toArray))], [⟨47, segL g⟩, ⟨51, [.int .i64 ((resetFor g).1.src), .int .i64 ((resetFor g).1.dst), .int .i64 ((resetFor g).1.seq), .int .i64 ((resetFor g).1.ack), .int .i64 ((resetFor g).1.flags), .int .i64 ((resetFor g).1.window), .int .i64 ((resetFor g).1.o.mss), .int .i64 ((resetFor g).1.o.scale), .bool ((resetFor g).1.o.sack), .bool ((resetFor g).1.o.stamp), .int .i64 ((resetFor g).1.o.val), .int .i64 ((resetFor g).1.o.echo), .string ((resetFor g).1.body)]⟩], [], []⟩ 22 [.agg (segL g).toArray] (some 21) (by kernel_rfl) rfl (by kernel_rfl) rfl (by kernel_rfl) (xc_b fun ww hf => toSegment_c g.src g.dst g.seq g.ack g.flags g.window g.o.mss g.o.scale g.o.sack g.o.stamp g.o.val g.o.echo g.body ww) ?_
    intro _
    refine xl_call 0 [4, 5, 21] ⟨[(4, .p 1 0), (5, .v (.bool ((resetFor g).2))), (21, .v (.agg (segL g).toArray))], [⟨47, segL g⟩, ⟨51, [.int .i64 ((resetFor g).1.src), .int .i64 ((resetFor g).1.dst), .int .i64 ((resetFor g).1.seq), .int .i64 ((resetFor g).1.ack), .int .i64 ((resetFor g).1.flags), .int .i64 ((resetFor g).1.window), .int .i64 ((resetFor g).1.o.mss), .int .i64 ((resetFor g).1.o.scale), .bool ((resetFor g).1.o.sack), .bool ((resetFor g).1.o.stamp), .int .i64 ((resetFor g).1.o.val), .int .i64 ((resetFor g).1.o.echo), .string ((resetFor g).1.body)]⟩], [], []⟩ 25 [.agg (segL g).toArray] (some 22) (by kernel_rfl) rfl (by kernel_rfl) rfl (by kernel_rfl) (xc_b fun ww hf => yiResetFor_c g ww  (by omega)) ?_
    intro _
    refine xl_end [4, 5, 6, 7] ⟨[(4, .p 1 0), (5, .v (.bool ((resetFor g).2))), (6, .p 2 0), (7, .v (.bool ((resetFor g).2)))], [⟨47, segL g⟩, ⟨51, [.int .i64 ((resetFor g).1.src), .int .i64 ((resetFor g).1.dst), .int .i64 ((resetFor g).1.seq), .int .i64 ((resetFor g).1.ack), .int .i64 ((resetFor g).1.flags), .int .i64 ((resetFor g).1.window), .int .i64 ((resetFor g).1.o.mss), .int .i64 ((resetFor g).1.o.scale), .bool ((resetFor g).1.o.sack), .bool ((resetFor g).1.o.stamp), .int .i64 ((resetFor g).1.o.val), .int .i64 ((resetFor g).1.o.echo), .string ((resetFor g).1.body)]⟩, ⟨51, [.int .i64 ((resetFor g).1.src), .int .i64 ((resetFor g).1.dst), .int .i64 ((resetFor g).1.seq), .int .i64 ((resetFor g).1.ack), .int .i64 ((resetFor g).1.flags), .int .i64 ((resetFor g).1.window), .int .i64 ((resetFor g).1.o.mss), .int .i64 ((resetFor g).1.o.scale), .bool ((resetFor g).1.o.sack), .bool ((resetFor g).1.o.stamp), .int .i64 ((resetFor g).1.o.val), .int .i64 ((resetFor g).1.o.echo), .string ((resetFor g).1.body)]⟩], [], []⟩ (by kernel_rfl) ?_
    refine xw_seq ?_
    refine xw_seq ?_
    refine xw_region ?_
    refine xl_call 2 [5, 7, 25, 26] ⟨[(5, .v (.bool ((resetFor g).2))), (7, .v (.bool ((resetFor g).2))), (25, .v (.agg #[.int .i64 ((resetFor g).1.src), .int .i64 ((resetFor g).1.dst), .int .i64 ((resetFor g).1.seq), .int .i64 ((resetFor g).1.ack), .int .i64 ((resetFor g).1.flags), .int .i64 ((resetFor g).1.window), .int .i64 ((resetFor g).1.o.mss), .int .i64 ((resetFor g).1.o.scale), .bool ((resetFor g).1.o.sack), .bool ((resetFor g).1.o.stamp), .int .i64 ((resetFor g).1.o.val), .int .i64 ((resetFor g).1.o.echo), .string ((resetFor g).1.body)])), (26, .v (.agg #[.int .i64 ((resetFor g).1.src), .int .i64 ((resetFor g).1.dst), .int .i64 ((resetFor g).1.seq), .int .i64 ((resetFor g).1.ack), .int .i64 ((resetFor g).1.flags), .int .i64 ((resetFor g).1.window), .int .i64 ((resetFor g).1.o.mss), .int .i64 ((resetFor g).1.o.scale), .bool ((resetFor g).1.o.sack), .bool ((resetFor g).1.o.stamp), .int .i64 ((resetFor g).1.o.val), .int .i64 ((resetFor g).1.o.echo), .string ((resetFor g).1.body)]))], [⟨47, segL g⟩, ⟨51, [.int .i64 ((resetFor g).1.src), .int .i64 ((resetFor g).1.dst), .int .i64 ((resetFor g).1.seq), .int .i64 ((resetFor g).1.ack), .int .i64 ((resetFor g).1.flags), .int .i64 ((resetFor g).1.window), .int .i64 ((resetFor g).1.o.mss), .int .i64 ((resetFor g).1.o.scale), .bool ((resetFor g).1.o.sack), .bool ((resetFor g).1.o.stamp), .int .i64 ((resetFor g).1.o.val), .int .i64 ((resetFor g).1.o.echo), .string ((resetFor g).1.body)]⟩, ⟨51, [.int .i64 ((resetFor g).1.src), .int .i64 ((resetFor g).1.dst), .int .i64 ((resetFor g).1.seq), .int .i64 ((resetFor g).1.ack), .int .i64 ((resetFor g).1.flags), .int .i64 ((resetFor g).1.window), .int .i64 ((resetFor g).1.o.mss), .int .i64 ((resetFor g).1.o.scale), .bool ((resetFor g).1.o.sack), .bool ((resetFor g).1.o.stamp), .int .i64 ((resetFor g).1.o.val), .int .i64 ((resetFor g).1.o.echo), .string ((resetFor g).1.body)]⟩], [], []⟩ 26 [.agg #[.int .i64 ((resetFor g).1.src), .int .i64 ((resetFor g).1.dst), .int .i64 ((resetFor g).1.seq), .int .i64 ((resetFor g).1.ack), .int .i64 ((resetFor g).1.flags), .int .i64 ((resetFor g).1.window), .int .i64 ((resetFor g).1.o.mss), .int .i64 ((resetFor g).1.o.scale), .bool ((resetFor g).1.o.sack), .bool ((resetFor g).1.o.stamp), .int .i64 ((resetFor g).1.o.val), .int .i64 ((resetFor g).1.o.echo), .string ((resetFor g).1.body)], .agg #[.int .i64 ((resetFor g).1.src), .int .i64 ((resetFor g).1.dst), .int .i64 ((resetFor g).1.seq), .int .i64 ((resetFor g).1.ack), .int .i64 ((resetFor g).1.flags), .int .i64 ((resetFor g).1.window), .int .i64 ((resetFor g).1.o.mss), .int .i64 ((resetFor g).1.o.scale), .bool ((resetFor g).1.o.sack), .bool ((resetFor g).1.o.stamp), .int .i64 ((resetFor g).1.o.val), .int .i64 ((resetFor g).1.o.echo), .string ((resetFor g).1.body)]] (some 27) (by kernel_rfl) rfl (by kernel_rfl) rfl (by kernel_rfl) (xc_b fun ww hf => eqSegment_c ((resetFor g).1.src) ((resetFor g).1.dst) ((resetFor g).1.seq) ((resetFor g).1.ack) ((resetFor g).1.flags) ((resetFor g).1.window) ((resetFor g).1.o.mss) ((resetFor g).1.o.scale) ((resetFor g).1.o.sack) ((resetFor g).1.o.stamp) ((resetFor g).1.o.val) ((resetFor g).1.o.echo) ((resetFor g).1.body) ww) ?_
    intro _
    refine xl_end [33] ⟨[(33, .v (.bool (!(((resetFor g).2) == ((resetFor g).2)))))], [⟨47, segL g⟩, ⟨51, [.int .i64 ((resetFor g).1.src), .int .i64 ((resetFor g).1.dst), .int .i64 ((resetFor g).1.seq), .int .i64 ((resetFor g).1.ack), .int .i64 ((resetFor g).1.flags), .int .i64 ((resetFor g).1.window), .int .i64 ((resetFor g).1.o.mss), .int .i64 ((resetFor g).1.o.scale), .bool ((resetFor g).1.o.sack), .bool ((resetFor g).1.o.stamp), .int .i64 ((resetFor g).1.o.val), .int .i64 ((resetFor g).1.o.echo), .string ((resetFor g).1.body)]⟩, ⟨51, [.int .i64 ((resetFor g).1.src), .int .i64 ((resetFor g).1.dst), .int .i64 ((resetFor g).1.seq), .int .i64 ((resetFor g).1.ack), .int .i64 ((resetFor g).1.flags), .int .i64 ((resetFor g).1.window), .int .i64 ((resetFor g).1.o.mss), .int .i64 ((resetFor g).1.o.scale), .bool ((resetFor g).1.o.sack), .bool ((resetFor g).1.o.stamp), .int .i64 ((resetFor g).1.o.val), .int .i64 ((resetFor g).1.o.echo), .string ((resetFor g).1.body)]⟩], [], []⟩ (by kernel_rfl) ?_
    refine xw_cond (b := !(((resetFor g).2) == ((resetFor g).2))) (by kernel_rfl) (fun h2 => ?_) (fun h2 => ?_)
    · skip
      simp at h2
    · skip
      refine xw_skip ?_
      refine xw_seq ?_
      refine xw_region ?_
      refine xl_end [2] ⟨[(2, .v (.bool true))], [⟨47, segL g⟩, ⟨51, [.int .i64 ((resetFor g).1.src), .int .i64 ((resetFor g).1.dst), .int .i64 ((resetFor g).1.seq), .int .i64 ((resetFor g).1.ack), .int .i64 ((resetFor g).1.flags), .int .i64 ((resetFor g).1.window), .int .i64 ((resetFor g).1.o.mss), .int .i64 ((resetFor g).1.o.scale), .bool ((resetFor g).1.o.sack), .bool ((resetFor g).1.o.stamp), .int .i64 ((resetFor g).1.o.val), .int .i64 ((resetFor g).1.o.echo), .string ((resetFor g).1.body)]⟩, ⟨51, [.int .i64 ((resetFor g).1.src), .int .i64 ((resetFor g).1.dst), .int .i64 ((resetFor g).1.seq), .int .i64 ((resetFor g).1.ack), .int .i64 ((resetFor g).1.flags), .int .i64 ((resetFor g).1.window), .int .i64 ((resetFor g).1.o.mss), .int .i64 ((resetFor g).1.o.scale), .bool ((resetFor g).1.o.sack), .bool ((resetFor g).1.o.stamp), .int .i64 ((resetFor g).1.o.val), .int .i64 ((resetFor g).1.o.echo), .string ((resetFor g).1.body)]⟩], [], []⟩ (by kernel_rfl) ?_
      refine xw_ret ?_
      exact ⟨[.bool true], by kernel_rfl, fun w' hb hf => ⟨rfl, hb⟩⟩

set_option maxRecDepth 100000 in
theorem fnExactResetFor_lifted (os : Os) (started : os.Started) (H : Type) (enc : TypeId × Value → H) :
    ReturnsInHanded {} Try.checked os 5 .any (Rows.fnExactResetForSpec.pre6 enc Try.prog Try.f5 Rows.fnExactResetForRow.domain false) (Rows.fnExactResetForSpec.post enc Try.prog Try.f5 false true false false) := by
  refine returnsInHanded_of_change (C := Try.checked) Try.ownK started (by kernel_rfl) Try.func5
    (ChangeSpec.witness6 (enc := enc) (C := Try.checked) false ⟨#[], #[.agg #[.int .i64 0, .int .i64 0, .int .i64 0, .int .i64 0, .int .i64 0, .int .i64 0, .int .i64 0, .int .i64 0, .bool false, .bool false, .int .i64 0, .int .i64 0, .string ⟨#[]⟩]], []⟩ 8 (by kernel_rfl) (by kernel_rfl) (by kernel_rfl) (by kernel_rfl)) ?_
  intro W base args ds gs before hval0 hW hcnd _
  have hval : ∀ (j : Nat) t v, Try.f5.params[j]? = some t → args[j]? = some v → Value.okWide Try.prog W .any base t v := hval0
  have hW' := hW
  obtain ⟨p, q, hA0, hV, rfl, hfz, hnd⟩ := hW
  have hA : DataW.TrodAll enc Try.prog W 0 (fun _ => true) true Try.f5.params.toList args.toList ds p := hA0
  rw [Try.params5] at hA hval
  obtain ⟨v0, vs0, d0, ds0, p0, q0, hargs, rfl, rfl, h0, r0⟩ := trodAll_cons hA
  obtain ⟨rfl, rfl, rfl⟩ := trodAll_nil r0
  obtain rfl : args = #[v0] := by cases args; simp_all
  obtain ⟨rfl, rfl⟩ := trodVars_none hV
  clear hA0 hval0
  have g0 := h0
  obtain ⟨cs0, rfl, -⟩ := okWide_struct Try.underlying47 (hval 0 _ v0 rfl rfl)
  obtain ⟨fuel0, f0⟩ := g0
  obtain ⟨g_src, g_dst, g_seq, g_ack, g_flags, g_window, g_o_mss, g_o_scale, g_o_sack, g_o_stamp, g_o_val, g_o_echo, g_body, e0, F_g_src, F_g_dst, F_g_seq, F_g_ack, F_g_flags, F_g_window, F_g_o_mss, F_g_o_scale, F_g_o_val, F_g_o_echo, F_g_body⟩ := open_SEG f0
  obtain rfl : cs0 = #[.int .i64 g_src, .int .i64 g_dst, .int .i64 g_seq, .int .i64 g_ack, .int .i64 g_flags, .int .i64 g_window, .int .i64 g_o_mss, .int .i64 g_o_scale, .bool g_o_sack, .bool g_o_stamp, .int .i64 g_o_val, .int .i64 g_o_echo, .string g_body] := by cases cs0; simpa [Value.cells] using e0
  clear e0
  refine (fnExactResetFor_walk (⟨g_src, g_dst, g_seq, g_ack, g_flags, g_window, ⟨g_o_mss, g_o_scale, g_o_sack, g_o_stamp, g_o_val, g_o_echo⟩, g_body⟩ : Seg) W F_g_body).mono fun e W' ⟨he, hb⟩ => ?_
  subst he
  have hlt : ∀ x ∈ (p0 ++ ([])) ++ [], x.block < W.heap.size := fun x hx => hW'.lt x hx
  refine ⟨_, rfl, post_of_below (pa := (p0 ++ ([]))) (pv := []) hW' (fun _ _ _ => trodAll_cons_mk (shut_bool Try.underlying4 _) trodAll_mk0) (fun sp hsp => trodAll_cons_mk (WideElems.Trod_stays Try.laidOut (by kernel_rfl) (of_decide_eq_true (by kernel_rfl)) h0 (fun x hx => hb.same (hlt x (List.mem_append_left _ (List.mem_append_left _ hx)))) (fun x hx => hsp x (List.mem_append_left _ (List.mem_append_left _ hx)))) (trodAll_mk0)) (fun _ _ => rfl) rfl hb (ok_one (by kernel_rfl) rfl (okWide_bool_mk Try.underlying4 _))⟩

theorem fnExactResetFor_over : Rows.fnExactResetForRow.holds Try.pinned (OpenSpec.ofChange Rows.fnExactResetForSpec) :=
  OpenClaim.holds_of_wide 5 Try.f5 rfl rfl rfl rfl rfl rfl rfl ⟨rfl, rfl, rfl, rfl, rfl⟩ rfl rfl rfl rfl rfl (by kernel_rfl) Try.func5 (by kernel_rfl)
    (of_decide_eq_true (by kernel_rfl)) (by unfold Func.isWrapper; first | (rw [if_pos (by decide +kernel)]; kernel_rfl) | (rw [if_neg (by decide +kernel)]; exact ⟨rfl, rfl⟩))
    (fun os started H enc _ => fnExactResetFor_lifted os started H enc)

theorem fnExactResetFor_holds : Rows.FnExactResetForSaid := fnExactResetFor_over
#print axioms fnExactResetFor_holds
end Go.Proofs.Ytjfamgkkenccdaa
