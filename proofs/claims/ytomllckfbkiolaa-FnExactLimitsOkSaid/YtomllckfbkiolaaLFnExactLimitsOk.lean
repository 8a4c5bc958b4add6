/- The law FnExactLimitsOk holds: for every argument the program's function answers true and leaves its arguments as they were. Conditions: none beyond the given row's. -/
import Derived.Test.YtomllckfbkiolaaO
import Derived.Test.YtomllckfbkiolaaA2
namespace Go.Proofs.Ytomllckfbkiolaa
open Go.RowKit Go.ChangeShapes Go.WideShapes Go.ChangeAt
attribute [local go_sem] lt_gap le_gap eq_gap gap_eq
set_option linter.unusedVariables false
set_option linter.unusedSimpArgs false

theorem fnExactLimitsOk_walk (l_halves : Int) (l_waiting : Int) (l_conns : Int) (l_chal : Int) (w : World) (F_l_halves : I64 l_halves) (F_l_waiting : I64 l_waiting) (F_l_conns : I64 l_conns) (F_l_chal : I64 l_chal) : Calls Try.prog 5 #[.agg #[.int .i64 l_halves, .int .i64 l_waiting, .int .i64 l_conns, .int .i64 l_chal]] w fun e w' => e = .returned (.bool true) ∧ Below w.heap.size w w' := by
  go_enter Try.func5, Try.ntmps5
  go_wp2_with (first | (go_at_call 19; with_reducible refine (toLimits_c _ _ _ _ _).mono ?_; rintro e w1 ⟨rfl, hb1⟩; obtain ⟨k1, hk1, hc1, hf1⟩ := after hb1 (by (try simp only [World.size_alloc, World.size_setCell, World.size_drew, *]); rfl)) | (go_at_call 18; with_reducible refine (sLimitsOk_c _ _ _ _ _).mono ?_; rintro e w1 ⟨rfl, hb1⟩; obtain ⟨k1, hk1, hc1, hf1⟩ := after hb1 (by (try simp only [World.size_alloc, World.size_setCell, World.size_drew, *]); rfl)) | (go_at_call 20; with_reducible refine (iLimitsOk_c _ _ _ _ _).mono ?_; rintro e w1 ⟨rfl, hb1⟩; obtain ⟨k1, hk1, hc1, hf1⟩ := after hb1 (by (try simp only [World.size_alloc, World.size_setCell, World.size_drew, *]); rfl)))
  all_goals (refine bodyPost_ret (v := .bool true) (by simp [results, Try.results5, go_sem, *]) rfl ⟨rfl, ?_⟩)
  all_goals (repeat' (first | (with_reducible exact Below.refl _ _) | (with_reducible refine Below.alloc ?_ ?_ _) | (with_reducible refine Below.setCell ?_ ?_ _) | (with_reducible refine Below.drew ?_) | (with_reducible refine bdrewN ?_ _) | (with_reducible refine bstep ?_ (by assumption) ?_) | (simp only [World.size_alloc, World.size_setCell, World.size_drew, World.heap_drewN]; omega) | omega))

set_option maxRecDepth 100000 in
theorem fnExactLimitsOk_lifted (os : Os) (started : os.Started) (H : Type) (enc : TypeId × Value → H) :
    ReturnsInHanded {} Try.checked os 5 .any (Rows.fnExactLimitsOkSpec.pre6 enc Try.prog Try.f5 Rows.fnExactLimitsOkRow.domain false) (Rows.fnExactLimitsOkSpec.post enc Try.prog Try.f5 false true false false) := by
  refine returnsInHanded_of_change (C := Try.checked) Try.ownK started (by kernel_rfl) Try.func5
    (ChangeSpec.witness6 (enc := enc) (C := Try.checked) false ⟨#[], #[.agg #[.int .i64 0, .int .i64 0, .int .i64 0, .int .i64 0]], []⟩ 8 (by kernel_rfl) (by kernel_rfl) (by kernel_rfl) (by kernel_rfl)) ?_
  intro W base args ds gs before hval0 hW hcnd _
  have hval : ∀ (j : Nat) t v, Try.f5.params[j]? = some t → args[j]? = some v → Value.okWide Try.prog W .any base t v := hval0
  have hW' := hW
  obtain ⟨p, q, hA0, hV, rfl, hfz, hnd⟩ := hW
  have hA : DataW.TrodAll enc Try.prog W 0 (fun _ => true) true Try.f5.params.toList args.toList ds p := hA0
  rw [Try.params5] at hA hval
  obtain ⟨v0, vs0, d0, ds0, p0, q0, hargs, rfl, rfl, h0, r0⟩ := trodAll_cons hA
  obtain ⟨rfl, rfl, rfl⟩ := trodAll_nil r0
  obtain rfl : args = #[v0] := by cases args; simp_all
  obtain ⟨rfl, rfl⟩ := trodVars_none hV
  clear hA0 hval0
  have g0 := h0
  obtain ⟨cs0, rfl, -⟩ := okWide_struct Try.underlying25 (hval 0 _ v0 rfl rfl)
  obtain ⟨fuel0, f0⟩ := g0
  obtain ⟨l_halves, l_waiting, l_conns, l_chal, e0, F_l_halves, F_l_waiting, F_l_conns, F_l_chal⟩ := open_LIM f0
  obtain rfl : cs0 = #[.int .i64 l_halves, .int .i64 l_waiting, .int .i64 l_conns, .int .i64 l_chal] := by cases cs0; simpa [Value.cells] using e0
  clear e0
  refine (fnExactLimitsOk_walk l_halves l_waiting l_conns l_chal W F_l_halves F_l_waiting F_l_conns F_l_chal).mono fun e W' ⟨he, hb⟩ => ?_
  subst he
  have hlt : ∀ x ∈ (p0 ++ ([])) ++ [], x.block < W.heap.size := fun x hx => hW'.lt x hx
  refine ⟨_, rfl, post_of_below (pa := (p0 ++ ([]))) (pv := []) hW' (fun _ _ _ => trodAll_cons_mk (shut_bool Try.underlying4 _) trodAll_mk0) (fun sp hsp => trodAll_cons_mk (WideElems.Trod_stays Try.laidOut (by kernel_rfl) (of_decide_eq_true (by kernel_rfl)) h0 (fun x hx => hb.same (hlt x (List.mem_append_left _ (List.mem_append_left _ hx)))) (fun x hx => hsp x (List.mem_append_left _ (List.mem_append_left _ hx)))) (trodAll_mk0)) (fun _ _ => rfl) rfl hb (ok_one (by kernel_rfl) rfl (okWide_bool_mk Try.underlying4 _))⟩

theorem fnExactLimitsOk_over : Rows.fnExactLimitsOkRow.holds Try.pinned (OpenSpec.ofChange Rows.fnExactLimitsOkSpec) :=
  OpenClaim.holds_of_wide 5 Try.f5 rfl rfl rfl rfl rfl rfl rfl ⟨rfl, rfl, rfl, rfl, rfl⟩ rfl rfl rfl rfl rfl (by kernel_rfl) Try.func5 (by kernel_rfl)
    (of_decide_eq_true (by kernel_rfl)) (by unfold Func.isWrapper; first | (rw [if_pos (by decide +kernel)]; kernel_rfl) | (rw [if_neg (by decide +kernel)]; exact ⟨rfl, rfl⟩))
    (fun os started H enc _ => fnExactLimitsOk_lifted os started H enc)

theorem fnExactLimitsOk_holds : Rows.FnExactLimitsOkSaid := fnExactLimitsOk_over
#print axioms fnExactLimitsOk_holds
end Go.Proofs.Ytomllckfbkiolaa
