/- The law FnExactHalvesOk holds: for every argument the program's function answers true and leaves its arguments as they were. Conditions: none beyond the given row's. -/
import Derived.Test.YtjfamgkkenccdaaZ1
import Derived.Test.YtjfamgkkenccdaaZ1
namespace Go.Proofs.Ytjfamgkkenccdaa
open Go.RowKit Go.ChangeShapes Go.WideShapes Go.ChangeAt
set_option linter.unusedVariables false
set_option linter.unusedSimpArgs false

set_option maxRecDepth 100000 in
set_option maxHeartbeats 2000000 in
theorem fnExactHalvesOk_walk (l : List Hlf) (lV : Value) (w : World) (hl_lV : Sl w lV 13 (l.map hlfCells)) : Calls Try.prog 6 #[lV] w fun e w' => e = .returned (.bool true) ∧ Below w.heap.size w w' := by
  obtain ⟨Al,Cl,hvl⟩ := hl_lV.form
  rw [List.length_map] at hvl; subst hvl
  have hnl := hl_lV.len; rw [List.length_map] at hnl
  refine x_calls (args := [.slice Al l.length Cl]) (fn := Try.f6) [slF (.slice Al l.length Cl) 13 (l.map hlfCells)] Try.func6 rfl Try.ntmps6 rfl (by simp only [List.mem_cons,List.not_mem_nil,or_false,forall_eq_or_imp,forall_eq]; exact ⟨rfl,hl_lV⟩) ?_
  refine xw_seq ?_
  refine xw_region ?_
  refine xl_end [0] ⟨[(0,.v (.slice Al l.length Cl))],[],[],[slF (.slice Al l.length Cl) 13 (l.map hlfCells)]⟩ (by kernel_rfl) ?_
  refine xw_seq ?_
  refine xw_region ?_
  refine xl_endS [0,3] [(0,.v (.slice Al l.length Cl)),(3,.v (.int .i64 1048576))] (by kernel_rfl) ?_
  refine xw_seq ?_
  refine xw_region ?_
  refine xl_callS 2 [0,3,7,8] [(0,.v (.slice Al l.length Cl)),(3,.v (.int .i64 1048576)),(7,.v (.slice Al l.length Cl)),(8,.v (.int .i64 1048576))] 27 [.slice Al l.length Cl,.int .i64 1048576] (some 9) (by kernel_rfl) rfl (by kernel_rfl) rfl (by kernel_rfl) (xc_s fun ww hf => szHalfS_c (.slice Al l.length Cl) l 1048576 ww (hf (slF (.slice Al l.length Cl) 13 (l.map hlfCells)) (by simp)) (by omega) (by omega)) ?_
  intro _
  refine xl_endS [0,3] [(0,.v (.slice Al l.length Cl)),(3,.v (.int .i64 (if (1048576 : Int) < l.length then -1 else (1048576 : Int) - l.length)))] (by kernel_rfl) ?_
  refine xw_seq ?_
  refine xw_seq ?_
  refine xw_region ?_
  refine xl_endS [0,11] [(0,.v (.slice Al l.length Cl)),(11,.v (.bool (decide ((if (1048576 : Int) < l.length then -1 else (1048576 : Int) - l.length) < 0))))] (by kernel_rfl) ?_
  refine xw_cond (b := decide ((if (1048576 : Int) < l.length then -1 else (1048576 : Int) - l.length) < 0)) (by kernel_rfl) (fun h1 => ?_) (fun h1 => ?_)
  have h1p : ((if (1048576 : Int) < l.length then -1 else (1048576 : Int) - l.length) < 0) := of_decide_eq_true h1
  refine xw_seq ?_
  refine xw_region ?_
  refine xl_endS [2] [(2,.v (.bool true))] (by kernel_rfl) ?_
  refine xw_ret ?_
  exact ⟨[.bool true],by kernel_rfl,fun w' hb hf => ⟨rfl,hb⟩⟩
  have h1p : ¬ ((if (1048576 : Int) < l.length then -1 else (1048576 : Int) - l.length) < 0) := of_decide_eq_false h1
  have hsz_l : l.length ≤ 1048576 := by by_cases hh : (1048576 : Int) < (l.length : Int) <;> simp [hh] at h1; omega
  refine xw_skip ?_
  refine xw_seq ?_
  refine xw_region ?_
  refine xl_callS 1 [0,12] [(0,.v (.slice Al l.length Cl)),(12,.v (.slice Al l.length Cl))] 29 [.slice Al l.length Cl] (some 13) (by kernel_rfl) rfl (by kernel_rfl) rfl (by kernel_rfl) (xc_on (m := l.length) (F := fun v' => v') (List.length_map ..) fun ww hf => toHalfS_c (.slice Al l.length Cl) l ww (hf (slF (.slice Al l.length Cl) 13 (l.map hlfCells)) (by simp)) (by omega)) ?_
  rintro ⟨v2a,v2c⟩
  refine xl_callS 0 [0,13] [(0,.v (.slice Al l.length Cl)),(13,.v (.slice v2a l.length v2c))] 28 [.slice v2a l.length v2c] (some 14) (by kernel_rfl) rfl (by kernel_rfl) rfl (by kernel_rfl) (xc_b fun ww hf => ysHalvesOk_c l (.slice v2a l.length v2c) ww (Own.sl (hf (ownF w.heap.size (.slice v2a l.length v2c) 13 (l.map hlfCells)) (by simp))) ) ?_
  intro _
  refine xl_endS [0,4] [(0,.v (.slice Al l.length Cl)),(4,.v (.bool (halvesOk l)))] (by kernel_rfl) ?_
  refine xw_seq ?_
  refine xw_region ?_
  refine xl_callS 1 [0,4,15] [(0,.v (.slice Al l.length Cl)),(4,.v (.bool (halvesOk l))),(15,.v (.slice Al l.length Cl))] 29 [.slice Al l.length Cl] (some 16) (by kernel_rfl) rfl (by kernel_rfl) rfl (by kernel_rfl) (xc_on (m := l.length) (F := fun v' => v') (List.length_map ..) fun ww hf => toHalfS_c (.slice Al l.length Cl) l ww (hf (slF (.slice Al l.length Cl) 13 (l.map hlfCells)) (by simp)) (by omega)) ?_
  rintro ⟨v3a,v3c⟩
  refine xl_endS [0,4,5] [(0,.v (.slice Al l.length Cl)),(4,.v (.bool (halvesOk l))),(5,.v (.slice v3a l.length v3c))] (by kernel_rfl) ?_
  refine xw_seq ?_
  refine xw_region ?_
  refine xl_callS 1 [0,4,5,17] [(0,.v (.slice Al l.length Cl)),(4,.v (.bool (halvesOk l))),(5,.v (.slice v3a l.length v3c)),(17,.v (.slice v3a l.length v3c))] 30 [.slice v3a l.length v3c] (some 18) (by kernel_rfl) rfl (by kernel_rfl) rfl (by kernel_rfl) (xc_b fun ww hf => yiHalvesOk_c l (.slice v3a l.length v3c) ww (Own.sl (hf (ownF w.heap.size (.slice v3a l.length v3c) 13 (l.map hlfCells)) (by simp))) ) ?_
  intro _
  refine xl_endS [0,4,5,6] [(0,.v (.slice Al l.length Cl)),(4,.v (.bool (halvesOk l))),(5,.v (.slice v3a l.length v3c)),(6,.v (.bool (halvesOk l)))] (by kernel_rfl) ?_
  refine xw_seq ?_
  refine xw_seq ?_
  refine xw_region ?_
  refine xl_endS [0,5,21] [(0,.v (.slice Al l.length Cl)),(5,.v (.slice v3a l.length v3c)),(21,.v (.bool (!((halvesOk l) == (halvesOk l)))))] (by kernel_rfl) ?_
  refine xw_cond (b := !((halvesOk l) == (halvesOk l))) (by kernel_rfl) (fun h4 => ?_) (fun h4 => ?_)
  have h4n := not_t h4
  simp at h4n
  have h4n := not_f h4
  have h4np := eqT h4n
  refine xw_skip ?_
  refine xw_seq ?_
  refine xw_seq ?_
  refine xw_region ?_
  refine xl_callS 2 [22,23] [(22,.v (.slice v3a l.length v3c)),(23,.v (.slice Al l.length Cl))] 29 [.slice Al l.length Cl] (some 24) (by kernel_rfl) rfl (by kernel_rfl) rfl (by kernel_rfl) (xc_on (m := l.length) (F := fun v' => v') (List.length_map ..) fun ww hf => toHalfS_c (.slice Al l.length Cl) l ww (hf (slF (.slice Al l.length Cl) 13 (l.map hlfCells)) (by simp)) (by omega)) ?_
  rintro ⟨v5a,v5c⟩
  refine xl_callS 0 [22,24] [(22,.v (.slice v3a l.length v3c)),(24,.v (.slice v5a l.length v5c))] 31 [.slice v3a l.length v3c,.slice v5a l.length v5c] (some 25) (by kernel_rfl) rfl (by kernel_rfl) rfl (by kernel_rfl) (xc_b fun ww hf => eqHalfS_c (.slice v3a l.length v3c) (.slice v5a l.length v5c) l ww (Own.sl (hf (ownF w.heap.size (.slice v3a l.length v3c) 13 (l.map hlfCells)) (by simp))) (Own.sl (hf (ownF w.heap.size (.slice v5a l.length v5c) 13 (l.map hlfCells)) (by simp)))) ?_
  intro _
  refine xl_endS [26] [(26,.v (.bool false))] (by kernel_rfl) ?_
  refine xw_false (by kernel_rfl) ?_
  refine xw_skip ?_
  refine xw_seq ?_
  refine xw_region ?_
  refine xl_endS [2] [(2,.v (.bool true))] (by kernel_rfl) ?_
  refine xw_ret ?_
  exact ⟨[.bool true],by kernel_rfl,fun w' hb hf => ⟨rfl,hb⟩⟩

set_option maxRecDepth 100000 in
theorem fnExactHalvesOk_lifted (os : Os) (started : os.Started) (H : Type) (enc : TypeId × Value → H) :
    ReturnsInHanded {} Try.checked os 6 .any (Rows.fnExactHalvesOkSpec.pre6 enc Try.prog Try.f6 Rows.fnExactHalvesOkRow.domain false) (Rows.fnExactHalvesOkSpec.post enc Try.prog Try.f6 false true false false) := by
  refine returnsInHanded_of_change (C := Try.checked) Try.ownK started (by kernel_rfl) Try.func6
    (ChangeSpec.witness6 (enc := enc) (C := Try.checked) false ⟨#[], #[.slice none 0 0], []⟩ 8 (by kernel_rfl) (by kernel_rfl) (by kernel_rfl) (by kernel_rfl)) ?_
  intro W base args ds gs before hval0 hW hcnd _
  have hval : ∀ (j : Nat) t v, Try.f6.params[j]? = some t → args[j]? = some v → Value.okWide Try.prog W .any base t v := hval0
  have hW' := hW
  obtain ⟨p, q, hA0, hV, rfl, hfz, hnd⟩ := hW
  have hA : DataW.TrodAll enc Try.prog W 0 (fun _ => true) true Try.f6.params.toList args.toList ds p := hA0
  rw [Try.params6] at hA hval
  obtain ⟨v0, vs0, d0, ds0, p0, q0, hargs, rfl, rfl, h0, r0⟩ := trodAll_cons hA
  obtain ⟨rfl, rfl, rfl⟩ := trodAll_nil r0
  obtain rfl : args = #[v0] := by cases args; simp_all
  obtain ⟨rfl, rfl⟩ := trodVars_none hV
  clear hA0 hval0
  have g0 := h0
  obtain ⟨l0, L0⟩ := openS_HLF (hval 0 _ v0 rfl rfl) g0
  refine (fnExactHalvesOk_walk l0 v0 W L0).mono fun e W' ⟨he, hb⟩ => ?_
  subst he
  have hlt : ∀ x ∈ (p0 ++ ([])) ++ [], x.block < W.heap.size := fun x hx => hW'.lt x hx
  refine ⟨_, rfl, post_of_below (pa := (p0 ++ ([]))) (pv := []) hW' (fun _ _ _ => trodAll_cons_mk (shut_bool Try.underlying4 _) trodAll_mk0) (fun sp hsp => trodAll_cons_mk (WideElems.Trod_stays Try.laidOut (by kernel_rfl) (of_decide_eq_true (by kernel_rfl)) h0 (fun x hx => hb.same (hlt x (List.mem_append_left _ (List.mem_append_left _ hx)))) (fun x hx => hsp x (List.mem_append_left _ (List.mem_append_left _ hx)))) (trodAll_mk0)) (fun _ _ => rfl) rfl hb (ok_one (by kernel_rfl) rfl (okWide_bool_mk Try.underlying4 _))⟩

theorem fnExactHalvesOk_over : Rows.fnExactHalvesOkRow.holds Try.pinned (OpenSpec.ofChange Rows.fnExactHalvesOkSpec) :=
  OpenClaim.holds_of_wide 6 Try.f6 rfl rfl rfl rfl rfl rfl rfl ⟨rfl, rfl, rfl, rfl, rfl⟩ rfl rfl rfl rfl rfl (by kernel_rfl) Try.func6 (by kernel_rfl)
    (of_decide_eq_true (by kernel_rfl)) (by unfold Func.isWrapper; first | (rw [if_pos (by decide +kernel)]; kernel_rfl) | (rw [if_neg (by decide +kernel)]; exact ⟨rfl, rfl⟩))
    (fun os started H enc _ => fnExactHalvesOk_lifted os started H enc)

theorem fnExactHalvesOk_holds : Rows.FnExactHalvesOkSaid := fnExactHalvesOk_over
#print axioms fnExactHalvesOk_holds
end Go.Proofs.Ytjfamgkkenccdaa
