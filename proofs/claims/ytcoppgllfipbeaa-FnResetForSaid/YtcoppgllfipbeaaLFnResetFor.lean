/- The law FnResetFor holds: for every argument the program's function answers true and leaves its arguments as they were. Conditions: none beyond the given row's. -/
import Derived.Test.YtcoppgllfipbeaaZ1
import Derived.Test.YtcoppgllfipbeaaOB
namespace Go.Proofs.Ytcoppgllfipbeaa
open Go.RowKit Go.ChangeShapes Go.WideShapes Go.ChangeAt
set_option linter.unusedVariables false
set_option linter.unusedSimpArgs false

set_option maxRecDepth 100000 in
set_option maxHeartbeats 2000000 in
theorem fnResetFor_walk (code : List Int) (codeV : Value) (w : World) (hl_codeV : Sl w codeV 1 (code.map byteRow)) : Calls Try.prog 4 #[codeV] w fun e w' => e = .returned (.bool true) ∧ Below w.heap.size w w' := by
  obtain ⟨Ac,Cc,hvc⟩ := hl_codeV.form
  rw [List.length_map] at hvc; subst hvc
  have hnc := hl_codeV.len; rw [List.length_map] at hnc
  have hqc := Sl.capLe hl_codeV
  refine x_calls (args := [.slice Ac code.length Cc]) (fn := Try.f4) [slF (.slice Ac code.length Cc) 1 (code.map byteRow)] Try.func4 rfl Try.ntmps4 rfl (by simp only [List.mem_cons,List.not_mem_nil,or_false,forall_eq_or_imp,forall_eq]; exact ⟨rfl,hl_codeV⟩) ?_
  refine xw_seq ?_
  refine xw_region ?_
  refine xl_end [0] ⟨[(0,.v (.slice Ac code.length Cc))],[],[],[slF (.slice Ac code.length Cc) 1 (code.map byteRow)]⟩ (by kernel_rfl) ?_
  refine xw_seq ?_
  refine xw_seq ?_
  refine xw_region ?_
  refine xl_callS 1 [0,10] [(0,.v (.slice Ac code.length Cc)),(10,.v (.slice Ac code.length Cc))] 7 [.slice Ac code.length Cc] (some 11) (by kernel_rfl) rfl (by kernel_rfl) rfl (by kernel_rfl) (xc_b fun ww hf => big_c code Ac Cc ww (hf (slF (.slice Ac code.length Cc) 1 (code.map byteRow)) (by simp))) ?_
  intro _
  refine xl_endS [0,11] [(0,.v (.slice Ac code.length Cc)),(11,.v (.bool (decide (((code.length : Nat) : Int) > 1048576))))] (by kernel_rfl) ?_
  refine xw_cond (b := decide (((code.length : Nat) : Int) > 1048576)) (by kernel_rfl) (fun h1 => ?_) (fun h1 => ?_)
  have h1p : (((code.length : Nat) : Int) > 1048576) := of_decide_eq_true h1
  refine xw_seq ?_
  refine xw_region ?_
  refine xl_endS [2] [(2,.v (.bool true))] (by kernel_rfl) ?_
  refine xw_ret ?_
  exact ⟨[.bool true],by kernel_rfl,fun w' hb hf => ⟨rfl,hb⟩⟩
  have h1p : ¬ (((code.length : Nat) : Int) > 1048576) := of_decide_eq_false h1
  have hbig : code.length ≤ 1048576 := by simp at h1; omega
  refine xw_skip ?_
  refine xw_seq ?_
  refine xw_region ?_
  refine xl_callS 1 [12] [(12,.v (.slice Ac code.length Cc))] 13 [.slice Ac code.length Cc] (some 13) (by kernel_rfl) rfl (by kernel_rfl) rfl (by kernel_rfl) (xc_e (α := Seg) (F := fun y => .agg (segL y).toArray) (p := fun y => y.body.size ≤ 4096) fun ww hf => drawResetFor_c code Ac Cc ww (hf (slF (.slice Ac code.length Cc) 1 (code.map byteRow)) (by simp)) (by omega)) ?_
  rintro ⟨d2,hd3⟩
  refine xl_end [3] ⟨[(3,.p 0 0)],[⟨30,segL d2⟩],[],[slF (.slice Ac code.length Cc) 1 (code.map byteRow)]⟩ (by kernel_rfl) ?_
  refine xw_seq ?_
  refine xw_region ?_
  refine xl_callS 1 [3,15] [(3,.p 0 0),(15,.v (.agg (segL d2).toArray))] 14 [.agg (segL d2).toArray] (some 16) (by kernel_rfl) rfl (by kernel_rfl) rfl (by kernel_rfl) (xc_b fun ww hf => yiResetFor_c d2 ww  (by omega)) ?_
  intro _
  have hrb4 := resetFor_bd d2
  refine xl_end [3,4,5] ⟨[(3,.p 0 0),(4,.p 1 0),(5,.v (.bool ((resetFor d2).2)))],[⟨30,segL d2⟩,⟨30,segL (resetFor d2).1⟩],[],[slF (.slice Ac code.length Cc) 1 (code.map byteRow)]⟩ (by kernel_rfl) ?_
  refine xw_seq ?_
  refine xw_region ?_
  refine xl_callS 1 [3,4,5,20] [(3,.p 0 0),(4,.p 1 0),(5,.v (.bool ((resetFor d2).2))),(20,.v (.agg (segL d2).toArray))] 15 [.agg (segL d2).toArray] (some 21) (by kernel_rfl) rfl (by kernel_rfl) rfl (by kernel_rfl) (xc_b fun ww hf => ysResetFor_c d2 ww  (by omega)) ?_
  intro _
  have hrb5 := resetFor_bd d2
  refine xl_end [3,4,5,6,7] ⟨[(3,.p 0 0),(4,.p 1 0),(5,.v (.bool ((resetFor d2).2))),(6,.p 2 0),(7,.v (.bool ((resetFor d2).2)))],[⟨30,segL d2⟩,⟨30,segL (resetFor d2).1⟩,⟨30,segL (resetFor d2).1⟩],[],[slF (.slice Ac code.length Cc) 1 (code.map byteRow)]⟩ (by kernel_rfl) ?_
  refine xw_seq ?_
  refine xw_seq ?_
  refine xw_region ?_
  refine xl_runS 4 [3,4,5,6,27] [(3,.p 0 0),(4,.p 1 0),(5,.v (.bool ((resetFor d2).2))),(6,.p 2 0),(27,.v (.bool (!(((resetFor d2).2) == ((resetFor d2).2)))))] (by kernel_rfl) ?_
  refine xl_split 27 (b := !(((resetFor d2).2) == ((resetFor d2).2))) (by kernel_rfl) (fun h6 => ?_) (fun h6 => ?_)
  have h6n := not_t h6
  simp at h6n
  have h6n := not_f h6
  have h6np := eqT h6n
  refine xl_opS 2 [3,4,5,27,28,29] [(3,.p 0 0),(4,.p 1 0),(5,.v (.bool ((resetFor d2).2))),(27,.v (.bool false)),(28,.v (.agg (segL (resetFor d2).1).toArray)),(29,.v (.agg (segL (resetFor d2).1).toArray))] (.bool (!segEq ((resetFor d2).1) ((resetFor d2).1))) (by kernel_rfl) rfl (by kernel_rfl) rfl (fun _ _ _ ww hr => act_bin hr.1 rfl (by kernel_rfl) (by kernel_rfl) (agg_bin (by kernel_rfl) (run_neq_SEG ((resetFor d2).1.src) ((resetFor d2).1.dst) ((resetFor d2).1.seq) ((resetFor d2).1.ack) ((resetFor d2).1.flags) ((resetFor d2).1.window) ((resetFor d2).1.o.mss) ((resetFor d2).1.o.scale) ((resetFor d2).1.o.sack) ((resetFor d2).1.o.stamp) ((resetFor d2).1.o.val) ((resetFor d2).1.o.echo) ((resetFor d2).1.body) ((resetFor d2).1.src) ((resetFor d2).1.dst) ((resetFor d2).1.seq) ((resetFor d2).1.ack) ((resetFor d2).1.flags) ((resetFor d2).1.window) ((resetFor d2).1.o.mss) ((resetFor d2).1.o.scale) ((resetFor d2).1.o.sack) ((resetFor d2).1.o.stamp) ((resetFor d2).1.o.val) ((resetFor d2).1.o.echo) ((resetFor d2).1.body) ww))) ?_
  refine xl_endS [3,4,5,31] [(3,.p 0 0),(4,.p 1 0),(5,.v (.bool ((resetFor d2).2))),(31,.v (.bool (!segEq ((resetFor d2).1) ((resetFor d2).1))))] (by kernel_rfl) ?_
  refine xw_cond (b := !segEq ((resetFor d2).1) ((resetFor d2).1)) (by kernel_rfl) (fun h7 => ?_) (fun h7 => ?_)
  exfalso; simp [segEq_self] at h7
  refine xw_skip ?_
  refine xw_seq ?_
  refine xw_seq ?_
  refine xw_region ?_
  refine xl_endS [3,4,33] [(3,.p 0 0),(4,.p 1 0),(33,.v (.bool (!((resetFor d2).2))))] (by kernel_rfl) ?_
  refine xw_cond (b := !((resetFor d2).2)) (by kernel_rfl) (fun h8 => ?_) (fun h8 => ?_)
  have h8n := not_t h8
  refine xw_seq ?_
  refine xw_region ?_
  refine xl_callS 1 [34] [(34,.v (.agg (segL d2).toArray))] 16 [.agg (segL d2).toArray,.int .i64 4] (some 35) (by kernel_rfl) rfl (by kernel_rfl) rfl (by kernel_rfl) (xc_b fun ww hf => iHas_c d2.src d2.dst d2.seq d2.ack d2.flags d2.window d2.o.mss d2.o.scale d2.o.sack d2.o.stamp d2.o.val d2.o.echo d2.body 4 ww ) ?_
  intro _
  refine xl_endS [2] [(2,.v (.bool (hasF d2.flags 4)))] (by kernel_rfl) ?_
  refine xw_ret ?_
  exact ⟨[.bool (hasF d2.flags 4)],by kernel_rfl,fun w' hb hf => ⟨ret_bool (show (hasF d2.flags 4 : Bool) = true from by first | (exact rf_no (by assumption)) | (exact rf_all d2 (by assumption))),hb⟩⟩
  have h8n := not_f h8
  refine xw_skip ?_
  refine xw_seq ?_
  refine xw_region ?_
  refine xl_callS 1 [3,4,37] [(3,.p 0 0),(4,.p 1 0),(37,.v (.agg (segL (resetFor d2).1).toArray))] 14 [.agg (segL (resetFor d2).1).toArray] (some 38) (by kernel_rfl) rfl (by kernel_rfl) rfl (by kernel_rfl) (xc_b fun ww hf => yiResetFor_c ((resetFor d2).1) ww  (by omega)) ?_
  intro _
  have hrb9 := resetFor_bd ((resetFor d2).1)
  refine xl_end [3,4,9] ⟨[(3,.p 0 0),(4,.p 1 0),(9,.v (.bool ((resetFor ((resetFor d2).1)).2)))],[⟨30,segL d2⟩,⟨30,segL (resetFor d2).1⟩,⟨30,segL (resetFor d2).1⟩,⟨30,segL (resetFor ((resetFor d2).1)).1⟩],[],[slF (.slice Ac code.length Cc) 1 (code.map byteRow)]⟩ (by kernel_rfl) ?_
  refine xw_seq ?_
  refine xw_join ⟨[(2,.v (.bool ((!((resetFor ((resetFor d2).1)).2)) && ((((resetFor d2).1.src) == d2.dst) && ((((resetFor d2).1.dst) == d2.src) && (((IntKind.i64.wrap (BitVec.ofInt 64 ((resetFor d2).1.flags) &&& BitVec.ofInt 64 4).toNat) != 0) && (((IntKind.i64.wrap (BitVec.ofInt 64 d2.flags &&& BitVec.ofInt 64 16).toNat) == 0) || (((resetFor d2).1.seq) == d2.ack))))))))],[⟨30,segL d2⟩,⟨30,segL (resetFor d2).1⟩,⟨30,segL (resetFor d2).1⟩,⟨30,segL (resetFor ((resetFor d2).1)).1⟩],[],[slF (.slice Ac code.length Cc) 1 (code.map byteRow)]⟩ ?_ ?_
  refine xw_region ?_
  refine xl_runS 3 [3,4,43] [(3,.p 0 0),(4,.p 1 0),(43,.v (.bool (!((resetFor ((resetFor d2).1)).2))))] (by kernel_rfl) ?_
  refine xl_split 43 (b := !((resetFor ((resetFor d2).1)).2)) (by kernel_rfl) (fun h10 => ?_) (fun h10 => ?_)
  have h10n := not_t h10
  refine xl_runS 7 [3,4,50] [(3,.p 0 0),(4,.p 1 0),(50,.v (.bool (((resetFor d2).1.src) == d2.dst)))] (by kernel_rfl) ?_
  refine xl_split 50 (b := ((resetFor d2).1.src) == d2.dst) (by kernel_rfl) (fun h11 => ?_) (fun h11 => ?_)
  have h11p := eqT h11
  refine xl_runS 7 [3,4,57] [(3,.p 0 0),(4,.p 1 0),(57,.v (.bool (((resetFor d2).1.dst) == d2.src)))] (by kernel_rfl) ?_
  refine xl_split 57 (b := ((resetFor d2).1.dst) == d2.src) (by kernel_rfl) (fun h12 => ?_) (fun h12 => ?_)
  have h12p := eqT h12
  refine xl_runS 6 [3,4,63] [(3,.p 0 0),(4,.p 1 0),(63,.v (.bool ((IntKind.i64.wrap (BitVec.ofInt 64 ((resetFor d2).1.flags) &&& BitVec.ofInt 64 4).toNat) != 0)))] (by kernel_rfl) ?_
  refine xl_split 63 (b := (IntKind.i64.wrap (BitVec.ofInt 64 ((resetFor d2).1.flags) &&& BitVec.ofInt 64 4).toNat) != 0) (by kernel_rfl) (fun h13 => ?_) (fun h13 => ?_)
  have h13p := neT h13
  refine xl_runS 5 [3,4,63,68] [(3,.p 0 0),(4,.p 1 0),(63,.v (.bool true)),(68,.v (.bool ((IntKind.i64.wrap (BitVec.ofInt 64 d2.flags &&& BitVec.ofInt 64 16).toNat) == 0)))] (by kernel_rfl) ?_
  refine xl_split 68 (b := (IntKind.i64.wrap (BitVec.ofInt 64 d2.flags &&& BitVec.ofInt 64 16).toNat) == 0) (by kernel_rfl) (fun h14 => ?_) (fun h14 => ?_)
  have h14p := eqT h14
  refine xl_endS [2] [(2,.v (.bool true))] (by kernel_rfl) ?_
  show Wk _ _
  try rw [h10]
  try rw [h11]
  try rw [h12]
  try rw [h13]
  try rw [h14]
  exact wk_forget 4 0 [2] (by kernel_rfl) (by kernel_rfl) (by kernel_rfl)
  have h14p := eqF h14
  refine xl_endS [2] [(2,.v (.bool (((resetFor d2).1.seq) == d2.ack)))] (by kernel_rfl) ?_
  show Wk _ _
  try rw [h10]
  try rw [h11]
  try rw [h12]
  try rw [h13]
  try rw [h14]
  exact wk_forget 4 0 [2] (by kernel_rfl) (by kernel_rfl) (by kernel_rfl)
  have h13p := neF h13
  refine xl_endS [2] [(2,.v (.bool false))] (by kernel_rfl) ?_
  show Wk _ _
  try rw [h10]
  try rw [h11]
  try rw [h12]
  try rw [h13]
  exact wk_forget 4 0 [2] (by kernel_rfl) (by kernel_rfl) (by kernel_rfl)
  have h12p := eqF h12
  refine xl_endS [2] [(2,.v (.bool false))] (by kernel_rfl) ?_
  show Wk _ _
  try rw [h10]
  try rw [h11]
  try rw [h12]
  exact wk_forget 4 0 [2] (by kernel_rfl) (by kernel_rfl) (by kernel_rfl)
  have h11p := eqF h11
  refine xl_endS [2] [(2,.v (.bool false))] (by kernel_rfl) ?_
  show Wk _ _
  try rw [h10]
  try rw [h11]
  exact wk_forget 4 0 [2] (by kernel_rfl) (by kernel_rfl) (by kernel_rfl)
  have h10n := not_f h10
  refine xl_endS [2] [(2,.v (.bool false))] (by kernel_rfl) ?_
  show Wk _ _
  try rw [h10]
  exact wk_forget 4 0 [2] (by kernel_rfl) (by kernel_rfl) (by kernel_rfl)
  refine xw_ret ?_
  exact ⟨[.bool ((!((resetFor ((resetFor d2).1)).2)) && ((((resetFor d2).1.src) == d2.dst) && ((((resetFor d2).1.dst) == d2.src) && (((IntKind.i64.wrap (BitVec.ofInt 64 ((resetFor d2).1.flags) &&& BitVec.ofInt 64 4).toNat) != 0) && (((IntKind.i64.wrap (BitVec.ofInt 64 d2.flags &&& BitVec.ofInt 64 16).toNat) == 0) || (((resetFor d2).1.seq) == d2.ack))))))],by kernel_rfl,fun w' hb hf => ⟨ret_bool (show ((!((resetFor ((resetFor d2).1)).2)) && ((((resetFor d2).1.src) == d2.dst) && ((((resetFor d2).1.dst) == d2.src) && (((IntKind.i64.wrap (BitVec.ofInt 64 ((resetFor d2).1.flags) &&& BitVec.ofInt 64 4).toNat) != 0) && (((IntKind.i64.wrap (BitVec.ofInt 64 d2.flags &&& BitVec.ofInt 64 16).toNat) == 0) || (((resetFor d2).1.seq) == d2.ack))))) : Bool) = true from by first | (exact rf_no (by assumption)) | (exact rf_all d2 (by assumption))),hb⟩⟩

set_option maxRecDepth 100000 in
theorem fnResetFor_lifted (os : Os) (started : os.Started) (H : Type) (enc : TypeId × Value → H) :
    ReturnsInHanded {} Try.checked os 4 .any (Rows.fnResetForSpec.pre6 enc Try.prog Try.f4 Rows.fnResetForRow.domain false) (Rows.fnResetForSpec.post enc Try.prog Try.f4 false true false false) := by
  refine returnsInHanded_of_change (C := Try.checked) Try.ownK started (by kernel_rfl) Try.func4
    (ChangeSpec.witness6 (enc := enc) (C := Try.checked) false ⟨#[], #[.slice none 0 0], []⟩ 8 (by kernel_rfl) (by kernel_rfl) (by kernel_rfl) (by kernel_rfl)) ?_
  intro W base args ds gs before hval0 hW hcnd _
  have hval : ∀ (j : Nat) t v, Try.f4.params[j]? = some t → args[j]? = some v → Value.okWide Try.prog W .any base t v := hval0
  have hW' := hW
  obtain ⟨p, q, hA0, hV, rfl, hfz, hnd⟩ := hW
  have hA : DataW.TrodAll enc Try.prog W 0 (fun _ => true) true Try.f4.params.toList args.toList ds p := hA0
  rw [Try.params4] at hA hval
  obtain ⟨v0, vs0, d0, ds0, p0, q0, hargs, rfl, rfl, h0, r0⟩ := trodAll_cons hA
  obtain ⟨rfl, rfl, rfl⟩ := trodAll_nil r0
  obtain rfl : args = #[v0] := by cases args; simp_all
  obtain ⟨rfl, rfl⟩ := trodVars_none hV
  clear hA0 hval0
  have g0 := h0
  obtain ⟨l0, L0⟩ := openS_byte (hval 0 _ v0 rfl rfl) g0
  refine (fnResetFor_walk l0 v0 W L0).mono fun e W' ⟨he, hb⟩ => ?_
  subst he
  have hlt : ∀ x ∈ (p0 ++ ([])) ++ [], x.block < W.heap.size := fun x hx => hW'.lt x hx
  refine ⟨_, rfl, post_of_below (pa := (p0 ++ ([]))) (pv := []) hW' (fun _ _ _ => trodAll_cons_mk (shut_bool Try.underlying4 _) trodAll_mk0) (fun sp hsp => trodAll_cons_mk (WideElems.Trod_stays Try.laidOut (by kernel_rfl) (of_decide_eq_true (by kernel_rfl)) h0 (fun x hx => hb.same (hlt x (List.mem_append_left _ (List.mem_append_left _ hx)))) (fun x hx => hsp x (List.mem_append_left _ (List.mem_append_left _ hx)))) (trodAll_mk0)) (fun _ _ => rfl) rfl hb (ok_one (by kernel_rfl) rfl (okWide_bool_mk Try.underlying4 _))⟩

theorem fnResetFor_over : Rows.fnResetForRow.holds Try.pinned (OpenSpec.ofChange Rows.fnResetForSpec) :=
  OpenClaim.holds_of_wide 4 Try.f4 rfl rfl rfl rfl rfl rfl rfl ⟨rfl, rfl, rfl, rfl, rfl⟩ rfl rfl rfl rfl rfl (by kernel_rfl) Try.func4 (by kernel_rfl)
    (of_decide_eq_true (by kernel_rfl)) (by unfold Func.isWrapper; first | (rw [if_pos (by decide +kernel)]; kernel_rfl) | (rw [if_neg (by decide +kernel)]; exact ⟨rfl, rfl⟩))
    (fun os started H enc _ => fnResetFor_lifted os started H enc)

theorem fnResetFor_holds : Rows.FnResetForSaid := fnResetFor_over
#print axioms fnResetFor_holds
end Go.Proofs.Ytcoppgllfipbeaa
