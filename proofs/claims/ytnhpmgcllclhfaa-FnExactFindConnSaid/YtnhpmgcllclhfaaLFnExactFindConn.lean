/- The law FnExactFindConn holds: for every argument the program's function answers true and leaves its arguments as they were. Conditions: none beyond the given row's. -/
import Derived.Test.YtnhpmgcllclhfaaZ1
import Derived.Test.YtnhpmgcllclhfaaG2
namespace Go.Proofs.Ytnhpmgcllclhfaa
open Go.RowKit Go.ChangeShapes Go.WideShapes Go.ChangeAt
set_option linter.unusedVariables false
set_option linter.unusedSimpArgs false

set_option maxRecDepth 100000 in
set_option maxHeartbeats 2000000 in
theorem fnExactFindConn_walk (t : Tab) (t_connsV : Value) (t_waitingV : Value) (u : Tup) (w : World) (hl_t_connsV : Sl w t_connsV 25 (t.conns.map conR)) (hh_t_connsV : ∀ x ∈ t.conns, Sl w x.2 2 (x.1.r.held.map pceCells)) (hm_t_connsV : ∀ x ∈ t.conns, conMax x.1) (hl_t_waitingV : Sl w t_waitingV 3 (t.waiting.map tupCells)) : Calls Try.prog 3 #[.agg (tabL t t_connsV t_waitingV).toArray, .agg (tupL u).toArray] w fun e w' => e = .returned (.bool true) ∧ Below w.heap.size w w' := by
 obtain ⟨Atc,Ctc,hvtc⟩ := hl_t_connsV.form
 rw [List.length_map] at hvtc; subst hvtc
 have hntc := hl_t_connsV.len; rw [List.length_map] at hntc
 have hqtc := Sl.capLe hl_t_connsV
 obtain ⟨Atw,Ctw,hvtw⟩ := hl_t_waitingV.form
 rw [List.length_map] at hvtw; subst hvtw
 have hntw := hl_t_waitingV.len; rw [List.length_map] at hntw
 have hqtw := Sl.capLe hl_t_waitingV
 refine x_calls (args := [.agg (tabL t (.slice Atc t.conns.length Ctc) (.slice Atw t.waiting.length Ctw)).toArray,.agg (tupL u).toArray]) (fn := Try.f3) [slF (.slice Atc t.conns.length Ctc) 25 (t.conns.map conR),hldF t.conns,slF (.slice Atw t.waiting.length Ctw) 3 (t.waiting.map tupCells)] Try.func3 rfl Try.ntmps3 rfl (by simp only [List.mem_cons,List.not_mem_nil,or_false,forall_eq_or_imp,forall_eq]; exact ⟨⟨rfl,hl_t_connsV⟩,⟨rfl,hh_t_connsV⟩,⟨rfl,hl_t_waitingV⟩⟩) ?_
 refine kQ ?_
 refine kEF [2,3] ⟨[(2,.p 0 0),(3,.p 1 0)],[⟨25,tabL t (.slice Atc t.conns.length Ctc) (.slice Atw t.waiting.length Ctw)⟩,⟨27,tupL u⟩],[],[slF (.slice Atc t.conns.length Ctc) 25 (t.conns.map conR),hldF t.conns,slF (.slice Atw t.waiting.length Ctw) 3 (t.waiting.map tupCells)]⟩ ?_
 refine kQ ?_
 refine kED [2,3,5] [(5,.v (.int .i64 1048576))] ?_
 refine kQ ?_
 refine kCD 2 [2,3,5,9,10] [(9,.v (.agg (tabL t (.slice Atc t.conns.length Ctc) (.slice Atw t.waiting.length Ctw)).toArray)),(10,.v (.int .i64 1048576))] 10 [.agg (tabL t (.slice Atc t.conns.length Ctc) (.slice Atw t.waiting.length Ctw)).toArray,.int .i64 1048576] (some 11) rfl (xc_e (α := Int) (F := fun y => .int .i64 y) (p := fun r => r = -1 ∨ (0 ≤ r ∧ r ≤ 1048576 ∧ (t.conns.length : Int) ≤ 1048576 ∧ (∀ x ∈ t.conns,ConFit 1048576 x.1) ∧ (t.waiting.length : Int) ≤ 1048576)) fun ww hf => yszTable_c t.conns t.waiting (.slice Atc t.conns.length Ctc) (.slice Atw t.waiting.length Ctw) 1048576 ww (hf _ m0) (hf _ m1) (hf _ m2) (by omega) (by omega) hm_t_connsV) ?_
 rintro ⟨r1,hr1⟩
 refine kED [2,3,5] [(5,.v (.int .i64 r1))] ?_
 refine kS ?_
 refine kQ ?_
 refine kED [2,3,13] [(13,.v (.bool (decide (r1 < 0))))] ?_
 refine kC (decide (r1 < 0)) (fun h2 => ?_) (fun h2 => ?_)
 have h2p := of_decide_eq_true h2
 refine kQ ?_
 refine kES [4] [(4,.v (.bool true))] ?_
 refine kR ?_
 exact ⟨[.bool true],by kernel_rfl,fun w' hb hf => ⟨rfl,hb⟩⟩
 have h2p := of_decide_eq_false h2
 rcases hr1 with hr1 | ⟨hr1a,hr1b,hr1n,hr1c,hr1w⟩
 · omega
 have hfit_t_connsV : ∀ x ∈ t.conns,conFit x.1 := fun x hx => (hr1c x hx).fit (by omega)
 have hln_t_connsV : t.conns.length ≤ 1048576 := by omega
 have hlw_t_connsV : t.waiting.length ≤ 1048576 := by omega
 refine kK ?_
 refine kS ?_
 refine xe_region [] (by kernel_rfl) (fun ρ σ => ?_)
 refine kTD [0,2] [16,14,2,3] 4 [(16,.v (.agg (tupL u).toArray)),(14,.v (.agg (tabL t (.slice Atc t.conns.length Ctc) (.slice Atw t.waiting.length Ctw)).toArray))] ?_
 refine kA [1] ?_
 refine kSC 1 12 [.agg (tabL t (.slice Atc t.conns.length Ctc) (.slice Atw t.waiting.length Ctw)).toArray] (some 15) rfl (xc_r fun ww hw hf => ytoTable_c t (.slice Atc t.conns.length Ctc) (.slice Atw t.waiting.length Ctw) ww (hf _ m0) (hf _ m1) (hf _ m2) (by assumption) (by omega) (by omega) w.heap.size hw) ?_
 rintro ⟨⟨t3l,ht3l⟩,⟨t3a,t3c⟩,⟨t3d,t3e⟩⟩
 dsimp only
 have hfit_t3l : ∀ x ∈ t3l,conFit x.1 := conFit_pl ht3l (by assumption)
 refine kA [3] ?_
 refine kSC 3 13 [.agg (tupL u).toArray] (some 17) rfl (xc_b fun ww hf => toTuple_c u.ip u.port u.my ww) ?_
 intro _
 refine kA [4] ?_
 refine kSC 4 11 [.agg (tabL { t with conns := t3l } (.slice t3a t3l.length t3c) (.slice t3d t.waiting.length t3e)).toArray,.agg (tupL u).toArray] (some 18) rfl (xc_b fun ww hf => ysFindConn_c ({ t with conns := t3l }) (.slice t3a t3l.length t3c) (.slice t3d t.waiting.length t3e) u ww (rowF_sl (hf _ m0)) (hownF_sl (hf _ m1)) (Own.sl (hf _ m2)) ) ?_
 intro _
 refine kTD [5] [6,2,3] 0 [(6,.v (.int .i64 (findConn ({ t with conns := t3l }) u)))] ?_
 refine kZ ?_
 refine kQ ?_
 refine kCD 1 [2,3,6,19] [(19,.v (.agg (tabL t (.slice Atc t.conns.length Ctc) (.slice Atw t.waiting.length Ctw)).toArray))] 12 [.agg (tabL t (.slice Atc t.conns.length Ctc) (.slice Atw t.waiting.length Ctw)).toArray] (some 20) rfl (xc_r fun ww hw hf => ytoTable_c t (.slice Atc t.conns.length Ctc) (.slice Atw t.waiting.length Ctw) ww (hf _ m3) (hf _ m4) (hf _ m5) (by assumption) (by omega) (by omega) w.heap.size hw) ?_
 rintro ⟨⟨t4l,ht4l⟩,⟨t4a,t4c⟩,⟨t4d,t4e⟩⟩
 dsimp only
 have hfit_t4l : ∀ x ∈ t4l,conFit x.1 := conFit_pl ht4l (by assumption)
 refine kEA [2,3,6,7] [(7,.p 2 0)] [⟨33,tabL { t with conns := t4l } (.slice t4a t4l.length t4c) (.slice t4d t.waiting.length t4e)⟩] ?_
 refine kS ?_
 refine xe_region [] (by kernel_rfl) (fun ρ σ => ?_)
 refine kTD [0,1] [22,21,2,6,7] 3 [(22,.v (.agg (tupL u).toArray)),(21,.v (.agg (tabL { t with conns := t4l } (.slice t4a t4l.length t4c) (.slice t4d t.waiting.length t4e)).toArray))] ?_
 refine kA [2] ?_
 refine kSC 2 13 [.agg (tupL u).toArray] (some 23) rfl (xc_b fun ww hf => toTuple_c u.ip u.port u.my ww) ?_
 intro _
 refine kA [3] ?_
 refine kSC 3 14 [.agg (tabL { t with conns := t4l } (.slice t4a t4l.length t4c) (.slice t4d t.waiting.length t4e)).toArray,.agg (tupL u).toArray] (some 24) rfl (xc_b fun ww hf => yiFindConn_c ({ t with conns := t4l }) (.slice t4a t4l.length t4c) (.slice t4d t.waiting.length t4e) u ww (rowF_sl (hf _ m0)) (hownF_sl (hf _ m1)) (Own.sl (hf _ m2)) ) ?_
 intro _
 refine kTD [4] [8,2,6,7] 0 [(8,.v (.int .i64 (findConn ({ t with conns := t4l }) u)))] ?_
 refine kZ ?_
 refine kS ?_
 refine kQ ?_
 refine kES [2,7,27] [(2,.p 0 0),(7,.p 2 0),(27,.v (.bool ((findConn ({ t with conns := t4l }) u) != (findConn ({ t with conns := t3l }) u))))] ?_
 refine kC ((findConn ({ t with conns := t4l }) u) != (findConn ({ t with conns := t3l }) u)) (fun h5 => ?_) (fun h5 => ?_)
 have h5p := neT h5
 have et4l := findConn_pl (t := ⟨t4l,t.waiting⟩) (t' := t) ht4l u
 have et3l := findConn_pl (t := ⟨t3l,t.waiting⟩) (t' := t) ht3l u
 exfalso; rw [et4l,et3l] at h5; simp at h5
 have h5p := neF h5
 refine kK ?_
 refine kS ?_
 refine kS ?_
 refine xe_region [] (by kernel_rfl) (fun ρ σ => ?_)
 refine kTS [0,1] [29,28] 3 [(29,.v (.agg (tabL t (.slice Atc t.conns.length Ctc) (.slice Atw t.waiting.length Ctw)).toArray)),(28,.v (.agg (tabL { t with conns := t4l } (.slice t4a t4l.length t4c) (.slice t4d t.waiting.length t4e)).toArray))] ?_
 refine kA [2] ?_
 refine kSC 2 12 [.agg (tabL t (.slice Atc t.conns.length Ctc) (.slice Atw t.waiting.length Ctw)).toArray] (some 30) rfl (xc_r fun ww hw hf => ytoTable_c t (.slice Atc t.conns.length Ctc) (.slice Atw t.waiting.length Ctw) ww (hf _ m6) (hf _ m7) (hf (slF (.slice Atw t.waiting.length Ctw) 3 (t.waiting.map tupCells)) (by simp)) (by assumption) (by omega) (by omega) w.heap.size hw) ?_
 rintro ⟨⟨t6l,ht6l⟩,⟨t6a,t6c⟩,⟨t6d,t6e⟩⟩
 dsimp only
 have hfit_t6l : ∀ x ∈ t6l,conFit x.1 := conFit_pl ht6l (by assumption)
 refine kA [3] ?_
 refine kSC 3 15 [.agg (tabL { t with conns := t4l } (.slice t4a t4l.length t4c) (.slice t4d t.waiting.length t4e)).toArray,.agg (tabL { t with conns := t6l } (.slice t6a t6l.length t6c) (.slice t6d t.waiting.length t6e)).toArray] (some 31) rfl (xc_b fun ww hf => yeqTable_c t4l t.waiting (.slice t4a t4l.length t4c) (.slice t4d t.waiting.length t4e) t6l (.slice t6a t6l.length t6c) (.slice t6d t.waiting.length t6e) ww (rowF_sl (hf _ m3)) (hownF_sl (hf _ m4)) (Own.sl (hf _ m5)) (rowF_sl (hf _ m0)) (hownF_sl (hf _ m1)) (Own.sl (hf _ m2)) (by first | assumption | (simp only [ht4l,ht6l]; done))) ?_
 intro _
 refine kTS [4] [32] 0 [(32,.v (.bool false))] ?_
 refine kZ ?_
 refine kN ?_
 refine kK ?_
 refine kQ ?_
 refine kES [4] [(4,.v (.bool true))] ?_
 refine kR ?_
 exact ⟨[.bool true],by kernel_rfl,fun w' hb hf => ⟨rfl,hb⟩⟩

set_option maxRecDepth 100000 in
theorem fnExactFindConn_lifted (os : Os) (started : os.Started) (H : Type) (enc : TypeId × Value → H) :
    ReturnsInHanded {} Try.checked os 3 .any (Rows.fnExactFindConnSpec.pre6 enc Try.prog Try.f3 Rows.fnExactFindConnRow.domain false) (Rows.fnExactFindConnSpec.post enc Try.prog Try.f3 false true false false) := by
  refine returnsInHanded_of_change (C := Try.checked) Try.ownK started (by kernel_rfl) Try.func3
    (ChangeSpec.witness6 (enc := enc) (C := Try.checked) false ⟨#[], #[.agg #[.slice none 0 0, .slice none 0 0], .agg #[.int .i64 0, .int .i64 0, .int .i64 0]], []⟩ 8 (by kernel_rfl) (by kernel_rfl) (by kernel_rfl) (by kernel_rfl)) ?_
  intro W base args ds gs before hval0 hW hcnd _
  have hval : ∀ (j : Nat) t v, Try.f3.params[j]? = some t → args[j]? = some v → Value.okWide Try.prog W .any base t v := hval0
  have hW' := hW
  obtain ⟨p, q, hA0, hV, rfl, hfz, hnd⟩ := hW
  have hA : DataW.TrodAll enc Try.prog W 0 (fun _ => true) true Try.f3.params.toList args.toList ds p := hA0
  rw [Try.params3] at hA hval
  obtain ⟨v0, vs0, d0, ds0, p0, q0, hargs, rfl, rfl, h0, r0⟩ := trodAll_cons hA
  obtain ⟨v1, vs1, d1, ds1, p1, q1, rfl, rfl, rfl, h1, r1⟩ := trodAll_cons r0
  obtain ⟨rfl, rfl, rfl⟩ := trodAll_nil r1
  obtain rfl : args = #[v0, v1] := by cases args; simp_all
  obtain ⟨rfl, rfl⟩ := trodVars_none hV
  clear hA0 hval0
  have g0 := h0
  have g1 := h1
  obtain ⟨cs0, rfl, -⟩ := okWide_struct Try.underlying25 (hval 0 _ v0 rfl rfl)
  obtain ⟨fuel0, f0⟩ := g0
  obtain ⟨t_conns_v, t_waiting_v, e0, F_t_conns, F_t_waiting⟩ := open_TAB f0
  obtain rfl : cs0 = #[t_conns_v, t_waiting_v] := by cases cs0; simpa [Value.cells] using e0
  clear e0
  obtain ⟨_, _, T_t_conns⟩ := F_t_conns
  obtain ⟨t_conns, L_t_conns, H_t_conns, M_t_conns⟩ := openSc_CON T_t_conns
  obtain ⟨_, _, T_t_waiting⟩ := F_t_waiting
  obtain ⟨t_waiting, L_t_waiting⟩ := openSc_TUP T_t_waiting
  obtain ⟨cs1, rfl, -⟩ := okWide_struct Try.underlying27 (hval 1 _ v1 rfl rfl)
  obtain ⟨fuel1, f1⟩ := g1
  obtain ⟨u_ip, u_port, u_my, e1, F_u_ip, F_u_port, F_u_my⟩ := open_TUP f1
  obtain rfl : cs1 = #[.int .i64 u_ip, .int .i64 u_port, .int .i64 u_my] := by cases cs1; simpa [Value.cells] using e1
  clear e1
  refine (fnExactFindConn_walk (⟨t_conns, t_waiting⟩ : Tab) t_conns_v t_waiting_v (⟨u_ip, u_port, u_my⟩ : Tup) W L_t_conns H_t_conns M_t_conns L_t_waiting).mono fun e W' ⟨he, hb⟩ => ?_
  subst he
  have hlt : ∀ x ∈ (p0 ++ (p1 ++ ([]))) ++ [], x.block < W.heap.size := fun x hx => hW'.lt x hx
  refine ⟨_, rfl, post_of_below (pa := (p0 ++ (p1 ++ ([])))) (pv := []) hW' (fun _ _ _ => trodAll_cons_mk (shut_bool Try.underlying4 _) trodAll_mk0) (fun sp hsp => trodAll_cons_mk (WideElems.Trod_stays Try.laidOut (by kernel_rfl) (of_decide_eq_true (by kernel_rfl)) h0 (fun x hx => hb.same (hlt x (List.mem_append_left _ (List.mem_append_left _ hx)))) (fun x hx => hsp x (List.mem_append_left _ (List.mem_append_left _ hx)))) (trodAll_cons_mk (WideElems.Trod_stays Try.laidOut (by kernel_rfl) (of_decide_eq_true (by kernel_rfl)) h1 (fun x hx => hb.same (hlt x (List.mem_append_left _ (List.mem_append_right _ (List.mem_append_left _ hx))))) (fun x hx => hsp x (List.mem_append_left _ (List.mem_append_right _ (List.mem_append_left _ hx))))) (trodAll_mk0))) (fun _ _ => rfl) rfl hb (ok_one (by kernel_rfl) rfl (okWide_bool_mk Try.underlying4 _))⟩

theorem fnExactFindConn_over : Rows.fnExactFindConnRow.holds Try.pinned (OpenSpec.ofChange Rows.fnExactFindConnSpec) :=
  OpenClaim.holds_of_wide 3 Try.f3 rfl rfl rfl rfl rfl rfl rfl ⟨rfl, rfl, rfl, rfl, rfl⟩ rfl rfl rfl rfl rfl (by kernel_rfl) Try.func3 (by kernel_rfl)
    (of_decide_eq_true (by kernel_rfl)) (by unfold Func.isWrapper; first | (rw [if_pos (by decide +kernel)]; kernel_rfl) | (rw [if_neg (by decide +kernel)]; exact ⟨rfl, rfl⟩))
    (fun os started H enc _ => fnExactFindConn_lifted os started H enc)

theorem fnExactFindConn_holds : Rows.FnExactFindConnSaid := fnExactFindConn_over
#print axioms fnExactFindConn_holds
end Go.Proofs.Ytnhpmgcllclhfaa
