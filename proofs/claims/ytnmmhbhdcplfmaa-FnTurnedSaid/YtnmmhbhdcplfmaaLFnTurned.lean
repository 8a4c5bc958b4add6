/- The law FnTurned holds: for every argument the program's function answers true and leaves its arguments as they were. Conditions: none beyond the given row's. -/
import Derived.Test.YtnmmhbhdcplfmaaZ4
import Derived.Test.YtnmmhbhdcplfmaaMQ
import Derived.Test.YtnmmhbhdcplfmaaZ4
import Derived.Test.YtnmmhbhdcplfmaaOB
namespace Go.Proofs.Ytnmmhbhdcplfmaa
open Go.RowKit Go.ChangeShapes Go.WideShapes Go.ChangeAt
set_option linter.unusedVariables false
set_option linter.unusedSimpArgs false

set_option maxRecDepth 100000 in
set_option maxHeartbeats 2000000 in
theorem fnTurned_walk (code : List Int) (codeV : Value) (w : World) (hl_codeV : Sl w codeV 1 (code.map byteRow)) : Calls Try.prog 4 #[codeV] w fun e w' => e = .returned (.bool true) ∧ Below w.heap.size w w' := by
 obtain ⟨Ac,Cc,hvc⟩ := hl_codeV.form
 rw [List.length_map] at hvc; subst hvc
 have hnc := hl_codeV.len; rw [List.length_map] at hnc
 have hqc := Sl.capLe hl_codeV
 refine x_calls (args := [.slice Ac code.length Cc]) (fn := Try.f4) [slF (.slice Ac code.length Cc) 1 (code.map byteRow)] Try.func4 rfl Try.ntmps4 rfl (by simp only [List.mem_cons,List.not_mem_nil,or_false,forall_eq_or_imp,forall_eq]; exact ⟨rfl,hl_codeV⟩) ?_
 refine kQ ?_
 refine kEF [0] ⟨[(0,.v (.slice Ac code.length Cc))],[],[],[slF (.slice Ac code.length Cc) 1 (code.map byteRow)]⟩ ?_
 refine kS ?_
 refine kQ ?_
 refine kCD 1 [0,6] [(6,.v (.slice Ac code.length Cc))] 8 [.slice Ac code.length Cc] (some 7) rfl (xc_b fun ww hf => big_c code Ac Cc ww (hf _ m0)) ?_
 intro _
 refine kED [0,7] [] ?_
 refine kC (decide (((code.length : Nat) : Int) > 1048576)) (fun h1 => ?_) (fun h1 => ?_)
 have h1p := of_decide_eq_true h1
 refine kQ ?_
 refine kES [2] [(2,.v (.bool true))] ?_
 refine kR ?_
 exact ⟨[.bool true],by kernel_rfl,fun w' hb hf => ⟨rfl,hb⟩⟩
 have h1p := of_decide_eq_false h1
 have hbig : code.length ≤ 1048576 := by simp at h1; omega
 refine kK ?_
 refine kQ ?_
 refine kCS 1 [8] [(8,.v (.slice Ac code.length Cc))] 16 [.slice Ac code.length Cc] (some 9) rfl (xc_newF (α := {y : (Con) × (Option Addr × Nat) // RB 4 y.1.r}) (F := fun y => .agg #[.int .i64 y.1.1.t.ip,.int .i64 y.1.1.t.port,.int .i64 y.1.1.t.my,.int .i64 y.1.1.state,.int .i64 y.1.1.s.una,.string y.1.1.s.data,.int .i64 y.1.1.s.sent,.bool y.1.1.s.fin,.bool y.1.1.s.finSent,.bool y.1.1.s.done,.int .i64 y.1.1.r.next,.string y.1.1.r.data,.slice y.1.2.1 y.1.1.r.held.length y.1.2.2,.int .i64 y.1.1.r.fin,.bool y.1.1.r.done,.int .i64 y.1.1.window,.int .i64 y.1.1.most,.int .i64 y.1.1.o.mss,.int .i64 y.1.1.o.scale,.bool y.1.1.o.sack,.bool y.1.1.o.stamp,.int .i64 y.1.1.o.val,.int .i64 y.1.1.o.echo,.int .i64 y.1.1.timer,.int .i64 y.1.1.tries]) (v := fun y => .slice y.1.2.1 y.1.1.r.held.length y.1.2.2) (rs := fun y => y.1.1.r.held.map pceCells) fun ww hw hf => drawTurned_c code Ac Cc ww (hf _ m0) (by omega)) ?_
 rintro ⟨⟨d2a,d2A,d2C⟩,hd2⟩
 dsimp only at hd2
 have hkn := hd2.kn; have hm := hd2.hm; have hsz := hd2.sz
 have hrd1 := hd2.1; have hrd2 := hd2.2.2
 refine kEA [3] [(3,.p 0 0)] [⟨41,conL d2a (.slice d2A d2a.r.held.length d2C)⟩] ?_
 refine kQ ?_
 refine kCD 1 [3,10] [(10,.v (.agg (conL d2a (.slice d2A d2a.r.held.length d2C)).toArray))] 17 [.agg (conL d2a (.slice d2A d2a.r.held.length d2C)).toArray] (some 11) rfl (xc_r fun ww hw hf => yiTurned_c d2a (.slice d2A d2a.r.held.length d2C) ww (hf _ m0).1 (by assumption) (by assumption) (by omega) w.heap.size hw) ?_
 rintro ⟨v3a,v3c⟩
 have hkn2 : (turned d2a).r.held.length ≤ 1048576 := by rw [turned_r]; exact hkn
 have hm2 : ∀ p ∈ (turned d2a).r.held,p.text.size ≤ 1048576 := by rw [turned_r]; exact hm
 have hsz2 : (turned d2a).r.data.size ≤ 4611686018427387904 := by rw [turned_r]; exact hsz
 refine kEA [3,4] [(4,.p 1 0)] [⟨41,conL (turned d2a) (.slice v3a ((turned d2a).r.held.length) v3c)⟩] ?_
 refine kS ?_
 refine kS ?_
 refine xe_region [] (by kernel_rfl) (fun ρ σ => ?_)
 refine kTD [0,1] [13,12,3,4] 3 [(13,.v (.agg (conL d2a (.slice d2A d2a.r.held.length d2C)).toArray)),(12,.v (.agg (conL (turned d2a) (.slice v3a ((turned d2a).r.held.length) v3c)).toArray))] ?_
 refine kA [2] ?_
 refine kSC 2 19 [.agg (conL d2a (.slice d2A d2a.r.held.length d2C)).toArray] (some 14) rfl (xc_r fun ww hw hf => ysTurned_c d2a (.slice d2A d2a.r.held.length d2C) ww (hf _ m1).1 (by assumption) (by assumption) (by omega) w.heap.size hw) ?_
 rintro ⟨v4a,v4c⟩
 refine kA [3] ?_
 refine kSC 3 18 [.agg (conL (turned d2a) (.slice v3a ((turned d2a).r.held.length) v3c)).toArray,.agg (conL (turned d2a) (.slice v4a ((turned d2a).r.held.length) v4c)).toArray] (some 15) rfl (xc_b fun ww hf => ysSameConn_c (turned d2a) (.slice v3a ((turned d2a).r.held.length) v3c) (turned d2a) (.slice v4a ((turned d2a).r.held.length) v4c) ww (Own.sl (hf _ m1)) (Own.sl (hf _ m0)) ) ?_
 intro _
 refine kTD [4] [16,3,4] 0 [(16,.v (.bool (!(sameConn (turned d2a) (turned d2a)))))] ?_
 refine kZ ?_
 refine kC (!(sameConn (turned d2a) (turned d2a))) (fun h5 => ?_) (fun h5 => ?_)
 have h5n := not_t h5
 exfalso; rw [sameConn_self] at h5n; cases h5n
 have h5n := not_f h5
 refine kK ?_
 refine kQ ?_
 refine kCD 1 [3,4,17] [(17,.v (.agg (conL (turned d2a) (.slice v3a ((turned d2a).r.held.length) v3c)).toArray))] 17 [.agg (conL (turned d2a) (.slice v3a ((turned d2a).r.held.length) v3c)).toArray] (some 18) rfl (xc_r fun ww hw hf => yiTurned_c (turned d2a) (.slice v3a ((turned d2a).r.held.length) v3c) ww (Own.sl (hf _ m1)) (by assumption) (by assumption) (by omega) w.heap.size hw) ?_
 rintro ⟨v6a,v6c⟩
 refine kEA [3,4,5] [(5,.p 2 0)] [⟨41,conL (turned (turned d2a)) (.slice v6a ((turned (turned d2a)).r.held.length) v6c)⟩] ?_
 refine kQ ?_
 refine kCD 2 [3,4,19,20] [(19,.v (.agg (conL (turned (turned d2a)) (.slice v6a ((turned (turned d2a)).r.held.length) v6c)).toArray)),(20,.v (.agg (conL (turned d2a) (.slice v3a ((turned d2a).r.held.length) v3c)).toArray))] 18 [.agg (conL (turned (turned d2a)) (.slice v6a ((turned (turned d2a)).r.held.length) v6c)).toArray,.agg (conL (turned d2a) (.slice v3a ((turned d2a).r.held.length) v3c)).toArray] (some 21) rfl (xc_b fun ww hf => ysSameConn_c (turned (turned d2a)) (.slice v6a ((turned (turned d2a)).r.held.length) v6c) (turned d2a) (.slice v3a ((turned d2a).r.held.length) v3c) ww (Own.sl (hf _ m0)) (Own.sl (hf _ m2)) ) ?_
 intro _
 refine kRD 1 [3,4,22] [(22,.v (.bool (sameConn (turned (turned d2a)) (turned d2a))))] ?_
 refine kP 22 (sameConn (turned (turned d2a)) (turned d2a)) (fun h7 => ?_) (fun h7 => ?_)
 refine kOD 4 [3,4,22,24,26] [(22,.v (.bool true)),(24,.v (.agg (sndL (turned d2a).s).toArray)),(26,.v (.agg (sndL d2a.s).toArray))] (.bool (sndEq ((turned d2a).s) d2a.s)) rfl (fun _ _ _ ww hr => act_bin hr.1 rfl (by kernel_rfl) (by kernel_rfl) (agg_bin (by kernel_rfl) (run_eql_SND ((turned d2a).s.una) ((turned d2a).s.data) ((turned d2a).s.sent) ((turned d2a).s.fin) ((turned d2a).s.finSent) ((turned d2a).s.done) d2a.s.una d2a.s.data d2a.s.sent d2a.s.fin d2a.s.finSent d2a.s.done ww))) ?_
 refine kRS 2 [3,4,29] [(3,.p 0 0),(4,.p 1 0),(29,.v (.bool (sndEq ((turned d2a).s) d2a.s)))] ?_
 refine kP 29 (sndEq ((turned d2a).s) d2a.s) (fun h8 => ?_) (fun h8 => ?_)
 refine kCS 4 [29,31,33] [(29,.v (.bool true)),(31,.v (.agg (rcvL (turned d2a).r (.slice v3a ((turned d2a).r.held.length) v3c)).toArray)),(33,.v (.agg (rcvL d2a.r (.slice d2A d2a.r.held.length d2C)).toArray))] 12 [.agg (rcvL (turned d2a).r (.slice v3a ((turned d2a).r.held.length) v3c)).toArray,.agg (rcvL d2a.r (.slice d2A d2a.r.held.length d2C)).toArray] (some 34) rfl (xc_b fun ww hf => ysSameReceiver_c ((turned d2a).r) (.slice v3a ((turned d2a).r.held.length) v3c) d2a.r (.slice d2A d2a.r.held.length d2C) ww (Own.sl (hf _ m2)) (hf _ m3).1 ) ?_
 intro _
 refine kES [2] [(2,.v (.bool (sameReceiver ((turned d2a).r) d2a.r)))] ?_
 refine kR ?_
 exact ⟨[.bool (sameReceiver ((turned d2a).r) d2a.r)],by kernel_rfl,fun w' hb hf => ⟨ret_bool (show (sameReceiver ((turned d2a).r) d2a.r : Bool) = true from by first | (rw [turned_r]; exact sameR_self _)),hb⟩⟩
 exfalso; rw [(turned_w _).2.1,sndEq_self] at h8; cases h8
 exfalso; rw [turned_idem,sameConn_self] at h7; cases h7

set_option maxRecDepth 100000 in
theorem fnTurned_lifted (os : Os) (started : os.Started) (H : Type) (enc : TypeId × Value → H) :
    ReturnsInHanded {} Try.checked os 4 .any (Rows.fnTurnedSpec.pre6 enc Try.prog Try.f4 Rows.fnTurnedRow.domain false) (Rows.fnTurnedSpec.post enc Try.prog Try.f4 false true false false) := by
  refine returnsInHanded_of_change (C := Try.checked) Try.ownK started (by kernel_rfl) Try.func4
    (ChangeSpec.witness6 (enc := enc) (C := Try.checked) false ⟨#[], #[.slice none 0 0], []⟩ 8 (by kernel_rfl) (by kernel_rfl) (by kernel_rfl) (by kernel_rfl)) ?_
  intro W base args ds gs before hval0 hW hcnd _
  have hval : ∀ (j : Nat) t v, Try.f4.params[j]? = some t → args[j]? = some v → Value.okWide Try.prog W .any base t v := hval0
  have hW' := hW
  obtain ⟨p, q, hA0, hV, rfl, hfz, hnd⟩ := hW
  have hA : DataW.TrodAll enc Try.prog W 0 (fun _ => true) true Try.f4.params.toList args.toList ds p := hA0
  rw [Try.params4] at hA hval
  obtain ⟨v0, vs0, d0, ds0, p0, q0, hargs, rfl, rfl, h0, r0⟩ := trodAll_cons hA
  obtain ⟨rfl, rfl, rfl⟩ := trodAll_nil r0
  obtain rfl : args = #[v0] := by cases args; simp_all
  obtain ⟨rfl, rfl⟩ := trodVars_none hV
  clear hA0 hval0
  have g0 := h0
  obtain ⟨l0, L0⟩ := openS_byte (hval 0 _ v0 rfl rfl) g0
  refine (fnTurned_walk l0 v0 W L0).mono fun e W' ⟨he, hb⟩ => ?_
  subst he
  have hlt : ∀ x ∈ (p0 ++ ([])) ++ [], x.block < W.heap.size := fun x hx => hW'.lt x hx
  refine ⟨_, rfl, post_of_below (pa := (p0 ++ ([]))) (pv := []) hW' (fun _ _ _ => trodAll_cons_mk (shut_bool Try.underlying4 _) trodAll_mk0) (fun sp hsp => trodAll_cons_mk (WideElems.Trod_stays Try.laidOut (by kernel_rfl) (of_decide_eq_true (by kernel_rfl)) h0 (fun x hx => hb.same (hlt x (List.mem_append_left _ (List.mem_append_left _ hx)))) (fun x hx => hsp x (List.mem_append_left _ (List.mem_append_left _ hx)))) (trodAll_mk0)) (fun _ _ => rfl) rfl hb (ok_one (by kernel_rfl) rfl (okWide_bool_mk Try.underlying4 _))⟩

theorem fnTurned_over : Rows.fnTurnedRow.holds Try.pinned (OpenSpec.ofChange Rows.fnTurnedSpec) :=
  OpenClaim.holds_of_wide 4 Try.f4 rfl rfl rfl rfl rfl rfl rfl ⟨rfl, rfl, rfl, rfl, rfl⟩ rfl rfl rfl rfl rfl (by kernel_rfl) Try.func4 (by kernel_rfl)
    (of_decide_eq_true (by kernel_rfl)) (by unfold Func.isWrapper; first | (rw [if_pos (by decide +kernel)]; kernel_rfl) | (rw [if_neg (by decide +kernel)]; exact ⟨rfl, rfl⟩))
    (fun os started H enc _ => fnTurned_lifted os started H enc)

theorem fnTurned_holds : Rows.FnTurnedSaid := fnTurned_over
#print axioms fnTurned_holds
end Go.Proofs.Ytnmmhbhdcplfmaa
