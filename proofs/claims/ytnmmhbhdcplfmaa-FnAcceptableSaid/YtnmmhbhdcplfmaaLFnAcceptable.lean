/- The law FnAcceptable holds: for every argument the program's function answers true and leaves its arguments as they were. Conditions: none beyond the given row's. -/
import Derived.Test.YtnmmhbhdcplfmaaZ4
import Derived.Test.YtnmmhbhdcplfmaaMQ
import Derived.Test.YtnmmhbhdcplfmaaZ4
import Derived.Test.YtnmmhbhdcplfmaaOB
namespace Go.Proofs.Ytnmmhbhdcplfmaa
open Go.RowKit Go.ChangeShapes Go.WideShapes Go.ChangeAt
set_option linter.unusedVariables false
set_option linter.unusedSimpArgs false

set_option maxRecDepth 100000 in
set_option maxHeartbeats 2000000 in
theorem fnAcceptable_walk (code : List Int) (codeV : Value) (w : World) (hl_codeV : Sl w codeV 1 (code.map byteRow)) : Calls Try.prog 5 #[codeV] w fun e w' => e = .returned (.bool true) ∧ Below w.heap.size w w' := by
 obtain ⟨Ac,Cc,hvc⟩ := hl_codeV.form
 rw [List.length_map] at hvc; subst hvc
 have hnc := hl_codeV.len; rw [List.length_map] at hnc
 have hqc := Sl.capLe hl_codeV
 refine x_calls (args := [.slice Ac code.length Cc]) (fn := Try.f5) [slF (.slice Ac code.length Cc) 1 (code.map byteRow)] Try.func5 rfl Try.ntmps5 rfl (by simp only [List.mem_cons,List.not_mem_nil,or_false,forall_eq_or_imp,forall_eq]; exact ⟨rfl,hl_codeV⟩) ?_
 refine kQ ?_
 refine kEF [0] ⟨[(0,.v (.slice Ac code.length Cc))],[],[],[slF (.slice Ac code.length Cc) 1 (code.map byteRow)]⟩ ?_
 refine kS ?_
 refine kQ ?_
 refine kCD 1 [0,7] [(7,.v (.slice Ac code.length Cc))] 8 [.slice Ac code.length Cc] (some 8) rfl (xc_b fun ww hf => big_c code Ac Cc ww (hf _ m0)) ?_
 intro _
 refine kED [0,8] [] ?_
 refine kC (decide (((code.length : Nat) : Int) > 1048576)) (fun h1 => ?_) (fun h1 => ?_)
 have h1p := of_decide_eq_true h1
 refine kQ ?_
 refine kES [2] [(2,.v (.bool true))] ?_
 refine kR ?_
 exact ⟨[.bool true],by kernel_rfl,fun w' hb hf => ⟨rfl,hb⟩⟩
 have h1p := of_decide_eq_false h1
 have hbig : code.length ≤ 1048576 := by simp at h1; omega
 refine kK ?_
 refine kQ ?_
 refine kCS 1 [10] [(10,.v (.slice Ac code.length Cc))] 20 [.slice Ac code.length Cc] (some 11) rfl (xc_newF (α := {y : (Con × Seg) × (Option Addr × Nat) // RB 4 y.1.1.r ∧ y.1.2.body.size ≤ 4096}) (F := fun y => .tuple #[.agg #[.int .i64 y.1.1.1.t.ip,.int .i64 y.1.1.1.t.port,.int .i64 y.1.1.1.t.my,.int .i64 y.1.1.1.state,.int .i64 y.1.1.1.s.una,.string y.1.1.1.s.data,.int .i64 y.1.1.1.s.sent,.bool y.1.1.1.s.fin,.bool y.1.1.1.s.finSent,.bool y.1.1.1.s.done,.int .i64 y.1.1.1.r.next,.string y.1.1.1.r.data,.slice y.1.2.1 y.1.1.1.r.held.length y.1.2.2,.int .i64 y.1.1.1.r.fin,.bool y.1.1.1.r.done,.int .i64 y.1.1.1.window,.int .i64 y.1.1.1.most,.int .i64 y.1.1.1.o.mss,.int .i64 y.1.1.1.o.scale,.bool y.1.1.1.o.sack,.bool y.1.1.1.o.stamp,.int .i64 y.1.1.1.o.val,.int .i64 y.1.1.1.o.echo,.int .i64 y.1.1.1.timer,.int .i64 y.1.1.1.tries],.agg (segL y.1.1.2).toArray]) (v := fun y => .slice y.1.2.1 y.1.1.1.r.held.length y.1.2.2) (rs := fun y => y.1.1.1.r.held.map pceCells) fun ww hw hf => drawAcceptable_c code Ac Cc ww (hf _ m0) (by omega)) ?_
 rintro ⟨⟨⟨d2a,d2b⟩,d2A,d2C⟩,hd2⟩
 dsimp only at hd2
 have hkn := hd2.1.kn; have hm := hd2.1.hm; have hsz := hd2.1.sz
 have hrd1 := hd2.1.1; have hrd2 := hd2.1.2.2
 have hbs := hd2.2
 refine kEA [3,4] [(3,.p 0 0),(4,.p 1 0)] [⟨41,conL d2a (.slice d2A d2a.r.held.length d2C)⟩,⟨46,segL d2b⟩] ?_
 refine kQ ?_
 refine kCD 2 [3,4,14,15] [(14,.v (.agg (conL d2a (.slice d2A d2a.r.held.length d2C)).toArray)),(15,.v (.agg (segL d2b).toArray))] 21 [.agg (conL d2a (.slice d2A d2a.r.held.length d2C)).toArray,.agg (segL d2b).toArray] (some 16) rfl (xc_b fun ww hf => iAcceptable_c d2a.t.ip d2a.t.port d2a.t.my d2a.state d2a.s.una d2a.s.data d2a.s.sent d2a.s.fin d2a.s.finSent d2a.s.done d2a.r.next d2a.r.data d2a.r.held (.slice d2A d2a.r.held.length d2C) d2a.r.fin d2a.r.done d2a.window d2a.most d2a.o.mss d2a.o.scale d2a.o.sack d2a.o.stamp d2a.o.val d2a.o.echo d2a.timer d2a.tries d2b.src d2b.dst d2b.seq d2b.ack d2b.flags d2b.window d2b.o.mss d2b.o.scale d2b.o.sack d2b.o.stamp d2b.o.val d2b.o.echo d2b.body ww (by omega) (by omega)) ?_
 intro _
 refine kED [3,4,5] [(5,.v (.bool (acceptable d2a d2b)))] ?_
 refine kS ?_
 refine kS ?_
 refine xe_region [] (by kernel_rfl) (fun ρ σ => ?_)
 refine kTS [0,1,2] [19,18,17,3,4,5] 13 [(19,.v (.agg (segL d2b).toArray)),(18,.v (.agg (conL d2a (.slice d2A d2a.r.held.length d2C)).toArray)),(17,.v (.bool (acceptable d2a d2b))),(3,.p 0 0),(4,.p 1 0),(5,.v (.bool (acceptable d2a d2b)))] ?_
 refine kA [3] ?_
 refine kSC 3 22 [.agg (conL d2a (.slice d2A d2a.r.held.length d2C)).toArray,.agg (segL d2b).toArray] (some 20) rfl (xc_b fun ww hf => sAcceptable_c d2a.t.ip d2a.t.port d2a.t.my d2a.state d2a.s.una d2a.s.data d2a.s.sent d2a.s.fin d2a.s.finSent d2a.s.done d2a.r.next d2a.r.data d2a.r.held (.slice d2A d2a.r.held.length d2C) d2a.r.fin d2a.r.done d2a.window d2a.most d2a.o.mss d2a.o.scale d2a.o.sack d2a.o.stamp d2a.o.val d2a.o.echo d2a.timer d2a.tries d2b.src d2b.dst d2b.seq d2b.ack d2b.flags d2b.window d2b.o.mss d2b.o.scale d2b.o.sack d2b.o.stamp d2b.o.val d2b.o.echo d2b.body ww (by omega) (by omega)) ?_
 intro _
 refine kTS [4,5] [22,3,4,5] 10 [(22,.v (.bool (!((acceptable d2a d2b) == (acceptable d2a d2b))))),(3,.p 0 0),(4,.p 1 0),(5,.v (.bool (acceptable d2a d2b)))] ?_
 refine kY 22 (!((acceptable d2a d2b) == (acceptable d2a d2b))) (fun h3 => ?_) (fun h3 => ?_)
 have h3n := not_t h3
 simp at h3n
 have h3n := not_f h3
 have h3np := eqT h3n
 refine kTS [6,7,8,10,11,12] [29,27,25,23,22,3,4,5] 4 [(29,.v (.int .i64 d2b.ack)),(27,.v (.agg (conL d2a (.slice d2A d2a.r.held.length d2C)).toArray)),(25,.v (.int .i64 d2b.ack)),(23,.v (.agg (conL d2a (.slice d2A d2a.r.held.length d2C)).toArray)),(22,.v (.bool false)),(3,.p 0 0),(4,.p 1 0),(5,.v (.bool (acceptable d2a d2b)))] ?_
 refine kA [9] ?_
 refine kSC 9 23 [.agg (conL d2a (.slice d2A d2a.r.held.length d2C)).toArray,.int .i64 d2b.ack] (some 26) rfl (xc_b fun ww hf => iAckFits_c d2a.t.ip d2a.t.port d2a.t.my d2a.state d2a.s.una d2a.s.data d2a.s.sent d2a.s.fin d2a.s.finSent d2a.s.done d2a.r.next d2a.r.data d2a.r.held (.slice d2A d2a.r.held.length d2C) d2a.r.fin d2a.r.done d2a.window d2a.most d2a.o.mss d2a.o.scale d2a.o.sack d2a.o.stamp d2a.o.val d2a.o.echo d2a.timer d2a.tries d2b.ack ww ) ?_
 intro _
 refine kA [13] ?_
 refine kSC 13 24 [.agg (conL d2a (.slice d2A d2a.r.held.length d2C)).toArray,.int .i64 d2b.ack] (some 30) rfl (xc_b fun ww hf => sAckFits_c d2a.t.ip d2a.t.port d2a.t.my d2a.state d2a.s.una d2a.s.data d2a.s.sent d2a.s.fin d2a.s.finSent d2a.s.done d2a.r.next d2a.r.data d2a.r.held (.slice d2A d2a.r.held.length d2C) d2a.r.fin d2a.r.done d2a.window d2a.most d2a.o.mss d2a.o.scale d2a.o.sack d2a.o.stamp d2a.o.val d2a.o.echo d2a.timer d2a.tries d2b.ack ww ) ?_
 intro _
 refine kTS [14,15] [32,3,4,5] 0 [(32,.v (.bool (!((ackFits d2a d2b.ack) == (ackFits d2a d2b.ack))))),(3,.p 0 0),(4,.p 1 0),(5,.v (.bool (acceptable d2a d2b)))] ?_
 refine kZ ?_
 refine kC (!((ackFits d2a d2b.ack) == (ackFits d2a d2b.ack))) (fun h4 => ?_) (fun h4 => ?_)
 have h4n := not_t h4
 simp at h4n
 have h4n := not_f h4
 have h4np := eqT h4n
 refine kK ?_
 refine kQ ?_
 refine kCD 2 [3,4,5,34] [(34,.v (.agg (rcvL d2a.r (.slice d2A d2a.r.held.length d2C)).toArray))] 25 [.agg (rcvL d2a.r (.slice d2A d2a.r.held.length d2C)).toArray] (some 35) rfl (xc_b fun ww hf => sWindowOf_c d2a.r.next d2a.r.data d2a.r.held (.slice d2A d2a.r.held.length d2C) d2a.r.fin d2a.r.done ww (by omega)) ?_
 intro _
 refine kED [3,4,5,6] [(6,.v (.int .i64 (windowOf d2a.r)))] ?_
 refine kS ?_
 refine kQ ?_
 refine kCD 1 [3,4,5,6,36] [(36,.v (.agg (segL d2b).toArray))] 26 [.agg (segL d2b).toArray] (some 37) rfl (xc_b fun ww hf => sSegmentLen_c d2b.src d2b.dst d2b.seq d2b.ack d2b.flags d2b.window d2b.o.mss d2b.o.scale d2b.o.sack d2b.o.stamp d2b.o.val d2b.o.echo d2b.body ww (by omega)) ?_
 intro _
 refine kED [3,4,5,6,38] [(38,.v (.bool (decide ((segLen d2b) > 0))))] ?_
 refine kC (decide ((segLen d2b) > 0)) (fun h5 => ?_) (fun h5 => ?_)
 have h5p := of_decide_eq_true h5
 refine kQ ?_
 refine kRD 3 [6,41] [(41,.v (.bool (!(acceptable d2a d2b))))] ?_
 refine kP 41 (!(acceptable d2a d2b)) (fun h6 => ?_) (fun h6 => ?_)
 have h6n := not_t h6
 have hna := h6n
 refine kES [2] [(2,.v (.bool true))] ?_
 refine kR ?_
 exact ⟨[.bool true],by kernel_rfl,fun w' hb hf => ⟨rfl,hb⟩⟩
 have h6n := not_f h6
 have hac := h6n
 refine kES [2] [(2,.v (.bool (decide ((windowOf d2a.r) > 0))))] ?_
 refine kR ?_
 exact ⟨[.bool (decide ((windowOf d2a.r) > 0))],by kernel_rfl,fun w' hb hf => ⟨ret_bool (show (decide ((windowOf d2a.r) > 0) : Bool) = true from by first | (rw [acc_none (by omega),decide_eq_true (by assumption)]; rfl) | (rw [acc_none (by omega),decide_eq_false (by assumption),Bool.false_or]; exact beq_self_eq_true _) | (have := acc_len (by omega) hac; exact decide_eq_true (by omega))),hb⟩⟩
 have h5p := of_decide_eq_false h5
 refine kK ?_
 refine kS ?_
 refine xe_region [] (by kernel_rfl) (fun ρ σ => ?_)
 refine kTS [0,1,2,4,5,6] [51,47,45,3,4,6] 14 [(51,.v (.int .i64 d2a.r.next)),(47,.v (.int .i64 d2b.seq)),(45,.v (.bool (acceptable d2a d2b))),(3,.p 0 0),(4,.p 1 0),(6,.v (.int .i64 (windowOf d2a.r)))] ?_
 refine kA [3] ?_
 refine kSC 3 27 [.int .i64 d2b.seq] (some 48) rfl (xc_b fun ww hf => yplace_c d2b.seq ww  ) ?_
 intro _
 refine kA [7] ?_
 refine kSC 7 27 [.int .i64 d2a.r.next] (some 52) rfl (xc_b fun ww hf => yplace_c d2a.r.next ww  ) ?_
 intro _
 refine kTS [8,9] [54,45,3,4,6] 10 [(54,.v (.bool ((d2b.seq % 4294967296) == (d2a.r.next % 4294967296)))),(45,.v (.bool (acceptable d2a d2b))),(3,.p 0 0),(4,.p 1 0),(6,.v (.int .i64 (windowOf d2a.r)))] ?_
 refine kY 54 ((d2b.seq % 4294967296) == (d2a.r.next % 4294967296)) (fun h7 => ?_) (fun h7 => ?_)
 have h7p := eqT h7
 refine kTS [10,11,12,13,14,15,16,17,18,19] [2] 0 [(2,.v (.bool ((acceptable d2a d2b) == true)))] ?_
 refine kZ ?_
 refine kR ?_
 exact ⟨[.bool ((acceptable d2a d2b) == true)],by kernel_rfl,fun w' hb hf => ⟨ret_bool (show ((acceptable d2a d2b) == true : Bool) = true from by first | (rw [acc_none (by omega),decide_eq_true (by assumption)]; rfl) | (rw [acc_none (by omega),decide_eq_false (by assumption),Bool.false_or]; exact beq_self_eq_true _) | (have := acc_len (by omega) hac; exact decide_eq_true (by omega))),hb⟩⟩
 have h7p := eqF h7
 refine kTS [10,11,12,13,14,15] [60,59,56,54,45] 4 [(60,.v (.int .i64 (windowOf d2a.r))),(59,.v (.int .i64 d2a.r.next)),(56,.v (.int .i64 d2b.seq)),(54,.v (.bool false)),(45,.v (.bool (acceptable d2a d2b)))] ?_
 refine kA [16] ?_
 refine kSC 16 28 [.int .i64 d2b.seq,.int .i64 d2a.r.next,.int .i64 (windowOf d2a.r)] (some 61) rfl (xc_s fun ww hf => sInWindow_c d2b.seq d2a.r.next (windowOf d2a.r) ww ) ?_
 intro _
 refine kTS [17,18,19] [2] 0 [(2,.v (.bool ((acceptable d2a d2b) == (inWindow d2b.seq d2a.r.next (windowOf d2a.r)))))] ?_
 refine kZ ?_
 refine kR ?_
 exact ⟨[.bool ((acceptable d2a d2b) == (inWindow d2b.seq d2a.r.next (windowOf d2a.r)))],by kernel_rfl,fun w' hb hf => ⟨ret_bool (show ((acceptable d2a d2b) == (inWindow d2b.seq d2a.r.next (windowOf d2a.r)) : Bool) = true from by first | (rw [acc_none (by omega),decide_eq_true (by assumption)]; rfl) | (rw [acc_none (by omega),decide_eq_false (by assumption),Bool.false_or]; exact beq_self_eq_true _) | (have := acc_len (by omega) hac; exact decide_eq_true (by omega))),hb⟩⟩

set_option maxRecDepth 100000 in
theorem fnAcceptable_lifted (os : Os) (started : os.Started) (H : Type) (enc : TypeId × Value → H) :
    ReturnsInHanded {} Try.checked os 5 .any (Rows.fnAcceptableSpec.pre6 enc Try.prog Try.f5 Rows.fnAcceptableRow.domain false) (Rows.fnAcceptableSpec.post enc Try.prog Try.f5 false true false false) := by
  refine returnsInHanded_of_change (C := Try.checked) Try.ownK started (by kernel_rfl) Try.func5
    (ChangeSpec.witness6 (enc := enc) (C := Try.checked) false ⟨#[], #[.slice none 0 0], []⟩ 8 (by kernel_rfl) (by kernel_rfl) (by kernel_rfl) (by kernel_rfl)) ?_
  intro W base args ds gs before hval0 hW hcnd _
  have hval : ∀ (j : Nat) t v, Try.f5.params[j]? = some t → args[j]? = some v → Value.okWide Try.prog W .any base t v := hval0
  have hW' := hW
  obtain ⟨p, q, hA0, hV, rfl, hfz, hnd⟩ := hW
  have hA : DataW.TrodAll enc Try.prog W 0 (fun _ => true) true Try.f5.params.toList args.toList ds p := hA0
  rw [Try.params5] at hA hval
  obtain ⟨v0, vs0, d0, ds0, p0, q0, hargs, rfl, rfl, h0, r0⟩ := trodAll_cons hA
  obtain ⟨rfl, rfl, rfl⟩ := trodAll_nil r0
  obtain rfl : args = #[v0] := by cases args; simp_all
  obtain ⟨rfl, rfl⟩ := trodVars_none hV
  clear hA0 hval0
  have g0 := h0
  obtain ⟨l0, L0⟩ := openS_byte (hval 0 _ v0 rfl rfl) g0
  refine (fnAcceptable_walk l0 v0 W L0).mono fun e W' ⟨he, hb⟩ => ?_
  subst he
  have hlt : ∀ x ∈ (p0 ++ ([])) ++ [], x.block < W.heap.size := fun x hx => hW'.lt x hx
  refine ⟨_, rfl, post_of_below (pa := (p0 ++ ([]))) (pv := []) hW' (fun _ _ _ => trodAll_cons_mk (shut_bool Try.underlying4 _) trodAll_mk0) (fun sp hsp => trodAll_cons_mk (WideElems.Trod_stays Try.laidOut (by kernel_rfl) (of_decide_eq_true (by kernel_rfl)) h0 (fun x hx => hb.same (hlt x (List.mem_append_left _ (List.mem_append_left _ hx)))) (fun x hx => hsp x (List.mem_append_left _ (List.mem_append_left _ hx)))) (trodAll_mk0)) (fun _ _ => rfl) rfl hb (ok_one (by kernel_rfl) rfl (okWide_bool_mk Try.underlying4 _))⟩

theorem fnAcceptable_over : Rows.fnAcceptableRow.holds Try.pinned (OpenSpec.ofChange Rows.fnAcceptableSpec) :=
  OpenClaim.holds_of_wide 5 Try.f5 rfl rfl rfl rfl rfl rfl rfl ⟨rfl, rfl, rfl, rfl, rfl⟩ rfl rfl rfl rfl rfl (by kernel_rfl) Try.func5 (by kernel_rfl)
    (of_decide_eq_true (by kernel_rfl)) (by unfold Func.isWrapper; first | (rw [if_pos (by decide +kernel)]; kernel_rfl) | (rw [if_neg (by decide +kernel)]; exact ⟨rfl, rfl⟩))
    (fun os started H enc _ => fnAcceptable_lifted os started H enc)

theorem fnAcceptable_holds : Rows.FnAcceptableSaid := fnAcceptable_over
#print axioms fnAcceptable_holds
end Go.Proofs.Ytnmmhbhdcplfmaa
