/- The law FnVerdict holds: for every argument the program's function answers true and leaves its arguments as they were. Conditions: none beyond the given row's. -/
import Derived.Test.YtnmmhbhdcplfmaaGreatZ4
import Derived.Test.YtnmmhbhdcplfmaaGreatG3
import Derived.Test.YtnmmhbhdcplfmaaGreatG2
namespace Go.Proofs.YtnmmhbhdcplfmaaGreat
open Go.RowKit Go.ChangeShapes Go.WideShapes Go.ChangeAt
set_option linter.unusedVariables false
set_option linter.unusedSimpArgs false

set_option maxRecDepth 100000 in
set_option maxHeartbeats 2000000 in
theorem fnVerdict_walk (code : List Int) (codeV : Value) (w : World) (hl_codeV : Sl w codeV 1 (code.map byteRow)) : Calls Tryz.prog 3 #[codeV] w fun e w' => e = .returned (.bool true) ∧ Below w.heap.size w w' := by
 obtain ⟨Ac,Cc,hvc⟩ := hl_codeV.form
 rw [List.length_map] at hvc; subst hvc
 have hnc := hl_codeV.len; rw [List.length_map] at hnc
 have hqc := Sl.capLe hl_codeV
 refine x_calls (args := [.slice Ac code.length Cc]) (fn := Tryz.f3) [slF (.slice Ac code.length Cc) 1 (code.map byteRow)] Tryz.func3 rfl Tryz.ntmps3 rfl (by simp only [List.mem_cons,List.not_mem_nil,or_false,forall_eq_or_imp,forall_eq]; exact ⟨rfl,hl_codeV⟩) ?_
 refine kQ ?_
 refine kEF [0] ⟨[(0,.v (.slice Ac code.length Cc))],[],[],[slF (.slice Ac code.length Cc) 1 (code.map byteRow)]⟩ ?_
 refine kS ?_
 refine kQ ?_
 refine kCD 1 [0,6] [(6,.v (.slice Ac code.length Cc))] 10 [.slice Ac code.length Cc] (some 7) rfl (xc_b fun ww hf => big_c code Ac Cc ww (hf _ m0)) ?_
 intro _
 refine kED [0,7] [] ?_
 refine kC (decide (((code.length : Nat) : Int) > 1048576)) (fun h1 => ?_) (fun h1 => ?_)
 have h1p := of_decide_eq_true h1
 refine kQ ?_
 refine kES [2] [(2,.v (.bool true))] ?_
 refine kR ?_
 exact ⟨[.bool true],by kernel_rfl,fun w' hb hf => ⟨rfl,hb⟩⟩
 have h1p := of_decide_eq_false h1
 have hbig : code.length ≤ 1048576 := by simp at h1; omega
 refine kK ?_
 refine kQ ?_
 refine kCS 1 [9] [(9,.v (.slice Ac code.length Cc))] 11 [.slice Ac code.length Cc] (some 10) rfl (xc_newF (α := {y : (Con × Seg) × (Option Addr × Nat) // RB 4 y.1.1.r ∧ y.1.2.body.size ≤ 4096}) (F := fun y => .tuple #[.agg #[.int .i64 y.1.1.1.t.ip,.int .i64 y.1.1.1.t.port,.int .i64 y.1.1.1.t.my,.int .i64 y.1.1.1.state,.int .i64 y.1.1.1.s.una,.string y.1.1.1.s.data,.int .i64 y.1.1.1.s.sent,.bool y.1.1.1.s.fin,.bool y.1.1.1.s.finSent,.bool y.1.1.1.s.done,.int .i64 y.1.1.1.r.next,.string y.1.1.1.r.data,.slice y.1.2.1 y.1.1.1.r.held.length y.1.2.2,.int .i64 y.1.1.1.r.fin,.bool y.1.1.1.r.done,.int .i64 y.1.1.1.window,.int .i64 y.1.1.1.most,.int .i64 y.1.1.1.o.mss,.int .i64 y.1.1.1.o.scale,.bool y.1.1.1.o.sack,.bool y.1.1.1.o.stamp,.int .i64 y.1.1.1.o.val,.int .i64 y.1.1.1.o.echo,.int .i64 y.1.1.1.timer,.int .i64 y.1.1.1.tries],.agg (segL y.1.1.2).toArray]) (v := fun y => .slice y.1.2.1 y.1.1.1.r.held.length y.1.2.2) (rs := fun y => y.1.1.1.r.held.map pceCells) fun ww hw hf => drawVerdict_c code Ac Cc ww (hf _ m0) (by omega)) ?_
 rintro ⟨⟨⟨d2a,d2b⟩,d2A,d2C⟩,hd2⟩
 dsimp only at hd2
 have hkn := hd2.1.kn; have hm := hd2.1.hm; have hsz := hd2.1.sz
 have hrd1 := hd2.1.1; have hrd2 := hd2.1.2.2
 have hbs := hd2.2
 have hvr := verdict_rng d2a d2b; have hvc := fun e : verdict d2a d2b = 3 => v_chal e
 refine kEA [3,4] [(3,.p 0 0),(4,.p 1 0)] [⟨34,conL d2a (.slice d2A d2a.r.held.length d2C)⟩,⟨36,segL d2b⟩] ?_
 refine kQ ?_
 refine kCD 2 [3,4,13,14] [(13,.v (.agg (conL d2a (.slice d2A d2a.r.held.length d2C)).toArray)),(14,.v (.agg (segL d2b).toArray))] 12 [.agg (conL d2a (.slice d2A d2a.r.held.length d2C)).toArray,.agg (segL d2b).toArray] (some 15) rfl (xc_b fun ww hf => yiVerdict_c d2a (.slice d2A d2a.r.held.length d2C) d2b ww (hf _ m0).1 (by omega) (by assumption) (by omega)) ?_
 intro _
 refine kED [3,4,5] [(5,.v (.int .i64 (verdict d2a d2b)))] ?_
 refine kS ?_
 refine kQ ?_
 refine kCD 3 [3,4,5,16,17,18] [(16,.v (.int .i64 (verdict d2a d2b))),(17,.v (.agg (conL d2a (.slice d2A d2a.r.held.length d2C)).toArray)),(18,.v (.agg (segL d2b).toArray))] 13 [.agg (conL d2a (.slice d2A d2a.r.held.length d2C)).toArray,.agg (segL d2b).toArray] (some 19) rfl (xc_b fun ww hf => ysVerdict_c d2a (.slice d2A d2a.r.held.length d2C) d2b ww (hf _ m0).1 (by omega) (by assumption) (by omega)) ?_
 intro _
 refine kRD 2 [3,4,5,21] [(21,.v (.bool ((verdict d2a d2b) != (verdict d2a d2b))))] ?_
 refine kP 21 ((verdict d2a d2b) != (verdict d2a d2b)) (fun h3 => ?_) (fun h3 => ?_)
 simp at h3
 have h3p := neF h3
 refine kRD 4 [3,4,5,25] [(25,.v (.bool (decide ((verdict d2a d2b) < 1))))] ?_
 refine kP 25 (decide ((verdict d2a d2b) < 1)) (fun h4 => ?_) (fun h4 => ?_)
 have h4p := of_decide_eq_true h4
 exfalso; have := of_decide_eq_true h4; omega
 have h4p := of_decide_eq_false h4
 refine kED [3,4,5,28] [(28,.v (.bool (decide ((verdict d2a d2b) > 5))))] ?_
 refine kC (decide ((verdict d2a d2b) > 5)) (fun h5 => ?_) (fun h5 => ?_)
 have h5p := of_decide_eq_true h5
 exfalso; have := of_decide_eq_true h5; omega
 have h5p := of_decide_eq_false h5
 refine kK ?_
 refine kS ?_
 refine kQ ?_
 refine kED [3,4,5,30] [(30,.v (.bool ((verdict d2a d2b) == 2)))] ?_
 refine kC ((verdict d2a d2b) == 2) (fun h6 => ?_) (fun h6 => ?_)
 have h6p := eqT h6
 have hv2 := v_reset (eqT h6)
 refine kQ ?_
 refine kRD 5 [3,4,35] [(35,.v (.bool ((IntKind.i64.wrap (BitVec.ofInt 64 d2b.flags &&& BitVec.ofInt 64 4).toNat) != 0)))] ?_
 refine kP 35 ((IntKind.i64.wrap (BitVec.ofInt 64 d2b.flags &&& BitVec.ofInt 64 4).toNat) != 0) (fun h7 => ?_) (fun h7 => ?_)
 have h7p := neT h7
 refine kRD 8 [3,43] [(43,.v (.bool (d2b.seq == d2a.r.next)))] ?_
 refine kP 43 (d2b.seq == d2a.r.next) (fun h8 => ?_) (fun h8 => ?_)
 have h8p := eqT h8
 refine kES [2] [(2,.v (.bool (d2a.state != 8)))] ?_
 refine kR ?_
 exact ⟨[.bool (d2a.state != 8)],by kernel_rfl,fun w' hb hf => ⟨ret_bool (show (d2a.state != 8 : Bool) = true from by first | (have e := hv2.2.2; simpa using e) | (rw [hmw]; exact decide_eq_true (by omega)) | (rcases hvc (by assumption) with e | e <;> first | exact absurd (by assumption) e | (simp [e]; done))),hb⟩⟩
 have h8p := eqF h8
 exfalso; rw [hv2.2.1] at h8; simp at h8
 have h7p := neF h7
 exfalso; exact hv2.1 (bne_eq_false_iff_eq.1 h7)
 have h6p := eqF h6
 refine kK ?_
 refine kS ?_
 refine kQ ?_
 refine kED [3,4,5,49] [(49,.v (.bool ((verdict d2a d2b) == 5)))] ?_
 refine kC ((verdict d2a d2b) == 5) (fun h9 => ?_) (fun h9 => ?_)
 have h9p := eqT h9
 obtain ⟨f6,f16,faf,fac,fsd,fmo,fmb,fmb2⟩ := v_fine (eqT h9)
 have hmw : IntKind.i64.wrap (0 - d2a.most) = -d2a.most := by rw [wrap_id (by omega) (by omega)]; omega
 refine kS ?_
 refine xe_region [] (by kernel_rfl) (fun ρ σ => ?_)
 refine kTS [0,1,2,3,4] [54,3,4] 38 [(54,.v (.bool ((IntKind.i64.wrap (BitVec.ofInt 64 d2b.flags &&& BitVec.ofInt 64 6).toNat) == 0))),(3,.p 0 0),(4,.p 1 0)] ?_
 refine kY 54 ((IntKind.i64.wrap (BitVec.ofInt 64 d2b.flags &&& BitVec.ofInt 64 6).toNat) == 0) (fun h10 => ?_) (fun h10 => ?_)
 have h10p := eqT h10
 refine kTS [5,6,7,8,9,10] [60,3,4] 32 [(60,.v (.bool ((IntKind.i64.wrap (BitVec.ofInt 64 d2b.flags &&& BitVec.ofInt 64 16).toNat) != 0))),(3,.p 0 0),(4,.p 1 0)] ?_
 refine kY 60 ((IntKind.i64.wrap (BitVec.ofInt 64 d2b.flags &&& BitVec.ofInt 64 16).toNat) != 0) (fun h11 => ?_) (fun h11 => ?_)
 have h11p := neT h11
 refine kTS [11,12,13] [63,61,60,3,4] 29 [(63,.v (.int .i64 d2b.ack)),(61,.v (.agg (conL d2a (.slice d2A d2a.r.held.length d2C)).toArray)),(60,.v (.bool true)),(3,.p 0 0),(4,.p 1 0)] ?_
 refine kA [14] ?_
 refine kSC 14 14 [.agg (conL d2a (.slice d2A d2a.r.held.length d2C)).toArray,.int .i64 d2b.ack] (some 64) rfl (xc_b fun ww hf => iAckFits_c d2a.t.ip d2a.t.port d2a.t.my d2a.state d2a.s.una d2a.s.data d2a.s.sent d2a.s.fin d2a.s.finSent d2a.s.done d2a.r.next d2a.r.data d2a.r.held (.slice d2A d2a.r.held.length d2C) d2a.r.fin d2a.r.done d2a.window d2a.most d2a.o.mss d2a.o.scale d2a.o.sack d2a.o.stamp d2a.o.val d2a.o.echo d2a.timer d2a.tries d2b.ack ww ) ?_
 intro _
 refine kTS [15,16] [66,3,4] 26 [(66,.v (.bool (ackFits d2a d2b.ack))),(3,.p 0 0),(4,.p 1 0)] ?_
 refine kY 66 (ackFits d2a d2b.ack) (fun h12 => ?_) (fun h12 => ?_)
 refine kTS [17,18] [68,67,66,3,4] 24 [(68,.v (.agg (segL d2b).toArray)),(67,.v (.agg (conL d2a (.slice d2A d2a.r.held.length d2C)).toArray)),(66,.v (.bool true)),(3,.p 0 0),(4,.p 1 0)] ?_
 refine kA [19] ?_
 refine kSC 19 15 [.agg (conL d2a (.slice d2A d2a.r.held.length d2C)).toArray,.agg (segL d2b).toArray] (some 69) rfl (xc_b fun ww hf => iAcceptable_c d2a.t.ip d2a.t.port d2a.t.my d2a.state d2a.s.una d2a.s.data d2a.s.sent d2a.s.fin d2a.s.finSent d2a.s.done d2a.r.next d2a.r.data d2a.r.held (.slice d2A d2a.r.held.length d2C) d2a.r.fin d2a.r.done d2a.window d2a.most d2a.o.mss d2a.o.scale d2a.o.sack d2a.o.stamp d2a.o.val d2a.o.echo d2a.timer d2a.tries d2b.src d2b.dst d2b.seq d2b.ack d2b.flags d2b.window d2b.o.mss d2b.o.scale d2b.o.sack d2b.o.stamp d2b.o.val d2b.o.echo d2b.body ww (by omega) (by omega)) ?_
 intro _
 refine kTS [20,21] [71,3,4] 21 [(71,.v (.bool (acceptable d2a d2b))),(3,.p 0 0),(4,.p 1 0)] ?_
 refine kY 71 (acceptable d2a d2b) (fun h13 => ?_) (fun h13 => ?_)
 refine kTS [22,23,24,25] [75,73,71,3,4] 17 [(75,.v (.agg (sndL d2a.s).toArray)),(73,.v (.int .i64 d2b.ack)),(71,.v (.bool true)),(3,.p 0 0),(4,.p 1 0)] ?_
 refine kA [26] ?_
 refine kSC 26 17 [.agg (sndL d2a.s).toArray] (some 76) rfl (xc_b fun ww hf => sNextOf_c d2a.s.una d2a.s.data d2a.s.sent d2a.s.fin d2a.s.finSent d2a.s.done ww ) ?_
 intro _
 refine kA [27] ?_
 refine kSC 27 16 [.int .i64 d2b.ack,.int .i64 (nextOf d2a.s)] (some 77) rfl (xc_s fun ww hf => iSeqDiff_c d2b.ack (nextOf d2a.s) ww ) ?_
 intro _
 refine kTS [28,29,30] [80,3,4] 12 [(80,.v (.bool (decide ((seqDiff d2b.ack (nextOf d2a.s)) ≤ 0)))),(3,.p 0 0),(4,.p 1 0)] ?_
 refine kY 80 (decide ((seqDiff d2b.ack (nextOf d2a.s)) ≤ 0)) (fun h14 => ?_) (fun h14 => ?_)
 have h14p := of_decide_eq_true h14
 refine kTS [31,32,33,34,35,37,38] [88,85,82,80] 5 [(88,.v (.int .i64 d2a.most)),(85,.v (.int .i64 d2a.s.una)),(82,.v (.int .i64 d2b.ack)),(80,.v (.bool true))] ?_
 refine kX 39 (.int .i64 (IntKind.i64.wrap (0 - d2a.most))) rfl (fun _ _ ww hA => act_neg hA rfl (by kernel_rfl) ww) ?_
 refine kA [36] ?_
 refine kSC 36 16 [.int .i64 d2b.ack,.int .i64 d2a.s.una] (some 86) rfl (xc_s fun ww hf => iSeqDiff_c d2b.ack d2a.s.una ww ) ?_
 intro _
 refine kTS [40,41,42] [2] 0 [(2,.v (.bool (decide ((seqDiff d2b.ack d2a.s.una) ≥ (IntKind.i64.wrap (0 - d2a.most))))))] ?_
 refine kZ ?_
 refine kR ?_
 exact ⟨[.bool (decide ((seqDiff d2b.ack d2a.s.una) ≥ (IntKind.i64.wrap (0 - d2a.most))))],by kernel_rfl,fun w' hb hf => ⟨ret_bool (show (decide ((seqDiff d2b.ack d2a.s.una) ≥ (IntKind.i64.wrap (0 - d2a.most))) : Bool) = true from by first | (have e := hv2.2.2; simpa using e) | (rw [hmw]; exact decide_eq_true (by omega)) | (rcases hvc (by assumption) with e | e <;> first | exact absurd (by assumption) e | (simp [e]; done))),hb⟩⟩
 have h14p := of_decide_eq_false h14
 exfalso; have := of_decide_eq_false h14; omega
 exfalso; rw [fac] at h13; cases h13
 exfalso; rw [faf] at h12; cases h12
 have h11p := neF h11
 exfalso; exact f16 (bne_eq_false_iff_eq.1 h11)
 have h10p := eqF h10
 exfalso; exact ne_of_beq_false h10 f6
 have h9p := eqF h9
 refine kK ?_
 refine kQ ?_
 refine kRD 3 [3,4,94] [(94,.v (.bool ((verdict d2a d2b) != 3)))] ?_
 refine kP 94 ((verdict d2a d2b) != 3) (fun h15 => ?_) (fun h15 => ?_)
 have h15p := neT h15
 refine kES [2] [(2,.v (.bool true))] ?_
 refine kR ?_
 exact ⟨[.bool true],by kernel_rfl,fun w' hb hf => ⟨rfl,hb⟩⟩
 have h15p := neF h15
 refine kRS 6 [3,4,100] [(3,.p 0 0),(4,.p 1 0),(100,.v (.bool ((IntKind.i64.wrap (BitVec.ofInt 64 d2b.flags &&& BitVec.ofInt 64 6).toNat) != 0)))] ?_
 refine kP 100 ((IntKind.i64.wrap (BitVec.ofInt 64 d2b.flags &&& BitVec.ofInt 64 6).toNat) != 0) (fun h16 => ?_) (fun h16 => ?_)
 have h16p := neT h16
 refine kES [2] [(2,.v (.bool true))] ?_
 refine kR ?_
 exact ⟨[.bool true],by kernel_rfl,fun w' hb hf => ⟨rfl,hb⟩⟩
 have h16p := neF h16
 refine kCS 3 [100,101,103] [(100,.v (.bool false)),(101,.v (.agg (conL d2a (.slice d2A d2a.r.held.length d2C)).toArray)),(103,.v (.int .i64 d2b.ack))] 14 [.agg (conL d2a (.slice d2A d2a.r.held.length d2C)).toArray,.int .i64 d2b.ack] (some 104) rfl (xc_b fun ww hf => iAckFits_c d2a.t.ip d2a.t.port d2a.t.my d2a.state d2a.s.una d2a.s.data d2a.s.sent d2a.s.fin d2a.s.finSent d2a.s.done d2a.r.next d2a.r.data d2a.r.held (.slice d2A d2a.r.held.length d2C) d2a.r.fin d2a.r.done d2a.window d2a.most d2a.o.mss d2a.o.scale d2a.o.sack d2a.o.stamp d2a.o.val d2a.o.echo d2a.timer d2a.tries d2b.ack ww ) ?_
 intro _
 refine kES [2] [(2,.v (.bool (!(ackFits d2a d2b.ack))))] ?_
 refine kR ?_
 exact ⟨[.bool (!(ackFits d2a d2b.ack))],by kernel_rfl,fun w' hb hf => ⟨ret_bool (show (!(ackFits d2a d2b.ack) : Bool) = true from by first | (have e := hv2.2.2; simpa using e) | (rw [hmw]; exact decide_eq_true (by omega)) | (rcases hvc (by assumption) with e | e <;> first | exact absurd (by assumption) e | (simp [e]; done))),hb⟩⟩

set_option maxRecDepth 100000 in
theorem fnVerdict_lifted (os : Os) (started : os.Started) (H : Type) (enc : TypeId × Value → H) :
    ReturnsInHanded {} Tryz.checked os 3 .any (Rows.fnVerdictSpec.pre6 enc Tryz.prog Tryz.f3 Rows.fnVerdictRow.domain false) (Rows.fnVerdictSpec.post enc Tryz.prog Tryz.f3 false true false false) := by
  refine returnsInHanded_of_change (C := Tryz.checked) Tryz.ownK started (by kernel_rfl) Tryz.func3
    (ChangeSpec.witness6 (enc := enc) (C := Tryz.checked) false ⟨#[], #[.slice none 0 0], []⟩ 8 (by kernel_rfl) (by kernel_rfl) (by kernel_rfl) (by kernel_rfl)) ?_
  intro W base args ds gs before hval0 hW hcnd _
  have hval : ∀ (j : Nat) t v, Tryz.f3.params[j]? = some t → args[j]? = some v → Value.okWide Tryz.prog W .any base t v := hval0
  have hW' := hW
  obtain ⟨p, q, hA0, hV, rfl, hfz, hnd⟩ := hW
  have hA : DataW.TrodAll enc Tryz.prog W 0 (fun _ => true) true Tryz.f3.params.toList args.toList ds p := hA0
  rw [Tryz.params3] at hA hval
  obtain ⟨v0, vs0, d0, ds0, p0, q0, hargs, rfl, rfl, h0, r0⟩ := trodAll_cons hA
  obtain ⟨rfl, rfl, rfl⟩ := trodAll_nil r0
  obtain rfl : args = #[v0] := by cases args; simp_all
  obtain ⟨rfl, rfl⟩ := trodVars_none hV
  clear hA0 hval0
  have g0 := h0
  obtain ⟨l0, L0⟩ := openS_byte (hval 0 _ v0 rfl rfl) g0
  refine (fnVerdict_walk l0 v0 W L0).mono fun e W' ⟨he, hb⟩ => ?_
  subst he
  have hlt : ∀ x ∈ (p0 ++ ([])) ++ [], x.block < W.heap.size := fun x hx => hW'.lt x hx
  refine ⟨_, rfl, post_of_below (pa := (p0 ++ ([]))) (pv := []) hW' (fun _ _ _ => trodAll_cons_mk (shut_bool Tryz.underlying4 _) trodAll_mk0) (fun sp hsp => trodAll_cons_mk (WideElems.Trod_stays Tryz.laidOut (by kernel_rfl) (of_decide_eq_true (by kernel_rfl)) h0 (fun x hx => hb.same (hlt x (List.mem_append_left _ (List.mem_append_left _ hx)))) (fun x hx => hsp x (List.mem_append_left _ (List.mem_append_left _ hx)))) (trodAll_mk0)) (fun _ _ => rfl) rfl hb (ok_one (by kernel_rfl) rfl (okWide_bool_mk Tryz.underlying4 _))⟩

theorem fnVerdict_over : Rows.fnVerdictRow.holds Tryz.pinned (OpenSpec.ofChange Rows.fnVerdictSpec) :=
  OpenClaim.holds_of_wide 3 Tryz.f3 rfl rfl rfl rfl rfl rfl rfl ⟨rfl, rfl, rfl, rfl, rfl⟩ rfl rfl rfl rfl rfl (by kernel_rfl) Tryz.func3 (by kernel_rfl)
    (of_decide_eq_true (by kernel_rfl)) (by unfold Func.isWrapper; first | (rw [if_pos (by decide +kernel)]; kernel_rfl) | (rw [if_neg (by decide +kernel)]; exact ⟨rfl, rfl⟩))
    (fun os started H enc _ => fnVerdict_lifted os started H enc)

theorem fnVerdict_holds : Rows.FnVerdictSaid := fnVerdict_over
#print axioms fnVerdict_holds
end Go.Proofs.YtnmmhbhdcplfmaaGreat
