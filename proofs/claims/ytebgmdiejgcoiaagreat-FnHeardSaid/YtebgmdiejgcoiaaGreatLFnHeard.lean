/- The law FnHeard holds: for every argument the program's function answers true and leaves its arguments as they were. Conditions: none beyond the given row's. -/
import Derived.Test.YtebgmdiejgcoiaaGreatZ4
import Derived.Test.YtebgmdiejgcoiaaGreatG3
import Derived.Test.YtebgmdiejgcoiaaGreatG2
namespace Go.Proofs.YtebgmdiejgcoiaaGreat
open Go.RowKit Go.ChangeShapes Go.WideShapes Go.ChangeAt
set_option linter.unusedVariables false
set_option linter.unusedSimpArgs false

set_option maxRecDepth 100000 in
set_option maxHeartbeats 2000000 in
theorem fnHeard_walk (J : List Int) (codeV : Value) (w : World) (hl_codeV : Sl w codeV 1 (J.map bR)) : Calls Tryz.prog 5 #[codeV] w fun e w' => e = .returned (.bool true) ∧ Below w.heap.size w w' := by
 obtain ⟨Ac,Cc,hvc⟩ := hl_codeV.form
 rw [List.length_map] at hvc; subst hvc
 have hnc := hl_codeV.len; rw [List.length_map] at hnc
 have hqc := Sl.capLe hl_codeV
 refine x_calls (args := [.slice Ac J.length Cc]) (fn := Tryz.f5) [slF (.slice Ac J.length Cc) 1 (J.map bR)] Tryz.func5 rfl Tryz.ntmps5 rfl (by simp only [List.mem_cons,List.not_mem_nil,or_false,forall_eq_or_imp,forall_eq]; exact ⟨rfl,hl_codeV⟩) ?_
 refine kQ ?_
 refine kEF [0] ⟨[(0,.v (.slice Ac J.length Cc))],[],[],[slF (.slice Ac J.length Cc) 1 (J.map bR)]⟩ ?_
 refine kS ?_
 refine kQ ?_
 refine kCD 1 [0,7] [(7,.v (.slice Ac J.length Cc))] 18 [.slice Ac J.length Cc] (some 8) rfl (xc_b fun ww hf => big_c J Ac Cc ww (hf _ m0)) ?_
 intro _
 refine kED [0,8] [] ?_
 refine kC (decide (((J.length : Nat) : Int) > 1048576)) (fun h1 => ?_) (fun h1 => ?_)
 have h1p := of_decide_eq_true h1
 refine kQ ?_
 refine kES [2] [(2,.v (.bool true))] ?_
 refine kR ?_
 exact ⟨[.bool true],by kernel_rfl,fun w' hb hf => ⟨rfl,hb⟩⟩
 have h1p := of_decide_eq_false h1
 have hbig : J.length ≤ 1048576 := by simp at h1; omega
 refine kK ?_
 refine kQ ?_
 refine kCS 1 [10] [(10,.v (.slice Ac J.length Cc))] 26 [.slice Ac J.length Cc] (some 11) rfl (xc_newF (α := {y : (Con × Seg) × (Option Addr × Nat) // RB 4 y.1.1.r ∧ y.1.2.body.size ≤ 4096}) (F := fun y => .tuple #[.agg #[.int .i64 y.1.1.1.t.ip,.int .i64 y.1.1.1.t.port,.int .i64 y.1.1.1.t.my,.int .i64 y.1.1.1.state,.int .i64 y.1.1.1.s.una,.string y.1.1.1.s.data,.int .i64 y.1.1.1.s.sent,.bool y.1.1.1.s.fin,.bool y.1.1.1.s.finSent,.bool y.1.1.1.s.done,.int .i64 y.1.1.1.r.next,.string y.1.1.1.r.data,.slice y.1.2.1 y.1.1.1.r.held.length y.1.2.2,.int .i64 y.1.1.1.r.fin,.bool y.1.1.1.r.done,.int .i64 y.1.1.1.window,.int .i64 y.1.1.1.most,.int .i64 y.1.1.1.o.mss,.int .i64 y.1.1.1.o.scale,.bool y.1.1.1.o.sack,.bool y.1.1.1.o.stamp,.int .i64 y.1.1.1.o.val,.int .i64 y.1.1.1.o.echo,.int .i64 y.1.1.1.timer,.int .i64 y.1.1.1.tries],.agg (segL y.1.1.2).toArray]) (v := fun y => .slice y.1.2.1 y.1.1.1.r.held.length y.1.2.2) (rs := fun y => y.1.1.1.r.held.map pC) fun ww hw hf => drawHeard_c J Ac Cc ww (hf _ m0) (by omega)) ?_
 rintro ⟨⟨⟨d2a,d2b⟩,d2A,d2C⟩,hd2⟩
 dsimp only at hd2
 have hkn := hd2.1.kn; have hm := hd2.1.hm; have hsz := hd2.1.sz
 have hrd1 := hd2.1.1; have hrd2 := hd2.1.2.2
 have hbs := hd2.2
 refine kEA [3,4] [(3,.p 0 0),(4,.p 1 0)] [⟨44,conL d2a (.slice d2A d2a.r.held.length d2C)⟩,⟨50,segL d2b⟩] ?_
 refine kQ ?_
 refine kCD 2 [3,4,14,15] [(14,.v (.agg (conL d2a (.slice d2A d2a.r.held.length d2C)).toArray)),(15,.v (.agg (segL d2b).toArray))] 27 [.agg (conL d2a (.slice d2A d2a.r.held.length d2C)).toArray,.agg (segL d2b).toArray] (some 16) rfl (xc_r fun ww hw hf => yiHeard_c d2a (.slice d2A d2a.r.held.length d2C) d2b ww (hf _ m0).1 (by assumption) (by omega) (by assumption) (by omega) w.heap.size hw) ?_
 rintro ⟨v3a,v3c⟩
 have hrb4 := RB.heard (hd2.1) (by omega) d2b; have hrb4a := hrb4.kn; have hrb4b := hrb4.hm; have hrb4c := hrb4.sz
 refine kEA [3,4,5] [(5,.p 2 0)] [⟨44,conL (heard d2a d2b) (.slice v3a ((heard d2a d2b).r.held.length) v3c)⟩] ?_
 refine kS ?_
 refine kS ?_
 refine xe_region [] (by kernel_rfl) (fun ρ σ => ?_)
 refine kTS [0,1,2] [19,18,17,3,4,5] 3 [(19,.v (.agg (segL d2b).toArray)),(18,.v (.agg (conL d2a (.slice d2A d2a.r.held.length d2C)).toArray)),(17,.v (.agg (conL (heard d2a d2b) (.slice v3a ((heard d2a d2b).r.held.length) v3c)).toArray)),(3,.p 0 0),(4,.p 1 0),(5,.p 2 0)] ?_
 refine kA [3] ?_
 refine kSC 3 28 [.agg (conL d2a (.slice d2A d2a.r.held.length d2C)).toArray,.agg (segL d2b).toArray] (some 20) rfl (xc_r fun ww hw hf => ysHeard_c d2a (.slice d2A d2a.r.held.length d2C) d2b ww (hf _ m1).1 (by assumption) (by omega) (by assumption) (by omega) w.heap.size hw) ?_
 rintro ⟨v5a,v5c⟩
 refine kA [4] ?_
 refine kSC 4 20 [.agg (conL (heard d2a d2b) (.slice v3a ((heard d2a d2b).r.held.length) v3c)).toArray,.agg (conL (heard d2a d2b) (.slice v5a ((heard d2a d2b).r.held.length) v5c)).toArray] (some 21) rfl (xc_b fun ww hf => ysSameConn_c (heard d2a d2b) (.slice v3a ((heard d2a d2b).r.held.length) v3c) (heard d2a d2b) (.slice v5a ((heard d2a d2b).r.held.length) v5c) ww (Own.sl (hf _ m1)) (Own.sl (hf _ m0)) ) ?_
 intro _
 refine kTS [5] [22,3,4,5] 0 [(22,.v (.bool (!(sameConn (heard d2a d2b) (heard d2a d2b))))),(3,.p 0 0),(4,.p 1 0),(5,.p 2 0)] ?_
 refine kZ ?_
 refine kC (!(sameConn (heard d2a d2b) (heard d2a d2b))) (fun h6 => ?_) (fun h6 => ?_)
 have h6n := not_t h6
 exfalso; rw [sameConn_self] at h6n; cases h6n
 have h6n := not_f h6
 refine kK ?_
 refine kS ?_
 refine kQ ?_
 refine kCD 2 [3,5,23,24] [(23,.v (.agg (conL d2a (.slice d2A d2a.r.held.length d2C)).toArray)),(24,.v (.agg (segL d2b).toArray))] 29 [.agg (conL d2a (.slice d2A d2a.r.held.length d2C)).toArray,.agg (segL d2b).toArray] (some 25) rfl (xc_b fun ww hf => ysVerdict_c d2a (.slice d2A d2a.r.held.length d2C) d2b ww (hf _ m2).1 (by omega) (by assumption) (by omega)) ?_
 intro _
 refine kED [3,5,26] [(26,.v (.bool ((verdict d2a d2b) != 5)))] ?_
 refine kC ((verdict d2a d2b) != 5) (fun h7 => ?_) (fun h7 => ?_)
 have h7p := neT h7
 have hnv := heard_no (neT h7)
 refine kQ ?_
 refine kCS 2 [27,28] [(27,.v (.agg (conL (heard d2a d2b) (.slice v3a ((heard d2a d2b).r.held.length) v3c)).toArray)),(28,.v (.agg (conL d2a (.slice d2A d2a.r.held.length d2C)).toArray))] 20 [.agg (conL (heard d2a d2b) (.slice v3a ((heard d2a d2b).r.held.length) v3c)).toArray,.agg (conL d2a (.slice d2A d2a.r.held.length d2C)).toArray] (some 29) rfl (xc_b fun ww hf => ysSameConn_c (heard d2a d2b) (.slice v3a ((heard d2a d2b).r.held.length) v3c) d2a (.slice d2A d2a.r.held.length d2C) ww (Own.sl (hf _ m1)) (hf _ m2).1 ) ?_
 intro _
 refine kES [2] [(2,.v (.bool (sameConn (heard d2a d2b) d2a)))] ?_
 refine kR ?_
 exact ⟨[.bool (sameConn (heard d2a d2b) d2a)],by kernel_rfl,fun w' hb hf => ⟨ret_bool (show (sameConn (heard d2a d2b) d2a : Bool) = true from by first | (rw [hnv]; exact sameConn_self _) | (rw [hq7]; simp [tupEq])),hb⟩⟩
 have h7p := neF h7
 obtain ⟨hq1,hq2,hq3,hq4,hq5,hq6,hq7⟩ := heard_facts (neF h7)
 have hq4b : (heard d2a d2b).r.data.extract 0 (d2a.r.data.size : Int).toNat = d2a.r.data := hq4
 refine kK ?_
 refine kQ ?_
 refine kED [3,5,6] [(6,.v (.int .i64 (d2a.r.data.size : Int)))] ?_
 refine kS ?_
 refine xe_region [] (by kernel_rfl) (fun ρ σ => ?_)
 refine kTS [0,1,2,3,4,5] [39,36,3,5,6] 53 [(39,.v (.int .i64 d2a.s.una)),(36,.v (.int .i64 ((heard d2a d2b).s.una))),(3,.p 0 0),(5,.p 2 0),(6,.v (.int .i64 (d2a.r.data.size : Int)))] ?_
 refine kA [6] ?_
 refine kSC 6 30 [.int .i64 ((heard d2a d2b).s.una),.int .i64 d2a.s.una] (some 40) rfl (xc_s fun ww hf => iSeqDiff_c ((heard d2a d2b).s.una) d2a.s.una ww ) ?_
 intro _
 refine kTS [7,8] [42,3,5,6] 50 [(42,.v (.bool (decide ((seqDiff ((heard d2a d2b).s.una) d2a.s.una) ≥ 0)))),(3,.p 0 0),(5,.p 2 0),(6,.v (.int .i64 (d2a.r.data.size : Int)))] ?_
 refine kY 42 (decide ((seqDiff ((heard d2a d2b).s.una) d2a.s.una) ≥ 0)) (fun h8 => ?_) (fun h8 => ?_)
 have h8p := of_decide_eq_true h8
 refine kTS [9,10,11,12,13,14] [48,45,42,3,5,6] 44 [(48,.v (.int .i64 d2a.r.next)),(45,.v (.int .i64 ((heard d2a d2b).r.next))),(42,.v (.bool true)),(3,.p 0 0),(5,.p 2 0),(6,.v (.int .i64 (d2a.r.data.size : Int)))] ?_
 refine kA [15] ?_
 refine kSC 15 30 [.int .i64 ((heard d2a d2b).r.next),.int .i64 d2a.r.next] (some 49) rfl (xc_s fun ww hf => iSeqDiff_c ((heard d2a d2b).r.next) d2a.r.next ww ) ?_
 intro _
 refine kTS [16,17,18] [52,3,5,6] 40 [(52,.v (.bool (decide ((seqDiff ((heard d2a d2b).r.next) d2a.r.next) ≥ 0)))),(3,.p 0 0),(5,.p 2 0),(6,.v (.int .i64 (d2a.r.data.size : Int)))] ?_
 refine kY 52 (decide ((seqDiff ((heard d2a d2b).r.next) d2a.r.next) ≥ 0)) (fun h9 => ?_) (fun h9 => ?_)
 have h9p := of_decide_eq_true h9
 refine kTS [19,20,21,22,23,24,25,26] [60,3,5,6] 32 [(60,.v (.bool (decide ((((heard d2a d2b).r.data).size : Int) ≥ (d2a.r.data.size : Int))))),(3,.p 0 0),(5,.p 2 0),(6,.v (.int .i64 (d2a.r.data.size : Int)))] ?_
 refine kY 60 (decide ((((heard d2a d2b).r.data).size : Int) ≥ (d2a.r.data.size : Int))) (fun h10 => ?_) (fun h10 => ?_)
 have h10p := of_decide_eq_true h10
 refine kTS [27,28,29,30,32,33,34] [68,64,63,60,3,5] 25 [(68,.v (.string d2a.r.data)),(64,.v (.int .i64 (d2a.r.data.size : Int))),(63,.v (.string ((heard d2a d2b).r.data))),(60,.v (.bool true)),(3,.p 0 0),(5,.p 2 0)] ?_
 refine kX 31 (.string (((heard d2a d2b).r.data).extract 0 ((d2a.r.data.size : Int)).toNat)) rfl (fun _ _ ww hA => act_slS0 ((d2a.r.data.size : Int)) hA rfl (by kernel_rfl) rfl rfl (by omega) (by omega) ww) ?_
 refine kTS [35,36,37] [71,3,5] 21 [(71,.v (.bool ((((heard d2a d2b).r.data).extract 0 ((d2a.r.data.size : Int)).toNat).toList == d2a.r.data.toList))),(3,.p 0 0),(5,.p 2 0)] ?_
 refine kY 71 ((((heard d2a d2b).r.data).extract 0 ((d2a.r.data.size : Int)).toNat).toList == d2a.r.data.toList) (fun h11 => ?_) (fun h11 => ?_)
 have h11p := h11; simp only [beq_iff_eq,bne_iff_ne,beq_eq_false_iff_ne,bne_eq_false_iff_eq,ne_eq,toList_lit0] at h11p
 refine kTS [38,39,40,41,42,43,44] [78,3,5] 14 [(78,.v (.bool (decide (((heard d2a d2b).most) ≥ d2a.most)))),(3,.p 0 0),(5,.p 2 0)] ?_
 refine kY 78 (decide (((heard d2a d2b).most) ≥ d2a.most)) (fun h12 => ?_) (fun h12 => ?_)
 have h12p := of_decide_eq_true h12
 refine kTS [45,46,47,48] [82,80,78,3,5] 10 [(82,.v (.agg (optL d2a.o).toArray)),(80,.v (.agg (optL (heard d2a d2b).o).toArray)),(78,.v (.bool true)),(3,.p 0 0),(5,.p 2 0)] ?_
 refine kX 49 (.bool (optEq ((heard d2a d2b).o) d2a.o)) rfl (fun _ _ ww hA => act_bin hA rfl (by kernel_rfl) (by kernel_rfl) (agg_bin (by kernel_rfl) (run_eql_OPT ((heard d2a d2b).o.mss) ((heard d2a d2b).o.scale) ((heard d2a d2b).o.sack) ((heard d2a d2b).o.stamp) ((heard d2a d2b).o.val) ((heard d2a d2b).o.echo) d2a.o.mss d2a.o.scale d2a.o.sack d2a.o.stamp d2a.o.val d2a.o.echo ww))) ?_
 refine kTS [50,51] [85,3,5] 7 [(85,.v (.bool (optEq ((heard d2a d2b).o) d2a.o))),(3,.p 0 0),(5,.p 2 0)] ?_
 refine kY 85 (optEq ((heard d2a d2b).o) d2a.o) (fun h13 => ?_) (fun h13 => ?_)
 refine kTS [52,53,54,55] [89,87,85] 3 [(89,.v (.agg (tupL d2a.t).toArray)),(87,.v (.agg (tupL (heard d2a d2b).t).toArray)),(85,.v (.bool true))] ?_
 refine kX 56 (.bool (tupEq ((heard d2a d2b).t) d2a.t)) rfl (fun _ _ ww hA => act_bin hA rfl (by kernel_rfl) (by kernel_rfl) (agg_bin (by kernel_rfl) (run_eql_TUP ((heard d2a d2b).t.ip) ((heard d2a d2b).t.port) ((heard d2a d2b).t.my) d2a.t.ip d2a.t.port d2a.t.my ww))) ?_
 refine kTS [57,58] [2] 0 [(2,.v (.bool (tupEq ((heard d2a d2b).t) d2a.t)))] ?_
 refine kZ ?_
 refine kR ?_
 exact ⟨[.bool (tupEq ((heard d2a d2b).t) d2a.t)],by kernel_rfl,fun w' hb hf => ⟨ret_bool (show (tupEq ((heard d2a d2b).t) d2a.t : Bool) = true from by first | (rw [hnv]; exact sameConn_self _) | (rw [hq7]; simp [tupEq])),hb⟩⟩
 exfalso; rw [hq6] at h13; simp [optEq] at h13
 have h12p := of_decide_eq_false h12
 exfalso; have := of_decide_eq_false h12; omega
 have h11p := h11; simp only [beq_iff_eq,bne_iff_ne,beq_eq_false_iff_ne,bne_eq_false_iff_eq,ne_eq,toList_lit0] at h11p
 exfalso; rw [hq4b] at h11; simp at h11
 have h10p := of_decide_eq_false h10
 exfalso; have := of_decide_eq_false h10; omega
 have h9p := of_decide_eq_false h9
 exfalso; have := of_decide_eq_false h9; omega
 have h8p := of_decide_eq_false h8
 exfalso; have := of_decide_eq_false h8; omega

set_option maxRecDepth 100000 in
theorem fnHeard_lifted (os : Os) (started : os.Started) (H : Type) (enc : TypeId × Value → H) :
    ReturnsInHanded {} Tryz.checked os 5 .any (Rows.fnHeardSpec.pre6 enc Tryz.prog Tryz.f5 Rows.fnHeardRow.domain false) (Rows.fnHeardSpec.post enc Tryz.prog Tryz.f5 false true false false) := by
  refine returnsInHanded_of_change (C := Tryz.checked) Tryz.ownK started (by kernel_rfl) Tryz.func5
    (ChangeSpec.witness6 (enc := enc) (C := Tryz.checked) false ⟨#[], #[.slice none 0 0], []⟩ 8 (by kernel_rfl) (by kernel_rfl) (by kernel_rfl) (by kernel_rfl)) ?_
  intro W base args ds gs before hval0 hW hcnd _
  have hval : ∀ (j : Nat) t v, Tryz.f5.params[j]? = some t → args[j]? = some v → Value.okWide Tryz.prog W .any base t v := hval0
  have hW' := hW
  obtain ⟨p, q, hA0, hV, rfl, hfz, hnd⟩ := hW
  have hA : DataW.TrodAll enc Tryz.prog W 0 (fun _ => true) true Tryz.f5.params.toList args.toList ds p := hA0
  rw [Tryz.params5] at hA hval
  obtain ⟨v0, vs0, d0, ds0, p0, q0, hargs, rfl, rfl, h0, r0⟩ := trodAll_cons hA
  obtain ⟨rfl, rfl, rfl⟩ := trodAll_nil r0
  obtain rfl : args = #[v0] := by cases args; simp_all
  obtain ⟨rfl, rfl⟩ := trodVars_none hV
  clear hA0 hval0
  have g0 := h0
  obtain ⟨l0, L0⟩ := openS_byte (hval 0 _ v0 rfl rfl) g0
  refine (fnHeard_walk l0 v0 W L0).mono fun e W' ⟨he, hb⟩ => ?_
  subst he
  have hlt : ∀ x ∈ (p0 ++ ([])) ++ [], x.block < W.heap.size := fun x hx => hW'.lt x hx
  refine ⟨_, rfl, post_of_below (pa := (p0 ++ ([]))) (pv := []) hW' (fun _ _ _ => trodAll_cons_mk (shut_bool Tryz.underlying4 _) trodAll_mk0) (fun sp hsp => trodAll_cons_mk (WideElems.Trod_stays Tryz.laidOut (by kernel_rfl) (of_decide_eq_true (by kernel_rfl)) h0 (fun x hx => hb.same (hlt x (List.mem_append_left _ (List.mem_append_left _ hx)))) (fun x hx => hsp x (List.mem_append_left _ (List.mem_append_left _ hx)))) (trodAll_mk0)) (fun _ _ => rfl) rfl hb (ok_one (by kernel_rfl) rfl (okWide_bool_mk Tryz.underlying4 _))⟩

theorem fnHeard_over : Rows.fnHeardRow.holds Tryz.pinned (OpenSpec.ofChange Rows.fnHeardSpec) :=
  OpenClaim.holds_of_wide 5 Tryz.f5 rfl rfl rfl rfl rfl rfl rfl ⟨rfl, rfl, rfl, rfl, rfl⟩ rfl rfl rfl rfl rfl (by kernel_rfl) Tryz.func5 (by kernel_rfl)
    (of_decide_eq_true (by kernel_rfl)) (by unfold Func.isWrapper; first | (rw [if_pos (by decide +kernel)]; kernel_rfl) | (rw [if_neg (by decide +kernel)]; exact ⟨rfl, rfl⟩))
    (fun os started H enc _ => fnHeard_lifted os started H enc)

theorem fnHeard_holds : Rows.FnHeardSaid := fnHeard_over
#print axioms fnHeard_holds
end Go.Proofs.YtebgmdiejgcoiaaGreat
