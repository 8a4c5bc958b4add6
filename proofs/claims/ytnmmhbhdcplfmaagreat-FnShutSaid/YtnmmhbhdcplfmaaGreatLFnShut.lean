/- The law FnShut holds: for every argument the program's function answers true and leaves its arguments as they were. Conditions: none beyond the given row's. -/
import Derived.Test.YtnmmhbhdcplfmaaGreatZ4
import Derived.Test.YtnmmhbhdcplfmaaGreatG3
import Derived.Test.YtnmmhbhdcplfmaaGreatG2
namespace Go.Proofs.YtnmmhbhdcplfmaaGreat
open Go.RowKit Go.ChangeShapes Go.WideShapes Go.ChangeAt
set_option linter.unusedVariables false
set_option linter.unusedSimpArgs false

set_option maxRecDepth 100000 in
set_option maxHeartbeats 2000000 in
theorem fnShut_walk (code : List Int) (codeV : Value) (w : World) (hl_codeV : Sl w codeV 1 (code.map byteRow)) : Calls Tryz.prog 5 #[codeV] w fun e w' => e = .returned (.bool true) ∧ Below w.heap.size w w' := by
 obtain ⟨Ac,Cc,hvc⟩ := hl_codeV.form
 rw [List.length_map] at hvc; subst hvc
 have hnc := hl_codeV.len; rw [List.length_map] at hnc
 have hqc := Sl.capLe hl_codeV
 refine x_calls (args := [.slice Ac code.length Cc]) (fn := Tryz.f5) [slF (.slice Ac code.length Cc) 1 (code.map byteRow)] Tryz.func5 rfl Tryz.ntmps5 rfl (by simp only [List.mem_cons,List.not_mem_nil,or_false,forall_eq_or_imp,forall_eq]; exact ⟨rfl,hl_codeV⟩) ?_
 refine kQ ?_
 refine kEF [0] ⟨[(0,.v (.slice Ac code.length Cc))],[],[],[slF (.slice Ac code.length Cc) 1 (code.map byteRow)]⟩ ?_
 refine kS ?_
 refine kQ ?_
 refine kCD 1 [0,15] [(15,.v (.slice Ac code.length Cc))] 10 [.slice Ac code.length Cc] (some 16) rfl (xc_b fun ww hf => big_c code Ac Cc ww (hf _ m0)) ?_
 intro _
 refine kED [0,16] [] ?_
 refine kC (decide (((code.length : Nat) : Int) > 1048576)) (fun h1 => ?_) (fun h1 => ?_)
 have h1p := of_decide_eq_true h1
 refine kQ ?_
 refine kES [2] [(2,.v (.bool true))] ?_
 refine kR ?_
 exact ⟨[.bool true],by kernel_rfl,fun w' hb hf => ⟨rfl,hb⟩⟩
 have h1p := of_decide_eq_false h1
 have hbig : code.length ≤ 1048576 := by simp at h1; omega
 refine kK ?_
 refine kQ ?_
 refine kCS 1 [17] [(17,.v (.slice Ac code.length Cc))] 27 [.slice Ac code.length Cc] (some 18) rfl (xc_newF (α := {y : (Con) × (Option Addr × Nat) // RB 4 y.1.r}) (F := fun y => .agg #[.int .i64 y.1.1.t.ip,.int .i64 y.1.1.t.port,.int .i64 y.1.1.t.my,.int .i64 y.1.1.state,.int .i64 y.1.1.s.una,.string y.1.1.s.data,.int .i64 y.1.1.s.sent,.bool y.1.1.s.fin,.bool y.1.1.s.finSent,.bool y.1.1.s.done,.int .i64 y.1.1.r.next,.string y.1.1.r.data,.slice y.1.2.1 y.1.1.r.held.length y.1.2.2,.int .i64 y.1.1.r.fin,.bool y.1.1.r.done,.int .i64 y.1.1.window,.int .i64 y.1.1.most,.int .i64 y.1.1.o.mss,.int .i64 y.1.1.o.scale,.bool y.1.1.o.sack,.bool y.1.1.o.stamp,.int .i64 y.1.1.o.val,.int .i64 y.1.1.o.echo,.int .i64 y.1.1.timer,.int .i64 y.1.1.tries]) (v := fun y => .slice y.1.2.1 y.1.1.r.held.length y.1.2.2) (rs := fun y => y.1.1.r.held.map pceCells) fun ww hw hf => drawShut_c code Ac Cc ww (hf _ m0) (by omega)) ?_
 rintro ⟨⟨d2a,d2A,d2C⟩,hd2⟩
 dsimp only at hd2
 have hkn := hd2.kn; have hm := hd2.hm; have hsz := hd2.sz
 have hrd1 := hd2.1; have hrd2 := hd2.2.2
 refine kEA [3] [(3,.p 0 0)] [⟨34,conL d2a (.slice d2A d2a.r.held.length d2C)⟩] ?_
 refine kQ ?_
 refine kCD 1 [3,20] [(20,.v (.agg (conL d2a (.slice d2A d2a.r.held.length d2C)).toArray))] 28 [.agg (conL d2a (.slice d2A d2a.r.held.length d2C)).toArray] (some 21) rfl (xc_r fun ww hw hf => yiShut_c d2a (.slice d2A d2a.r.held.length d2C) ww (hf _ m0).1 (by assumption) (by assumption) (by omega) w.heap.size hw) ?_
 rintro ⟨⟨v3a,v3c⟩,⟨v4a,v4c⟩⟩
 have hbd5 : (shut d2a).1.r.held.length ≤ 1048576 ∧ (shut d2a).2.length ≤ 49 := shut_bd _  (by omega)
 have hbd5a := hbd5.1; have hbd5b := hbd5.2
 have hrb6 := RB.shut (hd2); have hrb6a := hrb6.kn; have hrb6b := hrb6.hm; have hrb6c := hrb6.sz
 refine kEA [3,4,5] [(4,.p 1 0),(5,.v (.slice v4a ((shut d2a).2.length) v4c))] [⟨34,conL (shut d2a).1 (.slice v3a ((shut d2a).1.r.held.length) v3c)⟩] ?_
 refine kQ ?_
 refine kCD 1 [3,4,5,25] [(25,.v (.agg (conL d2a (.slice d2A d2a.r.held.length d2C)).toArray))] 29 [.agg (conL d2a (.slice d2A d2a.r.held.length d2C)).toArray] (some 26) rfl (xc_r fun ww hw hf => ysShut_c d2a (.slice d2A d2a.r.held.length d2C) ww (hf _ m2).1 (by assumption) (by assumption) (by omega) w.heap.size hw) ?_
 rintro ⟨⟨v7a,v7c⟩,⟨v8a,v8c⟩⟩
 refine kEA [3,4,5,6,7] [(6,.p 2 0),(7,.v (.slice v8a ((shut d2a).2.length) v8c))] [⟨34,conL (shut d2a).1 (.slice v7a ((shut d2a).1.r.held.length) v7c)⟩] ?_
 refine kQ ?_
 refine kCD 1 [3,4,5,6,7,30] [(30,.v (.agg (conL d2a (.slice d2A d2a.r.held.length d2C)).toArray))] 30 [.agg (conL d2a (.slice d2A d2a.r.held.length d2C)).toArray] (some 31) rfl (xc_r fun ww hw hf => yiAbort_c d2a (.slice d2A d2a.r.held.length d2C) ww (hf _ m4).1 (by assumption) (by assumption) (by omega) w.heap.size hw) ?_
 rintro ⟨⟨v9a,v9c⟩,⟨v10a,v10c⟩⟩
 have hbd11 : (abort d2a).1.r.held.length ≤ 1048576 ∧ (abort d2a).2.length ≤ 1 := abort_bd _  (by omega)
 have hbd11a := hbd11.1; have hbd11b := hbd11.2
 have hrb12 := RB.abort (hd2); have hrb12a := hrb12.kn; have hrb12b := hrb12.hm; have hrb12c := hrb12.sz
 refine kEA [3,4,5,6,7,8,9] [(8,.p 3 0),(9,.v (.slice v10a ((abort d2a).2.length) v10c))] [⟨34,conL (abort d2a).1 (.slice v9a ((abort d2a).1.r.held.length) v9c)⟩] ?_
 refine kQ ?_
 refine kCD 1 [3,4,5,6,7,8,9,35] [(35,.v (.agg (conL d2a (.slice d2A d2a.r.held.length d2C)).toArray))] 31 [.agg (conL d2a (.slice d2A d2a.r.held.length d2C)).toArray] (some 36) rfl (xc_r fun ww hw hf => ysAbort_c d2a (.slice d2A d2a.r.held.length d2C) ww (hf _ m6).1 (by assumption) (by assumption) (by omega) w.heap.size hw) ?_
 rintro ⟨⟨v13a,v13c⟩,⟨v14a,v14c⟩⟩
 refine kEA [3,4,5,6,7,8,9,10,11] [(10,.p 4 0),(11,.v (.slice v14a ((abort d2a).2.length) v14c))] [⟨34,conL (abort d2a).1 (.slice v13a ((abort d2a).1.r.held.length) v13c)⟩] ?_
 refine kS ?_
 refine kQ ?_
 refine kCD 2 [3,4,5,7,8,9,10,11,39,40] [(39,.v (.agg (conL (shut d2a).1 (.slice v3a ((shut d2a).1.r.held.length) v3c)).toArray)),(40,.v (.agg (conL (shut d2a).1 (.slice v7a ((shut d2a).1.r.held.length) v7c)).toArray))] 21 [.agg (conL (shut d2a).1 (.slice v3a ((shut d2a).1.r.held.length) v3c)).toArray,.agg (conL (shut d2a).1 (.slice v7a ((shut d2a).1.r.held.length) v7c)).toArray] (some 41) rfl (xc_b fun ww hf => ysSameConn_c ((shut d2a).1) (.slice v3a ((shut d2a).1.r.held.length) v3c) ((shut d2a).1) (.slice v7a ((shut d2a).1.r.held.length) v7c) ww (Own.sl (hf _ m6)) (Own.sl (hf _ m4)) ) ?_
 intro _
 refine kRS 2 [3,4,5,7,8,9,10,11,43] [(3,.p 0 0),(4,.p 1 0),(5,.v (.slice v4a ((shut d2a).2.length) v4c)),(7,.v (.slice v8a ((shut d2a).2.length) v8c)),(8,.p 3 0),(9,.v (.slice v10a ((abort d2a).2.length) v10c)),(10,.p 4 0),(11,.v (.slice v14a ((abort d2a).2.length) v14c)),(43,.v (.bool (!(sameConn ((shut d2a).1) ((shut d2a).1)))))] ?_
 refine kP 43 (!(sameConn ((shut d2a).1) ((shut d2a).1))) (fun h15 => ?_) (fun h15 => ?_)
 have h15n := not_t h15
 exfalso; rw [sameConn_self] at h15n; cases h15n
 have h15n := not_f h15
 refine kCD 2 [3,4,8,9,10,11,43,44,45] [(43,.v (.bool false)),(44,.v (.slice v4a ((shut d2a).2.length) v4c)),(45,.v (.slice v8a ((shut d2a).2.length) v8c))] 22 [.slice v4a ((shut d2a).2.length) v4c,.slice v8a ((shut d2a).2.length) v8c] (some 46) rfl (xc_b fun ww hf => ysameSegments_c ((shut d2a).2) (.slice v4a ((shut d2a).2.length) v4c) ((shut d2a).2) (.slice v8a ((shut d2a).2.length) v8c) ww (Own.sl (hf _ m7)) (Own.sl (hf _ m5)) ) ?_
 intro _
 refine kRD 3 [3,4,8,9,10,11,49] [(49,.v (.bool (!(sameL segEq (shut d2a).2 (shut d2a).2))))] ?_
 refine kP 49 (!(sameL segEq (shut d2a).2 (shut d2a).2)) (fun h16 => ?_) (fun h16 => ?_)
 have h16n := not_t h16
 exfalso; rw [sameSeg_self] at h16n; cases h16n
 have h16n := not_f h16
 refine kCD 2 [3,4,8,9,11,49,50,51] [(49,.v (.bool false)),(50,.v (.agg (conL (abort d2a).1 (.slice v9a ((abort d2a).1.r.held.length) v9c)).toArray)),(51,.v (.agg (conL (abort d2a).1 (.slice v13a ((abort d2a).1.r.held.length) v13c)).toArray))] 21 [.agg (conL (abort d2a).1 (.slice v9a ((abort d2a).1.r.held.length) v9c)).toArray,.agg (conL (abort d2a).1 (.slice v13a ((abort d2a).1.r.held.length) v13c)).toArray] (some 52) rfl (xc_b fun ww hf => ysSameConn_c ((abort d2a).1) (.slice v9a ((abort d2a).1.r.held.length) v9c) ((abort d2a).1) (.slice v13a ((abort d2a).1.r.held.length) v13c) ww (Own.sl (hf _ m2)) (Own.sl (hf _ m0)) ) ?_
 intro _
 refine kRD 3 [3,4,8,9,11,55] [(55,.v (.bool (!(sameConn ((abort d2a).1) ((abort d2a).1)))))] ?_
 refine kP 55 (!(sameConn ((abort d2a).1) ((abort d2a).1))) (fun h17 => ?_) (fun h17 => ?_)
 have h17n := not_t h17
 exfalso; rw [sameConn_self] at h17n; cases h17n
 have h17n := not_f h17
 refine kCD 2 [3,4,8,9,55,56,57] [(55,.v (.bool false)),(56,.v (.slice v10a ((abort d2a).2.length) v10c)),(57,.v (.slice v14a ((abort d2a).2.length) v14c))] 22 [.slice v10a ((abort d2a).2.length) v10c,.slice v14a ((abort d2a).2.length) v14c] (some 58) rfl (xc_b fun ww hf => ysameSegments_c ((abort d2a).2) (.slice v10a ((abort d2a).2.length) v10c) ((abort d2a).2) (.slice v14a ((abort d2a).2.length) v14c) ww (Own.sl (hf _ m3)) (Own.sl (hf _ m1)) ) ?_
 intro _
 refine kED [3,4,8,9,60] [(60,.v (.bool (!(sameL segEq (abort d2a).2 (abort d2a).2))))] ?_
 refine kC (!(sameL segEq (abort d2a).2 (abort d2a).2)) (fun h18 => ?_) (fun h18 => ?_)
 have h18n := not_t h18
 exfalso; rw [sameSeg_self] at h18n; cases h18n
 have h18n := not_f h18
 refine kK ?_
 refine kS ?_
 refine kQ ?_
 refine kCD 1 [3,4,8,9,61] [(61,.v (.agg (conL d2a (.slice d2A d2a.r.held.length d2C)).toArray))] 23 [.agg (conL d2a (.slice d2A d2a.r.held.length d2C)).toArray] (some 62) rfl (xc_b fun ww hf => ysConnOk_c d2a (.slice d2A d2a.r.held.length d2C) ww (hf (newF w.heap.size (.slice d2A d2a.r.held.length d2C) 2 (d2a.r.held.map pceCells)) (by simp)).1 (by assumption) (by omega)) ?_
 intro _
 refine kED [3,4,8,9,63] [(63,.v (.bool (!(conOk d2a))))] ?_
 refine kC (!(conOk d2a)) (fun h19 => ?_) (fun h19 => ?_)
 have h19n := not_t h19
 have hno := h19n
 refine kQ ?_
 refine kCD 2 [3,8,64,65] [(64,.v (.agg (conL (shut d2a).1 (.slice v3a ((shut d2a).1.r.held.length) v3c)).toArray)),(65,.v (.agg (conL d2a (.slice d2A d2a.r.held.length d2C)).toArray))] 21 [.agg (conL (shut d2a).1 (.slice v3a ((shut d2a).1.r.held.length) v3c)).toArray,.agg (conL d2a (.slice d2A d2a.r.held.length d2C)).toArray] (some 66) rfl (xc_b fun ww hf => ysSameConn_c ((shut d2a).1) (.slice v3a ((shut d2a).1.r.held.length) v3c) d2a (.slice d2A d2a.r.held.length d2C) ww (Own.sl (hf _ m6)) (hf (newF w.heap.size (.slice d2A d2a.r.held.length d2C) 2 (d2a.r.held.map pceCells)) (by simp)).1 ) ?_
 intro _
 refine kRD 1 [3,8,67] [(67,.v (.bool (sameConn ((shut d2a).1) d2a)))] ?_
 refine kP 67 (sameConn ((shut d2a).1) d2a) (fun h20 => ?_) (fun h20 => ?_)
 refine kCS 2 [67,68,69] [(67,.v (.bool true)),(68,.v (.agg (conL (abort d2a).1 (.slice v9a ((abort d2a).1.r.held.length) v9c)).toArray)),(69,.v (.agg (conL d2a (.slice d2A d2a.r.held.length d2C)).toArray))] 21 [.agg (conL (abort d2a).1 (.slice v9a ((abort d2a).1.r.held.length) v9c)).toArray,.agg (conL d2a (.slice d2A d2a.r.held.length d2C)).toArray] (some 70) rfl (xc_b fun ww hf => ysSameConn_c ((abort d2a).1) (.slice v9a ((abort d2a).1.r.held.length) v9c) d2a (.slice d2A d2a.r.held.length d2C) ww (Own.sl (hf _ m2)) (hf (newF w.heap.size (.slice d2A d2a.r.held.length d2C) 2 (d2a.r.held.map pceCells)) (by simp)).1 ) ?_
 intro _
 refine kES [2] [(2,.v (.bool (sameConn ((abort d2a).1) d2a)))] ?_
 refine kR ?_
 exact ⟨[.bool (sameConn ((abort d2a).1) d2a)],by kernel_rfl,fun w' hb hf => ⟨ret_bool (show (sameConn ((abort d2a).1) d2a : Bool) = true from by first | (rw [abort_no hno]; exact sameConn_self _) | (exact abort_both hok)),hb⟩⟩
 exfalso; rw [shut_no hno,sameConn_self] at h20; cases h20
 have h19n := not_f h19
 have h19nc : conOk d2a = true := (by simpa using h19n)
 have h19nq := conOk_bd h19nc; obtain ⟨h19nq0,h19nq1,h19nq2,h19nq3,h19nq4,h19nq5,h19nq6,h19nq7,h19nq8,h19nq9⟩ := h19nq
 have hok := h19n
 refine kK ?_
 refine kQ ?_
 refine kCD 1 [3,4,8,9,73] [(73,.v (.agg (conL (shut d2a).1 (.slice v3a ((shut d2a).1.r.held.length) v3c)).toArray))] 32 [.agg (conL (shut d2a).1 (.slice v3a ((shut d2a).1.r.held.length) v3c)).toArray,.string (⟨#[109,111,114,101]⟩ : ByteArray)] (some 74) rfl (xc_r fun ww hw hf => yiWrite_c ((shut d2a).1) (.slice v3a ((shut d2a).1.r.held.length) v3c) (⟨#[109,111,114,101]⟩ : ByteArray) ww (Own.sl (hf _ m6)) (by assumption) (by assumption) (by omega) (by first | omega | (rw [bstr_size]; omega) | decide) w.heap.size hw) ?_
 rintro ⟨⟨v21a,v21c⟩,⟨v22a,v22c⟩⟩
 refine kEA [3,4,8,9,13] [(13,.v (.int .i64 ((write ((shut d2a).1) (⟨#[109,111,114,101]⟩ : ByteArray)).2.1)))] [⟨34,conL (write ((shut d2a).1) (⟨#[109,111,114,101]⟩ : ByteArray)).1 (.slice v21a ((write ((shut d2a).1) (⟨#[109,111,114,101]⟩ : ByteArray)).1.r.held.length) v21c)⟩] ?_
 refine kQ ?_
 refine kCS 1 [3,8,9,13,78] [(3,.p 0 0),(8,.p 3 0),(9,.v (.slice v10a ((abort d2a).2.length) v10c)),(13,.v (.int .i64 ((write ((shut d2a).1) (⟨#[109,111,114,101]⟩ : ByteArray)).2.1))),(78,.v (.agg (conL (shut d2a).1 (.slice v3a ((shut d2a).1.r.held.length) v3c)).toArray))] 24 [.agg (conL (shut d2a).1 (.slice v3a ((shut d2a).1.r.held.length) v3c)).toArray] (some 79) rfl (xc_b fun ww hf => yiConnOk_c ((shut d2a).1) (.slice v3a ((shut d2a).1.r.held.length) v3c) ww (Own.sl (hf (ownF w.heap.size (.slice v3a ((shut d2a).1.r.held.length) v3c) 2 ((shut d2a).1.r.held.map pceCells)) (by simp))) (by assumption) (by omega)) ?_
 intro _
 refine kRD 1 [3,8,9,13,80] [(80,.v (.bool (conOk ((shut d2a).1))))] ?_
 refine kP 80 (conOk ((shut d2a).1)) (fun h23 => ?_) (fun h23 => ?_)
 refine kCD 1 [3,8,9,13,80,81] [(80,.v (.bool true)),(81,.v (.agg (conL (abort d2a).1 (.slice v9a ((abort d2a).1.r.held.length) v9c)).toArray))] 24 [.agg (conL (abort d2a).1 (.slice v9a ((abort d2a).1.r.held.length) v9c)).toArray] (some 82) rfl (xc_b fun ww hf => yiConnOk_c ((abort d2a).1) (.slice v9a ((abort d2a).1.r.held.length) v9c) ww (Own.sl (hf _ m4)) (by assumption) (by omega)) ?_
 intro _
 refine kRD 2 [3,8,9,13,84] [(84,.v (.bool (conOk ((abort d2a).1))))] ?_
 refine kP 84 (conOk ((abort d2a).1)) (fun h24 => ?_) (fun h24 => ?_)
 refine kRD 5 [3,9,13,89] [(89,.v (.bool (((abort d2a).1.state) == 8)))] ?_
 refine kP 89 (((abort d2a).1.state) == 8) (fun h25 => ?_) (fun h25 => ?_)
 have h25p := eqT h25
 refine kRD 4 [3,9,93] [(93,.v (.bool (((write ((shut d2a).1) (⟨#[109,111,114,101]⟩ : ByteArray)).2.1) == 0)))] ?_
 refine kP 93 (((write ((shut d2a).1) (⟨#[109,111,114,101]⟩ : ByteArray)).2.1) == 0) (fun h26 => ?_) (fun h26 => ?_)
 have h26p := eqT h26
 refine kES [2] [(2,.v (.bool ((d2a.state == 8) == ((((abort d2a).2.length : Nat) : Int) == 0))))] ?_
 refine kR ?_
 exact ⟨[.bool ((d2a.state == 8) == ((((abort d2a).2.length : Nat) : Int) == 0))],by kernel_rfl,fun w' hb hf => ⟨ret_bool (show ((d2a.state == 8) == ((((abort d2a).2.length : Nat) : Int) == 0) : Bool) = true from by first | (rw [abort_no hno]; exact sameConn_self _) | (exact abort_both hok)),hb⟩⟩
 have h26p := eqF h26
 exfalso; rw [write_none _ (fun e => by have := (shut_ok hok).2; omega)] at h26; simp at h26
 have h25p := eqF h25
 exfalso; rw [(abort_ok hok).2.1] at h25; cases h25
 exfalso; rw [(abort_ok hok).1] at h24; cases h24
 exfalso; rw [(shut_ok hok).1] at h23; cases h23

set_option maxRecDepth 100000 in
theorem fnShut_lifted (os : Os) (started : os.Started) (H : Type) (enc : TypeId × Value → H) :
    ReturnsInHanded {} Tryz.checked os 5 .any (Rows.fnShutSpec.pre6 enc Tryz.prog Tryz.f5 Rows.fnShutRow.domain false) (Rows.fnShutSpec.post enc Tryz.prog Tryz.f5 false true false false) := by
  refine returnsInHanded_of_change (C := Tryz.checked) Tryz.ownK started (by kernel_rfl) Tryz.func5
    (ChangeSpec.witness6 (enc := enc) (C := Tryz.checked) false ⟨#[], #[.slice none 0 0], []⟩ 8 (by kernel_rfl) (by kernel_rfl) (by kernel_rfl) (by kernel_rfl)) ?_
  intro W base args ds gs before hval0 hW hcnd _
  have hval : ∀ (j : Nat) t v, Tryz.f5.params[j]? = some t → args[j]? = some v → Value.okWide Tryz.prog W .any base t v := hval0
  have hW' := hW
  obtain ⟨p, q, hA0, hV, rfl, hfz, hnd⟩ := hW
  have hA : DataW.TrodAll enc Tryz.prog W 0 (fun _ => true) true Tryz.f5.params.toList args.toList ds p := hA0
  rw [Tryz.params5] at hA hval
  obtain ⟨v0, vs0, d0, ds0, p0, q0, hargs, rfl, rfl, h0, r0⟩ := trodAll_cons hA
  obtain ⟨rfl, rfl, rfl⟩ := trodAll_nil r0
  obtain rfl : args = #[v0] := by cases args; simp_all
  obtain ⟨rfl, rfl⟩ := trodVars_none hV
  clear hA0 hval0
  have g0 := h0
  obtain ⟨l0, L0⟩ := openS_byte (hval 0 _ v0 rfl rfl) g0
  refine (fnShut_walk l0 v0 W L0).mono fun e W' ⟨he, hb⟩ => ?_
  subst he
  have hlt : ∀ x ∈ (p0 ++ ([])) ++ [], x.block < W.heap.size := fun x hx => hW'.lt x hx
  refine ⟨_, rfl, post_of_below (pa := (p0 ++ ([]))) (pv := []) hW' (fun _ _ _ => trodAll_cons_mk (shut_bool Tryz.underlying4 _) trodAll_mk0) (fun sp hsp => trodAll_cons_mk (WideElems.Trod_stays Tryz.laidOut (by kernel_rfl) (of_decide_eq_true (by kernel_rfl)) h0 (fun x hx => hb.same (hlt x (List.mem_append_left _ (List.mem_append_left _ hx)))) (fun x hx => hsp x (List.mem_append_left _ (List.mem_append_left _ hx)))) (trodAll_mk0)) (fun _ _ => rfl) rfl hb (ok_one (by kernel_rfl) rfl (okWide_bool_mk Tryz.underlying4 _))⟩

theorem fnShut_over : Rows.fnShutRow.holds Tryz.pinned (OpenSpec.ofChange Rows.fnShutSpec) :=
  OpenClaim.holds_of_wide 5 Tryz.f5 rfl rfl rfl rfl rfl rfl rfl ⟨rfl, rfl, rfl, rfl, rfl⟩ rfl rfl rfl rfl rfl (by kernel_rfl) Tryz.func5 (by kernel_rfl)
    (of_decide_eq_true (by kernel_rfl)) (by unfold Func.isWrapper; first | (rw [if_pos (by decide +kernel)]; kernel_rfl) | (rw [if_neg (by decide +kernel)]; exact ⟨rfl, rfl⟩))
    (fun os started H enc _ => fnShut_lifted os started H enc)

theorem fnShut_holds : Rows.FnShutSaid := fnShut_over
#print axioms fnShut_holds
end Go.Proofs.YtnmmhbhdcplfmaaGreat
