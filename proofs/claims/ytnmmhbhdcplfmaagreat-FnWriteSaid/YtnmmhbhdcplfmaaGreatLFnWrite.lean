/- The law FnWrite holds: for every argument the program's function answers true and leaves its arguments as they were. Conditions: none beyond the given row's. -/
import Derived.Test.YtnmmhbhdcplfmaaGreatZ5
import Derived.Test.YtnmmhbhdcplfmaaGreatG3
import Derived.Test.YtnmmhbhdcplfmaaGreatG2
namespace Go.Proofs.YtnmmhbhdcplfmaaGreat
open Go.RowKit Go.ChangeShapes Go.WideShapes Go.ChangeAt
set_option linter.unusedVariables false
set_option linter.unusedSimpArgs false

set_option maxRecDepth 100000 in
set_option maxHeartbeats 2000000 in
theorem fnWrite_walk (code : List Int) (codeV : Value) (w : World) (hl_codeV : Sl w codeV 1 (code.map byteRow)) : Calls Tryz.prog 6 #[codeV] w fun e w' => e = .returned (.bool true) ∧ Below w.heap.size w w' := by
 obtain ⟨Ac,Cc,hvc⟩ := hl_codeV.form
 rw [List.length_map] at hvc; subst hvc
 have hnc := hl_codeV.len; rw [List.length_map] at hnc
 have hqc := Sl.capLe hl_codeV
 refine x_calls (args := [.slice Ac code.length Cc]) (fn := Tryz.f6) [slF (.slice Ac code.length Cc) 1 (code.map byteRow)] Tryz.func6 rfl Tryz.ntmps6 rfl (by simp only [List.mem_cons,List.not_mem_nil,or_false,forall_eq_or_imp,forall_eq]; exact ⟨rfl,hl_codeV⟩) ?_
 refine kQ ?_
 refine kEF [0] ⟨[(0,.v (.slice Ac code.length Cc))],[],[],[slF (.slice Ac code.length Cc) 1 (code.map byteRow)]⟩ ?_
 refine kS ?_
 refine kQ ?_
 refine kCD 1 [0,11] [(11,.v (.slice Ac code.length Cc))] 10 [.slice Ac code.length Cc] (some 12) rfl (xc_b fun ww hf => big_c code Ac Cc ww (hf _ m0)) ?_
 intro _
 refine kED [0,12] [] ?_
 refine kC (decide (((code.length : Nat) : Int) > 1048576)) (fun h1 => ?_) (fun h1 => ?_)
 have h1p := of_decide_eq_true h1
 refine kQ ?_
 refine kES [2] [(2,.v (.bool true))] ?_
 refine kR ?_
 exact ⟨[.bool true],by kernel_rfl,fun w' hb hf => ⟨rfl,hb⟩⟩
 have h1p := of_decide_eq_false h1
 have hbig : code.length ≤ 1048576 := by simp at h1; omega
 refine kK ?_
 refine kQ ?_
 refine kCS 1 [14] [(14,.v (.slice Ac code.length Cc))] 33 [.slice Ac code.length Cc] (some 15) rfl (xc_newF (α := {y : (Con × ByteArray) × (Option Addr × Nat) // RB 4 y.1.1.r ∧ y.1.2.size ≤ 4096}) (F := fun y => .tuple #[.agg #[.int .i64 y.1.1.1.t.ip,.int .i64 y.1.1.1.t.port,.int .i64 y.1.1.1.t.my,.int .i64 y.1.1.1.state,.int .i64 y.1.1.1.s.una,.string y.1.1.1.s.data,.int .i64 y.1.1.1.s.sent,.bool y.1.1.1.s.fin,.bool y.1.1.1.s.finSent,.bool y.1.1.1.s.done,.int .i64 y.1.1.1.r.next,.string y.1.1.1.r.data,.slice y.1.2.1 y.1.1.1.r.held.length y.1.2.2,.int .i64 y.1.1.1.r.fin,.bool y.1.1.1.r.done,.int .i64 y.1.1.1.window,.int .i64 y.1.1.1.most,.int .i64 y.1.1.1.o.mss,.int .i64 y.1.1.1.o.scale,.bool y.1.1.1.o.sack,.bool y.1.1.1.o.stamp,.int .i64 y.1.1.1.o.val,.int .i64 y.1.1.1.o.echo,.int .i64 y.1.1.1.timer,.int .i64 y.1.1.1.tries],.string y.1.1.2]) (v := fun y => .slice y.1.2.1 y.1.1.1.r.held.length y.1.2.2) (rs := fun y => y.1.1.1.r.held.map pceCells) fun ww hw hf => drawWrite_c code Ac Cc ww (hf _ m0) (by omega)) ?_
 rintro ⟨⟨⟨d2a,d2b⟩,d2A,d2C⟩,hd2⟩
 dsimp only at hd2
 have hkn := hd2.1.kn; have hm := hd2.1.hm; have hsz := hd2.1.sz
 have hrd1 := hd2.1.1; have hrd2 := hd2.1.2.2
 have hbs := hd2.2
 refine kEA [3,4] [(3,.p 0 0),(4,.v (.string d2b))] [⟨34,conL d2a (.slice d2A d2a.r.held.length d2C)⟩] ?_
 refine kQ ?_
 refine kCD 2 [3,4,19,20] [(19,.v (.agg (conL d2a (.slice d2A d2a.r.held.length d2C)).toArray)),(20,.v (.string d2b))] 32 [.agg (conL d2a (.slice d2A d2a.r.held.length d2C)).toArray,.string d2b] (some 21) rfl (xc_r fun ww hw hf => yiWrite_c d2a (.slice d2A d2a.r.held.length d2C) d2b ww (hf _ m0).1 (by assumption) (by assumption) (by omega) (by first | omega | (rw [bstr_size]; omega)) w.heap.size hw) ?_
 rintro ⟨⟨v3a,v3c⟩,⟨v4a,v4c⟩⟩
 have hbd5 : (write d2a d2b).1.r.held.length ≤ 1048576 ∧ (write d2a d2b).2.2.length ≤ 49 := write_bd _ _  (by omega)
 have hbd5a := hbd5.1; have hbd5b := hbd5.2
 have hrb6 := RB.write (hd2.1) d2b; have hrb6a := hrb6.kn; have hrb6b := hrb6.hm; have hrb6c := hrb6.sz
 refine kEA [3,4,5,6,7] [(5,.p 1 0),(6,.v (.int .i64 ((write d2a d2b).2.1))),(7,.v (.slice v4a ((write d2a d2b).2.2.length) v4c))] [⟨34,conL (write d2a d2b).1 (.slice v3a ((write d2a d2b).1.r.held.length) v3c)⟩] ?_
 refine kQ ?_
 refine kCD 2 [3,4,5,6,7,26,27] [(26,.v (.agg (conL d2a (.slice d2A d2a.r.held.length d2C)).toArray)),(27,.v (.string d2b))] 34 [.agg (conL d2a (.slice d2A d2a.r.held.length d2C)).toArray,.string d2b] (some 28) rfl (xc_r fun ww hw hf => ysWrite_c d2a (.slice d2A d2a.r.held.length d2C) d2b ww (hf _ m2).1 (by assumption) (by assumption) (by omega) (by first | omega | (rw [bstr_size]; omega)) w.heap.size hw) ?_
 rintro ⟨⟨v7a,v7c⟩,⟨v8a,v8c⟩⟩
 refine kEA [3,4,5,6,7,8,9,10] [(8,.p 2 0),(9,.v (.int .i64 ((write d2a d2b).2.1))),(10,.v (.slice v8a ((write d2a d2b).2.2.length) v8c))] [⟨34,conL (write d2a d2b).1 (.slice v7a ((write d2a d2b).1.r.held.length) v7c)⟩] ?_
 refine kS ?_
 refine kQ ?_
 refine kRD 4 [3,4,5,6,7,8,10,35] [(35,.v (.bool (((write d2a d2b).2.1) != ((write d2a d2b).2.1))))] ?_
 refine kP 35 (((write d2a d2b).2.1) != ((write d2a d2b).2.1)) (fun h9 => ?_) (fun h9 => ?_)
 simp at h9
 have h9p := neF h9
 refine kCD 2 [3,4,5,6,7,10,35,36,37] [(35,.v (.bool false)),(36,.v (.agg (conL (write d2a d2b).1 (.slice v3a ((write d2a d2b).1.r.held.length) v3c)).toArray)),(37,.v (.agg (conL (write d2a d2b).1 (.slice v7a ((write d2a d2b).1.r.held.length) v7c)).toArray))] 21 [.agg (conL (write d2a d2b).1 (.slice v3a ((write d2a d2b).1.r.held.length) v3c)).toArray,.agg (conL (write d2a d2b).1 (.slice v7a ((write d2a d2b).1.r.held.length) v7c)).toArray] (some 38) rfl (xc_b fun ww hf => ysSameConn_c ((write d2a d2b).1) (.slice v3a ((write d2a d2b).1.r.held.length) v3c) ((write d2a d2b).1) (.slice v7a ((write d2a d2b).1.r.held.length) v7c) ww (Own.sl (hf _ m2)) (Own.sl (hf _ m0)) ) ?_
 intro _
 refine kRD 3 [3,4,5,6,7,10,41] [(41,.v (.bool (!(sameConn ((write d2a d2b).1) ((write d2a d2b).1)))))] ?_
 refine kP 41 (!(sameConn ((write d2a d2b).1) ((write d2a d2b).1))) (fun h10 => ?_) (fun h10 => ?_)
 have h10n := not_t h10
 exfalso; rw [sameConn_self] at h10n; cases h10n
 have h10n := not_f h10
 refine kCD 2 [3,4,5,6,7,41,42,43] [(41,.v (.bool false)),(42,.v (.slice v4a ((write d2a d2b).2.2.length) v4c)),(43,.v (.slice v8a ((write d2a d2b).2.2.length) v8c))] 22 [.slice v4a ((write d2a d2b).2.2.length) v4c,.slice v8a ((write d2a d2b).2.2.length) v8c] (some 44) rfl (xc_b fun ww hf => ysameSegments_c ((write d2a d2b).2.2) (.slice v4a ((write d2a d2b).2.2.length) v4c) ((write d2a d2b).2.2) (.slice v8a ((write d2a d2b).2.2.length) v8c) ww (Own.sl (hf _ m3)) (Own.sl (hf _ m1)) ) ?_
 intro _
 refine kED [3,4,5,6,7,46] [(46,.v (.bool (!(sameL segEq (write d2a d2b).2.2 (write d2a d2b).2.2))))] ?_
 refine kC (!(sameL segEq (write d2a d2b).2.2 (write d2a d2b).2.2)) (fun h11 => ?_) (fun h11 => ?_)
 have h11n := not_t h11
 exfalso; rw [sameSeg_self] at h11n; cases h11n
 have h11n := not_f h11
 refine kK ?_
 refine kS ?_
 refine kQ ?_
 refine kCS 1 [3,4,5,6,7,47] [(3,.p 0 0),(4,.v (.string d2b)),(5,.p 1 0),(6,.v (.int .i64 ((write d2a d2b).2.1))),(7,.v (.slice v4a ((write d2a d2b).2.2.length) v4c)),(47,.v (.agg (conL d2a (.slice d2A d2a.r.held.length d2C)).toArray))] 23 [.agg (conL d2a (.slice d2A d2a.r.held.length d2C)).toArray] (some 48) rfl (xc_b fun ww hf => ysConnOk_c d2a (.slice d2A d2a.r.held.length d2C) ww (hf _ m4).1 (by assumption) (by omega)) ?_
 intro _
 refine kRD 2 [3,4,5,6,7,50] [(50,.v (.bool (!(conOk d2a))))] ?_
 refine kP 50 (!(conOk d2a)) (fun h12 => ?_) (fun h12 => ?_)
 have h12n := not_t h12
 have hno := h12n
 have hnw : ¬ (conOk d2a = true ∧ (d2a.state = 1 ∨ d2a.state = 4)) := fun e => by rw [hno] at e; cases e.1
 refine kED [3,4,5,6,7,59] [(59,.v (.bool true))] ?_
 refine kT ?_
 refine kQ ?_
 refine kRD 3 [3,5,7,62] [(62,.v (.bool (((write d2a d2b).2.1) == 0)))] ?_
 refine kP 62 (((write d2a d2b).2.1) == 0) (fun h13 => ?_) (fun h13 => ?_)
 have h13p := eqT h13
 refine kRD 5 [3,5,67] [(67,.v (.bool ((((write d2a d2b).2.2.length : Nat) : Int) == 0)))] ?_
 refine kP 67 ((((write d2a d2b).2.2.length : Nat) : Int) == 0) (fun h14 => ?_) (fun h14 => ?_)
 have h14p := eqT h14
 refine kCS 2 [67,68,69] [(67,.v (.bool true)),(68,.v (.agg (conL (write d2a d2b).1 (.slice v3a ((write d2a d2b).1.r.held.length) v3c)).toArray)),(69,.v (.agg (conL d2a (.slice d2A d2a.r.held.length d2C)).toArray))] 21 [.agg (conL (write d2a d2b).1 (.slice v3a ((write d2a d2b).1.r.held.length) v3c)).toArray,.agg (conL d2a (.slice d2A d2a.r.held.length d2C)).toArray] (some 70) rfl (xc_b fun ww hf => ysSameConn_c ((write d2a d2b).1) (.slice v3a ((write d2a d2b).1.r.held.length) v3c) d2a (.slice d2A d2a.r.held.length d2C) ww (Own.sl (hf _ m2)) (hf _ m4).1 ) ?_
 intro _
 refine kES [2] [(2,.v (.bool (sameConn ((write d2a d2b).1) d2a)))] ?_
 refine kR ?_
 exact ⟨[.bool (sameConn ((write d2a d2b).1) d2a)],by kernel_rfl,fun w' hb hf => ⟨ret_bool (show (sameConn ((write d2a d2b).1) d2a : Bool) = true from by first | (rw [write_none _ hnw]; exact sameConn_self _) | (rw [hwy.2.2.1]; exact beq_self_eq_true _)),hb⟩⟩
 have h14p := eqF h14
 exfalso; rw [write_none _ hnw] at h14; simp at h14
 have h13p := eqF h13
 exfalso; rw [write_none _ hnw] at h13; simp at h13
 have h12n := not_f h12
 have h12nc : conOk d2a = true := (by simpa using h12n)
 have h12nq := conOk_bd h12nc; obtain ⟨h12nq0,h12nq1,h12nq2,h12nq3,h12nq4,h12nq5,h12nq6,h12nq7,h12nq8,h12nq9⟩ := h12nq
 have hok := h12n
 refine kRD 4 [3,4,5,6,7,50,54] [(50,.v (.bool false)),(54,.v (.bool (d2a.state != 1)))] ?_
 refine kP 54 (d2a.state != 1) (fun h15 => ?_) (fun h15 => ?_)
 have h15p := neT h15
 refine kED [3,4,5,6,7,59] [(59,.v (.bool (d2a.state != 4)))] ?_
 refine kC (d2a.state != 4) (fun h16 => ?_) (fun h16 => ?_)
 have h16p := neT h16
 have hnw : ¬ (conOk d2a = true ∧ (d2a.state = 1 ∨ d2a.state = 4)) := fun e => by have := neT h16; omega
 refine kQ ?_
 refine kRD 3 [3,5,7,62] [(62,.v (.bool (((write d2a d2b).2.1) == 0)))] ?_
 refine kP 62 (((write d2a d2b).2.1) == 0) (fun h17 => ?_) (fun h17 => ?_)
 have h17p := eqT h17
 refine kRD 5 [3,5,67] [(67,.v (.bool ((((write d2a d2b).2.2.length : Nat) : Int) == 0)))] ?_
 refine kP 67 ((((write d2a d2b).2.2.length : Nat) : Int) == 0) (fun h18 => ?_) (fun h18 => ?_)
 have h18p := eqT h18
 refine kCS 2 [67,68,69] [(67,.v (.bool true)),(68,.v (.agg (conL (write d2a d2b).1 (.slice v3a ((write d2a d2b).1.r.held.length) v3c)).toArray)),(69,.v (.agg (conL d2a (.slice d2A d2a.r.held.length d2C)).toArray))] 21 [.agg (conL (write d2a d2b).1 (.slice v3a ((write d2a d2b).1.r.held.length) v3c)).toArray,.agg (conL d2a (.slice d2A d2a.r.held.length d2C)).toArray] (some 70) rfl (xc_b fun ww hf => ysSameConn_c ((write d2a d2b).1) (.slice v3a ((write d2a d2b).1.r.held.length) v3c) d2a (.slice d2A d2a.r.held.length d2C) ww (Own.sl (hf _ m2)) (hf _ m4).1 ) ?_
 intro _
 refine kES [2] [(2,.v (.bool (sameConn ((write d2a d2b).1) d2a)))] ?_
 refine kR ?_
 exact ⟨[.bool (sameConn ((write d2a d2b).1) d2a)],by kernel_rfl,fun w' hb hf => ⟨ret_bool (show (sameConn ((write d2a d2b).1) d2a : Bool) = true from by first | (rw [write_none _ hnw]; exact sameConn_self _) | (rw [hwy.2.2.1]; exact beq_self_eq_true _)),hb⟩⟩
 have h18p := eqF h18
 exfalso; rw [write_none _ hnw] at h18; simp at h18
 have h17p := eqF h17
 exfalso; rw [write_none _ hnw] at h17; simp at h17
 have h16p := neF h16
 have hwy := write_yes d2b hok (.inr (neF h16))
 obtain ⟨hw3,hw4⟩ := hwy.2.2.2
 refine kK ?_
 refine kS ?_
 refine xe_region [] (by kernel_rfl) (fun ρ σ => ?_)
 refine kTS [0] [72,3,4,5,6] 31 [(72,.v (.agg (conL (write d2a d2b).1 (.slice v3a ((write d2a d2b).1.r.held.length) v3c)).toArray)),(3,.p 0 0),(4,.v (.string d2b)),(5,.p 1 0),(6,.v (.int .i64 ((write d2a d2b).2.1)))] ?_
 refine kA [1] ?_
 refine kSC 1 24 [.agg (conL (write d2a d2b).1 (.slice v3a ((write d2a d2b).1.r.held.length) v3c)).toArray] (some 73) rfl (xc_b fun ww hf => yiConnOk_c ((write d2a d2b).1) (.slice v3a ((write d2a d2b).1.r.held.length) v3c) ww (Own.sl (hf _ m2)) (by assumption) (by omega)) ?_
 intro _
 refine kTS [2] [74,3,4,5,6] 29 [(74,.v (.bool (conOk ((write d2a d2b).1)))),(3,.p 0 0),(4,.v (.string d2b)),(5,.p 1 0),(6,.v (.int .i64 ((write d2a d2b).2.1)))] ?_
 refine kY 74 (conOk ((write d2a d2b).1)) (fun h19 => ?_) (fun h19 => ?_)
 refine kTS [3,4,5,6,7,8,9,10] [82,81,80,77,74,3,5] 21 [(82,.v (.int .i64 ((write d2a d2b).2.1))),(81,.v (.string d2b)),(80,.v (.string d2a.s.data)),(77,.v (.string ((write d2a d2b).1.s.data))),(74,.v (.bool true)),(3,.p 0 0),(5,.p 1 0)] ?_
 refine kX 11 (.string (d2b.extract 0 ((write d2a d2b).2.1).toNat)) rfl (fun _ _ ww hA => act_slS0 ((write d2a d2b).2.1) hA rfl (by kernel_rfl) rfl rfl (by omega) (by omega) ww) ?_
 refine kX 12 (.string (d2a.s.data ++ (d2b.extract 0 ((write d2a d2b).2.1).toNat))) rfl (fun _ _ ww hA => act_bin hA rfl (by kernel_rfl) (by kernel_rfl) (str_add (by simp only [ByteArray.size_extract]; have hs48 := (senderOk_bd (conOk_s hok)).2.2.1; omega) ww)) ?_
 refine kTS [13,14,15] [87,3,5] 16 [(87,.v (.bool (((write d2a d2b).1.s.data).toList == (d2a.s.data ++ (d2b.extract 0 ((write d2a d2b).2.1).toNat)).toList))),(3,.p 0 0),(5,.p 1 0)] ?_
 refine kY 87 (((write d2a d2b).1.s.data).toList == (d2a.s.data ++ (d2b.extract 0 ((write d2a d2b).2.1).toNat)).toList) (fun h20 => ?_) (fun h20 => ?_)
 have h20p := h20; simp only [beq_iff_eq,bne_iff_ne,beq_eq_false_iff_ne,bne_eq_false_iff_eq,ne_eq,toList_lit0] at h20p
 refine kTS [16,17,18,19,20,21,22,23,24] [96,3,5] 7 [(96,.v (.bool (((write d2a d2b).1.s.una) == d2a.s.una))),(3,.p 0 0),(5,.p 1 0)] ?_
 refine kY 96 (((write d2a d2b).1.s.una) == d2a.s.una) (fun h21 => ?_) (fun h21 => ?_)
 have h21p := eqT h21
 refine kTS [25,26,27,28,29,30,31] [2] 0 [(2,.v (.bool (((write d2a d2b).1.state) == d2a.state)))] ?_
 refine kZ ?_
 refine kR ?_
 exact ⟨[.bool (((write d2a d2b).1.state) == d2a.state)],by kernel_rfl,fun w' hb hf => ⟨ret_bool (show (((write d2a d2b).1.state) == d2a.state : Bool) = true from by first | (rw [write_none _ hnw]; exact sameConn_self _) | (rw [hwy.2.2.1]; exact beq_self_eq_true _)),hb⟩⟩
 have h21p := eqF h21
 exfalso; rw [hwy.2.1] at h21; simp at h21
 have h20p := h20; simp only [beq_iff_eq,bne_iff_ne,beq_eq_false_iff_ne,bne_eq_false_iff_eq,ne_eq,toList_lit0] at h20p
 exfalso; rw [hwy.1] at h20; simp at h20
 exfalso; rw [write_ok _ hok] at h19; cases h19
 have h15p := neF h15
 have hwy := write_yes d2b hok (.inl (neF h15))
 obtain ⟨hw3,hw4⟩ := hwy.2.2.2
 refine kED [3,4,5,6,7,59] [(59,.v (.bool false))] ?_
 refine kN ?_
 refine kK ?_
 refine kS ?_
 refine xe_region [] (by kernel_rfl) (fun ρ σ => ?_)
 refine kTS [0] [72,3,4,5,6] 31 [(72,.v (.agg (conL (write d2a d2b).1 (.slice v3a ((write d2a d2b).1.r.held.length) v3c)).toArray)),(3,.p 0 0),(4,.v (.string d2b)),(5,.p 1 0),(6,.v (.int .i64 ((write d2a d2b).2.1)))] ?_
 refine kA [1] ?_
 refine kSC 1 24 [.agg (conL (write d2a d2b).1 (.slice v3a ((write d2a d2b).1.r.held.length) v3c)).toArray] (some 73) rfl (xc_b fun ww hf => yiConnOk_c ((write d2a d2b).1) (.slice v3a ((write d2a d2b).1.r.held.length) v3c) ww (Own.sl (hf _ m2)) (by assumption) (by omega)) ?_
 intro _
 refine kTS [2] [74,3,4,5,6] 29 [(74,.v (.bool (conOk ((write d2a d2b).1)))),(3,.p 0 0),(4,.v (.string d2b)),(5,.p 1 0),(6,.v (.int .i64 ((write d2a d2b).2.1)))] ?_
 refine kY 74 (conOk ((write d2a d2b).1)) (fun h22 => ?_) (fun h22 => ?_)
 refine kTS [3,4,5,6,7,8,9,10] [82,81,80,77,74,3,5] 21 [(82,.v (.int .i64 ((write d2a d2b).2.1))),(81,.v (.string d2b)),(80,.v (.string d2a.s.data)),(77,.v (.string ((write d2a d2b).1.s.data))),(74,.v (.bool true)),(3,.p 0 0),(5,.p 1 0)] ?_
 refine kX 11 (.string (d2b.extract 0 ((write d2a d2b).2.1).toNat)) rfl (fun _ _ ww hA => act_slS0 ((write d2a d2b).2.1) hA rfl (by kernel_rfl) rfl rfl (by omega) (by omega) ww) ?_
 refine kX 12 (.string (d2a.s.data ++ (d2b.extract 0 ((write d2a d2b).2.1).toNat))) rfl (fun _ _ ww hA => act_bin hA rfl (by kernel_rfl) (by kernel_rfl) (str_add (by simp only [ByteArray.size_extract]; have hs48 := (senderOk_bd (conOk_s hok)).2.2.1; omega) ww)) ?_
 refine kTS [13,14,15] [87,3,5] 16 [(87,.v (.bool (((write d2a d2b).1.s.data).toList == (d2a.s.data ++ (d2b.extract 0 ((write d2a d2b).2.1).toNat)).toList))),(3,.p 0 0),(5,.p 1 0)] ?_
 refine kY 87 (((write d2a d2b).1.s.data).toList == (d2a.s.data ++ (d2b.extract 0 ((write d2a d2b).2.1).toNat)).toList) (fun h23 => ?_) (fun h23 => ?_)
 have h23p := h23; simp only [beq_iff_eq,bne_iff_ne,beq_eq_false_iff_ne,bne_eq_false_iff_eq,ne_eq,toList_lit0] at h23p
 refine kTS [16,17,18,19,20,21,22,23,24] [96,3,5] 7 [(96,.v (.bool (((write d2a d2b).1.s.una) == d2a.s.una))),(3,.p 0 0),(5,.p 1 0)] ?_
 refine kY 96 (((write d2a d2b).1.s.una) == d2a.s.una) (fun h24 => ?_) (fun h24 => ?_)
 have h24p := eqT h24
 refine kTS [25,26,27,28,29,30,31] [2] 0 [(2,.v (.bool (((write d2a d2b).1.state) == d2a.state)))] ?_
 refine kZ ?_
 refine kR ?_
 exact ⟨[.bool (((write d2a d2b).1.state) == d2a.state)],by kernel_rfl,fun w' hb hf => ⟨ret_bool (show (((write d2a d2b).1.state) == d2a.state : Bool) = true from by first | (rw [write_none _ hnw]; exact sameConn_self _) | (rw [hwy.2.2.1]; exact beq_self_eq_true _)),hb⟩⟩
 have h24p := eqF h24
 exfalso; rw [hwy.2.1] at h24; simp at h24
 have h23p := h23; simp only [beq_iff_eq,bne_iff_ne,beq_eq_false_iff_ne,bne_eq_false_iff_eq,ne_eq,toList_lit0] at h23p
 exfalso; rw [hwy.1] at h23; simp at h23
 exfalso; rw [write_ok _ hok] at h22; cases h22

set_option maxRecDepth 100000 in
theorem fnWrite_lifted (os : Os) (started : os.Started) (H : Type) (enc : TypeId × Value → H) :
    ReturnsInHanded {} Tryz.checked os 6 .any (Rows.fnWriteSpec.pre6 enc Tryz.prog Tryz.f6 Rows.fnWriteRow.domain false) (Rows.fnWriteSpec.post enc Tryz.prog Tryz.f6 false true false false) := by
  refine returnsInHanded_of_change (C := Tryz.checked) Tryz.ownK started (by kernel_rfl) Tryz.func6
    (ChangeSpec.witness6 (enc := enc) (C := Tryz.checked) false ⟨#[], #[.slice none 0 0], []⟩ 8 (by kernel_rfl) (by kernel_rfl) (by kernel_rfl) (by kernel_rfl)) ?_
  intro W base args ds gs before hval0 hW hcnd _
  have hval : ∀ (j : Nat) t v, Tryz.f6.params[j]? = some t → args[j]? = some v → Value.okWide Tryz.prog W .any base t v := hval0
  have hW' := hW
  obtain ⟨p, q, hA0, hV, rfl, hfz, hnd⟩ := hW
  have hA : DataW.TrodAll enc Tryz.prog W 0 (fun _ => true) true Tryz.f6.params.toList args.toList ds p := hA0
  rw [Tryz.params6] at hA hval
  obtain ⟨v0, vs0, d0, ds0, p0, q0, hargs, rfl, rfl, h0, r0⟩ := trodAll_cons hA
  obtain ⟨rfl, rfl, rfl⟩ := trodAll_nil r0
  obtain rfl : args = #[v0] := by cases args; simp_all
  obtain ⟨rfl, rfl⟩ := trodVars_none hV
  clear hA0 hval0
  have g0 := h0
  obtain ⟨l0, L0⟩ := openS_byte (hval 0 _ v0 rfl rfl) g0
  refine (fnWrite_walk l0 v0 W L0).mono fun e W' ⟨he, hb⟩ => ?_
  subst he
  have hlt : ∀ x ∈ (p0 ++ ([])) ++ [], x.block < W.heap.size := fun x hx => hW'.lt x hx
  refine ⟨_, rfl, post_of_below (pa := (p0 ++ ([]))) (pv := []) hW' (fun _ _ _ => trodAll_cons_mk (shut_bool Tryz.underlying4 _) trodAll_mk0) (fun sp hsp => trodAll_cons_mk (WideElems.Trod_stays Tryz.laidOut (by kernel_rfl) (of_decide_eq_true (by kernel_rfl)) h0 (fun x hx => hb.same (hlt x (List.mem_append_left _ (List.mem_append_left _ hx)))) (fun x hx => hsp x (List.mem_append_left _ (List.mem_append_left _ hx)))) (trodAll_mk0)) (fun _ _ => rfl) rfl hb (ok_one (by kernel_rfl) rfl (okWide_bool_mk Tryz.underlying4 _))⟩

theorem fnWrite_over : Rows.fnWriteRow.holds Tryz.pinned (OpenSpec.ofChange Rows.fnWriteSpec) :=
  OpenClaim.holds_of_wide 6 Tryz.f6 rfl rfl rfl rfl rfl rfl rfl ⟨rfl, rfl, rfl, rfl, rfl⟩ rfl rfl rfl rfl rfl (by kernel_rfl) Tryz.func6 (by kernel_rfl)
    (of_decide_eq_true (by kernel_rfl)) (by unfold Func.isWrapper; first | (rw [if_pos (by decide +kernel)]; kernel_rfl) | (rw [if_neg (by decide +kernel)]; exact ⟨rfl, rfl⟩))
    (fun os started H enc _ => fnWrite_lifted os started H enc)

theorem fnWrite_holds : Rows.FnWriteSaid := fnWrite_over
#print axioms fnWrite_holds
end Go.Proofs.YtnmmhbhdcplfmaaGreat
