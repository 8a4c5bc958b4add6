/- The law FnRead holds: for every argument the program's function answers true and leaves its arguments as they were. Conditions: none beyond the given row's. -/
import Derived.Test.YtnmmhbhdcplfmaaGreatZ4
import Derived.Test.YtnmmhbhdcplfmaaGreatG3
import Derived.Test.YtnmmhbhdcplfmaaGreatG2
namespace Go.Proofs.YtnmmhbhdcplfmaaGreat
open Go.RowKit Go.ChangeShapes Go.WideShapes Go.ChangeAt
set_option linter.unusedVariables false
set_option linter.unusedSimpArgs false

set_option maxRecDepth 100000 in
set_option maxHeartbeats 2000000 in
theorem fnRead_walk (code : List Int) (codeV : Value) (w : World) (hl_codeV : Sl w codeV 1 (code.map byteRow)) : Calls Tryz.prog 4 #[codeV] w fun e w' => e = .returned (.bool true) ∧ Below w.heap.size w w' := by
 obtain ⟨Ac,Cc,hvc⟩ := hl_codeV.form
 rw [List.length_map] at hvc; subst hvc
 have hnc := hl_codeV.len; rw [List.length_map] at hnc
 have hqc := Sl.capLe hl_codeV
 refine x_calls (args := [.slice Ac code.length Cc]) (fn := Tryz.f4) [slF (.slice Ac code.length Cc) 1 (code.map byteRow)] Tryz.func4 rfl Tryz.ntmps4 rfl (by simp only [List.mem_cons,List.not_mem_nil,or_false,forall_eq_or_imp,forall_eq]; exact ⟨rfl,hl_codeV⟩) ?_
 refine kQ ?_
 refine kEF [0] ⟨[(0,.v (.slice Ac code.length Cc))],[],[],[slF (.slice Ac code.length Cc) 1 (code.map byteRow)]⟩ ?_
 refine kS ?_
 refine kQ ?_
 refine kCD 1 [0,11] [(11,.v (.slice Ac code.length Cc))] 10 [.slice Ac code.length Cc] (some 12) rfl (xc_b fun ww hf => big_c code Ac Cc ww (hf _ m0)) ?_
 intro _
 refine kED [0,12] [] ?_
 refine kC (decide (((code.length : Nat) : Int) > 1048576)) (fun h1 => ?_) (fun h1 => ?_)
 have h1p := of_decide_eq_true h1
 refine kQ ?_
 refine kES [2] [(2,.v (.bool true))] ?_
 refine kR ?_
 exact ⟨[.bool true],by kernel_rfl,fun w' hb hf => ⟨rfl,hb⟩⟩
 have h1p := of_decide_eq_false h1
 have hbig : code.length ≤ 1048576 := by simp at h1; omega
 refine kK ?_
 refine kQ ?_
 refine kCS 1 [14] [(14,.v (.slice Ac code.length Cc))] 18 [.slice Ac code.length Cc] (some 15) rfl (xc_newF (α := {y : (Con × Int) × (Option Addr × Nat) // RB 4 y.1.1.r}) (F := fun y => .tuple #[.agg #[.int .i64 y.1.1.1.t.ip,.int .i64 y.1.1.1.t.port,.int .i64 y.1.1.1.t.my,.int .i64 y.1.1.1.state,.int .i64 y.1.1.1.s.una,.string y.1.1.1.s.data,.int .i64 y.1.1.1.s.sent,.bool y.1.1.1.s.fin,.bool y.1.1.1.s.finSent,.bool y.1.1.1.s.done,.int .i64 y.1.1.1.r.next,.string y.1.1.1.r.data,.slice y.1.2.1 y.1.1.1.r.held.length y.1.2.2,.int .i64 y.1.1.1.r.fin,.bool y.1.1.1.r.done,.int .i64 y.1.1.1.window,.int .i64 y.1.1.1.most,.int .i64 y.1.1.1.o.mss,.int .i64 y.1.1.1.o.scale,.bool y.1.1.1.o.sack,.bool y.1.1.1.o.stamp,.int .i64 y.1.1.1.o.val,.int .i64 y.1.1.1.o.echo,.int .i64 y.1.1.1.timer,.int .i64 y.1.1.1.tries],.int .i64 y.1.1.2]) (v := fun y => .slice y.1.2.1 y.1.1.1.r.held.length y.1.2.2) (rs := fun y => y.1.1.1.r.held.map pceCells) fun ww hw hf => drawReadConn_c code Ac Cc ww (hf _ m0) (by omega)) ?_
 rintro ⟨⟨⟨d2a,d2b⟩,d2A,d2C⟩,hd2⟩
 dsimp only at hd2
 have hkn := hd2.kn; have hm := hd2.hm; have hsz := hd2.sz
 have hrd1 := hd2.1; have hrd2 := hd2.2.2
 refine kEA [3,4] [(3,.p 0 0),(4,.v (.int .i64 d2b))] [⟨34,conL d2a (.slice d2A d2a.r.held.length d2C)⟩] ?_
 refine kQ ?_
 refine kCD 2 [3,4,19,20] [(19,.v (.agg (conL d2a (.slice d2A d2a.r.held.length d2C)).toArray)),(20,.v (.int .i64 d2b))] 19 [.agg (conL d2a (.slice d2A d2a.r.held.length d2C)).toArray,.int .i64 d2b] (some 21) rfl (xc_r fun ww hw hf => yiReadConn_c d2a (.slice d2A d2a.r.held.length d2C) d2b ww (hf _ m0).1 (by assumption) (by assumption) (by omega) w.heap.size hw) ?_
 rintro ⟨⟨v3a,v3c⟩,⟨v4a,v4c⟩⟩
 have hbd5 : (readConn d2a d2b).1.r.held.length ≤ 1048576 ∧ (readConn d2a d2b).2.2.length ≤ 1 := readConn_bd _ _  (by omega)
 have hbd5a := hbd5.1; have hbd5b := hbd5.2
 have hrb6 := RB.read (hd2) d2b; have hrb6a := hrb6.kn; have hrb6b := hrb6.hm; have hrb6c := hrb6.sz
 refine kEA [3,4,5,6,7] [(5,.p 1 0),(6,.v (.string ((readConn d2a d2b).2.1))),(7,.v (.slice v4a ((readConn d2a d2b).2.2.length) v4c))] [⟨34,conL (readConn d2a d2b).1 (.slice v3a ((readConn d2a d2b).1.r.held.length) v3c)⟩] ?_
 refine kQ ?_
 refine kCD 2 [3,5,6,7,26,27] [(26,.v (.agg (conL d2a (.slice d2A d2a.r.held.length d2C)).toArray)),(27,.v (.int .i64 d2b))] 20 [.agg (conL d2a (.slice d2A d2a.r.held.length d2C)).toArray,.int .i64 d2b] (some 28) rfl (xc_r fun ww hw hf => ysReadConn_c d2a (.slice d2A d2a.r.held.length d2C) d2b ww (hf _ m2).1 (by assumption) (by assumption) (by omega) w.heap.size hw) ?_
 rintro ⟨⟨v7a,v7c⟩,⟨v8a,v8c⟩⟩
 refine kEA [3,5,6,7,8,9,10] [(8,.p 2 0),(9,.v (.string ((readConn d2a d2b).2.1))),(10,.v (.slice v8a ((readConn d2a d2b).2.2.length) v8c))] [⟨34,conL (readConn d2a d2b).1 (.slice v7a ((readConn d2a d2b).1.r.held.length) v7c)⟩] ?_
 refine kS ?_
 refine kQ ?_
 refine kRD 4 [3,5,6,7,8,10,35] [(35,.v (.bool (!(((readConn d2a d2b).2.1).toList == ((readConn d2a d2b).2.1).toList))))] ?_
 refine kP 35 (!(((readConn d2a d2b).2.1).toList == ((readConn d2a d2b).2.1).toList)) (fun h9 => ?_) (fun h9 => ?_)
 have h9n := not_t h9
 simp at h9n
 have h9n := not_f h9
 have h9np := h9n; simp only [beq_iff_eq,bne_iff_ne,beq_eq_false_iff_ne,bne_eq_false_iff_eq,ne_eq,toList_lit0] at h9np
 refine kCD 2 [3,5,6,7,10,35,36,37] [(35,.v (.bool false)),(36,.v (.agg (conL (readConn d2a d2b).1 (.slice v3a ((readConn d2a d2b).1.r.held.length) v3c)).toArray)),(37,.v (.agg (conL (readConn d2a d2b).1 (.slice v7a ((readConn d2a d2b).1.r.held.length) v7c)).toArray))] 21 [.agg (conL (readConn d2a d2b).1 (.slice v3a ((readConn d2a d2b).1.r.held.length) v3c)).toArray,.agg (conL (readConn d2a d2b).1 (.slice v7a ((readConn d2a d2b).1.r.held.length) v7c)).toArray] (some 38) rfl (xc_b fun ww hf => ysSameConn_c ((readConn d2a d2b).1) (.slice v3a ((readConn d2a d2b).1.r.held.length) v3c) ((readConn d2a d2b).1) (.slice v7a ((readConn d2a d2b).1.r.held.length) v7c) ww (Own.sl (hf _ m2)) (Own.sl (hf _ m0)) ) ?_
 intro _
 refine kRD 3 [3,5,6,7,10,41] [(41,.v (.bool (!(sameConn ((readConn d2a d2b).1) ((readConn d2a d2b).1)))))] ?_
 refine kP 41 (!(sameConn ((readConn d2a d2b).1) ((readConn d2a d2b).1))) (fun h10 => ?_) (fun h10 => ?_)
 have h10n := not_t h10
 exfalso; rw [sameConn_self] at h10n; cases h10n
 have h10n := not_f h10
 refine kCD 2 [3,5,6,7,41,42,43] [(41,.v (.bool false)),(42,.v (.slice v4a ((readConn d2a d2b).2.2.length) v4c)),(43,.v (.slice v8a ((readConn d2a d2b).2.2.length) v8c))] 22 [.slice v4a ((readConn d2a d2b).2.2.length) v4c,.slice v8a ((readConn d2a d2b).2.2.length) v8c] (some 44) rfl (xc_b fun ww hf => ysameSegments_c ((readConn d2a d2b).2.2) (.slice v4a ((readConn d2a d2b).2.2.length) v4c) ((readConn d2a d2b).2.2) (.slice v8a ((readConn d2a d2b).2.2.length) v8c) ww (Own.sl (hf _ m3)) (Own.sl (hf _ m1)) ) ?_
 intro _
 refine kED [3,5,6,7,46] [(46,.v (.bool (!(sameL segEq (readConn d2a d2b).2.2 (readConn d2a d2b).2.2))))] ?_
 refine kC (!(sameL segEq (readConn d2a d2b).2.2 (readConn d2a d2b).2.2)) (fun h11 => ?_) (fun h11 => ?_)
 have h11n := not_t h11
 exfalso; rw [sameSeg_self] at h11n; cases h11n
 have h11n := not_f h11
 refine kK ?_
 refine kS ?_
 refine kQ ?_
 refine kCS 1 [3,5,6,7,47] [(3,.p 0 0),(5,.p 1 0),(6,.v (.string ((readConn d2a d2b).2.1))),(7,.v (.slice v4a ((readConn d2a d2b).2.2.length) v4c)),(47,.v (.agg (conL d2a (.slice d2A d2a.r.held.length d2C)).toArray))] 23 [.agg (conL d2a (.slice d2A d2a.r.held.length d2C)).toArray] (some 48) rfl (xc_b fun ww hf => ysConnOk_c d2a (.slice d2A d2a.r.held.length d2C) ww (hf _ m4).1 (by assumption) (by omega)) ?_
 intro _
 refine kED [3,5,6,7,49] [(49,.v (.bool (!(conOk d2a))))] ?_
 refine kC (!(conOk d2a)) (fun h12 => ?_) (fun h12 => ?_)
 have h12n := not_t h12
 have hno := h12n
 refine kQ ?_
 refine kRD 3 [7,52] [(52,.v (.bool (((readConn d2a d2b).2.1).toList == (⟨#[]⟩ : ByteArray).toList)))] ?_
 refine kP 52 (((readConn d2a d2b).2.1).toList == (⟨#[]⟩ : ByteArray).toList) (fun h13 => ?_) (fun h13 => ?_)
 have h13p := h13; simp only [beq_iff_eq,bne_iff_ne,beq_eq_false_iff_ne,bne_eq_false_iff_eq,ne_eq,toList_lit0] at h13p
 refine kES [2] [(2,.v (.bool ((((readConn d2a d2b).2.2.length : Nat) : Int) == 0)))] ?_
 refine kR ?_
 exact ⟨[.bool ((((readConn d2a d2b).2.2.length : Nat) : Int) == 0)],by kernel_rfl,fun w' hb hf => ⟨ret_bool (show ((((readConn d2a d2b).2.2.length : Nat) : Int) == 0 : Bool) = true from by first | (rw [readConn_no _ hno]; rfl) | exact beq_self_eq_true _),hb⟩⟩
 have h13p := h13; simp only [beq_iff_eq,bne_iff_ne,beq_eq_false_iff_ne,bne_eq_false_iff_eq,ne_eq,toList_lit0] at h13p
 exfalso; rw [readConn_no _ hno] at h13; simp at h13
 have h12n := not_f h12
 have h12nc : conOk d2a = true := (by simpa using h12n)
 have h12nq := conOk_bd h12nc; obtain ⟨h12nq0,h12nq1,h12nq2,h12nq3,h12nq4,h12nq5,h12nq6,h12nq7,h12nq8,h12nq9⟩ := h12nq
 have hok := h12n
 obtain ⟨g0,hg0⟩ : ∃ g0 : Seg,0 < (readConn d2a d2b).2.2.length → (readConn d2a d2b).2.2[0]? = some g0 := if h : 0 < (readConn d2a d2b).2.2.length then ⟨(readConn d2a d2b).2.2[0],fun _ => List.getElem?_eq_getElem h⟩ else ⟨zeroSeg,fun h' => absurd h' h⟩
 refine xw_know (φ := ∃ b off,0 < (readConn d2a d2b).2.2.length → v4a = some ⟨b,off,none⟩) (fun _ _ _ _ hr => know_at (ownF w.heap.size (.slice v4a ((readConn d2a d2b).2.2.length) v4c) 13 ((readConn d2a d2b).2.2.map segCells)) (fun w h => Own.sl h) hr (by simp) (j := 0) (row := segCells g0) (fun hp => by rw [List.getElem?_map,hg0 hp]; rfl)) ?_
 rintro ⟨lb,lo,hlb⟩
 refine kK ?_
 refine kS ?_
 refine xw_join ⟨[(2,.v (.bool ((atEnd ((readConn d2a d2b).1)) == (atEnd ((readConn d2a d2b).1)))))],[⟨34,conL d2a (.slice d2A d2a.r.held.length d2C)⟩,⟨34,conL (readConn d2a d2b).1 (.slice v3a ((readConn d2a d2b).1.r.held.length) v3c)⟩,⟨34,conL (readConn d2a d2b).1 (.slice v7a ((readConn d2a d2b).1.r.held.length) v7c)⟩],[],[ownF w.heap.size (.slice v7a ((readConn d2a d2b).1.r.held.length) v7c) 2 ((readConn d2a d2b).1.r.held.map pceCells),ownF w.heap.size (.slice v8a ((readConn d2a d2b).2.2.length) v8c) 13 ((readConn d2a d2b).2.2.map segCells),ownF w.heap.size (.slice v3a ((readConn d2a d2b).1.r.held.length) v3c) 2 ((readConn d2a d2b).1.r.held.map pceCells),ownF w.heap.size (.slice v4a ((readConn d2a d2b).2.2.length) v4c) 13 ((readConn d2a d2b).2.2.map segCells),newF w.heap.size (.slice d2A d2a.r.held.length d2C) 2 (d2a.r.held.map pceCells),slF (.slice Ac code.length Cc) 1 (code.map byteRow)]⟩ ?_ ?_
 refine xe_region [] (by kernel_rfl) (fun ρ σ => ?_)
 refine kTS [0] [57,3,5,6,7] 39 [(57,.v (.agg (conL (readConn d2a d2b).1 (.slice v3a ((readConn d2a d2b).1.r.held.length) v3c)).toArray)),(3,.p 0 0),(5,.p 1 0),(6,.v (.string ((readConn d2a d2b).2.1))),(7,.v (.slice v4a ((readConn d2a d2b).2.2.length) v4c))] ?_
 refine kA [1] ?_
 refine kSC 1 24 [.agg (conL (readConn d2a d2b).1 (.slice v3a ((readConn d2a d2b).1.r.held.length) v3c)).toArray] (some 58) rfl (xc_b fun ww hf => yiConnOk_c ((readConn d2a d2b).1) (.slice v3a ((readConn d2a d2b).1.r.held.length) v3c) ww (Own.sl (hf _ m2)) (by assumption) (by omega)) ?_
 intro _
 refine kTS [2] [59,3,5,6,7] 37 [(59,.v (.bool (conOk ((readConn d2a d2b).1)))),(3,.p 0 0),(5,.p 1 0),(6,.v (.string ((readConn d2a d2b).2.1))),(7,.v (.slice v4a ((readConn d2a d2b).2.2.length) v4c))] ?_
 refine kY 59 (conOk ((readConn d2a d2b).1)) (fun h14 => ?_) (fun h14 => ?_)
 refine kTS [3,4,5,6,8,9,10] [67,63,60,59,5,6,7] 30 [(67,.v (.string d2a.r.data)),(63,.v (.string ((readConn d2a d2b).1.r.data))),(60,.v (.string ((readConn d2a d2b).2.1))),(59,.v (.bool true)),(5,.p 1 0),(6,.v (.string ((readConn d2a d2b).2.1))),(7,.v (.slice v4a ((readConn d2a d2b).2.2.length) v4c))] ?_
 refine kX 7 (.string (((readConn d2a d2b).2.1) ++ ((readConn d2a d2b).1.r.data))) rfl (fun _ _ ww hA => act_bin hA rfl (by kernel_rfl) (by kernel_rfl) (str_add (by have := readConn_len (c := d2a) d2b; have hq := (RB.read (hd2) d2b).2.2; omega) ww)) ?_
 refine kTS [11,12,13] [70,5,6,7] 26 [(70,.v (.bool ((((readConn d2a d2b).2.1) ++ ((readConn d2a d2b).1.r.data)).toList == d2a.r.data.toList))),(5,.p 1 0),(6,.v (.string ((readConn d2a d2b).2.1))),(7,.v (.slice v4a ((readConn d2a d2b).2.2.length) v4c))] ?_
 refine kY 70 ((((readConn d2a d2b).2.1) ++ ((readConn d2a d2b).1.r.data)).toList == d2a.r.data.toList) (fun h15 => ?_) (fun h15 => ?_)
 have h15p := h15; simp only [beq_iff_eq,bne_iff_ne,beq_eq_false_iff_ne,bne_eq_false_iff_eq,ne_eq,toList_lit0] at h15p
 refine kTS [14,15,16,17,18] [75,5,6,7] 21 [(75,.v (.bool (decide ((((readConn d2a d2b).2.2.length : Nat) : Int) ≤ 1)))),(5,.p 1 0),(6,.v (.string ((readConn d2a d2b).2.1))),(7,.v (.slice v4a ((readConn d2a d2b).2.2.length) v4c))] ?_
 refine kY 75 (decide ((((readConn d2a d2b).2.2.length : Nat) : Int) ≤ 1)) (fun h16 => ?_) (fun h16 => ?_)
 have h16p := of_decide_eq_true h16
 refine kTS [19,20,21,22] [79,75,5,6,7] 17 [(79,.v (.bool ((((readConn d2a d2b).2.2.length : Nat) : Int) == 0))),(75,.v (.bool true)),(5,.p 1 0),(6,.v (.string ((readConn d2a d2b).2.1))),(7,.v (.slice v4a ((readConn d2a d2b).2.2.length) v4c))] ?_
 refine kY 79 ((((readConn d2a d2b).2.2.length : Nat) : Int) == 0) (fun h17 => ?_) (fun h17 => ?_)
 have h17p := eqT h17
 refine kTS [23,24,25,26,27,28,29,30,31,32,33,35] [92,90,89] 5 [(92,.v (.agg (conL (readConn d2a d2b).1 (.slice v3a ((readConn d2a d2b).1.r.held.length) v3c)).toArray)),(90,.v (.agg (conL (readConn d2a d2b).1 (.slice v3a ((readConn d2a d2b).1.r.held.length) v3c)).toArray)),(89,.v (.bool true))] ?_
 refine kA [34] ?_
 refine kSC 34 25 [.agg (conL (readConn d2a d2b).1 (.slice v3a ((readConn d2a d2b).1.r.held.length) v3c)).toArray] (some 91) rfl (xc_b fun ww hf => yiAtEnd_c ((readConn d2a d2b).1) (.slice v3a ((readConn d2a d2b).1.r.held.length) v3c) ww (Own.sl (hf _ m2)) (by assumption) (by omega)) ?_
 intro _
 refine kA [36] ?_
 refine kSC 36 26 [.agg (conL (readConn d2a d2b).1 (.slice v3a ((readConn d2a d2b).1.r.held.length) v3c)).toArray] (some 93) rfl (xc_b fun ww hf => ysAtEnd_c ((readConn d2a d2b).1) (.slice v3a ((readConn d2a d2b).1.r.held.length) v3c) ww (Own.sl (hf _ m2)) (by assumption) (by omega)) ?_
 intro _
 refine kTS [37,38,39] [2] 0 [(2,.v (.bool ((atEnd ((readConn d2a d2b).1)) == (atEnd ((readConn d2a d2b).1)))))] ?_
 refine kZ ?_
 exact kF 3 0 [2]
 have h17p := eqF h17
 refine kTS [23,27,28] [85,80,79,75,5] 14 [(85,.v (.int .i64 (((readConn d2a d2b).2.1).size : Int))),(80,.v (.slice v4a ((readConn d2a d2b).2.2.length) v4c)),(79,.v (.bool false)),(75,.v (.bool true)),(5,.p 1 0)] ?_
 refine kX 24 (.pointer (some ⟨lb,lo + 0 * 13,none⟩)) rfl (fun _ _ ww hA => act_ixO (kd := .i64) (T := 46) (e := 36) (K := 13) (b := lb) (off := lo) (N := ((readConn d2a d2b).2.2.length)) (cap := v4c) 0 (hlb (by omega)) hA rfl rfl (by kernel_rfl) (by kernel_rfl) (by kernel_rfl) (by omega) ww) ?_
 refine kX 25 (.pointer (some ⟨lb,lo + 0 * 13 + 5,none⟩)) rfl (fun _ _ ww hA => act_fld (sz := 1) (b := lb) (m := lo + 0 * 13) hA rfl Tryz.underlying36 rfl (by kernel_rfl) rfl (by kernel_rfl) rfl) ?_
 refine kA [26] ?_
 refine kSR 26 (.int .i64 g0.window) rfl (fun _ _ ww hr => ldQ_run (po := 5) (j := 0) (row := [.int .i64 g0.src,.int .i64 g0.dst,.int .i64 g0.seq,.int .i64 g0.ack,.int .i64 g0.flags,.int .i64 g0.window,.int .i64 g0.o.mss,.int .i64 g0.o.scale,.bool g0.o.sack,.bool g0.o.stamp,.int .i64 g0.o.val,.int .i64 g0.o.echo,.string g0.body]) (ownF w.heap.size (.slice v4a ((readConn d2a d2b).2.2.length) v4c) 13 ((readConn d2a d2b).2.2.map segCells)) (fun w h => Own.sl h) hr rfl (by kernel_rfl) (by simp) (by rw [List.getElem?_map,hg0 (by omega)]; rfl) (by kernel_rfl) (hlb (by omega))) ?_
 refine kTS [29,30,31,32] [89,5] 7 [(89,.v (.bool (g0.window == (((readConn d2a d2b).2.1).size : Int)))),(5,.p 1 0)] ?_
 refine kY 89 (g0.window == (((readConn d2a d2b).2.1).size : Int)) (fun h18 => ?_) (fun h18 => ?_)
 have h18p := eqT h18
 refine kTS [33,35] [92,90,89] 5 [(92,.v (.agg (conL (readConn d2a d2b).1 (.slice v3a ((readConn d2a d2b).1.r.held.length) v3c)).toArray)),(90,.v (.agg (conL (readConn d2a d2b).1 (.slice v3a ((readConn d2a d2b).1.r.held.length) v3c)).toArray)),(89,.v (.bool true))] ?_
 refine kA [34] ?_
 refine kSC 34 25 [.agg (conL (readConn d2a d2b).1 (.slice v3a ((readConn d2a d2b).1.r.held.length) v3c)).toArray] (some 91) rfl (xc_b fun ww hf => yiAtEnd_c ((readConn d2a d2b).1) (.slice v3a ((readConn d2a d2b).1.r.held.length) v3c) ww (Own.sl (hf _ m2)) (by assumption) (by omega)) ?_
 intro _
 refine kA [36] ?_
 refine kSC 36 26 [.agg (conL (readConn d2a d2b).1 (.slice v3a ((readConn d2a d2b).1.r.held.length) v3c)).toArray] (some 93) rfl (xc_b fun ww hf => ysAtEnd_c ((readConn d2a d2b).1) (.slice v3a ((readConn d2a d2b).1.r.held.length) v3c) ww (Own.sl (hf _ m2)) (by assumption) (by omega)) ?_
 intro _
 refine kTS [37,38,39] [2] 0 [(2,.v (.bool ((atEnd ((readConn d2a d2b).1)) == (atEnd ((readConn d2a d2b).1)))))] ?_
 refine kZ ?_
 exact kF 3 0 [2]
 have h18p := eqF h18
 exfalso; rw [readConn_win d2b (hg0 (by omega))] at h18; simp at h18
 have h16p := of_decide_eq_false h16
 exfalso; have := of_decide_eq_false h16; omega
 have h15p := h15; simp only [beq_iff_eq,bne_iff_ne,beq_eq_false_iff_ne,bne_eq_false_iff_eq,ne_eq,toList_lit0] at h15p
 exfalso; rw [readConn_cat _ hok] at h15; simp at h15
 exfalso; rw [readConn_ok _ hok] at h14; cases h14
 refine kR ?_
 exact ⟨[.bool ((atEnd ((readConn d2a d2b).1)) == (atEnd ((readConn d2a d2b).1)))],by kernel_rfl,fun w' hb hf => ⟨ret_bool (show ((atEnd ((readConn d2a d2b).1)) == (atEnd ((readConn d2a d2b).1)) : Bool) = true from by first | (rw [readConn_no _ hno]; rfl) | exact beq_self_eq_true _),hb⟩⟩

set_option maxRecDepth 100000 in
theorem fnRead_lifted (os : Os) (started : os.Started) (H : Type) (enc : TypeId × Value → H) :
    ReturnsInHanded {} Tryz.checked os 4 .any (Rows.fnReadSpec.pre6 enc Tryz.prog Tryz.f4 Rows.fnReadRow.domain false) (Rows.fnReadSpec.post enc Tryz.prog Tryz.f4 false true false false) := by
  refine returnsInHanded_of_change (C := Tryz.checked) Tryz.ownK started (by kernel_rfl) Tryz.func4
    (ChangeSpec.witness6 (enc := enc) (C := Tryz.checked) false ⟨#[], #[.slice none 0 0], []⟩ 8 (by kernel_rfl) (by kernel_rfl) (by kernel_rfl) (by kernel_rfl)) ?_
  intro W base args ds gs before hval0 hW hcnd _
  have hval : ∀ (j : Nat) t v, Tryz.f4.params[j]? = some t → args[j]? = some v → Value.okWide Tryz.prog W .any base t v := hval0
  have hW' := hW
  obtain ⟨p, q, hA0, hV, rfl, hfz, hnd⟩ := hW
  have hA : DataW.TrodAll enc Tryz.prog W 0 (fun _ => true) true Tryz.f4.params.toList args.toList ds p := hA0
  rw [Tryz.params4] at hA hval
  obtain ⟨v0, vs0, d0, ds0, p0, q0, hargs, rfl, rfl, h0, r0⟩ := trodAll_cons hA
  obtain ⟨rfl, rfl, rfl⟩ := trodAll_nil r0
  obtain rfl : args = #[v0] := by cases args; simp_all
  obtain ⟨rfl, rfl⟩ := trodVars_none hV
  clear hA0 hval0
  have g0 := h0
  obtain ⟨l0, L0⟩ := openS_byte (hval 0 _ v0 rfl rfl) g0
  refine (fnRead_walk l0 v0 W L0).mono fun e W' ⟨he, hb⟩ => ?_
  subst he
  have hlt : ∀ x ∈ (p0 ++ ([])) ++ [], x.block < W.heap.size := fun x hx => hW'.lt x hx
  refine ⟨_, rfl, post_of_below (pa := (p0 ++ ([]))) (pv := []) hW' (fun _ _ _ => trodAll_cons_mk (shut_bool Tryz.underlying4 _) trodAll_mk0) (fun sp hsp => trodAll_cons_mk (WideElems.Trod_stays Tryz.laidOut (by kernel_rfl) (of_decide_eq_true (by kernel_rfl)) h0 (fun x hx => hb.same (hlt x (List.mem_append_left _ (List.mem_append_left _ hx)))) (fun x hx => hsp x (List.mem_append_left _ (List.mem_append_left _ hx)))) (trodAll_mk0)) (fun _ _ => rfl) rfl hb (ok_one (by kernel_rfl) rfl (okWide_bool_mk Tryz.underlying4 _))⟩

theorem fnRead_over : Rows.fnReadRow.holds Tryz.pinned (OpenSpec.ofChange Rows.fnReadSpec) :=
  OpenClaim.holds_of_wide 4 Tryz.f4 rfl rfl rfl rfl rfl rfl rfl ⟨rfl, rfl, rfl, rfl, rfl⟩ rfl rfl rfl rfl rfl (by kernel_rfl) Tryz.func4 (by kernel_rfl)
    (of_decide_eq_true (by kernel_rfl)) (by unfold Func.isWrapper; first | (rw [if_pos (by decide +kernel)]; kernel_rfl) | (rw [if_neg (by decide +kernel)]; exact ⟨rfl, rfl⟩))
    (fun os started H enc _ => fnRead_lifted os started H enc)

theorem fnRead_holds : Rows.FnReadSaid := fnRead_over
#print axioms fnRead_holds
end Go.Proofs.YtnmmhbhdcplfmaaGreat
