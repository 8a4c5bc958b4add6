/- The law FnPump holds: for every argument the program's function answers true and leaves its arguments as they were. Conditions: none beyond the given row's. -/
import Derived.Test.YtnmmhbhdcplfmaaGreatZ5
import Derived.Test.YtnmmhbhdcplfmaaGreatG3
import Derived.Test.YtnmmhbhdcplfmaaGreatG2
namespace Go.Proofs.YtnmmhbhdcplfmaaGreat
open Go.RowKit Go.ChangeShapes Go.WideShapes Go.ChangeAt
set_option linter.unusedVariables false
set_option linter.unusedSimpArgs false

set_option maxRecDepth 100000 in
set_option maxHeartbeats 2000000 in
theorem fnPump_walk (code : List Int) (codeV : Value) (w : World) (hl_codeV : Sl w codeV 1 (code.map byteRow)) : Calls Tryz.prog 7 #[codeV] w fun e w' => e = .returned (.bool true) ∧ Below w.heap.size w w' := by
 obtain ⟨Ac,Cc,hvc⟩ := hl_codeV.form
 rw [List.length_map] at hvc; subst hvc
 have hnc := hl_codeV.len; rw [List.length_map] at hnc
 have hqc := Sl.capLe hl_codeV
 refine x_calls (args := [.slice Ac code.length Cc]) (fn := Tryz.f7) [slF (.slice Ac code.length Cc) 1 (code.map byteRow)] Tryz.func7 rfl Tryz.ntmps7 rfl (by simp only [List.mem_cons,List.not_mem_nil,or_false,forall_eq_or_imp,forall_eq]; exact ⟨rfl,hl_codeV⟩) ?_
 refine kQ ?_
 refine kEF [0] ⟨[(0,.v (.slice Ac code.length Cc))],[],[],[slF (.slice Ac code.length Cc) 1 (code.map byteRow)]⟩ ?_
 refine kS ?_
 refine kQ ?_
 refine kCD 1 [0,12] [(12,.v (.slice Ac code.length Cc))] 10 [.slice Ac code.length Cc] (some 13) rfl (xc_b fun ww hf => big_c code Ac Cc ww (hf _ m0)) ?_
 intro _
 refine kED [0,13] [] ?_
 refine kC (decide (((code.length : Nat) : Int) > 1048576)) (fun h1 => ?_) (fun h1 => ?_)
 have h1p := of_decide_eq_true h1
 refine kQ ?_
 refine kES [2] [(2,.v (.bool true))] ?_
 refine kR ?_
 exact ⟨[.bool true],by kernel_rfl,fun w' hb hf => ⟨rfl,hb⟩⟩
 have h1p := of_decide_eq_false h1
 have hbig : code.length ≤ 1048576 := by simp at h1; omega
 refine kK ?_
 refine kQ ?_
 refine kCS 1 [15] [(15,.v (.slice Ac code.length Cc))] 35 [.slice Ac code.length Cc] (some 16) rfl (xc_newF (α := {y : (Con × Int) × (Option Addr × Nat) // RB 4 y.1.1.r ∧ (-1 ≤ y.1.2 ∧ y.1.2 ≤ 9223372036854775807)}) (F := fun y => .tuple #[.agg #[.int .i64 y.1.1.1.t.ip,.int .i64 y.1.1.1.t.port,.int .i64 y.1.1.1.t.my,.int .i64 y.1.1.1.state,.int .i64 y.1.1.1.s.una,.string y.1.1.1.s.data,.int .i64 y.1.1.1.s.sent,.bool y.1.1.1.s.fin,.bool y.1.1.1.s.finSent,.bool y.1.1.1.s.done,.int .i64 y.1.1.1.r.next,.string y.1.1.1.r.data,.slice y.1.2.1 y.1.1.1.r.held.length y.1.2.2,.int .i64 y.1.1.1.r.fin,.bool y.1.1.1.r.done,.int .i64 y.1.1.1.window,.int .i64 y.1.1.1.most,.int .i64 y.1.1.1.o.mss,.int .i64 y.1.1.1.o.scale,.bool y.1.1.1.o.sack,.bool y.1.1.1.o.stamp,.int .i64 y.1.1.1.o.val,.int .i64 y.1.1.1.o.echo,.int .i64 y.1.1.1.timer,.int .i64 y.1.1.1.tries],.int .i64 y.1.1.2]) (v := fun y => .slice y.1.2.1 y.1.1.1.r.held.length y.1.2.2) (rs := fun y => y.1.1.1.r.held.map pceCells) fun ww hw hf => drawPump_c code Ac Cc ww (hf _ m0) (by omega)) ?_
 rintro ⟨⟨⟨d2a,d2b⟩,d2A,d2C⟩,hd2⟩
 dsimp only at hd2
 have hkn := hd2.1.kn; have hm := hd2.1.hm; have hsz := hd2.1.sz
 have hrd1 := hd2.1.1; have hrd2 := hd2.1.2.2
 have hbs := hd2.2
 have hb2a := hbs.1; have hb2b := hbs.2
 refine kEA [3,4] [(3,.p 0 0),(4,.v (.int .i64 d2b))] [⟨34,conL d2a (.slice d2A d2a.r.held.length d2C)⟩] ?_
 refine kQ ?_
 refine kCD 2 [3,4,20,21] [(20,.v (.agg (conL d2a (.slice d2A d2a.r.held.length d2C)).toArray)),(21,.v (.int .i64 d2b))] 36 [.agg (conL d2a (.slice d2A d2a.r.held.length d2C)).toArray,.int .i64 d2b] (some 22) rfl (xc_r fun ww hw hf => yiPump_c d2a (.slice d2A d2a.r.held.length d2C) d2b ww (hf _ m0).1 (by assumption) (by assumption) (by omega) (by omega) w.heap.size hw) ?_
 rintro ⟨⟨v3a,v3c⟩,⟨v4a,v4c⟩⟩
 have hbd5 : (pump d2a d2b).1.r.held.length ≤ 1048576 ∧ (pump d2a d2b).2.length ≤ 49 := pump_bd _ _  (by omega)
 have hbd5a := hbd5.1; have hbd5b := hbd5.2
 have hrb6 := RB.pump (hd2.1) d2b; have hrb6a := hrb6.kn; have hrb6b := hrb6.hm; have hrb6c := hrb6.sz
 refine kEA [3,4,5,6] [(5,.p 1 0),(6,.v (.slice v4a ((pump d2a d2b).2.length) v4c))] [⟨34,conL (pump d2a d2b).1 (.slice v3a ((pump d2a d2b).1.r.held.length) v3c)⟩] ?_
 refine kQ ?_
 refine kCD 2 [3,4,5,6,26,27] [(26,.v (.agg (conL d2a (.slice d2A d2a.r.held.length d2C)).toArray)),(27,.v (.int .i64 d2b))] 37 [.agg (conL d2a (.slice d2A d2a.r.held.length d2C)).toArray,.int .i64 d2b] (some 28) rfl (xc_r fun ww hw hf => ysPump_c d2a (.slice d2A d2a.r.held.length d2C) d2b ww (hf _ m2).1 (by assumption) (by assumption) (by omega) (by omega) w.heap.size hw) ?_
 rintro ⟨⟨v7a,v7c⟩,⟨v8a,v8c⟩⟩
 refine kEA [3,4,5,6,7,8] [(7,.p 2 0),(8,.v (.slice v8a ((pump d2a d2b).2.length) v8c))] [⟨34,conL (pump d2a d2b).1 (.slice v7a ((pump d2a d2b).1.r.held.length) v7c)⟩] ?_
 refine kS ?_
 refine kQ ?_
 refine kCD 2 [3,4,5,6,8,31,32] [(31,.v (.agg (conL (pump d2a d2b).1 (.slice v3a ((pump d2a d2b).1.r.held.length) v3c)).toArray)),(32,.v (.agg (conL (pump d2a d2b).1 (.slice v7a ((pump d2a d2b).1.r.held.length) v7c)).toArray))] 21 [.agg (conL (pump d2a d2b).1 (.slice v3a ((pump d2a d2b).1.r.held.length) v3c)).toArray,.agg (conL (pump d2a d2b).1 (.slice v7a ((pump d2a d2b).1.r.held.length) v7c)).toArray] (some 33) rfl (xc_b fun ww hf => ysSameConn_c ((pump d2a d2b).1) (.slice v3a ((pump d2a d2b).1.r.held.length) v3c) ((pump d2a d2b).1) (.slice v7a ((pump d2a d2b).1.r.held.length) v7c) ww (Own.sl (hf _ m2)) (Own.sl (hf _ m0)) ) ?_
 intro _
 refine kRD 2 [3,4,5,6,8,35] [(35,.v (.bool (!(sameConn ((pump d2a d2b).1) ((pump d2a d2b).1)))))] ?_
 refine kP 35 (!(sameConn ((pump d2a d2b).1) ((pump d2a d2b).1))) (fun h9 => ?_) (fun h9 => ?_)
 have h9n := not_t h9
 exfalso; rw [sameConn_self] at h9n; cases h9n
 have h9n := not_f h9
 refine kCD 2 [3,4,5,6,35,36,37] [(35,.v (.bool false)),(36,.v (.slice v4a ((pump d2a d2b).2.length) v4c)),(37,.v (.slice v8a ((pump d2a d2b).2.length) v8c))] 22 [.slice v4a ((pump d2a d2b).2.length) v4c,.slice v8a ((pump d2a d2b).2.length) v8c] (some 38) rfl (xc_b fun ww hf => ysameSegments_c ((pump d2a d2b).2) (.slice v4a ((pump d2a d2b).2.length) v4c) ((pump d2a d2b).2) (.slice v8a ((pump d2a d2b).2.length) v8c) ww (Own.sl (hf _ m3)) (rowF_sl (hf _ m1)) ) ?_
 intro _
 refine kED [3,4,5,6,40] [(40,.v (.bool (!(sameL segEq (pump d2a d2b).2 (pump d2a d2b).2))))] ?_
 refine kC (!(sameL segEq (pump d2a d2b).2 (pump d2a d2b).2)) (fun h10 => ?_) (fun h10 => ?_)
 have h10n := not_t h10
 exfalso; rw [sameSeg_self] at h10n; cases h10n
 have h10n := not_f h10
 refine kK ?_
 refine kS ?_
 refine kQ ?_
 refine kCD 1 [3,4,5,6,41] [(41,.v (.agg (conL d2a (.slice d2A d2a.r.held.length d2C)).toArray))] 23 [.agg (conL d2a (.slice d2A d2a.r.held.length d2C)).toArray] (some 42) rfl (xc_b fun ww hf => ysConnOk_c d2a (.slice d2A d2a.r.held.length d2C) ww (hf _ m4).1 (by assumption) (by omega)) ?_
 intro _
 refine kES [3,4,5,6,43] [(3,.p 0 0),(4,.v (.int .i64 d2b)),(5,.p 1 0),(6,.v (.slice v4a ((pump d2a d2b).2.length) v4c)),(43,.v (.bool (!(conOk d2a))))] ?_
 refine kC (!(conOk d2a)) (fun h11 => ?_) (fun h11 => ?_)
 have h11n := not_t h11
 have hno := h11n
 refine kQ ?_
 refine kRD 4 [3,5,47] [(47,.v (.bool ((((pump d2a d2b).2.length : Nat) : Int) == 0)))] ?_
 refine kP 47 ((((pump d2a d2b).2.length : Nat) : Int) == 0) (fun h12 => ?_) (fun h12 => ?_)
 have h12p := eqT h12
 refine kCS 2 [47,48,49] [(47,.v (.bool true)),(48,.v (.agg (conL (pump d2a d2b).1 (.slice v3a ((pump d2a d2b).1.r.held.length) v3c)).toArray)),(49,.v (.agg (conL d2a (.slice d2A d2a.r.held.length d2C)).toArray))] 21 [.agg (conL (pump d2a d2b).1 (.slice v3a ((pump d2a d2b).1.r.held.length) v3c)).toArray,.agg (conL d2a (.slice d2A d2a.r.held.length d2C)).toArray] (some 50) rfl (xc_b fun ww hf => ysSameConn_c ((pump d2a d2b).1) (.slice v3a ((pump d2a d2b).1.r.held.length) v3c) d2a (.slice d2A d2a.r.held.length d2C) ww (Own.sl (hf _ m2)) (hf _ m4).1 ) ?_
 intro _
 refine kES [2] [(2,.v (.bool (sameConn ((pump d2a d2b).1) d2a)))] ?_
 refine kR ?_
 exact ⟨[.bool (sameConn ((pump d2a d2b).1) d2a)],by kernel_rfl,fun w' hb hf => ⟨ret_bool (show (sameConn ((pump d2a d2b).1) d2a : Bool) = true from by first | (rw [pump_no _ hno]; exact sameConn_self _) | (rcases hun with e | e <;> first | (exfalso; simp_all; done) | (rw [hnx]; exact decide_eq_true e))),hb⟩⟩
 have h12p := eqF h12
 exfalso; rw [pump_no _ hno] at h12; simp at h12
 have h11n := not_f h11
 have h11nc : conOk d2a = true := (by simpa using h11n)
 have h11nq := conOk_bd h11nc; obtain ⟨h11nq0,h11nq1,h11nq2,h11nq3,h11nq4,h11nq5,h11nq6,h11nq7,h11nq8,h11nq9⟩ := h11nq
 have hok := h11n
 refine kK ?_
 refine kQ ?_
 refine kCD 2 [3,4,5,6,53] [(53,.v (.agg (sndL d2a.s).toArray))] 17 [.agg (sndL d2a.s).toArray] (some 54) rfl (xc_b fun ww hf => sNextOf_c d2a.s.una d2a.s.data d2a.s.sent d2a.s.fin d2a.s.finSent d2a.s.done ww ) ?_
 intro _
 refine kED [3,4,5,6,9] [(9,.v (.int .i64 (nextOf d2a.s)))] ?_
 refine kQ ?_
 refine kED [3,4,5,6,9,10] [(10,.v (.string (⟨#[]⟩ : ByteArray)))] ?_
 refine kS ?_
 refine kQ ?_
 refine kED [3,4,5,6,9,10,11] [(11,.v (.int .i64 0))] ?_
 refine xw_block ?_
 refine xw_loopW (α := {x : Nat × Snd × Int × ByteArray // (fun (i : Nat) (s : Snd) (nx : Int) (al : ByteArray) => i ≤ (pump d2a d2b).2.length ∧ PI d2a d2b ((pump d2a d2b).2) i s ∧ nx = nextOf s ∧ al = d2a.s.data.extract d2a.s.sent.toNat s.sent.toNat) x.1 x.2.1 x.2.2.1 x.2.2.2}) (fun x => (fun (i : Nat) (s : Snd) (nx : Int) (al : ByteArray) => (⟨[(3,.p 0 0),(4,.v (.int .i64 d2b)),(5,.p 1 0),(6,.v (.slice v4a ((pump d2a d2b).2.length) v4c)),(9,.v (.int .i64 nx)),(10,.v (.string al)),(11,.v (.int .i64 (i : Int)))],[⟨34,conL d2a (.slice d2A d2a.r.held.length d2C)⟩,⟨34,conL (pump d2a d2b).1 (.slice v3a ((pump d2a d2b).1.r.held.length) v3c)⟩,⟨34,conL (pump d2a d2b).1 (.slice v7a ((pump d2a d2b).1.r.held.length) v7c)⟩],[],[ownF w.heap.size (.slice v7a ((pump d2a d2b).1.r.held.length) v7c) 2 ((pump d2a d2b).1.r.held.map pceCells),rowF w.heap.size 36 13 (.slice v8a ((pump d2a d2b).2.length) v8c) ((pump d2a d2b).2.map segCells),ownF w.heap.size (.slice v3a ((pump d2a d2b).1.r.held.length) v3c) 2 ((pump d2a d2b).1.r.held.map pceCells),ownF w.heap.size (.slice v4a ((pump d2a d2b).2.length) v4c) 13 ((pump d2a d2b).2.map segCells),newF w.heap.size (.slice d2A d2a.r.held.length d2C) 2 (d2a.r.held.map pceCells),slF (.slice Ac code.length Cc) 1 (code.map byteRow)]⟩ : St)) x.1.1 x.1.2.1 x.1.2.2.1 x.1.2.2.2) (fun x => (fun (i : Nat) (s : Snd) (nx : Int) (al : ByteArray) => (pump d2a d2b).2.length - i) x.1.1 x.1.2.1 x.1.2.2.1 x.1.2.2.2) ⟨(0,d2a.s,nextOf d2a.s,(⟨#[]⟩ : ByteArray)),⟨Nat.zero_le _,PI.start hok,rfl,ext_none _ _⟩⟩ (kF 3 0 [3,4,5,6,9,10,11]) ?_
 rintro ⟨⟨i,s,nx,al⟩,hi,hpi,hnx,hal⟩
 try dsimp only
 try dsimp only at hi hpi hnx hal
 refine kS ?_
 refine kQ ?_
 refine kED [3,4,5,6,9,10,11,58] [(58,.v (.bool (decide ((i : Int) < (((pump d2a d2b).2.length : Nat) : Int)))))] ?_
 refine kC (decide ((i : Int) < (((pump d2a d2b).2.length : Nat) : Int))) (fun h13 => ?_) (fun h13 => ?_)
 have h13p := of_decide_eq_true h13
 have hlt : i < (pump d2a d2b).2.length := by simpa using h13
 obtain ⟨x,hx⟩ : ∃ x,((pump d2a d2b).2)[i]? = some x := ⟨_,List.getElem?_eq_getElem hlt⟩
 obtain ⟨hp1,hseq,hack,hsok,hnl,hbody,hle,hn2,hne⟩ := hpi.step hok hx
 have hmo := hpi.more hok hx hal
 have hb0 := hpi.bd hok; have hb1 := hp1.bd hok
 have hals : al.size ≤ 48 := by rw [hal,ByteArray.size_extract]; omega
 refine kK ?_
 refine kS ?_
 refine xw_block ?_
 refine kS ?_
 refine kS ?_
 refine xws_start ?_
 refine xws_row (K := 13) (j := i) [.int .i64 x.src,.int .i64 x.dst,.int .i64 x.seq,.int .i64 x.ack,.int .i64 x.flags,.int .i64 x.window,.int .i64 x.o.mss,.int .i64 x.o.scale,.bool x.o.sack,.bool x.o.stamp,.int .i64 x.o.val,.int .i64 x.o.echo,.string x.body] (ownF w.heap.size (.slice v4a ((pump d2a d2b).2.length) v4c) 13 ((pump d2a d2b).2.map segCells)) (fun _ _ h => h) (by simp) (fun w h => Own.sl h) (fun b h => h) (by simp only [List.getElem?_map,hx]; rfl) (fun bq14 offq14 hAq14 => ?_)
 refine xws_row (K := 13) (j := i) [.int .i64 x.src,.int .i64 x.dst,.int .i64 x.seq,.int .i64 x.ack,.int .i64 x.flags,.int .i64 x.window,.int .i64 x.o.mss,.int .i64 x.o.scale,.bool x.o.sack,.bool x.o.stamp,.int .i64 x.o.val,.int .i64 x.o.echo,.string x.body] (ownF w.heap.size (.slice v4a ((pump d2a d2b).2.length) v4c) 13 ((pump d2a d2b).2.map segCells)) (fun _ _ h => h) (by simp) (fun w h => Own.sl h) (fun b h => h) (by simp only [List.getElem?_map,hx]; rfl) (fun bq15 offq15 hAq15 => ?_)
 refine xws_row (K := 13) (j := i) [.int .i64 x.src,.int .i64 x.dst,.int .i64 x.seq,.int .i64 x.ack,.int .i64 x.flags,.int .i64 x.window,.int .i64 x.o.mss,.int .i64 x.o.scale,.bool x.o.sack,.bool x.o.stamp,.int .i64 x.o.val,.int .i64 x.o.echo,.string x.body] (ownF w.heap.size (.slice v4a ((pump d2a d2b).2.length) v4c) 13 ((pump d2a d2b).2.map segCells)) (fun _ _ h => h) (by simp) (fun w h => Own.sl h) (fun b h => h) (by simp only [List.getElem?_map,hx]; rfl) (fun bq16 offq16 hAq16 => ?_)
 refine xws_regionE [] (by kernel_rfl) (fun ρ σ hq17 => ?_)
 refine kTS [0,1,5] [66,62,61,3,4,5,6,9,10,11] 23 [(66,.v (.int .i64 nx)),(62,.v (.int .i64 (i : Int))),(61,.v (.slice v4a ((pump d2a d2b).2.length) v4c)),(3,.p 0 0),(4,.v (.int .i64 d2b)),(5,.p 1 0),(6,.v (.slice v4a ((pump d2a d2b).2.length) v4c)),(9,.v (.int .i64 nx)),(10,.v (.string al)),(11,.v (.int .i64 (i : Int)))] ?_
 refine xe_takeI (kd := .i64) (T := 46) (e := 36) (K := 13) (j := i) (A := v4a) (len := (pump d2a d2b).2.length) (cap := v4c) 2 0 _ rfl (by kernel_rfl) (by kernel_rfl) (by kernel_rfl) (fun _ _ h => h) (by kernel_rfl) rfl rfl (by kernel_rfl) (by kernel_rfl) (by kernel_rfl) (by kernel_rfl) hlt hAq14 hq17.1.1.2 (by kernel_rfl) rfl ?_
 refine kTS [3,4,6,7] [68,3,4,5,6,9,10,11] 18 [(68,.v (.bool (x.seq != nx))),(3,.p 0 0),(4,.v (.int .i64 d2b)),(5,.p 1 0),(6,.v (.slice v4a ((pump d2a d2b).2.length) v4c)),(9,.v (.int .i64 nx)),(10,.v (.string al)),(11,.v (.int .i64 (i : Int)))] ?_
 refine kY 68 (x.seq != nx) (fun h18 => ?_) (fun h18 => ?_)
 have h18p := neT h18
 exfalso; rw [hseq,hnx] at h18; simp at h18
 have h18p := neF h18
 refine kTS [8,9] [70,69,68,3,4,5,6,9,10,11] 16 [(70,.v (.int .i64 (i : Int))),(69,.v (.slice v4a ((pump d2a d2b).2.length) v4c)),(68,.v (.bool false)),(3,.p 0 0),(4,.v (.int .i64 d2b)),(5,.p 1 0),(6,.v (.slice v4a ((pump d2a d2b).2.length) v4c)),(9,.v (.int .i64 nx)),(10,.v (.string al)),(11,.v (.int .i64 (i : Int)))] ?_
 refine xe_takeI (kd := .i64) (T := 46) (e := 36) (K := 13) (j := i) (A := v4a) (len := (pump d2a d2b).2.length) (cap := v4c) 10 1 _ rfl (by kernel_rfl) (by kernel_rfl) (by kernel_rfl) (fun _ _ h => h) (by kernel_rfl) rfl rfl (by kernel_rfl) (by kernel_rfl) (by kernel_rfl) (by kernel_rfl) hlt hAq15 hq17.1.2 (by kernel_rfl) rfl ?_
 refine kTS [11] [72,68,3,4,5,6,9,10,11] 14 [(72,.v (.agg (segL x).toArray)),(68,.v (.bool false)),(3,.p 0 0),(4,.v (.int .i64 d2b)),(5,.p 1 0),(6,.v (.slice v4a ((pump d2a d2b).2.length) v4c)),(9,.v (.int .i64 nx)),(10,.v (.string al)),(11,.v (.int .i64 (i : Int)))] ?_
 refine kA [12] ?_
 refine kSC 12 38 [.agg (segL x).toArray] (some 73) rfl (xc_b fun ww hf => ysSegmentOk_c x ww (by first | omega | exact Nat.zero_le _)) ?_
 intro _
 refine kTS [13,14,15] [76,3,4,5,6,9,10,11] 10 [(76,.v (.bool (!(segmentOk x)))),(3,.p 0 0),(4,.v (.int .i64 d2b)),(5,.p 1 0),(6,.v (.slice v4a ((pump d2a d2b).2.length) v4c)),(9,.v (.int .i64 nx)),(10,.v (.string al)),(11,.v (.int .i64 (i : Int)))] ?_
 refine kY 76 (!(segmentOk x)) (fun h19 => ?_) (fun h19 => ?_)
 have h19n := not_t h19
 exfalso; rw [hsok] at h19n; cases h19n
 have h19n := not_f h19
 refine kTS [16,17,21,22,23] [84,78,77,76,3,4,5,6,9,10,11] 5 [(84,.v (.int .i64 d2a.r.next)),(78,.v (.int .i64 (i : Int))),(77,.v (.slice v4a ((pump d2a d2b).2.length) v4c)),(76,.v (.bool false)),(3,.p 0 0),(4,.v (.int .i64 d2b)),(5,.p 1 0),(6,.v (.slice v4a ((pump d2a d2b).2.length) v4c)),(9,.v (.int .i64 nx)),(10,.v (.string al)),(11,.v (.int .i64 (i : Int)))] ?_
 refine xe_takeI (kd := .i64) (T := 46) (e := 36) (K := 13) (j := i) (A := v4a) (len := (pump d2a d2b).2.length) (cap := v4c) 18 2 _ rfl (by kernel_rfl) (by kernel_rfl) (by kernel_rfl) (fun _ _ h => h) (by kernel_rfl) rfl rfl (by kernel_rfl) (by kernel_rfl) (by kernel_rfl) (by kernel_rfl) hlt hAq16 hq17.2 (by kernel_rfl) rfl ?_
 refine kTS [19,20,24,25] [86,3,4,5,6,9,10,11] 0 [(86,.v (.bool (x.ack != d2a.r.next))),(3,.p 0 0),(4,.v (.int .i64 d2b)),(5,.p 1 0),(6,.v (.slice v4a ((pump d2a d2b).2.length) v4c)),(9,.v (.int .i64 nx)),(10,.v (.string al)),(11,.v (.int .i64 (i : Int)))] ?_
 refine kZ ?_
 refine kC (x.ack != d2a.r.next) (fun h20 => ?_) (fun h20 => ?_)
 have h20p := neT h20
 exfalso; rw [hack] at h20; simp at h20
 have h20p := neF h20
 refine kK ?_
 refine kQ ?_
 refine xl_indexD (kd := .i64) (T := 46) (e := 36) (K := 13) 3 [3,4,5,6,9,10,11,87,88,89] [(87,.v (.int .i64 nx)),(88,.v (.slice v4a ((pump d2a d2b).2.length) v4c)),(89,.v (.int .i64 (i : Int)))] i [.int .i64 x.src,.int .i64 x.dst,.int .i64 x.seq,.int .i64 x.ack,.int .i64 x.flags,.int .i64 x.window,.int .i64 x.o.mss,.int .i64 x.o.scale,.bool x.o.sack,.bool x.o.stamp,.int .i64 x.o.val,.int .i64 x.o.echo,.string x.body] (ownF w.heap.size (.slice v4a ((pump d2a d2b).2.length) v4c) 13 ((pump d2a d2b).2.map segCells)) (by kernel_rfl) rfl (by kernel_rfl) rfl rfl (by kernel_rfl) (by kernel_rfl) (by kernel_rfl) (by kernel_rfl) hlt (by simp) (fun w h => Own.sl h) (fun b h => h) (by simp only [List.getElem?_map,hx]; rfl) ?_
 refine kCD 1 [3,4,5,6,9,10,11,87,91] [(91,.v (.agg (segL x).toArray))] 40 [.agg (segL x).toArray] (some 92) rfl (xc_b fun ww hf => sSegmentLen_c x.src x.dst x.seq x.ack x.flags x.window x.o.mss x.o.scale x.o.sack x.o.stamp x.o.val x.o.echo x.body ww (by omega)) ?_
 intro _
 refine kCD 0 [3,4,5,6,9,10,11,87,92] [] 39 [.int .i64 nx,.int .i64 (segLen x)] (some 93) rfl (xc_s fun ww hf => iSeqAdd_c nx (segLen x) ww ) ?_
 intro _
 refine kED [3,4,5,6,9,10,11] [(9,.v (.int .i64 (seqAdd nx (segLen x))))] ?_
 refine kG ?_
 refine xl_indexD (kd := .i64) (T := 46) (e := 36) (K := 13) 3 [3,4,5,6,9,10,11,94,95,96] [(94,.v (.string al)),(95,.v (.slice v4a ((pump d2a d2b).2.length) v4c)),(96,.v (.int .i64 (i : Int)))] i [.int .i64 x.src,.int .i64 x.dst,.int .i64 x.seq,.int .i64 x.ack,.int .i64 x.flags,.int .i64 x.window,.int .i64 x.o.mss,.int .i64 x.o.scale,.bool x.o.sack,.bool x.o.stamp,.int .i64 x.o.val,.int .i64 x.o.echo,.string x.body] (ownF w.heap.size (.slice v4a ((pump d2a d2b).2.length) v4c) 13 ((pump d2a d2b).2.map segCells)) (by kernel_rfl) rfl (by kernel_rfl) rfl rfl (by kernel_rfl) (by kernel_rfl) (by kernel_rfl) (by kernel_rfl) hlt (by simp) (fun w h => Own.sl h) (fun b h => h) (by simp only [List.getElem?_map,hx]; rfl) ?_
 refine kOD 2 [3,4,5,6,9,10,11,94,99] [(99,.v (.string x.body))] (.string (al ++ x.body)) rfl (fun _ _ _ ww hr => act_bin hr.1 rfl (by kernel_rfl) (by kernel_rfl) (str_add (by first | omega | (simp only [ByteArray.size_extract]; omega)) ww)) ?_
 refine kED [3,4,5,6,9,10,11] [(10,.v (.string (al ++ x.body)))] ?_
 refine kG ?_
 refine kRS 3 [3,4,5,6,9,10,11] [(3,.p 0 0),(4,.v (.int .i64 d2b)),(5,.p 1 0),(6,.v (.slice v4a ((pump d2a d2b).2.length) v4c)),(9,.v (.int .i64 (seqAdd nx (segLen x)))),(10,.v (.string (al ++ x.body))),(11,.v (.int .i64 (IntKind.i64.wrap ((i : Int) + 1))))] ?_
 refine xl_eqS (t' := [(3,.p 0 0),(4,.v (.int .i64 d2b)),(5,.p 1 0),(6,.v (.slice v4a ((pump d2a d2b).2.length) v4c)),(9,.v (.int .i64 (seqAdd nx (segLen x)))),(10,.v (.string (al ++ x.body))),(11,.v (.int .i64 ((i : Int) + 1)))]) (by rw [show (IntKind.i64.wrap ((i : Int) + 1)) = ((i : Int) + 1) from wrap_id (by omega) (by omega)]) ?_
 refine kED [3,4,5,6,9,10,11] [] ?_
 exact ⟨⟨(i + 1,(sentG d2a d2b s),seqAdd nx (segLen x),al ++ x.body),⟨(by (try dsimp only); omega),hp1,(by rw [hnx]; exact hnl),hmo⟩⟩,kF 3 0 [3,4,5,6,9,10,11],by show (fun (i : Nat) (s : Snd) (nx : Int) (al : ByteArray) => (pump d2a d2b).2.length - i) (i + 1) (sentG d2a d2b s) (seqAdd nx (segLen x)) (al ++ x.body) < (pump d2a d2b).2.length - i; (dsimp only; omega)⟩
 have h13p := of_decide_eq_false h13
 have hge : i = (pump d2a d2b).2.length := by simp at h13; omega
 have hst := hpi.stop hok (by omega); have hbd := hpi.bd hok; have hun := hpi.una_far
 have hq1 : (pump d2a d2b).1.s.sent = s.sent := by rw [hst]
 refine xw_exit ?_
 refine kQ ?_
 refine kCD 1 [3,4,5,6,9,10,101] [(101,.v (.agg (conL (pump d2a d2b).1 (.slice v3a ((pump d2a d2b).1.r.held.length) v3c)).toArray))] 24 [.agg (conL (pump d2a d2b).1 (.slice v3a ((pump d2a d2b).1.r.held.length) v3c)).toArray] (some 102) rfl (xc_b fun ww hf => yiConnOk_c ((pump d2a d2b).1) (.slice v3a ((pump d2a d2b).1.r.held.length) v3c) ww (Own.sl (hf _ m2)) (by assumption) (by omega)) ?_
 intro _
 refine kRD 1 [3,4,5,6,9,10,103] [(103,.v (.bool (conOk ((pump d2a d2b).1))))] ?_
 refine kP 103 (conOk ((pump d2a d2b).1)) (fun h21 => ?_) (fun h21 => ?_)
 refine kCD 3 [3,4,5,6,9,10,103,104,106] [(103,.v (.bool true)),(104,.v (.int .i64 nx)),(106,.v (.agg (sndL (pump d2a d2b).1.s).toArray))] 17 [.agg (sndL (pump d2a d2b).1.s).toArray] (some 107) rfl (xc_b fun ww hf => sNextOf_c ((pump d2a d2b).1.s.una) ((pump d2a d2b).1.s.data) ((pump d2a d2b).1.s.sent) ((pump d2a d2b).1.s.fin) ((pump d2a d2b).1.s.finSent) ((pump d2a d2b).1.s.done) ww ) ?_
 intro _
 refine kRD 3 [3,4,5,6,9,10,110] [(110,.v (.bool (nx == (nextOf ((pump d2a d2b).1.s)))))] ?_
 refine kP 110 (nx == (nextOf ((pump d2a d2b).1.s))) (fun h22 => ?_) (fun h22 => ?_)
 have h22p := eqT h22
 refine kOD 10 [3,4,6,9,110,111,114,117,120] [(110,.v (.bool true)),(111,.v (.string al)),(114,.v (.string d2a.s.data)),(117,.v (.int .i64 d2a.s.sent)),(120,.v (.int .i64 ((pump d2a d2b).1.s.sent)))] (.string (d2a.s.data.extract (d2a.s.sent).toNat ((pump d2a d2b).1.s.sent).toNat)) rfl (fun _ _ _ ww hr => act_slS (d2a.s.sent) ((pump d2a d2b).1.s.sent) hr.1 rfl (by kernel_rfl) rfl rfl rfl (by omega) (by omega) (by omega) ww) ?_
 refine kRS 3 [3,4,6,9,124] [(3,.p 0 0),(4,.v (.int .i64 d2b)),(6,.v (.slice v4a ((pump d2a d2b).2.length) v4c)),(9,.v (.int .i64 nx)),(124,.v (.bool (al.toList == (d2a.s.data.extract (d2a.s.sent).toNat ((pump d2a d2b).1.s.sent).toNat).toList)))] ?_
 refine kP 124 (al.toList == (d2a.s.data.extract (d2a.s.sent).toNat ((pump d2a d2b).1.s.sent).toNat).toList) (fun h23 => ?_) (fun h23 => ?_)
 have h23p := h23; simp only [beq_iff_eq,bne_iff_ne,beq_eq_false_iff_ne,bne_eq_false_iff_eq,ne_eq,toList_lit0] at h23p
 refine kRD 4 [3,4,9,124,128] [(124,.v (.bool true)),(128,.v (.bool ((((pump d2a d2b).2.length : Nat) : Int) == 0)))] ?_
 refine kP 128 ((((pump d2a d2b).2.length : Nat) : Int) == 0) (fun h24 => ?_) (fun h24 => ?_)
 have h24p := eqT h24
 refine kES [2] [(2,.v (.bool true))] ?_
 refine kR ?_
 exact ⟨[.bool true],by kernel_rfl,fun w' hb hf => ⟨rfl,hb⟩⟩
 have h24p := eqF h24
 refine kCD 4 [4,124,128,129,132] [(128,.v (.bool false)),(129,.v (.int .i64 nx)),(132,.v (.int .i64 d2a.s.una))] 16 [.int .i64 nx,.int .i64 d2a.s.una] (some 133) rfl (xc_s fun ww hf => iSeqDiff_c nx d2a.s.una ww ) ?_
 intro _
 refine kES [2] [(2,.v (.bool (decide ((seqDiff nx d2a.s.una) ≤ d2b))))] ?_
 refine kR ?_
 exact ⟨[.bool (decide ((seqDiff nx d2a.s.una) ≤ d2b))],by kernel_rfl,fun w' hb hf => ⟨ret_bool (show (decide ((seqDiff nx d2a.s.una) ≤ d2b) : Bool) = true from by first | (rw [pump_no _ hno]; exact sameConn_self _) | (rcases hun with e | e <;> first | (exfalso; simp_all; done) | (rw [hnx]; exact decide_eq_true e))),hb⟩⟩
 have h23p := h23; simp only [beq_iff_eq,bne_iff_ne,beq_eq_false_iff_ne,bne_eq_false_iff_eq,ne_eq,toList_lit0] at h23p
 exfalso; rw [hst,hal] at h23; simp at h23
 have h22p := eqF h22
 exfalso; rw [hst,hnx] at h22; simp at h22
 exfalso; rw [pump_ok _ hok] at h21; cases h21

set_option maxRecDepth 100000 in
theorem fnPump_lifted (os : Os) (started : os.Started) (H : Type) (enc : TypeId × Value → H) :
    ReturnsInHanded {} Tryz.checked os 7 .any (Rows.fnPumpSpec.pre6 enc Tryz.prog Tryz.f7 Rows.fnPumpRow.domain false) (Rows.fnPumpSpec.post enc Tryz.prog Tryz.f7 false true false false) := by
  refine returnsInHanded_of_change (C := Tryz.checked) Tryz.ownK started (by kernel_rfl) Tryz.func7
    (ChangeSpec.witness6 (enc := enc) (C := Tryz.checked) false ⟨#[], #[.slice none 0 0], []⟩ 8 (by kernel_rfl) (by kernel_rfl) (by kernel_rfl) (by kernel_rfl)) ?_
  intro W base args ds gs before hval0 hW hcnd _
  have hval : ∀ (j : Nat) t v, Tryz.f7.params[j]? = some t → args[j]? = some v → Value.okWide Tryz.prog W .any base t v := hval0
  have hW' := hW
  obtain ⟨p, q, hA0, hV, rfl, hfz, hnd⟩ := hW
  have hA : DataW.TrodAll enc Tryz.prog W 0 (fun _ => true) true Tryz.f7.params.toList args.toList ds p := hA0
  rw [Tryz.params7] at hA hval
  obtain ⟨v0, vs0, d0, ds0, p0, q0, hargs, rfl, rfl, h0, r0⟩ := trodAll_cons hA
  obtain ⟨rfl, rfl, rfl⟩ := trodAll_nil r0
  obtain rfl : args = #[v0] := by cases args; simp_all
  obtain ⟨rfl, rfl⟩ := trodVars_none hV
  clear hA0 hval0
  have g0 := h0
  obtain ⟨l0, L0⟩ := openS_byte (hval 0 _ v0 rfl rfl) g0
  refine (fnPump_walk l0 v0 W L0).mono fun e W' ⟨he, hb⟩ => ?_
  subst he
  have hlt : ∀ x ∈ (p0 ++ ([])) ++ [], x.block < W.heap.size := fun x hx => hW'.lt x hx
  refine ⟨_, rfl, post_of_below (pa := (p0 ++ ([]))) (pv := []) hW' (fun _ _ _ => trodAll_cons_mk (shut_bool Tryz.underlying4 _) trodAll_mk0) (fun sp hsp => trodAll_cons_mk (WideElems.Trod_stays Tryz.laidOut (by kernel_rfl) (of_decide_eq_true (by kernel_rfl)) h0 (fun x hx => hb.same (hlt x (List.mem_append_left _ (List.mem_append_left _ hx)))) (fun x hx => hsp x (List.mem_append_left _ (List.mem_append_left _ hx)))) (trodAll_mk0)) (fun _ _ => rfl) rfl hb (ok_one (by kernel_rfl) rfl (okWide_bool_mk Tryz.underlying4 _))⟩

theorem fnPump_over : Rows.fnPumpRow.holds Tryz.pinned (OpenSpec.ofChange Rows.fnPumpSpec) :=
  OpenClaim.holds_of_wide 7 Tryz.f7 rfl rfl rfl rfl rfl rfl rfl ⟨rfl, rfl, rfl, rfl, rfl⟩ rfl rfl rfl rfl rfl (by kernel_rfl) Tryz.func7 (by kernel_rfl)
    (of_decide_eq_true (by kernel_rfl)) (by unfold Func.isWrapper; first | (rw [if_pos (by decide +kernel)]; kernel_rfl) | (rw [if_neg (by decide +kernel)]; exact ⟨rfl, rfl⟩))
    (fun os started H enc _ => fnPump_lifted os started H enc)

theorem fnPump_holds : Rows.FnPumpSaid := fnPump_over
#print axioms fnPump_holds
end Go.Proofs.YtnmmhbhdcplfmaaGreat
