/- The law FnAgain holds: for every argument the program's function answers true and leaves its arguments as they were. Conditions: none beyond the given row's. -/
import Derived.Test.YtnmmhbhdcplfmaaGreatZ4
import Derived.Test.YtnmmhbhdcplfmaaGreatG3
import Derived.Test.YtnmmhbhdcplfmaaGreatG2
namespace Go.Proofs.YtnmmhbhdcplfmaaGreat
open Go.RowKit Go.ChangeShapes Go.WideShapes Go.ChangeAt
set_option linter.unusedVariables false
set_option linter.unusedSimpArgs false

set_option maxRecDepth 100000 in
set_option maxHeartbeats 2000000 in
theorem fnAgain_walk (code : List Int) (codeV : Value) (w : World) (hl_codeV : Sl w codeV 1 (code.map byteRow)) : Calls Tryz.prog 9 #[codeV] w fun e w' => e = .returned (.bool true) ∧ Below w.heap.size w w' := by
 obtain ⟨Ac,Cc,hvc⟩ := hl_codeV.form
 rw [List.length_map] at hvc; subst hvc
 have hnc := hl_codeV.len; rw [List.length_map] at hnc
 have hqc := Sl.capLe hl_codeV
 refine x_calls (args := [.slice Ac code.length Cc]) (fn := Tryz.f9) [slF (.slice Ac code.length Cc) 1 (code.map byteRow)] Tryz.func9 rfl Tryz.ntmps9 rfl (by simp only [List.mem_cons,List.not_mem_nil,or_false,forall_eq_or_imp,forall_eq]; exact ⟨rfl,hl_codeV⟩) ?_
 refine kQ ?_
 refine kEF [0] ⟨[(0,.v (.slice Ac code.length Cc))],[],[],[slF (.slice Ac code.length Cc) 1 (code.map byteRow)]⟩ ?_
 refine kS ?_
 refine kQ ?_
 refine kCD 1 [0,10] [(10,.v (.slice Ac code.length Cc))] 10 [.slice Ac code.length Cc] (some 11) rfl (xc_b fun ww hf => big_c code Ac Cc ww (hf _ m0)) ?_
 intro _
 refine kED [0,11] [] ?_
 refine kC (decide (((code.length : Nat) : Int) > 1048576)) (fun h1 => ?_) (fun h1 => ?_)
 have h1p := of_decide_eq_true h1
 refine kQ ?_
 refine kES [2] [(2,.v (.bool true))] ?_
 refine kR ?_
 exact ⟨[.bool true],by kernel_rfl,fun w' hb hf => ⟨rfl,hb⟩⟩
 have h1p := of_decide_eq_false h1
 have hbig : code.length ≤ 1048576 := by simp at h1; omega
 refine kK ?_
 refine kQ ?_
 refine kCS 1 [12] [(12,.v (.slice Ac code.length Cc))] 41 [.slice Ac code.length Cc] (some 13) rfl (xc_newF (α := {y : (Con) × (Option Addr × Nat) // RB 4 y.1.r}) (F := fun y => .agg #[.int .i64 y.1.1.t.ip,.int .i64 y.1.1.t.port,.int .i64 y.1.1.t.my,.int .i64 y.1.1.state,.int .i64 y.1.1.s.una,.string y.1.1.s.data,.int .i64 y.1.1.s.sent,.bool y.1.1.s.fin,.bool y.1.1.s.finSent,.bool y.1.1.s.done,.int .i64 y.1.1.r.next,.string y.1.1.r.data,.slice y.1.2.1 y.1.1.r.held.length y.1.2.2,.int .i64 y.1.1.r.fin,.bool y.1.1.r.done,.int .i64 y.1.1.window,.int .i64 y.1.1.most,.int .i64 y.1.1.o.mss,.int .i64 y.1.1.o.scale,.bool y.1.1.o.sack,.bool y.1.1.o.stamp,.int .i64 y.1.1.o.val,.int .i64 y.1.1.o.echo,.int .i64 y.1.1.timer,.int .i64 y.1.1.tries]) (v := fun y => .slice y.1.2.1 y.1.1.r.held.length y.1.2.2) (rs := fun y => y.1.1.r.held.map pceCells) fun ww hw hf => drawTickConn_c code Ac Cc ww (hf _ m0) (by omega)) ?_
 rintro ⟨⟨d2a,d2A,d2C⟩,hd2⟩
 dsimp only at hd2
 have hkn := hd2.kn; have hm := hd2.hm; have hsz := hd2.sz
 have hrd1 := hd2.1; have hrd2 := hd2.2.2
 refine kEA [3] [(3,.p 0 0)] [⟨34,conL d2a (.slice d2A d2a.r.held.length d2C)⟩] ?_
 refine kQ ?_
 refine kCD 1 [3,15] [(15,.v (.agg (conL d2a (.slice d2A d2a.r.held.length d2C)).toArray))] 42 [.agg (conL d2a (.slice d2A d2a.r.held.length d2C)).toArray] (some 16) rfl (xc_r fun ww hw hf => yiTickConn_c d2a (.slice d2A d2a.r.held.length d2C) ww (hf _ m0).1 (by assumption) (by assumption) (by omega) w.heap.size hw) ?_
 rintro ⟨⟨v3a,v3c⟩,⟨v4a,v4c⟩⟩
 have hbd5 : (tickConn d2a).1.r.held.length ≤ 1048576 ∧ (tickConn d2a).2.length ≤ 49 := tickConn_bd _  (by omega)
 have hbd5a := hbd5.1; have hbd5b := hbd5.2
 have hrb6 := RB.tick (hd2); have hrb6a := hrb6.kn; have hrb6b := hrb6.hm; have hrb6c := hrb6.sz
 refine kEA [3,4,5] [(4,.p 1 0),(5,.v (.slice v4a ((tickConn d2a).2.length) v4c))] [⟨34,conL (tickConn d2a).1 (.slice v3a ((tickConn d2a).1.r.held.length) v3c)⟩] ?_
 refine kQ ?_
 refine kCD 1 [3,4,5,20] [(20,.v (.agg (conL d2a (.slice d2A d2a.r.held.length d2C)).toArray))] 43 [.agg (conL d2a (.slice d2A d2a.r.held.length d2C)).toArray] (some 21) rfl (xc_r fun ww hw hf => ysTickConn_c d2a (.slice d2A d2a.r.held.length d2C) ww (hf _ m2).1 (by assumption) (by assumption) (by omega) w.heap.size hw) ?_
 rintro ⟨⟨v7a,v7c⟩,⟨v8a,v8c⟩⟩
 refine kEA [3,4,5,7] [(7,.v (.slice v8a ((tickConn d2a).2.length) v8c))] [⟨34,conL (tickConn d2a).1 (.slice v7a ((tickConn d2a).1.r.held.length) v7c)⟩] ?_
 refine kS ?_
 refine kQ ?_
 refine kCD 2 [3,4,5,24,25] [(24,.v (.slice v4a ((tickConn d2a).2.length) v4c)),(25,.v (.slice v8a ((tickConn d2a).2.length) v8c))] 22 [.slice v4a ((tickConn d2a).2.length) v4c,.slice v8a ((tickConn d2a).2.length) v8c] (some 26) rfl (xc_b fun ww hf => ysameSegments_c ((tickConn d2a).2) (.slice v4a ((tickConn d2a).2.length) v4c) ((tickConn d2a).2) (.slice v8a ((tickConn d2a).2.length) v8c) ww (Own.sl (hf _ m3)) (Own.sl (hf _ m1)) ) ?_
 intro _
 refine kED [3,4,5,27] [(27,.v (.bool (!(sameL segEq (tickConn d2a).2 (tickConn d2a).2))))] ?_
 refine kC (!(sameL segEq (tickConn d2a).2 (tickConn d2a).2)) (fun h9 => ?_) (fun h9 => ?_)
 have h9n := not_t h9
 exfalso; rw [sameSeg_self] at h9n; cases h9n
 have h9n := not_f h9
 refine kK ?_
 refine kS ?_
 refine kQ ?_
 refine kRD 4 [3,4,5,31] [(31,.v (.bool ((((tickConn d2a).2.length : Nat) : Int) == 0)))] ?_
 refine kP 31 ((((tickConn d2a).2.length : Nat) : Int) == 0) (fun h10 => ?_) (fun h10 => ?_)
 have h10p := eqT h10
 refine kED [3,4,5,35] [(35,.v (.bool true))] ?_
 refine kT ?_
 refine kQ ?_
 refine kES [2] [(2,.v (.bool true))] ?_
 refine kR ?_
 exact ⟨[.bool true],by kernel_rfl,fun w' hb hf => ⟨rfl,hb⟩⟩
 have h10p := eqF h10
 have hl0 : 0 < (tickConn d2a).2.length := by simp at h10; first | omega | (exact List.length_pos_iff.2 h10)
 refine kED [3,4,5,35] [(35,.v (.bool (((tickConn d2a).1.state) == 8)))] ?_
 refine kC (((tickConn d2a).1.state) == 8) (fun h11 => ?_) (fun h11 => ?_)
 have h11p := eqT h11
 refine kQ ?_
 refine kES [2] [(2,.v (.bool true))] ?_
 refine kR ?_
 exact ⟨[.bool true],by kernel_rfl,fun w' hb hf => ⟨rfl,hb⟩⟩
 have h11p := eqF h11
 have h8 : ¬ (tickConn d2a).1.state = 8 := by simpa using h11
 obtain ⟨hao,hal2,hda,hun,htr,hs0,hsd,hsu⟩ := tick_again hl0 h8
 have htb : 0 ≤ d2a.tries + 1 ∧ d2a.tries + 1 ≤ 3 := (conOk_iff.1 hao).2.1.2.2.2
 have hds : (again d2a).s.data.size = d2a.s.data.size := by rw [hsd]
 refine kK ?_
 refine kQ ?_
 refine kED [3,4,5,8] [(8,.v (.int .i64 0))] ?_
 refine kS ?_
 refine kQ ?_
 refine kES [3,4,5,8,9] [(3,.p 0 0),(4,.p 1 0),(5,.v (.slice v4a ((tickConn d2a).2.length) v4c)),(8,.v (.int .i64 0)),(9,.v (.int .i64 0))] ?_
 refine xw_block ?_
 refine xw_loopW (α := {x : Nat × Snd × Int // (fun (i : Nat) (s : Snd) (m : Int) => i ≤ (tickConn d2a).2.length ∧ PI (again d2a) (max 1 d2a.window) ((tickConn d2a).2) i s ∧ m = s.sent) x.1 x.2.1 x.2.2}) (fun x => (fun (i : Nat) (s : Snd) (m : Int) => (⟨[(3,.p 0 0),(4,.p 1 0),(5,.v (.slice v4a ((tickConn d2a).2.length) v4c)),(8,.v (.int .i64 m)),(9,.v (.int .i64 (i : Int)))],[⟨34,conL d2a (.slice d2A d2a.r.held.length d2C)⟩,⟨34,conL (tickConn d2a).1 (.slice v3a ((tickConn d2a).1.r.held.length) v3c)⟩,⟨34,conL (tickConn d2a).1 (.slice v7a ((tickConn d2a).1.r.held.length) v7c)⟩],[],[ownF w.heap.size (.slice v7a ((tickConn d2a).1.r.held.length) v7c) 2 ((tickConn d2a).1.r.held.map pceCells),ownF w.heap.size (.slice v8a ((tickConn d2a).2.length) v8c) 13 ((tickConn d2a).2.map segCells),ownF w.heap.size (.slice v3a ((tickConn d2a).1.r.held.length) v3c) 2 ((tickConn d2a).1.r.held.map pceCells),ownF w.heap.size (.slice v4a ((tickConn d2a).2.length) v4c) 13 ((tickConn d2a).2.map segCells),newF w.heap.size (.slice d2A d2a.r.held.length d2C) 2 (d2a.r.held.map pceCells),slF (.slice Ac code.length Cc) 1 (code.map byteRow)]⟩ : St)) x.1.1 x.1.2.1 x.1.2.2) (fun x => (fun (i : Nat) (s : Snd) (m : Int) => (tickConn d2a).2.length - i) x.1.1 x.1.2.1 x.1.2.2) ⟨(0,(again d2a).s,0),⟨Nat.zero_le _,(by rw [hal2]; exact PI.start hao),hs0.symm⟩⟩ (kF 3 0 [3,4,5,8,9]) ?_
 rintro ⟨⟨i,s,m⟩,hi,hpi,hmm⟩
 try dsimp only
 try dsimp only at hi hpi hmm
 refine kS ?_
 refine kQ ?_
 refine kED [3,4,5,8,9,39] [(39,.v (.bool (decide ((i : Int) < (((tickConn d2a).2.length : Nat) : Int)))))] ?_
 refine kC (decide ((i : Int) < (((tickConn d2a).2.length : Nat) : Int))) (fun h12 => ?_) (fun h12 => ?_)
 have h12p := of_decide_eq_true h12
 have hlt : i < (tickConn d2a).2.length := by simpa using h12
 obtain ⟨x,hx⟩ : ∃ x,((tickConn d2a).2)[i]? = some x := ⟨_,List.getElem?_eq_getElem hlt⟩
 obtain ⟨hp1,hseq,hack,hsok,hnl,hbody,hle,hn2,hne⟩ := hpi.step hao hx
 have hb0 := hpi.bd hao; have hb1 := hp1.bd hao
 have hsq : x.seq = seqAdd d2a.s.una m := by rw [hseq,hne,hpi.una,hsu,hmm]
 have hbe : x.body = d2a.s.data.extract m.toNat (m + (x.body.size : Int)).toNat := by rw [hmm,← hn2,← hsd,← hpi.data]; exact hbody
 refine kK ?_
 refine kS ?_
 refine xw_block ?_
 refine kS ?_
 refine kS ?_
 refine xws_start ?_
 refine xws_row (K := 13) (j := i) [.int .i64 x.src,.int .i64 x.dst,.int .i64 x.seq,.int .i64 x.ack,.int .i64 x.flags,.int .i64 x.window,.int .i64 x.o.mss,.int .i64 x.o.scale,.bool x.o.sack,.bool x.o.stamp,.int .i64 x.o.val,.int .i64 x.o.echo,.string x.body] (ownF w.heap.size (.slice v4a ((tickConn d2a).2.length) v4c) 13 ((tickConn d2a).2.map segCells)) (fun _ _ h => h) (by simp) (fun w h => Own.sl h) (fun b h => h) (by simp only [List.getElem?_map,hx]; rfl) (fun bq13 offq13 hAq13 => ?_)
 refine xws_row (K := 13) (j := i) [.int .i64 x.src,.int .i64 x.dst,.int .i64 x.seq,.int .i64 x.ack,.int .i64 x.flags,.int .i64 x.window,.int .i64 x.o.mss,.int .i64 x.o.scale,.bool x.o.sack,.bool x.o.stamp,.int .i64 x.o.val,.int .i64 x.o.echo,.string x.body] (ownF w.heap.size (.slice v4a ((tickConn d2a).2.length) v4c) 13 ((tickConn d2a).2.map segCells)) (fun _ _ h => h) (by simp) (fun w h => Own.sl h) (fun b h => h) (by simp only [List.getElem?_map,hx]; rfl) (fun bq14 offq14 hAq14 => ?_)
 refine xws_row (K := 13) (j := i) [.int .i64 x.src,.int .i64 x.dst,.int .i64 x.seq,.int .i64 x.ack,.int .i64 x.flags,.int .i64 x.window,.int .i64 x.o.mss,.int .i64 x.o.scale,.bool x.o.sack,.bool x.o.stamp,.int .i64 x.o.val,.int .i64 x.o.echo,.string x.body] (ownF w.heap.size (.slice v4a ((tickConn d2a).2.length) v4c) 13 ((tickConn d2a).2.map segCells)) (fun _ _ h => h) (by simp) (fun w h => Own.sl h) (fun b h => h) (by simp only [List.getElem?_map,hx]; rfl) (fun bq15 offq15 hAq15 => ?_)
 refine xws_regionE [] (by kernel_rfl) (fun ρ σ hq16 => ?_)
 refine kTS [0,1,5,6,7,8] [50,49,43,42,3,4,5,8,9] 26 [(50,.v (.int .i64 m)),(49,.v (.int .i64 d2a.s.una)),(43,.v (.int .i64 (i : Int))),(42,.v (.slice v4a ((tickConn d2a).2.length) v4c)),(3,.p 0 0),(4,.p 1 0),(5,.v (.slice v4a ((tickConn d2a).2.length) v4c)),(8,.v (.int .i64 m)),(9,.v (.int .i64 (i : Int)))] ?_
 refine xe_takeI (kd := .i64) (T := 46) (e := 36) (K := 13) (j := i) (A := v4a) (len := (tickConn d2a).2.length) (cap := v4c) 2 0 _ rfl (by kernel_rfl) (by kernel_rfl) (by kernel_rfl) (fun _ _ h => h) (by kernel_rfl) rfl rfl (by kernel_rfl) (by kernel_rfl) (by kernel_rfl) (by kernel_rfl) hlt hAq13 hq16.1.1.2 (by kernel_rfl) rfl ?_
 refine kTS [3,4] [46,50,49,3,4,5,8,9] 23 [(46,.v (.int .i64 x.seq)),(50,.v (.int .i64 m)),(49,.v (.int .i64 d2a.s.una)),(3,.p 0 0),(4,.p 1 0),(5,.v (.slice v4a ((tickConn d2a).2.length) v4c)),(8,.v (.int .i64 m)),(9,.v (.int .i64 (i : Int)))] ?_
 refine kA [9] ?_
 refine kSC 9 39 [.int .i64 d2a.s.una,.int .i64 m] (some 51) rfl (xc_s fun ww hf => iSeqAdd_c d2a.s.una m ww ) ?_
 intro _
 refine kTS [10,11] [53,3,4,5,8,9] 20 [(53,.v (.bool (x.seq != (seqAdd d2a.s.una m)))),(3,.p 0 0),(4,.p 1 0),(5,.v (.slice v4a ((tickConn d2a).2.length) v4c)),(8,.v (.int .i64 m)),(9,.v (.int .i64 (i : Int)))] ?_
 refine kY 53 (x.seq != (seqAdd d2a.s.una m)) (fun h17 => ?_) (fun h17 => ?_)
 have h17p := neT h17
 exfalso; rw [hsq] at h17; simp at h17
 have h17p := neF h17
 refine kTS [12,13,17,18,19,20,21,22,23] [65,64,63,62,61,55,54,53,3,4,5,8,9] 11 [(65,.v (.int .i64 (i : Int))),(64,.v (.slice v4a ((tickConn d2a).2.length) v4c)),(63,.v (.int .i64 m)),(62,.v (.int .i64 m)),(61,.v (.string d2a.s.data)),(55,.v (.int .i64 (i : Int))),(54,.v (.slice v4a ((tickConn d2a).2.length) v4c)),(53,.v (.bool false)),(3,.p 0 0),(4,.p 1 0),(5,.v (.slice v4a ((tickConn d2a).2.length) v4c)),(8,.v (.int .i64 m)),(9,.v (.int .i64 (i : Int)))] ?_
 refine xe_takeI (kd := .i64) (T := 46) (e := 36) (K := 13) (j := i) (A := v4a) (len := (tickConn d2a).2.length) (cap := v4c) 14 1 _ rfl (by kernel_rfl) (by kernel_rfl) (by kernel_rfl) (fun _ _ h => h) (by kernel_rfl) rfl rfl (by kernel_rfl) (by kernel_rfl) (by kernel_rfl) (by kernel_rfl) hlt hAq14 hq16.1.2 (by kernel_rfl) rfl ?_
 refine kTS [15,16] [58,65,64,63,62,61,53,3,4,5,8,9] 8 [(58,.v (.string x.body)),(65,.v (.int .i64 (i : Int))),(64,.v (.slice v4a ((tickConn d2a).2.length) v4c)),(63,.v (.int .i64 m)),(62,.v (.int .i64 m)),(61,.v (.string d2a.s.data)),(53,.v (.bool false)),(3,.p 0 0),(4,.p 1 0),(5,.v (.slice v4a ((tickConn d2a).2.length) v4c)),(8,.v (.int .i64 m)),(9,.v (.int .i64 (i : Int)))] ?_
 refine xe_takeI (kd := .i64) (T := 46) (e := 36) (K := 13) (j := i) (A := v4a) (len := (tickConn d2a).2.length) (cap := v4c) 24 2 _ rfl (by kernel_rfl) (by kernel_rfl) (by kernel_rfl) (fun _ _ h => h) (by kernel_rfl) rfl rfl (by kernel_rfl) (by kernel_rfl) (by kernel_rfl) (by kernel_rfl) hlt hAq15 hq16.2 (by kernel_rfl) rfl ?_
 refine kTS [25,26,27,28] [70,58,62,61,53,3,4,5,8,9] 3 [(70,.v (.int .i64 (IntKind.i64.wrap (m + (x.body.size : Int))))),(58,.v (.string x.body)),(62,.v (.int .i64 m)),(61,.v (.string d2a.s.data)),(53,.v (.bool false)),(3,.p 0 0),(4,.p 1 0),(5,.v (.slice v4a ((tickConn d2a).2.length) v4c)),(8,.v (.int .i64 m)),(9,.v (.int .i64 (i : Int)))] ?_
 refine xe_eqS (t := [(70,.v (.int .i64 (IntKind.i64.wrap (m + (x.body.size : Int))))),(58,.v (.string x.body)),(62,.v (.int .i64 m)),(61,.v (.string d2a.s.data)),(53,.v (.bool false)),(3,.p 0 0),(4,.p 1 0),(5,.v (.slice v4a ((tickConn d2a).2.length) v4c)),(8,.v (.int .i64 m)),(9,.v (.int .i64 (i : Int)))]) (t' := [(70,.v (.int .i64 (m + (x.body.size : Int)))),(58,.v (.string x.body)),(62,.v (.int .i64 m)),(61,.v (.string d2a.s.data)),(53,.v (.bool false)),(3,.p 0 0),(4,.p 1 0),(5,.v (.slice v4a ((tickConn d2a).2.length) v4c)),(8,.v (.int .i64 m)),(9,.v (.int .i64 (i : Int)))]) (by rw [show (IntKind.i64.wrap (m + (x.body.size : Int))) = (m + (x.body.size : Int)) from wrap_id (by omega) (by omega)]) ?_
 refine kX 29 (.string (d2a.s.data.extract (m).toNat (m + (x.body.size : Int)).toNat)) rfl (fun _ _ ww hA => act_slS (m) (m + (x.body.size : Int)) hA rfl (by kernel_rfl) rfl rfl rfl (by omega) (by omega) (by omega) ww) ?_
 refine kTS [30,31] [73,3,4,5,8,9] 0 [(73,.v (.bool (!(x.body.toList == (d2a.s.data.extract (m).toNat (m + (x.body.size : Int)).toNat).toList)))),(3,.p 0 0),(4,.p 1 0),(5,.v (.slice v4a ((tickConn d2a).2.length) v4c)),(8,.v (.int .i64 m)),(9,.v (.int .i64 (i : Int)))] ?_
 refine kZ ?_
 refine kC (!(x.body.toList == (d2a.s.data.extract (m).toNat (m + (x.body.size : Int)).toNat).toList)) (fun h18 => ?_) (fun h18 => ?_)
 have h18n := not_t h18
 have h18np := h18n; simp only [beq_iff_eq,bne_iff_ne,beq_eq_false_iff_ne,bne_eq_false_iff_eq,ne_eq,toList_lit0] at h18np
 exfalso; rw [← hbe] at h18n; simp at h18n
 have h18n := not_f h18
 have h18np := h18n; simp only [beq_iff_eq,bne_iff_ne,beq_eq_false_iff_ne,bne_eq_false_iff_eq,ne_eq,toList_lit0] at h18np
 refine kK ?_
 refine kG ?_
 refine xl_indexD (kd := .i64) (T := 46) (e := 36) (K := 13) 3 [3,4,5,8,9,74,75,76] [(74,.v (.int .i64 m)),(75,.v (.slice v4a ((tickConn d2a).2.length) v4c)),(76,.v (.int .i64 (i : Int)))] i [.int .i64 x.src,.int .i64 x.dst,.int .i64 x.seq,.int .i64 x.ack,.int .i64 x.flags,.int .i64 x.window,.int .i64 x.o.mss,.int .i64 x.o.scale,.bool x.o.sack,.bool x.o.stamp,.int .i64 x.o.val,.int .i64 x.o.echo,.string x.body] (ownF w.heap.size (.slice v4a ((tickConn d2a).2.length) v4c) 13 ((tickConn d2a).2.map segCells)) (by kernel_rfl) rfl (by kernel_rfl) rfl rfl (by kernel_rfl) (by kernel_rfl) (by kernel_rfl) (by kernel_rfl) hlt (by simp) (fun w h => Own.sl h) (fun b h => h) (by simp only [List.getElem?_map,hx]; rfl) ?_
 refine kRS 5 [3,4,5,8,9] [(3,.p 0 0),(4,.p 1 0),(5,.v (.slice v4a ((tickConn d2a).2.length) v4c)),(8,.v (.int .i64 (IntKind.i64.wrap (m + (x.body.size : Int))))),(9,.v (.int .i64 (i : Int)))] ?_
 refine xl_eqS (t' := [(3,.p 0 0),(4,.p 1 0),(5,.v (.slice v4a ((tickConn d2a).2.length) v4c)),(8,.v (.int .i64 (m + (x.body.size : Int)))),(9,.v (.int .i64 (i : Int)))]) (by rw [show (IntKind.i64.wrap (m + (x.body.size : Int))) = (m + (x.body.size : Int)) from wrap_id (by omega) (by omega)]) ?_
 refine kED [3,4,5,8,9] [] ?_
 refine kG ?_
 refine kRS 3 [3,4,5,8,9] [(3,.p 0 0),(4,.p 1 0),(5,.v (.slice v4a ((tickConn d2a).2.length) v4c)),(8,.v (.int .i64 (m + (x.body.size : Int)))),(9,.v (.int .i64 (IntKind.i64.wrap ((i : Int) + 1))))] ?_
 refine xl_eqS (t' := [(3,.p 0 0),(4,.p 1 0),(5,.v (.slice v4a ((tickConn d2a).2.length) v4c)),(8,.v (.int .i64 (m + (x.body.size : Int)))),(9,.v (.int .i64 ((i : Int) + 1)))]) (by rw [show (IntKind.i64.wrap ((i : Int) + 1)) = ((i : Int) + 1) from wrap_id (by omega) (by omega)]) ?_
 refine kED [3,4,5,8,9] [] ?_
 exact ⟨⟨(i + 1,(sentG (again d2a) (max 1 d2a.window) s),m + (x.body.size : Int)),⟨(by (try dsimp only); omega),hp1,(by rw [hmm]; exact hn2.symm)⟩⟩,kF 3 0 [3,4,5,8,9],by show (fun (i : Nat) (s : Snd) (m : Int) => (tickConn d2a).2.length - i) (i + 1) (sentG (again d2a) (max 1 d2a.window) s) (m + (x.body.size : Int)) < (tickConn d2a).2.length - i; (dsimp only; omega)⟩
 have h12p := of_decide_eq_false h12
 have hge : i = (tickConn d2a).2.length := by simp at h12; omega
 refine xw_exit ?_
 refine kQ ?_
 refine kRD 8 [3,4,89] [(89,.v (.bool (((tickConn d2a).1.s.data).toList == d2a.s.data.toList)))] ?_
 refine kP 89 (((tickConn d2a).1.s.data).toList == d2a.s.data.toList) (fun h19 => ?_) (fun h19 => ?_)
 have h19p := h19; simp only [beq_iff_eq,bne_iff_ne,beq_eq_false_iff_ne,bne_eq_false_iff_eq,ne_eq,toList_lit0] at h19p
 refine kRD 9 [3,4,98] [(98,.v (.bool (((tickConn d2a).1.s.una) == d2a.s.una)))] ?_
 refine kP 98 (((tickConn d2a).1.s.una) == d2a.s.una) (fun h20 => ?_) (fun h20 => ?_)
 have h20p := eqT h20
 refine kRS 8 [2] [(2,.v (.bool (((tickConn d2a).1.tries) == (IntKind.i64.wrap (d2a.tries + 1)))))] ?_
 refine xl_eqS (t' := [(2,.v (.bool (((tickConn d2a).1.tries) == (d2a.tries + 1))))]) (by rw [show (IntKind.i64.wrap (d2a.tries + 1)) = (d2a.tries + 1) from wrap_id (by omega) (by omega)]) ?_
 refine kED [2] [] ?_
 refine kR ?_
 exact ⟨[.bool (((tickConn d2a).1.tries) == (d2a.tries + 1))],by kernel_rfl,fun w' hb hf => ⟨ret_bool (show (((tickConn d2a).1.tries) == (d2a.tries + 1) : Bool) = true from by first | (rw [htr]; exact beq_self_eq_true _)),hb⟩⟩
 have h20p := eqF h20
 exfalso; rw [hun] at h20; simp at h20
 have h19p := h19; simp only [beq_iff_eq,bne_iff_ne,beq_eq_false_iff_ne,bne_eq_false_iff_eq,ne_eq,toList_lit0] at h19p
 exfalso; rw [hda] at h19; simp at h19

set_option maxRecDepth 100000 in
theorem fnAgain_lifted (os : Os) (started : os.Started) (H : Type) (enc : TypeId × Value → H) :
    ReturnsInHanded {} Tryz.checked os 9 .any (Rows.fnAgainSpec.pre6 enc Tryz.prog Tryz.f9 Rows.fnAgainRow.domain false) (Rows.fnAgainSpec.post enc Tryz.prog Tryz.f9 false true false false) := by
  refine returnsInHanded_of_change (C := Tryz.checked) Tryz.ownK started (by kernel_rfl) Tryz.func9
    (ChangeSpec.witness6 (enc := enc) (C := Tryz.checked) false ⟨#[], #[.slice none 0 0], []⟩ 8 (by kernel_rfl) (by kernel_rfl) (by kernel_rfl) (by kernel_rfl)) ?_
  intro W base args ds gs before hval0 hW hcnd _
  have hval : ∀ (j : Nat) t v, Tryz.f9.params[j]? = some t → args[j]? = some v → Value.okWide Tryz.prog W .any base t v := hval0
  have hW' := hW
  obtain ⟨p, q, hA0, hV, rfl, hfz, hnd⟩ := hW
  have hA : DataW.TrodAll enc Tryz.prog W 0 (fun _ => true) true Tryz.f9.params.toList args.toList ds p := hA0
  rw [Tryz.params9] at hA hval
  obtain ⟨v0, vs0, d0, ds0, p0, q0, hargs, rfl, rfl, h0, r0⟩ := trodAll_cons hA
  obtain ⟨rfl, rfl, rfl⟩ := trodAll_nil r0
  obtain rfl : args = #[v0] := by cases args; simp_all
  obtain ⟨rfl, rfl⟩ := trodVars_none hV
  clear hA0 hval0
  have g0 := h0
  obtain ⟨l0, L0⟩ := openS_byte (hval 0 _ v0 rfl rfl) g0
  refine (fnAgain_walk l0 v0 W L0).mono fun e W' ⟨he, hb⟩ => ?_
  subst he
  have hlt : ∀ x ∈ (p0 ++ ([])) ++ [], x.block < W.heap.size := fun x hx => hW'.lt x hx
  refine ⟨_, rfl, post_of_below (pa := (p0 ++ ([]))) (pv := []) hW' (fun _ _ _ => trodAll_cons_mk (shut_bool Tryz.underlying4 _) trodAll_mk0) (fun sp hsp => trodAll_cons_mk (WideElems.Trod_stays Tryz.laidOut (by kernel_rfl) (of_decide_eq_true (by kernel_rfl)) h0 (fun x hx => hb.same (hlt x (List.mem_append_left _ (List.mem_append_left _ hx)))) (fun x hx => hsp x (List.mem_append_left _ (List.mem_append_left _ hx)))) (trodAll_mk0)) (fun _ _ => rfl) rfl hb (ok_one (by kernel_rfl) rfl (okWide_bool_mk Tryz.underlying4 _))⟩

theorem fnAgain_over : Rows.fnAgainRow.holds Tryz.pinned (OpenSpec.ofChange Rows.fnAgainSpec) :=
  OpenClaim.holds_of_wide 9 Tryz.f9 rfl rfl rfl rfl rfl rfl rfl ⟨rfl, rfl, rfl, rfl, rfl⟩ rfl rfl rfl rfl rfl (by kernel_rfl) Tryz.func9 (by kernel_rfl)
    (of_decide_eq_true (by kernel_rfl)) (by unfold Func.isWrapper; first | (rw [if_pos (by decide +kernel)]; kernel_rfl) | (rw [if_neg (by decide +kernel)]; exact ⟨rfl, rfl⟩))
    (fun os started H enc _ => fnAgain_lifted os started H enc)

theorem fnAgain_holds : Rows.FnAgainSaid := fnAgain_over
#print axioms fnAgain_holds
end Go.Proofs.YtnmmhbhdcplfmaaGreat
