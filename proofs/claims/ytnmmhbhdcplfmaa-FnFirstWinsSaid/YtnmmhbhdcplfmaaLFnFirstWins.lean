/- The law FnFirstWins holds: for every argument the program's function answers true and leaves its arguments as they were. Conditions: none beyond the given row's. -/
import Derived.Test.YtnmmhbhdcplfmaaZ2
import Derived.Test.YtnmmhbhdcplfmaaG3
import Derived.Test.YtnmmhbhdcplfmaaG2
namespace Go.Proofs.Ytnmmhbhdcplfmaa
open Go.RowKit Go.ChangeShapes Go.WideShapes Go.ChangeAt
set_option linter.unusedVariables false
set_option linter.unusedSimpArgs false

set_option maxRecDepth 100000 in
set_option maxHeartbeats 2000000 in
theorem fnFirstWins_walk (code : List Int) (codeV : Value) (w : World) (hl_codeV : Sl w codeV 1 (code.map byteRow)) : Calls Try.prog 7 #[codeV] w fun e w' => e = .returned (.bool true) ∧ Below w.heap.size w w' := by
 obtain ⟨Ac,Cc,hvc⟩ := hl_codeV.form
 rw [List.length_map] at hvc; subst hvc
 have hnc := hl_codeV.len; rw [List.length_map] at hnc
 have hqc := Sl.capLe hl_codeV
 refine x_calls (args := [.slice Ac code.length Cc]) (fn := Try.f7) [slF (.slice Ac code.length Cc) 1 (code.map byteRow)] Try.func7 rfl Try.ntmps7 rfl (by simp only [List.mem_cons,List.not_mem_nil,or_false,forall_eq_or_imp,forall_eq]; exact ⟨rfl,hl_codeV⟩) ?_
 refine kQ ?_
 refine kEF [0] ⟨[(0,.v (.slice Ac code.length Cc))],[],[],[slF (.slice Ac code.length Cc) 1 (code.map byteRow)]⟩ ?_
 refine kS ?_
 refine kQ ?_
 refine kCD 1 [0,11] [(11,.v (.slice Ac code.length Cc))] 8 [.slice Ac code.length Cc] (some 12) rfl (xc_b fun ww hf => big_c code Ac Cc ww (hf _ m0)) ?_
 intro _
 refine kED [0,12] [] ?_
 refine kC (decide (((code.length : Nat) : Int) > 1048576)) (fun h1 => ?_) (fun h1 => ?_)
 have h1p := of_decide_eq_true h1
 refine kQ ?_
 refine kES [2] [(2,.v (.bool true))] ?_
 refine kR ?_
 exact ⟨[.bool true],by kernel_rfl,fun w' hb hf => ⟨rfl,hb⟩⟩
 have h1p := of_decide_eq_false h1
 have hbig : code.length ≤ 1048576 := by simp at h1; omega
 refine kK ?_
 refine kQ ?_
 refine kCS 1 [14] [(14,.v (.slice Ac code.length Cc))] 29 [.slice Ac code.length Cc] (some 15) rfl (xc_newF (α := {y : (Rcv × Int × ByteArray × Bool) × (Option Addr × Nat) // RB 4 y.1.1 ∧ y.1.2.2.1.size ≤ 4096}) (F := fun y => .tuple #[.agg #[.int .i64 y.1.1.1.next,.string y.1.1.1.data,.slice y.1.2.1 y.1.1.1.held.length y.1.2.2,.int .i64 y.1.1.1.fin,.bool y.1.1.1.done],.int .i64 y.1.1.2.1,.string y.1.1.2.2.1,.bool y.1.1.2.2.2]) (v := fun y => .slice y.1.2.1 y.1.1.1.held.length y.1.2.2) (rs := fun y => y.1.1.1.held.map pceCells) fun ww hw hf => drawArrived_c code Ac Cc ww (hf _ m0) (by omega)) ?_
 rintro ⟨⟨⟨d2a,d2b,d2c,d2d⟩,d2A,d2C⟩,hd2⟩
 dsimp only at hd2
 have hkn := hd2.1.kn; have hm := hd2.1.hm; have hsz := hd2.1.sz
 have hrd1 := hd2.1.1; have hrd2 := hd2.1.2.2
 have hts := hd2.2
 refine kEA [3,4,5,6] [(3,.p 0 0),(4,.v (.int .i64 d2b)),(5,.v (.string d2c)),(6,.v (.bool d2d))] [⟨26,rcvL d2a (.slice d2A d2a.held.length d2C)⟩] ?_
 refine kQ ?_
 refine kCD 3 [3,4,5,6,20,21,22] [(20,.v (.agg (rcvL d2a (.slice d2A d2a.held.length d2C)).toArray)),(21,.v (.int .i64 d2b)),(22,.v (.string d2c))] 30 [.agg (rcvL d2a (.slice d2A d2a.held.length d2C)).toArray,.int .i64 d2b,.string d2c,.bool false] (some 23) rfl (xc_r fun ww hw hf => yiArrived_c d2a (.slice d2A d2a.held.length d2C) d2b d2c false ww (hf _ m0).1 (by assumption) (by assumption) (by omega) (by omega) w.heap.size hw) ?_
 rintro ⟨v3a,v3c⟩
 have hra4 := RB.arr (hd2.1) (by omega) d2b d2c false; have hra4a := hra4.kn; have hra4b := hra4.hm; have hra4c := hra4.sz
 refine kEA [3,4,5,6,7] [(7,.p 1 0)] [⟨26,rcvL (arrived d2a d2b d2c false) (.slice v3a ((arrived d2a d2b d2c false).held.length) v3c)⟩] ?_
 refine kS ?_
 refine kS ?_
 refine xe_region [] (by kernel_rfl) (fun ρ σ => ?_)
 refine kTS [0,1,2,3] [27,26,25,24,3,4,5,6,7] 3 [(27,.v (.string d2c)),(26,.v (.int .i64 d2b)),(25,.v (.agg (rcvL d2a (.slice d2A d2a.held.length d2C)).toArray)),(24,.v (.agg (rcvL (arrived d2a d2b d2c false) (.slice v3a ((arrived d2a d2b d2c false).held.length) v3c)).toArray)),(3,.p 0 0),(4,.v (.int .i64 d2b)),(5,.v (.string d2c)),(6,.v (.bool d2d)),(7,.p 1 0)] ?_
 refine kA [4] ?_
 refine kSC 4 31 [.agg (rcvL d2a (.slice d2A d2a.held.length d2C)).toArray,.int .i64 d2b,.string d2c,.bool false] (some 28) rfl (xc_r fun ww hw hf => ysArrived_c d2a (.slice d2A d2a.held.length d2C) d2b d2c false ww (hf _ m1).1 (by assumption) (by assumption) (by omega) (by omega) w.heap.size hw) ?_
 rintro ⟨v5a,v5c⟩
 refine kA [5] ?_
 refine kSC 5 12 [.agg (rcvL (arrived d2a d2b d2c false) (.slice v3a ((arrived d2a d2b d2c false).held.length) v3c)).toArray,.agg (rcvL (arrived d2a d2b d2c false) (.slice v5a ((arrived d2a d2b d2c false).held.length) v5c)).toArray] (some 29) rfl (xc_b fun ww hf => ysSameReceiver_c (arrived d2a d2b d2c false) (.slice v3a ((arrived d2a d2b d2c false).held.length) v3c) (arrived d2a d2b d2c false) (.slice v5a ((arrived d2a d2b d2c false).held.length) v5c) ww (Own.sl (hf _ m1)) (rowF_sl (hf _ m0)) ) ?_
 intro _
 refine kTS [6] [30,3,4,5,6,7] 0 [(30,.v (.bool (!(sameReceiver (arrived d2a d2b d2c false) (arrived d2a d2b d2c false))))),(3,.p 0 0),(4,.v (.int .i64 d2b)),(5,.v (.string d2c)),(6,.v (.bool d2d)),(7,.p 1 0)] ?_
 refine kZ ?_
 refine kC (!(sameReceiver (arrived d2a d2b d2c false) (arrived d2a d2b d2c false))) (fun h6 => ?_) (fun h6 => ?_)
 have h6n := not_t h6
 exfalso; rw [sameR_self] at h6n; cases h6n
 have h6n := not_f h6
 refine kK ?_
 refine kQ ?_
 refine kHD 1 [3,4,6,7,31] [(31,.v (.string d2c))] rfl (hv_s2b (src := 9) (dst := 22) (e := 5) (t := d2c) (u := .string) rfl (by kernel_rfl) (by kernel_rfl) (by kernel_rfl) (by kernel_rfl) (by unfold maxLen; omega)) ?_
 rintro ⟨g7,g7c⟩
 refine kED [3,4,6,7,8] [(8,.v (.slice (some ⟨g7,0,none⟩) d2c.size g7c))] ?_
 refine kS ?_
 refine kQ ?_
 refine kED [3,4,6,7,8,9] [(9,.v (.int .i64 0))] ?_
 refine xw_block ?_
 refine xw_loopW (α := {x : Nat × List Int // (fun (i : Nat) (bs : List Int) => i ≤ d2c.size ∧ bs.length = d2c.size) x.1 x.2}) (fun x => (fun (i : Nat) (bs : List Int) => (⟨[(3,.p 0 0),(4,.v (.int .i64 d2b)),(6,.v (.bool d2d)),(7,.p 1 0),(8,.v (.slice (some ⟨g7,0,none⟩) d2c.size g7c)),(9,.v (.int .i64 (i : Int)))],[⟨26,rcvL d2a (.slice d2A d2a.held.length d2C)⟩,⟨26,rcvL (arrived d2a d2b d2c false) (.slice v3a ((arrived d2a d2b d2c false).held.length) v3c)⟩],[],[bytF w.heap.size g7 5 d2c.size g7c bs,rowF w.heap.size 65 2 (.slice v5a ((arrived d2a d2b d2c false).held.length) v5c) ((arrived d2a d2b d2c false).held.map pceCells),ownF w.heap.size (.slice v3a ((arrived d2a d2b d2c false).held.length) v3c) 2 ((arrived d2a d2b d2c false).held.map pceCells),newF w.heap.size (.slice d2A d2a.held.length d2C) 2 (d2a.held.map pceCells),slF (.slice Ac code.length Cc) 1 (code.map byteRow)]⟩ : St)) x.1.1 x.1.2) (fun x => (fun (i : Nat) (bs : List Int) => d2c.size - i) x.1.1 x.1.2) ⟨(0,(bytesL d2c)),⟨Nat.zero_le _,bytesL_len _⟩⟩ ((wk_pick [0,1,2,3,4] [bytF w.heap.size g7 5 d2c.size g7c (bytesL d2c),rowF w.heap.size 65 2 (.slice v5a ((arrived d2a d2b d2c false).held.length) v5c) ((arrived d2a d2b d2c false).held.map pceCells),ownF w.heap.size (.slice v3a ((arrived d2a d2b d2c false).held.length) v3c) 2 ((arrived d2a d2b d2c false).held.map pceCells),newF w.heap.size (.slice d2A d2a.held.length d2C) 2 (d2a.held.map pceCells),slF (.slice Ac code.length Cc) 1 (code.map byteRow)] (by kernel_rfl) (by kernel_rfl)).trans <| kF 2 0 [3,4,6,7,8,9]) ?_
 rintro ⟨⟨i,bs⟩,hi,hbl⟩
 try dsimp only
 try dsimp only at hi hbl
 refine kS ?_
 refine kQ ?_
 refine kED [3,4,6,7,8,9,36] [(36,.v (.bool (decide ((i : Int) < ((d2c.size : Nat) : Int)))))] ?_
 refine kC (decide ((i : Int) < ((d2c.size : Nat) : Int))) (fun h8 => ?_) (fun h8 => ?_)
 have h8p := of_decide_eq_true h8
 have hlt : i < d2c.size := by simpa using h8
 obtain ⟨x,hx⟩ : ∃ x,bs[i]? = some x := ⟨_,List.getElem?_eq_getElem (by omega)⟩
 refine kK ?_
 refine kS ?_
 refine xw_block ?_
 refine kG ?_
 refine kOD 4 [3,4,6,7,8,9,39,40,41,42] [(39,.v (.slice (some ⟨g7,0,none⟩) d2c.size g7c)),(40,.v (.int .i64 (i : Int))),(41,.v (.slice (some ⟨g7,0,none⟩) d2c.size g7c)),(42,.v (.int .i64 (i : Int)))] (.pointer (some ⟨g7,i * 1,none⟩)) rfl (fun _ _ _ ww hr => act_ix (kd := .i64) (T := 22) (e := 5) (K := 1) (g := g7) (N := d2c.size) (cap := g7c) i rfl hr.1 rfl rfl (by kernel_rfl) (by kernel_rfl) (by kernel_rfl) hlt ww) ?_
 refine kOD 0 [3,4,6,7,8,9,39,40,43] [] (.int .u8 x) rfl (fun _ _ _ ww hr => ldB_run (B := w.heap.size) (g := g7) (e := 5) (N := d2c.size) (cap := g7c) (j := i) (bs := bs) hr rfl (by kernel_rfl) (by simp) hx (by kernel_rfl)) ?_
 refine kOD 0 [3,4,6,7,8,9,39,40,44] [] (.int .u8 (IntKind.u8.wrap (BitVec.ofInt 8 x ^^^ BitVec.ofInt 8 255).toNat)) rfl (fun _ _ _ ww hr => act_bin hr.1 rfl (by kernel_rfl) (by kernel_rfl) (xor_run ww)) ?_
 refine kOD 0 [3,4,6,7,8,9,39,40,45] [] (.pointer (some ⟨g7,i * 1,none⟩)) rfl (fun _ _ _ ww hr => act_ix (kd := .i64) (T := 22) (e := 5) (K := 1) (g := g7) (N := d2c.size) (cap := g7c) i rfl hr.1 rfl rfl (by kernel_rfl) (by kernel_rfl) (by kernel_rfl) hlt ww) ?_
 refine xl_hs 0 [3,4,6,7,8,9,45,46] ⟨[(3,.p 0 0),(4,.v (.int .i64 d2b)),(6,.v (.bool d2d)),(7,.p 1 0),(8,.v (.slice (some ⟨g7,0,none⟩) d2c.size g7c)),(9,.v (.int .i64 (i : Int))),(45,.v (.int .u8 (IntKind.u8.wrap (BitVec.ofInt 8 x ^^^ BitVec.ofInt 8 255).toNat))),(46,.v (.pointer (some ⟨g7,i * 1,none⟩)))],[⟨26,rcvL d2a (.slice d2A d2a.held.length d2C)⟩,⟨26,rcvL (arrived d2a d2b d2c false) (.slice v3a ((arrived d2a d2b d2c false).held.length) v3c)⟩],[],[bytF w.heap.size g7 5 d2c.size g7c bs,rowF w.heap.size 65 2 (.slice v5a ((arrived d2a d2b d2c false).held.length) v5c) ((arrived d2a d2b d2c false).held.map pceCells),ownF w.heap.size (.slice v3a ((arrived d2a d2b d2c false).held.length) v3c) 2 ((arrived d2a d2b d2c false).held.map pceCells),newF w.heap.size (.slice d2A d2a.held.length d2C) 2 (d2a.held.map pceCells),slF (.slice Ac code.length Cc) 1 (code.map byteRow)]⟩ (by kernel_rfl) rfl (by kernel_rfl) rfl (by kernel_rfl) (hs_stB (B := w.heap.size) (g := g7) (e := 5) (N := d2c.size) (cap := g7c) (i := 0) (j := i) (bs := bs) (z := (IntKind.u8.wrap (BitVec.ofInt 8 x ^^^ BitVec.ofInt 8 255).toNat)) rfl (by kernel_rfl) (by kernel_rfl) (by kernel_rfl) rfl (Nat.le_refl _) hlt) ?_
 refine kED [3,4,6,7,8,9] [] ?_
 refine kG ?_
 refine kRS 3 [3,4,6,7,8,9] [(3,.p 0 0),(4,.v (.int .i64 d2b)),(6,.v (.bool d2d)),(7,.p 1 0),(8,.v (.slice (some ⟨g7,0,none⟩) d2c.size g7c)),(9,.v (.int .i64 (IntKind.i64.wrap ((i : Int) + 1))))] ?_
 refine xl_eqS (t' := [(3,.p 0 0),(4,.v (.int .i64 d2b)),(6,.v (.bool d2d)),(7,.p 1 0),(8,.v (.slice (some ⟨g7,0,none⟩) d2c.size g7c)),(9,.v (.int .i64 ((i : Int) + 1)))]) (by rw [show (IntKind.i64.wrap ((i : Int) + 1)) = ((i : Int) + 1) from wrap_id (by omega) (by omega)]) ?_
 refine kED [3,4,6,7,8,9] [] ?_
 exact ⟨⟨(i + 1,(bs.set i (IntKind.u8.wrap (BitVec.ofInt 8 x ^^^ BitVec.ofInt 8 255).toNat))),⟨hlt,(by rw [List.length_set]; exact hbl)⟩⟩,kF 2 0 [3,4,6,7,8,9],by show (fun (i : Nat) (bs : List Int) => d2c.size - i) (i + 1) (bs.set i (IntKind.u8.wrap (BitVec.ofInt 8 x ^^^ BitVec.ofInt 8 255).toNat)) < d2c.size - i; (dsimp only; omega)⟩
 have h8p := of_decide_eq_false h8
 have hbz : (bstr bs).size = d2c.size := by rw [bstr_len]; exact hbl
 refine xw_exit ?_
 refine kQ ?_
 refine kOD 3 [3,6,7,47,48,49] [(47,.v (.agg (rcvL (arrived d2a d2b d2c false) (.slice v3a ((arrived d2a d2b d2c false).held.length) v3c)).toArray)),(48,.v (.int .i64 d2b)),(49,.v (.slice (some ⟨g7,0,none⟩) d2c.size g7c))] (.string (bstr bs)) rfl (fun _ _ _ ww hr => act_b2s (e := 5) bs hr.1 rfl (by kernel_rfl) (by kernel_rfl) (by kernel_rfl) rfl (bytF_sl (hr.2.fact (bytF w.heap.size g7 5 d2c.size g7c bs) (by simp)).1)) ?_
 refine kCD 0 [3,6,7,47,48,50] [] 30 [.agg (rcvL (arrived d2a d2b d2c false) (.slice v3a ((arrived d2a d2b d2c false).held.length) v3c)).toArray,.int .i64 d2b,.string (bstr bs),.bool false] (some 51) rfl (xc_r fun ww hw hf => yiArrived_c (arrived d2a d2b d2c false) (.slice v3a ((arrived d2a d2b d2c false).held.length) v3c) d2b (bstr bs) false ww (Own.sl (hf _ m2)) (by assumption) (by assumption) (by omega) (by omega) w.heap.size hw) ?_
 rintro ⟨v9a,v9c⟩
 have hra10 := RB.arr (hra4) (by omega) d2b (bstr bs) false; have hra10a := hra10.kn; have hra10b := hra10.hm; have hra10c := hra10.sz
 refine kEA [3,6,7,10] [(10,.p 2 0)] [⟨26,rcvL (arrived (arrived d2a d2b d2c false) d2b (bstr bs) false) (.slice v9a ((arrived (arrived d2a d2b d2c false) d2b (bstr bs) false).held.length) v9c)⟩] ?_
 refine kQ ?_
 refine kED [3,7,10] [] ?_
 refine kS ?_
 refine kQ ?_
 refine kCD 1 [3,7,10,53] [(53,.v (.agg (rcvL d2a (.slice d2A d2a.held.length d2C)).toArray))] 13 [.agg (rcvL d2a (.slice d2A d2a.held.length d2C)).toArray] (some 54) rfl (xc_b fun ww hf => ysReceiverOk_c d2a (.slice d2A d2a.held.length d2C) ww (hf _ m4).1 (by assumption) (by omega)) ?_
 intro _
 refine kRD 2 [3,7,10,56] [(56,.v (.bool (!(receiverOk d2a))))] ?_
 refine kP 56 (!(receiverOk d2a)) (fun h11 => ?_) (fun h11 => ?_)
 have h11n := not_t h11
 have hno := h11n
 refine kES [7,10,70] [(7,.p 1 0),(10,.p 2 0),(70,.v (.bool true))] ?_
 refine kT ?_
 refine kQ ?_
 refine kES [2] [(2,.v (.bool true))] ?_
 refine kR ?_
 exact ⟨[.bool true],by kernel_rfl,fun w' hb hf => ⟨rfl,hb⟩⟩
 have h11n := not_f h11
 have hok := h11n
 refine kRS 6 [3,7,10,62] [(3,.p 0 0),(7,.p 1 0),(10,.p 2 0),(62,.v (.bool (decide (((d2a.held.length : Nat) : Int) > 0))))] ?_
 refine kP 62 (decide (((d2a.held.length : Nat) : Int) > 0)) (fun h12 => ?_) (fun h12 => ?_)
 have h12p := of_decide_eq_true h12
 refine kED [7,10,70] [(70,.v (.bool true))] ?_
 refine kT ?_
 refine kQ ?_
 refine kES [2] [(2,.v (.bool true))] ?_
 refine kR ?_
 exact ⟨[.bool true],by kernel_rfl,fun w' hb hf => ⟨rfl,hb⟩⟩
 have h12p := of_decide_eq_false h12
 have hh0 : d2a.held = [] := List.length_eq_zero_iff.1 (by have := of_decide_eq_false h12; omega)
 refine kRD 4 [3,7,10,66] [(66,.v (.bool d2a.done))] ?_
 refine kP 66 (d2a.done) (fun h13 => ?_) (fun h13 => ?_)
 refine kED [7,10,70] [(70,.v (.bool true))] ?_
 refine kT ?_
 refine kQ ?_
 refine kES [2] [(2,.v (.bool true))] ?_
 refine kR ?_
 exact ⟨[.bool true],by kernel_rfl,fun w' hb hf => ⟨rfl,hb⟩⟩
 have hd0 : d2a.done = false := h13
 refine kED [7,10,70] [(70,.v (.bool (decide (d2a.fin ≥ 0))))] ?_
 refine kC (decide (d2a.fin ≥ 0)) (fun h14 => ?_) (fun h14 => ?_)
 have h14p := of_decide_eq_true h14
 refine kQ ?_
 refine kES [2] [(2,.v (.bool true))] ?_
 refine kR ?_
 exact ⟨[.bool true],by kernel_rfl,fun w' hb hf => ⟨rfl,hb⟩⟩
 have h14p := of_decide_eq_false h14
 have hf0 : d2a.fin < 0 := by have := of_decide_eq_false h14; omega
 refine kK ?_
 refine kQ ?_
 refine kCS 2 [71,72] [(71,.v (.agg (rcvL (arrived (arrived d2a d2b d2c false) d2b (bstr bs) false) (.slice v9a ((arrived (arrived d2a d2b d2c false) d2b (bstr bs) false).held.length) v9c)).toArray)),(72,.v (.agg (rcvL (arrived d2a d2b d2c false) (.slice v3a ((arrived d2a d2b d2c false).held.length) v3c)).toArray))] 12 [.agg (rcvL (arrived (arrived d2a d2b d2c false) d2b (bstr bs) false) (.slice v9a ((arrived (arrived d2a d2b d2c false) d2b (bstr bs) false).held.length) v9c)).toArray,.agg (rcvL (arrived d2a d2b d2c false) (.slice v3a ((arrived d2a d2b d2c false).held.length) v3c)).toArray] (some 73) rfl (xc_b fun ww hf => ysSameReceiver_c (arrived (arrived d2a d2b d2c false) d2b (bstr bs) false) (.slice v9a ((arrived (arrived d2a d2b d2c false) d2b (bstr bs) false).held.length) v9c) (arrived d2a d2b d2c false) (.slice v3a ((arrived d2a d2b d2c false).held.length) v3c) ww (Own.sl (hf _ m0)) (Own.sl (hf _ m3)) ) ?_
 intro _
 refine kES [2] [(2,.v (.bool (sameReceiver (arrived (arrived d2a d2b d2c false) d2b (bstr bs) false) (arrived d2a d2b d2c false))))] ?_
 refine kR ?_
 exact ⟨[.bool (sameReceiver (arrived (arrived d2a d2b d2c false) d2b (bstr bs) false) (arrived d2a d2b d2c false))],by kernel_rfl,fun w' hb hf => ⟨ret_bool (show (sameReceiver (arrived (arrived d2a d2b d2c false) d2b (bstr bs) false) (arrived d2a d2b d2c false) : Bool) = true from by first | (rw [first_wins hok hh0 hd0 hf0 hbz]; exact sameR_self _)),hb⟩⟩

set_option maxRecDepth 100000 in
theorem fnFirstWins_lifted (os : Os) (started : os.Started) (H : Type) (enc : TypeId × Value → H) :
    ReturnsInHanded {} Try.checked os 7 .any (Rows.fnFirstWinsSpec.pre6 enc Try.prog Try.f7 Rows.fnFirstWinsRow.domain false) (Rows.fnFirstWinsSpec.post enc Try.prog Try.f7 false true false false) := by
  refine returnsInHanded_of_change (C := Try.checked) Try.ownK started (by kernel_rfl) Try.func7
    (ChangeSpec.witness6 (enc := enc) (C := Try.checked) false ⟨#[], #[.slice none 0 0], []⟩ 8 (by kernel_rfl) (by kernel_rfl) (by kernel_rfl) (by kernel_rfl)) ?_
  intro W base args ds gs before hval0 hW hcnd _
  have hval : ∀ (j : Nat) t v, Try.f7.params[j]? = some t → args[j]? = some v → Value.okWide Try.prog W .any base t v := hval0
  have hW' := hW
  obtain ⟨p, q, hA0, hV, rfl, hfz, hnd⟩ := hW
  have hA : DataW.TrodAll enc Try.prog W 0 (fun _ => true) true Try.f7.params.toList args.toList ds p := hA0
  rw [Try.params7] at hA hval
  obtain ⟨v0, vs0, d0, ds0, p0, q0, hargs, rfl, rfl, h0, r0⟩ := trodAll_cons hA
  obtain ⟨rfl, rfl, rfl⟩ := trodAll_nil r0
  obtain rfl : args = #[v0] := by cases args; simp_all
  obtain ⟨rfl, rfl⟩ := trodVars_none hV
  clear hA0 hval0
  have g0 := h0
  obtain ⟨l0, L0⟩ := openS_byte (hval 0 _ v0 rfl rfl) g0
  refine (fnFirstWins_walk l0 v0 W L0).mono fun e W' ⟨he, hb⟩ => ?_
  subst he
  have hlt : ∀ x ∈ (p0 ++ ([])) ++ [], x.block < W.heap.size := fun x hx => hW'.lt x hx
  refine ⟨_, rfl, post_of_below (pa := (p0 ++ ([]))) (pv := []) hW' (fun _ _ _ => trodAll_cons_mk (shut_bool Try.underlying4 _) trodAll_mk0) (fun sp hsp => trodAll_cons_mk (WideElems.Trod_stays Try.laidOut (by kernel_rfl) (of_decide_eq_true (by kernel_rfl)) h0 (fun x hx => hb.same (hlt x (List.mem_append_left _ (List.mem_append_left _ hx)))) (fun x hx => hsp x (List.mem_append_left _ (List.mem_append_left _ hx)))) (trodAll_mk0)) (fun _ _ => rfl) rfl hb (ok_one (by kernel_rfl) rfl (okWide_bool_mk Try.underlying4 _))⟩

theorem fnFirstWins_over : Rows.fnFirstWinsRow.holds Try.pinned (OpenSpec.ofChange Rows.fnFirstWinsSpec) :=
  OpenClaim.holds_of_wide 7 Try.f7 rfl rfl rfl rfl rfl rfl rfl ⟨rfl, rfl, rfl, rfl, rfl⟩ rfl rfl rfl rfl rfl (by kernel_rfl) Try.func7 (by kernel_rfl)
    (of_decide_eq_true (by kernel_rfl)) (by unfold Func.isWrapper; first | (rw [if_pos (by decide +kernel)]; kernel_rfl) | (rw [if_neg (by decide +kernel)]; exact ⟨rfl, rfl⟩))
    (fun os started H enc _ => fnFirstWins_lifted os started H enc)

theorem fnFirstWins_holds : Rows.FnFirstWinsSaid := fnFirstWins_over
#print axioms fnFirstWins_holds
end Go.Proofs.Ytnmmhbhdcplfmaa
