/- The law FnExactDoorOk holds: for every argument the program's function answers true and leaves its arguments as they were. Conditions: none beyond the given row's. -/
import Derived.Test.YtfidgfddgmppdaaZ2
import Derived.Test.YtfidgfddgmppdaaG3
namespace Go.Proofs.Ytfidgfddgmppdaa
open Go.RowKit Go.ChangeShapes Go.WideShapes Go.ChangeAt
set_option linter.unusedVariables false
set_option linter.unusedSimpArgs false

set_option maxRecDepth 100000 in
set_option maxHeartbeats 2000000 in
theorem fnExactDoorOk_walk (d : Dor) (d_keys_now_rowsV : Value) (d_keys_before_rowsV : Value) (d_halvesV : Value) (d_table_connsV : Value) (d_table_waitingV : Value) (w : World) (hl_d_keys_now_rowsV : Sl w d_keys_now_rowsV 2 (d.keys.now.rows.map a5)) (hm_d_keys_now_rowsV : ∀ p ∈ d.keys.now.rows, p.input.size ≤ maxLen) (hl_d_keys_before_rowsV : Sl w d_keys_before_rowsV 2 (d.keys.before.rows.map a5)) (hm_d_keys_before_rowsV : ∀ p ∈ d.keys.before.rows, p.input.size ≤ maxLen) (hl_d_halvesV : Sl w d_halvesV 13 (d.halves.map a9)) (hl_d_table_connsV : Sl w d_table_connsV 25 (d.table.conns.map ah)) (hh_d_table_connsV : ∀ x ∈ d.table.conns, Sl w x.2 2 (x.1.r.held.map pC)) (hm_d_table_connsV : ∀ x ∈ d.table.conns, conMax x.1) (hl_d_table_waitingV : Sl w d_table_waitingV 3 (d.table.waiting.map a8)) : Calls Try.prog 5 #[.agg (cy d d_keys_now_rowsV d_keys_before_rowsV d_halvesV d_table_connsV d_table_waitingV).toArray] w fun e w' => e = .returned (.bool true) ∧ Below w.heap.size w w' := by
 obtain ⟨Adknr,Cdknr,hvdknr⟩ := hl_d_keys_now_rowsV.form
 rw [List.length_map] at hvdknr; subst hvdknr
 have hndknr := hl_d_keys_now_rowsV.len; rw [List.length_map] at hndknr
 have hqdknr := Sl.capLe hl_d_keys_now_rowsV
 obtain ⟨Adkbr,Cdkbr,hvdkbr⟩ := hl_d_keys_before_rowsV.form
 rw [List.length_map] at hvdkbr; subst hvdkbr
 have hndkbr := hl_d_keys_before_rowsV.len; rw [List.length_map] at hndkbr
 have hqdkbr := Sl.capLe hl_d_keys_before_rowsV
 obtain ⟨Adh,Cdh,hvdh⟩ := hl_d_halvesV.form
 rw [List.length_map] at hvdh; subst hvdh
 have hndh := hl_d_halvesV.len; rw [List.length_map] at hndh
 have hqdh := Sl.capLe hl_d_halvesV
 obtain ⟨Adtc,Cdtc,hvdtc⟩ := hl_d_table_connsV.form
 rw [List.length_map] at hvdtc; subst hvdtc
 have hndtc := hl_d_table_connsV.len; rw [List.length_map] at hndtc
 have hqdtc := Sl.capLe hl_d_table_connsV
 obtain ⟨Adtw,Cdtw,hvdtw⟩ := hl_d_table_waitingV.form
 rw [List.length_map] at hvdtw; subst hvdtw
 have hndtw := hl_d_table_waitingV.len; rw [List.length_map] at hndtw
 have hqdtw := Sl.capLe hl_d_table_waitingV
 refine aj (args := [.agg (cy d (.slice Adknr d.keys.now.rows.length Cdknr) (.slice Adkbr d.keys.before.rows.length Cdkbr) (.slice Adh d.halves.length Cdh) (.slice Adtc d.table.conns.length Cdtc) (.slice Adtw d.table.waiting.length Cdtw)).toArray]) (fn := Try.f5) [av (.slice Adknr d.keys.now.rows.length Cdknr) 2 (d.keys.now.rows.map a5),av (.slice Adkbr d.keys.before.rows.length Cdkbr) 2 (d.keys.before.rows.map a5),av (.slice Adh d.halves.length Cdh) 13 (d.halves.map a9),av (.slice Adtc d.table.conns.length Cdtc) 25 (d.table.conns.map ah),bx d.table.conns,av (.slice Adtw d.table.waiting.length Cdtw) 3 (d.table.waiting.map a8)] Try.func5 rfl Try.ntmps5 rfl (by simp only [List.mem_cons,List.not_mem_nil,or_false,forall_eq_or_imp,forall_eq]; exact ⟨⟨rfl,hl_d_keys_now_rowsV⟩,⟨rfl,hl_d_keys_before_rowsV⟩,⟨rfl,hl_d_halvesV⟩,⟨rfl,hl_d_table_connsV⟩,⟨rfl,hh_d_table_connsV⟩,⟨rfl,hl_d_table_waitingV⟩⟩) ?_
 refine kQ <| cY [1] ⟨[(1,.p 0 0)],[⟨36,cy d (.slice Adknr d.keys.now.rows.length Cdknr) (.slice Adkbr d.keys.before.rows.length Cdkbr) (.slice Adh d.halves.length Cdh) (.slice Adtc d.table.conns.length Cdtc) (.slice Adtw d.table.waiting.length Cdtw)⟩],[],[av (.slice Adknr d.keys.now.rows.length Cdknr) 2 (d.keys.now.rows.map a5),av (.slice Adkbr d.keys.before.rows.length Cdkbr) 2 (d.keys.before.rows.map a5),av (.slice Adh d.halves.length Cdh) 13 (d.halves.map a9),av (.slice Adtc d.table.conns.length Cdtc) 25 (d.table.conns.map ah),bx d.table.conns,av (.slice Adtw d.table.waiting.length Cdtw) 3 (d.table.waiting.map a8)]⟩ <| kQ <| ac [1,3] [(3,aI 1048576)] ?_
 refine kQ <| ch 2 [1,3,7,8] [(7,.v (.agg (cy d (.slice Adknr d.keys.now.rows.length Cdknr) (.slice Adkbr d.keys.before.rows.length Cdkbr) (.slice Adh d.halves.length Cdh) (.slice Adtc d.table.conns.length Cdtc) (.slice Adtw d.table.waiting.length Cdtw)).toArray)),(8,aI 1048576)] 6 [.agg (cy d (.slice Adknr d.keys.now.rows.length Cdknr) (.slice Adkbr d.keys.before.rows.length Cdkbr) (.slice Adh d.halves.length Cdh) (.slice Adtc d.table.conns.length Cdtc) (.slice Adtw d.table.waiting.length Cdtw)).toArray,iI 1048576] (some 9) rfl (xc_e (α := Int) (F := fun y => iI y) (p := fun r => r = -1 ∨ (r ≤ 1048576 ∧ 0 ≤ r ∧ (d.keys.now.rows.length : Int) ≤ 1048576 ∧ (∀ p ∈ d.keys.now.rows,(p.input.size : Int) ≤ 1048576) ∧ (d.keys.before.rows.length : Int) ≤ 1048576 ∧ (∀ p ∈ d.keys.before.rows,(p.input.size : Int) ≤ 1048576) ∧ d.halves.length ≤ 1048576 ∧ (∀ x ∈ d.table.conns,cr x.1) ∧ d.table.conns.length ≤ 1048576 ∧ d.table.waiting.length ≤ 1048576)) fun ww hf => yszDoor_c d (.slice Adknr d.keys.now.rows.length Cdknr) (.slice Adkbr d.keys.before.rows.length Cdkbr) (.slice Adh d.halves.length Cdh) (.slice Adtc d.table.conns.length Cdtc) (.slice Adtw d.table.waiting.length Cdtw) 1048576 ww (hf _ m0) (hf _ m1) (hf _ m2) (hf _ m3) (hf _ m4) (hf _ m5) (by omega) (by omega) hm_d_keys_now_rowsV hm_d_keys_before_rowsV hm_d_table_connsV) ?_
 rintro ⟨r1,hr1⟩
 refine ac [1,3] [(3,aI r1)] <| kS <| kQ <| ac [1,11] [(11,aB (decide (r1 < 0)))] ?_
 refine kC (decide (r1 < 0)) (fun h2 => ?_) (fun h2 => ?_)
 have h2p := of_decide_eq_true h2
 refine kQ <| am [2] [(2,aB true)] <| kR ?_
 exact ⟨[.bool true],by kernel_rfl,fun w' hb hf => ⟨rfl,hb⟩⟩
 have h2p := of_decide_eq_false h2
 rcases hr1 with hr1 | ⟨hr1u,hr1l,hr1a,hr1m,hr1b,hr1p,hhl_d,hfit_d_table_connsV,hln_d_table_connsV,hlw_d_table_connsV⟩
 · omega
 have hrn_d : d.keys.now.rows.length ≤ 1048576 := by omega
 have hrb_d : d.keys.before.rows.length ≤ 1048576 := by omega
 refine kK <| kQ <| ch 1 [1,12] [(12,.v (.agg (cy d (.slice Adknr d.keys.now.rows.length Cdknr) (.slice Adkbr d.keys.before.rows.length Cdkbr) (.slice Adh d.halves.length Cdh) (.slice Adtc d.table.conns.length Cdtc) (.slice Adtw d.table.waiting.length Cdtw)).toArray))] 8 [.agg (cy d (.slice Adknr d.keys.now.rows.length Cdknr) (.slice Adkbr d.keys.before.rows.length Cdkbr) (.slice Adh d.halves.length Cdh) (.slice Adtc d.table.conns.length Cdtc) (.slice Adtw d.table.waiting.length Cdtw)).toArray] (some 13) rfl (xc_r fun ww hw hf => ytoDoor_c d (.slice Adknr d.keys.now.rows.length Cdknr) (.slice Adkbr d.keys.before.rows.length Cdkbr) (.slice Adh d.halves.length Cdh) (.slice Adtc d.table.conns.length Cdtc) (.slice Adtw d.table.waiting.length Cdtw) ww (hf _ m0) (hf _ m1) (hf _ m2) (hf _ m3) (hf _ m4) (hf _ m5) hrn_d hrb_d hhl_d hfit_d_table_connsV hln_d_table_connsV hlw_d_table_connsV w.heap.size hw) ?_
 rintro ⟨⟨t3l,ht3l⟩,⟨t3a0,t3c0⟩,⟨t3a1,t3c1⟩,⟨t3a2,t3c2⟩,⟨t3a3,t3c3⟩,⟨t3a4,t3c4⟩⟩
 dsimp only
 have hfit_t3l : ∀ x ∈ t3l,cr x.1 := conFit_pl ht3l hfit_d_table_connsV; have hlen_t3l : t3l.length ≤ 1048576 := by rw [pl_len ht3l]; assumption
 refine ch 0 [1,13] [] 16 [.agg (cy { d with table := { d.table with conns := t3l } } (.slice t3a0 d.keys.now.rows.length t3c0) (.slice t3a1 d.keys.before.rows.length t3c1) (.slice t3a2 d.halves.length t3c2) (.slice t3a3 t3l.length t3c3) (.slice t3a4 d.table.waiting.length t3c4)).toArray] (some 14) rfl (bw fun ww hf => ysDoorOk_c ({ d with table := { d.table with conns := t3l } }) (.slice t3a0 d.keys.now.rows.length t3c0) (.slice t3a1 d.keys.before.rows.length t3c1) (.slice t3a2 d.halves.length t3c2) (.slice t3a3 t3l.length t3c3) (.slice t3a4 d.table.waiting.length t3c4) ww (Own.sl (hf _ m0)) (Own.sl (hf _ m1)) (Own.sl (hf _ m2)) (rowF_sl (hf _ m3)) (hownF_sl (hf _ m4)) (Own.sl (hf _ m5)) (by first | assumption | (dsimp only; assumption)) (by first | assumption | (dsimp only; assumption) | omega)) ?_
 intro _
 refine ac [1,4] [(4,aB (ax ({ d with table := { d.table with conns := t3l } })))] <| kQ <| ch 1 [1,4,15] [(15,.v (.agg (cy d (.slice Adknr d.keys.now.rows.length Cdknr) (.slice Adkbr d.keys.before.rows.length Cdkbr) (.slice Adh d.halves.length Cdh) (.slice Adtc d.table.conns.length Cdtc) (.slice Adtw d.table.waiting.length Cdtw)).toArray))] 8 [.agg (cy d (.slice Adknr d.keys.now.rows.length Cdknr) (.slice Adkbr d.keys.before.rows.length Cdkbr) (.slice Adh d.halves.length Cdh) (.slice Adtc d.table.conns.length Cdtc) (.slice Adtw d.table.waiting.length Cdtw)).toArray] (some 16) rfl (xc_r fun ww hw hf => ytoDoor_c d (.slice Adknr d.keys.now.rows.length Cdknr) (.slice Adkbr d.keys.before.rows.length Cdkbr) (.slice Adh d.halves.length Cdh) (.slice Adtc d.table.conns.length Cdtc) (.slice Adtw d.table.waiting.length Cdtw) ww (hf _ m6) (hf _ m7) (hf (av (.slice Adh d.halves.length Cdh) 13 (d.halves.map a9)) (by simp)) (hf (av (.slice Adtc d.table.conns.length Cdtc) 25 (d.table.conns.map ah)) (by simp)) (hf (bx d.table.conns) (by simp)) (hf (av (.slice Adtw d.table.waiting.length Cdtw) 3 (d.table.waiting.map a8)) (by simp)) hrn_d hrb_d hhl_d hfit_d_table_connsV hln_d_table_connsV hlw_d_table_connsV w.heap.size hw) ?_
 rintro ⟨⟨t4l,ht4l⟩,⟨t4a0,t4c0⟩,⟨t4a1,t4c1⟩,⟨t4a2,t4c2⟩,⟨t4a3,t4c3⟩,⟨t4a4,t4c4⟩⟩
 dsimp only
 have hfit_t4l : ∀ x ∈ t4l,cr x.1 := conFit_pl ht4l hfit_d_table_connsV; have hlen_t4l : t4l.length ≤ 1048576 := by rw [pl_len ht4l]; assumption
 refine kEA [1,4,5] [(5,.p 1 0)] [⟨51,cy { d with table := { d.table with conns := t4l } } (.slice t4a0 d.keys.now.rows.length t4c0) (.slice t4a1 d.keys.before.rows.length t4c1) (.slice t4a2 d.halves.length t4c2) (.slice t4a3 t4l.length t4c3) (.slice t4a4 d.table.waiting.length t4c4)⟩] <| kQ <| ch 1 [1,4,5,17] [(17,.v (.agg (cy { d with table := { d.table with conns := t4l } } (.slice t4a0 d.keys.now.rows.length t4c0) (.slice t4a1 d.keys.before.rows.length t4c1) (.slice t4a2 d.halves.length t4c2) (.slice t4a3 t4l.length t4c3) (.slice t4a4 d.table.waiting.length t4c4)).toArray))] 17 [.agg (cy { d with table := { d.table with conns := t4l } } (.slice t4a0 d.keys.now.rows.length t4c0) (.slice t4a1 d.keys.before.rows.length t4c1) (.slice t4a2 d.halves.length t4c2) (.slice t4a3 t4l.length t4c3) (.slice t4a4 d.table.waiting.length t4c4)).toArray] (some 18) rfl (bw fun ww hf => yiDoorOk_c ({ d with table := { d.table with conns := t4l } }) (.slice t4a0 d.keys.now.rows.length t4c0) (.slice t4a1 d.keys.before.rows.length t4c1) (.slice t4a2 d.halves.length t4c2) (.slice t4a3 t4l.length t4c3) (.slice t4a4 d.table.waiting.length t4c4) ww (Own.sl (hf _ m0)) (Own.sl (hf _ m1)) (Own.sl (hf _ m2)) (rowF_sl (hf _ m3)) (hownF_sl (hf _ m4)) (Own.sl (hf _ m5)) (by first | assumption | (dsimp only; assumption)) (by first | assumption | (dsimp only; assumption) | omega)) ?_
 intro _
 refine am [1,4,5,6] [(1,.p 0 0),(4,aB (ax ({ d with table := { d.table with conns := t3l } }))),(5,.p 1 0),(6,aB (ax ({ d with table := { d.table with conns := t4l } })))] <| kS <| kQ <| ac [1,5,21] [(21,aB (!((ax ({ d with table := { d.table with conns := t4l } })) == (ax ({ d with table := { d.table with conns := t3l } })))))] ?_
 refine kC (!((ax ({ d with table := { d.table with conns := t4l } })) == (ax ({ d with table := { d.table with conns := t3l } })))) (fun h5 => ?_) (fun h5 => ?_)
 have h5n := aa h5
 have h5np := eqF h5n
 have e0 := doorOk_pl (d := d) ht4l
 have e1 := doorOk_pl (d := d) ht3l
 exfalso; rw [e0,e1] at h5n; simp at h5n
 have h5n := ak h5
 have h5np := eqT h5n
 refine kK <| kS <| kS <| xe_region [] (by kernel_rfl) (fun ρ σ => ?_)
 refine kTS [0,1] [23,22] 3 [(23,.v (.agg (cy d (.slice Adknr d.keys.now.rows.length Cdknr) (.slice Adkbr d.keys.before.rows.length Cdkbr) (.slice Adh d.halves.length Cdh) (.slice Adtc d.table.conns.length Cdtc) (.slice Adtw d.table.waiting.length Cdtw)).toArray)),(22,.v (.agg (cy { d with table := { d.table with conns := t4l } } (.slice t4a0 d.keys.now.rows.length t4c0) (.slice t4a1 d.keys.before.rows.length t4c1) (.slice t4a2 d.halves.length t4c2) (.slice t4a3 t4l.length t4c3) (.slice t4a4 d.table.waiting.length t4c4)).toArray))] <| kA [2] <| kSC 2 8 [.agg (cy d (.slice Adknr d.keys.now.rows.length Cdknr) (.slice Adkbr d.keys.before.rows.length Cdkbr) (.slice Adh d.halves.length Cdh) (.slice Adtc d.table.conns.length Cdtc) (.slice Adtw d.table.waiting.length Cdtw)).toArray] (some 24) rfl (xc_r fun ww hw hf => ytoDoor_c d (.slice Adknr d.keys.now.rows.length Cdknr) (.slice Adkbr d.keys.before.rows.length Cdkbr) (.slice Adh d.halves.length Cdh) (.slice Adtc d.table.conns.length Cdtc) (.slice Adtw d.table.waiting.length Cdtw) ww (hf (av (.slice Adknr d.keys.now.rows.length Cdknr) 2 (d.keys.now.rows.map a5)) (by simp)) (hf (av (.slice Adkbr d.keys.before.rows.length Cdkbr) 2 (d.keys.before.rows.map a5)) (by simp)) (hf (av (.slice Adh d.halves.length Cdh) 13 (d.halves.map a9)) (by simp)) (hf (av (.slice Adtc d.table.conns.length Cdtc) 25 (d.table.conns.map ah)) (by simp)) (hf (bx d.table.conns) (by simp)) (hf (av (.slice Adtw d.table.waiting.length Cdtw) 3 (d.table.waiting.map a8)) (by simp)) hrn_d hrb_d hhl_d hfit_d_table_connsV hln_d_table_connsV hlw_d_table_connsV w.heap.size hw) ?_
 rintro ⟨⟨t6l,ht6l⟩,⟨t6a0,t6c0⟩,⟨t6a1,t6c1⟩,⟨t6a2,t6c2⟩,⟨t6a3,t6c3⟩,⟨t6a4,t6c4⟩⟩
 dsimp only
 have hfit_t6l : ∀ x ∈ t6l,cr x.1 := conFit_pl ht6l hfit_d_table_connsV; have hlen_t6l : t6l.length ≤ 1048576 := by rw [pl_len ht6l]; assumption
 refine kA [3] <| kSC 3 10 [.agg (cy { d with table := { d.table with conns := t4l } } (.slice t4a0 d.keys.now.rows.length t4c0) (.slice t4a1 d.keys.before.rows.length t4c1) (.slice t4a2 d.halves.length t4c2) (.slice t4a3 t4l.length t4c3) (.slice t4a4 d.table.waiting.length t4c4)).toArray,.agg (cy { d with table := { d.table with conns := t6l } } (.slice t6a0 d.keys.now.rows.length t6c0) (.slice t6a1 d.keys.before.rows.length t6c1) (.slice t6a2 d.halves.length t6c2) (.slice t6a3 t6l.length t6c3) (.slice t6a4 d.table.waiting.length t6c4)).toArray] (some 25) rfl (bw fun ww hf => yeqDoor_c ({ d with table := { d.table with conns := t4l } }) t4l (.slice t4a0 d.keys.now.rows.length t4c0) (.slice t4a1 d.keys.before.rows.length t4c1) (.slice t4a2 d.halves.length t4c2) (.slice t4a3 t4l.length t4c3) (.slice t4a4 d.table.waiting.length t4c4) t6l (.slice t6a0 d.keys.now.rows.length t6c0) (.slice t6a1 d.keys.before.rows.length t6c1) (.slice t6a2 d.halves.length t6c2) (.slice t6a3 t6l.length t6c3) (.slice t6a4 d.table.waiting.length t6c4) ww (Own.sl (hf _ m6)) (Own.sl (hf _ m7)) (Own.sl (hf (cV w.heap.size (.slice t4a2 d.halves.length t4c2) 13 (d.halves.map a9)) (by simp))) (rowF_sl (hf (dg w.heap.size 108 25 (.slice t4a3 t4l.length t4c3) (t4l.map ah)) (by simp))) (hownF_sl (hf (bA w.heap.size t4l) (by simp))) (Own.sl (hf (cV w.heap.size (.slice t4a4 d.table.waiting.length t4c4) 3 (d.table.waiting.map a8)) (by simp))) (Own.sl (hf _ m0)) (Own.sl (hf _ m1)) (Own.sl (hf _ m2)) (rowF_sl (hf _ m3)) (hownF_sl (hf _ m4)) (Own.sl (hf _ m5)) (by simp only [ht4l,ht6l])) ?_
 intro _
 refine kTS [4] [26] 0 [(26,aB false)] <| kZ <| kN <| kK <| kQ <| am [2] [(2,aB true)] ?_
 refine kR ?_
 exact ⟨[.bool true],by kernel_rfl,fun w' hb hf => ⟨rfl,hb⟩⟩

set_option maxRecDepth 100000 in
theorem fnExactDoorOk_lifted (os : Os) (started : os.Started) (H : Type) (enc : TypeId × Value → H) :
    ReturnsInHanded {} Try.checked os 5 .any (Rows.fnExactDoorOkSpec.pre6 enc Try.prog Try.f5 Rows.fnExactDoorOkRow.domain false) (Rows.fnExactDoorOkSpec.post enc Try.prog Try.f5 false true false false) := by
  refine returnsInHanded_of_change (C := Try.checked) Try.ownK started (by kernel_rfl) Try.func5
    (ChangeSpec.witness6 (enc := enc) (C := Try.checked) false ⟨#[], #[.agg #[iI 0, iI 0, iI 0, .bool false, .int .u64 0, .int .u64 0, .slice none 0 0, .bool false, .int .u64 0, .int .u64 0, .slice none 0 0, .bool false, iI 0, iI 0, iI 0, iI 0, .slice none 0 0, .slice none 0 0, .slice none 0 0, iI 0]], []⟩ 8 (by kernel_rfl) (by kernel_rfl) (by kernel_rfl) (by kernel_rfl)) ?_
  intro W base args ds gs before hval0 hW hcnd _
  have hval : ∀ (j : Nat) t v, Try.f5.params[j]? = some t → args[j]? = some v → Value.okWide Try.prog W .any base t v := hval0
  have hW' := hW
  obtain ⟨p, q, hA0, hV, rfl, hfz, hnd⟩ := hW
  have hA : DataW.TrodAll enc Try.prog W 0 (fun _ => true) true Try.f5.params.toList args.toList ds p := hA0
  rw [Try.params5] at hA hval
  obtain ⟨v0, vs0, d0, ds0, p0, q0, hargs, rfl, rfl, h0, r0⟩ := trodAll_cons hA
  obtain ⟨rfl, rfl, rfl⟩ := trodAll_nil r0
  obtain rfl : args = #[v0] := by cases args; simp_all
  obtain ⟨rfl, rfl⟩ := trodVars_none hV
  clear hA0 hval0
  have g0 := h0
  obtain ⟨cs0, rfl, -⟩ := okWide_struct Try.underlying36 (hval 0 _ v0 rfl rfl)
  obtain ⟨fuel0, f0⟩ := g0
  obtain ⟨d_port, d_clock, d_keys_epoch, d_keys_now_use, d_keys_now_k, d_keys_now_l, d_keys_now_rows_v, d_keys_before_use, d_keys_before_k, d_keys_before_l, d_keys_before_rows_v, d_keys_two, d_lim_halves, d_lim_waiting, d_lim_conns, d_lim_chal, d_halves_v, d_table_conns_v, d_table_waiting_v, d_chal, e0, F_d_port, F_d_clock, F_d_keys_epoch, F_d_keys_now_k, F_d_keys_now_l, F_d_keys_now_rows, F_d_keys_before_k, F_d_keys_before_l, F_d_keys_before_rows, F_d_lim_halves, F_d_lim_waiting, F_d_lim_conns, F_d_lim_chal, F_d_halves, F_d_table_conns, F_d_table_waiting, F_d_chal⟩ := open_DOR f0
  obtain rfl : cs0 = #[iI d_port, iI d_clock, iI d_keys_epoch, .bool d_keys_now_use, .int .u64 d_keys_now_k, .int .u64 d_keys_now_l, d_keys_now_rows_v, .bool d_keys_before_use, .int .u64 d_keys_before_k, .int .u64 d_keys_before_l, d_keys_before_rows_v, .bool d_keys_two, iI d_lim_halves, iI d_lim_waiting, iI d_lim_conns, iI d_lim_chal, d_halves_v, d_table_conns_v, d_table_waiting_v, iI d_chal] := by cases cs0; simpa [Value.cells] using e0
  clear e0
  obtain ⟨_, _, T_d_keys_now_rows⟩ := F_d_keys_now_rows
  obtain ⟨d_keys_now_rows, L_d_keys_now_rows, M_d_keys_now_rows⟩ := openSc_MRW T_d_keys_now_rows
  obtain ⟨_, _, T_d_keys_before_rows⟩ := F_d_keys_before_rows
  obtain ⟨d_keys_before_rows, L_d_keys_before_rows, M_d_keys_before_rows⟩ := openSc_MRW T_d_keys_before_rows
  obtain ⟨_, _, T_d_halves⟩ := F_d_halves
  obtain ⟨d_halves, L_d_halves⟩ := openSc_HLF T_d_halves
  obtain ⟨_, _, T_d_table_conns⟩ := F_d_table_conns
  obtain ⟨d_table_conns, L_d_table_conns, H_d_table_conns, M_d_table_conns⟩ := openSc_CON T_d_table_conns
  obtain ⟨_, _, T_d_table_waiting⟩ := F_d_table_waiting
  obtain ⟨d_table_waiting, L_d_table_waiting⟩ := openSc_TUP T_d_table_waiting
  refine (fnExactDoorOk_walk (⟨d_port, d_clock, ⟨d_keys_epoch, ⟨d_keys_now_use, d_keys_now_k, d_keys_now_l, d_keys_now_rows⟩, ⟨d_keys_before_use, d_keys_before_k, d_keys_before_l, d_keys_before_rows⟩, d_keys_two⟩, ⟨d_lim_halves, d_lim_waiting, d_lim_conns, d_lim_chal⟩, d_halves, ⟨d_table_conns, d_table_waiting⟩, d_chal⟩ : Dor) d_keys_now_rows_v d_keys_before_rows_v d_halves_v d_table_conns_v d_table_waiting_v W L_d_keys_now_rows M_d_keys_now_rows L_d_keys_before_rows M_d_keys_before_rows L_d_halves L_d_table_conns H_d_table_conns M_d_table_conns L_d_table_waiting).mono fun e W' ⟨he, hb⟩ => ?_
  subst he
  have hlt : ∀ x ∈ (p0 ++ ([])) ++ [], x.block < W.heap.size := fun x hx => hW'.lt x hx
  refine ⟨_, rfl, post_of_below (pa := (p0 ++ ([]))) (pv := []) hW' (fun _ _ _ => trodAll_cons_mk (shut_bool Try.underlying4 _) trodAll_mk0) (fun sp hsp => trodAll_cons_mk (WideElems.Trod_stays Try.laidOut (by kernel_rfl) (of_decide_eq_true (by kernel_rfl)) h0 (fun x hx => hb.same (hlt x (List.mem_append_left _ (List.mem_append_left _ hx)))) (fun x hx => hsp x (List.mem_append_left _ (List.mem_append_left _ hx)))) (trodAll_mk0)) (fun _ _ => rfl) rfl hb (ok_one (by kernel_rfl) rfl (okWide_bool_mk Try.underlying4 _))⟩

theorem fnExactDoorOk_over : Rows.fnExactDoorOkRow.holds Try.pinned (OpenSpec.ofChange Rows.fnExactDoorOkSpec) :=
  OpenClaim.holds_of_wide 5 Try.f5 rfl rfl rfl rfl rfl rfl rfl ⟨rfl, rfl, rfl, rfl, rfl⟩ rfl rfl rfl rfl rfl (by kernel_rfl) Try.func5 (by kernel_rfl)
    (of_decide_eq_true (by kernel_rfl)) (by unfold Func.isWrapper; first | (rw [if_pos (by decide +kernel)]; kernel_rfl) | (rw [if_neg (by decide +kernel)]; exact ⟨rfl, rfl⟩))
    (fun os started H enc _ => fnExactDoorOk_lifted os started H enc)

theorem fnExactDoorOk_holds : Rows.FnExactDoorOkSaid := fnExactDoorOk_over
#print axioms fnExactDoorOk_holds
end Go.Proofs.Ytfidgfddgmppdaa
