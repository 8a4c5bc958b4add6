/- The law FnExactFirstSeq holds: for every argument the program's function answers true and leaves its arguments as they were. Conditions: none beyond the given row's. -/
import Derived.Test.YtfidgfddgmppdaaZ2
import Derived.Test.YtfidgfddgmppdaaG3
namespace Go.Proofs.Ytfidgfddgmppdaa
open Go.RowKit Go.ChangeShapes Go.WideShapes Go.ChangeAt
set_option linter.unusedVariables false
set_option linter.unusedSimpArgs false

set_option maxRecDepth 100000 in
set_option maxHeartbeats 2000000 in
theorem fnExactFirstSeq_walk (d : Dor) (d_keys_now_rowsV : Value) (d_keys_before_rowsV : Value) (d_halvesV : Value) (d_table_connsV : Value) (d_table_waitingV : Value) (t : Tup) (g : Seg) (w : World) (hl_d_keys_now_rowsV : Sl w d_keys_now_rowsV 2 (d.keys.now.rows.map a6)) (hm_d_keys_now_rowsV : ∀ p ∈ d.keys.now.rows, p.input.size ≤ maxLen) (hl_d_keys_before_rowsV : Sl w d_keys_before_rowsV 2 (d.keys.before.rows.map a6)) (hm_d_keys_before_rowsV : ∀ p ∈ d.keys.before.rows, p.input.size ≤ maxLen) (hl_d_halvesV : Sl w d_halvesV 13 (d.halves.map av)) (hl_d_table_connsV : Sl w d_table_connsV 25 (d.table.conns.map aQ)) (hh_d_table_connsV : ∀ x ∈ d.table.conns, Sl w x.2 2 (x.1.r.held.map pC)) (hm_d_table_connsV : ∀ x ∈ d.table.conns, conMax x.1) (hl_d_table_waitingV : Sl w d_table_waitingV 3 (d.table.waiting.map ay)) (hs_g_body : g.body.size ≤ maxLen) : Calls Try.prog 4 #[.agg (bT d d_keys_now_rowsV d_keys_before_rowsV d_halvesV d_table_connsV d_table_waitingV).toArray, .agg (bP t).toArray, .agg (segL g).toArray] w fun e w' => e = .returned (.bool true) ∧ Below w.heap.size w w' := by
 obtain ⟨Adknr,Cdknr,hvdknr⟩ := hl_d_keys_now_rowsV.form
 rw [List.length_map] at hvdknr; subst hvdknr
 have hndknr := hl_d_keys_now_rowsV.len; rw [List.length_map] at hndknr
 have hqdknr := Sl.capLe hl_d_keys_now_rowsV
 obtain ⟨Adkbr,Cdkbr,hvdkbr⟩ := hl_d_keys_before_rowsV.form
 rw [List.length_map] at hvdkbr; subst hvdkbr
 have hndkbr := hl_d_keys_before_rowsV.len; rw [List.length_map] at hndkbr
 have hqdkbr := Sl.capLe hl_d_keys_before_rowsV
 obtain ⟨Adh,Cdh,hvdh⟩ := hl_d_halvesV.form
 rw [List.length_map] at hvdh; subst hvdh
 have hndh := hl_d_halvesV.len; rw [List.length_map] at hndh
 have hqdh := Sl.capLe hl_d_halvesV
 obtain ⟨Adtc,Cdtc,hvdtc⟩ := hl_d_table_connsV.form
 rw [List.length_map] at hvdtc; subst hvdtc
 have hndtc := hl_d_table_connsV.len; rw [List.length_map] at hndtc
 have hqdtc := Sl.capLe hl_d_table_connsV
 obtain ⟨Adtw,Cdtw,hvdtw⟩ := hl_d_table_waitingV.form
 rw [List.length_map] at hvdtw; subst hvdtw
 have hndtw := hl_d_table_waitingV.len; rw [List.length_map] at hndtw
 have hqdtw := Sl.capLe hl_d_table_waitingV
 refine aq (args := [.agg (bT d (.slice Adknr d.keys.now.rows.length Cdknr) (.slice Adkbr d.keys.before.rows.length Cdkbr) (.slice Adh d.halves.length Cdh) (.slice Adtc d.table.conns.length Cdtc) (.slice Adtw d.table.waiting.length Cdtw)).toArray,.agg (bP t).toArray,.agg (segL g).toArray]) (fn := Try.f4) [ag (.slice Adknr d.keys.now.rows.length Cdknr) 2 (d.keys.now.rows.map a6),ag (.slice Adkbr d.keys.before.rows.length Cdkbr) 2 (d.keys.before.rows.map a6),ag (.slice Adh d.halves.length Cdh) 13 (d.halves.map av),ag (.slice Adtc d.table.conns.length Cdtc) 25 (d.table.conns.map aQ),bJ d.table.conns,ag (.slice Adtw d.table.waiting.length Cdtw) 3 (d.table.waiting.map ay)] Try.func4 rfl Try.ntmps4 rfl (by simp only [List.mem_cons,List.not_mem_nil,or_false,forall_eq_or_imp,forall_eq]; exact ⟨⟨rfl,hl_d_keys_now_rowsV⟩,⟨rfl,hl_d_keys_before_rowsV⟩,⟨rfl,hl_d_halvesV⟩,⟨rfl,hl_d_table_connsV⟩,⟨rfl,hh_d_table_connsV⟩,⟨rfl,hl_d_table_waitingV⟩⟩) ?_
 refine kQ <| bH [3,4,5] ⟨[(3,.p 0 0),(4,.p 1 0),(5,.p 2 0)],[⟨36,bT d (.slice Adknr d.keys.now.rows.length Cdknr) (.slice Adkbr d.keys.before.rows.length Cdkbr) (.slice Adh d.halves.length Cdh) (.slice Adtc d.table.conns.length Cdtc) (.slice Adtw d.table.waiting.length Cdtw)⟩,⟨55,bP t⟩,⟨59,segL g⟩],[],[ag (.slice Adknr d.keys.now.rows.length Cdknr) 2 (d.keys.now.rows.map a6),ag (.slice Adkbr d.keys.before.rows.length Cdkbr) 2 (d.keys.before.rows.map a6),ag (.slice Adh d.halves.length Cdh) 13 (d.halves.map av),ag (.slice Adtc d.table.conns.length Cdtc) 25 (d.table.conns.map aQ),bJ d.table.conns,ag (.slice Adtw d.table.waiting.length Cdtw) 3 (d.table.waiting.map ay)]⟩ <| kQ <| aH [3,4,5,7] [(7,aI 1048576)] ?_
 refine kQ <| ci 2 [3,4,5,7,11,12] [(11,.v (.agg (bT d (.slice Adknr d.keys.now.rows.length Cdknr) (.slice Adkbr d.keys.before.rows.length Cdkbr) (.slice Adh d.halves.length Cdh) (.slice Adtc d.table.conns.length Cdtc) (.slice Adtw d.table.waiting.length Cdtw)).toArray)),(12,aI 1048576)] 6 [.agg (bT d (.slice Adknr d.keys.now.rows.length Cdknr) (.slice Adkbr d.keys.before.rows.length Cdkbr) (.slice Adh d.halves.length Cdh) (.slice Adtc d.table.conns.length Cdtc) (.slice Adtw d.table.waiting.length Cdtw)).toArray,iI 1048576] (some 13) rfl (xc_e (α := Int) (F := fun y => iI y) (p := fun r => r = -1 ∨ (r ≤ 1048576 ∧ 0 ≤ r ∧ (d.keys.now.rows.length : Int) ≤ 1048576 ∧ (∀ p ∈ d.keys.now.rows,(p.input.size : Int) ≤ 1048576) ∧ (d.keys.before.rows.length : Int) ≤ 1048576 ∧ (∀ p ∈ d.keys.before.rows,(p.input.size : Int) ≤ 1048576) ∧ d.halves.length ≤ 1048576 ∧ (∀ x ∈ d.table.conns,cX x.1) ∧ d.table.conns.length ≤ 1048576 ∧ d.table.waiting.length ≤ 1048576)) fun ww hf => yszDoor_c d (.slice Adknr d.keys.now.rows.length Cdknr) (.slice Adkbr d.keys.before.rows.length Cdkbr) (.slice Adh d.halves.length Cdh) (.slice Adtc d.table.conns.length Cdtc) (.slice Adtw d.table.waiting.length Cdtw) 1048576 ww (hf _ m0) (hf _ m1) (hf _ m2) (hf _ m3) (hf _ m4) (hf _ m5) (by omega) (by omega) hm_d_keys_now_rowsV hm_d_keys_before_rowsV hm_d_table_connsV) ?_
 rintro ⟨r1,hr1⟩
 refine aH [3,4,5,7] [(7,aI r1)] <| kS <| kQ <| aH [3,4,5,7,15] [(15,aB (decide (r1 < 0)))] ?_
 refine kC (decide (r1 < 0)) (fun h2 => ?_) (fun h2 => ?_)
 have h2p := of_decide_eq_true h2
 refine kQ <| bZ [6] [(6,aB true)] <| kR ?_
 exact ⟨[.bool true],by kernel_rfl,fun w' hb hf => ⟨rfl,hb⟩⟩
 have h2p := of_decide_eq_false h2
 rcases hr1 with hr1 | ⟨hr1u,hr1l,hr1a,hr1m,hr1b,hr1p,hhl_d,hfit_d_table_connsV,hln_d_table_connsV,hlw_d_table_connsV⟩
 · omega
 have hrn_d : d.keys.now.rows.length ≤ 1048576 := by omega
 have hrb_d : d.keys.before.rows.length ≤ 1048576 := by omega
 refine kK <| kQ <| ci 2 [3,4,5,7,16,17] [(16,.v (.agg (segL g).toArray)),(17,aI r1)] 11 [.agg (segL g).toArray,iI r1] (some 18) rfl (ai fun ww hf => szSegment_c g.src g.dst g.seq g.ack g.flags g.window g.o.mss g.o.scale g.o.sack g.o.stamp g.o.val g.o.echo g.body r1 ww (by omega) (by omega) hs_g_body) ?_
 intro _
 refine aH [3,4,5,7] [(7,aI (if (r1 : Int) < g.body.size then -1 else (r1 : Int) - g.body.size))] <| kS <| kQ <| aH [3,4,5,20] [(20,aB (decide ((if (r1 : Int) < g.body.size then -1 else (r1 : Int) - g.body.size) < 0)))] ?_
 refine kC (decide ((if (r1 : Int) < g.body.size then -1 else (r1 : Int) - g.body.size) < 0)) (fun h3 => ?_) (fun h3 => ?_)
 have h3p := of_decide_eq_true h3
 refine kQ <| bZ [6] [(6,aB true)] <| kR ?_
 exact ⟨[.bool true],by kernel_rfl,fun w' hb hf => ⟨rfl,hb⟩⟩
 have h3p := of_decide_eq_false h3
 have hsz_g : g.body.size ≤ 1048576 := by by_cases hh : r1 < (g.body.size : Int) <;> simp [hh] at h3; omega
 refine kK <| kS <| aN [] (by kernel_rfl) (fun ρ σ => ?_)
 refine kTD [0,2,4] [25,23,21,3,4,5] 5 [(25,.v (.agg (segL g).toArray)),(23,.v (.agg (bP t).toArray)),(21,.v (.agg (bT d (.slice Adknr d.keys.now.rows.length Cdknr) (.slice Adkbr d.keys.before.rows.length Cdkbr) (.slice Adh d.halves.length Cdh) (.slice Adtc d.table.conns.length Cdtc) (.slice Adtw d.table.waiting.length Cdtw)).toArray))] <| kA [1] <| cw 1 8 [.agg (bT d (.slice Adknr d.keys.now.rows.length Cdknr) (.slice Adkbr d.keys.before.rows.length Cdkbr) (.slice Adh d.halves.length Cdh) (.slice Adtc d.table.conns.length Cdtc) (.slice Adtw d.table.waiting.length Cdtw)).toArray] (some 22) rfl (xc_r fun ww hw hf => ytoDoor_c d (.slice Adknr d.keys.now.rows.length Cdknr) (.slice Adkbr d.keys.before.rows.length Cdkbr) (.slice Adh d.halves.length Cdh) (.slice Adtc d.table.conns.length Cdtc) (.slice Adtw d.table.waiting.length Cdtw) ww (hf _ m0) (hf _ m1) (hf _ m2) (hf _ m3) (hf _ m4) (hf _ m5) hrn_d hrb_d hhl_d hfit_d_table_connsV hln_d_table_connsV hlw_d_table_connsV w.heap.size hw) ?_
 rintro ⟨⟨t4l,ht4l⟩,⟨t4a0,t4c0⟩,⟨t4a1,t4c1⟩,⟨t4a2,t4c2⟩,⟨t4a3,t4c3⟩,⟨t4a4,t4c4⟩⟩
 dsimp only
 have hfit_t4l : ∀ x ∈ t4l,cX x.1 := conFit_pl ht4l hfit_d_table_connsV; have hlen_t4l : t4l.length ≤ 1048576 := by rw [pl_len ht4l]; assumption
 refine kA [3] <| cw 3 13 [.agg (bP t).toArray] (some 24) rfl (ai fun ww hf => dw t.ip t.port t.my ww) ?_
 intro _
 refine kA [5] <| cw 5 14 [.agg (segL g).toArray] (some 26) rfl (ai fun ww hf => toSegment_c g.src g.dst g.seq g.ack g.flags g.window g.o.mss g.o.scale g.o.sack g.o.stamp g.o.val g.o.echo g.body ww) ?_
 intro _
 refine kA [6] <| cw 6 12 [.agg (bT { d with table := { d.table with conns := t4l } } (.slice t4a0 d.keys.now.rows.length t4c0) (.slice t4a1 d.keys.before.rows.length t4c1) (.slice t4a2 d.halves.length t4c2) (.slice t4a3 t4l.length t4c3) (.slice t4a4 d.table.waiting.length t4c4)).toArray,.agg (bP t).toArray,.agg (segL g).toArray] (some 27) rfl (ai fun ww hf => ysFirstSeq_c ({ d with table := { d.table with conns := t4l } }) (.slice t4a0 d.keys.now.rows.length t4c0) (.slice t4a1 d.keys.before.rows.length t4c1) (.slice t4a2 d.halves.length t4c2) (.slice t4a3 t4l.length t4c3) (.slice t4a4 d.table.waiting.length t4c4) t g ww (Own.sl (hf _ m0)) (Own.sl (hf _ m1)) (Own.sl (hf _ m2)) (cA (hf _ m3)) (hownF_sl (hf _ m4)) (Own.sl (hf _ m5)) ) ?_
 intro _
 refine kTD [7] [8,3,4,5] 0 [(8,aI (aL ({ d with table := { d.table with conns := t4l } }) t g))] <| kZ <| kQ <| ci 1 [3,4,5,8,28] [(28,.v (.agg (bT d (.slice Adknr d.keys.now.rows.length Cdknr) (.slice Adkbr d.keys.before.rows.length Cdkbr) (.slice Adh d.halves.length Cdh) (.slice Adtc d.table.conns.length Cdtc) (.slice Adtw d.table.waiting.length Cdtw)).toArray))] 8 [.agg (bT d (.slice Adknr d.keys.now.rows.length Cdknr) (.slice Adkbr d.keys.before.rows.length Cdkbr) (.slice Adh d.halves.length Cdh) (.slice Adtc d.table.conns.length Cdtc) (.slice Adtw d.table.waiting.length Cdtw)).toArray] (some 29) rfl (xc_r fun ww hw hf => ytoDoor_c d (.slice Adknr d.keys.now.rows.length Cdknr) (.slice Adkbr d.keys.before.rows.length Cdkbr) (.slice Adh d.halves.length Cdh) (.slice Adtc d.table.conns.length Cdtc) (.slice Adtw d.table.waiting.length Cdtw) ww (hf _ m6) (hf _ m7) (hf (ag (.slice Adh d.halves.length Cdh) 13 (d.halves.map av)) (by simp)) (hf (ag (.slice Adtc d.table.conns.length Cdtc) 25 (d.table.conns.map aQ)) (by simp)) (hf (bJ d.table.conns) (by simp)) (hf (ag (.slice Adtw d.table.waiting.length Cdtw) 3 (d.table.waiting.map ay)) (by simp)) hrn_d hrb_d hhl_d hfit_d_table_connsV hln_d_table_connsV hlw_d_table_connsV w.heap.size hw) ?_
 rintro ⟨⟨t5l,ht5l⟩,⟨t5a0,t5c0⟩,⟨t5a1,t5c1⟩,⟨t5a2,t5c2⟩,⟨t5a3,t5c3⟩,⟨t5a4,t5c4⟩⟩
 dsimp only
 have hfit_t5l : ∀ x ∈ t5l,cX x.1 := conFit_pl ht5l hfit_d_table_connsV; have hlen_t5l : t5l.length ≤ 1048576 := by rw [pl_len ht5l]; assumption
 refine bH [3,4,5,8,9] ⟨[(3,.p 0 0),(4,.p 1 0),(5,.p 2 0),(8,aI (aL ({ d with table := { d.table with conns := t4l } }) t g)),(9,.p 3 0)],[⟨36,bT d (.slice Adknr d.keys.now.rows.length Cdknr) (.slice Adkbr d.keys.before.rows.length Cdkbr) (.slice Adh d.halves.length Cdh) (.slice Adtc d.table.conns.length Cdtc) (.slice Adtw d.table.waiting.length Cdtw)⟩,⟨55,bP t⟩,⟨59,segL g⟩,⟨51,bT { d with table := { d.table with conns := t5l } } (.slice t5a0 d.keys.now.rows.length t5c0) (.slice t5a1 d.keys.before.rows.length t5c1) (.slice t5a2 d.halves.length t5c2) (.slice t5a3 t5l.length t5c3) (.slice t5a4 d.table.waiting.length t5c4)⟩],[],[bQ w.heap.size (.slice t5a0 d.keys.now.rows.length t5c0) 2 (d.keys.now.rows.map a6),bQ w.heap.size (.slice t5a1 d.keys.before.rows.length t5c1) 2 (d.keys.before.rows.map a6),bQ w.heap.size (.slice t5a2 d.halves.length t5c2) 13 (d.halves.map av),bU w.heap.size 108 25 (.slice t5a3 t5l.length t5c3) (t5l.map aQ),bp w.heap.size t5l,bQ w.heap.size (.slice t5a4 d.table.waiting.length t5c4) 3 (d.table.waiting.map ay),bQ w.heap.size (.slice t4a0 d.keys.now.rows.length t4c0) 2 (d.keys.now.rows.map a6),bQ w.heap.size (.slice t4a1 d.keys.before.rows.length t4c1) 2 (d.keys.before.rows.map a6),bQ w.heap.size (.slice t4a2 d.halves.length t4c2) 13 (d.halves.map av),bU w.heap.size 108 25 (.slice t4a3 t4l.length t4c3) (t4l.map aQ),bp w.heap.size t4l,bQ w.heap.size (.slice t4a4 d.table.waiting.length t4c4) 3 (d.table.waiting.map ay),ag (.slice Adknr d.keys.now.rows.length Cdknr) 2 (d.keys.now.rows.map a6),ag (.slice Adkbr d.keys.before.rows.length Cdkbr) 2 (d.keys.before.rows.map a6),ag (.slice Adh d.halves.length Cdh) 13 (d.halves.map av),ag (.slice Adtc d.table.conns.length Cdtc) 25 (d.table.conns.map aQ),bJ d.table.conns,ag (.slice Adtw d.table.waiting.length Cdtw) 3 (d.table.waiting.map ay)]⟩ <| kS <| aN [] (by kernel_rfl) (fun ρ σ => ?_)
 refine kTD [0,1,3] [33,31,30,3,8,9] 4 [(33,.v (.agg (segL g).toArray)),(31,.v (.agg (bP t).toArray)),(30,.v (.agg (bT { d with table := { d.table with conns := t5l } } (.slice t5a0 d.keys.now.rows.length t5c0) (.slice t5a1 d.keys.before.rows.length t5c1) (.slice t5a2 d.halves.length t5c2) (.slice t5a3 t5l.length t5c3) (.slice t5a4 d.table.waiting.length t5c4)).toArray))] <| kA [2] <| cw 2 13 [.agg (bP t).toArray] (some 32) rfl (ai fun ww hf => dw t.ip t.port t.my ww) ?_
 intro _
 refine kA [4] <| cw 4 14 [.agg (segL g).toArray] (some 34) rfl (ai fun ww hf => toSegment_c g.src g.dst g.seq g.ack g.flags g.window g.o.mss g.o.scale g.o.sack g.o.stamp g.o.val g.o.echo g.body ww) ?_
 intro _
 refine kA [5] <| cw 5 15 [.agg (bT { d with table := { d.table with conns := t5l } } (.slice t5a0 d.keys.now.rows.length t5c0) (.slice t5a1 d.keys.before.rows.length t5c1) (.slice t5a2 d.halves.length t5c2) (.slice t5a3 t5l.length t5c3) (.slice t5a4 d.table.waiting.length t5c4)).toArray,.agg (bP t).toArray,.agg (segL g).toArray] (some 35) rfl (ai fun ww hf => yiFirstSeq_c ({ d with table := { d.table with conns := t5l } }) (.slice t5a0 d.keys.now.rows.length t5c0) (.slice t5a1 d.keys.before.rows.length t5c1) (.slice t5a2 d.halves.length t5c2) (.slice t5a3 t5l.length t5c3) (.slice t5a4 d.table.waiting.length t5c4) t g ww (Own.sl (hf _ m0)) (Own.sl (hf _ m1)) (Own.sl (hf _ m2)) (cA (hf _ m3)) (hownF_sl (hf _ m4)) (Own.sl (hf _ m5)) ) ?_
 intro _
 refine kTD [6] [10,3,8,9] 0 [(10,aI (aL ({ d with table := { d.table with conns := t5l } }) t g))] <| kZ <| kS <| kQ <| aH [3,9,38] [(38,aB ((aL ({ d with table := { d.table with conns := t5l } }) t g) != (aL ({ d with table := { d.table with conns := t4l } }) t g)))] ?_
 refine kC ((aL ({ d with table := { d.table with conns := t5l } }) t g) != (aL ({ d with table := { d.table with conns := t4l } }) t g)) (fun h6 => ?_) (fun h6 => ?_)
 have h6p := neT h6
 exfalso; exact absurd h6 (by show ¬ ((aL d t g != aL d t g) = true); simp)
 have h6p := neF h6
 refine kK <| kS <| kS <| aN [] (by kernel_rfl) (fun ρ σ => ?_)
 refine kTS [0,1] [40,39] 3 [(40,.v (.agg (bT d (.slice Adknr d.keys.now.rows.length Cdknr) (.slice Adkbr d.keys.before.rows.length Cdkbr) (.slice Adh d.halves.length Cdh) (.slice Adtc d.table.conns.length Cdtc) (.slice Adtw d.table.waiting.length Cdtw)).toArray)),(39,.v (.agg (bT { d with table := { d.table with conns := t5l } } (.slice t5a0 d.keys.now.rows.length t5c0) (.slice t5a1 d.keys.before.rows.length t5c1) (.slice t5a2 d.halves.length t5c2) (.slice t5a3 t5l.length t5c3) (.slice t5a4 d.table.waiting.length t5c4)).toArray))] <| kA [2] <| cw 2 8 [.agg (bT d (.slice Adknr d.keys.now.rows.length Cdknr) (.slice Adkbr d.keys.before.rows.length Cdkbr) (.slice Adh d.halves.length Cdh) (.slice Adtc d.table.conns.length Cdtc) (.slice Adtw d.table.waiting.length Cdtw)).toArray] (some 41) rfl (xc_r fun ww hw hf => ytoDoor_c d (.slice Adknr d.keys.now.rows.length Cdknr) (.slice Adkbr d.keys.before.rows.length Cdkbr) (.slice Adh d.halves.length Cdh) (.slice Adtc d.table.conns.length Cdtc) (.slice Adtw d.table.waiting.length Cdtw) ww (hf (ag (.slice Adknr d.keys.now.rows.length Cdknr) 2 (d.keys.now.rows.map a6)) (by simp)) (hf (ag (.slice Adkbr d.keys.before.rows.length Cdkbr) 2 (d.keys.before.rows.map a6)) (by simp)) (hf (ag (.slice Adh d.halves.length Cdh) 13 (d.halves.map av)) (by simp)) (hf (ag (.slice Adtc d.table.conns.length Cdtc) 25 (d.table.conns.map aQ)) (by simp)) (hf (bJ d.table.conns) (by simp)) (hf (ag (.slice Adtw d.table.waiting.length Cdtw) 3 (d.table.waiting.map ay)) (by simp)) hrn_d hrb_d hhl_d hfit_d_table_connsV hln_d_table_connsV hlw_d_table_connsV w.heap.size hw) ?_
 rintro ⟨⟨t7l,ht7l⟩,⟨t7a0,t7c0⟩,⟨t7a1,t7c1⟩,⟨t7a2,t7c2⟩,⟨t7a3,t7c3⟩,⟨t7a4,t7c4⟩⟩
 dsimp only
 have hfit_t7l : ∀ x ∈ t7l,cX x.1 := conFit_pl ht7l hfit_d_table_connsV; have hlen_t7l : t7l.length ≤ 1048576 := by rw [pl_len ht7l]; assumption
 refine kA [3] <| cw 3 10 [.agg (bT { d with table := { d.table with conns := t5l } } (.slice t5a0 d.keys.now.rows.length t5c0) (.slice t5a1 d.keys.before.rows.length t5c1) (.slice t5a2 d.halves.length t5c2) (.slice t5a3 t5l.length t5c3) (.slice t5a4 d.table.waiting.length t5c4)).toArray,.agg (bT { d with table := { d.table with conns := t7l } } (.slice t7a0 d.keys.now.rows.length t7c0) (.slice t7a1 d.keys.before.rows.length t7c1) (.slice t7a2 d.halves.length t7c2) (.slice t7a3 t7l.length t7c3) (.slice t7a4 d.table.waiting.length t7c4)).toArray] (some 42) rfl (ai fun ww hf => yeqDoor_c ({ d with table := { d.table with conns := t5l } }) t5l (.slice t5a0 d.keys.now.rows.length t5c0) (.slice t5a1 d.keys.before.rows.length t5c1) (.slice t5a2 d.halves.length t5c2) (.slice t5a3 t5l.length t5c3) (.slice t5a4 d.table.waiting.length t5c4) t7l (.slice t7a0 d.keys.now.rows.length t7c0) (.slice t7a1 d.keys.before.rows.length t7c1) (.slice t7a2 d.halves.length t7c2) (.slice t7a3 t7l.length t7c3) (.slice t7a4 d.table.waiting.length t7c4) ww (Own.sl (hf _ m6)) (Own.sl (hf _ m7)) (Own.sl (hf (bQ w.heap.size (.slice t5a2 d.halves.length t5c2) 13 (d.halves.map av)) (by simp))) (cA (hf (bU w.heap.size 108 25 (.slice t5a3 t5l.length t5c3) (t5l.map aQ)) (by simp))) (hownF_sl (hf (bp w.heap.size t5l) (by simp))) (Own.sl (hf (bQ w.heap.size (.slice t5a4 d.table.waiting.length t5c4) 3 (d.table.waiting.map ay)) (by simp))) (Own.sl (hf _ m0)) (Own.sl (hf _ m1)) (Own.sl (hf _ m2)) (cA (hf _ m3)) (hownF_sl (hf _ m4)) (Own.sl (hf _ m5)) (by simp only [ht5l,ht7l])) ?_
 intro _
 refine kTS [4] [43] 0 [(43,aB false)] <| kZ <| kN <| kK <| kQ <| bZ [6] [(6,aB true)] ?_
 refine kR ?_
 exact ⟨[.bool true],by kernel_rfl,fun w' hb hf => ⟨rfl,hb⟩⟩

set_option maxRecDepth 100000 in
theorem fnExactFirstSeq_lifted (os : Os) (started : os.Started) (H : Type) (enc : TypeId × Value → H) :
    ReturnsInHanded {} Try.checked os 4 .any (Rows.fnExactFirstSeqSpec.pre6 enc Try.prog Try.f4 Rows.fnExactFirstSeqRow.domain false) (Rows.fnExactFirstSeqSpec.post enc Try.prog Try.f4 false true false false) := by
  refine returnsInHanded_of_change (C := Try.checked) Try.ownK started (by kernel_rfl) Try.func4
    (ChangeSpec.witness6 (enc := enc) (C := Try.checked) false ⟨#[], #[.agg #[iI 0, iI 0, iI 0, .bool false, .int .u64 0, .int .u64 0, .slice none 0 0, .bool false, .int .u64 0, .int .u64 0, .slice none 0 0, .bool false, iI 0, iI 0, iI 0, iI 0, .slice none 0 0, .slice none 0 0, .slice none 0 0, iI 0], .agg #[iI 0, iI 0, iI 0], .agg #[iI 0, iI 0, iI 0, iI 0, iI 0, iI 0, iI 0, iI 0, .bool false, .bool false, iI 0, iI 0, .string ⟨#[]⟩]], []⟩ 8 (by kernel_rfl) (by kernel_rfl) (by kernel_rfl) (by kernel_rfl)) ?_
  intro W base args ds gs before hval0 hW hcnd _
  have hval : ∀ (j : Nat) t v, Try.f4.params[j]? = some t → args[j]? = some v → Value.okWide Try.prog W .any base t v := hval0
  have hW' := hW
  obtain ⟨p, q, hA0, hV, rfl, hfz, hnd⟩ := hW
  have hA : DataW.TrodAll enc Try.prog W 0 (fun _ => true) true Try.f4.params.toList args.toList ds p := hA0
  rw [Try.params4] at hA hval
  obtain ⟨v0, vs0, d0, ds0, p0, q0, hargs, rfl, rfl, h0, r0⟩ := trodAll_cons hA
  obtain ⟨v1, vs1, d1, ds1, p1, q1, rfl, rfl, rfl, h1, r1⟩ := trodAll_cons r0
  obtain ⟨v2, vs2, d2, ds2, p2, q2, rfl, rfl, rfl, h2, r2⟩ := trodAll_cons r1
  obtain ⟨rfl, rfl, rfl⟩ := trodAll_nil r2
  obtain rfl : args = #[v0, v1, v2] := by cases args; simp_all
  obtain ⟨rfl, rfl⟩ := trodVars_none hV
  clear hA0 hval0
  have g0 := h0
  have g1 := h1
  have g2 := h2
  obtain ⟨cs0, rfl, -⟩ := okWide_struct Try.underlying36 (hval 0 _ v0 rfl rfl)
  obtain ⟨fuel0, f0⟩ := g0
  obtain ⟨d_port, d_clock, d_keys_epoch, d_keys_now_use, d_keys_now_k, d_keys_now_l, d_keys_now_rows_v, d_keys_before_use, d_keys_before_k, d_keys_before_l, d_keys_before_rows_v, d_keys_two, d_lim_halves, d_lim_waiting, d_lim_conns, d_lim_chal, d_halves_v, d_table_conns_v, d_table_waiting_v, d_chal, e0, F_d_port, F_d_clock, F_d_keys_epoch, F_d_keys_now_k, F_d_keys_now_l, F_d_keys_now_rows, F_d_keys_before_k, F_d_keys_before_l, F_d_keys_before_rows, F_d_lim_halves, F_d_lim_waiting, F_d_lim_conns, F_d_lim_chal, F_d_halves, F_d_table_conns, F_d_table_waiting, F_d_chal⟩ := open_DOR f0
  obtain rfl : cs0 = #[iI d_port, iI d_clock, iI d_keys_epoch, .bool d_keys_now_use, .int .u64 d_keys_now_k, .int .u64 d_keys_now_l, d_keys_now_rows_v, .bool d_keys_before_use, .int .u64 d_keys_before_k, .int .u64 d_keys_before_l, d_keys_before_rows_v, .bool d_keys_two, iI d_lim_halves, iI d_lim_waiting, iI d_lim_conns, iI d_lim_chal, d_halves_v, d_table_conns_v, d_table_waiting_v, iI d_chal] := by cases cs0; simpa [Value.cells] using e0
  clear e0
  obtain ⟨_, _, T_d_keys_now_rows⟩ := F_d_keys_now_rows
  obtain ⟨d_keys_now_rows, L_d_keys_now_rows, M_d_keys_now_rows⟩ := openSc_MRW T_d_keys_now_rows
  obtain ⟨_, _, T_d_keys_before_rows⟩ := F_d_keys_before_rows
  obtain ⟨d_keys_before_rows, L_d_keys_before_rows, M_d_keys_before_rows⟩ := openSc_MRW T_d_keys_before_rows
  obtain ⟨_, _, T_d_halves⟩ := F_d_halves
  obtain ⟨d_halves, L_d_halves⟩ := openSc_HLF T_d_halves
  obtain ⟨_, _, T_d_table_conns⟩ := F_d_table_conns
  obtain ⟨d_table_conns, L_d_table_conns, H_d_table_conns, M_d_table_conns⟩ := openSc_CON T_d_table_conns
  obtain ⟨_, _, T_d_table_waiting⟩ := F_d_table_waiting
  obtain ⟨d_table_waiting, L_d_table_waiting⟩ := openSc_TUP T_d_table_waiting
  obtain ⟨cs1, rfl, -⟩ := okWide_struct Try.underlying55 (hval 1 _ v1 rfl rfl)
  obtain ⟨fuel1, f1⟩ := g1
  obtain ⟨t_ip, t_port, t_my, e1, F_t_ip, F_t_port, F_t_my⟩ := open_TUP f1
  obtain rfl : cs1 = #[iI t_ip, iI t_port, iI t_my] := by cases cs1; simpa [Value.cells] using e1
  clear e1
  obtain ⟨cs2, rfl, -⟩ := okWide_struct Try.underlying59 (hval 2 _ v2 rfl rfl)
  obtain ⟨fuel2, f2⟩ := g2
  obtain ⟨g_src, g_dst, g_seq, g_ack, g_flags, g_window, g_o_mss, g_o_scale, g_o_sack, g_o_stamp, g_o_val, g_o_echo, g_body, e2, F_g_src, F_g_dst, F_g_seq, F_g_ack, F_g_flags, F_g_window, F_g_o_mss, F_g_o_scale, F_g_o_val, F_g_o_echo, F_g_body⟩ := open_SEG f2
  obtain rfl : cs2 = #[iI g_src, iI g_dst, iI g_seq, iI g_ack, iI g_flags, iI g_window, iI g_o_mss, iI g_o_scale, .bool g_o_sack, .bool g_o_stamp, iI g_o_val, iI g_o_echo, .string g_body] := by cases cs2; simpa [Value.cells] using e2
  clear e2
  refine (fnExactFirstSeq_walk (⟨d_port, d_clock, ⟨d_keys_epoch, ⟨d_keys_now_use, d_keys_now_k, d_keys_now_l, d_keys_now_rows⟩, ⟨d_keys_before_use, d_keys_before_k, d_keys_before_l, d_keys_before_rows⟩, d_keys_two⟩, ⟨d_lim_halves, d_lim_waiting, d_lim_conns, d_lim_chal⟩, d_halves, ⟨d_table_conns, d_table_waiting⟩, d_chal⟩ : Dor) d_keys_now_rows_v d_keys_before_rows_v d_halves_v d_table_conns_v d_table_waiting_v (⟨t_ip, t_port, t_my⟩ : Tup) (⟨g_src, g_dst, g_seq, g_ack, g_flags, g_window, ⟨g_o_mss, g_o_scale, g_o_sack, g_o_stamp, g_o_val, g_o_echo⟩, g_body⟩ : Seg) W L_d_keys_now_rows M_d_keys_now_rows L_d_keys_before_rows M_d_keys_before_rows L_d_halves L_d_table_conns H_d_table_conns M_d_table_conns L_d_table_waiting F_g_body).mono fun e W' ⟨he, hb⟩ => ?_
  subst he
  have hlt : ∀ x ∈ (p0 ++ (p1 ++ (p2 ++ ([])))) ++ [], x.block < W.heap.size := fun x hx => hW'.lt x hx
  refine ⟨_, rfl, post_of_below (pa := (p0 ++ (p1 ++ (p2 ++ ([]))))) (pv := []) hW' (fun _ _ _ => trodAll_cons_mk (shut_bool Try.underlying4 _) trodAll_mk0) (fun sp hsp => trodAll_cons_mk (WideElems.Trod_stays Try.laidOut (by kernel_rfl) (of_decide_eq_true (by kernel_rfl)) h0 (fun x hx => hb.same (hlt x (List.mem_append_left _ (List.mem_append_left _ hx)))) (fun x hx => hsp x (List.mem_append_left _ (List.mem_append_left _ hx)))) (trodAll_cons_mk (WideElems.Trod_stays Try.laidOut (by kernel_rfl) (of_decide_eq_true (by kernel_rfl)) h1 (fun x hx => hb.same (hlt x (List.mem_append_left _ (List.mem_append_right _ (List.mem_append_left _ hx))))) (fun x hx => hsp x (List.mem_append_left _ (List.mem_append_right _ (List.mem_append_left _ hx))))) (trodAll_cons_mk (WideElems.Trod_stays Try.laidOut (by kernel_rfl) (of_decide_eq_true (by kernel_rfl)) h2 (fun x hx => hb.same (hlt x (List.mem_append_left _ (List.mem_append_right _ (List.mem_append_right _ (List.mem_append_left _ hx)))))) (fun x hx => hsp x (List.mem_append_left _ (List.mem_append_right _ (List.mem_append_right _ (List.mem_append_left _ hx)))))) (trodAll_mk0)))) (fun _ _ => rfl) rfl hb (ok_one (by kernel_rfl) rfl (okWide_bool_mk Try.underlying4 _))⟩

theorem fnExactFirstSeq_over : Rows.fnExactFirstSeqRow.holds Try.pinned (OpenSpec.ofChange Rows.fnExactFirstSeqSpec) :=
  OpenClaim.holds_of_wide 4 Try.f4 rfl rfl rfl rfl rfl rfl rfl ⟨rfl, rfl, rfl, rfl, rfl⟩ rfl rfl rfl rfl rfl (by kernel_rfl) Try.func4 (by kernel_rfl)
    (of_decide_eq_true (by kernel_rfl)) (by unfold Func.isWrapper; first | (rw [if_pos (by decide +kernel)]; kernel_rfl) | (rw [if_neg (by decide +kernel)]; exact ⟨rfl, rfl⟩))
    (fun os started H enc _ => fnExactFirstSeq_lifted os started H enc)

theorem fnExactFirstSeq_holds : Rows.FnExactFirstSeqSaid := fnExactFirstSeq_over
#print axioms fnExactFirstSeq_holds
end Go.Proofs.Ytfidgfddgmppdaa
