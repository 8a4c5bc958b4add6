/- Contracts that this law needs, part 2. -/
import Derived.Test.YtnhpmgcllclhfaaZ1
namespace Go.Proofs.Ytnhpmgcllclhfaa
open Go.RowKit
set_option linter.unusedVariables false
set_option linter.unusedSimpArgs false
set_option maxRecDepth 100000
set_option maxHeartbeats 2000000

theorem yl25Copy_c (t : Tab) (t_connsV : Value) (t_waitingV : Value) (w : World) (hl_t_connsV : Sl w t_connsV 25 (t.conns.map conR)) (hh_t_connsV : ∀ x ∈ t.conns, Sl w x.2 2 (x.1.r.held.map pceCells)) (hl_t_waitingV : Sl w t_waitingV 3 (t.waiting.map tupCells)) (hfit : ∀ x ∈ t.conns, conFit x.1) (hln : t.conns.length ≤ 1048576) (hlw : t.waiting.length ≤ 1048576) (B : Nat) (hB : B ≤ w.heap.size) : Calls Try.prog 54 #[.agg (tabL t t_connsV t_waitingV).toArray] w fun e w' => XRs w w' e (α := {cs : List CV // pl cs = pl t.conns} × (Option Addr × Nat) × (Option Addr × Nat)) (fun y => .agg #[.slice y.2.1.1 y.1.1.length y.2.1.2, .slice y.2.2.1 t.waiting.length y.2.2.2]) (fun y => [rowF B 68 25 (.slice y.2.1.1 y.1.1.length y.2.1.2) (y.1.1.map conR), hownF B y.1.1, rowF B 35 3 (.slice y.2.2.1 t.waiting.length y.2.2.2) (t.waiting.map tupCells)]) := by
 obtain ⟨Atc,Ctc,hvtc⟩ := hl_t_connsV.form
 rw [List.length_map] at hvtc; subst hvtc
 have hntc := hl_t_connsV.len; rw [List.length_map] at hntc
 have hqtc := Sl.capLe hl_t_connsV
 obtain ⟨Atw,Ctw,hvtw⟩ := hl_t_waitingV.form
 rw [List.length_map] at hvtw; subst hvtw
 have hntw := hl_t_waitingV.len; rw [List.length_map] at hntw
 have hqtw := Sl.capLe hl_t_waitingV
 refine x_callsA (args := [.agg (tabL t (.slice Atc t.conns.length Ctc) (.slice Atw t.waiting.length Ctw)).toArray]) (fn := Try.f54) [slF (.slice Atc t.conns.length Ctc) 25 (t.conns.map conR),hldF t.conns,slF (.slice Atw t.waiting.length Ctw) 3 (t.waiting.map tupCells)] Try.func54 rfl Try.ntmps54 rfl (by simp only [List.mem_cons,List.not_mem_nil,or_false,forall_eq_or_imp,forall_eq]; exact ⟨⟨rfl,hl_t_connsV⟩,⟨rfl,hh_t_connsV⟩,⟨rfl,hl_t_waitingV⟩⟩) ?_
 refine kQ ?_
 refine kEF [1,2] ⟨[(1,.p 0 0),(2,.p 1 0)],[⟨33,tabL t (.slice Atc t.conns.length Ctc) (.slice Atw t.waiting.length Ctw)⟩,⟨33,[.slice none 0 0,.slice none 0 0]⟩],[],[slF (.slice Atc t.conns.length Ctc) 25 (t.conns.map conR),hldF t.conns,slF (.slice Atw t.waiting.length Ctw) 3 (t.waiting.map tupCells)]⟩ ?_
 refine kQ ?_
 refine kHD 0 [1,2] [] rfl (hv_bK (e := 35) (K := 3) (bytes := 24) [] (rs := ([] : List Tup).map tupCells) rfl rfl) ?_
 intro g1
 refine kHD 2 [1,2,5,7] [(7,.v (.slice Atw t.waiting.length Ctw))] rfl (hv_append (e := 35) (K := 3) (bytes := 24) (i := 0) (q := t.waiting.length) (new := t.waiting.map tupCells) (rs' := t.waiting.map tupCells) rfl rfl rfl rfl (by kernel_rfl) (by kernel_rfl) (by kernel_rfl) rfl (by simp) rfl (by simp) (fun ww hf => (hf (slF (.slice Atw t.waiting.length Ctw) 3 (t.waiting.map tupCells)) (by simp))) (by intro r hr; obtain ⟨x,hx,rfl⟩ := List.mem_map.1 hr; exact ⟨rfl,by simp [tupCells,Value.oneCell']⟩) (by (try simp only [List.length_map,List.length_append,List.length_cons,List.length_nil,List.length_take,List.length_drop,maxLen]); omega) (by (try simp only [List.length_map,List.length_append,List.length_cons,List.length_nil,List.length_take,List.length_drop,maxLen]); omega)) ?_
 rintro ⟨v2a,v2c⟩
 refine kOD 0 [1,2,8] [] (.agg (tabL { t with conns := [] } (.slice none 0 0) (.slice v2a t.waiting.length v2c)).toArray) rfl (fun _ _ _ ww hr => act_build [(1,.slice v2a t.waiting.length v2c)] hr.1 rfl (by kernel_rfl) (by kernel_rfl) ww) ?_
 refine kEA [1,2,3] [(3,.p 2 0)] [⟨33,tabL { t with conns := [] } (.slice none 0 0) (.slice v2a t.waiting.length v2c)⟩] ?_
 refine kS ?_
 refine kQ ?_
 refine kED [1,2,3,4] [(4,.v (.int .i64 0))] ?_
 refine xw_block ?_
 refine xw_free (rowF w.heap.size 68 25 (.slice none 0 0) []) (fun ww hww => nilF_p _ _ ww hww) (fun b => nilF_b _ _ _ b) ?_
 refine xw_free (hownF w.heap.size ([])) hownF_nilp (fun b => hownF_nob) ?_
 refine xw_loopW (α := {x : Nat × List CV × Option Addr × Nat // (fun (i : Nat) (L : List CV) (A : Option Addr) (cap : Nat) => i ≤ t.conns.length ∧ pl L = (pl t.conns).take i) x.1 x.2.1 x.2.2.1 x.2.2.2}) (fun x => (fun (i : Nat) (L : List CV) (A : Option Addr) (cap : Nat) => (⟨[(1,.p 0 0),(2,.p 1 0),(3,.p 2 0),(4,.v (.int .i64 (i : Int)))],[⟨33,tabL t (.slice Atc t.conns.length Ctc) (.slice Atw t.waiting.length Ctw)⟩,⟨33,[.slice none 0 0,.slice none 0 0]⟩,⟨33,tabL { t with conns := L } (.slice A L.length cap) (.slice v2a t.waiting.length v2c)⟩],[],[hownF w.heap.size L,rowF w.heap.size 68 25 (.slice A L.length cap) (L.map conR),rowF w.heap.size 35 3 (.slice v2a t.waiting.length v2c) (t.waiting.map tupCells),slF (.slice Atc t.conns.length Ctc) 25 (t.conns.map conR),hldF t.conns,slF (.slice Atw t.waiting.length Ctw) 3 (t.waiting.map tupCells)]⟩ : St)) x.1.1 x.1.2.1 x.1.2.2.1 x.1.2.2.2) (fun x => (fun (i : Nat) (L : List CV) (A : Option Addr) (cap : Nat) => t.conns.length - i) x.1.1 x.1.2.1 x.1.2.2.1 x.1.2.2.2) ⟨(0,([] : List CV),none,0),⟨Nat.zero_le _,rfl⟩⟩ (kF 3 0 [1,2,3,4]) ?_
 rintro ⟨⟨i,L,A,cap⟩,hi,HL⟩
 try dsimp only
 try dsimp only at hi HL
 refine kS ?_
 refine kQ ?_
 refine kED [1,2,3,4,14] [(14,.v (.bool (decide ((i : Int) < ((t.conns.length : Nat) : Int)))))] ?_
 refine kC (decide ((i : Int) < ((t.conns.length : Nat) : Int))) (fun h3 => ?_) (fun h3 => ?_)
 have h3p := of_decide_eq_true h3
 have hlt : i < t.conns.length := by simpa using h3
 obtain ⟨x0,hx⟩ : ∃ x,t.conns[i]? = some x := ⟨_,List.getElem?_eq_getElem hlt⟩
 obtain ⟨x,xa,xc,rfl⟩ := cv_form (hh_t_connsV x0 (List.mem_of_getElem? hx))
 have hft_x : conFit x := hfit _ (List.mem_of_getElem? hx)
 obtain ⟨hfs_x,hfr_x,hfh_x,hfp_x⟩ := hft_x
 have hLl := pl_take_len HL hi
 obtain ⟨bb,ob,hbb⟩ := sl_block hl_t_connsV (show (t.conns.map conR)[i]? = some _ from by rw [List.getElem?_map,hx]; rfl)
 refine kK ?_
 refine kS ?_
 refine xw_block ?_
 refine xw_joinE (α := Option Addr × Nat × Option Addr × Nat × Nat) (fun y => (fun (v4a : Option Addr) (v4c : Nat) (v8a : Option Addr) (v8c : Nat) (g6 : Nat) => (⟨[(1,.p 0 0),(2,.p 1 0),(3,.p 2 0),(4,.v (.int .i64 (i : Int)))],[⟨33,tabL t (.slice Atc t.conns.length Ctc) (.slice Atw t.waiting.length Ctw)⟩,⟨33,[.slice none 0 0,.slice none 0 0]⟩,⟨33,tabL { t with conns := (L ++ ([((x,.slice v4a x.r.held.length v4c) : CV)] : List CV)) } (.slice v8a ((L ++ ([((x,.slice v4a x.r.held.length v4c) : CV)] : List CV)).length) v8c) (.slice v2a t.waiting.length v2c)⟩],[],[rowF w.heap.size 68 25 (.slice v8a ((L ++ ([((x,.slice v4a x.r.held.length v4c) : CV)] : List CV)).length) v8c) ((L ++ ([((x,.slice v4a x.r.held.length v4c) : CV)] : List CV)).map conR),rowF w.heap.size 68 25 (.slice (some ⟨g6,0,none⟩) 1 1) (([((x,.slice v4a x.r.held.length v4c) : CV)] : List CV).map conR),ownF w.heap.size (.slice v4a x.r.held.length v4c) 2 (x.r.held.map pceCells),hownF w.heap.size L,rowF w.heap.size 35 3 (.slice v2a t.waiting.length v2c) (t.waiting.map tupCells),slF (.slice Atc t.conns.length Ctc) 25 (t.conns.map conR),hldF t.conns,slF (.slice Atw t.waiting.length Ctw) 3 (t.waiting.map tupCells)]⟩ : St)) y.1 y.2.1 y.2.2.1 y.2.2.2.1 y.2.2.2.2) ?_ ?_
 refine xe_region0 [true,true,false] (by kernel_rfl) (fun ρ σ => ?_)
 refine kTD [0,2,3,4] [21,20,17,1,2,3,4] 8 [(21,.v (.int .i64 (i : Int))),(20,.v (.slice Atc t.conns.length Ctc)),(17,.p 2 0)] ?_
 refine kX 5 (.pointer (some ⟨bb,ob + i * 25,none⟩)) rfl (fun _ _ ww hA => act_ixO (kd := .i64) (T := 30) (e := 68) (K := 25) (b := bb) (off := ob) (N := t.conns.length) (cap := Ctc) i hbb hA rfl rfl (by kernel_rfl) (by kernel_rfl) (by kernel_rfl) hlt ww) ?_
 refine kA [1,6] ⟨?_,?_⟩
 refine kSV 1 (.v (.slice A L.length cap)) rfl ?_
 refine kA [6] ?_
 refine kSR 6 (.agg (conL x (.slice xa x.r.held.length xc)).toArray) rfl (fun _ _ ww hr => ldQ_run (po := 0) (j := i) (row := [.int .i64 x.t.ip,.int .i64 x.t.port,.int .i64 x.t.my,.int .i64 x.state,.int .i64 x.s.una,.string x.s.data,.int .i64 x.s.sent,.bool x.s.fin,.bool x.s.finSent,.bool x.s.done,.int .i64 x.r.next,.string x.r.data,.slice xa x.r.held.length xc,.int .i64 x.r.fin,.bool x.r.done,.int .i64 x.window,.int .i64 x.most,.int .i64 x.o.mss,.int .i64 x.o.scale,.bool x.o.sack,.bool x.o.stamp,.int .i64 x.o.val,.int .i64 x.o.echo,.int .i64 x.timer,.int .i64 x.tries]) (slF (.slice Atc t.conns.length Ctc) 25 (t.conns.map conR)) (fun w h => h) hr rfl (by kernel_rfl) (by simp) (by simp only [List.getElem?_map,hx]; rfl) (by kernel_rfl) hbb) ?_
 refine kA [7] ?_
 refine kSC 7 62 [.agg (conL x (.slice xa x.r.held.length xc)).toArray] (some 24) rfl (xc_r fun ww hw hf => yl19Copy_c x (.slice xa x.r.held.length xc) ww ((hf _ m4) (x,.slice xa x.r.held.length xc) (List.mem_of_getElem? hx)) (by assumption) w.heap.size hw) ?_
 rintro ⟨v4a,v4c⟩
 refine kA [8] ?_
 refine kSH 8 rfl (under_t (under_t (under_f rfl under_nil))) (hv_bK (e := 68) (K := 25) (bytes := 208) [.agg (conL x (.slice v4a x.r.held.length v4c)).toArray] (rs := ([((x,.slice v4a x.r.held.length v4c) : CV)] : List CV).map conR) (by rfl) rfl) ?_
 intro g6
 refine kA [9] ?_
 refine kSH 9 rfl (under_t (under_t (under_f rfl under_nil))) (hv_append (e := 68) (K := 25) (bytes := 208) (i := 3) (q := (L ++ ([((x,.slice v4a x.r.held.length v4c) : CV)] : List CV)).length) (new := ([((x,.slice v4a x.r.held.length v4c) : CV)] : List CV).map conR) (rs' := (L ++ ([((x,.slice v4a x.r.held.length v4c) : CV)] : List CV)).map conR) rfl rfl rfl rfl (by kernel_rfl) (by kernel_rfl) (by kernel_rfl) rfl (by simp) (by rw [List.map_append]) (by simp) (fun ww hf => (rowF_sl (hf (rowF w.heap.size 68 25 (.slice (some ⟨g6,0,none⟩) 1 1) (([((x,.slice v4a x.r.held.length v4c) : CV)] : List CV).map conR)) (by simp)))) (by intro r hr; simp only [List.map_cons,List.map_nil,List.mem_singleton] at hr; subst hr; exact ⟨rfl,by simp [conR,conL,Value.oneCell']⟩) (by (try simp only [List.length_map,List.length_append,List.length_cons,List.length_nil,List.length_take,List.length_drop,maxLen]); omega) (by (try simp only [List.length_map,List.length_append,List.length_cons,List.length_nil,List.length_take,List.length_drop,maxLen]); omega)) ?_
 rintro ⟨v8a,v8c⟩
 refine kTD [10] [27,26,1,2,3,4] 1 [(27,.p 2 0)] ?_
 refine kA [11] ?_
 refine kSS 11 2 0 [.slice v8a ((L ++ ([((x,.slice v4a x.r.held.length v4c) : CV)] : List CV)).length) v8c] rfl ?_
 refine kZ ?_
 exact ⟨(v4a,v4c,v8a,v8c,g6),kF 3 0 [1,2,3,4]⟩
 refine kSR 6 (.agg (conL x (.slice xa x.r.held.length xc)).toArray) rfl (fun _ _ ww hr => ldQ_run (po := 0) (j := i) (row := [.int .i64 x.t.ip,.int .i64 x.t.port,.int .i64 x.t.my,.int .i64 x.state,.int .i64 x.s.una,.string x.s.data,.int .i64 x.s.sent,.bool x.s.fin,.bool x.s.finSent,.bool x.s.done,.int .i64 x.r.next,.string x.r.data,.slice xa x.r.held.length xc,.int .i64 x.r.fin,.bool x.r.done,.int .i64 x.window,.int .i64 x.most,.int .i64 x.o.mss,.int .i64 x.o.scale,.bool x.o.sack,.bool x.o.stamp,.int .i64 x.o.val,.int .i64 x.o.echo,.int .i64 x.timer,.int .i64 x.tries]) (slF (.slice Atc t.conns.length Ctc) 25 (t.conns.map conR)) (fun w h => h) hr rfl (by kernel_rfl) (by simp) (by simp only [List.getElem?_map,hx]; rfl) (by kernel_rfl) hbb) ?_
 refine kA [1,7] ⟨?_,?_⟩
 refine kSV 1 (.v (.slice A L.length cap)) rfl ?_
 refine kA [7] ?_
 refine kSC 7 62 [.agg (conL x (.slice xa x.r.held.length xc)).toArray] (some 24) rfl (xc_r fun ww hw hf => yl19Copy_c x (.slice xa x.r.held.length xc) ww ((hf _ m4) (x,.slice xa x.r.held.length xc) (List.mem_of_getElem? hx)) (by assumption) w.heap.size hw) ?_
 rintro ⟨v9a,v9c⟩
 refine kA [8] ?_
 refine kSH 8 rfl (under_t (under_t (under_f rfl under_nil))) (hv_bK (e := 68) (K := 25) (bytes := 208) [.agg (conL x (.slice v9a x.r.held.length v9c)).toArray] (rs := ([((x,.slice v9a x.r.held.length v9c) : CV)] : List CV).map conR) (by rfl) rfl) ?_
 intro g11
 refine kA [9] ?_
 refine kSH 9 rfl (under_t (under_t (under_f rfl under_nil))) (hv_append (e := 68) (K := 25) (bytes := 208) (i := 3) (q := (L ++ ([((x,.slice v9a x.r.held.length v9c) : CV)] : List CV)).length) (new := ([((x,.slice v9a x.r.held.length v9c) : CV)] : List CV).map conR) (rs' := (L ++ ([((x,.slice v9a x.r.held.length v9c) : CV)] : List CV)).map conR) rfl rfl rfl rfl (by kernel_rfl) (by kernel_rfl) (by kernel_rfl) rfl (by simp) (by rw [List.map_append]) (by simp) (fun ww hf => (rowF_sl (hf (rowF w.heap.size 68 25 (.slice (some ⟨g11,0,none⟩) 1 1) (([((x,.slice v9a x.r.held.length v9c) : CV)] : List CV).map conR)) (by simp)))) (by intro r hr; simp only [List.map_cons,List.map_nil,List.mem_singleton] at hr; subst hr; exact ⟨rfl,by simp [conR,conL,Value.oneCell']⟩) (by (try simp only [List.length_map,List.length_append,List.length_cons,List.length_nil,List.length_take,List.length_drop,maxLen]); omega) (by (try simp only [List.length_map,List.length_append,List.length_cons,List.length_nil,List.length_take,List.length_drop,maxLen]); omega)) ?_
 rintro ⟨v13a,v13c⟩
 refine kTD [10] [27,26,1,2,3,4] 1 [(27,.p 2 0)] ?_
 refine kA [11] ?_
 refine kSS 11 2 0 [.slice v13a ((L ++ ([((x,.slice v9a x.r.held.length v9c) : CV)] : List CV)).length) v13c] rfl ?_
 refine kZ ?_
 exact ⟨(v9a,v9c,v13a,v13c,g11),kF 3 0 [1,2,3,4]⟩
 refine kSC 7 62 [.agg (conL x (.slice xa x.r.held.length xc)).toArray] (some 24) rfl (xc_r fun ww hw hf => yl19Copy_c x (.slice xa x.r.held.length xc) ww ((hf _ m4) (x,.slice xa x.r.held.length xc) (List.mem_of_getElem? hx)) (by assumption) w.heap.size hw) ?_
 rintro ⟨v14a,v14c⟩
 refine kA [1,8] ⟨?_,?_⟩
 refine kSV 1 (.v (.slice A L.length cap)) rfl ?_
 refine kA [8] ?_
 refine kSH 8 rfl (under_t (under_t (under_f rfl under_nil))) (hv_bK (e := 68) (K := 25) (bytes := 208) [.agg (conL x (.slice v14a x.r.held.length v14c)).toArray] (rs := ([((x,.slice v14a x.r.held.length v14c) : CV)] : List CV).map conR) (by rfl) rfl) ?_
 intro g17
 refine kA [9] ?_
 refine kSH 9 rfl (under_t (under_t (under_f rfl under_nil))) (hv_append (e := 68) (K := 25) (bytes := 208) (i := 3) (q := (L ++ ([((x,.slice v14a x.r.held.length v14c) : CV)] : List CV)).length) (new := ([((x,.slice v14a x.r.held.length v14c) : CV)] : List CV).map conR) (rs' := (L ++ ([((x,.slice v14a x.r.held.length v14c) : CV)] : List CV)).map conR) rfl rfl rfl rfl (by kernel_rfl) (by kernel_rfl) (by kernel_rfl) rfl (by simp) (by rw [List.map_append]) (by simp) (fun ww hf => (rowF_sl (hf (rowF w.heap.size 68 25 (.slice (some ⟨g17,0,none⟩) 1 1) (([((x,.slice v14a x.r.held.length v14c) : CV)] : List CV).map conR)) (by simp)))) (by intro r hr; simp only [List.map_cons,List.map_nil,List.mem_singleton] at hr; subst hr; exact ⟨rfl,by simp [conR,conL,Value.oneCell']⟩) (by (try simp only [List.length_map,List.length_append,List.length_cons,List.length_nil,List.length_take,List.length_drop,maxLen]); omega) (by (try simp only [List.length_map,List.length_append,List.length_cons,List.length_nil,List.length_take,List.length_drop,maxLen]); omega)) ?_
 rintro ⟨v19a,v19c⟩
 refine kTD [10] [27,26,1,2,3,4] 1 [(27,.p 2 0)] ?_
 refine kA [11] ?_
 refine kSS 11 2 0 [.slice v19a ((L ++ ([((x,.slice v14a x.r.held.length v14c) : CV)] : List CV)).length) v19c] rfl ?_
 refine kZ ?_
 exact ⟨(v14a,v14c,v19a,v19c,g17),kF 3 0 [1,2,3,4]⟩
 refine kSH 8 rfl (under_t (under_t (under_f rfl under_nil))) (hv_bK (e := 68) (K := 25) (bytes := 208) [.agg (conL x (.slice v14a x.r.held.length v14c)).toArray] (rs := ([((x,.slice v14a x.r.held.length v14c) : CV)] : List CV).map conR) (by rfl) rfl) ?_
 intro g20
 refine kA [1] ?_
 refine kSV 1 (.v (.slice A L.length cap)) rfl ?_
 refine kA [9] ?_
 refine kSH 9 rfl (under_t (under_t (under_f rfl under_nil))) (hv_append (e := 68) (K := 25) (bytes := 208) (i := 3) (q := (L ++ ([((x,.slice v14a x.r.held.length v14c) : CV)] : List CV)).length) (new := ([((x,.slice v14a x.r.held.length v14c) : CV)] : List CV).map conR) (rs' := (L ++ ([((x,.slice v14a x.r.held.length v14c) : CV)] : List CV)).map conR) rfl rfl rfl rfl (by kernel_rfl) (by kernel_rfl) (by kernel_rfl) rfl (by simp) (by rw [List.map_append]) (by simp) (fun ww hf => (rowF_sl (hf (rowF w.heap.size 68 25 (.slice (some ⟨g20,0,none⟩) 1 1) (([((x,.slice v14a x.r.held.length v14c) : CV)] : List CV).map conR)) (by simp)))) (by intro r hr; simp only [List.map_cons,List.map_nil,List.mem_singleton] at hr; subst hr; exact ⟨rfl,by simp [conR,conL,Value.oneCell']⟩) (by (try simp only [List.length_map,List.length_append,List.length_cons,List.length_nil,List.length_take,List.length_drop,maxLen]); omega) (by (try simp only [List.length_map,List.length_append,List.length_cons,List.length_nil,List.length_take,List.length_drop,maxLen]); omega)) ?_
 rintro ⟨v22a,v22c⟩
 refine kTD [10] [27,26,1,2,3,4] 1 [(27,.p 2 0)] ?_
 refine kA [11] ?_
 refine kSS 11 2 0 [.slice v22a ((L ++ ([((x,.slice v14a x.r.held.length v14c) : CV)] : List CV)).length) v22c] rfl ?_
 refine kZ ?_
 exact ⟨(v14a,v14c,v22a,v22c,g20),kF 3 0 [1,2,3,4]⟩
 rintro ⟨v4a,v4c,v8a,v8c,g6⟩
 refine kG ?_
 refine kRF 3 [1,2,3,4] ⟨[(1,.p 0 0),(2,.p 1 0),(3,.p 2 0),(4,.v (.int .i64 (IntKind.i64.wrap ((i : Int) + 1))))],[⟨33,tabL t (.slice Atc t.conns.length Ctc) (.slice Atw t.waiting.length Ctw)⟩,⟨33,[.slice none 0 0,.slice none 0 0]⟩,⟨33,tabL { t with conns := (L ++ ([((x,.slice v4a x.r.held.length v4c) : CV)] : List CV)) } (.slice v8a ((L ++ ([((x,.slice v4a x.r.held.length v4c) : CV)] : List CV)).length) v8c) (.slice v2a t.waiting.length v2c)⟩],[],[rowF w.heap.size 68 25 (.slice v8a ((L ++ ([((x,.slice v4a x.r.held.length v4c) : CV)] : List CV)).length) v8c) ((L ++ ([((x,.slice v4a x.r.held.length v4c) : CV)] : List CV)).map conR),rowF w.heap.size 68 25 (.slice (some ⟨g6,0,none⟩) 1 1) (([((x,.slice v4a x.r.held.length v4c) : CV)] : List CV).map conR),ownF w.heap.size (.slice v4a x.r.held.length v4c) 2 (x.r.held.map pceCells),hownF w.heap.size L,rowF w.heap.size 35 3 (.slice v2a t.waiting.length v2c) (t.waiting.map tupCells),slF (.slice Atc t.conns.length Ctc) 25 (t.conns.map conR),hldF t.conns,slF (.slice Atw t.waiting.length Ctw) 3 (t.waiting.map tupCells)]⟩ ?_
 refine xl_nv [1,2,3,4] [(4,.v (.int .i64 (IntKind.i64.wrap ((i : Int) + 1))))] [(4,.v (.int .i64 ((i : Int) + 1)))] (by rw [show (IntKind.i64.wrap ((i : Int) + 1)) = ((i : Int) + 1) from wrap_id (by omega) (by omega)]) (by kernel_rfl) ?_
 refine kED [1,2,3,4] [] ?_
 exact ⟨⟨(i + 1,(L ++ ([((x,.slice v4a x.r.held.length v4c) : CV)] : List CV)),v8a,v8c),⟨hlt,pl_snoc HL hx⟩⟩,kPk [2,3,0,4,5,6,7] <| (wk_turn (fun _ _ _ _ h => hown_snoc (cs := L) (x := ((x,.slice v4a x.r.held.length v4c) : CV)) h)).trans <| kF 3 0 [1,2,3,4],by show (fun (i : Nat) (L : List CV) (A : Option Addr) (cap : Nat) => t.conns.length - i) (i + 1) (L ++ ([((x,.slice v4a x.r.held.length v4c) : CV)] : List CV)) v8a v8c < t.conns.length - i; (dsimp only; omega)⟩
 have h3p := of_decide_eq_false h3
 have hge : i = t.conns.length := by simp at h3; omega
 refine xw_exit ?_
 refine kQ ?_
 refine kEU [2] [(2,.p 1 0)] 1 ⟨33,tabL { t with conns := L } (.slice A L.length cap) (.slice v2a t.waiting.length v2c)⟩ ?_
 refine kR ?_
 have hmc : pl L = pl t.conns := by exact pl_take_all HL hge
 exact ⟨[.agg (tabL { t with conns := L } (.slice A L.length cap) (.slice v2a t.waiting.length v2c)).toArray],by kernel_rfl,fun w' hb hf ha => by exact xo3 (⟨L,hmc⟩,(A,cap),(v2a,v2c)) rfl rfl (pW (hf _ m1) hB) (pH (hf _ m0) hB) (pW (hf _ m2) hB) (Apart.sub3 ha [1,0,2] rfl (by decide) rfl rfl rfl (by exact fun b h => h) (fun b h => hownF_blk h) (by exact fun b h => h)) hb⟩
theorem ycloneTable_c (t : Tab) (t_connsV : Value) (t_waitingV : Value) (w : World) (hl_t_connsV : Sl w t_connsV 25 (t.conns.map conR)) (hh_t_connsV : ∀ x ∈ t.conns, Sl w x.2 2 (x.1.r.held.map pceCells)) (hl_t_waitingV : Sl w t_waitingV 3 (t.waiting.map tupCells)) (hfit : ∀ x ∈ t.conns, conFit x.1) (hln : t.conns.length ≤ 1048576) (hlw : t.waiting.length ≤ 1048576) (B : Nat) (hB : B ≤ w.heap.size) : Calls Try.prog 55 #[.agg (tabL t t_connsV t_waitingV).toArray] w fun e w' => XRs w w' e (α := {cs : List CV // pl cs = pl t.conns} × (Option Addr × Nat) × (Option Addr × Nat)) (fun y => .agg #[.slice y.2.1.1 y.1.1.length y.2.1.2, .slice y.2.2.1 t.waiting.length y.2.2.2]) (fun y => [rowF B 68 25 (.slice y.2.1.1 y.1.1.length y.2.1.2) (y.1.1.map conR), hownF B y.1.1, rowF B 35 3 (.slice y.2.2.1 t.waiting.length y.2.2.2) (t.waiting.map tupCells)]) := by
 obtain ⟨Atc,Ctc,hvtc⟩ := hl_t_connsV.form
 rw [List.length_map] at hvtc; subst hvtc
 have hntc := hl_t_connsV.len; rw [List.length_map] at hntc
 have hqtc := Sl.capLe hl_t_connsV
 obtain ⟨Atw,Ctw,hvtw⟩ := hl_t_waitingV.form
 rw [List.length_map] at hvtw; subst hvtw
 have hntw := hl_t_waitingV.len; rw [List.length_map] at hntw
 have hqtw := Sl.capLe hl_t_waitingV
 refine x_callsA (args := [.agg (tabL t (.slice Atc t.conns.length Ctc) (.slice Atw t.waiting.length Ctw)).toArray]) (fn := Try.f55) [slF (.slice Atc t.conns.length Ctc) 25 (t.conns.map conR),hldF t.conns,slF (.slice Atw t.waiting.length Ctw) 3 (t.waiting.map tupCells)] Try.func55 rfl Try.ntmps55 rfl (by simp only [List.mem_cons,List.not_mem_nil,or_false,forall_eq_or_imp,forall_eq]; exact ⟨⟨rfl,hl_t_connsV⟩,⟨rfl,hh_t_connsV⟩,⟨rfl,hl_t_waitingV⟩⟩) ?_
 refine kQ ?_
 refine kEF [1,2] ⟨[(1,.p 0 0),(2,.p 1 0)],[⟨33,tabL t (.slice Atc t.conns.length Ctc) (.slice Atw t.waiting.length Ctw)⟩,⟨33,[.slice none 0 0,.slice none 0 0]⟩],[],[slF (.slice Atc t.conns.length Ctc) 25 (t.conns.map conR),hldF t.conns,slF (.slice Atw t.waiting.length Ctw) 3 (t.waiting.map tupCells)]⟩ ?_
 refine kQ ?_
 refine kCD 2 [1,2,7] [(7,.v (.slice Atw t.waiting.length Ctw))] 89 [.slice Atw t.waiting.length Ctw] (some 8) rfl (xc_r fun ww hw hf => yCloneTuple_c t.waiting (.slice Atw t.waiting.length Ctw) ww (hf _ m2) (by assumption) w.heap.size hw) ?_
 rintro ⟨v1a,v1c⟩
 refine kOD 0 [1,2,8] [] (.agg (tabL { t with conns := [] } (.slice none 0 0) (.slice v1a t.waiting.length v1c)).toArray) rfl (fun _ _ _ ww hr => act_build [(1,.slice v1a t.waiting.length v1c)] hr.1 rfl (by kernel_rfl) (by kernel_rfl) ww) ?_
 refine kEA [1,2,3] [(3,.p 2 0)] [⟨33,tabL { t with conns := [] } (.slice none 0 0) (.slice v1a t.waiting.length v1c)⟩] ?_
 refine kS ?_
 refine kQ ?_
 refine kED [2,3,11,12,13] [(11,.v (.slice Atc t.conns.length Ctc)),(12,.v (.int .i64 ((t.conns.length : Nat) : Int))),(13,.v (.int .i64 0))] ?_
 refine xw_block ?_
 refine xw_free (rowF w.heap.size 68 25 (.slice none 0 0) []) (fun ww hww => nilF_p _ _ ww hww) (fun b => nilF_b _ _ _ b) ?_
 refine xw_free (hownF w.heap.size ([])) hownF_nilp (fun b => hownF_nob) ?_
 refine xw_loopW (α := {x : Nat × List CV × Option Addr × Nat // (fun (i : Nat) (L : List CV) (A : Option Addr) (cap : Nat) => i ≤ t.conns.length ∧ pl L = (pl t.conns).take i) x.1 x.2.1 x.2.2.1 x.2.2.2}) (fun x => (fun (i : Nat) (L : List CV) (A : Option Addr) (cap : Nat) => (⟨[(2,.p 1 0),(3,.p 2 0),(11,.v (.slice Atc t.conns.length Ctc)),(12,.v (.int .i64 ((t.conns.length : Nat) : Int))),(13,.v (.int .i64 (i : Int)))],[⟨33,tabL t (.slice Atc t.conns.length Ctc) (.slice Atw t.waiting.length Ctw)⟩,⟨33,[.slice none 0 0,.slice none 0 0]⟩,⟨33,tabL { t with conns := L } (.slice A L.length cap) (.slice v1a t.waiting.length v1c)⟩],[],[hownF w.heap.size L,rowF w.heap.size 68 25 (.slice A L.length cap) (L.map conR),rowF w.heap.size 35 3 (.slice v1a t.waiting.length v1c) (t.waiting.map tupCells),slF (.slice Atc t.conns.length Ctc) 25 (t.conns.map conR),hldF t.conns,slF (.slice Atw t.waiting.length Ctw) 3 (t.waiting.map tupCells)]⟩ : St)) x.1.1 x.1.2.1 x.1.2.2.1 x.1.2.2.2) (fun x => (fun (i : Nat) (L : List CV) (A : Option Addr) (cap : Nat) => t.conns.length - i) x.1.1 x.1.2.1 x.1.2.2.1 x.1.2.2.2) ⟨(0,([] : List CV),none,0),⟨Nat.zero_le _,rfl⟩⟩ (kF 3 0 [2,3,11,12,13]) ?_
 rintro ⟨⟨i,L,A,cap⟩,hi,HL⟩
 try dsimp only
 try dsimp only at hi HL
 refine kQ ?_
 refine kED [2,3,11,12,13,14] [(14,.v (.bool (decide ((i : Int) < ((t.conns.length : Nat) : Int)))))] ?_
 refine kS ?_
 refine kC (decide ((i : Int) < ((t.conns.length : Nat) : Int))) (fun h2 => ?_) (fun h2 => ?_)
 have h2p := of_decide_eq_true h2
 have hlt : i < t.conns.length := by simpa using h2
 obtain ⟨x0,hx⟩ : ∃ x,t.conns[i]? = some x := ⟨_,List.getElem?_eq_getElem hlt⟩
 obtain ⟨x,xa,xc,rfl⟩ := cv_form (hh_t_connsV x0 (List.mem_of_getElem? hx))
 have hft_x : conFit x := hfit _ (List.mem_of_getElem? hx)
 obtain ⟨hfs_x,hfr_x,hfh_x,hfp_x⟩ := hft_x
 have hLl := pl_take_len HL hi
 refine kK ?_
 refine kS ?_
 refine xw_block ?_
 refine kQ ?_
 refine xl_indexD (kd := .i64) (T := 30) (e := 68) (K := 25) 0 [2,3,11,12,13] [] i [.int .i64 x.t.ip,.int .i64 x.t.port,.int .i64 x.t.my,.int .i64 x.state,.int .i64 x.s.una,.string x.s.data,.int .i64 x.s.sent,.bool x.s.fin,.bool x.s.finSent,.bool x.s.done,.int .i64 x.r.next,.string x.r.data,.slice xa x.r.held.length xc,.int .i64 x.r.fin,.bool x.r.done,.int .i64 x.window,.int .i64 x.most,.int .i64 x.o.mss,.int .i64 x.o.scale,.bool x.o.sack,.bool x.o.stamp,.int .i64 x.o.val,.int .i64 x.o.echo,.int .i64 x.timer,.int .i64 x.tries] (slF (.slice Atc t.conns.length Ctc) 25 (t.conns.map conR)) (by kernel_rfl) rfl (by kernel_rfl) rfl rfl (by kernel_rfl) (by kernel_rfl) (by kernel_rfl) (by kernel_rfl) hlt (by simp) (fun w h => h) (fun b h => h) (by simp only [List.getElem?_map,hx]; rfl) ?_
 refine kEA [2,3,5,11,12,13] [(5,.p 3 0)] [⟨68,conL x (.slice xa x.r.held.length xc)⟩] ?_
 refine xw_joinE (α := Option Addr × Nat × Option Addr × Nat × Nat) (fun y => (fun (v3a : Option Addr) (v3c : Nat) (v7a : Option Addr) (v7c : Nat) (g5 : Nat) => (⟨[(2,.p 1 0),(3,.p 2 0),(11,.v (.slice Atc t.conns.length Ctc)),(12,.v (.int .i64 ((t.conns.length : Nat) : Int))),(13,.v (.int .i64 (i : Int)))],[⟨33,tabL t (.slice Atc t.conns.length Ctc) (.slice Atw t.waiting.length Ctw)⟩,⟨33,[.slice none 0 0,.slice none 0 0]⟩,⟨33,tabL { t with conns := (L ++ ([((x,.slice v3a x.r.held.length v3c) : CV)] : List CV)) } (.slice v7a ((L ++ ([((x,.slice v3a x.r.held.length v3c) : CV)] : List CV)).length) v7c) (.slice v1a t.waiting.length v1c)⟩,⟨68,conL x (.slice xa x.r.held.length xc)⟩],[],[rowF w.heap.size 68 25 (.slice v7a ((L ++ ([((x,.slice v3a x.r.held.length v3c) : CV)] : List CV)).length) v7c) ((L ++ ([((x,.slice v3a x.r.held.length v3c) : CV)] : List CV)).map conR),rowF w.heap.size 68 25 (.slice (some ⟨g5,0,none⟩) 1 1) (([((x,.slice v3a x.r.held.length v3c) : CV)] : List CV).map conR),ownF w.heap.size (.slice v3a x.r.held.length v3c) 2 (x.r.held.map pceCells),hownF w.heap.size L,rowF w.heap.size 35 3 (.slice v1a t.waiting.length v1c) (t.waiting.map tupCells),slF (.slice Atc t.conns.length Ctc) 25 (t.conns.map conR),hldF t.conns,slF (.slice Atw t.waiting.length Ctw) 3 (t.waiting.map tupCells)]⟩ : St)) y.1 y.2.1 y.2.2.1 y.2.2.2.1 y.2.2.2.2) ?_ ?_
 refine xe_region0 [true,true,false,true] (by kernel_rfl) (fun ρ σ => ?_)
 refine kTD [0,2] [19,17,2,3,11,12,13] 6 [(19,.v (.agg (conL x (.slice xa x.r.held.length xc)).toArray)),(17,.p 2 0)] ?_
 refine kA [1,3] ⟨?_,?_⟩
 refine kSV 1 (.v (.slice A L.length cap)) rfl ?_
 refine kA [3] ?_
 refine kSC 3 66 [.agg (conL x (.slice xa x.r.held.length xc)).toArray] (some 20) rfl (xc_r fun ww hw hf => ycloneConn_c x (.slice xa x.r.held.length xc) ww ((hf _ m4) (x,.slice xa x.r.held.length xc) (List.mem_of_getElem? hx)) (by assumption) w.heap.size hw) ?_
 rintro ⟨v3a,v3c⟩
 refine kA [4] ?_
 refine kSH 4 rfl (under_t (under_t (under_f rfl (under_t under_nil)))) (hv_bK (e := 68) (K := 25) (bytes := 208) [.agg (conL x (.slice v3a x.r.held.length v3c)).toArray] (rs := ([((x,.slice v3a x.r.held.length v3c) : CV)] : List CV).map conR) (by rfl) rfl) ?_
 intro g5
 refine kA [5] ?_
 refine kSH 5 rfl (under_t (under_t (under_f rfl (under_t under_nil)))) (hv_append (e := 68) (K := 25) (bytes := 208) (i := 3) (q := (L ++ ([((x,.slice v3a x.r.held.length v3c) : CV)] : List CV)).length) (new := ([((x,.slice v3a x.r.held.length v3c) : CV)] : List CV).map conR) (rs' := (L ++ ([((x,.slice v3a x.r.held.length v3c) : CV)] : List CV)).map conR) rfl rfl rfl rfl (by kernel_rfl) (by kernel_rfl) (by kernel_rfl) rfl (by simp) (by rw [List.map_append]) (by simp) (fun ww hf => (rowF_sl (hf (rowF w.heap.size 68 25 (.slice (some ⟨g5,0,none⟩) 1 1) (([((x,.slice v3a x.r.held.length v3c) : CV)] : List CV).map conR)) (by simp)))) (by intro r hr; simp only [List.map_cons,List.map_nil,List.mem_singleton] at hr; subst hr; exact ⟨rfl,by simp [conR,conL,Value.oneCell']⟩) (by (try simp only [List.length_map,List.length_append,List.length_cons,List.length_nil,List.length_take,List.length_drop,maxLen]); omega) (by (try simp only [List.length_map,List.length_append,List.length_cons,List.length_nil,List.length_take,List.length_drop,maxLen]); omega)) ?_
 rintro ⟨v7a,v7c⟩
 refine kTD [6] [23,22,2,3,11,12,13] 1 [(23,.p 2 0)] ?_
 refine kA [7] ?_
 refine kSS 7 2 0 [.slice v7a ((L ++ ([((x,.slice v3a x.r.held.length v3c) : CV)] : List CV)).length) v7c] rfl ?_
 refine kZ ?_
 exact ⟨(v3a,v3c,v7a,v7c,g5),kF 4 0 [2,3,11,12,13]⟩
 refine kSC 3 66 [.agg (conL x (.slice xa x.r.held.length xc)).toArray] (some 20) rfl (xc_r fun ww hw hf => ycloneConn_c x (.slice xa x.r.held.length xc) ww ((hf _ m4) (x,.slice xa x.r.held.length xc) (List.mem_of_getElem? hx)) (by assumption) w.heap.size hw) ?_
 rintro ⟨v8a,v8c⟩
 refine kA [1,4] ⟨?_,?_⟩
 refine kSV 1 (.v (.slice A L.length cap)) rfl ?_
 refine kA [4] ?_
 refine kSH 4 rfl (under_t (under_t (under_f rfl (under_t under_nil)))) (hv_bK (e := 68) (K := 25) (bytes := 208) [.agg (conL x (.slice v8a x.r.held.length v8c)).toArray] (rs := ([((x,.slice v8a x.r.held.length v8c) : CV)] : List CV).map conR) (by rfl) rfl) ?_
 intro g11
 refine kA [5] ?_
 refine kSH 5 rfl (under_t (under_t (under_f rfl (under_t under_nil)))) (hv_append (e := 68) (K := 25) (bytes := 208) (i := 3) (q := (L ++ ([((x,.slice v8a x.r.held.length v8c) : CV)] : List CV)).length) (new := ([((x,.slice v8a x.r.held.length v8c) : CV)] : List CV).map conR) (rs' := (L ++ ([((x,.slice v8a x.r.held.length v8c) : CV)] : List CV)).map conR) rfl rfl rfl rfl (by kernel_rfl) (by kernel_rfl) (by kernel_rfl) rfl (by simp) (by rw [List.map_append]) (by simp) (fun ww hf => (rowF_sl (hf (rowF w.heap.size 68 25 (.slice (some ⟨g11,0,none⟩) 1 1) (([((x,.slice v8a x.r.held.length v8c) : CV)] : List CV).map conR)) (by simp)))) (by intro r hr; simp only [List.map_cons,List.map_nil,List.mem_singleton] at hr; subst hr; exact ⟨rfl,by simp [conR,conL,Value.oneCell']⟩) (by (try simp only [List.length_map,List.length_append,List.length_cons,List.length_nil,List.length_take,List.length_drop,maxLen]); omega) (by (try simp only [List.length_map,List.length_append,List.length_cons,List.length_nil,List.length_take,List.length_drop,maxLen]); omega)) ?_
 rintro ⟨v13a,v13c⟩
 refine kTD [6] [23,22,2,3,11,12,13] 1 [(23,.p 2 0)] ?_
 refine kA [7] ?_
 refine kSS 7 2 0 [.slice v13a ((L ++ ([((x,.slice v8a x.r.held.length v8c) : CV)] : List CV)).length) v13c] rfl ?_
 refine kZ ?_
 exact ⟨(v8a,v8c,v13a,v13c,g11),kF 4 0 [2,3,11,12,13]⟩
 refine kSH 4 rfl (under_t (under_t (under_f rfl (under_t under_nil)))) (hv_bK (e := 68) (K := 25) (bytes := 208) [.agg (conL x (.slice v8a x.r.held.length v8c)).toArray] (rs := ([((x,.slice v8a x.r.held.length v8c) : CV)] : List CV).map conR) (by rfl) rfl) ?_
 intro g14
 refine kA [1] ?_
 refine kSV 1 (.v (.slice A L.length cap)) rfl ?_
 refine kA [5] ?_
 refine kSH 5 rfl (under_t (under_t (under_f rfl (under_t under_nil)))) (hv_append (e := 68) (K := 25) (bytes := 208) (i := 3) (q := (L ++ ([((x,.slice v8a x.r.held.length v8c) : CV)] : List CV)).length) (new := ([((x,.slice v8a x.r.held.length v8c) : CV)] : List CV).map conR) (rs' := (L ++ ([((x,.slice v8a x.r.held.length v8c) : CV)] : List CV)).map conR) rfl rfl rfl rfl (by kernel_rfl) (by kernel_rfl) (by kernel_rfl) rfl (by simp) (by rw [List.map_append]) (by simp) (fun ww hf => (rowF_sl (hf (rowF w.heap.size 68 25 (.slice (some ⟨g14,0,none⟩) 1 1) (([((x,.slice v8a x.r.held.length v8c) : CV)] : List CV).map conR)) (by simp)))) (by intro r hr; simp only [List.map_cons,List.map_nil,List.mem_singleton] at hr; subst hr; exact ⟨rfl,by simp [conR,conL,Value.oneCell']⟩) (by (try simp only [List.length_map,List.length_append,List.length_cons,List.length_nil,List.length_take,List.length_drop,maxLen]); omega) (by (try simp only [List.length_map,List.length_append,List.length_cons,List.length_nil,List.length_take,List.length_drop,maxLen]); omega)) ?_
 rintro ⟨v16a,v16c⟩
 refine kTD [6] [23,22,2,3,11,12,13] 1 [(23,.p 2 0)] ?_
 refine kA [7] ?_
 refine kSS 7 2 0 [.slice v16a ((L ++ ([((x,.slice v8a x.r.held.length v8c) : CV)] : List CV)).length) v16c] rfl ?_
 refine kZ ?_
 exact ⟨(v8a,v8c,v16a,v16c,g14),kF 4 0 [2,3,11,12,13]⟩
 rintro ⟨v3a,v3c,v7a,v7c,g5⟩
 refine kG ?_
 refine kRF 2 [2,3,11,12,13] ⟨[(2,.p 1 0),(3,.p 2 0),(11,.v (.slice Atc t.conns.length Ctc)),(12,.v (.int .i64 ((t.conns.length : Nat) : Int))),(13,.v (.int .i64 (IntKind.i64.wrap ((i : Int) + 1))))],[⟨33,tabL t (.slice Atc t.conns.length Ctc) (.slice Atw t.waiting.length Ctw)⟩,⟨33,[.slice none 0 0,.slice none 0 0]⟩,⟨33,tabL { t with conns := (L ++ ([((x,.slice v3a x.r.held.length v3c) : CV)] : List CV)) } (.slice v7a ((L ++ ([((x,.slice v3a x.r.held.length v3c) : CV)] : List CV)).length) v7c) (.slice v1a t.waiting.length v1c)⟩,⟨68,conL x (.slice xa x.r.held.length xc)⟩],[],[rowF w.heap.size 68 25 (.slice v7a ((L ++ ([((x,.slice v3a x.r.held.length v3c) : CV)] : List CV)).length) v7c) ((L ++ ([((x,.slice v3a x.r.held.length v3c) : CV)] : List CV)).map conR),rowF w.heap.size 68 25 (.slice (some ⟨g5,0,none⟩) 1 1) (([((x,.slice v3a x.r.held.length v3c) : CV)] : List CV).map conR),ownF w.heap.size (.slice v3a x.r.held.length v3c) 2 (x.r.held.map pceCells),hownF w.heap.size L,rowF w.heap.size 35 3 (.slice v1a t.waiting.length v1c) (t.waiting.map tupCells),slF (.slice Atc t.conns.length Ctc) 25 (t.conns.map conR),hldF t.conns,slF (.slice Atw t.waiting.length Ctw) 3 (t.waiting.map tupCells)]⟩ ?_
 refine xl_nv [2,3,11,12,13] [(13,.v (.int .i64 (IntKind.i64.wrap ((i : Int) + 1))))] [(13,.v (.int .i64 ((i : Int) + 1)))] (by rw [show (IntKind.i64.wrap ((i : Int) + 1)) = ((i : Int) + 1) from wrap_id (by omega) (by omega)]) (by kernel_rfl) ?_
 refine kED [2,3,11,12,13] [] ?_
 exact ⟨⟨(i + 1,(L ++ ([((x,.slice v3a x.r.held.length v3c) : CV)] : List CV)),v7a,v7c),⟨hlt,pl_snoc HL hx⟩⟩,kPk [2,3,0,4,5,6,7] <| (wk_turn (fun _ _ _ _ h => hown_snoc (cs := L) (x := ((x,.slice v3a x.r.held.length v3c) : CV)) h)).trans <| kF 3 0 [2,3,11,12,13],by show (fun (i : Nat) (L : List CV) (A : Option Addr) (cap : Nat) => t.conns.length - i) (i + 1) (L ++ ([((x,.slice v3a x.r.held.length v3c) : CV)] : List CV)) v7a v7c < t.conns.length - i; (dsimp only; omega)⟩
 have h2p := of_decide_eq_false h2
 have hge : i = t.conns.length := by simp at h2; omega
 refine xw_exit ?_
 refine kQ ?_
 refine kEU [2] [(2,.p 1 0)] 1 ⟨33,tabL { t with conns := L } (.slice A L.length cap) (.slice v1a t.waiting.length v1c)⟩ ?_
 refine kR ?_
 have hmc : pl L = pl t.conns := by exact pl_take_all HL hge
 exact ⟨[.agg (tabL { t with conns := L } (.slice A L.length cap) (.slice v1a t.waiting.length v1c)).toArray],by kernel_rfl,fun w' hb hf ha => by exact xo3 (⟨L,hmc⟩,(A,cap),(v1a,v1c)) rfl rfl (pW (hf _ m1) hB) (pH (hf _ m0) hB) (pW (hf _ m2) hB) (Apart.sub3 ha [1,0,2] rfl (by decide) rfl rfl rfl (by exact fun b h => h) (fun b h => hownF_blk h) (by exact fun b h => h)) hb⟩
theorem ysTakeWaiting_c (t : Tab) (t_connsV : Value) (t_waitingV : Value) (w : World) (hl_t_connsV : Sl w t_connsV 25 (t.conns.map conR)) (hh_t_connsV : ∀ x ∈ t.conns, Sl w x.2 2 (x.1.r.held.map pceCells)) (hl_t_waitingV : Sl w t_waitingV 3 (t.waiting.map tupCells)) (hfit : ∀ x ∈ t.conns, conFit x.1) (hln : t.conns.length ≤ 1048576) (hlw : t.waiting.length ≤ 1048576) (B : Nat) (hB : B ≤ w.heap.size) : Calls Try.prog 21 #[.agg (tabL t t_connsV t_waitingV).toArray] w fun e w' => XRs w w' e (α := {cs : List CV // pl cs = pl t.conns} × (Option Addr × Nat) × (Option Addr × Nat)) (fun y => .tuple #[.agg #[.slice y.2.1.1 y.1.1.length y.2.1.2, .slice y.2.2.1 ((takeW t).length) y.2.2.2], .agg (tupL (t.waiting.headD ⟨0, 0, 0⟩)).toArray, .bool (!t.waiting.isEmpty)]) (fun y => [rowF B 68 25 (.slice y.2.1.1 y.1.1.length y.2.1.2) (y.1.1.map conR), hownF B y.1.1, rowF B 35 3 (.slice y.2.2.1 ((takeW t).length) y.2.2.2) ((takeW t).map tupCells)]) := by
 obtain ⟨Atc,Ctc,hvtc⟩ := hl_t_connsV.form
 rw [List.length_map] at hvtc; subst hvtc
 have hntc := hl_t_connsV.len; rw [List.length_map] at hntc
 have hqtc := Sl.capLe hl_t_connsV
 obtain ⟨Atw,Ctw,hvtw⟩ := hl_t_waitingV.form
 rw [List.length_map] at hvtw; subst hvtw
 have hntw := hl_t_waitingV.len; rw [List.length_map] at hntw
 have hqtw := Sl.capLe hl_t_waitingV
 refine x_callsA (args := [.agg (tabL t (.slice Atc t.conns.length Ctc) (.slice Atw t.waiting.length Ctw)).toArray]) (fn := Try.f21) [slF (.slice Atc t.conns.length Ctc) 25 (t.conns.map conR),hldF t.conns,slF (.slice Atw t.waiting.length Ctw) 3 (t.waiting.map tupCells)] Try.func21 rfl Try.ntmps21 rfl (by simp only [List.mem_cons,List.not_mem_nil,or_false,forall_eq_or_imp,forall_eq]; exact ⟨⟨rfl,hl_t_connsV⟩,⟨rfl,hh_t_connsV⟩,⟨rfl,hl_t_waitingV⟩⟩) ?_
 refine kQ ?_
 refine kEF [1,2,3] ⟨[(1,.p 0 0),(2,.p 1 0),(3,.p 2 0)],[⟨33,tabL t (.slice Atc t.conns.length Ctc) (.slice Atw t.waiting.length Ctw)⟩,⟨33,[.slice none 0 0,.slice none 0 0]⟩,⟨35,tupL (⟨0,0,0⟩ : Tup)⟩],[],[slF (.slice Atc t.conns.length Ctc) 25 (t.conns.map conR),hldF t.conns,slF (.slice Atw t.waiting.length Ctw) 3 (t.waiting.map tupCells)]⟩ ?_
 refine kQ ?_
 refine kCD 1 [1,2,3,6] [(6,.v (.agg (tabL t (.slice Atc t.conns.length Ctc) (.slice Atw t.waiting.length Ctw)).toArray))] 54 [.agg (tabL t (.slice Atc t.conns.length Ctc) (.slice Atw t.waiting.length Ctw)).toArray] (some 7) rfl (xc_r fun ww hw hf => yl25Copy_c t (.slice Atc t.conns.length Ctc) (.slice Atw t.waiting.length Ctw) ww (hf _ m0) (hf _ m1) (hf _ m2) (by first | assumption | (dsimp only; assumption)) (by first | assumption | omega | (dsimp only; omega)) (by first | assumption | omega | (dsimp only; omega)) w.heap.size hw) ?_
 rintro ⟨⟨t1l,ht1l⟩,⟨t1a,t1c⟩,⟨t1d,t1e⟩⟩
 dsimp only
 have hfit_t1l : ∀ x ∈ t1l,conFit x.1 := conFit_pl ht1l (by assumption)
 have hlen_t1l := pl_len ht1l
 refine kEA [1,2,3,5] [(5,.p 3 0)] [⟨33,tabL { t with conns := t1l } (.slice t1a t1l.length t1c) (.slice t1d t.waiting.length t1e)⟩] ?_
 refine kS ?_
 refine kQ ?_
 refine kED [1,2,3,5,11] [(11,.v (.bool (((t.waiting.length : Nat) : Int) == 0)))] ?_
 refine kC (((t.waiting.length : Nat) : Int) == 0) (fun h2 => ?_) (fun h2 => ?_)
 have h2p := eqT h2
 have hnil : t.waiting = [] := List.eq_nil_of_length_eq_zero (by have := eqT h2; omega)
 refine kQ ?_
 refine kOD 1 [2,3,12] [(12,.v (.agg (tabL { t with conns := t1l } (.slice t1a t1l.length t1c) (.slice t1d t.waiting.length t1e)).toArray))] (.agg (tupL (⟨0,0,0⟩ : Tup)).toArray) rfl (fun _ _ _ ww hr => act_build [] hr.1 rfl (by kernel_rfl) (by kernel_rfl) ww) ?_
 refine kEU [2,3,4] [(4,.v (.bool false))] 1 ⟨33,tabL { t with conns := t1l } (.slice t1a t1l.length t1c) (.slice t1d t.waiting.length t1e)⟩ ?_
 refine kR ?_
 have hmc : pl t1l = pl t.conns := by exact ht1l
 have hmw : (takeW t) = t.waiting := by unfold takeW; rw [hnil]; rfl
 have hm0 : (t.waiting.headD ⟨0,0,0⟩) = (⟨0,0,0⟩) := by first | (rw [hnil]; rfl) | (cases hw : t.waiting with | nil => rw [hw] at hx; cases hx | cons y r => rw [hw] at hx; simpa using hx)
 have hm1 : (!t.waiting.isEmpty) = false := by first | (rw [hnil]; rfl) | (cases hw : t.waiting with | nil => rw [hw] at hx; cases hx | cons y r => rfl)
 exact ⟨[.agg (tabL { t with conns := t1l } (.slice t1a t1l.length t1c) (.slice t1d t.waiting.length t1e)).toArray,.agg (tupL (⟨0,0,0⟩ : Tup)).toArray,.bool false],by kernel_rfl,fun w' hb hf ha => by rw [hmw,hm0,hm1]; exact xo3 (⟨t1l,hmc⟩,(t1a,t1c),(t1d,t1e)) rfl rfl (pW (hf _ m0) hB) (pH (hf _ m1) hB) (pW (hf _ m2) hB) (Apart.sub3 ha [0,1,2] rfl (by decide) rfl rfl rfl (by exact fun b h => h) (fun b h => hownF_blk h) (by exact fun b h => h)) hb⟩
 have h2p := eqF h2
 have hpos : 0 < t.waiting.length := by have := eqF h2; omega
 obtain ⟨x,hx⟩ : ∃ x,t.waiting[0]? = some x := ⟨_,List.getElem?_eq_getElem hpos⟩
 have hwl := takeW_len t
 refine kK ?_
 refine kQ ?_
 refine kHD 0 [1,2,3,5] [] rfl (hv_bK (e := 35) (K := 3) (bytes := 24) [] (rs := ([] : List Tup).map tupCells) rfl rfl) ?_
 intro g3
 refine kOD 2 [1,2,3,5,14,16] [(16,.v (.slice Atw t.waiting.length Ctw))] (.slice (if Ctw = 1 then Atw else Atw.map (·.add (1 * 3))) (t.waiting.length - 1) (Ctw - 1)) rfl (fun _ _ _ ww hr => act_slVe (e := 35) 1 hr.1 rfl (by kernel_rfl) (by kernel_rfl) rfl rfl rfl (by omega) ww) ?_
 refine kHD 0 [1,2,3,5,14,17] [] rfl (hv_append (e := 35) (K := 3) (bytes := 24) (i := 0) (q := ((t.waiting.drop 1).take (t.waiting.length - 1)).length) (new := ((t.waiting.drop 1).take (t.waiting.length - 1)).map tupCells) (rs' := ((t.waiting.drop 1).take (t.waiting.length - 1)).map tupCells) rfl rfl rfl rfl (by kernel_rfl) (by kernel_rfl) (by kernel_rfl) rfl (by first | (simp; done) | (simp; omega)) rfl (by first | (simp; done) | (simp; omega)) (fun ww hf => (Sl.partM (hf (slF (.slice Atw t.waiting.length Ctw) 3 (t.waiting.map tupCells)) (by simp)) 1 t.waiting.length (by omega) (by omega))) (by intro r hr; obtain ⟨x,hx,rfl⟩ := List.mem_map.1 hr; exact ⟨rfl,by simp [tupCells,Value.oneCell']⟩) (by (try simp only [List.length_map,List.length_append,List.length_cons,List.length_nil,List.length_take,List.length_drop,maxLen]); omega) (by (try simp only [List.length_map,List.length_append,List.length_cons,List.length_nil,List.length_take,List.length_drop,maxLen]); omega)) ?_
 rintro ⟨v4a,v4c⟩
 refine kEU [1,2,3,5] [] 3 ⟨33,[.slice t1a t1l.length t1c,.slice v4a (((t.waiting.drop 1).take (t.waiting.length - 1)).length) v4c]⟩ ?_
 refine kS ?_
 refine xws_start ?_
 refine xws_row (K := 3) (j := 0) [.int .i64 x.ip,.int .i64 x.port,.int .i64 x.my] (slF (.slice Atw t.waiting.length Ctw) 3 (t.waiting.map tupCells)) (fun _ _ h => h) (by simp) (fun w h => h) (fun b h => h) (by simp only [List.getElem?_map,hx]; rfl) (fun bq5 offq5 hAq5 => ?_)
 refine xws_regionE [true,false,false,true] (by kernel_rfl) (fun ρ σ hq6 => ?_)
 refine kTD [0,1,2] [22,20,2,3] 5 [(22,.v (.slice Atw t.waiting.length Ctw)),(20,.v (.agg #[.slice t1a t1l.length t1c,.slice v4a (((t.waiting.drop 1).take (t.waiting.length - 1)).length) v4c]))] ?_
 refine xe_takeI (kd := .i64) (T := 31) (e := 35) (K := 3) (j := 0) (A := Atw) (len := t.waiting.length) (cap := Ctw) 3 0 _ rfl (by kernel_rfl) (by kernel_rfl) (by kernel_rfl) (fun _ _ h => h) (by kernel_rfl) rfl rfl (by kernel_rfl) (by kernel_rfl) (by kernel_rfl) (by kernel_rfl) hpos hAq5 hq6.2 (by kernel_rfl) rfl ?_
 refine kTD [4] [24,20,2,3] 3 [(24,.v (.agg (tupL x).toArray))] ?_
 refine kA [5] ?_
 refine kSS 5 1 0 [.slice t1a t1l.length t1c,.slice v4a (((t.waiting.drop 1).take (t.waiting.length - 1)).length) v4c] rfl ?_
 refine kA [6] ?_
 refine kSS 6 2 0 (tupL x) rfl ?_
 refine kTD [7] [4,2,3] 0 [(4,.v (.bool true))] ?_
 refine kZ ?_
 refine kR ?_
 have hmc : pl t1l = pl t.conns := by exact ht1l
 have hmw : (takeW t) = ((t.waiting.drop 1).take (t.waiting.length - 1)) := by unfold takeW; rw [List.take_of_length_le (by simp)]
 have hm0 : (t.waiting.headD ⟨0,0,0⟩) = x := by first | (rw [hnil]; rfl) | (cases hw : t.waiting with | nil => rw [hw] at hx; cases hx | cons y r => rw [hw] at hx; simpa using hx)
 have hm1 : (!t.waiting.isEmpty) = true := by first | (rw [hnil]; rfl) | (cases hw : t.waiting with | nil => rw [hw] at hx; cases hx | cons y r => rfl)
 exact ⟨[.agg #[.slice t1a t1l.length t1c,.slice v4a (((t.waiting.drop 1).take (t.waiting.length - 1)).length) v4c],.agg (tupL x).toArray,.bool true],by kernel_rfl,fun w' hb hf ha => by rw [hmw,hm0,hm1]; exact xo3 (⟨t1l,hmc⟩,(t1a,t1c),(v4a,v4c)) rfl rfl (pW (hf _ m1) hB) (pH (hf _ m2) hB) (pW (hf _ m0) hB) (Apart.sub3 ha [1,2,0] rfl (by decide) rfl rfl rfl (by exact fun b h => h) (fun b h => hownF_blk h) (by exact fun b h => h)) hb⟩
theorem yiTakeWaiting_c (t : Tab) (t_connsV : Value) (t_waitingV : Value) (w : World) (hl_t_connsV : Sl w t_connsV 25 (t.conns.map conR)) (hh_t_connsV : ∀ x ∈ t.conns, Sl w x.2 2 (x.1.r.held.map pceCells)) (hl_t_waitingV : Sl w t_waitingV 3 (t.waiting.map tupCells)) (hfit : ∀ x ∈ t.conns, conFit x.1) (hln : t.conns.length ≤ 1048576) (hlw : t.waiting.length ≤ 1048576) (B : Nat) (hB : B ≤ w.heap.size) : Calls Try.prog 22 #[.agg (tabL t t_connsV t_waitingV).toArray] w fun e w' => XRs w w' e (α := {cs : List CV // pl cs = pl t.conns} × (Option Addr × Nat) × (Option Addr × Nat)) (fun y => .tuple #[.agg #[.slice y.2.1.1 y.1.1.length y.2.1.2, .slice y.2.2.1 ((takeW t).length) y.2.2.2], .agg (tupL (t.waiting.headD ⟨0, 0, 0⟩)).toArray, .bool (!t.waiting.isEmpty)]) (fun y => [rowF B 68 25 (.slice y.2.1.1 y.1.1.length y.2.1.2) (y.1.1.map conR), hownF B y.1.1, ownF B (.slice y.2.2.1 ((takeW t).length) y.2.2.2) 3 ((takeW t).map tupCells)]) := by
 obtain ⟨Atc,Ctc,hvtc⟩ := hl_t_connsV.form
 rw [List.length_map] at hvtc; subst hvtc
 have hntc := hl_t_connsV.len; rw [List.length_map] at hntc
 have hqtc := Sl.capLe hl_t_connsV
 obtain ⟨Atw,Ctw,hvtw⟩ := hl_t_waitingV.form
 rw [List.length_map] at hvtw; subst hvtw
 have hntw := hl_t_waitingV.len; rw [List.length_map] at hntw
 have hqtw := Sl.capLe hl_t_waitingV
 refine x_callsA (args := [.agg (tabL t (.slice Atc t.conns.length Ctc) (.slice Atw t.waiting.length Ctw)).toArray]) (fn := Try.f22) [slF (.slice Atc t.conns.length Ctc) 25 (t.conns.map conR),hldF t.conns,slF (.slice Atw t.waiting.length Ctw) 3 (t.waiting.map tupCells)] Try.func22 rfl Try.ntmps22 rfl (by simp only [List.mem_cons,List.not_mem_nil,or_false,forall_eq_or_imp,forall_eq]; exact ⟨⟨rfl,hl_t_connsV⟩,⟨rfl,hh_t_connsV⟩,⟨rfl,hl_t_waitingV⟩⟩) ?_
 refine kQ ?_
 refine kEF [1,2,3] ⟨[(1,.p 0 0),(2,.p 1 0),(3,.p 2 0)],[⟨33,tabL t (.slice Atc t.conns.length Ctc) (.slice Atw t.waiting.length Ctw)⟩,⟨33,[.slice none 0 0,.slice none 0 0]⟩,⟨35,tupL (⟨0,0,0⟩ : Tup)⟩],[],[slF (.slice Atc t.conns.length Ctc) 25 (t.conns.map conR),hldF t.conns,slF (.slice Atw t.waiting.length Ctw) 3 (t.waiting.map tupCells)]⟩ ?_
 refine kQ ?_
 refine kCD 1 [1,2,3,6] [(6,.v (.agg (tabL t (.slice Atc t.conns.length Ctc) (.slice Atw t.waiting.length Ctw)).toArray))] 55 [.agg (tabL t (.slice Atc t.conns.length Ctc) (.slice Atw t.waiting.length Ctw)).toArray] (some 7) rfl (xc_r fun ww hw hf => ycloneTable_c t (.slice Atc t.conns.length Ctc) (.slice Atw t.waiting.length Ctw) ww (hf _ m0) (hf _ m1) (hf _ m2) (by first | assumption | (dsimp only; assumption)) (by first | assumption | omega | (dsimp only; omega)) (by first | assumption | omega | (dsimp only; omega)) w.heap.size hw) ?_
 rintro ⟨⟨t1l,ht1l⟩,⟨t1a,t1c⟩,⟨t1d,t1e⟩⟩
 dsimp only
 have hfit_t1l : ∀ x ∈ t1l,conFit x.1 := conFit_pl ht1l (by assumption)
 have hlen_t1l := pl_len ht1l
 refine kEA [1,2,3,5] [(5,.p 3 0)] [⟨33,tabL { t with conns := t1l } (.slice t1a t1l.length t1c) (.slice t1d t.waiting.length t1e)⟩] ?_
 refine kS ?_
 refine kQ ?_
 refine kED [1,2,3,5,11] [(11,.v (.bool (((t.waiting.length : Nat) : Int) == 0)))] ?_
 refine kC (((t.waiting.length : Nat) : Int) == 0) (fun h2 => ?_) (fun h2 => ?_)
 have h2p := eqT h2
 have hnil : t.waiting = [] := List.eq_nil_of_length_eq_zero (by have := eqT h2; omega)
 refine kQ ?_
 refine kOD 1 [2,3,12] [(12,.v (.agg (tabL { t with conns := t1l } (.slice t1a t1l.length t1c) (.slice t1d t.waiting.length t1e)).toArray))] (.agg (tupL (⟨0,0,0⟩ : Tup)).toArray) rfl (fun _ _ _ ww hr => act_build [] hr.1 rfl (by kernel_rfl) (by kernel_rfl) ww) ?_
 refine kEU [2,3,4] [(4,.v (.bool false))] 1 ⟨33,tabL { t with conns := t1l } (.slice t1a t1l.length t1c) (.slice t1d t.waiting.length t1e)⟩ ?_
 refine kR ?_
 have hmc : pl t1l = pl t.conns := by exact ht1l
 have hmw : (takeW t) = t.waiting := by unfold takeW; rw [hnil]; rfl
 have hm0 : (t.waiting.headD ⟨0,0,0⟩) = (⟨0,0,0⟩) := by first | (rw [hnil]; rfl) | (cases hw : t.waiting with | nil => rw [hw] at hx; cases hx | cons y r => rw [hw] at hx; simpa using hx)
 have hm1 : (!t.waiting.isEmpty) = false := by first | (rw [hnil]; rfl) | (cases hw : t.waiting with | nil => rw [hw] at hx; cases hx | cons y r => rfl)
 exact ⟨[.agg (tabL { t with conns := t1l } (.slice t1a t1l.length t1c) (.slice t1d t.waiting.length t1e)).toArray,.agg (tupL (⟨0,0,0⟩ : Tup)).toArray,.bool false],by kernel_rfl,fun w' hb hf ha => by rw [hmw,hm0,hm1]; exact xo3 (⟨t1l,hmc⟩,(t1a,t1c),(t1d,t1e)) rfl rfl (pW (hf _ m0) hB) (pH (hf _ m1) hB) (pR (hf _ m2) hB) (Apart.sub3 ha [0,1,2] rfl (by decide) rfl rfl rfl (by exact fun b h => h) (fun b h => hownF_blk h) (fun b h => rowF_blk h)) hb⟩
 have h2p := eqF h2
 have hpos : 0 < t.waiting.length := by have := eqF h2; omega
 obtain ⟨x,hx⟩ : ∃ x,t.waiting[0]? = some x := ⟨_,List.getElem?_eq_getElem hpos⟩
 have hwl := takeW_len t
 refine kK ?_
 refine kQ ?_
 refine kOD 2 [1,2,3,5,15] [(15,.v (.slice t1d t.waiting.length t1e))] (.slice (if t1e = 1 then t1d else t1d.map (·.add (1 * 3))) (t.waiting.length - 1) (t1e - 1)) rfl (fun _ _ _ ww hr => act_slVe (e := 35) 1 hr.1 rfl (by kernel_rfl) (by kernel_rfl) rfl rfl rfl (by omega) ww) ?_
 refine kEU [1,2,3,5] [] 3 ⟨33,[.slice t1a t1l.length t1c,.slice (if t1e = 1 then t1d else t1d.map (·.add (1 * 3))) (t.waiting.length - 1) (t1e - 1)]⟩ ?_
 refine kS ?_
 refine xws_start ?_
 refine xws_row (K := 3) (j := 0) [.int .i64 x.ip,.int .i64 x.port,.int .i64 x.my] (slF (.slice Atw t.waiting.length Ctw) 3 (t.waiting.map tupCells)) (fun _ _ h => h) (by simp) (fun w h => h) (fun b h => h) (by simp only [List.getElem?_map,hx]; rfl) (fun bq3 offq3 hAq3 => ?_)
 refine xws_regionE [true,false,false,true] (by kernel_rfl) (fun ρ σ hq4 => ?_)
 refine kTD [0,1,2] [20,18,2,3] 5 [(20,.v (.slice Atw t.waiting.length Ctw)),(18,.v (.agg #[.slice t1a t1l.length t1c,.slice (if t1e = 1 then t1d else t1d.map (·.add (1 * 3))) (t.waiting.length - 1) (t1e - 1)]))] ?_
 refine xe_takeI (kd := .i64) (T := 31) (e := 35) (K := 3) (j := 0) (A := Atw) (len := t.waiting.length) (cap := Ctw) 3 0 _ rfl (by kernel_rfl) (by kernel_rfl) (by kernel_rfl) (fun _ _ h => h) (by kernel_rfl) rfl rfl (by kernel_rfl) (by kernel_rfl) (by kernel_rfl) (by kernel_rfl) hpos hAq3 hq4.2 (by kernel_rfl) rfl ?_
 refine kTD [4] [22,18,2,3] 3 [(22,.v (.agg (tupL x).toArray))] ?_
 refine kA [5] ?_
 refine kSS 5 1 0 [.slice t1a t1l.length t1c,.slice (if t1e = 1 then t1d else t1d.map (·.add (1 * 3))) (t.waiting.length - 1) (t1e - 1)] rfl ?_
 refine kA [6] ?_
 refine kSS 6 2 0 (tupL x) rfl ?_
 refine kTD [7] [4,2,3] 0 [(4,.v (.bool true))] ?_
 refine kZ ?_
 refine xw_wk ((wk_pick [2,0,1,3,4,5] [rowF w.heap.size 35 3 (.slice t1d t.waiting.length t1e) (t.waiting.map tupCells),rowF w.heap.size 68 25 (.slice t1a t1l.length t1c) (t1l.map conR),hownF w.heap.size t1l,slF (.slice Atc t.conns.length Ctc) 25 (t.conns.map conR),hldF t.conns,slF (.slice Atw t.waiting.length Ctw) 3 (t.waiting.map tupCells)] (by kernel_rfl) (by kernel_rfl)).trans (wk_turn (fun _ _ _ _ h => tail_weak (W := t.waiting) rfl hpos h))) ?_
 refine xw_wk (wkf (s' := ⟨[(2,.p 1 0),(3,.p 2 0),(4,.v (.bool true))],[⟨33,tabL t (.slice Atc t.conns.length Ctc) (.slice Atw t.waiting.length Ctw)⟩,⟨33,[.slice t1a t1l.length t1c,.slice (if t1e = 1 then t1d else t1d.map (·.add (1 * 3))) (t.waiting.length - 1) (t1e - 1)]⟩,⟨35,tupL x⟩,⟨33,[.slice t1a t1l.length t1c,.slice (if t1e = 1 then t1d else t1d.map (·.add (1 * 3))) (t.waiting.length - 1) (t1e - 1)]⟩],[],[ownF w.heap.size (.slice (if t1e = 1 then t1d else t1d.map (·.add (1 * 3))) (t.waiting.length - 1) (t1e - 1)) 3 ((takeW t).map tupCells),rowF w.heap.size 68 25 (.slice t1a t1l.length t1c) (t1l.map conR),hownF w.heap.size t1l,slF (.slice Atc t.conns.length Ctc) 25 (t.conns.map conR),hldF t.conns,slF (.slice Atw t.waiting.length Ctw) 3 (t.waiting.map tupCells)]⟩) 4 0 [2,3,4] (by kernel_rfl)) ?_
 refine xw_eq (st' := ⟨[(2,.p 1 0),(3,.p 2 0),(4,.v (.bool true))],[⟨33,tabL t (.slice Atc t.conns.length Ctc) (.slice Atw t.waiting.length Ctw)⟩,⟨33,[.slice t1a t1l.length t1c,.slice (if t1e = 1 then t1d else t1d.map (·.add (1 * 3))) ((takeW t).length) (t1e - 1)]⟩,⟨35,tupL x⟩,⟨33,[.slice t1a t1l.length t1c,.slice (if t1e = 1 then t1d else t1d.map (·.add (1 * 3))) ((takeW t).length) (t1e - 1)]⟩],[],[ownF w.heap.size (.slice (if t1e = 1 then t1d else t1d.map (·.add (1 * 3))) ((takeW t).length) (t1e - 1)) 3 ((takeW t).map tupCells),rowF w.heap.size 68 25 (.slice t1a t1l.length t1c) (t1l.map conR),hownF w.heap.size t1l,slF (.slice Atc t.conns.length Ctc) 25 (t.conns.map conR),hldF t.conns,slF (.slice Atw t.waiting.length Ctw) 3 (t.waiting.map tupCells)]⟩) (by rw [show (t.waiting.length - 1) = ((takeW t).length) from hwl] <;> rfl) ?_
 refine kR ?_
 have hmc : pl t1l = pl t.conns := by exact ht1l
 have hm0 : (t.waiting.headD ⟨0,0,0⟩) = x := by first | (rw [hnil]; rfl) | (cases hw : t.waiting with | nil => rw [hw] at hx; cases hx | cons y r => rw [hw] at hx; simpa using hx)
 have hm1 : (!t.waiting.isEmpty) = true := by first | (rw [hnil]; rfl) | (cases hw : t.waiting with | nil => rw [hw] at hx; cases hx | cons y r => rfl)
 exact ⟨[.agg #[.slice t1a t1l.length t1c,.slice (if t1e = 1 then t1d else t1d.map (·.add (1 * 3))) ((takeW t).length) (t1e - 1)],.agg (tupL x).toArray,.bool true],by kernel_rfl,fun w' hb hf ha => by rw [hm0,hm1]; exact xo3 (⟨t1l,hmc⟩,(t1a,t1c),((if t1e = 1 then t1d else t1d.map (·.add (1 * 3))),(t1e - 1))) rfl rfl (pW (hf _ m1) hB) (pH (hf _ m2) hB) (pO (hf _ m0) hB) (Apart.sub3 ha [1,2,0] rfl (by decide) rfl rfl rfl (by exact fun b h => h) (fun b h => hownF_blk h) (fun b h => h)) hb⟩
end Go.Proofs.Ytnhpmgcllclhfaa
