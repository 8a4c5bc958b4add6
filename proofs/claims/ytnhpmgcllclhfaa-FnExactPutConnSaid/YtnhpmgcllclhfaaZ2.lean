/- Contracts that this law needs, part 2. -/
import Derived.Test.YtnhpmgcllclhfaaZ1
namespace Go.Proofs.Ytnhpmgcllclhfaa
open Go.RowKit
set_option linter.unusedVariables false
set_option linter.unusedSimpArgs false
set_option maxRecDepth 100000
set_option maxHeartbeats 2000000

theorem ymarkConnS_c (v : Value) (l : List CV) (k : Int) (w : World) (B : Nat) (hB : B ≤ w.heap.size) (h : (allF (tabR B 68 v l)).p w) (hk0 : 0 ≤ k) (hk : k ≤ 1125899906842624) (hl : l.length ≤ 1048576) (hfit : ∀ x ∈ l, x.1.r.held.length ≤ 1048576) : Calls Try.prog 56 #[v, .int .i64 k] w fun e w' => e = .returned (.int .i64 (k + mcnt l)) ∧ (allF (tabR B 68 v (mkCs k l))).p w' ∧ Chgd (allF (tabR B 68 v l)).blk w w' := by
 obtain ⟨hF,hFa⟩ := h
 have hF1 := hF _ (List.mem_cons_self ..)
 have hF2 := hF _ (List.mem_cons_of_mem _ (List.mem_cons_self ..))
 obtain ⟨A,cap,hv⟩ := (rowF_sl hF1).form
 rw [List.length_map] at hv; subst hv
 have hh_lV := hownF_sl hF2
 refine x_callsMA (args := [.slice A l.length cap,.int .i64 k]) (fn := Try.f56) [rowF B 68 25 (.slice A l.length cap) (l.map conR),hownF B l,frF w (allF (tabR B 68 (.slice A l.length cap) l)).blk] B Try.func56 rfl Try.ntmps56 rfl hB (by simp only [List.mem_cons,List.not_mem_nil,or_false,forall_eq_or_imp,forall_eq]; exact ⟨hF1,hF2,frF_start w _⟩) (apart_frS hFa fun g hg b hb => ⟨g,hg,hb⟩) ?_
 refine kQ ?_
 refine kEF [0,1] ⟨[(0,.v (.slice A l.length cap)),(1,.v (.int .i64 k))],[],[],[rowF B 68 25 (.slice A l.length cap) (l.map conR),hownF B l,frF w (allF (tabR B 68 (.slice A l.length cap) l)).blk]⟩ ?_
 refine kS ?_
 refine kQ ?_
 refine kED [0,1,5] [(5,.v (.int .i64 0))] ?_
 refine xw_block ?_
 refine xw_loopW (α := {x : Nat × List CV × Int // (fun (i : Nat) (L : List CV) (b : Int) => i ≤ l.length ∧ L = mkAt k l i ∧ b = k + mcnt (l.take i)) x.1 x.2.1 x.2.2}) (fun x => (fun (i : Nat) (L : List CV) (b : Int) => (⟨[(0,.v (.slice A l.length cap)),(1,.v (.int .i64 b)),(5,.v (.int .i64 (i : Int)))],[],[],[rowF B 68 25 (.slice A l.length cap) (L.map conR),hownF B L,frF w (allF (tabR B 68 (.slice A l.length cap) l)).blk]⟩ : St)) x.1.1 x.1.2.1 x.1.2.2) (fun x => (fun (i : Nat) (L : List CV) (b : Int) => l.length - i) x.1.1 x.1.2.1 x.1.2.2) ⟨(0,l,k),⟨Nat.zero_le _,rfl,(by simp [mcnt])⟩⟩ (kF 0 0 [0,1,5]) ?_
 rintro ⟨⟨i,L,b⟩,hi,HL,HK⟩
 try dsimp only
 try dsimp only at hi HL HK
 have hmb := mcnt_bd (l := l.take i) (fun x hx => hfit x (List.mem_of_mem_take hx))
 have htl : (l.take i).length = i := by rw [List.length_take]; omega
 rw [htl] at hmb
 refine kS ?_
 refine kQ ?_
 refine kED [0,1,5,9] [(9,.v (.bool (decide ((i : Int) < ((l.length : Nat) : Int)))))] ?_
 refine kC (decide ((i : Int) < ((l.length : Nat) : Int))) (fun h1 => ?_) (fun h1 => ?_)
 have h1p := of_decide_eq_true h1
 have hlt : i < l.length := by simpa using h1
 obtain ⟨x0,hx⟩ : ∃ x,l[i]? = some x := ⟨_,List.getElem?_eq_getElem hlt⟩
 obtain ⟨x,xa,xc,rfl⟩ := cv_form (hh_lV x0 (List.mem_of_getElem? hx))
 have hxn : x.r.held.length ≤ 1048576 := hfit _ (List.mem_of_getElem? hx)
 have hxL : L[i]? = some (x,.slice xa x.r.held.length xc) := by rw [HL]; exact mkAt_get hx
 have hLl : L.length = l.length := by rw [HL]; exact mkAt_len hi
 refine xw_know (φ := ∃ g,A = some ⟨g,0,none⟩) (fun _ _ _ _ hr => row_at (hr.2.fact (rowF B 68 25 (.slice A l.length cap) (L.map conR)) (by simp)).1 (j := i) (row := conR (x,.slice xa x.r.held.length xc)) (by simp only [List.getElem?_map,hxL]; rfl)) ?_
 rintro ⟨gg,hgg⟩
 refine kK ?_
 refine kS ?_
 refine xw_block ?_
 refine kQ ?_
 refine kOD 3 [0,1,5,12,13,14] [(12,.v (.slice A l.length cap)),(13,.v (.int .i64 (i : Int))),(14,.v (.int .i64 b))] (.pointer (some ⟨gg,i * 25,none⟩)) rfl (fun _ _ _ ww hr => act_ix (kd := .i64) (T := 30) (e := 68) (K := 25) (g := gg) (N := l.length) (cap := cap) i hgg hr.1 rfl rfl (by kernel_rfl) (by kernel_rfl) (by kernel_rfl) hlt ww) ?_
 refine kOD 0 [0,1,5,14,15] [] (.pointer (some ⟨gg,i * 25,none⟩)) rfl (fun _ _ _ ww hr => act_fld (sz := 3) (b := gg) (m := i * 25) hr.1 rfl Try.underlying68 rfl (by kernel_rfl) rfl (by kernel_rfl) rfl) ?_
 refine kOD 0 [0,1,5,14,16] [] (.pointer (some ⟨gg,i * 25,none⟩)) rfl (fun _ _ _ ww hr => act_fld (sz := 1) (b := gg) (m := i * 25) hr.1 rfl Try.underlying35 rfl (by kernel_rfl) rfl (by kernel_rfl) rfl) ?_
 refine xl_hs 0 [0,1,5,14,17] ⟨[(0,.v (.slice A l.length cap)),(1,.v (.int .i64 b)),(5,.v (.int .i64 (i : Int))),(14,.v (.int .i64 b)),(17,.v (.pointer (some ⟨gg,i * 25,none⟩)))],[],[],[rowF B 68 25 (.slice A l.length cap) (L.map conR),hownF B L,frF w (allF (tabR B 68 (.slice A l.length cap) l)).blk]⟩ (by kernel_rfl) rfl (by kernel_rfl) rfl (by kernel_rfl) (HSg.hs (hs_stR (g := gg) (B := B) (e := 68) (K := 25) (N := l.length) (cap := cap) (rs := (L.map conR)) (rs' := (L.set i (({ x with t := { x.t with ip := b } },.slice xa x.r.held.length xc) : CV)).map conR) (v := (.int .i64 b)) (i := 0) (off := i * 25) i 0 [.int .i64 x.t.ip,.int .i64 x.t.port,.int .i64 x.t.my,.int .i64 x.state,.int .i64 x.s.una,.string x.s.data,.int .i64 x.s.sent,.bool x.s.fin,.bool x.s.finSent,.bool x.s.done,.int .i64 x.r.next,.string x.r.data,.slice xa x.r.held.length xc,.int .i64 x.r.fin,.bool x.r.done,.int .i64 x.window,.int .i64 x.most,.int .i64 x.o.mss,.int .i64 x.o.scale,.bool x.o.sack,.bool x.o.stamp,.int .i64 x.o.val,.int .i64 x.o.echo,.int .i64 x.timer,.int .i64 x.tries] (row' := [.int .i64 b,.int .i64 x.t.port,.int .i64 x.t.my,.int .i64 x.state,.int .i64 x.s.una,.string x.s.data,.int .i64 x.s.sent,.bool x.s.fin,.bool x.s.finSent,.bool x.s.done,.int .i64 x.r.next,.string x.r.data,.slice xa x.r.held.length xc,.int .i64 x.r.fin,.bool x.r.done,.int .i64 x.window,.int .i64 x.most,.int .i64 x.o.mss,.int .i64 x.o.scale,.bool x.o.sack,.bool x.o.stamp,.int .i64 x.o.val,.int .i64 x.o.echo,.int .i64 x.timer,.int .i64 x.tries]) hgg rfl (by kernel_rfl) rfl (by kernel_rfl) (by kernel_rfl) (by kernel_rfl) (by kernel_rfl) (cutW_le w B) (by simp only [List.getElem?_map,hxL]; rfl) (by kernel_rfl) rfl (by rw [List.map_set]; rfl))) ?_
 refine kED [0,1,5] [] ?_
 refine kQ ?_
 refine kRD 3 [0,1,5] [(1,.v (.int .i64 (IntKind.i64.wrap (b + 1))))] ?_
 refine xl_nv [0,1,5] [(1,.v (.int .i64 (IntKind.i64.wrap (b + 1))))] [(1,.v (.int .i64 (b + 1)))] (by rw [show (IntKind.i64.wrap (b + 1)) = (b + 1) from wrap_id (by omega) (by omega)]) (by kernel_rfl) ?_
 refine kED [0,1,5] [] ?_
 refine kQ ?_
 refine kOD 3 [0,1,5,20,21,22] [(20,.v (.slice A l.length cap)),(21,.v (.int .i64 (i : Int))),(22,.v (.int .i64 (b + 1)))] (.pointer (some ⟨gg,i * 25,none⟩)) rfl (fun _ _ _ ww hr => act_ix (kd := .i64) (T := 30) (e := 68) (K := 25) (g := gg) (N := l.length) (cap := cap) i hgg hr.1 rfl rfl (by kernel_rfl) (by kernel_rfl) (by kernel_rfl) hlt ww) ?_
 refine kOS 0 [0,1,5,22,23] [(0,.v (.slice A l.length cap)),(1,.v (.int .i64 (b + 1))),(5,.v (.int .i64 (i : Int))),(22,.v (.int .i64 (b + 1))),(23,.v (.pointer (some ⟨gg,i * 25,none⟩)))] (.pointer (some ⟨gg,i * 25,none⟩)) rfl (fun _ _ _ ww hr => act_fld (sz := 3) (b := gg) (m := i * 25) hr.1 rfl Try.underlying68 rfl (by kernel_rfl) rfl (by kernel_rfl) rfl) ?_
 refine kOD 0 [0,1,5,22,24] [] (.pointer (some ⟨gg,i * 25 + 1,none⟩)) rfl (fun _ _ _ ww hr => act_fld (sz := 1) (b := gg) (m := i * 25) hr.1 rfl Try.underlying35 rfl (by kernel_rfl) rfl (by kernel_rfl) rfl) ?_
 refine xl_hs 0 [0,1,5,22,25] ⟨[(0,.v (.slice A l.length cap)),(1,.v (.int .i64 (b + 1))),(5,.v (.int .i64 (i : Int))),(22,.v (.int .i64 (b + 1))),(25,.v (.pointer (some ⟨gg,i * 25 + 1,none⟩)))],[],[],[rowF B 68 25 (.slice A l.length cap) ((L.set i (({ x with t := { x.t with ip := b } },.slice xa x.r.held.length xc) : CV)).map conR),hownF B L,frF w (allF (tabR B 68 (.slice A l.length cap) l)).blk]⟩ (by kernel_rfl) rfl (by kernel_rfl) rfl (by kernel_rfl) (HSg.hs (hs_stR (g := gg) (B := B) (e := 68) (K := 25) (N := l.length) (cap := cap) (rs := ((L.set i (({ x with t := { x.t with ip := b } },.slice xa x.r.held.length xc) : CV)).map conR)) (rs' := (L.set i (({ x with t := ⟨b,b + 1,x.t.my⟩ },.slice xa x.r.held.length xc) : CV)).map conR) (v := (.int .i64 (b + 1))) (i := 0) (off := i * 25 + 1) i 1 [.int .i64 b,.int .i64 x.t.port,.int .i64 x.t.my,.int .i64 x.state,.int .i64 x.s.una,.string x.s.data,.int .i64 x.s.sent,.bool x.s.fin,.bool x.s.finSent,.bool x.s.done,.int .i64 x.r.next,.string x.r.data,.slice xa x.r.held.length xc,.int .i64 x.r.fin,.bool x.r.done,.int .i64 x.window,.int .i64 x.most,.int .i64 x.o.mss,.int .i64 x.o.scale,.bool x.o.sack,.bool x.o.stamp,.int .i64 x.o.val,.int .i64 x.o.echo,.int .i64 x.timer,.int .i64 x.tries] (row' := [.int .i64 b,.int .i64 (b + 1),.int .i64 x.t.my,.int .i64 x.state,.int .i64 x.s.una,.string x.s.data,.int .i64 x.s.sent,.bool x.s.fin,.bool x.s.finSent,.bool x.s.done,.int .i64 x.r.next,.string x.r.data,.slice xa x.r.held.length xc,.int .i64 x.r.fin,.bool x.r.done,.int .i64 x.window,.int .i64 x.most,.int .i64 x.o.mss,.int .i64 x.o.scale,.bool x.o.sack,.bool x.o.stamp,.int .i64 x.o.val,.int .i64 x.o.echo,.int .i64 x.timer,.int .i64 x.tries]) hgg rfl (by kernel_rfl) rfl (by kernel_rfl) (by kernel_rfl) (by kernel_rfl) (by kernel_rfl) (cutW_le w B) (by rw [List.map_set,List.getElem?_set_self (by rw [List.length_map]; omega)]; rfl) (by kernel_rfl) rfl (by rw [List.map_set,List.map_set,List.set_set]; rfl))) ?_
 refine kED [0,1,5] [] ?_
 refine kQ ?_
 refine kRD 3 [0,1,5] [(1,.v (.int .i64 (IntKind.i64.wrap (b + 1 + 1))))] ?_
 refine xl_nv [0,1,5] [(1,.v (.int .i64 (IntKind.i64.wrap (b + 1 + 1))))] [(1,.v (.int .i64 (b + 2)))] (by rw [show (IntKind.i64.wrap (b + 1 + 1)) = (b + 2) from wrap_to (by omega) (by omega) (by omega)]) (by kernel_rfl) ?_
 refine kED [0,1,5] [] ?_
 refine kQ ?_
 refine kOD 3 [0,1,5,28,29,30] [(28,.v (.slice A l.length cap)),(29,.v (.int .i64 (i : Int))),(30,.v (.int .i64 (b + 2)))] (.pointer (some ⟨gg,i * 25,none⟩)) rfl (fun _ _ _ ww hr => act_ix (kd := .i64) (T := 30) (e := 68) (K := 25) (g := gg) (N := l.length) (cap := cap) i hgg hr.1 rfl rfl (by kernel_rfl) (by kernel_rfl) (by kernel_rfl) hlt ww) ?_
 refine kOD 0 [0,1,5,30,31] [] (.pointer (some ⟨gg,i * 25,none⟩)) rfl (fun _ _ _ ww hr => act_fld (sz := 3) (b := gg) (m := i * 25) hr.1 rfl Try.underlying68 rfl (by kernel_rfl) rfl (by kernel_rfl) rfl) ?_
 refine kOD 0 [0,1,5,30,32] [] (.pointer (some ⟨gg,i * 25 + 2,none⟩)) rfl (fun _ _ _ ww hr => act_fld (sz := 1) (b := gg) (m := i * 25) hr.1 rfl Try.underlying35 rfl (by kernel_rfl) rfl (by kernel_rfl) rfl) ?_
 refine xl_hs 0 [0,1,5,30,33] ⟨[(0,.v (.slice A l.length cap)),(1,.v (.int .i64 (b + 2))),(5,.v (.int .i64 (i : Int))),(30,.v (.int .i64 (b + 2))),(33,.v (.pointer (some ⟨gg,i * 25 + 2,none⟩)))],[],[],[rowF B 68 25 (.slice A l.length cap) ((L.set i (({ x with t := ⟨b,b + 1,x.t.my⟩ },.slice xa x.r.held.length xc) : CV)).map conR),hownF B L,frF w (allF (tabR B 68 (.slice A l.length cap) l)).blk]⟩ (by kernel_rfl) rfl (by kernel_rfl) rfl (by kernel_rfl) (HSg.hs (hs_stR (g := gg) (B := B) (e := 68) (K := 25) (N := l.length) (cap := cap) (rs := ((L.set i (({ x with t := ⟨b,b + 1,x.t.my⟩ },.slice xa x.r.held.length xc) : CV)).map conR)) (rs' := (L.set i (({ x with t := ⟨b,b + 1,b + 2⟩ },.slice xa x.r.held.length xc) : CV)).map conR) (v := (.int .i64 (b + 2))) (i := 0) (off := i * 25 + 2) i 2 [.int .i64 b,.int .i64 (b + 1),.int .i64 x.t.my,.int .i64 x.state,.int .i64 x.s.una,.string x.s.data,.int .i64 x.s.sent,.bool x.s.fin,.bool x.s.finSent,.bool x.s.done,.int .i64 x.r.next,.string x.r.data,.slice xa x.r.held.length xc,.int .i64 x.r.fin,.bool x.r.done,.int .i64 x.window,.int .i64 x.most,.int .i64 x.o.mss,.int .i64 x.o.scale,.bool x.o.sack,.bool x.o.stamp,.int .i64 x.o.val,.int .i64 x.o.echo,.int .i64 x.timer,.int .i64 x.tries] (row' := [.int .i64 b,.int .i64 (b + 1),.int .i64 (b + 2),.int .i64 x.state,.int .i64 x.s.una,.string x.s.data,.int .i64 x.s.sent,.bool x.s.fin,.bool x.s.finSent,.bool x.s.done,.int .i64 x.r.next,.string x.r.data,.slice xa x.r.held.length xc,.int .i64 x.r.fin,.bool x.r.done,.int .i64 x.window,.int .i64 x.most,.int .i64 x.o.mss,.int .i64 x.o.scale,.bool x.o.sack,.bool x.o.stamp,.int .i64 x.o.val,.int .i64 x.o.echo,.int .i64 x.timer,.int .i64 x.tries]) hgg rfl (by kernel_rfl) rfl (by kernel_rfl) (by kernel_rfl) (by kernel_rfl) (by kernel_rfl) (cutW_le w B) (by rw [List.map_set,List.getElem?_set_self (by rw [List.length_map]; omega)]; rfl) (by kernel_rfl) rfl (by rw [List.map_set,List.map_set,List.set_set]; rfl))) ?_
 refine kED [0,1,5] [] ?_
 refine kQ ?_
 refine kRS 3 [0,1,5] [(0,.v (.slice A l.length cap)),(1,.v (.int .i64 (IntKind.i64.wrap (b + 2 + 1)))),(5,.v (.int .i64 (i : Int)))] ?_
 refine xl_eqS (t' := [(0,.v (.slice A l.length cap)),(1,.v (.int .i64 (b + 3))),(5,.v (.int .i64 (i : Int)))]) (by rw [show (IntKind.i64.wrap (b + 2 + 1)) = (b + 3) from wrap_to (by omega) (by omega) (by omega)]) ?_
 refine kED [0,1,5] [] ?_
 refine kQ ?_
 refine kOD 3 [0,1,5,36,37,38] [(36,.v (.slice A l.length cap)),(37,.v (.int .i64 (i : Int))),(38,.v (.int .i64 (b + 3)))] (.pointer (some ⟨gg,i * 25,none⟩)) rfl (fun _ _ _ ww hr => act_ix (kd := .i64) (T := 30) (e := 68) (K := 25) (g := gg) (N := l.length) (cap := cap) i hgg hr.1 rfl rfl (by kernel_rfl) (by kernel_rfl) (by kernel_rfl) hlt ww) ?_
 refine kOD 0 [0,1,5,38,39] [] (.pointer (some ⟨gg,i * 25 + 3,none⟩)) rfl (fun _ _ _ ww hr => act_fld (sz := 1) (b := gg) (m := i * 25) hr.1 rfl Try.underlying68 rfl (by kernel_rfl) rfl (by kernel_rfl) rfl) ?_
 refine xl_hs 0 [0,1,5,38,40] ⟨[(0,.v (.slice A l.length cap)),(1,.v (.int .i64 (b + 3))),(5,.v (.int .i64 (i : Int))),(38,.v (.int .i64 (b + 3))),(40,.v (.pointer (some ⟨gg,i * 25 + 3,none⟩)))],[],[],[rowF B 68 25 (.slice A l.length cap) ((L.set i (({ x with t := ⟨b,b + 1,b + 2⟩ },.slice xa x.r.held.length xc) : CV)).map conR),hownF B L,frF w (allF (tabR B 68 (.slice A l.length cap) l)).blk]⟩ (by kernel_rfl) rfl (by kernel_rfl) rfl (by kernel_rfl) (HSg.hs (hs_stR (g := gg) (B := B) (e := 68) (K := 25) (N := l.length) (cap := cap) (rs := ((L.set i (({ x with t := ⟨b,b + 1,b + 2⟩ },.slice xa x.r.held.length xc) : CV)).map conR)) (rs' := (L.set i (({ x with t := ⟨b,b + 1,b + 2⟩,state := b + 3 },.slice xa x.r.held.length xc) : CV)).map conR) (v := (.int .i64 (b + 3))) (i := 0) (off := i * 25 + 3) i 3 [.int .i64 b,.int .i64 (b + 1),.int .i64 (b + 2),.int .i64 x.state,.int .i64 x.s.una,.string x.s.data,.int .i64 x.s.sent,.bool x.s.fin,.bool x.s.finSent,.bool x.s.done,.int .i64 x.r.next,.string x.r.data,.slice xa x.r.held.length xc,.int .i64 x.r.fin,.bool x.r.done,.int .i64 x.window,.int .i64 x.most,.int .i64 x.o.mss,.int .i64 x.o.scale,.bool x.o.sack,.bool x.o.stamp,.int .i64 x.o.val,.int .i64 x.o.echo,.int .i64 x.timer,.int .i64 x.tries] (row' := [.int .i64 b,.int .i64 (b + 1),.int .i64 (b + 2),.int .i64 (b + 3),.int .i64 x.s.una,.string x.s.data,.int .i64 x.s.sent,.bool x.s.fin,.bool x.s.finSent,.bool x.s.done,.int .i64 x.r.next,.string x.r.data,.slice xa x.r.held.length xc,.int .i64 x.r.fin,.bool x.r.done,.int .i64 x.window,.int .i64 x.most,.int .i64 x.o.mss,.int .i64 x.o.scale,.bool x.o.sack,.bool x.o.stamp,.int .i64 x.o.val,.int .i64 x.o.echo,.int .i64 x.timer,.int .i64 x.tries]) hgg rfl (by kernel_rfl) rfl (by kernel_rfl) (by kernel_rfl) (by kernel_rfl) (by kernel_rfl) (cutW_le w B) (by rw [List.map_set,List.getElem?_set_self (by rw [List.length_map]; omega)]; rfl) (by kernel_rfl) rfl (by rw [List.map_set,List.map_set,List.set_set]; rfl))) ?_
 refine kED [0,1,5] [] ?_
 refine kQ ?_
 refine kRD 3 [0,1,5] [(1,.v (.int .i64 (IntKind.i64.wrap (b + 3 + 1))))] ?_
 refine xl_nv [0,1,5] [(1,.v (.int .i64 (IntKind.i64.wrap (b + 3 + 1))))] [(1,.v (.int .i64 (b + 4)))] (by rw [show (IntKind.i64.wrap (b + 3 + 1)) = (b + 4) from wrap_to (by omega) (by omega) (by omega)]) (by kernel_rfl) ?_
 refine kED [0,1,5] [] ?_
 refine kQ ?_
 refine kOD 3 [0,1,5,43,44,45] [(43,.v (.slice A l.length cap)),(44,.v (.int .i64 (i : Int))),(45,.v (.int .i64 (b + 4)))] (.pointer (some ⟨gg,i * 25,none⟩)) rfl (fun _ _ _ ww hr => act_ix (kd := .i64) (T := 30) (e := 68) (K := 25) (g := gg) (N := l.length) (cap := cap) i hgg hr.1 rfl rfl (by kernel_rfl) (by kernel_rfl) (by kernel_rfl) hlt ww) ?_
 refine kOD 0 [0,1,5,45,46] [] (.pointer (some ⟨gg,i * 25 + 4,none⟩)) rfl (fun _ _ _ ww hr => act_fld (sz := 6) (b := gg) (m := i * 25) hr.1 rfl Try.underlying68 rfl (by kernel_rfl) rfl (by kernel_rfl) rfl) ?_
 refine kOD 0 [0,1,5,45,47] [] (.pointer (some ⟨gg,i * 25 + 4,none⟩)) rfl (fun _ _ _ ww hr => act_fld (sz := 1) (b := gg) (m := i * 25 + 4) hr.1 rfl Try.underlying62 rfl (by kernel_rfl) rfl (by kernel_rfl) rfl) ?_
 refine xl_hs 0 [0,1,5,45,48] ⟨[(0,.v (.slice A l.length cap)),(1,.v (.int .i64 (b + 4))),(5,.v (.int .i64 (i : Int))),(45,.v (.int .i64 (b + 4))),(48,.v (.pointer (some ⟨gg,i * 25 + 4,none⟩)))],[],[],[rowF B 68 25 (.slice A l.length cap) ((L.set i (({ x with t := ⟨b,b + 1,b + 2⟩,state := b + 3 },.slice xa x.r.held.length xc) : CV)).map conR),hownF B L,frF w (allF (tabR B 68 (.slice A l.length cap) l)).blk]⟩ (by kernel_rfl) rfl (by kernel_rfl) rfl (by kernel_rfl) (HSg.hs (hs_stR (g := gg) (B := B) (e := 68) (K := 25) (N := l.length) (cap := cap) (rs := ((L.set i (({ x with t := ⟨b,b + 1,b + 2⟩,state := b + 3 },.slice xa x.r.held.length xc) : CV)).map conR)) (rs' := (L.set i (({ x with t := ⟨b,b + 1,b + 2⟩,state := b + 3,s := { x.s with una := b + 4 } },.slice xa x.r.held.length xc) : CV)).map conR) (v := (.int .i64 (b + 4))) (i := 0) (off := i * 25 + 4) i 4 [.int .i64 b,.int .i64 (b + 1),.int .i64 (b + 2),.int .i64 (b + 3),.int .i64 x.s.una,.string x.s.data,.int .i64 x.s.sent,.bool x.s.fin,.bool x.s.finSent,.bool x.s.done,.int .i64 x.r.next,.string x.r.data,.slice xa x.r.held.length xc,.int .i64 x.r.fin,.bool x.r.done,.int .i64 x.window,.int .i64 x.most,.int .i64 x.o.mss,.int .i64 x.o.scale,.bool x.o.sack,.bool x.o.stamp,.int .i64 x.o.val,.int .i64 x.o.echo,.int .i64 x.timer,.int .i64 x.tries] (row' := [.int .i64 b,.int .i64 (b + 1),.int .i64 (b + 2),.int .i64 (b + 3),.int .i64 (b + 4),.string x.s.data,.int .i64 x.s.sent,.bool x.s.fin,.bool x.s.finSent,.bool x.s.done,.int .i64 x.r.next,.string x.r.data,.slice xa x.r.held.length xc,.int .i64 x.r.fin,.bool x.r.done,.int .i64 x.window,.int .i64 x.most,.int .i64 x.o.mss,.int .i64 x.o.scale,.bool x.o.sack,.bool x.o.stamp,.int .i64 x.o.val,.int .i64 x.o.echo,.int .i64 x.timer,.int .i64 x.tries]) hgg rfl (by kernel_rfl) rfl (by kernel_rfl) (by kernel_rfl) (by kernel_rfl) (by kernel_rfl) (cutW_le w B) (by rw [List.map_set,List.getElem?_set_self (by rw [List.length_map]; omega)]; rfl) (by kernel_rfl) rfl (by rw [List.map_set,List.map_set,List.set_set]; rfl))) ?_
 refine kES [0,1,5] [(0,.v (.slice A l.length cap)),(1,.v (.int .i64 (b + 4))),(5,.v (.int .i64 (i : Int)))] ?_
 refine kQ ?_
 refine kRD 3 [0,1,5] [(1,.v (.int .i64 (IntKind.i64.wrap (b + 4 + 1))))] ?_
 refine xl_nv [0,1,5] [(1,.v (.int .i64 (IntKind.i64.wrap (b + 4 + 1))))] [(1,.v (.int .i64 (b + 5)))] (by rw [show (IntKind.i64.wrap (b + 4 + 1)) = (b + 5) from wrap_to (by omega) (by omega) (by omega)]) (by kernel_rfl) ?_
 refine kED [0,1,5] [] ?_
 refine kQ ?_
 refine kCD 3 [0,1,5,51,52,53] [(51,.v (.slice A l.length cap)),(52,.v (.int .i64 (i : Int))),(53,.v (.int .i64 (b + 5)))] 90 [.int .i64 (b + 5)] (some 54) rfl (xc_b fun ww hf => ymarkText_c (b + 5) ww  (by omega)) ?_
 intro _
 refine kOD 0 [0,1,5,51,52,54] [] (.pointer (some ⟨gg,i * 25,none⟩)) rfl (fun _ _ _ ww hr => act_ix (kd := .i64) (T := 30) (e := 68) (K := 25) (g := gg) (N := l.length) (cap := cap) i hgg hr.1 rfl rfl (by kernel_rfl) (by kernel_rfl) (by kernel_rfl) hlt ww) ?_
 refine kOD 0 [0,1,5,54,55] [] (.pointer (some ⟨gg,i * 25 + 4,none⟩)) rfl (fun _ _ _ ww hr => act_fld (sz := 6) (b := gg) (m := i * 25) hr.1 rfl Try.underlying68 rfl (by kernel_rfl) rfl (by kernel_rfl) rfl) ?_
 refine kOD 0 [0,1,5,54,56] [] (.pointer (some ⟨gg,i * 25 + 5,none⟩)) rfl (fun _ _ _ ww hr => act_fld (sz := 1) (b := gg) (m := i * 25 + 4) hr.1 rfl Try.underlying62 rfl (by kernel_rfl) rfl (by kernel_rfl) rfl) ?_
 refine xl_hs 0 [0,1,5,54,57] ⟨[(0,.v (.slice A l.length cap)),(1,.v (.int .i64 (b + 5))),(5,.v (.int .i64 (i : Int))),(54,.v (.string (markText (b + 5)))),(57,.v (.pointer (some ⟨gg,i * 25 + 5,none⟩)))],[],[],[rowF B 68 25 (.slice A l.length cap) ((L.set i (({ x with t := ⟨b,b + 1,b + 2⟩,state := b + 3,s := { x.s with una := b + 4 } },.slice xa x.r.held.length xc) : CV)).map conR),hownF B L,frF w (allF (tabR B 68 (.slice A l.length cap) l)).blk]⟩ (by kernel_rfl) rfl (by kernel_rfl) rfl (by kernel_rfl) (HSg.hs (hs_stR (g := gg) (B := B) (e := 68) (K := 25) (N := l.length) (cap := cap) (rs := ((L.set i (({ x with t := ⟨b,b + 1,b + 2⟩,state := b + 3,s := { x.s with una := b + 4 } },.slice xa x.r.held.length xc) : CV)).map conR)) (rs' := (L.set i (({ x with t := ⟨b,b + 1,b + 2⟩,state := b + 3,s := { x.s with una := b + 4,data := (markText (b + 5)) } },.slice xa x.r.held.length xc) : CV)).map conR) (v := (.string (markText (b + 5)))) (i := 0) (off := i * 25 + 5) i 5 [.int .i64 b,.int .i64 (b + 1),.int .i64 (b + 2),.int .i64 (b + 3),.int .i64 (b + 4),.string x.s.data,.int .i64 x.s.sent,.bool x.s.fin,.bool x.s.finSent,.bool x.s.done,.int .i64 x.r.next,.string x.r.data,.slice xa x.r.held.length xc,.int .i64 x.r.fin,.bool x.r.done,.int .i64 x.window,.int .i64 x.most,.int .i64 x.o.mss,.int .i64 x.o.scale,.bool x.o.sack,.bool x.o.stamp,.int .i64 x.o.val,.int .i64 x.o.echo,.int .i64 x.timer,.int .i64 x.tries] (row' := [.int .i64 b,.int .i64 (b + 1),.int .i64 (b + 2),.int .i64 (b + 3),.int .i64 (b + 4),.string (markText (b + 5)),.int .i64 x.s.sent,.bool x.s.fin,.bool x.s.finSent,.bool x.s.done,.int .i64 x.r.next,.string x.r.data,.slice xa x.r.held.length xc,.int .i64 x.r.fin,.bool x.r.done,.int .i64 x.window,.int .i64 x.most,.int .i64 x.o.mss,.int .i64 x.o.scale,.bool x.o.sack,.bool x.o.stamp,.int .i64 x.o.val,.int .i64 x.o.echo,.int .i64 x.timer,.int .i64 x.tries]) hgg rfl (by kernel_rfl) rfl (by kernel_rfl) (by kernel_rfl) (by kernel_rfl) (by kernel_rfl) (cutW_le w B) (by rw [List.map_set,List.getElem?_set_self (by rw [List.length_map]; omega)]; rfl) (by kernel_rfl) rfl (by rw [List.map_set,List.map_set,List.set_set]; rfl))) ?_
 refine kED [0,1,5] [] ?_
 refine kQ ?_
 refine kRD 3 [0,1,5] [(1,.v (.int .i64 (IntKind.i64.wrap (b + 5 + 1))))] ?_
 refine xl_nv [0,1,5] [(1,.v (.int .i64 (IntKind.i64.wrap (b + 5 + 1))))] [(1,.v (.int .i64 (b + 6)))] (by rw [show (IntKind.i64.wrap (b + 5 + 1)) = (b + 6) from wrap_to (by omega) (by omega) (by omega)]) (by kernel_rfl) ?_
 refine kES [0,1,5] [(0,.v (.slice A l.length cap)),(1,.v (.int .i64 (b + 6))),(5,.v (.int .i64 (i : Int)))] ?_
 refine kQ ?_
 refine kOD 3 [0,1,5,60,61,62] [(60,.v (.slice A l.length cap)),(61,.v (.int .i64 (i : Int))),(62,.v (.int .i64 (b + 6)))] (.pointer (some ⟨gg,i * 25,none⟩)) rfl (fun _ _ _ ww hr => act_ix (kd := .i64) (T := 30) (e := 68) (K := 25) (g := gg) (N := l.length) (cap := cap) i hgg hr.1 rfl rfl (by kernel_rfl) (by kernel_rfl) (by kernel_rfl) hlt ww) ?_
 refine kOD 0 [0,1,5,62,63] [] (.pointer (some ⟨gg,i * 25 + 4,none⟩)) rfl (fun _ _ _ ww hr => act_fld (sz := 6) (b := gg) (m := i * 25) hr.1 rfl Try.underlying68 rfl (by kernel_rfl) rfl (by kernel_rfl) rfl) ?_
 refine kOD 0 [0,1,5,62,64] [] (.pointer (some ⟨gg,i * 25 + 6,none⟩)) rfl (fun _ _ _ ww hr => act_fld (sz := 1) (b := gg) (m := i * 25 + 4) hr.1 rfl Try.underlying62 rfl (by kernel_rfl) rfl (by kernel_rfl) rfl) ?_
 refine xl_hs 0 [0,1,5,62,65] ⟨[(0,.v (.slice A l.length cap)),(1,.v (.int .i64 (b + 6))),(5,.v (.int .i64 (i : Int))),(62,.v (.int .i64 (b + 6))),(65,.v (.pointer (some ⟨gg,i * 25 + 6,none⟩)))],[],[],[rowF B 68 25 (.slice A l.length cap) ((L.set i (({ x with t := ⟨b,b + 1,b + 2⟩,state := b + 3,s := { x.s with una := b + 4,data := (markText (b + 5)) } },.slice xa x.r.held.length xc) : CV)).map conR),hownF B L,frF w (allF (tabR B 68 (.slice A l.length cap) l)).blk]⟩ (by kernel_rfl) rfl (by kernel_rfl) rfl (by kernel_rfl) (HSg.hs (hs_stR (g := gg) (B := B) (e := 68) (K := 25) (N := l.length) (cap := cap) (rs := ((L.set i (({ x with t := ⟨b,b + 1,b + 2⟩,state := b + 3,s := { x.s with una := b + 4,data := (markText (b + 5)) } },.slice xa x.r.held.length xc) : CV)).map conR)) (rs' := (L.set i (({ x with t := ⟨b,b + 1,b + 2⟩,state := b + 3,s := { x.s with una := b + 4,data := (markText (b + 5)),sent := b + 6 } },.slice xa x.r.held.length xc) : CV)).map conR) (v := (.int .i64 (b + 6))) (i := 0) (off := i * 25 + 6) i 6 [.int .i64 b,.int .i64 (b + 1),.int .i64 (b + 2),.int .i64 (b + 3),.int .i64 (b + 4),.string (markText (b + 5)),.int .i64 x.s.sent,.bool x.s.fin,.bool x.s.finSent,.bool x.s.done,.int .i64 x.r.next,.string x.r.data,.slice xa x.r.held.length xc,.int .i64 x.r.fin,.bool x.r.done,.int .i64 x.window,.int .i64 x.most,.int .i64 x.o.mss,.int .i64 x.o.scale,.bool x.o.sack,.bool x.o.stamp,.int .i64 x.o.val,.int .i64 x.o.echo,.int .i64 x.timer,.int .i64 x.tries] (row' := [.int .i64 b,.int .i64 (b + 1),.int .i64 (b + 2),.int .i64 (b + 3),.int .i64 (b + 4),.string (markText (b + 5)),.int .i64 (b + 6),.bool x.s.fin,.bool x.s.finSent,.bool x.s.done,.int .i64 x.r.next,.string x.r.data,.slice xa x.r.held.length xc,.int .i64 x.r.fin,.bool x.r.done,.int .i64 x.window,.int .i64 x.most,.int .i64 x.o.mss,.int .i64 x.o.scale,.bool x.o.sack,.bool x.o.stamp,.int .i64 x.o.val,.int .i64 x.o.echo,.int .i64 x.timer,.int .i64 x.tries]) hgg rfl (by kernel_rfl) rfl (by kernel_rfl) (by kernel_rfl) (by kernel_rfl) (by kernel_rfl) (cutW_le w B) (by rw [List.map_set,List.getElem?_set_self (by rw [List.length_map]; omega)]; rfl) (by kernel_rfl) rfl (by rw [List.map_set,List.map_set,List.set_set]; rfl))) ?_
 refine kED [0,1,5] [] ?_
 refine kQ ?_
 refine kRD 3 [0,1,5] [(1,.v (.int .i64 (IntKind.i64.wrap (b + 6 + 1))))] ?_
 refine xl_nv [0,1,5] [(1,.v (.int .i64 (IntKind.i64.wrap (b + 6 + 1))))] [(1,.v (.int .i64 (b + 7)))] (by rw [show (IntKind.i64.wrap (b + 6 + 1)) = (b + 7) from wrap_to (by omega) (by omega) (by omega)]) (by kernel_rfl) ?_
 refine kED [0,1,5] [] ?_
 refine kQ ?_
 refine kOD 3 [0,1,5,68,69,70] [(68,.v (.slice A l.length cap)),(69,.v (.int .i64 (i : Int))),(70,.v (.int .i64 (b + 7)))] (.int .i64 (Int.tmod (b + 7) 3)) rfl (fun _ _ _ ww hr => act_bin hr.1 rfl (by kernel_rfl) (by kernel_rfl) (rem_run (by first | decide | omega) ww)) ?_
 refine kOD 1 [0,1,5,68,69,72] [(72,.v (.bool ((Int.tmod (b + 7) 3) == 0)))] (.pointer (some ⟨gg,i * 25,none⟩)) rfl (fun _ _ _ ww hr => act_ix (kd := .i64) (T := 30) (e := 68) (K := 25) (g := gg) (N := l.length) (cap := cap) i hgg hr.1 rfl rfl (by kernel_rfl) (by kernel_rfl) (by kernel_rfl) hlt ww) ?_
 refine kOD 0 [0,1,5,72,73] [] (.pointer (some ⟨gg,i * 25 + 4,none⟩)) rfl (fun _ _ _ ww hr => act_fld (sz := 6) (b := gg) (m := i * 25) hr.1 rfl Try.underlying68 rfl (by kernel_rfl) rfl (by kernel_rfl) rfl) ?_
 refine kOS 0 [0,1,5,72,74] [(0,.v (.slice A l.length cap)),(1,.v (.int .i64 (b + 7))),(5,.v (.int .i64 (i : Int))),(72,.v (.bool ((Int.tmod (b + 7) 3) == 0))),(74,.v (.pointer (some ⟨gg,i * 25 + 4,none⟩)))] (.pointer (some ⟨gg,i * 25 + 7,none⟩)) rfl (fun _ _ _ ww hr => act_fld (sz := 1) (b := gg) (m := i * 25 + 4) hr.1 rfl Try.underlying62 rfl (by kernel_rfl) rfl (by kernel_rfl) rfl) ?_
 refine xl_hs 0 [0,1,5,72,75] ⟨[(0,.v (.slice A l.length cap)),(1,.v (.int .i64 (b + 7))),(5,.v (.int .i64 (i : Int))),(72,.v (.bool ((Int.tmod (b + 7) 3) == 0))),(75,.v (.pointer (some ⟨gg,i * 25 + 7,none⟩)))],[],[],[rowF B 68 25 (.slice A l.length cap) ((L.set i (({ x with t := ⟨b,b + 1,b + 2⟩,state := b + 3,s := { x.s with una := b + 4,data := (markText (b + 5)),sent := b + 6 } },.slice xa x.r.held.length xc) : CV)).map conR),hownF B L,frF w (allF (tabR B 68 (.slice A l.length cap) l)).blk]⟩ (by kernel_rfl) rfl (by kernel_rfl) rfl (by kernel_rfl) (HSg.hs (hs_stR (g := gg) (B := B) (e := 68) (K := 25) (N := l.length) (cap := cap) (rs := ((L.set i (({ x with t := ⟨b,b + 1,b + 2⟩,state := b + 3,s := { x.s with una := b + 4,data := (markText (b + 5)),sent := b + 6 } },.slice xa x.r.held.length xc) : CV)).map conR)) (rs' := (L.set i (({ x with t := ⟨b,b + 1,b + 2⟩,state := b + 3,s := ⟨b + 4,(markText (b + 5)),b + 6,(Int.tmod (b + 7) 3) == 0,x.s.finSent,x.s.done⟩ },.slice xa x.r.held.length xc) : CV)).map conR) (v := (.bool ((Int.tmod (b + 7) 3) == 0))) (i := 0) (off := i * 25 + 7) i 7 [.int .i64 b,.int .i64 (b + 1),.int .i64 (b + 2),.int .i64 (b + 3),.int .i64 (b + 4),.string (markText (b + 5)),.int .i64 (b + 6),.bool x.s.fin,.bool x.s.finSent,.bool x.s.done,.int .i64 x.r.next,.string x.r.data,.slice xa x.r.held.length xc,.int .i64 x.r.fin,.bool x.r.done,.int .i64 x.window,.int .i64 x.most,.int .i64 x.o.mss,.int .i64 x.o.scale,.bool x.o.sack,.bool x.o.stamp,.int .i64 x.o.val,.int .i64 x.o.echo,.int .i64 x.timer,.int .i64 x.tries] (row' := [.int .i64 b,.int .i64 (b + 1),.int .i64 (b + 2),.int .i64 (b + 3),.int .i64 (b + 4),.string (markText (b + 5)),.int .i64 (b + 6),.bool ((Int.tmod (b + 7) 3) == 0),.bool x.s.finSent,.bool x.s.done,.int .i64 x.r.next,.string x.r.data,.slice xa x.r.held.length xc,.int .i64 x.r.fin,.bool x.r.done,.int .i64 x.window,.int .i64 x.most,.int .i64 x.o.mss,.int .i64 x.o.scale,.bool x.o.sack,.bool x.o.stamp,.int .i64 x.o.val,.int .i64 x.o.echo,.int .i64 x.timer,.int .i64 x.tries]) hgg rfl (by kernel_rfl) rfl (by kernel_rfl) (by kernel_rfl) (by kernel_rfl) (by kernel_rfl) (cutW_le w B) (by rw [List.map_set,List.getElem?_set_self (by rw [List.length_map]; omega)]; rfl) (by kernel_rfl) rfl (by rw [List.map_set,List.map_set,List.set_set]; rfl))) ?_
 refine kED [0,1,5] [] ?_
 refine kQ ?_
 refine kRD 3 [0,1,5] [(1,.v (.int .i64 (IntKind.i64.wrap (b + 7 + 1))))] ?_
 refine xl_nv [0,1,5] [(1,.v (.int .i64 (IntKind.i64.wrap (b + 7 + 1))))] [(1,.v (.int .i64 (b + 8)))] (by rw [show (IntKind.i64.wrap (b + 7 + 1)) = (b + 8) from wrap_to (by omega) (by omega) (by omega)]) (by kernel_rfl) ?_
 refine kED [0,1,5] [] ?_
 refine kQ ?_
 refine kOD 3 [0,1,5,78,79,80] [(78,.v (.slice A l.length cap)),(79,.v (.int .i64 (i : Int))),(80,.v (.int .i64 (b + 8)))] (.int .i64 (Int.tmod (b + 8) 3)) rfl (fun _ _ _ ww hr => act_bin hr.1 rfl (by kernel_rfl) (by kernel_rfl) (rem_run (by first | decide | omega) ww)) ?_
 refine kOD 1 [0,1,5,78,79,82] [(82,.v (.bool ((Int.tmod (b + 8) 3) == 0)))] (.pointer (some ⟨gg,i * 25,none⟩)) rfl (fun _ _ _ ww hr => act_ix (kd := .i64) (T := 30) (e := 68) (K := 25) (g := gg) (N := l.length) (cap := cap) i hgg hr.1 rfl rfl (by kernel_rfl) (by kernel_rfl) (by kernel_rfl) hlt ww) ?_
 refine kOD 0 [0,1,5,82,83] [] (.pointer (some ⟨gg,i * 25 + 4,none⟩)) rfl (fun _ _ _ ww hr => act_fld (sz := 6) (b := gg) (m := i * 25) hr.1 rfl Try.underlying68 rfl (by kernel_rfl) rfl (by kernel_rfl) rfl) ?_
 refine kOD 0 [0,1,5,82,84] [] (.pointer (some ⟨gg,i * 25 + 8,none⟩)) rfl (fun _ _ _ ww hr => act_fld (sz := 1) (b := gg) (m := i * 25 + 4) hr.1 rfl Try.underlying62 rfl (by kernel_rfl) rfl (by kernel_rfl) rfl) ?_
 refine xl_hs 0 [0,1,5,82,85] ⟨[(0,.v (.slice A l.length cap)),(1,.v (.int .i64 (b + 8))),(5,.v (.int .i64 (i : Int))),(82,.v (.bool ((Int.tmod (b + 8) 3) == 0))),(85,.v (.pointer (some ⟨gg,i * 25 + 8,none⟩)))],[],[],[rowF B 68 25 (.slice A l.length cap) ((L.set i (({ x with t := ⟨b,b + 1,b + 2⟩,state := b + 3,s := ⟨b + 4,(markText (b + 5)),b + 6,(Int.tmod (b + 7) 3) == 0,x.s.finSent,x.s.done⟩ },.slice xa x.r.held.length xc) : CV)).map conR),hownF B L,frF w (allF (tabR B 68 (.slice A l.length cap) l)).blk]⟩ (by kernel_rfl) rfl (by kernel_rfl) rfl (by kernel_rfl) (HSg.hs (hs_stR (g := gg) (B := B) (e := 68) (K := 25) (N := l.length) (cap := cap) (rs := ((L.set i (({ x with t := ⟨b,b + 1,b + 2⟩,state := b + 3,s := ⟨b + 4,(markText (b + 5)),b + 6,(Int.tmod (b + 7) 3) == 0,x.s.finSent,x.s.done⟩ },.slice xa x.r.held.length xc) : CV)).map conR)) (rs' := (L.set i (({ x with t := ⟨b,b + 1,b + 2⟩,state := b + 3,s := ⟨b + 4,(markText (b + 5)),b + 6,(Int.tmod (b + 7) 3) == 0,(Int.tmod (b + 8) 3) == 0,x.s.done⟩ },.slice xa x.r.held.length xc) : CV)).map conR) (v := (.bool ((Int.tmod (b + 8) 3) == 0))) (i := 0) (off := i * 25 + 8) i 8 [.int .i64 b,.int .i64 (b + 1),.int .i64 (b + 2),.int .i64 (b + 3),.int .i64 (b + 4),.string (markText (b + 5)),.int .i64 (b + 6),.bool ((Int.tmod (b + 7) 3) == 0),.bool x.s.finSent,.bool x.s.done,.int .i64 x.r.next,.string x.r.data,.slice xa x.r.held.length xc,.int .i64 x.r.fin,.bool x.r.done,.int .i64 x.window,.int .i64 x.most,.int .i64 x.o.mss,.int .i64 x.o.scale,.bool x.o.sack,.bool x.o.stamp,.int .i64 x.o.val,.int .i64 x.o.echo,.int .i64 x.timer,.int .i64 x.tries] (row' := [.int .i64 b,.int .i64 (b + 1),.int .i64 (b + 2),.int .i64 (b + 3),.int .i64 (b + 4),.string (markText (b + 5)),.int .i64 (b + 6),.bool ((Int.tmod (b + 7) 3) == 0),.bool ((Int.tmod (b + 8) 3) == 0),.bool x.s.done,.int .i64 x.r.next,.string x.r.data,.slice xa x.r.held.length xc,.int .i64 x.r.fin,.bool x.r.done,.int .i64 x.window,.int .i64 x.most,.int .i64 x.o.mss,.int .i64 x.o.scale,.bool x.o.sack,.bool x.o.stamp,.int .i64 x.o.val,.int .i64 x.o.echo,.int .i64 x.timer,.int .i64 x.tries]) hgg rfl (by kernel_rfl) rfl (by kernel_rfl) (by kernel_rfl) (by kernel_rfl) (by kernel_rfl) (cutW_le w B) (by rw [List.map_set,List.getElem?_set_self (by rw [List.length_map]; omega)]; rfl) (by kernel_rfl) rfl (by rw [List.map_set,List.map_set,List.set_set]; rfl))) ?_
 refine kED [0,1,5] [] ?_
 refine kQ ?_
 refine kRS 3 [0,1,5] [(0,.v (.slice A l.length cap)),(1,.v (.int .i64 (IntKind.i64.wrap (b + 8 + 1)))),(5,.v (.int .i64 (i : Int)))] ?_
 refine xl_eqS (t' := [(0,.v (.slice A l.length cap)),(1,.v (.int .i64 (b + 9))),(5,.v (.int .i64 (i : Int)))]) (by rw [show (IntKind.i64.wrap (b + 8 + 1)) = (b + 9) from wrap_to (by omega) (by omega) (by omega)]) ?_
 refine kED [0,1,5] [] ?_
 refine kQ ?_
 refine kOD 3 [0,1,5,88,89,90] [(88,.v (.slice A l.length cap)),(89,.v (.int .i64 (i : Int))),(90,.v (.int .i64 (b + 9)))] (.int .i64 (Int.tmod (b + 9) 3)) rfl (fun _ _ _ ww hr => act_bin hr.1 rfl (by kernel_rfl) (by kernel_rfl) (rem_run (by first | decide | omega) ww)) ?_
 refine kOD 1 [0,1,5,88,89,92] [(92,.v (.bool ((Int.tmod (b + 9) 3) == 0)))] (.pointer (some ⟨gg,i * 25,none⟩)) rfl (fun _ _ _ ww hr => act_ix (kd := .i64) (T := 30) (e := 68) (K := 25) (g := gg) (N := l.length) (cap := cap) i hgg hr.1 rfl rfl (by kernel_rfl) (by kernel_rfl) (by kernel_rfl) hlt ww) ?_
 refine kOD 0 [0,1,5,92,93] [] (.pointer (some ⟨gg,i * 25 + 4,none⟩)) rfl (fun _ _ _ ww hr => act_fld (sz := 6) (b := gg) (m := i * 25) hr.1 rfl Try.underlying68 rfl (by kernel_rfl) rfl (by kernel_rfl) rfl) ?_
 refine kOD 0 [0,1,5,92,94] [] (.pointer (some ⟨gg,i * 25 + 9,none⟩)) rfl (fun _ _ _ ww hr => act_fld (sz := 1) (b := gg) (m := i * 25 + 4) hr.1 rfl Try.underlying62 rfl (by kernel_rfl) rfl (by kernel_rfl) rfl) ?_
 refine xl_hs 0 [0,1,5,92,95] ⟨[(0,.v (.slice A l.length cap)),(1,.v (.int .i64 (b + 9))),(5,.v (.int .i64 (i : Int))),(92,.v (.bool ((Int.tmod (b + 9) 3) == 0))),(95,.v (.pointer (some ⟨gg,i * 25 + 9,none⟩)))],[],[],[rowF B 68 25 (.slice A l.length cap) ((L.set i (({ x with t := ⟨b,b + 1,b + 2⟩,state := b + 3,s := ⟨b + 4,(markText (b + 5)),b + 6,(Int.tmod (b + 7) 3) == 0,(Int.tmod (b + 8) 3) == 0,x.s.done⟩ },.slice xa x.r.held.length xc) : CV)).map conR),hownF B L,frF w (allF (tabR B 68 (.slice A l.length cap) l)).blk]⟩ (by kernel_rfl) rfl (by kernel_rfl) rfl (by kernel_rfl) (HSg.hs (hs_stR (g := gg) (B := B) (e := 68) (K := 25) (N := l.length) (cap := cap) (rs := ((L.set i (({ x with t := ⟨b,b + 1,b + 2⟩,state := b + 3,s := ⟨b + 4,(markText (b + 5)),b + 6,(Int.tmod (b + 7) 3) == 0,(Int.tmod (b + 8) 3) == 0,x.s.done⟩ },.slice xa x.r.held.length xc) : CV)).map conR)) (rs' := (L.set i (({ x with t := ⟨b,b + 1,b + 2⟩,state := b + 3,s := ⟨b + 4,(markText (b + 5)),b + 6,(Int.tmod (b + 7) 3) == 0,(Int.tmod (b + 8) 3) == 0,(Int.tmod (b + 9) 3) == 0⟩ },.slice xa x.r.held.length xc) : CV)).map conR) (v := (.bool ((Int.tmod (b + 9) 3) == 0))) (i := 0) (off := i * 25 + 9) i 9 [.int .i64 b,.int .i64 (b + 1),.int .i64 (b + 2),.int .i64 (b + 3),.int .i64 (b + 4),.string (markText (b + 5)),.int .i64 (b + 6),.bool ((Int.tmod (b + 7) 3) == 0),.bool ((Int.tmod (b + 8) 3) == 0),.bool x.s.done,.int .i64 x.r.next,.string x.r.data,.slice xa x.r.held.length xc,.int .i64 x.r.fin,.bool x.r.done,.int .i64 x.window,.int .i64 x.most,.int .i64 x.o.mss,.int .i64 x.o.scale,.bool x.o.sack,.bool x.o.stamp,.int .i64 x.o.val,.int .i64 x.o.echo,.int .i64 x.timer,.int .i64 x.tries] (row' := [.int .i64 b,.int .i64 (b + 1),.int .i64 (b + 2),.int .i64 (b + 3),.int .i64 (b + 4),.string (markText (b + 5)),.int .i64 (b + 6),.bool ((Int.tmod (b + 7) 3) == 0),.bool ((Int.tmod (b + 8) 3) == 0),.bool ((Int.tmod (b + 9) 3) == 0),.int .i64 x.r.next,.string x.r.data,.slice xa x.r.held.length xc,.int .i64 x.r.fin,.bool x.r.done,.int .i64 x.window,.int .i64 x.most,.int .i64 x.o.mss,.int .i64 x.o.scale,.bool x.o.sack,.bool x.o.stamp,.int .i64 x.o.val,.int .i64 x.o.echo,.int .i64 x.timer,.int .i64 x.tries]) hgg rfl (by kernel_rfl) rfl (by kernel_rfl) (by kernel_rfl) (by kernel_rfl) (by kernel_rfl) (cutW_le w B) (by rw [List.map_set,List.getElem?_set_self (by rw [List.length_map]; omega)]; rfl) (by kernel_rfl) rfl (by rw [List.map_set,List.map_set,List.set_set]; rfl))) ?_
 refine kED [0,1,5] [] ?_
 refine kQ ?_
 refine kRD 3 [0,1,5] [(1,.v (.int .i64 (IntKind.i64.wrap (b + 9 + 1))))] ?_
 refine xl_nv [0,1,5] [(1,.v (.int .i64 (IntKind.i64.wrap (b + 9 + 1))))] [(1,.v (.int .i64 (b + 10)))] (by rw [show (IntKind.i64.wrap (b + 9 + 1)) = (b + 10) from wrap_to (by omega) (by omega) (by omega)]) (by kernel_rfl) ?_
 refine kED [0,1,5] [] ?_
 refine kQ ?_
 refine kOD 3 [0,1,5,98,99,100] [(98,.v (.slice A l.length cap)),(99,.v (.int .i64 (i : Int))),(100,.v (.int .i64 (b + 10)))] (.pointer (some ⟨gg,i * 25,none⟩)) rfl (fun _ _ _ ww hr => act_ix (kd := .i64) (T := 30) (e := 68) (K := 25) (g := gg) (N := l.length) (cap := cap) i hgg hr.1 rfl rfl (by kernel_rfl) (by kernel_rfl) (by kernel_rfl) hlt ww) ?_
 refine kOS 0 [0,1,5,100,101] [(0,.v (.slice A l.length cap)),(1,.v (.int .i64 (b + 10))),(5,.v (.int .i64 (i : Int))),(100,.v (.int .i64 (b + 10))),(101,.v (.pointer (some ⟨gg,i * 25,none⟩)))] (.pointer (some ⟨gg,i * 25 + 10,none⟩)) rfl (fun _ _ _ ww hr => act_fld (sz := 5) (b := gg) (m := i * 25) hr.1 rfl Try.underlying68 rfl (by kernel_rfl) rfl (by kernel_rfl) rfl) ?_
 refine kOD 0 [0,1,5,100,102] [] (.pointer (some ⟨gg,i * 25 + 10,none⟩)) rfl (fun _ _ _ ww hr => act_fld (sz := 1) (b := gg) (m := i * 25 + 10) hr.1 rfl Try.underlying65 rfl (by kernel_rfl) rfl (by kernel_rfl) rfl) ?_
 refine xl_hs 0 [0,1,5,100,103] ⟨[(0,.v (.slice A l.length cap)),(1,.v (.int .i64 (b + 10))),(5,.v (.int .i64 (i : Int))),(100,.v (.int .i64 (b + 10))),(103,.v (.pointer (some ⟨gg,i * 25 + 10,none⟩)))],[],[],[rowF B 68 25 (.slice A l.length cap) ((L.set i (({ x with t := ⟨b,b + 1,b + 2⟩,state := b + 3,s := ⟨b + 4,(markText (b + 5)),b + 6,(Int.tmod (b + 7) 3) == 0,(Int.tmod (b + 8) 3) == 0,(Int.tmod (b + 9) 3) == 0⟩ },.slice xa x.r.held.length xc) : CV)).map conR),hownF B L,frF w (allF (tabR B 68 (.slice A l.length cap) l)).blk]⟩ (by kernel_rfl) rfl (by kernel_rfl) rfl (by kernel_rfl) (HSg.hs (hs_stR (g := gg) (B := B) (e := 68) (K := 25) (N := l.length) (cap := cap) (rs := ((L.set i (({ x with t := ⟨b,b + 1,b + 2⟩,state := b + 3,s := ⟨b + 4,(markText (b + 5)),b + 6,(Int.tmod (b + 7) 3) == 0,(Int.tmod (b + 8) 3) == 0,(Int.tmod (b + 9) 3) == 0⟩ },.slice xa x.r.held.length xc) : CV)).map conR)) (rs' := (L.set i (({ x with t := ⟨b,b + 1,b + 2⟩,state := b + 3,s := ⟨b + 4,(markText (b + 5)),b + 6,(Int.tmod (b + 7) 3) == 0,(Int.tmod (b + 8) 3) == 0,(Int.tmod (b + 9) 3) == 0⟩,r := { x.r with next := b + 10 } },.slice xa x.r.held.length xc) : CV)).map conR) (v := (.int .i64 (b + 10))) (i := 0) (off := i * 25 + 10) i 10 [.int .i64 b,.int .i64 (b + 1),.int .i64 (b + 2),.int .i64 (b + 3),.int .i64 (b + 4),.string (markText (b + 5)),.int .i64 (b + 6),.bool ((Int.tmod (b + 7) 3) == 0),.bool ((Int.tmod (b + 8) 3) == 0),.bool ((Int.tmod (b + 9) 3) == 0),.int .i64 x.r.next,.string x.r.data,.slice xa x.r.held.length xc,.int .i64 x.r.fin,.bool x.r.done,.int .i64 x.window,.int .i64 x.most,.int .i64 x.o.mss,.int .i64 x.o.scale,.bool x.o.sack,.bool x.o.stamp,.int .i64 x.o.val,.int .i64 x.o.echo,.int .i64 x.timer,.int .i64 x.tries] (row' := [.int .i64 b,.int .i64 (b + 1),.int .i64 (b + 2),.int .i64 (b + 3),.int .i64 (b + 4),.string (markText (b + 5)),.int .i64 (b + 6),.bool ((Int.tmod (b + 7) 3) == 0),.bool ((Int.tmod (b + 8) 3) == 0),.bool ((Int.tmod (b + 9) 3) == 0),.int .i64 (b + 10),.string x.r.data,.slice xa x.r.held.length xc,.int .i64 x.r.fin,.bool x.r.done,.int .i64 x.window,.int .i64 x.most,.int .i64 x.o.mss,.int .i64 x.o.scale,.bool x.o.sack,.bool x.o.stamp,.int .i64 x.o.val,.int .i64 x.o.echo,.int .i64 x.timer,.int .i64 x.tries]) hgg rfl (by kernel_rfl) rfl (by kernel_rfl) (by kernel_rfl) (by kernel_rfl) (by kernel_rfl) (cutW_le w B) (by rw [List.map_set,List.getElem?_set_self (by rw [List.length_map]; omega)]; rfl) (by kernel_rfl) rfl (by rw [List.map_set,List.map_set,List.set_set]; rfl))) ?_
 refine kED [0,1,5] [] ?_
 refine kQ ?_
 refine kRD 3 [0,1,5] [(1,.v (.int .i64 (IntKind.i64.wrap (b + 10 + 1))))] ?_
 refine xl_nv [0,1,5] [(1,.v (.int .i64 (IntKind.i64.wrap (b + 10 + 1))))] [(1,.v (.int .i64 (b + 11)))] (by rw [show (IntKind.i64.wrap (b + 10 + 1)) = (b + 11) from wrap_to (by omega) (by omega) (by omega)]) (by kernel_rfl) ?_
 refine kED [0,1,5] [] ?_
 refine kQ ?_
 refine kCD 3 [0,1,5,106,107,108] [(106,.v (.slice A l.length cap)),(107,.v (.int .i64 (i : Int))),(108,.v (.int .i64 (b + 11)))] 90 [.int .i64 (b + 11)] (some 109) rfl (xc_b fun ww hf => ymarkText_c (b + 11) ww  (by omega)) ?_
 intro _
 refine kOD 0 [0,1,5,106,107,109] [] (.pointer (some ⟨gg,i * 25,none⟩)) rfl (fun _ _ _ ww hr => act_ix (kd := .i64) (T := 30) (e := 68) (K := 25) (g := gg) (N := l.length) (cap := cap) i hgg hr.1 rfl rfl (by kernel_rfl) (by kernel_rfl) (by kernel_rfl) hlt ww) ?_
 refine kOD 0 [0,1,5,109,110] [] (.pointer (some ⟨gg,i * 25 + 10,none⟩)) rfl (fun _ _ _ ww hr => act_fld (sz := 5) (b := gg) (m := i * 25) hr.1 rfl Try.underlying68 rfl (by kernel_rfl) rfl (by kernel_rfl) rfl) ?_
 refine kOD 0 [0,1,5,109,111] [] (.pointer (some ⟨gg,i * 25 + 11,none⟩)) rfl (fun _ _ _ ww hr => act_fld (sz := 1) (b := gg) (m := i * 25 + 10) hr.1 rfl Try.underlying65 rfl (by kernel_rfl) rfl (by kernel_rfl) rfl) ?_
 refine xl_hs 0 [0,1,5,109,112] ⟨[(0,.v (.slice A l.length cap)),(1,.v (.int .i64 (b + 11))),(5,.v (.int .i64 (i : Int))),(109,.v (.string (markText (b + 11)))),(112,.v (.pointer (some ⟨gg,i * 25 + 11,none⟩)))],[],[],[rowF B 68 25 (.slice A l.length cap) ((L.set i (({ x with t := ⟨b,b + 1,b + 2⟩,state := b + 3,s := ⟨b + 4,(markText (b + 5)),b + 6,(Int.tmod (b + 7) 3) == 0,(Int.tmod (b + 8) 3) == 0,(Int.tmod (b + 9) 3) == 0⟩,r := { x.r with next := b + 10 } },.slice xa x.r.held.length xc) : CV)).map conR),hownF B L,frF w (allF (tabR B 68 (.slice A l.length cap) l)).blk]⟩ (by kernel_rfl) rfl (by kernel_rfl) rfl (by kernel_rfl) (HSg.hs (hs_stR (g := gg) (B := B) (e := 68) (K := 25) (N := l.length) (cap := cap) (rs := ((L.set i (({ x with t := ⟨b,b + 1,b + 2⟩,state := b + 3,s := ⟨b + 4,(markText (b + 5)),b + 6,(Int.tmod (b + 7) 3) == 0,(Int.tmod (b + 8) 3) == 0,(Int.tmod (b + 9) 3) == 0⟩,r := { x.r with next := b + 10 } },.slice xa x.r.held.length xc) : CV)).map conR)) (rs' := (L.set i (({ x with t := ⟨b,b + 1,b + 2⟩,state := b + 3,s := ⟨b + 4,(markText (b + 5)),b + 6,(Int.tmod (b + 7) 3) == 0,(Int.tmod (b + 8) 3) == 0,(Int.tmod (b + 9) 3) == 0⟩,r := { x.r with next := b + 10,data := (markText (b + 11)) } },.slice xa x.r.held.length xc) : CV)).map conR) (v := (.string (markText (b + 11)))) (i := 0) (off := i * 25 + 11) i 11 [.int .i64 b,.int .i64 (b + 1),.int .i64 (b + 2),.int .i64 (b + 3),.int .i64 (b + 4),.string (markText (b + 5)),.int .i64 (b + 6),.bool ((Int.tmod (b + 7) 3) == 0),.bool ((Int.tmod (b + 8) 3) == 0),.bool ((Int.tmod (b + 9) 3) == 0),.int .i64 (b + 10),.string x.r.data,.slice xa x.r.held.length xc,.int .i64 x.r.fin,.bool x.r.done,.int .i64 x.window,.int .i64 x.most,.int .i64 x.o.mss,.int .i64 x.o.scale,.bool x.o.sack,.bool x.o.stamp,.int .i64 x.o.val,.int .i64 x.o.echo,.int .i64 x.timer,.int .i64 x.tries] (row' := [.int .i64 b,.int .i64 (b + 1),.int .i64 (b + 2),.int .i64 (b + 3),.int .i64 (b + 4),.string (markText (b + 5)),.int .i64 (b + 6),.bool ((Int.tmod (b + 7) 3) == 0),.bool ((Int.tmod (b + 8) 3) == 0),.bool ((Int.tmod (b + 9) 3) == 0),.int .i64 (b + 10),.string (markText (b + 11)),.slice xa x.r.held.length xc,.int .i64 x.r.fin,.bool x.r.done,.int .i64 x.window,.int .i64 x.most,.int .i64 x.o.mss,.int .i64 x.o.scale,.bool x.o.sack,.bool x.o.stamp,.int .i64 x.o.val,.int .i64 x.o.echo,.int .i64 x.timer,.int .i64 x.tries]) hgg rfl (by kernel_rfl) rfl (by kernel_rfl) (by kernel_rfl) (by kernel_rfl) (by kernel_rfl) (cutW_le w B) (by rw [List.map_set,List.getElem?_set_self (by rw [List.length_map]; omega)]; rfl) (by kernel_rfl) rfl (by rw [List.map_set,List.map_set,List.set_set]; rfl))) ?_
 refine kED [0,1,5] [] ?_
 refine kQ ?_
 refine kRS 3 [0,1,5] [(0,.v (.slice A l.length cap)),(1,.v (.int .i64 (IntKind.i64.wrap (b + 11 + 1)))),(5,.v (.int .i64 (i : Int)))] ?_
 refine xl_eqS (t' := [(0,.v (.slice A l.length cap)),(1,.v (.int .i64 (b + 12))),(5,.v (.int .i64 (i : Int)))]) (by rw [show (IntKind.i64.wrap (b + 11 + 1)) = (b + 12) from wrap_to (by omega) (by omega) (by omega)]) ?_
 refine kED [0,1,5] [] ?_
 refine kS ?_
 refine xw_wk ((wk_pick [1,0,2] [hownF B L,rowF B 68 25 (.slice A l.length cap) ((L.set i (({ x with t := ⟨b,b + 1,b + 2⟩,state := b + 3,s := ⟨b + 4,(markText (b + 5)),b + 6,(Int.tmod (b + 7) 3) == 0,(Int.tmod (b + 8) 3) == 0,(Int.tmod (b + 9) 3) == 0⟩,r := { x.r with next := b + 10,data := (markText (b + 11)) } },.slice xa x.r.held.length xc) : CV)).map conR),frF w (allF (tabR B 68 (.slice A l.length cap) l)).blk] (by kernel_rfl) (by kernel_rfl)).trans (wk_turn (fs' := [ownF B (.slice xa x.r.held.length xc) 2 (x.r.held.map pceCells),hownF B (L.take i ++ L.drop (i + 1)),rowF B 68 25 (.slice A l.length cap) ((L.set i (({ x with t := ⟨b,b + 1,b + 2⟩,state := b + 3,s := ⟨b + 4,(markText (b + 5)),b + 6,(Int.tmod (b + 7) 3) == 0,(Int.tmod (b + 8) 3) == 0,(Int.tmod (b + 9) 3) == 0⟩,r := { x.r with next := b + 10,data := (markText (b + 11)) } },.slice xa x.r.held.length xc) : CV)).map conR),frF w (allF (tabR B 68 (.slice A l.length cap) l)).blk]) (fun _ _ _ _ h => hown_take hxL h))) ?_
 refine kG ?_
 refine kOF 2 [0,1,5,115,116] ⟨[(0,.v (.slice A l.length cap)),(1,.v (.int .i64 (b + 12))),(5,.v (.int .i64 (i : Int))),(115,.v (.slice A l.length cap)),(116,.v (.int .i64 (i : Int)))],[],[],[ownF B (.slice xa x.r.held.length xc) 2 (x.r.held.map pceCells),hownF B (L.take i ++ L.drop (i + 1)),rowF B 68 25 (.slice A l.length cap) ((L.set i (({ x with t := ⟨b,b + 1,b + 2⟩,state := b + 3,s := ⟨b + 4,(markText (b + 5)),b + 6,(Int.tmod (b + 7) 3) == 0,(Int.tmod (b + 8) 3) == 0,(Int.tmod (b + 9) 3) == 0⟩,r := { x.r with next := b + 10,data := (markText (b + 11)) } },.slice xa x.r.held.length xc) : CV)).map conR),frF w (allF (tabR B 68 (.slice A l.length cap) l)).blk]⟩ (.pointer (some ⟨gg,i * 25,none⟩)) rfl (fun _ _ _ ww hr => act_ix (kd := .i64) (T := 30) (e := 68) (K := 25) (g := gg) (N := l.length) (cap := cap) i hgg hr.1 rfl rfl (by kernel_rfl) (by kernel_rfl) (by kernel_rfl) hlt ww) ?_
 refine kOD 0 [0,1,5,117] [] (.pointer (some ⟨gg,i * 25 + 10,none⟩)) rfl (fun _ _ _ ww hr => act_fld (sz := 5) (b := gg) (m := i * 25) hr.1 rfl Try.underlying68 rfl (by kernel_rfl) rfl (by kernel_rfl) rfl) ?_
 refine kOD 0 [0,1,5,118] [] (.pointer (some ⟨gg,i * 25 + 12,none⟩)) rfl (fun _ _ _ ww hr => act_fld (sz := 1) (b := gg) (m := i * 25 + 10) hr.1 rfl Try.underlying65 rfl (by kernel_rfl) rfl (by kernel_rfl) rfl) ?_
 refine kOD 0 [0,1,5,119] [] (.slice xa x.r.held.length xc) rfl (fun _ _ _ ww hr => ldR_run (po := 12) (j := i) (row := [.int .i64 b,.int .i64 (b + 1),.int .i64 (b + 2),.int .i64 (b + 3),.int .i64 (b + 4),.string (markText (b + 5)),.int .i64 (b + 6),.bool ((Int.tmod (b + 7) 3) == 0),.bool ((Int.tmod (b + 8) 3) == 0),.bool ((Int.tmod (b + 9) 3) == 0),.int .i64 (b + 10),.string (markText (b + 11)),.slice xa x.r.held.length xc,.int .i64 x.r.fin,.bool x.r.done,.int .i64 x.window,.int .i64 x.most,.int .i64 x.o.mss,.int .i64 x.o.scale,.bool x.o.sack,.bool x.o.stamp,.int .i64 x.o.val,.int .i64 x.o.echo,.int .i64 x.timer,.int .i64 x.tries]) (rowF B 68 25 (.slice A l.length cap) ((L.set i (({ x with t := ⟨b,b + 1,b + 2⟩,state := b + 3,s := ⟨b + 4,(markText (b + 5)),b + 6,(Int.tmod (b + 7) 3) == 0,(Int.tmod (b + 8) 3) == 0,(Int.tmod (b + 9) 3) == 0⟩,r := { x.r with next := b + 10,data := (markText (b + 11)) } },.slice xa x.r.held.length xc) : CV)).map conR)) hr rfl (by kernel_rfl) (by simp) (by rw [List.map_set,List.getElem?_set_self (by rw [List.length_map]; omega)]; rfl) (by kernel_rfl) hgg rfl rfl) ?_
 refine kWD 1 [0,1,5,120,121] [(121,.v (.int .i64 (b + 12)))] 91 [.slice xa x.r.held.length xc,.int .i64 (b + 12)] (some 122) 0 rfl rfl (fun ww b h hb => Nat.le_trans (cutW_le w B) (vblk_lo h hb)) (xcm_own marks_ne fun ww hw hf => ymarkPieceS_c (.slice xa x.r.held.length xc) x.r.held (b + 12) ww B (Nat.le_trans (by first | exact Nat.le_refl _ | exact Nat.le_of_eq (cutW_size hB).symm) hw) (hf (ownF B (.slice xa x.r.held.length xc) 2 (x.r.held.map pceCells)) (by simp)) (by omega) (by omega) (by omega)) ?_
 intro _
 refine kED [0,1,5] [(1,.v (.int .i64 ((b + 12) + 2 * (x.r.held.length : Int))))] ?_
 refine kS ?_
 obtain ⟨q,hq⟩ : ∃ q,q = (b + 12) + 2 * (x.r.held.length : Int) := ⟨_,rfl⟩
 rw [← hq]
 refine kG ?_
 refine kOF 3 [0,1,5,123,124,125] ⟨[(0,.v (.slice A l.length cap)),(1,.v (.int .i64 q)),(5,.v (.int .i64 (i : Int))),(123,.v (.slice A l.length cap)),(124,.v (.int .i64 (i : Int))),(125,.v (.int .i64 q))],[],[],[ownF B (.slice xa x.r.held.length xc) 2 ((marks mkP 2 (b + 12) x.r.held.length).map pceCells),hownF B (L.take i ++ L.drop (i + 1)),rowF B 68 25 (.slice A l.length cap) ((L.set i (({ x with t := ⟨b,b + 1,b + 2⟩,state := b + 3,s := ⟨b + 4,(markText (b + 5)),b + 6,(Int.tmod (b + 7) 3) == 0,(Int.tmod (b + 8) 3) == 0,(Int.tmod (b + 9) 3) == 0⟩,r := { x.r with next := b + 10,data := (markText (b + 11)) } },.slice xa x.r.held.length xc) : CV)).map conR),frF w (allF (tabR B 68 (.slice A l.length cap) l)).blk]⟩ (.pointer (some ⟨gg,i * 25,none⟩)) rfl (fun _ _ _ ww hr => act_ix (kd := .i64) (T := 30) (e := 68) (K := 25) (g := gg) (N := l.length) (cap := cap) i hgg hr.1 rfl rfl (by kernel_rfl) (by kernel_rfl) (by kernel_rfl) hlt ww) ?_
 refine kOD 0 [0,1,5,125,126] [] (.pointer (some ⟨gg,i * 25 + 10,none⟩)) rfl (fun _ _ _ ww hr => act_fld (sz := 5) (b := gg) (m := i * 25) hr.1 rfl Try.underlying68 rfl (by kernel_rfl) rfl (by kernel_rfl) rfl) ?_
 refine kOD 0 [0,1,5,125,127] [] (.pointer (some ⟨gg,i * 25 + 13,none⟩)) rfl (fun _ _ _ ww hr => act_fld (sz := 1) (b := gg) (m := i * 25 + 10) hr.1 rfl Try.underlying65 rfl (by kernel_rfl) rfl (by kernel_rfl) rfl) ?_
 refine xl_hs 0 [0,1,5,125,128] ⟨[(0,.v (.slice A l.length cap)),(1,.v (.int .i64 q)),(5,.v (.int .i64 (i : Int))),(125,.v (.int .i64 q)),(128,.v (.pointer (some ⟨gg,i * 25 + 13,none⟩)))],[],[],[ownF B (.slice xa x.r.held.length xc) 2 ((marks mkP 2 (b + 12) x.r.held.length).map pceCells),hownF B (L.take i ++ L.drop (i + 1)),rowF B 68 25 (.slice A l.length cap) ((L.set i (({ x with t := ⟨b,b + 1,b + 2⟩,state := b + 3,s := ⟨b + 4,(markText (b + 5)),b + 6,(Int.tmod (b + 7) 3) == 0,(Int.tmod (b + 8) 3) == 0,(Int.tmod (b + 9) 3) == 0⟩,r := { x.r with next := b + 10,data := (markText (b + 11)) } },.slice xa x.r.held.length xc) : CV)).map conR),frF w (allF (tabR B 68 (.slice A l.length cap) l)).blk]⟩ (by kernel_rfl) rfl (by kernel_rfl) rfl (by kernel_rfl) (HSg.hs (hs_stR (g := gg) (B := B) (e := 68) (K := 25) (N := l.length) (cap := cap) (rs := ((L.set i (({ x with t := ⟨b,b + 1,b + 2⟩,state := b + 3,s := ⟨b + 4,(markText (b + 5)),b + 6,(Int.tmod (b + 7) 3) == 0,(Int.tmod (b + 8) 3) == 0,(Int.tmod (b + 9) 3) == 0⟩,r := { x.r with next := b + 10,data := (markText (b + 11)) } },.slice xa x.r.held.length xc) : CV)).map conR)) (rs' := (L.set i (({ x with t := ⟨b,b + 1,b + 2⟩,state := b + 3,s := ⟨b + 4,(markText (b + 5)),b + 6,(Int.tmod (b + 7) 3) == 0,(Int.tmod (b + 8) 3) == 0,(Int.tmod (b + 9) 3) == 0⟩,r := ⟨b + 10,(markText (b + 11)),(marks mkP 2 (b + 12) x.r.held.length),q,x.r.done⟩ },.slice xa x.r.held.length xc) : CV)).map conR) (v := (.int .i64 q)) (i := 2) (off := i * 25 + 13) i 13 [.int .i64 b,.int .i64 (b + 1),.int .i64 (b + 2),.int .i64 (b + 3),.int .i64 (b + 4),.string (markText (b + 5)),.int .i64 (b + 6),.bool ((Int.tmod (b + 7) 3) == 0),.bool ((Int.tmod (b + 8) 3) == 0),.bool ((Int.tmod (b + 9) 3) == 0),.int .i64 (b + 10),.string (markText (b + 11)),.slice xa x.r.held.length xc,.int .i64 x.r.fin,.bool x.r.done,.int .i64 x.window,.int .i64 x.most,.int .i64 x.o.mss,.int .i64 x.o.scale,.bool x.o.sack,.bool x.o.stamp,.int .i64 x.o.val,.int .i64 x.o.echo,.int .i64 x.timer,.int .i64 x.tries] (row' := [.int .i64 b,.int .i64 (b + 1),.int .i64 (b + 2),.int .i64 (b + 3),.int .i64 (b + 4),.string (markText (b + 5)),.int .i64 (b + 6),.bool ((Int.tmod (b + 7) 3) == 0),.bool ((Int.tmod (b + 8) 3) == 0),.bool ((Int.tmod (b + 9) 3) == 0),.int .i64 (b + 10),.string (markText (b + 11)),.slice xa x.r.held.length xc,.int .i64 q,.bool x.r.done,.int .i64 x.window,.int .i64 x.most,.int .i64 x.o.mss,.int .i64 x.o.scale,.bool x.o.sack,.bool x.o.stamp,.int .i64 x.o.val,.int .i64 x.o.echo,.int .i64 x.timer,.int .i64 x.tries]) hgg rfl (by kernel_rfl) rfl (by kernel_rfl) (by kernel_rfl) (by kernel_rfl) (by kernel_rfl) (cutW_le w B) (by rw [List.map_set,List.getElem?_set_self (by rw [List.length_map]; omega)]; rfl) (by kernel_rfl) rfl (by rw [List.map_set,List.map_set,List.set_set]; rfl))) ?_
 refine kED [0,1,5] [] ?_
 refine kQ ?_
 refine kRD 3 [0,1,5] [(1,.v (.int .i64 (IntKind.i64.wrap (q + 1))))] ?_
 refine xl_nv [0,1,5] [(1,.v (.int .i64 (IntKind.i64.wrap (q + 1))))] [(1,.v (.int .i64 (q + 1)))] (by rw [show (IntKind.i64.wrap (q + 1)) = (q + 1) from wrap_id (by omega) (by omega)]) (by kernel_rfl) ?_
 refine kED [0,1,5] [] ?_
 refine kQ ?_
 refine kOD 3 [0,1,5,131,132,133] [(131,.v (.slice A l.length cap)),(132,.v (.int .i64 (i : Int))),(133,.v (.int .i64 (q + 1)))] (.int .i64 (Int.tmod (q + 1) 3)) rfl (fun _ _ _ ww hr => act_bin hr.1 rfl (by kernel_rfl) (by kernel_rfl) (rem_run (by first | decide | omega) ww)) ?_
 refine kOD 1 [0,1,5,131,132,135] [(135,.v (.bool ((Int.tmod (q + 1) 3) == 0)))] (.pointer (some ⟨gg,i * 25,none⟩)) rfl (fun _ _ _ ww hr => act_ix (kd := .i64) (T := 30) (e := 68) (K := 25) (g := gg) (N := l.length) (cap := cap) i hgg hr.1 rfl rfl (by kernel_rfl) (by kernel_rfl) (by kernel_rfl) hlt ww) ?_
 refine kOD 0 [0,1,5,135,136] [] (.pointer (some ⟨gg,i * 25 + 10,none⟩)) rfl (fun _ _ _ ww hr => act_fld (sz := 5) (b := gg) (m := i * 25) hr.1 rfl Try.underlying68 rfl (by kernel_rfl) rfl (by kernel_rfl) rfl) ?_
 refine kOD 0 [0,1,5,135,137] [] (.pointer (some ⟨gg,i * 25 + 14,none⟩)) rfl (fun _ _ _ ww hr => act_fld (sz := 1) (b := gg) (m := i * 25 + 10) hr.1 rfl Try.underlying65 rfl (by kernel_rfl) rfl (by kernel_rfl) rfl) ?_
 refine xl_hs 0 [0,1,5,135,138] ⟨[(0,.v (.slice A l.length cap)),(1,.v (.int .i64 (q + 1))),(5,.v (.int .i64 (i : Int))),(135,.v (.bool ((Int.tmod (q + 1) 3) == 0))),(138,.v (.pointer (some ⟨gg,i * 25 + 14,none⟩)))],[],[],[rowF B 68 25 (.slice A l.length cap) ((L.set i (({ x with t := ⟨b,b + 1,b + 2⟩,state := b + 3,s := ⟨b + 4,(markText (b + 5)),b + 6,(Int.tmod (b + 7) 3) == 0,(Int.tmod (b + 8) 3) == 0,(Int.tmod (b + 9) 3) == 0⟩,r := ⟨b + 10,(markText (b + 11)),(marks mkP 2 (b + 12) x.r.held.length),q,x.r.done⟩ },.slice xa x.r.held.length xc) : CV)).map conR),ownF B (.slice xa x.r.held.length xc) 2 ((marks mkP 2 (b + 12) x.r.held.length).map pceCells),hownF B (L.take i ++ L.drop (i + 1)),frF w (allF (tabR B 68 (.slice A l.length cap) l)).blk]⟩ (by kernel_rfl) rfl (by kernel_rfl) rfl (by kernel_rfl) (HSg.hs (hs_stR (g := gg) (B := B) (e := 68) (K := 25) (N := l.length) (cap := cap) (rs := ((L.set i (({ x with t := ⟨b,b + 1,b + 2⟩,state := b + 3,s := ⟨b + 4,(markText (b + 5)),b + 6,(Int.tmod (b + 7) 3) == 0,(Int.tmod (b + 8) 3) == 0,(Int.tmod (b + 9) 3) == 0⟩,r := ⟨b + 10,(markText (b + 11)),(marks mkP 2 (b + 12) x.r.held.length),q,x.r.done⟩ },.slice xa x.r.held.length xc) : CV)).map conR)) (rs' := (L.set i (({ x with t := ⟨b,b + 1,b + 2⟩,state := b + 3,s := ⟨b + 4,(markText (b + 5)),b + 6,(Int.tmod (b + 7) 3) == 0,(Int.tmod (b + 8) 3) == 0,(Int.tmod (b + 9) 3) == 0⟩,r := ⟨b + 10,(markText (b + 11)),(marks mkP 2 (b + 12) x.r.held.length),q,(Int.tmod (q + 1) 3) == 0⟩ },.slice xa x.r.held.length xc) : CV)).map conR) (v := (.bool ((Int.tmod (q + 1) 3) == 0))) (i := 0) (off := i * 25 + 14) i 14 [.int .i64 b,.int .i64 (b + 1),.int .i64 (b + 2),.int .i64 (b + 3),.int .i64 (b + 4),.string (markText (b + 5)),.int .i64 (b + 6),.bool ((Int.tmod (b + 7) 3) == 0),.bool ((Int.tmod (b + 8) 3) == 0),.bool ((Int.tmod (b + 9) 3) == 0),.int .i64 (b + 10),.string (markText (b + 11)),.slice xa x.r.held.length xc,.int .i64 q,.bool x.r.done,.int .i64 x.window,.int .i64 x.most,.int .i64 x.o.mss,.int .i64 x.o.scale,.bool x.o.sack,.bool x.o.stamp,.int .i64 x.o.val,.int .i64 x.o.echo,.int .i64 x.timer,.int .i64 x.tries] (row' := [.int .i64 b,.int .i64 (b + 1),.int .i64 (b + 2),.int .i64 (b + 3),.int .i64 (b + 4),.string (markText (b + 5)),.int .i64 (b + 6),.bool ((Int.tmod (b + 7) 3) == 0),.bool ((Int.tmod (b + 8) 3) == 0),.bool ((Int.tmod (b + 9) 3) == 0),.int .i64 (b + 10),.string (markText (b + 11)),.slice xa x.r.held.length xc,.int .i64 q,.bool ((Int.tmod (q + 1) 3) == 0),.int .i64 x.window,.int .i64 x.most,.int .i64 x.o.mss,.int .i64 x.o.scale,.bool x.o.sack,.bool x.o.stamp,.int .i64 x.o.val,.int .i64 x.o.echo,.int .i64 x.timer,.int .i64 x.tries]) hgg rfl (by kernel_rfl) rfl (by kernel_rfl) (by kernel_rfl) (by kernel_rfl) (by kernel_rfl) (cutW_le w B) (by rw [List.map_set,List.getElem?_set_self (by rw [List.length_map]; omega)]; rfl) (by kernel_rfl) rfl (by rw [List.map_set,List.map_set,List.set_set]; rfl))) ?_
 refine kES [0,1,5] [(0,.v (.slice A l.length cap)),(1,.v (.int .i64 (q + 1))),(5,.v (.int .i64 (i : Int)))] ?_
 refine kQ ?_
 refine kRD 3 [0,1,5] [(1,.v (.int .i64 (IntKind.i64.wrap (q + 1 + 1))))] ?_
 refine xl_nv [0,1,5] [(1,.v (.int .i64 (IntKind.i64.wrap (q + 1 + 1))))] [(1,.v (.int .i64 (q + 2)))] (by rw [show (IntKind.i64.wrap (q + 1 + 1)) = (q + 2) from wrap_to (by omega) (by omega) (by omega)]) (by kernel_rfl) ?_
 refine kED [0,1,5] [] ?_
 refine kQ ?_
 refine kOD 3 [0,1,5,141,142,143] [(141,.v (.slice A l.length cap)),(142,.v (.int .i64 (i : Int))),(143,.v (.int .i64 (q + 2)))] (.pointer (some ⟨gg,i * 25,none⟩)) rfl (fun _ _ _ ww hr => act_ix (kd := .i64) (T := 30) (e := 68) (K := 25) (g := gg) (N := l.length) (cap := cap) i hgg hr.1 rfl rfl (by kernel_rfl) (by kernel_rfl) (by kernel_rfl) hlt ww) ?_
 refine kOD 0 [0,1,5,143,144] [] (.pointer (some ⟨gg,i * 25 + 15,none⟩)) rfl (fun _ _ _ ww hr => act_fld (sz := 1) (b := gg) (m := i * 25) hr.1 rfl Try.underlying68 rfl (by kernel_rfl) rfl (by kernel_rfl) rfl) ?_
 refine xl_hs 0 [0,1,5,143,145] ⟨[(0,.v (.slice A l.length cap)),(1,.v (.int .i64 (q + 2))),(5,.v (.int .i64 (i : Int))),(143,.v (.int .i64 (q + 2))),(145,.v (.pointer (some ⟨gg,i * 25 + 15,none⟩)))],[],[],[rowF B 68 25 (.slice A l.length cap) ((L.set i (({ x with t := ⟨b,b + 1,b + 2⟩,state := b + 3,s := ⟨b + 4,(markText (b + 5)),b + 6,(Int.tmod (b + 7) 3) == 0,(Int.tmod (b + 8) 3) == 0,(Int.tmod (b + 9) 3) == 0⟩,r := ⟨b + 10,(markText (b + 11)),(marks mkP 2 (b + 12) x.r.held.length),q,(Int.tmod (q + 1) 3) == 0⟩ },.slice xa x.r.held.length xc) : CV)).map conR),ownF B (.slice xa x.r.held.length xc) 2 ((marks mkP 2 (b + 12) x.r.held.length).map pceCells),hownF B (L.take i ++ L.drop (i + 1)),frF w (allF (tabR B 68 (.slice A l.length cap) l)).blk]⟩ (by kernel_rfl) rfl (by kernel_rfl) rfl (by kernel_rfl) (HSg.hs (hs_stR (g := gg) (B := B) (e := 68) (K := 25) (N := l.length) (cap := cap) (rs := ((L.set i (({ x with t := ⟨b,b + 1,b + 2⟩,state := b + 3,s := ⟨b + 4,(markText (b + 5)),b + 6,(Int.tmod (b + 7) 3) == 0,(Int.tmod (b + 8) 3) == 0,(Int.tmod (b + 9) 3) == 0⟩,r := ⟨b + 10,(markText (b + 11)),(marks mkP 2 (b + 12) x.r.held.length),q,(Int.tmod (q + 1) 3) == 0⟩ },.slice xa x.r.held.length xc) : CV)).map conR)) (rs' := (L.set i ((⟨⟨b,b + 1,b + 2⟩,b + 3,⟨b + 4,(markText (b + 5)),b + 6,(Int.tmod (b + 7) 3) == 0,(Int.tmod (b + 8) 3) == 0,(Int.tmod (b + 9) 3) == 0⟩,⟨b + 10,(markText (b + 11)),(marks mkP 2 (b + 12) x.r.held.length),q,(Int.tmod (q + 1) 3) == 0⟩,q + 2,x.most,x.o,x.timer,x.tries⟩,.slice xa x.r.held.length xc) : CV)).map conR) (v := (.int .i64 (q + 2))) (i := 0) (off := i * 25 + 15) i 15 [.int .i64 b,.int .i64 (b + 1),.int .i64 (b + 2),.int .i64 (b + 3),.int .i64 (b + 4),.string (markText (b + 5)),.int .i64 (b + 6),.bool ((Int.tmod (b + 7) 3) == 0),.bool ((Int.tmod (b + 8) 3) == 0),.bool ((Int.tmod (b + 9) 3) == 0),.int .i64 (b + 10),.string (markText (b + 11)),.slice xa x.r.held.length xc,.int .i64 q,.bool ((Int.tmod (q + 1) 3) == 0),.int .i64 x.window,.int .i64 x.most,.int .i64 x.o.mss,.int .i64 x.o.scale,.bool x.o.sack,.bool x.o.stamp,.int .i64 x.o.val,.int .i64 x.o.echo,.int .i64 x.timer,.int .i64 x.tries] (row' := [.int .i64 b,.int .i64 (b + 1),.int .i64 (b + 2),.int .i64 (b + 3),.int .i64 (b + 4),.string (markText (b + 5)),.int .i64 (b + 6),.bool ((Int.tmod (b + 7) 3) == 0),.bool ((Int.tmod (b + 8) 3) == 0),.bool ((Int.tmod (b + 9) 3) == 0),.int .i64 (b + 10),.string (markText (b + 11)),.slice xa x.r.held.length xc,.int .i64 q,.bool ((Int.tmod (q + 1) 3) == 0),.int .i64 (q + 2),.int .i64 x.most,.int .i64 x.o.mss,.int .i64 x.o.scale,.bool x.o.sack,.bool x.o.stamp,.int .i64 x.o.val,.int .i64 x.o.echo,.int .i64 x.timer,.int .i64 x.tries]) hgg rfl (by kernel_rfl) rfl (by kernel_rfl) (by kernel_rfl) (by kernel_rfl) (by kernel_rfl) (cutW_le w B) (by rw [List.map_set,List.getElem?_set_self (by rw [List.length_map]; omega)]; rfl) (by kernel_rfl) rfl (by rw [List.map_set,List.map_set,List.set_set]; rfl))) ?_
 refine kED [0,1,5] [] ?_
 refine kQ ?_
 refine kRD 3 [0,1,5] [(1,.v (.int .i64 (IntKind.i64.wrap (q + 2 + 1))))] ?_
 refine xl_nv [0,1,5] [(1,.v (.int .i64 (IntKind.i64.wrap (q + 2 + 1))))] [(1,.v (.int .i64 (q + 3)))] (by rw [show (IntKind.i64.wrap (q + 2 + 1)) = (q + 3) from wrap_to (by omega) (by omega) (by omega)]) (by kernel_rfl) ?_
 refine kED [0,1,5] [] ?_
 refine kQ ?_
 refine kOD 3 [0,1,5,148,149,150] [(148,.v (.slice A l.length cap)),(149,.v (.int .i64 (i : Int))),(150,.v (.int .i64 (q + 3)))] (.pointer (some ⟨gg,i * 25,none⟩)) rfl (fun _ _ _ ww hr => act_ix (kd := .i64) (T := 30) (e := 68) (K := 25) (g := gg) (N := l.length) (cap := cap) i hgg hr.1 rfl rfl (by kernel_rfl) (by kernel_rfl) (by kernel_rfl) hlt ww) ?_
 refine kOS 0 [0,1,5,150,151] [(0,.v (.slice A l.length cap)),(1,.v (.int .i64 (q + 3))),(5,.v (.int .i64 (i : Int))),(150,.v (.int .i64 (q + 3))),(151,.v (.pointer (some ⟨gg,i * 25,none⟩)))] (.pointer (some ⟨gg,i * 25 + 16,none⟩)) rfl (fun _ _ _ ww hr => act_fld (sz := 1) (b := gg) (m := i * 25) hr.1 rfl Try.underlying68 rfl (by kernel_rfl) rfl (by kernel_rfl) rfl) ?_
 refine xl_hs 0 [0,1,5,150,152] ⟨[(0,.v (.slice A l.length cap)),(1,.v (.int .i64 (q + 3))),(5,.v (.int .i64 (i : Int))),(150,.v (.int .i64 (q + 3))),(152,.v (.pointer (some ⟨gg,i * 25 + 16,none⟩)))],[],[],[rowF B 68 25 (.slice A l.length cap) ((L.set i ((⟨⟨b,b + 1,b + 2⟩,b + 3,⟨b + 4,(markText (b + 5)),b + 6,(Int.tmod (b + 7) 3) == 0,(Int.tmod (b + 8) 3) == 0,(Int.tmod (b + 9) 3) == 0⟩,⟨b + 10,(markText (b + 11)),(marks mkP 2 (b + 12) x.r.held.length),q,(Int.tmod (q + 1) 3) == 0⟩,q + 2,x.most,x.o,x.timer,x.tries⟩,.slice xa x.r.held.length xc) : CV)).map conR),ownF B (.slice xa x.r.held.length xc) 2 ((marks mkP 2 (b + 12) x.r.held.length).map pceCells),hownF B (L.take i ++ L.drop (i + 1)),frF w (allF (tabR B 68 (.slice A l.length cap) l)).blk]⟩ (by kernel_rfl) rfl (by kernel_rfl) rfl (by kernel_rfl) (HSg.hs (hs_stR (g := gg) (B := B) (e := 68) (K := 25) (N := l.length) (cap := cap) (rs := ((L.set i ((⟨⟨b,b + 1,b + 2⟩,b + 3,⟨b + 4,(markText (b + 5)),b + 6,(Int.tmod (b + 7) 3) == 0,(Int.tmod (b + 8) 3) == 0,(Int.tmod (b + 9) 3) == 0⟩,⟨b + 10,(markText (b + 11)),(marks mkP 2 (b + 12) x.r.held.length),q,(Int.tmod (q + 1) 3) == 0⟩,q + 2,x.most,x.o,x.timer,x.tries⟩,.slice xa x.r.held.length xc) : CV)).map conR)) (rs' := (L.set i ((⟨⟨b,b + 1,b + 2⟩,b + 3,⟨b + 4,(markText (b + 5)),b + 6,(Int.tmod (b + 7) 3) == 0,(Int.tmod (b + 8) 3) == 0,(Int.tmod (b + 9) 3) == 0⟩,⟨b + 10,(markText (b + 11)),(marks mkP 2 (b + 12) x.r.held.length),q,(Int.tmod (q + 1) 3) == 0⟩,q + 2,q + 3,x.o,x.timer,x.tries⟩,.slice xa x.r.held.length xc) : CV)).map conR) (v := (.int .i64 (q + 3))) (i := 0) (off := i * 25 + 16) i 16 [.int .i64 b,.int .i64 (b + 1),.int .i64 (b + 2),.int .i64 (b + 3),.int .i64 (b + 4),.string (markText (b + 5)),.int .i64 (b + 6),.bool ((Int.tmod (b + 7) 3) == 0),.bool ((Int.tmod (b + 8) 3) == 0),.bool ((Int.tmod (b + 9) 3) == 0),.int .i64 (b + 10),.string (markText (b + 11)),.slice xa x.r.held.length xc,.int .i64 q,.bool ((Int.tmod (q + 1) 3) == 0),.int .i64 (q + 2),.int .i64 x.most,.int .i64 x.o.mss,.int .i64 x.o.scale,.bool x.o.sack,.bool x.o.stamp,.int .i64 x.o.val,.int .i64 x.o.echo,.int .i64 x.timer,.int .i64 x.tries] (row' := [.int .i64 b,.int .i64 (b + 1),.int .i64 (b + 2),.int .i64 (b + 3),.int .i64 (b + 4),.string (markText (b + 5)),.int .i64 (b + 6),.bool ((Int.tmod (b + 7) 3) == 0),.bool ((Int.tmod (b + 8) 3) == 0),.bool ((Int.tmod (b + 9) 3) == 0),.int .i64 (b + 10),.string (markText (b + 11)),.slice xa x.r.held.length xc,.int .i64 q,.bool ((Int.tmod (q + 1) 3) == 0),.int .i64 (q + 2),.int .i64 (q + 3),.int .i64 x.o.mss,.int .i64 x.o.scale,.bool x.o.sack,.bool x.o.stamp,.int .i64 x.o.val,.int .i64 x.o.echo,.int .i64 x.timer,.int .i64 x.tries]) hgg rfl (by kernel_rfl) rfl (by kernel_rfl) (by kernel_rfl) (by kernel_rfl) (by kernel_rfl) (cutW_le w B) (by rw [List.map_set,List.getElem?_set_self (by rw [List.length_map]; omega)]; rfl) (by kernel_rfl) rfl (by rw [List.map_set,List.map_set,List.set_set]; rfl))) ?_
 refine kED [0,1,5] [] ?_
 refine kQ ?_
 refine kRD 3 [0,1,5] [(1,.v (.int .i64 (IntKind.i64.wrap (q + 3 + 1))))] ?_
 refine xl_nv [0,1,5] [(1,.v (.int .i64 (IntKind.i64.wrap (q + 3 + 1))))] [(1,.v (.int .i64 (q + 4)))] (by rw [show (IntKind.i64.wrap (q + 3 + 1)) = (q + 4) from wrap_to (by omega) (by omega) (by omega)]) (by kernel_rfl) ?_
 refine kED [0,1,5] [] ?_
 refine kQ ?_
 refine kOD 3 [0,1,5,155,156,157] [(155,.v (.slice A l.length cap)),(156,.v (.int .i64 (i : Int))),(157,.v (.int .i64 (q + 4)))] (.pointer (some ⟨gg,i * 25,none⟩)) rfl (fun _ _ _ ww hr => act_ix (kd := .i64) (T := 30) (e := 68) (K := 25) (g := gg) (N := l.length) (cap := cap) i hgg hr.1 rfl rfl (by kernel_rfl) (by kernel_rfl) (by kernel_rfl) hlt ww) ?_
 refine kOD 0 [0,1,5,157,158] [] (.pointer (some ⟨gg,i * 25 + 17,none⟩)) rfl (fun _ _ _ ww hr => act_fld (sz := 6) (b := gg) (m := i * 25) hr.1 rfl Try.underlying68 rfl (by kernel_rfl) rfl (by kernel_rfl) rfl) ?_
 refine kOD 0 [0,1,5,157,159] [] (.pointer (some ⟨gg,i * 25 + 17,none⟩)) rfl (fun _ _ _ ww hr => act_fld (sz := 1) (b := gg) (m := i * 25 + 17) hr.1 rfl Try.underlying66 rfl (by kernel_rfl) rfl (by kernel_rfl) rfl) ?_
 refine xl_hs 0 [0,1,5,157,160] ⟨[(0,.v (.slice A l.length cap)),(1,.v (.int .i64 (q + 4))),(5,.v (.int .i64 (i : Int))),(157,.v (.int .i64 (q + 4))),(160,.v (.pointer (some ⟨gg,i * 25 + 17,none⟩)))],[],[],[rowF B 68 25 (.slice A l.length cap) ((L.set i ((⟨⟨b,b + 1,b + 2⟩,b + 3,⟨b + 4,(markText (b + 5)),b + 6,(Int.tmod (b + 7) 3) == 0,(Int.tmod (b + 8) 3) == 0,(Int.tmod (b + 9) 3) == 0⟩,⟨b + 10,(markText (b + 11)),(marks mkP 2 (b + 12) x.r.held.length),q,(Int.tmod (q + 1) 3) == 0⟩,q + 2,q + 3,x.o,x.timer,x.tries⟩,.slice xa x.r.held.length xc) : CV)).map conR),ownF B (.slice xa x.r.held.length xc) 2 ((marks mkP 2 (b + 12) x.r.held.length).map pceCells),hownF B (L.take i ++ L.drop (i + 1)),frF w (allF (tabR B 68 (.slice A l.length cap) l)).blk]⟩ (by kernel_rfl) rfl (by kernel_rfl) rfl (by kernel_rfl) (HSg.hs (hs_stR (g := gg) (B := B) (e := 68) (K := 25) (N := l.length) (cap := cap) (rs := ((L.set i ((⟨⟨b,b + 1,b + 2⟩,b + 3,⟨b + 4,(markText (b + 5)),b + 6,(Int.tmod (b + 7) 3) == 0,(Int.tmod (b + 8) 3) == 0,(Int.tmod (b + 9) 3) == 0⟩,⟨b + 10,(markText (b + 11)),(marks mkP 2 (b + 12) x.r.held.length),q,(Int.tmod (q + 1) 3) == 0⟩,q + 2,q + 3,x.o,x.timer,x.tries⟩,.slice xa x.r.held.length xc) : CV)).map conR)) (rs' := (L.set i ((⟨⟨b,b + 1,b + 2⟩,b + 3,⟨b + 4,(markText (b + 5)),b + 6,(Int.tmod (b + 7) 3) == 0,(Int.tmod (b + 8) 3) == 0,(Int.tmod (b + 9) 3) == 0⟩,⟨b + 10,(markText (b + 11)),(marks mkP 2 (b + 12) x.r.held.length),q,(Int.tmod (q + 1) 3) == 0⟩,q + 2,q + 3,{ x.o with mss := q + 4 },x.timer,x.tries⟩,.slice xa x.r.held.length xc) : CV)).map conR) (v := (.int .i64 (q + 4))) (i := 0) (off := i * 25 + 17) i 17 [.int .i64 b,.int .i64 (b + 1),.int .i64 (b + 2),.int .i64 (b + 3),.int .i64 (b + 4),.string (markText (b + 5)),.int .i64 (b + 6),.bool ((Int.tmod (b + 7) 3) == 0),.bool ((Int.tmod (b + 8) 3) == 0),.bool ((Int.tmod (b + 9) 3) == 0),.int .i64 (b + 10),.string (markText (b + 11)),.slice xa x.r.held.length xc,.int .i64 q,.bool ((Int.tmod (q + 1) 3) == 0),.int .i64 (q + 2),.int .i64 (q + 3),.int .i64 x.o.mss,.int .i64 x.o.scale,.bool x.o.sack,.bool x.o.stamp,.int .i64 x.o.val,.int .i64 x.o.echo,.int .i64 x.timer,.int .i64 x.tries] (row' := [.int .i64 b,.int .i64 (b + 1),.int .i64 (b + 2),.int .i64 (b + 3),.int .i64 (b + 4),.string (markText (b + 5)),.int .i64 (b + 6),.bool ((Int.tmod (b + 7) 3) == 0),.bool ((Int.tmod (b + 8) 3) == 0),.bool ((Int.tmod (b + 9) 3) == 0),.int .i64 (b + 10),.string (markText (b + 11)),.slice xa x.r.held.length xc,.int .i64 q,.bool ((Int.tmod (q + 1) 3) == 0),.int .i64 (q + 2),.int .i64 (q + 3),.int .i64 (q + 4),.int .i64 x.o.scale,.bool x.o.sack,.bool x.o.stamp,.int .i64 x.o.val,.int .i64 x.o.echo,.int .i64 x.timer,.int .i64 x.tries]) hgg rfl (by kernel_rfl) rfl (by kernel_rfl) (by kernel_rfl) (by kernel_rfl) (by kernel_rfl) (cutW_le w B) (by rw [List.map_set,List.getElem?_set_self (by rw [List.length_map]; omega)]; rfl) (by kernel_rfl) rfl (by rw [List.map_set,List.map_set,List.set_set]; rfl))) ?_
 refine kED [0,1,5] [] ?_
 refine kQ ?_
 refine kRD 3 [0,1,5] [(1,.v (.int .i64 (IntKind.i64.wrap (q + 4 + 1))))] ?_
 refine xl_nv [0,1,5] [(1,.v (.int .i64 (IntKind.i64.wrap (q + 4 + 1))))] [(1,.v (.int .i64 (q + 5)))] (by rw [show (IntKind.i64.wrap (q + 4 + 1)) = (q + 5) from wrap_to (by omega) (by omega) (by omega)]) (by kernel_rfl) ?_
 refine kES [0,1,5] [(0,.v (.slice A l.length cap)),(1,.v (.int .i64 (q + 5))),(5,.v (.int .i64 (i : Int)))] ?_
 refine kQ ?_
 refine kOD 3 [0,1,5,163,164,165] [(163,.v (.slice A l.length cap)),(164,.v (.int .i64 (i : Int))),(165,.v (.int .i64 (q + 5)))] (.pointer (some ⟨gg,i * 25,none⟩)) rfl (fun _ _ _ ww hr => act_ix (kd := .i64) (T := 30) (e := 68) (K := 25) (g := gg) (N := l.length) (cap := cap) i hgg hr.1 rfl rfl (by kernel_rfl) (by kernel_rfl) (by kernel_rfl) hlt ww) ?_
 refine kOD 0 [0,1,5,165,166] [] (.pointer (some ⟨gg,i * 25 + 17,none⟩)) rfl (fun _ _ _ ww hr => act_fld (sz := 6) (b := gg) (m := i * 25) hr.1 rfl Try.underlying68 rfl (by kernel_rfl) rfl (by kernel_rfl) rfl) ?_
 refine kOD 0 [0,1,5,165,167] [] (.pointer (some ⟨gg,i * 25 + 18,none⟩)) rfl (fun _ _ _ ww hr => act_fld (sz := 1) (b := gg) (m := i * 25 + 17) hr.1 rfl Try.underlying66 rfl (by kernel_rfl) rfl (by kernel_rfl) rfl) ?_
 refine xl_hs 0 [0,1,5,165,168] ⟨[(0,.v (.slice A l.length cap)),(1,.v (.int .i64 (q + 5))),(5,.v (.int .i64 (i : Int))),(165,.v (.int .i64 (q + 5))),(168,.v (.pointer (some ⟨gg,i * 25 + 18,none⟩)))],[],[],[rowF B 68 25 (.slice A l.length cap) ((L.set i ((⟨⟨b,b + 1,b + 2⟩,b + 3,⟨b + 4,(markText (b + 5)),b + 6,(Int.tmod (b + 7) 3) == 0,(Int.tmod (b + 8) 3) == 0,(Int.tmod (b + 9) 3) == 0⟩,⟨b + 10,(markText (b + 11)),(marks mkP 2 (b + 12) x.r.held.length),q,(Int.tmod (q + 1) 3) == 0⟩,q + 2,q + 3,{ x.o with mss := q + 4 },x.timer,x.tries⟩,.slice xa x.r.held.length xc) : CV)).map conR),ownF B (.slice xa x.r.held.length xc) 2 ((marks mkP 2 (b + 12) x.r.held.length).map pceCells),hownF B (L.take i ++ L.drop (i + 1)),frF w (allF (tabR B 68 (.slice A l.length cap) l)).blk]⟩ (by kernel_rfl) rfl (by kernel_rfl) rfl (by kernel_rfl) (HSg.hs (hs_stR (g := gg) (B := B) (e := 68) (K := 25) (N := l.length) (cap := cap) (rs := ((L.set i ((⟨⟨b,b + 1,b + 2⟩,b + 3,⟨b + 4,(markText (b + 5)),b + 6,(Int.tmod (b + 7) 3) == 0,(Int.tmod (b + 8) 3) == 0,(Int.tmod (b + 9) 3) == 0⟩,⟨b + 10,(markText (b + 11)),(marks mkP 2 (b + 12) x.r.held.length),q,(Int.tmod (q + 1) 3) == 0⟩,q + 2,q + 3,{ x.o with mss := q + 4 },x.timer,x.tries⟩,.slice xa x.r.held.length xc) : CV)).map conR)) (rs' := (L.set i ((⟨⟨b,b + 1,b + 2⟩,b + 3,⟨b + 4,(markText (b + 5)),b + 6,(Int.tmod (b + 7) 3) == 0,(Int.tmod (b + 8) 3) == 0,(Int.tmod (b + 9) 3) == 0⟩,⟨b + 10,(markText (b + 11)),(marks mkP 2 (b + 12) x.r.held.length),q,(Int.tmod (q + 1) 3) == 0⟩,q + 2,q + 3,{ x.o with mss := q + 4,scale := q + 5 },x.timer,x.tries⟩,.slice xa x.r.held.length xc) : CV)).map conR) (v := (.int .i64 (q + 5))) (i := 0) (off := i * 25 + 18) i 18 [.int .i64 b,.int .i64 (b + 1),.int .i64 (b + 2),.int .i64 (b + 3),.int .i64 (b + 4),.string (markText (b + 5)),.int .i64 (b + 6),.bool ((Int.tmod (b + 7) 3) == 0),.bool ((Int.tmod (b + 8) 3) == 0),.bool ((Int.tmod (b + 9) 3) == 0),.int .i64 (b + 10),.string (markText (b + 11)),.slice xa x.r.held.length xc,.int .i64 q,.bool ((Int.tmod (q + 1) 3) == 0),.int .i64 (q + 2),.int .i64 (q + 3),.int .i64 (q + 4),.int .i64 x.o.scale,.bool x.o.sack,.bool x.o.stamp,.int .i64 x.o.val,.int .i64 x.o.echo,.int .i64 x.timer,.int .i64 x.tries] (row' := [.int .i64 b,.int .i64 (b + 1),.int .i64 (b + 2),.int .i64 (b + 3),.int .i64 (b + 4),.string (markText (b + 5)),.int .i64 (b + 6),.bool ((Int.tmod (b + 7) 3) == 0),.bool ((Int.tmod (b + 8) 3) == 0),.bool ((Int.tmod (b + 9) 3) == 0),.int .i64 (b + 10),.string (markText (b + 11)),.slice xa x.r.held.length xc,.int .i64 q,.bool ((Int.tmod (q + 1) 3) == 0),.int .i64 (q + 2),.int .i64 (q + 3),.int .i64 (q + 4),.int .i64 (q + 5),.bool x.o.sack,.bool x.o.stamp,.int .i64 x.o.val,.int .i64 x.o.echo,.int .i64 x.timer,.int .i64 x.tries]) hgg rfl (by kernel_rfl) rfl (by kernel_rfl) (by kernel_rfl) (by kernel_rfl) (by kernel_rfl) (cutW_le w B) (by rw [List.map_set,List.getElem?_set_self (by rw [List.length_map]; omega)]; rfl) (by kernel_rfl) rfl (by rw [List.map_set,List.map_set,List.set_set]; rfl))) ?_
 refine kED [0,1,5] [] ?_
 refine kQ ?_
 refine kRD 3 [0,1,5] [(1,.v (.int .i64 (IntKind.i64.wrap (q + 5 + 1))))] ?_
 refine xl_nv [0,1,5] [(1,.v (.int .i64 (IntKind.i64.wrap (q + 5 + 1))))] [(1,.v (.int .i64 (q + 6)))] (by rw [show (IntKind.i64.wrap (q + 5 + 1)) = (q + 6) from wrap_to (by omega) (by omega) (by omega)]) (by kernel_rfl) ?_
 refine kED [0,1,5] [] ?_
 refine kQ ?_
 refine kOD 3 [0,1,5,171,172,173] [(171,.v (.slice A l.length cap)),(172,.v (.int .i64 (i : Int))),(173,.v (.int .i64 (q + 6)))] (.int .i64 (Int.tmod (q + 6) 3)) rfl (fun _ _ _ ww hr => act_bin hr.1 rfl (by kernel_rfl) (by kernel_rfl) (rem_run (by first | decide | omega) ww)) ?_
 refine kOD 1 [0,1,5,171,172,175] [(175,.v (.bool ((Int.tmod (q + 6) 3) == 0)))] (.pointer (some ⟨gg,i * 25,none⟩)) rfl (fun _ _ _ ww hr => act_ix (kd := .i64) (T := 30) (e := 68) (K := 25) (g := gg) (N := l.length) (cap := cap) i hgg hr.1 rfl rfl (by kernel_rfl) (by kernel_rfl) (by kernel_rfl) hlt ww) ?_
 refine kOD 0 [0,1,5,175,176] [] (.pointer (some ⟨gg,i * 25 + 17,none⟩)) rfl (fun _ _ _ ww hr => act_fld (sz := 6) (b := gg) (m := i * 25) hr.1 rfl Try.underlying68 rfl (by kernel_rfl) rfl (by kernel_rfl) rfl) ?_
 refine kOS 0 [0,1,5,175,177] [(0,.v (.slice A l.length cap)),(1,.v (.int .i64 (q + 6))),(5,.v (.int .i64 (i : Int))),(175,.v (.bool ((Int.tmod (q + 6) 3) == 0))),(177,.v (.pointer (some ⟨gg,i * 25 + 17,none⟩)))] (.pointer (some ⟨gg,i * 25 + 19,none⟩)) rfl (fun _ _ _ ww hr => act_fld (sz := 1) (b := gg) (m := i * 25 + 17) hr.1 rfl Try.underlying66 rfl (by kernel_rfl) rfl (by kernel_rfl) rfl) ?_
 refine xl_hs 0 [0,1,5,175,178] ⟨[(0,.v (.slice A l.length cap)),(1,.v (.int .i64 (q + 6))),(5,.v (.int .i64 (i : Int))),(175,.v (.bool ((Int.tmod (q + 6) 3) == 0))),(178,.v (.pointer (some ⟨gg,i * 25 + 19,none⟩)))],[],[],[rowF B 68 25 (.slice A l.length cap) ((L.set i ((⟨⟨b,b + 1,b + 2⟩,b + 3,⟨b + 4,(markText (b + 5)),b + 6,(Int.tmod (b + 7) 3) == 0,(Int.tmod (b + 8) 3) == 0,(Int.tmod (b + 9) 3) == 0⟩,⟨b + 10,(markText (b + 11)),(marks mkP 2 (b + 12) x.r.held.length),q,(Int.tmod (q + 1) 3) == 0⟩,q + 2,q + 3,{ x.o with mss := q + 4,scale := q + 5 },x.timer,x.tries⟩,.slice xa x.r.held.length xc) : CV)).map conR),ownF B (.slice xa x.r.held.length xc) 2 ((marks mkP 2 (b + 12) x.r.held.length).map pceCells),hownF B (L.take i ++ L.drop (i + 1)),frF w (allF (tabR B 68 (.slice A l.length cap) l)).blk]⟩ (by kernel_rfl) rfl (by kernel_rfl) rfl (by kernel_rfl) (HSg.hs (hs_stR (g := gg) (B := B) (e := 68) (K := 25) (N := l.length) (cap := cap) (rs := ((L.set i ((⟨⟨b,b + 1,b + 2⟩,b + 3,⟨b + 4,(markText (b + 5)),b + 6,(Int.tmod (b + 7) 3) == 0,(Int.tmod (b + 8) 3) == 0,(Int.tmod (b + 9) 3) == 0⟩,⟨b + 10,(markText (b + 11)),(marks mkP 2 (b + 12) x.r.held.length),q,(Int.tmod (q + 1) 3) == 0⟩,q + 2,q + 3,{ x.o with mss := q + 4,scale := q + 5 },x.timer,x.tries⟩,.slice xa x.r.held.length xc) : CV)).map conR)) (rs' := (L.set i ((⟨⟨b,b + 1,b + 2⟩,b + 3,⟨b + 4,(markText (b + 5)),b + 6,(Int.tmod (b + 7) 3) == 0,(Int.tmod (b + 8) 3) == 0,(Int.tmod (b + 9) 3) == 0⟩,⟨b + 10,(markText (b + 11)),(marks mkP 2 (b + 12) x.r.held.length),q,(Int.tmod (q + 1) 3) == 0⟩,q + 2,q + 3,{ x.o with mss := q + 4,scale := q + 5,sack := (Int.tmod (q + 6) 3) == 0 },x.timer,x.tries⟩,.slice xa x.r.held.length xc) : CV)).map conR) (v := (.bool ((Int.tmod (q + 6) 3) == 0))) (i := 0) (off := i * 25 + 19) i 19 [.int .i64 b,.int .i64 (b + 1),.int .i64 (b + 2),.int .i64 (b + 3),.int .i64 (b + 4),.string (markText (b + 5)),.int .i64 (b + 6),.bool ((Int.tmod (b + 7) 3) == 0),.bool ((Int.tmod (b + 8) 3) == 0),.bool ((Int.tmod (b + 9) 3) == 0),.int .i64 (b + 10),.string (markText (b + 11)),.slice xa x.r.held.length xc,.int .i64 q,.bool ((Int.tmod (q + 1) 3) == 0),.int .i64 (q + 2),.int .i64 (q + 3),.int .i64 (q + 4),.int .i64 (q + 5),.bool x.o.sack,.bool x.o.stamp,.int .i64 x.o.val,.int .i64 x.o.echo,.int .i64 x.timer,.int .i64 x.tries] (row' := [.int .i64 b,.int .i64 (b + 1),.int .i64 (b + 2),.int .i64 (b + 3),.int .i64 (b + 4),.string (markText (b + 5)),.int .i64 (b + 6),.bool ((Int.tmod (b + 7) 3) == 0),.bool ((Int.tmod (b + 8) 3) == 0),.bool ((Int.tmod (b + 9) 3) == 0),.int .i64 (b + 10),.string (markText (b + 11)),.slice xa x.r.held.length xc,.int .i64 q,.bool ((Int.tmod (q + 1) 3) == 0),.int .i64 (q + 2),.int .i64 (q + 3),.int .i64 (q + 4),.int .i64 (q + 5),.bool ((Int.tmod (q + 6) 3) == 0),.bool x.o.stamp,.int .i64 x.o.val,.int .i64 x.o.echo,.int .i64 x.timer,.int .i64 x.tries]) hgg rfl (by kernel_rfl) rfl (by kernel_rfl) (by kernel_rfl) (by kernel_rfl) (by kernel_rfl) (cutW_le w B) (by rw [List.map_set,List.getElem?_set_self (by rw [List.length_map]; omega)]; rfl) (by kernel_rfl) rfl (by rw [List.map_set,List.map_set,List.set_set]; rfl))) ?_
 refine kED [0,1,5] [] ?_
 refine kQ ?_
 refine kRD 3 [0,1,5] [(1,.v (.int .i64 (IntKind.i64.wrap (q + 6 + 1))))] ?_
 refine xl_nv [0,1,5] [(1,.v (.int .i64 (IntKind.i64.wrap (q + 6 + 1))))] [(1,.v (.int .i64 (q + 7)))] (by rw [show (IntKind.i64.wrap (q + 6 + 1)) = (q + 7) from wrap_to (by omega) (by omega) (by omega)]) (by kernel_rfl) ?_
 refine kED [0,1,5] [] ?_
 refine kQ ?_
 refine kOD 3 [0,1,5,181,182,183] [(181,.v (.slice A l.length cap)),(182,.v (.int .i64 (i : Int))),(183,.v (.int .i64 (q + 7)))] (.int .i64 (Int.tmod (q + 7) 3)) rfl (fun _ _ _ ww hr => act_bin hr.1 rfl (by kernel_rfl) (by kernel_rfl) (rem_run (by first | decide | omega) ww)) ?_
 refine kOD 1 [0,1,5,181,182,185] [(185,.v (.bool ((Int.tmod (q + 7) 3) == 0)))] (.pointer (some ⟨gg,i * 25,none⟩)) rfl (fun _ _ _ ww hr => act_ix (kd := .i64) (T := 30) (e := 68) (K := 25) (g := gg) (N := l.length) (cap := cap) i hgg hr.1 rfl rfl (by kernel_rfl) (by kernel_rfl) (by kernel_rfl) hlt ww) ?_
 refine kOD 0 [0,1,5,185,186] [] (.pointer (some ⟨gg,i * 25 + 17,none⟩)) rfl (fun _ _ _ ww hr => act_fld (sz := 6) (b := gg) (m := i * 25) hr.1 rfl Try.underlying68 rfl (by kernel_rfl) rfl (by kernel_rfl) rfl) ?_
 refine kOD 0 [0,1,5,185,187] [] (.pointer (some ⟨gg,i * 25 + 20,none⟩)) rfl (fun _ _ _ ww hr => act_fld (sz := 1) (b := gg) (m := i * 25 + 17) hr.1 rfl Try.underlying66 rfl (by kernel_rfl) rfl (by kernel_rfl) rfl) ?_
 refine xl_hs 0 [0,1,5,185,188] ⟨[(0,.v (.slice A l.length cap)),(1,.v (.int .i64 (q + 7))),(5,.v (.int .i64 (i : Int))),(185,.v (.bool ((Int.tmod (q + 7) 3) == 0))),(188,.v (.pointer (some ⟨gg,i * 25 + 20,none⟩)))],[],[],[rowF B 68 25 (.slice A l.length cap) ((L.set i ((⟨⟨b,b + 1,b + 2⟩,b + 3,⟨b + 4,(markText (b + 5)),b + 6,(Int.tmod (b + 7) 3) == 0,(Int.tmod (b + 8) 3) == 0,(Int.tmod (b + 9) 3) == 0⟩,⟨b + 10,(markText (b + 11)),(marks mkP 2 (b + 12) x.r.held.length),q,(Int.tmod (q + 1) 3) == 0⟩,q + 2,q + 3,{ x.o with mss := q + 4,scale := q + 5,sack := (Int.tmod (q + 6) 3) == 0 },x.timer,x.tries⟩,.slice xa x.r.held.length xc) : CV)).map conR),ownF B (.slice xa x.r.held.length xc) 2 ((marks mkP 2 (b + 12) x.r.held.length).map pceCells),hownF B (L.take i ++ L.drop (i + 1)),frF w (allF (tabR B 68 (.slice A l.length cap) l)).blk]⟩ (by kernel_rfl) rfl (by kernel_rfl) rfl (by kernel_rfl) (HSg.hs (hs_stR (g := gg) (B := B) (e := 68) (K := 25) (N := l.length) (cap := cap) (rs := ((L.set i ((⟨⟨b,b + 1,b + 2⟩,b + 3,⟨b + 4,(markText (b + 5)),b + 6,(Int.tmod (b + 7) 3) == 0,(Int.tmod (b + 8) 3) == 0,(Int.tmod (b + 9) 3) == 0⟩,⟨b + 10,(markText (b + 11)),(marks mkP 2 (b + 12) x.r.held.length),q,(Int.tmod (q + 1) 3) == 0⟩,q + 2,q + 3,{ x.o with mss := q + 4,scale := q + 5,sack := (Int.tmod (q + 6) 3) == 0 },x.timer,x.tries⟩,.slice xa x.r.held.length xc) : CV)).map conR)) (rs' := (L.set i ((⟨⟨b,b + 1,b + 2⟩,b + 3,⟨b + 4,(markText (b + 5)),b + 6,(Int.tmod (b + 7) 3) == 0,(Int.tmod (b + 8) 3) == 0,(Int.tmod (b + 9) 3) == 0⟩,⟨b + 10,(markText (b + 11)),(marks mkP 2 (b + 12) x.r.held.length),q,(Int.tmod (q + 1) 3) == 0⟩,q + 2,q + 3,⟨q + 4,q + 5,(Int.tmod (q + 6) 3) == 0,(Int.tmod (q + 7) 3) == 0,x.o.val,x.o.echo⟩,x.timer,x.tries⟩,.slice xa x.r.held.length xc) : CV)).map conR) (v := (.bool ((Int.tmod (q + 7) 3) == 0))) (i := 0) (off := i * 25 + 20) i 20 [.int .i64 b,.int .i64 (b + 1),.int .i64 (b + 2),.int .i64 (b + 3),.int .i64 (b + 4),.string (markText (b + 5)),.int .i64 (b + 6),.bool ((Int.tmod (b + 7) 3) == 0),.bool ((Int.tmod (b + 8) 3) == 0),.bool ((Int.tmod (b + 9) 3) == 0),.int .i64 (b + 10),.string (markText (b + 11)),.slice xa x.r.held.length xc,.int .i64 q,.bool ((Int.tmod (q + 1) 3) == 0),.int .i64 (q + 2),.int .i64 (q + 3),.int .i64 (q + 4),.int .i64 (q + 5),.bool ((Int.tmod (q + 6) 3) == 0),.bool x.o.stamp,.int .i64 x.o.val,.int .i64 x.o.echo,.int .i64 x.timer,.int .i64 x.tries] (row' := [.int .i64 b,.int .i64 (b + 1),.int .i64 (b + 2),.int .i64 (b + 3),.int .i64 (b + 4),.string (markText (b + 5)),.int .i64 (b + 6),.bool ((Int.tmod (b + 7) 3) == 0),.bool ((Int.tmod (b + 8) 3) == 0),.bool ((Int.tmod (b + 9) 3) == 0),.int .i64 (b + 10),.string (markText (b + 11)),.slice xa x.r.held.length xc,.int .i64 q,.bool ((Int.tmod (q + 1) 3) == 0),.int .i64 (q + 2),.int .i64 (q + 3),.int .i64 (q + 4),.int .i64 (q + 5),.bool ((Int.tmod (q + 6) 3) == 0),.bool ((Int.tmod (q + 7) 3) == 0),.int .i64 x.o.val,.int .i64 x.o.echo,.int .i64 x.timer,.int .i64 x.tries]) hgg rfl (by kernel_rfl) rfl (by kernel_rfl) (by kernel_rfl) (by kernel_rfl) (by kernel_rfl) (cutW_le w B) (by rw [List.map_set,List.getElem?_set_self (by rw [List.length_map]; omega)]; rfl) (by kernel_rfl) rfl (by rw [List.map_set,List.map_set,List.set_set]; rfl))) ?_
 refine kED [0,1,5] [] ?_
 refine kQ ?_
 refine kRS 3 [0,1,5] [(0,.v (.slice A l.length cap)),(1,.v (.int .i64 (IntKind.i64.wrap (q + 7 + 1)))),(5,.v (.int .i64 (i : Int)))] ?_
 refine xl_eqS (t' := [(0,.v (.slice A l.length cap)),(1,.v (.int .i64 (q + 8))),(5,.v (.int .i64 (i : Int)))]) (by rw [show (IntKind.i64.wrap (q + 7 + 1)) = (q + 8) from wrap_to (by omega) (by omega) (by omega)]) ?_
 refine kED [0,1,5] [] ?_
 refine kQ ?_
 refine kOD 3 [0,1,5,191,192,193] [(191,.v (.slice A l.length cap)),(192,.v (.int .i64 (i : Int))),(193,.v (.int .i64 (q + 8)))] (.pointer (some ⟨gg,i * 25,none⟩)) rfl (fun _ _ _ ww hr => act_ix (kd := .i64) (T := 30) (e := 68) (K := 25) (g := gg) (N := l.length) (cap := cap) i hgg hr.1 rfl rfl (by kernel_rfl) (by kernel_rfl) (by kernel_rfl) hlt ww) ?_
 refine kOD 0 [0,1,5,193,194] [] (.pointer (some ⟨gg,i * 25 + 17,none⟩)) rfl (fun _ _ _ ww hr => act_fld (sz := 6) (b := gg) (m := i * 25) hr.1 rfl Try.underlying68 rfl (by kernel_rfl) rfl (by kernel_rfl) rfl) ?_
 refine kOD 0 [0,1,5,193,195] [] (.pointer (some ⟨gg,i * 25 + 21,none⟩)) rfl (fun _ _ _ ww hr => act_fld (sz := 1) (b := gg) (m := i * 25 + 17) hr.1 rfl Try.underlying66 rfl (by kernel_rfl) rfl (by kernel_rfl) rfl) ?_
 refine xl_hs 0 [0,1,5,193,196] ⟨[(0,.v (.slice A l.length cap)),(1,.v (.int .i64 (q + 8))),(5,.v (.int .i64 (i : Int))),(193,.v (.int .i64 (q + 8))),(196,.v (.pointer (some ⟨gg,i * 25 + 21,none⟩)))],[],[],[rowF B 68 25 (.slice A l.length cap) ((L.set i ((⟨⟨b,b + 1,b + 2⟩,b + 3,⟨b + 4,(markText (b + 5)),b + 6,(Int.tmod (b + 7) 3) == 0,(Int.tmod (b + 8) 3) == 0,(Int.tmod (b + 9) 3) == 0⟩,⟨b + 10,(markText (b + 11)),(marks mkP 2 (b + 12) x.r.held.length),q,(Int.tmod (q + 1) 3) == 0⟩,q + 2,q + 3,⟨q + 4,q + 5,(Int.tmod (q + 6) 3) == 0,(Int.tmod (q + 7) 3) == 0,x.o.val,x.o.echo⟩,x.timer,x.tries⟩,.slice xa x.r.held.length xc) : CV)).map conR),ownF B (.slice xa x.r.held.length xc) 2 ((marks mkP 2 (b + 12) x.r.held.length).map pceCells),hownF B (L.take i ++ L.drop (i + 1)),frF w (allF (tabR B 68 (.slice A l.length cap) l)).blk]⟩ (by kernel_rfl) rfl (by kernel_rfl) rfl (by kernel_rfl) (HSg.hs (hs_stR (g := gg) (B := B) (e := 68) (K := 25) (N := l.length) (cap := cap) (rs := ((L.set i ((⟨⟨b,b + 1,b + 2⟩,b + 3,⟨b + 4,(markText (b + 5)),b + 6,(Int.tmod (b + 7) 3) == 0,(Int.tmod (b + 8) 3) == 0,(Int.tmod (b + 9) 3) == 0⟩,⟨b + 10,(markText (b + 11)),(marks mkP 2 (b + 12) x.r.held.length),q,(Int.tmod (q + 1) 3) == 0⟩,q + 2,q + 3,⟨q + 4,q + 5,(Int.tmod (q + 6) 3) == 0,(Int.tmod (q + 7) 3) == 0,x.o.val,x.o.echo⟩,x.timer,x.tries⟩,.slice xa x.r.held.length xc) : CV)).map conR)) (rs' := (L.set i ((⟨⟨b,b + 1,b + 2⟩,b + 3,⟨b + 4,(markText (b + 5)),b + 6,(Int.tmod (b + 7) 3) == 0,(Int.tmod (b + 8) 3) == 0,(Int.tmod (b + 9) 3) == 0⟩,⟨b + 10,(markText (b + 11)),(marks mkP 2 (b + 12) x.r.held.length),q,(Int.tmod (q + 1) 3) == 0⟩,q + 2,q + 3,⟨q + 4,q + 5,(Int.tmod (q + 6) 3) == 0,(Int.tmod (q + 7) 3) == 0,q + 8,x.o.echo⟩,x.timer,x.tries⟩,.slice xa x.r.held.length xc) : CV)).map conR) (v := (.int .i64 (q + 8))) (i := 0) (off := i * 25 + 21) i 21 [.int .i64 b,.int .i64 (b + 1),.int .i64 (b + 2),.int .i64 (b + 3),.int .i64 (b + 4),.string (markText (b + 5)),.int .i64 (b + 6),.bool ((Int.tmod (b + 7) 3) == 0),.bool ((Int.tmod (b + 8) 3) == 0),.bool ((Int.tmod (b + 9) 3) == 0),.int .i64 (b + 10),.string (markText (b + 11)),.slice xa x.r.held.length xc,.int .i64 q,.bool ((Int.tmod (q + 1) 3) == 0),.int .i64 (q + 2),.int .i64 (q + 3),.int .i64 (q + 4),.int .i64 (q + 5),.bool ((Int.tmod (q + 6) 3) == 0),.bool ((Int.tmod (q + 7) 3) == 0),.int .i64 x.o.val,.int .i64 x.o.echo,.int .i64 x.timer,.int .i64 x.tries] (row' := [.int .i64 b,.int .i64 (b + 1),.int .i64 (b + 2),.int .i64 (b + 3),.int .i64 (b + 4),.string (markText (b + 5)),.int .i64 (b + 6),.bool ((Int.tmod (b + 7) 3) == 0),.bool ((Int.tmod (b + 8) 3) == 0),.bool ((Int.tmod (b + 9) 3) == 0),.int .i64 (b + 10),.string (markText (b + 11)),.slice xa x.r.held.length xc,.int .i64 q,.bool ((Int.tmod (q + 1) 3) == 0),.int .i64 (q + 2),.int .i64 (q + 3),.int .i64 (q + 4),.int .i64 (q + 5),.bool ((Int.tmod (q + 6) 3) == 0),.bool ((Int.tmod (q + 7) 3) == 0),.int .i64 (q + 8),.int .i64 x.o.echo,.int .i64 x.timer,.int .i64 x.tries]) hgg rfl (by kernel_rfl) rfl (by kernel_rfl) (by kernel_rfl) (by kernel_rfl) (by kernel_rfl) (cutW_le w B) (by rw [List.map_set,List.getElem?_set_self (by rw [List.length_map]; omega)]; rfl) (by kernel_rfl) rfl (by rw [List.map_set,List.map_set,List.set_set]; rfl))) ?_
 refine kED [0,1,5] [] ?_
 refine kQ ?_
 refine kRD 3 [0,1,5] [(1,.v (.int .i64 (IntKind.i64.wrap (q + 8 + 1))))] ?_
 refine xl_nv [0,1,5] [(1,.v (.int .i64 (IntKind.i64.wrap (q + 8 + 1))))] [(1,.v (.int .i64 (q + 9)))] (by rw [show (IntKind.i64.wrap (q + 8 + 1)) = (q + 9) from wrap_to (by omega) (by omega) (by omega)]) (by kernel_rfl) ?_
 refine kED [0,1,5] [] ?_
 refine kQ ?_
 refine kOD 3 [0,1,5,199,200,201] [(199,.v (.slice A l.length cap)),(200,.v (.int .i64 (i : Int))),(201,.v (.int .i64 (q + 9)))] (.pointer (some ⟨gg,i * 25,none⟩)) rfl (fun _ _ _ ww hr => act_ix (kd := .i64) (T := 30) (e := 68) (K := 25) (g := gg) (N := l.length) (cap := cap) i hgg hr.1 rfl rfl (by kernel_rfl) (by kernel_rfl) (by kernel_rfl) hlt ww) ?_
 refine kOD 0 [0,1,5,201,202] [] (.pointer (some ⟨gg,i * 25 + 17,none⟩)) rfl (fun _ _ _ ww hr => act_fld (sz := 6) (b := gg) (m := i * 25) hr.1 rfl Try.underlying68 rfl (by kernel_rfl) rfl (by kernel_rfl) rfl) ?_
 refine kOS 0 [0,1,5,201,203] [(0,.v (.slice A l.length cap)),(1,.v (.int .i64 (q + 9))),(5,.v (.int .i64 (i : Int))),(201,.v (.int .i64 (q + 9))),(203,.v (.pointer (some ⟨gg,i * 25 + 17,none⟩)))] (.pointer (some ⟨gg,i * 25 + 22,none⟩)) rfl (fun _ _ _ ww hr => act_fld (sz := 1) (b := gg) (m := i * 25 + 17) hr.1 rfl Try.underlying66 rfl (by kernel_rfl) rfl (by kernel_rfl) rfl) ?_
 refine xl_hs 0 [0,1,5,201,204] ⟨[(0,.v (.slice A l.length cap)),(1,.v (.int .i64 (q + 9))),(5,.v (.int .i64 (i : Int))),(201,.v (.int .i64 (q + 9))),(204,.v (.pointer (some ⟨gg,i * 25 + 22,none⟩)))],[],[],[rowF B 68 25 (.slice A l.length cap) ((L.set i ((⟨⟨b,b + 1,b + 2⟩,b + 3,⟨b + 4,(markText (b + 5)),b + 6,(Int.tmod (b + 7) 3) == 0,(Int.tmod (b + 8) 3) == 0,(Int.tmod (b + 9) 3) == 0⟩,⟨b + 10,(markText (b + 11)),(marks mkP 2 (b + 12) x.r.held.length),q,(Int.tmod (q + 1) 3) == 0⟩,q + 2,q + 3,⟨q + 4,q + 5,(Int.tmod (q + 6) 3) == 0,(Int.tmod (q + 7) 3) == 0,q + 8,x.o.echo⟩,x.timer,x.tries⟩,.slice xa x.r.held.length xc) : CV)).map conR),ownF B (.slice xa x.r.held.length xc) 2 ((marks mkP 2 (b + 12) x.r.held.length).map pceCells),hownF B (L.take i ++ L.drop (i + 1)),frF w (allF (tabR B 68 (.slice A l.length cap) l)).blk]⟩ (by kernel_rfl) rfl (by kernel_rfl) rfl (by kernel_rfl) (HSg.hs (hs_stR (g := gg) (B := B) (e := 68) (K := 25) (N := l.length) (cap := cap) (rs := ((L.set i ((⟨⟨b,b + 1,b + 2⟩,b + 3,⟨b + 4,(markText (b + 5)),b + 6,(Int.tmod (b + 7) 3) == 0,(Int.tmod (b + 8) 3) == 0,(Int.tmod (b + 9) 3) == 0⟩,⟨b + 10,(markText (b + 11)),(marks mkP 2 (b + 12) x.r.held.length),q,(Int.tmod (q + 1) 3) == 0⟩,q + 2,q + 3,⟨q + 4,q + 5,(Int.tmod (q + 6) 3) == 0,(Int.tmod (q + 7) 3) == 0,q + 8,x.o.echo⟩,x.timer,x.tries⟩,.slice xa x.r.held.length xc) : CV)).map conR)) (rs' := (L.set i ((⟨⟨b,b + 1,b + 2⟩,b + 3,⟨b + 4,(markText (b + 5)),b + 6,(Int.tmod (b + 7) 3) == 0,(Int.tmod (b + 8) 3) == 0,(Int.tmod (b + 9) 3) == 0⟩,⟨b + 10,(markText (b + 11)),(marks mkP 2 (b + 12) x.r.held.length),q,(Int.tmod (q + 1) 3) == 0⟩,q + 2,q + 3,⟨q + 4,q + 5,(Int.tmod (q + 6) 3) == 0,(Int.tmod (q + 7) 3) == 0,q + 8,q + 9⟩,x.timer,x.tries⟩,.slice xa x.r.held.length xc) : CV)).map conR) (v := (.int .i64 (q + 9))) (i := 0) (off := i * 25 + 22) i 22 [.int .i64 b,.int .i64 (b + 1),.int .i64 (b + 2),.int .i64 (b + 3),.int .i64 (b + 4),.string (markText (b + 5)),.int .i64 (b + 6),.bool ((Int.tmod (b + 7) 3) == 0),.bool ((Int.tmod (b + 8) 3) == 0),.bool ((Int.tmod (b + 9) 3) == 0),.int .i64 (b + 10),.string (markText (b + 11)),.slice xa x.r.held.length xc,.int .i64 q,.bool ((Int.tmod (q + 1) 3) == 0),.int .i64 (q + 2),.int .i64 (q + 3),.int .i64 (q + 4),.int .i64 (q + 5),.bool ((Int.tmod (q + 6) 3) == 0),.bool ((Int.tmod (q + 7) 3) == 0),.int .i64 (q + 8),.int .i64 x.o.echo,.int .i64 x.timer,.int .i64 x.tries] (row' := [.int .i64 b,.int .i64 (b + 1),.int .i64 (b + 2),.int .i64 (b + 3),.int .i64 (b + 4),.string (markText (b + 5)),.int .i64 (b + 6),.bool ((Int.tmod (b + 7) 3) == 0),.bool ((Int.tmod (b + 8) 3) == 0),.bool ((Int.tmod (b + 9) 3) == 0),.int .i64 (b + 10),.string (markText (b + 11)),.slice xa x.r.held.length xc,.int .i64 q,.bool ((Int.tmod (q + 1) 3) == 0),.int .i64 (q + 2),.int .i64 (q + 3),.int .i64 (q + 4),.int .i64 (q + 5),.bool ((Int.tmod (q + 6) 3) == 0),.bool ((Int.tmod (q + 7) 3) == 0),.int .i64 (q + 8),.int .i64 (q + 9),.int .i64 x.timer,.int .i64 x.tries]) hgg rfl (by kernel_rfl) rfl (by kernel_rfl) (by kernel_rfl) (by kernel_rfl) (by kernel_rfl) (cutW_le w B) (by rw [List.map_set,List.getElem?_set_self (by rw [List.length_map]; omega)]; rfl) (by kernel_rfl) rfl (by rw [List.map_set,List.map_set,List.set_set]; rfl))) ?_
 refine kED [0,1,5] [] ?_
 refine kQ ?_
 refine kRD 3 [0,1,5] [(1,.v (.int .i64 (IntKind.i64.wrap (q + 9 + 1))))] ?_
 refine xl_nv [0,1,5] [(1,.v (.int .i64 (IntKind.i64.wrap (q + 9 + 1))))] [(1,.v (.int .i64 (q + 10)))] (by rw [show (IntKind.i64.wrap (q + 9 + 1)) = (q + 10) from wrap_to (by omega) (by omega) (by omega)]) (by kernel_rfl) ?_
 refine kED [0,1,5] [] ?_
 refine kQ ?_
 refine kOD 3 [0,1,5,207,208,209] [(207,.v (.slice A l.length cap)),(208,.v (.int .i64 (i : Int))),(209,.v (.int .i64 (q + 10)))] (.pointer (some ⟨gg,i * 25,none⟩)) rfl (fun _ _ _ ww hr => act_ix (kd := .i64) (T := 30) (e := 68) (K := 25) (g := gg) (N := l.length) (cap := cap) i hgg hr.1 rfl rfl (by kernel_rfl) (by kernel_rfl) (by kernel_rfl) hlt ww) ?_
 refine kOD 0 [0,1,5,209,210] [] (.pointer (some ⟨gg,i * 25 + 23,none⟩)) rfl (fun _ _ _ ww hr => act_fld (sz := 1) (b := gg) (m := i * 25) hr.1 rfl Try.underlying68 rfl (by kernel_rfl) rfl (by kernel_rfl) rfl) ?_
 refine xl_hs 0 [0,1,5,209,211] ⟨[(0,.v (.slice A l.length cap)),(1,.v (.int .i64 (q + 10))),(5,.v (.int .i64 (i : Int))),(209,.v (.int .i64 (q + 10))),(211,.v (.pointer (some ⟨gg,i * 25 + 23,none⟩)))],[],[],[rowF B 68 25 (.slice A l.length cap) ((L.set i ((⟨⟨b,b + 1,b + 2⟩,b + 3,⟨b + 4,(markText (b + 5)),b + 6,(Int.tmod (b + 7) 3) == 0,(Int.tmod (b + 8) 3) == 0,(Int.tmod (b + 9) 3) == 0⟩,⟨b + 10,(markText (b + 11)),(marks mkP 2 (b + 12) x.r.held.length),q,(Int.tmod (q + 1) 3) == 0⟩,q + 2,q + 3,⟨q + 4,q + 5,(Int.tmod (q + 6) 3) == 0,(Int.tmod (q + 7) 3) == 0,q + 8,q + 9⟩,x.timer,x.tries⟩,.slice xa x.r.held.length xc) : CV)).map conR),ownF B (.slice xa x.r.held.length xc) 2 ((marks mkP 2 (b + 12) x.r.held.length).map pceCells),hownF B (L.take i ++ L.drop (i + 1)),frF w (allF (tabR B 68 (.slice A l.length cap) l)).blk]⟩ (by kernel_rfl) rfl (by kernel_rfl) rfl (by kernel_rfl) (HSg.hs (hs_stR (g := gg) (B := B) (e := 68) (K := 25) (N := l.length) (cap := cap) (rs := ((L.set i ((⟨⟨b,b + 1,b + 2⟩,b + 3,⟨b + 4,(markText (b + 5)),b + 6,(Int.tmod (b + 7) 3) == 0,(Int.tmod (b + 8) 3) == 0,(Int.tmod (b + 9) 3) == 0⟩,⟨b + 10,(markText (b + 11)),(marks mkP 2 (b + 12) x.r.held.length),q,(Int.tmod (q + 1) 3) == 0⟩,q + 2,q + 3,⟨q + 4,q + 5,(Int.tmod (q + 6) 3) == 0,(Int.tmod (q + 7) 3) == 0,q + 8,q + 9⟩,x.timer,x.tries⟩,.slice xa x.r.held.length xc) : CV)).map conR)) (rs' := (L.set i ((⟨⟨b,b + 1,b + 2⟩,b + 3,⟨b + 4,(markText (b + 5)),b + 6,(Int.tmod (b + 7) 3) == 0,(Int.tmod (b + 8) 3) == 0,(Int.tmod (b + 9) 3) == 0⟩,⟨b + 10,(markText (b + 11)),(marks mkP 2 (b + 12) x.r.held.length),q,(Int.tmod (q + 1) 3) == 0⟩,q + 2,q + 3,⟨q + 4,q + 5,(Int.tmod (q + 6) 3) == 0,(Int.tmod (q + 7) 3) == 0,q + 8,q + 9⟩,q + 10,x.tries⟩,.slice xa x.r.held.length xc) : CV)).map conR) (v := (.int .i64 (q + 10))) (i := 0) (off := i * 25 + 23) i 23 [.int .i64 b,.int .i64 (b + 1),.int .i64 (b + 2),.int .i64 (b + 3),.int .i64 (b + 4),.string (markText (b + 5)),.int .i64 (b + 6),.bool ((Int.tmod (b + 7) 3) == 0),.bool ((Int.tmod (b + 8) 3) == 0),.bool ((Int.tmod (b + 9) 3) == 0),.int .i64 (b + 10),.string (markText (b + 11)),.slice xa x.r.held.length xc,.int .i64 q,.bool ((Int.tmod (q + 1) 3) == 0),.int .i64 (q + 2),.int .i64 (q + 3),.int .i64 (q + 4),.int .i64 (q + 5),.bool ((Int.tmod (q + 6) 3) == 0),.bool ((Int.tmod (q + 7) 3) == 0),.int .i64 (q + 8),.int .i64 (q + 9),.int .i64 x.timer,.int .i64 x.tries] (row' := [.int .i64 b,.int .i64 (b + 1),.int .i64 (b + 2),.int .i64 (b + 3),.int .i64 (b + 4),.string (markText (b + 5)),.int .i64 (b + 6),.bool ((Int.tmod (b + 7) 3) == 0),.bool ((Int.tmod (b + 8) 3) == 0),.bool ((Int.tmod (b + 9) 3) == 0),.int .i64 (b + 10),.string (markText (b + 11)),.slice xa x.r.held.length xc,.int .i64 q,.bool ((Int.tmod (q + 1) 3) == 0),.int .i64 (q + 2),.int .i64 (q + 3),.int .i64 (q + 4),.int .i64 (q + 5),.bool ((Int.tmod (q + 6) 3) == 0),.bool ((Int.tmod (q + 7) 3) == 0),.int .i64 (q + 8),.int .i64 (q + 9),.int .i64 (q + 10),.int .i64 x.tries]) hgg rfl (by kernel_rfl) rfl (by kernel_rfl) (by kernel_rfl) (by kernel_rfl) (by kernel_rfl) (cutW_le w B) (by rw [List.map_set,List.getElem?_set_self (by rw [List.length_map]; omega)]; rfl) (by kernel_rfl) rfl (by rw [List.map_set,List.map_set,List.set_set]; rfl))) ?_
 refine kED [0,1,5] [] ?_
 refine kQ ?_
 refine kRD 3 [0,1,5] [(1,.v (.int .i64 (IntKind.i64.wrap (q + 10 + 1))))] ?_
 refine xl_nv [0,1,5] [(1,.v (.int .i64 (IntKind.i64.wrap (q + 10 + 1))))] [(1,.v (.int .i64 (q + 11)))] (by rw [show (IntKind.i64.wrap (q + 10 + 1)) = (q + 11) from wrap_to (by omega) (by omega) (by omega)]) (by kernel_rfl) ?_
 refine kED [0,1,5] [] ?_
 refine kQ ?_
 refine kOS 3 [0,1,5,214,215,216] [(0,.v (.slice A l.length cap)),(1,.v (.int .i64 (q + 11))),(5,.v (.int .i64 (i : Int))),(214,.v (.slice A l.length cap)),(215,.v (.int .i64 (i : Int))),(216,.v (.int .i64 (q + 11)))] (.pointer (some ⟨gg,i * 25,none⟩)) rfl (fun _ _ _ ww hr => act_ix (kd := .i64) (T := 30) (e := 68) (K := 25) (g := gg) (N := l.length) (cap := cap) i hgg hr.1 rfl rfl (by kernel_rfl) (by kernel_rfl) (by kernel_rfl) hlt ww) ?_
 refine kOD 0 [0,1,5,216,217] [] (.pointer (some ⟨gg,i * 25 + 24,none⟩)) rfl (fun _ _ _ ww hr => act_fld (sz := 1) (b := gg) (m := i * 25) hr.1 rfl Try.underlying68 rfl (by kernel_rfl) rfl (by kernel_rfl) rfl) ?_
 refine xl_hs 0 [0,1,5,216,218] ⟨[(0,.v (.slice A l.length cap)),(1,.v (.int .i64 (q + 11))),(5,.v (.int .i64 (i : Int))),(216,.v (.int .i64 (q + 11))),(218,.v (.pointer (some ⟨gg,i * 25 + 24,none⟩)))],[],[],[rowF B 68 25 (.slice A l.length cap) ((L.set i ((⟨⟨b,b + 1,b + 2⟩,b + 3,⟨b + 4,(markText (b + 5)),b + 6,(Int.tmod (b + 7) 3) == 0,(Int.tmod (b + 8) 3) == 0,(Int.tmod (b + 9) 3) == 0⟩,⟨b + 10,(markText (b + 11)),(marks mkP 2 (b + 12) x.r.held.length),q,(Int.tmod (q + 1) 3) == 0⟩,q + 2,q + 3,⟨q + 4,q + 5,(Int.tmod (q + 6) 3) == 0,(Int.tmod (q + 7) 3) == 0,q + 8,q + 9⟩,q + 10,x.tries⟩,.slice xa x.r.held.length xc) : CV)).map conR),ownF B (.slice xa x.r.held.length xc) 2 ((marks mkP 2 (b + 12) x.r.held.length).map pceCells),hownF B (L.take i ++ L.drop (i + 1)),frF w (allF (tabR B 68 (.slice A l.length cap) l)).blk]⟩ (by kernel_rfl) rfl (by kernel_rfl) rfl (by kernel_rfl) (HSg.hs (hs_stR (g := gg) (B := B) (e := 68) (K := 25) (N := l.length) (cap := cap) (rs := ((L.set i ((⟨⟨b,b + 1,b + 2⟩,b + 3,⟨b + 4,(markText (b + 5)),b + 6,(Int.tmod (b + 7) 3) == 0,(Int.tmod (b + 8) 3) == 0,(Int.tmod (b + 9) 3) == 0⟩,⟨b + 10,(markText (b + 11)),(marks mkP 2 (b + 12) x.r.held.length),q,(Int.tmod (q + 1) 3) == 0⟩,q + 2,q + 3,⟨q + 4,q + 5,(Int.tmod (q + 6) 3) == 0,(Int.tmod (q + 7) 3) == 0,q + 8,q + 9⟩,q + 10,x.tries⟩,.slice xa x.r.held.length xc) : CV)).map conR)) (rs' := (L.set i ((⟨⟨b,b + 1,b + 2⟩,b + 3,⟨b + 4,(markText (b + 5)),b + 6,(Int.tmod (b + 7) 3) == 0,(Int.tmod (b + 8) 3) == 0,(Int.tmod (b + 9) 3) == 0⟩,⟨b + 10,(markText (b + 11)),(marks mkP 2 (b + 12) x.r.held.length),q,(Int.tmod (q + 1) 3) == 0⟩,q + 2,q + 3,⟨q + 4,q + 5,(Int.tmod (q + 6) 3) == 0,(Int.tmod (q + 7) 3) == 0,q + 8,q + 9⟩,q + 10,q + 11⟩,.slice xa x.r.held.length xc) : CV)).map conR) (v := (.int .i64 (q + 11))) (i := 0) (off := i * 25 + 24) i 24 [.int .i64 b,.int .i64 (b + 1),.int .i64 (b + 2),.int .i64 (b + 3),.int .i64 (b + 4),.string (markText (b + 5)),.int .i64 (b + 6),.bool ((Int.tmod (b + 7) 3) == 0),.bool ((Int.tmod (b + 8) 3) == 0),.bool ((Int.tmod (b + 9) 3) == 0),.int .i64 (b + 10),.string (markText (b + 11)),.slice xa x.r.held.length xc,.int .i64 q,.bool ((Int.tmod (q + 1) 3) == 0),.int .i64 (q + 2),.int .i64 (q + 3),.int .i64 (q + 4),.int .i64 (q + 5),.bool ((Int.tmod (q + 6) 3) == 0),.bool ((Int.tmod (q + 7) 3) == 0),.int .i64 (q + 8),.int .i64 (q + 9),.int .i64 (q + 10),.int .i64 x.tries] (row' := [.int .i64 b,.int .i64 (b + 1),.int .i64 (b + 2),.int .i64 (b + 3),.int .i64 (b + 4),.string (markText (b + 5)),.int .i64 (b + 6),.bool ((Int.tmod (b + 7) 3) == 0),.bool ((Int.tmod (b + 8) 3) == 0),.bool ((Int.tmod (b + 9) 3) == 0),.int .i64 (b + 10),.string (markText (b + 11)),.slice xa x.r.held.length xc,.int .i64 q,.bool ((Int.tmod (q + 1) 3) == 0),.int .i64 (q + 2),.int .i64 (q + 3),.int .i64 (q + 4),.int .i64 (q + 5),.bool ((Int.tmod (q + 6) 3) == 0),.bool ((Int.tmod (q + 7) 3) == 0),.int .i64 (q + 8),.int .i64 (q + 9),.int .i64 (q + 10),.int .i64 (q + 11)]) hgg rfl (by kernel_rfl) rfl (by kernel_rfl) (by kernel_rfl) (by kernel_rfl) (by kernel_rfl) (cutW_le w B) (by rw [List.map_set,List.getElem?_set_self (by rw [List.length_map]; omega)]; rfl) (by kernel_rfl) rfl (by rw [List.map_set,List.map_set,List.set_set]; rfl))) ?_
 refine kED [0,1,5] [] ?_
 refine kG ?_
 refine kRD 3 [0,1,5] [(1,.v (.int .i64 (IntKind.i64.wrap (q + 11 + 1))))] ?_
 refine xl_nv [0,1,5] [(1,.v (.int .i64 (IntKind.i64.wrap (q + 11 + 1))))] [(1,.v (.int .i64 (q + 12)))] (by rw [show (IntKind.i64.wrap (q + 11 + 1)) = (q + 12) from wrap_to (by omega) (by omega) (by omega)]) (by kernel_rfl) ?_
 refine kED [0,1,5] [] ?_
 refine kG ?_
 refine kRD 3 [0,1,5] [(5,.v (.int .i64 (IntKind.i64.wrap ((i : Int) + 1))))] ?_
 refine xl_nv [0,1,5] [(5,.v (.int .i64 (IntKind.i64.wrap ((i : Int) + 1))))] [(5,.v (.int .i64 ((i : Int) + 1)))] (by rw [show (IntKind.i64.wrap ((i : Int) + 1)) = ((i : Int) + 1) from wrap_id (by omega) (by omega)]) (by kernel_rfl) ?_
 refine kED [0,1,5] [] ?_
 exact ⟨⟨(i + 1,(L.set i ((⟨⟨b,b + 1,b + 2⟩,b + 3,⟨b + 4,(markText (b + 5)),b + 6,(Int.tmod (b + 7) 3) == 0,(Int.tmod (b + 8) 3) == 0,(Int.tmod (b + 9) 3) == 0⟩,⟨b + 10,(markText (b + 11)),(marks mkP 2 (b + 12) x.r.held.length),q,(Int.tmod (q + 1) 3) == 0⟩,q + 2,q + 3,⟨q + 4,q + 5,(Int.tmod (q + 6) 3) == 0,(Int.tmod (q + 7) 3) == 0,q + 8,q + 9⟩,q + 10,q + 11⟩,.slice xa x.r.held.length xc) : CV)),q + 12),⟨hlt,(by rw [← mkAt_next hx,← HK,HL,hq]; rfl),(by rw [mcnt_next hx]; simp only; omega)⟩⟩,kPk [1,2,0,3] <| (wk_turn (fs' := [hownF B (L.set i ((⟨⟨b,b + 1,b + 2⟩,b + 3,⟨b + 4,(markText (b + 5)),b + 6,(Int.tmod (b + 7) 3) == 0,(Int.tmod (b + 8) 3) == 0,(Int.tmod (b + 9) 3) == 0⟩,⟨b + 10,(markText (b + 11)),(marks mkP 2 (b + 12) x.r.held.length),q,(Int.tmod (q + 1) 3) == 0⟩,q + 2,q + 3,⟨q + 4,q + 5,(Int.tmod (q + 6) 3) == 0,(Int.tmod (q + 7) 3) == 0,q + 8,q + 9⟩,q + 10,q + 11⟩,.slice xa x.r.held.length xc) : CV)),rowF B 68 25 (.slice A l.length cap) ((L.set i ((⟨⟨b,b + 1,b + 2⟩,b + 3,⟨b + 4,(markText (b + 5)),b + 6,(Int.tmod (b + 7) 3) == 0,(Int.tmod (b + 8) 3) == 0,(Int.tmod (b + 9) 3) == 0⟩,⟨b + 10,(markText (b + 11)),(marks mkP 2 (b + 12) x.r.held.length),q,(Int.tmod (q + 1) 3) == 0⟩,q + 2,q + 3,⟨q + 4,q + 5,(Int.tmod (q + 6) 3) == 0,(Int.tmod (q + 7) 3) == 0,q + 8,q + 9⟩,q + 10,q + 11⟩,.slice xa x.r.held.length xc) : CV)).map conR),frF w (allF (tabR B 68 (.slice A l.length cap) l)).blk]) (fun _ _ _ _ h => hown_put (cs := L) (i := i) (x := ((⟨⟨b,b + 1,b + 2⟩,b + 3,⟨b + 4,(markText (b + 5)),b + 6,(Int.tmod (b + 7) 3) == 0,(Int.tmod (b + 8) 3) == 0,(Int.tmod (b + 9) 3) == 0⟩,⟨b + 10,(markText (b + 11)),(marks mkP 2 (b + 12) x.r.held.length),q,(Int.tmod (q + 1) 3) == 0⟩,q + 2,q + 3,⟨q + 4,q + 5,(Int.tmod (q + 6) 3) == 0,(Int.tmod (q + 7) 3) == 0,q + 8,q + 9⟩,q + 10,q + 11⟩,.slice xa x.r.held.length xc) : CV)) (by omega) h)).trans <| kPk [1,0,2] <| kF 0 0 [0,1,5],by show (fun (i : Nat) (L : List CV) (b : Int) => l.length - i) (i + 1) (L.set i ((⟨⟨b,b + 1,b + 2⟩,b + 3,⟨b + 4,(markText (b + 5)),b + 6,(Int.tmod (b + 7) 3) == 0,(Int.tmod (b + 8) 3) == 0,(Int.tmod (b + 9) 3) == 0⟩,⟨b + 10,(markText (b + 11)),(marks mkP 2 (b + 12) x.r.held.length),q,(Int.tmod (q + 1) 3) == 0⟩,q + 2,q + 3,⟨q + 4,q + 5,(Int.tmod (q + 6) 3) == 0,(Int.tmod (q + 7) 3) == 0,q + 8,q + 9⟩,q + 10,q + 11⟩,.slice xa x.r.held.length xc) : CV)) (q + 12) < l.length - i; (dsimp only; omega)⟩
 have h1p := of_decide_eq_false h1
 have hge : i = l.length := by simp at h1; omega
 refine xw_exit ?_
 refine kQ ?_
 refine kES [4] [(4,.v (.int .i64 b))] ?_
 refine kR ?_
 have hLe : L = mkCs k l := by rw [HL,hge,mkAt_all]
 exact ⟨[.int .i64 b],by kernel_rfl,fun w' hb hf ha => ⟨ret_int (by rw [HK,hge,List.take_length]),(by rw [← hLe]; exact allF_pick [0,1] hf ha (by kernel_rfl) (by kernel_rfl)),frF_chgd (hf (frF w (allF (tabR B 68 (.slice A l.length cap) l)).blk) (by simp)) hb rfl rfl rfl⟩⟩
theorem ymarkTable_c (v u : Value) (l : List CV) (wt : List Tup) (k : Int) (w : World) (B : Nat) (hB : B ≤ w.heap.size) (h : (allF (tabG B 68 v l u wt)).p w) (hk0 : 0 ≤ k) (hk : k ≤ 562949953421312) (hl : l.length ≤ 1048576) (hfit : ∀ x ∈ l, x.1.r.held.length ≤ 1048576) (hwl : wt.length ≤ 1048576) : Calls Try.prog 24 #[.agg #[v, u], .int .i64 k] w fun e w' => e = .returned (.int .i64 (k + mcnt l + 3 * (wt.length : Int))) ∧ (allF (tabG B 68 v (mkCs k l) u (marks mkT 3 (k + mcnt l) wt.length))).p w' ∧ Chgd (allF (tabG B 68 v l u wt)).blk w w' := by
 obtain ⟨hF,hFa⟩ := h
 have hF1 := hF _ (List.mem_cons_self ..)
 have hF2 := hF _ (List.mem_cons_of_mem _ (List.mem_cons_self ..))
 have hF3 := hF _ (List.mem_cons_of_mem _ (List.mem_cons_of_mem _ (List.mem_cons_self ..)))
 obtain ⟨A,cap,hv⟩ := (rowF_sl hF1).form
 rw [List.length_map] at hv; subst hv
 obtain ⟨A2,cap2,hu⟩ := (Own.sl hF3).form
 rw [List.length_map] at hu; subst hu
 have hmb := mcnt_bd hfit
 refine x_callsMA (args := [.agg #[.slice A l.length cap,.slice A2 wt.length cap2],.int .i64 k]) (fn := Try.f24) [rowF B 68 25 (.slice A l.length cap) (l.map conR),hownF B l,ownF B (.slice A2 wt.length cap2) 3 (wt.map tupCells),frF w (allF (tabG B 68 (.slice A l.length cap) l (.slice A2 wt.length cap2) wt)).blk] B Try.func24 rfl Try.ntmps24 rfl hB (by simp only [List.mem_cons,List.not_mem_nil,or_false,forall_eq_or_imp,forall_eq]; exact ⟨hF1,hF2,hF3,frF_start w _⟩) (apart_frS hFa fun g hg b hb => ⟨g,hg,hb⟩) ?_
 refine kQ ?_
 refine kEF [1,2] ⟨[(1,.v (.int .i64 k)),(2,.p 0 0)],[⟨33,[.slice A l.length cap,.slice A2 wt.length cap2]⟩],[],[rowF B 68 25 (.slice A l.length cap) (l.map conR),hownF B l,ownF B (.slice A2 wt.length cap2) 3 (wt.map tupCells),frF w (allF (tabG B 68 (.slice A l.length cap) l (.slice A2 wt.length cap2) wt)).blk]⟩ ?_
 refine kQ ?_
 refine xl_wk ((wk_pick [0,1,2,3] [rowF B 68 25 (.slice A l.length cap) (l.map conR),hownF B l,ownF B (.slice A2 wt.length cap2) 3 (wt.map tupCells),frF w (allF (tabG B 68 (.slice A l.length cap) l (.slice A2 wt.length cap2) wt)).blk] (by kernel_rfl) (by kernel_rfl)).trans (wk_turn (fs' := [allF (tabR B 68 (.slice A l.length cap) l),ownF B (.slice A2 wt.length cap2) 3 (wt.map tupCells),frF w (allF (tabG B 68 (.slice A l.length cap) l (.slice A2 wt.length cap2) wt)).blk]) (fun _ _ _ _ h => tabR_in h))) ?_
 refine xl_callW 3 [1,2,6,7] ⟨[(1,.v (.int .i64 k)),(2,.p 0 0),(6,.v (.slice A l.length cap)),(7,.v (.int .i64 k))],[⟨33,[.slice A l.length cap,.slice A2 wt.length cap2]⟩],[],[allF (tabR B 68 (.slice A l.length cap) l),ownF B (.slice A2 wt.length cap2) 3 (wt.map tupCells),frF w (allF (tabG B 68 (.slice A l.length cap) l (.slice A2 wt.length cap2) wt)).blk]⟩ 56 [.slice A l.length cap,.int .i64 k] (some 8) 0 (allF (tabR B 68 (.slice A l.length cap) l)) (by kernel_rfl) rfl (by kernel_rfl) rfl (by kernel_rfl) rfl rfl (fun ww b h hb => Nat.le_trans (cutW_le w B) (tabR_lo h hb)) (by kernel_rfl) (xcm_all (fun b h => tabR_blk h) fun ww hw hf => ymarkConnS_c (.slice A l.length cap) l k ww B (Nat.le_trans (by first | exact Nat.le_refl _ | exact Nat.le_of_eq (cutW_size hB).symm) hw) (hf (allF (tabR B 68 (.slice A l.length cap) l)) (by simp)) hk0 (by omega) hl hfit) ?_
 intro _
 refine xl_wk ((wk_pick [0,1,2] [allF (tabR B 68 (.slice A l.length cap) (mkCs k l)),ownF B (.slice A2 wt.length cap2) 3 (wt.map tupCells),frF w (allF (tabG B 68 (.slice A l.length cap) l (.slice A2 wt.length cap2) wt)).blk] (by kernel_rfl) (by kernel_rfl)).trans (wk_turn (fs' := [rowF B 68 25 (.slice A l.length cap) ((mkCs k l).map conR),hownF B (mkCs k l),ownF B (.slice A2 wt.length cap2) 3 (wt.map tupCells),frF w (allF (tabG B 68 (.slice A l.length cap) l (.slice A2 wt.length cap2) wt)).blk]) (fun _ _ _ _ h => tabR_out h))) ?_
 refine kED [1,2] [(1,.v (.int .i64 (k + mcnt l)))] ?_
 refine kQ ?_
 refine kWD 3 [1,10,11] [(10,.v (.slice A2 wt.length cap2)),(11,.v (.int .i64 (k + mcnt l)))] 57 [.slice A2 wt.length cap2,.int .i64 (k + mcnt l)] (some 12) 2 rfl rfl (fun ww b h hb => Nat.le_trans (cutW_le w B) (vblk_lo h hb)) (xcm_own marks_ne fun ww hw hf => ymarkTupleS_c (.slice A2 wt.length cap2) wt (k + mcnt l) ww B (Nat.le_trans (by first | exact Nat.le_refl _ | exact Nat.le_of_eq (cutW_size hB).symm) hw) (hf (ownF B (.slice A2 wt.length cap2) 3 (wt.map tupCells)) (by simp)) (by omega) (by omega) (by omega)) ?_
 intro _
 refine kES [1] [(1,.v (.int .i64 ((k + mcnt l) + 3 * (wt.length : Int))))] ?_
 refine kQ ?_
 refine kES [4] [(4,.v (.int .i64 ((k + mcnt l) + 3 * (wt.length : Int))))] ?_
 refine kR ?_
 exact ⟨[.int .i64 ((k + mcnt l) + 3 * (wt.length : Int))],by kernel_rfl,fun w' hb hf ha => ⟨rfl,allF_pick [1,2,0] hf ha (by kernel_rfl) (by kernel_rfl),frF_chgd (hf (frF w (allF (tabG B 68 (.slice A l.length cap) l (.slice A2 wt.length cap2) wt)).blk) (by simp)) hb rfl rfl rfl⟩⟩
theorem yheldConnS_c (a : List CV) (aV : Value) (k : Int) (w : World) (hl_aV : Sl w aV 25 (a.map conR)) (hh_aV : ∀ x ∈ a, Sl w x.2 2 (x.1.r.held.map pceCells)) (l : List CV) (ha : a = mkCs k l) (hk0 : 0 ≤ k) (hk : k ≤ 1125899906842624) (hl : l.length ≤ 1048576) (hfit : ∀ x ∈ l, x.1.r.held.length ≤ 1048576) : Calls Try.prog 58 #[aV, .int .i64 k] w fun e w' => e = .returned (.int .i64 (k + mcnt l)) ∧ Below w.heap.size w w' := by
 obtain ⟨Aa,Ca,hva⟩ := hl_aV.form
 rw [List.length_map] at hva; subst hva
 have hna := hl_aV.len; rw [List.length_map] at hna
 have hqa := Sl.capLe hl_aV
 have hal : a.length = l.length := by rw [ha,mkCs_len]
 refine x_calls (args := [.slice Aa a.length Ca,.int .i64 k]) (fn := Try.f58) [slF (.slice Aa a.length Ca) 25 (a.map conR),hldF a] Try.func58 rfl Try.ntmps58 rfl (by simp only [List.mem_cons,List.not_mem_nil,or_false,forall_eq_or_imp,forall_eq]; exact ⟨⟨rfl,hl_aV⟩,⟨rfl,hh_aV⟩⟩) ?_
 refine kQ ?_
 refine kEF [0,1] ⟨[(0,.v (.slice Aa a.length Ca)),(1,.v (.int .i64 k))],[],[],[slF (.slice Aa a.length Ca) 25 (a.map conR),hldF a]⟩ ?_
 refine kS ?_
 refine kQ ?_
 refine kED [0,1,5] [(5,.v (.int .i64 0))] ?_
 refine xw_block ?_
 refine xw_loopW (α := {x : Nat × Int // (fun (i : Nat) (b : Int) => i ≤ a.length ∧ b = k + mcnt (l.take i)) x.1 x.2}) (fun x => (fun (i : Nat) (b : Int) => (⟨[(0,.v (.slice Aa a.length Ca)),(1,.v (.int .i64 b)),(5,.v (.int .i64 (i : Int)))],[],[],[slF (.slice Aa a.length Ca) 25 (a.map conR),hldF a]⟩ : St)) x.1.1 x.1.2) (fun x => (fun (i : Nat) (b : Int) => a.length - i) x.1.1 x.1.2) ⟨(0,k),⟨Nat.zero_le _,(by simp [mcnt])⟩⟩ (kF 0 0 [0,1,5]) ?_
 rintro ⟨⟨i,b⟩,hi,HK⟩
 try dsimp only
 try dsimp only at hi HK
 have hmb := mcnt_bd (l := l.take i) (fun x hx => hfit x (List.mem_of_mem_take hx))
 have htl : (l.take i).length = i := by rw [List.length_take]; omega
 rw [htl] at hmb
 refine kS ?_
 refine kQ ?_
 refine kED [0,1,5,9] [(9,.v (.bool (decide ((i : Int) < ((a.length : Nat) : Int)))))] ?_
 refine kC (decide ((i : Int) < ((a.length : Nat) : Int))) (fun h1 => ?_) (fun h1 => ?_)
 have h1p := of_decide_eq_true h1
 have hlt : i < a.length := by simpa using h1
 have hlt2 : i < l.length := by omega
 obtain ⟨y,hy⟩ : ∃ y,l[i]? = some y := ⟨_,List.getElem?_eq_getElem hlt2⟩
 have hyn : y.1.r.held.length ≤ 1048576 := hfit _ (List.mem_of_getElem? hy)
 obtain ⟨q,hq⟩ : ∃ q,q = mkQ b y.1.r.held.length := ⟨_,rfl⟩
 have hx : a[i]? = some (mkCon b q y.1.r.held.length,y.2) := by rw [ha,mkCs_get k hy,← HK,hq]; rfl
 unfold mkQ at hq
 refine kK ?_
 refine kS ?_
 refine xw_block ?_
 refine kS ?_
 refine kQ ?_
 refine xl_indexD (kd := .i64) (T := 30) (e := 68) (K := 25) 2 [0,1,5,12,13] [(12,.v (.slice Aa a.length Ca)),(13,.v (.int .i64 (i : Int)))] i [.int .i64 b,.int .i64 (b + 1),.int .i64 (b + 2),.int .i64 (b + 3),.int .i64 (b + 4),.string (markText (b + 5)),.int .i64 (b + 6),.bool ((Int.tmod (b + 7) 3) == 0),.bool ((Int.tmod (b + 8) 3) == 0),.bool ((Int.tmod (b + 9) 3) == 0),.int .i64 (b + 10),.string (markText (b + 11)),y.2,.int .i64 q,.bool ((Int.tmod (q + 1) 3) == 0),.int .i64 (q + 2),.int .i64 (q + 3),.int .i64 (q + 4),.int .i64 (q + 5),.bool ((Int.tmod (q + 6) 3) == 0),.bool ((Int.tmod (q + 7) 3) == 0),.int .i64 (q + 8),.int .i64 (q + 9),.int .i64 (q + 10),.int .i64 (q + 11)] (slF (.slice Aa a.length Ca) 25 (a.map conR)) (by kernel_rfl) rfl (by kernel_rfl) rfl rfl (by kernel_rfl) (by kernel_rfl) (by kernel_rfl) (by kernel_rfl) hlt (by simp) (fun w h => h) (fun b h => h) (by simp only [List.getElem?_map,hx]; rfl) ?_
 refine kED [0,1,5,19] [(19,.v (.bool (b != b)))] ?_
 refine kC (b != b) (fun h2 => ?_) (fun h2 => ?_)
 simp at h2
 have h2p := neF h2
 refine kK ?_
 refine kQ ?_
 refine kRD 3 [0,1,5] [(1,.v (.int .i64 (IntKind.i64.wrap (b + 1))))] ?_
 refine xl_nv [0,1,5] [(1,.v (.int .i64 (IntKind.i64.wrap (b + 1))))] [(1,.v (.int .i64 (b + 1)))] (by rw [show (IntKind.i64.wrap (b + 1)) = (b + 1) from wrap_id (by omega) (by omega)]) (by kernel_rfl) ?_
 refine kED [0,1,5] [] ?_
 refine kS ?_
 refine kQ ?_
 refine xl_indexD (kd := .i64) (T := 30) (e := 68) (K := 25) 2 [0,1,5,22,23] [(22,.v (.slice Aa a.length Ca)),(23,.v (.int .i64 (i : Int)))] i [.int .i64 b,.int .i64 (b + 1),.int .i64 (b + 2),.int .i64 (b + 3),.int .i64 (b + 4),.string (markText (b + 5)),.int .i64 (b + 6),.bool ((Int.tmod (b + 7) 3) == 0),.bool ((Int.tmod (b + 8) 3) == 0),.bool ((Int.tmod (b + 9) 3) == 0),.int .i64 (b + 10),.string (markText (b + 11)),y.2,.int .i64 q,.bool ((Int.tmod (q + 1) 3) == 0),.int .i64 (q + 2),.int .i64 (q + 3),.int .i64 (q + 4),.int .i64 (q + 5),.bool ((Int.tmod (q + 6) 3) == 0),.bool ((Int.tmod (q + 7) 3) == 0),.int .i64 (q + 8),.int .i64 (q + 9),.int .i64 (q + 10),.int .i64 (q + 11)] (slF (.slice Aa a.length Ca) 25 (a.map conR)) (by kernel_rfl) rfl (by kernel_rfl) rfl rfl (by kernel_rfl) (by kernel_rfl) (by kernel_rfl) (by kernel_rfl) hlt (by simp) (fun w h => h) (fun b h => h) (by simp only [List.getElem?_map,hx]; rfl) ?_
 refine kED [0,1,5,29] [(29,.v (.bool ((b + 1) != (b + 1))))] ?_
 refine kC ((b + 1) != (b + 1)) (fun h3 => ?_) (fun h3 => ?_)
 simp at h3
 have h3p := neF h3
 refine kK ?_
 refine kQ ?_
 refine kRS 3 [0,1,5] [(0,.v (.slice Aa a.length Ca)),(1,.v (.int .i64 (IntKind.i64.wrap (b + 1 + 1)))),(5,.v (.int .i64 (i : Int)))] ?_
 refine xl_eqS (t' := [(0,.v (.slice Aa a.length Ca)),(1,.v (.int .i64 (b + 2))),(5,.v (.int .i64 (i : Int)))]) (by rw [show (IntKind.i64.wrap (b + 1 + 1)) = (b + 2) from wrap_to (by omega) (by omega) (by omega)]) ?_
 refine kED [0,1,5] [] ?_
 refine kS ?_
 refine kQ ?_
 refine xl_indexD (kd := .i64) (T := 30) (e := 68) (K := 25) 2 [0,1,5,32,33] [(32,.v (.slice Aa a.length Ca)),(33,.v (.int .i64 (i : Int)))] i [.int .i64 b,.int .i64 (b + 1),.int .i64 (b + 2),.int .i64 (b + 3),.int .i64 (b + 4),.string (markText (b + 5)),.int .i64 (b + 6),.bool ((Int.tmod (b + 7) 3) == 0),.bool ((Int.tmod (b + 8) 3) == 0),.bool ((Int.tmod (b + 9) 3) == 0),.int .i64 (b + 10),.string (markText (b + 11)),y.2,.int .i64 q,.bool ((Int.tmod (q + 1) 3) == 0),.int .i64 (q + 2),.int .i64 (q + 3),.int .i64 (q + 4),.int .i64 (q + 5),.bool ((Int.tmod (q + 6) 3) == 0),.bool ((Int.tmod (q + 7) 3) == 0),.int .i64 (q + 8),.int .i64 (q + 9),.int .i64 (q + 10),.int .i64 (q + 11)] (slF (.slice Aa a.length Ca) 25 (a.map conR)) (by kernel_rfl) rfl (by kernel_rfl) rfl rfl (by kernel_rfl) (by kernel_rfl) (by kernel_rfl) (by kernel_rfl) hlt (by simp) (fun w h => h) (fun b h => h) (by simp only [List.getElem?_map,hx]; rfl) ?_
 refine kED [0,1,5,39] [(39,.v (.bool ((b + 2) != (b + 2))))] ?_
 refine kC ((b + 2) != (b + 2)) (fun h4 => ?_) (fun h4 => ?_)
 simp at h4
 have h4p := neF h4
 refine kK ?_
 refine kQ ?_
 refine kRD 3 [0,1,5] [(1,.v (.int .i64 (IntKind.i64.wrap (b + 2 + 1))))] ?_
 refine xl_nv [0,1,5] [(1,.v (.int .i64 (IntKind.i64.wrap (b + 2 + 1))))] [(1,.v (.int .i64 (b + 3)))] (by rw [show (IntKind.i64.wrap (b + 2 + 1)) = (b + 3) from wrap_to (by omega) (by omega) (by omega)]) (by kernel_rfl) ?_
 refine kED [0,1,5] [] ?_
 refine kS ?_
 refine kQ ?_
 refine xl_indexD (kd := .i64) (T := 30) (e := 68) (K := 25) 2 [0,1,5,42,43] [(42,.v (.slice Aa a.length Ca)),(43,.v (.int .i64 (i : Int)))] i [.int .i64 b,.int .i64 (b + 1),.int .i64 (b + 2),.int .i64 (b + 3),.int .i64 (b + 4),.string (markText (b + 5)),.int .i64 (b + 6),.bool ((Int.tmod (b + 7) 3) == 0),.bool ((Int.tmod (b + 8) 3) == 0),.bool ((Int.tmod (b + 9) 3) == 0),.int .i64 (b + 10),.string (markText (b + 11)),y.2,.int .i64 q,.bool ((Int.tmod (q + 1) 3) == 0),.int .i64 (q + 2),.int .i64 (q + 3),.int .i64 (q + 4),.int .i64 (q + 5),.bool ((Int.tmod (q + 6) 3) == 0),.bool ((Int.tmod (q + 7) 3) == 0),.int .i64 (q + 8),.int .i64 (q + 9),.int .i64 (q + 10),.int .i64 (q + 11)] (slF (.slice Aa a.length Ca) 25 (a.map conR)) (by kernel_rfl) rfl (by kernel_rfl) rfl rfl (by kernel_rfl) (by kernel_rfl) (by kernel_rfl) (by kernel_rfl) hlt (by simp) (fun w h => h) (fun b h => h) (by simp only [List.getElem?_map,hx]; rfl) ?_
 refine kED [0,1,5,48] [(48,.v (.bool ((b + 3) != (b + 3))))] ?_
 refine kC ((b + 3) != (b + 3)) (fun h5 => ?_) (fun h5 => ?_)
 simp at h5
 have h5p := neF h5
 refine kK ?_
 refine kQ ?_
 refine kRD 3 [0,1,5] [(1,.v (.int .i64 (IntKind.i64.wrap (b + 3 + 1))))] ?_
 refine xl_nv [0,1,5] [(1,.v (.int .i64 (IntKind.i64.wrap (b + 3 + 1))))] [(1,.v (.int .i64 (b + 4)))] (by rw [show (IntKind.i64.wrap (b + 3 + 1)) = (b + 4) from wrap_to (by omega) (by omega) (by omega)]) (by kernel_rfl) ?_
 refine kES [0,1,5] [(0,.v (.slice Aa a.length Ca)),(1,.v (.int .i64 (b + 4))),(5,.v (.int .i64 (i : Int)))] ?_
 refine kS ?_
 refine kQ ?_
 refine xl_indexD (kd := .i64) (T := 30) (e := 68) (K := 25) 2 [0,1,5,51,52] [(51,.v (.slice Aa a.length Ca)),(52,.v (.int .i64 (i : Int)))] i [.int .i64 b,.int .i64 (b + 1),.int .i64 (b + 2),.int .i64 (b + 3),.int .i64 (b + 4),.string (markText (b + 5)),.int .i64 (b + 6),.bool ((Int.tmod (b + 7) 3) == 0),.bool ((Int.tmod (b + 8) 3) == 0),.bool ((Int.tmod (b + 9) 3) == 0),.int .i64 (b + 10),.string (markText (b + 11)),y.2,.int .i64 q,.bool ((Int.tmod (q + 1) 3) == 0),.int .i64 (q + 2),.int .i64 (q + 3),.int .i64 (q + 4),.int .i64 (q + 5),.bool ((Int.tmod (q + 6) 3) == 0),.bool ((Int.tmod (q + 7) 3) == 0),.int .i64 (q + 8),.int .i64 (q + 9),.int .i64 (q + 10),.int .i64 (q + 11)] (slF (.slice Aa a.length Ca) 25 (a.map conR)) (by kernel_rfl) rfl (by kernel_rfl) rfl rfl (by kernel_rfl) (by kernel_rfl) (by kernel_rfl) (by kernel_rfl) hlt (by simp) (fun w h => h) (fun b h => h) (by simp only [List.getElem?_map,hx]; rfl) ?_
 refine kED [0,1,5,58] [(58,.v (.bool ((b + 4) != (b + 4))))] ?_
 refine kC ((b + 4) != (b + 4)) (fun h6 => ?_) (fun h6 => ?_)
 simp at h6
 have h6p := neF h6
 refine kK ?_
 refine kQ ?_
 refine kRD 3 [0,1,5] [(1,.v (.int .i64 (IntKind.i64.wrap (b + 4 + 1))))] ?_
 refine xl_nv [0,1,5] [(1,.v (.int .i64 (IntKind.i64.wrap (b + 4 + 1))))] [(1,.v (.int .i64 (b + 5)))] (by rw [show (IntKind.i64.wrap (b + 4 + 1)) = (b + 5) from wrap_to (by omega) (by omega) (by omega)]) (by kernel_rfl) ?_
 refine kED [0,1,5] [] ?_
 refine kS ?_
 refine kS ?_
 refine xws_start ?_
 refine xws_row (K := 25) (j := i) [.int .i64 b,.int .i64 (b + 1),.int .i64 (b + 2),.int .i64 (b + 3),.int .i64 (b + 4),.string (markText (b + 5)),.int .i64 (b + 6),.bool ((Int.tmod (b + 7) 3) == 0),.bool ((Int.tmod (b + 8) 3) == 0),.bool ((Int.tmod (b + 9) 3) == 0),.int .i64 (b + 10),.string (markText (b + 11)),y.2,.int .i64 q,.bool ((Int.tmod (q + 1) 3) == 0),.int .i64 (q + 2),.int .i64 (q + 3),.int .i64 (q + 4),.int .i64 (q + 5),.bool ((Int.tmod (q + 6) 3) == 0),.bool ((Int.tmod (q + 7) 3) == 0),.int .i64 (q + 8),.int .i64 (q + 9),.int .i64 (q + 10),.int .i64 (q + 11)] (slF (.slice Aa a.length Ca) 25 (a.map conR)) (fun _ _ h => h) (by simp) (fun w h => h) (fun b h => h) (by simp only [List.getElem?_map,hx]; rfl) (fun bq7 offq7 hAq7 => ?_)
 refine xws_regionE [] (by kernel_rfl) (fun ρ σ hq8 => ?_)
 refine kTS [0,1,6] [67,62,61,0,1,5] 6 [(67,.v (.int .i64 (b + 5))),(62,.v (.int .i64 (i : Int))),(61,.v (.slice Aa a.length Ca)),(0,.v (.slice Aa a.length Ca)),(1,.v (.int .i64 (b + 5))),(5,.v (.int .i64 (i : Int)))] ?_
 refine xe_takeI (kd := .i64) (T := 30) (e := 68) (K := 25) (j := i) (A := Aa) (len := a.length) (cap := Ca) 2 5 _ rfl (by kernel_rfl) (by kernel_rfl) (by kernel_rfl) (fun _ _ h => h) (by kernel_rfl) rfl rfl (by kernel_rfl) (by kernel_rfl) (by kernel_rfl) (by kernel_rfl) hlt hAq7 hq8.2 (by kernel_rfl) rfl ?_
 refine kTS [3,4,5] [66,67,0,1,5] 2 [(66,.v (.string (markText (b + 5)))),(67,.v (.int .i64 (b + 5))),(0,.v (.slice Aa a.length Ca)),(1,.v (.int .i64 (b + 5))),(5,.v (.int .i64 (i : Int)))] ?_
 refine kA [7] ?_
 refine kSC 7 90 [.int .i64 (b + 5)] (some 68) rfl (xc_b fun ww hf => ymarkText_c (b + 5) ww  (by omega)) ?_
 intro _
 refine kTS [8] [69,0,1,5] 0 [(69,.v (.bool (!((markText (b + 5)).toList == (markText (b + 5)).toList)))),(0,.v (.slice Aa a.length Ca)),(1,.v (.int .i64 (b + 5))),(5,.v (.int .i64 (i : Int)))] ?_
 refine kZ ?_
 refine kC (!((markText (b + 5)).toList == (markText (b + 5)).toList)) (fun h9 => ?_) (fun h9 => ?_)
 have h9n := not_t h9
 simp at h9n
 have h9n := not_f h9
 have h9np := h9n; simp only [beq_iff_eq,bne_iff_ne,beq_eq_false_iff_ne,bne_eq_false_iff_eq,ne_eq,toList_lit0] at h9np
 refine kK ?_
 refine kQ ?_
 refine kRD 3 [0,1,5] [(1,.v (.int .i64 (IntKind.i64.wrap (b + 5 + 1))))] ?_
 refine xl_nv [0,1,5] [(1,.v (.int .i64 (IntKind.i64.wrap (b + 5 + 1))))] [(1,.v (.int .i64 (b + 6)))] (by rw [show (IntKind.i64.wrap (b + 5 + 1)) = (b + 6) from wrap_to (by omega) (by omega) (by omega)]) (by kernel_rfl) ?_
 refine kED [0,1,5] [] ?_
 refine kS ?_
 refine kQ ?_
 refine xl_indexD (kd := .i64) (T := 30) (e := 68) (K := 25) 2 [0,1,5,72,73] [(72,.v (.slice Aa a.length Ca)),(73,.v (.int .i64 (i : Int)))] i [.int .i64 b,.int .i64 (b + 1),.int .i64 (b + 2),.int .i64 (b + 3),.int .i64 (b + 4),.string (markText (b + 5)),.int .i64 (b + 6),.bool ((Int.tmod (b + 7) 3) == 0),.bool ((Int.tmod (b + 8) 3) == 0),.bool ((Int.tmod (b + 9) 3) == 0),.int .i64 (b + 10),.string (markText (b + 11)),y.2,.int .i64 q,.bool ((Int.tmod (q + 1) 3) == 0),.int .i64 (q + 2),.int .i64 (q + 3),.int .i64 (q + 4),.int .i64 (q + 5),.bool ((Int.tmod (q + 6) 3) == 0),.bool ((Int.tmod (q + 7) 3) == 0),.int .i64 (q + 8),.int .i64 (q + 9),.int .i64 (q + 10),.int .i64 (q + 11)] (slF (.slice Aa a.length Ca) 25 (a.map conR)) (by kernel_rfl) rfl (by kernel_rfl) rfl rfl (by kernel_rfl) (by kernel_rfl) (by kernel_rfl) (by kernel_rfl) hlt (by simp) (fun w h => h) (fun b h => h) (by simp only [List.getElem?_map,hx]; rfl) ?_
 refine kED [0,1,5,79] [(79,.v (.bool ((b + 6) != (b + 6))))] ?_
 refine kC ((b + 6) != (b + 6)) (fun h10 => ?_) (fun h10 => ?_)
 simp at h10
 have h10p := neF h10
 refine kK ?_
 refine kQ ?_
 refine kRD 3 [0,1,5] [(1,.v (.int .i64 (IntKind.i64.wrap (b + 6 + 1))))] ?_
 refine xl_nv [0,1,5] [(1,.v (.int .i64 (IntKind.i64.wrap (b + 6 + 1))))] [(1,.v (.int .i64 (b + 7)))] (by rw [show (IntKind.i64.wrap (b + 6 + 1)) = (b + 7) from wrap_to (by omega) (by omega) (by omega)]) (by kernel_rfl) ?_
 refine kED [0,1,5] [] ?_
 refine kS ?_
 refine kQ ?_
 refine xl_indexD (kd := .i64) (T := 30) (e := 68) (K := 25) 2 [0,1,5,82,83] [(82,.v (.slice Aa a.length Ca)),(83,.v (.int .i64 (i : Int)))] i [.int .i64 b,.int .i64 (b + 1),.int .i64 (b + 2),.int .i64 (b + 3),.int .i64 (b + 4),.string (markText (b + 5)),.int .i64 (b + 6),.bool ((Int.tmod (b + 7) 3) == 0),.bool ((Int.tmod (b + 8) 3) == 0),.bool ((Int.tmod (b + 9) 3) == 0),.int .i64 (b + 10),.string (markText (b + 11)),y.2,.int .i64 q,.bool ((Int.tmod (q + 1) 3) == 0),.int .i64 (q + 2),.int .i64 (q + 3),.int .i64 (q + 4),.int .i64 (q + 5),.bool ((Int.tmod (q + 6) 3) == 0),.bool ((Int.tmod (q + 7) 3) == 0),.int .i64 (q + 8),.int .i64 (q + 9),.int .i64 (q + 10),.int .i64 (q + 11)] (slF (.slice Aa a.length Ca) 25 (a.map conR)) (by kernel_rfl) rfl (by kernel_rfl) rfl rfl (by kernel_rfl) (by kernel_rfl) (by kernel_rfl) (by kernel_rfl) hlt (by simp) (fun w h => h) (fun b h => h) (by simp only [List.getElem?_map,hx]; rfl) ?_
 refine kOD 4 [0,1,5,87,88] [(87,.v (.bool ((Int.tmod (b + 7) 3) == 0))),(88,.v (.int .i64 (b + 7)))] (.int .i64 (Int.tmod (b + 7) 3)) rfl (fun _ _ _ ww hr => act_bin hr.1 rfl (by kernel_rfl) (by kernel_rfl) (rem_run (by first | decide | omega) ww)) ?_
 refine kES [0,1,5,91] [(0,.v (.slice Aa a.length Ca)),(1,.v (.int .i64 (b + 7))),(5,.v (.int .i64 (i : Int))),(91,.v (.bool (!(((Int.tmod (b + 7) 3) == 0) == ((Int.tmod (b + 7) 3) == 0)))))] ?_
 refine kC (!(((Int.tmod (b + 7) 3) == 0) == ((Int.tmod (b + 7) 3) == 0))) (fun h11 => ?_) (fun h11 => ?_)
 have h11n := not_t h11
 simp at h11n
 have h11n := not_f h11
 have h11np := eqT h11n
 refine kK ?_
 refine kQ ?_
 refine kRD 3 [0,1,5] [(1,.v (.int .i64 (IntKind.i64.wrap (b + 7 + 1))))] ?_
 refine xl_nv [0,1,5] [(1,.v (.int .i64 (IntKind.i64.wrap (b + 7 + 1))))] [(1,.v (.int .i64 (b + 8)))] (by rw [show (IntKind.i64.wrap (b + 7 + 1)) = (b + 8) from wrap_to (by omega) (by omega) (by omega)]) (by kernel_rfl) ?_
 refine kED [0,1,5] [] ?_
 refine kS ?_
 refine kQ ?_
 refine xl_indexD (kd := .i64) (T := 30) (e := 68) (K := 25) 2 [0,1,5,94,95] [(94,.v (.slice Aa a.length Ca)),(95,.v (.int .i64 (i : Int)))] i [.int .i64 b,.int .i64 (b + 1),.int .i64 (b + 2),.int .i64 (b + 3),.int .i64 (b + 4),.string (markText (b + 5)),.int .i64 (b + 6),.bool ((Int.tmod (b + 7) 3) == 0),.bool ((Int.tmod (b + 8) 3) == 0),.bool ((Int.tmod (b + 9) 3) == 0),.int .i64 (b + 10),.string (markText (b + 11)),y.2,.int .i64 q,.bool ((Int.tmod (q + 1) 3) == 0),.int .i64 (q + 2),.int .i64 (q + 3),.int .i64 (q + 4),.int .i64 (q + 5),.bool ((Int.tmod (q + 6) 3) == 0),.bool ((Int.tmod (q + 7) 3) == 0),.int .i64 (q + 8),.int .i64 (q + 9),.int .i64 (q + 10),.int .i64 (q + 11)] (slF (.slice Aa a.length Ca) 25 (a.map conR)) (by kernel_rfl) rfl (by kernel_rfl) rfl rfl (by kernel_rfl) (by kernel_rfl) (by kernel_rfl) (by kernel_rfl) hlt (by simp) (fun w h => h) (fun b h => h) (by simp only [List.getElem?_map,hx]; rfl) ?_
 refine kOD 4 [0,1,5,99,100] [(99,.v (.bool ((Int.tmod (b + 8) 3) == 0))),(100,.v (.int .i64 (b + 8)))] (.int .i64 (Int.tmod (b + 8) 3)) rfl (fun _ _ _ ww hr => act_bin hr.1 rfl (by kernel_rfl) (by kernel_rfl) (rem_run (by first | decide | omega) ww)) ?_
 refine kED [0,1,5,103] [(103,.v (.bool (!(((Int.tmod (b + 8) 3) == 0) == ((Int.tmod (b + 8) 3) == 0)))))] ?_
 refine kC (!(((Int.tmod (b + 8) 3) == 0) == ((Int.tmod (b + 8) 3) == 0))) (fun h12 => ?_) (fun h12 => ?_)
 have h12n := not_t h12
 simp at h12n
 have h12n := not_f h12
 have h12np := eqT h12n
 refine kK ?_
 refine kQ ?_
 refine kRD 3 [0,1,5] [(1,.v (.int .i64 (IntKind.i64.wrap (b + 8 + 1))))] ?_
 refine xl_nv [0,1,5] [(1,.v (.int .i64 (IntKind.i64.wrap (b + 8 + 1))))] [(1,.v (.int .i64 (b + 9)))] (by rw [show (IntKind.i64.wrap (b + 8 + 1)) = (b + 9) from wrap_to (by omega) (by omega) (by omega)]) (by kernel_rfl) ?_
 refine kED [0,1,5] [] ?_
 refine kS ?_
 refine kQ ?_
 refine xl_indexD (kd := .i64) (T := 30) (e := 68) (K := 25) 2 [0,1,5,106,107] [(106,.v (.slice Aa a.length Ca)),(107,.v (.int .i64 (i : Int)))] i [.int .i64 b,.int .i64 (b + 1),.int .i64 (b + 2),.int .i64 (b + 3),.int .i64 (b + 4),.string (markText (b + 5)),.int .i64 (b + 6),.bool ((Int.tmod (b + 7) 3) == 0),.bool ((Int.tmod (b + 8) 3) == 0),.bool ((Int.tmod (b + 9) 3) == 0),.int .i64 (b + 10),.string (markText (b + 11)),y.2,.int .i64 q,.bool ((Int.tmod (q + 1) 3) == 0),.int .i64 (q + 2),.int .i64 (q + 3),.int .i64 (q + 4),.int .i64 (q + 5),.bool ((Int.tmod (q + 6) 3) == 0),.bool ((Int.tmod (q + 7) 3) == 0),.int .i64 (q + 8),.int .i64 (q + 9),.int .i64 (q + 10),.int .i64 (q + 11)] (slF (.slice Aa a.length Ca) 25 (a.map conR)) (by kernel_rfl) rfl (by kernel_rfl) rfl rfl (by kernel_rfl) (by kernel_rfl) (by kernel_rfl) (by kernel_rfl) hlt (by simp) (fun w h => h) (fun b h => h) (by simp only [List.getElem?_map,hx]; rfl) ?_
 refine kOS 4 [0,1,5,111,112] [(0,.v (.slice Aa a.length Ca)),(1,.v (.int .i64 (b + 9))),(5,.v (.int .i64 (i : Int))),(111,.v (.bool ((Int.tmod (b + 9) 3) == 0))),(112,.v (.int .i64 (b + 9)))] (.int .i64 (Int.tmod (b + 9) 3)) rfl (fun _ _ _ ww hr => act_bin hr.1 rfl (by kernel_rfl) (by kernel_rfl) (rem_run (by first | decide | omega) ww)) ?_
 refine kED [0,1,5,115] [(115,.v (.bool (!(((Int.tmod (b + 9) 3) == 0) == ((Int.tmod (b + 9) 3) == 0)))))] ?_
 refine kC (!(((Int.tmod (b + 9) 3) == 0) == ((Int.tmod (b + 9) 3) == 0))) (fun h13 => ?_) (fun h13 => ?_)
 have h13n := not_t h13
 simp at h13n
 have h13n := not_f h13
 have h13np := eqT h13n
 refine kK ?_
 refine kQ ?_
 refine kRD 3 [0,1,5] [(1,.v (.int .i64 (IntKind.i64.wrap (b + 9 + 1))))] ?_
 refine xl_nv [0,1,5] [(1,.v (.int .i64 (IntKind.i64.wrap (b + 9 + 1))))] [(1,.v (.int .i64 (b + 10)))] (by rw [show (IntKind.i64.wrap (b + 9 + 1)) = (b + 10) from wrap_to (by omega) (by omega) (by omega)]) (by kernel_rfl) ?_
 refine kED [0,1,5] [] ?_
 refine kS ?_
 refine kQ ?_
 refine xl_indexD (kd := .i64) (T := 30) (e := 68) (K := 25) 2 [0,1,5,118,119] [(118,.v (.slice Aa a.length Ca)),(119,.v (.int .i64 (i : Int)))] i [.int .i64 b,.int .i64 (b + 1),.int .i64 (b + 2),.int .i64 (b + 3),.int .i64 (b + 4),.string (markText (b + 5)),.int .i64 (b + 6),.bool ((Int.tmod (b + 7) 3) == 0),.bool ((Int.tmod (b + 8) 3) == 0),.bool ((Int.tmod (b + 9) 3) == 0),.int .i64 (b + 10),.string (markText (b + 11)),y.2,.int .i64 q,.bool ((Int.tmod (q + 1) 3) == 0),.int .i64 (q + 2),.int .i64 (q + 3),.int .i64 (q + 4),.int .i64 (q + 5),.bool ((Int.tmod (q + 6) 3) == 0),.bool ((Int.tmod (q + 7) 3) == 0),.int .i64 (q + 8),.int .i64 (q + 9),.int .i64 (q + 10),.int .i64 (q + 11)] (slF (.slice Aa a.length Ca) 25 (a.map conR)) (by kernel_rfl) rfl (by kernel_rfl) rfl rfl (by kernel_rfl) (by kernel_rfl) (by kernel_rfl) (by kernel_rfl) hlt (by simp) (fun w h => h) (fun b h => h) (by simp only [List.getElem?_map,hx]; rfl) ?_
 refine kED [0,1,5,125] [(125,.v (.bool ((b + 10) != (b + 10))))] ?_
 refine kC ((b + 10) != (b + 10)) (fun h14 => ?_) (fun h14 => ?_)
 simp at h14
 have h14p := neF h14
 refine kK ?_
 refine kQ ?_
 refine kRD 3 [0,1,5] [(1,.v (.int .i64 (IntKind.i64.wrap (b + 10 + 1))))] ?_
 refine xl_nv [0,1,5] [(1,.v (.int .i64 (IntKind.i64.wrap (b + 10 + 1))))] [(1,.v (.int .i64 (b + 11)))] (by rw [show (IntKind.i64.wrap (b + 10 + 1)) = (b + 11) from wrap_to (by omega) (by omega) (by omega)]) (by kernel_rfl) ?_
 refine kED [0,1,5] [] ?_
 refine kS ?_
 refine kS ?_
 refine xws_start ?_
 refine xws_row (K := 25) (j := i) [.int .i64 b,.int .i64 (b + 1),.int .i64 (b + 2),.int .i64 (b + 3),.int .i64 (b + 4),.string (markText (b + 5)),.int .i64 (b + 6),.bool ((Int.tmod (b + 7) 3) == 0),.bool ((Int.tmod (b + 8) 3) == 0),.bool ((Int.tmod (b + 9) 3) == 0),.int .i64 (b + 10),.string (markText (b + 11)),y.2,.int .i64 q,.bool ((Int.tmod (q + 1) 3) == 0),.int .i64 (q + 2),.int .i64 (q + 3),.int .i64 (q + 4),.int .i64 (q + 5),.bool ((Int.tmod (q + 6) 3) == 0),.bool ((Int.tmod (q + 7) 3) == 0),.int .i64 (q + 8),.int .i64 (q + 9),.int .i64 (q + 10),.int .i64 (q + 11)] (slF (.slice Aa a.length Ca) 25 (a.map conR)) (fun _ _ h => h) (by simp) (fun w h => h) (fun b h => h) (by simp only [List.getElem?_map,hx]; rfl) (fun bq15 offq15 hAq15 => ?_)
 refine xws_regionE [] (by kernel_rfl) (fun ρ σ hq16 => ?_)
 refine kTS [0,1,6] [134,129,128,0,1,5] 6 [(134,.v (.int .i64 (b + 11))),(129,.v (.int .i64 (i : Int))),(128,.v (.slice Aa a.length Ca)),(0,.v (.slice Aa a.length Ca)),(1,.v (.int .i64 (b + 11))),(5,.v (.int .i64 (i : Int)))] ?_
 refine xe_takeI (kd := .i64) (T := 30) (e := 68) (K := 25) (j := i) (A := Aa) (len := a.length) (cap := Ca) 2 11 _ rfl (by kernel_rfl) (by kernel_rfl) (by kernel_rfl) (fun _ _ h => h) (by kernel_rfl) rfl rfl (by kernel_rfl) (by kernel_rfl) (by kernel_rfl) (by kernel_rfl) hlt hAq15 hq16.2 (by kernel_rfl) rfl ?_
 refine kTS [3,4,5] [133,134,0,1,5] 2 [(133,.v (.string (markText (b + 11)))),(134,.v (.int .i64 (b + 11))),(0,.v (.slice Aa a.length Ca)),(1,.v (.int .i64 (b + 11))),(5,.v (.int .i64 (i : Int)))] ?_
 refine kA [7] ?_
 refine kSC 7 90 [.int .i64 (b + 11)] (some 135) rfl (xc_b fun ww hf => ymarkText_c (b + 11) ww  (by omega)) ?_
 intro _
 refine kTS [8] [136,0,1,5] 0 [(136,.v (.bool (!((markText (b + 11)).toList == (markText (b + 11)).toList)))),(0,.v (.slice Aa a.length Ca)),(1,.v (.int .i64 (b + 11))),(5,.v (.int .i64 (i : Int)))] ?_
 refine kZ ?_
 refine kC (!((markText (b + 11)).toList == (markText (b + 11)).toList)) (fun h17 => ?_) (fun h17 => ?_)
 have h17n := not_t h17
 simp at h17n
 have h17n := not_f h17
 have h17np := h17n; simp only [beq_iff_eq,bne_iff_ne,beq_eq_false_iff_ne,bne_eq_false_iff_eq,ne_eq,toList_lit0] at h17np
 refine kK ?_
 refine kQ ?_
 refine kRD 3 [0,1,5] [(1,.v (.int .i64 (IntKind.i64.wrap (b + 11 + 1))))] ?_
 refine xl_nv [0,1,5] [(1,.v (.int .i64 (IntKind.i64.wrap (b + 11 + 1))))] [(1,.v (.int .i64 (b + 12)))] (by rw [show (IntKind.i64.wrap (b + 11 + 1)) = (b + 12) from wrap_to (by omega) (by omega) (by omega)]) (by kernel_rfl) ?_
 refine kED [0,1,5] [] ?_
 refine kQ ?_
 refine xl_indexD (kd := .i64) (T := 30) (e := 68) (K := 25) 2 [0,1,5,139,140] [(139,.v (.slice Aa a.length Ca)),(140,.v (.int .i64 (i : Int)))] i [.int .i64 b,.int .i64 (b + 1),.int .i64 (b + 2),.int .i64 (b + 3),.int .i64 (b + 4),.string (markText (b + 5)),.int .i64 (b + 6),.bool ((Int.tmod (b + 7) 3) == 0),.bool ((Int.tmod (b + 8) 3) == 0),.bool ((Int.tmod (b + 9) 3) == 0),.int .i64 (b + 10),.string (markText (b + 11)),y.2,.int .i64 q,.bool ((Int.tmod (q + 1) 3) == 0),.int .i64 (q + 2),.int .i64 (q + 3),.int .i64 (q + 4),.int .i64 (q + 5),.bool ((Int.tmod (q + 6) 3) == 0),.bool ((Int.tmod (q + 7) 3) == 0),.int .i64 (q + 8),.int .i64 (q + 9),.int .i64 (q + 10),.int .i64 (q + 11)] (slF (.slice Aa a.length Ca) 25 (a.map conR)) (by kernel_rfl) rfl (by kernel_rfl) rfl rfl (by kernel_rfl) (by kernel_rfl) (by kernel_rfl) (by kernel_rfl) hlt (by simp) (fun w h => h) (fun b h => h) (by simp only [List.getElem?_map,hx]; rfl) ?_
 refine kCD 4 [0,1,5,144,145] [(144,.v y.2),(145,.v (.int .i64 (b + 12)))] 92 [y.2,.int .i64 (b + 12)] (some 146) rfl (xc_b fun ww hf => yheldPieceS_m y.1.r.held.length  y.2 (b + 12) ww ((hf _ m1) (mkCon b q y.1.r.held.length,y.2) (List.mem_of_getElem? hx)) (by omega) (by omega) (by omega)) ?_
 intro _
 refine kED [0,1,5] [(1,.v (.int .i64 ((b + 12) + 2 * (y.1.r.held.length : Int))))] ?_
 refine kS ?_
 refine kS ?_
 rw [show (b + 12) + 2 * (y.1.r.held.length : Int) = q from by omega]
 refine kG ?_
 refine kEF [0,1,5,148] ⟨[(0,.v (.slice Aa a.length Ca)),(1,.v (.int .i64 q)),(5,.v (.int .i64 (i : Int))),(148,.v (.bool (decide (q < 0))))],[],[[.int .i64 b,.int .i64 (b + 1),.int .i64 (b + 2),.int .i64 (b + 3),.int .i64 (b + 4),.string (markText (b + 5)),.int .i64 (b + 6),.bool ((Int.tmod (b + 7) 3) == 0),.bool ((Int.tmod (b + 8) 3) == 0),.bool ((Int.tmod (b + 9) 3) == 0),.int .i64 (b + 10),.string (markText (b + 11)),y.2,.int .i64 q,.bool ((Int.tmod (q + 1) 3) == 0),.int .i64 (q + 2),.int .i64 (q + 3),.int .i64 (q + 4),.int .i64 (q + 5),.bool ((Int.tmod (q + 6) 3) == 0),.bool ((Int.tmod (q + 7) 3) == 0),.int .i64 (q + 8),.int .i64 (q + 9),.int .i64 (q + 10),.int .i64 (q + 11)],[.int .i64 b,.int .i64 (b + 1),.int .i64 (b + 2),.int .i64 (b + 3),.int .i64 (b + 4),.string (markText (b + 5)),.int .i64 (b + 6),.bool ((Int.tmod (b + 7) 3) == 0),.bool ((Int.tmod (b + 8) 3) == 0),.bool ((Int.tmod (b + 9) 3) == 0),.int .i64 (b + 10),.string (markText (b + 11)),y.2,.int .i64 q,.bool ((Int.tmod (q + 1) 3) == 0),.int .i64 (q + 2),.int .i64 (q + 3),.int .i64 (q + 4),.int .i64 (q + 5),.bool ((Int.tmod (q + 6) 3) == 0),.bool ((Int.tmod (q + 7) 3) == 0),.int .i64 (q + 8),.int .i64 (q + 9),.int .i64 (q + 10),.int .i64 (q + 11)],[.int .i64 b,.int .i64 (b + 1),.int .i64 (b + 2),.int .i64 (b + 3),.int .i64 (b + 4),.string (markText (b + 5)),.int .i64 (b + 6),.bool ((Int.tmod (b + 7) 3) == 0),.bool ((Int.tmod (b + 8) 3) == 0),.bool ((Int.tmod (b + 9) 3) == 0),.int .i64 (b + 10),.string (markText (b + 11)),y.2,.int .i64 q,.bool ((Int.tmod (q + 1) 3) == 0),.int .i64 (q + 2),.int .i64 (q + 3),.int .i64 (q + 4),.int .i64 (q + 5),.bool ((Int.tmod (q + 6) 3) == 0),.bool ((Int.tmod (q + 7) 3) == 0),.int .i64 (q + 8),.int .i64 (q + 9),.int .i64 (q + 10),.int .i64 (q + 11)],[.int .i64 b,.int .i64 (b + 1),.int .i64 (b + 2),.int .i64 (b + 3),.int .i64 (b + 4),.string (markText (b + 5)),.int .i64 (b + 6),.bool ((Int.tmod (b + 7) 3) == 0),.bool ((Int.tmod (b + 8) 3) == 0),.bool ((Int.tmod (b + 9) 3) == 0),.int .i64 (b + 10),.string (markText (b + 11)),y.2,.int .i64 q,.bool ((Int.tmod (q + 1) 3) == 0),.int .i64 (q + 2),.int .i64 (q + 3),.int .i64 (q + 4),.int .i64 (q + 5),.bool ((Int.tmod (q + 6) 3) == 0),.bool ((Int.tmod (q + 7) 3) == 0),.int .i64 (q + 8),.int .i64 (q + 9),.int .i64 (q + 10),.int .i64 (q + 11)],[.int .i64 b,.int .i64 (b + 1),.int .i64 (b + 2),.int .i64 (b + 3),.int .i64 (b + 4),.string (markText (b + 5)),.int .i64 (b + 6),.bool ((Int.tmod (b + 7) 3) == 0),.bool ((Int.tmod (b + 8) 3) == 0),.bool ((Int.tmod (b + 9) 3) == 0),.int .i64 (b + 10),.string (markText (b + 11)),y.2,.int .i64 q,.bool ((Int.tmod (q + 1) 3) == 0),.int .i64 (q + 2),.int .i64 (q + 3),.int .i64 (q + 4),.int .i64 (q + 5),.bool ((Int.tmod (q + 6) 3) == 0),.bool ((Int.tmod (q + 7) 3) == 0),.int .i64 (q + 8),.int .i64 (q + 9),.int .i64 (q + 10),.int .i64 (q + 11)],[.int .i64 b,.int .i64 (b + 1),.int .i64 (b + 2),.int .i64 (b + 3),.int .i64 (b + 4),.string (markText (b + 5)),.int .i64 (b + 6),.bool ((Int.tmod (b + 7) 3) == 0),.bool ((Int.tmod (b + 8) 3) == 0),.bool ((Int.tmod (b + 9) 3) == 0),.int .i64 (b + 10),.string (markText (b + 11)),y.2,.int .i64 q,.bool ((Int.tmod (q + 1) 3) == 0),.int .i64 (q + 2),.int .i64 (q + 3),.int .i64 (q + 4),.int .i64 (q + 5),.bool ((Int.tmod (q + 6) 3) == 0),.bool ((Int.tmod (q + 7) 3) == 0),.int .i64 (q + 8),.int .i64 (q + 9),.int .i64 (q + 10),.int .i64 (q + 11)],[.int .i64 b,.int .i64 (b + 1),.int .i64 (b + 2),.int .i64 (b + 3),.int .i64 (b + 4),.string (markText (b + 5)),.int .i64 (b + 6),.bool ((Int.tmod (b + 7) 3) == 0),.bool ((Int.tmod (b + 8) 3) == 0),.bool ((Int.tmod (b + 9) 3) == 0),.int .i64 (b + 10),.string (markText (b + 11)),y.2,.int .i64 q,.bool ((Int.tmod (q + 1) 3) == 0),.int .i64 (q + 2),.int .i64 (q + 3),.int .i64 (q + 4),.int .i64 (q + 5),.bool ((Int.tmod (q + 6) 3) == 0),.bool ((Int.tmod (q + 7) 3) == 0),.int .i64 (q + 8),.int .i64 (q + 9),.int .i64 (q + 10),.int .i64 (q + 11)],[.int .i64 b,.int .i64 (b + 1),.int .i64 (b + 2),.int .i64 (b + 3),.int .i64 (b + 4),.string (markText (b + 5)),.int .i64 (b + 6),.bool ((Int.tmod (b + 7) 3) == 0),.bool ((Int.tmod (b + 8) 3) == 0),.bool ((Int.tmod (b + 9) 3) == 0),.int .i64 (b + 10),.string (markText (b + 11)),y.2,.int .i64 q,.bool ((Int.tmod (q + 1) 3) == 0),.int .i64 (q + 2),.int .i64 (q + 3),.int .i64 (q + 4),.int .i64 (q + 5),.bool ((Int.tmod (q + 6) 3) == 0),.bool ((Int.tmod (q + 7) 3) == 0),.int .i64 (q + 8),.int .i64 (q + 9),.int .i64 (q + 10),.int .i64 (q + 11)],[.int .i64 b,.int .i64 (b + 1),.int .i64 (b + 2),.int .i64 (b + 3),.int .i64 (b + 4),.string (markText (b + 5)),.int .i64 (b + 6),.bool ((Int.tmod (b + 7) 3) == 0),.bool ((Int.tmod (b + 8) 3) == 0),.bool ((Int.tmod (b + 9) 3) == 0),.int .i64 (b + 10),.string (markText (b + 11)),y.2,.int .i64 q,.bool ((Int.tmod (q + 1) 3) == 0),.int .i64 (q + 2),.int .i64 (q + 3),.int .i64 (q + 4),.int .i64 (q + 5),.bool ((Int.tmod (q + 6) 3) == 0),.bool ((Int.tmod (q + 7) 3) == 0),.int .i64 (q + 8),.int .i64 (q + 9),.int .i64 (q + 10),.int .i64 (q + 11)],[.int .i64 b,.int .i64 (b + 1),.int .i64 (b + 2),.int .i64 (b + 3),.int .i64 (b + 4),.string (markText (b + 5)),.int .i64 (b + 6),.bool ((Int.tmod (b + 7) 3) == 0),.bool ((Int.tmod (b + 8) 3) == 0),.bool ((Int.tmod (b + 9) 3) == 0),.int .i64 (b + 10),.string (markText (b + 11)),y.2,.int .i64 q,.bool ((Int.tmod (q + 1) 3) == 0),.int .i64 (q + 2),.int .i64 (q + 3),.int .i64 (q + 4),.int .i64 (q + 5),.bool ((Int.tmod (q + 6) 3) == 0),.bool ((Int.tmod (q + 7) 3) == 0),.int .i64 (q + 8),.int .i64 (q + 9),.int .i64 (q + 10),.int .i64 (q + 11)],[.int .i64 b,.int .i64 (b + 1),.int .i64 (b + 2),.int .i64 (b + 3),.int .i64 (b + 4),.string (markText (b + 5)),.int .i64 (b + 6),.bool ((Int.tmod (b + 7) 3) == 0),.bool ((Int.tmod (b + 8) 3) == 0),.bool ((Int.tmod (b + 9) 3) == 0),.int .i64 (b + 10),.string (markText (b + 11)),y.2,.int .i64 q,.bool ((Int.tmod (q + 1) 3) == 0),.int .i64 (q + 2),.int .i64 (q + 3),.int .i64 (q + 4),.int .i64 (q + 5),.bool ((Int.tmod (q + 6) 3) == 0),.bool ((Int.tmod (q + 7) 3) == 0),.int .i64 (q + 8),.int .i64 (q + 9),.int .i64 (q + 10),.int .i64 (q + 11)],[.int .i64 b,.int .i64 (b + 1),.int .i64 (b + 2),.int .i64 (b + 3),.int .i64 (b + 4),.string (markText (b + 5)),.int .i64 (b + 6),.bool ((Int.tmod (b + 7) 3) == 0),.bool ((Int.tmod (b + 8) 3) == 0),.bool ((Int.tmod (b + 9) 3) == 0),.int .i64 (b + 10),.string (markText (b + 11)),y.2,.int .i64 q,.bool ((Int.tmod (q + 1) 3) == 0),.int .i64 (q + 2),.int .i64 (q + 3),.int .i64 (q + 4),.int .i64 (q + 5),.bool ((Int.tmod (q + 6) 3) == 0),.bool ((Int.tmod (q + 7) 3) == 0),.int .i64 (q + 8),.int .i64 (q + 9),.int .i64 (q + 10),.int .i64 (q + 11)],[.int .i64 b,.int .i64 (b + 1),.int .i64 (b + 2),.int .i64 (b + 3),.int .i64 (b + 4),.string (markText (b + 5)),.int .i64 (b + 6),.bool ((Int.tmod (b + 7) 3) == 0),.bool ((Int.tmod (b + 8) 3) == 0),.bool ((Int.tmod (b + 9) 3) == 0),.int .i64 (b + 10),.string (markText (b + 11)),y.2,.int .i64 q,.bool ((Int.tmod (q + 1) 3) == 0),.int .i64 (q + 2),.int .i64 (q + 3),.int .i64 (q + 4),.int .i64 (q + 5),.bool ((Int.tmod (q + 6) 3) == 0),.bool ((Int.tmod (q + 7) 3) == 0),.int .i64 (q + 8),.int .i64 (q + 9),.int .i64 (q + 10),.int .i64 (q + 11)]],[slF (.slice Aa a.length Ca) 25 (a.map conR),hldF a]⟩ ?_
 refine kC (decide (q < 0)) (fun h18 => ?_) (fun h18 => ?_)
 have h18p := of_decide_eq_true h18
 exfalso; have := of_decide_eq_true h18; omega
 have h18p := of_decide_eq_false h18
 refine kK ?_
 refine kS ?_
 refine kQ ?_
 refine xl_indexD (kd := .i64) (T := 30) (e := 68) (K := 25) 2 [0,1,5,149,150] [(149,.v (.slice Aa a.length Ca)),(150,.v (.int .i64 (i : Int)))] i [.int .i64 b,.int .i64 (b + 1),.int .i64 (b + 2),.int .i64 (b + 3),.int .i64 (b + 4),.string (markText (b + 5)),.int .i64 (b + 6),.bool ((Int.tmod (b + 7) 3) == 0),.bool ((Int.tmod (b + 8) 3) == 0),.bool ((Int.tmod (b + 9) 3) == 0),.int .i64 (b + 10),.string (markText (b + 11)),y.2,.int .i64 q,.bool ((Int.tmod (q + 1) 3) == 0),.int .i64 (q + 2),.int .i64 (q + 3),.int .i64 (q + 4),.int .i64 (q + 5),.bool ((Int.tmod (q + 6) 3) == 0),.bool ((Int.tmod (q + 7) 3) == 0),.int .i64 (q + 8),.int .i64 (q + 9),.int .i64 (q + 10),.int .i64 (q + 11)] (slF (.slice Aa a.length Ca) 25 (a.map conR)) (by kernel_rfl) rfl (by kernel_rfl) rfl rfl (by kernel_rfl) (by kernel_rfl) (by kernel_rfl) (by kernel_rfl) hlt (by simp) (fun w h => h) (fun b h => h) (by simp only [List.getElem?_map,hx]; rfl) ?_
 refine kED [0,1,5,156] [(156,.v (.bool (q != q)))] ?_
 refine kC (q != q) (fun h19 => ?_) (fun h19 => ?_)
 simp at h19
 have h19p := neF h19
 refine kK ?_
 refine kQ ?_
 refine kRD 3 [0,1,5] [(1,.v (.int .i64 (IntKind.i64.wrap (q + 1))))] ?_
 refine xl_nv [0,1,5] [(1,.v (.int .i64 (IntKind.i64.wrap (q + 1))))] [(1,.v (.int .i64 (q + 1)))] (by rw [show (IntKind.i64.wrap (q + 1)) = (q + 1) from wrap_id (by omega) (by omega)]) (by kernel_rfl) ?_
 refine kED [0,1,5] [] ?_
 refine kS ?_
 refine kQ ?_
 refine xl_indexD (kd := .i64) (T := 30) (e := 68) (K := 25) 2 [0,1,5,159,160] [(159,.v (.slice Aa a.length Ca)),(160,.v (.int .i64 (i : Int)))] i [.int .i64 b,.int .i64 (b + 1),.int .i64 (b + 2),.int .i64 (b + 3),.int .i64 (b + 4),.string (markText (b + 5)),.int .i64 (b + 6),.bool ((Int.tmod (b + 7) 3) == 0),.bool ((Int.tmod (b + 8) 3) == 0),.bool ((Int.tmod (b + 9) 3) == 0),.int .i64 (b + 10),.string (markText (b + 11)),y.2,.int .i64 q,.bool ((Int.tmod (q + 1) 3) == 0),.int .i64 (q + 2),.int .i64 (q + 3),.int .i64 (q + 4),.int .i64 (q + 5),.bool ((Int.tmod (q + 6) 3) == 0),.bool ((Int.tmod (q + 7) 3) == 0),.int .i64 (q + 8),.int .i64 (q + 9),.int .i64 (q + 10),.int .i64 (q + 11)] (slF (.slice Aa a.length Ca) 25 (a.map conR)) (by kernel_rfl) rfl (by kernel_rfl) rfl rfl (by kernel_rfl) (by kernel_rfl) (by kernel_rfl) (by kernel_rfl) hlt (by simp) (fun w h => h) (fun b h => h) (by simp only [List.getElem?_map,hx]; rfl) ?_
 refine kOD 4 [0,1,5,164,165] [(164,.v (.bool ((Int.tmod (q + 1) 3) == 0))),(165,.v (.int .i64 (q + 1)))] (.int .i64 (Int.tmod (q + 1) 3)) rfl (fun _ _ _ ww hr => act_bin hr.1 rfl (by kernel_rfl) (by kernel_rfl) (rem_run (by first | decide | omega) ww)) ?_
 refine kED [0,1,5,168] [(168,.v (.bool (!(((Int.tmod (q + 1) 3) == 0) == ((Int.tmod (q + 1) 3) == 0)))))] ?_
 refine kC (!(((Int.tmod (q + 1) 3) == 0) == ((Int.tmod (q + 1) 3) == 0))) (fun h20 => ?_) (fun h20 => ?_)
 have h20n := not_t h20
 simp at h20n
 have h20n := not_f h20
 have h20np := eqT h20n
 refine kK ?_
 refine kQ ?_
 refine kRD 3 [0,1,5] [(1,.v (.int .i64 (IntKind.i64.wrap (q + 1 + 1))))] ?_
 refine xl_nv [0,1,5] [(1,.v (.int .i64 (IntKind.i64.wrap (q + 1 + 1))))] [(1,.v (.int .i64 (q + 2)))] (by rw [show (IntKind.i64.wrap (q + 1 + 1)) = (q + 2) from wrap_to (by omega) (by omega) (by omega)]) (by kernel_rfl) ?_
 refine kES [0,1,5] [(0,.v (.slice Aa a.length Ca)),(1,.v (.int .i64 (q + 2))),(5,.v (.int .i64 (i : Int)))] ?_
 refine kS ?_
 refine kQ ?_
 refine xl_indexD (kd := .i64) (T := 30) (e := 68) (K := 25) 2 [0,1,5,171,172] [(171,.v (.slice Aa a.length Ca)),(172,.v (.int .i64 (i : Int)))] i [.int .i64 b,.int .i64 (b + 1),.int .i64 (b + 2),.int .i64 (b + 3),.int .i64 (b + 4),.string (markText (b + 5)),.int .i64 (b + 6),.bool ((Int.tmod (b + 7) 3) == 0),.bool ((Int.tmod (b + 8) 3) == 0),.bool ((Int.tmod (b + 9) 3) == 0),.int .i64 (b + 10),.string (markText (b + 11)),y.2,.int .i64 q,.bool ((Int.tmod (q + 1) 3) == 0),.int .i64 (q + 2),.int .i64 (q + 3),.int .i64 (q + 4),.int .i64 (q + 5),.bool ((Int.tmod (q + 6) 3) == 0),.bool ((Int.tmod (q + 7) 3) == 0),.int .i64 (q + 8),.int .i64 (q + 9),.int .i64 (q + 10),.int .i64 (q + 11)] (slF (.slice Aa a.length Ca) 25 (a.map conR)) (by kernel_rfl) rfl (by kernel_rfl) rfl rfl (by kernel_rfl) (by kernel_rfl) (by kernel_rfl) (by kernel_rfl) hlt (by simp) (fun w h => h) (fun b h => h) (by simp only [List.getElem?_map,hx]; rfl) ?_
 refine kED [0,1,5,177] [(177,.v (.bool ((q + 2) != (q + 2))))] ?_
 refine kC ((q + 2) != (q + 2)) (fun h21 => ?_) (fun h21 => ?_)
 simp at h21
 have h21p := neF h21
 refine kK ?_
 refine kQ ?_
 refine kRD 3 [0,1,5] [(1,.v (.int .i64 (IntKind.i64.wrap (q + 2 + 1))))] ?_
 refine xl_nv [0,1,5] [(1,.v (.int .i64 (IntKind.i64.wrap (q + 2 + 1))))] [(1,.v (.int .i64 (q + 3)))] (by rw [show (IntKind.i64.wrap (q + 2 + 1)) = (q + 3) from wrap_to (by omega) (by omega) (by omega)]) (by kernel_rfl) ?_
 refine kED [0,1,5] [] ?_
 refine kS ?_
 refine kQ ?_
 refine xl_indexD (kd := .i64) (T := 30) (e := 68) (K := 25) 2 [0,1,5,180,181] [(180,.v (.slice Aa a.length Ca)),(181,.v (.int .i64 (i : Int)))] i [.int .i64 b,.int .i64 (b + 1),.int .i64 (b + 2),.int .i64 (b + 3),.int .i64 (b + 4),.string (markText (b + 5)),.int .i64 (b + 6),.bool ((Int.tmod (b + 7) 3) == 0),.bool ((Int.tmod (b + 8) 3) == 0),.bool ((Int.tmod (b + 9) 3) == 0),.int .i64 (b + 10),.string (markText (b + 11)),y.2,.int .i64 q,.bool ((Int.tmod (q + 1) 3) == 0),.int .i64 (q + 2),.int .i64 (q + 3),.int .i64 (q + 4),.int .i64 (q + 5),.bool ((Int.tmod (q + 6) 3) == 0),.bool ((Int.tmod (q + 7) 3) == 0),.int .i64 (q + 8),.int .i64 (q + 9),.int .i64 (q + 10),.int .i64 (q + 11)] (slF (.slice Aa a.length Ca) 25 (a.map conR)) (by kernel_rfl) rfl (by kernel_rfl) rfl rfl (by kernel_rfl) (by kernel_rfl) (by kernel_rfl) (by kernel_rfl) hlt (by simp) (fun w h => h) (fun b h => h) (by simp only [List.getElem?_map,hx]; rfl) ?_
 refine kED [0,1,5,186] [(186,.v (.bool ((q + 3) != (q + 3))))] ?_
 refine kC ((q + 3) != (q + 3)) (fun h22 => ?_) (fun h22 => ?_)
 simp at h22
 have h22p := neF h22
 refine kK ?_
 refine kQ ?_
 refine kRD 3 [0,1,5] [(1,.v (.int .i64 (IntKind.i64.wrap (q + 3 + 1))))] ?_
 refine xl_nv [0,1,5] [(1,.v (.int .i64 (IntKind.i64.wrap (q + 3 + 1))))] [(1,.v (.int .i64 (q + 4)))] (by rw [show (IntKind.i64.wrap (q + 3 + 1)) = (q + 4) from wrap_to (by omega) (by omega) (by omega)]) (by kernel_rfl) ?_
 refine kED [0,1,5] [] ?_
 refine kS ?_
 refine kQ ?_
 refine xl_indexS (kd := .i64) (T := 30) (e := 68) (K := 25) 2 [0,1,5,189,190] [(0,.v (.slice Aa a.length Ca)),(1,.v (.int .i64 (q + 4))),(5,.v (.int .i64 (i : Int))),(189,.v (.slice Aa a.length Ca)),(190,.v (.int .i64 (i : Int)))] i [.int .i64 b,.int .i64 (b + 1),.int .i64 (b + 2),.int .i64 (b + 3),.int .i64 (b + 4),.string (markText (b + 5)),.int .i64 (b + 6),.bool ((Int.tmod (b + 7) 3) == 0),.bool ((Int.tmod (b + 8) 3) == 0),.bool ((Int.tmod (b + 9) 3) == 0),.int .i64 (b + 10),.string (markText (b + 11)),y.2,.int .i64 q,.bool ((Int.tmod (q + 1) 3) == 0),.int .i64 (q + 2),.int .i64 (q + 3),.int .i64 (q + 4),.int .i64 (q + 5),.bool ((Int.tmod (q + 6) 3) == 0),.bool ((Int.tmod (q + 7) 3) == 0),.int .i64 (q + 8),.int .i64 (q + 9),.int .i64 (q + 10),.int .i64 (q + 11)] (slF (.slice Aa a.length Ca) 25 (a.map conR)) (by kernel_rfl) rfl (by kernel_rfl) rfl rfl (by kernel_rfl) (by kernel_rfl) (by kernel_rfl) (by kernel_rfl) hlt (by simp) (fun w h => h) (fun b h => h) (by simp only [List.getElem?_map,hx]; rfl) ?_
 refine kED [0,1,5,196] [(196,.v (.bool ((q + 4) != (q + 4))))] ?_
 refine kC ((q + 4) != (q + 4)) (fun h23 => ?_) (fun h23 => ?_)
 simp at h23
 have h23p := neF h23
 refine kK ?_
 refine kQ ?_
 refine kRD 3 [0,1,5] [(1,.v (.int .i64 (IntKind.i64.wrap (q + 4 + 1))))] ?_
 refine xl_nv [0,1,5] [(1,.v (.int .i64 (IntKind.i64.wrap (q + 4 + 1))))] [(1,.v (.int .i64 (q + 5)))] (by rw [show (IntKind.i64.wrap (q + 4 + 1)) = (q + 5) from wrap_to (by omega) (by omega) (by omega)]) (by kernel_rfl) ?_
 refine kED [0,1,5] [] ?_
 refine kS ?_
 refine kQ ?_
 refine xl_indexD (kd := .i64) (T := 30) (e := 68) (K := 25) 2 [0,1,5,199,200] [(199,.v (.slice Aa a.length Ca)),(200,.v (.int .i64 (i : Int)))] i [.int .i64 b,.int .i64 (b + 1),.int .i64 (b + 2),.int .i64 (b + 3),.int .i64 (b + 4),.string (markText (b + 5)),.int .i64 (b + 6),.bool ((Int.tmod (b + 7) 3) == 0),.bool ((Int.tmod (b + 8) 3) == 0),.bool ((Int.tmod (b + 9) 3) == 0),.int .i64 (b + 10),.string (markText (b + 11)),y.2,.int .i64 q,.bool ((Int.tmod (q + 1) 3) == 0),.int .i64 (q + 2),.int .i64 (q + 3),.int .i64 (q + 4),.int .i64 (q + 5),.bool ((Int.tmod (q + 6) 3) == 0),.bool ((Int.tmod (q + 7) 3) == 0),.int .i64 (q + 8),.int .i64 (q + 9),.int .i64 (q + 10),.int .i64 (q + 11)] (slF (.slice Aa a.length Ca) 25 (a.map conR)) (by kernel_rfl) rfl (by kernel_rfl) rfl rfl (by kernel_rfl) (by kernel_rfl) (by kernel_rfl) (by kernel_rfl) hlt (by simp) (fun w h => h) (fun b h => h) (by simp only [List.getElem?_map,hx]; rfl) ?_
 refine kED [0,1,5,206] [(206,.v (.bool ((q + 5) != (q + 5))))] ?_
 refine kC ((q + 5) != (q + 5)) (fun h24 => ?_) (fun h24 => ?_)
 simp at h24
 have h24p := neF h24
 refine kK ?_
 refine kQ ?_
 refine kRD 3 [0,1,5] [(1,.v (.int .i64 (IntKind.i64.wrap (q + 5 + 1))))] ?_
 refine xl_nv [0,1,5] [(1,.v (.int .i64 (IntKind.i64.wrap (q + 5 + 1))))] [(1,.v (.int .i64 (q + 6)))] (by rw [show (IntKind.i64.wrap (q + 5 + 1)) = (q + 6) from wrap_to (by omega) (by omega) (by omega)]) (by kernel_rfl) ?_
 refine kED [0,1,5] [] ?_
 refine kS ?_
 refine kQ ?_
 refine xl_indexD (kd := .i64) (T := 30) (e := 68) (K := 25) 2 [0,1,5,209,210] [(209,.v (.slice Aa a.length Ca)),(210,.v (.int .i64 (i : Int)))] i [.int .i64 b,.int .i64 (b + 1),.int .i64 (b + 2),.int .i64 (b + 3),.int .i64 (b + 4),.string (markText (b + 5)),.int .i64 (b + 6),.bool ((Int.tmod (b + 7) 3) == 0),.bool ((Int.tmod (b + 8) 3) == 0),.bool ((Int.tmod (b + 9) 3) == 0),.int .i64 (b + 10),.string (markText (b + 11)),y.2,.int .i64 q,.bool ((Int.tmod (q + 1) 3) == 0),.int .i64 (q + 2),.int .i64 (q + 3),.int .i64 (q + 4),.int .i64 (q + 5),.bool ((Int.tmod (q + 6) 3) == 0),.bool ((Int.tmod (q + 7) 3) == 0),.int .i64 (q + 8),.int .i64 (q + 9),.int .i64 (q + 10),.int .i64 (q + 11)] (slF (.slice Aa a.length Ca) 25 (a.map conR)) (by kernel_rfl) rfl (by kernel_rfl) rfl rfl (by kernel_rfl) (by kernel_rfl) (by kernel_rfl) (by kernel_rfl) hlt (by simp) (fun w h => h) (fun b h => h) (by simp only [List.getElem?_map,hx]; rfl) ?_
 refine kOS 4 [0,1,5,214,215] [(0,.v (.slice Aa a.length Ca)),(1,.v (.int .i64 (q + 6))),(5,.v (.int .i64 (i : Int))),(214,.v (.bool ((Int.tmod (q + 6) 3) == 0))),(215,.v (.int .i64 (q + 6)))] (.int .i64 (Int.tmod (q + 6) 3)) rfl (fun _ _ _ ww hr => act_bin hr.1 rfl (by kernel_rfl) (by kernel_rfl) (rem_run (by first | decide | omega) ww)) ?_
 refine kED [0,1,5,218] [(218,.v (.bool (!(((Int.tmod (q + 6) 3) == 0) == ((Int.tmod (q + 6) 3) == 0)))))] ?_
 refine kC (!(((Int.tmod (q + 6) 3) == 0) == ((Int.tmod (q + 6) 3) == 0))) (fun h25 => ?_) (fun h25 => ?_)
 have h25n := not_t h25
 simp at h25n
 have h25n := not_f h25
 have h25np := eqT h25n
 refine kK ?_
 refine kQ ?_
 refine kRD 3 [0,1,5] [(1,.v (.int .i64 (IntKind.i64.wrap (q + 6 + 1))))] ?_
 refine xl_nv [0,1,5] [(1,.v (.int .i64 (IntKind.i64.wrap (q + 6 + 1))))] [(1,.v (.int .i64 (q + 7)))] (by rw [show (IntKind.i64.wrap (q + 6 + 1)) = (q + 7) from wrap_to (by omega) (by omega) (by omega)]) (by kernel_rfl) ?_
 refine kED [0,1,5] [] ?_
 refine kS ?_
 refine kQ ?_
 refine xl_indexD (kd := .i64) (T := 30) (e := 68) (K := 25) 2 [0,1,5,221,222] [(221,.v (.slice Aa a.length Ca)),(222,.v (.int .i64 (i : Int)))] i [.int .i64 b,.int .i64 (b + 1),.int .i64 (b + 2),.int .i64 (b + 3),.int .i64 (b + 4),.string (markText (b + 5)),.int .i64 (b + 6),.bool ((Int.tmod (b + 7) 3) == 0),.bool ((Int.tmod (b + 8) 3) == 0),.bool ((Int.tmod (b + 9) 3) == 0),.int .i64 (b + 10),.string (markText (b + 11)),y.2,.int .i64 q,.bool ((Int.tmod (q + 1) 3) == 0),.int .i64 (q + 2),.int .i64 (q + 3),.int .i64 (q + 4),.int .i64 (q + 5),.bool ((Int.tmod (q + 6) 3) == 0),.bool ((Int.tmod (q + 7) 3) == 0),.int .i64 (q + 8),.int .i64 (q + 9),.int .i64 (q + 10),.int .i64 (q + 11)] (slF (.slice Aa a.length Ca) 25 (a.map conR)) (by kernel_rfl) rfl (by kernel_rfl) rfl rfl (by kernel_rfl) (by kernel_rfl) (by kernel_rfl) (by kernel_rfl) hlt (by simp) (fun w h => h) (fun b h => h) (by simp only [List.getElem?_map,hx]; rfl) ?_
 refine kOD 4 [0,1,5,226,227] [(226,.v (.bool ((Int.tmod (q + 7) 3) == 0))),(227,.v (.int .i64 (q + 7)))] (.int .i64 (Int.tmod (q + 7) 3)) rfl (fun _ _ _ ww hr => act_bin hr.1 rfl (by kernel_rfl) (by kernel_rfl) (rem_run (by first | decide | omega) ww)) ?_
 refine kED [0,1,5,230] [(230,.v (.bool (!(((Int.tmod (q + 7) 3) == 0) == ((Int.tmod (q + 7) 3) == 0)))))] ?_
 refine kC (!(((Int.tmod (q + 7) 3) == 0) == ((Int.tmod (q + 7) 3) == 0))) (fun h26 => ?_) (fun h26 => ?_)
 have h26n := not_t h26
 simp at h26n
 have h26n := not_f h26
 have h26np := eqT h26n
 refine kK ?_
 refine kQ ?_
 refine kRD 3 [0,1,5] [(1,.v (.int .i64 (IntKind.i64.wrap (q + 7 + 1))))] ?_
 refine xl_nv [0,1,5] [(1,.v (.int .i64 (IntKind.i64.wrap (q + 7 + 1))))] [(1,.v (.int .i64 (q + 8)))] (by rw [show (IntKind.i64.wrap (q + 7 + 1)) = (q + 8) from wrap_to (by omega) (by omega) (by omega)]) (by kernel_rfl) ?_
 refine kED [0,1,5] [] ?_
 refine kS ?_
 refine kQ ?_
 refine xl_indexS (kd := .i64) (T := 30) (e := 68) (K := 25) 2 [0,1,5,233,234] [(0,.v (.slice Aa a.length Ca)),(1,.v (.int .i64 (q + 8))),(5,.v (.int .i64 (i : Int))),(233,.v (.slice Aa a.length Ca)),(234,.v (.int .i64 (i : Int)))] i [.int .i64 b,.int .i64 (b + 1),.int .i64 (b + 2),.int .i64 (b + 3),.int .i64 (b + 4),.string (markText (b + 5)),.int .i64 (b + 6),.bool ((Int.tmod (b + 7) 3) == 0),.bool ((Int.tmod (b + 8) 3) == 0),.bool ((Int.tmod (b + 9) 3) == 0),.int .i64 (b + 10),.string (markText (b + 11)),y.2,.int .i64 q,.bool ((Int.tmod (q + 1) 3) == 0),.int .i64 (q + 2),.int .i64 (q + 3),.int .i64 (q + 4),.int .i64 (q + 5),.bool ((Int.tmod (q + 6) 3) == 0),.bool ((Int.tmod (q + 7) 3) == 0),.int .i64 (q + 8),.int .i64 (q + 9),.int .i64 (q + 10),.int .i64 (q + 11)] (slF (.slice Aa a.length Ca) 25 (a.map conR)) (by kernel_rfl) rfl (by kernel_rfl) rfl rfl (by kernel_rfl) (by kernel_rfl) (by kernel_rfl) (by kernel_rfl) hlt (by simp) (fun w h => h) (fun b h => h) (by simp only [List.getElem?_map,hx]; rfl) ?_
 refine kED [0,1,5,240] [(240,.v (.bool ((q + 8) != (q + 8))))] ?_
 refine kC ((q + 8) != (q + 8)) (fun h27 => ?_) (fun h27 => ?_)
 simp at h27
 have h27p := neF h27
 refine kK ?_
 refine kQ ?_
 refine kRD 3 [0,1,5] [(1,.v (.int .i64 (IntKind.i64.wrap (q + 8 + 1))))] ?_
 refine xl_nv [0,1,5] [(1,.v (.int .i64 (IntKind.i64.wrap (q + 8 + 1))))] [(1,.v (.int .i64 (q + 9)))] (by rw [show (IntKind.i64.wrap (q + 8 + 1)) = (q + 9) from wrap_to (by omega) (by omega) (by omega)]) (by kernel_rfl) ?_
 refine kED [0,1,5] [] ?_
 refine kS ?_
 refine kQ ?_
 refine xl_indexD (kd := .i64) (T := 30) (e := 68) (K := 25) 2 [0,1,5,243,244] [(243,.v (.slice Aa a.length Ca)),(244,.v (.int .i64 (i : Int)))] i [.int .i64 b,.int .i64 (b + 1),.int .i64 (b + 2),.int .i64 (b + 3),.int .i64 (b + 4),.string (markText (b + 5)),.int .i64 (b + 6),.bool ((Int.tmod (b + 7) 3) == 0),.bool ((Int.tmod (b + 8) 3) == 0),.bool ((Int.tmod (b + 9) 3) == 0),.int .i64 (b + 10),.string (markText (b + 11)),y.2,.int .i64 q,.bool ((Int.tmod (q + 1) 3) == 0),.int .i64 (q + 2),.int .i64 (q + 3),.int .i64 (q + 4),.int .i64 (q + 5),.bool ((Int.tmod (q + 6) 3) == 0),.bool ((Int.tmod (q + 7) 3) == 0),.int .i64 (q + 8),.int .i64 (q + 9),.int .i64 (q + 10),.int .i64 (q + 11)] (slF (.slice Aa a.length Ca) 25 (a.map conR)) (by kernel_rfl) rfl (by kernel_rfl) rfl rfl (by kernel_rfl) (by kernel_rfl) (by kernel_rfl) (by kernel_rfl) hlt (by simp) (fun w h => h) (fun b h => h) (by simp only [List.getElem?_map,hx]; rfl) ?_
 refine kED [0,1,5,250] [(250,.v (.bool ((q + 9) != (q + 9))))] ?_
 refine kC ((q + 9) != (q + 9)) (fun h28 => ?_) (fun h28 => ?_)
 simp at h28
 have h28p := neF h28
 refine kK ?_
 refine kQ ?_
 refine kRD 3 [0,1,5] [(1,.v (.int .i64 (IntKind.i64.wrap (q + 9 + 1))))] ?_
 refine xl_nv [0,1,5] [(1,.v (.int .i64 (IntKind.i64.wrap (q + 9 + 1))))] [(1,.v (.int .i64 (q + 10)))] (by rw [show (IntKind.i64.wrap (q + 9 + 1)) = (q + 10) from wrap_to (by omega) (by omega) (by omega)]) (by kernel_rfl) ?_
 refine kED [0,1,5] [] ?_
 refine kS ?_
 refine kQ ?_
 refine xl_indexD (kd := .i64) (T := 30) (e := 68) (K := 25) 2 [0,1,5,253,254] [(253,.v (.slice Aa a.length Ca)),(254,.v (.int .i64 (i : Int)))] i [.int .i64 b,.int .i64 (b + 1),.int .i64 (b + 2),.int .i64 (b + 3),.int .i64 (b + 4),.string (markText (b + 5)),.int .i64 (b + 6),.bool ((Int.tmod (b + 7) 3) == 0),.bool ((Int.tmod (b + 8) 3) == 0),.bool ((Int.tmod (b + 9) 3) == 0),.int .i64 (b + 10),.string (markText (b + 11)),y.2,.int .i64 q,.bool ((Int.tmod (q + 1) 3) == 0),.int .i64 (q + 2),.int .i64 (q + 3),.int .i64 (q + 4),.int .i64 (q + 5),.bool ((Int.tmod (q + 6) 3) == 0),.bool ((Int.tmod (q + 7) 3) == 0),.int .i64 (q + 8),.int .i64 (q + 9),.int .i64 (q + 10),.int .i64 (q + 11)] (slF (.slice Aa a.length Ca) 25 (a.map conR)) (by kernel_rfl) rfl (by kernel_rfl) rfl rfl (by kernel_rfl) (by kernel_rfl) (by kernel_rfl) (by kernel_rfl) hlt (by simp) (fun w h => h) (fun b h => h) (by simp only [List.getElem?_map,hx]; rfl) ?_
 refine kES [0,1,5,259] [(0,.v (.slice Aa a.length Ca)),(1,.v (.int .i64 (q + 10))),(5,.v (.int .i64 (i : Int))),(259,.v (.bool ((q + 10) != (q + 10))))] ?_
 refine kC ((q + 10) != (q + 10)) (fun h29 => ?_) (fun h29 => ?_)
 simp at h29
 have h29p := neF h29
 refine kK ?_
 refine kQ ?_
 refine kRD 3 [0,1,5] [(1,.v (.int .i64 (IntKind.i64.wrap (q + 10 + 1))))] ?_
 refine xl_nv [0,1,5] [(1,.v (.int .i64 (IntKind.i64.wrap (q + 10 + 1))))] [(1,.v (.int .i64 (q + 11)))] (by rw [show (IntKind.i64.wrap (q + 10 + 1)) = (q + 11) from wrap_to (by omega) (by omega) (by omega)]) (by kernel_rfl) ?_
 refine kED [0,1,5] [] ?_
 refine kS ?_
 refine kQ ?_
 refine xl_indexD (kd := .i64) (T := 30) (e := 68) (K := 25) 2 [0,1,5,262,263] [(262,.v (.slice Aa a.length Ca)),(263,.v (.int .i64 (i : Int)))] i [.int .i64 b,.int .i64 (b + 1),.int .i64 (b + 2),.int .i64 (b + 3),.int .i64 (b + 4),.string (markText (b + 5)),.int .i64 (b + 6),.bool ((Int.tmod (b + 7) 3) == 0),.bool ((Int.tmod (b + 8) 3) == 0),.bool ((Int.tmod (b + 9) 3) == 0),.int .i64 (b + 10),.string (markText (b + 11)),y.2,.int .i64 q,.bool ((Int.tmod (q + 1) 3) == 0),.int .i64 (q + 2),.int .i64 (q + 3),.int .i64 (q + 4),.int .i64 (q + 5),.bool ((Int.tmod (q + 6) 3) == 0),.bool ((Int.tmod (q + 7) 3) == 0),.int .i64 (q + 8),.int .i64 (q + 9),.int .i64 (q + 10),.int .i64 (q + 11)] (slF (.slice Aa a.length Ca) 25 (a.map conR)) (by kernel_rfl) rfl (by kernel_rfl) rfl rfl (by kernel_rfl) (by kernel_rfl) (by kernel_rfl) (by kernel_rfl) hlt (by simp) (fun w h => h) (fun b h => h) (by simp only [List.getElem?_map,hx]; rfl) ?_
 refine kED [0,1,5,268] [(268,.v (.bool ((q + 11) != (q + 11))))] ?_
 refine kC ((q + 11) != (q + 11)) (fun h30 => ?_) (fun h30 => ?_)
 simp at h30
 have h30p := neF h30
 refine kK ?_
 refine kG ?_
 refine kRD 3 [0,1,5] [(1,.v (.int .i64 (IntKind.i64.wrap (q + 11 + 1))))] ?_
 refine xl_nv [0,1,5] [(1,.v (.int .i64 (IntKind.i64.wrap (q + 11 + 1))))] [(1,.v (.int .i64 (q + 12)))] (by rw [show (IntKind.i64.wrap (q + 11 + 1)) = (q + 12) from wrap_to (by omega) (by omega) (by omega)]) (by kernel_rfl) ?_
 refine kED [0,1,5] [] ?_
 refine kG ?_
 refine kRD 3 [0,1,5] [(5,.v (.int .i64 (IntKind.i64.wrap ((i : Int) + 1))))] ?_
 refine xl_nv [0,1,5] [(5,.v (.int .i64 (IntKind.i64.wrap ((i : Int) + 1))))] [(5,.v (.int .i64 ((i : Int) + 1)))] (by rw [show (IntKind.i64.wrap ((i : Int) + 1)) = ((i : Int) + 1) from wrap_id (by omega) (by omega)]) (by kernel_rfl) ?_
 refine kES [0,1,5] [(0,.v (.slice Aa a.length Ca)),(1,.v (.int .i64 (q + 12))),(5,.v (.int .i64 ((i : Int) + 1)))] ?_
 exact ⟨⟨(i + 1,q + 12),⟨hlt,(by rw [mcnt_next hy]; simp only; omega)⟩⟩,kF 0 0 [0,1,5],by show (fun (i : Nat) (b : Int) => a.length - i) (i + 1) (q + 12) < a.length - i; (dsimp only; omega)⟩
 have h1p := of_decide_eq_false h1
 have hge : i = a.length := by simp at h1; omega
 refine xw_exit ?_
 refine kQ ?_
 refine kES [4] [(4,.v (.int .i64 b))] ?_
 refine kR ?_
 exact ⟨[.int .i64 b],by kernel_rfl,fun w' hb hf => ⟨ret_int (by rw [HK,hge,hal,List.take_length]),hb⟩⟩
theorem yheldTable_c (l : List CV) (n : Nat) (tc tw : Value) (k : Int) (w : World) (hl_tc : Sl w tc 25 ((mkCs k l).map conR)) (hh_tc : ∀ x ∈ (mkCs k l), Sl w x.2 2 (x.1.r.held.map pceCells)) (hl_tw : Sl w tw 3 ((marks mkT 3 (k + mcnt l) n).map tupCells)) (hk0 : 0 ≤ k) (hk : k ≤ 562949953421312) (hl : l.length ≤ 1048576) (hfit : ∀ x ∈ l, x.1.r.held.length ≤ 1048576) (hn : n ≤ 1048576) : Calls Try.prog 25 #[.agg #[tc, tw], .int .i64 k] w fun e w' => e = .returned (.int .i64 (k + mcnt l + 3 * (n : Int))) ∧ Below w.heap.size w w' := by
 obtain ⟨ra_tc,rc_tc,hv_tc⟩ := hl_tc.form
 rw [List.length_map] at hv_tc; subst hv_tc
 have hn_tc := hl_tc.len; rw [List.length_map] at hn_tc
 have hq_tc := Sl.capLe hl_tc
 obtain ⟨ra_tw,rc_tw,hv_tw⟩ := hl_tw.form
 rw [List.length_map] at hv_tw; subst hv_tw
 have hn_tw := hl_tw.len; rw [List.length_map] at hn_tw
 have hq_tw := Sl.capLe hl_tw
 have hmb := mcnt_bd hfit
 refine x_calls (args := [.agg #[.slice ra_tc ((mkCs k l).length) rc_tc,.slice ra_tw ((marks mkT 3 (k + mcnt l) n).length) rc_tw],.int .i64 k]) (fn := Try.f25) [slF (.slice ra_tc ((mkCs k l).length) rc_tc) 25 ((mkCs k l).map conR),hldF (mkCs k l),slF (.slice ra_tw ((marks mkT 3 (k + mcnt l) n).length) rc_tw) 3 ((marks mkT 3 (k + mcnt l) n).map tupCells)] Try.func25 rfl Try.ntmps25 rfl (by simp only [List.mem_cons,List.not_mem_nil,or_false,forall_eq_or_imp,forall_eq]; exact ⟨⟨rfl,hl_tc⟩,⟨rfl,hh_tc⟩,⟨rfl,hl_tw⟩⟩) ?_
 refine kQ ?_
 refine kEF [1,2] ⟨[(1,.v (.int .i64 k)),(2,.p 0 0)],[⟨33,[.slice ra_tc ((mkCs k l).length) rc_tc,.slice ra_tw ((marks mkT 3 (k + mcnt l) n).length) rc_tw]⟩],[],[slF (.slice ra_tc ((mkCs k l).length) rc_tc) 25 ((mkCs k l).map conR),hldF (mkCs k l),slF (.slice ra_tw ((marks mkT 3 (k + mcnt l) n).length) rc_tw) 3 ((marks mkT 3 (k + mcnt l) n).map tupCells)]⟩ ?_
 refine kQ ?_
 refine kCD 3 [1,2,6,7] [(6,.v (.slice ra_tc ((mkCs k l).length) rc_tc)),(7,.v (.int .i64 k))] 58 [.slice ra_tc ((mkCs k l).length) rc_tc,.int .i64 k] (some 8) rfl (xc_b fun ww hf => yheldConnS_c (mkCs k l) (.slice ra_tc ((mkCs k l).length) rc_tc) k ww (hf _ m0) (hf _ m1) l rfl (by omega) (by omega) (by omega) hfit) ?_
 intro _
 refine kED [1,2] [(1,.v (.int .i64 (k + mcnt l)))] ?_
 refine kS ?_
 refine kQ ?_
 refine kED [1,2,10] [(10,.v (.bool (decide ((k + mcnt l) < 0))))] ?_
 refine kC (decide ((k + mcnt l) < 0)) (fun h1 => ?_) (fun h1 => ?_)
 have h1p := of_decide_eq_true h1
 exfalso; have := of_decide_eq_true h1; omega
 have h1p := of_decide_eq_false h1
 refine kK ?_
 refine kQ ?_
 refine kCD 3 [1,12,13] [(12,.v (.slice ra_tw ((marks mkT 3 (k + mcnt l) n).length) rc_tw)),(13,.v (.int .i64 (k + mcnt l)))] 59 [.slice ra_tw ((marks mkT 3 (k + mcnt l) n).length) rc_tw,.int .i64 (k + mcnt l)] (some 14) rfl (xc_b fun ww hf => yheldTupleS_m n  (.slice ra_tw ((marks mkT 3 (k + mcnt l) n).length) rc_tw) (k + mcnt l) ww (hf _ m2) (by omega) (by omega) (by omega)) ?_
 intro _
 refine kES [1] [(1,.v (.int .i64 ((k + mcnt l) + 3 * (n : Int))))] ?_
 refine kS ?_
 refine kQ ?_
 refine kED [1,16] [(16,.v (.bool (decide (((k + mcnt l) + 3 * (n : Int)) < 0))))] ?_
 refine kC (decide (((k + mcnt l) + 3 * (n : Int)) < 0)) (fun h2 => ?_) (fun h2 => ?_)
 have h2p := of_decide_eq_true h2
 exfalso; have := of_decide_eq_true h2; omega
 have h2p := of_decide_eq_false h2
 refine kK ?_
 refine kQ ?_
 refine kES [4] [(4,.v (.int .i64 ((k + mcnt l) + 3 * (n : Int))))] ?_
 refine kR ?_
 exact ⟨[.int .i64 ((k + mcnt l) + 3 * (n : Int))],by kernel_rfl,fun w' hb hf => ⟨rfl,hb⟩⟩
theorem yCloneTuple_c (a : List Tup) (aV : Value) (w : World) (hl_aV : Sl w aV 3 (a.map tupCells)) (hkn : a.length ≤ 1048576) (B : Nat) (hB : B ≤ w.heap.size) : Calls Try.prog 89 #[aV] w fun e w' => XRs w w' e (α := Option Addr × Nat) (fun y => .slice y.1 a.length y.2) (fun y => [rowF B 35 3 (.slice y.1 a.length y.2) (a.map tupCells)]) := by
 obtain ⟨Aa,Ca,hva⟩ := hl_aV.form
 rw [List.length_map] at hva; subst hva
 have hna := hl_aV.len; rw [List.length_map] at hna
 have hqa := Sl.capLe hl_aV
 have hnil := fun h => Sl.nil_of h hl_aV
 refine x_callsA (args := [.slice Aa a.length Ca]) (fn := Try.f89) [slF (.slice Aa a.length Ca) 3 (a.map tupCells)] Try.func89 rfl Try.ntmps89 rfl (by simp only [List.mem_cons,List.not_mem_nil,or_false,forall_eq_or_imp,forall_eq]; exact ⟨rfl,hl_aV⟩) ?_
 refine kQ ?_
 refine kEF [0] ⟨[(0,.v (.slice Aa a.length Ca))],[],[],[slF (.slice Aa a.length Ca) 3 (a.map tupCells)]⟩ ?_
 refine kS ?_
 refine kQ ?_
 refine kOS 1 [0,3] [(0,.v (.slice Aa a.length Ca)),(3,.v (.slice Aa a.length Ca))] (.bool Aa.isNone) rfl (fun _ _ _ ww hr => act_nilEq (e := 35) hr.1 rfl (by kernel_rfl) rfl rfl ww) ?_
 refine kES [0,4] [(0,.v (.slice Aa a.length Ca)),(4,.v (.bool Aa.isNone))] ?_
 refine kC (Aa.isNone) (fun h1 => ?_) (fun h1 => ?_)
 refine kQ ?_
 refine kES [2] [(2,.v (.slice none 0 0))] ?_
 refine kR ?_
 have hmod : a = [] := by exact hnil (by assumption)
 exact ⟨[.slice none 0 0],by kernel_rfl,fun w' hb hf ha => by rw [hmod]; exact xo1 ((none,0)) rfl rfl ⟨rowF_nil _ _ _ _,fun b hb => (nilF_b _ _ _ _ hb).elim⟩ hb⟩
 refine kK ?_
 refine kQ ?_
 refine kHS 0 [0] [(0,.v (.slice Aa a.length Ca))] rfl (hv_bK (e := 35) (K := 3) (bytes := 24) [] (rs := ([] : List Tup).map tupCells) rfl rfl) ?_
 intro g2
 refine kHS 1 [5,6] [(5,.v (.slice (some ⟨g2,0,none⟩) 0 0)),(6,.v (.slice Aa a.length Ca))] rfl (hv_append (e := 35) (K := 3) (bytes := 24) (i := 0) (q := a.length) (new := a.map tupCells) (rs' := a.map tupCells) rfl rfl rfl rfl (by kernel_rfl) (by kernel_rfl) (by kernel_rfl) rfl (by simp) rfl (by simp) (fun ww hf => (hf (slF (.slice Aa a.length Ca) 3 (a.map tupCells)) (by simp))) (by intro r hr; obtain ⟨x,hx,rfl⟩ := List.mem_map.1 hr; exact ⟨rfl,by simp [tupCells,Value.oneCell']⟩) (by (try simp only [List.length_map,List.length_append,List.length_cons,List.length_nil,List.length_take,List.length_drop,maxLen]); omega) (by (try simp only [List.length_map,List.length_append,List.length_cons,List.length_nil,List.length_take,List.length_drop,maxLen]); omega)) ?_
 rintro ⟨v3a,v3c⟩
 refine kES [2] [(2,.v (.slice v3a a.length v3c))] ?_
 refine kR ?_
 exact ⟨[.slice v3a a.length v3c],by kernel_rfl,fun w' hb hf ha => by exact xo1 ((v3a,v3c)) rfl rfl (pW (hf _ m0) hB) hb⟩
theorem yl25Copy_c (t : Tab) (t_connsV : Value) (t_waitingV : Value) (w : World) (hl_t_connsV : Sl w t_connsV 25 (t.conns.map conR)) (hh_t_connsV : ∀ x ∈ t.conns, Sl w x.2 2 (x.1.r.held.map pceCells)) (hl_t_waitingV : Sl w t_waitingV 3 (t.waiting.map tupCells)) (hfit : ∀ x ∈ t.conns, conFit x.1) (hln : t.conns.length ≤ 1048576) (hlw : t.waiting.length ≤ 1048576) (B : Nat) (hB : B ≤ w.heap.size) : Calls Try.prog 54 #[.agg (tabL t t_connsV t_waitingV).toArray] w fun e w' => XRs w w' e (α := {cs : List CV // pl cs = pl t.conns} × (Option Addr × Nat) × (Option Addr × Nat)) (fun y => .agg #[.slice y.2.1.1 y.1.1.length y.2.1.2, .slice y.2.2.1 t.waiting.length y.2.2.2]) (fun y => [rowF B 68 25 (.slice y.2.1.1 y.1.1.length y.2.1.2) (y.1.1.map conR), hownF B y.1.1, rowF B 35 3 (.slice y.2.2.1 t.waiting.length y.2.2.2) (t.waiting.map tupCells)]) := by
 obtain ⟨Atc,Ctc,hvtc⟩ := hl_t_connsV.form
 rw [List.length_map] at hvtc; subst hvtc
 have hntc := hl_t_connsV.len; rw [List.length_map] at hntc
 have hqtc := Sl.capLe hl_t_connsV
 obtain ⟨Atw,Ctw,hvtw⟩ := hl_t_waitingV.form
 rw [List.length_map] at hvtw; subst hvtw
 have hntw := hl_t_waitingV.len; rw [List.length_map] at hntw
 have hqtw := Sl.capLe hl_t_waitingV
 refine x_callsA (args := [.agg (tabL t (.slice Atc t.conns.length Ctc) (.slice Atw t.waiting.length Ctw)).toArray]) (fn := Try.f54) [slF (.slice Atc t.conns.length Ctc) 25 (t.conns.map conR),hldF t.conns,slF (.slice Atw t.waiting.length Ctw) 3 (t.waiting.map tupCells)] Try.func54 rfl Try.ntmps54 rfl (by simp only [List.mem_cons,List.not_mem_nil,or_false,forall_eq_or_imp,forall_eq]; exact ⟨⟨rfl,hl_t_connsV⟩,⟨rfl,hh_t_connsV⟩,⟨rfl,hl_t_waitingV⟩⟩) ?_
 refine kQ ?_
 refine kEF [1,2] ⟨[(1,.p 0 0),(2,.p 1 0)],[⟨33,tabL t (.slice Atc t.conns.length Ctc) (.slice Atw t.waiting.length Ctw)⟩,⟨33,[.slice none 0 0,.slice none 0 0]⟩],[],[slF (.slice Atc t.conns.length Ctc) 25 (t.conns.map conR),hldF t.conns,slF (.slice Atw t.waiting.length Ctw) 3 (t.waiting.map tupCells)]⟩ ?_
 refine kQ ?_
 refine kHD 0 [1,2] [] rfl (hv_bK (e := 35) (K := 3) (bytes := 24) [] (rs := ([] : List Tup).map tupCells) rfl rfl) ?_
 intro g1
 refine kHD 2 [1,2,5,7] [(7,.v (.slice Atw t.waiting.length Ctw))] rfl (hv_append (e := 35) (K := 3) (bytes := 24) (i := 0) (q := t.waiting.length) (new := t.waiting.map tupCells) (rs' := t.waiting.map tupCells) rfl rfl rfl rfl (by kernel_rfl) (by kernel_rfl) (by kernel_rfl) rfl (by simp) rfl (by simp) (fun ww hf => (hf (slF (.slice Atw t.waiting.length Ctw) 3 (t.waiting.map tupCells)) (by simp))) (by intro r hr; obtain ⟨x,hx,rfl⟩ := List.mem_map.1 hr; exact ⟨rfl,by simp [tupCells,Value.oneCell']⟩) (by (try simp only [List.length_map,List.length_append,List.length_cons,List.length_nil,List.length_take,List.length_drop,maxLen]); omega) (by (try simp only [List.length_map,List.length_append,List.length_cons,List.length_nil,List.length_take,List.length_drop,maxLen]); omega)) ?_
 rintro ⟨v2a,v2c⟩
 refine kOD 0 [1,2,8] [] (.agg (tabL { t with conns := [] } (.slice none 0 0) (.slice v2a t.waiting.length v2c)).toArray) rfl (fun _ _ _ ww hr => act_build [(1,.slice v2a t.waiting.length v2c)] hr.1 rfl (by kernel_rfl) (by kernel_rfl) ww) ?_
 refine kEA [1,2,3] [(3,.p 2 0)] [⟨33,tabL { t with conns := [] } (.slice none 0 0) (.slice v2a t.waiting.length v2c)⟩] ?_
 refine kS ?_
 refine kQ ?_
 refine kED [1,2,3,4] [(4,.v (.int .i64 0))] ?_
 refine xw_block ?_
 refine xw_free (rowF w.heap.size 68 25 (.slice none 0 0) []) (fun ww hww => nilF_p _ _ ww hww) (fun b => nilF_b _ _ _ b) ?_
 refine xw_free (hownF w.heap.size ([])) hownF_nilp (fun b => hownF_nob) ?_
 refine xw_loopW (α := {x : Nat × List CV × Option Addr × Nat // (fun (i : Nat) (L : List CV) (A : Option Addr) (cap : Nat) => i ≤ t.conns.length ∧ pl L = (pl t.conns).take i) x.1 x.2.1 x.2.2.1 x.2.2.2}) (fun x => (fun (i : Nat) (L : List CV) (A : Option Addr) (cap : Nat) => (⟨[(1,.p 0 0),(2,.p 1 0),(3,.p 2 0),(4,.v (.int .i64 (i : Int)))],[⟨33,tabL t (.slice Atc t.conns.length Ctc) (.slice Atw t.waiting.length Ctw)⟩,⟨33,[.slice none 0 0,.slice none 0 0]⟩,⟨33,tabL { t with conns := L } (.slice A L.length cap) (.slice v2a t.waiting.length v2c)⟩],[],[hownF w.heap.size L,rowF w.heap.size 68 25 (.slice A L.length cap) (L.map conR),rowF w.heap.size 35 3 (.slice v2a t.waiting.length v2c) (t.waiting.map tupCells),slF (.slice Atc t.conns.length Ctc) 25 (t.conns.map conR),hldF t.conns,slF (.slice Atw t.waiting.length Ctw) 3 (t.waiting.map tupCells)]⟩ : St)) x.1.1 x.1.2.1 x.1.2.2.1 x.1.2.2.2) (fun x => (fun (i : Nat) (L : List CV) (A : Option Addr) (cap : Nat) => t.conns.length - i) x.1.1 x.1.2.1 x.1.2.2.1 x.1.2.2.2) ⟨(0,([] : List CV),none,0),⟨Nat.zero_le _,rfl⟩⟩ (kF 3 0 [1,2,3,4]) ?_
 rintro ⟨⟨i,L,A,cap⟩,hi,HL⟩
 try dsimp only
 try dsimp only at hi HL
 refine kS ?_
 refine kQ ?_
 refine kED [1,2,3,4,14] [(14,.v (.bool (decide ((i : Int) < ((t.conns.length : Nat) : Int)))))] ?_
 refine kC (decide ((i : Int) < ((t.conns.length : Nat) : Int))) (fun h3 => ?_) (fun h3 => ?_)
 have h3p := of_decide_eq_true h3
 have hlt : i < t.conns.length := by simpa using h3
 obtain ⟨x0,hx⟩ : ∃ x,t.conns[i]? = some x := ⟨_,List.getElem?_eq_getElem hlt⟩
 obtain ⟨x,xa,xc,rfl⟩ := cv_form (hh_t_connsV x0 (List.mem_of_getElem? hx))
 have hft_x : conFit x := hfit _ (List.mem_of_getElem? hx)
 obtain ⟨hfs_x,hfr_x,hfh_x,hfp_x⟩ := hft_x
 have hLl := pl_take_len HL hi
 obtain ⟨bb,ob,hbb⟩ := sl_block hl_t_connsV (show (t.conns.map conR)[i]? = some _ from by rw [List.getElem?_map,hx]; rfl)
 refine kK ?_
 refine kS ?_
 refine xw_block ?_
 refine xw_joinE (α := Option Addr × Nat × Option Addr × Nat × Nat) (fun y => (fun (v4a : Option Addr) (v4c : Nat) (v8a : Option Addr) (v8c : Nat) (g6 : Nat) => (⟨[(1,.p 0 0),(2,.p 1 0),(3,.p 2 0),(4,.v (.int .i64 (i : Int)))],[⟨33,tabL t (.slice Atc t.conns.length Ctc) (.slice Atw t.waiting.length Ctw)⟩,⟨33,[.slice none 0 0,.slice none 0 0]⟩,⟨33,tabL { t with conns := (L ++ ([((x,.slice v4a x.r.held.length v4c) : CV)] : List CV)) } (.slice v8a ((L ++ ([((x,.slice v4a x.r.held.length v4c) : CV)] : List CV)).length) v8c) (.slice v2a t.waiting.length v2c)⟩],[],[rowF w.heap.size 68 25 (.slice v8a ((L ++ ([((x,.slice v4a x.r.held.length v4c) : CV)] : List CV)).length) v8c) ((L ++ ([((x,.slice v4a x.r.held.length v4c) : CV)] : List CV)).map conR),rowF w.heap.size 68 25 (.slice (some ⟨g6,0,none⟩) 1 1) (([((x,.slice v4a x.r.held.length v4c) : CV)] : List CV).map conR),ownF w.heap.size (.slice v4a x.r.held.length v4c) 2 (x.r.held.map pceCells),hownF w.heap.size L,rowF w.heap.size 35 3 (.slice v2a t.waiting.length v2c) (t.waiting.map tupCells),slF (.slice Atc t.conns.length Ctc) 25 (t.conns.map conR),hldF t.conns,slF (.slice Atw t.waiting.length Ctw) 3 (t.waiting.map tupCells)]⟩ : St)) y.1 y.2.1 y.2.2.1 y.2.2.2.1 y.2.2.2.2) ?_ ?_
 refine xe_region0 [true,true,false] (by kernel_rfl) (fun ρ σ => ?_)
 refine kTD [0,2,3,4] [21,20,17,1,2,3,4] 8 [(21,.v (.int .i64 (i : Int))),(20,.v (.slice Atc t.conns.length Ctc)),(17,.p 2 0)] ?_
 refine kX 5 (.pointer (some ⟨bb,ob + i * 25,none⟩)) rfl (fun _ _ ww hA => act_ixO (kd := .i64) (T := 30) (e := 68) (K := 25) (b := bb) (off := ob) (N := t.conns.length) (cap := Ctc) i hbb hA rfl rfl (by kernel_rfl) (by kernel_rfl) (by kernel_rfl) hlt ww) ?_
 refine kA [1,6] ⟨?_,?_⟩
 refine kSV 1 (.v (.slice A L.length cap)) rfl ?_
 refine kA [6] ?_
 refine kSR 6 (.agg (conL x (.slice xa x.r.held.length xc)).toArray) rfl (fun _ _ ww hr => ldQ_run (po := 0) (j := i) (row := [.int .i64 x.t.ip,.int .i64 x.t.port,.int .i64 x.t.my,.int .i64 x.state,.int .i64 x.s.una,.string x.s.data,.int .i64 x.s.sent,.bool x.s.fin,.bool x.s.finSent,.bool x.s.done,.int .i64 x.r.next,.string x.r.data,.slice xa x.r.held.length xc,.int .i64 x.r.fin,.bool x.r.done,.int .i64 x.window,.int .i64 x.most,.int .i64 x.o.mss,.int .i64 x.o.scale,.bool x.o.sack,.bool x.o.stamp,.int .i64 x.o.val,.int .i64 x.o.echo,.int .i64 x.timer,.int .i64 x.tries]) (slF (.slice Atc t.conns.length Ctc) 25 (t.conns.map conR)) (fun w h => h) hr rfl (by kernel_rfl) (by simp) (by simp only [List.getElem?_map,hx]; rfl) (by kernel_rfl) hbb) ?_
 refine kA [7] ?_
 refine kSC 7 62 [.agg (conL x (.slice xa x.r.held.length xc)).toArray] (some 24) rfl (xc_r fun ww hw hf => yl19Copy_c x (.slice xa x.r.held.length xc) ww ((hf _ m4) (x,.slice xa x.r.held.length xc) (List.mem_of_getElem? hx)) (by assumption) w.heap.size hw) ?_
 rintro ⟨v4a,v4c⟩
 refine kA [8] ?_
 refine kSH 8 rfl (under_t (under_t (under_f rfl under_nil))) (hv_bK (e := 68) (K := 25) (bytes := 208) [.agg (conL x (.slice v4a x.r.held.length v4c)).toArray] (rs := ([((x,.slice v4a x.r.held.length v4c) : CV)] : List CV).map conR) (by rfl) rfl) ?_
 intro g6
 refine kA [9] ?_
 refine kSH 9 rfl (under_t (under_t (under_f rfl under_nil))) (hv_append (e := 68) (K := 25) (bytes := 208) (i := 3) (q := (L ++ ([((x,.slice v4a x.r.held.length v4c) : CV)] : List CV)).length) (new := ([((x,.slice v4a x.r.held.length v4c) : CV)] : List CV).map conR) (rs' := (L ++ ([((x,.slice v4a x.r.held.length v4c) : CV)] : List CV)).map conR) rfl rfl rfl rfl (by kernel_rfl) (by kernel_rfl) (by kernel_rfl) rfl (by simp) (by rw [List.map_append]) (by simp) (fun ww hf => (rowF_sl (hf (rowF w.heap.size 68 25 (.slice (some ⟨g6,0,none⟩) 1 1) (([((x,.slice v4a x.r.held.length v4c) : CV)] : List CV).map conR)) (by simp)))) (by intro r hr; simp only [List.map_cons,List.map_nil,List.mem_singleton] at hr; subst hr; exact ⟨rfl,by simp [conR,conL,Value.oneCell']⟩) (by (try simp only [List.length_map,List.length_append,List.length_cons,List.length_nil,List.length_take,List.length_drop,maxLen]); omega) (by (try simp only [List.length_map,List.length_append,List.length_cons,List.length_nil,List.length_take,List.length_drop,maxLen]); omega)) ?_
 rintro ⟨v8a,v8c⟩
 refine kTD [10] [27,26,1,2,3,4] 1 [(27,.p 2 0)] ?_
 refine kA [11] ?_
 refine kSS 11 2 0 [.slice v8a ((L ++ ([((x,.slice v4a x.r.held.length v4c) : CV)] : List CV)).length) v8c] rfl ?_
 refine kZ ?_
 exact ⟨(v4a,v4c,v8a,v8c,g6),kF 3 0 [1,2,3,4]⟩
 refine kSR 6 (.agg (conL x (.slice xa x.r.held.length xc)).toArray) rfl (fun _ _ ww hr => ldQ_run (po := 0) (j := i) (row := [.int .i64 x.t.ip,.int .i64 x.t.port,.int .i64 x.t.my,.int .i64 x.state,.int .i64 x.s.una,.string x.s.data,.int .i64 x.s.sent,.bool x.s.fin,.bool x.s.finSent,.bool x.s.done,.int .i64 x.r.next,.string x.r.data,.slice xa x.r.held.length xc,.int .i64 x.r.fin,.bool x.r.done,.int .i64 x.window,.int .i64 x.most,.int .i64 x.o.mss,.int .i64 x.o.scale,.bool x.o.sack,.bool x.o.stamp,.int .i64 x.o.val,.int .i64 x.o.echo,.int .i64 x.timer,.int .i64 x.tries]) (slF (.slice Atc t.conns.length Ctc) 25 (t.conns.map conR)) (fun w h => h) hr rfl (by kernel_rfl) (by simp) (by simp only [List.getElem?_map,hx]; rfl) (by kernel_rfl) hbb) ?_
 refine kA [1,7] ⟨?_,?_⟩
 refine kSV 1 (.v (.slice A L.length cap)) rfl ?_
 refine kA [7] ?_
 refine kSC 7 62 [.agg (conL x (.slice xa x.r.held.length xc)).toArray] (some 24) rfl (xc_r fun ww hw hf => yl19Copy_c x (.slice xa x.r.held.length xc) ww ((hf _ m4) (x,.slice xa x.r.held.length xc) (List.mem_of_getElem? hx)) (by assumption) w.heap.size hw) ?_
 rintro ⟨v9a,v9c⟩
 refine kA [8] ?_
 refine kSH 8 rfl (under_t (under_t (under_f rfl under_nil))) (hv_bK (e := 68) (K := 25) (bytes := 208) [.agg (conL x (.slice v9a x.r.held.length v9c)).toArray] (rs := ([((x,.slice v9a x.r.held.length v9c) : CV)] : List CV).map conR) (by rfl) rfl) ?_
 intro g11
 refine kA [9] ?_
 refine kSH 9 rfl (under_t (under_t (under_f rfl under_nil))) (hv_append (e := 68) (K := 25) (bytes := 208) (i := 3) (q := (L ++ ([((x,.slice v9a x.r.held.length v9c) : CV)] : List CV)).length) (new := ([((x,.slice v9a x.r.held.length v9c) : CV)] : List CV).map conR) (rs' := (L ++ ([((x,.slice v9a x.r.held.length v9c) : CV)] : List CV)).map conR) rfl rfl rfl rfl (by kernel_rfl) (by kernel_rfl) (by kernel_rfl) rfl (by simp) (by rw [List.map_append]) (by simp) (fun ww hf => (rowF_sl (hf (rowF w.heap.size 68 25 (.slice (some ⟨g11,0,none⟩) 1 1) (([((x,.slice v9a x.r.held.length v9c) : CV)] : List CV).map conR)) (by simp)))) (by intro r hr; simp only [List.map_cons,List.map_nil,List.mem_singleton] at hr; subst hr; exact ⟨rfl,by simp [conR,conL,Value.oneCell']⟩) (by (try simp only [List.length_map,List.length_append,List.length_cons,List.length_nil,List.length_take,List.length_drop,maxLen]); omega) (by (try simp only [List.length_map,List.length_append,List.length_cons,List.length_nil,List.length_take,List.length_drop,maxLen]); omega)) ?_
 rintro ⟨v13a,v13c⟩
 refine kTD [10] [27,26,1,2,3,4] 1 [(27,.p 2 0)] ?_
 refine kA [11] ?_
 refine kSS 11 2 0 [.slice v13a ((L ++ ([((x,.slice v9a x.r.held.length v9c) : CV)] : List CV)).length) v13c] rfl ?_
 refine kZ ?_
 exact ⟨(v9a,v9c,v13a,v13c,g11),kF 3 0 [1,2,3,4]⟩
 refine kSC 7 62 [.agg (conL x (.slice xa x.r.held.length xc)).toArray] (some 24) rfl (xc_r fun ww hw hf => yl19Copy_c x (.slice xa x.r.held.length xc) ww ((hf _ m4) (x,.slice xa x.r.held.length xc) (List.mem_of_getElem? hx)) (by assumption) w.heap.size hw) ?_
 rintro ⟨v14a,v14c⟩
 refine kA [1,8] ⟨?_,?_⟩
 refine kSV 1 (.v (.slice A L.length cap)) rfl ?_
 refine kA [8] ?_
 refine kSH 8 rfl (under_t (under_t (under_f rfl under_nil))) (hv_bK (e := 68) (K := 25) (bytes := 208) [.agg (conL x (.slice v14a x.r.held.length v14c)).toArray] (rs := ([((x,.slice v14a x.r.held.length v14c) : CV)] : List CV).map conR) (by rfl) rfl) ?_
 intro g17
 refine kA [9] ?_
 refine kSH 9 rfl (under_t (under_t (under_f rfl under_nil))) (hv_append (e := 68) (K := 25) (bytes := 208) (i := 3) (q := (L ++ ([((x,.slice v14a x.r.held.length v14c) : CV)] : List CV)).length) (new := ([((x,.slice v14a x.r.held.length v14c) : CV)] : List CV).map conR) (rs' := (L ++ ([((x,.slice v14a x.r.held.length v14c) : CV)] : List CV)).map conR) rfl rfl rfl rfl (by kernel_rfl) (by kernel_rfl) (by kernel_rfl) rfl (by simp) (by rw [List.map_append]) (by simp) (fun ww hf => (rowF_sl (hf (rowF w.heap.size 68 25 (.slice (some ⟨g17,0,none⟩) 1 1) (([((x,.slice v14a x.r.held.length v14c) : CV)] : List CV).map conR)) (by simp)))) (by intro r hr; simp only [List.map_cons,List.map_nil,List.mem_singleton] at hr; subst hr; exact ⟨rfl,by simp [conR,conL,Value.oneCell']⟩) (by (try simp only [List.length_map,List.length_append,List.length_cons,List.length_nil,List.length_take,List.length_drop,maxLen]); omega) (by (try simp only [List.length_map,List.length_append,List.length_cons,List.length_nil,List.length_take,List.length_drop,maxLen]); omega)) ?_
 rintro ⟨v19a,v19c⟩
 refine kTD [10] [27,26,1,2,3,4] 1 [(27,.p 2 0)] ?_
 refine kA [11] ?_
 refine kSS 11 2 0 [.slice v19a ((L ++ ([((x,.slice v14a x.r.held.length v14c) : CV)] : List CV)).length) v19c] rfl ?_
 refine kZ ?_
 exact ⟨(v14a,v14c,v19a,v19c,g17),kF 3 0 [1,2,3,4]⟩
 refine kSH 8 rfl (under_t (under_t (under_f rfl under_nil))) (hv_bK (e := 68) (K := 25) (bytes := 208) [.agg (conL x (.slice v14a x.r.held.length v14c)).toArray] (rs := ([((x,.slice v14a x.r.held.length v14c) : CV)] : List CV).map conR) (by rfl) rfl) ?_
 intro g20
 refine kA [1] ?_
 refine kSV 1 (.v (.slice A L.length cap)) rfl ?_
 refine kA [9] ?_
 refine kSH 9 rfl (under_t (under_t (under_f rfl under_nil))) (hv_append (e := 68) (K := 25) (bytes := 208) (i := 3) (q := (L ++ ([((x,.slice v14a x.r.held.length v14c) : CV)] : List CV)).length) (new := ([((x,.slice v14a x.r.held.length v14c) : CV)] : List CV).map conR) (rs' := (L ++ ([((x,.slice v14a x.r.held.length v14c) : CV)] : List CV)).map conR) rfl rfl rfl rfl (by kernel_rfl) (by kernel_rfl) (by kernel_rfl) rfl (by simp) (by rw [List.map_append]) (by simp) (fun ww hf => (rowF_sl (hf (rowF w.heap.size 68 25 (.slice (some ⟨g20,0,none⟩) 1 1) (([((x,.slice v14a x.r.held.length v14c) : CV)] : List CV).map conR)) (by simp)))) (by intro r hr; simp only [List.map_cons,List.map_nil,List.mem_singleton] at hr; subst hr; exact ⟨rfl,by simp [conR,conL,Value.oneCell']⟩) (by (try simp only [List.length_map,List.length_append,List.length_cons,List.length_nil,List.length_take,List.length_drop,maxLen]); omega) (by (try simp only [List.length_map,List.length_append,List.length_cons,List.length_nil,List.length_take,List.length_drop,maxLen]); omega)) ?_
 rintro ⟨v22a,v22c⟩
 refine kTD [10] [27,26,1,2,3,4] 1 [(27,.p 2 0)] ?_
 refine kA [11] ?_
 refine kSS 11 2 0 [.slice v22a ((L ++ ([((x,.slice v14a x.r.held.length v14c) : CV)] : List CV)).length) v22c] rfl ?_
 refine kZ ?_
 exact ⟨(v14a,v14c,v22a,v22c,g20),kF 3 0 [1,2,3,4]⟩
 rintro ⟨v4a,v4c,v8a,v8c,g6⟩
 refine kG ?_
 refine kRF 3 [1,2,3,4] ⟨[(1,.p 0 0),(2,.p 1 0),(3,.p 2 0),(4,.v (.int .i64 (IntKind.i64.wrap ((i : Int) + 1))))],[⟨33,tabL t (.slice Atc t.conns.length Ctc) (.slice Atw t.waiting.length Ctw)⟩,⟨33,[.slice none 0 0,.slice none 0 0]⟩,⟨33,tabL { t with conns := (L ++ ([((x,.slice v4a x.r.held.length v4c) : CV)] : List CV)) } (.slice v8a ((L ++ ([((x,.slice v4a x.r.held.length v4c) : CV)] : List CV)).length) v8c) (.slice v2a t.waiting.length v2c)⟩],[],[rowF w.heap.size 68 25 (.slice v8a ((L ++ ([((x,.slice v4a x.r.held.length v4c) : CV)] : List CV)).length) v8c) ((L ++ ([((x,.slice v4a x.r.held.length v4c) : CV)] : List CV)).map conR),rowF w.heap.size 68 25 (.slice (some ⟨g6,0,none⟩) 1 1) (([((x,.slice v4a x.r.held.length v4c) : CV)] : List CV).map conR),ownF w.heap.size (.slice v4a x.r.held.length v4c) 2 (x.r.held.map pceCells),hownF w.heap.size L,rowF w.heap.size 35 3 (.slice v2a t.waiting.length v2c) (t.waiting.map tupCells),slF (.slice Atc t.conns.length Ctc) 25 (t.conns.map conR),hldF t.conns,slF (.slice Atw t.waiting.length Ctw) 3 (t.waiting.map tupCells)]⟩ ?_
 refine xl_nv [1,2,3,4] [(4,.v (.int .i64 (IntKind.i64.wrap ((i : Int) + 1))))] [(4,.v (.int .i64 ((i : Int) + 1)))] (by rw [show (IntKind.i64.wrap ((i : Int) + 1)) = ((i : Int) + 1) from wrap_id (by omega) (by omega)]) (by kernel_rfl) ?_
 refine kED [1,2,3,4] [] ?_
 exact ⟨⟨(i + 1,(L ++ ([((x,.slice v4a x.r.held.length v4c) : CV)] : List CV)),v8a,v8c),⟨hlt,pl_snoc HL hx⟩⟩,kPk [2,3,0,4,5,6,7] <| (wk_turn (fun _ _ _ _ h => hown_snoc (cs := L) (x := ((x,.slice v4a x.r.held.length v4c) : CV)) h)).trans <| kF 3 0 [1,2,3,4],by show (fun (i : Nat) (L : List CV) (A : Option Addr) (cap : Nat) => t.conns.length - i) (i + 1) (L ++ ([((x,.slice v4a x.r.held.length v4c) : CV)] : List CV)) v8a v8c < t.conns.length - i; (dsimp only; omega)⟩
 have h3p := of_decide_eq_false h3
 have hge : i = t.conns.length := by simp at h3; omega
 refine xw_exit ?_
 refine kQ ?_
 refine kEU [2] [(2,.p 1 0)] 1 ⟨33,tabL { t with conns := L } (.slice A L.length cap) (.slice v2a t.waiting.length v2c)⟩ ?_
 refine kR ?_
 have hmc : pl L = pl t.conns := by exact pl_take_all HL hge
 exact ⟨[.agg (tabL { t with conns := L } (.slice A L.length cap) (.slice v2a t.waiting.length v2c)).toArray],by kernel_rfl,fun w' hb hf ha => by exact xo3 (⟨L,hmc⟩,(A,cap),(v2a,v2c)) rfl rfl (pW (hf _ m1) hB) (pH (hf _ m0) hB) (pW (hf _ m2) hB) (Apart.sub3 ha [1,0,2] rfl (by decide) rfl rfl rfl (by exact fun b h => h) (fun b h => hownF_blk h) (by exact fun b h => h)) hb⟩
theorem ycloneTable_c (t : Tab) (t_connsV : Value) (t_waitingV : Value) (w : World) (hl_t_connsV : Sl w t_connsV 25 (t.conns.map conR)) (hh_t_connsV : ∀ x ∈ t.conns, Sl w x.2 2 (x.1.r.held.map pceCells)) (hl_t_waitingV : Sl w t_waitingV 3 (t.waiting.map tupCells)) (hfit : ∀ x ∈ t.conns, conFit x.1) (hln : t.conns.length ≤ 1048576) (hlw : t.waiting.length ≤ 1048576) (B : Nat) (hB : B ≤ w.heap.size) : Calls Try.prog 55 #[.agg (tabL t t_connsV t_waitingV).toArray] w fun e w' => XRs w w' e (α := {cs : List CV // pl cs = pl t.conns} × (Option Addr × Nat) × (Option Addr × Nat)) (fun y => .agg #[.slice y.2.1.1 y.1.1.length y.2.1.2, .slice y.2.2.1 t.waiting.length y.2.2.2]) (fun y => [rowF B 68 25 (.slice y.2.1.1 y.1.1.length y.2.1.2) (y.1.1.map conR), hownF B y.1.1, rowF B 35 3 (.slice y.2.2.1 t.waiting.length y.2.2.2) (t.waiting.map tupCells)]) := by
 obtain ⟨Atc,Ctc,hvtc⟩ := hl_t_connsV.form
 rw [List.length_map] at hvtc; subst hvtc
 have hntc := hl_t_connsV.len; rw [List.length_map] at hntc
 have hqtc := Sl.capLe hl_t_connsV
 obtain ⟨Atw,Ctw,hvtw⟩ := hl_t_waitingV.form
 rw [List.length_map] at hvtw; subst hvtw
 have hntw := hl_t_waitingV.len; rw [List.length_map] at hntw
 have hqtw := Sl.capLe hl_t_waitingV
 refine x_callsA (args := [.agg (tabL t (.slice Atc t.conns.length Ctc) (.slice Atw t.waiting.length Ctw)).toArray]) (fn := Try.f55) [slF (.slice Atc t.conns.length Ctc) 25 (t.conns.map conR),hldF t.conns,slF (.slice Atw t.waiting.length Ctw) 3 (t.waiting.map tupCells)] Try.func55 rfl Try.ntmps55 rfl (by simp only [List.mem_cons,List.not_mem_nil,or_false,forall_eq_or_imp,forall_eq]; exact ⟨⟨rfl,hl_t_connsV⟩,⟨rfl,hh_t_connsV⟩,⟨rfl,hl_t_waitingV⟩⟩) ?_
 refine kQ ?_
 refine kEF [1,2] ⟨[(1,.p 0 0),(2,.p 1 0)],[⟨33,tabL t (.slice Atc t.conns.length Ctc) (.slice Atw t.waiting.length Ctw)⟩,⟨33,[.slice none 0 0,.slice none 0 0]⟩],[],[slF (.slice Atc t.conns.length Ctc) 25 (t.conns.map conR),hldF t.conns,slF (.slice Atw t.waiting.length Ctw) 3 (t.waiting.map tupCells)]⟩ ?_
 refine kQ ?_
 refine kCD 2 [1,2,7] [(7,.v (.slice Atw t.waiting.length Ctw))] 89 [.slice Atw t.waiting.length Ctw] (some 8) rfl (xc_r fun ww hw hf => yCloneTuple_c t.waiting (.slice Atw t.waiting.length Ctw) ww (hf _ m2) (by assumption) w.heap.size hw) ?_
 rintro ⟨v1a,v1c⟩
 refine kOD 0 [1,2,8] [] (.agg (tabL { t with conns := [] } (.slice none 0 0) (.slice v1a t.waiting.length v1c)).toArray) rfl (fun _ _ _ ww hr => act_build [(1,.slice v1a t.waiting.length v1c)] hr.1 rfl (by kernel_rfl) (by kernel_rfl) ww) ?_
 refine kEA [1,2,3] [(3,.p 2 0)] [⟨33,tabL { t with conns := [] } (.slice none 0 0) (.slice v1a t.waiting.length v1c)⟩] ?_
 refine kS ?_
 refine kQ ?_
 refine kED [2,3,11,12,13] [(11,.v (.slice Atc t.conns.length Ctc)),(12,.v (.int .i64 ((t.conns.length : Nat) : Int))),(13,.v (.int .i64 0))] ?_
 refine xw_block ?_
 refine xw_free (rowF w.heap.size 68 25 (.slice none 0 0) []) (fun ww hww => nilF_p _ _ ww hww) (fun b => nilF_b _ _ _ b) ?_
 refine xw_free (hownF w.heap.size ([])) hownF_nilp (fun b => hownF_nob) ?_
 refine xw_loopW (α := {x : Nat × List CV × Option Addr × Nat // (fun (i : Nat) (L : List CV) (A : Option Addr) (cap : Nat) => i ≤ t.conns.length ∧ pl L = (pl t.conns).take i) x.1 x.2.1 x.2.2.1 x.2.2.2}) (fun x => (fun (i : Nat) (L : List CV) (A : Option Addr) (cap : Nat) => (⟨[(2,.p 1 0),(3,.p 2 0),(11,.v (.slice Atc t.conns.length Ctc)),(12,.v (.int .i64 ((t.conns.length : Nat) : Int))),(13,.v (.int .i64 (i : Int)))],[⟨33,tabL t (.slice Atc t.conns.length Ctc) (.slice Atw t.waiting.length Ctw)⟩,⟨33,[.slice none 0 0,.slice none 0 0]⟩,⟨33,tabL { t with conns := L } (.slice A L.length cap) (.slice v1a t.waiting.length v1c)⟩],[],[hownF w.heap.size L,rowF w.heap.size 68 25 (.slice A L.length cap) (L.map conR),rowF w.heap.size 35 3 (.slice v1a t.waiting.length v1c) (t.waiting.map tupCells),slF (.slice Atc t.conns.length Ctc) 25 (t.conns.map conR),hldF t.conns,slF (.slice Atw t.waiting.length Ctw) 3 (t.waiting.map tupCells)]⟩ : St)) x.1.1 x.1.2.1 x.1.2.2.1 x.1.2.2.2) (fun x => (fun (i : Nat) (L : List CV) (A : Option Addr) (cap : Nat) => t.conns.length - i) x.1.1 x.1.2.1 x.1.2.2.1 x.1.2.2.2) ⟨(0,([] : List CV),none,0),⟨Nat.zero_le _,rfl⟩⟩ (kF 3 0 [2,3,11,12,13]) ?_
 rintro ⟨⟨i,L,A,cap⟩,hi,HL⟩
 try dsimp only
 try dsimp only at hi HL
 refine kQ ?_
 refine kED [2,3,11,12,13,14] [(14,.v (.bool (decide ((i : Int) < ((t.conns.length : Nat) : Int)))))] ?_
 refine kS ?_
 refine kC (decide ((i : Int) < ((t.conns.length : Nat) : Int))) (fun h2 => ?_) (fun h2 => ?_)
 have h2p := of_decide_eq_true h2
 have hlt : i < t.conns.length := by simpa using h2
 obtain ⟨x0,hx⟩ : ∃ x,t.conns[i]? = some x := ⟨_,List.getElem?_eq_getElem hlt⟩
 obtain ⟨x,xa,xc,rfl⟩ := cv_form (hh_t_connsV x0 (List.mem_of_getElem? hx))
 have hft_x : conFit x := hfit _ (List.mem_of_getElem? hx)
 obtain ⟨hfs_x,hfr_x,hfh_x,hfp_x⟩ := hft_x
 have hLl := pl_take_len HL hi
 refine kK ?_
 refine kS ?_
 refine xw_block ?_
 refine kQ ?_
 refine xl_indexD (kd := .i64) (T := 30) (e := 68) (K := 25) 0 [2,3,11,12,13] [] i [.int .i64 x.t.ip,.int .i64 x.t.port,.int .i64 x.t.my,.int .i64 x.state,.int .i64 x.s.una,.string x.s.data,.int .i64 x.s.sent,.bool x.s.fin,.bool x.s.finSent,.bool x.s.done,.int .i64 x.r.next,.string x.r.data,.slice xa x.r.held.length xc,.int .i64 x.r.fin,.bool x.r.done,.int .i64 x.window,.int .i64 x.most,.int .i64 x.o.mss,.int .i64 x.o.scale,.bool x.o.sack,.bool x.o.stamp,.int .i64 x.o.val,.int .i64 x.o.echo,.int .i64 x.timer,.int .i64 x.tries] (slF (.slice Atc t.conns.length Ctc) 25 (t.conns.map conR)) (by kernel_rfl) rfl (by kernel_rfl) rfl rfl (by kernel_rfl) (by kernel_rfl) (by kernel_rfl) (by kernel_rfl) hlt (by simp) (fun w h => h) (fun b h => h) (by simp only [List.getElem?_map,hx]; rfl) ?_
 refine kEA [2,3,5,11,12,13] [(5,.p 3 0)] [⟨68,conL x (.slice xa x.r.held.length xc)⟩] ?_
 refine xw_joinE (α := Option Addr × Nat × Option Addr × Nat × Nat) (fun y => (fun (v3a : Option Addr) (v3c : Nat) (v7a : Option Addr) (v7c : Nat) (g5 : Nat) => (⟨[(2,.p 1 0),(3,.p 2 0),(11,.v (.slice Atc t.conns.length Ctc)),(12,.v (.int .i64 ((t.conns.length : Nat) : Int))),(13,.v (.int .i64 (i : Int)))],[⟨33,tabL t (.slice Atc t.conns.length Ctc) (.slice Atw t.waiting.length Ctw)⟩,⟨33,[.slice none 0 0,.slice none 0 0]⟩,⟨33,tabL { t with conns := (L ++ ([((x,.slice v3a x.r.held.length v3c) : CV)] : List CV)) } (.slice v7a ((L ++ ([((x,.slice v3a x.r.held.length v3c) : CV)] : List CV)).length) v7c) (.slice v1a t.waiting.length v1c)⟩,⟨68,conL x (.slice xa x.r.held.length xc)⟩],[],[rowF w.heap.size 68 25 (.slice v7a ((L ++ ([((x,.slice v3a x.r.held.length v3c) : CV)] : List CV)).length) v7c) ((L ++ ([((x,.slice v3a x.r.held.length v3c) : CV)] : List CV)).map conR),rowF w.heap.size 68 25 (.slice (some ⟨g5,0,none⟩) 1 1) (([((x,.slice v3a x.r.held.length v3c) : CV)] : List CV).map conR),ownF w.heap.size (.slice v3a x.r.held.length v3c) 2 (x.r.held.map pceCells),hownF w.heap.size L,rowF w.heap.size 35 3 (.slice v1a t.waiting.length v1c) (t.waiting.map tupCells),slF (.slice Atc t.conns.length Ctc) 25 (t.conns.map conR),hldF t.conns,slF (.slice Atw t.waiting.length Ctw) 3 (t.waiting.map tupCells)]⟩ : St)) y.1 y.2.1 y.2.2.1 y.2.2.2.1 y.2.2.2.2) ?_ ?_
 refine xe_region0 [true,true,false,true] (by kernel_rfl) (fun ρ σ => ?_)
 refine kTD [0,2] [19,17,2,3,11,12,13] 6 [(19,.v (.agg (conL x (.slice xa x.r.held.length xc)).toArray)),(17,.p 2 0)] ?_
 refine kA [1,3] ⟨?_,?_⟩
 refine kSV 1 (.v (.slice A L.length cap)) rfl ?_
 refine kA [3] ?_
 refine kSC 3 66 [.agg (conL x (.slice xa x.r.held.length xc)).toArray] (some 20) rfl (xc_r fun ww hw hf => ycloneConn_c x (.slice xa x.r.held.length xc) ww ((hf _ m4) (x,.slice xa x.r.held.length xc) (List.mem_of_getElem? hx)) (by assumption) w.heap.size hw) ?_
 rintro ⟨v3a,v3c⟩
 refine kA [4] ?_
 refine kSH 4 rfl (under_t (under_t (under_f rfl (under_t under_nil)))) (hv_bK (e := 68) (K := 25) (bytes := 208) [.agg (conL x (.slice v3a x.r.held.length v3c)).toArray] (rs := ([((x,.slice v3a x.r.held.length v3c) : CV)] : List CV).map conR) (by rfl) rfl) ?_
 intro g5
 refine kA [5] ?_
 refine kSH 5 rfl (under_t (under_t (under_f rfl (under_t under_nil)))) (hv_append (e := 68) (K := 25) (bytes := 208) (i := 3) (q := (L ++ ([((x,.slice v3a x.r.held.length v3c) : CV)] : List CV)).length) (new := ([((x,.slice v3a x.r.held.length v3c) : CV)] : List CV).map conR) (rs' := (L ++ ([((x,.slice v3a x.r.held.length v3c) : CV)] : List CV)).map conR) rfl rfl rfl rfl (by kernel_rfl) (by kernel_rfl) (by kernel_rfl) rfl (by simp) (by rw [List.map_append]) (by simp) (fun ww hf => (rowF_sl (hf (rowF w.heap.size 68 25 (.slice (some ⟨g5,0,none⟩) 1 1) (([((x,.slice v3a x.r.held.length v3c) : CV)] : List CV).map conR)) (by simp)))) (by intro r hr; simp only [List.map_cons,List.map_nil,List.mem_singleton] at hr; subst hr; exact ⟨rfl,by simp [conR,conL,Value.oneCell']⟩) (by (try simp only [List.length_map,List.length_append,List.length_cons,List.length_nil,List.length_take,List.length_drop,maxLen]); omega) (by (try simp only [List.length_map,List.length_append,List.length_cons,List.length_nil,List.length_take,List.length_drop,maxLen]); omega)) ?_
 rintro ⟨v7a,v7c⟩
 refine kTD [6] [23,22,2,3,11,12,13] 1 [(23,.p 2 0)] ?_
 refine kA [7] ?_
 refine kSS 7 2 0 [.slice v7a ((L ++ ([((x,.slice v3a x.r.held.length v3c) : CV)] : List CV)).length) v7c] rfl ?_
 refine kZ ?_
 exact ⟨(v3a,v3c,v7a,v7c,g5),kF 4 0 [2,3,11,12,13]⟩
 refine kSC 3 66 [.agg (conL x (.slice xa x.r.held.length xc)).toArray] (some 20) rfl (xc_r fun ww hw hf => ycloneConn_c x (.slice xa x.r.held.length xc) ww ((hf _ m4) (x,.slice xa x.r.held.length xc) (List.mem_of_getElem? hx)) (by assumption) w.heap.size hw) ?_
 rintro ⟨v8a,v8c⟩
 refine kA [1,4] ⟨?_,?_⟩
 refine kSV 1 (.v (.slice A L.length cap)) rfl ?_
 refine kA [4] ?_
 refine kSH 4 rfl (under_t (under_t (under_f rfl (under_t under_nil)))) (hv_bK (e := 68) (K := 25) (bytes := 208) [.agg (conL x (.slice v8a x.r.held.length v8c)).toArray] (rs := ([((x,.slice v8a x.r.held.length v8c) : CV)] : List CV).map conR) (by rfl) rfl) ?_
 intro g11
 refine kA [5] ?_
 refine kSH 5 rfl (under_t (under_t (under_f rfl (under_t under_nil)))) (hv_append (e := 68) (K := 25) (bytes := 208) (i := 3) (q := (L ++ ([((x,.slice v8a x.r.held.length v8c) : CV)] : List CV)).length) (new := ([((x,.slice v8a x.r.held.length v8c) : CV)] : List CV).map conR) (rs' := (L ++ ([((x,.slice v8a x.r.held.length v8c) : CV)] : List CV)).map conR) rfl rfl rfl rfl (by kernel_rfl) (by kernel_rfl) (by kernel_rfl) rfl (by simp) (by rw [List.map_append]) (by simp) (fun ww hf => (rowF_sl (hf (rowF w.heap.size 68 25 (.slice (some ⟨g11,0,none⟩) 1 1) (([((x,.slice v8a x.r.held.length v8c) : CV)] : List CV).map conR)) (by simp)))) (by intro r hr; simp only [List.map_cons,List.map_nil,List.mem_singleton] at hr; subst hr; exact ⟨rfl,by simp [conR,conL,Value.oneCell']⟩) (by (try simp only [List.length_map,List.length_append,List.length_cons,List.length_nil,List.length_take,List.length_drop,maxLen]); omega) (by (try simp only [List.length_map,List.length_append,List.length_cons,List.length_nil,List.length_take,List.length_drop,maxLen]); omega)) ?_
 rintro ⟨v13a,v13c⟩
 refine kTD [6] [23,22,2,3,11,12,13] 1 [(23,.p 2 0)] ?_
 refine kA [7] ?_
 refine kSS 7 2 0 [.slice v13a ((L ++ ([((x,.slice v8a x.r.held.length v8c) : CV)] : List CV)).length) v13c] rfl ?_
 refine kZ ?_
 exact ⟨(v8a,v8c,v13a,v13c,g11),kF 4 0 [2,3,11,12,13]⟩
 refine kSH 4 rfl (under_t (under_t (under_f rfl (under_t under_nil)))) (hv_bK (e := 68) (K := 25) (bytes := 208) [.agg (conL x (.slice v8a x.r.held.length v8c)).toArray] (rs := ([((x,.slice v8a x.r.held.length v8c) : CV)] : List CV).map conR) (by rfl) rfl) ?_
 intro g14
 refine kA [1] ?_
 refine kSV 1 (.v (.slice A L.length cap)) rfl ?_
 refine kA [5] ?_
 refine kSH 5 rfl (under_t (under_t (under_f rfl (under_t under_nil)))) (hv_append (e := 68) (K := 25) (bytes := 208) (i := 3) (q := (L ++ ([((x,.slice v8a x.r.held.length v8c) : CV)] : List CV)).length) (new := ([((x,.slice v8a x.r.held.length v8c) : CV)] : List CV).map conR) (rs' := (L ++ ([((x,.slice v8a x.r.held.length v8c) : CV)] : List CV)).map conR) rfl rfl rfl rfl (by kernel_rfl) (by kernel_rfl) (by kernel_rfl) rfl (by simp) (by rw [List.map_append]) (by simp) (fun ww hf => (rowF_sl (hf (rowF w.heap.size 68 25 (.slice (some ⟨g14,0,none⟩) 1 1) (([((x,.slice v8a x.r.held.length v8c) : CV)] : List CV).map conR)) (by simp)))) (by intro r hr; simp only [List.map_cons,List.map_nil,List.mem_singleton] at hr; subst hr; exact ⟨rfl,by simp [conR,conL,Value.oneCell']⟩) (by (try simp only [List.length_map,List.length_append,List.length_cons,List.length_nil,List.length_take,List.length_drop,maxLen]); omega) (by (try simp only [List.length_map,List.length_append,List.length_cons,List.length_nil,List.length_take,List.length_drop,maxLen]); omega)) ?_
 rintro ⟨v16a,v16c⟩
 refine kTD [6] [23,22,2,3,11,12,13] 1 [(23,.p 2 0)] ?_
 refine kA [7] ?_
 refine kSS 7 2 0 [.slice v16a ((L ++ ([((x,.slice v8a x.r.held.length v8c) : CV)] : List CV)).length) v16c] rfl ?_
 refine kZ ?_
 exact ⟨(v8a,v8c,v16a,v16c,g14),kF 4 0 [2,3,11,12,13]⟩
 rintro ⟨v3a,v3c,v7a,v7c,g5⟩
 refine kG ?_
 refine kRF 2 [2,3,11,12,13] ⟨[(2,.p 1 0),(3,.p 2 0),(11,.v (.slice Atc t.conns.length Ctc)),(12,.v (.int .i64 ((t.conns.length : Nat) : Int))),(13,.v (.int .i64 (IntKind.i64.wrap ((i : Int) + 1))))],[⟨33,tabL t (.slice Atc t.conns.length Ctc) (.slice Atw t.waiting.length Ctw)⟩,⟨33,[.slice none 0 0,.slice none 0 0]⟩,⟨33,tabL { t with conns := (L ++ ([((x,.slice v3a x.r.held.length v3c) : CV)] : List CV)) } (.slice v7a ((L ++ ([((x,.slice v3a x.r.held.length v3c) : CV)] : List CV)).length) v7c) (.slice v1a t.waiting.length v1c)⟩,⟨68,conL x (.slice xa x.r.held.length xc)⟩],[],[rowF w.heap.size 68 25 (.slice v7a ((L ++ ([((x,.slice v3a x.r.held.length v3c) : CV)] : List CV)).length) v7c) ((L ++ ([((x,.slice v3a x.r.held.length v3c) : CV)] : List CV)).map conR),rowF w.heap.size 68 25 (.slice (some ⟨g5,0,none⟩) 1 1) (([((x,.slice v3a x.r.held.length v3c) : CV)] : List CV).map conR),ownF w.heap.size (.slice v3a x.r.held.length v3c) 2 (x.r.held.map pceCells),hownF w.heap.size L,rowF w.heap.size 35 3 (.slice v1a t.waiting.length v1c) (t.waiting.map tupCells),slF (.slice Atc t.conns.length Ctc) 25 (t.conns.map conR),hldF t.conns,slF (.slice Atw t.waiting.length Ctw) 3 (t.waiting.map tupCells)]⟩ ?_
 refine xl_nv [2,3,11,12,13] [(13,.v (.int .i64 (IntKind.i64.wrap ((i : Int) + 1))))] [(13,.v (.int .i64 ((i : Int) + 1)))] (by rw [show (IntKind.i64.wrap ((i : Int) + 1)) = ((i : Int) + 1) from wrap_id (by omega) (by omega)]) (by kernel_rfl) ?_
 refine kED [2,3,11,12,13] [] ?_
 exact ⟨⟨(i + 1,(L ++ ([((x,.slice v3a x.r.held.length v3c) : CV)] : List CV)),v7a,v7c),⟨hlt,pl_snoc HL hx⟩⟩,kPk [2,3,0,4,5,6,7] <| (wk_turn (fun _ _ _ _ h => hown_snoc (cs := L) (x := ((x,.slice v3a x.r.held.length v3c) : CV)) h)).trans <| kF 3 0 [2,3,11,12,13],by show (fun (i : Nat) (L : List CV) (A : Option Addr) (cap : Nat) => t.conns.length - i) (i + 1) (L ++ ([((x,.slice v3a x.r.held.length v3c) : CV)] : List CV)) v7a v7c < t.conns.length - i; (dsimp only; omega)⟩
 have h2p := of_decide_eq_false h2
 have hge : i = t.conns.length := by simp at h2; omega
 refine xw_exit ?_
 refine kQ ?_
 refine kEU [2] [(2,.p 1 0)] 1 ⟨33,tabL { t with conns := L } (.slice A L.length cap) (.slice v1a t.waiting.length v1c)⟩ ?_
 refine kR ?_
 have hmc : pl L = pl t.conns := by exact pl_take_all HL hge
 exact ⟨[.agg (tabL { t with conns := L } (.slice A L.length cap) (.slice v1a t.waiting.length v1c)).toArray],by kernel_rfl,fun w' hb hf ha => by exact xo3 (⟨L,hmc⟩,(A,cap),(v1a,v1c)) rfl rfl (pW (hf _ m1) hB) (pH (hf _ m0) hB) (pW (hf _ m2) hB) (Apart.sub3 ha [1,0,2] rfl (by decide) rfl rfl rfl (by exact fun b h => h) (fun b h => hownF_blk h) (by exact fun b h => h)) hb⟩
theorem ysPutConn_c (t : Tab) (t_connsV : Value) (t_waitingV : Value) (c : Con) (c_r_heldV : Value) (l : Lim) (w : World) (hl_t_connsV : Sl w t_connsV 25 (t.conns.map conR)) (hh_t_connsV : ∀ x ∈ t.conns, Sl w x.2 2 (x.1.r.held.map pceCells)) (hl_t_waitingV : Sl w t_waitingV 3 (t.waiting.map tupCells)) (hl_c_r_heldV : Sl w c_r_heldV 2 (c.r.held.map pceCells)) (hfit : ∀ x ∈ t.conns, conFit x.1) (hln : t.conns.length ≤ 1048576) (hlw : t.waiting.length ≤ 1048576) (hfc : conFit c) (B : Nat) (hB : B ≤ w.heap.size) : Calls Try.prog 34 #[.agg (tabL t t_connsV t_waitingV).toArray, .agg (conL c c_r_heldV).toArray, .agg (limL l).toArray] w fun e w' => XRs w w' e (α := {cs : List CV // pl cs = putP t c l} × (Option Addr × Nat) × (Option Addr × Nat)) (fun y => .tuple #[.agg #[.slice y.2.1.1 y.1.1.length y.2.1.2, .slice y.2.2.1 ((putW t c l).length) y.2.2.2], .bool (putOk t c l)]) (fun y => [rowF B 68 25 (.slice y.2.1.1 y.1.1.length y.2.1.2) (y.1.1.map conR), hownF B y.1.1, rowF B 35 3 (.slice y.2.2.1 ((putW t c l).length) y.2.2.2) ((putW t c l).map tupCells)]) := by
 obtain ⟨Atc,Ctc,hvtc⟩ := hl_t_connsV.form
 rw [List.length_map] at hvtc; subst hvtc
 have hntc := hl_t_connsV.len; rw [List.length_map] at hntc
 have hqtc := Sl.capLe hl_t_connsV
 obtain ⟨Atw,Ctw,hvtw⟩ := hl_t_waitingV.form
 rw [List.length_map] at hvtw; subst hvtw
 have hntw := hl_t_waitingV.len; rw [List.length_map] at hntw
 have hqtw := Sl.capLe hl_t_waitingV
 obtain ⟨Acrh,Ccrh,hvcrh⟩ := hl_c_r_heldV.form
 rw [List.length_map] at hvcrh; subst hvcrh
 have hncrh := hl_c_r_heldV.len; rw [List.length_map] at hncrh
 have hqcrh := Sl.capLe hl_c_r_heldV
 have hkc := hfc.2.2.1
 refine x_callsA (args := [.agg (tabL t (.slice Atc t.conns.length Ctc) (.slice Atw t.waiting.length Ctw)).toArray,.agg (conL c (.slice Acrh c.r.held.length Ccrh)).toArray,.agg (limL l).toArray]) (fn := Try.f34) [slF (.slice Atc t.conns.length Ctc) 25 (t.conns.map conR),hldF t.conns,slF (.slice Atw t.waiting.length Ctw) 3 (t.waiting.map tupCells),slF (.slice Acrh c.r.held.length Ccrh) 2 (c.r.held.map pceCells)] Try.func34 rfl Try.ntmps34 rfl (by simp only [List.mem_cons,List.not_mem_nil,or_false,forall_eq_or_imp,forall_eq]; exact ⟨⟨rfl,hl_t_connsV⟩,⟨rfl,hh_t_connsV⟩,⟨rfl,hl_t_waitingV⟩,⟨rfl,hl_c_r_heldV⟩⟩) ?_
 refine kQ ?_
 refine kEF [3,4,5,6] ⟨[(3,.p 0 0),(4,.p 1 0),(5,.p 2 0),(6,.p 3 0)],[⟨33,tabL t (.slice Atc t.conns.length Ctc) (.slice Atw t.waiting.length Ctw)⟩,⟨68,conL c (.slice Acrh c.r.held.length Ccrh)⟩,⟨43,limL l⟩,⟨33,[.slice none 0 0,.slice none 0 0]⟩],[],[slF (.slice Atc t.conns.length Ctc) 25 (t.conns.map conR),hldF t.conns,slF (.slice Atw t.waiting.length Ctw) 3 (t.waiting.map tupCells),slF (.slice Acrh c.r.held.length Ccrh) 2 (c.r.held.map pceCells)]⟩ ?_
 refine kQ ?_
 refine kCD 1 [3,4,5,6,9] [(9,.v (.agg (tabL t (.slice Atc t.conns.length Ctc) (.slice Atw t.waiting.length Ctw)).toArray))] 54 [.agg (tabL t (.slice Atc t.conns.length Ctc) (.slice Atw t.waiting.length Ctw)).toArray] (some 10) rfl (xc_r fun ww hw hf => yl25Copy_c t (.slice Atc t.conns.length Ctc) (.slice Atw t.waiting.length Ctw) ww (hf _ m0) (hf _ m1) (hf _ m2) (by first | assumption | (dsimp only; assumption)) (by first | assumption | omega | (dsimp only; omega)) (by first | assumption | omega | (dsimp only; omega)) w.heap.size hw) ?_
 rintro ⟨⟨t1l,ht1l⟩,⟨t1a,t1c⟩,⟨t1d,t1e⟩⟩
 dsimp only
 have hfit_t1l : ∀ x ∈ t1l,conFit x.1 := conFit_pl ht1l (by assumption)
 have hlen_t1l := pl_len ht1l
 refine kEA [3,4,5,6,8] [(8,.p 4 0)] [⟨33,tabL { t with conns := t1l } (.slice t1a t1l.length t1c) (.slice t1d t.waiting.length t1e)⟩] ?_
 refine kS ?_
 refine xw_joinE (α := Option Addr × Nat × Option Addr × Nat × Nat) (fun y => (fun (v2a : Option Addr) (v2c : Nat) (v6a : Option Addr) (v6c : Nat) (g4 : Nat) => (⟨[(3,.p 0 0),(4,.p 1 0),(5,.p 2 0),(6,.p 3 0),(8,.p 4 0)],[⟨33,tabL t (.slice Atc t.conns.length Ctc) (.slice Atw t.waiting.length Ctw)⟩,⟨68,conL c (.slice Acrh c.r.held.length Ccrh)⟩,⟨43,limL l⟩,⟨33,[.slice none 0 0,.slice none 0 0]⟩,⟨33,tabL { t with conns := (t1l ++ ([((c,.slice v2a c.r.held.length v2c) : CV)] : List CV)) } (.slice v6a ((t1l ++ ([((c,.slice v2a c.r.held.length v2c) : CV)] : List CV)).length) v6c) (.slice t1d t.waiting.length t1e)⟩],[],[rowF w.heap.size 68 25 (.slice v6a ((t1l ++ ([((c,.slice v2a c.r.held.length v2c) : CV)] : List CV)).length) v6c) ((t1l ++ ([((c,.slice v2a c.r.held.length v2c) : CV)] : List CV)).map conR),rowF w.heap.size 68 25 (.slice (some ⟨g4,0,none⟩) 1 1) (([((c,.slice v2a c.r.held.length v2c) : CV)] : List CV).map conR),ownF w.heap.size (.slice v2a c.r.held.length v2c) 2 (c.r.held.map pceCells),hownF w.heap.size t1l,rowF w.heap.size 35 3 (.slice t1d t.waiting.length t1e) (t.waiting.map tupCells),slF (.slice Atc t.conns.length Ctc) 25 (t.conns.map conR),hldF t.conns,slF (.slice Atw t.waiting.length Ctw) 3 (t.waiting.map tupCells),slF (.slice Acrh c.r.held.length Ccrh) 2 (c.r.held.map pceCells)]⟩ : St)) y.1 y.2.1 y.2.2.1 y.2.2.2.1 y.2.2.2.2) ?_ ?_
 refine xe_region0 [true,true,true,true,false] (by kernel_rfl) (fun ρ σ => ?_)
 refine kTD [0,2] [13,11,3,4,5,6,8] 6 [(13,.v (.agg (conL c (.slice Acrh c.r.held.length Ccrh)).toArray)),(11,.p 4 0)] ?_
 refine kA [1,3] ⟨?_,?_⟩
 refine kSV 1 (.v (.slice t1a t1l.length t1c)) rfl ?_
 refine kA [3] ?_
 refine kSC 3 62 [.agg (conL c (.slice Acrh c.r.held.length Ccrh)).toArray] (some 14) rfl (xc_r fun ww hw hf => yl19Copy_c c (.slice Acrh c.r.held.length Ccrh) ww (hf _ m6) (by assumption) w.heap.size hw) ?_
 rintro ⟨v2a,v2c⟩
 refine kA [4] ?_
 refine kSH 4 rfl (under_t (under_t (under_t (under_t (under_f rfl under_nil))))) (hv_bK (e := 68) (K := 25) (bytes := 208) [.agg (conL c (.slice v2a c.r.held.length v2c)).toArray] (rs := ([((c,.slice v2a c.r.held.length v2c) : CV)] : List CV).map conR) (by rfl) rfl) ?_
 intro g4
 refine kA [5] ?_
 refine kSH 5 rfl (under_t (under_t (under_t (under_t (under_f rfl under_nil))))) (hv_append (e := 68) (K := 25) (bytes := 208) (i := 2) (q := (t1l ++ ([((c,.slice v2a c.r.held.length v2c) : CV)] : List CV)).length) (new := ([((c,.slice v2a c.r.held.length v2c) : CV)] : List CV).map conR) (rs' := (t1l ++ ([((c,.slice v2a c.r.held.length v2c) : CV)] : List CV)).map conR) rfl rfl rfl rfl (by kernel_rfl) (by kernel_rfl) (by kernel_rfl) rfl (by simp) (by rw [List.map_append]) (by simp) (fun ww hf => (rowF_sl (hf (rowF w.heap.size 68 25 (.slice (some ⟨g4,0,none⟩) 1 1) (([((c,.slice v2a c.r.held.length v2c) : CV)] : List CV).map conR)) (by simp)))) (by intro r hr; simp only [List.map_cons,List.map_nil,List.mem_singleton] at hr; subst hr; exact ⟨rfl,by simp [conR,conL,Value.oneCell']⟩) (by (try simp only [List.length_map,List.length_append,List.length_cons,List.length_nil,List.length_take,List.length_drop,maxLen]); omega) (by (try simp only [List.length_map,List.length_append,List.length_cons,List.length_nil,List.length_take,List.length_drop,maxLen]); omega)) ?_
 rintro ⟨v6a,v6c⟩
 refine kTD [6] [17,16,3,4,5,6,8] 1 [(17,.p 4 0)] ?_
 refine kA [7] ?_
 refine kSS 7 4 0 [.slice v6a ((t1l ++ ([((c,.slice v2a c.r.held.length v2c) : CV)] : List CV)).length) v6c] rfl ?_
 refine kZ ?_
 exact ⟨(v2a,v2c,v6a,v6c,g4),kF 5 0 [3,4,5,6,8]⟩
 refine kSC 3 62 [.agg (conL c (.slice Acrh c.r.held.length Ccrh)).toArray] (some 14) rfl (xc_r fun ww hw hf => yl19Copy_c c (.slice Acrh c.r.held.length Ccrh) ww (hf _ m6) (by assumption) w.heap.size hw) ?_
 rintro ⟨v7a,v7c⟩
 refine kA [1,4] ⟨?_,?_⟩
 refine kSV 1 (.v (.slice t1a t1l.length t1c)) rfl ?_
 refine kA [4] ?_
 refine kSH 4 rfl (under_t (under_t (under_t (under_t (under_f rfl under_nil))))) (hv_bK (e := 68) (K := 25) (bytes := 208) [.agg (conL c (.slice v7a c.r.held.length v7c)).toArray] (rs := ([((c,.slice v7a c.r.held.length v7c) : CV)] : List CV).map conR) (by rfl) rfl) ?_
 intro g10
 refine kA [5] ?_
 refine kSH 5 rfl (under_t (under_t (under_t (under_t (under_f rfl under_nil))))) (hv_append (e := 68) (K := 25) (bytes := 208) (i := 2) (q := (t1l ++ ([((c,.slice v7a c.r.held.length v7c) : CV)] : List CV)).length) (new := ([((c,.slice v7a c.r.held.length v7c) : CV)] : List CV).map conR) (rs' := (t1l ++ ([((c,.slice v7a c.r.held.length v7c) : CV)] : List CV)).map conR) rfl rfl rfl rfl (by kernel_rfl) (by kernel_rfl) (by kernel_rfl) rfl (by simp) (by rw [List.map_append]) (by simp) (fun ww hf => (rowF_sl (hf (rowF w.heap.size 68 25 (.slice (some ⟨g10,0,none⟩) 1 1) (([((c,.slice v7a c.r.held.length v7c) : CV)] : List CV).map conR)) (by simp)))) (by intro r hr; simp only [List.map_cons,List.map_nil,List.mem_singleton] at hr; subst hr; exact ⟨rfl,by simp [conR,conL,Value.oneCell']⟩) (by (try simp only [List.length_map,List.length_append,List.length_cons,List.length_nil,List.length_take,List.length_drop,maxLen]); omega) (by (try simp only [List.length_map,List.length_append,List.length_cons,List.length_nil,List.length_take,List.length_drop,maxLen]); omega)) ?_
 rintro ⟨v12a,v12c⟩
 refine kTD [6] [17,16,3,4,5,6,8] 1 [(17,.p 4 0)] ?_
 refine kA [7] ?_
 refine kSS 7 4 0 [.slice v12a ((t1l ++ ([((c,.slice v7a c.r.held.length v7c) : CV)] : List CV)).length) v12c] rfl ?_
 refine kZ ?_
 exact ⟨(v7a,v7c,v12a,v12c,g10),kF 5 0 [3,4,5,6,8]⟩
 refine kSH 4 rfl (under_t (under_t (under_t (under_t (under_f rfl under_nil))))) (hv_bK (e := 68) (K := 25) (bytes := 208) [.agg (conL c (.slice v7a c.r.held.length v7c)).toArray] (rs := ([((c,.slice v7a c.r.held.length v7c) : CV)] : List CV).map conR) (by rfl) rfl) ?_
 intro g13
 refine kA [1] ?_
 refine kSV 1 (.v (.slice t1a t1l.length t1c)) rfl ?_
 refine kA [5] ?_
 refine kSH 5 rfl (under_t (under_t (under_t (under_t (under_f rfl under_nil))))) (hv_append (e := 68) (K := 25) (bytes := 208) (i := 2) (q := (t1l ++ ([((c,.slice v7a c.r.held.length v7c) : CV)] : List CV)).length) (new := ([((c,.slice v7a c.r.held.length v7c) : CV)] : List CV).map conR) (rs' := (t1l ++ ([((c,.slice v7a c.r.held.length v7c) : CV)] : List CV)).map conR) rfl rfl rfl rfl (by kernel_rfl) (by kernel_rfl) (by kernel_rfl) rfl (by simp) (by rw [List.map_append]) (by simp) (fun ww hf => (rowF_sl (hf (rowF w.heap.size 68 25 (.slice (some ⟨g13,0,none⟩) 1 1) (([((c,.slice v7a c.r.held.length v7c) : CV)] : List CV).map conR)) (by simp)))) (by intro r hr; simp only [List.map_cons,List.map_nil,List.mem_singleton] at hr; subst hr; exact ⟨rfl,by simp [conR,conL,Value.oneCell']⟩) (by (try simp only [List.length_map,List.length_append,List.length_cons,List.length_nil,List.length_take,List.length_drop,maxLen]); omega) (by (try simp only [List.length_map,List.length_append,List.length_cons,List.length_nil,List.length_take,List.length_drop,maxLen]); omega)) ?_
 rintro ⟨v15a,v15c⟩
 refine kTD [6] [17,16,3,4,5,6,8] 1 [(17,.p 4 0)] ?_
 refine kA [7] ?_
 refine kSS 7 4 0 [.slice v15a ((t1l ++ ([((c,.slice v7a c.r.held.length v7c) : CV)] : List CV)).length) v15c] rfl ?_
 refine kZ ?_
 exact ⟨(v7a,v7c,v15a,v15c,g13),kF 5 0 [3,4,5,6,8]⟩
 rintro ⟨v2a,v2c,v6a,v6c,g4⟩
 refine kQ ?_
 refine xl_hv 4 [3,5,6,8,19,21] ⟨[(3,.p 0 0),(5,.p 2 0),(6,.p 3 0),(8,.p 4 0),(19,.v (.slice t1d t.waiting.length t1e)),(21,.v (.agg (tupL c.t).toArray))],[⟨33,tabL t (.slice Atc t.conns.length Ctc) (.slice Atw t.waiting.length Ctw)⟩,⟨68,conL c (.slice Acrh c.r.held.length Ccrh)⟩,⟨43,limL l⟩,⟨33,[.slice none 0 0,.slice none 0 0]⟩,⟨33,tabL { t with conns := (t1l ++ ([((c,.slice v2a c.r.held.length v2c) : CV)] : List CV)) } (.slice v6a ((t1l ++ ([((c,.slice v2a c.r.held.length v2c) : CV)] : List CV)).length) v6c) (.slice t1d t.waiting.length t1e)⟩],[],[rowF w.heap.size 68 25 (.slice v6a ((t1l ++ ([((c,.slice v2a c.r.held.length v2c) : CV)] : List CV)).length) v6c) ((t1l ++ ([((c,.slice v2a c.r.held.length v2c) : CV)] : List CV)).map conR),rowF w.heap.size 68 25 (.slice (some ⟨g4,0,none⟩) 1 1) (([((c,.slice v2a c.r.held.length v2c) : CV)] : List CV).map conR),ownF w.heap.size (.slice v2a c.r.held.length v2c) 2 (c.r.held.map pceCells),hownF w.heap.size t1l,rowF w.heap.size 35 3 (.slice t1d t.waiting.length t1e) (t.waiting.map tupCells),slF (.slice Atc t.conns.length Ctc) 25 (t.conns.map conR),hldF t.conns,slF (.slice Atw t.waiting.length Ctw) 3 (t.waiting.map tupCells),slF (.slice Acrh c.r.held.length Ccrh) 2 (c.r.held.map pceCells)]⟩ (by kernel_rfl) rfl (by kernel_rfl) rfl (by kernel_rfl) (hv_bK (e := 35) (K := 3) (bytes := 24) [.agg (tupL c.t).toArray] (rs := ([c.t] : List Tup).map tupCells) rfl rfl) ?_
 intro g16
 refine kHD 0 [3,5,6,8,19,22] [] rfl (hv_append (e := 35) (K := 3) (bytes := 24) (i := 5) (q := (t.waiting ++ ([c.t] : List Tup)).length) (new := ([c.t] : List Tup).map tupCells) (rs' := (t.waiting ++ ([c.t] : List Tup)).map tupCells) rfl rfl rfl rfl (by kernel_rfl) (by kernel_rfl) (by kernel_rfl) rfl (by simp) (by rw [List.map_append]) (by simp) (fun ww hf => (rowF_sl (hf (rowF w.heap.size 35 3 (.slice (some ⟨g16,0,none⟩) 1 1) (([c.t] : List Tup).map tupCells)) (by simp)))) (by intro r hr; obtain ⟨x,hx,rfl⟩ := List.mem_map.1 hr; exact ⟨rfl,by simp [tupCells,Value.oneCell']⟩) (by (try simp only [List.length_map,List.length_append,List.length_cons,List.length_nil,List.length_take,List.length_drop,maxLen]); omega) (by (try simp only [List.length_map,List.length_append,List.length_cons,List.length_nil,List.length_take,List.length_drop,maxLen]); omega)) ?_
 rintro ⟨v17a,v17c⟩
 refine kEU [3,5,6,8] [] 4 ⟨33,[.slice v6a ((t1l ++ ([((c,.slice v2a c.r.held.length v2c) : CV)] : List CV)).length) v6c,.slice v17a ((t.waiting ++ ([c.t] : List Tup)).length) v17c]⟩ ?_
 refine kS ?_
 refine kS ?_
 refine xw_wk ((wk_pick [4,5,0,1,2,3,6,7,8,9] [ownF w.heap.size (.slice v2a c.r.held.length v2c) 2 (c.r.held.map pceCells),hownF w.heap.size t1l,rowF w.heap.size 35 3 (.slice v17a ((t.waiting ++ ([c.t] : List Tup)).length) v17c) ((t.waiting ++ ([c.t] : List Tup)).map tupCells),rowF w.heap.size 35 3 (.slice (some ⟨g16,0,none⟩) 1 1) (([c.t] : List Tup).map tupCells),rowF w.heap.size 68 25 (.slice v6a ((t1l ++ ([((c,.slice v2a c.r.held.length v2c) : CV)] : List CV)).length) v6c) ((t1l ++ ([((c,.slice v2a c.r.held.length v2c) : CV)] : List CV)).map conR),rowF w.heap.size 68 25 (.slice (some ⟨g4,0,none⟩) 1 1) (([((c,.slice v2a c.r.held.length v2c) : CV)] : List CV).map conR),slF (.slice Atc t.conns.length Ctc) 25 (t.conns.map conR),hldF t.conns,slF (.slice Atw t.waiting.length Ctw) 3 (t.waiting.map tupCells),slF (.slice Acrh c.r.held.length Ccrh) 2 (c.r.held.map pceCells)] (by kernel_rfl) (by kernel_rfl)).trans (wk_turn (fun _ _ _ _ h => hown_snoc (cs := t1l) (x := ((c,.slice v2a c.r.held.length v2c) : CV)) h))) ?_
 have hfn := fit_snoc (L := t1l) (c := c) (v := .slice v2a c.r.held.length v2c) hfit_t1l hfc
 have hpo := put_ok (t := t) (c := c) (l := l) (L := t1l) (v := .slice v2a c.r.held.length v2c) (W := (t.waiting ++ ([c.t] : List Tup))) ht1l rfl
 refine kG ?_
 refine kCF 2 [3,6,8,25,26] ⟨[(3,.p 0 0),(6,.p 3 0),(8,.p 4 0),(25,.v (.agg #[.slice v6a ((t1l ++ ([((c,.slice v2a c.r.held.length v2c) : CV)] : List CV)).length) v6c,.slice v17a ((t.waiting ++ ([c.t] : List Tup)).length) v17c])),(26,.v (.agg (limL l).toArray))],[⟨33,tabL t (.slice Atc t.conns.length Ctc) (.slice Atw t.waiting.length Ctw)⟩,⟨68,conL c (.slice Acrh c.r.held.length Ccrh)⟩,⟨43,limL l⟩,⟨33,[.slice none 0 0,.slice none 0 0]⟩,⟨33,[.slice v6a ((t1l ++ ([((c,.slice v2a c.r.held.length v2c) : CV)] : List CV)).length) v6c,.slice v17a ((t.waiting ++ ([c.t] : List Tup)).length) v17c]⟩],[],[hownF w.heap.size (t1l ++ ([((c,.slice v2a c.r.held.length v2c) : CV)] : List CV)),rowF w.heap.size 35 3 (.slice v17a ((t.waiting ++ ([c.t] : List Tup)).length) v17c) ((t.waiting ++ ([c.t] : List Tup)).map tupCells),rowF w.heap.size 35 3 (.slice (some ⟨g16,0,none⟩) 1 1) (([c.t] : List Tup).map tupCells),rowF w.heap.size 68 25 (.slice v6a ((t1l ++ ([((c,.slice v2a c.r.held.length v2c) : CV)] : List CV)).length) v6c) ((t1l ++ ([((c,.slice v2a c.r.held.length v2c) : CV)] : List CV)).map conR),rowF w.heap.size 68 25 (.slice (some ⟨g4,0,none⟩) 1 1) (([((c,.slice v2a c.r.held.length v2c) : CV)] : List CV).map conR),slF (.slice Atc t.conns.length Ctc) 25 (t.conns.map conR),hldF t.conns,slF (.slice Atw t.waiting.length Ctw) 3 (t.waiting.map tupCells),slF (.slice Acrh c.r.held.length Ccrh) 2 (c.r.held.map pceCells)]⟩ 18 [.agg #[.slice v6a ((t1l ++ ([((c,.slice v2a c.r.held.length v2c) : CV)] : List CV)).length) v6c,.slice v17a ((t.waiting ++ ([c.t] : List Tup)).length) v17c],.agg (limL l).toArray] (some 27) rfl (xc_b fun ww hf => ysTableOk_c (⟨(t1l ++ ([((c,.slice v2a c.r.held.length v2c) : CV)] : List CV)),(t.waiting ++ ([c.t] : List Tup))⟩) (.slice v6a ((t1l ++ ([((c,.slice v2a c.r.held.length v2c) : CV)] : List CV)).length) v6c) (.slice v17a ((t.waiting ++ ([c.t] : List Tup)).length) v17c) l ww (rowF_sl (hf _ m3)) (hownF_sl (hf _ m0)) (rowF_sl (hf _ m1)) (by assumption)) ?_
 intro _
 refine kED [3,6,8,28] [(28,.v (.bool (!(tableOk (⟨(t1l ++ ([((c,.slice v2a c.r.held.length v2c) : CV)] : List CV)),(t.waiting ++ ([c.t] : List Tup))⟩) l))))] ?_
 refine kC (!(tableOk (⟨(t1l ++ ([((c,.slice v2a c.r.held.length v2c) : CV)] : List CV)),(t.waiting ++ ([c.t] : List Tup))⟩) l)) (fun h18 => ?_) (fun h18 => ?_)
 have h18n := not_t h18
 have hpv : putOk t c l = false := hpo.symm.trans h18n
 refine kQ ?_
 refine kCD 1 [6,29] [(29,.v (.agg (tabL t (.slice Atc t.conns.length Ctc) (.slice Atw t.waiting.length Ctw)).toArray))] 54 [.agg (tabL t (.slice Atc t.conns.length Ctc) (.slice Atw t.waiting.length Ctw)).toArray] (some 30) rfl (xc_r fun ww hw hf => yl25Copy_c t (.slice Atc t.conns.length Ctc) (.slice Atw t.waiting.length Ctw) ww (hf _ m5) (hf _ m6) (hf _ m7) (by first | assumption | (dsimp only; assumption)) (by first | assumption | omega | (dsimp only; omega)) (by first | assumption | omega | (dsimp only; omega)) w.heap.size hw) ?_
 rintro ⟨⟨t19l,ht19l⟩,⟨t19a,t19c⟩,⟨t19d,t19e⟩⟩
 dsimp only
 have hfit_t19l : ∀ x ∈ t19l,conFit x.1 := conFit_pl ht19l (by assumption)
 have hlen_t19l := pl_len ht19l
 refine kEU [6,7] [(7,.v (.bool false))] 3 ⟨33,tabL { t with conns := t19l } (.slice t19a t19l.length t19c) (.slice t19d t.waiting.length t19e)⟩ ?_
 refine kR ?_
 have hmc : pl t19l = putP t c l := by unfold putP; rw [hpv,if_neg (by decide),ht19l]
 have hmw : (putW t c l) = t.waiting := by unfold putW; rw [hpv]; rfl
 have hm0 : (putOk t c l) = false := by exact hpv
 exact ⟨[.agg (tabL { t with conns := t19l } (.slice t19a t19l.length t19c) (.slice t19d t.waiting.length t19e)).toArray,.bool false],by kernel_rfl,fun w' hb hf ha => by rw [hmw,hm0]; exact xo3 (⟨t19l,hmc⟩,(t19a,t19c),(t19d,t19e)) rfl rfl (pW (hf _ m0) hB) (pH (hf _ m1) hB) (pW (hf _ m2) hB) (Apart.sub3 ha [0,1,2] rfl (by decide) rfl rfl rfl (by exact fun b h => h) (fun b h => hownF_blk h) (by exact fun b h => h)) hb⟩
 have h18n := not_f h18
 have hpv : putOk t c l = true := hpo.symm.trans h18n
 refine kK ?_
 refine kQ ?_
 refine kEU [6,7] [(7,.v (.bool true))] 3 ⟨33,[.slice v6a ((t1l ++ ([((c,.slice v2a c.r.held.length v2c) : CV)] : List CV)).length) v6c,.slice v17a ((t.waiting ++ ([c.t] : List Tup)).length) v17c]⟩ ?_
 refine kR ?_
 have hmc : pl (t1l ++ ([((c,.slice v2a c.r.held.length v2c) : CV)] : List CV)) = putP t c l := by unfold putP; rw [hpv,if_pos rfl,pl_snocc,ht1l]
 have hmw : (putW t c l) = (t.waiting ++ ([c.t] : List Tup)) := by unfold putW; rw [hpv]; rfl
 have hm0 : (putOk t c l) = true := by exact hpv
 exact ⟨[.agg #[.slice v6a ((t1l ++ ([((c,.slice v2a c.r.held.length v2c) : CV)] : List CV)).length) v6c,.slice v17a ((t.waiting ++ ([c.t] : List Tup)).length) v17c],.bool true],by kernel_rfl,fun w' hb hf ha => by rw [hmw,hm0]; exact xo3 (⟨(t1l ++ ([((c,.slice v2a c.r.held.length v2c) : CV)] : List CV)),hmc⟩,(v6a,v6c),(v17a,v17c)) rfl rfl (pW (hf _ m3) hB) (pH (hf _ m0) hB) (pW (hf _ m1) hB) (Apart.sub3 ha [3,0,1] rfl (by decide) rfl rfl rfl (by exact fun b h => h) (fun b h => hownF_blk h) (by exact fun b h => h)) hb⟩
theorem yiPutConn_c (t : Tab) (t_connsV : Value) (t_waitingV : Value) (c : Con) (c_r_heldV : Value) (l : Lim) (w : World) (hl_t_connsV : Sl w t_connsV 25 (t.conns.map conR)) (hh_t_connsV : ∀ x ∈ t.conns, Sl w x.2 2 (x.1.r.held.map pceCells)) (hl_t_waitingV : Sl w t_waitingV 3 (t.waiting.map tupCells)) (hl_c_r_heldV : Sl w c_r_heldV 2 (c.r.held.map pceCells)) (hfit : ∀ x ∈ t.conns, conFit x.1) (hln : t.conns.length ≤ 1048576) (hlw : t.waiting.length ≤ 1048576) (hfc : conFit c) (B : Nat) (hB : B ≤ w.heap.size) : Calls Try.prog 35 #[.agg (tabL t t_connsV t_waitingV).toArray, .agg (conL c c_r_heldV).toArray, .agg (limL l).toArray] w fun e w' => XRs w w' e (α := {cs : List CV // pl cs = putP t c l} × (Option Addr × Nat) × (Option Addr × Nat)) (fun y => .tuple #[.agg #[.slice y.2.1.1 y.1.1.length y.2.1.2, .slice y.2.2.1 ((putW t c l).length) y.2.2.2], .bool (putOk t c l)]) (fun y => [rowF B 68 25 (.slice y.2.1.1 y.1.1.length y.2.1.2) (y.1.1.map conR), hownF B y.1.1, rowF B 35 3 (.slice y.2.2.1 ((putW t c l).length) y.2.2.2) ((putW t c l).map tupCells)]) := by
 obtain ⟨Atc,Ctc,hvtc⟩ := hl_t_connsV.form
 rw [List.length_map] at hvtc; subst hvtc
 have hntc := hl_t_connsV.len; rw [List.length_map] at hntc
 have hqtc := Sl.capLe hl_t_connsV
 obtain ⟨Atw,Ctw,hvtw⟩ := hl_t_waitingV.form
 rw [List.length_map] at hvtw; subst hvtw
 have hntw := hl_t_waitingV.len; rw [List.length_map] at hntw
 have hqtw := Sl.capLe hl_t_waitingV
 obtain ⟨Acrh,Ccrh,hvcrh⟩ := hl_c_r_heldV.form
 rw [List.length_map] at hvcrh; subst hvcrh
 have hncrh := hl_c_r_heldV.len; rw [List.length_map] at hncrh
 have hqcrh := Sl.capLe hl_c_r_heldV
 have hkc := hfc.2.2.1
 refine x_callsA (args := [.agg (tabL t (.slice Atc t.conns.length Ctc) (.slice Atw t.waiting.length Ctw)).toArray,.agg (conL c (.slice Acrh c.r.held.length Ccrh)).toArray,.agg (limL l).toArray]) (fn := Try.f35) [slF (.slice Atc t.conns.length Ctc) 25 (t.conns.map conR),hldF t.conns,slF (.slice Atw t.waiting.length Ctw) 3 (t.waiting.map tupCells),slF (.slice Acrh c.r.held.length Ccrh) 2 (c.r.held.map pceCells)] Try.func35 rfl Try.ntmps35 rfl (by simp only [List.mem_cons,List.not_mem_nil,or_false,forall_eq_or_imp,forall_eq]; exact ⟨⟨rfl,hl_t_connsV⟩,⟨rfl,hh_t_connsV⟩,⟨rfl,hl_t_waitingV⟩,⟨rfl,hl_c_r_heldV⟩⟩) ?_
 refine kQ ?_
 refine kEF [3,4,5,6] ⟨[(3,.p 0 0),(4,.p 1 0),(5,.p 2 0),(6,.p 3 0)],[⟨33,tabL t (.slice Atc t.conns.length Ctc) (.slice Atw t.waiting.length Ctw)⟩,⟨68,conL c (.slice Acrh c.r.held.length Ccrh)⟩,⟨43,limL l⟩,⟨33,[.slice none 0 0,.slice none 0 0]⟩],[],[slF (.slice Atc t.conns.length Ctc) 25 (t.conns.map conR),hldF t.conns,slF (.slice Atw t.waiting.length Ctw) 3 (t.waiting.map tupCells),slF (.slice Acrh c.r.held.length Ccrh) 2 (c.r.held.map pceCells)]⟩ ?_
 refine kQ ?_
 refine kCD 1 [3,4,5,6,9] [(9,.v (.agg (tabL t (.slice Atc t.conns.length Ctc) (.slice Atw t.waiting.length Ctw)).toArray))] 55 [.agg (tabL t (.slice Atc t.conns.length Ctc) (.slice Atw t.waiting.length Ctw)).toArray] (some 10) rfl (xc_r fun ww hw hf => ycloneTable_c t (.slice Atc t.conns.length Ctc) (.slice Atw t.waiting.length Ctw) ww (hf _ m0) (hf _ m1) (hf _ m2) (by first | assumption | (dsimp only; assumption)) (by first | assumption | omega | (dsimp only; omega)) (by first | assumption | omega | (dsimp only; omega)) w.heap.size hw) ?_
 rintro ⟨⟨t1l,ht1l⟩,⟨t1a,t1c⟩,⟨t1d,t1e⟩⟩
 dsimp only
 have hfit_t1l : ∀ x ∈ t1l,conFit x.1 := conFit_pl ht1l (by assumption)
 have hlen_t1l := pl_len ht1l
 refine kEA [3,4,5,6,8] [(8,.p 4 0)] [⟨33,tabL { t with conns := t1l } (.slice t1a t1l.length t1c) (.slice t1d t.waiting.length t1e)⟩] ?_
 refine kS ?_
 refine xw_joinE (α := Option Addr × Nat × Option Addr × Nat × Nat) (fun y => (fun (v2a : Option Addr) (v2c : Nat) (v6a : Option Addr) (v6c : Nat) (g4 : Nat) => (⟨[(3,.p 0 0),(4,.p 1 0),(5,.p 2 0),(6,.p 3 0),(8,.p 4 0)],[⟨33,tabL t (.slice Atc t.conns.length Ctc) (.slice Atw t.waiting.length Ctw)⟩,⟨68,conL c (.slice Acrh c.r.held.length Ccrh)⟩,⟨43,limL l⟩,⟨33,[.slice none 0 0,.slice none 0 0]⟩,⟨33,tabL { t with conns := (t1l ++ ([((c,.slice v2a c.r.held.length v2c) : CV)] : List CV)) } (.slice v6a ((t1l ++ ([((c,.slice v2a c.r.held.length v2c) : CV)] : List CV)).length) v6c) (.slice t1d t.waiting.length t1e)⟩],[],[rowF w.heap.size 68 25 (.slice v6a ((t1l ++ ([((c,.slice v2a c.r.held.length v2c) : CV)] : List CV)).length) v6c) ((t1l ++ ([((c,.slice v2a c.r.held.length v2c) : CV)] : List CV)).map conR),rowF w.heap.size 68 25 (.slice (some ⟨g4,0,none⟩) 1 1) (([((c,.slice v2a c.r.held.length v2c) : CV)] : List CV).map conR),ownF w.heap.size (.slice v2a c.r.held.length v2c) 2 (c.r.held.map pceCells),hownF w.heap.size t1l,rowF w.heap.size 35 3 (.slice t1d t.waiting.length t1e) (t.waiting.map tupCells),slF (.slice Atc t.conns.length Ctc) 25 (t.conns.map conR),hldF t.conns,slF (.slice Atw t.waiting.length Ctw) 3 (t.waiting.map tupCells),slF (.slice Acrh c.r.held.length Ccrh) 2 (c.r.held.map pceCells)]⟩ : St)) y.1 y.2.1 y.2.2.1 y.2.2.2.1 y.2.2.2.2) ?_ ?_
 refine xe_region0 [true,true,true,true,false] (by kernel_rfl) (fun ρ σ => ?_)
 refine kTD [0,2] [13,11,3,4,5,6,8] 6 [(13,.v (.agg (conL c (.slice Acrh c.r.held.length Ccrh)).toArray)),(11,.p 4 0)] ?_
 refine kA [1,3] ⟨?_,?_⟩
 refine kSV 1 (.v (.slice t1a t1l.length t1c)) rfl ?_
 refine kA [3] ?_
 refine kSC 3 66 [.agg (conL c (.slice Acrh c.r.held.length Ccrh)).toArray] (some 14) rfl (xc_r fun ww hw hf => ycloneConn_c c (.slice Acrh c.r.held.length Ccrh) ww (hf _ m6) (by assumption) w.heap.size hw) ?_
 rintro ⟨v2a,v2c⟩
 refine kA [4] ?_
 refine kSH 4 rfl (under_t (under_t (under_t (under_t (under_f rfl under_nil))))) (hv_bK (e := 68) (K := 25) (bytes := 208) [.agg (conL c (.slice v2a c.r.held.length v2c)).toArray] (rs := ([((c,.slice v2a c.r.held.length v2c) : CV)] : List CV).map conR) (by rfl) rfl) ?_
 intro g4
 refine kA [5] ?_
 refine kSH 5 rfl (under_t (under_t (under_t (under_t (under_f rfl under_nil))))) (hv_append (e := 68) (K := 25) (bytes := 208) (i := 2) (q := (t1l ++ ([((c,.slice v2a c.r.held.length v2c) : CV)] : List CV)).length) (new := ([((c,.slice v2a c.r.held.length v2c) : CV)] : List CV).map conR) (rs' := (t1l ++ ([((c,.slice v2a c.r.held.length v2c) : CV)] : List CV)).map conR) rfl rfl rfl rfl (by kernel_rfl) (by kernel_rfl) (by kernel_rfl) rfl (by simp) (by rw [List.map_append]) (by simp) (fun ww hf => (rowF_sl (hf (rowF w.heap.size 68 25 (.slice (some ⟨g4,0,none⟩) 1 1) (([((c,.slice v2a c.r.held.length v2c) : CV)] : List CV).map conR)) (by simp)))) (by intro r hr; simp only [List.map_cons,List.map_nil,List.mem_singleton] at hr; subst hr; exact ⟨rfl,by simp [conR,conL,Value.oneCell']⟩) (by (try simp only [List.length_map,List.length_append,List.length_cons,List.length_nil,List.length_take,List.length_drop,maxLen]); omega) (by (try simp only [List.length_map,List.length_append,List.length_cons,List.length_nil,List.length_take,List.length_drop,maxLen]); omega)) ?_
 rintro ⟨v6a,v6c⟩
 refine kTD [6] [17,16,3,4,5,6,8] 1 [(17,.p 4 0)] ?_
 refine kA [7] ?_
 refine kSS 7 4 0 [.slice v6a ((t1l ++ ([((c,.slice v2a c.r.held.length v2c) : CV)] : List CV)).length) v6c] rfl ?_
 refine kZ ?_
 exact ⟨(v2a,v2c,v6a,v6c,g4),kF 5 0 [3,4,5,6,8]⟩
 refine kSC 3 66 [.agg (conL c (.slice Acrh c.r.held.length Ccrh)).toArray] (some 14) rfl (xc_r fun ww hw hf => ycloneConn_c c (.slice Acrh c.r.held.length Ccrh) ww (hf _ m6) (by assumption) w.heap.size hw) ?_
 rintro ⟨v7a,v7c⟩
 refine kA [1,4] ⟨?_,?_⟩
 refine kSV 1 (.v (.slice t1a t1l.length t1c)) rfl ?_
 refine kA [4] ?_
 refine kSH 4 rfl (under_t (under_t (under_t (under_t (under_f rfl under_nil))))) (hv_bK (e := 68) (K := 25) (bytes := 208) [.agg (conL c (.slice v7a c.r.held.length v7c)).toArray] (rs := ([((c,.slice v7a c.r.held.length v7c) : CV)] : List CV).map conR) (by rfl) rfl) ?_
 intro g10
 refine kA [5] ?_
 refine kSH 5 rfl (under_t (under_t (under_t (under_t (under_f rfl under_nil))))) (hv_append (e := 68) (K := 25) (bytes := 208) (i := 2) (q := (t1l ++ ([((c,.slice v7a c.r.held.length v7c) : CV)] : List CV)).length) (new := ([((c,.slice v7a c.r.held.length v7c) : CV)] : List CV).map conR) (rs' := (t1l ++ ([((c,.slice v7a c.r.held.length v7c) : CV)] : List CV)).map conR) rfl rfl rfl rfl (by kernel_rfl) (by kernel_rfl) (by kernel_rfl) rfl (by simp) (by rw [List.map_append]) (by simp) (fun ww hf => (rowF_sl (hf (rowF w.heap.size 68 25 (.slice (some ⟨g10,0,none⟩) 1 1) (([((c,.slice v7a c.r.held.length v7c) : CV)] : List CV).map conR)) (by simp)))) (by intro r hr; simp only [List.map_cons,List.map_nil,List.mem_singleton] at hr; subst hr; exact ⟨rfl,by simp [conR,conL,Value.oneCell']⟩) (by (try simp only [List.length_map,List.length_append,List.length_cons,List.length_nil,List.length_take,List.length_drop,maxLen]); omega) (by (try simp only [List.length_map,List.length_append,List.length_cons,List.length_nil,List.length_take,List.length_drop,maxLen]); omega)) ?_
 rintro ⟨v12a,v12c⟩
 refine kTD [6] [17,16,3,4,5,6,8] 1 [(17,.p 4 0)] ?_
 refine kA [7] ?_
 refine kSS 7 4 0 [.slice v12a ((t1l ++ ([((c,.slice v7a c.r.held.length v7c) : CV)] : List CV)).length) v12c] rfl ?_
 refine kZ ?_
 exact ⟨(v7a,v7c,v12a,v12c,g10),kF 5 0 [3,4,5,6,8]⟩
 refine kSH 4 rfl (under_t (under_t (under_t (under_t (under_f rfl under_nil))))) (hv_bK (e := 68) (K := 25) (bytes := 208) [.agg (conL c (.slice v7a c.r.held.length v7c)).toArray] (rs := ([((c,.slice v7a c.r.held.length v7c) : CV)] : List CV).map conR) (by rfl) rfl) ?_
 intro g13
 refine kA [1] ?_
 refine kSV 1 (.v (.slice t1a t1l.length t1c)) rfl ?_
 refine kA [5] ?_
 refine kSH 5 rfl (under_t (under_t (under_t (under_t (under_f rfl under_nil))))) (hv_append (e := 68) (K := 25) (bytes := 208) (i := 2) (q := (t1l ++ ([((c,.slice v7a c.r.held.length v7c) : CV)] : List CV)).length) (new := ([((c,.slice v7a c.r.held.length v7c) : CV)] : List CV).map conR) (rs' := (t1l ++ ([((c,.slice v7a c.r.held.length v7c) : CV)] : List CV)).map conR) rfl rfl rfl rfl (by kernel_rfl) (by kernel_rfl) (by kernel_rfl) rfl (by simp) (by rw [List.map_append]) (by simp) (fun ww hf => (rowF_sl (hf (rowF w.heap.size 68 25 (.slice (some ⟨g13,0,none⟩) 1 1) (([((c,.slice v7a c.r.held.length v7c) : CV)] : List CV).map conR)) (by simp)))) (by intro r hr; simp only [List.map_cons,List.map_nil,List.mem_singleton] at hr; subst hr; exact ⟨rfl,by simp [conR,conL,Value.oneCell']⟩) (by (try simp only [List.length_map,List.length_append,List.length_cons,List.length_nil,List.length_take,List.length_drop,maxLen]); omega) (by (try simp only [List.length_map,List.length_append,List.length_cons,List.length_nil,List.length_take,List.length_drop,maxLen]); omega)) ?_
 rintro ⟨v15a,v15c⟩
 refine kTD [6] [17,16,3,4,5,6,8] 1 [(17,.p 4 0)] ?_
 refine kA [7] ?_
 refine kSS 7 4 0 [.slice v15a ((t1l ++ ([((c,.slice v7a c.r.held.length v7c) : CV)] : List CV)).length) v15c] rfl ?_
 refine kZ ?_
 exact ⟨(v7a,v7c,v15a,v15c,g13),kF 5 0 [3,4,5,6,8]⟩
 rintro ⟨v2a,v2c,v6a,v6c,g4⟩
 refine kQ ?_
 refine xl_hv 4 [3,5,6,8,19,21] ⟨[(3,.p 0 0),(5,.p 2 0),(6,.p 3 0),(8,.p 4 0),(19,.v (.slice t1d t.waiting.length t1e)),(21,.v (.agg (tupL c.t).toArray))],[⟨33,tabL t (.slice Atc t.conns.length Ctc) (.slice Atw t.waiting.length Ctw)⟩,⟨68,conL c (.slice Acrh c.r.held.length Ccrh)⟩,⟨43,limL l⟩,⟨33,[.slice none 0 0,.slice none 0 0]⟩,⟨33,tabL { t with conns := (t1l ++ ([((c,.slice v2a c.r.held.length v2c) : CV)] : List CV)) } (.slice v6a ((t1l ++ ([((c,.slice v2a c.r.held.length v2c) : CV)] : List CV)).length) v6c) (.slice t1d t.waiting.length t1e)⟩],[],[rowF w.heap.size 68 25 (.slice v6a ((t1l ++ ([((c,.slice v2a c.r.held.length v2c) : CV)] : List CV)).length) v6c) ((t1l ++ ([((c,.slice v2a c.r.held.length v2c) : CV)] : List CV)).map conR),rowF w.heap.size 68 25 (.slice (some ⟨g4,0,none⟩) 1 1) (([((c,.slice v2a c.r.held.length v2c) : CV)] : List CV).map conR),ownF w.heap.size (.slice v2a c.r.held.length v2c) 2 (c.r.held.map pceCells),hownF w.heap.size t1l,rowF w.heap.size 35 3 (.slice t1d t.waiting.length t1e) (t.waiting.map tupCells),slF (.slice Atc t.conns.length Ctc) 25 (t.conns.map conR),hldF t.conns,slF (.slice Atw t.waiting.length Ctw) 3 (t.waiting.map tupCells),slF (.slice Acrh c.r.held.length Ccrh) 2 (c.r.held.map pceCells)]⟩ (by kernel_rfl) rfl (by kernel_rfl) rfl (by kernel_rfl) (hv_bK (e := 35) (K := 3) (bytes := 24) [.agg (tupL c.t).toArray] (rs := ([c.t] : List Tup).map tupCells) rfl rfl) ?_
 intro g16
 refine kHD 0 [3,5,6,8,19,22] [] rfl (hv_append (e := 35) (K := 3) (bytes := 24) (i := 5) (q := (t.waiting ++ ([c.t] : List Tup)).length) (new := ([c.t] : List Tup).map tupCells) (rs' := (t.waiting ++ ([c.t] : List Tup)).map tupCells) rfl rfl rfl rfl (by kernel_rfl) (by kernel_rfl) (by kernel_rfl) rfl (by simp) (by rw [List.map_append]) (by simp) (fun ww hf => (rowF_sl (hf (rowF w.heap.size 35 3 (.slice (some ⟨g16,0,none⟩) 1 1) (([c.t] : List Tup).map tupCells)) (by simp)))) (by intro r hr; obtain ⟨x,hx,rfl⟩ := List.mem_map.1 hr; exact ⟨rfl,by simp [tupCells,Value.oneCell']⟩) (by (try simp only [List.length_map,List.length_append,List.length_cons,List.length_nil,List.length_take,List.length_drop,maxLen]); omega) (by (try simp only [List.length_map,List.length_append,List.length_cons,List.length_nil,List.length_take,List.length_drop,maxLen]); omega)) ?_
 rintro ⟨v17a,v17c⟩
 refine kEU [3,5,6,8] [] 4 ⟨33,[.slice v6a ((t1l ++ ([((c,.slice v2a c.r.held.length v2c) : CV)] : List CV)).length) v6c,.slice v17a ((t.waiting ++ ([c.t] : List Tup)).length) v17c]⟩ ?_
 refine kS ?_
 refine kS ?_
 refine xw_wk ((wk_pick [4,5,0,1,2,3,6,7,8,9] [ownF w.heap.size (.slice v2a c.r.held.length v2c) 2 (c.r.held.map pceCells),hownF w.heap.size t1l,rowF w.heap.size 35 3 (.slice v17a ((t.waiting ++ ([c.t] : List Tup)).length) v17c) ((t.waiting ++ ([c.t] : List Tup)).map tupCells),rowF w.heap.size 35 3 (.slice (some ⟨g16,0,none⟩) 1 1) (([c.t] : List Tup).map tupCells),rowF w.heap.size 68 25 (.slice v6a ((t1l ++ ([((c,.slice v2a c.r.held.length v2c) : CV)] : List CV)).length) v6c) ((t1l ++ ([((c,.slice v2a c.r.held.length v2c) : CV)] : List CV)).map conR),rowF w.heap.size 68 25 (.slice (some ⟨g4,0,none⟩) 1 1) (([((c,.slice v2a c.r.held.length v2c) : CV)] : List CV).map conR),slF (.slice Atc t.conns.length Ctc) 25 (t.conns.map conR),hldF t.conns,slF (.slice Atw t.waiting.length Ctw) 3 (t.waiting.map tupCells),slF (.slice Acrh c.r.held.length Ccrh) 2 (c.r.held.map pceCells)] (by kernel_rfl) (by kernel_rfl)).trans (wk_turn (fun _ _ _ _ h => hown_snoc (cs := t1l) (x := ((c,.slice v2a c.r.held.length v2c) : CV)) h))) ?_
 have hfn := fit_snoc (L := t1l) (c := c) (v := .slice v2a c.r.held.length v2c) hfit_t1l hfc
 have hpo := put_ok (t := t) (c := c) (l := l) (L := t1l) (v := .slice v2a c.r.held.length v2c) (W := (t.waiting ++ ([c.t] : List Tup))) ht1l rfl
 refine kG ?_
 refine kCF 2 [3,6,8,25,26] ⟨[(3,.p 0 0),(6,.p 3 0),(8,.p 4 0),(25,.v (.agg #[.slice v6a ((t1l ++ ([((c,.slice v2a c.r.held.length v2c) : CV)] : List CV)).length) v6c,.slice v17a ((t.waiting ++ ([c.t] : List Tup)).length) v17c])),(26,.v (.agg (limL l).toArray))],[⟨33,tabL t (.slice Atc t.conns.length Ctc) (.slice Atw t.waiting.length Ctw)⟩,⟨68,conL c (.slice Acrh c.r.held.length Ccrh)⟩,⟨43,limL l⟩,⟨33,[.slice none 0 0,.slice none 0 0]⟩,⟨33,[.slice v6a ((t1l ++ ([((c,.slice v2a c.r.held.length v2c) : CV)] : List CV)).length) v6c,.slice v17a ((t.waiting ++ ([c.t] : List Tup)).length) v17c]⟩],[],[hownF w.heap.size (t1l ++ ([((c,.slice v2a c.r.held.length v2c) : CV)] : List CV)),rowF w.heap.size 35 3 (.slice v17a ((t.waiting ++ ([c.t] : List Tup)).length) v17c) ((t.waiting ++ ([c.t] : List Tup)).map tupCells),rowF w.heap.size 35 3 (.slice (some ⟨g16,0,none⟩) 1 1) (([c.t] : List Tup).map tupCells),rowF w.heap.size 68 25 (.slice v6a ((t1l ++ ([((c,.slice v2a c.r.held.length v2c) : CV)] : List CV)).length) v6c) ((t1l ++ ([((c,.slice v2a c.r.held.length v2c) : CV)] : List CV)).map conR),rowF w.heap.size 68 25 (.slice (some ⟨g4,0,none⟩) 1 1) (([((c,.slice v2a c.r.held.length v2c) : CV)] : List CV).map conR),slF (.slice Atc t.conns.length Ctc) 25 (t.conns.map conR),hldF t.conns,slF (.slice Atw t.waiting.length Ctw) 3 (t.waiting.map tupCells),slF (.slice Acrh c.r.held.length Ccrh) 2 (c.r.held.map pceCells)]⟩ 20 [.agg #[.slice v6a ((t1l ++ ([((c,.slice v2a c.r.held.length v2c) : CV)] : List CV)).length) v6c,.slice v17a ((t.waiting ++ ([c.t] : List Tup)).length) v17c],.agg (limL l).toArray] (some 27) rfl (xc_b fun ww hf => yiTableOk_c (⟨(t1l ++ ([((c,.slice v2a c.r.held.length v2c) : CV)] : List CV)),(t.waiting ++ ([c.t] : List Tup))⟩) (.slice v6a ((t1l ++ ([((c,.slice v2a c.r.held.length v2c) : CV)] : List CV)).length) v6c) (.slice v17a ((t.waiting ++ ([c.t] : List Tup)).length) v17c) l ww (rowF_sl (hf _ m3)) (hownF_sl (hf _ m0)) (rowF_sl (hf _ m1)) (by assumption)) ?_
 intro _
 refine kED [3,6,8,28] [(28,.v (.bool (!(tableOk (⟨(t1l ++ ([((c,.slice v2a c.r.held.length v2c) : CV)] : List CV)),(t.waiting ++ ([c.t] : List Tup))⟩) l))))] ?_
 refine kC (!(tableOk (⟨(t1l ++ ([((c,.slice v2a c.r.held.length v2c) : CV)] : List CV)),(t.waiting ++ ([c.t] : List Tup))⟩) l)) (fun h18 => ?_) (fun h18 => ?_)
 have h18n := not_t h18
 have hpv : putOk t c l = false := hpo.symm.trans h18n
 refine kQ ?_
 refine kCD 1 [6,29] [(29,.v (.agg (tabL t (.slice Atc t.conns.length Ctc) (.slice Atw t.waiting.length Ctw)).toArray))] 55 [.agg (tabL t (.slice Atc t.conns.length Ctc) (.slice Atw t.waiting.length Ctw)).toArray] (some 30) rfl (xc_r fun ww hw hf => ycloneTable_c t (.slice Atc t.conns.length Ctc) (.slice Atw t.waiting.length Ctw) ww (hf _ m5) (hf _ m6) (hf _ m7) (by first | assumption | (dsimp only; assumption)) (by first | assumption | omega | (dsimp only; omega)) (by first | assumption | omega | (dsimp only; omega)) w.heap.size hw) ?_
 rintro ⟨⟨t19l,ht19l⟩,⟨t19a,t19c⟩,⟨t19d,t19e⟩⟩
 dsimp only
 have hfit_t19l : ∀ x ∈ t19l,conFit x.1 := conFit_pl ht19l (by assumption)
 have hlen_t19l := pl_len ht19l
 refine kEU [6,7] [(7,.v (.bool false))] 3 ⟨33,tabL { t with conns := t19l } (.slice t19a t19l.length t19c) (.slice t19d t.waiting.length t19e)⟩ ?_
 refine kR ?_
 have hmc : pl t19l = putP t c l := by unfold putP; rw [hpv,if_neg (by decide),ht19l]
 have hmw : (putW t c l) = t.waiting := by unfold putW; rw [hpv]; rfl
 have hm0 : (putOk t c l) = false := by exact hpv
 exact ⟨[.agg (tabL { t with conns := t19l } (.slice t19a t19l.length t19c) (.slice t19d t.waiting.length t19e)).toArray,.bool false],by kernel_rfl,fun w' hb hf ha => by rw [hmw,hm0]; exact xo3 (⟨t19l,hmc⟩,(t19a,t19c),(t19d,t19e)) rfl rfl (pW (hf _ m0) hB) (pH (hf _ m1) hB) (pW (hf _ m2) hB) (Apart.sub3 ha [0,1,2] rfl (by decide) rfl rfl rfl (by exact fun b h => h) (fun b h => hownF_blk h) (by exact fun b h => h)) hb⟩
 have h18n := not_f h18
 have hpv : putOk t c l = true := hpo.symm.trans h18n
 refine kK ?_
 refine kQ ?_
 refine kEU [6,7] [(7,.v (.bool true))] 3 ⟨33,[.slice v6a ((t1l ++ ([((c,.slice v2a c.r.held.length v2c) : CV)] : List CV)).length) v6c,.slice v17a ((t.waiting ++ ([c.t] : List Tup)).length) v17c]⟩ ?_
 refine kR ?_
 have hmc : pl (t1l ++ ([((c,.slice v2a c.r.held.length v2c) : CV)] : List CV)) = putP t c l := by unfold putP; rw [hpv,if_pos rfl,pl_snocc,ht1l]
 have hmw : (putW t c l) = (t.waiting ++ ([c.t] : List Tup)) := by unfold putW; rw [hpv]; rfl
 have hm0 : (putOk t c l) = true := by exact hpv
 exact ⟨[.agg #[.slice v6a ((t1l ++ ([((c,.slice v2a c.r.held.length v2c) : CV)] : List CV)).length) v6c,.slice v17a ((t.waiting ++ ([c.t] : List Tup)).length) v17c],.bool true],by kernel_rfl,fun w' hb hf ha => by rw [hmw,hm0]; exact xo3 (⟨(t1l ++ ([((c,.slice v2a c.r.held.length v2c) : CV)] : List CV)),hmc⟩,(v6a,v6c),(v17a,v17c)) rfl rfl (pW (hf _ m3) hB) (pH (hf _ m0) hB) (pW (hf _ m1) hB) (Apart.sub3 ha [3,0,1] rfl (by decide) rfl rfl rfl (by exact fun b h => h) (fun b h => hownF_blk h) (by exact fun b h => h)) hb⟩
end Go.Proofs.Ytnhpmgcllclhfaa
