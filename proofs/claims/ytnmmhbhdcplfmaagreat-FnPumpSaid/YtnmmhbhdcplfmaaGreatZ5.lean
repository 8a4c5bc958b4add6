/- Contracts that this law needs, part 5. -/
import Derived.Test.YtnmmhbhdcplfmaaGreatZ4
namespace Go.Proofs.YtnmmhbhdcplfmaaGreat
open Go.RowKit
set_option linter.unusedVariables false
set_option linter.unusedSimpArgs false
set_option maxRecDepth 100000
set_option maxHeartbeats 2000000

theorem l19Bent_c (g : Nat) (code : List Int) (A : Option Addr) (cap : Nat) (w : World) (B : Nat) (hB : B ≤ w.heap.size) (hc : (curF B g 100 (.slice A code.length cap) code.length).p w) (hl : Sl w (.slice A code.length cap) 1 (code.map byteRow)) (hap : ¬ (slF (.slice A code.length cap) 1 (code.map byteRow)).blk g) (hn : code.length ≤ 1048576) : Calls Tryz.prog 63 #[.pointer (some ⟨g, 0, none⟩)] w fun e w' => ∃ y : {y : Con × (Option Addr × Nat) // RB 4 y.1.r}, e = .returned (.agg (conL y.1.1 (.slice y.1.2.1 y.1.1.r.held.length y.1.2.2)).toArray) ∧ (curF B g 100 (.slice A code.length cap) code.length).p w' ∧ (newF w.heap.size (.slice y.1.2.1 y.1.1.r.held.length y.1.2.2) 2 (y.1.1.r.held.map pceCells)).p w' ∧ g < w.heap.size ∧ Chgd (fun b => b = g) w w' := by
 have hq_code := Sl.capLe hl
 have hBw : B ≤ (cutW w B).heap.size := Nat.le_of_eq (cutW_size hB).symm
 have hlo : ∀ (ww : World) (b : Nat),(curF B g 100 (.slice A code.length cap) code.length).p ww → (curF B g 100 (.slice A code.length cap) code.length).blk b → (cutW w B).heap.size ≤ b := fun ww b h hb => Nat.le_trans (cutW_le w B) (cur_lo h hb)
 refine x_callsMA (args := [.pointer (some ⟨g,0,none⟩)]) (fn := Tryz.f63) [curF B g 100 (.slice A code.length cap) code.length,slF (.slice A code.length cap) 1 (code.map byteRow),frF w (fun b => b = g)] B Tryz.func63 rfl Tryz.ntmps63 rfl hB (by simp only [List.mem_cons,List.not_mem_nil,or_false,forall_eq_or_imp,forall_eq]; exact ⟨hc,hl,frF_start w _⟩) (apart_cur hap rfl) ?_
 have hgl : g < w.heap.size := (curF B g 100 (.slice A code.length cap) code.length).lt w g hc rfl
 refine kQ ?_
 refine kEF [0,2] ⟨[(0,.v (.pointer (some ⟨g,0,none⟩))),(2,.p 0 0)],[⟨34,conZ⟩],[],[curF B g 100 (.slice A code.length cap) code.length,slF (.slice A code.length cap) 1 (code.map byteRow),frF w (fun b => b = g)]⟩ ?_
 refine kQ ?_
 refine kWD 1 [0,2,4] [(4,.v (.pointer (some ⟨g,0,none⟩)))] 107 [.pointer (some ⟨g,0,none⟩)] (some 5) 0 rfl rfl hlo (xcm_curN fun ww hw hf => l19Conn_c g code A cap ww B (Nat.le_trans (by first | exact Nat.le_refl _ | exact Nat.le_of_eq (cutW_size hB).symm) hw) (hf (curF B g 100 (.slice A code.length cap) code.length) (by simp)) (hf _ m1) hap (by omega)) ?_
 rintro ⟨⟨b1m,b1a,b1c⟩,hb1⟩
 dsimp only at hb1
 have hb1n := hb1.1
 refine kEA [0,2,3] [(3,.p 1 0)] [⟨34,conL b1m (.slice b1a b1m.r.held.length b1c)⟩] ?_
 refine kS ?_
 refine kQ ?_
 refine kWD 1 [0,2,3,6] [(6,.v (.pointer (some ⟨g,0,none⟩)))] 86 [.pointer (some ⟨g,0,none⟩),.int .i64 16] (some 7) 1 rfl rfl hlo (l1Below_c_K hBw hap) ?_
 rintro ⟨y2,hy2⟩
 obtain ⟨hy20,hy21⟩ := hy2
 refine kED [0,2,3,7] [] ?_
 refine xw_block ?_
 refine kQ ?_
 refine kED [0,2,3,7,8] [(8,.v (.bool (y2 == 0)))] ?_
 refine kC (y2 == 0) (fun h3 => ?_) (fun h3 => ?_)
 have h3p := eqT h3
 refine kG ?_
 refine kWD 1 [2,3,10] [(10,.v (.pointer (some ⟨g,0,none⟩)))] 86 [.pointer (some ⟨g,0,none⟩),.int .i64 11] (some 11) 0 rfl rfl hlo (l1Below_c_K hBw hap) ?_
 rintro ⟨y4,hy4⟩
 obtain ⟨hy40,hy41⟩ := hy4
 refine kEU [2,3] [] 1 ⟨34,conL { b1m with state := IntKind.i64.wrap (y4 - 1) } (.slice b1a b1m.r.held.length b1c)⟩ ?_
 refine kQ ?_
 refine kEU [2] [(2,.p 0 0)] 0 ⟨34,conL { b1m with state := IntKind.i64.wrap (y4 - 1) } (.slice b1a b1m.r.held.length b1c)⟩ ?_
 refine kR ?_
 exact ⟨[.agg (conL { b1m with state := IntKind.i64.wrap (y4 - 1) } (.slice b1a b1m.r.held.length b1c)).toArray],by kernel_rfl,fun w' hb hf ha => ⟨⟨({ b1m with state := IntKind.i64.wrap (y4 - 1) },b1a,b1c),hb1⟩,rfl,hf (curF B g 100 (.slice A code.length cap) code.length) (by simp),newF_new (hf (newF (cutW w B).heap.size (.slice b1a b1m.r.held.length b1c) 2 (b1m.r.held.map pceCells)) (by simp)) (own_new ha (i := 1) (j := 0) (k := 3) rfl rfl rfl rfl (by decide) (by decide)),hgl,frF_chgd (hf (frF w (fun b => b = g)) (by simp)) hb rfl rfl rfl⟩⟩
 have h3p := eqF h3
 refine kQ ?_
 refine kED [0,2,3,7,14] [(14,.v (.bool (y2 == 1)))] ?_
 refine kC (y2 == 1) (fun h5 => ?_) (fun h5 => ?_)
 have h5p := eqT h5
 refine kG ?_
 refine kWD 1 [2,3,16] [(16,.v (.pointer (some ⟨g,0,none⟩)))] 108 [.pointer (some ⟨g,0,none⟩)] (some 17) 0 rfl rfl hlo (l17Bent_c_K hBw hap) ?_
 rintro ⟨y6,hy6⟩
 refine kEU [2,3] [] 1 ⟨34,conL { b1m with s := y6 } (.slice b1a b1m.r.held.length b1c)⟩ ?_
 refine kQ ?_
 refine kEU [2] [(2,.p 0 0)] 0 ⟨34,conL { b1m with s := y6 } (.slice b1a b1m.r.held.length b1c)⟩ ?_
 refine kR ?_
 exact ⟨[.agg (conL { b1m with s := y6 } (.slice b1a b1m.r.held.length b1c)).toArray],by kernel_rfl,fun w' hb hf ha => ⟨⟨({ b1m with s := y6 },b1a,b1c),hb1⟩,rfl,hf (curF B g 100 (.slice A code.length cap) code.length) (by simp),newF_new (hf (newF (cutW w B).heap.size (.slice b1a b1m.r.held.length b1c) 2 (b1m.r.held.map pceCells)) (by simp)) (own_new ha (i := 1) (j := 0) (k := 3) rfl rfl rfl rfl (by decide) (by decide)),hgl,frF_chgd (hf (frF w (fun b => b = g)) (by simp)) hb rfl rfl rfl⟩⟩
 have h5p := eqF h5
 refine kQ ?_
 refine kED [0,2,3,7,19] [(19,.v (.bool (y2 == 2)))] ?_
 refine kC (y2 == 2) (fun h7 => ?_) (fun h7 => ?_)
 have h7p := eqT h7
 refine kG ?_
 refine kWD 1 [2,3,21] [(21,.v (.pointer (some ⟨g,0,none⟩)))] 109 [.pointer (some ⟨g,0,none⟩)] (some 22) 0 rfl rfl hlo (xcm_curR fun ww hw hf => l18Bent_c g code A cap ww B (Nat.le_trans (by first | exact Nat.le_refl _ | exact Nat.le_of_eq (cutW_size hB).symm) hw) (hf (curF B g 100 (.slice A code.length cap) code.length) (by simp)) (hf _ m2) hap (by omega)) ?_
 rintro ⟨⟨b8m,b8a,b8c⟩,hb8⟩
 dsimp only at hb8
 have hb8n := hb8.1
 refine kEU [2,3] [] 1 ⟨34,conL { b1m with r := b8m } (.slice b8a b8m.held.length b8c)⟩ ?_
 refine kQ ?_
 refine kEU [2] [(2,.p 0 0)] 0 ⟨34,conL { b1m with r := b8m } (.slice b8a b8m.held.length b8c)⟩ ?_
 refine kR ?_
 exact ⟨[.agg (conL { b1m with r := b8m } (.slice b8a b8m.held.length b8c)).toArray],by kernel_rfl,fun w' hb hf ha => ⟨⟨({ b1m with r := b8m },b8a,b8c),hb8⟩,rfl,hf (curF B g 100 (.slice A code.length cap) code.length) (by simp),newF_row (hf (rowF (cutW w B).heap.size 108 2 (.slice b8a b8m.held.length b8c) (b8m.held.map pceCells)) (by simp)) (own_new ha (i := 0) (j := 1) (k := 4) rfl rfl rfl rfl (by decide) (by decide)),hgl,frF_chgd (hf (frF w (fun b => b = g)) (by simp)) hb rfl rfl rfl⟩⟩
 have h7p := eqF h7
 refine kQ ?_
 refine kED [0,2,3,7,24] [(24,.v (.bool (y2 == 3)))] ?_
 refine kC (y2 == 3) (fun h9 => ?_) (fun h9 => ?_)
 have h9p := eqT h9
 refine kG ?_
 refine kHD 6 [2,3,26,28,31] [(26,.v (.pointer (some ⟨g,0,none⟩))),(28,.v (.int .i64 b1m.most)),(31,.v (.int .i64 (IntKind.i64.wrap (b1m.most + 1))))] rfl (hv_build (e := 3) (K := 1) (bytes := 8) [.int .i64 (-1),.int .i64 0,.int .i64 b1m.most,.int .i64 (IntKind.i64.wrap (b1m.most + 1))] rfl (by kernel_rfl) (by kernel_rfl) (by kernel_rfl) (by kernel_rfl) (by kernel_rfl) (rs := ([(-1),0,b1m.most,IntKind.i64.wrap (b1m.most + 1)] : List Int).map intRow) rfl) ?_
 intro g10
 refine xl_know (φ := ¬ (slF (.slice (some ⟨g10,0,none⟩) 4 4) 1 (([(-1),0,b1m.most,IntKind.i64.wrap (b1m.most + 1)] : List Int).map intRow)).blk g) (fun _ _ _ _ hr => fun hb => hr.2.apart 0 1 (rowF (cutW w B).heap.size 3 1 (.slice (some ⟨g10,0,none⟩) 4 4) (([(-1),0,b1m.most,IntKind.i64.wrap (b1m.most + 1)] : List Int).map intRow)) (curF B g 100 (.slice A code.length cap) code.length) rfl rfl (by decide) rfl g (rowF_sblk hb) rfl) (fun hk11 => ?_)
 refine kWD 0 [2,3,26,32] [] 66 [.pointer (some ⟨g,0,none⟩),.slice (some ⟨g10,0,none⟩) 4 4] (some 33) 1 rfl rfl hlo (l1PickInt_c_K hBw hap (fun ww hw hf => (rowF_sl (hf _ m0))) hk11 (by simp)) ?_
 rintro ⟨y12,hy12⟩
 refine kEF [2,3] ⟨[(2,.p 0 0),(3,.p 1 0)],[⟨34,conZ⟩,⟨34,conL { b1m with window := y12 } (.slice b1a b1m.r.held.length b1c)⟩],[],[curF B g 100 (.slice A code.length cap) code.length,rowF (cutW w B).heap.size 3 1 (.slice (some ⟨g10,0,none⟩) 4 4) (([(-1),0,b1m.most,IntKind.i64.wrap (b1m.most + 1)] : List Int).map intRow),newF (cutW w B).heap.size (.slice b1a b1m.r.held.length b1c) 2 (b1m.r.held.map pceCells),slF (.slice A code.length cap) 1 (code.map byteRow),frF w (fun b => b = g)]⟩ ?_
 refine kQ ?_
 refine kEU [2] [(2,.p 0 0)] 0 ⟨34,conL { b1m with window := y12 } (.slice b1a b1m.r.held.length b1c)⟩ ?_
 refine kR ?_
 exact ⟨[.agg (conL { b1m with window := y12 } (.slice b1a b1m.r.held.length b1c)).toArray],by kernel_rfl,fun w' hb hf ha => ⟨⟨({ b1m with window := y12 },b1a,b1c),hb1⟩,rfl,hf (curF B g 100 (.slice A code.length cap) code.length) (by simp),newF_new (hf (newF (cutW w B).heap.size (.slice b1a b1m.r.held.length b1c) 2 (b1m.r.held.map pceCells)) (by simp)) (own_new ha (i := 2) (j := 0) (k := 4) rfl rfl rfl rfl (by decide) (by decide)),hgl,frF_chgd (hf (frF w (fun b => b = g)) (by simp)) hb rfl rfl rfl⟩⟩
 have h9p := eqF h9
 refine kQ ?_
 refine kED [0,2,3,7,35] [(35,.v (.bool (y2 == 4)))] ?_
 refine kC (y2 == 4) (fun h13 => ?_) (fun h13 => ?_)
 have h13p := eqT h13
 refine kG ?_
 refine kHD 1 [2,3,37] [(37,.v (.pointer (some ⟨g,0,none⟩)))] rfl (hv_build (e := 3) (K := 1) (bytes := 8) [.int .i64 (-1),.int .i64 0,.int .i64 3,.int .i64 4,.int .i64 5] rfl (by kernel_rfl) (by kernel_rfl) (by kernel_rfl) (by kernel_rfl) (by kernel_rfl) (rs := ([(-1),0,3,4,5] : List Int).map intRow) rfl) ?_
 intro g14
 refine xl_know (φ := ¬ (slF (.slice (some ⟨g14,0,none⟩) 5 5) 1 (([(-1),0,3,4,5] : List Int).map intRow)).blk g) (fun _ _ _ _ hr => fun hb => hr.2.apart 0 1 (rowF (cutW w B).heap.size 3 1 (.slice (some ⟨g14,0,none⟩) 5 5) (([(-1),0,3,4,5] : List Int).map intRow)) (curF B g 100 (.slice A code.length cap) code.length) rfl rfl (by decide) rfl g (rowF_sblk hb) rfl) (fun hk15 => ?_)
 refine kWS 0 [2,3,37,38] [(2,.p 0 0),(3,.p 1 0),(37,.v (.pointer (some ⟨g,0,none⟩))),(38,.v (.slice (some ⟨g14,0,none⟩) 5 5))] 66 [.pointer (some ⟨g,0,none⟩),.slice (some ⟨g14,0,none⟩) 5 5] (some 39) 1 rfl rfl hlo (l1PickInt_c_K hBw hap (fun ww hw hf => (rowF_sl (hf _ m0))) hk15 (by simp)) ?_
 rintro ⟨y16,hy16⟩
 refine kEU [2,3] [] 1 ⟨34,conL { b1m with timer := y16 } (.slice b1a b1m.r.held.length b1c)⟩ ?_
 refine kQ ?_
 refine kEU [2] [(2,.p 0 0)] 0 ⟨34,conL { b1m with timer := y16 } (.slice b1a b1m.r.held.length b1c)⟩ ?_
 refine kR ?_
 exact ⟨[.agg (conL { b1m with timer := y16 } (.slice b1a b1m.r.held.length b1c)).toArray],by kernel_rfl,fun w' hb hf ha => ⟨⟨({ b1m with timer := y16 },b1a,b1c),hb1⟩,rfl,hf (curF B g 100 (.slice A code.length cap) code.length) (by simp),newF_new (hf (newF (cutW w B).heap.size (.slice b1a b1m.r.held.length b1c) 2 (b1m.r.held.map pceCells)) (by simp)) (own_new ha (i := 2) (j := 0) (k := 4) rfl rfl rfl rfl (by decide) (by decide)),hgl,frF_chgd (hf (frF w (fun b => b = g)) (by simp)) hb rfl rfl rfl⟩⟩
 have h13p := eqF h13
 refine kQ ?_
 refine kED [0,2,3,7,41] [(41,.v (.bool (y2 == 5)))] ?_
 refine kC (y2 == 5) (fun h17 => ?_) (fun h17 => ?_)
 have h17p := eqT h17
 refine kG ?_
 refine kHS 1 [2,3,43] [(2,.p 0 0),(3,.p 1 0),(43,.v (.pointer (some ⟨g,0,none⟩)))] rfl (hv_build (e := 3) (K := 1) (bytes := 8) [.int .i64 (-1),.int .i64 0,.int .i64 3,.int .i64 4] rfl (by kernel_rfl) (by kernel_rfl) (by kernel_rfl) (by kernel_rfl) (by kernel_rfl) (rs := ([(-1),0,3,4] : List Int).map intRow) rfl) ?_
 intro g18
 refine xl_know (φ := ¬ (slF (.slice (some ⟨g18,0,none⟩) 4 4) 1 (([(-1),0,3,4] : List Int).map intRow)).blk g) (fun _ _ _ _ hr => fun hb => hr.2.apart 0 1 (rowF (cutW w B).heap.size 3 1 (.slice (some ⟨g18,0,none⟩) 4 4) (([(-1),0,3,4] : List Int).map intRow)) (curF B g 100 (.slice A code.length cap) code.length) rfl rfl (by decide) rfl g (rowF_sblk hb) rfl) (fun hk19 => ?_)
 refine kWD 0 [2,3,43,44] [] 66 [.pointer (some ⟨g,0,none⟩),.slice (some ⟨g18,0,none⟩) 4 4] (some 45) 1 rfl rfl hlo (l1PickInt_c_K hBw hap (fun ww hw hf => (rowF_sl (hf _ m0))) hk19 (by simp)) ?_
 rintro ⟨y20,hy20⟩
 refine kEU [2,3] [] 1 ⟨34,conL { b1m with tries := y20 } (.slice b1a b1m.r.held.length b1c)⟩ ?_
 refine kQ ?_
 refine kEU [2] [(2,.p 0 0)] 0 ⟨34,conL { b1m with tries := y20 } (.slice b1a b1m.r.held.length b1c)⟩ ?_
 refine kR ?_
 exact ⟨[.agg (conL { b1m with tries := y20 } (.slice b1a b1m.r.held.length b1c)).toArray],by kernel_rfl,fun w' hb hf ha => ⟨⟨({ b1m with tries := y20 },b1a,b1c),hb1⟩,rfl,hf (curF B g 100 (.slice A code.length cap) code.length) (by simp),newF_new (hf (newF (cutW w B).heap.size (.slice b1a b1m.r.held.length b1c) 2 (b1m.r.held.map pceCells)) (by simp)) (own_new ha (i := 2) (j := 0) (k := 4) rfl rfl rfl rfl (by decide) (by decide)),hgl,frF_chgd (hf (frF w (fun b => b = g)) (by simp)) hb rfl rfl rfl⟩⟩
 have h17p := eqF h17
 refine kQ ?_
 refine kES [0,2,3,7,47] [(0,.v (.pointer (some ⟨g,0,none⟩))),(2,.p 0 0),(3,.p 1 0),(7,.v (.int .i64 y2)),(47,.v (.bool (y2 == 6)))] ?_
 refine kC (y2 == 6) (fun h21 => ?_) (fun h21 => ?_)
 have h21p := eqT h21
 refine kG ?_
 refine kWD 1 [2,3,49] [(49,.v (.pointer (some ⟨g,0,none⟩)))] 110 [.pointer (some ⟨g,0,none⟩)] (some 50) 0 rfl rfl hlo (l8Bent_c_K hBw hap) ?_
 rintro ⟨y22,hy22⟩
 refine kEU [2,3] [] 1 ⟨34,conL { b1m with o := y22 } (.slice b1a b1m.r.held.length b1c)⟩ ?_
 refine kQ ?_
 refine kEU [2] [(2,.p 0 0)] 0 ⟨34,conL { b1m with o := y22 } (.slice b1a b1m.r.held.length b1c)⟩ ?_
 refine kR ?_
 exact ⟨[.agg (conL { b1m with o := y22 } (.slice b1a b1m.r.held.length b1c)).toArray],by kernel_rfl,fun w' hb hf ha => ⟨⟨({ b1m with o := y22 },b1a,b1c),hb1⟩,rfl,hf (curF B g 100 (.slice A code.length cap) code.length) (by simp),newF_new (hf (newF (cutW w B).heap.size (.slice b1a b1m.r.held.length b1c) 2 (b1m.r.held.map pceCells)) (by simp)) (own_new ha (i := 1) (j := 0) (k := 3) rfl rfl rfl rfl (by decide) (by decide)),hgl,frF_chgd (hf (frF w (fun b => b = g)) (by simp)) hb rfl rfl rfl⟩⟩
 have h21p := eqF h21
 refine kQ ?_
 refine kED [0,2,3,52] [(52,.v (.bool (y2 == 7)))] ?_
 refine kC (y2 == 7) (fun h23 => ?_) (fun h23 => ?_)
 have h23p := eqT h23
 refine kG ?_
 refine kWD 1 [2,3,54] [(54,.v (.pointer (some ⟨g,0,none⟩)))] 111 [.pointer (some ⟨g,0,none⟩)] (some 55) 0 rfl rfl hlo (l12Bent_c_K hBw hap) ?_
 rintro ⟨y24,hy24⟩
 refine kEU [2,3] [] 1 ⟨34,conL { b1m with t := y24 } (.slice b1a b1m.r.held.length b1c)⟩ ?_
 refine kQ ?_
 refine kEU [2] [(2,.p 0 0)] 0 ⟨34,conL { b1m with t := y24 } (.slice b1a b1m.r.held.length b1c)⟩ ?_
 refine kR ?_
 exact ⟨[.agg (conL { b1m with t := y24 } (.slice b1a b1m.r.held.length b1c)).toArray],by kernel_rfl,fun w' hb hf ha => ⟨⟨({ b1m with t := y24 },b1a,b1c),hb1⟩,rfl,hf (curF B g 100 (.slice A code.length cap) code.length) (by simp),newF_new (hf (newF (cutW w B).heap.size (.slice b1a b1m.r.held.length b1c) 2 (b1m.r.held.map pceCells)) (by simp)) (own_new ha (i := 1) (j := 0) (k := 3) rfl rfl rfl rfl (by decide) (by decide)),hgl,frF_chgd (hf (frF w (fun b => b = g)) (by simp)) hb rfl rfl rfl⟩⟩
 have h23p := eqF h23
 refine kK ?_
 refine kQ ?_
 refine kEU [2] [(2,.p 0 0)] 0 ⟨34,conL b1m (.slice b1a b1m.r.held.length b1c)⟩ ?_
 refine kR ?_
 exact ⟨[.agg (conL b1m (.slice b1a b1m.r.held.length b1c)).toArray],by kernel_rfl,fun w' hb hf ha => ⟨⟨(b1m,b1a,b1c),hb1⟩,rfl,hf (curF B g 100 (.slice A code.length cap) code.length) (by simp),newF_new (hf (newF (cutW w B).heap.size (.slice b1a b1m.r.held.length b1c) 2 (b1m.r.held.map pceCells)) (by simp)) (own_new ha (i := 1) (j := 0) (k := 3) rfl rfl rfl rfl (by decide) (by decide)),hgl,frF_chgd (hf (frF w (fun b => b = g)) (by simp)) hb rfl rfl rfl⟩⟩
theorem drawPump_c (code : List Int) (A : Option Addr) (cap : Nat) (w : World) (hl : Sl w (.slice A code.length cap) 1 (code.map byteRow)) (hn : code.length ≤ 1048576) : Calls Tryz.prog 35 #[.slice A code.length cap] w fun e w' => ∃ y : {y : (Con × Int) × (Option Addr × Nat) // RB 4 y.1.1.r ∧ (-1 ≤ y.1.2 ∧ y.1.2 ≤ 9223372036854775807)}, e = .returned (.tuple #[.agg (conL y.1.1.1 (.slice y.1.2.1 y.1.1.1.r.held.length y.1.2.2)).toArray, .int .i64 y.1.1.2]) ∧ (newF w.heap.size (.slice y.1.2.1 y.1.1.1.r.held.length y.1.2.2) 2 (y.1.1.1.r.held.map pceCells)).p w' ∧ Below w.heap.size w w' := by
 have hq_code := Sl.capLe hl
 refine x_callsA (args := [.slice A code.length cap]) (fn := Tryz.f35) [slF (.slice A code.length cap) 1 (code.map byteRow)] Tryz.func35 rfl Tryz.ntmps35 rfl (by simp only [List.mem_cons,List.not_mem_nil,or_false,forall_eq]; exact ⟨rfl,hl⟩) ?_
 refine kQ ?_
 refine kEF [0,2] ⟨[(0,.v (.slice A code.length cap)),(2,.p 0 0)],[⟨34,conZ⟩],[],[slF (.slice A code.length cap) 1 (code.map byteRow)]⟩ ?_
 refine kQ ?_
 refine kCD 1 [2,5] [(5,.v (.slice A code.length cap))] 62 [.slice A code.length cap] (some 6) rfl (xc_new fun ww hw hf => l1New_c code A cap ww (hf _ m0) (by omega)) ?_
 rintro ⟨g1,hapg1⟩
 refine kED [2,4] [(4,.v (.pointer (some ⟨g1,0,none⟩)))] ?_
 refine kQ ?_
 refine kWD 1 [2,4,7] [(7,.v (.pointer (some ⟨g1,0,none⟩)))] 63 [.pointer (some ⟨g1,0,none⟩)] (some 8) 0 rfl rfl (fun ww b h hb => cur_lo h hb) (xcm_curN fun ww hw hf => l19Bent_c g1 code A cap ww w.heap.size hw (hf (curF w.heap.size g1 100 (.slice A code.length cap) code.length) (by simp)) (hf _ m1) hapg1 (by omega)) ?_
 rintro ⟨⟨b2m,b2a,b2c⟩,hb2⟩
 dsimp only at hb2
 have hb2n := hb2.1
 have hb2m := hb2.hm; have hb2z := hb2.sz
 refine kHD 1 [2,8,9] [(9,.v (.pointer (some ⟨g1,0,none⟩)))] rfl (hv_build (e := 3) (K := 1) (bytes := 8) [.int .i64 0,.int .i64 1,.int .i64 5,.int .i64 64,.int .i64 65535,.int .i64 (-1),.int .i64 9223372036854775807] rfl (by kernel_rfl) (by kernel_rfl) (by kernel_rfl) (by kernel_rfl) (by kernel_rfl) (rs := ([0,1,5,64,65535,(-1),9223372036854775807] : List Int).map intRow) rfl) ?_
 intro g3
 refine xl_know (φ := ¬ (slF (.slice (some ⟨g3,0,none⟩) 7 7) 1 (([0,1,5,64,65535,(-1),9223372036854775807] : List Int).map intRow)).blk g1) (fun _ _ _ _ hr => fun hb => hr.2.apart 0 2 (rowF w.heap.size 3 1 (.slice (some ⟨g3,0,none⟩) 7 7) (([0,1,5,64,65535,(-1),9223372036854775807] : List Int).map intRow)) (curF w.heap.size g1 100 (.slice A code.length cap) code.length) rfl rfl (by decide) rfl g1 (rowF_sblk hb) rfl) (fun hk4 => ?_)
 refine kWD 0 [2,8,9,10] [] 66 [.pointer (some ⟨g1,0,none⟩),.slice (some ⟨g3,0,none⟩) 7 7] (some 11) 2 rfl rfl (fun ww b h hb => cur_lo h hb) (l1PickInt_c_K (Nat.le_refl _) hapg1 (fun ww hw hf => (rowF_sl (hf _ m0))) hk4 (by simp)) ?_
 rintro ⟨y5,hy5⟩
 refine kEU [2,3] [(3,.v (.int .i64 y5))] 0 ⟨34,conL b2m (.slice b2a b2m.r.held.length b2c)⟩ ?_
 refine kR ?_
 exact ⟨[.agg (conL b2m (.slice b2a b2m.r.held.length b2c)).toArray,.int .i64 y5],by kernel_rfl,fun w' hb hf ha => ⟨⟨((b2m,y5),b2a,b2c),⟨hb2,(by have hq := hy5; simp only [List.mem_cons,List.not_mem_nil,or_false] at hq; dsimp only; omega)⟩⟩,rfl,newF_new (hf (newF w.heap.size (.slice b2a b2m.r.held.length b2c) 2 (b2m.r.held.map pceCells)) (by simp)) (fun b hb => newF_lo (hf (newF w.heap.size (.slice b2a b2m.r.held.length b2c) 2 (b2m.r.held.map pceCells)) (by simp)) hb),hb⟩⟩

theorem ysameSegments_c (a : List Seg) (aV : Value) (b : List Seg) (bV : Value) (w : World) (hl_aV : Sl w aV 13 (a.map segCells)) (hl_bV : Sl w bV 13 (b.map segCells))  : Calls Tryz.prog 22 #[aV, bV] w fun e w' => e = .returned (.bool (sameL segEq a b)) ∧ Below w.heap.size w w' := by
 obtain ⟨Aa,Ca,hva⟩ := hl_aV.form
 rw [List.length_map] at hva; subst hva
 have hna := hl_aV.len; rw [List.length_map] at hna
 have hqa := Sl.capLe hl_aV
 obtain ⟨Ab,Cb,hvb⟩ := hl_bV.form
 rw [List.length_map] at hvb; subst hvb
 have hnb := hl_bV.len; rw [List.length_map] at hnb
 have hqb := Sl.capLe hl_bV
 refine x_calls (args := [.slice Aa a.length Ca,.slice Ab b.length Cb]) (fn := Tryz.f22) [slF (.slice Aa a.length Ca) 13 (a.map segCells),slF (.slice Ab b.length Cb) 13 (b.map segCells)] Tryz.func22 rfl Tryz.ntmps22 rfl (by simp only [List.mem_cons,List.not_mem_nil,or_false,forall_eq_or_imp,forall_eq]; exact ⟨⟨rfl,hl_aV⟩,⟨rfl,hl_bV⟩⟩) ?_
 refine kQ ?_
 refine kEF [0,1] ⟨[(0,.v (.slice Aa a.length Ca)),(1,.v (.slice Ab b.length Cb))],[],[],[slF (.slice Aa a.length Ca) 13 (a.map segCells),slF (.slice Ab b.length Cb) 13 (b.map segCells)]⟩ ?_
 refine kS ?_
 refine kQ ?_
 refine kES [0,1,10] [(0,.v (.slice Aa a.length Ca)),(1,.v (.slice Ab b.length Cb)),(10,.v (.bool (((a.length : Nat) : Int) != ((b.length : Nat) : Int))))] ?_
 refine kC (((a.length : Nat) : Int) != ((b.length : Nat) : Int)) (fun h1 => ?_) (fun h1 => ?_)
 have h1p := neT h1
 refine kQ ?_
 refine kES [4] [(4,.v (.bool false))] ?_
 refine kR ?_
 exact ⟨[.bool false],by kernel_rfl,fun w' hb hf => ⟨ret_bool (show (false : Bool) = sameL segEq a b from by first | rfl | (simp [sameL_len, *]; done) | grind [sameL_len,sameL_len]),hb⟩⟩
 have h1p := neF h1
 refine kK ?_
 refine kS ?_
 refine kQ ?_
 refine kES [0,1,5] [(0,.v (.slice Aa a.length Ca)),(1,.v (.slice Ab b.length Cb)),(5,.v (.int .i64 0))] ?_
 refine xw_block ?_
 have hlen : a.length = b.length := by omega
 refine xw_loopW (α := {x : Nat // (fun (k : Nat) => k ≤ a.length ∧ ∀ (i : Nat) (x y : Seg),i < k → a[i]? = some x → b[i]? = some y → segEq x y = true) x}) (fun x => (fun (k : Nat) => (⟨[(0,.v (.slice Aa a.length Ca)),(1,.v (.slice Ab b.length Cb)),(5,.v (.int .i64 (k : Int)))],[],[],[slF (.slice Aa a.length Ca) 13 (a.map segCells),slF (.slice Ab b.length Cb) 13 (b.map segCells)]⟩ : St)) x.1) (fun x => a.length - x.1) ⟨(0),⟨Nat.zero_le _,fun i x y hi => by omega⟩⟩ (kF 0 0 [0,1,5]) ?_
 rintro ⟨k,hk,HK⟩
 try dsimp only
 try dsimp only at hk HK
 refine kS ?_
 refine kQ ?_
 refine kES [0,1,5,14] [(0,.v (.slice Aa a.length Ca)),(1,.v (.slice Ab b.length Cb)),(5,.v (.int .i64 (k : Int))),(14,.v (.bool (decide ((k : Int) < ((a.length : Nat) : Int)))))] ?_
 refine kC (decide ((k : Int) < ((a.length : Nat) : Int))) (fun h2 => ?_) (fun h2 => ?_)
 have h2p := of_decide_eq_true h2
 have hlt : k < a.length := by simpa using h2
 obtain ⟨x,hx⟩ : ∃ x,a[k]? = some x := ⟨_,List.getElem?_eq_getElem hlt⟩
 obtain ⟨y,hy⟩ : ∃ y,b[k]? = some y := ⟨_,List.getElem?_eq_getElem (by omega)⟩
 refine kK ?_
 refine kS ?_
 refine xw_block ?_
 refine kS ?_
 refine xws_start ?_
 refine xws_row (K := 13) (j := k) [.int .i64 x.src,.int .i64 x.dst,.int .i64 x.seq,.int .i64 x.ack,.int .i64 x.flags,.int .i64 x.window,.int .i64 x.o.mss,.int .i64 x.o.scale,.bool x.o.sack,.bool x.o.stamp,.int .i64 x.o.val,.int .i64 x.o.echo,.string x.body] (slF (.slice Aa a.length Ca) 13 (a.map segCells)) (fun _ _ h => h) (by simp) (fun w h => h) (fun b h => h) (by simp only [List.getElem?_map,hx]; rfl) (fun bq3 offq3 hAq3 => ?_)
 refine xws_row (K := 13) (j := k) [.int .i64 y.src,.int .i64 y.dst,.int .i64 y.seq,.int .i64 y.ack,.int .i64 y.flags,.int .i64 y.window,.int .i64 y.o.mss,.int .i64 y.o.scale,.bool y.o.sack,.bool y.o.stamp,.int .i64 y.o.val,.int .i64 y.o.echo,.string y.body] (slF (.slice Ab b.length Cb) 13 (b.map segCells)) (fun _ _ h => h) (by simp) (fun w h => h) (fun b h => h) (by simp only [List.getElem?_map,hy]; rfl) (fun bq4 offq4 hAq4 => ?_)
 refine xws_regionE [] (by kernel_rfl) (fun ρ σ hq5 => ?_)
 refine kTS [0,1,4,5] [22,21,18,17,0,1,5] 5 [(22,.v (.int .i64 (k : Int))),(21,.v (.slice Ab b.length Cb)),(18,.v (.int .i64 (k : Int))),(17,.v (.slice Aa a.length Ca)),(0,.v (.slice Aa a.length Ca)),(1,.v (.slice Ab b.length Cb)),(5,.v (.int .i64 (k : Int)))] ?_
 refine xe_takeI (kd := .i64) (T := 46) (e := 36) (K := 13) (j := k) (A := Aa) (len := a.length) (cap := Ca) 2 0 _ rfl (by kernel_rfl) (by kernel_rfl) (by kernel_rfl) (fun _ _ h => h) (by kernel_rfl) rfl rfl (by kernel_rfl) (by kernel_rfl) (by kernel_rfl) (by kernel_rfl) hlt hAq3 hq5.1.2 (by kernel_rfl) rfl ?_
 refine kTS [3] [20,22,21,0,1,5] 3 [(20,.v (.agg (segL x).toArray)),(22,.v (.int .i64 (k : Int))),(21,.v (.slice Ab b.length Cb)),(0,.v (.slice Aa a.length Ca)),(1,.v (.slice Ab b.length Cb)),(5,.v (.int .i64 (k : Int)))] ?_
 refine xe_takeI (kd := .i64) (T := 46) (e := 36) (K := 13) (j := k) (A := Ab) (len := b.length) (cap := Cb) 6 1 _ rfl (by kernel_rfl) (by kernel_rfl) (by kernel_rfl) (fun _ _ h => h) (by kernel_rfl) rfl rfl (by kernel_rfl) (by kernel_rfl) (by kernel_rfl) (by kernel_rfl) (by omega) hAq4 hq5.2 (by kernel_rfl) rfl ?_
 refine kTS [7] [24,20,0,1,5] 1 [(24,.v (.agg (segL y).toArray)),(20,.v (.agg (segL x).toArray)),(0,.v (.slice Aa a.length Ca)),(1,.v (.slice Ab b.length Cb)),(5,.v (.int .i64 (k : Int)))] ?_
 refine kX 8 (.bool (!segEq x y)) rfl (fun _ _ ww hA => act_bin hA rfl (by kernel_rfl) (by kernel_rfl) (agg_bin (by kernel_rfl) (run_neq_SEG x.src x.dst x.seq x.ack x.flags x.window x.o.mss x.o.scale x.o.sack x.o.stamp x.o.val x.o.echo x.body y.src y.dst y.seq y.ack y.flags y.window y.o.mss y.o.scale y.o.sack y.o.stamp y.o.val y.o.echo y.body ww))) ?_
 refine kZ ?_
 refine kC (!segEq x y) (fun h6 => ?_) (fun h6 => ?_)
 have hno := sameL_no hx hy (by simpa using h6)
 refine kQ ?_
 refine kES [4] [(4,.v (.bool false))] ?_
 refine kR ?_
 exact ⟨[.bool false],by kernel_rfl,fun w' hb hf => ⟨ret_bool (show (false : Bool) = sameL segEq a b from by first | rfl | (simp [sameL_len, *]; done) | grind [sameL_len,sameL_len]),hb⟩⟩
 have hye : segEq x y = true := by simpa using h6
 refine kK ?_
 refine kG ?_
 refine kRS 3 [0,1,5] [(0,.v (.slice Aa a.length Ca)),(1,.v (.slice Ab b.length Cb)),(5,.v (.int .i64 (IntKind.i64.wrap ((k : Int) + 1))))] ?_
 refine xl_eqS (t' := [(0,.v (.slice Aa a.length Ca)),(1,.v (.slice Ab b.length Cb)),(5,.v (.int .i64 ((k : Int) + 1)))]) (by rw [show (IntKind.i64.wrap ((k : Int) + 1)) = ((k : Int) + 1) from wrap_id (by omega) (by omega)]) ?_
 refine kES [0,1,5] [(0,.v (.slice Aa a.length Ca)),(1,.v (.slice Ab b.length Cb)),(5,.v (.int .i64 ((k : Int) + 1)))] ?_
 exact ⟨⟨(k + 1),⟨by omega,same_step hx hy hye HK⟩⟩,kF 0 0 [0,1,5],by show a.length - (k + 1) < a.length - k; omega⟩
 have h2p := of_decide_eq_false h2
 have hge : k = a.length := by simp at h2; omega
 have hall := sameL_nil_of hge hlen HK
 refine xw_exit ?_
 refine kQ ?_
 refine kES [4] [(4,.v (.bool true))] ?_
 refine kR ?_
 exact ⟨[.bool true],by kernel_rfl,fun w' hb hf => ⟨ret_bool (show (true : Bool) = sameL segEq a b from by first | rfl | (simp [sameL_len, *]; done) | grind [sameL_len,sameL_len]),hb⟩⟩
theorem sameSeg_self (l : List Seg) : sameL segEq l l = true := sameL_yes rfl fun i x y h1 h2 => by rw [h1] at h2; simp only [Option.some.injEq] at h2; subst h2; exact segEq_self x
end Go.Proofs.YtnmmhbhdcplfmaaGreat
