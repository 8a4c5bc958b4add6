/- Contracts that this law needs, part 5. -/
import Derived.Test.YtnmmhbhdcplfmaaGreatZ4
namespace Go.Proofs.YtnmmhbhdcplfmaaGreat
open Go.RowKit
set_option linter.unusedVariables false
set_option linter.unusedSimpArgs false
set_option maxRecDepth 100000
set_option maxHeartbeats 2000000

theorem l19Conn_c (g : Nat) (code : List Int) (A : Option Addr) (cap : Nat) (w : World) (B : Nat) (hB : B ≤ w.heap.size) (hc : (curF B g 100 (.slice A code.length cap) code.length).p w) (hl : Sl w (.slice A code.length cap) 1 (code.map byteRow)) (hap : ¬ (slF (.slice A code.length cap) 1 (code.map byteRow)).blk g) (hn : code.length ≤ 1048576) : Calls Tryz.prog 107 #[.pointer (some ⟨g, 0, none⟩)] w fun e w' => ∃ y : {y : Con × (Option Addr × Nat) // RB 4 y.1.r}, e = .returned (.agg (conL y.1.1 (.slice y.1.2.1 y.1.1.r.held.length y.1.2.2)).toArray) ∧ (curF B g 100 (.slice A code.length cap) code.length).p w' ∧ (newF w.heap.size (.slice y.1.2.1 y.1.1.r.held.length y.1.2.2) 2 (y.1.1.r.held.map pceCells)).p w' ∧ g < w.heap.size ∧ Chgd (fun b => b = g) w w' := by
 have hq_code := Sl.capLe hl
 have hBw : B ≤ (cutW w B).heap.size := Nat.le_of_eq (cutW_size hB).symm
 have hlo : ∀ (ww : World) (b : Nat),(curF B g 100 (.slice A code.length cap) code.length).p ww → (curF B g 100 (.slice A code.length cap) code.length).blk b → (cutW w B).heap.size ≤ b := fun ww b h hb => Nat.le_trans (cutW_le w B) (cur_lo h hb)
 refine x_callsMA (args := [.pointer (some ⟨g,0,none⟩)]) (fn := Tryz.f107) [curF B g 100 (.slice A code.length cap) code.length,slF (.slice A code.length cap) 1 (code.map byteRow),frF w (fun b => b = g)] B Tryz.func107 rfl Tryz.ntmps107 rfl hB (by simp only [List.mem_cons,List.not_mem_nil,or_false,forall_eq_or_imp,forall_eq]; exact ⟨hc,hl,frF_start w _⟩) (apart_cur hap rfl) ?_
 have hgl : g < w.heap.size := (curF B g 100 (.slice A code.length cap) code.length).lt w g hc rfl
 refine kQ ?_
 refine kEF [0,2] ⟨[(0,.v (.pointer (some ⟨g,0,none⟩))),(2,.p 0 0)],[⟨34,conZ⟩],[],[curF B g 100 (.slice A code.length cap) code.length,slF (.slice A code.length cap) 1 (code.map byteRow),frF w (fun b => b = g)]⟩ ?_
 refine kQ ?_
 refine kWD 1 [0,2,6] [(6,.v (.pointer (some ⟨g,0,none⟩)))] 125 [.pointer (some ⟨g,0,none⟩)] (some 7) 0 rfl rfl hlo (l12Tuple_c_K hBw hap) ?_
 rintro ⟨y1,hy1⟩
 refine kWD 1 [0,2,7,8] [(8,.v (.pointer (some ⟨g,0,none⟩)))] 126 [.pointer (some ⟨g,0,none⟩)] (some 9) 0 rfl rfl hlo (l2Deep_c_K hBw hap) ?_
 rintro ⟨y2,hy2⟩
 refine kWD 1 [0,2,7,9,10] [(10,.v (.pointer (some ⟨g,0,none⟩)))] 126 [.pointer (some ⟨g,0,none⟩)] (some 11) 0 rfl rfl hlo (l2Deep_c_K hBw hap) ?_
 rintro ⟨y3,hy3⟩
 refine kWD 1 [0,2,7,9,11,12] [(12,.v (.pointer (some ⟨g,0,none⟩)))] 127 [.pointer (some ⟨g,0,none⟩)] (some 13) 0 rfl rfl hlo (l8Options_c_K hBw hap) ?_
 rintro ⟨y4,hy4⟩
 refine kHD 1 [0,2,7,9,11,13,14] [(14,.v (.pointer (some ⟨g,0,none⟩)))] rfl (hv_build (e := 3) (K := 1) (bytes := 8) [.int .i64 0,.int .i64 4,.int .i64 64,.int .i64 65535] rfl (by kernel_rfl) (by kernel_rfl) (by kernel_rfl) (by kernel_rfl) (by kernel_rfl) (rs := ([0,4,64,65535] : List Int).map intRow) rfl) ?_
 intro g5
 refine xl_know (φ := ¬ (slF (.slice (some ⟨g5,0,none⟩) 4 4) 1 (([0,4,64,65535] : List Int).map intRow)).blk g) (fun _ _ _ _ hr => fun hb => hr.2.apart 0 1 (rowF (cutW w B).heap.size 3 1 (.slice (some ⟨g5,0,none⟩) 4 4) (([0,4,64,65535] : List Int).map intRow)) (curF B g 100 (.slice A code.length cap) code.length) rfl rfl (by decide) rfl g (rowF_sblk hb) rfl) (fun hk6 => ?_)
 refine kWD 0 [0,2,7,9,11,13,14,15] [] 66 [.pointer (some ⟨g,0,none⟩),.slice (some ⟨g5,0,none⟩) 4 4] (some 16) 1 rfl rfl hlo (l1PickInt_c_K hBw hap (fun ww hw hf => (rowF_sl (hf _ m0))) hk6 (by simp)) ?_
 rintro ⟨y7,hy7⟩
 refine kCD 0 [0,2,7,9,11,13,16] [] 124 [.agg (tupL y1).toArray,.int .i64 y2,.int .i64 y3,.agg (optL y4).toArray,.int .i64 y7] (some 17) rfl (xc_r fun ww hw hf => ysConnNew_c y1 y2 y3 y4 y7 ww   ((cutW w B).heap.size) hw) ?_
 rintro ⟨v8a,v8c⟩
 have hbd9 : (connNew y1 y2 y3 y4 y7).r.held.length ≤ 1048576 := connNew_bd _ _ _ _ _  (by omega)
 refine kEA [0,2,3] [(3,.p 1 0)] [⟨34,conL (connNew y1 y2 y3 y4 y7) (.slice v8a ((connNew y1 y2 y3 y4 y7).r.held.length) v8c)⟩] ?_
 refine kQ ?_
 refine kWD 1 [0,2,3,18] [(18,.v (.pointer (some ⟨g,0,none⟩)))] 86 [.pointer (some ⟨g,0,none⟩),.int .i64 9] (some 19) 1 rfl rfl hlo (l1Below_c_K hBw hap) ?_
 rintro ⟨y10,hy10⟩
 obtain ⟨hy100,hy101⟩ := hy10
 refine kED [0,2,3,4] [(4,.v (.int .i64 y10))] ?_
 refine kS ?_
 refine kQ ?_
 refine kES [0,2,3,4,5] [(0,.v (.pointer (some ⟨g,0,none⟩))),(2,.p 0 0),(3,.p 1 0),(4,.v (.int .i64 y10)),(5,.v (.int .i64 0))] ?_
 refine xw_block ?_
 refine xw_loopW (α := {x : Nat × Con × Option Addr × Nat // (fun (i : Nat) (x : Con) (A1 : Option Addr) (c1 : Nat) => (i : Int) ≤ y10 ∧ RB 3 x.r) x.1 x.2.1 x.2.2.1 x.2.2.2}) (fun x => (fun (i : Nat) (x : Con) (A1 : Option Addr) (c1 : Nat) => (⟨[(0,.v (.pointer (some ⟨g,0,none⟩))),(2,.p 0 0),(3,.p 1 0),(4,.v (.int .i64 y10)),(5,.v (.int .i64 (i : Int)))],[⟨34,conZ⟩,⟨34,conL x (.slice A1 x.r.held.length c1)⟩],[],[ownF (cutW w B).heap.size (.slice A1 x.r.held.length c1) 2 (x.r.held.map pceCells),curF B g 100 (.slice A code.length cap) code.length,rowF (cutW w B).heap.size 3 1 (.slice (some ⟨g5,0,none⟩) 4 4) (([0,4,64,65535] : List Int).map intRow),slF (.slice A code.length cap) 1 (code.map byteRow),frF w (fun b => b = g)]⟩ : St)) x.1.1 x.1.2.1 x.1.2.2.1 x.1.2.2.2) (fun x => (fun (i : Nat) (x : Con) (A1 : Option Addr) (c1 : Nat) => (y10).toNat - i) x.1.1 x.1.2.1 x.1.2.2.1 x.1.2.2.2) ⟨(0,(connNew y1 y2 y3 y4 y7),v8a,v8c),⟨(by omega),RB.newC _ _ _ _ _⟩⟩ ((wk_pick [1,0,2,3,4] [ownF (cutW w B).heap.size (.slice v8a ((connNew y1 y2 y3 y4 y7).r.held.length) v8c) 2 ((connNew y1 y2 y3 y4 y7).r.held.map pceCells),curF B g 100 (.slice A code.length cap) code.length,rowF (cutW w B).heap.size 3 1 (.slice (some ⟨g5,0,none⟩) 4 4) (([0,4,64,65535] : List Int).map intRow),slF (.slice A code.length cap) 1 (code.map byteRow),frF w (fun b => b = g)] (by kernel_rfl) (by kernel_rfl)).trans <| kF 2 0 [0,2,3,4,5]) ?_
 rintro ⟨⟨i,x,A1,c1⟩,hi,hrb⟩
 try dsimp only
 try dsimp only at hi hrb
 have hkn := hrb.up.kn; have hm := hrb.hm; have hsz := hrb.sz
 refine kS ?_
 refine kQ ?_
 refine kED [0,2,3,4,5,22] [(22,.v (.bool (decide ((i : Int) < y10))))] ?_
 refine kC (decide ((i : Int) < y10)) (fun h11 => ?_) (fun h11 => ?_)
 have h11p := of_decide_eq_true h11
 have hlt :  (i : Int) < y10 := of_decide_eq_true h11
 refine kK ?_
 refine kS ?_
 refine xw_joinF (α := {zz : Con × Option Addr × Nat // (fun (x2 : Con) (A4 : Option Addr) (c4 : Nat) => RB 3 x2.r) zz.1 zz.2.1 zz.2.2}) (fun zz => (fun (x2 : Con) (A4 : Option Addr) (c4 : Nat) => (⟨[(0,.v (.pointer (some ⟨g,0,none⟩))),(2,.p 0 0),(3,.p 1 0),(4,.v (.int .i64 y10)),(5,.v (.int .i64 (i : Int)))],[⟨34,conZ⟩,⟨34,conL x2 (.slice A4 x2.r.held.length c4)⟩],[],[ownF (cutW w B).heap.size (.slice A4 x2.r.held.length c4) 2 (x2.r.held.map pceCells),curF B g 100 (.slice A code.length cap) code.length,rowF (cutW w B).heap.size 3 1 (.slice (some ⟨g5,0,none⟩) 4 4) (([0,4,64,65535] : List Int).map intRow),slF (.slice A code.length cap) 1 (code.map byteRow),frF w (fun b => b = g)]⟩ : St)) zz.1.1 zz.1.2.1 zz.1.2.2) ?_ ?_
 refine xw_block ?_
 refine kQ ?_
 refine kWD 1 [0,2,3,4,5,25] [(25,.v (.pointer (some ⟨g,0,none⟩)))] 86 [.pointer (some ⟨g,0,none⟩),.int .i64 8] (some 26) 1 rfl rfl hlo (l1Below_c_K hBw hap) ?_
 rintro ⟨y12,hy12⟩
 obtain ⟨hy120,hy121⟩ := hy12
 refine kED [0,2,3,4,5,26] [] ?_
 refine xw_block ?_
 refine kQ ?_
 refine kED [0,2,3,4,5,26,36] [(36,.v (.bool (y12 == 0)))] ?_
 refine kC (y12 == 0) (fun h13 => ?_) (fun h13 => ?_)
 have h13p := eqT h13
 refine xe_region0 [true,false] (by kernel_rfl) (fun ρ σ => ?_)
 refine kTD [1,2] [41,40,0,2,3,4,5] 10 [(41,.v (.pointer (some ⟨g,0,none⟩))),(40,.v (.pointer (some ⟨g,0,none⟩)))] ?_
 refine kA [0,3] ⟨?_,?_⟩
 refine kSV 0 (.v (.agg (conL x (.slice A1 x.r.held.length c1)).toArray)) rfl ?_
 refine kA [3] ?_
 refine kSW 3 86 [.pointer (some ⟨g,0,none⟩),.int .i64 20] (some 42) 0 rfl rfl hlo (under_t (under_f rfl under_nil)) (l1Below_c_K hBw hap) ?_
 rintro ⟨y14,hy14⟩
 obtain ⟨hy140,hy141⟩ := hy14
 refine kA [4] ?_
 refine kSW 4 85 [.pointer (some ⟨g,0,none⟩),.int .i64 y14] (some 43) 0 rfl rfl hlo (under_t (under_f rfl under_nil)) (xcm_curR fun ww hw hf => l1Bytes_c g code A cap y14 ww B (Nat.le_trans (by first | exact Nat.le_refl _ | exact Nat.le_of_eq (cutW_size hB).symm) hw) (hf (curF B g 100 (.slice A code.length cap) code.length) (by simp)) (hf _ m3) hap (by omega) (by omega)) ?_
 rintro ⟨⟨b15l,b15a,b15c⟩,hb15⟩
 dsimp only at hb15
 refine kA [5] ?_
 refine kSR 5 (.string (bstr b15l)) rfl (fun _ _ ww hr => act_b2s (e := 5) b15l hr.1 rfl (by kernel_rfl) (by kernel_rfl) (by kernel_rfl) rfl (rowF_sl (hr.2.fact (rowF (cutW w B).heap.size 5 1 (.slice b15a b15l.length b15c) (b15l.map byteRow)) (by simp)).1)) ?_
 refine kA [6] ?_
 refine kSC 6 34 [.agg (conL x (.slice A1 x.r.held.length c1)).toArray,.string (bstr b15l)] (some 45) rfl (xc_r fun ww hw hf => ysWrite_c x (.slice A1 x.r.held.length c1) (bstr b15l) ww (Own.sl (hf _ m2)) (by assumption) (by assumption) (by omega) (by first | omega | (rw [bstr_size]; omega)) ((cutW w B).heap.size) hw) ?_
 rintro ⟨⟨v16a,v16c⟩,⟨v17a,v17c⟩⟩
 have hbd18 : (write x (bstr b15l)).1.r.held.length ≤ 1048576 ∧ (write x (bstr b15l)).2.2.length ≤ 49 := write_bd _ _  (by omega)
 have hbd18a := hbd18.1; have hbd18b := hbd18.2
 refine kTD [7,8,9,10] [46,0,2,3,4,5] 1 [(46,.v (.agg (conL (write x (bstr b15l)).1 (.slice v16a ((write x (bstr b15l)).1.r.held.length) v16c)).toArray))] ?_
 refine kA [11] ?_
 refine kSS 11 1 0 (conL (write x (bstr b15l)).1 (.slice v16a ((write x (bstr b15l)).1.r.held.length) v16c)) rfl ?_
 refine kZ ?_
 exact ⟨⟨((write x (bstr b15l)).1,v16a,v16c),(by first | exact RB.write hrb _ | exact RB.tick hrb | exact RB.shut hrb | exact RB.read hrb _ | exact RB.recv hrb (by omega) _ | exact hrb)⟩,(wk_pick [0,3,5,6,7] [ownF (cutW w B).heap.size (.slice v16a ((write x (bstr b15l)).1.r.held.length) v16c) 2 ((write x (bstr b15l)).1.r.held.map pceCells),curF B g 100 (.slice A code.length cap) code.length,rowF (cutW w B).heap.size 3 1 (.slice (some ⟨g5,0,none⟩) 4 4) (([0,4,64,65535] : List Int).map intRow),slF (.slice A code.length cap) 1 (code.map byteRow),frF w (fun b => b = g)] (by kernel_rfl) (by kernel_rfl)).trans <| kF 2 0 [0,2,3,4,5]⟩
 refine kSW 3 86 [.pointer (some ⟨g,0,none⟩),.int .i64 20] (some 42) 0 rfl rfl hlo (under_t (under_f rfl under_nil)) (l1Below_c_K hBw hap) ?_
 rintro ⟨y19,hy19⟩
 obtain ⟨hy190,hy191⟩ := hy19
 refine kA [0,4] ⟨?_,?_⟩
 refine kSV 0 (.v (.agg (conL x (.slice A1 x.r.held.length c1)).toArray)) rfl ?_
 refine kA [4] ?_
 refine kSW 4 85 [.pointer (some ⟨g,0,none⟩),.int .i64 y19] (some 43) 0 rfl rfl hlo (under_t (under_f rfl under_nil)) (xcm_curR fun ww hw hf => l1Bytes_c g code A cap y19 ww B (Nat.le_trans (by first | exact Nat.le_refl _ | exact Nat.le_of_eq (cutW_size hB).symm) hw) (hf (curF B g 100 (.slice A code.length cap) code.length) (by simp)) (hf _ m3) hap (by omega) (by omega)) ?_
 rintro ⟨⟨b20l,b20a,b20c⟩,hb20⟩
 dsimp only at hb20
 refine kA [5] ?_
 refine kSR 5 (.string (bstr b20l)) rfl (fun _ _ ww hr => act_b2s (e := 5) b20l hr.1 rfl (by kernel_rfl) (by kernel_rfl) (by kernel_rfl) rfl (rowF_sl (hr.2.fact (rowF (cutW w B).heap.size 5 1 (.slice b20a b20l.length b20c) (b20l.map byteRow)) (by simp)).1)) ?_
 refine kA [6] ?_
 refine kSC 6 34 [.agg (conL x (.slice A1 x.r.held.length c1)).toArray,.string (bstr b20l)] (some 45) rfl (xc_r fun ww hw hf => ysWrite_c x (.slice A1 x.r.held.length c1) (bstr b20l) ww (Own.sl (hf _ m2)) (by assumption) (by assumption) (by omega) (by first | omega | (rw [bstr_size]; omega)) ((cutW w B).heap.size) hw) ?_
 rintro ⟨⟨v21a,v21c⟩,⟨v22a,v22c⟩⟩
 have hbd23 : (write x (bstr b20l)).1.r.held.length ≤ 1048576 ∧ (write x (bstr b20l)).2.2.length ≤ 49 := write_bd _ _  (by omega)
 have hbd23a := hbd23.1; have hbd23b := hbd23.2
 refine kTD [7,8,9,10] [46,0,2,3,4,5] 1 [(46,.v (.agg (conL (write x (bstr b20l)).1 (.slice v21a ((write x (bstr b20l)).1.r.held.length) v21c)).toArray))] ?_
 refine kA [11] ?_
 refine kSS 11 1 0 (conL (write x (bstr b20l)).1 (.slice v21a ((write x (bstr b20l)).1.r.held.length) v21c)) rfl ?_
 refine kZ ?_
 exact ⟨⟨((write x (bstr b20l)).1,v21a,v21c),(by first | exact RB.write hrb _ | exact RB.tick hrb | exact RB.shut hrb | exact RB.read hrb _ | exact RB.recv hrb (by omega) _ | exact hrb)⟩,(wk_pick [0,3,5,6,7] [ownF (cutW w B).heap.size (.slice v21a ((write x (bstr b20l)).1.r.held.length) v21c) 2 ((write x (bstr b20l)).1.r.held.map pceCells),curF B g 100 (.slice A code.length cap) code.length,rowF (cutW w B).heap.size 3 1 (.slice (some ⟨g5,0,none⟩) 4 4) (([0,4,64,65535] : List Int).map intRow),slF (.slice A code.length cap) 1 (code.map byteRow),frF w (fun b => b = g)] (by kernel_rfl) (by kernel_rfl)).trans <| kF 2 0 [0,2,3,4,5]⟩
 refine kSW 4 85 [.pointer (some ⟨g,0,none⟩),.int .i64 y19] (some 43) 0 rfl rfl hlo (under_t (under_f rfl under_nil)) (xcm_curR fun ww hw hf => l1Bytes_c g code A cap y19 ww B (Nat.le_trans (by first | exact Nat.le_refl _ | exact Nat.le_of_eq (cutW_size hB).symm) hw) (hf (curF B g 100 (.slice A code.length cap) code.length) (by simp)) (hf _ m3) hap (by omega) (by omega)) ?_
 rintro ⟨⟨b24l,b24a,b24c⟩,hb24⟩
 dsimp only at hb24
 refine kA [0,5] ⟨?_,?_⟩
 refine kSV 0 (.v (.agg (conL x (.slice A1 x.r.held.length c1)).toArray)) rfl ?_
 refine kA [5] ?_
 refine kSR 5 (.string (bstr b24l)) rfl (fun _ _ ww hr => act_b2s (e := 5) b24l hr.1 rfl (by kernel_rfl) (by kernel_rfl) (by kernel_rfl) rfl (rowF_sl (hr.2.fact (rowF (cutW w B).heap.size 5 1 (.slice b24a b24l.length b24c) (b24l.map byteRow)) (by simp)).1)) ?_
 refine kA [6] ?_
 refine kSC 6 34 [.agg (conL x (.slice A1 x.r.held.length c1)).toArray,.string (bstr b24l)] (some 45) rfl (xc_r fun ww hw hf => ysWrite_c x (.slice A1 x.r.held.length c1) (bstr b24l) ww (Own.sl (hf _ m2)) (by assumption) (by assumption) (by omega) (by first | omega | (rw [bstr_size]; omega)) ((cutW w B).heap.size) hw) ?_
 rintro ⟨⟨v25a,v25c⟩,⟨v26a,v26c⟩⟩
 have hbd27 : (write x (bstr b24l)).1.r.held.length ≤ 1048576 ∧ (write x (bstr b24l)).2.2.length ≤ 49 := write_bd _ _  (by omega)
 have hbd27a := hbd27.1; have hbd27b := hbd27.2
 refine kTD [7,8,9,10] [46,0,2,3,4,5] 1 [(46,.v (.agg (conL (write x (bstr b24l)).1 (.slice v25a ((write x (bstr b24l)).1.r.held.length) v25c)).toArray))] ?_
 refine kA [11] ?_
 refine kSS 11 1 0 (conL (write x (bstr b24l)).1 (.slice v25a ((write x (bstr b24l)).1.r.held.length) v25c)) rfl ?_
 refine kZ ?_
 exact ⟨⟨((write x (bstr b24l)).1,v25a,v25c),(by first | exact RB.write hrb _ | exact RB.tick hrb | exact RB.shut hrb | exact RB.read hrb _ | exact RB.recv hrb (by omega) _ | exact hrb)⟩,(wk_pick [0,3,5,6,7] [ownF (cutW w B).heap.size (.slice v25a ((write x (bstr b24l)).1.r.held.length) v25c) 2 ((write x (bstr b24l)).1.r.held.map pceCells),curF B g 100 (.slice A code.length cap) code.length,rowF (cutW w B).heap.size 3 1 (.slice (some ⟨g5,0,none⟩) 4 4) (([0,4,64,65535] : List Int).map intRow),slF (.slice A code.length cap) 1 (code.map byteRow),frF w (fun b => b = g)] (by kernel_rfl) (by kernel_rfl)).trans <| kF 2 0 [0,2,3,4,5]⟩
 refine kSR 5 (.string (bstr b24l)) rfl (fun _ _ ww hr => act_b2s (e := 5) b24l hr.1 rfl (by kernel_rfl) (by kernel_rfl) (by kernel_rfl) rfl (rowF_sl (hr.2.fact (rowF (cutW w B).heap.size 5 1 (.slice b24a b24l.length b24c) (b24l.map byteRow)) (by simp)).1)) ?_
 refine kA [0] ?_
 refine kSV 0 (.v (.agg (conL x (.slice A1 x.r.held.length c1)).toArray)) rfl ?_
 refine kA [6] ?_
 refine kSC 6 34 [.agg (conL x (.slice A1 x.r.held.length c1)).toArray,.string (bstr b24l)] (some 45) rfl (xc_r fun ww hw hf => ysWrite_c x (.slice A1 x.r.held.length c1) (bstr b24l) ww (Own.sl (hf _ m2)) (by assumption) (by assumption) (by omega) (by first | omega | (rw [bstr_size]; omega)) ((cutW w B).heap.size) hw) ?_
 rintro ⟨⟨v28a,v28c⟩,⟨v29a,v29c⟩⟩
 have hbd30 : (write x (bstr b24l)).1.r.held.length ≤ 1048576 ∧ (write x (bstr b24l)).2.2.length ≤ 49 := write_bd _ _  (by omega)
 have hbd30a := hbd30.1; have hbd30b := hbd30.2
 refine kTD [7,8,9,10] [46,0,2,3,4,5] 1 [(46,.v (.agg (conL (write x (bstr b24l)).1 (.slice v28a ((write x (bstr b24l)).1.r.held.length) v28c)).toArray))] ?_
 refine kA [11] ?_
 refine kSS 11 1 0 (conL (write x (bstr b24l)).1 (.slice v28a ((write x (bstr b24l)).1.r.held.length) v28c)) rfl ?_
 refine kZ ?_
 exact ⟨⟨((write x (bstr b24l)).1,v28a,v28c),(by first | exact RB.write hrb _ | exact RB.tick hrb | exact RB.shut hrb | exact RB.read hrb _ | exact RB.recv hrb (by omega) _ | exact hrb)⟩,(wk_pick [0,3,5,6,7] [ownF (cutW w B).heap.size (.slice v28a ((write x (bstr b24l)).1.r.held.length) v28c) 2 ((write x (bstr b24l)).1.r.held.map pceCells),curF B g 100 (.slice A code.length cap) code.length,rowF (cutW w B).heap.size 3 1 (.slice (some ⟨g5,0,none⟩) 4 4) (([0,4,64,65535] : List Int).map intRow),slF (.slice A code.length cap) 1 (code.map byteRow),frF w (fun b => b = g)] (by kernel_rfl) (by kernel_rfl)).trans <| kF 2 0 [0,2,3,4,5]⟩
 have h13p := eqF h13
 refine kQ ?_
 refine kED [0,2,3,4,5,26,49] [(49,.v (.bool (y12 == 1)))] ?_
 refine kC (y12 == 1) (fun h31 => ?_) (fun h31 => ?_)
 have h31p := eqT h31
 refine kG ?_
 refine kCD 1 [0,2,3,4,5,52] [(52,.v (.agg (conL x (.slice A1 x.r.held.length c1)).toArray))] 43 [.agg (conL x (.slice A1 x.r.held.length c1)).toArray] (some 53) rfl (xc_r fun ww hw hf => ysTickConn_c x (.slice A1 x.r.held.length c1) ww (Own.sl (hf _ m1)) (by assumption) (by assumption) (by omega) ((cutW w B).heap.size) hw) ?_
 rintro ⟨⟨v32a,v32c⟩,⟨v33a,v33c⟩⟩
 have hbd34 : (tickConn x).1.r.held.length ≤ 1048576 ∧ (tickConn x).2.length ≤ 49 := tickConn_bd _  (by omega)
 have hbd34a := hbd34.1; have hbd34b := hbd34.2
 refine kEU [0,2,3,4,5] [] 1 ⟨34,conL (tickConn x).1 (.slice v32a ((tickConn x).1.r.held.length) v32c)⟩ ?_
 exact ⟨⟨((tickConn x).1,v32a,v32c),(by first | exact RB.write hrb _ | exact RB.tick hrb | exact RB.shut hrb | exact RB.read hrb _ | exact RB.recv hrb (by omega) _ | exact hrb)⟩,(wk_pick [0,2,4,5,6] [ownF (cutW w B).heap.size (.slice v32a ((tickConn x).1.r.held.length) v32c) 2 ((tickConn x).1.r.held.map pceCells),curF B g 100 (.slice A code.length cap) code.length,rowF (cutW w B).heap.size 3 1 (.slice (some ⟨g5,0,none⟩) 4 4) (([0,4,64,65535] : List Int).map intRow),slF (.slice A code.length cap) 1 (code.map byteRow),frF w (fun b => b = g)] (by kernel_rfl) (by kernel_rfl)).trans <| kF 2 0 [0,2,3,4,5]⟩
 have h31p := eqF h31
 refine kQ ?_
 refine kED [0,2,3,4,5,26,56] [(56,.v (.bool (y12 == 2)))] ?_
 refine kC (y12 == 2) (fun h35 => ?_) (fun h35 => ?_)
 have h35p := eqT h35
 refine kQ ?_
 refine kWD 1 [0,2,3,4,5,58] [(58,.v (.pointer (some ⟨g,0,none⟩)))] 64 [.pointer (some ⟨g,0,none⟩),.int .i64 2] (some 59) 0 rfl rfl hlo (l1Once_c_K hBw hap) ?_
 rintro ⟨y36,hy36⟩
 refine kED [0,2,3,4,5,59] [] ?_
 refine kC (y36) (fun h37 => ?_) (fun h37 => ?_)
 refine kG ?_
 refine kCD 1 [0,2,3,4,5,61] [(61,.v (.agg (conL x (.slice A1 x.r.held.length c1)).toArray))] 29 [.agg (conL x (.slice A1 x.r.held.length c1)).toArray] (some 62) rfl (xc_r fun ww hw hf => ysShut_c x (.slice A1 x.r.held.length c1) ww (Own.sl (hf _ m1)) (by assumption) (by assumption) (by omega) ((cutW w B).heap.size) hw) ?_
 rintro ⟨⟨v38a,v38c⟩,⟨v39a,v39c⟩⟩
 have hbd40 : (shut x).1.r.held.length ≤ 1048576 ∧ (shut x).2.length ≤ 49 := shut_bd _  (by omega)
 have hbd40a := hbd40.1; have hbd40b := hbd40.2
 refine kEU [0,2,3,4,5] [] 1 ⟨34,conL (shut x).1 (.slice v38a ((shut x).1.r.held.length) v38c)⟩ ?_
 exact ⟨⟨((shut x).1,v38a,v38c),(by first | exact RB.write hrb _ | exact RB.tick hrb | exact RB.shut hrb | exact RB.read hrb _ | exact RB.recv hrb (by omega) _ | exact hrb)⟩,(wk_pick [0,2,4,5,6] [ownF (cutW w B).heap.size (.slice v38a ((shut x).1.r.held.length) v38c) 2 ((shut x).1.r.held.map pceCells),curF B g 100 (.slice A code.length cap) code.length,rowF (cutW w B).heap.size 3 1 (.slice (some ⟨g5,0,none⟩) 4 4) (([0,4,64,65535] : List Int).map intRow),slF (.slice A code.length cap) 1 (code.map byteRow),frF w (fun b => b = g)] (by kernel_rfl) (by kernel_rfl)).trans <| kF 2 0 [0,2,3,4,5]⟩
 refine kK ?_
 exact ⟨⟨(x,A1,c1),(by first | exact RB.write hrb _ | exact RB.tick hrb | exact RB.shut hrb | exact RB.read hrb _ | exact RB.recv hrb (by omega) _ | exact hrb)⟩,(wk_pick [1,0,2,3,4] [ownF (cutW w B).heap.size (.slice A1 x.r.held.length c1) 2 (x.r.held.map pceCells),curF B g 100 (.slice A code.length cap) code.length,rowF (cutW w B).heap.size 3 1 (.slice (some ⟨g5,0,none⟩) 4 4) (([0,4,64,65535] : List Int).map intRow),slF (.slice A code.length cap) 1 (code.map byteRow),frF w (fun b => b = g)] (by kernel_rfl) (by kernel_rfl)).trans <| kF 2 0 [0,2,3,4,5]⟩
 have h35p := eqF h35
 refine kQ ?_
 refine kED [0,2,3,4,5,65] [(65,.v (.bool (y12 == 3)))] ?_
 refine kC (y12 == 3) (fun h41 => ?_) (fun h41 => ?_)
 have h41p := eqT h41
 refine xe_region0 [true,false] (by kernel_rfl) (fun ρ σ => ?_)
 refine kTD [1] [69,0,2,3,4,5] 8 [(69,.v (.pointer (some ⟨g,0,none⟩)))] ?_
 refine kA [0,2] ⟨?_,?_⟩
 refine kSV 0 (.v (.agg (conL x (.slice A1 x.r.held.length c1)).toArray)) rfl ?_
 refine kA [2] ?_
 refine kSW 2 86 [.pointer (some ⟨g,0,none⟩),.int .i64 9] (some 70) 0 rfl rfl hlo (under_t (under_f rfl under_nil)) (l1Below_c_K hBw hap) ?_
 rintro ⟨y42,hy42⟩
 obtain ⟨hy420,hy421⟩ := hy42
 refine kA [3] ?_
 refine kSC 3 20 [.agg (conL x (.slice A1 x.r.held.length c1)).toArray,.int .i64 y42] (some 71) rfl (xc_r fun ww hw hf => ysReadConn_c x (.slice A1 x.r.held.length c1) y42 ww (Own.sl (hf _ m1)) (by assumption) (by assumption) (by omega) ((cutW w B).heap.size) hw) ?_
 rintro ⟨⟨v43a,v43c⟩,⟨v44a,v44c⟩⟩
 have hbd45 : (readConn x y42).1.r.held.length ≤ 1048576 ∧ (readConn x y42).2.2.length ≤ 1 := readConn_bd _ _  (by omega)
 have hbd45a := hbd45.1; have hbd45b := hbd45.2
 refine kTD [4,5,6,7] [72,0,2,3,4,5] 1 [(72,.v (.agg (conL (readConn x y42).1 (.slice v43a ((readConn x y42).1.r.held.length) v43c)).toArray))] ?_
 refine kA [8] ?_
 refine kSS 8 1 0 (conL (readConn x y42).1 (.slice v43a ((readConn x y42).1.r.held.length) v43c)) rfl ?_
 refine kZ ?_
 exact ⟨⟨((readConn x y42).1,v43a,v43c),(by first | exact RB.write hrb _ | exact RB.tick hrb | exact RB.shut hrb | exact RB.read hrb _ | exact RB.recv hrb (by omega) _ | exact hrb)⟩,(wk_pick [0,2,4,5,6] [ownF (cutW w B).heap.size (.slice v43a ((readConn x y42).1.r.held.length) v43c) 2 ((readConn x y42).1.r.held.map pceCells),curF B g 100 (.slice A code.length cap) code.length,rowF (cutW w B).heap.size 3 1 (.slice (some ⟨g5,0,none⟩) 4 4) (([0,4,64,65535] : List Int).map intRow),slF (.slice A code.length cap) 1 (code.map byteRow),frF w (fun b => b = g)] (by kernel_rfl) (by kernel_rfl)).trans <| kF 2 0 [0,2,3,4,5]⟩
 refine kSW 2 86 [.pointer (some ⟨g,0,none⟩),.int .i64 9] (some 70) 0 rfl rfl hlo (under_t (under_f rfl under_nil)) (l1Below_c_K hBw hap) ?_
 rintro ⟨y46,hy46⟩
 obtain ⟨hy460,hy461⟩ := hy46
 refine kA [0] ?_
 refine kSV 0 (.v (.agg (conL x (.slice A1 x.r.held.length c1)).toArray)) rfl ?_
 refine kA [3] ?_
 refine kSC 3 20 [.agg (conL x (.slice A1 x.r.held.length c1)).toArray,.int .i64 y46] (some 71) rfl (xc_r fun ww hw hf => ysReadConn_c x (.slice A1 x.r.held.length c1) y46 ww (Own.sl (hf _ m1)) (by assumption) (by assumption) (by omega) ((cutW w B).heap.size) hw) ?_
 rintro ⟨⟨v47a,v47c⟩,⟨v48a,v48c⟩⟩
 have hbd49 : (readConn x y46).1.r.held.length ≤ 1048576 ∧ (readConn x y46).2.2.length ≤ 1 := readConn_bd _ _  (by omega)
 have hbd49a := hbd49.1; have hbd49b := hbd49.2
 refine kTD [4,5,6,7] [72,0,2,3,4,5] 1 [(72,.v (.agg (conL (readConn x y46).1 (.slice v47a ((readConn x y46).1.r.held.length) v47c)).toArray))] ?_
 refine kA [8] ?_
 refine kSS 8 1 0 (conL (readConn x y46).1 (.slice v47a ((readConn x y46).1.r.held.length) v47c)) rfl ?_
 refine kZ ?_
 exact ⟨⟨((readConn x y46).1,v47a,v47c),(by first | exact RB.write hrb _ | exact RB.tick hrb | exact RB.shut hrb | exact RB.read hrb _ | exact RB.recv hrb (by omega) _ | exact hrb)⟩,(wk_pick [0,2,4,5,6] [ownF (cutW w B).heap.size (.slice v47a ((readConn x y46).1.r.held.length) v47c) 2 ((readConn x y46).1.r.held.map pceCells),curF B g 100 (.slice A code.length cap) code.length,rowF (cutW w B).heap.size 3 1 (.slice (some ⟨g5,0,none⟩) 4 4) (([0,4,64,65535] : List Int).map intRow),slF (.slice A code.length cap) 1 (code.map byteRow),frF w (fun b => b = g)] (by kernel_rfl) (by kernel_rfl)).trans <| kF 2 0 [0,2,3,4,5]⟩
 have h41p := eqF h41
 refine xe_region0 [true,false] (by kernel_rfl) (fun ρ σ => ?_)
 refine kTD [1] [29,0,2,3,4,5] 9 [(29,.v (.pointer (some ⟨g,0,none⟩)))] ?_
 refine kA [0,2] ⟨?_,?_⟩
 refine kSV 0 (.v (.agg (conL x (.slice A1 x.r.held.length c1)).toArray)) rfl ?_
 refine kA [2] ?_
 refine kSV 2 (.v (.agg (conL x (.slice A1 x.r.held.length c1)).toArray)) rfl ?_
 refine kA [3] ?_
 refine kSW 3 100 [.pointer (some ⟨g,0,none⟩),.agg (conL x (.slice A1 x.r.held.length c1)).toArray] (some 31) 0 rfl rfl hlo (under_t (under_f rfl under_nil)) (l19Segment_c_K hBw hap) ?_
 rintro ⟨y50,hy50⟩
 refine kA [4] ?_
 refine kSC 4 128 [.agg (conL x (.slice A1 x.r.held.length c1)).toArray,.agg (segL y50).toArray] (some 32) rfl (xc_r fun ww hw hf => ysReceive_c x (.slice A1 x.r.held.length c1) y50 ww (Own.sl (hf _ m1)) (by assumption) (by omega) (by assumption) (by omega) ((cutW w B).heap.size) hw) ?_
 rintro ⟨⟨v51a,v51c⟩,⟨v52a,v52c⟩⟩
 refine kTD [5,6,7,8] [33,0,2,3,4,5] 1 [(33,.v (.agg (conL (received x y50).1 (.slice v51a ((received x y50).1.r.held.length) v51c)).toArray))] ?_
 refine kA [9] ?_
 refine kSS 9 1 0 (conL (received x y50).1 (.slice v51a ((received x y50).1.r.held.length) v51c)) rfl ?_
 refine kZ ?_
 exact ⟨⟨((received x y50).1,v51a,v51c),(by first | exact RB.write hrb _ | exact RB.tick hrb | exact RB.shut hrb | exact RB.read hrb _ | exact RB.recv hrb (by omega) _ | exact hrb)⟩,(wk_pick [0,2,4,5,6] [ownF (cutW w B).heap.size (.slice v51a ((received x y50).1.r.held.length) v51c) 2 ((received x y50).1.r.held.map pceCells),curF B g 100 (.slice A code.length cap) code.length,rowF (cutW w B).heap.size 3 1 (.slice (some ⟨g5,0,none⟩) 4 4) (([0,4,64,65535] : List Int).map intRow),slF (.slice A code.length cap) 1 (code.map byteRow),frF w (fun b => b = g)] (by kernel_rfl) (by kernel_rfl)).trans <| kF 2 0 [0,2,3,4,5]⟩
 refine kSV 2 (.v (.agg (conL x (.slice A1 x.r.held.length c1)).toArray)) rfl ?_
 refine kA [0,3] ⟨?_,?_⟩
 refine kSV 0 (.v (.agg (conL x (.slice A1 x.r.held.length c1)).toArray)) rfl ?_
 refine kA [3] ?_
 refine kSW 3 100 [.pointer (some ⟨g,0,none⟩),.agg (conL x (.slice A1 x.r.held.length c1)).toArray] (some 31) 0 rfl rfl hlo (under_t (under_f rfl under_nil)) (l19Segment_c_K hBw hap) ?_
 rintro ⟨y53,hy53⟩
 refine kA [4] ?_
 refine kSC 4 128 [.agg (conL x (.slice A1 x.r.held.length c1)).toArray,.agg (segL y53).toArray] (some 32) rfl (xc_r fun ww hw hf => ysReceive_c x (.slice A1 x.r.held.length c1) y53 ww (Own.sl (hf _ m1)) (by assumption) (by omega) (by assumption) (by omega) ((cutW w B).heap.size) hw) ?_
 rintro ⟨⟨v54a,v54c⟩,⟨v55a,v55c⟩⟩
 refine kTD [5,6,7,8] [33,0,2,3,4,5] 1 [(33,.v (.agg (conL (received x y53).1 (.slice v54a ((received x y53).1.r.held.length) v54c)).toArray))] ?_
 refine kA [9] ?_
 refine kSS 9 1 0 (conL (received x y53).1 (.slice v54a ((received x y53).1.r.held.length) v54c)) rfl ?_
 refine kZ ?_
 exact ⟨⟨((received x y53).1,v54a,v54c),(by first | exact RB.write hrb _ | exact RB.tick hrb | exact RB.shut hrb | exact RB.read hrb _ | exact RB.recv hrb (by omega) _ | exact hrb)⟩,(wk_pick [0,2,4,5,6] [ownF (cutW w B).heap.size (.slice v54a ((received x y53).1.r.held.length) v54c) 2 ((received x y53).1.r.held.map pceCells),curF B g 100 (.slice A code.length cap) code.length,rowF (cutW w B).heap.size 3 1 (.slice (some ⟨g5,0,none⟩) 4 4) (([0,4,64,65535] : List Int).map intRow),slF (.slice A code.length cap) 1 (code.map byteRow),frF w (fun b => b = g)] (by kernel_rfl) (by kernel_rfl)).trans <| kF 2 0 [0,2,3,4,5]⟩
 refine kSW 3 100 [.pointer (some ⟨g,0,none⟩),.agg (conL x (.slice A1 x.r.held.length c1)).toArray] (some 31) 0 rfl rfl hlo (under_t (under_f rfl under_nil)) (l19Segment_c_K hBw hap) ?_
 rintro ⟨y56,hy56⟩
 refine kA [0] ?_
 refine kSV 0 (.v (.agg (conL x (.slice A1 x.r.held.length c1)).toArray)) rfl ?_
 refine kA [4] ?_
 refine kSC 4 128 [.agg (conL x (.slice A1 x.r.held.length c1)).toArray,.agg (segL y56).toArray] (some 32) rfl (xc_r fun ww hw hf => ysReceive_c x (.slice A1 x.r.held.length c1) y56 ww (Own.sl (hf _ m1)) (by assumption) (by omega) (by assumption) (by omega) ((cutW w B).heap.size) hw) ?_
 rintro ⟨⟨v57a,v57c⟩,⟨v58a,v58c⟩⟩
 refine kTD [5,6,7,8] [33,0,2,3,4,5] 1 [(33,.v (.agg (conL (received x y56).1 (.slice v57a ((received x y56).1.r.held.length) v57c)).toArray))] ?_
 refine kA [9] ?_
 refine kSS 9 1 0 (conL (received x y56).1 (.slice v57a ((received x y56).1.r.held.length) v57c)) rfl ?_
 refine kZ ?_
 exact ⟨⟨((received x y56).1,v57a,v57c),(by first | exact RB.write hrb _ | exact RB.tick hrb | exact RB.shut hrb | exact RB.read hrb _ | exact RB.recv hrb (by omega) _ | exact hrb)⟩,(wk_pick [0,2,4,5,6] [ownF (cutW w B).heap.size (.slice v57a ((received x y56).1.r.held.length) v57c) 2 ((received x y56).1.r.held.map pceCells),curF B g 100 (.slice A code.length cap) code.length,rowF (cutW w B).heap.size 3 1 (.slice (some ⟨g5,0,none⟩) 4 4) (([0,4,64,65535] : List Int).map intRow),slF (.slice A code.length cap) 1 (code.map byteRow),frF w (fun b => b = g)] (by kernel_rfl) (by kernel_rfl)).trans <| kF 2 0 [0,2,3,4,5]⟩
 rintro ⟨⟨x2,A4,c4⟩,hr2⟩
 try dsimp only
 try dsimp only at hr2
 refine kG ?_
 refine kRS 3 [0,2,3,4,5] [(0,.v (.pointer (some ⟨g,0,none⟩))),(2,.p 0 0),(3,.p 1 0),(4,.v (.int .i64 y10)),(5,.v (.int .i64 (IntKind.i64.wrap ((i : Int) + 1))))] ?_
 refine xl_eqS (t' := [(0,.v (.pointer (some ⟨g,0,none⟩))),(2,.p 0 0),(3,.p 1 0),(4,.v (.int .i64 y10)),(5,.v (.int .i64 ((i : Int) + 1)))]) (by rw [show (IntKind.i64.wrap ((i : Int) + 1)) = ((i : Int) + 1) from wrap_id (by omega) (by omega)]) ?_
 refine kED [0,2,3,4,5] [] ?_
 exact ⟨⟨(i + 1,x2,A4,c4),⟨(by omega),hr2⟩⟩,kF 2 0 [0,2,3,4,5],by show (fun (i : Nat) (x : Con) (A1 : Option Addr) (c1 : Nat) => (y10).toNat - i) (i + 1) x2 A4 c4 < (y10).toNat - i; (dsimp only; omega)⟩
 have h11p := of_decide_eq_false h11
 have hge : ¬ (i : Int) < y10 := of_decide_eq_false h11
 refine xw_exit ?_
 refine kQ ?_
 refine kEU [2] [(2,.p 0 0)] 0 ⟨34,conL x (.slice A1 x.r.held.length c1)⟩ ?_
 refine kR ?_
 exact ⟨[.agg (conL x (.slice A1 x.r.held.length c1)).toArray],by kernel_rfl,fun w' hb hf ha => ⟨⟨(x,A1,c1),hrb.up⟩,rfl,hf (curF B g 100 (.slice A code.length cap) code.length) (by simp),newF_own (hf (ownF (cutW w B).heap.size (.slice A1 x.r.held.length c1) 2 (x.r.held.map pceCells)) (by simp)) (own_new ha (i := 0) (j := 1) (k := 4) rfl rfl rfl rfl (by decide) (by decide)),hgl,frF_chgd (hf (frF w (fun b => b = g)) (by simp)) hb rfl rfl rfl⟩⟩
theorem l19Bent_c (g : Nat) (code : List Int) (A : Option Addr) (cap : Nat) (w : World) (B : Nat) (hB : B ≤ w.heap.size) (hc : (curF B g 100 (.slice A code.length cap) code.length).p w) (hl : Sl w (.slice A code.length cap) 1 (code.map byteRow)) (hap : ¬ (slF (.slice A code.length cap) 1 (code.map byteRow)).blk g) (hn : code.length ≤ 1048576) : Calls Tryz.prog 63 #[.pointer (some ⟨g, 0, none⟩)] w fun e w' => ∃ y : {y : Con × (Option Addr × Nat) // RB 4 y.1.r}, e = .returned (.agg (conL y.1.1 (.slice y.1.2.1 y.1.1.r.held.length y.1.2.2)).toArray) ∧ (curF B g 100 (.slice A code.length cap) code.length).p w' ∧ (newF w.heap.size (.slice y.1.2.1 y.1.1.r.held.length y.1.2.2) 2 (y.1.1.r.held.map pceCells)).p w' ∧ g < w.heap.size ∧ Chgd (fun b => b = g) w w' := by
 have hq_code := Sl.capLe hl
 have hBw : B ≤ (cutW w B).heap.size := Nat.le_of_eq (cutW_size hB).symm
 have hlo : ∀ (ww : World) (b : Nat),(curF B g 100 (.slice A code.length cap) code.length).p ww → (curF B g 100 (.slice A code.length cap) code.length).blk b → (cutW w B).heap.size ≤ b := fun ww b h hb => Nat.le_trans (cutW_le w B) (cur_lo h hb)
 refine x_callsMA (args := [.pointer (some ⟨g,0,none⟩)]) (fn := Tryz.f63) [curF B g 100 (.slice A code.length cap) code.length,slF (.slice A code.length cap) 1 (code.map byteRow),frF w (fun b => b = g)] B Tryz.func63 rfl Tryz.ntmps63 rfl hB (by simp only [List.mem_cons,List.not_mem_nil,or_false,forall_eq_or_imp,forall_eq]; exact ⟨hc,hl,frF_start w _⟩) (apart_cur hap rfl) ?_
 have hgl : g < w.heap.size := (curF B g 100 (.slice A code.length cap) code.length).lt w g hc rfl
 refine kQ ?_
 refine kEF [0,2] ⟨[(0,.v (.pointer (some ⟨g,0,none⟩))),(2,.p 0 0)],[⟨34,conZ⟩],[],[curF B g 100 (.slice A code.length cap) code.length,slF (.slice A code.length cap) 1 (code.map byteRow),frF w (fun b => b = g)]⟩ ?_
 refine kQ ?_
 refine kWD 1 [0,2,4] [(4,.v (.pointer (some ⟨g,0,none⟩)))] 107 [.pointer (some ⟨g,0,none⟩)] (some 5) 0 rfl rfl hlo (xcm_curN fun ww hw hf => l19Conn_c g code A cap ww B (Nat.le_trans (by first | exact Nat.le_refl _ | exact Nat.le_of_eq (cutW_size hB).symm) hw) (hf (curF B g 100 (.slice A code.length cap) code.length) (by simp)) (hf _ m1) hap (by omega)) ?_
 rintro ⟨⟨b1m,b1a,b1c⟩,hb1⟩
 dsimp only at hb1
 have hb1n := hb1.1
 refine kEA [0,2,3] [(3,.p 1 0)] [⟨34,conL b1m (.slice b1a b1m.r.held.length b1c)⟩] ?_
 refine kS ?_
 refine kQ ?_
 refine kWD 1 [0,2,3,6] [(6,.v (.pointer (some ⟨g,0,none⟩)))] 86 [.pointer (some ⟨g,0,none⟩),.int .i64 16] (some 7) 1 rfl rfl hlo (l1Below_c_K hBw hap) ?_
 rintro ⟨y2,hy2⟩
 obtain ⟨hy20,hy21⟩ := hy2
 refine kED [0,2,3,7] [] ?_
 refine xw_block ?_
 refine kQ ?_
 refine kED [0,2,3,7,8] [(8,.v (.bool (y2 == 0)))] ?_
 refine kC (y2 == 0) (fun h3 => ?_) (fun h3 => ?_)
 have h3p := eqT h3
 refine kG ?_
 refine kWD 1 [2,3,10] [(10,.v (.pointer (some ⟨g,0,none⟩)))] 86 [.pointer (some ⟨g,0,none⟩),.int .i64 11] (some 11) 0 rfl rfl hlo (l1Below_c_K hBw hap) ?_
 rintro ⟨y4,hy4⟩
 obtain ⟨hy40,hy41⟩ := hy4
 refine kEU [2,3] [] 1 ⟨34,conL { b1m with state := IntKind.i64.wrap (y4 - 1) } (.slice b1a b1m.r.held.length b1c)⟩ ?_
 refine kQ ?_
 refine kEU [2] [(2,.p 0 0)] 0 ⟨34,conL { b1m with state := IntKind.i64.wrap (y4 - 1) } (.slice b1a b1m.r.held.length b1c)⟩ ?_
 refine kR ?_
 exact ⟨[.agg (conL { b1m with state := IntKind.i64.wrap (y4 - 1) } (.slice b1a b1m.r.held.length b1c)).toArray],by kernel_rfl,fun w' hb hf ha => ⟨⟨({ b1m with state := IntKind.i64.wrap (y4 - 1) },b1a,b1c),hb1⟩,rfl,hf (curF B g 100 (.slice A code.length cap) code.length) (by simp),newF_new (hf (newF (cutW w B).heap.size (.slice b1a b1m.r.held.length b1c) 2 (b1m.r.held.map pceCells)) (by simp)) (own_new ha (i := 1) (j := 0) (k := 3) rfl rfl rfl rfl (by decide) (by decide)),hgl,frF_chgd (hf (frF w (fun b => b = g)) (by simp)) hb rfl rfl rfl⟩⟩
 have h3p := eqF h3
 refine kQ ?_
 refine kED [0,2,3,7,14] [(14,.v (.bool (y2 == 1)))] ?_
 refine kC (y2 == 1) (fun h5 => ?_) (fun h5 => ?_)
 have h5p := eqT h5
 refine kG ?_
 refine kWD 1 [2,3,16] [(16,.v (.pointer (some ⟨g,0,none⟩)))] 108 [.pointer (some ⟨g,0,none⟩)] (some 17) 0 rfl rfl hlo (l17Bent_c_K hBw hap) ?_
 rintro ⟨y6,hy6⟩
 refine kEU [2,3] [] 1 ⟨34,conL { b1m with s := y6 } (.slice b1a b1m.r.held.length b1c)⟩ ?_
 refine kQ ?_
 refine kEU [2] [(2,.p 0 0)] 0 ⟨34,conL { b1m with s := y6 } (.slice b1a b1m.r.held.length b1c)⟩ ?_
 refine kR ?_
 exact ⟨[.agg (conL { b1m with s := y6 } (.slice b1a b1m.r.held.length b1c)).toArray],by kernel_rfl,fun w' hb hf ha => ⟨⟨({ b1m with s := y6 },b1a,b1c),hb1⟩,rfl,hf (curF B g 100 (.slice A code.length cap) code.length) (by simp),newF_new (hf (newF (cutW w B).heap.size (.slice b1a b1m.r.held.length b1c) 2 (b1m.r.held.map pceCells)) (by simp)) (own_new ha (i := 1) (j := 0) (k := 3) rfl rfl rfl rfl (by decide) (by decide)),hgl,frF_chgd (hf (frF w (fun b => b = g)) (by simp)) hb rfl rfl rfl⟩⟩
 have h5p := eqF h5
 refine kQ ?_
 refine kED [0,2,3,7,19] [(19,.v (.bool (y2 == 2)))] ?_
 refine kC (y2 == 2) (fun h7 => ?_) (fun h7 => ?_)
 have h7p := eqT h7
 refine kG ?_
 refine kWD 1 [2,3,21] [(21,.v (.pointer (some ⟨g,0,none⟩)))] 109 [.pointer (some ⟨g,0,none⟩)] (some 22) 0 rfl rfl hlo (xcm_curR fun ww hw hf => l18Bent_c g code A cap ww B (Nat.le_trans (by first | exact Nat.le_refl _ | exact Nat.le_of_eq (cutW_size hB).symm) hw) (hf (curF B g 100 (.slice A code.length cap) code.length) (by simp)) (hf _ m2) hap (by omega)) ?_
 rintro ⟨⟨b8m,b8a,b8c⟩,hb8⟩
 dsimp only at hb8
 have hb8n := hb8.1
 refine kEU [2,3] [] 1 ⟨34,conL { b1m with r := b8m } (.slice b8a b8m.held.length b8c)⟩ ?_
 refine kQ ?_
 refine kEU [2] [(2,.p 0 0)] 0 ⟨34,conL { b1m with r := b8m } (.slice b8a b8m.held.length b8c)⟩ ?_
 refine kR ?_
 exact ⟨[.agg (conL { b1m with r := b8m } (.slice b8a b8m.held.length b8c)).toArray],by kernel_rfl,fun w' hb hf ha => ⟨⟨({ b1m with r := b8m },b8a,b8c),hb8⟩,rfl,hf (curF B g 100 (.slice A code.length cap) code.length) (by simp),newF_row (hf (rowF (cutW w B).heap.size 108 2 (.slice b8a b8m.held.length b8c) (b8m.held.map pceCells)) (by simp)) (own_new ha (i := 0) (j := 1) (k := 4) rfl rfl rfl rfl (by decide) (by decide)),hgl,frF_chgd (hf (frF w (fun b => b = g)) (by simp)) hb rfl rfl rfl⟩⟩
 have h7p := eqF h7
 refine kQ ?_
 refine kED [0,2,3,7,24] [(24,.v (.bool (y2 == 3)))] ?_
 refine kC (y2 == 3) (fun h9 => ?_) (fun h9 => ?_)
 have h9p := eqT h9
 refine kG ?_
 refine kHD 6 [2,3,26,28,31] [(26,.v (.pointer (some ⟨g,0,none⟩))),(28,.v (.int .i64 b1m.most)),(31,.v (.int .i64 (IntKind.i64.wrap (b1m.most + 1))))] rfl (hv_build (e := 3) (K := 1) (bytes := 8) [.int .i64 (-1),.int .i64 0,.int .i64 b1m.most,.int .i64 (IntKind.i64.wrap (b1m.most + 1))] rfl (by kernel_rfl) (by kernel_rfl) (by kernel_rfl) (by kernel_rfl) (by kernel_rfl) (rs := ([(-1),0,b1m.most,IntKind.i64.wrap (b1m.most + 1)] : List Int).map intRow) rfl) ?_
 intro g10
 refine xl_know (φ := ¬ (slF (.slice (some ⟨g10,0,none⟩) 4 4) 1 (([(-1),0,b1m.most,IntKind.i64.wrap (b1m.most + 1)] : List Int).map intRow)).blk g) (fun _ _ _ _ hr => fun hb => hr.2.apart 0 1 (rowF (cutW w B).heap.size 3 1 (.slice (some ⟨g10,0,none⟩) 4 4) (([(-1),0,b1m.most,IntKind.i64.wrap (b1m.most + 1)] : List Int).map intRow)) (curF B g 100 (.slice A code.length cap) code.length) rfl rfl (by decide) rfl g (rowF_sblk hb) rfl) (fun hk11 => ?_)
 refine kWD 0 [2,3,26,32] [] 66 [.pointer (some ⟨g,0,none⟩),.slice (some ⟨g10,0,none⟩) 4 4] (some 33) 1 rfl rfl hlo (l1PickInt_c_K hBw hap (fun ww hw hf => (rowF_sl (hf _ m0))) hk11 (by simp)) ?_
 rintro ⟨y12,hy12⟩
 refine kEF [2,3] ⟨[(2,.p 0 0),(3,.p 1 0)],[⟨34,conZ⟩,⟨34,conL { b1m with window := y12 } (.slice b1a b1m.r.held.length b1c)⟩],[],[curF B g 100 (.slice A code.length cap) code.length,rowF (cutW w B).heap.size 3 1 (.slice (some ⟨g10,0,none⟩) 4 4) (([(-1),0,b1m.most,IntKind.i64.wrap (b1m.most + 1)] : List Int).map intRow),newF (cutW w B).heap.size (.slice b1a b1m.r.held.length b1c) 2 (b1m.r.held.map pceCells),slF (.slice A code.length cap) 1 (code.map byteRow),frF w (fun b => b = g)]⟩ ?_
 refine kQ ?_
 refine kEU [2] [(2,.p 0 0)] 0 ⟨34,conL { b1m with window := y12 } (.slice b1a b1m.r.held.length b1c)⟩ ?_
 refine kR ?_
 exact ⟨[.agg (conL { b1m with window := y12 } (.slice b1a b1m.r.held.length b1c)).toArray],by kernel_rfl,fun w' hb hf ha => ⟨⟨({ b1m with window := y12 },b1a,b1c),hb1⟩,rfl,hf (curF B g 100 (.slice A code.length cap) code.length) (by simp),newF_new (hf (newF (cutW w B).heap.size (.slice b1a b1m.r.held.length b1c) 2 (b1m.r.held.map pceCells)) (by simp)) (own_new ha (i := 2) (j := 0) (k := 4) rfl rfl rfl rfl (by decide) (by decide)),hgl,frF_chgd (hf (frF w (fun b => b = g)) (by simp)) hb rfl rfl rfl⟩⟩
 have h9p := eqF h9
 refine kQ ?_
 refine kED [0,2,3,7,35] [(35,.v (.bool (y2 == 4)))] ?_
 refine kC (y2 == 4) (fun h13 => ?_) (fun h13 => ?_)
 have h13p := eqT h13
 refine kG ?_
 refine kHD 1 [2,3,37] [(37,.v (.pointer (some ⟨g,0,none⟩)))] rfl (hv_build (e := 3) (K := 1) (bytes := 8) [.int .i64 (-1),.int .i64 0,.int .i64 3,.int .i64 4,.int .i64 5] rfl (by kernel_rfl) (by kernel_rfl) (by kernel_rfl) (by kernel_rfl) (by kernel_rfl) (rs := ([(-1),0,3,4,5] : List Int).map intRow) rfl) ?_
 intro g14
 refine xl_know (φ := ¬ (slF (.slice (some ⟨g14,0,none⟩) 5 5) 1 (([(-1),0,3,4,5] : List Int).map intRow)).blk g) (fun _ _ _ _ hr => fun hb => hr.2.apart 0 1 (rowF (cutW w B).heap.size 3 1 (.slice (some ⟨g14,0,none⟩) 5 5) (([(-1),0,3,4,5] : List Int).map intRow)) (curF B g 100 (.slice A code.length cap) code.length) rfl rfl (by decide) rfl g (rowF_sblk hb) rfl) (fun hk15 => ?_)
 refine kWS 0 [2,3,37,38] [(2,.p 0 0),(3,.p 1 0),(37,.v (.pointer (some ⟨g,0,none⟩))),(38,.v (.slice (some ⟨g14,0,none⟩) 5 5))] 66 [.pointer (some ⟨g,0,none⟩),.slice (some ⟨g14,0,none⟩) 5 5] (some 39) 1 rfl rfl hlo (l1PickInt_c_K hBw hap (fun ww hw hf => (rowF_sl (hf _ m0))) hk15 (by simp)) ?_
 rintro ⟨y16,hy16⟩
 refine kEU [2,3] [] 1 ⟨34,conL { b1m with timer := y16 } (.slice b1a b1m.r.held.length b1c)⟩ ?_
 refine kQ ?_
 refine kEU [2] [(2,.p 0 0)] 0 ⟨34,conL { b1m with timer := y16 } (.slice b1a b1m.r.held.length b1c)⟩ ?_
 refine kR ?_
 exact ⟨[.agg (conL { b1m with timer := y16 } (.slice b1a b1m.r.held.length b1c)).toArray],by kernel_rfl,fun w' hb hf ha => ⟨⟨({ b1m with timer := y16 },b1a,b1c),hb1⟩,rfl,hf (curF B g 100 (.slice A code.length cap) code.length) (by simp),newF_new (hf (newF (cutW w B).heap.size (.slice b1a b1m.r.held.length b1c) 2 (b1m.r.held.map pceCells)) (by simp)) (own_new ha (i := 2) (j := 0) (k := 4) rfl rfl rfl rfl (by decide) (by decide)),hgl,frF_chgd (hf (frF w (fun b => b = g)) (by simp)) hb rfl rfl rfl⟩⟩
 have h13p := eqF h13
 refine kQ ?_
 refine kED [0,2,3,7,41] [(41,.v (.bool (y2 == 5)))] ?_
 refine kC (y2 == 5) (fun h17 => ?_) (fun h17 => ?_)
 have h17p := eqT h17
 refine kG ?_
 refine kHS 1 [2,3,43] [(2,.p 0 0),(3,.p 1 0),(43,.v (.pointer (some ⟨g,0,none⟩)))] rfl (hv_build (e := 3) (K := 1) (bytes := 8) [.int .i64 (-1),.int .i64 0,.int .i64 3,.int .i64 4] rfl (by kernel_rfl) (by kernel_rfl) (by kernel_rfl) (by kernel_rfl) (by kernel_rfl) (rs := ([(-1),0,3,4] : List Int).map intRow) rfl) ?_
 intro g18
 refine xl_know (φ := ¬ (slF (.slice (some ⟨g18,0,none⟩) 4 4) 1 (([(-1),0,3,4] : List Int).map intRow)).blk g) (fun _ _ _ _ hr => fun hb => hr.2.apart 0 1 (rowF (cutW w B).heap.size 3 1 (.slice (some ⟨g18,0,none⟩) 4 4) (([(-1),0,3,4] : List Int).map intRow)) (curF B g 100 (.slice A code.length cap) code.length) rfl rfl (by decide) rfl g (rowF_sblk hb) rfl) (fun hk19 => ?_)
 refine kWD 0 [2,3,43,44] [] 66 [.pointer (some ⟨g,0,none⟩),.slice (some ⟨g18,0,none⟩) 4 4] (some 45) 1 rfl rfl hlo (l1PickInt_c_K hBw hap (fun ww hw hf => (rowF_sl (hf _ m0))) hk19 (by simp)) ?_
 rintro ⟨y20,hy20⟩
 refine kEU [2,3] [] 1 ⟨34,conL { b1m with tries := y20 } (.slice b1a b1m.r.held.length b1c)⟩ ?_
 refine kQ ?_
 refine kEU [2] [(2,.p 0 0)] 0 ⟨34,conL { b1m with tries := y20 } (.slice b1a b1m.r.held.length b1c)⟩ ?_
 refine kR ?_
 exact ⟨[.agg (conL { b1m with tries := y20 } (.slice b1a b1m.r.held.length b1c)).toArray],by kernel_rfl,fun w' hb hf ha => ⟨⟨({ b1m with tries := y20 },b1a,b1c),hb1⟩,rfl,hf (curF B g 100 (.slice A code.length cap) code.length) (by simp),newF_new (hf (newF (cutW w B).heap.size (.slice b1a b1m.r.held.length b1c) 2 (b1m.r.held.map pceCells)) (by simp)) (own_new ha (i := 2) (j := 0) (k := 4) rfl rfl rfl rfl (by decide) (by decide)),hgl,frF_chgd (hf (frF w (fun b => b = g)) (by simp)) hb rfl rfl rfl⟩⟩
 have h17p := eqF h17
 refine kQ ?_
 refine kES [0,2,3,7,47] [(0,.v (.pointer (some ⟨g,0,none⟩))),(2,.p 0 0),(3,.p 1 0),(7,.v (.int .i64 y2)),(47,.v (.bool (y2 == 6)))] ?_
 refine kC (y2 == 6) (fun h21 => ?_) (fun h21 => ?_)
 have h21p := eqT h21
 refine kG ?_
 refine kWD 1 [2,3,49] [(49,.v (.pointer (some ⟨g,0,none⟩)))] 110 [.pointer (some ⟨g,0,none⟩)] (some 50) 0 rfl rfl hlo (l8Bent_c_K hBw hap) ?_
 rintro ⟨y22,hy22⟩
 refine kEU [2,3] [] 1 ⟨34,conL { b1m with o := y22 } (.slice b1a b1m.r.held.length b1c)⟩ ?_
 refine kQ ?_
 refine kEU [2] [(2,.p 0 0)] 0 ⟨34,conL { b1m with o := y22 } (.slice b1a b1m.r.held.length b1c)⟩ ?_
 refine kR ?_
 exact ⟨[.agg (conL { b1m with o := y22 } (.slice b1a b1m.r.held.length b1c)).toArray],by kernel_rfl,fun w' hb hf ha => ⟨⟨({ b1m with o := y22 },b1a,b1c),hb1⟩,rfl,hf (curF B g 100 (.slice A code.length cap) code.length) (by simp),newF_new (hf (newF (cutW w B).heap.size (.slice b1a b1m.r.held.length b1c) 2 (b1m.r.held.map pceCells)) (by simp)) (own_new ha (i := 1) (j := 0) (k := 3) rfl rfl rfl rfl (by decide) (by decide)),hgl,frF_chgd (hf (frF w (fun b => b = g)) (by simp)) hb rfl rfl rfl⟩⟩
 have h21p := eqF h21
 refine kQ ?_
 refine kED [0,2,3,52] [(52,.v (.bool (y2 == 7)))] ?_
 refine kC (y2 == 7) (fun h23 => ?_) (fun h23 => ?_)
 have h23p := eqT h23
 refine kG ?_
 refine kWD 1 [2,3,54] [(54,.v (.pointer (some ⟨g,0,none⟩)))] 111 [.pointer (some ⟨g,0,none⟩)] (some 55) 0 rfl rfl hlo (l12Bent_c_K hBw hap) ?_
 rintro ⟨y24,hy24⟩
 refine kEU [2,3] [] 1 ⟨34,conL { b1m with t := y24 } (.slice b1a b1m.r.held.length b1c)⟩ ?_
 refine kQ ?_
 refine kEU [2] [(2,.p 0 0)] 0 ⟨34,conL { b1m with t := y24 } (.slice b1a b1m.r.held.length b1c)⟩ ?_
 refine kR ?_
 exact ⟨[.agg (conL { b1m with t := y24 } (.slice b1a b1m.r.held.length b1c)).toArray],by kernel_rfl,fun w' hb hf ha => ⟨⟨({ b1m with t := y24 },b1a,b1c),hb1⟩,rfl,hf (curF B g 100 (.slice A code.length cap) code.length) (by simp),newF_new (hf (newF (cutW w B).heap.size (.slice b1a b1m.r.held.length b1c) 2 (b1m.r.held.map pceCells)) (by simp)) (own_new ha (i := 1) (j := 0) (k := 3) rfl rfl rfl rfl (by decide) (by decide)),hgl,frF_chgd (hf (frF w (fun b => b = g)) (by simp)) hb rfl rfl rfl⟩⟩
 have h23p := eqF h23
 refine kK ?_
 refine kQ ?_
 refine kEU [2] [(2,.p 0 0)] 0 ⟨34,conL b1m (.slice b1a b1m.r.held.length b1c)⟩ ?_
 refine kR ?_
 exact ⟨[.agg (conL b1m (.slice b1a b1m.r.held.length b1c)).toArray],by kernel_rfl,fun w' hb hf ha => ⟨⟨(b1m,b1a,b1c),hb1⟩,rfl,hf (curF B g 100 (.slice A code.length cap) code.length) (by simp),newF_new (hf (newF (cutW w B).heap.size (.slice b1a b1m.r.held.length b1c) 2 (b1m.r.held.map pceCells)) (by simp)) (own_new ha (i := 1) (j := 0) (k := 3) rfl rfl rfl rfl (by decide) (by decide)),hgl,frF_chgd (hf (frF w (fun b => b = g)) (by simp)) hb rfl rfl rfl⟩⟩
theorem drawWrite_c (code : List Int) (A : Option Addr) (cap : Nat) (w : World) (hl : Sl w (.slice A code.length cap) 1 (code.map byteRow)) (hn : code.length ≤ 1048576) : Calls Tryz.prog 33 #[.slice A code.length cap] w fun e w' => ∃ y : {y : (Con × ByteArray) × (Option Addr × Nat) // RB 4 y.1.1.r ∧ y.1.2.size ≤ 4096}, e = .returned (.tuple #[.agg (conL y.1.1.1 (.slice y.1.2.1 y.1.1.1.r.held.length y.1.2.2)).toArray, .string y.1.1.2]) ∧ (newF w.heap.size (.slice y.1.2.1 y.1.1.1.r.held.length y.1.2.2) 2 (y.1.1.1.r.held.map pceCells)).p w' ∧ Below w.heap.size w w' := by
 have hq_code := Sl.capLe hl
 refine x_callsA (args := [.slice A code.length cap]) (fn := Tryz.f33) [slF (.slice A code.length cap) 1 (code.map byteRow)] Tryz.func33 rfl Tryz.ntmps33 rfl (by simp only [List.mem_cons,List.not_mem_nil,or_false,forall_eq]; exact ⟨rfl,hl⟩) ?_
 refine kQ ?_
 refine kEF [0,2] ⟨[(0,.v (.slice A code.length cap)),(2,.p 0 0)],[⟨34,conZ⟩],[],[slF (.slice A code.length cap) 1 (code.map byteRow)]⟩ ?_
 refine kQ ?_
 refine kCD 1 [2,5] [(5,.v (.slice A code.length cap))] 62 [.slice A code.length cap] (some 6) rfl (xc_new fun ww hw hf => l1New_c code A cap ww (hf _ m0) (by omega)) ?_
 rintro ⟨g1,hapg1⟩
 refine kED [2,4] [(4,.v (.pointer (some ⟨g1,0,none⟩)))] ?_
 refine kS ?_
 refine xe_region0 [false] (by kernel_rfl) (fun ρ σ => ?_)
 refine kTD [0,2,3] [10,9,7,2] 6 [(10,.v (.pointer (some ⟨g1,0,none⟩))),(9,.v (.pointer (some ⟨g1,0,none⟩))),(7,.v (.pointer (some ⟨g1,0,none⟩)))] ?_
 refine kA [1] ?_
 refine kSW 1 63 [.pointer (some ⟨g1,0,none⟩)] (some 8) 0 rfl rfl (fun ww b h hb => cur_lo h hb) (under_f rfl under_nil) (xcm_curN fun ww hw hf => l19Bent_c g1 code A cap ww w.heap.size hw (hf (curF w.heap.size g1 100 (.slice A code.length cap) code.length) (by simp)) (hf _ m1) hapg1 (by omega)) ?_
 rintro ⟨⟨b2m,b2a,b2c⟩,hb2⟩
 dsimp only at hb2
 have hb2n := hb2.1
 have hb2m := hb2.hm; have hb2z := hb2.sz
 refine kA [4] ?_
 refine kSW 4 86 [.pointer (some ⟨g1,0,none⟩),.int .i64 60] (some 11) 1 rfl rfl (fun ww b h hb => cur_lo h hb) (under_f rfl under_nil) (l1Below_c_K (Nat.le_refl _) hapg1) ?_
 rintro ⟨y3,hy3⟩
 obtain ⟨hy30,hy31⟩ := hy3
 refine kA [5] ?_
 refine kSW 5 85 [.pointer (some ⟨g1,0,none⟩),.int .i64 y3] (some 12) 0 rfl rfl (fun ww b h hb => cur_lo h hb) (under_f rfl under_nil) (xcm_curR fun ww hw hf => l1Bytes_c g1 code A cap y3 ww w.heap.size hw (hf (curF w.heap.size g1 100 (.slice A code.length cap) code.length) (by simp)) (hf _ m2) hapg1 (by omega) (by omega)) ?_
 rintro ⟨⟨b4l,b4a,b4c⟩,hb4⟩
 dsimp only at hb4
 refine kA [6,7] ⟨?_,?_⟩
 refine kSR 6 (.string (bstr b4l)) rfl (fun _ _ ww hr => act_b2s (e := 5) b4l hr.1 rfl (by kernel_rfl) (by kernel_rfl) (by kernel_rfl) rfl (rowF_sl (hr.2.fact (rowF w.heap.size 5 1 (.slice b4a b4l.length b4c) (b4l.map byteRow)) (by simp)).1)) ?_
 refine kA [7] ?_
 refine kSS 7 0 0 (conL b2m (.slice b2a b2m.r.held.length b2c)) rfl ?_
 refine kTD [8] [3,2] 0 [(3,.v (.string (bstr b4l)))] ?_
 refine kZ ?_
 refine kR ?_
 exact ⟨[.agg (conL b2m (.slice b2a b2m.r.held.length b2c)).toArray,.string (bstr b4l)],by kernel_rfl,fun w' hb hf ha => ⟨⟨((b2m,bstr b4l),b2a,b2c),⟨hb2,(by first | assumption | (show (bstr _).size ≤ 4096; rw [bstr_size]; omega))⟩⟩,rfl,newF_new (hf (newF w.heap.size (.slice b2a b2m.r.held.length b2c) 2 (b2m.r.held.map pceCells)) (by simp)) (fun b hb => newF_lo (hf (newF w.heap.size (.slice b2a b2m.r.held.length b2c) 2 (b2m.r.held.map pceCells)) (by simp)) hb),hb⟩⟩
 refine kSS 7 0 0 (conL b2m (.slice b2a b2m.r.held.length b2c)) rfl ?_
 refine kA [6] ?_
 refine kSR 6 (.string (bstr b4l)) rfl (fun _ _ ww hr => act_b2s (e := 5) b4l hr.1 rfl (by kernel_rfl) (by kernel_rfl) (by kernel_rfl) rfl (rowF_sl (hr.2.fact (rowF w.heap.size 5 1 (.slice b4a b4l.length b4c) (b4l.map byteRow)) (by simp)).1)) ?_
 refine kTD [8] [3,2] 0 [(3,.v (.string (bstr b4l)))] ?_
 refine kZ ?_
 refine kR ?_
 exact ⟨[.agg (conL b2m (.slice b2a b2m.r.held.length b2c)).toArray,.string (bstr b4l)],by kernel_rfl,fun w' hb hf ha => ⟨⟨((b2m,bstr b4l),b2a,b2c),⟨hb2,(by first | assumption | (show (bstr _).size ≤ 4096; rw [bstr_size]; omega))⟩⟩,rfl,newF_new (hf (newF w.heap.size (.slice b2a b2m.r.held.length b2c) 2 (b2m.r.held.map pceCells)) (by simp)) (fun b hb => newF_lo (hf (newF w.heap.size (.slice b2a b2m.r.held.length b2c) 2 (b2m.r.held.map pceCells)) (by simp)) hb),hb⟩⟩

theorem ysameSegments_c (a : List Seg) (aV : Value) (b : List Seg) (bV : Value) (w : World) (hl_aV : Sl w aV 13 (a.map segCells)) (hl_bV : Sl w bV 13 (b.map segCells))  : Calls Tryz.prog 22 #[aV, bV] w fun e w' => e = .returned (.bool (sameL segEq a b)) ∧ Below w.heap.size w w' := by
 obtain ⟨Aa,Ca,hva⟩ := hl_aV.form
 rw [List.length_map] at hva; subst hva
 have hna := hl_aV.len; rw [List.length_map] at hna
 have hqa := Sl.capLe hl_aV
 obtain ⟨Ab,Cb,hvb⟩ := hl_bV.form
 rw [List.length_map] at hvb; subst hvb
 have hnb := hl_bV.len; rw [List.length_map] at hnb
 have hqb := Sl.capLe hl_bV
 refine x_calls (args := [.slice Aa a.length Ca,.slice Ab b.length Cb]) (fn := Tryz.f22) [slF (.slice Aa a.length Ca) 13 (a.map segCells),slF (.slice Ab b.length Cb) 13 (b.map segCells)] Tryz.func22 rfl Tryz.ntmps22 rfl (by simp only [List.mem_cons,List.not_mem_nil,or_false,forall_eq_or_imp,forall_eq]; exact ⟨⟨rfl,hl_aV⟩,⟨rfl,hl_bV⟩⟩) ?_
 refine kQ ?_
 refine kEF [0,1] ⟨[(0,.v (.slice Aa a.length Ca)),(1,.v (.slice Ab b.length Cb))],[],[],[slF (.slice Aa a.length Ca) 13 (a.map segCells),slF (.slice Ab b.length Cb) 13 (b.map segCells)]⟩ ?_
 refine kS ?_
 refine kQ ?_
 refine kES [0,1,10] [(0,.v (.slice Aa a.length Ca)),(1,.v (.slice Ab b.length Cb)),(10,.v (.bool (((a.length : Nat) : Int) != ((b.length : Nat) : Int))))] ?_
 refine kC (((a.length : Nat) : Int) != ((b.length : Nat) : Int)) (fun h1 => ?_) (fun h1 => ?_)
 have h1p := neT h1
 refine kQ ?_
 refine kES [4] [(4,.v (.bool false))] ?_
 refine kR ?_
 exact ⟨[.bool false],by kernel_rfl,fun w' hb hf => ⟨ret_bool (show (false : Bool) = sameL segEq a b from by first | rfl | (simp [sameL_len, *]; done) | grind [sameL_len,sameL_len]),hb⟩⟩
 have h1p := neF h1
 refine kK ?_
 refine kS ?_
 refine kQ ?_
 refine kES [0,1,5] [(0,.v (.slice Aa a.length Ca)),(1,.v (.slice Ab b.length Cb)),(5,.v (.int .i64 0))] ?_
 refine xw_block ?_
 have hlen : a.length = b.length := by omega
 refine xw_loopW (α := {x : Nat // (fun (k : Nat) => k ≤ a.length ∧ ∀ (i : Nat) (x y : Seg),i < k → a[i]? = some x → b[i]? = some y → segEq x y = true) x}) (fun x => (fun (k : Nat) => (⟨[(0,.v (.slice Aa a.length Ca)),(1,.v (.slice Ab b.length Cb)),(5,.v (.int .i64 (k : Int)))],[],[],[slF (.slice Aa a.length Ca) 13 (a.map segCells),slF (.slice Ab b.length Cb) 13 (b.map segCells)]⟩ : St)) x.1) (fun x => a.length - x.1) ⟨(0),⟨Nat.zero_le _,fun i x y hi => by omega⟩⟩ (kF 0 0 [0,1,5]) ?_
 rintro ⟨k,hk,HK⟩
 try dsimp only
 try dsimp only at hk HK
 refine kS ?_
 refine kQ ?_
 refine kES [0,1,5,14] [(0,.v (.slice Aa a.length Ca)),(1,.v (.slice Ab b.length Cb)),(5,.v (.int .i64 (k : Int))),(14,.v (.bool (decide ((k : Int) < ((a.length : Nat) : Int)))))] ?_
 refine kC (decide ((k : Int) < ((a.length : Nat) : Int))) (fun h2 => ?_) (fun h2 => ?_)
 have h2p := of_decide_eq_true h2
 have hlt : k < a.length := by simpa using h2
 obtain ⟨x,hx⟩ : ∃ x,a[k]? = some x := ⟨_,List.getElem?_eq_getElem hlt⟩
 obtain ⟨y,hy⟩ : ∃ y,b[k]? = some y := ⟨_,List.getElem?_eq_getElem (by omega)⟩
 refine kK ?_
 refine kS ?_
 refine xw_block ?_
 refine kS ?_
 refine xws_start ?_
 refine xws_row (K := 13) (j := k) [.int .i64 x.src,.int .i64 x.dst,.int .i64 x.seq,.int .i64 x.ack,.int .i64 x.flags,.int .i64 x.window,.int .i64 x.o.mss,.int .i64 x.o.scale,.bool x.o.sack,.bool x.o.stamp,.int .i64 x.o.val,.int .i64 x.o.echo,.string x.body] (slF (.slice Aa a.length Ca) 13 (a.map segCells)) (fun _ _ h => h) (by simp) (fun w h => h) (fun b h => h) (by simp only [List.getElem?_map,hx]; rfl) (fun bq3 offq3 hAq3 => ?_)
 refine xws_row (K := 13) (j := k) [.int .i64 y.src,.int .i64 y.dst,.int .i64 y.seq,.int .i64 y.ack,.int .i64 y.flags,.int .i64 y.window,.int .i64 y.o.mss,.int .i64 y.o.scale,.bool y.o.sack,.bool y.o.stamp,.int .i64 y.o.val,.int .i64 y.o.echo,.string y.body] (slF (.slice Ab b.length Cb) 13 (b.map segCells)) (fun _ _ h => h) (by simp) (fun w h => h) (fun b h => h) (by simp only [List.getElem?_map,hy]; rfl) (fun bq4 offq4 hAq4 => ?_)
 refine xws_regionE [] (by kernel_rfl) (fun ρ σ hq5 => ?_)
 refine kTS [0,1,4,5] [22,21,18,17,0,1,5] 5 [(22,.v (.int .i64 (k : Int))),(21,.v (.slice Ab b.length Cb)),(18,.v (.int .i64 (k : Int))),(17,.v (.slice Aa a.length Ca)),(0,.v (.slice Aa a.length Ca)),(1,.v (.slice Ab b.length Cb)),(5,.v (.int .i64 (k : Int)))] ?_
 refine xe_takeI (kd := .i64) (T := 46) (e := 36) (K := 13) (j := k) (A := Aa) (len := a.length) (cap := Ca) 2 0 _ rfl (by kernel_rfl) (by kernel_rfl) (by kernel_rfl) (fun _ _ h => h) (by kernel_rfl) rfl rfl (by kernel_rfl) (by kernel_rfl) (by kernel_rfl) (by kernel_rfl) hlt hAq3 hq5.1.2 (by kernel_rfl) rfl ?_
 refine kTS [3] [20,22,21,0,1,5] 3 [(20,.v (.agg (segL x).toArray)),(22,.v (.int .i64 (k : Int))),(21,.v (.slice Ab b.length Cb)),(0,.v (.slice Aa a.length Ca)),(1,.v (.slice Ab b.length Cb)),(5,.v (.int .i64 (k : Int)))] ?_
 refine xe_takeI (kd := .i64) (T := 46) (e := 36) (K := 13) (j := k) (A := Ab) (len := b.length) (cap := Cb) 6 1 _ rfl (by kernel_rfl) (by kernel_rfl) (by kernel_rfl) (fun _ _ h => h) (by kernel_rfl) rfl rfl (by kernel_rfl) (by kernel_rfl) (by kernel_rfl) (by kernel_rfl) (by omega) hAq4 hq5.2 (by kernel_rfl) rfl ?_
 refine kTS [7] [24,20,0,1,5] 1 [(24,.v (.agg (segL y).toArray)),(20,.v (.agg (segL x).toArray)),(0,.v (.slice Aa a.length Ca)),(1,.v (.slice Ab b.length Cb)),(5,.v (.int .i64 (k : Int)))] ?_
 refine kX 8 (.bool (!segEq x y)) rfl (fun _ _ ww hA => act_bin hA rfl (by kernel_rfl) (by kernel_rfl) (agg_bin (by kernel_rfl) (run_neq_SEG x.src x.dst x.seq x.ack x.flags x.window x.o.mss x.o.scale x.o.sack x.o.stamp x.o.val x.o.echo x.body y.src y.dst y.seq y.ack y.flags y.window y.o.mss y.o.scale y.o.sack y.o.stamp y.o.val y.o.echo y.body ww))) ?_
 refine kZ ?_
 refine kC (!segEq x y) (fun h6 => ?_) (fun h6 => ?_)
 have hno := sameL_no hx hy (by simpa using h6)
 refine kQ ?_
 refine kES [4] [(4,.v (.bool false))] ?_
 refine kR ?_
 exact ⟨[.bool false],by kernel_rfl,fun w' hb hf => ⟨ret_bool (show (false : Bool) = sameL segEq a b from by first | rfl | (simp [sameL_len, *]; done) | grind [sameL_len,sameL_len]),hb⟩⟩
 have hye : segEq x y = true := by simpa using h6
 refine kK ?_
 refine kG ?_
 refine kRS 3 [0,1,5] [(0,.v (.slice Aa a.length Ca)),(1,.v (.slice Ab b.length Cb)),(5,.v (.int .i64 (IntKind.i64.wrap ((k : Int) + 1))))] ?_
 refine xl_eqS (t' := [(0,.v (.slice Aa a.length Ca)),(1,.v (.slice Ab b.length Cb)),(5,.v (.int .i64 ((k : Int) + 1)))]) (by rw [show (IntKind.i64.wrap ((k : Int) + 1)) = ((k : Int) + 1) from wrap_id (by omega) (by omega)]) ?_
 refine kES [0,1,5] [(0,.v (.slice Aa a.length Ca)),(1,.v (.slice Ab b.length Cb)),(5,.v (.int .i64 ((k : Int) + 1)))] ?_
 exact ⟨⟨(k + 1),⟨by omega,same_step hx hy hye HK⟩⟩,kF 0 0 [0,1,5],by show a.length - (k + 1) < a.length - k; omega⟩
 have h2p := of_decide_eq_false h2
 have hge : k = a.length := by simp at h2; omega
 have hall := sameL_nil_of hge hlen HK
 refine xw_exit ?_
 refine kQ ?_
 refine kES [4] [(4,.v (.bool true))] ?_
 refine kR ?_
 exact ⟨[.bool true],by kernel_rfl,fun w' hb hf => ⟨ret_bool (show (true : Bool) = sameL segEq a b from by first | rfl | (simp [sameL_len, *]; done) | grind [sameL_len,sameL_len]),hb⟩⟩
theorem sameSeg_self (l : List Seg) : sameL segEq l l = true := sameL_yes rfl fun i x y h1 h2 => by rw [h1] at h2; simp only [Option.some.injEq] at h2; subst h2; exact segEq_self x
end Go.Proofs.YtnmmhbhdcplfmaaGreat
