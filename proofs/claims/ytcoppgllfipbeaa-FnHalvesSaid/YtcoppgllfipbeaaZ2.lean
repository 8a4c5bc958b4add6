/- Contracts that this law needs, part 2. -/
import Derived.Test.YtcoppgllfipbeaaZ1
namespace Go.Proofs.Ytcoppgllfipbeaa
open Go.RowKit
set_option linter.unusedVariables false
set_option linter.unusedSimpArgs false
set_option maxRecDepth 100000

set_option maxHeartbeats 2000000 in
theorem l24List_c (g : Nat) (code : List Int) (A : Option Addr) (cap : Nat) (w : World) (B : Nat) (hB : B ≤ w.heap.size) (hc : (curF B g 95 (.slice A code.length cap) code.length).p w) (hl : Sl w (.slice A code.length cap) 1 (code.map byteRow)) (hap : ¬ (slF (.slice A code.length cap) 1 (code.map byteRow)).blk g) (hn : code.length ≤ 1048576) : Calls Try.prog 82 #[.pointer (some ⟨g, 0, none⟩)] w fun e w' => ∃ y : {y : List Hlf × (Option Addr × Nat) // y.1.length ≤ 5}, e = .returned (.slice y.1.2.1 y.1.1.length y.1.2.2) ∧ (curF B g 95 (.slice A code.length cap) code.length).p w' ∧ (rowF w.heap.size 56 13 (.slice y.1.2.1 y.1.1.length y.1.2.2) (y.1.1.map hlfCells)).p w' ∧ g < w.heap.size ∧ Chgd (fun b => b = g) w w' := by
  have hq_code := Sl.capLe hl
  refine x_callsMA (args := [.pointer (some ⟨g,0,none⟩)]) (fn := Try.f82) [curF B g 95 (.slice A code.length cap) code.length,slF (.slice A code.length cap) 1 (code.map byteRow),frF w (fun b => b = g)] B Try.func82 rfl Try.ntmps82 rfl hB (by simp only [List.mem_cons,List.not_mem_nil,or_false,forall_eq_or_imp,forall_eq]; exact ⟨hc,hl,frF_start w _⟩) (apart_cur hap rfl) ?_
  have hgl : g < w.heap.size := (curF B g 95 (.slice A code.length cap) code.length).lt w g hc rfl
  refine xw_seq ?_
  refine xw_region ?_
  refine xl_end [0] ⟨[(0,.v (.pointer (some ⟨g,0,none⟩)))],[],[],[curF B g 95 (.slice A code.length cap) code.length,slF (.slice A code.length cap) 1 (code.map byteRow),frF w (fun b => b = g)]⟩ (by kernel_rfl) ?_
  refine xw_seq ?_
  refine xw_region ?_
  refine xl_hvS 0 [0] [(0,.v (.pointer (some ⟨g,0,none⟩)))] (by kernel_rfl) rfl (by kernel_rfl) rfl (by kernel_rfl) (hv_build (e := 56) (K := 13) (bytes := 96) [] rfl (by kernel_rfl) (by kernel_rfl) (by kernel_rfl) (by kernel_rfl) (by kernel_rfl) (rs := ([] : List Hlf).map hlfCells) rfl) ?_
  intro g1
  refine xl_endS [0,3] [(0,.v (.pointer (some ⟨g,0,none⟩))),(3,.v (.slice (some ⟨g1,0,none⟩) 0 0))] (by kernel_rfl) ?_
  refine xw_seq ?_
  refine xw_region ?_
  refine xl_callWS 1 [0,3,7] [(0,.v (.pointer (some ⟨g,0,none⟩))),(3,.v (.slice (some ⟨g1,0,none⟩) 0 0)),(7,.v (.pointer (some ⟨g,0,none⟩)))] 75 [.pointer (some ⟨g,0,none⟩),.int .i64 5] (some 8) 1 (curF B g 95 (.slice A code.length cap) code.length) (by kernel_rfl) rfl (by kernel_rfl) rfl (by kernel_rfl) rfl rfl (fun ww b h hb => Nat.le_trans (cutW_le w B) (cur_lo h hb)) (by kernel_rfl) (xcm_cur fun ww hw hf => l1Below_c g code A cap 5 ww B (Nat.le_trans (by first | exact Nat.le_refl _ | exact Nat.le_of_eq (cutW_size hB).symm) hw) (hf (curF B g 95 (.slice A code.length cap) code.length) (by simp)) (hf (slF (.slice A code.length cap) 1 (code.map byteRow)) (by simp)) hap (by omega)  ) ?_
  rintro ⟨y2,hy2⟩
  obtain ⟨hy20,hy21⟩ := hy2
  refine xl_endS [0,3,4] [(0,.v (.pointer (some ⟨g,0,none⟩))),(3,.v (.slice (some ⟨g1,0,none⟩) 0 0)),(4,.v (.int .i64 y2))] (by kernel_rfl) ?_
  refine xw_seq ?_
  refine xw_seq ?_
  refine xw_region ?_
  refine xl_endS [0,3,4,5] [(0,.v (.pointer (some ⟨g,0,none⟩))),(3,.v (.slice (some ⟨g1,0,none⟩) 0 0)),(4,.v (.int .i64 y2)),(5,.v (.int .i64 0))] (by kernel_rfl) ?_
  refine xw_block ?_
  refine xw_loopW (α := {x : Nat × List Hlf × Option Addr × Nat // (fun (i : Nat) (bs : List Hlf) (A1 : Option Addr) (c1 : Nat) => (i : Int) ≤ y2 ∧ bs.length ≤ i) x.1 x.2.1 x.2.2.1 x.2.2.2}) (fun x => (fun (i : Nat) (bs : List Hlf) (A1 : Option Addr) (c1 : Nat) => (⟨[(0,.v (.pointer (some ⟨g,0,none⟩))),(3,.v (.slice A1 bs.length c1)),(4,.v (.int .i64 y2)),(5,.v (.int .i64 (i : Int)))],[],[],[rowF (cutW w B).heap.size 56 13 (.slice A1 bs.length c1) (bs.map hlfCells),curF B g 95 (.slice A code.length cap) code.length,slF (.slice A code.length cap) 1 (code.map byteRow),frF w (fun b => b = g)]⟩ : St)) x.1.1 x.1.2.1 x.1.2.2.1 x.1.2.2.2) (fun x => (fun (i : Nat) (bs : List Hlf) (A1 : Option Addr) (c1 : Nat) => (y2).toNat - i) x.1.1 x.1.2.1 x.1.2.2.1 x.1.2.2.2) ⟨(0,([] : List Hlf),(some ⟨g1,0,none⟩),0),⟨(by omega),Nat.le_refl _⟩⟩ ((wk_pick [1,0,2,3] [rowF (cutW w B).heap.size 56 13 (.slice (some ⟨g1,0,none⟩) 0 0) (([] : List Hlf).map hlfCells),curF B g 95 (.slice A code.length cap) code.length,slF (.slice A code.length cap) 1 (code.map byteRow),frF w (fun b => b = g)] (by kernel_rfl) (by kernel_rfl)).trans <| wk_forget 0 0 [0,3,4,5] (by kernel_rfl) (by kernel_rfl) (by kernel_rfl)) ?_
  rintro ⟨⟨i,bs,A1,c1⟩,hi,hbl⟩
  refine xw_wk (Wk.of_eq (s' := ⟨[(0,.v (.pointer (some ⟨g,0,none⟩))),(3,.v (.slice A1 bs.length c1)),(4,.v (.int .i64 y2)),(5,.v (.int .i64 (i : Int)))],[],[],[rowF (cutW w B).heap.size 56 13 (.slice A1 bs.length c1) (bs.map hlfCells),curF B g 95 (.slice A code.length cap) code.length,slF (.slice A code.length cap) 1 (code.map byteRow),frF w (fun b => b = g)]⟩) rfl) ?_
  try dsimp only at hi hbl
  refine xw_seq ?_
  refine xw_seq ?_
  refine xw_region ?_
  refine xl_endS [0,3,4,5,11] [(0,.v (.pointer (some ⟨g,0,none⟩))),(3,.v (.slice A1 bs.length c1)),(4,.v (.int .i64 y2)),(5,.v (.int .i64 (i : Int))),(11,.v (.bool (decide ((i : Int) < y2))))] (by kernel_rfl) ?_
  refine xw_cond (b := decide ((i : Int) < y2)) (by kernel_rfl) (fun h3 => ?_) (fun h3 => ?_)
  have h3p : ((i : Int) < y2) := of_decide_eq_true h3
  have hlt :  (i : Int) < y2 := of_decide_eq_true h3
  refine xw_skip ?_
  refine xw_seq ?_
  refine xw_block ?_
  refine xw_region ?_
  refine xl_callWS 2 [0,3,4,5,15,16] [(0,.v (.pointer (some ⟨g,0,none⟩))),(3,.v (.slice A1 bs.length c1)),(4,.v (.int .i64 y2)),(5,.v (.int .i64 (i : Int))),(15,.v (.slice A1 bs.length c1)),(16,.v (.pointer (some ⟨g,0,none⟩)))] 65 [.pointer (some ⟨g,0,none⟩)] (some 17) 1 (curF B g 95 (.slice A code.length cap) code.length) (by kernel_rfl) rfl (by kernel_rfl) rfl (by kernel_rfl) rfl rfl (fun ww b h hb => Nat.le_trans (cutW_le w B) (cur_lo h hb)) (by kernel_rfl) (xcm_cur fun ww hw hf => l24Half_c g code A cap  ww B (Nat.le_trans (by first | exact Nat.le_refl _ | exact Nat.le_of_eq (cutW_size hB).symm) hw) (hf (curF B g 95 (.slice A code.length cap) code.length) (by simp)) (hf (slF (.slice A code.length cap) 1 (code.map byteRow)) (by simp)) hap (by omega)  ) ?_
  rintro ⟨y4,hy4⟩
  refine xl_callS 0 [0,3,4,5,15,17] [(0,.v (.pointer (some ⟨g,0,none⟩))),(3,.v (.slice A1 bs.length c1)),(4,.v (.int .i64 y2)),(5,.v (.int .i64 (i : Int))),(15,.v (.slice A1 bs.length c1)),(17,.v (.agg (hlfL y4).toArray))] 29 [.slice A1 bs.length c1,.agg (hlfL y4).toArray,.int .i64 64] (some 18) (by kernel_rfl) rfl (by kernel_rfl) rfl (by kernel_rfl) (xc_r fun ww hw hf => ysPutHalfR_c bs (.slice A1 bs.length c1) y4 64 ww (rowF_sl (hf (rowF (cutW w B).heap.size 56 13 (.slice A1 bs.length c1) (bs.map hlfCells)) (by simp))) (by omega) ((cutW w B).heap.size) hw) ?_
  rintro ⟨v5a,v5c⟩
  have hpl6 := putHalf_le bs y4 64
  refine xl_endS [0,3,4,5] [(0,.v (.pointer (some ⟨g,0,none⟩))),(3,.v (.slice v5a ((putHalf bs y4 64).1.length) v5c)),(4,.v (.int .i64 y2)),(5,.v (.int .i64 (i : Int)))] (by kernel_rfl) ?_
  refine xw_region ?_
  refine xl_runS 3 [0,3,4,5] [(0,.v (.pointer (some ⟨g,0,none⟩))),(3,.v (.slice v5a ((putHalf bs y4 64).1.length) v5c)),(4,.v (.int .i64 y2)),(5,.v (.int .i64 (IntKind.i64.wrap ((i : Int) + 1))))] (by kernel_rfl) ?_
  refine xl_eqS (t' := [(0,.v (.pointer (some ⟨g,0,none⟩))),(3,.v (.slice v5a ((putHalf bs y4 64).1.length) v5c)),(4,.v (.int .i64 y2)),(5,.v (.int .i64 ((i : Int) + 1)))]) (by rw [show (IntKind.i64.wrap ((i : Int) + 1)) = ((i : Int) + 1) from wrap_id (by omega) (by omega)]) ?_
  refine xl_endS [0,3,4,5] [(0,.v (.pointer (some ⟨g,0,none⟩))),(3,.v (.slice v5a ((putHalf bs y4 64).1.length) v5c)),(4,.v (.int .i64 y2)),(5,.v (.int .i64 ((i : Int) + 1)))] (by kernel_rfl) ?_
  exact ⟨⟨(i + 1,(putHalf bs y4 64).1,v5a,v5c),⟨(by (try dsimp only); omega),(by (try dsimp only); omega)⟩⟩,(wk_pick [0,1,3,4] [rowF (cutW w B).heap.size 56 13 (.slice v5a ((putHalf bs y4 64).1.length) v5c) ((putHalf bs y4 64).1.map hlfCells),curF B g 95 (.slice A code.length cap) code.length,slF (.slice A code.length cap) 1 (code.map byteRow),frF w (fun b => b = g)] (by kernel_rfl) (by kernel_rfl)).trans <| wk_forget 0 0 [0,3,4,5] (by kernel_rfl) (by kernel_rfl) (by kernel_rfl),by show (fun (i : Nat) (bs : List Hlf) (A1 : Option Addr) (c1 : Nat) => (y2).toNat - i) (i + 1) ((putHalf bs y4 64).1) v5a v5c < (y2).toNat - i; (dsimp only; omega)⟩
  have h3p : ¬ ((i : Int) < y2) := of_decide_eq_false h3
  have hge : ¬ (i : Int) < y2 := of_decide_eq_false h3
  refine xw_exit ?_
  refine xw_seq ?_
  refine xw_region ?_
  refine xl_endS [2] [(2,.v (.slice A1 bs.length c1))] (by kernel_rfl) ?_
  refine xw_ret ?_
  exact ⟨[.slice A1 bs.length c1],by kernel_rfl,fun w' hb hf ha => ⟨⟨(bs,A1,c1),by (try simp only [List.length_append,List.length_cons,List.length_nil]); omega⟩,rfl,hf (curF B g 95 (.slice A code.length cap) code.length) (by simp),rowF_raise (hf (rowF (cutW w B).heap.size 56 13 (.slice A1 bs.length c1) (bs.map hlfCells)) (by simp)) (row_new ha (i := 0) (j := 1) (k := 3) rfl rfl rfl (by decide) (by decide)),hgl,frF_chgd (hf (frF w (fun b => b = g)) (by simp)) hb rfl rfl rfl⟩⟩
set_option maxHeartbeats 2000000 in
theorem l24Bent_c (g : Nat) (code : List Int) (A : Option Addr) (cap : Nat) (w : World) (B : Nat) (hB : B ≤ w.heap.size) (hc : (curF B g 95 (.slice A code.length cap) code.length).p w) (hl : Sl w (.slice A code.length cap) 1 (code.map byteRow)) (hap : ¬ (slF (.slice A code.length cap) 1 (code.map byteRow)).blk g) (hn : code.length ≤ 1048576) : Calls Try.prog 64 #[.pointer (some ⟨g, 0, none⟩)] w fun e w' => ∃ y : {y : List Hlf × (Option Addr × Nat) // y.1.length ≤ 6}, e = .returned (.slice y.1.2.1 y.1.1.length y.1.2.2) ∧ (curF B g 95 (.slice A code.length cap) code.length).p w' ∧ (rowF w.heap.size 56 13 (.slice y.1.2.1 y.1.1.length y.1.2.2) (y.1.1.map hlfCells)).p w' ∧ g < w.heap.size ∧ Chgd (fun b => b = g) w w' := by
  have hq_code := Sl.capLe hl
  refine x_callsMA (args := [.pointer (some ⟨g,0,none⟩)]) (fn := Try.f64) [curF B g 95 (.slice A code.length cap) code.length,slF (.slice A code.length cap) 1 (code.map byteRow),frF w (fun b => b = g)] B Try.func64 rfl Try.ntmps64 rfl hB (by simp only [List.mem_cons,List.not_mem_nil,or_false,forall_eq_or_imp,forall_eq]; exact ⟨hc,hl,frF_start w _⟩) (apart_cur hap rfl) ?_
  have hgl : g < w.heap.size := (curF B g 95 (.slice A code.length cap) code.length).lt w g hc rfl
  refine xw_seq ?_
  refine xw_region ?_
  refine xl_end [0] ⟨[(0,.v (.pointer (some ⟨g,0,none⟩)))],[],[],[curF B g 95 (.slice A code.length cap) code.length,slF (.slice A code.length cap) 1 (code.map byteRow),frF w (fun b => b = g)]⟩ (by kernel_rfl) ?_
  refine xw_seq ?_
  refine xw_region ?_
  refine xl_callWS 1 [0,7] [(0,.v (.pointer (some ⟨g,0,none⟩))),(7,.v (.pointer (some ⟨g,0,none⟩)))] 82 [.pointer (some ⟨g,0,none⟩)] (some 8) 0 (curF B g 95 (.slice A code.length cap) code.length) (by kernel_rfl) rfl (by kernel_rfl) rfl (by kernel_rfl) rfl rfl (fun ww b h hb => Nat.le_trans (cutW_le w B) (cur_lo h hb)) (by kernel_rfl) (xcm_curR fun ww hw hf => l24List_c g code A cap ww B (Nat.le_trans (by first | exact Nat.le_refl _ | exact Nat.le_of_eq (cutW_size hB).symm) hw) (hf (curF B g 95 (.slice A code.length cap) code.length) (by simp)) (hf (slF (.slice A code.length cap) 1 (code.map byteRow)) (by simp)) hap (by omega)) ?_
  rintro ⟨⟨b1l,b1a,b1c⟩,hb1⟩
  dsimp only at hb1
  refine xl_endS [0,3] [(0,.v (.pointer (some ⟨g,0,none⟩))),(3,.v (.slice b1a b1l.length b1c))] (by kernel_rfl) ?_
  refine xw_seq ?_
  refine xw_seq ?_
  refine xw_region ?_
  refine xl_callWS 1 [0,3,9] [(0,.v (.pointer (some ⟨g,0,none⟩))),(3,.v (.slice b1a b1l.length b1c)),(9,.v (.pointer (some ⟨g,0,none⟩)))] 75 [.pointer (some ⟨g,0,none⟩),.int .i64 8] (some 10) 1 (curF B g 95 (.slice A code.length cap) code.length) (by kernel_rfl) rfl (by kernel_rfl) rfl (by kernel_rfl) rfl rfl (fun ww b h hb => Nat.le_trans (cutW_le w B) (cur_lo h hb)) (by kernel_rfl) (xcm_cur fun ww hw hf => l1Below_c g code A cap 8 ww B (Nat.le_trans (by first | exact Nat.le_refl _ | exact Nat.le_of_eq (cutW_size hB).symm) hw) (hf (curF B g 95 (.slice A code.length cap) code.length) (by simp)) (hf (slF (.slice A code.length cap) 1 (code.map byteRow)) (by simp)) hap (by omega)  ) ?_
  rintro ⟨y2,hy2⟩
  obtain ⟨hy20,hy21⟩ := hy2
  refine xl_endS [0,3,10] [(0,.v (.pointer (some ⟨g,0,none⟩))),(3,.v (.slice b1a b1l.length b1c)),(10,.v (.int .i64 y2))] (by kernel_rfl) ?_
  refine xw_block ?_
  refine xw_seq ?_
  refine xw_region ?_
  refine xl_endS [0,3,10,11] [(0,.v (.pointer (some ⟨g,0,none⟩))),(3,.v (.slice b1a b1l.length b1c)),(10,.v (.int .i64 y2)),(11,.v (.bool (y2 == 0)))] (by kernel_rfl) ?_
  refine xw_cond (b := y2 == 0) (by kernel_rfl) (fun h3 => ?_) (fun h3 => ?_)
  have h3p := eqT h3
  refine xw_seq ?_
  refine xw_region ?_
  refine xl_callWS 1 [0,3,13] [(0,.v (.pointer (some ⟨g,0,none⟩))),(3,.v (.slice b1a b1l.length b1c)),(13,.v (.pointer (some ⟨g,0,none⟩)))] 65 [.pointer (some ⟨g,0,none⟩)] (some 14) 0 (curF B g 95 (.slice A code.length cap) code.length) (by kernel_rfl) rfl (by kernel_rfl) rfl (by kernel_rfl) rfl rfl (fun ww b h hb => Nat.le_trans (cutW_le w B) (cur_lo h hb)) (by kernel_rfl) (xcm_cur fun ww hw hf => l24Half_c g code A cap  ww B (Nat.le_trans (by first | exact Nat.le_refl _ | exact Nat.le_of_eq (cutW_size hB).symm) hw) (hf (curF B g 95 (.slice A code.length cap) code.length) (by simp)) (hf (slF (.slice A code.length cap) 1 (code.map byteRow)) (by simp)) hap (by omega)  ) ?_
  rintro ⟨y4,hy4⟩
  refine xl_end [0,3,4] ⟨[(0,.v (.pointer (some ⟨g,0,none⟩))),(3,.v (.slice b1a b1l.length b1c)),(4,.p 0 0)],[⟨56,hlfL y4⟩],[],[curF B g 95 (.slice A code.length cap) code.length,rowF (cutW w B).heap.size 56 13 (.slice b1a b1l.length b1c) (b1l.map hlfCells),slF (.slice A code.length cap) 1 (code.map byteRow),frF w (fun b => b = g)]⟩ (by kernel_rfl) ?_
  refine xw_seq ?_
  refine xw_region ?_
  refine xl_hvS 1 [3,4,15] [(3,.v (.slice b1a b1l.length b1c)),(4,.p 0 0),(15,.v (.pointer (some ⟨g,0,none⟩)))] (by kernel_rfl) rfl (by kernel_rfl) rfl (by kernel_rfl) (hv_build (e := 3) (K := 1) (bytes := 8) [.int .i64 (-1),.int .i64 6,.int .i64 7] rfl (by kernel_rfl) (by kernel_rfl) (by kernel_rfl) (by kernel_rfl) (by kernel_rfl) (rs := ([(-1),6,7] : List Int).map intRow) rfl) ?_
  intro g5
  refine xl_know (φ := ¬ (slF (.slice (some ⟨g5,0,none⟩) 3 3) 1 (([(-1),6,7] : List Int).map intRow)).blk g) (fun _ _ _ _ hr => fun hb => hr.2.apart 0 1 (rowF (cutW w B).heap.size 3 1 (.slice (some ⟨g5,0,none⟩) 3 3) (([(-1),6,7] : List Int).map intRow)) (curF B g 95 (.slice A code.length cap) code.length) rfl rfl (by decide) rfl g (rowF_sblk hb) rfl) (fun hk6 => ?_)
  refine xl_callWS 0 [3,4,15,16] [(3,.v (.slice b1a b1l.length b1c)),(4,.p 0 0),(15,.v (.pointer (some ⟨g,0,none⟩))),(16,.v (.slice (some ⟨g5,0,none⟩) 3 3))] 52 [.pointer (some ⟨g,0,none⟩),.slice (some ⟨g5,0,none⟩) 3 3] (some 17) 1 (curF B g 95 (.slice A code.length cap) code.length) (by kernel_rfl) rfl (by kernel_rfl) rfl (by kernel_rfl) rfl rfl (fun ww b h hb => Nat.le_trans (cutW_le w B) (cur_lo h hb)) (by kernel_rfl) (xcm_cur fun ww hw hf => l1PickInt_c g code A cap ([(-1),6,7] : List Int) (.slice (some ⟨g5,0,none⟩) 3 3) ww B (Nat.le_trans (by first | exact Nat.le_refl _ | exact Nat.le_of_eq (cutW_size hB).symm) hw) (hf (curF B g 95 (.slice A code.length cap) code.length) (by simp)) (hf (slF (.slice A code.length cap) 1 (code.map byteRow)) (by simp)) hap (by omega) (rowF_sl (hf (rowF (cutW w B).heap.size 3 1 (.slice (some ⟨g5,0,none⟩) 3 3) (([(-1),6,7] : List Int).map intRow)) (by simp))) hk6 (by simp)) ?_
  rintro ⟨y7,hy7⟩
  refine xl_end [3,4] ⟨[(3,.v (.slice b1a b1l.length b1c)),(4,.p 0 0)],[⟨56,hlfL { y4 with age := y7 }⟩],[],[curF B g 95 (.slice A code.length cap) code.length,rowF (cutW w B).heap.size 3 1 (.slice (some ⟨g5,0,none⟩) 3 3) (([(-1),6,7] : List Int).map intRow),rowF (cutW w B).heap.size 56 13 (.slice b1a b1l.length b1c) (b1l.map hlfCells),slF (.slice A code.length cap) 1 (code.map byteRow),frF w (fun b => b = g)]⟩ (by kernel_rfl) ?_
  refine xw_region ?_
  refine xl_hvS 2 [3,19,20] [(3,.v (.slice b1a b1l.length b1c)),(19,.v (.slice b1a b1l.length b1c)),(20,.v (.agg (hlfL { y4 with age := y7 }).toArray))] (by kernel_rfl) rfl (by kernel_rfl) rfl (by kernel_rfl) (hv_build (e := 56) (K := 13) (bytes := 96) [.agg (hlfL { y4 with age := y7 }).toArray] rfl (by kernel_rfl) (by kernel_rfl) (by kernel_rfl) (by kernel_rfl) (by kernel_rfl) (rs := ([{ y4 with age := y7 }] : List Hlf).map hlfCells) rfl) ?_
  intro g8
  refine xl_hvS 0 [3,19,21] [(3,.v (.slice b1a b1l.length b1c)),(19,.v (.slice b1a b1l.length b1c)),(21,.v (.slice (some ⟨g8,0,none⟩) 1 1))] (by kernel_rfl) rfl (by kernel_rfl) rfl (by kernel_rfl) (hv_append (e := 56) (K := 13) (bytes := 96) (i := 3) (q := (b1l ++ ([{ y4 with age := y7 }] : List Hlf)).length) (new := ([{ y4 with age := y7 }] : List Hlf).map hlfCells) (rs' := (b1l ++ ([{ y4 with age := y7 }] : List Hlf)).map hlfCells) rfl rfl rfl rfl (by kernel_rfl) (by kernel_rfl) (by kernel_rfl) rfl (by simp) (by rw [List.map_append]) (by simp) (fun ww hf => (rowF_sl (hf (rowF (cutW w B).heap.size 56 13 (.slice (some ⟨g8,0,none⟩) 1 1) (([{ y4 with age := y7 }] : List Hlf).map hlfCells)) (by simp)))) (by intro r hr; obtain ⟨x,hx,rfl⟩ := List.mem_map.1 hr; exact ⟨rfl,by simp [hlfCells,Value.oneCell']⟩) (by (try simp only [List.length_map,List.length_append,List.length_cons,List.length_nil,List.length_take,List.length_drop,maxLen]); omega) (by (try simp only [List.length_map,List.length_append,List.length_cons,List.length_nil,List.length_take,List.length_drop,maxLen]); omega)) ?_
  rintro ⟨v9a,v9c⟩
  refine xl_endS [3] [(3,.v (.slice v9a ((b1l ++ ([{ y4 with age := y7 }] : List Hlf)).length) v9c))] (by kernel_rfl) ?_
  refine xw_seq ?_
  refine xw_region ?_
  refine xl_endS [2] [(2,.v (.slice v9a ((b1l ++ ([{ y4 with age := y7 }] : List Hlf)).length) v9c))] (by kernel_rfl) ?_
  refine xw_ret ?_
  exact ⟨[.slice v9a ((b1l ++ ([{ y4 with age := y7 }] : List Hlf)).length) v9c],by kernel_rfl,fun w' hb hf ha => ⟨⟨((b1l ++ ([{ y4 with age := y7 }] : List Hlf)),v9a,v9c),by (try simp only [List.length_append,List.length_cons,List.length_nil]); omega⟩,rfl,hf (curF B g 95 (.slice A code.length cap) code.length) (by simp),rowF_raise (hf (rowF (cutW w B).heap.size 56 13 (.slice v9a ((b1l ++ ([{ y4 with age := y7 }] : List Hlf)).length) v9c) ((b1l ++ ([{ y4 with age := y7 }] : List Hlf)).map hlfCells)) (by simp)) (row_new ha (i := 0) (j := 2) (k := 5) rfl rfl rfl (by decide) (by decide)),hgl,frF_chgd (hf (frF w (fun b => b = g)) (by simp)) hb rfl rfl rfl⟩⟩
  have h3p := eqF h3
  refine xw_seq ?_
  refine xw_region ?_
  refine xl_endS [0,3,10,23] [(0,.v (.pointer (some ⟨g,0,none⟩))),(3,.v (.slice b1a b1l.length b1c)),(10,.v (.int .i64 y2)),(23,.v (.bool (y2 == 1)))] (by kernel_rfl) ?_
  refine xw_cond (b := y2 == 1) (by kernel_rfl) (fun h10 => ?_) (fun h10 => ?_)
  have h10p := eqT h10
  refine xw_seq ?_
  refine xw_region ?_
  refine xl_callWS 1 [0,3,25] [(0,.v (.pointer (some ⟨g,0,none⟩))),(3,.v (.slice b1a b1l.length b1c)),(25,.v (.pointer (some ⟨g,0,none⟩)))] 65 [.pointer (some ⟨g,0,none⟩)] (some 26) 0 (curF B g 95 (.slice A code.length cap) code.length) (by kernel_rfl) rfl (by kernel_rfl) rfl (by kernel_rfl) rfl rfl (fun ww b h hb => Nat.le_trans (cutW_le w B) (cur_lo h hb)) (by kernel_rfl) (xcm_cur fun ww hw hf => l24Half_c g code A cap  ww B (Nat.le_trans (by first | exact Nat.le_refl _ | exact Nat.le_of_eq (cutW_size hB).symm) hw) (hf (curF B g 95 (.slice A code.length cap) code.length) (by simp)) (hf (slF (.slice A code.length cap) 1 (code.map byteRow)) (by simp)) hap (by omega)  ) ?_
  rintro ⟨y11,hy11⟩
  refine xl_end [0,3,5] ⟨[(0,.v (.pointer (some ⟨g,0,none⟩))),(3,.v (.slice b1a b1l.length b1c)),(5,.p 0 0)],[⟨56,hlfL y11⟩],[],[curF B g 95 (.slice A code.length cap) code.length,rowF (cutW w B).heap.size 56 13 (.slice b1a b1l.length b1c) (b1l.map hlfCells),slF (.slice A code.length cap) 1 (code.map byteRow),frF w (fun b => b = g)]⟩ (by kernel_rfl) ?_
  refine xw_seq ?_
  refine xw_region ?_
  refine xl_callWS 1 [0,3,5,27] [(0,.v (.pointer (some ⟨g,0,none⟩))),(3,.v (.slice b1a b1l.length b1c)),(5,.p 0 0),(27,.v (.pointer (some ⟨g,0,none⟩)))] 50 [.pointer (some ⟨g,0,none⟩)] (some 28) 0 (curF B g 95 (.slice A code.length cap) code.length) (by kernel_rfl) rfl (by kernel_rfl) rfl (by kernel_rfl) rfl rfl (fun ww b h hb => Nat.le_trans (cutW_le w B) (cur_lo h hb)) (by kernel_rfl) (xcm_cur fun ww hw hf => l12Bent_c g code A cap  ww B (Nat.le_trans (by first | exact Nat.le_refl _ | exact Nat.le_of_eq (cutW_size hB).symm) hw) (hf (curF B g 95 (.slice A code.length cap) code.length) (by simp)) (hf (slF (.slice A code.length cap) 1 (code.map byteRow)) (by simp)) hap (by omega)  ) ?_
  rintro ⟨y12,hy12⟩
  refine xl_end [0,3,5] ⟨[(0,.v (.pointer (some ⟨g,0,none⟩))),(3,.v (.slice b1a b1l.length b1c)),(5,.p 0 0)],[⟨56,hlfL { y11 with t := y12 }⟩],[],[curF B g 95 (.slice A code.length cap) code.length,rowF (cutW w B).heap.size 56 13 (.slice b1a b1l.length b1c) (b1l.map hlfCells),slF (.slice A code.length cap) 1 (code.map byteRow),frF w (fun b => b = g)]⟩ (by kernel_rfl) ?_
  refine xw_seq ?_
  refine xw_region ?_
  refine xl_callWS 1 [3,5,30] [(3,.v (.slice b1a b1l.length b1c)),(5,.p 0 0),(30,.v (.pointer (some ⟨g,0,none⟩)))] 67 [.pointer (some ⟨g,0,none⟩)] (some 31) 0 (curF B g 95 (.slice A code.length cap) code.length) (by kernel_rfl) rfl (by kernel_rfl) rfl (by kernel_rfl) rfl rfl (fun ww b h hb => Nat.le_trans (cutW_le w B) (cur_lo h hb)) (by kernel_rfl) (xcm_cur fun ww hw hf => l2Word_c g code A cap  ww B (Nat.le_trans (by first | exact Nat.le_refl _ | exact Nat.le_of_eq (cutW_size hB).symm) hw) (hf (curF B g 95 (.slice A code.length cap) code.length) (by simp)) (hf (slF (.slice A code.length cap) 1 (code.map byteRow)) (by simp)) hap (by omega)  ) ?_
  rintro ⟨y13,hy13⟩
  refine xl_end [3,5] ⟨[(3,.v (.slice b1a b1l.length b1c)),(5,.p 0 0)],[⟨56,hlfL { y11 with t := y12,iss := y13 }⟩],[],[curF B g 95 (.slice A code.length cap) code.length,rowF (cutW w B).heap.size 56 13 (.slice b1a b1l.length b1c) (b1l.map hlfCells),slF (.slice A code.length cap) 1 (code.map byteRow),frF w (fun b => b = g)]⟩ (by kernel_rfl) ?_
  refine xw_region ?_
  refine xl_hvS 2 [3,33,34] [(3,.v (.slice b1a b1l.length b1c)),(33,.v (.slice b1a b1l.length b1c)),(34,.v (.agg (hlfL { y11 with t := y12,iss := y13 }).toArray))] (by kernel_rfl) rfl (by kernel_rfl) rfl (by kernel_rfl) (hv_build (e := 56) (K := 13) (bytes := 96) [.agg (hlfL { y11 with t := y12,iss := y13 }).toArray] rfl (by kernel_rfl) (by kernel_rfl) (by kernel_rfl) (by kernel_rfl) (by kernel_rfl) (rs := ([{ y11 with t := y12,iss := y13 }] : List Hlf).map hlfCells) rfl) ?_
  intro g14
  refine xl_hvS 0 [3,33,35] [(3,.v (.slice b1a b1l.length b1c)),(33,.v (.slice b1a b1l.length b1c)),(35,.v (.slice (some ⟨g14,0,none⟩) 1 1))] (by kernel_rfl) rfl (by kernel_rfl) rfl (by kernel_rfl) (hv_append (e := 56) (K := 13) (bytes := 96) (i := 2) (q := (b1l ++ ([{ y11 with t := y12,iss := y13 }] : List Hlf)).length) (new := ([{ y11 with t := y12,iss := y13 }] : List Hlf).map hlfCells) (rs' := (b1l ++ ([{ y11 with t := y12,iss := y13 }] : List Hlf)).map hlfCells) rfl rfl rfl rfl (by kernel_rfl) (by kernel_rfl) (by kernel_rfl) rfl (by simp) (by rw [List.map_append]) (by simp) (fun ww hf => (rowF_sl (hf (rowF (cutW w B).heap.size 56 13 (.slice (some ⟨g14,0,none⟩) 1 1) (([{ y11 with t := y12,iss := y13 }] : List Hlf).map hlfCells)) (by simp)))) (by intro r hr; obtain ⟨x,hx,rfl⟩ := List.mem_map.1 hr; exact ⟨rfl,by simp [hlfCells,Value.oneCell']⟩) (by (try simp only [List.length_map,List.length_append,List.length_cons,List.length_nil,List.length_take,List.length_drop,maxLen]); omega) (by (try simp only [List.length_map,List.length_append,List.length_cons,List.length_nil,List.length_take,List.length_drop,maxLen]); omega)) ?_
  rintro ⟨v15a,v15c⟩
  refine xl_endS [3] [(3,.v (.slice v15a ((b1l ++ ([{ y11 with t := y12,iss := y13 }] : List Hlf)).length) v15c))] (by kernel_rfl) ?_
  refine xw_seq ?_
  refine xw_region ?_
  refine xl_endS [2] [(2,.v (.slice v15a ((b1l ++ ([{ y11 with t := y12,iss := y13 }] : List Hlf)).length) v15c))] (by kernel_rfl) ?_
  refine xw_ret ?_
  exact ⟨[.slice v15a ((b1l ++ ([{ y11 with t := y12,iss := y13 }] : List Hlf)).length) v15c],by kernel_rfl,fun w' hb hf ha => ⟨⟨((b1l ++ ([{ y11 with t := y12,iss := y13 }] : List Hlf)),v15a,v15c),by (try simp only [List.length_append,List.length_cons,List.length_nil]); omega⟩,rfl,hf (curF B g 95 (.slice A code.length cap) code.length) (by simp),rowF_raise (hf (rowF (cutW w B).heap.size 56 13 (.slice v15a ((b1l ++ ([{ y11 with t := y12,iss := y13 }] : List Hlf)).length) v15c) ((b1l ++ ([{ y11 with t := y12,iss := y13 }] : List Hlf)).map hlfCells)) (by simp)) (row_new ha (i := 0) (j := 2) (k := 4) rfl rfl rfl (by decide) (by decide)),hgl,frF_chgd (hf (frF w (fun b => b = g)) (by simp)) hb rfl rfl rfl⟩⟩
  have h10p := eqF h10
  refine xw_seq ?_
  refine xw_region ?_
  refine xl_endS [0,3,37] [(0,.v (.pointer (some ⟨g,0,none⟩))),(3,.v (.slice b1a b1l.length b1c)),(37,.v (.bool (y2 == 2)))] (by kernel_rfl) ?_
  refine xw_cond (b := y2 == 2) (by kernel_rfl) (fun h16 => ?_) (fun h16 => ?_)
  have h16p := eqT h16
  refine xw_seq ?_
  refine xw_region ?_
  refine xl_callWS 1 [0,3,39] [(0,.v (.pointer (some ⟨g,0,none⟩))),(3,.v (.slice b1a b1l.length b1c)),(39,.v (.pointer (some ⟨g,0,none⟩)))] 65 [.pointer (some ⟨g,0,none⟩)] (some 40) 0 (curF B g 95 (.slice A code.length cap) code.length) (by kernel_rfl) rfl (by kernel_rfl) rfl (by kernel_rfl) rfl rfl (fun ww b h hb => Nat.le_trans (cutW_le w B) (cur_lo h hb)) (by kernel_rfl) (xcm_cur fun ww hw hf => l24Half_c g code A cap  ww B (Nat.le_trans (by first | exact Nat.le_refl _ | exact Nat.le_of_eq (cutW_size hB).symm) hw) (hf (curF B g 95 (.slice A code.length cap) code.length) (by simp)) (hf (slF (.slice A code.length cap) 1 (code.map byteRow)) (by simp)) hap (by omega)  ) ?_
  rintro ⟨y17,hy17⟩
  refine xl_end [0,3,6] ⟨[(0,.v (.pointer (some ⟨g,0,none⟩))),(3,.v (.slice b1a b1l.length b1c)),(6,.p 0 0)],[⟨56,hlfL y17⟩],[],[curF B g 95 (.slice A code.length cap) code.length,rowF (cutW w B).heap.size 56 13 (.slice b1a b1l.length b1c) (b1l.map hlfCells),slF (.slice A code.length cap) 1 (code.map byteRow),frF w (fun b => b = g)]⟩ (by kernel_rfl) ?_
  refine xw_seq ?_
  refine xw_region ?_
  refine xl_callWS 1 [3,6,41] [(3,.v (.slice b1a b1l.length b1c)),(6,.p 0 0),(41,.v (.pointer (some ⟨g,0,none⟩)))] 37 [.pointer (some ⟨g,0,none⟩)] (some 42) 0 (curF B g 95 (.slice A code.length cap) code.length) (by kernel_rfl) rfl (by kernel_rfl) rfl (by kernel_rfl) rfl rfl (fun ww b h hb => Nat.le_trans (cutW_le w B) (cur_lo h hb)) (by kernel_rfl) (xcm_cur fun ww hw hf => l8Bent_c g code A cap  ww B (Nat.le_trans (by first | exact Nat.le_refl _ | exact Nat.le_of_eq (cutW_size hB).symm) hw) (hf (curF B g 95 (.slice A code.length cap) code.length) (by simp)) (hf (slF (.slice A code.length cap) 1 (code.map byteRow)) (by simp)) hap (by omega)  ) ?_
  rintro ⟨y18,hy18⟩
  refine xl_end [3,6] ⟨[(3,.v (.slice b1a b1l.length b1c)),(6,.p 0 0)],[⟨56,hlfL { y17 with o := y18 }⟩],[],[curF B g 95 (.slice A code.length cap) code.length,rowF (cutW w B).heap.size 56 13 (.slice b1a b1l.length b1c) (b1l.map hlfCells),slF (.slice A code.length cap) 1 (code.map byteRow),frF w (fun b => b = g)]⟩ (by kernel_rfl) ?_
  refine xw_region ?_
  refine xl_hvS 2 [3,44,45] [(3,.v (.slice b1a b1l.length b1c)),(44,.v (.slice b1a b1l.length b1c)),(45,.v (.agg (hlfL { y17 with o := y18 }).toArray))] (by kernel_rfl) rfl (by kernel_rfl) rfl (by kernel_rfl) (hv_build (e := 56) (K := 13) (bytes := 96) [.agg (hlfL { y17 with o := y18 }).toArray] rfl (by kernel_rfl) (by kernel_rfl) (by kernel_rfl) (by kernel_rfl) (by kernel_rfl) (rs := ([{ y17 with o := y18 }] : List Hlf).map hlfCells) rfl) ?_
  intro g19
  refine xl_hvS 0 [3,44,46] [(3,.v (.slice b1a b1l.length b1c)),(44,.v (.slice b1a b1l.length b1c)),(46,.v (.slice (some ⟨g19,0,none⟩) 1 1))] (by kernel_rfl) rfl (by kernel_rfl) rfl (by kernel_rfl) (hv_append (e := 56) (K := 13) (bytes := 96) (i := 2) (q := (b1l ++ ([{ y17 with o := y18 }] : List Hlf)).length) (new := ([{ y17 with o := y18 }] : List Hlf).map hlfCells) (rs' := (b1l ++ ([{ y17 with o := y18 }] : List Hlf)).map hlfCells) rfl rfl rfl rfl (by kernel_rfl) (by kernel_rfl) (by kernel_rfl) rfl (by simp) (by rw [List.map_append]) (by simp) (fun ww hf => (rowF_sl (hf (rowF (cutW w B).heap.size 56 13 (.slice (some ⟨g19,0,none⟩) 1 1) (([{ y17 with o := y18 }] : List Hlf).map hlfCells)) (by simp)))) (by intro r hr; obtain ⟨x,hx,rfl⟩ := List.mem_map.1 hr; exact ⟨rfl,by simp [hlfCells,Value.oneCell']⟩) (by (try simp only [List.length_map,List.length_append,List.length_cons,List.length_nil,List.length_take,List.length_drop,maxLen]); omega) (by (try simp only [List.length_map,List.length_append,List.length_cons,List.length_nil,List.length_take,List.length_drop,maxLen]); omega)) ?_
  rintro ⟨v20a,v20c⟩
  refine xl_endS [3] [(3,.v (.slice v20a ((b1l ++ ([{ y17 with o := y18 }] : List Hlf)).length) v20c))] (by kernel_rfl) ?_
  refine xw_seq ?_
  refine xw_region ?_
  refine xl_endS [2] [(2,.v (.slice v20a ((b1l ++ ([{ y17 with o := y18 }] : List Hlf)).length) v20c))] (by kernel_rfl) ?_
  refine xw_ret ?_
  exact ⟨[.slice v20a ((b1l ++ ([{ y17 with o := y18 }] : List Hlf)).length) v20c],by kernel_rfl,fun w' hb hf ha => ⟨⟨((b1l ++ ([{ y17 with o := y18 }] : List Hlf)),v20a,v20c),by (try simp only [List.length_append,List.length_cons,List.length_nil]); omega⟩,rfl,hf (curF B g 95 (.slice A code.length cap) code.length) (by simp),rowF_raise (hf (rowF (cutW w B).heap.size 56 13 (.slice v20a ((b1l ++ ([{ y17 with o := y18 }] : List Hlf)).length) v20c) ((b1l ++ ([{ y17 with o := y18 }] : List Hlf)).map hlfCells)) (by simp)) (row_new ha (i := 0) (j := 2) (k := 4) rfl rfl rfl (by decide) (by decide)),hgl,frF_chgd (hf (frF w (fun b => b = g)) (by simp)) hb rfl rfl rfl⟩⟩
  have h16p := eqF h16
  refine xw_skip ?_
  refine xw_seq ?_
  refine xw_region ?_
  refine xl_endS [2] [(2,.v (.slice b1a b1l.length b1c))] (by kernel_rfl) ?_
  refine xw_ret ?_
  exact ⟨[.slice b1a b1l.length b1c],by kernel_rfl,fun w' hb hf ha => ⟨⟨(b1l,b1a,b1c),by (try simp only [List.length_append,List.length_cons,List.length_nil]); omega⟩,rfl,hf (curF B g 95 (.slice A code.length cap) code.length) (by simp),rowF_raise (hf (rowF (cutW w B).heap.size 56 13 (.slice b1a b1l.length b1c) (b1l.map hlfCells)) (by simp)) (row_new ha (i := 1) (j := 0) (k := 3) rfl rfl rfl (by decide) (by decide)),hgl,frF_chgd (hf (frF w (fun b => b = g)) (by simp)) hb rfl rfl rfl⟩⟩
set_option maxHeartbeats 2000000 in
theorem drawPutHalf_c (code : List Int) (A : Option Addr) (cap : Nat) (w : World) (hl : Sl w (.slice A code.length cap) 1 (code.map byteRow)) (hn : code.length ≤ 1048576) : Calls Try.prog 27 #[.slice A code.length cap] w fun e w' => ∃ y : {y : List Hlf × (Option Addr × Nat) × Hlf × Int // y.1.length ≤ 6}, e = .returned (.tuple #[.slice y.1.2.1.1 y.1.1.length y.1.2.1.2, .agg (hlfL y.1.2.2.1).toArray, .int .i64 y.1.2.2.2]) ∧ (rowF w.heap.size 56 13 (.slice y.1.2.1.1 y.1.1.length y.1.2.1.2) (y.1.1.map hlfCells)).p w' ∧ Below w.heap.size w w' := by
  have hq_code := Sl.capLe hl
  refine x_calls (args := [.slice A code.length cap]) (fn := Try.f27) [slF (.slice A code.length cap) 1 (code.map byteRow)] Try.func27 rfl Try.ntmps27 rfl (by simp only [List.mem_cons,List.not_mem_nil,or_false,forall_eq]; exact ⟨rfl,hl⟩) ?_
  refine xw_seq ?_
  refine xw_region ?_
  refine xl_end [0,3] ⟨[(0,.v (.slice A code.length cap)),(3,.p 0 0)],[⟨56,hlfZ⟩],[],[slF (.slice A code.length cap) 1 (code.map byteRow)]⟩ (by kernel_rfl) ?_
  refine xw_seq ?_
  refine xw_region ?_
  refine xl_callS 1 [3,8] [(3,.p 0 0),(8,.v (.slice A code.length cap))] 38 [.slice A code.length cap] (some 9) (by kernel_rfl) rfl (by kernel_rfl) rfl (by kernel_rfl) (xc_new fun ww hw hf => l1New_c code A cap ww (hf (slF (.slice A code.length cap) 1 (code.map byteRow)) (by simp)) (by omega)) ?_
  rintro ⟨g1,hapg1⟩
  refine xl_endS [3,5] [(3,.p 0 0),(5,.v (.pointer (some ⟨g1,0,none⟩)))] (by kernel_rfl) ?_
  refine xw_seq ?_
  refine xw_region ?_
  refine xl_callWS 1 [3,5,10] [(3,.p 0 0),(5,.v (.pointer (some ⟨g1,0,none⟩))),(10,.v (.pointer (some ⟨g1,0,none⟩)))] 64 [.pointer (some ⟨g1,0,none⟩)] (some 11) 0 (curF w.heap.size g1 95 (.slice A code.length cap) code.length) (by kernel_rfl) rfl (by kernel_rfl) rfl (by kernel_rfl) rfl rfl (fun ww b h hb => cur_lo h hb) (by kernel_rfl) (xcm_curR fun ww hw hf => l24Bent_c g1 code A cap ww w.heap.size hw (hf (curF w.heap.size g1 95 (.slice A code.length cap) code.length) (by simp)) (hf (slF (.slice A code.length cap) 1 (code.map byteRow)) (by simp)) hapg1 (by omega)) ?_
  rintro ⟨⟨b2l,b2a,b2c⟩,hb2⟩
  dsimp only at hb2
  refine xl_endS [3,5,6] [(3,.p 0 0),(5,.v (.pointer (some ⟨g1,0,none⟩))),(6,.v (.slice b2a b2l.length b2c))] (by kernel_rfl) ?_
  refine xw_seq ?_
  refine xw_region ?_
  refine xl_callWS 1 [3,5,6,12] [(3,.p 0 0),(5,.v (.pointer (some ⟨g1,0,none⟩))),(6,.v (.slice b2a b2l.length b2c)),(12,.v (.pointer (some ⟨g1,0,none⟩)))] 65 [.pointer (some ⟨g1,0,none⟩)] (some 13) 1 (curF w.heap.size g1 95 (.slice A code.length cap) code.length) (by kernel_rfl) rfl (by kernel_rfl) rfl (by kernel_rfl) rfl rfl (fun ww b h hb => cur_lo h hb) (by kernel_rfl) (xcm_cur fun ww hw hf => l24Half_c g1 code A cap  ww w.heap.size hw (hf (curF w.heap.size g1 95 (.slice A code.length cap) code.length) (by simp)) (hf (slF (.slice A code.length cap) 1 (code.map byteRow)) (by simp)) hapg1 (by omega)  ) ?_
  rintro ⟨y3,hy3⟩
  refine xl_end [3,5,6,7] ⟨[(3,.p 0 0),(5,.v (.pointer (some ⟨g1,0,none⟩))),(6,.v (.slice b2a b2l.length b2c)),(7,.p 1 0)],[⟨56,hlfZ⟩,⟨56,hlfL y3⟩],[],[curF w.heap.size g1 95 (.slice A code.length cap) code.length,rowF w.heap.size 56 13 (.slice b2a b2l.length b2c) (b2l.map hlfCells),slF (.slice A code.length cap) 1 (code.map byteRow)]⟩ (by kernel_rfl) ?_
  refine xw_seq ?_
  refine xw_seq ?_
  refine xw_region ?_
  refine xl_callWS 1 [3,5,6,7,14] [(3,.p 0 0),(5,.v (.pointer (some ⟨g1,0,none⟩))),(6,.v (.slice b2a b2l.length b2c)),(7,.p 1 0),(14,.v (.pointer (some ⟨g1,0,none⟩)))] 66 [.pointer (some ⟨g1,0,none⟩),.int .i64 6] (some 15) 0 (curF w.heap.size g1 95 (.slice A code.length cap) code.length) (by kernel_rfl) rfl (by kernel_rfl) rfl (by kernel_rfl) rfl rfl (fun ww b h hb => cur_lo h hb) (by kernel_rfl) (xcm_cur fun ww hw hf => l1Once_c g1 code A cap 6 ww w.heap.size hw (hf (curF w.heap.size g1 95 (.slice A code.length cap) code.length) (by simp)) (hf (slF (.slice A code.length cap) 1 (code.map byteRow)) (by simp)) hapg1 (by omega)  ) ?_
  rintro ⟨y4,hy4⟩
  refine xl_endS [3,5,6,7,15] [(3,.p 0 0),(5,.v (.pointer (some ⟨g1,0,none⟩))),(6,.v (.slice b2a b2l.length b2c)),(7,.p 1 0),(15,.v (.bool y4))] (by kernel_rfl) ?_
  refine xw_cond (b := y4) (by kernel_rfl) (fun h5 => ?_) (fun h5 => ?_)
  refine xw_region ?_
  refine xl_callWS 1 [3,5,6,7,16] [(3,.p 0 0),(5,.v (.pointer (some ⟨g1,0,none⟩))),(6,.v (.slice b2a b2l.length b2c)),(7,.p 1 0),(16,.v (.pointer (some ⟨g1,0,none⟩)))] 67 [.pointer (some ⟨g1,0,none⟩)] (some 17) 0 (curF w.heap.size g1 95 (.slice A code.length cap) code.length) (by kernel_rfl) rfl (by kernel_rfl) rfl (by kernel_rfl) rfl rfl (fun ww b h hb => cur_lo h hb) (by kernel_rfl) (xcm_cur fun ww hw hf => l2Word_c g1 code A cap  ww w.heap.size hw (hf (curF w.heap.size g1 95 (.slice A code.length cap) code.length) (by simp)) (hf (slF (.slice A code.length cap) 1 (code.map byteRow)) (by simp)) hapg1 (by omega)  ) ?_
  rintro ⟨y6,hy6⟩
  refine xl_end [3,5,6,7] ⟨[(3,.p 0 0),(5,.v (.pointer (some ⟨g1,0,none⟩))),(6,.v (.slice b2a b2l.length b2c)),(7,.p 1 0)],[⟨56,hlfZ⟩,⟨56,hlfL { y3 with window := y6 }⟩],[],[curF w.heap.size g1 95 (.slice A code.length cap) code.length,rowF w.heap.size 56 13 (.slice b2a b2l.length b2c) (b2l.map hlfCells),slF (.slice A code.length cap) 1 (code.map byteRow)]⟩ (by kernel_rfl) ?_
  refine xw_seq ?_
  refine xe_region0 [false,true] (by kernel_rfl) (fun ρ σ => ?_)
  refine xe_tkS [0,1,2] [21,20,19,3] 5 [(21,.v (.pointer (some ⟨g1,0,none⟩))),(20,.v (.agg (hlfL { y3 with window := y6 }).toArray)),(19,.v (.slice b2a b2l.length b2c)),(3,.p 0 0)] (fun _ _ h => h) rfl (by kernel_rfl) ?_
  refine xe_all [3] (by kernel_rfl) (by simp) ?_
  refine xs_hv 3 rfl (by kernel_rfl) (by kernel_rfl) (by kernel_rfl) (under_f rfl (under_t under_nil)) rfl (hv_build (e := 3) (K := 1) (bytes := 8) [.int .i64 0,.int .i64 1,.int .i64 2,.int .i64 3,.int .i64 64,.int .i64 (-1),.int .i64 9223372036854775807] rfl (by kernel_rfl) (by kernel_rfl) (by kernel_rfl) (by kernel_rfl) (by kernel_rfl) (rs := ([0,1,2,3,64,(-1),9223372036854775807] : List Int).map intRow) rfl) ?_
  intro g8
  refine xe_all [4] (by kernel_rfl) (by simp) ?_
  refine xs_know (φ := ¬ (slF (.slice (some ⟨g8,0,none⟩) 7 7) 1 (([0,1,2,3,64,(-1),9223372036854775807] : List Int).map intRow)).blk g1) (fun _ _ _ _ hr => fun hb => hr.2.apart 0 1 (rowF w.heap.size 3 1 (.slice (some ⟨g8,0,none⟩) 7 7) (([0,1,2,3,64,(-1),9223372036854775807] : List Int).map intRow)) (curF w.heap.size g1 95 (.slice A code.length cap) code.length) rfl rfl (by decide) rfl g1 (rowF_sblk hb) rfl) (fun hk9 => ?_)
  refine xs_callW 4 52 [.pointer (some ⟨g1,0,none⟩),.slice (some ⟨g8,0,none⟩) 7 7] (some 23) 1 (curF w.heap.size g1 95 (.slice A code.length cap) code.length) rfl (by kernel_rfl) rfl (by kernel_rfl) rfl rfl (fun ww b h hb => cur_lo h hb) (by kernel_rfl) (under_f rfl (under_t under_nil)) rfl (xcm_cur fun ww hw hf => l1PickInt_c g1 code A cap ([0,1,2,3,64,(-1),9223372036854775807] : List Int) (.slice (some ⟨g8,0,none⟩) 7 7) ww w.heap.size hw (hf (curF w.heap.size g1 95 (.slice A code.length cap) code.length) (by simp)) (hf (slF (.slice A code.length cap) 1 (code.map byteRow)) (by simp)) hapg1 (by omega) (rowF_sl (hf (rowF w.heap.size 3 1 (.slice (some ⟨g8,0,none⟩) 7 7) (([0,1,2,3,64,(-1),9223372036854775807] : List Int).map intRow)) (by simp))) hk9 (by simp)) ?_
  rintro ⟨y10,hy10⟩
  refine xe_tkS [5] [2,23,20,3] 2 [(2,.v (.slice b2a b2l.length b2c)),(23,.v (.int .i64 y10)),(20,.v (.agg (hlfL { y3 with window := y6 }).toArray)),(3,.p 0 0)] (fun _ _ h => h) rfl (by kernel_rfl) ?_
  refine xe_all [6] (by kernel_rfl) (by simp) ?_
  refine xs_store 6 0 0 [.int .i64 y3.t.ip,.int .i64 y3.t.port,.int .i64 y3.t.my,.int .i64 y3.iss,.int .i64 y3.irs,.int .i64 y3.o.mss,.int .i64 y3.o.scale,.bool y3.o.sack,.bool y3.o.stamp,.int .i64 y3.o.val,.int .i64 y3.o.echo,.int .i64 y3.age,.int .i64 y6] _ rfl (by kernel_rfl) (by kernel_rfl) (by kernel_rfl) (by kernel_rfl) (by first | exact .inr rfl | exact .inl rfl) (by kernel_rfl) rfl ?_
  refine xe_tkS [7] [4,2,3] 0 [(4,.v (.int .i64 y10)),(2,.v (.slice b2a b2l.length b2c)),(3,.p 0 0)] (fun _ _ h => h) rfl (by kernel_rfl) ?_
  refine xe_done (by kernel_rfl) ?_
  refine xw_ret ?_
  exact ⟨[.slice b2a b2l.length b2c,.agg (hlfL { y3 with window := y6 }).toArray,.int .i64 y10],by kernel_rfl,fun w' hb hf => ⟨⟨(b2l,(b2a,b2c),{ y3 with window := y6 },y10),by dsimp only; omega⟩,rfl,hf (rowF w.heap.size 56 13 (.slice b2a b2l.length b2c) (b2l.map hlfCells)) (by simp),hb⟩⟩
  refine xw_skip ?_
  refine xw_seq ?_
  refine xe_region0 [false,true] (by kernel_rfl) (fun ρ σ => ?_)
  refine xe_tkS [0,1,2] [21,20,19,3] 5 [(21,.v (.pointer (some ⟨g1,0,none⟩))),(20,.v (.agg (hlfL y3).toArray)),(19,.v (.slice b2a b2l.length b2c)),(3,.p 0 0)] (fun _ _ h => h) rfl (by kernel_rfl) ?_
  refine xe_all [3] (by kernel_rfl) (by simp) ?_
  refine xs_hv 3 rfl (by kernel_rfl) (by kernel_rfl) (by kernel_rfl) (under_f rfl (under_t under_nil)) rfl (hv_build (e := 3) (K := 1) (bytes := 8) [.int .i64 0,.int .i64 1,.int .i64 2,.int .i64 3,.int .i64 64,.int .i64 (-1),.int .i64 9223372036854775807] rfl (by kernel_rfl) (by kernel_rfl) (by kernel_rfl) (by kernel_rfl) (by kernel_rfl) (rs := ([0,1,2,3,64,(-1),9223372036854775807] : List Int).map intRow) rfl) ?_
  intro g12
  refine xe_all [4] (by kernel_rfl) (by simp) ?_
  refine xs_know (φ := ¬ (slF (.slice (some ⟨g12,0,none⟩) 7 7) 1 (([0,1,2,3,64,(-1),9223372036854775807] : List Int).map intRow)).blk g1) (fun _ _ _ _ hr => fun hb => hr.2.apart 0 1 (rowF w.heap.size 3 1 (.slice (some ⟨g12,0,none⟩) 7 7) (([0,1,2,3,64,(-1),9223372036854775807] : List Int).map intRow)) (curF w.heap.size g1 95 (.slice A code.length cap) code.length) rfl rfl (by decide) rfl g1 (rowF_sblk hb) rfl) (fun hk13 => ?_)
  refine xs_callW 4 52 [.pointer (some ⟨g1,0,none⟩),.slice (some ⟨g12,0,none⟩) 7 7] (some 23) 1 (curF w.heap.size g1 95 (.slice A code.length cap) code.length) rfl (by kernel_rfl) rfl (by kernel_rfl) rfl rfl (fun ww b h hb => cur_lo h hb) (by kernel_rfl) (under_f rfl (under_t under_nil)) rfl (xcm_cur fun ww hw hf => l1PickInt_c g1 code A cap ([0,1,2,3,64,(-1),9223372036854775807] : List Int) (.slice (some ⟨g12,0,none⟩) 7 7) ww w.heap.size hw (hf (curF w.heap.size g1 95 (.slice A code.length cap) code.length) (by simp)) (hf (slF (.slice A code.length cap) 1 (code.map byteRow)) (by simp)) hapg1 (by omega) (rowF_sl (hf (rowF w.heap.size 3 1 (.slice (some ⟨g12,0,none⟩) 7 7) (([0,1,2,3,64,(-1),9223372036854775807] : List Int).map intRow)) (by simp))) hk13 (by simp)) ?_
  rintro ⟨y14,hy14⟩
  refine xe_tkS [5] [2,23,20,3] 2 [(2,.v (.slice b2a b2l.length b2c)),(23,.v (.int .i64 y14)),(20,.v (.agg (hlfL y3).toArray)),(3,.p 0 0)] (fun _ _ h => h) rfl (by kernel_rfl) ?_
  refine xe_all [6] (by kernel_rfl) (by simp) ?_
  refine xs_store 6 0 0 [.int .i64 y3.t.ip,.int .i64 y3.t.port,.int .i64 y3.t.my,.int .i64 y3.iss,.int .i64 y3.irs,.int .i64 y3.o.mss,.int .i64 y3.o.scale,.bool y3.o.sack,.bool y3.o.stamp,.int .i64 y3.o.val,.int .i64 y3.o.echo,.int .i64 y3.age,.int .i64 y3.window] _ rfl (by kernel_rfl) (by kernel_rfl) (by kernel_rfl) (by kernel_rfl) (by first | exact .inr rfl | exact .inl rfl) (by kernel_rfl) rfl ?_
  refine xe_tkS [7] [4,2,3] 0 [(4,.v (.int .i64 y14)),(2,.v (.slice b2a b2l.length b2c)),(3,.p 0 0)] (fun _ _ h => h) rfl (by kernel_rfl) ?_
  refine xe_done (by kernel_rfl) ?_
  refine xw_ret ?_
  exact ⟨[.slice b2a b2l.length b2c,.agg (hlfL y3).toArray,.int .i64 y14],by kernel_rfl,fun w' hb hf => ⟨⟨(b2l,(b2a,b2c),y3,y14),by dsimp only; omega⟩,rfl,hf (rowF w.heap.size 56 13 (.slice b2a b2l.length b2c) (b2l.map hlfCells)) (by simp),hb⟩⟩

set_option maxHeartbeats 1000000 in
theorem yAgedHalves_c (l : List Hlf) (lV : Value) (w : World) (hl_lV : Sl w lV 13 (l.map hlfCells)) (hkn : l.length ≤ 1048576) (hag : ∀ x ∈ l, 0 ≤ x.age ∧ x.age ≤ 6) (B : Nat) (hB : B ≤ w.heap.size) : Calls Try.prog 34 #[lV] w fun e w' => XRs w w' e (α := Option Addr × Nat) (fun y => .slice y.1 ((agedH l).length) y.2) (fun y => [ownF B (.slice y.1 ((agedH l).length) y.2) 13 ((agedH l).map hlfCells)]) := by
  obtain ⟨Al,Cl,hvl⟩ := hl_lV.form
  rw [List.length_map] at hvl; subst hvl
  have hnl := hl_lV.len; rw [List.length_map] at hnl
  have hql := Sl.capLe hl_lV
  refine x_callsA (args := [.slice Al l.length Cl]) (fn := Try.f34) [slF (.slice Al l.length Cl) 13 (l.map hlfCells)] Try.func34 rfl Try.ntmps34 rfl (by simp only [List.mem_cons,List.not_mem_nil,or_false,forall_eq_or_imp,forall_eq]; exact ⟨rfl,hl_lV⟩) ?_
  refine xw_seq ?_
  refine xw_region ?_
  refine xl_end [0] ⟨[(0,.v (.slice Al l.length Cl))],[],[],[slF (.slice Al l.length Cl) 13 (l.map hlfCells)]⟩ (by kernel_rfl) ?_
  refine xw_seq ?_
  refine xw_region ?_
  refine xl_hvS 0 [0] [(0,.v (.slice Al l.length Cl))] (by kernel_rfl) rfl (by kernel_rfl) rfl (by kernel_rfl) (hv_build (e := 56) (K := 13) (bytes := 96) [] rfl (by kernel_rfl) (by kernel_rfl) (by kernel_rfl) (by kernel_rfl) (by kernel_rfl) (rs := ([] : List Hlf).map hlfCells) rfl) ?_
  intro g1
  refine xl_endS [0,3] [(0,.v (.slice Al l.length Cl)),(3,.v (.slice (some ⟨g1,0,none⟩) 0 0))] (by kernel_rfl) ?_
  refine xw_seq ?_
  refine xw_seq ?_
  refine xw_region ?_
  refine xl_endS [3,7,8,9] [(3,.v (.slice (some ⟨g1,0,none⟩) 0 0)),(7,.v (.slice Al l.length Cl)),(8,.v (.int .i64 ((l.length : Nat) : Int))),(9,.v (.int .i64 0))] (by kernel_rfl) ?_
  refine xw_block ?_
  refine xw_loopW (α := {x : Nat × List Hlf × Option Addr × Nat // (fun (k : Nat) (bs : List Hlf) (A1 : Option Addr) (c1 : Nat) => k ≤ l.length ∧ agedH l = bs ++ (l.drop k).flatMap ageOne ∧ bs.length ≤ k) x.1 x.2.1 x.2.2.1 x.2.2.2}) (fun x => (fun (k : Nat) (bs : List Hlf) (A1 : Option Addr) (c1 : Nat) => (⟨[(3,.v (.slice A1 bs.length c1)),(7,.v (.slice Al l.length Cl)),(8,.v (.int .i64 ((l.length : Nat) : Int))),(9,.v (.int .i64 (k : Int)))],[],[],[rowF w.heap.size 56 13 (.slice A1 bs.length c1) (bs.map hlfCells),slF (.slice Al l.length Cl) 13 (l.map hlfCells)]⟩ : St)) x.1.1 x.1.2.1 x.1.2.2.1 x.1.2.2.2) (fun x => (fun (k : Nat) (bs : List Hlf) (A1 : Option Addr) (c1 : Nat) => l.length - k) x.1.1 x.1.2.1 x.1.2.2.1 x.1.2.2.2) ⟨(0,([] : List Hlf),(some ⟨g1,0,none⟩),0),⟨Nat.zero_le _,rfl,Nat.le_refl _⟩⟩ ((wk_pick [0,1] [rowF w.heap.size 56 13 (.slice (some ⟨g1,0,none⟩) 0 0) (([] : List Hlf).map hlfCells),slF (.slice Al l.length Cl) 13 (l.map hlfCells)] (by kernel_rfl) (by kernel_rfl)).trans <| wk_forget 0 0 [3,7,8,9] (by kernel_rfl) (by kernel_rfl) (by kernel_rfl)) ?_
  rintro ⟨⟨k,bs,A1,c1⟩,hk,HK,hbl⟩
  refine xw_wk (Wk.of_eq (s' := ⟨[(3,.v (.slice A1 bs.length c1)),(7,.v (.slice Al l.length Cl)),(8,.v (.int .i64 ((l.length : Nat) : Int))),(9,.v (.int .i64 (k : Int)))],[],[],[rowF w.heap.size 56 13 (.slice A1 bs.length c1) (bs.map hlfCells),slF (.slice Al l.length Cl) 13 (l.map hlfCells)]⟩) rfl) ?_
  try dsimp only at hk HK hbl
  refine xw_seq ?_
  refine xw_region ?_
  refine xl_endS [3,7,8,9,10] [(3,.v (.slice A1 bs.length c1)),(7,.v (.slice Al l.length Cl)),(8,.v (.int .i64 ((l.length : Nat) : Int))),(9,.v (.int .i64 (k : Int))),(10,.v (.bool (decide ((k : Int) < ((l.length : Nat) : Int)))))] (by kernel_rfl) ?_
  refine xw_seq ?_
  refine xw_cond (b := decide ((k : Int) < ((l.length : Nat) : Int))) (by kernel_rfl) (fun h2 => ?_) (fun h2 => ?_)
  have h2p : ((k : Int) < ((l.length : Nat) : Int)) := of_decide_eq_true h2
  have hlt : k < l.length := by simpa using h2
  obtain ⟨x,hx⟩ : ∃ x,l[k]? = some x := ⟨_,List.getElem?_eq_getElem hlt⟩
  obtain ⟨hx0,hx1⟩ := hag x (List.mem_of_getElem? hx)
  refine xw_skip ?_
  refine xw_seq ?_
  refine xw_block ?_
  refine xw_seq ?_
  refine xw_region ?_
  refine xl_indexS (kd := .i64) (T := 54) (e := 56) (K := 13) 0 [3,7,8,9] [(3,.v (.slice A1 bs.length c1)),(7,.v (.slice Al l.length Cl)),(8,.v (.int .i64 ((l.length : Nat) : Int))),(9,.v (.int .i64 (k : Int)))] k [.int .i64 x.t.ip,.int .i64 x.t.port,.int .i64 x.t.my,.int .i64 x.iss,.int .i64 x.irs,.int .i64 x.o.mss,.int .i64 x.o.scale,.bool x.o.sack,.bool x.o.stamp,.int .i64 x.o.val,.int .i64 x.o.echo,.int .i64 x.age,.int .i64 x.window] (slF (.slice Al l.length Cl) 13 (l.map hlfCells)) (by kernel_rfl) rfl (by kernel_rfl) rfl rfl (by kernel_rfl) (by kernel_rfl) (by kernel_rfl) (by kernel_rfl) hlt (by simp) (fun w h => h) (fun b h => h) (by simp only [List.getElem?_map,hx]; rfl) ?_
  refine xl_end [3,5,7,8,9] ⟨[(3,.v (.slice A1 bs.length c1)),(5,.p 0 0),(7,.v (.slice Al l.length Cl)),(8,.v (.int .i64 ((l.length : Nat) : Int))),(9,.v (.int .i64 (k : Int)))],[⟨56,hlfL x⟩],[[.int .i64 x.t.ip,.int .i64 x.t.port,.int .i64 x.t.my,.int .i64 x.iss,.int .i64 x.irs,.int .i64 x.o.mss,.int .i64 x.o.scale,.bool x.o.sack,.bool x.o.stamp,.int .i64 x.o.val,.int .i64 x.o.echo,.int .i64 x.age,.int .i64 x.window]],[rowF w.heap.size 56 13 (.slice A1 bs.length c1) (bs.map hlfCells),slF (.slice Al l.length Cl) 13 (l.map hlfCells)]⟩ (by kernel_rfl) ?_
  refine xw_seq ?_
  refine xw_region ?_
  refine xl_run 5 [3,5,7,8,9] ⟨[(3,.v (.slice A1 bs.length c1)),(5,.p 0 0),(7,.v (.slice Al l.length Cl)),(8,.v (.int .i64 ((l.length : Nat) : Int))),(9,.v (.int .i64 (k : Int)))],[⟨56,hlfL { x with age := IntKind.i64.wrap (x.age + 1) }⟩],[[.int .i64 x.t.ip,.int .i64 x.t.port,.int .i64 x.t.my,.int .i64 x.iss,.int .i64 x.irs,.int .i64 x.o.mss,.int .i64 x.o.scale,.bool x.o.sack,.bool x.o.stamp,.int .i64 x.o.val,.int .i64 x.o.echo,.int .i64 x.age,.int .i64 x.window]],[rowF w.heap.size 56 13 (.slice A1 bs.length c1) (bs.map hlfCells),slF (.slice Al l.length Cl) 13 (l.map hlfCells)]⟩ (by kernel_rfl) ?_
  refine xl_eq (st' := ⟨[(3,.v (.slice A1 bs.length c1)),(5,.p 0 0),(7,.v (.slice Al l.length Cl)),(8,.v (.int .i64 ((l.length : Nat) : Int))),(9,.v (.int .i64 (k : Int)))],[⟨56,hlfL { x with age := x.age + 1 }⟩],[[.int .i64 x.t.ip,.int .i64 x.t.port,.int .i64 x.t.my,.int .i64 x.iss,.int .i64 x.irs,.int .i64 x.o.mss,.int .i64 x.o.scale,.bool x.o.sack,.bool x.o.stamp,.int .i64 x.o.val,.int .i64 x.o.echo,.int .i64 x.age,.int .i64 x.window]],[rowF w.heap.size 56 13 (.slice A1 bs.length c1) (bs.map hlfCells),slF (.slice Al l.length Cl) 13 (l.map hlfCells)]⟩) (by rw [show (IntKind.i64.wrap (x.age + 1)) = (x.age + 1) from wrap_id (by omega) (by omega)]) ?_
  refine xl_endS [3,5,7,8,9] [(3,.v (.slice A1 bs.length c1)),(5,.p 0 0),(7,.v (.slice Al l.length Cl)),(8,.v (.int .i64 ((l.length : Nat) : Int))),(9,.v (.int .i64 (k : Int)))] (by kernel_rfl) ?_
  refine xw_seq ?_
  refine xw_region ?_
  refine xl_endS [3,5,7,8,9,19] [(3,.v (.slice A1 bs.length c1)),(5,.p 0 0),(7,.v (.slice Al l.length Cl)),(8,.v (.int .i64 ((l.length : Nat) : Int))),(9,.v (.int .i64 (k : Int))),(19,.v (.bool (decide ((x.age + 1) ≤ 6))))] (by kernel_rfl) ?_
  refine xw_cond (b := decide ((x.age + 1) ≤ 6)) (by kernel_rfl) (fun h3 => ?_) (fun h3 => ?_)
  have h3p : ((x.age + 1) ≤ 6) := of_decide_eq_true h3
  have hae := aged_yes (x := x) (of_decide_eq_true h3)
  refine xw_region ?_
  refine xl_hvS 2 [3,7,8,9,20,21] [(3,.v (.slice A1 bs.length c1)),(7,.v (.slice Al l.length Cl)),(8,.v (.int .i64 ((l.length : Nat) : Int))),(9,.v (.int .i64 (k : Int))),(20,.v (.slice A1 bs.length c1)),(21,.v (.agg (hlfL { x with age := x.age + 1 }).toArray))] (by kernel_rfl) rfl (by kernel_rfl) rfl (by kernel_rfl) (hv_build (e := 56) (K := 13) (bytes := 96) [.agg (hlfL { x with age := x.age + 1 }).toArray] rfl (by kernel_rfl) (by kernel_rfl) (by kernel_rfl) (by kernel_rfl) (by kernel_rfl) (rs := ([{ x with age := x.age + 1 }] : List Hlf).map hlfCells) rfl) ?_
  intro g4
  refine xl_hvS 0 [3,7,8,9,20,22] [(3,.v (.slice A1 bs.length c1)),(7,.v (.slice Al l.length Cl)),(8,.v (.int .i64 ((l.length : Nat) : Int))),(9,.v (.int .i64 (k : Int))),(20,.v (.slice A1 bs.length c1)),(22,.v (.slice (some ⟨g4,0,none⟩) 1 1))] (by kernel_rfl) rfl (by kernel_rfl) rfl (by kernel_rfl) (hv_append (e := 56) (K := 13) (bytes := 96) (i := 1) (q := (bs ++ ([{ x with age := x.age + 1 }] : List Hlf)).length) (new := ([{ x with age := x.age + 1 }] : List Hlf).map hlfCells) (rs' := (bs ++ ([{ x with age := x.age + 1 }] : List Hlf)).map hlfCells) rfl rfl rfl rfl (by kernel_rfl) (by kernel_rfl) (by kernel_rfl) rfl (by simp) (by rw [List.map_append]) (by simp) (fun ww hf => (rowF_sl (hf (rowF w.heap.size 56 13 (.slice (some ⟨g4,0,none⟩) 1 1) (([{ x with age := x.age + 1 }] : List Hlf).map hlfCells)) (by simp)))) (by intro r hr; obtain ⟨x,hx,rfl⟩ := List.mem_map.1 hr; exact ⟨rfl,by simp [hlfCells,Value.oneCell']⟩) (by (try simp only [List.length_map,List.length_append,List.length_cons,List.length_nil,List.length_take,List.length_drop,maxLen]); omega) (by (try simp only [List.length_map,List.length_append,List.length_cons,List.length_nil,List.length_take,List.length_drop,maxLen]); omega)) ?_
  rintro ⟨v5a,v5c⟩
  refine xl_endS [3,7,8,9] [(3,.v (.slice v5a ((bs ++ ([{ x with age := x.age + 1 }] : List Hlf)).length) v5c)),(7,.v (.slice Al l.length Cl)),(8,.v (.int .i64 ((l.length : Nat) : Int))),(9,.v (.int .i64 (k : Int)))] (by kernel_rfl) ?_
  refine xw_region ?_
  refine xl_runS 2 [3,7,8,9] [(3,.v (.slice v5a ((bs ++ ([{ x with age := x.age + 1 }] : List Hlf)).length) v5c)),(7,.v (.slice Al l.length Cl)),(8,.v (.int .i64 ((l.length : Nat) : Int))),(9,.v (.int .i64 (IntKind.i64.wrap ((k : Int) + 1))))] (by kernel_rfl) ?_
  refine xl_eqS (t' := [(3,.v (.slice v5a ((bs ++ ([{ x with age := x.age + 1 }] : List Hlf)).length) v5c)),(7,.v (.slice Al l.length Cl)),(8,.v (.int .i64 ((l.length : Nat) : Int))),(9,.v (.int .i64 ((k : Int) + 1)))]) (by rw [show (IntKind.i64.wrap ((k : Int) + 1)) = ((k : Int) + 1) from wrap_id (by omega) (by omega)]) ?_
  refine xl_endS [3,7,8,9] [(3,.v (.slice v5a ((bs ++ ([{ x with age := x.age + 1 }] : List Hlf)).length) v5c)),(7,.v (.slice Al l.length Cl)),(8,.v (.int .i64 ((l.length : Nat) : Int))),(9,.v (.int .i64 ((k : Int) + 1)))] (by kernel_rfl) ?_
  exact ⟨⟨(k + 1,(bs ++ ([{ x with age := x.age + 1 }] : List Hlf)),v5a,v5c),⟨hlt,(by have := aged_step hx HK; rw [hae] at this; simpa using this),(by (try dsimp only); (try simp only [List.length_append,List.length_cons,List.length_nil]); omega)⟩⟩,(wk_pick [0,2] [rowF w.heap.size 56 13 (.slice v5a ((bs ++ ([{ x with age := x.age + 1 }] : List Hlf)).length) v5c) ((bs ++ ([{ x with age := x.age + 1 }] : List Hlf)).map hlfCells),slF (.slice Al l.length Cl) 13 (l.map hlfCells)] (by kernel_rfl) (by kernel_rfl)).trans <| wk_forget 0 0 [3,7,8,9] (by kernel_rfl) (by kernel_rfl) (by kernel_rfl),by show (fun (k : Nat) (bs : List Hlf) (A1 : Option Addr) (c1 : Nat) => l.length - k) (k + 1) (bs ++ ([{ x with age := x.age + 1 }] : List Hlf)) v5a v5c < l.length - k; (dsimp only; omega)⟩
  have h3p : ¬ ((x.age + 1) ≤ 6) := of_decide_eq_false h3
  have hae := aged_no (x := x) (of_decide_eq_false h3)
  refine xw_skip ?_
  refine xw_region ?_
  refine xl_runS 2 [3,7,8,9] [(3,.v (.slice A1 bs.length c1)),(7,.v (.slice Al l.length Cl)),(8,.v (.int .i64 ((l.length : Nat) : Int))),(9,.v (.int .i64 (IntKind.i64.wrap ((k : Int) + 1))))] (by kernel_rfl) ?_
  refine xl_eqS (t' := [(3,.v (.slice A1 bs.length c1)),(7,.v (.slice Al l.length Cl)),(8,.v (.int .i64 ((l.length : Nat) : Int))),(9,.v (.int .i64 ((k : Int) + 1)))]) (by rw [show (IntKind.i64.wrap ((k : Int) + 1)) = ((k : Int) + 1) from wrap_id (by omega) (by omega)]) ?_
  refine xl_endS [3,7,8,9] [(3,.v (.slice A1 bs.length c1)),(7,.v (.slice Al l.length Cl)),(8,.v (.int .i64 ((l.length : Nat) : Int))),(9,.v (.int .i64 ((k : Int) + 1)))] (by kernel_rfl) ?_
  exact ⟨⟨(k + 1,bs,A1,c1),⟨hlt,(by have := aged_step hx HK; rw [hae] at this; simpa using this),(by (try dsimp only); (try simp only [List.length_append,List.length_cons,List.length_nil]); omega)⟩⟩,wk_forget 0 0 [3,7,8,9] (by kernel_rfl) (by kernel_rfl) (by kernel_rfl),by show (fun (k : Nat) (bs : List Hlf) (A1 : Option Addr) (c1 : Nat) => l.length - k) (k + 1) bs A1 c1 < l.length - k; (dsimp only; omega)⟩
  have h2p : ¬ ((k : Int) < ((l.length : Nat) : Int)) := of_decide_eq_false h2
  have hge : k = l.length := by simp at h2; omega
  have hend := aged_end hge HK
  refine xw_exit ?_
  refine xw_seq ?_
  refine xw_region ?_
  refine xl_endS [2] [(2,.v (.slice A1 bs.length c1))] (by kernel_rfl) ?_
  refine xw_ret ?_
  have hmod : agedH l = bs := by exact hend
  exact ⟨[.slice A1 bs.length c1],by kernel_rfl,fun w' hb hf ha => by rw [hmod]; exact xr_one ((A1,c1)) rfl rfl (rowF_ownF (hf (rowF w.heap.size 56 13 (.slice A1 bs.length c1) (bs.map hlfCells)) (by simp)) hB) (fun b hb => rowF_lo (hf (rowF w.heap.size 56 13 (.slice A1 bs.length c1) (bs.map hlfCells)) (by simp)) (rowF_blk hb)) hb⟩
end Go.Proofs.Ytcoppgllfipbeaa
