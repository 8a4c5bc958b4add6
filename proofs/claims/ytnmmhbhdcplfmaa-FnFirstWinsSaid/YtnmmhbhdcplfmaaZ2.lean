/- Contracts that this law needs, part 2. -/
import Derived.Test.YtnmmhbhdcplfmaaZ1
namespace Go.Proofs.Ytnmmhbhdcplfmaa
open Go.RowKit
set_option linter.unusedVariables false
set_option linter.unusedSimpArgs false
set_option maxRecDepth 100000
set_option maxHeartbeats 2000000

theorem l18Stream_c (g : Nat) (code : List Int) (A : Option Addr) (cap : Nat) (r : Rcv) (r_heldV : Value) (w : World) (B : Nat) (hB : B ≤ w.heap.size) (hc : (curF B g 85 (.slice A code.length cap) code.length).p w) (hl : Sl w (.slice A code.length cap) 1 (code.map byteRow)) (hap : ¬ (slF (.slice A code.length cap) 1 (code.map byteRow)).blk g) (hn : code.length ≤ 1048576)  : Calls Try.prog 62 #[.pointer (some ⟨g, 0, none⟩), .agg (rcvL r r_heldV).toArray] w fun e w' => ∃ y : {y : Int × ByteArray × Bool // y.2.1.size ≤ 4096}, e = .returned (.tuple #[.int .i64 y.1.1, .string y.1.2.1, .bool y.1.2.2]) ∧ (curF B g 85 (.slice A code.length cap) code.length).p w' ∧ Chgd (fun b => b = g) w w' := by
 have hq_code := Sl.capLe hl
 have hBw : B ≤ (cutW w B).heap.size := Nat.le_of_eq (cutW_size hB).symm
 have hlo : ∀ (ww : World) (b : Nat),(curF B g 85 (.slice A code.length cap) code.length).p ww → (curF B g 85 (.slice A code.length cap) code.length).blk b → (cutW w B).heap.size ≤ b := fun ww b h hb => Nat.le_trans (cutW_le w B) (cur_lo h hb)
 refine x_callsM (args := [.pointer (some ⟨g,0,none⟩),.agg (rcvL r r_heldV).toArray]) (fn := Try.f62) [curF B g 85 (.slice A code.length cap) code.length,slF (.slice A code.length cap) 1 (code.map byteRow),frF w (fun b => b = g)] B Try.func62 rfl Try.ntmps62 rfl hB (by simp only [List.mem_cons,List.not_mem_nil,or_false,forall_eq_or_imp,forall_eq]; exact ⟨hc,hl,frF_start w _⟩) (apart_cur hap rfl) ?_
 refine kQ ?_
 refine kEF [0,3] ⟨[(0,.v (.pointer (some ⟨g,0,none⟩))),(3,.p 0 0)],[⟨26,rcvL r r_heldV⟩],[],[curF B g 85 (.slice A code.length cap) code.length,slF (.slice A code.length cap) 1 (code.map byteRow),frF w (fun b => b = g)]⟩ ?_
 refine kQ ?_
 refine kWD 1 [0,3,11] [(11,.v (.pointer (some ⟨g,0,none⟩)))] 45 [.pointer (some ⟨g,0,none⟩),.int .i64 40] (some 12) 0 rfl rfl hlo (l1Below_c_K hBw hap) ?_
 rintro ⟨y1,hy1⟩
 obtain ⟨hy10,hy11⟩ := hy1
 refine kED [0,3,7] [(7,.v (.int .i64 (IntKind.i64.wrap (y1 - 6))))] ?_
 refine kQ ?_
 refine kWD 1 [0,3,7,14] [(14,.v (.pointer (some ⟨g,0,none⟩)))] 45 [.pointer (some ⟨g,0,none⟩),.int .i64 9] (some 15) 0 rfl rfl hlo (l1Below_c_K hBw hap) ?_
 rintro ⟨y2,hy2⟩
 obtain ⟨hy20,hy21⟩ := hy2
 refine kED [0,3,7,8] [(8,.v (.int .i64 y2))] ?_
 refine kQ ?_
 refine kHD 0 [0,3,7,8] [] rfl (hv_build (e := 5) (K := 1) (bytes := 1) [] rfl (by kernel_rfl) (by kernel_rfl) (by kernel_rfl) (by kernel_rfl) (by kernel_rfl) (rs := ([] : List Int).map byteRow) rfl) ?_
 intro g3
 refine kED [0,3,7,8,9] [(9,.v (.slice (some ⟨g3,0,none⟩) 0 0))] ?_
 refine kS ?_
 refine kQ ?_
 refine kED [0,3,7,8,9,10] [(10,.v (.int .i64 0))] ?_
 refine xw_block ?_
 refine xw_loopW (α := {x : Nat × List Int × Option Addr × Nat // (fun (i : Nat) (bs : List Int) (A1 : Option Addr) (c1 : Nat) => (i : Int) ≤ y2 ∧ bs.length = i) x.1 x.2.1 x.2.2.1 x.2.2.2}) (fun x => (fun (i : Nat) (bs : List Int) (A1 : Option Addr) (c1 : Nat) => (⟨[(0,.v (.pointer (some ⟨g,0,none⟩))),(3,.p 0 0),(7,.v (.int .i64 (IntKind.i64.wrap (y1 - 6)))),(8,.v (.int .i64 y2)),(9,.v (.slice A1 bs.length c1)),(10,.v (.int .i64 (i : Int)))],[⟨26,rcvL r r_heldV⟩],[],[rowF (cutW w B).heap.size 5 1 (.slice A1 bs.length c1) (bs.map byteRow),curF B g 85 (.slice A code.length cap) code.length,slF (.slice A code.length cap) 1 (code.map byteRow),frF w (fun b => b = g)]⟩ : St)) x.1.1 x.1.2.1 x.1.2.2.1 x.1.2.2.2) (fun x => (fun (i : Nat) (bs : List Int) (A1 : Option Addr) (c1 : Nat) => (y2).toNat - i) x.1.1 x.1.2.1 x.1.2.2.1 x.1.2.2.2) ⟨(0,([] : List Int),(some ⟨g3,0,none⟩),0),⟨(by omega),rfl⟩⟩ ((wk_pick [0,1,2,3] [rowF (cutW w B).heap.size 5 1 (.slice (some ⟨g3,0,none⟩) 0 0) (([] : List Int).map byteRow),curF B g 85 (.slice A code.length cap) code.length,slF (.slice A code.length cap) 1 (code.map byteRow),frF w (fun b => b = g)] (by kernel_rfl) (by kernel_rfl)).trans <| kF 1 0 [0,3,7,8,9,10]) ?_
 rintro ⟨⟨i,bs,A1,c1⟩,hi,hbl⟩
 try dsimp only
 try dsimp only at hi hbl
 refine kS ?_
 refine kQ ?_
 refine kED [0,3,7,8,9,10,19] [(19,.v (.bool (decide ((i : Int) < y2))))] ?_
 refine kC (decide ((i : Int) < y2)) (fun h4 => ?_) (fun h4 => ?_)
 have h4p := of_decide_eq_true h4
 have hlt :  (i : Int) < y2 := of_decide_eq_true h4
 refine kK ?_
 refine kS ?_
 refine xw_block ?_
 refine kG ?_
 refine kCD 7 [0,3,7,8,9,10,22,28] [(22,.v (.slice A1 bs.length c1)),(28,.v (.int .i64 (IntKind.i64.wrap ((IntKind.i64.wrap (r.next + (IntKind.i64.wrap (y1 - 6)))) + (i : Int)))))] 61 [.int .i64 (IntKind.i64.wrap ((IntKind.i64.wrap (r.next + (IntKind.i64.wrap (y1 - 6)))) + (i : Int)))] (some 29) rfl (xc_s fun ww hf => sRest_c (IntKind.i64.wrap ((IntKind.i64.wrap (r.next + (IntKind.i64.wrap (y1 - 6)))) + (i : Int))) ww ) ?_
 intro _
 refine kOD 0 [0,3,7,8,9,10,22,29] [] (.int .i64 (Int.tmod ((IntKind.i64.wrap ((IntKind.i64.wrap (r.next + (IntKind.i64.wrap (y1 - 6)))) + (i : Int))) % 4294967296) 26)) rfl (fun _ _ _ ww hr => act_bin hr.1 rfl (by kernel_rfl) (by kernel_rfl) (rem_run (by first | decide | omega) ww)) ?_
 refine kHS 2 [0,3,7,8,9,10,22,32] [(0,.v (.pointer (some ⟨g,0,none⟩))),(3,.p 0 0),(7,.v (.int .i64 (IntKind.i64.wrap (y1 - 6)))),(8,.v (.int .i64 y2)),(9,.v (.slice A1 bs.length c1)),(10,.v (.int .i64 (i : Int))),(22,.v (.slice A1 bs.length c1)),(32,.v (.int .u8 (IntKind.u8.wrap (IntKind.i64.wrap (97 + (Int.tmod ((IntKind.i64.wrap ((IntKind.i64.wrap (r.next + (IntKind.i64.wrap (y1 - 6)))) + (i : Int))) % 4294967296) 26))))))] rfl (hv_build (e := 5) (K := 1) (bytes := 1) [.int .u8 (IntKind.u8.wrap (IntKind.i64.wrap (97 + (Int.tmod ((IntKind.i64.wrap ((IntKind.i64.wrap (r.next + (IntKind.i64.wrap (y1 - 6)))) + (i : Int))) % 4294967296) 26))))] rfl (by kernel_rfl) (by kernel_rfl) (by kernel_rfl) (by kernel_rfl) (by kernel_rfl) (rs := ([IntKind.u8.wrap (IntKind.i64.wrap (97 + (Int.tmod ((IntKind.i64.wrap ((IntKind.i64.wrap (r.next + (IntKind.i64.wrap (y1 - 6)))) + (i : Int))) % 4294967296) 26)))] : List Int).map byteRow) rfl) ?_
 intro g5
 refine kHD 0 [0,3,7,8,9,10,22,33] [] rfl (hv_append (e := 5) (K := 1) (bytes := 1) (i := 1) (q := (bs ++ ([IntKind.u8.wrap (IntKind.i64.wrap (97 + (Int.tmod ((IntKind.i64.wrap ((IntKind.i64.wrap (r.next + (IntKind.i64.wrap (y1 - 6)))) + (i : Int))) % 4294967296) 26)))] : List Int)).length) (new := ([IntKind.u8.wrap (IntKind.i64.wrap (97 + (Int.tmod ((IntKind.i64.wrap ((IntKind.i64.wrap (r.next + (IntKind.i64.wrap (y1 - 6)))) + (i : Int))) % 4294967296) 26)))] : List Int).map byteRow) (rs' := (bs ++ ([IntKind.u8.wrap (IntKind.i64.wrap (97 + (Int.tmod ((IntKind.i64.wrap ((IntKind.i64.wrap (r.next + (IntKind.i64.wrap (y1 - 6)))) + (i : Int))) % 4294967296) 26)))] : List Int)).map byteRow) rfl rfl rfl rfl (by kernel_rfl) (by kernel_rfl) (by kernel_rfl) rfl (by simp) (by rw [List.map_append]) (by simp) (fun ww hf => (rowF_sl (hf (rowF (cutW w B).heap.size 5 1 (.slice (some ⟨g5,0,none⟩) 1 1) (([IntKind.u8.wrap (IntKind.i64.wrap (97 + (Int.tmod ((IntKind.i64.wrap ((IntKind.i64.wrap (r.next + (IntKind.i64.wrap (y1 - 6)))) + (i : Int))) % 4294967296) 26)))] : List Int).map byteRow)) (by simp)))) (by intro r hr; obtain ⟨x,hx,rfl⟩ := List.mem_map.1 hr; exact ⟨rfl,by simp [byteRow,Value.oneCell']⟩) (by (try simp only [List.length_map,List.length_append,List.length_cons,List.length_nil,List.length_take,List.length_drop,maxLen]); omega) (by (try simp only [List.length_map,List.length_append,List.length_cons,List.length_nil,List.length_take,List.length_drop,maxLen]); omega)) ?_
 rintro ⟨v6a,v6c⟩
 refine kED [0,3,7,8,9,10] [(9,.v (.slice v6a ((bs ++ ([IntKind.u8.wrap (IntKind.i64.wrap (97 + (Int.tmod ((IntKind.i64.wrap ((IntKind.i64.wrap (r.next + (IntKind.i64.wrap (y1 - 6)))) + (i : Int))) % 4294967296) 26)))] : List Int)).length) v6c))] ?_
 refine kG ?_
 refine kRS 3 [0,3,7,8,9,10] [(0,.v (.pointer (some ⟨g,0,none⟩))),(3,.p 0 0),(7,.v (.int .i64 (IntKind.i64.wrap (y1 - 6)))),(8,.v (.int .i64 y2)),(9,.v (.slice v6a ((bs ++ ([IntKind.u8.wrap (IntKind.i64.wrap (97 + (Int.tmod ((IntKind.i64.wrap ((IntKind.i64.wrap (r.next + (IntKind.i64.wrap (y1 - 6)))) + (i : Int))) % 4294967296) 26)))] : List Int)).length) v6c)),(10,.v (.int .i64 (IntKind.i64.wrap ((i : Int) + 1))))] ?_
 refine xl_eqS (t' := [(0,.v (.pointer (some ⟨g,0,none⟩))),(3,.p 0 0),(7,.v (.int .i64 (IntKind.i64.wrap (y1 - 6)))),(8,.v (.int .i64 y2)),(9,.v (.slice v6a ((bs ++ ([IntKind.u8.wrap (IntKind.i64.wrap (97 + (Int.tmod ((IntKind.i64.wrap ((IntKind.i64.wrap (r.next + (IntKind.i64.wrap (y1 - 6)))) + (i : Int))) % 4294967296) 26)))] : List Int)).length) v6c)),(10,.v (.int .i64 ((i : Int) + 1)))]) (by rw [show (IntKind.i64.wrap ((i : Int) + 1)) = ((i : Int) + 1) from wrap_id (by omega) (by omega)]) ?_
 refine kED [0,3,7,8,9,10] [] ?_
 exact ⟨⟨(i + 1,(bs ++ ([IntKind.u8.wrap (IntKind.i64.wrap (97 + (Int.tmod ((IntKind.i64.wrap ((IntKind.i64.wrap (r.next + (IntKind.i64.wrap (y1 - 6)))) + (i : Int))) % 4294967296) 26)))] : List Int)),v6a,v6c),⟨(by omega),(by simp [hbl])⟩⟩,(wk_pick [0,2,3,4] [rowF (cutW w B).heap.size 5 1 (.slice v6a ((bs ++ ([IntKind.u8.wrap (IntKind.i64.wrap (97 + (Int.tmod ((IntKind.i64.wrap ((IntKind.i64.wrap (r.next + (IntKind.i64.wrap (y1 - 6)))) + (i : Int))) % 4294967296) 26)))] : List Int)).length) v6c) ((bs ++ ([IntKind.u8.wrap (IntKind.i64.wrap (97 + (Int.tmod ((IntKind.i64.wrap ((IntKind.i64.wrap (r.next + (IntKind.i64.wrap (y1 - 6)))) + (i : Int))) % 4294967296) 26)))] : List Int)).map byteRow),curF B g 85 (.slice A code.length cap) code.length,slF (.slice A code.length cap) 1 (code.map byteRow),frF w (fun b => b = g)] (by kernel_rfl) (by kernel_rfl)).trans <| kF 1 0 [0,3,7,8,9,10],by show (fun (i : Nat) (bs : List Int) (A1 : Option Addr) (c1 : Nat) => (y2).toNat - i) (i + 1) (bs ++ ([IntKind.u8.wrap (IntKind.i64.wrap (97 + (Int.tmod ((IntKind.i64.wrap ((IntKind.i64.wrap (r.next + (IntKind.i64.wrap (y1 - 6)))) + (i : Int))) % 4294967296) 26)))] : List Int)) v6a v6c < (y2).toNat - i; (dsimp only; omega)⟩
 have h4p := of_decide_eq_false h4
 have hge : ¬ (i : Int) < y2 := of_decide_eq_false h4
 refine xw_exit ?_
 refine kS ?_
 refine kQ ?_
 refine kWD 1 [0,3,7,8,9,35] [(35,.v (.pointer (some ⟨g,0,none⟩)))] 63 [.pointer (some ⟨g,0,none⟩),.int .i64 6] (some 36) 1 rfl rfl hlo (l1Once_c_K hBw hap) ?_
 rintro ⟨y7,hy7⟩
 refine kED [0,3,7,8,9,36] [] ?_
 refine kC (y7) (fun h8 => ?_) (fun h8 => ?_)
 refine kG ?_
 refine kWS 2 [0,3,7,9,37,38] [(0,.v (.pointer (some ⟨g,0,none⟩))),(3,.p 0 0),(7,.v (.int .i64 (IntKind.i64.wrap (y1 - 6)))),(9,.v (.slice A1 bs.length c1)),(37,.v (.pointer (some ⟨g,0,none⟩))),(38,.v (.int .i64 y2))] 92 [.pointer (some ⟨g,0,none⟩),.int .i64 y2] (some 39) 0 rfl rfl hlo (xcm_curR fun ww hw hf => l1Bytes_c g code A cap y2 ww B (Nat.le_trans (by first | exact Nat.le_refl _ | exact Nat.le_of_eq (cutW_size hB).symm) hw) (hf (curF B g 85 (.slice A code.length cap) code.length) (by simp)) (hf _ m2) hap (by omega) (by omega)) ?_
 rintro ⟨⟨b9l,b9a,b9c⟩,hb9⟩
 dsimp only at hb9
 refine kED [0,3,7,9] [(9,.v (.slice b9a b9l.length b9c))] ?_
 refine kS ?_
 refine xe_region0 [] (by kernel_rfl) (fun ρ σ => ?_)
 refine kTS [0,1,2,4,6] [46,44,42,41] 6 [(46,.v (.pointer (some ⟨g,0,none⟩))),(44,.v (.slice b9a b9l.length b9c)),(42,.v (.int .i64 (IntKind.i64.wrap (y1 - 6)))),(41,.v (.int .i64 r.next))] ?_
 refine kA [3,5] ⟨?_,?_⟩
 refine kSC 3 69 [.int .i64 r.next,.int .i64 (IntKind.i64.wrap (y1 - 6))] (some 43) rfl (xc_s fun ww hf => sSeqAdd_c r.next (IntKind.i64.wrap (y1 - 6)) ww ) ?_
 intro _
 refine kA [5,7] ⟨?_,?_⟩
 refine kSR 5 (.string (bstr b9l)) rfl (fun _ _ ww hr => act_b2s (e := 5) b9l hr.1 rfl (by kernel_rfl) (by kernel_rfl) (by kernel_rfl) rfl (rowF_sl (hr.2.fact (rowF (cutW w B).heap.size 5 1 (.slice b9a b9l.length b9c) (b9l.map byteRow)) (by simp)).1)) ?_
 refine kA [7] ?_
 refine kSW 7 63 [.pointer (some ⟨g,0,none⟩),.int .i64 6] (some 47) 1 rfl rfl hlo (under_t under_nil) (l1Once_c_K hBw hap) ?_
 rintro ⟨y10,hy10⟩
 refine kTS [8,9,10] [6,5,4] 0 [(6,.v (.bool y10)),(5,.v (.string (bstr b9l))),(4,.v (.int .i64 (seqAdd r.next (IntKind.i64.wrap (y1 - 6)))))] ?_
 refine kZ ?_
 refine kR ?_
 exact ⟨[.int .i64 (seqAdd r.next (IntKind.i64.wrap (y1 - 6))),.string (bstr b9l),.bool y10],by kernel_rfl,fun w' hb hf => ⟨⟨(seqAdd r.next (IntKind.i64.wrap (y1 - 6)),bstr b9l,y10),(by show (bstr _).size ≤ 4096; rw [bstr_size]; omega)⟩,rfl,hf (curF B g 85 (.slice A code.length cap) code.length) (by simp),frF_chgd (hf (frF w (fun b => b = g)) (by simp)) hb rfl rfl rfl⟩⟩
 refine kSW 7 63 [.pointer (some ⟨g,0,none⟩),.int .i64 6] (some 47) 1 rfl rfl hlo (under_t under_nil) (l1Once_c_K hBw hap) ?_
 rintro ⟨y11,hy11⟩
 refine kTD [8] [4,47,44] 3 [(4,.v (.int .i64 (seqAdd r.next (IntKind.i64.wrap (y1 - 6))))),(47,.v (.bool y11))] ?_
 refine kA [5] ?_
 refine kSR 5 (.string (bstr b9l)) rfl (fun _ _ ww hr => act_b2s (e := 5) b9l hr.1 rfl (by kernel_rfl) (by kernel_rfl) (by kernel_rfl) rfl (rowF_sl (hr.2.fact (rowF (cutW w B).heap.size 5 1 (.slice b9a b9l.length b9c) (b9l.map byteRow)) (by simp)).1)) ?_
 refine kTD [9,10] [6,5,4] 0 [(6,.v (.bool y11)),(5,.v (.string (bstr b9l)))] ?_
 refine kZ ?_
 refine kR ?_
 exact ⟨[.int .i64 (seqAdd r.next (IntKind.i64.wrap (y1 - 6))),.string (bstr b9l),.bool y11],by kernel_rfl,fun w' hb hf => ⟨⟨(seqAdd r.next (IntKind.i64.wrap (y1 - 6)),bstr b9l,y11),(by show (bstr _).size ≤ 4096; rw [bstr_size]; omega)⟩,rfl,hf (curF B g 85 (.slice A code.length cap) code.length) (by simp),frF_chgd (hf (frF w (fun b => b = g)) (by simp)) hb rfl rfl rfl⟩⟩
 refine kSR 5 (.string (bstr b9l)) rfl (fun _ _ ww hr => act_b2s (e := 5) b9l hr.1 rfl (by kernel_rfl) (by kernel_rfl) (by kernel_rfl) rfl (rowF_sl (hr.2.fact (rowF (cutW w B).heap.size 5 1 (.slice b9a b9l.length b9c) (b9l.map byteRow)) (by simp)).1)) ?_
 refine kA [3] ?_
 refine kSC 3 69 [.int .i64 r.next,.int .i64 (IntKind.i64.wrap (y1 - 6))] (some 43) rfl (xc_s fun ww hf => sSeqAdd_c r.next (IntKind.i64.wrap (y1 - 6)) ww ) ?_
 intro _
 refine kA [7] ?_
 refine kSW 7 63 [.pointer (some ⟨g,0,none⟩),.int .i64 6] (some 47) 1 rfl rfl hlo (under_t under_nil) (l1Once_c_K hBw hap) ?_
 rintro ⟨y12,hy12⟩
 refine kTS [8,9,10] [6,5,4] 0 [(6,.v (.bool y12)),(5,.v (.string (bstr b9l))),(4,.v (.int .i64 (seqAdd r.next (IntKind.i64.wrap (y1 - 6)))))] ?_
 refine kZ ?_
 refine kR ?_
 exact ⟨[.int .i64 (seqAdd r.next (IntKind.i64.wrap (y1 - 6))),.string (bstr b9l),.bool y12],by kernel_rfl,fun w' hb hf => ⟨⟨(seqAdd r.next (IntKind.i64.wrap (y1 - 6)),bstr b9l,y12),(by show (bstr _).size ≤ 4096; rw [bstr_size]; omega)⟩,rfl,hf (curF B g 85 (.slice A code.length cap) code.length) (by simp),frF_chgd (hf (frF w (fun b => b = g)) (by simp)) hb rfl rfl rfl⟩⟩
 refine kK ?_
 refine kS ?_
 refine xe_region0 [] (by kernel_rfl) (fun ρ σ => ?_)
 refine kTS [0,1,2,4,6] [46,44,42,41] 6 [(46,.v (.pointer (some ⟨g,0,none⟩))),(44,.v (.slice A1 bs.length c1)),(42,.v (.int .i64 (IntKind.i64.wrap (y1 - 6)))),(41,.v (.int .i64 r.next))] ?_
 refine kA [3,5] ⟨?_,?_⟩
 refine kSC 3 69 [.int .i64 r.next,.int .i64 (IntKind.i64.wrap (y1 - 6))] (some 43) rfl (xc_s fun ww hf => sSeqAdd_c r.next (IntKind.i64.wrap (y1 - 6)) ww ) ?_
 intro _
 refine kA [5,7] ⟨?_,?_⟩
 refine kSR 5 (.string (bstr bs)) rfl (fun _ _ ww hr => act_b2s (e := 5) bs hr.1 rfl (by kernel_rfl) (by kernel_rfl) (by kernel_rfl) rfl (rowF_sl (hr.2.fact (rowF (cutW w B).heap.size 5 1 (.slice A1 bs.length c1) (bs.map byteRow)) (by simp)).1)) ?_
 refine kA [7] ?_
 refine kSW 7 63 [.pointer (some ⟨g,0,none⟩),.int .i64 6] (some 47) 0 rfl rfl hlo (under_t under_nil) (l1Once_c_K hBw hap) ?_
 rintro ⟨y13,hy13⟩
 refine kTS [8,9,10] [6,5,4] 0 [(6,.v (.bool y13)),(5,.v (.string (bstr bs))),(4,.v (.int .i64 (seqAdd r.next (IntKind.i64.wrap (y1 - 6)))))] ?_
 refine kZ ?_
 refine kR ?_
 exact ⟨[.int .i64 (seqAdd r.next (IntKind.i64.wrap (y1 - 6))),.string (bstr bs),.bool y13],by kernel_rfl,fun w' hb hf => ⟨⟨(seqAdd r.next (IntKind.i64.wrap (y1 - 6)),bstr bs,y13),(by show (bstr _).size ≤ 4096; rw [bstr_size]; omega)⟩,rfl,hf (curF B g 85 (.slice A code.length cap) code.length) (by simp),frF_chgd (hf (frF w (fun b => b = g)) (by simp)) hb rfl rfl rfl⟩⟩
 refine kSW 7 63 [.pointer (some ⟨g,0,none⟩),.int .i64 6] (some 47) 0 rfl rfl hlo (under_t under_nil) (l1Once_c_K hBw hap) ?_
 rintro ⟨y14,hy14⟩
 refine kTD [8] [4,47,44] 3 [(4,.v (.int .i64 (seqAdd r.next (IntKind.i64.wrap (y1 - 6))))),(47,.v (.bool y14))] ?_
 refine kA [5] ?_
 refine kSR 5 (.string (bstr bs)) rfl (fun _ _ ww hr => act_b2s (e := 5) bs hr.1 rfl (by kernel_rfl) (by kernel_rfl) (by kernel_rfl) rfl (rowF_sl (hr.2.fact (rowF (cutW w B).heap.size 5 1 (.slice A1 bs.length c1) (bs.map byteRow)) (by simp)).1)) ?_
 refine kTD [9,10] [6,5,4] 0 [(6,.v (.bool y14)),(5,.v (.string (bstr bs)))] ?_
 refine kZ ?_
 refine kR ?_
 exact ⟨[.int .i64 (seqAdd r.next (IntKind.i64.wrap (y1 - 6))),.string (bstr bs),.bool y14],by kernel_rfl,fun w' hb hf => ⟨⟨(seqAdd r.next (IntKind.i64.wrap (y1 - 6)),bstr bs,y14),(by show (bstr _).size ≤ 4096; rw [bstr_size]; omega)⟩,rfl,hf (curF B g 85 (.slice A code.length cap) code.length) (by simp),frF_chgd (hf (frF w (fun b => b = g)) (by simp)) hb rfl rfl rfl⟩⟩
 refine kSR 5 (.string (bstr bs)) rfl (fun _ _ ww hr => act_b2s (e := 5) bs hr.1 rfl (by kernel_rfl) (by kernel_rfl) (by kernel_rfl) rfl (rowF_sl (hr.2.fact (rowF (cutW w B).heap.size 5 1 (.slice A1 bs.length c1) (bs.map byteRow)) (by simp)).1)) ?_
 refine kA [3] ?_
 refine kSC 3 69 [.int .i64 r.next,.int .i64 (IntKind.i64.wrap (y1 - 6))] (some 43) rfl (xc_s fun ww hf => sSeqAdd_c r.next (IntKind.i64.wrap (y1 - 6)) ww ) ?_
 intro _
 refine kA [7] ?_
 refine kSW 7 63 [.pointer (some ⟨g,0,none⟩),.int .i64 6] (some 47) 0 rfl rfl hlo (under_t under_nil) (l1Once_c_K hBw hap) ?_
 rintro ⟨y15,hy15⟩
 refine kTS [8,9,10] [6,5,4] 0 [(6,.v (.bool y15)),(5,.v (.string (bstr bs))),(4,.v (.int .i64 (seqAdd r.next (IntKind.i64.wrap (y1 - 6)))))] ?_
 refine kZ ?_
 refine kR ?_
 exact ⟨[.int .i64 (seqAdd r.next (IntKind.i64.wrap (y1 - 6))),.string (bstr bs),.bool y15],by kernel_rfl,fun w' hb hf => ⟨⟨(seqAdd r.next (IntKind.i64.wrap (y1 - 6)),bstr bs,y15),(by show (bstr _).size ≤ 4096; rw [bstr_size]; omega)⟩,rfl,hf (curF B g 85 (.slice A code.length cap) code.length) (by simp),frF_chgd (hf (frF w (fun b => b = g)) (by simp)) hb rfl rfl rfl⟩⟩
theorem l18Stream_c_K {g : Nat} {code : List Int} {A : Option Addr} {cap : Nat} {r : Rcv} {r_heldV : Value} {w0 : World} {fs : List Fact} {B : Nat} (hB : B ≤ w0.heap.size) (hap : ¬ (slF (.slice A code.length cap) 1 (code.map byteRow)).blk g)  (hn : code.length ≤ 1048576 := by omega) (h1 : curF B g 85 (.slice A code.length cap) code.length ∈ fs := by simp) (h2 : slF (.slice A code.length cap) 1 (code.map byteRow) ∈ fs := by simp) : XCM Try.prog w0 fs (curF B g 85 (.slice A code.length cap) code.length).blk 62 [.pointer (some ⟨g, 0, none⟩), .agg (rcvL r r_heldV).toArray] (α := {y : Int × ByteArray × Bool // y.2.1.size ≤ 4096}) (fun y => .tuple #[.int .i64 y.1.1, .string y.1.2.1, .bool y.1.2.2]) (fun _ => [curF B g 85 (.slice A code.length cap) code.length]) := xcm_cur fun w hw hf => l18Stream_c g code A cap r r_heldV w B (Nat.le_trans hB hw) (hf _ h1) (hf _ h2) hap hn  
theorem l18Receiver_c (g : Nat) (code : List Int) (A : Option Addr) (cap : Nat) (w : World) (B : Nat) (hB : B ≤ w.heap.size) (hc : (curF B g 85 (.slice A code.length cap) code.length).p w) (hl : Sl w (.slice A code.length cap) 1 (code.map byteRow)) (hap : ¬ (slF (.slice A code.length cap) 1 (code.map byteRow)).blk g) (hn : code.length ≤ 1048576) : Calls Try.prog 72 #[.pointer (some ⟨g, 0, none⟩)] w fun e w' => ∃ y : {y : Rcv × (Option Addr × Nat) // RB 3 y.1}, e = .returned (.agg (rcvL y.1.1 (.slice y.1.2.1 y.1.1.held.length y.1.2.2)).toArray) ∧ (curF B g 85 (.slice A code.length cap) code.length).p w' ∧ (rowF w.heap.size 65 2 (.slice y.1.2.1 y.1.1.held.length y.1.2.2) (y.1.1.held.map pceCells)).p w' ∧ g < w.heap.size ∧ Chgd (fun b => b = g) w w' := by
 have hq_code := Sl.capLe hl
 have hBw : B ≤ (cutW w B).heap.size := Nat.le_of_eq (cutW_size hB).symm
 have hlo : ∀ (ww : World) (b : Nat),(curF B g 85 (.slice A code.length cap) code.length).p ww → (curF B g 85 (.slice A code.length cap) code.length).blk b → (cutW w B).heap.size ≤ b := fun ww b h hb => Nat.le_trans (cutW_le w B) (cur_lo h hb)
 refine x_callsMA (args := [.pointer (some ⟨g,0,none⟩)]) (fn := Try.f72) [curF B g 85 (.slice A code.length cap) code.length,slF (.slice A code.length cap) 1 (code.map byteRow),frF w (fun b => b = g)] B Try.func72 rfl Try.ntmps72 rfl hB (by simp only [List.mem_cons,List.not_mem_nil,or_false,forall_eq_or_imp,forall_eq]; exact ⟨hc,hl,frF_start w _⟩) (apart_cur hap rfl) ?_
 have hgl : g < w.heap.size := (curF B g 85 (.slice A code.length cap) code.length).lt w g hc rfl
 refine kQ ?_
 refine kEF [0,2] ⟨[(0,.v (.pointer (some ⟨g,0,none⟩))),(2,.p 0 0)],[⟨26,rcvZ⟩],[],[curF B g 85 (.slice A code.length cap) code.length,slF (.slice A code.length cap) 1 (code.map byteRow),frF w (fun b => b = g)]⟩ ?_
 refine kQ ?_
 refine kWD 1 [0,2,9] [(9,.v (.pointer (some ⟨g,0,none⟩)))] 94 [.pointer (some ⟨g,0,none⟩)] (some 10) 0 rfl rfl hlo (l2Deep_c_K hBw hap) ?_
 rintro ⟨y1,hy1⟩
 refine kCD 0 [0,2,10] [] 96 [.int .i64 y1] (some 11) rfl (xc_r fun ww hw hf => ysReceiverNew_c y1 ww   ((cutW w B).heap.size) hw) ?_
 rintro ⟨v2a,v2c⟩
 refine kEA [0,2,3] [(3,.p 1 0)] [⟨26,rcvL (receiverNew y1) (.slice v2a ((receiverNew y1).held.length) v2c)⟩] ?_
 refine kQ ?_
 refine kWD 1 [0,2,3,12] [(12,.v (.pointer (some ⟨g,0,none⟩)))] 45 [.pointer (some ⟨g,0,none⟩),.int .i64 7] (some 13) 1 rfl rfl hlo (l1Below_c_K hBw hap) ?_
 rintro ⟨y3,hy3⟩
 obtain ⟨hy30,hy31⟩ := hy3
 refine kED [0,2,3,4] [(4,.v (.int .i64 y3))] ?_
 refine kS ?_
 refine kQ ?_
 refine kED [0,2,3,4,5] [(5,.v (.int .i64 0))] ?_
 refine xw_block ?_
 refine xw_loopW (α := {x : Nat × Rcv × Option Addr × Nat // (fun (i : Nat) (r : Rcv) (A1 : Option Addr) (c1 : Nat) => (i : Int) ≤ y3 ∧ RB 3 r) x.1 x.2.1 x.2.2.1 x.2.2.2}) (fun x => (fun (i : Nat) (r : Rcv) (A1 : Option Addr) (c1 : Nat) => (⟨[(0,.v (.pointer (some ⟨g,0,none⟩))),(2,.p 0 0),(3,.p 1 0),(4,.v (.int .i64 y3)),(5,.v (.int .i64 (i : Int)))],[⟨26,rcvZ⟩,⟨26,rcvL r (.slice A1 r.held.length c1)⟩],[],[rowF (cutW w B).heap.size 65 2 (.slice A1 r.held.length c1) (r.held.map pceCells),curF B g 85 (.slice A code.length cap) code.length,slF (.slice A code.length cap) 1 (code.map byteRow),frF w (fun b => b = g)]⟩ : St)) x.1.1 x.1.2.1 x.1.2.2.1 x.1.2.2.2) (fun x => (fun (i : Nat) (r : Rcv) (A1 : Option Addr) (c1 : Nat) => (y3).toNat - i) x.1.1 x.1.2.1 x.1.2.2.1 x.1.2.2.2) ⟨(0,(receiverNew y1),v2a,v2c),⟨(by omega),RB.new _⟩⟩ ((wk_pick [1,0,2,3] [rowF (cutW w B).heap.size 65 2 (.slice v2a ((receiverNew y1).held.length) v2c) ((receiverNew y1).held.map pceCells),curF B g 85 (.slice A code.length cap) code.length,slF (.slice A code.length cap) 1 (code.map byteRow),frF w (fun b => b = g)] (by kernel_rfl) (by kernel_rfl)).trans <| kF 2 0 [0,2,3,4,5]) ?_
 rintro ⟨⟨i,r,A1,c1⟩,hi,hrb⟩
 try dsimp only
 try dsimp only at hi hrb
 have hkn := hrb.up.kn; have hm := hrb.hm; have hsz := hrb.sz
 refine kS ?_
 refine kQ ?_
 refine kED [0,2,3,4,5,16] [(16,.v (.bool (decide ((i : Int) < y3))))] ?_
 refine kC (decide ((i : Int) < y3)) (fun h4 => ?_) (fun h4 => ?_)
 have h4p := of_decide_eq_true h4
 have hlt :  (i : Int) < y3 := of_decide_eq_true h4
 refine kK ?_
 refine kS ?_
 refine xw_block ?_
 refine kQ ?_
 refine kWD 2 [0,2,3,4,5,20,21] [(20,.v (.pointer (some ⟨g,0,none⟩))),(21,.v (.agg (rcvL r (.slice A1 r.held.length c1)).toArray))] 62 [.pointer (some ⟨g,0,none⟩),.agg (rcvL r (.slice A1 r.held.length c1)).toArray] (some 22) 1 rfl rfl hlo (l18Stream_c_K hBw hap) ?_
 rintro ⟨y5,hy5⟩
 refine kED [0,2,3,4,5,6,7,8] [(6,.v (.int .i64 y5.1)),(7,.v (.string y5.2.1)),(8,.v (.bool y5.2.2))] ?_
 refine kQ ?_
 refine kCD 4 [0,2,3,4,5,26,27,28,29] [(26,.v (.agg (rcvL r (.slice A1 r.held.length c1)).toArray)),(27,.v (.int .i64 y5.1)),(28,.v (.string y5.2.1)),(29,.v (.bool y5.2.2))] 31 [.agg (rcvL r (.slice A1 r.held.length c1)).toArray,.int .i64 y5.1,.string y5.2.1,.bool y5.2.2] (some 30) rfl (xc_r fun ww hw hf => ysArrived_c r (.slice A1 r.held.length c1) y5.1 y5.2.1 y5.2.2 ww (rowF_sl (hf _ m1)) (by assumption) (by assumption) (by omega) (by omega) ((cutW w B).heap.size) hw) ?_
 rintro ⟨v6a,v6c⟩
 have hra := RB.arr hrb (by omega) y5.1 y5.2.1 y5.2.2; have hka := hra.up.kn; have hma := hra.hm; have hza := hra.sz
 refine kEF [0,2,3,4,5] ⟨[(0,.v (.pointer (some ⟨g,0,none⟩))),(2,.p 0 0),(3,.p 1 0),(4,.v (.int .i64 y3)),(5,.v (.int .i64 (i : Int)))],[⟨26,rcvZ⟩,⟨26,rcvL (arrived r y5.1 y5.2.1 y5.2.2) (.slice v6a ((arrived r y5.1 y5.2.1 y5.2.2).held.length) v6c)⟩],[],[rowF (cutW w B).heap.size 65 2 (.slice v6a ((arrived r y5.1 y5.2.1 y5.2.2).held.length) v6c) ((arrived r y5.1 y5.2.1 y5.2.2).held.map pceCells),curF B g 85 (.slice A code.length cap) code.length,rowF (cutW w B).heap.size 65 2 (.slice A1 r.held.length c1) (r.held.map pceCells),slF (.slice A code.length cap) 1 (code.map byteRow),frF w (fun b => b = g)]⟩ ?_
 refine kQ ?_
 refine kWD 1 [0,2,3,4,5,31] [(31,.v (.pointer (some ⟨g,0,none⟩)))] 63 [.pointer (some ⟨g,0,none⟩),.int .i64 3] (some 32) 1 rfl rfl hlo (l1Once_c_K hBw hap) ?_
 rintro ⟨y7,hy7⟩
 refine kED [0,2,3,4,5,32] [] ?_
 refine kC (y7) (fun h8 => ?_) (fun h8 => ?_)
 refine xe_region0 [true,false] (by kernel_rfl) (fun ρ σ => ?_)
 refine kTD [1] [35,0,2,3,4,5] 7 [(35,.v (.pointer (some ⟨g,0,none⟩)))] ?_
 refine kA [0,2] ⟨?_,?_⟩
 refine kSV 0 (.v (.agg (rcvL (arrived r y5.1 y5.2.1 y5.2.2) (.slice v6a ((arrived r y5.1 y5.2.1 y5.2.2).held.length) v6c)).toArray)) rfl ?_
 refine kA [2] ?_
 refine kSW 2 45 [.pointer (some ⟨g,0,none⟩),.int .i64 20] (some 36) 0 rfl rfl hlo (under_t (under_f rfl under_nil)) (l1Below_c_K hBw hap) ?_
 rintro ⟨y9,hy9⟩
 obtain ⟨hy90,hy91⟩ := hy9
 refine kA [3] ?_
 refine kSC 3 11 [.agg (rcvL (arrived r y5.1 y5.2.1 y5.2.2) (.slice v6a ((arrived r y5.1 y5.2.1 y5.2.2).held.length) v6c)).toArray,.int .i64 y9] (some 37) rfl (xc_r fun ww hw hf => ysTakenIn_c (arrived r y5.1 y5.2.1 y5.2.2) (.slice v6a ((arrived r y5.1 y5.2.1 y5.2.2).held.length) v6c) y9 ww (rowF_sl (hf _ m1)) (by assumption) (by assumption) (by omega) ((cutW w B).heap.size) hw) ?_
 rintro ⟨v10a,v10c⟩
 refine kTD [4,5,6] [38,0,2,3,4,5] 1 [(38,.v (.agg (rcvL (takenIn (arrived r y5.1 y5.2.1 y5.2.2) y9).1 (.slice v10a ((takenIn (arrived r y5.1 y5.2.1 y5.2.2) y9).1.held.length) v10c)).toArray))] ?_
 refine kA [7] ?_
 refine kSS 7 1 0 (rcvL (takenIn (arrived r y5.1 y5.2.1 y5.2.2) y9).1 (.slice v10a ((takenIn (arrived r y5.1 y5.2.1 y5.2.2) y9).1.held.length) v10c)) rfl ?_
 refine kZ ?_
 refine kG ?_
 refine kRS 3 [0,2,3,4,5] [(0,.v (.pointer (some ⟨g,0,none⟩))),(2,.p 0 0),(3,.p 1 0),(4,.v (.int .i64 y3)),(5,.v (.int .i64 (IntKind.i64.wrap ((i : Int) + 1))))] ?_
 refine xl_eqS (t' := [(0,.v (.pointer (some ⟨g,0,none⟩))),(2,.p 0 0),(3,.p 1 0),(4,.v (.int .i64 y3)),(5,.v (.int .i64 ((i : Int) + 1)))]) (by rw [show (IntKind.i64.wrap ((i : Int) + 1)) = ((i : Int) + 1) from wrap_id (by omega) (by omega)]) ?_
 refine kED [0,2,3,4,5] [] ?_
 exact ⟨⟨(i + 1,(takenIn (arrived r y5.1 y5.2.1 y5.2.2) y9).1,v10a,v10c),⟨(by omega),(by first | exact hra | exact RB.taken hra _ | exact hrb)⟩⟩,(wk_pick [0,1,4,5] [rowF (cutW w B).heap.size 65 2 (.slice v10a ((takenIn (arrived r y5.1 y5.2.1 y5.2.2) y9).1.held.length) v10c) ((takenIn (arrived r y5.1 y5.2.1 y5.2.2) y9).1.held.map pceCells),curF B g 85 (.slice A code.length cap) code.length,slF (.slice A code.length cap) 1 (code.map byteRow),frF w (fun b => b = g)] (by kernel_rfl) (by kernel_rfl)).trans <| kF 2 0 [0,2,3,4,5],by show (fun (i : Nat) (r : Rcv) (A1 : Option Addr) (c1 : Nat) => (y3).toNat - i) (i + 1) ((takenIn (arrived r y5.1 y5.2.1 y5.2.2) y9).1) v10a v10c < (y3).toNat - i; (dsimp only; omega)⟩
 refine kSW 2 45 [.pointer (some ⟨g,0,none⟩),.int .i64 20] (some 36) 0 rfl rfl hlo (under_t (under_f rfl under_nil)) (l1Below_c_K hBw hap) ?_
 rintro ⟨y11,hy11⟩
 obtain ⟨hy110,hy111⟩ := hy11
 refine kA [0] ?_
 refine kSV 0 (.v (.agg (rcvL (arrived r y5.1 y5.2.1 y5.2.2) (.slice v6a ((arrived r y5.1 y5.2.1 y5.2.2).held.length) v6c)).toArray)) rfl ?_
 refine kA [3] ?_
 refine kSC 3 11 [.agg (rcvL (arrived r y5.1 y5.2.1 y5.2.2) (.slice v6a ((arrived r y5.1 y5.2.1 y5.2.2).held.length) v6c)).toArray,.int .i64 y11] (some 37) rfl (xc_r fun ww hw hf => ysTakenIn_c (arrived r y5.1 y5.2.1 y5.2.2) (.slice v6a ((arrived r y5.1 y5.2.1 y5.2.2).held.length) v6c) y11 ww (rowF_sl (hf _ m1)) (by assumption) (by assumption) (by omega) ((cutW w B).heap.size) hw) ?_
 rintro ⟨v12a,v12c⟩
 refine kTD [4,5,6] [38,0,2,3,4,5] 1 [(38,.v (.agg (rcvL (takenIn (arrived r y5.1 y5.2.1 y5.2.2) y11).1 (.slice v12a ((takenIn (arrived r y5.1 y5.2.1 y5.2.2) y11).1.held.length) v12c)).toArray))] ?_
 refine kA [7] ?_
 refine kSS 7 1 0 (rcvL (takenIn (arrived r y5.1 y5.2.1 y5.2.2) y11).1 (.slice v12a ((takenIn (arrived r y5.1 y5.2.1 y5.2.2) y11).1.held.length) v12c)) rfl ?_
 refine kZ ?_
 refine kG ?_
 refine kRS 3 [0,2,3,4,5] [(0,.v (.pointer (some ⟨g,0,none⟩))),(2,.p 0 0),(3,.p 1 0),(4,.v (.int .i64 y3)),(5,.v (.int .i64 (IntKind.i64.wrap ((i : Int) + 1))))] ?_
 refine xl_eqS (t' := [(0,.v (.pointer (some ⟨g,0,none⟩))),(2,.p 0 0),(3,.p 1 0),(4,.v (.int .i64 y3)),(5,.v (.int .i64 ((i : Int) + 1)))]) (by rw [show (IntKind.i64.wrap ((i : Int) + 1)) = ((i : Int) + 1) from wrap_id (by omega) (by omega)]) ?_
 refine kED [0,2,3,4,5] [] ?_
 exact ⟨⟨(i + 1,(takenIn (arrived r y5.1 y5.2.1 y5.2.2) y11).1,v12a,v12c),⟨(by omega),(by first | exact hra | exact RB.taken hra _ | exact hrb)⟩⟩,(wk_pick [0,1,4,5] [rowF (cutW w B).heap.size 65 2 (.slice v12a ((takenIn (arrived r y5.1 y5.2.1 y5.2.2) y11).1.held.length) v12c) ((takenIn (arrived r y5.1 y5.2.1 y5.2.2) y11).1.held.map pceCells),curF B g 85 (.slice A code.length cap) code.length,slF (.slice A code.length cap) 1 (code.map byteRow),frF w (fun b => b = g)] (by kernel_rfl) (by kernel_rfl)).trans <| kF 2 0 [0,2,3,4,5],by show (fun (i : Nat) (r : Rcv) (A1 : Option Addr) (c1 : Nat) => (y3).toNat - i) (i + 1) ((takenIn (arrived r y5.1 y5.2.1 y5.2.2) y11).1) v12a v12c < (y3).toNat - i; (dsimp only; omega)⟩
 refine kK ?_
 refine kG ?_
 refine kRS 3 [0,2,3,4,5] [(0,.v (.pointer (some ⟨g,0,none⟩))),(2,.p 0 0),(3,.p 1 0),(4,.v (.int .i64 y3)),(5,.v (.int .i64 (IntKind.i64.wrap ((i : Int) + 1))))] ?_
 refine xl_eqS (t' := [(0,.v (.pointer (some ⟨g,0,none⟩))),(2,.p 0 0),(3,.p 1 0),(4,.v (.int .i64 y3)),(5,.v (.int .i64 ((i : Int) + 1)))]) (by rw [show (IntKind.i64.wrap ((i : Int) + 1)) = ((i : Int) + 1) from wrap_id (by omega) (by omega)]) ?_
 refine kED [0,2,3,4,5] [] ?_
 exact ⟨⟨(i + 1,(arrived r y5.1 y5.2.1 y5.2.2),v6a,v6c),⟨(by omega),(by first | exact hra | exact RB.taken hra _ | exact hrb)⟩⟩,(wk_pick [1,0,3,4] [rowF (cutW w B).heap.size 65 2 (.slice v6a ((arrived r y5.1 y5.2.1 y5.2.2).held.length) v6c) ((arrived r y5.1 y5.2.1 y5.2.2).held.map pceCells),curF B g 85 (.slice A code.length cap) code.length,slF (.slice A code.length cap) 1 (code.map byteRow),frF w (fun b => b = g)] (by kernel_rfl) (by kernel_rfl)).trans <| kF 2 0 [0,2,3,4,5],by show (fun (i : Nat) (r : Rcv) (A1 : Option Addr) (c1 : Nat) => (y3).toNat - i) (i + 1) (arrived r y5.1 y5.2.1 y5.2.2) v6a v6c < (y3).toNat - i; (dsimp only; omega)⟩
 have h4p := of_decide_eq_false h4
 have hge : ¬ (i : Int) < y3 := of_decide_eq_false h4
 refine xw_exit ?_
 refine kQ ?_
 refine kEU [2] [(2,.p 0 0)] 0 ⟨26,rcvL r (.slice A1 r.held.length c1)⟩ ?_
 refine kR ?_
 exact ⟨[.agg (rcvL r (.slice A1 r.held.length c1)).toArray],by kernel_rfl,fun w' hb hf ha => ⟨⟨(r,A1,c1),hrb⟩,rfl,hf (curF B g 85 (.slice A code.length cap) code.length) (by simp),rowF_raise (hf (rowF (cutW w B).heap.size 65 2 (.slice A1 r.held.length c1) (r.held.map pceCells)) (by simp)) (own_new ha (i := 0) (j := 1) (k := 3) rfl rfl rfl rfl (by decide) (by decide)),hgl,frF_chgd (hf (frF w (fun b => b = g)) (by simp)) hb rfl rfl rfl⟩⟩
theorem l18Bent_c (g : Nat) (code : List Int) (A : Option Addr) (cap : Nat) (w : World) (B : Nat) (hB : B ≤ w.heap.size) (hc : (curF B g 85 (.slice A code.length cap) code.length).p w) (hl : Sl w (.slice A code.length cap) 1 (code.map byteRow)) (hap : ¬ (slF (.slice A code.length cap) 1 (code.map byteRow)).blk g) (hn : code.length ≤ 1048576) : Calls Try.prog 34 #[.pointer (some ⟨g, 0, none⟩)] w fun e w' => ∃ y : {y : Rcv × (Option Addr × Nat) // RB 4 y.1}, e = .returned (.agg (rcvL y.1.1 (.slice y.1.2.1 y.1.1.held.length y.1.2.2)).toArray) ∧ (curF B g 85 (.slice A code.length cap) code.length).p w' ∧ (rowF w.heap.size 65 2 (.slice y.1.2.1 y.1.1.held.length y.1.2.2) (y.1.1.held.map pceCells)).p w' ∧ g < w.heap.size ∧ Chgd (fun b => b = g) w w' := by
 have hq_code := Sl.capLe hl
 have hBw : B ≤ (cutW w B).heap.size := Nat.le_of_eq (cutW_size hB).symm
 have hlo : ∀ (ww : World) (b : Nat),(curF B g 85 (.slice A code.length cap) code.length).p ww → (curF B g 85 (.slice A code.length cap) code.length).blk b → (cutW w B).heap.size ≤ b := fun ww b h hb => Nat.le_trans (cutW_le w B) (cur_lo h hb)
 refine x_callsMA (args := [.pointer (some ⟨g,0,none⟩)]) (fn := Try.f34) [curF B g 85 (.slice A code.length cap) code.length,slF (.slice A code.length cap) 1 (code.map byteRow),frF w (fun b => b = g)] B Try.func34 rfl Try.ntmps34 rfl hB (by simp only [List.mem_cons,List.not_mem_nil,or_false,forall_eq_or_imp,forall_eq]; exact ⟨hc,hl,frF_start w _⟩) (apart_cur hap rfl) ?_
 have hgl : g < w.heap.size := (curF B g 85 (.slice A code.length cap) code.length).lt w g hc rfl
 refine kQ ?_
 refine kEF [0,2] ⟨[(0,.v (.pointer (some ⟨g,0,none⟩))),(2,.p 0 0)],[⟨26,rcvZ⟩],[],[curF B g 85 (.slice A code.length cap) code.length,slF (.slice A code.length cap) 1 (code.map byteRow),frF w (fun b => b = g)]⟩ ?_
 refine kQ ?_
 refine kWD 1 [0,2,4] [(4,.v (.pointer (some ⟨g,0,none⟩)))] 72 [.pointer (some ⟨g,0,none⟩)] (some 5) 0 rfl rfl hlo (xcm_curR fun ww hw hf => l18Receiver_c g code A cap ww B (Nat.le_trans (by first | exact Nat.le_refl _ | exact Nat.le_of_eq (cutW_size hB).symm) hw) (hf (curF B g 85 (.slice A code.length cap) code.length) (by simp)) (hf _ m1) hap (by omega)) ?_
 rintro ⟨⟨b1m,b1a,b1c⟩,hb1⟩
 dsimp only at hb1
 have hb1n := hb1.1
 refine kEA [0,2,3] [(3,.p 1 0)] [⟨26,rcvL b1m (.slice b1a b1m.held.length b1c)⟩] ?_
 refine kS ?_
 refine xw_joinF (α := {zz : Rcv × Option Addr × Nat // (fun (q : Rcv) (A3 : Option Addr) (c3 : Nat) => RB 4 q) zz.1 zz.2.1 zz.2.2}) (fun zz => (fun (q : Rcv) (A3 : Option Addr) (c3 : Nat) => (⟨[(2,.p 0 0),(3,.p 1 0)],[⟨26,rcvZ⟩,⟨26,rcvL q (.slice A3 q.held.length c3)⟩],[],[rowF (cutW w B).heap.size 65 2 (.slice A3 q.held.length c3) (q.held.map pceCells),curF B g 85 (.slice A code.length cap) code.length,slF (.slice A code.length cap) 1 (code.map byteRow),frF w (fun b => b = g)]⟩ : St)) zz.1.1 zz.1.2.1 zz.1.2.2) ?_ ?_
 refine kQ ?_
 refine kWD 1 [0,2,3,6] [(6,.v (.pointer (some ⟨g,0,none⟩)))] 45 [.pointer (some ⟨g,0,none⟩),.int .i64 12] (some 7) 1 rfl rfl hlo (l1Below_c_K hBw hap) ?_
 rintro ⟨y2,hy2⟩
 obtain ⟨hy20,hy21⟩ := hy2
 refine kED [0,2,3,7] [] ?_
 refine xw_block ?_
 refine kQ ?_
 refine kED [0,2,3,7,8] [(8,.v (.bool (y2 == 0)))] ?_
 refine kC (y2 == 0) (fun h3 => ?_) (fun h3 => ?_)
 have h3p := eqT h3
 refine kG ?_
 refine kWD 1 [2,3,10] [(10,.v (.pointer (some ⟨g,0,none⟩)))] 73 [.pointer (some ⟨g,0,none⟩)] (some 11) 0 rfl rfl hlo (l2Word_c_K hBw hap) ?_
 rintro ⟨y4,hy4⟩
 refine kEU [2,3] [] 1 ⟨26,rcvL { b1m with next := y4 } (.slice b1a b1m.held.length b1c)⟩ ?_
 exact ⟨⟨({ b1m with next := y4 },b1a,b1c),⟨Nat.le_trans hb1.1 (by decide),hb1.2.1,hb1.2.2⟩⟩,(wk_pick [1,0,2,3] [rowF (cutW w B).heap.size 65 2 (.slice b1a b1m.held.length b1c) (b1m.held.map pceCells),curF B g 85 (.slice A code.length cap) code.length,slF (.slice A code.length cap) 1 (code.map byteRow),frF w (fun b => b = g)] (by kernel_rfl) (by kernel_rfl)).trans <| kF 2 0 [2,3]⟩
 have h3p := eqF h3
 refine kQ ?_
 refine kED [0,2,3,7,13] [(13,.v (.bool (y2 == 1)))] ?_
 refine kC (y2 == 1) (fun h5 => ?_) (fun h5 => ?_)
 have h5p := eqT h5
 refine kG ?_
 refine kHD 1 [2,3,15] [(15,.v (.pointer (some ⟨g,0,none⟩)))] rfl (hv_build (e := 3) (K := 1) (bytes := 8) [.int .i64 (-2),.int .i64 (-1),.int .i64 0,.int .i64 5,.int .i64 32,.int .i64 33] rfl (by kernel_rfl) (by kernel_rfl) (by kernel_rfl) (by kernel_rfl) (by kernel_rfl) (rs := ([(-2),(-1),0,5,32,33] : List Int).map intRow) rfl) ?_
 intro g6
 refine xl_know (φ := ¬ (slF (.slice (some ⟨g6,0,none⟩) 6 6) 1 (([(-2),(-1),0,5,32,33] : List Int).map intRow)).blk g) (fun _ _ _ _ hr => fun hb => hr.2.apart 0 1 (rowF (cutW w B).heap.size 3 1 (.slice (some ⟨g6,0,none⟩) 6 6) (([(-2),(-1),0,5,32,33] : List Int).map intRow)) (curF B g 85 (.slice A code.length cap) code.length) rfl rfl (by decide) rfl g (rowF_sblk hb) rfl) (fun hk7 => ?_)
 refine kWD 0 [2,3,15,16] [] 35 [.pointer (some ⟨g,0,none⟩),.slice (some ⟨g6,0,none⟩) 6 6] (some 17) 1 rfl rfl hlo (l1PickInt_c_K hBw hap (fun ww hw hf => (rowF_sl (hf _ m0))) hk7 (by simp)) ?_
 rintro ⟨y8,hy8⟩
 refine kEU [2,3] [] 1 ⟨26,rcvL { b1m with fin := y8 } (.slice b1a b1m.held.length b1c)⟩ ?_
 exact ⟨⟨({ b1m with fin := y8 },b1a,b1c),⟨Nat.le_trans hb1.1 (by decide),hb1.2.1,hb1.2.2⟩⟩,(wk_pick [2,0,3,4] [rowF (cutW w B).heap.size 65 2 (.slice b1a b1m.held.length b1c) (b1m.held.map pceCells),curF B g 85 (.slice A code.length cap) code.length,slF (.slice A code.length cap) 1 (code.map byteRow),frF w (fun b => b = g)] (by kernel_rfl) (by kernel_rfl)).trans <| kF 2 0 [2,3]⟩
 have h5p := eqF h5
 refine kQ ?_
 refine kED [0,2,3,7,19] [(19,.v (.bool (y2 == 2)))] ?_
 refine kC (y2 == 2) (fun h9 => ?_) (fun h9 => ?_)
 have h9p := eqT h9
 refine kG ?_
 refine kEU [2,3] [] 1 ⟨26,rcvL { b1m with done := !b1m.done } (.slice b1a b1m.held.length b1c)⟩ ?_
 exact ⟨⟨({ b1m with done := !b1m.done },b1a,b1c),⟨Nat.le_trans hb1.1 (by decide),hb1.2.1,hb1.2.2⟩⟩,(wk_pick [1,0,2,3] [rowF (cutW w B).heap.size 65 2 (.slice b1a b1m.held.length b1c) (b1m.held.map pceCells),curF B g 85 (.slice A code.length cap) code.length,slF (.slice A code.length cap) 1 (code.map byteRow),frF w (fun b => b = g)] (by kernel_rfl) (by kernel_rfl)).trans <| kF 2 0 [2,3]⟩
 have h9p := eqF h9
 refine kQ ?_
 refine kED [0,2,3,7,25] [(25,.v (.bool (y2 == 3)))] ?_
 refine kC (y2 == 3) (fun h10 => ?_) (fun h10 => ?_)
 have h10p := eqT h10
 refine xe_region0 [true,false] (by kernel_rfl) (fun ρ σ => ?_)
 refine xe_cut (α := {zz : Nat × Int × Nat × ByteArray × Nat × Option Addr × Nat // (fun (g162 : Nat) (y213 : Int) (g312 : Nat) (y363 : ByteArray) (g462 : Nat) (v512a : Option Addr) (v512c : Nat) => y363 ∈ ([(⟨#[]⟩ : ByteArray),(⟨#[120]⟩ : ByteArray),(⟨#[121,122]⟩ : ByteArray)] : List ByteArray)) zz.1 zz.2.1 zz.2.2.1 zz.2.2.2.1 zz.2.2.2.2.1 zz.2.2.2.2.2.1 zz.2.2.2.2.2.2}) (fun zz => (fun (g162 : Nat) (y213 : Int) (g312 : Nat) (y363 : ByteArray) (g462 : Nat) (v512a : Option Addr) (v512c : Nat) => (⟨[(2,.p 0 0),(3,.p 1 0)],[⟨26,rcvZ⟩,⟨26,rcvL { b1m with held := (b1m.held ++ ([⟨y213,y363⟩] : List Pce)) } (.slice v512a ((b1m.held ++ ([⟨y213,y363⟩] : List Pce)).length) v512c)⟩],[],[curF B g 85 (.slice A code.length cap) code.length,frF w (fun b => b = g),rowF (cutW w B).heap.size 3 1 (.slice (some ⟨g162,0,none⟩) 7 7) (([0,1,20,31,32,(-1),9223372036854775807] : List Int).map intRow),rowF (cutW w B).heap.size 65 2 (.slice (some ⟨g462,0,none⟩) 1 1) (([⟨y213,y363⟩] : List Pce).map pceCells),rowF (cutW w B).heap.size 65 2 (.slice v512a ((b1m.held ++ ([⟨y213,y363⟩] : List Pce)).length) v512c) ((b1m.held ++ ([⟨y213,y363⟩] : List Pce)).map pceCells),rowF (cutW w B).heap.size 9 1 (.slice (some ⟨g312,0,none⟩) 3 3) (([(⟨#[]⟩ : ByteArray),(⟨#[120]⟩ : ByteArray),(⟨#[121,122]⟩ : ByteArray)] : List ByteArray).map strRow),slF (.slice A code.length cap) 1 (code.map byteRow)]⟩ : St)) zz.1.1 zz.1.2.1 zz.1.2.2.1 zz.1.2.2.2.1 zz.1.2.2.2.2.1 zz.1.2.2.2.2.2.1 zz.1.2.2.2.2.2.2) 0 #[true,true,true,true,true,true,true,true,true,true,true,true,true] ?_ (fun hD7 => ?_)
 rintro ⟨⟨g162,y213,g312,y363,g462,v512a,v512c⟩,hy363⟩
 dsimp only
 try dsimp only at hy363
 refine kZ ?_
 exact ⟨⟨({ b1m with held := (b1m.held ++ ([⟨y213,y363⟩] : List Pce)) },v512a,v512c),(RB.more hb1 _ (by have hq := hy363; simp only [List.mem_cons,List.not_mem_nil,or_false] at hq; rcases hq with h | h | h <;> subst h <;> (dsimp only; decide)) hb1.2.2)⟩,(wk_pick [4,0,6,1] [rowF (cutW w B).heap.size 65 2 (.slice v512a ((b1m.held ++ ([⟨y213,y363⟩] : List Pce)).length) v512c) ((b1m.held ++ ([⟨y213,y363⟩] : List Pce)).map pceCells),curF B g 85 (.slice A code.length cap) code.length,slF (.slice A code.length cap) 1 (code.map byteRow),frF w (fun b => b = g)] (by kernel_rfl) (by kernel_rfl)).trans <| kF 2 0 [2,3]⟩
 refine xe_cut (α := {zz : Nat × Int × Nat × ByteArray × Nat × Option Addr × Nat // (fun (g162 : Nat) (y213 : Int) (g312 : Nat) (y363 : ByteArray) (g462 : Nat) (v512a : Option Addr) (v512c : Nat) => y363 ∈ ([(⟨#[]⟩ : ByteArray),(⟨#[120]⟩ : ByteArray),(⟨#[121,122]⟩ : ByteArray)] : List ByteArray)) zz.1 zz.2.1 zz.2.2.1 zz.2.2.2.1 zz.2.2.2.2.1 zz.2.2.2.2.2.1 zz.2.2.2.2.2.2}) (fun zz => (fun (g162 : Nat) (y213 : Int) (g312 : Nat) (y363 : ByteArray) (g462 : Nat) (v512a : Option Addr) (v512c : Nat) => (⟨[(2,.p 0 0),(3,.p 1 0),(37,.v (.slice v512a ((b1m.held ++ ([⟨y213,y363⟩] : List Pce)).length) v512c))],[⟨26,rcvZ⟩,⟨26,rcvL b1m (.slice b1a b1m.held.length b1c)⟩],[],[curF B g 85 (.slice A code.length cap) code.length,frF w (fun b => b = g),rowF (cutW w B).heap.size 3 1 (.slice (some ⟨g162,0,none⟩) 7 7) (([0,1,20,31,32,(-1),9223372036854775807] : List Int).map intRow),rowF (cutW w B).heap.size 65 2 (.slice (some ⟨g462,0,none⟩) 1 1) (([⟨y213,y363⟩] : List Pce).map pceCells),rowF (cutW w B).heap.size 65 2 (.slice v512a ((b1m.held ++ ([⟨y213,y363⟩] : List Pce)).length) v512c) ((b1m.held ++ ([⟨y213,y363⟩] : List Pce)).map pceCells),rowF (cutW w B).heap.size 9 1 (.slice (some ⟨g312,0,none⟩) 3 3) (([(⟨#[]⟩ : ByteArray),(⟨#[120]⟩ : ByteArray),(⟨#[121,122]⟩ : ByteArray)] : List ByteArray).map strRow),slF (.slice A code.length cap) 1 (code.map byteRow)]⟩ : St)) zz.1.1 zz.1.2.1 zz.1.2.2.1 zz.1.2.2.2.1 zz.1.2.2.2.2.1 zz.1.2.2.2.2.2.1 zz.1.2.2.2.2.2.2) 2 #[true,true,true,true,true,true,true,true,true,true,true,false,false] ?_ (fun hD6 => ?_)
 rintro ⟨⟨g162,y213,g312,y363,g462,v512a,v512c⟩,hy363⟩
 dsimp only
 try dsimp only at hy363
 refine kTS [11] [38,2,3,37] 1 [(38,.p 1 2),(2,.p 0 0),(3,.p 1 0),(37,.v (.slice v512a ((b1m.held ++ ([⟨y213,y363⟩] : List Pce)).length) v512c))] ?_
 refine kA [12] ?_
 refine kSS 12 1 2 [.slice v512a ((b1m.held ++ ([⟨y213,y363⟩] : List Pce)).length) v512c] rfl ?_
 exact xe_wkL (kF 2 0 [2,3]) (by kernel_rfl) (hD7 ⟨(g162,y213,g312,y363,g462,v512a,v512c),hy363⟩)
 refine xe_cut (α := {zz : Nat × Int × Nat × ByteArray × Nat // (fun (g162 : Nat) (y213 : Int) (g312 : Nat) (y363 : ByteArray) (g462 : Nat) => y363 ∈ ([(⟨#[]⟩ : ByteArray),(⟨#[120]⟩ : ByteArray),(⟨#[121,122]⟩ : ByteArray)] : List ByteArray)) zz.1 zz.2.1 zz.2.2.1 zz.2.2.2.1 zz.2.2.2.2}) (fun zz => (fun (g162 : Nat) (y213 : Int) (g312 : Nat) (y363 : ByteArray) (g462 : Nat) => (⟨[(2,.p 0 0),(3,.p 1 0),(28,.v (.slice b1a b1m.held.length b1c)),(36,.v (.slice (some ⟨g462,0,none⟩) 1 1))],[⟨26,rcvZ⟩,⟨26,rcvL b1m (.slice b1a b1m.held.length b1c)⟩],[],[curF B g 85 (.slice A code.length cap) code.length,frF w (fun b => b = g),rowF (cutW w B).heap.size 3 1 (.slice (some ⟨g162,0,none⟩) 7 7) (([0,1,20,31,32,(-1),9223372036854775807] : List Int).map intRow),rowF (cutW w B).heap.size 65 2 (.slice (some ⟨g462,0,none⟩) 1 1) (([⟨y213,y363⟩] : List Pce).map pceCells),rowF (cutW w B).heap.size 65 2 (.slice b1a b1m.held.length b1c) (b1m.held.map pceCells),rowF (cutW w B).heap.size 9 1 (.slice (some ⟨g312,0,none⟩) 3 3) (([(⟨#[]⟩ : ByteArray),(⟨#[120]⟩ : ByteArray),(⟨#[121,122]⟩ : ByteArray)] : List ByteArray).map strRow),slF (.slice A code.length cap) 1 (code.map byteRow)]⟩ : St)) zz.1.1 zz.1.2.1 zz.1.2.2.1 zz.1.2.2.2.1 zz.1.2.2.2.2) 3 #[true,true,true,true,true,true,true,true,true,true,false,false,false] ?_ (fun hD5 => ?_)
 rintro ⟨⟨g162,y213,g312,y363,g462⟩,hy363⟩
 dsimp only
 try dsimp only at hy363
 refine kA [10] ?_
 refine kSH 10 rfl (under_t (under_f rfl under_nil)) (hv_append (e := 65) (K := 2) (bytes := 24) (i := 4) (q := (b1m.held ++ ([⟨y213,y363⟩] : List Pce)).length) (new := ([⟨y213,y363⟩] : List Pce).map pceCells) (rs' := (b1m.held ++ ([⟨y213,y363⟩] : List Pce)).map pceCells) rfl rfl rfl rfl (by kernel_rfl) (by kernel_rfl) (by kernel_rfl) rfl (by simp) (by rw [List.map_append]) (by simp) (fun ww hf => (rowF_sl (hf (rowF (cutW w B).heap.size 65 2 (.slice (some ⟨g462,0,none⟩) 1 1) (([⟨y213,y363⟩] : List Pce).map pceCells)) (by simp)))) (by intro r hr; obtain ⟨x,hx,rfl⟩ := List.mem_map.1 hr; exact ⟨rfl,by simp [pceCells,Value.oneCell']⟩) (by (try simp only [List.length_map,List.length_append,List.length_cons,List.length_nil,List.length_take,List.length_drop,maxLen]); omega) (by (try simp only [List.length_map,List.length_append,List.length_cons,List.length_nil,List.length_take,List.length_drop,maxLen]); omega)) ?_
 rintro ⟨v512a,v512c⟩
 exact xe_wkL ((wk_pick [1,2,3,4,0,5,6] [curF B g 85 (.slice A code.length cap) code.length,frF w (fun b => b = g),rowF (cutW w B).heap.size 3 1 (.slice (some ⟨g162,0,none⟩) 7 7) (([0,1,20,31,32,(-1),9223372036854775807] : List Int).map intRow),rowF (cutW w B).heap.size 65 2 (.slice (some ⟨g462,0,none⟩) 1 1) (([⟨y213,y363⟩] : List Pce).map pceCells),rowF (cutW w B).heap.size 65 2 (.slice v512a ((b1m.held ++ ([⟨y213,y363⟩] : List Pce)).length) v512c) ((b1m.held ++ ([⟨y213,y363⟩] : List Pce)).map pceCells),rowF (cutW w B).heap.size 9 1 (.slice (some ⟨g312,0,none⟩) 3 3) (([(⟨#[]⟩ : ByteArray),(⟨#[120]⟩ : ByteArray),(⟨#[121,122]⟩ : ByteArray)] : List ByteArray).map strRow),slF (.slice A code.length cap) 1 (code.map byteRow)] (by kernel_rfl) (by kernel_rfl)).trans <| kF 2 0 [2,3,37]) (by kernel_rfl) (hD6 ⟨(g162,y213,g312,y363,g462,v512a,v512c),hy363⟩)
 refine xe_cut (α := {zz : Nat × Int × Nat × ByteArray // (fun (g162 : Nat) (y213 : Int) (g312 : Nat) (y363 : ByteArray) => y363 ∈ ([(⟨#[]⟩ : ByteArray),(⟨#[120]⟩ : ByteArray),(⟨#[121,122]⟩ : ByteArray)] : List ByteArray)) zz.1 zz.2.1 zz.2.2.1 zz.2.2.2}) (fun zz => (fun (g162 : Nat) (y213 : Int) (g312 : Nat) (y363 : ByteArray) => (⟨[(2,.p 0 0),(3,.p 1 0),(28,.v (.slice b1a b1m.held.length b1c)),(31,.v (.int .i64 y213)),(34,.v (.string y363))],[⟨26,rcvZ⟩,⟨26,rcvL b1m (.slice b1a b1m.held.length b1c)⟩],[],[curF B g 85 (.slice A code.length cap) code.length,frF w (fun b => b = g),rowF (cutW w B).heap.size 3 1 (.slice (some ⟨g162,0,none⟩) 7 7) (([0,1,20,31,32,(-1),9223372036854775807] : List Int).map intRow),rowF (cutW w B).heap.size 65 2 (.slice b1a b1m.held.length b1c) (b1m.held.map pceCells),rowF (cutW w B).heap.size 9 1 (.slice (some ⟨g312,0,none⟩) 3 3) (([(⟨#[]⟩ : ByteArray),(⟨#[120]⟩ : ByteArray),(⟨#[121,122]⟩ : ByteArray)] : List ByteArray).map strRow),slF (.slice A code.length cap) 1 (code.map byteRow)]⟩ : St)) zz.1.1 zz.1.2.1 zz.1.2.2.1 zz.1.2.2.2) 5 #[true,true,true,true,true,true,true,true,false,false,false,false,false] ?_ (fun hD4 => ?_)
 rintro ⟨⟨g162,y213,g312,y363⟩,hy363⟩
 dsimp only
 try dsimp only at hy363
 refine kX 8 (.agg (pceL (⟨y213,y363⟩ : Pce)).toArray) rfl (fun _ _ ww hA => act_build [(0,.int .i64 y213),(1,.string y363)] hA rfl (by kernel_rfl) (by kernel_rfl) ww) ?_
 refine kA [9] ?_
 refine kSH 9 rfl (under_t (under_f rfl under_nil)) (hv_build (e := 65) (K := 2) (bytes := 24) [.agg (pceL (⟨y213,y363⟩ : Pce)).toArray] rfl (by kernel_rfl) (by kernel_rfl) (by kernel_rfl) (by kernel_rfl) (by kernel_rfl) (rs := ([⟨y213,y363⟩] : List Pce).map pceCells) rfl) ?_
 intro g462
 exact xe_wkL ((wk_pick [1,2,3,0,4,5,6] [curF B g 85 (.slice A code.length cap) code.length,frF w (fun b => b = g),rowF (cutW w B).heap.size 3 1 (.slice (some ⟨g162,0,none⟩) 7 7) (([0,1,20,31,32,(-1),9223372036854775807] : List Int).map intRow),rowF (cutW w B).heap.size 65 2 (.slice (some ⟨g462,0,none⟩) 1 1) (([⟨y213,y363⟩] : List Pce).map pceCells),rowF (cutW w B).heap.size 65 2 (.slice b1a b1m.held.length b1c) (b1m.held.map pceCells),rowF (cutW w B).heap.size 9 1 (.slice (some ⟨g312,0,none⟩) 3 3) (([(⟨#[]⟩ : ByteArray),(⟨#[120]⟩ : ByteArray),(⟨#[121,122]⟩ : ByteArray)] : List ByteArray).map strRow),slF (.slice A code.length cap) 1 (code.map byteRow)] (by kernel_rfl) (by kernel_rfl)).trans <| kF 2 0 [2,3,28,36]) (by kernel_rfl) (hD5 ⟨(g162,y213,g312,y363,g462),hy363⟩)
 refine xe_cut (α := Nat × Int × Nat) (fun zz => (fun (g162 : Nat) (y213 : Int) (g312 : Nat) => (⟨[(2,.p 0 0),(3,.p 1 0),(28,.v (.slice b1a b1m.held.length b1c)),(31,.v (.int .i64 y213)),(32,.v (.pointer (some ⟨g,0,none⟩))),(33,.v (.slice (some ⟨g312,0,none⟩) 3 3))],[⟨26,rcvZ⟩,⟨26,rcvL b1m (.slice b1a b1m.held.length b1c)⟩],[],[curF B g 85 (.slice A code.length cap) code.length,frF w (fun b => b = g),rowF (cutW w B).heap.size 3 1 (.slice (some ⟨g162,0,none⟩) 7 7) (([0,1,20,31,32,(-1),9223372036854775807] : List Int).map intRow),rowF (cutW w B).heap.size 65 2 (.slice b1a b1m.held.length b1c) (b1m.held.map pceCells),rowF (cutW w B).heap.size 9 1 (.slice (some ⟨g312,0,none⟩) 3 3) (([(⟨#[]⟩ : ByteArray),(⟨#[120]⟩ : ByteArray),(⟨#[121,122]⟩ : ByteArray)] : List ByteArray).map strRow),slF (.slice A code.length cap) 1 (code.map byteRow)]⟩ : St)) zz.1 zz.2.1 zz.2.2) 6 #[true,true,true,true,true,true,true,false,false,false,false,false,false] ?_ (fun hD3 => ?_)
 rintro ⟨g162,y213,g312⟩
 dsimp only
 refine kA [7] ?_
 refine xs_know (φ := ¬ (slF (.slice (some ⟨g312,0,none⟩) 3 3) 1 (([(⟨#[]⟩ : ByteArray),(⟨#[120]⟩ : ByteArray),(⟨#[121,122]⟩ : ByteArray)] : List ByteArray).map strRow)).blk g) (fun _ _ _ _ hr => fun hb => hr.2.apart 4 0 (rowF (cutW w B).heap.size 9 1 (.slice (some ⟨g312,0,none⟩) 3 3) (([(⟨#[]⟩ : ByteArray),(⟨#[120]⟩ : ByteArray),(⟨#[121,122]⟩ : ByteArray)] : List ByteArray).map strRow)) (curF B g 85 (.slice A code.length cap) code.length) rfl rfl (by decide) rfl g (rowF_sblk hb) rfl) (fun hk362 => ?_)
 refine kSW 7 74 [.pointer (some ⟨g,0,none⟩),.slice (some ⟨g312,0,none⟩) 3 3] (some 34) 0 rfl rfl hlo (under_t (under_f rfl under_nil)) (l1Pick_c_K hBw hap (fun ww hw hf => (rowF_sl (hf _ m4))) hk362 (by simp)) ?_
 rintro ⟨y363,hy363⟩
 exact xe_wkL (kF 2 0 [2,3,28,31,34]) (by kernel_rfl) (hD4 ⟨(g162,y213,g312,y363),hy363⟩)
 refine xe_cut (α := Nat × Int) (fun zz => (fun (g162 : Nat) (y213 : Int) => (⟨[(2,.p 0 0),(3,.p 1 0),(28,.v (.slice b1a b1m.held.length b1c)),(31,.v (.int .i64 y213)),(32,.v (.pointer (some ⟨g,0,none⟩)))],[⟨26,rcvZ⟩,⟨26,rcvL b1m (.slice b1a b1m.held.length b1c)⟩],[],[curF B g 85 (.slice A code.length cap) code.length,frF w (fun b => b = g),rowF (cutW w B).heap.size 3 1 (.slice (some ⟨g162,0,none⟩) 7 7) (([0,1,20,31,32,(-1),9223372036854775807] : List Int).map intRow),rowF (cutW w B).heap.size 65 2 (.slice b1a b1m.held.length b1c) (b1m.held.map pceCells),slF (.slice A code.length cap) 1 (code.map byteRow)]⟩ : St)) zz.1 zz.2) 7 #[true,true,true,true,true,true,false,false,false,false,false,false,false] ?_ (fun hD2 => ?_)
 rintro ⟨g162,y213⟩
 dsimp only
 refine kA [6] ?_
 refine kSH 6 rfl (under_t (under_f rfl under_nil)) (hv_build (e := 9) (K := 1) (bytes := 16) [.string (⟨#[]⟩ : ByteArray),.string (⟨#[120]⟩ : ByteArray),.string (⟨#[121,122]⟩ : ByteArray)] rfl (by kernel_rfl) (by kernel_rfl) (by kernel_rfl) (by kernel_rfl) (by kernel_rfl) (rs := ([(⟨#[]⟩ : ByteArray),(⟨#[120]⟩ : ByteArray),(⟨#[121,122]⟩ : ByteArray)] : List ByteArray).map strRow) rfl) ?_
 intro g312
 exact xe_wkL ((wk_pick [1,2,3,4,0,5] [curF B g 85 (.slice A code.length cap) code.length,frF w (fun b => b = g),rowF (cutW w B).heap.size 3 1 (.slice (some ⟨g162,0,none⟩) 7 7) (([0,1,20,31,32,(-1),9223372036854775807] : List Int).map intRow),rowF (cutW w B).heap.size 65 2 (.slice b1a b1m.held.length b1c) (b1m.held.map pceCells),rowF (cutW w B).heap.size 9 1 (.slice (some ⟨g312,0,none⟩) 3 3) (([(⟨#[]⟩ : ByteArray),(⟨#[120]⟩ : ByteArray),(⟨#[121,122]⟩ : ByteArray)] : List ByteArray).map strRow),slF (.slice A code.length cap) 1 (code.map byteRow)] (by kernel_rfl) (by kernel_rfl)).trans <| kF 2 0 [2,3,28,31,32,33]) (by kernel_rfl) (hD3 (g162,y213,g312))
 refine xe_cut (α := Nat × Nat) (fun zz => (fun (g162 : Nat) (g312 : Nat) => (⟨[(2,.p 0 0),(3,.p 1 0),(28,.v (.slice b1a b1m.held.length b1c)),(29,.v (.pointer (some ⟨g,0,none⟩))),(30,.v (.slice (some ⟨g162,0,none⟩) 7 7)),(32,.v (.pointer (some ⟨g,0,none⟩))),(33,.v (.slice (some ⟨g312,0,none⟩) 3 3))],[⟨26,rcvZ⟩,⟨26,rcvL b1m (.slice b1a b1m.held.length b1c)⟩],[],[curF B g 85 (.slice A code.length cap) code.length,frF w (fun b => b = g),rowF (cutW w B).heap.size 3 1 (.slice (some ⟨g162,0,none⟩) 7 7) (([0,1,20,31,32,(-1),9223372036854775807] : List Int).map intRow),rowF (cutW w B).heap.size 65 2 (.slice b1a b1m.held.length b1c) (b1m.held.map pceCells),rowF (cutW w B).heap.size 9 1 (.slice (some ⟨g312,0,none⟩) 3 3) (([(⟨#[]⟩ : ByteArray),(⟨#[120]⟩ : ByteArray),(⟨#[121,122]⟩ : ByteArray)] : List ByteArray).map strRow),slF (.slice A code.length cap) 1 (code.map byteRow)]⟩ : St)) zz.1 zz.2) 7 #[true,true,true,true,false,true,true,false,false,false,false,false,false] ?_ (fun hD8 => ?_)
 rintro ⟨g162,g312⟩
 dsimp only
 refine kA [4] ?_
 refine xs_know (φ := ¬ (slF (.slice (some ⟨g162,0,none⟩) 7 7) 1 (([0,1,20,31,32,(-1),9223372036854775807] : List Int).map intRow)).blk g) (fun _ _ _ _ hr => fun hb => hr.2.apart 2 0 (rowF (cutW w B).heap.size 3 1 (.slice (some ⟨g162,0,none⟩) 7 7) (([0,1,20,31,32,(-1),9223372036854775807] : List Int).map intRow)) (curF B g 85 (.slice A code.length cap) code.length) rfl rfl (by decide) rfl g (rowF_sblk hb) rfl) (fun hk212 => ?_)
 refine kSW 4 35 [.pointer (some ⟨g,0,none⟩),.slice (some ⟨g162,0,none⟩) 7 7] (some 31) 0 rfl rfl hlo (under_t (under_f rfl under_nil)) (l1PickInt_c_K hBw hap (fun ww hw hf => (rowF_sl (hf _ m2))) hk212 (by simp)) ?_
 rintro ⟨y213,hy213⟩
 exact xe_wkL (kF 2 0 [2,3,28,31,32,33]) (by kernel_rfl) (hD3 (g162,y213,g312))
 refine xe_cut (α := Nat) (fun zz => (fun (g162 : Nat) => (⟨[(2,.p 0 0),(3,.p 1 0),(28,.v (.slice b1a b1m.held.length b1c)),(29,.v (.pointer (some ⟨g,0,none⟩))),(30,.v (.slice (some ⟨g162,0,none⟩) 7 7)),(32,.v (.pointer (some ⟨g,0,none⟩)))],[⟨26,rcvZ⟩,⟨26,rcvL b1m (.slice b1a b1m.held.length b1c)⟩],[],[curF B g 85 (.slice A code.length cap) code.length,frF w (fun b => b = g),rowF (cutW w B).heap.size 3 1 (.slice (some ⟨g162,0,none⟩) 7 7) (([0,1,20,31,32,(-1),9223372036854775807] : List Int).map intRow),rowF (cutW w B).heap.size 65 2 (.slice b1a b1m.held.length b1c) (b1m.held.map pceCells),slF (.slice A code.length cap) 1 (code.map byteRow)]⟩ : St)) zz) 8 #[true,true,true,true,false,true,false,false,false,false,false,false,false] ?_ (fun hD1 => ?_)
 intro g162
 try dsimp only
 refine kA [4,6] ⟨?_,?_⟩
 refine xs_know (φ := ¬ (slF (.slice (some ⟨g162,0,none⟩) 7 7) 1 (([0,1,20,31,32,(-1),9223372036854775807] : List Int).map intRow)).blk g) (fun _ _ _ _ hr => fun hb => hr.2.apart 2 0 (rowF (cutW w B).heap.size 3 1 (.slice (some ⟨g162,0,none⟩) 7 7) (([0,1,20,31,32,(-1),9223372036854775807] : List Int).map intRow)) (curF B g 85 (.slice A code.length cap) code.length) rfl rfl (by decide) rfl g (rowF_sblk hb) rfl) (fun hk212 => ?_)
 refine kSW 4 35 [.pointer (some ⟨g,0,none⟩),.slice (some ⟨g162,0,none⟩) 7 7] (some 31) 0 rfl rfl hlo (under_t (under_f rfl under_nil)) (l1PickInt_c_K hBw hap (fun ww hw hf => (rowF_sl (hf _ m2))) hk212 (by simp)) ?_
 rintro ⟨y213,hy213⟩
 exact xe_wkL (kF 2 0 [2,3,28,31,32]) (by kernel_rfl) (hD2 (g162,y213))
 refine kSH 6 rfl (under_t (under_f rfl under_nil)) (hv_build (e := 9) (K := 1) (bytes := 16) [.string (⟨#[]⟩ : ByteArray),.string (⟨#[120]⟩ : ByteArray),.string (⟨#[121,122]⟩ : ByteArray)] rfl (by kernel_rfl) (by kernel_rfl) (by kernel_rfl) (by kernel_rfl) (by kernel_rfl) (rs := ([(⟨#[]⟩ : ByteArray),(⟨#[120]⟩ : ByteArray),(⟨#[121,122]⟩ : ByteArray)] : List ByteArray).map strRow) rfl) ?_
 intro g312
 exact xe_wkL ((wk_pick [1,2,3,4,0,5] [curF B g 85 (.slice A code.length cap) code.length,frF w (fun b => b = g),rowF (cutW w B).heap.size 3 1 (.slice (some ⟨g162,0,none⟩) 7 7) (([0,1,20,31,32,(-1),9223372036854775807] : List Int).map intRow),rowF (cutW w B).heap.size 65 2 (.slice b1a b1m.held.length b1c) (b1m.held.map pceCells),rowF (cutW w B).heap.size 9 1 (.slice (some ⟨g312,0,none⟩) 3 3) (([(⟨#[]⟩ : ByteArray),(⟨#[120]⟩ : ByteArray),(⟨#[121,122]⟩ : ByteArray)] : List ByteArray).map strRow),slF (.slice A code.length cap) 1 (code.map byteRow)] (by kernel_rfl) (by kernel_rfl)).trans <| kF 2 0 [2,3,28,29,30,32,33]) (by kernel_rfl) (hD8 (g162,g312))
 refine xe_cut (α := Nat) (fun zz => (fun (g312 : Nat) => (⟨[(2,.p 0 0),(3,.p 1 0),(28,.v (.slice b1a b1m.held.length b1c)),(29,.v (.pointer (some ⟨g,0,none⟩))),(32,.v (.pointer (some ⟨g,0,none⟩))),(33,.v (.slice (some ⟨g312,0,none⟩) 3 3))],[⟨26,rcvZ⟩,⟨26,rcvL b1m (.slice b1a b1m.held.length b1c)⟩],[],[curF B g 85 (.slice A code.length cap) code.length,frF w (fun b => b = g),rowF (cutW w B).heap.size 65 2 (.slice b1a b1m.held.length b1c) (b1m.held.map pceCells),rowF (cutW w B).heap.size 9 1 (.slice (some ⟨g312,0,none⟩) 3 3) (([(⟨#[]⟩ : ByteArray),(⟨#[120]⟩ : ByteArray),(⟨#[121,122]⟩ : ByteArray)] : List ByteArray).map strRow),slF (.slice A code.length cap) 1 (code.map byteRow)]⟩ : St)) zz) 8 #[true,true,true,false,false,true,true,false,false,false,false,false,false] ?_ (fun hD9 => ?_)
 intro g312
 try dsimp only
 refine kA [3] ?_
 refine kSH 3 rfl (under_t (under_f rfl under_nil)) (hv_build (e := 3) (K := 1) (bytes := 8) [.int .i64 0,.int .i64 1,.int .i64 20,.int .i64 31,.int .i64 32,.int .i64 (-1),.int .i64 9223372036854775807] rfl (by kernel_rfl) (by kernel_rfl) (by kernel_rfl) (by kernel_rfl) (by kernel_rfl) (rs := ([0,1,20,31,32,(-1),9223372036854775807] : List Int).map intRow) rfl) ?_
 intro g162
 exact xe_wkL ((wk_pick [1,2,0,3,4,5] [curF B g 85 (.slice A code.length cap) code.length,frF w (fun b => b = g),rowF (cutW w B).heap.size 3 1 (.slice (some ⟨g162,0,none⟩) 7 7) (([0,1,20,31,32,(-1),9223372036854775807] : List Int).map intRow),rowF (cutW w B).heap.size 65 2 (.slice b1a b1m.held.length b1c) (b1m.held.map pceCells),rowF (cutW w B).heap.size 9 1 (.slice (some ⟨g312,0,none⟩) 3 3) (([(⟨#[]⟩ : ByteArray),(⟨#[120]⟩ : ByteArray),(⟨#[121,122]⟩ : ByteArray)] : List ByteArray).map strRow),slF (.slice A code.length cap) 1 (code.map byteRow)] (by kernel_rfl) (by kernel_rfl)).trans <| kF 2 0 [2,3,28,29,30,32,33]) (by kernel_rfl) (hD8 (g162,g312))
 refine xe_cut (α := Unit) (fun zz => (fun (u_ : Unit) => (⟨[(2,.p 0 0),(3,.p 1 0),(28,.v (.slice b1a b1m.held.length b1c)),(29,.v (.pointer (some ⟨g,0,none⟩))),(32,.v (.pointer (some ⟨g,0,none⟩)))],[⟨26,rcvZ⟩,⟨26,rcvL b1m (.slice b1a b1m.held.length b1c)⟩],[],[curF B g 85 (.slice A code.length cap) code.length,frF w (fun b => b = g),rowF (cutW w B).heap.size 65 2 (.slice b1a b1m.held.length b1c) (b1m.held.map pceCells),slF (.slice A code.length cap) 1 (code.map byteRow)]⟩ : St)) zz) 9 #[true,true,true,false,false,true,false,false,false,false,false,false,false] ?_ (fun hD0 => ?_)
 intro u_
 try dsimp only
 refine kA [3,6] ⟨?_,?_⟩
 refine kSH 3 rfl (under_t (under_f rfl under_nil)) (hv_build (e := 3) (K := 1) (bytes := 8) [.int .i64 0,.int .i64 1,.int .i64 20,.int .i64 31,.int .i64 32,.int .i64 (-1),.int .i64 9223372036854775807] rfl (by kernel_rfl) (by kernel_rfl) (by kernel_rfl) (by kernel_rfl) (by kernel_rfl) (rs := ([0,1,20,31,32,(-1),9223372036854775807] : List Int).map intRow) rfl) ?_
 intro g162
 exact xe_wkL ((wk_pick [1,2,0,3,4] [curF B g 85 (.slice A code.length cap) code.length,frF w (fun b => b = g),rowF (cutW w B).heap.size 3 1 (.slice (some ⟨g162,0,none⟩) 7 7) (([0,1,20,31,32,(-1),9223372036854775807] : List Int).map intRow),rowF (cutW w B).heap.size 65 2 (.slice b1a b1m.held.length b1c) (b1m.held.map pceCells),slF (.slice A code.length cap) 1 (code.map byteRow)] (by kernel_rfl) (by kernel_rfl)).trans <| kF 2 0 [2,3,28,29,30,32]) (by kernel_rfl) (hD1 (g162))
 refine kSH 6 rfl (under_t (under_f rfl under_nil)) (hv_build (e := 9) (K := 1) (bytes := 16) [.string (⟨#[]⟩ : ByteArray),.string (⟨#[120]⟩ : ByteArray),.string (⟨#[121,122]⟩ : ByteArray)] rfl (by kernel_rfl) (by kernel_rfl) (by kernel_rfl) (by kernel_rfl) (by kernel_rfl) (rs := ([(⟨#[]⟩ : ByteArray),(⟨#[120]⟩ : ByteArray),(⟨#[121,122]⟩ : ByteArray)] : List ByteArray).map strRow) rfl) ?_
 intro g312
 exact xe_wkL ((wk_pick [1,2,3,0,4] [curF B g 85 (.slice A code.length cap) code.length,frF w (fun b => b = g),rowF (cutW w B).heap.size 65 2 (.slice b1a b1m.held.length b1c) (b1m.held.map pceCells),rowF (cutW w B).heap.size 9 1 (.slice (some ⟨g312,0,none⟩) 3 3) (([(⟨#[]⟩ : ByteArray),(⟨#[120]⟩ : ByteArray),(⟨#[121,122]⟩ : ByteArray)] : List ByteArray).map strRow),slF (.slice A code.length cap) 1 (code.map byteRow)] (by kernel_rfl) (by kernel_rfl)).trans <| kF 2 0 [2,3,28,29,32,33]) (by kernel_rfl) (hD9 (g312))
 refine xe_cut (α := {zz : Nat × Int × Nat × ByteArray // (fun (g162 : Nat) (y213 : Int) (g312 : Nat) (y363 : ByteArray) => y363 ∈ ([(⟨#[]⟩ : ByteArray),(⟨#[120]⟩ : ByteArray),(⟨#[121,122]⟩ : ByteArray)] : List ByteArray)) zz.1 zz.2.1 zz.2.2.1 zz.2.2.2}) (fun zz => (fun (g162 : Nat) (y213 : Int) (g312 : Nat) (y363 : ByteArray) => (⟨[(2,.p 0 0),(3,.p 1 0),(28,.v (.slice b1a b1m.held.length b1c)),(35,.v (.agg (pceL (⟨y213,y363⟩ : Pce)).toArray))],[⟨26,rcvZ⟩,⟨26,rcvL b1m (.slice b1a b1m.held.length b1c)⟩],[],[curF B g 85 (.slice A code.length cap) code.length,frF w (fun b => b = g),rowF (cutW w B).heap.size 3 1 (.slice (some ⟨g162,0,none⟩) 7 7) (([0,1,20,31,32,(-1),9223372036854775807] : List Int).map intRow),rowF (cutW w B).heap.size 65 2 (.slice b1a b1m.held.length b1c) (b1m.held.map pceCells),rowF (cutW w B).heap.size 9 1 (.slice (some ⟨g312,0,none⟩) 3 3) (([(⟨#[]⟩ : ByteArray),(⟨#[120]⟩ : ByteArray),(⟨#[121,122]⟩ : ByteArray)] : List ByteArray).map strRow),slF (.slice A code.length cap) 1 (code.map byteRow)]⟩ : St)) zz.1.1 zz.1.2.1 zz.1.2.2.1 zz.1.2.2.2) 4 #[true,true,true,true,true,true,true,true,true,false,false,false,false] ?_ (fun hD14 => ?_)
 rintro ⟨⟨g162,y213,g312,y363⟩,hy363⟩
 dsimp only
 try dsimp only at hy363
 refine kA [9] ?_
 refine kSH 9 rfl (under_t (under_f rfl under_nil)) (hv_build (e := 65) (K := 2) (bytes := 24) [.agg (pceL (⟨y213,y363⟩ : Pce)).toArray] rfl (by kernel_rfl) (by kernel_rfl) (by kernel_rfl) (by kernel_rfl) (by kernel_rfl) (rs := ([⟨y213,y363⟩] : List Pce).map pceCells) rfl) ?_
 intro g462
 exact xe_wkL ((wk_pick [1,2,3,0,4,5,6] [curF B g 85 (.slice A code.length cap) code.length,frF w (fun b => b = g),rowF (cutW w B).heap.size 3 1 (.slice (some ⟨g162,0,none⟩) 7 7) (([0,1,20,31,32,(-1),9223372036854775807] : List Int).map intRow),rowF (cutW w B).heap.size 65 2 (.slice (some ⟨g462,0,none⟩) 1 1) (([⟨y213,y363⟩] : List Pce).map pceCells),rowF (cutW w B).heap.size 65 2 (.slice b1a b1m.held.length b1c) (b1m.held.map pceCells),rowF (cutW w B).heap.size 9 1 (.slice (some ⟨g312,0,none⟩) 3 3) (([(⟨#[]⟩ : ByteArray),(⟨#[120]⟩ : ByteArray),(⟨#[121,122]⟩ : ByteArray)] : List ByteArray).map strRow),slF (.slice A code.length cap) 1 (code.map byteRow)] (by kernel_rfl) (by kernel_rfl)).trans <| kF 2 0 [2,3,28,36]) (by kernel_rfl) (hD5 ⟨(g162,y213,g312,y363,g462),hy363⟩)
 refine xe_cut (α := {zz : Nat × Int × Nat × ByteArray × Nat // (fun (g162 : Nat) (y213 : Int) (g312 : Nat) (y363 : ByteArray) (g462 : Nat) => y363 ∈ ([(⟨#[]⟩ : ByteArray),(⟨#[120]⟩ : ByteArray),(⟨#[121,122]⟩ : ByteArray)] : List ByteArray)) zz.1 zz.2.1 zz.2.2.1 zz.2.2.2.1 zz.2.2.2.2}) (fun zz => (fun (g162 : Nat) (y213 : Int) (g312 : Nat) (y363 : ByteArray) (g462 : Nat) => (⟨[(2,.p 0 0),(3,.p 1 0),(27,.p 1 2),(36,.v (.slice (some ⟨g462,0,none⟩) 1 1))],[⟨26,rcvZ⟩,⟨26,rcvL b1m (.slice b1a b1m.held.length b1c)⟩],[],[curF B g 85 (.slice A code.length cap) code.length,frF w (fun b => b = g),rowF (cutW w B).heap.size 3 1 (.slice (some ⟨g162,0,none⟩) 7 7) (([0,1,20,31,32,(-1),9223372036854775807] : List Int).map intRow),rowF (cutW w B).heap.size 65 2 (.slice (some ⟨g462,0,none⟩) 1 1) (([⟨y213,y363⟩] : List Pce).map pceCells),rowF (cutW w B).heap.size 65 2 (.slice b1a b1m.held.length b1c) (b1m.held.map pceCells),rowF (cutW w B).heap.size 9 1 (.slice (some ⟨g312,0,none⟩) 3 3) (([(⟨#[]⟩ : ByteArray),(⟨#[120]⟩ : ByteArray),(⟨#[121,122]⟩ : ByteArray)] : List ByteArray).map strRow),slF (.slice A code.length cap) 1 (code.map byteRow)]⟩ : St)) zz.1.1 zz.1.2.1 zz.1.2.2.1 zz.1.2.2.2.1 zz.1.2.2.2.2) 4 #[true,false,true,true,true,true,true,true,true,true,false,false,false] ?_ (fun hD15 => ?_)
 rintro ⟨⟨g162,y213,g312,y363,g462⟩,hy363⟩
 dsimp only
 try dsimp only at hy363
 refine kA [1] ?_
 refine kSV 1 (.v (.slice b1a b1m.held.length b1c)) rfl ?_
 exact xe_wkL (kF 2 0 [2,3,28,36]) (by kernel_rfl) (hD5 ⟨(g162,y213,g312,y363,g462),hy363⟩)
 refine xe_cut (α := {zz : Nat × Int × Nat × ByteArray // (fun (g162 : Nat) (y213 : Int) (g312 : Nat) (y363 : ByteArray) => y363 ∈ ([(⟨#[]⟩ : ByteArray),(⟨#[120]⟩ : ByteArray),(⟨#[121,122]⟩ : ByteArray)] : List ByteArray)) zz.1 zz.2.1 zz.2.2.1 zz.2.2.2}) (fun zz => (fun (g162 : Nat) (y213 : Int) (g312 : Nat) (y363 : ByteArray) => (⟨[(2,.p 0 0),(3,.p 1 0),(27,.p 1 2),(31,.v (.int .i64 y213)),(34,.v (.string y363))],[⟨26,rcvZ⟩,⟨26,rcvL b1m (.slice b1a b1m.held.length b1c)⟩],[],[curF B g 85 (.slice A code.length cap) code.length,frF w (fun b => b = g),rowF (cutW w B).heap.size 3 1 (.slice (some ⟨g162,0,none⟩) 7 7) (([0,1,20,31,32,(-1),9223372036854775807] : List Int).map intRow),rowF (cutW w B).heap.size 65 2 (.slice b1a b1m.held.length b1c) (b1m.held.map pceCells),rowF (cutW w B).heap.size 9 1 (.slice (some ⟨g312,0,none⟩) 3 3) (([(⟨#[]⟩ : ByteArray),(⟨#[120]⟩ : ByteArray),(⟨#[121,122]⟩ : ByteArray)] : List ByteArray).map strRow),slF (.slice A code.length cap) 1 (code.map byteRow)]⟩ : St)) zz.1.1 zz.1.2.1 zz.1.2.2.1 zz.1.2.2.2) 6 #[true,false,true,true,true,true,true,true,false,false,false,false,false] ?_ (fun hD13 => ?_)
 rintro ⟨⟨g162,y213,g312,y363⟩,hy363⟩
 dsimp only
 try dsimp only at hy363
 refine kX 8 (.agg (pceL (⟨y213,y363⟩ : Pce)).toArray) rfl (fun _ _ ww hA => act_build [(0,.int .i64 y213),(1,.string y363)] hA rfl (by kernel_rfl) (by kernel_rfl) ww) ?_
 refine kA [1,9] ⟨?_,?_⟩
 refine kSV 1 (.v (.slice b1a b1m.held.length b1c)) rfl ?_
 exact xe_wkL (kF 2 0 [2,3,28,35]) (by kernel_rfl) (hD14 ⟨(g162,y213,g312,y363),hy363⟩)
 refine kSH 9 rfl (under_t (under_f rfl under_nil)) (hv_build (e := 65) (K := 2) (bytes := 24) [.agg (pceL (⟨y213,y363⟩ : Pce)).toArray] rfl (by kernel_rfl) (by kernel_rfl) (by kernel_rfl) (by kernel_rfl) (by kernel_rfl) (rs := ([⟨y213,y363⟩] : List Pce).map pceCells) rfl) ?_
 intro g462
 exact xe_wkL ((wk_pick [1,2,3,0,4,5,6] [curF B g 85 (.slice A code.length cap) code.length,frF w (fun b => b = g),rowF (cutW w B).heap.size 3 1 (.slice (some ⟨g162,0,none⟩) 7 7) (([0,1,20,31,32,(-1),9223372036854775807] : List Int).map intRow),rowF (cutW w B).heap.size 65 2 (.slice (some ⟨g462,0,none⟩) 1 1) (([⟨y213,y363⟩] : List Pce).map pceCells),rowF (cutW w B).heap.size 65 2 (.slice b1a b1m.held.length b1c) (b1m.held.map pceCells),rowF (cutW w B).heap.size 9 1 (.slice (some ⟨g312,0,none⟩) 3 3) (([(⟨#[]⟩ : ByteArray),(⟨#[120]⟩ : ByteArray),(⟨#[121,122]⟩ : ByteArray)] : List ByteArray).map strRow),slF (.slice A code.length cap) 1 (code.map byteRow)] (by kernel_rfl) (by kernel_rfl)).trans <| kF 2 0 [2,3,27,36]) (by kernel_rfl) (hD15 ⟨(g162,y213,g312,y363,g462),hy363⟩)
 refine xe_cut (α := Nat × Int × Nat) (fun zz => (fun (g162 : Nat) (y213 : Int) (g312 : Nat) => (⟨[(2,.p 0 0),(3,.p 1 0),(27,.p 1 2),(31,.v (.int .i64 y213)),(32,.v (.pointer (some ⟨g,0,none⟩))),(33,.v (.slice (some ⟨g312,0,none⟩) 3 3))],[⟨26,rcvZ⟩,⟨26,rcvL b1m (.slice b1a b1m.held.length b1c)⟩],[],[curF B g 85 (.slice A code.length cap) code.length,frF w (fun b => b = g),rowF (cutW w B).heap.size 3 1 (.slice (some ⟨g162,0,none⟩) 7 7) (([0,1,20,31,32,(-1),9223372036854775807] : List Int).map intRow),rowF (cutW w B).heap.size 65 2 (.slice b1a b1m.held.length b1c) (b1m.held.map pceCells),rowF (cutW w B).heap.size 9 1 (.slice (some ⟨g312,0,none⟩) 3 3) (([(⟨#[]⟩ : ByteArray),(⟨#[120]⟩ : ByteArray),(⟨#[121,122]⟩ : ByteArray)] : List ByteArray).map strRow),slF (.slice A code.length cap) 1 (code.map byteRow)]⟩ : St)) zz.1 zz.2.1 zz.2.2) 7 #[true,false,true,true,true,true,true,false,false,false,false,false,false] ?_ (fun hD12 => ?_)
 rintro ⟨g162,y213,g312⟩
 dsimp only
 refine kA [1,7] ⟨?_,?_⟩
 refine kSV 1 (.v (.slice b1a b1m.held.length b1c)) rfl ?_
 exact xe_wkL (kF 2 0 [2,3,28,31,32,33]) (by kernel_rfl) (hD3 (g162,y213,g312))
 refine xs_know (φ := ¬ (slF (.slice (some ⟨g312,0,none⟩) 3 3) 1 (([(⟨#[]⟩ : ByteArray),(⟨#[120]⟩ : ByteArray),(⟨#[121,122]⟩ : ByteArray)] : List ByteArray).map strRow)).blk g) (fun _ _ _ _ hr => fun hb => hr.2.apart 4 0 (rowF (cutW w B).heap.size 9 1 (.slice (some ⟨g312,0,none⟩) 3 3) (([(⟨#[]⟩ : ByteArray),(⟨#[120]⟩ : ByteArray),(⟨#[121,122]⟩ : ByteArray)] : List ByteArray).map strRow)) (curF B g 85 (.slice A code.length cap) code.length) rfl rfl (by decide) rfl g (rowF_sblk hb) rfl) (fun hk362 => ?_)
 refine kSW 7 74 [.pointer (some ⟨g,0,none⟩),.slice (some ⟨g312,0,none⟩) 3 3] (some 34) 0 rfl rfl hlo (under_t (under_f rfl under_nil)) (l1Pick_c_K hBw hap (fun ww hw hf => (rowF_sl (hf _ m4))) hk362 (by simp)) ?_
 rintro ⟨y363,hy363⟩
 exact xe_wkL (kF 2 0 [2,3,27,31,34]) (by kernel_rfl) (hD13 ⟨(g162,y213,g312,y363),hy363⟩)
 refine xe_cut (α := Nat × Int) (fun zz => (fun (g162 : Nat) (y213 : Int) => (⟨[(2,.p 0 0),(3,.p 1 0),(27,.p 1 2),(31,.v (.int .i64 y213)),(32,.v (.pointer (some ⟨g,0,none⟩)))],[⟨26,rcvZ⟩,⟨26,rcvL b1m (.slice b1a b1m.held.length b1c)⟩],[],[curF B g 85 (.slice A code.length cap) code.length,frF w (fun b => b = g),rowF (cutW w B).heap.size 3 1 (.slice (some ⟨g162,0,none⟩) 7 7) (([0,1,20,31,32,(-1),9223372036854775807] : List Int).map intRow),rowF (cutW w B).heap.size 65 2 (.slice b1a b1m.held.length b1c) (b1m.held.map pceCells),slF (.slice A code.length cap) 1 (code.map byteRow)]⟩ : St)) zz.1 zz.2) 8 #[true,false,true,true,true,true,false,false,false,false,false,false,false] ?_ (fun hD11 => ?_)
 rintro ⟨g162,y213⟩
 dsimp only
 refine kA [1,6] ⟨?_,?_⟩
 refine kSV 1 (.v (.slice b1a b1m.held.length b1c)) rfl ?_
 exact xe_wkL (kF 2 0 [2,3,28,31,32]) (by kernel_rfl) (hD2 (g162,y213))
 refine kSH 6 rfl (under_t (under_f rfl under_nil)) (hv_build (e := 9) (K := 1) (bytes := 16) [.string (⟨#[]⟩ : ByteArray),.string (⟨#[120]⟩ : ByteArray),.string (⟨#[121,122]⟩ : ByteArray)] rfl (by kernel_rfl) (by kernel_rfl) (by kernel_rfl) (by kernel_rfl) (by kernel_rfl) (rs := ([(⟨#[]⟩ : ByteArray),(⟨#[120]⟩ : ByteArray),(⟨#[121,122]⟩ : ByteArray)] : List ByteArray).map strRow) rfl) ?_
 intro g312
 exact xe_wkL ((wk_pick [1,2,3,4,0,5] [curF B g 85 (.slice A code.length cap) code.length,frF w (fun b => b = g),rowF (cutW w B).heap.size 3 1 (.slice (some ⟨g162,0,none⟩) 7 7) (([0,1,20,31,32,(-1),9223372036854775807] : List Int).map intRow),rowF (cutW w B).heap.size 65 2 (.slice b1a b1m.held.length b1c) (b1m.held.map pceCells),rowF (cutW w B).heap.size 9 1 (.slice (some ⟨g312,0,none⟩) 3 3) (([(⟨#[]⟩ : ByteArray),(⟨#[120]⟩ : ByteArray),(⟨#[121,122]⟩ : ByteArray)] : List ByteArray).map strRow),slF (.slice A code.length cap) 1 (code.map byteRow)] (by kernel_rfl) (by kernel_rfl)).trans <| kF 2 0 [2,3,27,31,32,33]) (by kernel_rfl) (hD12 (g162,y213,g312))
 refine xe_cut (α := Nat × Nat) (fun zz => (fun (g162 : Nat) (g312 : Nat) => (⟨[(2,.p 0 0),(3,.p 1 0),(27,.p 1 2),(29,.v (.pointer (some ⟨g,0,none⟩))),(30,.v (.slice (some ⟨g162,0,none⟩) 7 7)),(32,.v (.pointer (some ⟨g,0,none⟩))),(33,.v (.slice (some ⟨g312,0,none⟩) 3 3))],[⟨26,rcvZ⟩,⟨26,rcvL b1m (.slice b1a b1m.held.length b1c)⟩],[],[curF B g 85 (.slice A code.length cap) code.length,frF w (fun b => b = g),rowF (cutW w B).heap.size 3 1 (.slice (some ⟨g162,0,none⟩) 7 7) (([0,1,20,31,32,(-1),9223372036854775807] : List Int).map intRow),rowF (cutW w B).heap.size 65 2 (.slice b1a b1m.held.length b1c) (b1m.held.map pceCells),rowF (cutW w B).heap.size 9 1 (.slice (some ⟨g312,0,none⟩) 3 3) (([(⟨#[]⟩ : ByteArray),(⟨#[120]⟩ : ByteArray),(⟨#[121,122]⟩ : ByteArray)] : List ByteArray).map strRow),slF (.slice A code.length cap) 1 (code.map byteRow)]⟩ : St)) zz.1 zz.2) 8 #[true,false,true,true,false,true,true,false,false,false,false,false,false] ?_ (fun hD16 => ?_)
 rintro ⟨g162,g312⟩
 dsimp only
 refine kA [1,4] ⟨?_,?_⟩
 refine kSV 1 (.v (.slice b1a b1m.held.length b1c)) rfl ?_
 exact xe_wkL (kF 2 0 [2,3,28,29,30,32,33]) (by kernel_rfl) (hD8 (g162,g312))
 refine xs_know (φ := ¬ (slF (.slice (some ⟨g162,0,none⟩) 7 7) 1 (([0,1,20,31,32,(-1),9223372036854775807] : List Int).map intRow)).blk g) (fun _ _ _ _ hr => fun hb => hr.2.apart 2 0 (rowF (cutW w B).heap.size 3 1 (.slice (some ⟨g162,0,none⟩) 7 7) (([0,1,20,31,32,(-1),9223372036854775807] : List Int).map intRow)) (curF B g 85 (.slice A code.length cap) code.length) rfl rfl (by decide) rfl g (rowF_sblk hb) rfl) (fun hk212 => ?_)
 refine kSW 4 35 [.pointer (some ⟨g,0,none⟩),.slice (some ⟨g162,0,none⟩) 7 7] (some 31) 0 rfl rfl hlo (under_t (under_f rfl under_nil)) (l1PickInt_c_K hBw hap (fun ww hw hf => (rowF_sl (hf _ m2))) hk212 (by simp)) ?_
 rintro ⟨y213,hy213⟩
 exact xe_wkL (kF 2 0 [2,3,27,31,32,33]) (by kernel_rfl) (hD12 (g162,y213,g312))
 refine xe_cut (α := Nat) (fun zz => (fun (g162 : Nat) => (⟨[(2,.p 0 0),(3,.p 1 0),(27,.p 1 2),(29,.v (.pointer (some ⟨g,0,none⟩))),(30,.v (.slice (some ⟨g162,0,none⟩) 7 7)),(32,.v (.pointer (some ⟨g,0,none⟩)))],[⟨26,rcvZ⟩,⟨26,rcvL b1m (.slice b1a b1m.held.length b1c)⟩],[],[curF B g 85 (.slice A code.length cap) code.length,frF w (fun b => b = g),rowF (cutW w B).heap.size 3 1 (.slice (some ⟨g162,0,none⟩) 7 7) (([0,1,20,31,32,(-1),9223372036854775807] : List Int).map intRow),rowF (cutW w B).heap.size 65 2 (.slice b1a b1m.held.length b1c) (b1m.held.map pceCells),slF (.slice A code.length cap) 1 (code.map byteRow)]⟩ : St)) zz) 9 #[true,false,true,true,false,true,false,false,false,false,false,false,false] ?_ (fun hD10 => ?_)
 intro g162
 try dsimp only
 refine kA [1,4,6] ⟨?_,?_,?_⟩
 refine kSV 1 (.v (.slice b1a b1m.held.length b1c)) rfl ?_
 exact xe_wkL (kF 2 0 [2,3,28,29,30,32]) (by kernel_rfl) (hD1 (g162))
 refine xs_know (φ := ¬ (slF (.slice (some ⟨g162,0,none⟩) 7 7) 1 (([0,1,20,31,32,(-1),9223372036854775807] : List Int).map intRow)).blk g) (fun _ _ _ _ hr => fun hb => hr.2.apart 2 0 (rowF (cutW w B).heap.size 3 1 (.slice (some ⟨g162,0,none⟩) 7 7) (([0,1,20,31,32,(-1),9223372036854775807] : List Int).map intRow)) (curF B g 85 (.slice A code.length cap) code.length) rfl rfl (by decide) rfl g (rowF_sblk hb) rfl) (fun hk212 => ?_)
 refine kSW 4 35 [.pointer (some ⟨g,0,none⟩),.slice (some ⟨g162,0,none⟩) 7 7] (some 31) 0 rfl rfl hlo (under_t (under_f rfl under_nil)) (l1PickInt_c_K hBw hap (fun ww hw hf => (rowF_sl (hf _ m2))) hk212 (by simp)) ?_
 rintro ⟨y213,hy213⟩
 exact xe_wkL (kF 2 0 [2,3,27,31,32]) (by kernel_rfl) (hD11 (g162,y213))
 refine kSH 6 rfl (under_t (under_f rfl under_nil)) (hv_build (e := 9) (K := 1) (bytes := 16) [.string (⟨#[]⟩ : ByteArray),.string (⟨#[120]⟩ : ByteArray),.string (⟨#[121,122]⟩ : ByteArray)] rfl (by kernel_rfl) (by kernel_rfl) (by kernel_rfl) (by kernel_rfl) (by kernel_rfl) (rs := ([(⟨#[]⟩ : ByteArray),(⟨#[120]⟩ : ByteArray),(⟨#[121,122]⟩ : ByteArray)] : List ByteArray).map strRow) rfl) ?_
 intro g312
 exact xe_wkL ((wk_pick [1,2,3,4,0,5] [curF B g 85 (.slice A code.length cap) code.length,frF w (fun b => b = g),rowF (cutW w B).heap.size 3 1 (.slice (some ⟨g162,0,none⟩) 7 7) (([0,1,20,31,32,(-1),9223372036854775807] : List Int).map intRow),rowF (cutW w B).heap.size 65 2 (.slice b1a b1m.held.length b1c) (b1m.held.map pceCells),rowF (cutW w B).heap.size 9 1 (.slice (some ⟨g312,0,none⟩) 3 3) (([(⟨#[]⟩ : ByteArray),(⟨#[120]⟩ : ByteArray),(⟨#[121,122]⟩ : ByteArray)] : List ByteArray).map strRow),slF (.slice A code.length cap) 1 (code.map byteRow)] (by kernel_rfl) (by kernel_rfl)).trans <| kF 2 0 [2,3,27,29,30,32,33]) (by kernel_rfl) (hD16 (g162,g312))
 refine xe_cut (α := Nat) (fun zz => (fun (g312 : Nat) => (⟨[(2,.p 0 0),(3,.p 1 0),(27,.p 1 2),(29,.v (.pointer (some ⟨g,0,none⟩))),(32,.v (.pointer (some ⟨g,0,none⟩))),(33,.v (.slice (some ⟨g312,0,none⟩) 3 3))],[⟨26,rcvZ⟩,⟨26,rcvL b1m (.slice b1a b1m.held.length b1c)⟩],[],[curF B g 85 (.slice A code.length cap) code.length,frF w (fun b => b = g),rowF (cutW w B).heap.size 65 2 (.slice b1a b1m.held.length b1c) (b1m.held.map pceCells),rowF (cutW w B).heap.size 9 1 (.slice (some ⟨g312,0,none⟩) 3 3) (([(⟨#[]⟩ : ByteArray),(⟨#[120]⟩ : ByteArray),(⟨#[121,122]⟩ : ByteArray)] : List ByteArray).map strRow),slF (.slice A code.length cap) 1 (code.map byteRow)]⟩ : St)) zz) 9 #[true,false,true,false,false,true,true,false,false,false,false,false,false] ?_ (fun hD17 => ?_)
 intro g312
 try dsimp only
 refine kA [1,3] ⟨?_,?_⟩
 refine kSV 1 (.v (.slice b1a b1m.held.length b1c)) rfl ?_
 exact xe_wkL (kF 2 0 [2,3,28,29,32,33]) (by kernel_rfl) (hD9 (g312))
 refine kSH 3 rfl (under_t (under_f rfl under_nil)) (hv_build (e := 3) (K := 1) (bytes := 8) [.int .i64 0,.int .i64 1,.int .i64 20,.int .i64 31,.int .i64 32,.int .i64 (-1),.int .i64 9223372036854775807] rfl (by kernel_rfl) (by kernel_rfl) (by kernel_rfl) (by kernel_rfl) (by kernel_rfl) (rs := ([0,1,20,31,32,(-1),9223372036854775807] : List Int).map intRow) rfl) ?_
 intro g162
 exact xe_wkL ((wk_pick [1,2,0,3,4,5] [curF B g 85 (.slice A code.length cap) code.length,frF w (fun b => b = g),rowF (cutW w B).heap.size 3 1 (.slice (some ⟨g162,0,none⟩) 7 7) (([0,1,20,31,32,(-1),9223372036854775807] : List Int).map intRow),rowF (cutW w B).heap.size 65 2 (.slice b1a b1m.held.length b1c) (b1m.held.map pceCells),rowF (cutW w B).heap.size 9 1 (.slice (some ⟨g312,0,none⟩) 3 3) (([(⟨#[]⟩ : ByteArray),(⟨#[120]⟩ : ByteArray),(⟨#[121,122]⟩ : ByteArray)] : List ByteArray).map strRow),slF (.slice A code.length cap) 1 (code.map byteRow)] (by kernel_rfl) (by kernel_rfl)).trans <| kF 2 0 [2,3,27,29,30,32,33]) (by kernel_rfl) (hD16 (g162,g312))
 refine kTS [0,2,5] [32,29,27,2,3] 10 [(32,.v (.pointer (some ⟨g,0,none⟩))),(29,.v (.pointer (some ⟨g,0,none⟩))),(27,.p 1 2),(2,.p 0 0),(3,.p 1 0)] ?_
 refine kA [1,3,6] ⟨?_,?_,?_⟩
 refine kSV 1 (.v (.slice b1a b1m.held.length b1c)) rfl ?_
 exact xe_wkL ((wk_pick [0,3,1,2] [curF B g 85 (.slice A code.length cap) code.length,frF w (fun b => b = g),rowF (cutW w B).heap.size 65 2 (.slice b1a b1m.held.length b1c) (b1m.held.map pceCells),slF (.slice A code.length cap) 1 (code.map byteRow)] (by kernel_rfl) (by kernel_rfl)).trans <| kF 2 0 [2,3,28,29,32]) (by kernel_rfl) (hD0 ())
 refine kSH 3 rfl (under_t (under_f rfl under_nil)) (hv_build (e := 3) (K := 1) (bytes := 8) [.int .i64 0,.int .i64 1,.int .i64 20,.int .i64 31,.int .i64 32,.int .i64 (-1),.int .i64 9223372036854775807] rfl (by kernel_rfl) (by kernel_rfl) (by kernel_rfl) (by kernel_rfl) (by kernel_rfl) (rs := ([0,1,20,31,32,(-1),9223372036854775807] : List Int).map intRow) rfl) ?_
 intro g162
 exact xe_wkL ((wk_pick [1,4,0,2,3] [curF B g 85 (.slice A code.length cap) code.length,frF w (fun b => b = g),rowF (cutW w B).heap.size 3 1 (.slice (some ⟨g162,0,none⟩) 7 7) (([0,1,20,31,32,(-1),9223372036854775807] : List Int).map intRow),rowF (cutW w B).heap.size 65 2 (.slice b1a b1m.held.length b1c) (b1m.held.map pceCells),slF (.slice A code.length cap) 1 (code.map byteRow)] (by kernel_rfl) (by kernel_rfl)).trans <| kF 2 0 [2,3,27,29,30,32]) (by kernel_rfl) (hD10 (g162))
 refine kSH 6 rfl (under_t (under_f rfl under_nil)) (hv_build (e := 9) (K := 1) (bytes := 16) [.string (⟨#[]⟩ : ByteArray),.string (⟨#[120]⟩ : ByteArray),.string (⟨#[121,122]⟩ : ByteArray)] rfl (by kernel_rfl) (by kernel_rfl) (by kernel_rfl) (by kernel_rfl) (by kernel_rfl) (rs := ([(⟨#[]⟩ : ByteArray),(⟨#[120]⟩ : ByteArray),(⟨#[121,122]⟩ : ByteArray)] : List ByteArray).map strRow) rfl) ?_
 intro g312
 exact xe_wkL ((wk_pick [1,4,2,0,3] [curF B g 85 (.slice A code.length cap) code.length,frF w (fun b => b = g),rowF (cutW w B).heap.size 65 2 (.slice b1a b1m.held.length b1c) (b1m.held.map pceCells),rowF (cutW w B).heap.size 9 1 (.slice (some ⟨g312,0,none⟩) 3 3) (([(⟨#[]⟩ : ByteArray),(⟨#[120]⟩ : ByteArray),(⟨#[121,122]⟩ : ByteArray)] : List ByteArray).map strRow),slF (.slice A code.length cap) 1 (code.map byteRow)] (by kernel_rfl) (by kernel_rfl)).trans <| kF 2 0 [2,3,27,29,32,33]) (by kernel_rfl) (hD17 (g312))
 have h10p := eqF h10
 refine kQ ?_
 refine kED [0,2,3,39] [(39,.v (.bool (y2 == 4)))] ?_
 refine kC (y2 == 4) (fun h674 => ?_) (fun h674 => ?_)
 have h674p := eqT h674
 refine kG ?_
 refine kWD 1 [2,3,41] [(41,.v (.pointer (some ⟨g,0,none⟩)))] 45 [.pointer (some ⟨g,0,none⟩),.int .i64 3] (some 42) 0 rfl rfl hlo (l1Below_c_K hBw hap) ?_
 rintro ⟨y675,hy675⟩
 obtain ⟨hy6750,hy6751⟩ := hy675
 refine kCS 1 [2,3,43] [(2,.p 0 0),(3,.p 1 0),(43,.v (.int .i64 (IntKind.i64.wrap (31 + y675))))] 75 [.int .i64 (IntKind.i64.wrap (31 + y675))] (some 44) rfl (xc_b fun ww hf => l5Long_c (IntKind.i64.wrap (31 + y675)) ww (by first | omega | (rw [wrap_id (by omega) (by omega)]; omega))) ?_
 intro _
 refine kRF 2 [2,3] ⟨[(2,.p 0 0),(3,.p 1 0)],[⟨26,rcvZ⟩,⟨26,rcvL { b1m with data := bstr (List.replicate ((IntKind.i64.wrap (31 + y675))).toNat 0) } (.slice b1a b1m.held.length b1c)⟩],[],[curF B g 85 (.slice A code.length cap) code.length,rowF (cutW w B).heap.size 65 2 (.slice b1a b1m.held.length b1c) (b1m.held.map pceCells),slF (.slice A code.length cap) 1 (code.map byteRow),frF w (fun b => b = g)]⟩ ?_
 refine xl_eq (st' := ⟨[(2,.p 0 0),(3,.p 1 0)],[⟨26,rcvZ⟩,⟨26,rcvL { b1m with data := bstr (List.replicate ((31 + y675)).toNat 0) } (.slice b1a b1m.held.length b1c)⟩],[],[curF B g 85 (.slice A code.length cap) code.length,rowF (cutW w B).heap.size 65 2 (.slice b1a b1m.held.length b1c) (b1m.held.map pceCells),slF (.slice A code.length cap) 1 (code.map byteRow),frF w (fun b => b = g)]⟩) (by rw [show (IntKind.i64.wrap (31 + y675)) = (31 + y675) from wrap_id (by omega) (by omega)] <;> rfl) ?_
 refine kED [2,3] [] ?_
 exact ⟨⟨({ b1m with data := bstr (List.replicate ((31 + y675)).toNat 0) },b1a,b1c),⟨Nat.le_trans hb1.1 (by decide),hb1.2.1,(by show (bstr _).size ≤ 65; rw [bstr_size,List.length_replicate]; omega)⟩⟩,(wk_pick [1,0,2,3] [rowF (cutW w B).heap.size 65 2 (.slice b1a b1m.held.length b1c) (b1m.held.map pceCells),curF B g 85 (.slice A code.length cap) code.length,slF (.slice A code.length cap) 1 (code.map byteRow),frF w (fun b => b = g)] (by kernel_rfl) (by kernel_rfl)).trans <| kF 2 0 [2,3]⟩
 have h674p := eqF h674
 refine kK ?_
 exact ⟨⟨(b1m,b1a,b1c),⟨Nat.le_trans hb1.1 (by decide),hb1.2.1,hb1.2.2⟩⟩,(wk_pick [1,0,2,3] [rowF (cutW w B).heap.size 65 2 (.slice b1a b1m.held.length b1c) (b1m.held.map pceCells),curF B g 85 (.slice A code.length cap) code.length,slF (.slice A code.length cap) 1 (code.map byteRow),frF w (fun b => b = g)] (by kernel_rfl) (by kernel_rfl)).trans <| kF 2 0 [2,3]⟩
 rintro ⟨⟨q,A3,c3⟩,hq⟩
 try dsimp only
 try dsimp only at hq
 refine kQ ?_
 refine kEU [2] [(2,.p 0 0)] 0 ⟨26,rcvL q (.slice A3 q.held.length c3)⟩ ?_
 refine kR ?_
 exact ⟨[.agg (rcvL q (.slice A3 q.held.length c3)).toArray],by kernel_rfl,fun w' hb hf ha => ⟨⟨(q,A3,c3),hq⟩,rfl,hf (curF B g 85 (.slice A code.length cap) code.length) (by simp),rowF_raise (hf (rowF (cutW w B).heap.size 65 2 (.slice A3 q.held.length c3) (q.held.map pceCells)) (by simp)) (own_new ha (i := 0) (j := 1) (k := 3) rfl rfl rfl rfl (by decide) (by decide)),hgl,frF_chgd (hf (frF w (fun b => b = g)) (by simp)) hb rfl rfl rfl⟩⟩
theorem drawArrived_c (code : List Int) (A : Option Addr) (cap : Nat) (w : World) (hl : Sl w (.slice A code.length cap) 1 (code.map byteRow)) (hn : code.length ≤ 1048576) : Calls Try.prog 29 #[.slice A code.length cap] w fun e w' => ∃ y : {y : (Rcv × Int × ByteArray × Bool) × (Option Addr × Nat) // RB 4 y.1.1 ∧ y.1.2.2.1.size ≤ 4096}, e = .returned (.tuple #[.agg (rcvL y.1.1.1 (.slice y.1.2.1 y.1.1.1.held.length y.1.2.2)).toArray, .int .i64 y.1.1.2.1, .string y.1.1.2.2.1, .bool y.1.1.2.2.2]) ∧ (newF w.heap.size (.slice y.1.2.1 y.1.1.1.held.length y.1.2.2) 2 (y.1.1.1.held.map pceCells)).p w' ∧ Below w.heap.size w w' := by
 have hq_code := Sl.capLe hl
 refine x_callsA (args := [.slice A code.length cap]) (fn := Try.f29) [slF (.slice A code.length cap) 1 (code.map byteRow)] Try.func29 rfl Try.ntmps29 rfl (by simp only [List.mem_cons,List.not_mem_nil,or_false,forall_eq]; exact ⟨rfl,hl⟩) ?_
 refine kQ ?_
 refine kEF [0,2] ⟨[(0,.v (.slice A code.length cap)),(2,.p 0 0)],[⟨26,rcvZ⟩],[],[slF (.slice A code.length cap) 1 (code.map byteRow)]⟩ ?_
 refine kQ ?_
 refine kCD 1 [2,11] [(11,.v (.slice A code.length cap))] 33 [.slice A code.length cap] (some 12) rfl (xc_new fun ww hw hf => l1New_c code A cap ww (hf _ m0) (by omega)) ?_
 rintro ⟨g1,hapg1⟩
 refine kED [2,6] [(6,.v (.pointer (some ⟨g1,0,none⟩)))] ?_
 refine kQ ?_
 refine kWD 1 [2,6,13] [(13,.v (.pointer (some ⟨g1,0,none⟩)))] 34 [.pointer (some ⟨g1,0,none⟩)] (some 14) 0 rfl rfl (fun ww b h hb => cur_lo h hb) (xcm_curR fun ww hw hf => l18Bent_c g1 code A cap ww w.heap.size hw (hf (curF w.heap.size g1 85 (.slice A code.length cap) code.length) (by simp)) (hf _ m1) hapg1 (by omega)) ?_
 rintro ⟨⟨b2m,b2a,b2c⟩,hb2⟩
 dsimp only at hb2
 have hb2n := hb2.1
 have hb2m := hb2.hm; have hb2z := hb2.sz
 refine kEA [2,6,7] [(7,.p 1 0)] [⟨26,rcvL b2m (.slice b2a b2m.held.length b2c)⟩] ?_
 refine kQ ?_
 refine kWD 2 [2,6,7,16,17] [(16,.v (.pointer (some ⟨g1,0,none⟩))),(17,.v (.agg (rcvL b2m (.slice b2a b2m.held.length b2c)).toArray))] 62 [.pointer (some ⟨g1,0,none⟩),.agg (rcvL b2m (.slice b2a b2m.held.length b2c)).toArray] (some 18) 1 rfl rfl (fun ww b h hb => cur_lo h hb) (l18Stream_c_K (Nat.le_refl _) hapg1) ?_
 rintro ⟨y3,hy3⟩
 refine kED [2,6,7,8,9,10] [(8,.v (.int .i64 y3.1)),(9,.v (.string y3.2.1)),(10,.v (.bool y3.2.2))] ?_
 refine kS ?_
 refine kQ ?_
 refine kWD 1 [2,6,7,8,9,10,22] [(22,.v (.pointer (some ⟨g1,0,none⟩)))] 63 [.pointer (some ⟨g1,0,none⟩),.int .i64 8] (some 23) 0 rfl rfl (fun ww b h hb => cur_lo h hb) (l1Once_c_K (Nat.le_refl _) hapg1) ?_
 rintro ⟨y4,hy4⟩
 refine kED [2,6,7,8,9,10,23] [] ?_
 refine kC (y4) (fun h5 => ?_) (fun h5 => ?_)
 refine kG ?_
 refine kWD 1 [2,7,8,9,10,24] [(24,.v (.pointer (some ⟨g1,0,none⟩)))] 64 [.pointer (some ⟨g1,0,none⟩)] (some 25) 0 rfl rfl (fun ww b h hb => cur_lo h hb) (l4Place_c_K (Nat.le_refl _) hapg1) ?_
 rintro ⟨y6,hy6⟩
 refine kED [2,7,8,9,10] [(8,.v (.int .i64 y6))] ?_
 refine kQ ?_
 refine kEF [2,3,4,5] ⟨[(2,.p 0 0),(3,.v (.int .i64 y6)),(4,.v (.string y3.2.1)),(5,.v (.bool y3.2.2))],[⟨26,rcvL b2m (.slice b2a b2m.held.length b2c)⟩,⟨26,rcvL b2m (.slice b2a b2m.held.length b2c)⟩],[],[curF w.heap.size g1 85 (.slice A code.length cap) code.length,rowF w.heap.size 65 2 (.slice b2a b2m.held.length b2c) (b2m.held.map pceCells),slF (.slice A code.length cap) 1 (code.map byteRow)]⟩ ?_
 refine kR ?_
 exact ⟨[.agg (rcvL b2m (.slice b2a b2m.held.length b2c)).toArray,.int .i64 y6,.string y3.2.1,.bool y3.2.2],by kernel_rfl,fun w' hb hf ha => ⟨⟨((b2m,y6,y3.2.1,y3.2.2),b2a,b2c),⟨hb2,(by first | assumption | (show (bstr _).size ≤ 4096; rw [bstr_size]; omega))⟩⟩,rfl,newF_row (hf (rowF w.heap.size 65 2 (.slice b2a b2m.held.length b2c) (b2m.held.map pceCells)) (by simp)) (fun b hb => rowF_lo (hf (rowF w.heap.size 65 2 (.slice b2a b2m.held.length b2c) (b2m.held.map pceCells)) (by simp)) hb),hb⟩⟩
 refine kK ?_
 refine kQ ?_
 refine kEU [2,3,4,5] [(3,.v (.int .i64 y3.1)),(4,.v (.string y3.2.1)),(5,.v (.bool y3.2.2))] 0 ⟨26,rcvL b2m (.slice b2a b2m.held.length b2c)⟩ ?_
 refine kR ?_
 exact ⟨[.agg (rcvL b2m (.slice b2a b2m.held.length b2c)).toArray,.int .i64 y3.1,.string y3.2.1,.bool y3.2.2],by kernel_rfl,fun w' hb hf ha => ⟨⟨((b2m,y3.1,y3.2.1,y3.2.2),b2a,b2c),⟨hb2,(by first | assumption | (show (bstr _).size ≤ 4096; rw [bstr_size]; omega))⟩⟩,rfl,newF_row (hf (rowF w.heap.size 65 2 (.slice b2a b2m.held.length b2c) (b2m.held.map pceCells)) (by simp)) (fun b hb => rowF_lo (hf (rowF w.heap.size 65 2 (.slice b2a b2m.held.length b2c) (b2m.held.map pceCells)) (by simp)) hb),hb⟩⟩

theorem arrStore_c (B gh gd bh bd W off : Nat) (sl : List Int) (x : Int) (w : World) (hB : B ≤ w.heap.size) (hF : (arrF B gh gd bh bd 78 22 4 5 W sl).p w) (hlen : W ≤ sl.length) (ho : off < W) (hx : 0 ≤ x ∧ x ≤ 255) : Calls Try.prog 65 #[.int .i64 (off : Int), .int .u8 x, .pointer (some ⟨gh, 0, none⟩), .pointer (some ⟨gd, 0, none⟩)] w fun e w' => e = .returned (.tuple #[]) ∧ (arrF B gh gd bh bd 78 22 4 5 W (stOne sl off x)).p w' ∧ Chgd (arrF B gh gd bh bd 78 22 4 5 W sl).blk w w' := by
 obtain ⟨hF4,hFa⟩ := hF
 simp only [List.mem_cons,List.not_mem_nil,or_false,forall_eq_or_imp,forall_eq] at hF4
 obtain ⟨hF1,hF2,hF3,hF5⟩ := hF4
 obtain ⟨z,hz⟩ : ∃ z,sl[off]? = some z := ⟨_,List.getElem?_eq_getElem (by omega)⟩
 refine x_callsMA (args := [.int .i64 (off : Int),.int .u8 x,.pointer (some ⟨gh,0,none⟩),.pointer (some ⟨gd,0,none⟩)]) (fn := Try.f65) [cellF B gh 78 [.slice (some ⟨bh,0,none⟩) W W],cellF B gd 22 [.slice (some ⟨bd,0,none⟩) W W],rowF B 4 1 (.slice (some ⟨bh,0,none⟩) W W) ((hvOf W sl).map boolRow),rowF B 5 1 (.slice (some ⟨bd,0,none⟩) W W) ((dtOf W sl).map byteRow),frF w (arrF B gh gd bh bd 78 22 4 5 W sl).blk] B Try.func65 rfl Try.ntmps65 rfl hB (by simp only [List.mem_cons,List.not_mem_nil,or_false,forall_eq_or_imp,forall_eq]; exact ⟨hF1,hF2,hF3,hF5,frF_start w _⟩) (apart_frS hFa fun g hg b hb => ⟨g,hg,hb⟩) ?_
 refine kQ ?_
 refine kOF 0 [0,1,2,3] ⟨[(0,.v (.int .i64 (off : Int))),(1,.v (.int .u8 x)),(2,.v (.pointer (some ⟨gh,0,none⟩))),(3,.v (.pointer (some ⟨gd,0,none⟩)))],[],[],[cellF B gh 78 [.slice (some ⟨bh,0,none⟩) W W],cellF B gd 22 [.slice (some ⟨bd,0,none⟩) W W],rowF B 4 1 (.slice (some ⟨bh,0,none⟩) W W) ((hvOf W sl).map boolRow),rowF B 5 1 (.slice (some ⟨bd,0,none⟩) W W) ((dtOf W sl).map byteRow),frF w (arrF B gh gd bh bd 78 22 4 5 W sl).blk]⟩ (.slice (some ⟨bh,0,none⟩) W W) rfl (fun _ _ _ ww hr => ldP_run (off := 0) (B := B) (g := gh) (T := 78) (cs := [.slice (some ⟨bh,0,none⟩) W W]) hr rfl (by kernel_rfl) (by simp) (by kernel_rfl)) ?_
 refine kOD 1 [0,1,2,3,6,7] [(7,.v (.int .i64 (off : Int)))] (.pointer (some ⟨bh,off * 1,none⟩)) rfl (fun _ _ _ ww hr => act_ix (kd := .i64) (T := 78) (e := 4) (K := 1) (g := bh) (N := W) (cap := W) off rfl hr.1 rfl rfl (by kernel_rfl) (by kernel_rfl) (by kernel_rfl) ho ww) ?_
 refine kOD 0 [0,1,2,3,8] [] (.bool (decide (0 ≤ z))) rfl (fun _ _ _ ww hr => ldR_run (po := 0) (j := off) (row := [.bool (decide (0 ≤ z))]) (rowF B 4 1 (.slice (some ⟨bh,0,none⟩) W W) ((hvOf W sl).map boolRow)) hr rfl (by kernel_rfl) (by simp) (by simp only [List.getElem?_map,hvOf_get ho hz]; rfl) (by kernel_rfl) rfl rfl rfl) ?_
 refine kED [0,1,2,3,10] [(10,.v (.bool (!(decide (0 ≤ z)))))] ?_
 refine kC (!(decide (0 ≤ z))) (fun h1 => ?_) (fun h1 => ?_)
 have h1n := not_t h1
 have hzz := of_decide_eq_false h1n
 refine kQ ?_
 refine kOD 0 [0,1,2,3] [] (.slice (some ⟨bh,0,none⟩) W W) rfl (fun _ _ _ ww hr => ldP_run (off := 0) (B := B) (g := gh) (T := 78) (cs := [.slice (some ⟨bh,0,none⟩) W W]) hr rfl (by kernel_rfl) (by simp) (by kernel_rfl)) ?_
 refine kOD 1 [0,1,3,11,12] [(12,.v (.int .i64 (off : Int)))] (.pointer (some ⟨bh,off * 1,none⟩)) rfl (fun _ _ _ ww hr => act_ix (kd := .i64) (T := 78) (e := 4) (K := 1) (g := bh) (N := W) (cap := W) off rfl hr.1 rfl rfl (by kernel_rfl) (by kernel_rfl) (by kernel_rfl) ho ww) ?_
 refine xl_hs 0 [0,1,3,13] ⟨[(0,.v (.int .i64 (off : Int))),(1,.v (.int .u8 x)),(3,.v (.pointer (some ⟨gd,0,none⟩))),(13,.v (.pointer (some ⟨bh,off * 1,none⟩)))],[],[],[cellF B gh 78 [.slice (some ⟨bh,0,none⟩) W W],cellF B gd 22 [.slice (some ⟨bd,0,none⟩) W W],rowF B 4 1 (.slice (some ⟨bh,0,none⟩) W W) ((hvOf W sl).map boolRow),rowF B 5 1 (.slice (some ⟨bd,0,none⟩) W W) ((dtOf W sl).map byteRow),frF w (arrF B gh gd bh bd 78 22 4 5 W sl).blk]⟩ (by kernel_rfl) rfl (by kernel_rfl) rfl (by kernel_rfl) (HSg.hs (hs_stR (g := bh) (B := B) (e := 4) (K := 1) (N := W) (cap := W) (rs := ((hvOf W sl).map boolRow)) (rs' := ((hvOf W sl).set off true).map boolRow) (v := (.bool true)) (i := 2) (off := off * 1) off 0 [.bool (decide (0 ≤ z))] (row' := [.bool true]) rfl rfl (by kernel_rfl) rfl (by kernel_rfl) (by kernel_rfl) (by kernel_rfl) (by kernel_rfl) (cutW_le w B) (by simp only [List.getElem?_map,hvOf_get ho hz]; rfl) (by kernel_rfl) rfl (by rw [List.map_set]; rfl))) ?_
 refine kED [0,1,3] [] ?_
 refine kG ?_
 refine kOD 0 [0,1,3] [] (.slice (some ⟨bd,0,none⟩) W W) rfl (fun _ _ _ ww hr => ldP_run (off := 0) (B := B) (g := gd) (T := 22) (cs := [.slice (some ⟨bd,0,none⟩) W W]) hr rfl (by kernel_rfl) (by simp) (by kernel_rfl)) ?_
 refine kOD 2 [14,15,16] [(15,.v (.int .i64 (off : Int))),(16,.v (.int .u8 x))] (.pointer (some ⟨bd,off * 1,none⟩)) rfl (fun _ _ _ ww hr => act_ix (kd := .i64) (T := 22) (e := 5) (K := 1) (g := bd) (N := W) (cap := W) off rfl hr.1 rfl rfl (by kernel_rfl) (by kernel_rfl) (by kernel_rfl) ho ww) ?_
 refine xl_hs 0 [16,17] ⟨[(16,.v (.int .u8 x)),(17,.v (.pointer (some ⟨bd,off * 1,none⟩)))],[],[],[rowF B 4 1 (.slice (some ⟨bh,0,none⟩) W W) (((hvOf W sl).set off true).map boolRow),cellF B gh 78 [.slice (some ⟨bh,0,none⟩) W W],cellF B gd 22 [.slice (some ⟨bd,0,none⟩) W W],rowF B 5 1 (.slice (some ⟨bd,0,none⟩) W W) ((dtOf W sl).map byteRow),frF w (arrF B gh gd bh bd 78 22 4 5 W sl).blk]⟩ (by kernel_rfl) rfl (by kernel_rfl) rfl (by kernel_rfl) (HSg.hs (hs_stR (g := bd) (B := B) (e := 5) (K := 1) (N := W) (cap := W) (rs := ((dtOf W sl).map byteRow)) (rs' := ((dtOf W sl).set off x).map byteRow) (v := (.int .u8 x)) (i := 3) (off := off * 1) off 0 [.int .u8 (max z 0)] (row' := [.int .u8 x]) rfl rfl (by kernel_rfl) rfl (by kernel_rfl) (by kernel_rfl) (by kernel_rfl) (by kernel_rfl) (cutW_le w B) (by simp only [List.getElem?_map,dtOf_get ho hz]; rfl) (by kernel_rfl) rfl (by rw [List.map_set]; rfl))) ?_
 refine kES [] [] ?_
 exact ⟨[],by kernel_rfl,fun w' hb hf ha => ⟨rfl,(by rw [stOne_free hz (by omega)]; unfold arrF; rw [← hvOf_set hx.1,← dtOf_set hx.1]; exact allF_pick [2,3,1,0] hf ha (by kernel_rfl) (by kernel_rfl)),frF_chgd (hf (frF w (arrF B gh gd bh bd 78 22 4 5 W sl).blk) (by simp)) hb rfl rfl rfl⟩⟩
 have h1n := not_f h1
 have hzz := of_decide_eq_true h1n
 refine kK ?_
 exact ⟨[],by kernel_rfl,fun w' hb hf ha => ⟨rfl,(by rw [stOne_full hz (by omega)]; exact allF_pick [0,1,2,3] hf ha (by kernel_rfl) (by kernel_rfl)),frF_chgd (hf (frF w (arrF B gh gd bh bd 78 22 4 5 W sl).blk) (by simp)) hb rfl rfl rfl⟩⟩
theorem yIndexB_c (l : List Bool) (lV : Value) (b : Bool) (w : World) (hl_lV : Sl w lV 1 (l.map boolRow))  : Calls Try.prog 95 #[lV, .bool b] w fun e w' => e = .returned (.int .i64 (idxL b l 0)) ∧ Below w.heap.size w w' := by
 obtain ⟨Al,Cl,hvl⟩ := hl_lV.form
 rw [List.length_map] at hvl; subst hvl
 have hnl := hl_lV.len; rw [List.length_map] at hnl
 have hql := Sl.capLe hl_lV
 refine x_calls (args := [.slice Al l.length Cl,.bool b]) (fn := Try.f95) [slF (.slice Al l.length Cl) 1 (l.map boolRow)] Try.func95 rfl Try.ntmps95 rfl (by simp only [List.mem_cons,List.not_mem_nil,or_false,forall_eq_or_imp,forall_eq]; exact ⟨rfl,hl_lV⟩) ?_
 refine kQ ?_
 refine kEF [0,1] ⟨[(0,.v (.slice Al l.length Cl)),(1,.v (.bool b))],[],[],[slF (.slice Al l.length Cl) 1 (l.map boolRow)]⟩ ?_
 refine kS ?_
 refine kQ ?_
 refine kED [0,1,7,8] [(7,.v (.int .i64 ((l.length : Nat) : Int))),(8,.v (.int .i64 0))] ?_
 refine xw_block ?_
 refine xw_loopW (α := {x : Nat // (fun (k : Nat) => k ≤ l.length ∧ idxL b l 0 = idxL b (l.drop k) k) x}) (fun x => (fun (k : Nat) => (⟨[(0,.v (.slice Al l.length Cl)),(1,.v (.bool b)),(7,.v (.int .i64 ((l.length : Nat) : Int))),(8,.v (.int .i64 (k : Int)))],[],[],[slF (.slice Al l.length Cl) 1 (l.map boolRow)]⟩ : St)) x.1) (fun x => l.length - x.1) ⟨(0),⟨Nat.zero_le _,rfl⟩⟩ (kF 0 0 [0,1,7,8]) ?_
 rintro ⟨k,hk,HK⟩
 try dsimp only
 try dsimp only at hk HK
 refine kQ ?_
 refine kED [0,1,7,8,9] [(9,.v (.bool (decide ((k : Int) < ((l.length : Nat) : Int)))))] ?_
 refine kS ?_
 refine kC (decide ((k : Int) < ((l.length : Nat) : Int))) (fun h1 => ?_) (fun h1 => ?_)
 have h1p := of_decide_eq_true h1
 have hlt : k < l.length := by simpa using h1
 obtain ⟨x,hx⟩ : ∃ x,l[k]? = some x := ⟨_,List.getElem?_eq_getElem hlt⟩
 refine kK ?_
 refine kS ?_
 refine xw_block ?_
 refine kQ ?_
 refine kED [0,1,5,7,8] [(5,.v (.int .i64 (k : Int)))] ?_
 refine kQ ?_
 refine xl_indexD (kd := .i64) (T := 78) (e := 4) (K := 1) 3 [0,1,5,7,8,11,12,13] [(11,.v (.bool b)),(12,.v (.slice Al l.length Cl)),(13,.v (.int .i64 (k : Int)))] k [.bool x] (slF (.slice Al l.length Cl) 1 (l.map boolRow)) (by kernel_rfl) rfl (by kernel_rfl) rfl rfl (by kernel_rfl) (by kernel_rfl) (by kernel_rfl) (by kernel_rfl) hlt (by simp) (fun w h => h) (fun b h => h) (by simp only [List.getElem?_map,hx]; rfl) ?_
 refine kED [0,1,5,7,8,16] [(16,.v (.bool (b == x)))] ?_
 refine kC (b == x) (fun h2 => ?_) (fun h2 => ?_)
 have h2p := eqT h2
 refine kQ ?_
 refine kES [4] [(4,.v (.int .i64 (k : Int)))] ?_
 refine kR ?_
 have hmod : idxL b l 0 = (k : Int) := by first | exact HK | (rw [HK,drop_cons_of hx,idxL,if_pos (by assumption)])
 exact ⟨[.int .i64 (k : Int)],by kernel_rfl,fun w' hb hf => by rw [hmod]; exact ⟨rfl,hb⟩⟩
 have h2p := eqF h2
 refine kK ?_
 refine kG ?_
 refine kRS 2 [0,1,7,8] [(0,.v (.slice Al l.length Cl)),(1,.v (.bool b)),(7,.v (.int .i64 ((l.length : Nat) : Int))),(8,.v (.int .i64 (IntKind.i64.wrap ((k : Int) + 1))))] ?_
 refine xl_eqS (t' := [(0,.v (.slice Al l.length Cl)),(1,.v (.bool b)),(7,.v (.int .i64 ((l.length : Nat) : Int))),(8,.v (.int .i64 ((k : Int) + 1)))]) (by rw [show (IntKind.i64.wrap ((k : Int) + 1)) = ((k : Int) + 1) from wrap_id (by omega) (by omega)]) ?_
 refine kED [0,1,7,8] [] ?_
 exact ⟨⟨(k + 1),⟨by omega,by rw [HK,drop_cons_of hx,idxL,if_neg (by assumption)]⟩⟩,kF 0 0 [0,1,7,8],by show l.length - (k + 1) < l.length - k; omega⟩
 have h1p := of_decide_eq_false h1
 have hge : k = l.length := by simp at h1; omega
 subst hge; rw [List.drop_length] at HK
 refine xw_exit ?_
 refine kQ ?_
 refine kES [4] [(4,.v (.int .i64 (-1)))] ?_
 refine kR ?_
 have hmod : idxL b l 0 = (-1) := by first | exact HK | (rw [HK,drop_cons_of hx,idxL,if_pos (by assumption)])
 exact ⟨[.int .i64 (-1)],by kernel_rfl,fun w' hb hf => by rw [hmod]; exact ⟨rfl,hb⟩⟩
theorem yContainsB_c (l : List Bool) (lV : Value) (b : Bool) (w : World) (hl_lV : Sl w lV 1 (l.map boolRow))  : Calls Try.prog 67 #[lV, .bool b] w fun e w' => e = .returned (.bool (hasB l b)) ∧ Below w.heap.size w w' := by
 obtain ⟨Al,Cl,hvl⟩ := hl_lV.form
 rw [List.length_map] at hvl; subst hvl
 have hnl := hl_lV.len; rw [List.length_map] at hnl
 have hql := Sl.capLe hl_lV
 refine x_calls (args := [.slice Al l.length Cl,.bool b]) (fn := Try.f67) [slF (.slice Al l.length Cl) 1 (l.map boolRow)] Try.func67 rfl Try.ntmps67 rfl (by simp only [List.mem_cons,List.not_mem_nil,or_false,forall_eq_or_imp,forall_eq]; exact ⟨rfl,hl_lV⟩) ?_
 refine kQ ?_
 refine kEF [0,1] ⟨[(0,.v (.slice Al l.length Cl)),(1,.v (.bool b))],[],[],[slF (.slice Al l.length Cl) 1 (l.map boolRow)]⟩ ?_
 refine kQ ?_
 refine kCS 2 [5,6] [(5,.v (.slice Al l.length Cl)),(6,.v (.bool b))] 95 [.slice Al l.length Cl,.bool b] (some 7) rfl (xc_b fun ww hf => yIndexB_c l (.slice Al l.length Cl) b ww (hf _ m0) ) ?_
 intro _
 refine kES [4] [(4,.v (.bool (decide ((idxL b l 0) ≥ 0))))] ?_
 refine kR ?_
 have hmod : hasB l b = (decide ((idxL b l 0) ≥ 0)) := by first | exact (idx_has _ _ _).symm
 exact ⟨[.bool (decide ((idxL b l 0) ≥ 0))],by kernel_rfl,fun w' hb hf => by rw [hmod]; exact ⟨rfl,hb⟩⟩
theorem yiArrived_c (r : Rcv) (r_heldV : Value) (seq : Int) (text : ByteArray) (fin : Bool) (w : World) (hl_r_heldV : Sl w r_heldV 2 (r.held.map pceCells)) (hkn : r.held.length ≤ 1048576) (hm : ∀ p ∈ r.held, p.text.size ≤ 1048576) (hsz : r.data.size ≤ 4611686018427387904) (hts : text.size ≤ 4611686018427387904) (B : Nat) (hB : B ≤ w.heap.size) : Calls Try.prog 30 #[.agg (rcvL r r_heldV).toArray, .int .i64 seq, .string text, .bool fin] w fun e w' => XRs w w' e (α := Option Addr × Nat) (fun y => .agg (rcvL (arrived r seq text fin) (.slice y.1 ((arrived r seq text fin).held.length) y.2)).toArray) (fun y => [ownF B (.slice y.1 ((arrived r seq text fin).held.length) y.2) 2 ((arrived r seq text fin).held.map pceCells)]) := by
 obtain ⟨Arh,Crh,hvrh⟩ := hl_r_heldV.form
 rw [List.length_map] at hvrh; subst hvrh
 have hnrh := hl_r_heldV.len; rw [List.length_map] at hnrh
 have hqrh := Sl.capLe hl_r_heldV
 refine x_callsA (args := [.agg (rcvL r (.slice Arh r.held.length Crh)).toArray,.int .i64 seq,.string text,.bool fin]) (fn := Try.f30) [slF (.slice Arh r.held.length Crh) 2 (r.held.map pceCells)] Try.func30 rfl Try.ntmps30 rfl (by simp only [List.mem_cons,List.not_mem_nil,or_false,forall_eq_or_imp,forall_eq]; exact ⟨rfl,hl_r_heldV⟩) ?_
 refine kQ ?_
 refine kEF [1,2,3,4,8] ⟨[(1,.v (.int .i64 seq)),(2,.v (.string text)),(3,.v (.bool fin)),(4,.p 0 0),(8,.p 1 0)],[⟨26,rcvL r (.slice Arh r.held.length Crh)⟩,⟨26,rcvZ⟩],[],[slF (.slice Arh r.held.length Crh) 2 (r.held.map pceCells)]⟩ ?_
 refine kQ ?_
 refine kCD 1 [1,2,3,4,8,24] [(24,.v (.agg (rcvL r (.slice Arh r.held.length Crh)).toArray))] 36 [.agg (rcvL r (.slice Arh r.held.length Crh)).toArray] (some 25) rfl (xc_r fun ww hw hf => ycloneReceiver_c r (.slice Arh r.held.length Crh) ww (hf _ m0) (by assumption) w.heap.size hw) ?_
 rintro ⟨v1a,v1c⟩
 refine kEA [1,2,3,4,8,9] [(9,.p 2 0)] [⟨26,rcvL r (.slice v1a r.held.length v1c)⟩] ?_
 refine kS ?_
 refine kQ ?_
 refine kCD 1 [1,2,3,4,8,9,26] [(26,.v (.agg (rcvL r (.slice Arh r.held.length Crh)).toArray))] 14 [.agg (rcvL r (.slice Arh r.held.length Crh)).toArray] (some 27) rfl (xc_b fun ww hf => yiReceiverOk_c r (.slice Arh r.held.length Crh) ww (hf _ m1) (by assumption) (by omega)) ?_
 intro _
 refine kRD 2 [1,2,3,4,8,9,29] [(29,.v (.bool (!(receiverOk r))))] ?_
 refine kP 29 (!(receiverOk r)) (fun h2 => ?_) (fun h2 => ?_)
 have h2n := not_t h2
 refine kED [1,2,3,4,8,9,32] [(32,.v (.bool true))] ?_
 refine kT ?_
 refine kQ ?_
 refine kEU [8] [(8,.p 1 0)] 1 ⟨26,rcvL r (.slice v1a r.held.length v1c)⟩ ?_
 refine kR ?_
 have hmod : arrived r seq text fin = r := by first | exact arrived_over hrk (by assumption) (by rw [← hall,← hnf,hpc]; omega) | (unfold arrived; rw [if_neg (by grind)]; done) | (unfold arrived; rw [if_pos (by grind),← hall,← hnf,hpc,← hfp]; first | (rw [if_pos (by omega)]; done) | (rw [if_neg (by omega),if_pos (by first | omega | simp_all)]; done) | (rw [if_neg (by omega),if_neg (by first | omega | simp_all)]; done))
 exact ⟨[.agg (rcvL r (.slice v1a r.held.length v1c)).toArray],by kernel_rfl,fun w' hb hf ha => by rw [hmod]; exact xo1 ((v1a,v1c)) rfl rfl (pO (hf _ m0) hB) hb⟩
 have h2n := not_f h2
 have hrk := h2n
 obtain ⟨hf0,hf1,hf2,hf3,hf4,hheld⟩ := rok_facts h2n
 have hwb := windowOf_bd r
 have hN := slotsOf_len r
 obtain ⟨W,hW⟩ : ∃ W : Nat,windowOf r = (W : Int) := ⟨(windowOf r).toNat,by omega⟩
 have hW2 : W ≤ 32 := by omega
 have hM : (if r.fin = -1 then windowOf r else r.fin) ≤ (W : Int) := by split <;> omega
 refine kED [1,2,3,4,8,9,32] [(32,.v (.bool r.done))] ?_
 refine kC (r.done) (fun h3 => ?_) (fun h3 => ?_)
 refine kQ ?_
 refine kEU [8] [(8,.p 1 0)] 1 ⟨26,rcvL r (.slice v1a r.held.length v1c)⟩ ?_
 refine kR ?_
 have hmod : arrived r seq text fin = r := by first | exact arrived_over hrk (by assumption) (by rw [← hall,← hnf,hpc]; omega) | (unfold arrived; rw [if_neg (by grind)]; done) | (unfold arrived; rw [if_pos (by grind),← hall,← hnf,hpc,← hfp]; first | (rw [if_pos (by omega)]; done) | (rw [if_neg (by omega),if_pos (by first | omega | simp_all)]; done) | (rw [if_neg (by omega),if_neg (by first | omega | simp_all)]; done))
 exact ⟨[.agg (rcvL r (.slice v1a r.held.length v1c)).toArray],by kernel_rfl,fun w' hb hf ha => by rw [hmod]; exact xo1 ((v1a,v1c)) rfl rfl (pO (hf _ m0) hB) hb⟩
 refine kK ?_
 refine kQ ?_
 refine kCD 1 [1,2,3,4,8,9,34] [(34,.v (.agg (rcvL r (.slice Arh r.held.length Crh)).toArray))] 15 [.agg (rcvL r (.slice Arh r.held.length Crh)).toArray] (some 35) rfl (xc_b fun ww hf => iWindowOf_c r.next r.data r.held (.slice Arh r.held.length Crh) r.fin r.done ww (by omega)) ?_
 intro _
 refine kRS 1 [1,2,3,4,8,9,10] [(1,.v (.int .i64 seq)),(2,.v (.string text)),(3,.v (.bool fin)),(4,.p 0 0),(8,.p 1 0),(9,.p 2 0),(10,.v (.int .i64 (windowOf r)))] ?_
 refine xl_eqS (t' := [(1,.v (.int .i64 seq)),(2,.v (.string text)),(3,.v (.bool fin)),(4,.p 0 0),(8,.p 1 0),(9,.p 2 0),(10,.v (.int .i64 (W : Int)))]) (by rw [show (windowOf r) = (W : Int) from hW]) ?_
 refine kED [1,2,3,4,8,9,10] [] ?_
 refine kQ ?_
 refine kHD 1 [1,2,3,4,8,9,10,36] [(36,.v (.int .i64 (W : Int)))] rfl (hv_make (kl := .i64) (kc := .i64) (e := 5) (K := 1) (bytes := 1) (m := W) (z := .int .u8 0) (rs := (List.replicate W 0).map byteRow) rfl (by kernel_rfl) (by kernel_rfl) (by kernel_rfl) (by kernel_rfl) (by (try simp only [List.length_map,List.length_append,List.length_cons,List.length_nil,List.length_take,List.length_drop,maxLen]); omega) (by (try simp only [List.length_map,List.length_append,List.length_cons,List.length_nil,List.length_take,List.length_drop,maxLen]); omega) (by rw [List.map_replicate]; rfl)) ?_
 intro g4
 refine kEA [1,2,3,4,8,9,10,11] [(11,.p 3 0)] [⟨22,[.slice (some ⟨g4,0,none⟩) W W]⟩] ?_
 refine kQ ?_
 refine kHD 1 [1,2,3,4,8,9,10,11,38] [(38,.v (.int .i64 (W : Int)))] rfl (hv_make (kl := .i64) (kc := .i64) (e := 4) (K := 1) (bytes := 1) (m := W) (z := .bool false) (rs := (List.replicate W false).map boolRow) rfl (by kernel_rfl) (by kernel_rfl) (by kernel_rfl) (by kernel_rfl) (by (try simp only [List.length_map,List.length_append,List.length_cons,List.length_nil,List.length_take,List.length_drop,maxLen]); omega) (by (try simp only [List.length_map,List.length_append,List.length_cons,List.length_nil,List.length_take,List.length_drop,maxLen]); omega) (by rw [List.map_replicate]; rfl)) ?_
 intro g5
 refine kEA [1,2,3,4,8,9,10,11,12] [(12,.p 4 0)] [⟨78,[.slice (some ⟨g5,0,none⟩) W W]⟩] ?_
 refine kS ?_
 refine xw_pinB 12 78 [.slice (some ⟨g5,0,none⟩) W W] [⟨26,rcvL r (.slice Arh r.held.length Crh)⟩,⟨26,rcvZ⟩,⟨26,rcvL r (.slice v1a r.held.length v1c)⟩,⟨22,[.slice (some ⟨g4,0,none⟩) W W]⟩] rfl (by kernel_rfl) (by kernel_rfl) ?_
 intro gh hgh hghn
 refine xw_pinB 11 22 [.slice (some ⟨g4,0,none⟩) W W] [⟨26,rcvL r (.slice Arh r.held.length Crh)⟩,⟨26,rcvZ⟩,⟨26,rcvL r (.slice v1a r.held.length v1c)⟩] rfl (by kernel_rfl) (by kernel_rfl) ?_
 intro gd hgd hgdn
 refine xw_wk (wk_pick [1,0,2,3,4,5] [cellF w.heap.size gh 78 [.slice (some ⟨g5,0,none⟩) W W],cellF w.heap.size gd 22 [.slice (some ⟨g4,0,none⟩) W W],rowF w.heap.size 4 1 (.slice (some ⟨g5,0,none⟩) W W) ((List.replicate W false).map boolRow),rowF w.heap.size 5 1 (.slice (some ⟨g4,0,none⟩) W W) ((List.replicate W 0).map byteRow),ownF w.heap.size (.slice v1a r.held.length v1c) 2 (r.held.map pceCells),slF (.slice Arh r.held.length Crh) 2 (r.held.map pceCells)] (by kernel_rfl) (by kernel_rfl)) ?_
 refine xw_turnF (fs' := [arrF w.heap.size gh gd g5 g4 78 22 4 5 W (List.replicate 33 (-1)),ownF w.heap.size (.slice v1a r.held.length v1c) 2 (r.held.map pceCells),slF (.slice Arh r.held.length Crh) 2 (r.held.map pceCells)]) (fun ρ σ w' h => by rw [arrF,hvOf_start (by omega),dtOf_start (by omega)]; exact all_in (hs := [ownF w.heap.size (.slice v1a r.held.length v1c) 2 (r.held.map pceCells),slF (.slice Arh r.held.length Crh) 2 (r.held.map pceCells)]) (own4 rfl rfl rfl rfl) ρ σ w' h) ?_
 refine kG ?_
 refine kOF 0 [1,2,3,4,8,9,10,11,12] ⟨[(1,.v (.int .i64 seq)),(2,.v (.string text)),(3,.v (.bool fin)),(4,.p 0 0),(8,.p 1 0),(9,.p 2 0),(10,.v (.int .i64 (W : Int))),(11,.v (.pointer (some ⟨gd,0,none⟩))),(12,.v (.pointer (some ⟨gh,0,none⟩)))],[⟨26,rcvL r (.slice Arh r.held.length Crh)⟩,⟨26,rcvZ⟩,⟨26,rcvL r (.slice v1a r.held.length v1c)⟩],[],[arrF w.heap.size gh gd g5 g4 78 22 4 5 W (List.replicate 33 (-1)),ownF w.heap.size (.slice v1a r.held.length v1c) 2 (r.held.map pceCells),slF (.slice Arh r.held.length Crh) 2 (r.held.map pceCells)]⟩ (.func (.func 65) #[] #[.pointer (some ⟨gh,0,none⟩),.pointer (some ⟨gd,0,none⟩)]) rfl (fun _ _ _ ww hr => act_mkf [.pointer (some ⟨gh,0,none⟩),.pointer (some ⟨gd,0,none⟩)] hr.1 rfl (by kernel_rfl) ww) ?_
 refine kED [1,2,3,4,8,9,10,11,12,13] [(13,.v (.func (.func 65) #[] #[.pointer (some ⟨gh,0,none⟩),.pointer (some ⟨gd,0,none⟩)]))] ?_
 refine kS ?_
 refine kQ ?_
 refine kED [1,2,3,4,8,9,10,11,12,13,42,43,44] [(42,.v (.slice Arh r.held.length Crh)),(43,.v (.int .i64 ((r.held.length : Nat) : Int))),(44,.v (.int .i64 0))] ?_
 refine xw_block ?_
 refine xw_loopW (α := {x : Nat × List Int × Int // (fun (i : Nat) (l2 : List Int) (e : Int) => i ≤ r.held.length ∧ l2.length = 33 ∧ slotsOf r = putHeld l2 (r.held.drop i) ∧ heldOk (if r.fin = -1 then windowOf r else r.fin) e (r.held.drop i) = true ∧ 0 ≤ e ∧ e ≤ (W : Int) ∧ (∀ j,e.toNat ≤ j → j < 33 → l2[j]? = some (-1))) x.1 x.2.1 x.2.2}) (fun x => (fun (i : Nat) (l2 : List Int) (e : Int) => (⟨[(1,.v (.int .i64 seq)),(2,.v (.string text)),(3,.v (.bool fin)),(4,.p 0 0),(8,.p 1 0),(9,.p 2 0),(10,.v (.int .i64 (W : Int))),(11,.v (.pointer (some ⟨gd,0,none⟩))),(12,.v (.pointer (some ⟨gh,0,none⟩))),(13,.v (.func (.func 65) #[] #[.pointer (some ⟨gh,0,none⟩),.pointer (some ⟨gd,0,none⟩)])),(42,.v (.slice Arh r.held.length Crh)),(43,.v (.int .i64 ((r.held.length : Nat) : Int))),(44,.v (.int .i64 (i : Int)))],[⟨26,rcvL r (.slice Arh r.held.length Crh)⟩,⟨26,rcvZ⟩,⟨26,rcvL r (.slice v1a r.held.length v1c)⟩],[],[arrF w.heap.size gh gd g5 g4 78 22 4 5 W l2,ownF w.heap.size (.slice v1a r.held.length v1c) 2 (r.held.map pceCells),slF (.slice Arh r.held.length Crh) 2 (r.held.map pceCells)]⟩ : St)) x.1.1 x.1.2.1 x.1.2.2) (fun x => (fun (i : Nat) (l2 : List Int) (e : Int) => r.held.length - i) x.1.1 x.1.2.1 x.1.2.2) ⟨(0,(List.replicate 33 (-1)),0),⟨Nat.zero_le _,(by simp),rfl,rok_held hrk,Int.le_refl _,(by dsimp only; omega),(fun j h1 h2 => by rw [List.getElem?_replicate,if_pos h2])⟩⟩ ((wk_pick [0,1,2] [arrF w.heap.size gh gd g5 g4 78 22 4 5 W (List.replicate 33 (-1)),ownF w.heap.size (.slice v1a r.held.length v1c) 2 (r.held.map pceCells),slF (.slice Arh r.held.length Crh) 2 (r.held.map pceCells)] (by kernel_rfl) (by kernel_rfl)).trans <| kF 3 0 [1,2,3,4,8,9,10,11,12,13,42,43,44]) ?_
 rintro ⟨⟨i,l2,e⟩,hi,hl2,H2,hk,he0,heW,hfr⟩
 try dsimp only
 try dsimp only at hi hl2 H2 hk he0 heW hfr
 refine kQ ?_
 refine kED [1,2,3,4,8,9,10,11,12,13,42,43,44,45] [(45,.v (.bool (decide ((i : Int) < ((r.held.length : Nat) : Int)))))] ?_
 refine kS ?_
 refine kC (decide ((i : Int) < ((r.held.length : Nat) : Int))) (fun h6 => ?_) (fun h6 => ?_)
 have h6p := of_decide_eq_true h6
 have hlt2 : i < r.held.length := by simpa using h6
 obtain ⟨pp,hx⟩ : ∃ p,r.held[i]? = some p := ⟨_,List.getElem?_eq_getElem hlt2⟩
 have hin := hheld pp (List.mem_of_getElem? hx)
 obtain ⟨hst1,hst2,hst3⟩ := held_step hk hx
 have hpW : pp.off + (pp.text.size : Int) ≤ (W : Int) := Int.le_trans hst2 hM
 refine kK ?_
 refine kS ?_
 refine xw_block ?_
 refine kQ ?_
 refine xl_indexD (kd := .i64) (T := 24) (e := 65) (K := 2) 0 [1,2,3,4,8,9,10,11,12,13,42,43,44] [] i [.int .i64 pp.off,.string pp.text] (slF (.slice Arh r.held.length Crh) 2 (r.held.map pceCells)) (by kernel_rfl) rfl (by kernel_rfl) rfl rfl (by kernel_rfl) (by kernel_rfl) (by kernel_rfl) (by kernel_rfl) hlt2 (by simp) (fun w h => h) (fun b h => h) (by simp only [List.getElem?_map,hx]; rfl) ?_
 refine kEA [1,2,3,4,8,9,10,11,12,13,15,42,43,44] [(15,.p 3 0)] [⟨65,pceL pp⟩] ?_
 refine kQ ?_
 refine kED [1,2,3,4,8,9,10,11,12,13,15,42,43,44,50,51] [(50,.v (.int .i64 (pp.text.size : Int))),(51,.v (.int .i64 0))] ?_
 refine xw_block ?_
 refine xw_wk (wkf (s' := ⟨[(1,.v (.int .i64 seq)),(2,.v (.string text)),(3,.v (.bool fin)),(4,.p 0 0),(8,.p 1 0),(9,.p 2 0),(10,.v (.int .i64 (W : Int))),(11,.v (.pointer (some ⟨gd,0,none⟩))),(12,.v (.pointer (some ⟨gh,0,none⟩))),(13,.v (.func (.func 65) #[] #[.pointer (some ⟨gh,0,none⟩),.pointer (some ⟨gd,0,none⟩)])),(15,.p 3 0),(42,.v (.slice Arh r.held.length Crh)),(43,.v (.int .i64 ((r.held.length : Nat) : Int))),(44,.v (.int .i64 (i : Int))),(50,.v (.int .i64 (pp.text.size : Int))),(51,.v (.int .i64 0))],[⟨26,rcvL r (.slice Arh r.held.length Crh)⟩,⟨26,rcvZ⟩,⟨26,rcvL r (.slice v1a r.held.length v1c)⟩,⟨65,pceL pp⟩],[],[arrF w.heap.size gh gd g5 g4 78 22 4 5 W l2,ownF w.heap.size (.slice v1a r.held.length v1c) 2 (r.held.map pceCells),slF (.slice Arh r.held.length Crh) 2 (r.held.map pceCells)]⟩) 4 0 [1,2,3,4,8,9,10,11,12,13,15,42,43,44,50,51] (by kernel_rfl)) ?_
 refine xw_loopW (α := {x : Nat × List Int // (fun (q : Nat) (l3 : List Int) => q ≤ pp.text.size ∧ l3.length = 33 ∧ l3 = putText l2 pp.off.toNat pp.text q ∧ (∀ j,pp.off.toNat + q ≤ j → j < 33 → l3[j]? = some (-1))) x.1 x.2}) (fun x => (fun (q : Nat) (l3 : List Int) => (⟨[(1,.v (.int .i64 seq)),(2,.v (.string text)),(3,.v (.bool fin)),(4,.p 0 0),(8,.p 1 0),(9,.p 2 0),(10,.v (.int .i64 (W : Int))),(11,.v (.pointer (some ⟨gd,0,none⟩))),(12,.v (.pointer (some ⟨gh,0,none⟩))),(13,.v (.func (.func 65) #[] #[.pointer (some ⟨gh,0,none⟩),.pointer (some ⟨gd,0,none⟩)])),(15,.p 3 0),(42,.v (.slice Arh r.held.length Crh)),(43,.v (.int .i64 ((r.held.length : Nat) : Int))),(44,.v (.int .i64 (i : Int))),(50,.v (.int .i64 (pp.text.size : Int))),(51,.v (.int .i64 (q : Int)))],[⟨26,rcvL r (.slice Arh r.held.length Crh)⟩,⟨26,rcvZ⟩,⟨26,rcvL r (.slice v1a r.held.length v1c)⟩,⟨65,pceL pp⟩],[],[arrF w.heap.size gh gd g5 g4 78 22 4 5 W l3,ownF w.heap.size (.slice v1a r.held.length v1c) 2 (r.held.map pceCells),slF (.slice Arh r.held.length Crh) 2 (r.held.map pceCells)]⟩ : St)) x.1.1 x.1.2) (fun x => (fun (q : Nat) (l3 : List Int) => pp.text.size - q) x.1.1 x.1.2) ⟨(0,l2),⟨Nat.zero_le _,hl2,rfl,(fun j h1 h2 => hfr j (by omega) h2)⟩⟩ ((wk_pick [0,1,2] [arrF w.heap.size gh gd g5 g4 78 22 4 5 W l2,ownF w.heap.size (.slice v1a r.held.length v1c) 2 (r.held.map pceCells),slF (.slice Arh r.held.length Crh) 2 (r.held.map pceCells)] (by kernel_rfl) (by kernel_rfl)).trans <| kF 4 0 [1,2,3,4,8,9,10,11,12,13,15,42,43,44,50,51]) ?_
 rintro ⟨⟨q,l3⟩,hq,hl3,H3,hfr3⟩
 try dsimp only
 try dsimp only at hq hl3 H3 hfr3
 refine kQ ?_
 refine kED [1,2,3,4,8,9,10,11,12,13,15,42,43,44,50,51,52] [(52,.v (.bool (decide ((q : Int) < (pp.text.size : Int)))))] ?_
 refine kS ?_
 refine kC (decide ((q : Int) < (pp.text.size : Int))) (fun h7 => ?_) (fun h7 => ?_)
 have h7p := of_decide_eq_true h7
 have hlt3 : q < pp.text.size := by simpa using h7
 have hbr := byteAt_rng pp.text q
 have hfz := hfr3 (pp.off.toNat + q) (Nat.le_refl _) (by omega)
 refine kK ?_
 refine kS ?_
 refine xw_block ?_
 refine kQ ?_
 refine kED [1,2,3,4,8,9,10,11,12,13,15,16,42,43,44,50,51] [(16,.v (.int .i64 (q : Int)))] ?_
 refine xe_region0 [] (by kernel_rfl) (fun ρ σ => ?_)
 refine kTS [0,1,2,3,4,5,6,7] [61,60,58,54,1,2,3,4,8,9,10,11,12,13,15,42,43,44,50,51] 2 [(61,.v (.int .i64 (q : Int))),(60,.v (.string pp.text)),(58,.v (.int .i64 (IntKind.i64.wrap (pp.off + (q : Int))))),(54,.v (.func (.func 65) #[] #[.pointer (some ⟨gh,0,none⟩),.pointer (some ⟨gd,0,none⟩)])),(1,.v (.int .i64 seq)),(2,.v (.string text)),(3,.v (.bool fin)),(4,.p 0 0),(8,.p 1 0),(9,.p 2 0),(10,.v (.int .i64 (W : Int))),(11,.v (.pointer (some ⟨gd,0,none⟩))),(12,.v (.pointer (some ⟨gh,0,none⟩))),(13,.v (.func (.func 65) #[] #[.pointer (some ⟨gh,0,none⟩),.pointer (some ⟨gd,0,none⟩)])),(15,.p 3 0),(42,.v (.slice Arh r.held.length Crh)),(43,.v (.int .i64 ((r.held.length : Nat) : Int))),(44,.v (.int .i64 (i : Int))),(50,.v (.int .i64 (pp.text.size : Int))),(51,.v (.int .i64 (q : Int)))] ?_
 refine xe_eqS (t := [(61,.v (.int .i64 (q : Int))),(60,.v (.string pp.text)),(58,.v (.int .i64 (IntKind.i64.wrap (pp.off + (q : Int))))),(54,.v (.func (.func 65) #[] #[.pointer (some ⟨gh,0,none⟩),.pointer (some ⟨gd,0,none⟩)])),(1,.v (.int .i64 seq)),(2,.v (.string text)),(3,.v (.bool fin)),(4,.p 0 0),(8,.p 1 0),(9,.p 2 0),(10,.v (.int .i64 (W : Int))),(11,.v (.pointer (some ⟨gd,0,none⟩))),(12,.v (.pointer (some ⟨gh,0,none⟩))),(13,.v (.func (.func 65) #[] #[.pointer (some ⟨gh,0,none⟩),.pointer (some ⟨gd,0,none⟩)])),(15,.p 3 0),(42,.v (.slice Arh r.held.length Crh)),(43,.v (.int .i64 ((r.held.length : Nat) : Int))),(44,.v (.int .i64 (i : Int))),(50,.v (.int .i64 (pp.text.size : Int))),(51,.v (.int .i64 (q : Int)))]) (t' := [(61,.v (.int .i64 (q : Int))),(60,.v (.string pp.text)),(58,.v (.int .i64 ((pp.off.toNat + q : Nat) : Int))),(54,.v (.func (.func 65) #[] #[.pointer (some ⟨gh,0,none⟩),.pointer (some ⟨gd,0,none⟩)])),(1,.v (.int .i64 seq)),(2,.v (.string text)),(3,.v (.bool fin)),(4,.p 0 0),(8,.p 1 0),(9,.p 2 0),(10,.v (.int .i64 (W : Int))),(11,.v (.pointer (some ⟨gd,0,none⟩))),(12,.v (.pointer (some ⟨gh,0,none⟩))),(13,.v (.func (.func 65) #[] #[.pointer (some ⟨gh,0,none⟩),.pointer (some ⟨gd,0,none⟩)])),(15,.p 3 0),(42,.v (.slice Arh r.held.length Crh)),(43,.v (.int .i64 ((r.held.length : Nat) : Int))),(44,.v (.int .i64 (i : Int))),(50,.v (.int .i64 (pp.text.size : Int))),(51,.v (.int .i64 (q : Int)))]) (by rw [show (IntKind.i64.wrap (pp.off + (q : Int))) = ((pp.off.toNat + q : Nat) : Int) from by rw [wrap_id (by omega) (by omega)]; omega]) ?_
 refine kX 8 (.int .u8 (byteAt pp.text q)) rfl (fun _ _ ww hA => act_tix (kd := .i64) (t := pp.text) q hA rfl rfl (by kernel_rfl) (by kernel_rfl) hlt3 ww) ?_
 refine kA [9] ?_
 refine xs_callWC 9 65 [.int .i64 ((pp.off.toNat + q : Nat) : Int),.int .u8 (byteAt pp.text q),.pointer (some ⟨gh,0,none⟩),.pointer (some ⟨gd,0,none⟩)] (some 63) 0 (arrF w.heap.size gh gd g5 g4 78 22 4 5 W l3) rfl (by kernel_rfl) rfl (by kernel_rfl) rfl rfl (fun ww b h hb => arrF_lo h hb) (by kernel_rfl) (under_t (under_t (under_t (under_t under_nil)))) rfl (xcm_arr fun ww hw hf => arrStore_c w.heap.size gh gd g5 g4 W (pp.off.toNat + q) l3 (byteAt pp.text q) ww hw (hf (arrF w.heap.size gh gd g5 g4 78 22 4 5 W l3) (by simp)) (by omega) (by omega) hbr) ?_
 intro _
 refine kZ ?_
 refine kG ?_
 refine kRS 2 [1,2,3,4,8,9,10,11,12,13,15,42,43,44,50,51] [(1,.v (.int .i64 seq)),(2,.v (.string text)),(3,.v (.bool fin)),(4,.p 0 0),(8,.p 1 0),(9,.p 2 0),(10,.v (.int .i64 (W : Int))),(11,.v (.pointer (some ⟨gd,0,none⟩))),(12,.v (.pointer (some ⟨gh,0,none⟩))),(13,.v (.func (.func 65) #[] #[.pointer (some ⟨gh,0,none⟩),.pointer (some ⟨gd,0,none⟩)])),(15,.p 3 0),(42,.v (.slice Arh r.held.length Crh)),(43,.v (.int .i64 ((r.held.length : Nat) : Int))),(44,.v (.int .i64 (i : Int))),(50,.v (.int .i64 (pp.text.size : Int))),(51,.v (.int .i64 (IntKind.i64.wrap ((q : Int) + 1))))] ?_
 refine xl_eqS (t' := [(1,.v (.int .i64 seq)),(2,.v (.string text)),(3,.v (.bool fin)),(4,.p 0 0),(8,.p 1 0),(9,.p 2 0),(10,.v (.int .i64 (W : Int))),(11,.v (.pointer (some ⟨gd,0,none⟩))),(12,.v (.pointer (some ⟨gh,0,none⟩))),(13,.v (.func (.func 65) #[] #[.pointer (some ⟨gh,0,none⟩),.pointer (some ⟨gd,0,none⟩)])),(15,.p 3 0),(42,.v (.slice Arh r.held.length Crh)),(43,.v (.int .i64 ((r.held.length : Nat) : Int))),(44,.v (.int .i64 (i : Int))),(50,.v (.int .i64 (pp.text.size : Int))),(51,.v (.int .i64 ((q : Int) + 1)))]) (by rw [show (IntKind.i64.wrap ((q : Int) + 1)) = ((q : Int) + 1) from wrap_id (by omega) (by omega)]) ?_
 refine kED [1,2,3,4,8,9,10,11,12,13,15,42,43,44,50,51] [] ?_
 exact ⟨⟨(q + 1,(stOne l3 (pp.off.toNat + q) (byteAt pp.text q))),⟨hlt3,(by rw [stOne_len]; exact hl3),(by rw [stOne_free hfz (by decide),H3]; rfl),(fun j h1 h2 => by rw [stOne_far (by omega)]; exact hfr3 j (by omega) h2)⟩⟩,kF 4 0 [1,2,3,4,8,9,10,11,12,13,15,42,43,44,50,51],by show (fun (q : Nat) (l3 : List Int) => pp.text.size - q) (q + 1) (stOne l3 (pp.off.toNat + q) (byteAt pp.text q)) < pp.text.size - q; (dsimp only; omega)⟩
 have h7p := of_decide_eq_false h7
 have hq3 : q = pp.text.size := by simp at h7; omega
 refine xw_exit ?_
 refine kG ?_
 refine kRS 2 [1,2,3,4,8,9,10,11,12,13,42,43,44] [(1,.v (.int .i64 seq)),(2,.v (.string text)),(3,.v (.bool fin)),(4,.p 0 0),(8,.p 1 0),(9,.p 2 0),(10,.v (.int .i64 (W : Int))),(11,.v (.pointer (some ⟨gd,0,none⟩))),(12,.v (.pointer (some ⟨gh,0,none⟩))),(13,.v (.func (.func 65) #[] #[.pointer (some ⟨gh,0,none⟩),.pointer (some ⟨gd,0,none⟩)])),(42,.v (.slice Arh r.held.length Crh)),(43,.v (.int .i64 ((r.held.length : Nat) : Int))),(44,.v (.int .i64 (IntKind.i64.wrap ((i : Int) + 1))))] ?_
 refine xl_eqS (t' := [(1,.v (.int .i64 seq)),(2,.v (.string text)),(3,.v (.bool fin)),(4,.p 0 0),(8,.p 1 0),(9,.p 2 0),(10,.v (.int .i64 (W : Int))),(11,.v (.pointer (some ⟨gd,0,none⟩))),(12,.v (.pointer (some ⟨gh,0,none⟩))),(13,.v (.func (.func 65) #[] #[.pointer (some ⟨gh,0,none⟩),.pointer (some ⟨gd,0,none⟩)])),(42,.v (.slice Arh r.held.length Crh)),(43,.v (.int .i64 ((r.held.length : Nat) : Int))),(44,.v (.int .i64 ((i : Int) + 1)))]) (by rw [show (IntKind.i64.wrap ((i : Int) + 1)) = ((i : Int) + 1) from wrap_id (by omega) (by omega)]) ?_
 refine kED [1,2,3,4,8,9,10,11,12,13,42,43,44] [] ?_
 exact ⟨⟨(i + 1,l3,(pp.off + (pp.text.size : Int))),⟨hlt2,hl3,(by rw [H2,drop_cons_of hx,putHeld,← hq3,← H3]),hst3,(by dsimp only; omega),hpW,(fun j h1 h2 => hfr3 j (by dsimp only at h1; omega) h2)⟩⟩,kF 3 0 [1,2,3,4,8,9,10,11,12,13,42,43,44],by show (fun (i : Nat) (l2 : List Int) (e : Int) => r.held.length - i) (i + 1) l3 (pp.off + (pp.text.size : Int)) < r.held.length - i; (dsimp only; omega)⟩
 have h6p := of_decide_eq_false h6
 have hi2 : i = r.held.length := by simp at h6; omega
 rw [hi2,List.drop_length] at H2; simp only [putHeld] at H2
 refine xw_exit ?_
 refine kS ?_
 refine kQ ?_
 refine kED [1,2,3,4,8,9,10,11,12,13,67,68] [(67,.v (.int .i64 (text.size : Int))),(68,.v (.int .i64 0))] ?_
 refine xw_block ?_
 refine xw_loopW (α := {x : Nat × List Int // (fun (i : Nat) (sl : List Int) => i ≤ text.size ∧ sl.length = 33 ∧ sl = textN r seq text (slotsOf r) i ∧ (∀ j,W ≤ j → j < 33 → sl[j]? = some (-1))) x.1 x.2}) (fun x => (fun (i : Nat) (sl : List Int) => (⟨[(1,.v (.int .i64 seq)),(2,.v (.string text)),(3,.v (.bool fin)),(4,.p 0 0),(8,.p 1 0),(9,.p 2 0),(10,.v (.int .i64 (W : Int))),(11,.v (.pointer (some ⟨gd,0,none⟩))),(12,.v (.pointer (some ⟨gh,0,none⟩))),(13,.v (.func (.func 65) #[] #[.pointer (some ⟨gh,0,none⟩),.pointer (some ⟨gd,0,none⟩)])),(67,.v (.int .i64 (text.size : Int))),(68,.v (.int .i64 (i : Int)))],[⟨26,rcvL r (.slice Arh r.held.length Crh)⟩,⟨26,rcvZ⟩,⟨26,rcvL r (.slice v1a r.held.length v1c)⟩],[],[arrF w.heap.size gh gd g5 g4 78 22 4 5 W sl,ownF w.heap.size (.slice v1a r.held.length v1c) 2 (r.held.map pceCells),slF (.slice Arh r.held.length Crh) 2 (r.held.map pceCells)]⟩ : St)) x.1.1 x.1.2) (fun x => (fun (i : Nat) (sl : List Int) => text.size - i) x.1.1 x.1.2) ⟨(0,l2),⟨Nat.zero_le _,hl2,H2.symm,(fun j h1 h2 => hfr j (by omega) h2)⟩⟩ ((wk_pick [0,1,2] [arrF w.heap.size gh gd g5 g4 78 22 4 5 W l2,ownF w.heap.size (.slice v1a r.held.length v1c) 2 (r.held.map pceCells),slF (.slice Arh r.held.length Crh) 2 (r.held.map pceCells)] (by kernel_rfl) (by kernel_rfl)).trans <| kF 3 0 [1,2,3,4,8,9,10,11,12,13,67,68]) ?_
 rintro ⟨⟨i,sl⟩,hi,hl,HS,hbe⟩
 try dsimp only
 try dsimp only at hi hl HS hbe
 refine kQ ?_
 refine kED [1,2,3,4,8,9,10,11,12,13,67,68,69] [(69,.v (.bool (decide ((i : Int) < (text.size : Int)))))] ?_
 refine kS ?_
 refine kC (decide ((i : Int) < (text.size : Int))) (fun h8 => ?_) (fun h8 => ?_)
 have h8p := of_decide_eq_true h8
 have hlti : i < text.size := by simpa using h8
 have hbr := byteAt_rng text i
 have hsq := seqAdd_in seq (i : Int)
 refine kK ?_
 refine kS ?_
 refine xw_block ?_
 refine kQ ?_
 refine kED [1,2,3,4,8,9,10,11,12,13,17,67,68] [(17,.v (.int .i64 (i : Int)))] ?_
 refine kS ?_
 refine xe_region0 [] (by kernel_rfl) (fun ρ σ => ?_)
 refine kTS [0,1,3,4] [75,72,71,1,2,3,4,8,9,10,11,12,13,17,67,68] 3 [(75,.v (.int .i64 r.next)),(72,.v (.int .i64 (i : Int))),(71,.v (.int .i64 seq)),(1,.v (.int .i64 seq)),(2,.v (.string text)),(3,.v (.bool fin)),(4,.p 0 0),(8,.p 1 0),(9,.p 2 0),(10,.v (.int .i64 (W : Int))),(11,.v (.pointer (some ⟨gd,0,none⟩))),(12,.v (.pointer (some ⟨gh,0,none⟩))),(13,.v (.func (.func 65) #[] #[.pointer (some ⟨gh,0,none⟩),.pointer (some ⟨gd,0,none⟩)])),(17,.v (.int .i64 (i : Int))),(67,.v (.int .i64 (text.size : Int))),(68,.v (.int .i64 (i : Int)))] ?_
 refine kA [2] ?_
 refine kSC 2 32 [.int .i64 seq,.int .i64 (i : Int)] (some 73) rfl (xc_s fun ww hf => iSeqAdd_c seq (i : Int) ww ) ?_
 intro _
 refine kA [5] ?_
 refine kSC 5 66 [.int .i64 (seqAdd seq (i : Int)),.int .i64 r.next] (some 76) rfl (xc_s fun ww hf => ahead_c (seqAdd seq (i : Int)) r.next ww ) ?_
 intro _
 refine xe_eqS (t := [(76,.v (.int .i64 (((seqAdd seq (i : Int)) - r.next) % 4294967296))),(73,.v (.int .i64 (seqAdd seq (i : Int)))),(75,.v (.int .i64 r.next)),(72,.v (.int .i64 (i : Int))),(71,.v (.int .i64 seq)),(1,.v (.int .i64 seq)),(2,.v (.string text)),(3,.v (.bool fin)),(4,.p 0 0),(8,.p 1 0),(9,.p 2 0),(10,.v (.int .i64 (W : Int))),(11,.v (.pointer (some ⟨gd,0,none⟩))),(12,.v (.pointer (some ⟨gh,0,none⟩))),(13,.v (.func (.func 65) #[] #[.pointer (some ⟨gh,0,none⟩),.pointer (some ⟨gd,0,none⟩)])),(17,.v (.int .i64 (i : Int))),(67,.v (.int .i64 (text.size : Int))),(68,.v (.int .i64 (i : Int)))]) (t' := [(76,.v (.int .i64 ((offN r seq i : Nat) : Int))),(73,.v (.int .i64 (seqAdd seq (i : Int)))),(75,.v (.int .i64 r.next)),(72,.v (.int .i64 (i : Int))),(71,.v (.int .i64 seq)),(1,.v (.int .i64 seq)),(2,.v (.string text)),(3,.v (.bool fin)),(4,.p 0 0),(8,.p 1 0),(9,.p 2 0),(10,.v (.int .i64 (W : Int))),(11,.v (.pointer (some ⟨gd,0,none⟩))),(12,.v (.pointer (some ⟨gh,0,none⟩))),(13,.v (.func (.func 65) #[] #[.pointer (some ⟨gh,0,none⟩),.pointer (some ⟨gd,0,none⟩)])),(17,.v (.int .i64 (i : Int))),(67,.v (.int .i64 (text.size : Int))),(68,.v (.int .i64 (i : Int)))]) (by rw [show (((seqAdd seq (i : Int)) - r.next) % 4294967296) = ((offN r seq i : Nat) : Int) from offN_eq r seq i]) ?_
 refine kTS [6] [18,1,2,3,4,8,9,10,11,12,13,17,67,68] 0 [(18,.v (.int .i64 ((offN r seq i : Nat) : Int))),(1,.v (.int .i64 seq)),(2,.v (.string text)),(3,.v (.bool fin)),(4,.p 0 0),(8,.p 1 0),(9,.p 2 0),(10,.v (.int .i64 (W : Int))),(11,.v (.pointer (some ⟨gd,0,none⟩))),(12,.v (.pointer (some ⟨gh,0,none⟩))),(13,.v (.func (.func 65) #[] #[.pointer (some ⟨gh,0,none⟩),.pointer (some ⟨gd,0,none⟩)])),(17,.v (.int .i64 (i : Int))),(67,.v (.int .i64 (text.size : Int))),(68,.v (.int .i64 (i : Int)))] ?_
 refine kZ ?_
 refine kQ ?_
 refine kRD 4 [1,2,3,4,8,9,10,11,12,13,17,18,67,68,80] [(80,.v (.bool (decide (((offN r seq i : Nat) : Int) < (W : Int)))))] ?_
 refine kP 80 (decide (((offN r seq i : Nat) : Int) < (W : Int))) (fun h9 => ?_) (fun h9 => ?_)
 have h9p := of_decide_eq_true h9
 refine kRD 4 [1,2,3,4,8,9,10,11,12,13,17,18,67,68,80,84] [(80,.v (.bool true)),(84,.v (.bool (r.fin == (-1))))] ?_
 refine kP 84 (r.fin == (-1)) (fun h10 => ?_) (fun h10 => ?_)
 have h10p := eqT h10
 refine kED [1,2,3,4,8,9,10,11,12,13,17,18,67,68,90] [(90,.v (.bool true))] ?_
 refine kT ?_
 refine kG ?_
 refine kOD 4 [1,2,3,4,8,9,10,11,12,13,67,68,91,92,93,94] [(91,.v (.func (.func 65) #[] #[.pointer (some ⟨gh,0,none⟩),.pointer (some ⟨gd,0,none⟩)])),(92,.v (.int .i64 ((offN r seq i : Nat) : Int))),(93,.v (.string text)),(94,.v (.int .i64 (i : Int)))] (.int .u8 (byteAt text i)) rfl (fun _ _ _ ww hr => act_tix (kd := .i64) (t := text) i hr.1 rfl rfl (by kernel_rfl) (by kernel_rfl) hlti ww) ?_
 refine xl_callWC 0 [1,2,3,4,8,9,10,11,12,13,67,68,91,92,95] ⟨[(1,.v (.int .i64 seq)),(2,.v (.string text)),(3,.v (.bool fin)),(4,.p 0 0),(8,.p 1 0),(9,.p 2 0),(10,.v (.int .i64 (W : Int))),(11,.v (.pointer (some ⟨gd,0,none⟩))),(12,.v (.pointer (some ⟨gh,0,none⟩))),(13,.v (.func (.func 65) #[] #[.pointer (some ⟨gh,0,none⟩),.pointer (some ⟨gd,0,none⟩)])),(67,.v (.int .i64 (text.size : Int))),(68,.v (.int .i64 (i : Int))),(91,.v (.func (.func 65) #[] #[.pointer (some ⟨gh,0,none⟩),.pointer (some ⟨gd,0,none⟩)])),(92,.v (.int .i64 ((offN r seq i : Nat) : Int))),(95,.v (.int .u8 (byteAt text i)))],[⟨26,rcvL r (.slice Arh r.held.length Crh)⟩,⟨26,rcvZ⟩,⟨26,rcvL r (.slice v1a r.held.length v1c)⟩],[],[arrF w.heap.size gh gd g5 g4 78 22 4 5 W sl,ownF w.heap.size (.slice v1a r.held.length v1c) 2 (r.held.map pceCells),slF (.slice Arh r.held.length Crh) 2 (r.held.map pceCells)]⟩ 65 [.int .i64 ((offN r seq i : Nat) : Int),.int .u8 (byteAt text i),.pointer (some ⟨gh,0,none⟩),.pointer (some ⟨gd,0,none⟩)] (some 96) 0 (arrF w.heap.size gh gd g5 g4 78 22 4 5 W sl) (by kernel_rfl) rfl (by kernel_rfl) rfl (by kernel_rfl) rfl rfl (fun ww b h hb => arrF_lo h hb) (by kernel_rfl) (xcm_arr fun ww hw hf => arrStore_c w.heap.size gh gd g5 g4 W (offN r seq i) sl (byteAt text i) ww hw (hf (arrF w.heap.size gh gd g5 g4 78 22 4 5 W sl) (by simp)) (by omega) (by omega) hbr) ?_
 intro _
 refine kED [1,2,3,4,8,9,10,11,12,13,67,68] [] ?_
 refine kG ?_
 refine kRS 2 [1,2,3,4,8,9,10,11,12,13,67,68] [(1,.v (.int .i64 seq)),(2,.v (.string text)),(3,.v (.bool fin)),(4,.p 0 0),(8,.p 1 0),(9,.p 2 0),(10,.v (.int .i64 (W : Int))),(11,.v (.pointer (some ⟨gd,0,none⟩))),(12,.v (.pointer (some ⟨gh,0,none⟩))),(13,.v (.func (.func 65) #[] #[.pointer (some ⟨gh,0,none⟩),.pointer (some ⟨gd,0,none⟩)])),(67,.v (.int .i64 (text.size : Int))),(68,.v (.int .i64 (IntKind.i64.wrap ((i : Int) + 1))))] ?_
 refine xl_eqS (t' := [(1,.v (.int .i64 seq)),(2,.v (.string text)),(3,.v (.bool fin)),(4,.p 0 0),(8,.p 1 0),(9,.p 2 0),(10,.v (.int .i64 (W : Int))),(11,.v (.pointer (some ⟨gd,0,none⟩))),(12,.v (.pointer (some ⟨gh,0,none⟩))),(13,.v (.func (.func 65) #[] #[.pointer (some ⟨gh,0,none⟩),.pointer (some ⟨gd,0,none⟩)])),(67,.v (.int .i64 (text.size : Int))),(68,.v (.int .i64 ((i : Int) + 1)))]) (by rw [show (IntKind.i64.wrap ((i : Int) + 1)) = ((i : Int) + 1) from wrap_id (by omega) (by omega)]) ?_
 refine kED [1,2,3,4,8,9,10,11,12,13,67,68] [] ?_
 exact ⟨⟨(i + 1,(stOne sl (offN r seq i) (byteAt text i))),⟨hlti,(by rw [stOne_len]; exact hl),(by rw [textN,← HS,text_yes (by rw [hW]; omega) (by omega)]),(fun j h1 h2 => by rw [stOne_far (by omega)]; exact hbe j h1 h2)⟩⟩,kF 3 0 [1,2,3,4,8,9,10,11,12,13,67,68],by show (fun (i : Nat) (sl : List Int) => text.size - i) (i + 1) (stOne sl (offN r seq i) (byteAt text i)) < text.size - i; (dsimp only; omega)⟩
 have h10p := eqF h10
 refine kED [1,2,3,4,8,9,10,11,12,13,17,18,67,68,90] [(90,.v (.bool (decide (((offN r seq i : Nat) : Int) < r.fin))))] ?_
 refine kC (decide (((offN r seq i : Nat) : Int) < r.fin)) (fun h11 => ?_) (fun h11 => ?_)
 have h11p := of_decide_eq_true h11
 refine kG ?_
 refine kOD 4 [1,2,3,4,8,9,10,11,12,13,67,68,91,92,93,94] [(91,.v (.func (.func 65) #[] #[.pointer (some ⟨gh,0,none⟩),.pointer (some ⟨gd,0,none⟩)])),(92,.v (.int .i64 ((offN r seq i : Nat) : Int))),(93,.v (.string text)),(94,.v (.int .i64 (i : Int)))] (.int .u8 (byteAt text i)) rfl (fun _ _ _ ww hr => act_tix (kd := .i64) (t := text) i hr.1 rfl rfl (by kernel_rfl) (by kernel_rfl) hlti ww) ?_
 refine xl_callWC 0 [1,2,3,4,8,9,10,11,12,13,67,68,91,92,95] ⟨[(1,.v (.int .i64 seq)),(2,.v (.string text)),(3,.v (.bool fin)),(4,.p 0 0),(8,.p 1 0),(9,.p 2 0),(10,.v (.int .i64 (W : Int))),(11,.v (.pointer (some ⟨gd,0,none⟩))),(12,.v (.pointer (some ⟨gh,0,none⟩))),(13,.v (.func (.func 65) #[] #[.pointer (some ⟨gh,0,none⟩),.pointer (some ⟨gd,0,none⟩)])),(67,.v (.int .i64 (text.size : Int))),(68,.v (.int .i64 (i : Int))),(91,.v (.func (.func 65) #[] #[.pointer (some ⟨gh,0,none⟩),.pointer (some ⟨gd,0,none⟩)])),(92,.v (.int .i64 ((offN r seq i : Nat) : Int))),(95,.v (.int .u8 (byteAt text i)))],[⟨26,rcvL r (.slice Arh r.held.length Crh)⟩,⟨26,rcvZ⟩,⟨26,rcvL r (.slice v1a r.held.length v1c)⟩],[],[arrF w.heap.size gh gd g5 g4 78 22 4 5 W sl,ownF w.heap.size (.slice v1a r.held.length v1c) 2 (r.held.map pceCells),slF (.slice Arh r.held.length Crh) 2 (r.held.map pceCells)]⟩ 65 [.int .i64 ((offN r seq i : Nat) : Int),.int .u8 (byteAt text i),.pointer (some ⟨gh,0,none⟩),.pointer (some ⟨gd,0,none⟩)] (some 96) 0 (arrF w.heap.size gh gd g5 g4 78 22 4 5 W sl) (by kernel_rfl) rfl (by kernel_rfl) rfl (by kernel_rfl) rfl rfl (fun ww b h hb => arrF_lo h hb) (by kernel_rfl) (xcm_arr fun ww hw hf => arrStore_c w.heap.size gh gd g5 g4 W (offN r seq i) sl (byteAt text i) ww hw (hf (arrF w.heap.size gh gd g5 g4 78 22 4 5 W sl) (by simp)) (by omega) (by omega) hbr) ?_
 intro _
 refine kED [1,2,3,4,8,9,10,11,12,13,67,68] [] ?_
 refine kG ?_
 refine kRS 2 [1,2,3,4,8,9,10,11,12,13,67,68] [(1,.v (.int .i64 seq)),(2,.v (.string text)),(3,.v (.bool fin)),(4,.p 0 0),(8,.p 1 0),(9,.p 2 0),(10,.v (.int .i64 (W : Int))),(11,.v (.pointer (some ⟨gd,0,none⟩))),(12,.v (.pointer (some ⟨gh,0,none⟩))),(13,.v (.func (.func 65) #[] #[.pointer (some ⟨gh,0,none⟩),.pointer (some ⟨gd,0,none⟩)])),(67,.v (.int .i64 (text.size : Int))),(68,.v (.int .i64 (IntKind.i64.wrap ((i : Int) + 1))))] ?_
 refine xl_eqS (t' := [(1,.v (.int .i64 seq)),(2,.v (.string text)),(3,.v (.bool fin)),(4,.p 0 0),(8,.p 1 0),(9,.p 2 0),(10,.v (.int .i64 (W : Int))),(11,.v (.pointer (some ⟨gd,0,none⟩))),(12,.v (.pointer (some ⟨gh,0,none⟩))),(13,.v (.func (.func 65) #[] #[.pointer (some ⟨gh,0,none⟩),.pointer (some ⟨gd,0,none⟩)])),(67,.v (.int .i64 (text.size : Int))),(68,.v (.int .i64 ((i : Int) + 1)))]) (by rw [show (IntKind.i64.wrap ((i : Int) + 1)) = ((i : Int) + 1) from wrap_id (by omega) (by omega)]) ?_
 refine kED [1,2,3,4,8,9,10,11,12,13,67,68] [] ?_
 exact ⟨⟨(i + 1,(stOne sl (offN r seq i) (byteAt text i))),⟨hlti,(by rw [stOne_len]; exact hl),(by rw [textN,← HS,text_yes (by rw [hW]; omega) (by omega)]),(fun j h1 h2 => by rw [stOne_far (by omega)]; exact hbe j h1 h2)⟩⟩,kF 3 0 [1,2,3,4,8,9,10,11,12,13,67,68],by show (fun (i : Nat) (sl : List Int) => text.size - i) (i + 1) (stOne sl (offN r seq i) (byteAt text i)) < text.size - i; (dsimp only; omega)⟩
 have h11p := of_decide_eq_false h11
 refine kK ?_
 refine kG ?_
 refine kRS 2 [1,2,3,4,8,9,10,11,12,13,67,68] [(1,.v (.int .i64 seq)),(2,.v (.string text)),(3,.v (.bool fin)),(4,.p 0 0),(8,.p 1 0),(9,.p 2 0),(10,.v (.int .i64 (W : Int))),(11,.v (.pointer (some ⟨gd,0,none⟩))),(12,.v (.pointer (some ⟨gh,0,none⟩))),(13,.v (.func (.func 65) #[] #[.pointer (some ⟨gh,0,none⟩),.pointer (some ⟨gd,0,none⟩)])),(67,.v (.int .i64 (text.size : Int))),(68,.v (.int .i64 (IntKind.i64.wrap ((i : Int) + 1))))] ?_
 refine xl_eqS (t' := [(1,.v (.int .i64 seq)),(2,.v (.string text)),(3,.v (.bool fin)),(4,.p 0 0),(8,.p 1 0),(9,.p 2 0),(10,.v (.int .i64 (W : Int))),(11,.v (.pointer (some ⟨gd,0,none⟩))),(12,.v (.pointer (some ⟨gh,0,none⟩))),(13,.v (.func (.func 65) #[] #[.pointer (some ⟨gh,0,none⟩),.pointer (some ⟨gd,0,none⟩)])),(67,.v (.int .i64 (text.size : Int))),(68,.v (.int .i64 ((i : Int) + 1)))]) (by rw [show (IntKind.i64.wrap ((i : Int) + 1)) = ((i : Int) + 1) from wrap_id (by omega) (by omega)]) ?_
 refine kED [1,2,3,4,8,9,10,11,12,13,67,68] [] ?_
 exact ⟨⟨(i + 1,sl),⟨hlti,hl,(by rw [textN,← HS,text_no (by rw [hW]; omega)]),hbe⟩⟩,kF 3 0 [1,2,3,4,8,9,10,11,12,13,67,68],by show (fun (i : Nat) (sl : List Int) => text.size - i) (i + 1) sl < text.size - i; (dsimp only; omega)⟩
 have h9p := of_decide_eq_false h9
 refine kED [1,2,3,4,8,9,10,11,12,13,17,18,67,68,90] [(90,.v (.bool false))] ?_
 refine kN ?_
 refine kK ?_
 refine kG ?_
 refine kRS 2 [1,2,3,4,8,9,10,11,12,13,67,68] [(1,.v (.int .i64 seq)),(2,.v (.string text)),(3,.v (.bool fin)),(4,.p 0 0),(8,.p 1 0),(9,.p 2 0),(10,.v (.int .i64 (W : Int))),(11,.v (.pointer (some ⟨gd,0,none⟩))),(12,.v (.pointer (some ⟨gh,0,none⟩))),(13,.v (.func (.func 65) #[] #[.pointer (some ⟨gh,0,none⟩),.pointer (some ⟨gd,0,none⟩)])),(67,.v (.int .i64 (text.size : Int))),(68,.v (.int .i64 (IntKind.i64.wrap ((i : Int) + 1))))] ?_
 refine xl_eqS (t' := [(1,.v (.int .i64 seq)),(2,.v (.string text)),(3,.v (.bool fin)),(4,.p 0 0),(8,.p 1 0),(9,.p 2 0),(10,.v (.int .i64 (W : Int))),(11,.v (.pointer (some ⟨gd,0,none⟩))),(12,.v (.pointer (some ⟨gh,0,none⟩))),(13,.v (.func (.func 65) #[] #[.pointer (some ⟨gh,0,none⟩),.pointer (some ⟨gd,0,none⟩)])),(67,.v (.int .i64 (text.size : Int))),(68,.v (.int .i64 ((i : Int) + 1)))]) (by rw [show (IntKind.i64.wrap ((i : Int) + 1)) = ((i : Int) + 1) from wrap_id (by omega) (by omega)]) ?_
 refine kED [1,2,3,4,8,9,10,11,12,13,67,68] [] ?_
 exact ⟨⟨(i + 1,sl),⟨hlti,hl,(by rw [textN,← HS,text_no (by rw [hW]; omega)]),hbe⟩⟩,kF 3 0 [1,2,3,4,8,9,10,11,12,13,67,68],by show (fun (i : Nat) (sl : List Int) => text.size - i) (i + 1) sl < text.size - i; (dsimp only; omega)⟩
 have h8p := of_decide_eq_false h8
 have hti : i = text.size := by simp at h8; omega
 subst hti
 have hall : sl = allIn r seq text := HS
 obtain ⟨E,hE⟩ : ∃ E : Nat,(seqAdd seq (text.size : Int) - r.next) % 4294967296 = ((E : Nat) : Int) ∧ offN r seq text.size = E := ⟨_,offN_eq r seq text.size,rfl⟩
 refine xw_exit ?_
 refine kS ?_
 refine xw_wk (wk_pick [0,1,2] [arrF w.heap.size gh gd g5 g4 78 22 4 5 W sl,ownF w.heap.size (.slice v1a r.held.length v1c) 2 (r.held.map pceCells),slF (.slice Arh r.held.length Crh) 2 (r.held.map pceCells)] (by kernel_rfl) (by kernel_rfl)) ?_
 refine xw_turnF (fs' := [cellF w.heap.size gh 78 [.slice (some ⟨g5,0,none⟩) W W],cellF w.heap.size gd 22 [.slice (some ⟨g4,0,none⟩) W W],rowF w.heap.size 4 1 (.slice (some ⟨g5,0,none⟩) W W) ((hvOf W sl).map boolRow),rowF w.heap.size 5 1 (.slice (some ⟨g4,0,none⟩) W W) ((dtOf W sl).map byteRow),ownF w.heap.size (.slice v1a r.held.length v1c) 2 (r.held.map pceCells),slF (.slice Arh r.held.length Crh) 2 (r.held.map pceCells)]) (fun ρ σ w' h => all_out (gs := [cellF w.heap.size gh 78 [.slice (some ⟨g5,0,none⟩) W W],cellF w.heap.size gd 22 [.slice (some ⟨g4,0,none⟩) W W],rowF w.heap.size 4 1 (.slice (some ⟨g5,0,none⟩) W W) ((hvOf W sl).map boolRow),rowF w.heap.size 5 1 (.slice (some ⟨g4,0,none⟩) W W) ((dtOf W sl).map byteRow)]) (hs := [ownF w.heap.size (.slice v1a r.held.length v1c) 2 (r.held.map pceCells),slF (.slice Arh r.held.length Crh) 2 (r.held.map pceCells)]) ρ σ w' h) ?_
 refine kG ?_
 refine kEF [1,2,3,4,8,9,10,11,12,19] ⟨[(1,.v (.int .i64 seq)),(2,.v (.string text)),(3,.v (.bool fin)),(4,.p 0 0),(8,.p 1 0),(9,.p 2 0),(10,.v (.int .i64 (W : Int))),(11,.v (.pointer (some ⟨gd,0,none⟩))),(12,.v (.pointer (some ⟨gh,0,none⟩))),(19,.p 3 0)],[⟨26,rcvL r (.slice Arh r.held.length Crh)⟩,⟨26,rcvZ⟩,⟨26,rcvL r (.slice v1a r.held.length v1c)⟩,⟨26,rcvL r (.slice Arh r.held.length Crh)⟩],[],[cellF w.heap.size gh 78 [.slice (some ⟨g5,0,none⟩) W W],cellF w.heap.size gd 22 [.slice (some ⟨g4,0,none⟩) W W],rowF w.heap.size 4 1 (.slice (some ⟨g5,0,none⟩) W W) ((hvOf W sl).map boolRow),rowF w.heap.size 5 1 (.slice (some ⟨g4,0,none⟩) W W) ((dtOf W sl).map byteRow),ownF w.heap.size (.slice v1a r.held.length v1c) 2 (r.held.map pceCells),slF (.slice Arh r.held.length Crh) 2 (r.held.map pceCells)]⟩ ?_
 refine kS ?_
 refine xe_region0 [] (by kernel_rfl) (fun ρ σ => ?_)
 refine kTS [0,1,2,4,5] [104,101,99,3,4,8,9,10,11,12,19] 3 [(104,.v (.int .i64 r.next)),(101,.v (.int .i64 (text.size : Int))),(99,.v (.int .i64 seq)),(3,.v (.bool fin)),(4,.p 0 0),(8,.p 1 0),(9,.p 2 0),(10,.v (.int .i64 (W : Int))),(11,.v (.pointer (some ⟨gd,0,none⟩))),(12,.v (.pointer (some ⟨gh,0,none⟩))),(19,.p 3 0)] ?_
 refine kA [3] ?_
 refine kSC 3 32 [.int .i64 seq,.int .i64 (text.size : Int)] (some 102) rfl (xc_s fun ww hf => iSeqAdd_c seq (text.size : Int) ww ) ?_
 intro _
 refine kA [6] ?_
 refine kSC 6 66 [.int .i64 (seqAdd seq (text.size : Int)),.int .i64 r.next] (some 105) rfl (xc_s fun ww hf => ahead_c (seqAdd seq (text.size : Int)) r.next ww ) ?_
 intro _
 refine xe_eqS (t := [(105,.v (.int .i64 (((seqAdd seq (text.size : Int)) - r.next) % 4294967296))),(102,.v (.int .i64 (seqAdd seq (text.size : Int)))),(104,.v (.int .i64 r.next)),(101,.v (.int .i64 (text.size : Int))),(99,.v (.int .i64 seq)),(3,.v (.bool fin)),(4,.p 0 0),(8,.p 1 0),(9,.p 2 0),(10,.v (.int .i64 (W : Int))),(11,.v (.pointer (some ⟨gd,0,none⟩))),(12,.v (.pointer (some ⟨gh,0,none⟩))),(19,.p 3 0)]) (t' := [(105,.v (.int .i64 (E : Int))),(102,.v (.int .i64 (seqAdd seq (text.size : Int)))),(104,.v (.int .i64 r.next)),(101,.v (.int .i64 (text.size : Int))),(99,.v (.int .i64 seq)),(3,.v (.bool fin)),(4,.p 0 0),(8,.p 1 0),(9,.p 2 0),(10,.v (.int .i64 (W : Int))),(11,.v (.pointer (some ⟨gd,0,none⟩))),(12,.v (.pointer (some ⟨gh,0,none⟩))),(19,.p 3 0)]) (by rw [show (((seqAdd seq (text.size : Int)) - r.next) % 4294967296) = (E : Int) from hE.1]) ?_
 refine kTS [7] [20,3,4,8,9,10,11,12,19] 0 [(20,.v (.int .i64 (E : Int))),(3,.v (.bool fin)),(4,.p 0 0),(8,.p 1 0),(9,.p 2 0),(10,.v (.int .i64 (W : Int))),(11,.v (.pointer (some ⟨gd,0,none⟩))),(12,.v (.pointer (some ⟨gh,0,none⟩))),(19,.p 3 0)] ?_
 refine kZ ?_
 refine kS ?_
 refine xw_joinF (α := {zz : Int // (fun (fo : Int) => fo = finIn r seq text fin ∧ (-1 ≤ fo ∧ fo ≤ 32)) zz}) (fun zz => (fun (fo : Int) => (⟨[(4,.p 0 0),(8,.p 1 0),(9,.p 2 0),(10,.v (.int .i64 (W : Int))),(11,.v (.pointer (some ⟨gd,0,none⟩))),(12,.v (.pointer (some ⟨gh,0,none⟩))),(19,.p 3 0)],[⟨26,rcvL r (.slice Arh r.held.length Crh)⟩,⟨26,rcvZ⟩,⟨26,rcvL r (.slice v1a r.held.length v1c)⟩,⟨26,rcvL { r with fin := fo } (.slice Arh r.held.length Crh)⟩],[],[cellF w.heap.size gh 78 [.slice (some ⟨g5,0,none⟩) W W],cellF w.heap.size gd 22 [.slice (some ⟨g4,0,none⟩) W W],rowF w.heap.size 4 1 (.slice (some ⟨g5,0,none⟩) W W) ((hvOf W sl).map boolRow),rowF w.heap.size 5 1 (.slice (some ⟨g4,0,none⟩) W W) ((dtOf W sl).map byteRow),ownF w.heap.size (.slice v1a r.held.length v1c) 2 (r.held.map pceCells),slF (.slice Arh r.held.length Crh) 2 (r.held.map pceCells)]⟩ : St)) zz.1) ?_ ?_
 refine kQ ?_
 refine kRD 2 [4,8,9,10,11,12,19,20,107] [(107,.v (.bool fin))] ?_
 refine kP 107 (fin) (fun h12 => ?_) (fun h12 => ?_)
 refine kRD 5 [4,8,9,10,11,12,19,20,112] [(112,.v (.bool (r.fin == (-1))))] ?_
 refine kP 112 (r.fin == (-1)) (fun h13 => ?_) (fun h13 => ?_)
 have h13p := eqT h13
 refine kRD 5 [4,8,9,10,11,12,19,20,117] [(117,.v (.bool (decide ((E : Int) ≤ (W : Int)))))] ?_
 refine kP 117 (decide ((E : Int) ≤ (W : Int))) (fun h14 => ?_) (fun h14 => ?_)
 have h14p := of_decide_eq_true h14
 have hcf := hasB_free (W := W) (p := E) hbe hl hW2 (by omega)
 refine kOD 0 [4,8,9,10,11,12,19,20,117] [(117,.v (.bool true))] (.slice (some ⟨g5,0,none⟩) W W) rfl (fun _ _ _ ww hr => ldP_run (off := 0) (B := w.heap.size) (g := gh) (T := 78) (cs := [.slice (some ⟨g5,0,none⟩) W W]) hr rfl (by kernel_rfl) (by simp) (by kernel_rfl)) ?_
 refine kOD 1 [4,8,9,10,11,12,19,20,117,118,119] [(119,.v (.int .i64 (E : Int)))] (.slice (if W = E then (some ⟨g5,0,none⟩ : Option Addr) else (some ⟨g5,0,none⟩ : Option Addr).map (·.add (E * 1))) (W - E) (W - E)) rfl (fun _ _ _ ww hr => act_slVe (e := 4) (A := some ⟨g5,0,none⟩) (len := W) (cap := W) (K := 1) (k := .i64) (p' := (E : Int)) E hr.1 rfl (by kernel_rfl) (by kernel_rfl) (by kernel_rfl) (by kernel_rfl) rfl (by omega) ww) ?_
 refine kCD 0 [4,8,9,10,11,12,19,20,117,120] [] 67 [.slice (if W = E then (some ⟨g5,0,none⟩ : Option Addr) else (some ⟨g5,0,none⟩ : Option Addr).map (·.add (E * 1))) (W - E) (W - E),.bool true] (some 121) rfl (xc_b fun ww hf => yContainsB_c (((hvOf W sl).drop E).take (W - E)) (.slice (if W = E then (some ⟨g5,0,none⟩ : Option Addr) else (some ⟨g5,0,none⟩ : Option Addr).map (·.add (E * 1))) (W - E) (W - E)) true ww (Sl.partM (rowF_sl (hf _ m2)) E W (by omega) (by omega)) ) ?_
 intro _
 refine kED [4,8,9,10,11,12,19,20,123] [(123,.v (.bool (!(hasB (((hvOf W sl).drop E).take (W - E)) true))))] ?_
 refine kC (!(hasB (((hvOf W sl).drop E).take (W - E)) true)) (fun h15 => ?_) (fun h15 => ?_)
 have h15n := not_t h15
 refine kG ?_
 refine kEU [4,8,9,10,11,12,19] [] 3 ⟨26,rcvL { r with fin := (E : Int) } (.slice Arh r.held.length Crh)⟩ ?_
 exact ⟨⟨((E : Int)),⟨(by unfold finIn; rw [← hall,hW,hE.2]; first | (simp [*]; done) | grind),(by first | omega | (have := hf3; omega))⟩⟩,kF 4 0 [4,8,9,10,11,12,19]⟩
 have h15n := not_f h15
 refine kK ?_
 exact ⟨⟨(r.fin),⟨(by unfold finIn; rw [← hall,hW,hE.2]; first | (simp [*]; done) | grind),(by first | omega | (have := hf3; omega))⟩⟩,kF 4 0 [4,8,9,10,11,12,19]⟩
 have h14p := of_decide_eq_false h14
 refine kED [4,8,9,10,11,12,19,20,123] [(123,.v (.bool false))] ?_
 refine kN ?_
 refine kK ?_
 exact ⟨⟨(r.fin),⟨(by unfold finIn; rw [← hall,hW,hE.2]; first | (simp [*]; done) | grind),(by first | omega | (have := hf3; omega))⟩⟩,kF 4 0 [4,8,9,10,11,12,19]⟩
 have h13p := eqF h13
 refine kED [4,8,9,10,11,12,19,20,123] [(123,.v (.bool false))] ?_
 refine kN ?_
 refine kK ?_
 exact ⟨⟨(r.fin),⟨(by unfold finIn; rw [← hall,hW,hE.2]; first | (simp [*]; done) | grind),(by first | omega | (have := hf3; omega))⟩⟩,kF 4 0 [4,8,9,10,11,12,19]⟩
 refine kED [4,8,9,10,11,12,19,20,123] [(123,.v (.bool false))] ?_
 refine kN ?_
 refine kK ?_
 exact ⟨⟨(r.fin),⟨(by unfold finIn; rw [← hall,hW,hE.2]; first | (simp [*]; done) | grind),(by first | omega | (have := hf3; omega))⟩⟩,kF 4 0 [4,8,9,10,11,12,19]⟩
 rintro ⟨fo,hfo,hfb⟩
 try dsimp only
 try dsimp only at hfo hfb
 refine kQ ?_
 refine kED [4,8,9,10,11,12,19,21] [(21,.v (.int .i64 0))] ?_
 refine kS ?_
 refine xw_joinF (α := {zz : Nat // (fun (n2 : Nat) => n2 = filled sl ∧ n2 ≤ W ∧ (∀ x ∈ sl.take n2,0 ≤ x)) zz}) (fun zz => (fun (n2 : Nat) => (⟨[(4,.p 0 0),(8,.p 1 0),(9,.p 2 0),(10,.v (.int .i64 (W : Int))),(11,.v (.pointer (some ⟨gd,0,none⟩))),(12,.v (.pointer (some ⟨gh,0,none⟩))),(19,.p 3 0),(21,.v (.int .i64 (n2 : Int)))],[⟨26,rcvL r (.slice Arh r.held.length Crh)⟩,⟨26,rcvZ⟩,⟨26,rcvL r (.slice v1a r.held.length v1c)⟩,⟨26,rcvL { r with fin := fo } (.slice Arh r.held.length Crh)⟩],[],[cellF w.heap.size gh 78 [.slice (some ⟨g5,0,none⟩) W W],cellF w.heap.size gd 22 [.slice (some ⟨g4,0,none⟩) W W],rowF w.heap.size 4 1 (.slice (some ⟨g5,0,none⟩) W W) ((hvOf W sl).map boolRow),rowF w.heap.size 5 1 (.slice (some ⟨g4,0,none⟩) W W) ((dtOf W sl).map byteRow),ownF w.heap.size (.slice v1a r.held.length v1c) 2 (r.held.map pceCells),slF (.slice Arh r.held.length Crh) 2 (r.held.map pceCells)]⟩ : St)) zz.1) ?_ ?_
 refine xw_block ?_
 refine xw_loopW (α := {x : Nat // (fun (n2 : Nat) => n2 ≤ W ∧ (∀ x ∈ sl.take n2,0 ≤ x)) x}) (fun x => (fun (n2 : Nat) => (⟨[(4,.p 0 0),(8,.p 1 0),(9,.p 2 0),(10,.v (.int .i64 (W : Int))),(11,.v (.pointer (some ⟨gd,0,none⟩))),(12,.v (.pointer (some ⟨gh,0,none⟩))),(19,.p 3 0),(21,.v (.int .i64 (n2 : Int)))],[⟨26,rcvL r (.slice Arh r.held.length Crh)⟩,⟨26,rcvZ⟩,⟨26,rcvL r (.slice v1a r.held.length v1c)⟩,⟨26,rcvL { r with fin := fo } (.slice Arh r.held.length Crh)⟩],[],[cellF w.heap.size gh 78 [.slice (some ⟨g5,0,none⟩) W W],cellF w.heap.size gd 22 [.slice (some ⟨g4,0,none⟩) W W],rowF w.heap.size 4 1 (.slice (some ⟨g5,0,none⟩) W W) ((hvOf W sl).map boolRow),rowF w.heap.size 5 1 (.slice (some ⟨g4,0,none⟩) W W) ((dtOf W sl).map byteRow),ownF w.heap.size (.slice v1a r.held.length v1c) 2 (r.held.map pceCells),slF (.slice Arh r.held.length Crh) 2 (r.held.map pceCells)]⟩ : St)) x.1) (fun x => (fun (n2 : Nat) => W - n2) x.1) ⟨(0),⟨Nat.zero_le _,(by simp)⟩⟩ (kF 4 0 [4,8,9,10,11,12,19,21]) ?_
 rintro ⟨n2,hn2,hps⟩
 try dsimp only
 try dsimp only at hn2 hps
 refine kS ?_
 refine kQ ?_
 refine kRD 4 [4,8,9,10,11,12,19,21,129] [(129,.v (.bool (decide ((n2 : Int) < (W : Int)))))] ?_
 refine kP 129 (decide ((n2 : Int) < (W : Int))) (fun h16 => ?_) (fun h16 => ?_)
 have h16p := of_decide_eq_true h16
 have hlt2 : n2 < W := by simp at h16; omega
 obtain ⟨y,hy⟩ : ∃ y,sl[n2]? = some y := ⟨_,List.getElem?_eq_getElem (by omega)⟩
 refine kOD 0 [4,8,9,10,11,12,19,21,129] [(129,.v (.bool true))] (.slice (some ⟨g5,0,none⟩) W W) rfl (fun _ _ _ ww hr => ldP_run (off := 0) (B := w.heap.size) (g := gh) (T := 78) (cs := [.slice (some ⟨g5,0,none⟩) W W]) hr rfl (by kernel_rfl) (by simp) (by kernel_rfl)) ?_
 refine kOD 1 [4,8,9,10,11,12,19,21,129,130,131] [(131,.v (.int .i64 (n2 : Int)))] (.pointer (some ⟨g5,n2 * 1,none⟩)) rfl (fun _ _ _ ww hr => act_ix (kd := .i64) (T := 78) (e := 4) (K := 1) (g := g5) (N := W) (cap := W) n2 rfl hr.1 rfl rfl (by kernel_rfl) (by kernel_rfl) (by kernel_rfl) hlt2 ww) ?_
 refine kOD 0 [4,8,9,10,11,12,19,21,129,132] [] (.bool (decide (0 ≤ y))) rfl (fun _ _ _ ww hr => ldR_run (po := 0) (j := n2) (row := [.bool (decide (0 ≤ y))]) (rowF w.heap.size 4 1 (.slice (some ⟨g5,0,none⟩) W W) ((hvOf W sl).map boolRow)) hr rfl (by kernel_rfl) (by simp) (by simp only [List.getElem?_map,hvOf_get hlt2 hy]; rfl) (by kernel_rfl) rfl rfl rfl) ?_
 refine kED [4,8,9,10,11,12,19,21,134] [(134,.v (.bool (decide (0 ≤ y))))] ?_
 refine kC (decide (0 ≤ y)) (fun h17 => ?_) (fun h17 => ?_)
 have h17p := of_decide_eq_true h17
 have hyp := of_decide_eq_true h17
 refine kK ?_
 refine xw_block ?_
 refine kG ?_
 refine kRS 3 [4,8,9,10,11,12,19,21] [(4,.p 0 0),(8,.p 1 0),(9,.p 2 0),(10,.v (.int .i64 (W : Int))),(11,.v (.pointer (some ⟨gd,0,none⟩))),(12,.v (.pointer (some ⟨gh,0,none⟩))),(19,.p 3 0),(21,.v (.int .i64 (IntKind.i64.wrap ((n2 : Int) + 1))))] ?_
 refine xl_eqS (t' := [(4,.p 0 0),(8,.p 1 0),(9,.p 2 0),(10,.v (.int .i64 (W : Int))),(11,.v (.pointer (some ⟨gd,0,none⟩))),(12,.v (.pointer (some ⟨gh,0,none⟩))),(19,.p 3 0),(21,.v (.int .i64 ((n2 : Int) + 1)))]) (by rw [show (IntKind.i64.wrap ((n2 : Int) + 1)) = ((n2 : Int) + 1) from wrap_id (by omega) (by omega)]) ?_
 refine kED [4,8,9,10,11,12,19,21] [] ?_
 exact ⟨⟨(n2 + 1),⟨(by (try dsimp only); omega),(take_pos hps hy (by omega))⟩⟩,kF 4 0 [4,8,9,10,11,12,19,21],by show (fun (n2 : Nat) => W - n2) (n2 + 1) < W - n2; (dsimp only; omega)⟩
 have h17p := of_decide_eq_false h17
 have hyp := of_decide_eq_false h17
 refine xw_exit ?_
 exact ⟨⟨(n2),⟨(by first | exact (filled_stop (k := n2) (by omega) hps (fun z hz => by rw [hy] at hz; simp only [Option.some.injEq] at hz; omega)).symm | exact (filled_stop (k := n2) (by omega) hps (fun z hz => by rw [hbe n2 (by omega) (by omega)] at hz; simp only [Option.some.injEq] at hz; omega)).symm),hn2,hps⟩⟩,kF 4 0 [4,8,9,10,11,12,19,21]⟩
 have h16p := of_decide_eq_false h16
 have hge2 : n2 = W := by simp at h16; omega
 refine kED [4,8,9,10,11,12,19,21,134] [(134,.v (.bool false))] ?_
 refine kN ?_
 refine xw_exit ?_
 exact ⟨⟨(n2),⟨(by first | exact (filled_stop (k := n2) (by omega) hps (fun z hz => by rw [hy] at hz; simp only [Option.some.injEq] at hz; omega)).symm | exact (filled_stop (k := n2) (by omega) hps (fun z hz => by rw [hbe n2 (by omega) (by omega)] at hz; simp only [Option.some.injEq] at hz; omega)).symm),hn2,hps⟩⟩,kF 4 0 [4,8,9,10,11,12,19,21]⟩
 rintro ⟨n2,hnf,hn2,hps⟩
 try dsimp only
 try dsimp only at hnf hn2 hps
 refine kS ?_
 refine xw_join ⟨[(4,.p 0 0),(8,.p 1 0),(9,.p 2 0),(10,.v (.int .i64 (W : Int))),(11,.v (.pointer (some ⟨gd,0,none⟩))),(12,.v (.pointer (some ⟨gh,0,none⟩))),(19,.p 3 0),(21,.v (.int .i64 (n2 : Int)))],[⟨26,rcvL r (.slice Arh r.held.length Crh)⟩,⟨26,rcvZ⟩,⟨26,rcvL r (.slice v1a r.held.length v1c)⟩,⟨26,rcvL { r with data := r.data ++ (bstr (sl.take n2)),fin := fo } (.slice Arh r.held.length Crh)⟩],[],[cellF w.heap.size gh 78 [.slice (some ⟨g5,0,none⟩) W W],cellF w.heap.size gd 22 [.slice (some ⟨g4,0,none⟩) W W],rowF w.heap.size 4 1 (.slice (some ⟨g5,0,none⟩) W W) ((hvOf W sl).map boolRow),rowF w.heap.size 5 1 (.slice (some ⟨g4,0,none⟩) W W) ((dtOf W sl).map byteRow),ownF w.heap.size (.slice v1a r.held.length v1c) 2 (r.held.map pceCells),slF (.slice Arh r.held.length Crh) 2 (r.held.map pceCells)]⟩ ?_ ?_
 refine xws_start ?_
 refine xws_cell (B := w.heap.size) (g := gd) (T := 22) (cs := [.slice (some ⟨g4,0,none⟩) W W]) (fun _ _ h => h) (by simp) ?_
 refine xws_regionE [true,true,true,false] (by kernel_rfl) (fun ρ σ hq18 => ?_)
 refine kTS [0,3] [140,137,4,8,9,10,11,12,19,21] 7 [(140,.v (.int .i64 (n2 : Int))),(137,.p 3 1),(4,.p 0 0),(8,.p 1 0),(9,.p 2 0),(10,.v (.int .i64 (W : Int))),(11,.v (.pointer (some ⟨gd,0,none⟩))),(12,.v (.pointer (some ⟨gh,0,none⟩))),(19,.p 3 0),(21,.v (.int .i64 (n2 : Int)))] ?_
 refine xe_opH 2 (.slice (some ⟨g4,0,none⟩) W W) _ rfl (by kernel_rfl) (by kernel_rfl) (by kernel_rfl) (fun _ _ h => h) (by kernel_rfl) rfl (fun _ _ ww hA hS => ld_range (g := gd) (off := 0) (cs := [.slice (some ⟨g4,0,none⟩) W W]) hA rfl (by kernel_rfl) (rd_row hS (h := 0) rfl hq18.2) (by kernel_rfl)) rfl ?_
 refine kA [1,4] ⟨?_,?_⟩
 refine kSV 1 (.v (.string r.data)) rfl ?_
 refine kA [4] ?_
 refine kSR 4 (.slice (if W = 0 then (some ⟨g4,0,none⟩ : Option Addr) else (some ⟨g4,0,none⟩ : Option Addr).map (·.add (0 * 1))) (n2 - 0) (W - 0)) rfl (fun _ _ ww hr => act_slV0 (e := 5) (A := some ⟨g4,0,none⟩) (len := W) (cap := W) (K := 1) (k' := .i64) (q' := (n2 : Int)) n2 hr.1 rfl (by kernel_rfl) (by kernel_rfl) (by kernel_rfl) (by kernel_rfl) rfl (Nat.le_trans (show n2 ≤ W by omega) (Sl.capLe (rowF_sl (hr.2.fact (rowF w.heap.size 5 1 (.slice (some ⟨g4,0,none⟩) W W) ((dtOf W sl).map byteRow)) (by simp)).1))) ww) ?_
 refine kA [5] ?_
 refine kSR 5 (.string (bstr (((dtOf W sl).drop 0).take (n2 - 0)))) rfl (fun _ _ ww hr => act_b2s (e := 5) (((dtOf W sl).drop 0).take (n2 - 0)) hr.1 rfl (by kernel_rfl) (by kernel_rfl) (by kernel_rfl) rfl (Sl.partM (rowF_sl (hr.2.fact (rowF w.heap.size 5 1 (.slice (some ⟨g4,0,none⟩) W W) ((dtOf W sl).map byteRow)) (by simp)).1) 0 n2 (by omega) (by omega))) ?_
 refine xe_eqS (t := [(142,.v (.string (bstr (((dtOf W sl).drop 0).take (n2 - 0))))),(141,.v (.slice (if W = 0 then (some ⟨g4,0,none⟩ : Option Addr) else (some ⟨g4,0,none⟩ : Option Addr).map (·.add (0 * 1))) (n2 - 0) (W - 0))),(138,.v (.string r.data)),(139,.v (.slice (some ⟨g4,0,none⟩) W W)),(140,.v (.int .i64 (n2 : Int))),(137,.p 3 1),(4,.p 0 0),(8,.p 1 0),(9,.p 2 0),(10,.v (.int .i64 (W : Int))),(11,.v (.pointer (some ⟨gd,0,none⟩))),(12,.v (.pointer (some ⟨gh,0,none⟩))),(19,.p 3 0),(21,.v (.int .i64 (n2 : Int)))]) (t' := [(142,.v (.string (bstr (sl.take n2)))),(141,.v (.slice (if W = 0 then (some ⟨g4,0,none⟩ : Option Addr) else (some ⟨g4,0,none⟩ : Option Addr).map (·.add (0 * 1))) (n2 - 0) (W - 0))),(138,.v (.string r.data)),(139,.v (.slice (some ⟨g4,0,none⟩) W W)),(140,.v (.int .i64 (n2 : Int))),(137,.p 3 1),(4,.p 0 0),(8,.p 1 0),(9,.p 2 0),(10,.v (.int .i64 (W : Int))),(11,.v (.pointer (some ⟨gd,0,none⟩))),(12,.v (.pointer (some ⟨gh,0,none⟩))),(19,.p 3 0),(21,.v (.int .i64 (n2 : Int)))]) (by rw [show (bstr (((dtOf W sl).drop 0).take (n2 - 0))) = (bstr (sl.take n2)) from dt_head hn2 hps]) ?_
 refine kX 6 (.string (r.data ++ (bstr (sl.take n2)))) rfl (fun _ _ ww hA => act_bin hA rfl (by kernel_rfl) (by kernel_rfl) (str_add (by rw [bstr_size,List.length_take]; omega) ww)) ?_
 refine kTS [7] [144,143,4,8,9,10,11,12,19,21] 1 [(144,.p 3 1),(143,.v (.string (r.data ++ (bstr (sl.take n2))))),(4,.p 0 0),(8,.p 1 0),(9,.p 2 0),(10,.v (.int .i64 (W : Int))),(11,.v (.pointer (some ⟨gd,0,none⟩))),(12,.v (.pointer (some ⟨gh,0,none⟩))),(19,.p 3 0),(21,.v (.int .i64 (n2 : Int)))] ?_
 refine kA [8] ?_
 refine kSS 8 3 1 [.string (r.data ++ (bstr (sl.take n2)))] rfl ?_
 refine kZ ?_
 exact kF 4 0 [4,8,9,10,11,12,19,21]
 refine kSR 4 (.slice (if W = 0 then (some ⟨g4,0,none⟩ : Option Addr) else (some ⟨g4,0,none⟩ : Option Addr).map (·.add (0 * 1))) (n2 - 0) (W - 0)) rfl (fun _ _ ww hr => act_slV0 (e := 5) (A := some ⟨g4,0,none⟩) (len := W) (cap := W) (K := 1) (k' := .i64) (q' := (n2 : Int)) n2 hr.1 rfl (by kernel_rfl) (by kernel_rfl) (by kernel_rfl) (by kernel_rfl) rfl (Nat.le_trans (show n2 ≤ W by omega) (Sl.capLe (rowF_sl (hr.2.fact (rowF w.heap.size 5 1 (.slice (some ⟨g4,0,none⟩) W W) ((dtOf W sl).map byteRow)) (by simp)).1))) ww) ?_
 refine kA [1,5] ⟨?_,?_⟩
 refine kSV 1 (.v (.string r.data)) rfl ?_
 refine kA [5] ?_
 refine kSR 5 (.string (bstr (((dtOf W sl).drop 0).take (n2 - 0)))) rfl (fun _ _ ww hr => act_b2s (e := 5) (((dtOf W sl).drop 0).take (n2 - 0)) hr.1 rfl (by kernel_rfl) (by kernel_rfl) (by kernel_rfl) rfl (Sl.partM (rowF_sl (hr.2.fact (rowF w.heap.size 5 1 (.slice (some ⟨g4,0,none⟩) W W) ((dtOf W sl).map byteRow)) (by simp)).1) 0 n2 (by omega) (by omega))) ?_
 refine xe_eqS (t := [(142,.v (.string (bstr (((dtOf W sl).drop 0).take (n2 - 0))))),(138,.v (.string r.data)),(141,.v (.slice (if W = 0 then (some ⟨g4,0,none⟩ : Option Addr) else (some ⟨g4,0,none⟩ : Option Addr).map (·.add (0 * 1))) (n2 - 0) (W - 0))),(139,.v (.slice (some ⟨g4,0,none⟩) W W)),(140,.v (.int .i64 (n2 : Int))),(137,.p 3 1),(4,.p 0 0),(8,.p 1 0),(9,.p 2 0),(10,.v (.int .i64 (W : Int))),(11,.v (.pointer (some ⟨gd,0,none⟩))),(12,.v (.pointer (some ⟨gh,0,none⟩))),(19,.p 3 0),(21,.v (.int .i64 (n2 : Int)))]) (t' := [(142,.v (.string (bstr (sl.take n2)))),(138,.v (.string r.data)),(141,.v (.slice (if W = 0 then (some ⟨g4,0,none⟩ : Option Addr) else (some ⟨g4,0,none⟩ : Option Addr).map (·.add (0 * 1))) (n2 - 0) (W - 0))),(139,.v (.slice (some ⟨g4,0,none⟩) W W)),(140,.v (.int .i64 (n2 : Int))),(137,.p 3 1),(4,.p 0 0),(8,.p 1 0),(9,.p 2 0),(10,.v (.int .i64 (W : Int))),(11,.v (.pointer (some ⟨gd,0,none⟩))),(12,.v (.pointer (some ⟨gh,0,none⟩))),(19,.p 3 0),(21,.v (.int .i64 (n2 : Int)))]) (by rw [show (bstr (((dtOf W sl).drop 0).take (n2 - 0))) = (bstr (sl.take n2)) from dt_head hn2 hps]) ?_
 refine kX 6 (.string (r.data ++ (bstr (sl.take n2)))) rfl (fun _ _ ww hA => act_bin hA rfl (by kernel_rfl) (by kernel_rfl) (str_add (by rw [bstr_size,List.length_take]; omega) ww)) ?_
 refine kTS [7] [144,143,4,8,9,10,11,12,19,21] 1 [(144,.p 3 1),(143,.v (.string (r.data ++ (bstr (sl.take n2))))),(4,.p 0 0),(8,.p 1 0),(9,.p 2 0),(10,.v (.int .i64 (W : Int))),(11,.v (.pointer (some ⟨gd,0,none⟩))),(12,.v (.pointer (some ⟨gh,0,none⟩))),(19,.p 3 0),(21,.v (.int .i64 (n2 : Int)))] ?_
 refine kA [8] ?_
 refine kSS 8 3 1 [.string (r.data ++ (bstr (sl.take n2)))] rfl ?_
 refine kZ ?_
 exact kF 4 0 [4,8,9,10,11,12,19,21]
 refine kSR 5 (.string (bstr (((dtOf W sl).drop 0).take (n2 - 0)))) rfl (fun _ _ ww hr => act_b2s (e := 5) (((dtOf W sl).drop 0).take (n2 - 0)) hr.1 rfl (by kernel_rfl) (by kernel_rfl) (by kernel_rfl) rfl (Sl.partM (rowF_sl (hr.2.fact (rowF w.heap.size 5 1 (.slice (some ⟨g4,0,none⟩) W W) ((dtOf W sl).map byteRow)) (by simp)).1) 0 n2 (by omega) (by omega))) ?_
 refine xe_eqS (t := [(142,.v (.string (bstr (((dtOf W sl).drop 0).take (n2 - 0))))),(141,.v (.slice (if W = 0 then (some ⟨g4,0,none⟩ : Option Addr) else (some ⟨g4,0,none⟩ : Option Addr).map (·.add (0 * 1))) (n2 - 0) (W - 0))),(139,.v (.slice (some ⟨g4,0,none⟩) W W)),(140,.v (.int .i64 (n2 : Int))),(137,.p 3 1),(4,.p 0 0),(8,.p 1 0),(9,.p 2 0),(10,.v (.int .i64 (W : Int))),(11,.v (.pointer (some ⟨gd,0,none⟩))),(12,.v (.pointer (some ⟨gh,0,none⟩))),(19,.p 3 0),(21,.v (.int .i64 (n2 : Int)))]) (t' := [(142,.v (.string (bstr (sl.take n2)))),(141,.v (.slice (if W = 0 then (some ⟨g4,0,none⟩ : Option Addr) else (some ⟨g4,0,none⟩ : Option Addr).map (·.add (0 * 1))) (n2 - 0) (W - 0))),(139,.v (.slice (some ⟨g4,0,none⟩) W W)),(140,.v (.int .i64 (n2 : Int))),(137,.p 3 1),(4,.p 0 0),(8,.p 1 0),(9,.p 2 0),(10,.v (.int .i64 (W : Int))),(11,.v (.pointer (some ⟨gd,0,none⟩))),(12,.v (.pointer (some ⟨gh,0,none⟩))),(19,.p 3 0),(21,.v (.int .i64 (n2 : Int)))]) (by rw [show (bstr (((dtOf W sl).drop 0).take (n2 - 0))) = (bstr (sl.take n2)) from dt_head hn2 hps]) ?_
 refine kA [1] ?_
 refine kSV 1 (.v (.string r.data)) rfl ?_
 refine kX 6 (.string (r.data ++ (bstr (sl.take n2)))) rfl (fun _ _ ww hA => act_bin hA rfl (by kernel_rfl) (by kernel_rfl) (str_add (by rw [bstr_size,List.length_take]; omega) ww)) ?_
 refine kTS [7] [144,143,4,8,9,10,11,12,19,21] 1 [(144,.p 3 1),(143,.v (.string (r.data ++ (bstr (sl.take n2))))),(4,.p 0 0),(8,.p 1 0),(9,.p 2 0),(10,.v (.int .i64 (W : Int))),(11,.v (.pointer (some ⟨gd,0,none⟩))),(12,.v (.pointer (some ⟨gh,0,none⟩))),(19,.p 3 0),(21,.v (.int .i64 (n2 : Int)))] ?_
 refine kA [8] ?_
 refine kSS 8 3 1 [.string (r.data ++ (bstr (sl.take n2)))] rfl ?_
 refine kZ ?_
 exact kF 4 0 [4,8,9,10,11,12,19,21]
 refine kQ ?_
 refine kCD 3 [8,9,10,11,12,19,21,146,147] [(146,.v (.int .i64 r.next)),(147,.v (.int .i64 (n2 : Int)))] 32 [.int .i64 r.next,.int .i64 (n2 : Int)] (some 148) rfl (xc_s fun ww hf => iSeqAdd_c r.next (n2 : Int) ww ) ?_
 intro _
 refine kEU [8,9,10,11,12,19,21] [] 3 ⟨26,[.int .i64 (seqAdd r.next (n2 : Int)),.string (r.data ++ (bstr (sl.take n2))),.slice Arh r.held.length Crh,.int .i64 fo,.bool r.done]⟩ ?_
 refine kS ?_
 refine xw_joinF (α := {zz : Int // (fun (fp : Int) => fp = finOut r seq text fin) zz}) (fun zz => (fun (fp : Int) => (⟨[(8,.p 1 0),(9,.p 2 0),(10,.v (.int .i64 (W : Int))),(11,.v (.pointer (some ⟨gd,0,none⟩))),(12,.v (.pointer (some ⟨gh,0,none⟩))),(19,.p 3 0),(21,.v (.int .i64 (n2 : Int)))],[⟨26,rcvL r (.slice Arh r.held.length Crh)⟩,⟨26,rcvZ⟩,⟨26,rcvL r (.slice v1a r.held.length v1c)⟩,⟨26,[.int .i64 (seqAdd r.next (n2 : Int)),.string (r.data ++ (bstr (sl.take n2))),.slice Arh r.held.length Crh,.int .i64 fp,.bool r.done]⟩],[],[cellF w.heap.size gh 78 [.slice (some ⟨g5,0,none⟩) W W],cellF w.heap.size gd 22 [.slice (some ⟨g4,0,none⟩) W W],rowF w.heap.size 4 1 (.slice (some ⟨g5,0,none⟩) W W) ((hvOf W sl).map boolRow),rowF w.heap.size 5 1 (.slice (some ⟨g4,0,none⟩) W W) ((dtOf W sl).map byteRow),ownF w.heap.size (.slice v1a r.held.length v1c) 2 (r.held.map pceCells),slF (.slice Arh r.held.length Crh) 2 (r.held.map pceCells)]⟩ : St)) zz.1) ?_ ?_
 refine kQ ?_
 refine kED [8,9,10,11,12,19,21,152] [(152,.v (.bool (fo != (-1))))] ?_
 refine kC (fo != (-1)) (fun h19 => ?_) (fun h19 => ?_)
 have h19p := neT h19
 refine kG ?_
 refine kRF 6 [8,9,10,11,12,19,21] ⟨[(8,.p 1 0),(9,.p 2 0),(10,.v (.int .i64 (W : Int))),(11,.v (.pointer (some ⟨gd,0,none⟩))),(12,.v (.pointer (some ⟨gh,0,none⟩))),(19,.p 3 0),(21,.v (.int .i64 (n2 : Int)))],[⟨26,rcvL r (.slice Arh r.held.length Crh)⟩,⟨26,rcvZ⟩,⟨26,rcvL r (.slice v1a r.held.length v1c)⟩,⟨26,[.int .i64 (seqAdd r.next (n2 : Int)),.string (r.data ++ (bstr (sl.take n2))),.slice Arh r.held.length Crh,.int .i64 (IntKind.i64.wrap (fo - (n2 : Int))),.bool r.done]⟩],[],[cellF w.heap.size gh 78 [.slice (some ⟨g5,0,none⟩) W W],cellF w.heap.size gd 22 [.slice (some ⟨g4,0,none⟩) W W],rowF w.heap.size 4 1 (.slice (some ⟨g5,0,none⟩) W W) ((hvOf W sl).map boolRow),rowF w.heap.size 5 1 (.slice (some ⟨g4,0,none⟩) W W) ((dtOf W sl).map byteRow),ownF w.heap.size (.slice v1a r.held.length v1c) 2 (r.held.map pceCells),slF (.slice Arh r.held.length Crh) 2 (r.held.map pceCells)]⟩ ?_
 refine xl_eq (st' := ⟨[(8,.p 1 0),(9,.p 2 0),(10,.v (.int .i64 (W : Int))),(11,.v (.pointer (some ⟨gd,0,none⟩))),(12,.v (.pointer (some ⟨gh,0,none⟩))),(19,.p 3 0),(21,.v (.int .i64 (n2 : Int)))],[⟨26,rcvL r (.slice Arh r.held.length Crh)⟩,⟨26,rcvZ⟩,⟨26,rcvL r (.slice v1a r.held.length v1c)⟩,⟨26,[.int .i64 (seqAdd r.next (n2 : Int)),.string (r.data ++ (bstr (sl.take n2))),.slice Arh r.held.length Crh,.int .i64 (fo - (n2 : Int)),.bool r.done]⟩],[],[cellF w.heap.size gh 78 [.slice (some ⟨g5,0,none⟩) W W],cellF w.heap.size gd 22 [.slice (some ⟨g4,0,none⟩) W W],rowF w.heap.size 4 1 (.slice (some ⟨g5,0,none⟩) W W) ((hvOf W sl).map boolRow),rowF w.heap.size 5 1 (.slice (some ⟨g4,0,none⟩) W W) ((dtOf W sl).map byteRow),ownF w.heap.size (.slice v1a r.held.length v1c) 2 (r.held.map pceCells),slF (.slice Arh r.held.length Crh) 2 (r.held.map pceCells)]⟩) (by rw [show (IntKind.i64.wrap (fo - (n2 : Int))) = (fo - (n2 : Int)) from wrap_id (by omega) (by omega)] <;> rfl) ?_
 refine kED [8,9,10,11,12,19,21] [] ?_
 exact ⟨⟨(fo - (n2 : Int)),(by unfold finOut; rw [← hall,← hnf,← hfo]; first | rw [if_pos (by omega)] | rw [if_neg (by omega)])⟩,kF 4 0 [8,9,10,11,12,19,21]⟩
 have h19p := neF h19
 refine kK ?_
 exact ⟨⟨(fo),(by unfold finOut; rw [← hall,← hnf,← hfo]; first | rw [if_pos (by omega)] | rw [if_neg (by omega)])⟩,kF 4 0 [8,9,10,11,12,19,21]⟩
 rintro ⟨fp,hfp⟩
 try dsimp only
 try dsimp only at hfp
 refine kQ ?_
 refine kEU [8,9,10,11,12,19,21] [] 3 ⟨26,[.int .i64 (seqAdd r.next (n2 : Int)),.string (r.data ++ (bstr (sl.take n2))),.slice none 0 0,.int .i64 fp,.bool r.done]⟩ ?_
 refine kS ?_
 refine kQ ?_
 refine kED [8,9,10,11,12,19,21,22] [(22,.v (.int .i64 (n2 : Int)))] ?_
 refine xw_block ?_
 refine xw_free (rowF w.heap.size 65 2 (.slice none 0 0) (([] : List Pce).map pceCells)) (fun ww hww => nilF_p _ _ ww hww) (fun b => nilF_b _ _ _ b) ?_
 refine xw_loopW (α := {x : Nat × List Pce × Option Addr × Nat // (fun (i : Nat) (out : List Pce) (A1 : Option Addr) (c1 : Nat) => (n2 ≤ i ∧ i ≤ W) ∧ pcs [] 0 (sl.drop n2) = pcs out (i - n2) (sl.drop i) ∧ (∀ p ∈ out,0 ≤ p.off ∧ p.off + (p.text.size : Int) ≤ ((i - n2 : Nat) : Int)) ∧ (∀ x,sl[i]? = some x → 0 ≤ x → ¬ touches out (i - n2)) ∧ out.length ≤ i) x.1 x.2.1 x.2.2.1 x.2.2.2}) (fun x => (fun (i : Nat) (out : List Pce) (A1 : Option Addr) (c1 : Nat) => (⟨[(8,.p 1 0),(9,.p 2 0),(10,.v (.int .i64 (W : Int))),(11,.v (.pointer (some ⟨gd,0,none⟩))),(12,.v (.pointer (some ⟨gh,0,none⟩))),(19,.p 3 0),(21,.v (.int .i64 (n2 : Int))),(22,.v (.int .i64 (i : Int)))],[⟨26,rcvL r (.slice Arh r.held.length Crh)⟩,⟨26,rcvZ⟩,⟨26,rcvL r (.slice v1a r.held.length v1c)⟩,⟨26,[.int .i64 (seqAdd r.next (n2 : Int)),.string (r.data ++ (bstr (sl.take n2))),.slice A1 out.length c1,.int .i64 fp,.bool r.done]⟩],[],[rowF w.heap.size 65 2 (.slice A1 out.length c1) (out.map pceCells),cellF w.heap.size gh 78 [.slice (some ⟨g5,0,none⟩) W W],cellF w.heap.size gd 22 [.slice (some ⟨g4,0,none⟩) W W],rowF w.heap.size 4 1 (.slice (some ⟨g5,0,none⟩) W W) ((hvOf W sl).map boolRow),rowF w.heap.size 5 1 (.slice (some ⟨g4,0,none⟩) W W) ((dtOf W sl).map byteRow),ownF w.heap.size (.slice v1a r.held.length v1c) 2 (r.held.map pceCells),slF (.slice Arh r.held.length Crh) 2 (r.held.map pceCells)]⟩ : St)) x.1.1 x.1.2.1 x.1.2.2.1 x.1.2.2.2) (fun x => (fun (i : Nat) (out : List Pce) (A1 : Option Addr) (c1 : Nat) => W - i) x.1.1 x.1.2.1 x.1.2.2.1 x.1.2.2.2) ⟨(n2,([] : List Pce),none,0),⟨⟨Nat.le_refl _,hn2⟩,(by rw [Nat.sub_self]),(by simp),(fun x _ _ => by rintro ⟨p,hp,-⟩; simp at hp),Nat.zero_le _⟩⟩ (kF 4 0 [8,9,10,11,12,19,21,22]) ?_
 rintro ⟨⟨i,out,A1,c1⟩,hi,HP,hbd,htc,hol⟩
 try dsimp only
 try dsimp only at hi HP hbd htc hol
 refine kS ?_
 refine kQ ?_
 refine kED [8,9,10,11,12,19,21,22,162] [(162,.v (.bool (decide ((i : Int) < (W : Int)))))] ?_
 refine kC (decide ((i : Int) < (W : Int))) (fun h20 => ?_) (fun h20 => ?_)
 have h20p := of_decide_eq_true h20
 have hlt5 : i < W := by simp at h20; omega
 obtain ⟨y2,hy2⟩ : ∃ y,sl[i]? = some y := ⟨_,List.getElem?_eq_getElem (by omega)⟩
 refine kK ?_
 refine xw_block ?_
 refine kS ?_
 refine kQ ?_
 refine kOD 0 [8,9,10,11,12,19,21,22] [] (.slice (some ⟨g5,0,none⟩) W W) rfl (fun _ _ _ ww hr => ldP_run (off := 0) (B := w.heap.size) (g := gh) (T := 78) (cs := [.slice (some ⟨g5,0,none⟩) W W]) hr rfl (by kernel_rfl) (by simp) (by kernel_rfl)) ?_
 refine kOD 1 [8,9,10,11,12,19,21,22,163,164] [(164,.v (.int .i64 (i : Int)))] (.pointer (some ⟨g5,i * 1,none⟩)) rfl (fun _ _ _ ww hr => act_ix (kd := .i64) (T := 78) (e := 4) (K := 1) (g := g5) (N := W) (cap := W) i rfl hr.1 rfl rfl (by kernel_rfl) (by kernel_rfl) (by kernel_rfl) hlt5 ww) ?_
 refine kOD 0 [8,9,10,11,12,19,21,22,165] [] (.bool (decide (0 ≤ y2))) rfl (fun _ _ _ ww hr => ldR_run (po := 0) (j := i) (row := [.bool (decide (0 ≤ y2))]) (rowF w.heap.size 4 1 (.slice (some ⟨g5,0,none⟩) W W) ((hvOf W sl).map boolRow)) hr rfl (by kernel_rfl) (by simp) (by simp only [List.getElem?_map,hvOf_get hlt5 hy2]; rfl) (by kernel_rfl) rfl rfl rfl) ?_
 refine kED [8,9,10,11,12,19,21,22,167] [(167,.v (.bool (!(decide (0 ≤ y2)))))] ?_
 refine kC (!(decide (0 ≤ y2))) (fun h21 => ?_) (fun h21 => ?_)
 have h21n := not_t h21
 have hy2p := of_decide_eq_false h21n
 refine kQ ?_
 refine kRS 3 [8,9,10,11,12,19,21,22] [(8,.p 1 0),(9,.p 2 0),(10,.v (.int .i64 (W : Int))),(11,.v (.pointer (some ⟨gd,0,none⟩))),(12,.v (.pointer (some ⟨gh,0,none⟩))),(19,.p 3 0),(21,.v (.int .i64 (n2 : Int))),(22,.v (.int .i64 (IntKind.i64.wrap ((i : Int) + 1))))] ?_
 refine xl_eqS (t' := [(8,.p 1 0),(9,.p 2 0),(10,.v (.int .i64 (W : Int))),(11,.v (.pointer (some ⟨gd,0,none⟩))),(12,.v (.pointer (some ⟨gh,0,none⟩))),(19,.p 3 0),(21,.v (.int .i64 (n2 : Int))),(22,.v (.int .i64 ((i : Int) + 1)))]) (by rw [show (IntKind.i64.wrap ((i : Int) + 1)) = ((i : Int) + 1) from wrap_id (by omega) (by omega)]) ?_
 refine kED [8,9,10,11,12,19,21,22] [] ?_
 refine xw_exit ?_
 exact ⟨⟨(i + 1,out,A1,c1),⟨(by (try dsimp only); omega),(by rw [HP,pcs_step (l := sl) (m := n2) hy2 (by omega),if_pos (by omega)]),(fun p hp => by have := hbd p hp; (try dsimp only); omega),(fun x _ _ => by rw [show i + 1 - n2 = (i - n2) + 1 by omega]; exact touch_skip hbd),(by (try dsimp only); omega)⟩⟩,kF 4 0 [8,9,10,11,12,19,21,22],by show (fun (i : Nat) (out : List Pce) (A1 : Option Addr) (c1 : Nat) => W - i) (i + 1) out A1 c1 < W - i; (dsimp only; omega)⟩
 have h21n := not_f h21
 have hy2p := of_decide_eq_true h21n
 refine kK ?_
 refine kQ ?_
 refine kED [8,9,10,11,12,19,21,22,23] [(23,.v (.int .i64 (i : Int)))] ?_
 refine kS ?_
 refine xw_joinF (α := {zz : Nat // (fun (j : Nat) => (i < j ∧ j ≤ W) ∧ (∀ x ∈ (sl.drop i).take (j - i),0 ≤ x) ∧ (∀ z,sl[j]? = some z → z < 0)) zz}) (fun zz => (fun (j : Nat) => (⟨[(8,.p 1 0),(9,.p 2 0),(10,.v (.int .i64 (W : Int))),(11,.v (.pointer (some ⟨gd,0,none⟩))),(12,.v (.pointer (some ⟨gh,0,none⟩))),(19,.p 3 0),(21,.v (.int .i64 (n2 : Int))),(22,.v (.int .i64 (j : Int))),(23,.v (.int .i64 (i : Int)))],[⟨26,rcvL r (.slice Arh r.held.length Crh)⟩,⟨26,rcvZ⟩,⟨26,rcvL r (.slice v1a r.held.length v1c)⟩,⟨26,[.int .i64 (seqAdd r.next (n2 : Int)),.string (r.data ++ (bstr (sl.take n2))),.slice A1 out.length c1,.int .i64 fp,.bool r.done]⟩],[],[rowF w.heap.size 65 2 (.slice A1 out.length c1) (out.map pceCells),cellF w.heap.size gh 78 [.slice (some ⟨g5,0,none⟩) W W],cellF w.heap.size gd 22 [.slice (some ⟨g4,0,none⟩) W W],rowF w.heap.size 4 1 (.slice (some ⟨g5,0,none⟩) W W) ((hvOf W sl).map boolRow),rowF w.heap.size 5 1 (.slice (some ⟨g4,0,none⟩) W W) ((dtOf W sl).map byteRow),ownF w.heap.size (.slice v1a r.held.length v1c) 2 (r.held.map pceCells),slF (.slice Arh r.held.length Crh) 2 (r.held.map pceCells)]⟩ : St)) zz.1) ?_ ?_
 refine xw_block ?_
 refine xw_loopW (α := {x : Nat // (fun (j : Nat) => (i ≤ j ∧ j ≤ W) ∧ (∀ x ∈ (sl.drop i).take (j - i),0 ≤ x)) x}) (fun x => (fun (j : Nat) => (⟨[(8,.p 1 0),(9,.p 2 0),(10,.v (.int .i64 (W : Int))),(11,.v (.pointer (some ⟨gd,0,none⟩))),(12,.v (.pointer (some ⟨gh,0,none⟩))),(19,.p 3 0),(21,.v (.int .i64 (n2 : Int))),(22,.v (.int .i64 (j : Int))),(23,.v (.int .i64 (i : Int)))],[⟨26,rcvL r (.slice Arh r.held.length Crh)⟩,⟨26,rcvZ⟩,⟨26,rcvL r (.slice v1a r.held.length v1c)⟩,⟨26,[.int .i64 (seqAdd r.next (n2 : Int)),.string (r.data ++ (bstr (sl.take n2))),.slice A1 out.length c1,.int .i64 fp,.bool r.done]⟩],[],[rowF w.heap.size 65 2 (.slice A1 out.length c1) (out.map pceCells),cellF w.heap.size gh 78 [.slice (some ⟨g5,0,none⟩) W W],cellF w.heap.size gd 22 [.slice (some ⟨g4,0,none⟩) W W],rowF w.heap.size 4 1 (.slice (some ⟨g5,0,none⟩) W W) ((hvOf W sl).map boolRow),rowF w.heap.size 5 1 (.slice (some ⟨g4,0,none⟩) W W) ((dtOf W sl).map byteRow),ownF w.heap.size (.slice v1a r.held.length v1c) 2 (r.held.map pceCells),slF (.slice Arh r.held.length Crh) 2 (r.held.map pceCells)]⟩ : St)) x.1) (fun x => (fun (j : Nat) => W - j) x.1) ⟨(i),⟨⟨Nat.le_refl _,by omega⟩,(by rw [Nat.sub_self]; simp)⟩⟩ (kF 4 0 [8,9,10,11,12,19,21,22,23]) ?_
 rintro ⟨j,hij,hrun⟩
 try dsimp only
 try dsimp only at hij hrun
 refine kS ?_
 refine kQ ?_
 refine kRS 4 [8,9,10,11,12,19,21,22,23,174] [(8,.p 1 0),(9,.p 2 0),(10,.v (.int .i64 (W : Int))),(11,.v (.pointer (some ⟨gd,0,none⟩))),(12,.v (.pointer (some ⟨gh,0,none⟩))),(19,.p 3 0),(21,.v (.int .i64 (n2 : Int))),(22,.v (.int .i64 (j : Int))),(23,.v (.int .i64 (i : Int))),(174,.v (.bool (decide ((j : Int) < (W : Int)))))] ?_
 refine kP 174 (decide ((j : Int) < (W : Int))) (fun h22 => ?_) (fun h22 => ?_)
 have h22p := of_decide_eq_true h22
 have hlt6 : j < W := by simp at h22; omega
 obtain ⟨y3,hy3⟩ : ∃ y,sl[j]? = some y := ⟨_,List.getElem?_eq_getElem (by omega)⟩
 refine kOD 0 [8,9,10,11,12,19,21,22,23,174] [(174,.v (.bool true))] (.slice (some ⟨g5,0,none⟩) W W) rfl (fun _ _ _ ww hr => ldP_run (off := 0) (B := w.heap.size) (g := gh) (T := 78) (cs := [.slice (some ⟨g5,0,none⟩) W W]) hr rfl (by kernel_rfl) (by simp) (by kernel_rfl)) ?_
 refine kOD 1 [8,9,10,11,12,19,21,22,23,174,175,176] [(176,.v (.int .i64 (j : Int)))] (.pointer (some ⟨g5,j * 1,none⟩)) rfl (fun _ _ _ ww hr => act_ix (kd := .i64) (T := 78) (e := 4) (K := 1) (g := g5) (N := W) (cap := W) j rfl hr.1 rfl rfl (by kernel_rfl) (by kernel_rfl) (by kernel_rfl) hlt6 ww) ?_
 refine kOD 0 [8,9,10,11,12,19,21,22,23,174,177] [] (.bool (decide (0 ≤ y3))) rfl (fun _ _ _ ww hr => ldR_run (po := 0) (j := j) (row := [.bool (decide (0 ≤ y3))]) (rowF w.heap.size 4 1 (.slice (some ⟨g5,0,none⟩) W W) ((hvOf W sl).map boolRow)) hr rfl (by kernel_rfl) (by simp) (by simp only [List.getElem?_map,hvOf_get hlt6 hy3]; rfl) (by kernel_rfl) rfl rfl rfl) ?_
 refine kED [8,9,10,11,12,19,21,22,23,179] [(179,.v (.bool (decide (0 ≤ y3))))] ?_
 refine kC (decide (0 ≤ y3)) (fun h23 => ?_) (fun h23 => ?_)
 have h23p := of_decide_eq_true h23
 have hy3p := of_decide_eq_true h23
 refine kK ?_
 refine xw_block ?_
 refine kG ?_
 refine kRS 3 [8,9,10,11,12,19,21,22,23] [(8,.p 1 0),(9,.p 2 0),(10,.v (.int .i64 (W : Int))),(11,.v (.pointer (some ⟨gd,0,none⟩))),(12,.v (.pointer (some ⟨gh,0,none⟩))),(19,.p 3 0),(21,.v (.int .i64 (n2 : Int))),(22,.v (.int .i64 (IntKind.i64.wrap ((j : Int) + 1)))),(23,.v (.int .i64 (i : Int)))] ?_
 refine xl_eqS (t' := [(8,.p 1 0),(9,.p 2 0),(10,.v (.int .i64 (W : Int))),(11,.v (.pointer (some ⟨gd,0,none⟩))),(12,.v (.pointer (some ⟨gh,0,none⟩))),(19,.p 3 0),(21,.v (.int .i64 (n2 : Int))),(22,.v (.int .i64 ((j : Int) + 1))),(23,.v (.int .i64 (i : Int)))]) (by rw [show (IntKind.i64.wrap ((j : Int) + 1)) = ((j : Int) + 1) from wrap_id (by omega) (by omega)]) ?_
 refine kED [8,9,10,11,12,19,21,22,23] [] ?_
 exact ⟨⟨(j + 1),⟨(by (try dsimp only); omega),run_more hij.1 hrun hy3 (by omega)⟩⟩,kF 4 0 [8,9,10,11,12,19,21,22,23],by show (fun (j : Nat) => W - j) (j + 1) < W - j; (dsimp only; omega)⟩
 have h23p := of_decide_eq_false h23
 have hy3p := of_decide_eq_false h23
 refine xw_exit ?_
 exact ⟨⟨(j),⟨(by first | omega | (have hne : i ≠ j := (fun e => (by subst e; rw [hy2] at hy3; simp only [Option.some.injEq] at hy3; omega)); omega)),hrun,(by first | exact fun z hz => by rw [hy3] at hz; simp only [Option.some.injEq] at hz; omega | exact fun z hz => by rw [hbe j (by omega) (by omega)] at hz; simp only [Option.some.injEq] at hz; omega)⟩⟩,kF 4 0 [8,9,10,11,12,19,21,22,23]⟩
 have h22p := of_decide_eq_false h22
 have hge6 : j = W := by simp at h22; omega
 refine kED [8,9,10,11,12,19,21,22,23,179] [(179,.v (.bool false))] ?_
 refine kN ?_
 refine xw_exit ?_
 exact ⟨⟨(j),⟨(by first | omega | (have hne : i ≠ j := (fun e => (by subst e; rw [hy2] at hy3; simp only [Option.some.injEq] at hy3; omega)); omega)),hrun,(by first | exact fun z hz => by rw [hy3] at hz; simp only [Option.some.injEq] at hz; omega | exact fun z hz => by rw [hbe j (by omega) (by omega)] at hz; simp only [Option.some.injEq] at hz; omega)⟩⟩,kF 4 0 [8,9,10,11,12,19,21,22,23]⟩
 rintro ⟨j,hij,hrun,hstop⟩
 try dsimp only
 try dsimp only at hij hrun hstop
 refine xw_joinE (α := Option Addr × Nat × Nat) (fun y => (fun (v27a : Option Addr) (v27c : Nat) (g25 : Nat) => (⟨[(8,.p 1 0),(9,.p 2 0),(10,.v (.int .i64 (W : Int))),(11,.v (.pointer (some ⟨gd,0,none⟩))),(12,.v (.pointer (some ⟨gh,0,none⟩))),(19,.p 3 0),(21,.v (.int .i64 (n2 : Int))),(22,.v (.int .i64 (j : Int)))],[⟨26,rcvL r (.slice Arh r.held.length Crh)⟩,⟨26,rcvZ⟩,⟨26,rcvL r (.slice v1a r.held.length v1c)⟩,⟨26,[.int .i64 (seqAdd r.next (n2 : Int)),.string (r.data ++ (bstr (sl.take n2))),.slice v27a ((out ++ ([⟨((i - n2 : Nat) : Int),bstr (((dtOf W sl).drop i).take (j - i))⟩] : List Pce)).length) v27c,.int .i64 fp,.bool r.done]⟩],[],[rowF w.heap.size 65 2 (.slice v27a ((out ++ ([⟨((i - n2 : Nat) : Int),bstr (((dtOf W sl).drop i).take (j - i))⟩] : List Pce)).length) v27c) ((out ++ ([⟨((i - n2 : Nat) : Int),bstr (((dtOf W sl).drop i).take (j - i))⟩] : List Pce)).map pceCells),rowF w.heap.size 65 2 (.slice (some ⟨g25,0,none⟩) 1 1) (([⟨((i - n2 : Nat) : Int),bstr (((dtOf W sl).drop i).take (j - i))⟩] : List Pce).map pceCells),cellF w.heap.size gh 78 [.slice (some ⟨g5,0,none⟩) W W],cellF w.heap.size gd 22 [.slice (some ⟨g4,0,none⟩) W W],rowF w.heap.size 4 1 (.slice (some ⟨g5,0,none⟩) W W) ((hvOf W sl).map boolRow),rowF w.heap.size 5 1 (.slice (some ⟨g4,0,none⟩) W W) ((dtOf W sl).map byteRow),ownF w.heap.size (.slice v1a r.held.length v1c) 2 (r.held.map pceCells),slF (.slice Arh r.held.length Crh) 2 (r.held.map pceCells)]⟩ : St)) y.1 y.2.1 y.2.2) ?_ ?_
 refine xe_region0 [true,true,true,false] (by kernel_rfl) (fun ρ σ => ?_)
 refine kTS [0,2,3,4,6,7] [189,188,186,182,8,9,10,11,12,19,21,22] 9 [(189,.v (.int .i64 (j : Int))),(188,.v (.int .i64 (i : Int))),(186,.v (.int .i64 (IntKind.i64.wrap ((i : Int) - (n2 : Int))))),(182,.p 3 2),(8,.p 1 0),(9,.p 2 0),(10,.v (.int .i64 (W : Int))),(11,.v (.pointer (some ⟨gd,0,none⟩))),(12,.v (.pointer (some ⟨gh,0,none⟩))),(19,.p 3 0),(21,.v (.int .i64 (n2 : Int))),(22,.v (.int .i64 (j : Int)))] ?_
 refine xe_eqS (t := [(189,.v (.int .i64 (j : Int))),(188,.v (.int .i64 (i : Int))),(186,.v (.int .i64 (IntKind.i64.wrap ((i : Int) - (n2 : Int))))),(182,.p 3 2),(8,.p 1 0),(9,.p 2 0),(10,.v (.int .i64 (W : Int))),(11,.v (.pointer (some ⟨gd,0,none⟩))),(12,.v (.pointer (some ⟨gh,0,none⟩))),(19,.p 3 0),(21,.v (.int .i64 (n2 : Int))),(22,.v (.int .i64 (j : Int)))]) (t' := [(189,.v (.int .i64 (j : Int))),(188,.v (.int .i64 (i : Int))),(186,.v (.int .i64 ((i - n2 : Nat) : Int))),(182,.p 3 2),(8,.p 1 0),(9,.p 2 0),(10,.v (.int .i64 (W : Int))),(11,.v (.pointer (some ⟨gd,0,none⟩))),(12,.v (.pointer (some ⟨gh,0,none⟩))),(19,.p 3 0),(21,.v (.int .i64 (n2 : Int))),(22,.v (.int .i64 (j : Int)))]) (by rw [show (IntKind.i64.wrap ((i : Int) - (n2 : Int))) = ((i - n2 : Nat) : Int) from by rw [wrap_id (by omega) (by omega)]; omega]) ?_
 refine kA [1,5] ⟨?_,?_⟩
 refine kSV 1 (.v (.slice A1 out.length c1)) rfl ?_
 refine kA [5] ?_
 refine kSR 5 (.slice (some ⟨g4,0,none⟩) W W) rfl (fun _ _ ww hr => ldP_run (off := 0) (B := w.heap.size) (g := gd) (T := 22) (cs := [.slice (some ⟨g4,0,none⟩) W W]) hr rfl (by kernel_rfl) (by simp) (by kernel_rfl)) ?_
 refine kA [8] ?_
 refine kSR 8 (.slice (if W = i then (some ⟨g4,0,none⟩ : Option Addr) else (some ⟨g4,0,none⟩ : Option Addr).map (·.add (i * 1))) (j - i) (W - i)) rfl (fun _ _ ww hr => act_slV (e := 5) (A := some ⟨g4,0,none⟩) (len := W) (cap := W) (K := 1) (k := .i64) (p' := (i : Int)) (k' := .i64) (q' := (j : Int)) i j hr.1 rfl (by kernel_rfl) (by kernel_rfl) (by kernel_rfl) (by kernel_rfl) (by kernel_rfl) rfl rfl (by omega) (Nat.le_trans (show j ≤ W by omega) (Sl.capLe (rowF_sl (hr.2.fact (rowF w.heap.size 5 1 (.slice (some ⟨g4,0,none⟩) W W) ((dtOf W sl).map byteRow)) (by simp)).1))) ww) ?_
 refine kA [9] ?_
 refine kSR 9 (.string (bstr (((dtOf W sl).drop i).take (j - i)))) rfl (fun _ _ ww hr => act_b2s (e := 5) (((dtOf W sl).drop i).take (j - i)) hr.1 rfl (by kernel_rfl) (by kernel_rfl) (by kernel_rfl) rfl (Sl.partM (rowF_sl (hr.2.fact (rowF w.heap.size 5 1 (.slice (some ⟨g4,0,none⟩) W W) ((dtOf W sl).map byteRow)) (by simp)).1) i j (by omega) (by omega))) ?_
 refine kX 10 (.agg (pceL (⟨((i - n2 : Nat) : Int),bstr (((dtOf W sl).drop i).take (j - i))⟩ : Pce)).toArray) rfl (fun _ _ ww hA => act_build [(0,.int .i64 ((i - n2 : Nat) : Int)),(1,.string (bstr (((dtOf W sl).drop i).take (j - i))))] hA rfl (by kernel_rfl) (by kernel_rfl) ww) ?_
 refine kA [11] ?_
 refine kSH 11 rfl (under_t (under_t (under_t (under_f rfl under_nil)))) (hv_build (e := 65) (K := 2) (bytes := 24) [.agg (pceL (⟨((i - n2 : Nat) : Int),bstr (((dtOf W sl).drop i).take (j - i))⟩ : Pce)).toArray] rfl (by kernel_rfl) (by kernel_rfl) (by kernel_rfl) (by kernel_rfl) (by kernel_rfl) (rs := ([⟨((i - n2 : Nat) : Int),bstr (((dtOf W sl).drop i).take (j - i))⟩] : List Pce).map pceCells) rfl) ?_
 intro g25
 refine kA [12] ?_
 refine kSH 12 rfl (under_t (under_t (under_t (under_f rfl under_nil)))) (hv_append (e := 65) (K := 2) (bytes := 24) (i := 1) (q := (out ++ ([⟨((i - n2 : Nat) : Int),bstr (((dtOf W sl).drop i).take (j - i))⟩] : List Pce)).length) (new := ([⟨((i - n2 : Nat) : Int),bstr (((dtOf W sl).drop i).take (j - i))⟩] : List Pce).map pceCells) (rs' := (out ++ ([⟨((i - n2 : Nat) : Int),bstr (((dtOf W sl).drop i).take (j - i))⟩] : List Pce)).map pceCells) rfl rfl rfl rfl (by kernel_rfl) (by kernel_rfl) (by kernel_rfl) rfl (by first | (simp; done) | (simp; omega)) (by rw [List.map_append]) (by first | (simp; done) | (simp; omega)) (fun ww hf => (rowF_sl (hf (rowF w.heap.size 65 2 (.slice (some ⟨g25,0,none⟩) 1 1) (([⟨((i - n2 : Nat) : Int),bstr (((dtOf W sl).drop i).take (j - i))⟩] : List Pce).map pceCells)) (by simp)))) (by intro r hr; obtain ⟨x,hx,rfl⟩ := List.mem_map.1 hr; exact ⟨rfl,by simp [pceCells,Value.oneCell']⟩) (by (try simp only [List.length_map,List.length_append,List.length_cons,List.length_nil,List.length_take,List.length_drop,maxLen]); omega) (by (try simp only [List.length_map,List.length_append,List.length_cons,List.length_nil,List.length_take,List.length_drop,maxLen]); omega)) ?_
 rintro ⟨v27a,v27c⟩
 refine kTS [13] [195,194,8,9,10,11,12,19,21,22] 1 [(195,.p 3 2),(194,.v (.slice v27a ((out ++ ([⟨((i - n2 : Nat) : Int),bstr (((dtOf W sl).drop i).take (j - i))⟩] : List Pce)).length) v27c)),(8,.p 1 0),(9,.p 2 0),(10,.v (.int .i64 (W : Int))),(11,.v (.pointer (some ⟨gd,0,none⟩))),(12,.v (.pointer (some ⟨gh,0,none⟩))),(19,.p 3 0),(21,.v (.int .i64 (n2 : Int))),(22,.v (.int .i64 (j : Int)))] ?_
 refine kA [14] ?_
 refine kSS 14 3 2 [.slice v27a ((out ++ ([⟨((i - n2 : Nat) : Int),bstr (((dtOf W sl).drop i).take (j - i))⟩] : List Pce)).length) v27c] rfl ?_
 refine kZ ?_
 exact ⟨(v27a,v27c,g25),kF 4 0 [8,9,10,11,12,19,21,22]⟩
 refine kSR 5 (.slice (some ⟨g4,0,none⟩) W W) rfl (fun _ _ ww hr => ldP_run (off := 0) (B := w.heap.size) (g := gd) (T := 22) (cs := [.slice (some ⟨g4,0,none⟩) W W]) hr rfl (by kernel_rfl) (by simp) (by kernel_rfl)) ?_
 refine kA [1,8] ⟨?_,?_⟩
 refine kSV 1 (.v (.slice A1 out.length c1)) rfl ?_
 refine kA [8] ?_
 refine kSR 8 (.slice (if W = i then (some ⟨g4,0,none⟩ : Option Addr) else (some ⟨g4,0,none⟩ : Option Addr).map (·.add (i * 1))) (j - i) (W - i)) rfl (fun _ _ ww hr => act_slV (e := 5) (A := some ⟨g4,0,none⟩) (len := W) (cap := W) (K := 1) (k := .i64) (p' := (i : Int)) (k' := .i64) (q' := (j : Int)) i j hr.1 rfl (by kernel_rfl) (by kernel_rfl) (by kernel_rfl) (by kernel_rfl) (by kernel_rfl) rfl rfl (by omega) (Nat.le_trans (show j ≤ W by omega) (Sl.capLe (rowF_sl (hr.2.fact (rowF w.heap.size 5 1 (.slice (some ⟨g4,0,none⟩) W W) ((dtOf W sl).map byteRow)) (by simp)).1))) ww) ?_
 refine kA [9] ?_
 refine kSR 9 (.string (bstr (((dtOf W sl).drop i).take (j - i)))) rfl (fun _ _ ww hr => act_b2s (e := 5) (((dtOf W sl).drop i).take (j - i)) hr.1 rfl (by kernel_rfl) (by kernel_rfl) (by kernel_rfl) rfl (Sl.partM (rowF_sl (hr.2.fact (rowF w.heap.size 5 1 (.slice (some ⟨g4,0,none⟩) W W) ((dtOf W sl).map byteRow)) (by simp)).1) i j (by omega) (by omega))) ?_
 refine kX 10 (.agg (pceL (⟨((i - n2 : Nat) : Int),bstr (((dtOf W sl).drop i).take (j - i))⟩ : Pce)).toArray) rfl (fun _ _ ww hA => act_build [(0,.int .i64 ((i - n2 : Nat) : Int)),(1,.string (bstr (((dtOf W sl).drop i).take (j - i))))] hA rfl (by kernel_rfl) (by kernel_rfl) ww) ?_
 refine kA [11] ?_
 refine kSH 11 rfl (under_t (under_t (under_t (under_f rfl under_nil)))) (hv_build (e := 65) (K := 2) (bytes := 24) [.agg (pceL (⟨((i - n2 : Nat) : Int),bstr (((dtOf W sl).drop i).take (j - i))⟩ : Pce)).toArray] rfl (by kernel_rfl) (by kernel_rfl) (by kernel_rfl) (by kernel_rfl) (by kernel_rfl) (rs := ([⟨((i - n2 : Nat) : Int),bstr (((dtOf W sl).drop i).take (j - i))⟩] : List Pce).map pceCells) rfl) ?_
 intro g29
 refine kA [12] ?_
 refine kSH 12 rfl (under_t (under_t (under_t (under_f rfl under_nil)))) (hv_append (e := 65) (K := 2) (bytes := 24) (i := 1) (q := (out ++ ([⟨((i - n2 : Nat) : Int),bstr (((dtOf W sl).drop i).take (j - i))⟩] : List Pce)).length) (new := ([⟨((i - n2 : Nat) : Int),bstr (((dtOf W sl).drop i).take (j - i))⟩] : List Pce).map pceCells) (rs' := (out ++ ([⟨((i - n2 : Nat) : Int),bstr (((dtOf W sl).drop i).take (j - i))⟩] : List Pce)).map pceCells) rfl rfl rfl rfl (by kernel_rfl) (by kernel_rfl) (by kernel_rfl) rfl (by first | (simp; done) | (simp; omega)) (by rw [List.map_append]) (by first | (simp; done) | (simp; omega)) (fun ww hf => (rowF_sl (hf (rowF w.heap.size 65 2 (.slice (some ⟨g29,0,none⟩) 1 1) (([⟨((i - n2 : Nat) : Int),bstr (((dtOf W sl).drop i).take (j - i))⟩] : List Pce).map pceCells)) (by simp)))) (by intro r hr; obtain ⟨x,hx,rfl⟩ := List.mem_map.1 hr; exact ⟨rfl,by simp [pceCells,Value.oneCell']⟩) (by (try simp only [List.length_map,List.length_append,List.length_cons,List.length_nil,List.length_take,List.length_drop,maxLen]); omega) (by (try simp only [List.length_map,List.length_append,List.length_cons,List.length_nil,List.length_take,List.length_drop,maxLen]); omega)) ?_
 rintro ⟨v31a,v31c⟩
 refine kTS [13] [195,194,8,9,10,11,12,19,21,22] 1 [(195,.p 3 2),(194,.v (.slice v31a ((out ++ ([⟨((i - n2 : Nat) : Int),bstr (((dtOf W sl).drop i).take (j - i))⟩] : List Pce)).length) v31c)),(8,.p 1 0),(9,.p 2 0),(10,.v (.int .i64 (W : Int))),(11,.v (.pointer (some ⟨gd,0,none⟩))),(12,.v (.pointer (some ⟨gh,0,none⟩))),(19,.p 3 0),(21,.v (.int .i64 (n2 : Int))),(22,.v (.int .i64 (j : Int)))] ?_
 refine kA [14] ?_
 refine kSS 14 3 2 [.slice v31a ((out ++ ([⟨((i - n2 : Nat) : Int),bstr (((dtOf W sl).drop i).take (j - i))⟩] : List Pce)).length) v31c] rfl ?_
 refine kZ ?_
 exact ⟨(v31a,v31c,g29),kF 4 0 [8,9,10,11,12,19,21,22]⟩
 refine kSR 8 (.slice (if W = i then (some ⟨g4,0,none⟩ : Option Addr) else (some ⟨g4,0,none⟩ : Option Addr).map (·.add (i * 1))) (j - i) (W - i)) rfl (fun _ _ ww hr => act_slV (e := 5) (A := some ⟨g4,0,none⟩) (len := W) (cap := W) (K := 1) (k := .i64) (p' := (i : Int)) (k' := .i64) (q' := (j : Int)) i j hr.1 rfl (by kernel_rfl) (by kernel_rfl) (by kernel_rfl) (by kernel_rfl) (by kernel_rfl) rfl rfl (by omega) (Nat.le_trans (show j ≤ W by omega) (Sl.capLe (rowF_sl (hr.2.fact (rowF w.heap.size 5 1 (.slice (some ⟨g4,0,none⟩) W W) ((dtOf W sl).map byteRow)) (by simp)).1))) ww) ?_
 refine kA [1,9] ⟨?_,?_⟩
 refine kSV 1 (.v (.slice A1 out.length c1)) rfl ?_
 refine kA [9] ?_
 refine kSR 9 (.string (bstr (((dtOf W sl).drop i).take (j - i)))) rfl (fun _ _ ww hr => act_b2s (e := 5) (((dtOf W sl).drop i).take (j - i)) hr.1 rfl (by kernel_rfl) (by kernel_rfl) (by kernel_rfl) rfl (Sl.partM (rowF_sl (hr.2.fact (rowF w.heap.size 5 1 (.slice (some ⟨g4,0,none⟩) W W) ((dtOf W sl).map byteRow)) (by simp)).1) i j (by omega) (by omega))) ?_
 refine kX 10 (.agg (pceL (⟨((i - n2 : Nat) : Int),bstr (((dtOf W sl).drop i).take (j - i))⟩ : Pce)).toArray) rfl (fun _ _ ww hA => act_build [(0,.int .i64 ((i - n2 : Nat) : Int)),(1,.string (bstr (((dtOf W sl).drop i).take (j - i))))] hA rfl (by kernel_rfl) (by kernel_rfl) ww) ?_
 refine kA [11] ?_
 refine kSH 11 rfl (under_t (under_t (under_t (under_f rfl under_nil)))) (hv_build (e := 65) (K := 2) (bytes := 24) [.agg (pceL (⟨((i - n2 : Nat) : Int),bstr (((dtOf W sl).drop i).take (j - i))⟩ : Pce)).toArray] rfl (by kernel_rfl) (by kernel_rfl) (by kernel_rfl) (by kernel_rfl) (by kernel_rfl) (rs := ([⟨((i - n2 : Nat) : Int),bstr (((dtOf W sl).drop i).take (j - i))⟩] : List Pce).map pceCells) rfl) ?_
 intro g33
 refine kA [12] ?_
 refine kSH 12 rfl (under_t (under_t (under_t (under_f rfl under_nil)))) (hv_append (e := 65) (K := 2) (bytes := 24) (i := 1) (q := (out ++ ([⟨((i - n2 : Nat) : Int),bstr (((dtOf W sl).drop i).take (j - i))⟩] : List Pce)).length) (new := ([⟨((i - n2 : Nat) : Int),bstr (((dtOf W sl).drop i).take (j - i))⟩] : List Pce).map pceCells) (rs' := (out ++ ([⟨((i - n2 : Nat) : Int),bstr (((dtOf W sl).drop i).take (j - i))⟩] : List Pce)).map pceCells) rfl rfl rfl rfl (by kernel_rfl) (by kernel_rfl) (by kernel_rfl) rfl (by first | (simp; done) | (simp; omega)) (by rw [List.map_append]) (by first | (simp; done) | (simp; omega)) (fun ww hf => (rowF_sl (hf (rowF w.heap.size 65 2 (.slice (some ⟨g33,0,none⟩) 1 1) (([⟨((i - n2 : Nat) : Int),bstr (((dtOf W sl).drop i).take (j - i))⟩] : List Pce).map pceCells)) (by simp)))) (by intro r hr; obtain ⟨x,hx,rfl⟩ := List.mem_map.1 hr; exact ⟨rfl,by simp [pceCells,Value.oneCell']⟩) (by (try simp only [List.length_map,List.length_append,List.length_cons,List.length_nil,List.length_take,List.length_drop,maxLen]); omega) (by (try simp only [List.length_map,List.length_append,List.length_cons,List.length_nil,List.length_take,List.length_drop,maxLen]); omega)) ?_
 rintro ⟨v35a,v35c⟩
 refine kTS [13] [195,194,8,9,10,11,12,19,21,22] 1 [(195,.p 3 2),(194,.v (.slice v35a ((out ++ ([⟨((i - n2 : Nat) : Int),bstr (((dtOf W sl).drop i).take (j - i))⟩] : List Pce)).length) v35c)),(8,.p 1 0),(9,.p 2 0),(10,.v (.int .i64 (W : Int))),(11,.v (.pointer (some ⟨gd,0,none⟩))),(12,.v (.pointer (some ⟨gh,0,none⟩))),(19,.p 3 0),(21,.v (.int .i64 (n2 : Int))),(22,.v (.int .i64 (j : Int)))] ?_
 refine kA [14] ?_
 refine kSS 14 3 2 [.slice v35a ((out ++ ([⟨((i - n2 : Nat) : Int),bstr (((dtOf W sl).drop i).take (j - i))⟩] : List Pce)).length) v35c] rfl ?_
 refine kZ ?_
 exact ⟨(v35a,v35c,g33),kF 4 0 [8,9,10,11,12,19,21,22]⟩
 refine kSR 9 (.string (bstr (((dtOf W sl).drop i).take (j - i)))) rfl (fun _ _ ww hr => act_b2s (e := 5) (((dtOf W sl).drop i).take (j - i)) hr.1 rfl (by kernel_rfl) (by kernel_rfl) (by kernel_rfl) rfl (Sl.partM (rowF_sl (hr.2.fact (rowF w.heap.size 5 1 (.slice (some ⟨g4,0,none⟩) W W) ((dtOf W sl).map byteRow)) (by simp)).1) i j (by omega) (by omega))) ?_
 refine kX 10 (.agg (pceL (⟨((i - n2 : Nat) : Int),bstr (((dtOf W sl).drop i).take (j - i))⟩ : Pce)).toArray) rfl (fun _ _ ww hA => act_build [(0,.int .i64 ((i - n2 : Nat) : Int)),(1,.string (bstr (((dtOf W sl).drop i).take (j - i))))] hA rfl (by kernel_rfl) (by kernel_rfl) ww) ?_
 refine kA [1,11] ⟨?_,?_⟩
 refine kSV 1 (.v (.slice A1 out.length c1)) rfl ?_
 refine kA [11] ?_
 refine kSH 11 rfl (under_t (under_t (under_t (under_f rfl under_nil)))) (hv_build (e := 65) (K := 2) (bytes := 24) [.agg (pceL (⟨((i - n2 : Nat) : Int),bstr (((dtOf W sl).drop i).take (j - i))⟩ : Pce)).toArray] rfl (by kernel_rfl) (by kernel_rfl) (by kernel_rfl) (by kernel_rfl) (by kernel_rfl) (rs := ([⟨((i - n2 : Nat) : Int),bstr (((dtOf W sl).drop i).take (j - i))⟩] : List Pce).map pceCells) rfl) ?_
 intro g38
 refine kA [12] ?_
 refine kSH 12 rfl (under_t (under_t (under_t (under_f rfl under_nil)))) (hv_append (e := 65) (K := 2) (bytes := 24) (i := 1) (q := (out ++ ([⟨((i - n2 : Nat) : Int),bstr (((dtOf W sl).drop i).take (j - i))⟩] : List Pce)).length) (new := ([⟨((i - n2 : Nat) : Int),bstr (((dtOf W sl).drop i).take (j - i))⟩] : List Pce).map pceCells) (rs' := (out ++ ([⟨((i - n2 : Nat) : Int),bstr (((dtOf W sl).drop i).take (j - i))⟩] : List Pce)).map pceCells) rfl rfl rfl rfl (by kernel_rfl) (by kernel_rfl) (by kernel_rfl) rfl (by first | (simp; done) | (simp; omega)) (by rw [List.map_append]) (by first | (simp; done) | (simp; omega)) (fun ww hf => (rowF_sl (hf (rowF w.heap.size 65 2 (.slice (some ⟨g38,0,none⟩) 1 1) (([⟨((i - n2 : Nat) : Int),bstr (((dtOf W sl).drop i).take (j - i))⟩] : List Pce).map pceCells)) (by simp)))) (by intro r hr; obtain ⟨x,hx,rfl⟩ := List.mem_map.1 hr; exact ⟨rfl,by simp [pceCells,Value.oneCell']⟩) (by (try simp only [List.length_map,List.length_append,List.length_cons,List.length_nil,List.length_take,List.length_drop,maxLen]); omega) (by (try simp only [List.length_map,List.length_append,List.length_cons,List.length_nil,List.length_take,List.length_drop,maxLen]); omega)) ?_
 rintro ⟨v40a,v40c⟩
 refine kTS [13] [195,194,8,9,10,11,12,19,21,22] 1 [(195,.p 3 2),(194,.v (.slice v40a ((out ++ ([⟨((i - n2 : Nat) : Int),bstr (((dtOf W sl).drop i).take (j - i))⟩] : List Pce)).length) v40c)),(8,.p 1 0),(9,.p 2 0),(10,.v (.int .i64 (W : Int))),(11,.v (.pointer (some ⟨gd,0,none⟩))),(12,.v (.pointer (some ⟨gh,0,none⟩))),(19,.p 3 0),(21,.v (.int .i64 (n2 : Int))),(22,.v (.int .i64 (j : Int)))] ?_
 refine kA [14] ?_
 refine kSS 14 3 2 [.slice v40a ((out ++ ([⟨((i - n2 : Nat) : Int),bstr (((dtOf W sl).drop i).take (j - i))⟩] : List Pce)).length) v40c] rfl ?_
 refine kZ ?_
 exact ⟨(v40a,v40c,g38),kF 4 0 [8,9,10,11,12,19,21,22]⟩
 refine kSH 11 rfl (under_t (under_t (under_t (under_f rfl under_nil)))) (hv_build (e := 65) (K := 2) (bytes := 24) [.agg (pceL (⟨((i - n2 : Nat) : Int),bstr (((dtOf W sl).drop i).take (j - i))⟩ : Pce)).toArray] rfl (by kernel_rfl) (by kernel_rfl) (by kernel_rfl) (by kernel_rfl) (by kernel_rfl) (rs := ([⟨((i - n2 : Nat) : Int),bstr (((dtOf W sl).drop i).take (j - i))⟩] : List Pce).map pceCells) rfl) ?_
 intro g41
 refine kA [1] ?_
 refine kSV 1 (.v (.slice A1 out.length c1)) rfl ?_
 refine kA [12] ?_
 refine kSH 12 rfl (under_t (under_t (under_t (under_f rfl under_nil)))) (hv_append (e := 65) (K := 2) (bytes := 24) (i := 1) (q := (out ++ ([⟨((i - n2 : Nat) : Int),bstr (((dtOf W sl).drop i).take (j - i))⟩] : List Pce)).length) (new := ([⟨((i - n2 : Nat) : Int),bstr (((dtOf W sl).drop i).take (j - i))⟩] : List Pce).map pceCells) (rs' := (out ++ ([⟨((i - n2 : Nat) : Int),bstr (((dtOf W sl).drop i).take (j - i))⟩] : List Pce)).map pceCells) rfl rfl rfl rfl (by kernel_rfl) (by kernel_rfl) (by kernel_rfl) rfl (by first | (simp; done) | (simp; omega)) (by rw [List.map_append]) (by first | (simp; done) | (simp; omega)) (fun ww hf => (rowF_sl (hf (rowF w.heap.size 65 2 (.slice (some ⟨g41,0,none⟩) 1 1) (([⟨((i - n2 : Nat) : Int),bstr (((dtOf W sl).drop i).take (j - i))⟩] : List Pce).map pceCells)) (by simp)))) (by intro r hr; obtain ⟨x,hx,rfl⟩ := List.mem_map.1 hr; exact ⟨rfl,by simp [pceCells,Value.oneCell']⟩) (by (try simp only [List.length_map,List.length_append,List.length_cons,List.length_nil,List.length_take,List.length_drop,maxLen]); omega) (by (try simp only [List.length_map,List.length_append,List.length_cons,List.length_nil,List.length_take,List.length_drop,maxLen]); omega)) ?_
 rintro ⟨v43a,v43c⟩
 refine kTS [13] [195,194,8,9,10,11,12,19,21,22] 1 [(195,.p 3 2),(194,.v (.slice v43a ((out ++ ([⟨((i - n2 : Nat) : Int),bstr (((dtOf W sl).drop i).take (j - i))⟩] : List Pce)).length) v43c)),(8,.p 1 0),(9,.p 2 0),(10,.v (.int .i64 (W : Int))),(11,.v (.pointer (some ⟨gd,0,none⟩))),(12,.v (.pointer (some ⟨gh,0,none⟩))),(19,.p 3 0),(21,.v (.int .i64 (n2 : Int))),(22,.v (.int .i64 (j : Int)))] ?_
 refine kA [14] ?_
 refine kSS 14 3 2 [.slice v43a ((out ++ ([⟨((i - n2 : Nat) : Int),bstr (((dtOf W sl).drop i).take (j - i))⟩] : List Pce)).length) v43c] rfl ?_
 refine kZ ?_
 exact ⟨(v43a,v43c,g41),kF 4 0 [8,9,10,11,12,19,21,22]⟩
 rintro ⟨v27a,v27c,g25⟩
 exact ⟨⟨(j,(out ++ ([⟨((i - n2 : Nat) : Int),bstr (((dtOf W sl).drop i).take (j - i))⟩] : List Pce)),v27a,v27c),⟨(by (try dsimp only); omega),(by rw [dt_part (by omega) hrun,HP]; exact pcs_piece (by omega) hij.1 (by omega) hrun (htc y2 hy2 (by omega))),(bd_more hbd (by omega) (by rw [bstr_size,List.length_take,List.length_drop,dtOf_len (by omega)]; omega)),(fun x hx h0 => by have := hstop x hx; omega),(by (try dsimp only); (try simp only [List.length_append,List.length_cons,List.length_nil]); omega)⟩⟩,(wk_pick [0,2,3,4,5,6,7] [rowF w.heap.size 65 2 (.slice v27a ((out ++ ([⟨((i - n2 : Nat) : Int),bstr (((dtOf W sl).drop i).take (j - i))⟩] : List Pce)).length) v27c) ((out ++ ([⟨((i - n2 : Nat) : Int),bstr (((dtOf W sl).drop i).take (j - i))⟩] : List Pce)).map pceCells),cellF w.heap.size gh 78 [.slice (some ⟨g5,0,none⟩) W W],cellF w.heap.size gd 22 [.slice (some ⟨g4,0,none⟩) W W],rowF w.heap.size 4 1 (.slice (some ⟨g5,0,none⟩) W W) ((hvOf W sl).map boolRow),rowF w.heap.size 5 1 (.slice (some ⟨g4,0,none⟩) W W) ((dtOf W sl).map byteRow),ownF w.heap.size (.slice v1a r.held.length v1c) 2 (r.held.map pceCells),slF (.slice Arh r.held.length Crh) 2 (r.held.map pceCells)] (by kernel_rfl) (by kernel_rfl)).trans <| kF 4 0 [8,9,10,11,12,19,21,22],by show (fun (i : Nat) (out : List Pce) (A1 : Option Addr) (c1 : Nat) => W - i) j (out ++ ([⟨((i - n2 : Nat) : Int),bstr (((dtOf W sl).drop i).take (j - i))⟩] : List Pce)) v27a v27c < W - i; (dsimp only; omega)⟩
 have h20p := of_decide_eq_false h20
 have hge5 : i = W := by simp at h20; omega
 have hpc : pcs [] 0 (sl.drop n2) = out := by rw [HP,hge5]; exact pcs_neg out _ _ (beyond_neg hbe hl)
 refine xw_exit ?_
 refine kS ?_
 refine kQ ?_
 refine kED [8,9,19,199] [(199,.v (.bool (decide (((out.length : Nat) : Int) > 3))))] ?_
 refine kC (decide (((out.length : Nat) : Int) > 3)) (fun h44 => ?_) (fun h44 => ?_)
 have h44p := of_decide_eq_true h44
 refine kQ ?_
 refine kEU [8] [(8,.p 1 0)] 1 ⟨26,rcvL r (.slice v1a r.held.length v1c)⟩ ?_
 refine kR ?_
 have hmod : arrived r seq text fin = r := by first | exact arrived_over hrk (by assumption) (by rw [← hall,← hnf,hpc]; omega) | (unfold arrived; rw [if_neg (by grind)]; done) | (unfold arrived; rw [if_pos (by grind),← hall,← hnf,hpc,← hfp]; first | (rw [if_pos (by omega)]; done) | (rw [if_neg (by omega),if_pos (by first | omega | simp_all)]; done) | (rw [if_neg (by omega),if_neg (by first | omega | simp_all)]; done))
 exact ⟨[.agg (rcvL r (.slice v1a r.held.length v1c)).toArray],by kernel_rfl,fun w' hb hf ha => by rw [hmod]; exact xo1 ((v1a,v1c)) rfl rfl (pO (hf _ m5) hB) hb⟩
 have h44p := of_decide_eq_false h44
 refine kK ?_
 refine kS ?_
 refine kQ ?_
 refine kED [8,19,203] [(203,.v (.bool (fp == 0)))] ?_
 refine kC (fp == 0) (fun h45 => ?_) (fun h45 => ?_)
 have h45p := eqT h45
 refine kQ ?_
 refine kEU [8,19] [] 3 ⟨26,[.int .i64 (seqAdd r.next (n2 : Int)),.string (r.data ++ (bstr (sl.take n2))),.slice A1 out.length c1,.int .i64 fp,.bool true]⟩ ?_
 refine kQ ?_
 refine kEU [8,19] [] 3 ⟨26,[.int .i64 (seqAdd r.next (n2 : Int)),.string (r.data ++ (bstr (sl.take n2))),.slice A1 out.length c1,.int .i64 (-1),.bool true]⟩ ?_
 refine kG ?_
 refine kCD 2 [8,19,207] [(207,.v (.int .i64 (seqAdd r.next (n2 : Int))))] 32 [.int .i64 (seqAdd r.next (n2 : Int)),.int .i64 1] (some 208) rfl (xc_s fun ww hf => iSeqAdd_c (seqAdd r.next (n2 : Int)) 1 ww ) ?_
 intro _
 refine kEF [8,19] ⟨[(8,.p 1 0),(19,.p 3 0)],[⟨26,rcvL r (.slice Arh r.held.length Crh)⟩,⟨26,rcvZ⟩,⟨26,rcvL r (.slice v1a r.held.length v1c)⟩,⟨26,[.int .i64 (seqAdd (seqAdd r.next (n2 : Int)) 1),.string (r.data ++ (bstr (sl.take n2))),.slice A1 out.length c1,.int .i64 (-1),.bool true]⟩],[],[rowF w.heap.size 65 2 (.slice A1 out.length c1) (out.map pceCells),cellF w.heap.size gh 78 [.slice (some ⟨g5,0,none⟩) W W],cellF w.heap.size gd 22 [.slice (some ⟨g4,0,none⟩) W W],rowF w.heap.size 4 1 (.slice (some ⟨g5,0,none⟩) W W) ((hvOf W sl).map boolRow),rowF w.heap.size 5 1 (.slice (some ⟨g4,0,none⟩) W W) ((dtOf W sl).map byteRow),ownF w.heap.size (.slice v1a r.held.length v1c) 2 (r.held.map pceCells),slF (.slice Arh r.held.length Crh) 2 (r.held.map pceCells)]⟩ ?_
 refine kQ ?_
 refine kEU [8] [(8,.p 1 0)] 1 ⟨26,[.int .i64 (seqAdd (seqAdd r.next (n2 : Int)) 1),.string (r.data ++ (bstr (sl.take n2))),.slice A1 out.length c1,.int .i64 (-1),.bool true]⟩ ?_
 refine kR ?_
 have hmod : arrived r seq text fin = (⟨seqAdd (seqAdd r.next (n2 : Int)) 1,r.data ++ (bstr (sl.take n2)),out,(-1),true⟩) := by first | exact arrived_over hrk (by assumption) (by rw [← hall,← hnf,hpc]; omega) | (unfold arrived; rw [if_neg (by grind)]; done) | (unfold arrived; rw [if_pos (by grind),← hall,← hnf,hpc,← hfp]; first | (rw [if_pos (by omega)]; done) | (rw [if_neg (by omega),if_pos (by first | omega | simp_all)]; done) | (rw [if_neg (by omega),if_neg (by first | omega | simp_all)]; done))
 exact ⟨[.agg #[.int .i64 (seqAdd (seqAdd r.next (n2 : Int)) 1),.string (r.data ++ (bstr (sl.take n2))),.slice A1 out.length c1,.int .i64 (-1),.bool true]],by kernel_rfl,fun w' hb hf ha => by rw [hmod]; exact xo1 ((A1,c1)) rfl rfl (pR (hf _ m0) hB) hb⟩
 have h45p := eqF h45
 refine kK ?_
 refine kQ ?_
 refine kEU [8] [(8,.p 1 0)] 1 ⟨26,[.int .i64 (seqAdd r.next (n2 : Int)),.string (r.data ++ (bstr (sl.take n2))),.slice A1 out.length c1,.int .i64 fp,.bool r.done]⟩ ?_
 refine kR ?_
 have hmod : arrived r seq text fin = (⟨seqAdd r.next (n2 : Int),r.data ++ (bstr (sl.take n2)),out,fp,r.done⟩) := by first | exact arrived_over hrk (by assumption) (by rw [← hall,← hnf,hpc]; omega) | (unfold arrived; rw [if_neg (by grind)]; done) | (unfold arrived; rw [if_pos (by grind),← hall,← hnf,hpc,← hfp]; first | (rw [if_pos (by omega)]; done) | (rw [if_neg (by omega),if_pos (by first | omega | simp_all)]; done) | (rw [if_neg (by omega),if_neg (by first | omega | simp_all)]; done))
 exact ⟨[.agg #[.int .i64 (seqAdd r.next (n2 : Int)),.string (r.data ++ (bstr (sl.take n2))),.slice A1 out.length c1,.int .i64 fp,.bool r.done]],by kernel_rfl,fun w' hb hf ha => by rw [hmod]; exact xo1 ((A1,c1)) rfl rfl (pR (hf _ m0) hB) hb⟩
end Go.Proofs.Ytnmmhbhdcplfmaa
