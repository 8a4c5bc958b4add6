/- Contracts that this law needs, part 4. -/
import Derived.Test.YtnmmhbhdcplfmaaGreatZ3
namespace Go.Proofs.YtnmmhbhdcplfmaaGreat
open Go.RowKit
set_option linter.unusedVariables false
set_option linter.unusedSimpArgs false
set_option maxRecDepth 100000
set_option maxHeartbeats 2000000

theorem l18Stream_c (g : Nat) (code : List Int) (A : Option Addr) (cap : Nat) (r : Rcv) (r_heldV : Value) (w : World) (B : Nat) (hB : B ≤ w.heap.size) (hc : (curF B g 100 (.slice A code.length cap) code.length).p w) (hl : Sl w (.slice A code.length cap) 1 (code.map byteRow)) (hap : ¬ (slF (.slice A code.length cap) 1 (code.map byteRow)).blk g) (hn : code.length ≤ 1048576)  : Calls Tryz.prog 119 #[.pointer (some ⟨g, 0, none⟩), .agg (rcvL r r_heldV).toArray] w fun e w' => ∃ y : {y : Int × ByteArray × Bool // y.2.1.size ≤ 4096}, e = .returned (.tuple #[.int .i64 y.1.1, .string y.1.2.1, .bool y.1.2.2]) ∧ (curF B g 100 (.slice A code.length cap) code.length).p w' ∧ Chgd (fun b => b = g) w w' := by
 have hq_code := Sl.capLe hl
 have hBw : B ≤ (cutW w B).heap.size := Nat.le_of_eq (cutW_size hB).symm
 have hlo : ∀ (ww : World) (b : Nat),(curF B g 100 (.slice A code.length cap) code.length).p ww → (curF B g 100 (.slice A code.length cap) code.length).blk b → (cutW w B).heap.size ≤ b := fun ww b h hb => Nat.le_trans (cutW_le w B) (cur_lo h hb)
 refine x_callsM (args := [.pointer (some ⟨g,0,none⟩),.agg (rcvL r r_heldV).toArray]) (fn := Tryz.f119) [curF B g 100 (.slice A code.length cap) code.length,slF (.slice A code.length cap) 1 (code.map byteRow),frF w (fun b => b = g)] B Tryz.func119 rfl Tryz.ntmps119 rfl hB (by simp only [List.mem_cons,List.not_mem_nil,or_false,forall_eq_or_imp,forall_eq]; exact ⟨hc,hl,frF_start w _⟩) (apart_cur hap rfl) ?_
 refine kQ ?_
 refine kEF [0,3] ⟨[(0,.v (.pointer (some ⟨g,0,none⟩))),(3,.p 0 0)],[⟨30,rcvL r r_heldV⟩],[],[curF B g 100 (.slice A code.length cap) code.length,slF (.slice A code.length cap) 1 (code.map byteRow),frF w (fun b => b = g)]⟩ ?_
 refine kQ ?_
 refine kWD 1 [0,3,11] [(11,.v (.pointer (some ⟨g,0,none⟩)))] 86 [.pointer (some ⟨g,0,none⟩),.int .i64 40] (some 12) 0 rfl rfl hlo (l1Below_c_K hBw hap) ?_
 rintro ⟨y1,hy1⟩
 obtain ⟨hy10,hy11⟩ := hy1
 refine kED [0,3,7] [(7,.v (.int .i64 (IntKind.i64.wrap (y1 - 6))))] ?_
 refine kQ ?_
 refine kWD 1 [0,3,7,14] [(14,.v (.pointer (some ⟨g,0,none⟩)))] 86 [.pointer (some ⟨g,0,none⟩),.int .i64 9] (some 15) 0 rfl rfl hlo (l1Below_c_K hBw hap) ?_
 rintro ⟨y2,hy2⟩
 obtain ⟨hy20,hy21⟩ := hy2
 refine kED [0,3,7,8] [(8,.v (.int .i64 y2))] ?_
 refine kQ ?_
 refine kHD 0 [0,3,7,8] [] rfl (hv_build (e := 5) (K := 1) (bytes := 1) [] rfl (by kernel_rfl) (by kernel_rfl) (by kernel_rfl) (by kernel_rfl) (by kernel_rfl) (rs := ([] : List Int).map byteRow) rfl) ?_
 intro g3
 refine kED [0,3,7,8,9] [(9,.v (.slice (some ⟨g3,0,none⟩) 0 0))] ?_
 refine kS ?_
 refine kQ ?_
 refine kED [0,3,7,8,9,10] [(10,.v (.int .i64 0))] ?_
 refine xw_block ?_
 refine xw_loopW (α := {x : Nat × List Int × Option Addr × Nat // (fun (i : Nat) (bs : List Int) (A1 : Option Addr) (c1 : Nat) => (i : Int) ≤ y2 ∧ bs.length = i) x.1 x.2.1 x.2.2.1 x.2.2.2}) (fun x => (fun (i : Nat) (bs : List Int) (A1 : Option Addr) (c1 : Nat) => (⟨[(0,.v (.pointer (some ⟨g,0,none⟩))),(3,.p 0 0),(7,.v (.int .i64 (IntKind.i64.wrap (y1 - 6)))),(8,.v (.int .i64 y2)),(9,.v (.slice A1 bs.length c1)),(10,.v (.int .i64 (i : Int)))],[⟨30,rcvL r r_heldV⟩],[],[rowF (cutW w B).heap.size 5 1 (.slice A1 bs.length c1) (bs.map byteRow),curF B g 100 (.slice A code.length cap) code.length,slF (.slice A code.length cap) 1 (code.map byteRow),frF w (fun b => b = g)]⟩ : St)) x.1.1 x.1.2.1 x.1.2.2.1 x.1.2.2.2) (fun x => (fun (i : Nat) (bs : List Int) (A1 : Option Addr) (c1 : Nat) => (y2).toNat - i) x.1.1 x.1.2.1 x.1.2.2.1 x.1.2.2.2) ⟨(0,([] : List Int),(some ⟨g3,0,none⟩),0),⟨(by omega),rfl⟩⟩ ((wk_pick [0,1,2,3] [rowF (cutW w B).heap.size 5 1 (.slice (some ⟨g3,0,none⟩) 0 0) (([] : List Int).map byteRow),curF B g 100 (.slice A code.length cap) code.length,slF (.slice A code.length cap) 1 (code.map byteRow),frF w (fun b => b = g)] (by kernel_rfl) (by kernel_rfl)).trans <| kF 1 0 [0,3,7,8,9,10]) ?_
 rintro ⟨⟨i,bs,A1,c1⟩,hi,hbl⟩
 try dsimp only
 try dsimp only at hi hbl
 refine kS ?_
 refine kQ ?_
 refine kED [0,3,7,8,9,10,19] [(19,.v (.bool (decide ((i : Int) < y2))))] ?_
 refine kC (decide ((i : Int) < y2)) (fun h4 => ?_) (fun h4 => ?_)
 have h4p := of_decide_eq_true h4
 have hlt :  (i : Int) < y2 := of_decide_eq_true h4
 refine kK ?_
 refine kS ?_
 refine xw_block ?_
 refine kG ?_
 refine kCD 7 [0,3,7,8,9,10,22,28] [(22,.v (.slice A1 bs.length c1)),(28,.v (.int .i64 (IntKind.i64.wrap ((IntKind.i64.wrap (r.next + (IntKind.i64.wrap (y1 - 6)))) + (i : Int)))))] 104 [.int .i64 (IntKind.i64.wrap ((IntKind.i64.wrap (r.next + (IntKind.i64.wrap (y1 - 6)))) + (i : Int)))] (some 29) rfl (xc_s fun ww hf => sRest_c (IntKind.i64.wrap ((IntKind.i64.wrap (r.next + (IntKind.i64.wrap (y1 - 6)))) + (i : Int))) ww ) ?_
 intro _
 refine kOD 0 [0,3,7,8,9,10,22,29] [] (.int .i64 (Int.tmod ((IntKind.i64.wrap ((IntKind.i64.wrap (r.next + (IntKind.i64.wrap (y1 - 6)))) + (i : Int))) % 4294967296) 26)) rfl (fun _ _ _ ww hr => act_bin hr.1 rfl (by kernel_rfl) (by kernel_rfl) (rem_run (by first | decide | omega) ww)) ?_
 refine kHS 2 [0,3,7,8,9,10,22,32] [(0,.v (.pointer (some ⟨g,0,none⟩))),(3,.p 0 0),(7,.v (.int .i64 (IntKind.i64.wrap (y1 - 6)))),(8,.v (.int .i64 y2)),(9,.v (.slice A1 bs.length c1)),(10,.v (.int .i64 (i : Int))),(22,.v (.slice A1 bs.length c1)),(32,.v (.int .u8 (IntKind.u8.wrap (IntKind.i64.wrap (97 + (Int.tmod ((IntKind.i64.wrap ((IntKind.i64.wrap (r.next + (IntKind.i64.wrap (y1 - 6)))) + (i : Int))) % 4294967296) 26))))))] rfl (hv_build (e := 5) (K := 1) (bytes := 1) [.int .u8 (IntKind.u8.wrap (IntKind.i64.wrap (97 + (Int.tmod ((IntKind.i64.wrap ((IntKind.i64.wrap (r.next + (IntKind.i64.wrap (y1 - 6)))) + (i : Int))) % 4294967296) 26))))] rfl (by kernel_rfl) (by kernel_rfl) (by kernel_rfl) (by kernel_rfl) (by kernel_rfl) (rs := ([IntKind.u8.wrap (IntKind.i64.wrap (97 + (Int.tmod ((IntKind.i64.wrap ((IntKind.i64.wrap (r.next + (IntKind.i64.wrap (y1 - 6)))) + (i : Int))) % 4294967296) 26)))] : List Int).map byteRow) rfl) ?_
 intro g5
 refine kHD 0 [0,3,7,8,9,10,22,33] [] rfl (hv_append (e := 5) (K := 1) (bytes := 1) (i := 1) (q := (bs ++ ([IntKind.u8.wrap (IntKind.i64.wrap (97 + (Int.tmod ((IntKind.i64.wrap ((IntKind.i64.wrap (r.next + (IntKind.i64.wrap (y1 - 6)))) + (i : Int))) % 4294967296) 26)))] : List Int)).length) (new := ([IntKind.u8.wrap (IntKind.i64.wrap (97 + (Int.tmod ((IntKind.i64.wrap ((IntKind.i64.wrap (r.next + (IntKind.i64.wrap (y1 - 6)))) + (i : Int))) % 4294967296) 26)))] : List Int).map byteRow) (rs' := (bs ++ ([IntKind.u8.wrap (IntKind.i64.wrap (97 + (Int.tmod ((IntKind.i64.wrap ((IntKind.i64.wrap (r.next + (IntKind.i64.wrap (y1 - 6)))) + (i : Int))) % 4294967296) 26)))] : List Int)).map byteRow) rfl rfl rfl rfl (by kernel_rfl) (by kernel_rfl) (by kernel_rfl) rfl (by simp) (by rw [List.map_append]) (by simp) (fun ww hf => (rowF_sl (hf (rowF (cutW w B).heap.size 5 1 (.slice (some ⟨g5,0,none⟩) 1 1) (([IntKind.u8.wrap (IntKind.i64.wrap (97 + (Int.tmod ((IntKind.i64.wrap ((IntKind.i64.wrap (r.next + (IntKind.i64.wrap (y1 - 6)))) + (i : Int))) % 4294967296) 26)))] : List Int).map byteRow)) (by simp)))) (by intro r hr; obtain ⟨x,hx,rfl⟩ := List.mem_map.1 hr; exact ⟨rfl,by simp [byteRow,Value.oneCell']⟩) (by (try simp only [List.length_map,List.length_append,List.length_cons,List.length_nil,List.length_take,List.length_drop,maxLen]); omega) (by (try simp only [List.length_map,List.length_append,List.length_cons,List.length_nil,List.length_take,List.length_drop,maxLen]); omega)) ?_
 rintro ⟨v6a,v6c⟩
 refine kED [0,3,7,8,9,10] [(9,.v (.slice v6a ((bs ++ ([IntKind.u8.wrap (IntKind.i64.wrap (97 + (Int.tmod ((IntKind.i64.wrap ((IntKind.i64.wrap (r.next + (IntKind.i64.wrap (y1 - 6)))) + (i : Int))) % 4294967296) 26)))] : List Int)).length) v6c))] ?_
 refine kG ?_
 refine kRS 3 [0,3,7,8,9,10] [(0,.v (.pointer (some ⟨g,0,none⟩))),(3,.p 0 0),(7,.v (.int .i64 (IntKind.i64.wrap (y1 - 6)))),(8,.v (.int .i64 y2)),(9,.v (.slice v6a ((bs ++ ([IntKind.u8.wrap (IntKind.i64.wrap (97 + (Int.tmod ((IntKind.i64.wrap ((IntKind.i64.wrap (r.next + (IntKind.i64.wrap (y1 - 6)))) + (i : Int))) % 4294967296) 26)))] : List Int)).length) v6c)),(10,.v (.int .i64 (IntKind.i64.wrap ((i : Int) + 1))))] ?_
 refine xl_eqS (t' := [(0,.v (.pointer (some ⟨g,0,none⟩))),(3,.p 0 0),(7,.v (.int .i64 (IntKind.i64.wrap (y1 - 6)))),(8,.v (.int .i64 y2)),(9,.v (.slice v6a ((bs ++ ([IntKind.u8.wrap (IntKind.i64.wrap (97 + (Int.tmod ((IntKind.i64.wrap ((IntKind.i64.wrap (r.next + (IntKind.i64.wrap (y1 - 6)))) + (i : Int))) % 4294967296) 26)))] : List Int)).length) v6c)),(10,.v (.int .i64 ((i : Int) + 1)))]) (by rw [show (IntKind.i64.wrap ((i : Int) + 1)) = ((i : Int) + 1) from wrap_id (by omega) (by omega)]) ?_
 refine kED [0,3,7,8,9,10] [] ?_
 exact ⟨⟨(i + 1,(bs ++ ([IntKind.u8.wrap (IntKind.i64.wrap (97 + (Int.tmod ((IntKind.i64.wrap ((IntKind.i64.wrap (r.next + (IntKind.i64.wrap (y1 - 6)))) + (i : Int))) % 4294967296) 26)))] : List Int)),v6a,v6c),⟨(by omega),(by simp [hbl])⟩⟩,(wk_pick [0,2,3,4] [rowF (cutW w B).heap.size 5 1 (.slice v6a ((bs ++ ([IntKind.u8.wrap (IntKind.i64.wrap (97 + (Int.tmod ((IntKind.i64.wrap ((IntKind.i64.wrap (r.next + (IntKind.i64.wrap (y1 - 6)))) + (i : Int))) % 4294967296) 26)))] : List Int)).length) v6c) ((bs ++ ([IntKind.u8.wrap (IntKind.i64.wrap (97 + (Int.tmod ((IntKind.i64.wrap ((IntKind.i64.wrap (r.next + (IntKind.i64.wrap (y1 - 6)))) + (i : Int))) % 4294967296) 26)))] : List Int)).map byteRow),curF B g 100 (.slice A code.length cap) code.length,slF (.slice A code.length cap) 1 (code.map byteRow),frF w (fun b => b = g)] (by kernel_rfl) (by kernel_rfl)).trans <| kF 1 0 [0,3,7,8,9,10],by show (fun (i : Nat) (bs : List Int) (A1 : Option Addr) (c1 : Nat) => (y2).toNat - i) (i + 1) (bs ++ ([IntKind.u8.wrap (IntKind.i64.wrap (97 + (Int.tmod ((IntKind.i64.wrap ((IntKind.i64.wrap (r.next + (IntKind.i64.wrap (y1 - 6)))) + (i : Int))) % 4294967296) 26)))] : List Int)) v6a v6c < (y2).toNat - i; (dsimp only; omega)⟩
 have h4p := of_decide_eq_false h4
 have hge : ¬ (i : Int) < y2 := of_decide_eq_false h4
 refine xw_exit ?_
 refine kS ?_
 refine kQ ?_
 refine kWD 1 [0,3,7,8,9,35] [(35,.v (.pointer (some ⟨g,0,none⟩)))] 64 [.pointer (some ⟨g,0,none⟩),.int .i64 6] (some 36) 1 rfl rfl hlo (l1Once_c_K hBw hap) ?_
 rintro ⟨y7,hy7⟩
 refine kED [0,3,7,8,9,36] [] ?_
 refine kC (y7) (fun h8 => ?_) (fun h8 => ?_)
 refine kG ?_
 refine kWS 2 [0,3,7,9,37,38] [(0,.v (.pointer (some ⟨g,0,none⟩))),(3,.p 0 0),(7,.v (.int .i64 (IntKind.i64.wrap (y1 - 6)))),(9,.v (.slice A1 bs.length c1)),(37,.v (.pointer (some ⟨g,0,none⟩))),(38,.v (.int .i64 y2))] 85 [.pointer (some ⟨g,0,none⟩),.int .i64 y2] (some 39) 0 rfl rfl hlo (xcm_curR fun ww hw hf => l1Bytes_c g code A cap y2 ww B (Nat.le_trans (by first | exact Nat.le_refl _ | exact Nat.le_of_eq (cutW_size hB).symm) hw) (hf (curF B g 100 (.slice A code.length cap) code.length) (by simp)) (hf _ m2) hap (by omega) (by omega)) ?_
 rintro ⟨⟨b9l,b9a,b9c⟩,hb9⟩
 dsimp only at hb9
 refine kED [0,3,7,9] [(9,.v (.slice b9a b9l.length b9c))] ?_
 refine kS ?_
 refine xe_region0 [] (by kernel_rfl) (fun ρ σ => ?_)
 refine kTS [0,1,2,4,6] [46,44,42,41] 6 [(46,.v (.pointer (some ⟨g,0,none⟩))),(44,.v (.slice b9a b9l.length b9c)),(42,.v (.int .i64 (IntKind.i64.wrap (y1 - 6)))),(41,.v (.int .i64 r.next))] ?_
 refine kA [3,5] ⟨?_,?_⟩
 refine kSC 3 60 [.int .i64 r.next,.int .i64 (IntKind.i64.wrap (y1 - 6))] (some 43) rfl (xc_s fun ww hf => sSeqAdd_c r.next (IntKind.i64.wrap (y1 - 6)) ww ) ?_
 intro _
 refine kA [5,7] ⟨?_,?_⟩
 refine kSR 5 (.string (bstr b9l)) rfl (fun _ _ ww hr => act_b2s (e := 5) b9l hr.1 rfl (by kernel_rfl) (by kernel_rfl) (by kernel_rfl) rfl (rowF_sl (hr.2.fact (rowF (cutW w B).heap.size 5 1 (.slice b9a b9l.length b9c) (b9l.map byteRow)) (by simp)).1)) ?_
 refine kA [7] ?_
 refine kSW 7 64 [.pointer (some ⟨g,0,none⟩),.int .i64 6] (some 47) 1 rfl rfl hlo (under_t under_nil) (l1Once_c_K hBw hap) ?_
 rintro ⟨y10,hy10⟩
 refine kTS [8,9,10] [6,5,4] 0 [(6,.v (.bool y10)),(5,.v (.string (bstr b9l))),(4,.v (.int .i64 (seqAdd r.next (IntKind.i64.wrap (y1 - 6)))))] ?_
 refine kZ ?_
 refine kR ?_
 exact ⟨[.int .i64 (seqAdd r.next (IntKind.i64.wrap (y1 - 6))),.string (bstr b9l),.bool y10],by kernel_rfl,fun w' hb hf => ⟨⟨(seqAdd r.next (IntKind.i64.wrap (y1 - 6)),bstr b9l,y10),(by show (bstr _).size ≤ 4096; rw [bstr_size]; omega)⟩,rfl,hf (curF B g 100 (.slice A code.length cap) code.length) (by simp),frF_chgd (hf (frF w (fun b => b = g)) (by simp)) hb rfl rfl rfl⟩⟩
 refine kSW 7 64 [.pointer (some ⟨g,0,none⟩),.int .i64 6] (some 47) 1 rfl rfl hlo (under_t under_nil) (l1Once_c_K hBw hap) ?_
 rintro ⟨y11,hy11⟩
 refine kTD [8] [4,47,44] 3 [(4,.v (.int .i64 (seqAdd r.next (IntKind.i64.wrap (y1 - 6))))),(47,.v (.bool y11))] ?_
 refine kA [5] ?_
 refine kSR 5 (.string (bstr b9l)) rfl (fun _ _ ww hr => act_b2s (e := 5) b9l hr.1 rfl (by kernel_rfl) (by kernel_rfl) (by kernel_rfl) rfl (rowF_sl (hr.2.fact (rowF (cutW w B).heap.size 5 1 (.slice b9a b9l.length b9c) (b9l.map byteRow)) (by simp)).1)) ?_
 refine kTD [9,10] [6,5,4] 0 [(6,.v (.bool y11)),(5,.v (.string (bstr b9l)))] ?_
 refine kZ ?_
 refine kR ?_
 exact ⟨[.int .i64 (seqAdd r.next (IntKind.i64.wrap (y1 - 6))),.string (bstr b9l),.bool y11],by kernel_rfl,fun w' hb hf => ⟨⟨(seqAdd r.next (IntKind.i64.wrap (y1 - 6)),bstr b9l,y11),(by show (bstr _).size ≤ 4096; rw [bstr_size]; omega)⟩,rfl,hf (curF B g 100 (.slice A code.length cap) code.length) (by simp),frF_chgd (hf (frF w (fun b => b = g)) (by simp)) hb rfl rfl rfl⟩⟩
 refine kSR 5 (.string (bstr b9l)) rfl (fun _ _ ww hr => act_b2s (e := 5) b9l hr.1 rfl (by kernel_rfl) (by kernel_rfl) (by kernel_rfl) rfl (rowF_sl (hr.2.fact (rowF (cutW w B).heap.size 5 1 (.slice b9a b9l.length b9c) (b9l.map byteRow)) (by simp)).1)) ?_
 refine kA [3] ?_
 refine kSC 3 60 [.int .i64 r.next,.int .i64 (IntKind.i64.wrap (y1 - 6))] (some 43) rfl (xc_s fun ww hf => sSeqAdd_c r.next (IntKind.i64.wrap (y1 - 6)) ww ) ?_
 intro _
 refine kA [7] ?_
 refine kSW 7 64 [.pointer (some ⟨g,0,none⟩),.int .i64 6] (some 47) 1 rfl rfl hlo (under_t under_nil) (l1Once_c_K hBw hap) ?_
 rintro ⟨y12,hy12⟩
 refine kTS [8,9,10] [6,5,4] 0 [(6,.v (.bool y12)),(5,.v (.string (bstr b9l))),(4,.v (.int .i64 (seqAdd r.next (IntKind.i64.wrap (y1 - 6)))))] ?_
 refine kZ ?_
 refine kR ?_
 exact ⟨[.int .i64 (seqAdd r.next (IntKind.i64.wrap (y1 - 6))),.string (bstr b9l),.bool y12],by kernel_rfl,fun w' hb hf => ⟨⟨(seqAdd r.next (IntKind.i64.wrap (y1 - 6)),bstr b9l,y12),(by show (bstr _).size ≤ 4096; rw [bstr_size]; omega)⟩,rfl,hf (curF B g 100 (.slice A code.length cap) code.length) (by simp),frF_chgd (hf (frF w (fun b => b = g)) (by simp)) hb rfl rfl rfl⟩⟩
 refine kK ?_
 refine kS ?_
 refine xe_region0 [] (by kernel_rfl) (fun ρ σ => ?_)
 refine kTS [0,1,2,4,6] [46,44,42,41] 6 [(46,.v (.pointer (some ⟨g,0,none⟩))),(44,.v (.slice A1 bs.length c1)),(42,.v (.int .i64 (IntKind.i64.wrap (y1 - 6)))),(41,.v (.int .i64 r.next))] ?_
 refine kA [3,5] ⟨?_,?_⟩
 refine kSC 3 60 [.int .i64 r.next,.int .i64 (IntKind.i64.wrap (y1 - 6))] (some 43) rfl (xc_s fun ww hf => sSeqAdd_c r.next (IntKind.i64.wrap (y1 - 6)) ww ) ?_
 intro _
 refine kA [5,7] ⟨?_,?_⟩
 refine kSR 5 (.string (bstr bs)) rfl (fun _ _ ww hr => act_b2s (e := 5) bs hr.1 rfl (by kernel_rfl) (by kernel_rfl) (by kernel_rfl) rfl (rowF_sl (hr.2.fact (rowF (cutW w B).heap.size 5 1 (.slice A1 bs.length c1) (bs.map byteRow)) (by simp)).1)) ?_
 refine kA [7] ?_
 refine kSW 7 64 [.pointer (some ⟨g,0,none⟩),.int .i64 6] (some 47) 0 rfl rfl hlo (under_t under_nil) (l1Once_c_K hBw hap) ?_
 rintro ⟨y13,hy13⟩
 refine kTS [8,9,10] [6,5,4] 0 [(6,.v (.bool y13)),(5,.v (.string (bstr bs))),(4,.v (.int .i64 (seqAdd r.next (IntKind.i64.wrap (y1 - 6)))))] ?_
 refine kZ ?_
 refine kR ?_
 exact ⟨[.int .i64 (seqAdd r.next (IntKind.i64.wrap (y1 - 6))),.string (bstr bs),.bool y13],by kernel_rfl,fun w' hb hf => ⟨⟨(seqAdd r.next (IntKind.i64.wrap (y1 - 6)),bstr bs,y13),(by show (bstr _).size ≤ 4096; rw [bstr_size]; omega)⟩,rfl,hf (curF B g 100 (.slice A code.length cap) code.length) (by simp),frF_chgd (hf (frF w (fun b => b = g)) (by simp)) hb rfl rfl rfl⟩⟩
 refine kSW 7 64 [.pointer (some ⟨g,0,none⟩),.int .i64 6] (some 47) 0 rfl rfl hlo (under_t under_nil) (l1Once_c_K hBw hap) ?_
 rintro ⟨y14,hy14⟩
 refine kTD [8] [4,47,44] 3 [(4,.v (.int .i64 (seqAdd r.next (IntKind.i64.wrap (y1 - 6))))),(47,.v (.bool y14))] ?_
 refine kA [5] ?_
 refine kSR 5 (.string (bstr bs)) rfl (fun _ _ ww hr => act_b2s (e := 5) bs hr.1 rfl (by kernel_rfl) (by kernel_rfl) (by kernel_rfl) rfl (rowF_sl (hr.2.fact (rowF (cutW w B).heap.size 5 1 (.slice A1 bs.length c1) (bs.map byteRow)) (by simp)).1)) ?_
 refine kTD [9,10] [6,5,4] 0 [(6,.v (.bool y14)),(5,.v (.string (bstr bs)))] ?_
 refine kZ ?_
 refine kR ?_
 exact ⟨[.int .i64 (seqAdd r.next (IntKind.i64.wrap (y1 - 6))),.string (bstr bs),.bool y14],by kernel_rfl,fun w' hb hf => ⟨⟨(seqAdd r.next (IntKind.i64.wrap (y1 - 6)),bstr bs,y14),(by show (bstr _).size ≤ 4096; rw [bstr_size]; omega)⟩,rfl,hf (curF B g 100 (.slice A code.length cap) code.length) (by simp),frF_chgd (hf (frF w (fun b => b = g)) (by simp)) hb rfl rfl rfl⟩⟩
 refine kSR 5 (.string (bstr bs)) rfl (fun _ _ ww hr => act_b2s (e := 5) bs hr.1 rfl (by kernel_rfl) (by kernel_rfl) (by kernel_rfl) rfl (rowF_sl (hr.2.fact (rowF (cutW w B).heap.size 5 1 (.slice A1 bs.length c1) (bs.map byteRow)) (by simp)).1)) ?_
 refine kA [3] ?_
 refine kSC 3 60 [.int .i64 r.next,.int .i64 (IntKind.i64.wrap (y1 - 6))] (some 43) rfl (xc_s fun ww hf => sSeqAdd_c r.next (IntKind.i64.wrap (y1 - 6)) ww ) ?_
 intro _
 refine kA [7] ?_
 refine kSW 7 64 [.pointer (some ⟨g,0,none⟩),.int .i64 6] (some 47) 0 rfl rfl hlo (under_t under_nil) (l1Once_c_K hBw hap) ?_
 rintro ⟨y15,hy15⟩
 refine kTS [8,9,10] [6,5,4] 0 [(6,.v (.bool y15)),(5,.v (.string (bstr bs))),(4,.v (.int .i64 (seqAdd r.next (IntKind.i64.wrap (y1 - 6)))))] ?_
 refine kZ ?_
 refine kR ?_
 exact ⟨[.int .i64 (seqAdd r.next (IntKind.i64.wrap (y1 - 6))),.string (bstr bs),.bool y15],by kernel_rfl,fun w' hb hf => ⟨⟨(seqAdd r.next (IntKind.i64.wrap (y1 - 6)),bstr bs,y15),(by show (bstr _).size ≤ 4096; rw [bstr_size]; omega)⟩,rfl,hf (curF B g 100 (.slice A code.length cap) code.length) (by simp),frF_chgd (hf (frF w (fun b => b = g)) (by simp)) hb rfl rfl rfl⟩⟩
theorem l18Stream_c_K {g : Nat} {code : List Int} {A : Option Addr} {cap : Nat} {r : Rcv} {r_heldV : Value} {w0 : World} {fs : List Fact} {B : Nat} (hB : B ≤ w0.heap.size) (hap : ¬ (slF (.slice A code.length cap) 1 (code.map byteRow)).blk g)  (hn : code.length ≤ 1048576 := by omega) (h1 : curF B g 100 (.slice A code.length cap) code.length ∈ fs := by simp) (h2 : slF (.slice A code.length cap) 1 (code.map byteRow) ∈ fs := by simp) : XCM Tryz.prog w0 fs (curF B g 100 (.slice A code.length cap) code.length).blk 119 [.pointer (some ⟨g, 0, none⟩), .agg (rcvL r r_heldV).toArray] (α := {y : Int × ByteArray × Bool // y.2.1.size ≤ 4096}) (fun y => .tuple #[.int .i64 y.1.1, .string y.1.2.1, .bool y.1.2.2]) (fun _ => [curF B g 100 (.slice A code.length cap) code.length]) := xcm_cur fun w hw hf => l18Stream_c g code A cap r r_heldV w B (Nat.le_trans hB hw) (hf _ h1) (hf _ h2) hap hn  
theorem l18Receiver_c (g : Nat) (code : List Int) (A : Option Addr) (cap : Nat) (w : World) (B : Nat) (hB : B ≤ w.heap.size) (hc : (curF B g 100 (.slice A code.length cap) code.length).p w) (hl : Sl w (.slice A code.length cap) 1 (code.map byteRow)) (hap : ¬ (slF (.slice A code.length cap) 1 (code.map byteRow)).blk g) (hn : code.length ≤ 1048576) : Calls Tryz.prog 130 #[.pointer (some ⟨g, 0, none⟩)] w fun e w' => ∃ y : {y : Rcv × (Option Addr × Nat) // RB 3 y.1}, e = .returned (.agg (rcvL y.1.1 (.slice y.1.2.1 y.1.1.held.length y.1.2.2)).toArray) ∧ (curF B g 100 (.slice A code.length cap) code.length).p w' ∧ (rowF w.heap.size 108 2 (.slice y.1.2.1 y.1.1.held.length y.1.2.2) (y.1.1.held.map pceCells)).p w' ∧ g < w.heap.size ∧ Chgd (fun b => b = g) w w' := by
 have hq_code := Sl.capLe hl
 have hBw : B ≤ (cutW w B).heap.size := Nat.le_of_eq (cutW_size hB).symm
 have hlo : ∀ (ww : World) (b : Nat),(curF B g 100 (.slice A code.length cap) code.length).p ww → (curF B g 100 (.slice A code.length cap) code.length).blk b → (cutW w B).heap.size ≤ b := fun ww b h hb => Nat.le_trans (cutW_le w B) (cur_lo h hb)
 refine x_callsMA (args := [.pointer (some ⟨g,0,none⟩)]) (fn := Tryz.f130) [curF B g 100 (.slice A code.length cap) code.length,slF (.slice A code.length cap) 1 (code.map byteRow),frF w (fun b => b = g)] B Tryz.func130 rfl Tryz.ntmps130 rfl hB (by simp only [List.mem_cons,List.not_mem_nil,or_false,forall_eq_or_imp,forall_eq]; exact ⟨hc,hl,frF_start w _⟩) (apart_cur hap rfl) ?_
 have hgl : g < w.heap.size := (curF B g 100 (.slice A code.length cap) code.length).lt w g hc rfl
 refine kQ ?_
 refine kEF [0,2] ⟨[(0,.v (.pointer (some ⟨g,0,none⟩))),(2,.p 0 0)],[⟨30,rcvZ⟩],[],[curF B g 100 (.slice A code.length cap) code.length,slF (.slice A code.length cap) 1 (code.map byteRow),frF w (fun b => b = g)]⟩ ?_
 refine kQ ?_
 refine kWD 1 [0,2,9] [(9,.v (.pointer (some ⟨g,0,none⟩)))] 126 [.pointer (some ⟨g,0,none⟩)] (some 10) 0 rfl rfl hlo (l2Deep_c_K hBw hap) ?_
 rintro ⟨y1,hy1⟩
 refine kCD 0 [0,2,10] [] 135 [.int .i64 y1] (some 11) rfl (xc_r fun ww hw hf => ysReceiverNew_c y1 ww   ((cutW w B).heap.size) hw) ?_
 rintro ⟨v2a,v2c⟩
 refine kEA [0,2,3] [(3,.p 1 0)] [⟨30,rcvL (receiverNew y1) (.slice v2a ((receiverNew y1).held.length) v2c)⟩] ?_
 refine kQ ?_
 refine kWD 1 [0,2,3,12] [(12,.v (.pointer (some ⟨g,0,none⟩)))] 86 [.pointer (some ⟨g,0,none⟩),.int .i64 7] (some 13) 1 rfl rfl hlo (l1Below_c_K hBw hap) ?_
 rintro ⟨y3,hy3⟩
 obtain ⟨hy30,hy31⟩ := hy3
 refine kED [0,2,3,4] [(4,.v (.int .i64 y3))] ?_
 refine kS ?_
 refine kQ ?_
 refine kED [0,2,3,4,5] [(5,.v (.int .i64 0))] ?_
 refine xw_block ?_
 refine xw_loopW (α := {x : Nat × Rcv × Option Addr × Nat // (fun (i : Nat) (r : Rcv) (A1 : Option Addr) (c1 : Nat) => (i : Int) ≤ y3 ∧ RB 3 r) x.1 x.2.1 x.2.2.1 x.2.2.2}) (fun x => (fun (i : Nat) (r : Rcv) (A1 : Option Addr) (c1 : Nat) => (⟨[(0,.v (.pointer (some ⟨g,0,none⟩))),(2,.p 0 0),(3,.p 1 0),(4,.v (.int .i64 y3)),(5,.v (.int .i64 (i : Int)))],[⟨30,rcvZ⟩,⟨30,rcvL r (.slice A1 r.held.length c1)⟩],[],[rowF (cutW w B).heap.size 108 2 (.slice A1 r.held.length c1) (r.held.map pceCells),curF B g 100 (.slice A code.length cap) code.length,slF (.slice A code.length cap) 1 (code.map byteRow),frF w (fun b => b = g)]⟩ : St)) x.1.1 x.1.2.1 x.1.2.2.1 x.1.2.2.2) (fun x => (fun (i : Nat) (r : Rcv) (A1 : Option Addr) (c1 : Nat) => (y3).toNat - i) x.1.1 x.1.2.1 x.1.2.2.1 x.1.2.2.2) ⟨(0,(receiverNew y1),v2a,v2c),⟨(by omega),RB.new _⟩⟩ ((wk_pick [1,0,2,3] [rowF (cutW w B).heap.size 108 2 (.slice v2a ((receiverNew y1).held.length) v2c) ((receiverNew y1).held.map pceCells),curF B g 100 (.slice A code.length cap) code.length,slF (.slice A code.length cap) 1 (code.map byteRow),frF w (fun b => b = g)] (by kernel_rfl) (by kernel_rfl)).trans <| kF 2 0 [0,2,3,4,5]) ?_
 rintro ⟨⟨i,r,A1,c1⟩,hi,hrb⟩
 try dsimp only
 try dsimp only at hi hrb
 have hkn := hrb.up.kn; have hm := hrb.hm; have hsz := hrb.sz
 refine kS ?_
 refine kQ ?_
 refine kED [0,2,3,4,5,16] [(16,.v (.bool (decide ((i : Int) < y3))))] ?_
 refine kC (decide ((i : Int) < y3)) (fun h4 => ?_) (fun h4 => ?_)
 have h4p := of_decide_eq_true h4
 have hlt :  (i : Int) < y3 := of_decide_eq_true h4
 refine kK ?_
 refine kS ?_
 refine xw_block ?_
 refine kQ ?_
 refine kWD 2 [0,2,3,4,5,20,21] [(20,.v (.pointer (some ⟨g,0,none⟩))),(21,.v (.agg (rcvL r (.slice A1 r.held.length c1)).toArray))] 119 [.pointer (some ⟨g,0,none⟩),.agg (rcvL r (.slice A1 r.held.length c1)).toArray] (some 22) 1 rfl rfl hlo (l18Stream_c_K hBw hap) ?_
 rintro ⟨y5,hy5⟩
 refine kED [0,2,3,4,5,6,7,8] [(6,.v (.int .i64 y5.1)),(7,.v (.string y5.2.1)),(8,.v (.bool y5.2.2))] ?_
 refine kQ ?_
 refine kCD 4 [0,2,3,4,5,26,27,28,29] [(26,.v (.agg (rcvL r (.slice A1 r.held.length c1)).toArray)),(27,.v (.int .i64 y5.1)),(28,.v (.string y5.2.1)),(29,.v (.bool y5.2.2))] 139 [.agg (rcvL r (.slice A1 r.held.length c1)).toArray,.int .i64 y5.1,.string y5.2.1,.bool y5.2.2] (some 30) rfl (xc_r fun ww hw hf => ysArrived_c r (.slice A1 r.held.length c1) y5.1 y5.2.1 y5.2.2 ww (rowF_sl (hf _ m1)) (by assumption) (by assumption) (by omega) (by omega) ((cutW w B).heap.size) hw) ?_
 rintro ⟨v6a,v6c⟩
 have hra := RB.arr hrb (by omega) y5.1 y5.2.1 y5.2.2; have hka := hra.up.kn; have hma := hra.hm; have hza := hra.sz
 refine kEF [0,2,3,4,5] ⟨[(0,.v (.pointer (some ⟨g,0,none⟩))),(2,.p 0 0),(3,.p 1 0),(4,.v (.int .i64 y3)),(5,.v (.int .i64 (i : Int)))],[⟨30,rcvZ⟩,⟨30,rcvL (arrived r y5.1 y5.2.1 y5.2.2) (.slice v6a ((arrived r y5.1 y5.2.1 y5.2.2).held.length) v6c)⟩],[],[rowF (cutW w B).heap.size 108 2 (.slice v6a ((arrived r y5.1 y5.2.1 y5.2.2).held.length) v6c) ((arrived r y5.1 y5.2.1 y5.2.2).held.map pceCells),curF B g 100 (.slice A code.length cap) code.length,rowF (cutW w B).heap.size 108 2 (.slice A1 r.held.length c1) (r.held.map pceCells),slF (.slice A code.length cap) 1 (code.map byteRow),frF w (fun b => b = g)]⟩ ?_
 refine kQ ?_
 refine kWD 1 [0,2,3,4,5,31] [(31,.v (.pointer (some ⟨g,0,none⟩)))] 64 [.pointer (some ⟨g,0,none⟩),.int .i64 3] (some 32) 1 rfl rfl hlo (l1Once_c_K hBw hap) ?_
 rintro ⟨y7,hy7⟩
 refine kED [0,2,3,4,5,32] [] ?_
 refine kC (y7) (fun h8 => ?_) (fun h8 => ?_)
 refine xe_region0 [true,false] (by kernel_rfl) (fun ρ σ => ?_)
 refine kTD [1] [35,0,2,3,4,5] 7 [(35,.v (.pointer (some ⟨g,0,none⟩)))] ?_
 refine kA [0,2] ⟨?_,?_⟩
 refine kSV 0 (.v (.agg (rcvL (arrived r y5.1 y5.2.1 y5.2.2) (.slice v6a ((arrived r y5.1 y5.2.1 y5.2.2).held.length) v6c)).toArray)) rfl ?_
 refine kA [2] ?_
 refine kSW 2 86 [.pointer (some ⟨g,0,none⟩),.int .i64 20] (some 36) 0 rfl rfl hlo (under_t (under_f rfl under_nil)) (l1Below_c_K hBw hap) ?_
 rintro ⟨y9,hy9⟩
 obtain ⟨hy90,hy91⟩ := hy9
 refine kA [3] ?_
 refine kSC 3 71 [.agg (rcvL (arrived r y5.1 y5.2.1 y5.2.2) (.slice v6a ((arrived r y5.1 y5.2.1 y5.2.2).held.length) v6c)).toArray,.int .i64 y9] (some 37) rfl (xc_r fun ww hw hf => ysTakenIn_c (arrived r y5.1 y5.2.1 y5.2.2) (.slice v6a ((arrived r y5.1 y5.2.1 y5.2.2).held.length) v6c) y9 ww (rowF_sl (hf _ m1)) (by assumption) (by assumption) (by omega) ((cutW w B).heap.size) hw) ?_
 rintro ⟨v10a,v10c⟩
 refine kTD [4,5,6] [38,0,2,3,4,5] 1 [(38,.v (.agg (rcvL (takenIn (arrived r y5.1 y5.2.1 y5.2.2) y9).1 (.slice v10a ((takenIn (arrived r y5.1 y5.2.1 y5.2.2) y9).1.held.length) v10c)).toArray))] ?_
 refine kA [7] ?_
 refine kSS 7 1 0 (rcvL (takenIn (arrived r y5.1 y5.2.1 y5.2.2) y9).1 (.slice v10a ((takenIn (arrived r y5.1 y5.2.1 y5.2.2) y9).1.held.length) v10c)) rfl ?_
 refine kZ ?_
 refine kG ?_
 refine kRS 3 [0,2,3,4,5] [(0,.v (.pointer (some ⟨g,0,none⟩))),(2,.p 0 0),(3,.p 1 0),(4,.v (.int .i64 y3)),(5,.v (.int .i64 (IntKind.i64.wrap ((i : Int) + 1))))] ?_
 refine xl_eqS (t' := [(0,.v (.pointer (some ⟨g,0,none⟩))),(2,.p 0 0),(3,.p 1 0),(4,.v (.int .i64 y3)),(5,.v (.int .i64 ((i : Int) + 1)))]) (by rw [show (IntKind.i64.wrap ((i : Int) + 1)) = ((i : Int) + 1) from wrap_id (by omega) (by omega)]) ?_
 refine kED [0,2,3,4,5] [] ?_
 exact ⟨⟨(i + 1,(takenIn (arrived r y5.1 y5.2.1 y5.2.2) y9).1,v10a,v10c),⟨(by omega),(by first | exact hra | exact RB.taken hra _ | exact hrb)⟩⟩,(wk_pick [0,1,4,5] [rowF (cutW w B).heap.size 108 2 (.slice v10a ((takenIn (arrived r y5.1 y5.2.1 y5.2.2) y9).1.held.length) v10c) ((takenIn (arrived r y5.1 y5.2.1 y5.2.2) y9).1.held.map pceCells),curF B g 100 (.slice A code.length cap) code.length,slF (.slice A code.length cap) 1 (code.map byteRow),frF w (fun b => b = g)] (by kernel_rfl) (by kernel_rfl)).trans <| kF 2 0 [0,2,3,4,5],by show (fun (i : Nat) (r : Rcv) (A1 : Option Addr) (c1 : Nat) => (y3).toNat - i) (i + 1) ((takenIn (arrived r y5.1 y5.2.1 y5.2.2) y9).1) v10a v10c < (y3).toNat - i; (dsimp only; omega)⟩
 refine kSW 2 86 [.pointer (some ⟨g,0,none⟩),.int .i64 20] (some 36) 0 rfl rfl hlo (under_t (under_f rfl under_nil)) (l1Below_c_K hBw hap) ?_
 rintro ⟨y11,hy11⟩
 obtain ⟨hy110,hy111⟩ := hy11
 refine kA [0] ?_
 refine kSV 0 (.v (.agg (rcvL (arrived r y5.1 y5.2.1 y5.2.2) (.slice v6a ((arrived r y5.1 y5.2.1 y5.2.2).held.length) v6c)).toArray)) rfl ?_
 refine kA [3] ?_
 refine kSC 3 71 [.agg (rcvL (arrived r y5.1 y5.2.1 y5.2.2) (.slice v6a ((arrived r y5.1 y5.2.1 y5.2.2).held.length) v6c)).toArray,.int .i64 y11] (some 37) rfl (xc_r fun ww hw hf => ysTakenIn_c (arrived r y5.1 y5.2.1 y5.2.2) (.slice v6a ((arrived r y5.1 y5.2.1 y5.2.2).held.length) v6c) y11 ww (rowF_sl (hf _ m1)) (by assumption) (by assumption) (by omega) ((cutW w B).heap.size) hw) ?_
 rintro ⟨v12a,v12c⟩
 refine kTD [4,5,6] [38,0,2,3,4,5] 1 [(38,.v (.agg (rcvL (takenIn (arrived r y5.1 y5.2.1 y5.2.2) y11).1 (.slice v12a ((takenIn (arrived r y5.1 y5.2.1 y5.2.2) y11).1.held.length) v12c)).toArray))] ?_
 refine kA [7] ?_
 refine kSS 7 1 0 (rcvL (takenIn (arrived r y5.1 y5.2.1 y5.2.2) y11).1 (.slice v12a ((takenIn (arrived r y5.1 y5.2.1 y5.2.2) y11).1.held.length) v12c)) rfl ?_
 refine kZ ?_
 refine kG ?_
 refine kRS 3 [0,2,3,4,5] [(0,.v (.pointer (some ⟨g,0,none⟩))),(2,.p 0 0),(3,.p 1 0),(4,.v (.int .i64 y3)),(5,.v (.int .i64 (IntKind.i64.wrap ((i : Int) + 1))))] ?_
 refine xl_eqS (t' := [(0,.v (.pointer (some ⟨g,0,none⟩))),(2,.p 0 0),(3,.p 1 0),(4,.v (.int .i64 y3)),(5,.v (.int .i64 ((i : Int) + 1)))]) (by rw [show (IntKind.i64.wrap ((i : Int) + 1)) = ((i : Int) + 1) from wrap_id (by omega) (by omega)]) ?_
 refine kED [0,2,3,4,5] [] ?_
 exact ⟨⟨(i + 1,(takenIn (arrived r y5.1 y5.2.1 y5.2.2) y11).1,v12a,v12c),⟨(by omega),(by first | exact hra | exact RB.taken hra _ | exact hrb)⟩⟩,(wk_pick [0,1,4,5] [rowF (cutW w B).heap.size 108 2 (.slice v12a ((takenIn (arrived r y5.1 y5.2.1 y5.2.2) y11).1.held.length) v12c) ((takenIn (arrived r y5.1 y5.2.1 y5.2.2) y11).1.held.map pceCells),curF B g 100 (.slice A code.length cap) code.length,slF (.slice A code.length cap) 1 (code.map byteRow),frF w (fun b => b = g)] (by kernel_rfl) (by kernel_rfl)).trans <| kF 2 0 [0,2,3,4,5],by show (fun (i : Nat) (r : Rcv) (A1 : Option Addr) (c1 : Nat) => (y3).toNat - i) (i + 1) ((takenIn (arrived r y5.1 y5.2.1 y5.2.2) y11).1) v12a v12c < (y3).toNat - i; (dsimp only; omega)⟩
 refine kK ?_
 refine kG ?_
 refine kRS 3 [0,2,3,4,5] [(0,.v (.pointer (some ⟨g,0,none⟩))),(2,.p 0 0),(3,.p 1 0),(4,.v (.int .i64 y3)),(5,.v (.int .i64 (IntKind.i64.wrap ((i : Int) + 1))))] ?_
 refine xl_eqS (t' := [(0,.v (.pointer (some ⟨g,0,none⟩))),(2,.p 0 0),(3,.p 1 0),(4,.v (.int .i64 y3)),(5,.v (.int .i64 ((i : Int) + 1)))]) (by rw [show (IntKind.i64.wrap ((i : Int) + 1)) = ((i : Int) + 1) from wrap_id (by omega) (by omega)]) ?_
 refine kED [0,2,3,4,5] [] ?_
 exact ⟨⟨(i + 1,(arrived r y5.1 y5.2.1 y5.2.2),v6a,v6c),⟨(by omega),(by first | exact hra | exact RB.taken hra _ | exact hrb)⟩⟩,(wk_pick [1,0,3,4] [rowF (cutW w B).heap.size 108 2 (.slice v6a ((arrived r y5.1 y5.2.1 y5.2.2).held.length) v6c) ((arrived r y5.1 y5.2.1 y5.2.2).held.map pceCells),curF B g 100 (.slice A code.length cap) code.length,slF (.slice A code.length cap) 1 (code.map byteRow),frF w (fun b => b = g)] (by kernel_rfl) (by kernel_rfl)).trans <| kF 2 0 [0,2,3,4,5],by show (fun (i : Nat) (r : Rcv) (A1 : Option Addr) (c1 : Nat) => (y3).toNat - i) (i + 1) (arrived r y5.1 y5.2.1 y5.2.2) v6a v6c < (y3).toNat - i; (dsimp only; omega)⟩
 have h4p := of_decide_eq_false h4
 have hge : ¬ (i : Int) < y3 := of_decide_eq_false h4
 refine xw_exit ?_
 refine kQ ?_
 refine kEU [2] [(2,.p 0 0)] 0 ⟨30,rcvL r (.slice A1 r.held.length c1)⟩ ?_
 refine kR ?_
 exact ⟨[.agg (rcvL r (.slice A1 r.held.length c1)).toArray],by kernel_rfl,fun w' hb hf ha => ⟨⟨(r,A1,c1),hrb⟩,rfl,hf (curF B g 100 (.slice A code.length cap) code.length) (by simp),rowF_raise (hf (rowF (cutW w B).heap.size 108 2 (.slice A1 r.held.length c1) (r.held.map pceCells)) (by simp)) (own_new ha (i := 0) (j := 1) (k := 3) rfl rfl rfl rfl (by decide) (by decide)),hgl,frF_chgd (hf (frF w (fun b => b = g)) (by simp)) hb rfl rfl rfl⟩⟩
theorem l18Bent_c (g : Nat) (code : List Int) (A : Option Addr) (cap : Nat) (w : World) (B : Nat) (hB : B ≤ w.heap.size) (hc : (curF B g 100 (.slice A code.length cap) code.length).p w) (hl : Sl w (.slice A code.length cap) 1 (code.map byteRow)) (hap : ¬ (slF (.slice A code.length cap) 1 (code.map byteRow)).blk g) (hn : code.length ≤ 1048576) : Calls Tryz.prog 109 #[.pointer (some ⟨g, 0, none⟩)] w fun e w' => ∃ y : {y : Rcv × (Option Addr × Nat) // RB 4 y.1}, e = .returned (.agg (rcvL y.1.1 (.slice y.1.2.1 y.1.1.held.length y.1.2.2)).toArray) ∧ (curF B g 100 (.slice A code.length cap) code.length).p w' ∧ (rowF w.heap.size 108 2 (.slice y.1.2.1 y.1.1.held.length y.1.2.2) (y.1.1.held.map pceCells)).p w' ∧ g < w.heap.size ∧ Chgd (fun b => b = g) w w' := by
 have hq_code := Sl.capLe hl
 have hBw : B ≤ (cutW w B).heap.size := Nat.le_of_eq (cutW_size hB).symm
 have hlo : ∀ (ww : World) (b : Nat),(curF B g 100 (.slice A code.length cap) code.length).p ww → (curF B g 100 (.slice A code.length cap) code.length).blk b → (cutW w B).heap.size ≤ b := fun ww b h hb => Nat.le_trans (cutW_le w B) (cur_lo h hb)
 refine x_callsMA (args := [.pointer (some ⟨g,0,none⟩)]) (fn := Tryz.f109) [curF B g 100 (.slice A code.length cap) code.length,slF (.slice A code.length cap) 1 (code.map byteRow),frF w (fun b => b = g)] B Tryz.func109 rfl Tryz.ntmps109 rfl hB (by simp only [List.mem_cons,List.not_mem_nil,or_false,forall_eq_or_imp,forall_eq]; exact ⟨hc,hl,frF_start w _⟩) (apart_cur hap rfl) ?_
 have hgl : g < w.heap.size := (curF B g 100 (.slice A code.length cap) code.length).lt w g hc rfl
 refine kQ ?_
 refine kEF [0,2] ⟨[(0,.v (.pointer (some ⟨g,0,none⟩))),(2,.p 0 0)],[⟨30,rcvZ⟩],[],[curF B g 100 (.slice A code.length cap) code.length,slF (.slice A code.length cap) 1 (code.map byteRow),frF w (fun b => b = g)]⟩ ?_
 refine kQ ?_
 refine kWD 1 [0,2,4] [(4,.v (.pointer (some ⟨g,0,none⟩)))] 130 [.pointer (some ⟨g,0,none⟩)] (some 5) 0 rfl rfl hlo (xcm_curR fun ww hw hf => l18Receiver_c g code A cap ww B (Nat.le_trans (by first | exact Nat.le_refl _ | exact Nat.le_of_eq (cutW_size hB).symm) hw) (hf (curF B g 100 (.slice A code.length cap) code.length) (by simp)) (hf _ m1) hap (by omega)) ?_
 rintro ⟨⟨b1m,b1a,b1c⟩,hb1⟩
 dsimp only at hb1
 have hb1n := hb1.1
 refine kEA [0,2,3] [(3,.p 1 0)] [⟨30,rcvL b1m (.slice b1a b1m.held.length b1c)⟩] ?_
 refine kS ?_
 refine xw_joinF (α := {zz : Rcv × Option Addr × Nat // (fun (q : Rcv) (A3 : Option Addr) (c3 : Nat) => RB 4 q) zz.1 zz.2.1 zz.2.2}) (fun zz => (fun (q : Rcv) (A3 : Option Addr) (c3 : Nat) => (⟨[(2,.p 0 0),(3,.p 1 0)],[⟨30,rcvZ⟩,⟨30,rcvL q (.slice A3 q.held.length c3)⟩],[],[rowF (cutW w B).heap.size 108 2 (.slice A3 q.held.length c3) (q.held.map pceCells),curF B g 100 (.slice A code.length cap) code.length,slF (.slice A code.length cap) 1 (code.map byteRow),frF w (fun b => b = g)]⟩ : St)) zz.1.1 zz.1.2.1 zz.1.2.2) ?_ ?_
 refine kQ ?_
 refine kWD 1 [0,2,3,6] [(6,.v (.pointer (some ⟨g,0,none⟩)))] 86 [.pointer (some ⟨g,0,none⟩),.int .i64 12] (some 7) 1 rfl rfl hlo (l1Below_c_K hBw hap) ?_
 rintro ⟨y2,hy2⟩
 obtain ⟨hy20,hy21⟩ := hy2
 refine kED [0,2,3,7] [] ?_
 refine xw_block ?_
 refine kQ ?_
 refine kED [0,2,3,7,8] [(8,.v (.bool (y2 == 0)))] ?_
 refine kC (y2 == 0) (fun h3 => ?_) (fun h3 => ?_)
 have h3p := eqT h3
 refine kG ?_
 refine kWD 1 [2,3,10] [(10,.v (.pointer (some ⟨g,0,none⟩)))] 123 [.pointer (some ⟨g,0,none⟩)] (some 11) 0 rfl rfl hlo (l2Word_c_K hBw hap) ?_
 rintro ⟨y4,hy4⟩
 refine kEU [2,3] [] 1 ⟨30,rcvL { b1m with next := y4 } (.slice b1a b1m.held.length b1c)⟩ ?_
 exact ⟨⟨({ b1m with next := y4 },b1a,b1c),⟨Nat.le_trans hb1.1 (by decide),hb1.2.1,hb1.2.2⟩⟩,(wk_pick [1,0,2,3] [rowF (cutW w B).heap.size 108 2 (.slice b1a b1m.held.length b1c) (b1m.held.map pceCells),curF B g 100 (.slice A code.length cap) code.length,slF (.slice A code.length cap) 1 (code.map byteRow),frF w (fun b => b = g)] (by kernel_rfl) (by kernel_rfl)).trans <| kF 2 0 [2,3]⟩
 have h3p := eqF h3
 refine kQ ?_
 refine kED [0,2,3,7,13] [(13,.v (.bool (y2 == 1)))] ?_
 refine kC (y2 == 1) (fun h5 => ?_) (fun h5 => ?_)
 have h5p := eqT h5
 refine kG ?_
 refine kHD 1 [2,3,15] [(15,.v (.pointer (some ⟨g,0,none⟩)))] rfl (hv_build (e := 3) (K := 1) (bytes := 8) [.int .i64 (-2),.int .i64 (-1),.int .i64 0,.int .i64 5,.int .i64 32,.int .i64 33] rfl (by kernel_rfl) (by kernel_rfl) (by kernel_rfl) (by kernel_rfl) (by kernel_rfl) (rs := ([(-2),(-1),0,5,32,33] : List Int).map intRow) rfl) ?_
 intro g6
 refine xl_know (φ := ¬ (slF (.slice (some ⟨g6,0,none⟩) 6 6) 1 (([(-2),(-1),0,5,32,33] : List Int).map intRow)).blk g) (fun _ _ _ _ hr => fun hb => hr.2.apart 0 1 (rowF (cutW w B).heap.size 3 1 (.slice (some ⟨g6,0,none⟩) 6 6) (([(-2),(-1),0,5,32,33] : List Int).map intRow)) (curF B g 100 (.slice A code.length cap) code.length) rfl rfl (by decide) rfl g (rowF_sblk hb) rfl) (fun hk7 => ?_)
 refine kWD 0 [2,3,15,16] [] 66 [.pointer (some ⟨g,0,none⟩),.slice (some ⟨g6,0,none⟩) 6 6] (some 17) 1 rfl rfl hlo (l1PickInt_c_K hBw hap (fun ww hw hf => (rowF_sl (hf _ m0))) hk7 (by simp)) ?_
 rintro ⟨y8,hy8⟩
 refine kEU [2,3] [] 1 ⟨30,rcvL { b1m with fin := y8 } (.slice b1a b1m.held.length b1c)⟩ ?_
 exact ⟨⟨({ b1m with fin := y8 },b1a,b1c),⟨Nat.le_trans hb1.1 (by decide),hb1.2.1,hb1.2.2⟩⟩,(wk_pick [2,0,3,4] [rowF (cutW w B).heap.size 108 2 (.slice b1a b1m.held.length b1c) (b1m.held.map pceCells),curF B g 100 (.slice A code.length cap) code.length,slF (.slice A code.length cap) 1 (code.map byteRow),frF w (fun b => b = g)] (by kernel_rfl) (by kernel_rfl)).trans <| kF 2 0 [2,3]⟩
 have h5p := eqF h5
 refine kQ ?_
 refine kED [0,2,3,7,19] [(19,.v (.bool (y2 == 2)))] ?_
 refine kC (y2 == 2) (fun h9 => ?_) (fun h9 => ?_)
 have h9p := eqT h9
 refine kG ?_
 refine kEU [2,3] [] 1 ⟨30,rcvL { b1m with done := !b1m.done } (.slice b1a b1m.held.length b1c)⟩ ?_
 exact ⟨⟨({ b1m with done := !b1m.done },b1a,b1c),⟨Nat.le_trans hb1.1 (by decide),hb1.2.1,hb1.2.2⟩⟩,(wk_pick [1,0,2,3] [rowF (cutW w B).heap.size 108 2 (.slice b1a b1m.held.length b1c) (b1m.held.map pceCells),curF B g 100 (.slice A code.length cap) code.length,slF (.slice A code.length cap) 1 (code.map byteRow),frF w (fun b => b = g)] (by kernel_rfl) (by kernel_rfl)).trans <| kF 2 0 [2,3]⟩
 have h9p := eqF h9
 refine kQ ?_
 refine kED [0,2,3,7,25] [(25,.v (.bool (y2 == 3)))] ?_
 refine kC (y2 == 3) (fun h10 => ?_) (fun h10 => ?_)
 have h10p := eqT h10
 refine xe_region0 [true,false] (by kernel_rfl) (fun ρ σ => ?_)
 refine xe_cut (α := {zz : Nat × Int × Nat × ByteArray × Nat × Option Addr × Nat // (fun (g162 : Nat) (y213 : Int) (g312 : Nat) (y363 : ByteArray) (g462 : Nat) (v512a : Option Addr) (v512c : Nat) => y363 ∈ ([(⟨#[]⟩ : ByteArray),(⟨#[120]⟩ : ByteArray),(⟨#[121,122]⟩ : ByteArray)] : List ByteArray)) zz.1 zz.2.1 zz.2.2.1 zz.2.2.2.1 zz.2.2.2.2.1 zz.2.2.2.2.2.1 zz.2.2.2.2.2.2}) (fun zz => (fun (g162 : Nat) (y213 : Int) (g312 : Nat) (y363 : ByteArray) (g462 : Nat) (v512a : Option Addr) (v512c : Nat) => (⟨[(2,.p 0 0),(3,.p 1 0)],[⟨30,rcvZ⟩,⟨30,rcvL { b1m with held := (b1m.held ++ ([⟨y213,y363⟩] : List Pce)) } (.slice v512a ((b1m.held ++ ([⟨y213,y363⟩] : List Pce)).length) v512c)⟩],[],[curF B g 100 (.slice A code.length cap) code.length,frF w (fun b => b = g),rowF (cutW w B).heap.size 108 2 (.slice (some ⟨g462,0,none⟩) 1 1) (([⟨y213,y363⟩] : List Pce).map pceCells),rowF (cutW w B).heap.size 108 2 (.slice v512a ((b1m.held ++ ([⟨y213,y363⟩] : List Pce)).length) v512c) ((b1m.held ++ ([⟨y213,y363⟩] : List Pce)).map pceCells),rowF (cutW w B).heap.size 3 1 (.slice (some ⟨g162,0,none⟩) 7 7) (([0,1,20,31,32,(-1),9223372036854775807] : List Int).map intRow),rowF (cutW w B).heap.size 9 1 (.slice (some ⟨g312,0,none⟩) 3 3) (([(⟨#[]⟩ : ByteArray),(⟨#[120]⟩ : ByteArray),(⟨#[121,122]⟩ : ByteArray)] : List ByteArray).map strRow),slF (.slice A code.length cap) 1 (code.map byteRow)]⟩ : St)) zz.1.1 zz.1.2.1 zz.1.2.2.1 zz.1.2.2.2.1 zz.1.2.2.2.2.1 zz.1.2.2.2.2.2.1 zz.1.2.2.2.2.2.2) 0 #[true,true,true,true,true,true,true,true,true,true,true,true,true] ?_ (fun hD7 => ?_)
 rintro ⟨⟨g162,y213,g312,y363,g462,v512a,v512c⟩,hy363⟩
 dsimp only
 try dsimp only at hy363
 refine kZ ?_
 exact ⟨⟨({ b1m with held := (b1m.held ++ ([⟨y213,y363⟩] : List Pce)) },v512a,v512c),(RB.more hb1 _ (by have hq := hy363; simp only [List.mem_cons,List.not_mem_nil,or_false] at hq; rcases hq with h | h | h <;> subst h <;> (dsimp only; decide)) hb1.2.2)⟩,(wk_pick [3,0,6,1] [rowF (cutW w B).heap.size 108 2 (.slice v512a ((b1m.held ++ ([⟨y213,y363⟩] : List Pce)).length) v512c) ((b1m.held ++ ([⟨y213,y363⟩] : List Pce)).map pceCells),curF B g 100 (.slice A code.length cap) code.length,slF (.slice A code.length cap) 1 (code.map byteRow),frF w (fun b => b = g)] (by kernel_rfl) (by kernel_rfl)).trans <| kF 2 0 [2,3]⟩
 refine xe_cut (α := {zz : Nat × Int × Nat × ByteArray × Nat × Option Addr × Nat // (fun (g162 : Nat) (y213 : Int) (g312 : Nat) (y363 : ByteArray) (g462 : Nat) (v512a : Option Addr) (v512c : Nat) => y363 ∈ ([(⟨#[]⟩ : ByteArray),(⟨#[120]⟩ : ByteArray),(⟨#[121,122]⟩ : ByteArray)] : List ByteArray)) zz.1 zz.2.1 zz.2.2.1 zz.2.2.2.1 zz.2.2.2.2.1 zz.2.2.2.2.2.1 zz.2.2.2.2.2.2}) (fun zz => (fun (g162 : Nat) (y213 : Int) (g312 : Nat) (y363 : ByteArray) (g462 : Nat) (v512a : Option Addr) (v512c : Nat) => (⟨[(2,.p 0 0),(3,.p 1 0),(37,.v (.slice v512a ((b1m.held ++ ([⟨y213,y363⟩] : List Pce)).length) v512c))],[⟨30,rcvZ⟩,⟨30,rcvL b1m (.slice b1a b1m.held.length b1c)⟩],[],[curF B g 100 (.slice A code.length cap) code.length,frF w (fun b => b = g),rowF (cutW w B).heap.size 108 2 (.slice (some ⟨g462,0,none⟩) 1 1) (([⟨y213,y363⟩] : List Pce).map pceCells),rowF (cutW w B).heap.size 108 2 (.slice v512a ((b1m.held ++ ([⟨y213,y363⟩] : List Pce)).length) v512c) ((b1m.held ++ ([⟨y213,y363⟩] : List Pce)).map pceCells),rowF (cutW w B).heap.size 3 1 (.slice (some ⟨g162,0,none⟩) 7 7) (([0,1,20,31,32,(-1),9223372036854775807] : List Int).map intRow),rowF (cutW w B).heap.size 9 1 (.slice (some ⟨g312,0,none⟩) 3 3) (([(⟨#[]⟩ : ByteArray),(⟨#[120]⟩ : ByteArray),(⟨#[121,122]⟩ : ByteArray)] : List ByteArray).map strRow),slF (.slice A code.length cap) 1 (code.map byteRow)]⟩ : St)) zz.1.1 zz.1.2.1 zz.1.2.2.1 zz.1.2.2.2.1 zz.1.2.2.2.2.1 zz.1.2.2.2.2.2.1 zz.1.2.2.2.2.2.2) 2 #[true,true,true,true,true,true,true,true,true,true,true,false,false] ?_ (fun hD6 => ?_)
 rintro ⟨⟨g162,y213,g312,y363,g462,v512a,v512c⟩,hy363⟩
 dsimp only
 try dsimp only at hy363
 refine kTS [11] [38,2,3,37] 1 [(38,.p 1 2),(2,.p 0 0),(3,.p 1 0),(37,.v (.slice v512a ((b1m.held ++ ([⟨y213,y363⟩] : List Pce)).length) v512c))] ?_
 refine kA [12] ?_
 refine kSS 12 1 2 [.slice v512a ((b1m.held ++ ([⟨y213,y363⟩] : List Pce)).length) v512c] rfl ?_
 exact xe_wkL (kF 2 0 [2,3]) (by kernel_rfl) (hD7 ⟨(g162,y213,g312,y363,g462,v512a,v512c),hy363⟩)
 refine xe_cut (α := {zz : Nat × Int × Nat × ByteArray × Nat // (fun (g162 : Nat) (y213 : Int) (g312 : Nat) (y363 : ByteArray) (g462 : Nat) => y363 ∈ ([(⟨#[]⟩ : ByteArray),(⟨#[120]⟩ : ByteArray),(⟨#[121,122]⟩ : ByteArray)] : List ByteArray)) zz.1 zz.2.1 zz.2.2.1 zz.2.2.2.1 zz.2.2.2.2}) (fun zz => (fun (g162 : Nat) (y213 : Int) (g312 : Nat) (y363 : ByteArray) (g462 : Nat) => (⟨[(2,.p 0 0),(3,.p 1 0),(28,.v (.slice b1a b1m.held.length b1c)),(36,.v (.slice (some ⟨g462,0,none⟩) 1 1))],[⟨30,rcvZ⟩,⟨30,rcvL b1m (.slice b1a b1m.held.length b1c)⟩],[],[curF B g 100 (.slice A code.length cap) code.length,frF w (fun b => b = g),rowF (cutW w B).heap.size 108 2 (.slice (some ⟨g462,0,none⟩) 1 1) (([⟨y213,y363⟩] : List Pce).map pceCells),rowF (cutW w B).heap.size 108 2 (.slice b1a b1m.held.length b1c) (b1m.held.map pceCells),rowF (cutW w B).heap.size 3 1 (.slice (some ⟨g162,0,none⟩) 7 7) (([0,1,20,31,32,(-1),9223372036854775807] : List Int).map intRow),rowF (cutW w B).heap.size 9 1 (.slice (some ⟨g312,0,none⟩) 3 3) (([(⟨#[]⟩ : ByteArray),(⟨#[120]⟩ : ByteArray),(⟨#[121,122]⟩ : ByteArray)] : List ByteArray).map strRow),slF (.slice A code.length cap) 1 (code.map byteRow)]⟩ : St)) zz.1.1 zz.1.2.1 zz.1.2.2.1 zz.1.2.2.2.1 zz.1.2.2.2.2) 3 #[true,true,true,true,true,true,true,true,true,true,false,false,false] ?_ (fun hD5 => ?_)
 rintro ⟨⟨g162,y213,g312,y363,g462⟩,hy363⟩
 dsimp only
 try dsimp only at hy363
 refine kA [10] ?_
 refine kSH 10 rfl (under_t (under_f rfl under_nil)) (hv_append (e := 108) (K := 2) (bytes := 24) (i := 3) (q := (b1m.held ++ ([⟨y213,y363⟩] : List Pce)).length) (new := ([⟨y213,y363⟩] : List Pce).map pceCells) (rs' := (b1m.held ++ ([⟨y213,y363⟩] : List Pce)).map pceCells) rfl rfl rfl rfl (by kernel_rfl) (by kernel_rfl) (by kernel_rfl) rfl (by simp) (by rw [List.map_append]) (by simp) (fun ww hf => (rowF_sl (hf (rowF (cutW w B).heap.size 108 2 (.slice (some ⟨g462,0,none⟩) 1 1) (([⟨y213,y363⟩] : List Pce).map pceCells)) (by simp)))) (by intro r hr; obtain ⟨x,hx,rfl⟩ := List.mem_map.1 hr; exact ⟨rfl,by simp [pceCells,Value.oneCell']⟩) (by (try simp only [List.length_map,List.length_append,List.length_cons,List.length_nil,List.length_take,List.length_drop,maxLen]); omega) (by (try simp only [List.length_map,List.length_append,List.length_cons,List.length_nil,List.length_take,List.length_drop,maxLen]); omega)) ?_
 rintro ⟨v512a,v512c⟩
 exact xe_wkL ((wk_pick [1,2,3,0,4,5,6] [curF B g 100 (.slice A code.length cap) code.length,frF w (fun b => b = g),rowF (cutW w B).heap.size 108 2 (.slice (some ⟨g462,0,none⟩) 1 1) (([⟨y213,y363⟩] : List Pce).map pceCells),rowF (cutW w B).heap.size 108 2 (.slice v512a ((b1m.held ++ ([⟨y213,y363⟩] : List Pce)).length) v512c) ((b1m.held ++ ([⟨y213,y363⟩] : List Pce)).map pceCells),rowF (cutW w B).heap.size 3 1 (.slice (some ⟨g162,0,none⟩) 7 7) (([0,1,20,31,32,(-1),9223372036854775807] : List Int).map intRow),rowF (cutW w B).heap.size 9 1 (.slice (some ⟨g312,0,none⟩) 3 3) (([(⟨#[]⟩ : ByteArray),(⟨#[120]⟩ : ByteArray),(⟨#[121,122]⟩ : ByteArray)] : List ByteArray).map strRow),slF (.slice A code.length cap) 1 (code.map byteRow)] (by kernel_rfl) (by kernel_rfl)).trans <| kF 2 0 [2,3,37]) (by kernel_rfl) (hD6 ⟨(g162,y213,g312,y363,g462,v512a,v512c),hy363⟩)
 refine xe_cut (α := {zz : Nat × Int × Nat × ByteArray // (fun (g162 : Nat) (y213 : Int) (g312 : Nat) (y363 : ByteArray) => y363 ∈ ([(⟨#[]⟩ : ByteArray),(⟨#[120]⟩ : ByteArray),(⟨#[121,122]⟩ : ByteArray)] : List ByteArray)) zz.1 zz.2.1 zz.2.2.1 zz.2.2.2}) (fun zz => (fun (g162 : Nat) (y213 : Int) (g312 : Nat) (y363 : ByteArray) => (⟨[(2,.p 0 0),(3,.p 1 0),(28,.v (.slice b1a b1m.held.length b1c)),(31,.v (.int .i64 y213)),(34,.v (.string y363))],[⟨30,rcvZ⟩,⟨30,rcvL b1m (.slice b1a b1m.held.length b1c)⟩],[],[curF B g 100 (.slice A code.length cap) code.length,frF w (fun b => b = g),rowF (cutW w B).heap.size 108 2 (.slice b1a b1m.held.length b1c) (b1m.held.map pceCells),rowF (cutW w B).heap.size 3 1 (.slice (some ⟨g162,0,none⟩) 7 7) (([0,1,20,31,32,(-1),9223372036854775807] : List Int).map intRow),rowF (cutW w B).heap.size 9 1 (.slice (some ⟨g312,0,none⟩) 3 3) (([(⟨#[]⟩ : ByteArray),(⟨#[120]⟩ : ByteArray),(⟨#[121,122]⟩ : ByteArray)] : List ByteArray).map strRow),slF (.slice A code.length cap) 1 (code.map byteRow)]⟩ : St)) zz.1.1 zz.1.2.1 zz.1.2.2.1 zz.1.2.2.2) 5 #[true,true,true,true,true,true,true,true,false,false,false,false,false] ?_ (fun hD4 => ?_)
 rintro ⟨⟨g162,y213,g312,y363⟩,hy363⟩
 dsimp only
 try dsimp only at hy363
 refine kX 8 (.agg (pceL (⟨y213,y363⟩ : Pce)).toArray) rfl (fun _ _ ww hA => act_build [(0,.int .i64 y213),(1,.string y363)] hA rfl (by kernel_rfl) (by kernel_rfl) ww) ?_
 refine kA [9] ?_
 refine kSH 9 rfl (under_t (under_f rfl under_nil)) (hv_build (e := 108) (K := 2) (bytes := 24) [.agg (pceL (⟨y213,y363⟩ : Pce)).toArray] rfl (by kernel_rfl) (by kernel_rfl) (by kernel_rfl) (by kernel_rfl) (by kernel_rfl) (rs := ([⟨y213,y363⟩] : List Pce).map pceCells) rfl) ?_
 intro g462
 exact xe_wkL ((wk_pick [1,2,0,3,4,5,6] [curF B g 100 (.slice A code.length cap) code.length,frF w (fun b => b = g),rowF (cutW w B).heap.size 108 2 (.slice (some ⟨g462,0,none⟩) 1 1) (([⟨y213,y363⟩] : List Pce).map pceCells),rowF (cutW w B).heap.size 108 2 (.slice b1a b1m.held.length b1c) (b1m.held.map pceCells),rowF (cutW w B).heap.size 3 1 (.slice (some ⟨g162,0,none⟩) 7 7) (([0,1,20,31,32,(-1),9223372036854775807] : List Int).map intRow),rowF (cutW w B).heap.size 9 1 (.slice (some ⟨g312,0,none⟩) 3 3) (([(⟨#[]⟩ : ByteArray),(⟨#[120]⟩ : ByteArray),(⟨#[121,122]⟩ : ByteArray)] : List ByteArray).map strRow),slF (.slice A code.length cap) 1 (code.map byteRow)] (by kernel_rfl) (by kernel_rfl)).trans <| kF 2 0 [2,3,28,36]) (by kernel_rfl) (hD5 ⟨(g162,y213,g312,y363,g462),hy363⟩)
 refine xe_cut (α := Nat × Int × Nat) (fun zz => (fun (g162 : Nat) (y213 : Int) (g312 : Nat) => (⟨[(2,.p 0 0),(3,.p 1 0),(28,.v (.slice b1a b1m.held.length b1c)),(31,.v (.int .i64 y213)),(32,.v (.pointer (some ⟨g,0,none⟩))),(33,.v (.slice (some ⟨g312,0,none⟩) 3 3))],[⟨30,rcvZ⟩,⟨30,rcvL b1m (.slice b1a b1m.held.length b1c)⟩],[],[curF B g 100 (.slice A code.length cap) code.length,frF w (fun b => b = g),rowF (cutW w B).heap.size 108 2 (.slice b1a b1m.held.length b1c) (b1m.held.map pceCells),rowF (cutW w B).heap.size 3 1 (.slice (some ⟨g162,0,none⟩) 7 7) (([0,1,20,31,32,(-1),9223372036854775807] : List Int).map intRow),rowF (cutW w B).heap.size 9 1 (.slice (some ⟨g312,0,none⟩) 3 3) (([(⟨#[]⟩ : ByteArray),(⟨#[120]⟩ : ByteArray),(⟨#[121,122]⟩ : ByteArray)] : List ByteArray).map strRow),slF (.slice A code.length cap) 1 (code.map byteRow)]⟩ : St)) zz.1 zz.2.1 zz.2.2) 6 #[true,true,true,true,true,true,true,false,false,false,false,false,false] ?_ (fun hD3 => ?_)
 rintro ⟨g162,y213,g312⟩
 dsimp only
 refine kA [7] ?_
 refine xs_know (φ := ¬ (slF (.slice (some ⟨g312,0,none⟩) 3 3) 1 (([(⟨#[]⟩ : ByteArray),(⟨#[120]⟩ : ByteArray),(⟨#[121,122]⟩ : ByteArray)] : List ByteArray).map strRow)).blk g) (fun _ _ _ _ hr => fun hb => hr.2.apart 4 0 (rowF (cutW w B).heap.size 9 1 (.slice (some ⟨g312,0,none⟩) 3 3) (([(⟨#[]⟩ : ByteArray),(⟨#[120]⟩ : ByteArray),(⟨#[121,122]⟩ : ByteArray)] : List ByteArray).map strRow)) (curF B g 100 (.slice A code.length cap) code.length) rfl rfl (by decide) rfl g (rowF_sblk hb) rfl) (fun hk362 => ?_)
 refine kSW 7 131 [.pointer (some ⟨g,0,none⟩),.slice (some ⟨g312,0,none⟩) 3 3] (some 34) 0 rfl rfl hlo (under_t (under_f rfl under_nil)) (l1Pick_c_K hBw hap (fun ww hw hf => (rowF_sl (hf _ m4))) hk362 (by simp)) ?_
 rintro ⟨y363,hy363⟩
 exact xe_wkL (kF 2 0 [2,3,28,31,34]) (by kernel_rfl) (hD4 ⟨(g162,y213,g312,y363),hy363⟩)
 refine xe_cut (α := Nat × Int) (fun zz => (fun (g162 : Nat) (y213 : Int) => (⟨[(2,.p 0 0),(3,.p 1 0),(28,.v (.slice b1a b1m.held.length b1c)),(31,.v (.int .i64 y213)),(32,.v (.pointer (some ⟨g,0,none⟩)))],[⟨30,rcvZ⟩,⟨30,rcvL b1m (.slice b1a b1m.held.length b1c)⟩],[],[curF B g 100 (.slice A code.length cap) code.length,frF w (fun b => b = g),rowF (cutW w B).heap.size 108 2 (.slice b1a b1m.held.length b1c) (b1m.held.map pceCells),rowF (cutW w B).heap.size 3 1 (.slice (some ⟨g162,0,none⟩) 7 7) (([0,1,20,31,32,(-1),9223372036854775807] : List Int).map intRow),slF (.slice A code.length cap) 1 (code.map byteRow)]⟩ : St)) zz.1 zz.2) 7 #[true,true,true,true,true,true,false,false,false,false,false,false,false] ?_ (fun hD2 => ?_)
 rintro ⟨g162,y213⟩
 dsimp only
 refine kA [6] ?_
 refine kSH 6 rfl (under_t (under_f rfl under_nil)) (hv_build (e := 9) (K := 1) (bytes := 16) [.string (⟨#[]⟩ : ByteArray),.string (⟨#[120]⟩ : ByteArray),.string (⟨#[121,122]⟩ : ByteArray)] rfl (by kernel_rfl) (by kernel_rfl) (by kernel_rfl) (by kernel_rfl) (by kernel_rfl) (rs := ([(⟨#[]⟩ : ByteArray),(⟨#[120]⟩ : ByteArray),(⟨#[121,122]⟩ : ByteArray)] : List ByteArray).map strRow) rfl) ?_
 intro g312
 exact xe_wkL ((wk_pick [1,2,3,4,0,5] [curF B g 100 (.slice A code.length cap) code.length,frF w (fun b => b = g),rowF (cutW w B).heap.size 108 2 (.slice b1a b1m.held.length b1c) (b1m.held.map pceCells),rowF (cutW w B).heap.size 3 1 (.slice (some ⟨g162,0,none⟩) 7 7) (([0,1,20,31,32,(-1),9223372036854775807] : List Int).map intRow),rowF (cutW w B).heap.size 9 1 (.slice (some ⟨g312,0,none⟩) 3 3) (([(⟨#[]⟩ : ByteArray),(⟨#[120]⟩ : ByteArray),(⟨#[121,122]⟩ : ByteArray)] : List ByteArray).map strRow),slF (.slice A code.length cap) 1 (code.map byteRow)] (by kernel_rfl) (by kernel_rfl)).trans <| kF 2 0 [2,3,28,31,32,33]) (by kernel_rfl) (hD3 (g162,y213,g312))
 refine xe_cut (α := Nat × Nat) (fun zz => (fun (g162 : Nat) (g312 : Nat) => (⟨[(2,.p 0 0),(3,.p 1 0),(28,.v (.slice b1a b1m.held.length b1c)),(29,.v (.pointer (some ⟨g,0,none⟩))),(30,.v (.slice (some ⟨g162,0,none⟩) 7 7)),(32,.v (.pointer (some ⟨g,0,none⟩))),(33,.v (.slice (some ⟨g312,0,none⟩) 3 3))],[⟨30,rcvZ⟩,⟨30,rcvL b1m (.slice b1a b1m.held.length b1c)⟩],[],[curF B g 100 (.slice A code.length cap) code.length,frF w (fun b => b = g),rowF (cutW w B).heap.size 108 2 (.slice b1a b1m.held.length b1c) (b1m.held.map pceCells),rowF (cutW w B).heap.size 3 1 (.slice (some ⟨g162,0,none⟩) 7 7) (([0,1,20,31,32,(-1),9223372036854775807] : List Int).map intRow),rowF (cutW w B).heap.size 9 1 (.slice (some ⟨g312,0,none⟩) 3 3) (([(⟨#[]⟩ : ByteArray),(⟨#[120]⟩ : ByteArray),(⟨#[121,122]⟩ : ByteArray)] : List ByteArray).map strRow),slF (.slice A code.length cap) 1 (code.map byteRow)]⟩ : St)) zz.1 zz.2) 7 #[true,true,true,true,false,true,true,false,false,false,false,false,false] ?_ (fun hD8 => ?_)
 rintro ⟨g162,g312⟩
 dsimp only
 refine kA [4] ?_
 refine xs_know (φ := ¬ (slF (.slice (some ⟨g162,0,none⟩) 7 7) 1 (([0,1,20,31,32,(-1),9223372036854775807] : List Int).map intRow)).blk g) (fun _ _ _ _ hr => fun hb => hr.2.apart 3 0 (rowF (cutW w B).heap.size 3 1 (.slice (some ⟨g162,0,none⟩) 7 7) (([0,1,20,31,32,(-1),9223372036854775807] : List Int).map intRow)) (curF B g 100 (.slice A code.length cap) code.length) rfl rfl (by decide) rfl g (rowF_sblk hb) rfl) (fun hk212 => ?_)
 refine kSW 4 66 [.pointer (some ⟨g,0,none⟩),.slice (some ⟨g162,0,none⟩) 7 7] (some 31) 0 rfl rfl hlo (under_t (under_f rfl under_nil)) (l1PickInt_c_K hBw hap (fun ww hw hf => (rowF_sl (hf _ m3))) hk212 (by simp)) ?_
 rintro ⟨y213,hy213⟩
 exact xe_wkL (kF 2 0 [2,3,28,31,32,33]) (by kernel_rfl) (hD3 (g162,y213,g312))
 refine xe_cut (α := Nat) (fun zz => (fun (g162 : Nat) => (⟨[(2,.p 0 0),(3,.p 1 0),(28,.v (.slice b1a b1m.held.length b1c)),(29,.v (.pointer (some ⟨g,0,none⟩))),(30,.v (.slice (some ⟨g162,0,none⟩) 7 7)),(32,.v (.pointer (some ⟨g,0,none⟩)))],[⟨30,rcvZ⟩,⟨30,rcvL b1m (.slice b1a b1m.held.length b1c)⟩],[],[curF B g 100 (.slice A code.length cap) code.length,frF w (fun b => b = g),rowF (cutW w B).heap.size 108 2 (.slice b1a b1m.held.length b1c) (b1m.held.map pceCells),rowF (cutW w B).heap.size 3 1 (.slice (some ⟨g162,0,none⟩) 7 7) (([0,1,20,31,32,(-1),9223372036854775807] : List Int).map intRow),slF (.slice A code.length cap) 1 (code.map byteRow)]⟩ : St)) zz) 8 #[true,true,true,true,false,true,false,false,false,false,false,false,false] ?_ (fun hD1 => ?_)
 intro g162
 try dsimp only
 refine kA [4,6] ⟨?_,?_⟩
 refine xs_know (φ := ¬ (slF (.slice (some ⟨g162,0,none⟩) 7 7) 1 (([0,1,20,31,32,(-1),9223372036854775807] : List Int).map intRow)).blk g) (fun _ _ _ _ hr => fun hb => hr.2.apart 3 0 (rowF (cutW w B).heap.size 3 1 (.slice (some ⟨g162,0,none⟩) 7 7) (([0,1,20,31,32,(-1),9223372036854775807] : List Int).map intRow)) (curF B g 100 (.slice A code.length cap) code.length) rfl rfl (by decide) rfl g (rowF_sblk hb) rfl) (fun hk212 => ?_)
 refine kSW 4 66 [.pointer (some ⟨g,0,none⟩),.slice (some ⟨g162,0,none⟩) 7 7] (some 31) 0 rfl rfl hlo (under_t (under_f rfl under_nil)) (l1PickInt_c_K hBw hap (fun ww hw hf => (rowF_sl (hf _ m3))) hk212 (by simp)) ?_
 rintro ⟨y213,hy213⟩
 exact xe_wkL (kF 2 0 [2,3,28,31,32]) (by kernel_rfl) (hD2 (g162,y213))
 refine kSH 6 rfl (under_t (under_f rfl under_nil)) (hv_build (e := 9) (K := 1) (bytes := 16) [.string (⟨#[]⟩ : ByteArray),.string (⟨#[120]⟩ : ByteArray),.string (⟨#[121,122]⟩ : ByteArray)] rfl (by kernel_rfl) (by kernel_rfl) (by kernel_rfl) (by kernel_rfl) (by kernel_rfl) (rs := ([(⟨#[]⟩ : ByteArray),(⟨#[120]⟩ : ByteArray),(⟨#[121,122]⟩ : ByteArray)] : List ByteArray).map strRow) rfl) ?_
 intro g312
 exact xe_wkL ((wk_pick [1,2,3,4,0,5] [curF B g 100 (.slice A code.length cap) code.length,frF w (fun b => b = g),rowF (cutW w B).heap.size 108 2 (.slice b1a b1m.held.length b1c) (b1m.held.map pceCells),rowF (cutW w B).heap.size 3 1 (.slice (some ⟨g162,0,none⟩) 7 7) (([0,1,20,31,32,(-1),9223372036854775807] : List Int).map intRow),rowF (cutW w B).heap.size 9 1 (.slice (some ⟨g312,0,none⟩) 3 3) (([(⟨#[]⟩ : ByteArray),(⟨#[120]⟩ : ByteArray),(⟨#[121,122]⟩ : ByteArray)] : List ByteArray).map strRow),slF (.slice A code.length cap) 1 (code.map byteRow)] (by kernel_rfl) (by kernel_rfl)).trans <| kF 2 0 [2,3,28,29,30,32,33]) (by kernel_rfl) (hD8 (g162,g312))
 refine xe_cut (α := Nat) (fun zz => (fun (g312 : Nat) => (⟨[(2,.p 0 0),(3,.p 1 0),(28,.v (.slice b1a b1m.held.length b1c)),(29,.v (.pointer (some ⟨g,0,none⟩))),(32,.v (.pointer (some ⟨g,0,none⟩))),(33,.v (.slice (some ⟨g312,0,none⟩) 3 3))],[⟨30,rcvZ⟩,⟨30,rcvL b1m (.slice b1a b1m.held.length b1c)⟩],[],[curF B g 100 (.slice A code.length cap) code.length,frF w (fun b => b = g),rowF (cutW w B).heap.size 108 2 (.slice b1a b1m.held.length b1c) (b1m.held.map pceCells),rowF (cutW w B).heap.size 9 1 (.slice (some ⟨g312,0,none⟩) 3 3) (([(⟨#[]⟩ : ByteArray),(⟨#[120]⟩ : ByteArray),(⟨#[121,122]⟩ : ByteArray)] : List ByteArray).map strRow),slF (.slice A code.length cap) 1 (code.map byteRow)]⟩ : St)) zz) 8 #[true,true,true,false,false,true,true,false,false,false,false,false,false] ?_ (fun hD9 => ?_)
 intro g312
 try dsimp only
 refine kA [3] ?_
 refine kSH 3 rfl (under_t (under_f rfl under_nil)) (hv_build (e := 3) (K := 1) (bytes := 8) [.int .i64 0,.int .i64 1,.int .i64 20,.int .i64 31,.int .i64 32,.int .i64 (-1),.int .i64 9223372036854775807] rfl (by kernel_rfl) (by kernel_rfl) (by kernel_rfl) (by kernel_rfl) (by kernel_rfl) (rs := ([0,1,20,31,32,(-1),9223372036854775807] : List Int).map intRow) rfl) ?_
 intro g162
 exact xe_wkL ((wk_pick [1,2,3,0,4,5] [curF B g 100 (.slice A code.length cap) code.length,frF w (fun b => b = g),rowF (cutW w B).heap.size 108 2 (.slice b1a b1m.held.length b1c) (b1m.held.map pceCells),rowF (cutW w B).heap.size 3 1 (.slice (some ⟨g162,0,none⟩) 7 7) (([0,1,20,31,32,(-1),9223372036854775807] : List Int).map intRow),rowF (cutW w B).heap.size 9 1 (.slice (some ⟨g312,0,none⟩) 3 3) (([(⟨#[]⟩ : ByteArray),(⟨#[120]⟩ : ByteArray),(⟨#[121,122]⟩ : ByteArray)] : List ByteArray).map strRow),slF (.slice A code.length cap) 1 (code.map byteRow)] (by kernel_rfl) (by kernel_rfl)).trans <| kF 2 0 [2,3,28,29,30,32,33]) (by kernel_rfl) (hD8 (g162,g312))
 refine xe_cut (α := Unit) (fun zz => (fun (u_ : Unit) => (⟨[(2,.p 0 0),(3,.p 1 0),(28,.v (.slice b1a b1m.held.length b1c)),(29,.v (.pointer (some ⟨g,0,none⟩))),(32,.v (.pointer (some ⟨g,0,none⟩)))],[⟨30,rcvZ⟩,⟨30,rcvL b1m (.slice b1a b1m.held.length b1c)⟩],[],[curF B g 100 (.slice A code.length cap) code.length,frF w (fun b => b = g),rowF (cutW w B).heap.size 108 2 (.slice b1a b1m.held.length b1c) (b1m.held.map pceCells),slF (.slice A code.length cap) 1 (code.map byteRow)]⟩ : St)) zz) 9 #[true,true,true,false,false,true,false,false,false,false,false,false,false] ?_ (fun hD0 => ?_)
 intro u_
 try dsimp only
 refine kA [3,6] ⟨?_,?_⟩
 refine kSH 3 rfl (under_t (under_f rfl under_nil)) (hv_build (e := 3) (K := 1) (bytes := 8) [.int .i64 0,.int .i64 1,.int .i64 20,.int .i64 31,.int .i64 32,.int .i64 (-1),.int .i64 9223372036854775807] rfl (by kernel_rfl) (by kernel_rfl) (by kernel_rfl) (by kernel_rfl) (by kernel_rfl) (rs := ([0,1,20,31,32,(-1),9223372036854775807] : List Int).map intRow) rfl) ?_
 intro g162
 exact xe_wkL ((wk_pick [1,2,3,0,4] [curF B g 100 (.slice A code.length cap) code.length,frF w (fun b => b = g),rowF (cutW w B).heap.size 108 2 (.slice b1a b1m.held.length b1c) (b1m.held.map pceCells),rowF (cutW w B).heap.size 3 1 (.slice (some ⟨g162,0,none⟩) 7 7) (([0,1,20,31,32,(-1),9223372036854775807] : List Int).map intRow),slF (.slice A code.length cap) 1 (code.map byteRow)] (by kernel_rfl) (by kernel_rfl)).trans <| kF 2 0 [2,3,28,29,30,32]) (by kernel_rfl) (hD1 (g162))
 refine kSH 6 rfl (under_t (under_f rfl under_nil)) (hv_build (e := 9) (K := 1) (bytes := 16) [.string (⟨#[]⟩ : ByteArray),.string (⟨#[120]⟩ : ByteArray),.string (⟨#[121,122]⟩ : ByteArray)] rfl (by kernel_rfl) (by kernel_rfl) (by kernel_rfl) (by kernel_rfl) (by kernel_rfl) (rs := ([(⟨#[]⟩ : ByteArray),(⟨#[120]⟩ : ByteArray),(⟨#[121,122]⟩ : ByteArray)] : List ByteArray).map strRow) rfl) ?_
 intro g312
 exact xe_wkL ((wk_pick [1,2,3,0,4] [curF B g 100 (.slice A code.length cap) code.length,frF w (fun b => b = g),rowF (cutW w B).heap.size 108 2 (.slice b1a b1m.held.length b1c) (b1m.held.map pceCells),rowF (cutW w B).heap.size 9 1 (.slice (some ⟨g312,0,none⟩) 3 3) (([(⟨#[]⟩ : ByteArray),(⟨#[120]⟩ : ByteArray),(⟨#[121,122]⟩ : ByteArray)] : List ByteArray).map strRow),slF (.slice A code.length cap) 1 (code.map byteRow)] (by kernel_rfl) (by kernel_rfl)).trans <| kF 2 0 [2,3,28,29,32,33]) (by kernel_rfl) (hD9 (g312))
 refine xe_cut (α := {zz : Nat × Int × Nat × ByteArray // (fun (g162 : Nat) (y213 : Int) (g312 : Nat) (y363 : ByteArray) => y363 ∈ ([(⟨#[]⟩ : ByteArray),(⟨#[120]⟩ : ByteArray),(⟨#[121,122]⟩ : ByteArray)] : List ByteArray)) zz.1 zz.2.1 zz.2.2.1 zz.2.2.2}) (fun zz => (fun (g162 : Nat) (y213 : Int) (g312 : Nat) (y363 : ByteArray) => (⟨[(2,.p 0 0),(3,.p 1 0),(28,.v (.slice b1a b1m.held.length b1c)),(35,.v (.agg (pceL (⟨y213,y363⟩ : Pce)).toArray))],[⟨30,rcvZ⟩,⟨30,rcvL b1m (.slice b1a b1m.held.length b1c)⟩],[],[curF B g 100 (.slice A code.length cap) code.length,frF w (fun b => b = g),rowF (cutW w B).heap.size 108 2 (.slice b1a b1m.held.length b1c) (b1m.held.map pceCells),rowF (cutW w B).heap.size 3 1 (.slice (some ⟨g162,0,none⟩) 7 7) (([0,1,20,31,32,(-1),9223372036854775807] : List Int).map intRow),rowF (cutW w B).heap.size 9 1 (.slice (some ⟨g312,0,none⟩) 3 3) (([(⟨#[]⟩ : ByteArray),(⟨#[120]⟩ : ByteArray),(⟨#[121,122]⟩ : ByteArray)] : List ByteArray).map strRow),slF (.slice A code.length cap) 1 (code.map byteRow)]⟩ : St)) zz.1.1 zz.1.2.1 zz.1.2.2.1 zz.1.2.2.2) 4 #[true,true,true,true,true,true,true,true,true,false,false,false,false] ?_ (fun hD14 => ?_)
 rintro ⟨⟨g162,y213,g312,y363⟩,hy363⟩
 dsimp only
 try dsimp only at hy363
 refine kA [9] ?_
 refine kSH 9 rfl (under_t (under_f rfl under_nil)) (hv_build (e := 108) (K := 2) (bytes := 24) [.agg (pceL (⟨y213,y363⟩ : Pce)).toArray] rfl (by kernel_rfl) (by kernel_rfl) (by kernel_rfl) (by kernel_rfl) (by kernel_rfl) (rs := ([⟨y213,y363⟩] : List Pce).map pceCells) rfl) ?_
 intro g462
 exact xe_wkL ((wk_pick [1,2,0,3,4,5,6] [curF B g 100 (.slice A code.length cap) code.length,frF w (fun b => b = g),rowF (cutW w B).heap.size 108 2 (.slice (some ⟨g462,0,none⟩) 1 1) (([⟨y213,y363⟩] : List Pce).map pceCells),rowF (cutW w B).heap.size 108 2 (.slice b1a b1m.held.length b1c) (b1m.held.map pceCells),rowF (cutW w B).heap.size 3 1 (.slice (some ⟨g162,0,none⟩) 7 7) (([0,1,20,31,32,(-1),9223372036854775807] : List Int).map intRow),rowF (cutW w B).heap.size 9 1 (.slice (some ⟨g312,0,none⟩) 3 3) (([(⟨#[]⟩ : ByteArray),(⟨#[120]⟩ : ByteArray),(⟨#[121,122]⟩ : ByteArray)] : List ByteArray).map strRow),slF (.slice A code.length cap) 1 (code.map byteRow)] (by kernel_rfl) (by kernel_rfl)).trans <| kF 2 0 [2,3,28,36]) (by kernel_rfl) (hD5 ⟨(g162,y213,g312,y363,g462),hy363⟩)
 refine xe_cut (α := {zz : Nat × Int × Nat × ByteArray × Nat // (fun (g162 : Nat) (y213 : Int) (g312 : Nat) (y363 : ByteArray) (g462 : Nat) => y363 ∈ ([(⟨#[]⟩ : ByteArray),(⟨#[120]⟩ : ByteArray),(⟨#[121,122]⟩ : ByteArray)] : List ByteArray)) zz.1 zz.2.1 zz.2.2.1 zz.2.2.2.1 zz.2.2.2.2}) (fun zz => (fun (g162 : Nat) (y213 : Int) (g312 : Nat) (y363 : ByteArray) (g462 : Nat) => (⟨[(2,.p 0 0),(3,.p 1 0),(27,.p 1 2),(36,.v (.slice (some ⟨g462,0,none⟩) 1 1))],[⟨30,rcvZ⟩,⟨30,rcvL b1m (.slice b1a b1m.held.length b1c)⟩],[],[curF B g 100 (.slice A code.length cap) code.length,frF w (fun b => b = g),rowF (cutW w B).heap.size 108 2 (.slice (some ⟨g462,0,none⟩) 1 1) (([⟨y213,y363⟩] : List Pce).map pceCells),rowF (cutW w B).heap.size 108 2 (.slice b1a b1m.held.length b1c) (b1m.held.map pceCells),rowF (cutW w B).heap.size 3 1 (.slice (some ⟨g162,0,none⟩) 7 7) (([0,1,20,31,32,(-1),9223372036854775807] : List Int).map intRow),rowF (cutW w B).heap.size 9 1 (.slice (some ⟨g312,0,none⟩) 3 3) (([(⟨#[]⟩ : ByteArray),(⟨#[120]⟩ : ByteArray),(⟨#[121,122]⟩ : ByteArray)] : List ByteArray).map strRow),slF (.slice A code.length cap) 1 (code.map byteRow)]⟩ : St)) zz.1.1 zz.1.2.1 zz.1.2.2.1 zz.1.2.2.2.1 zz.1.2.2.2.2) 4 #[true,false,true,true,true,true,true,true,true,true,false,false,false] ?_ (fun hD15 => ?_)
 rintro ⟨⟨g162,y213,g312,y363,g462⟩,hy363⟩
 dsimp only
 try dsimp only at hy363
 refine kA [1] ?_
 refine kSV 1 (.v (.slice b1a b1m.held.length b1c)) rfl ?_
 exact xe_wkL (kF 2 0 [2,3,28,36]) (by kernel_rfl) (hD5 ⟨(g162,y213,g312,y363,g462),hy363⟩)
 refine xe_cut (α := {zz : Nat × Int × Nat × ByteArray // (fun (g162 : Nat) (y213 : Int) (g312 : Nat) (y363 : ByteArray) => y363 ∈ ([(⟨#[]⟩ : ByteArray),(⟨#[120]⟩ : ByteArray),(⟨#[121,122]⟩ : ByteArray)] : List ByteArray)) zz.1 zz.2.1 zz.2.2.1 zz.2.2.2}) (fun zz => (fun (g162 : Nat) (y213 : Int) (g312 : Nat) (y363 : ByteArray) => (⟨[(2,.p 0 0),(3,.p 1 0),(27,.p 1 2),(31,.v (.int .i64 y213)),(34,.v (.string y363))],[⟨30,rcvZ⟩,⟨30,rcvL b1m (.slice b1a b1m.held.length b1c)⟩],[],[curF B g 100 (.slice A code.length cap) code.length,frF w (fun b => b = g),rowF (cutW w B).heap.size 108 2 (.slice b1a b1m.held.length b1c) (b1m.held.map pceCells),rowF (cutW w B).heap.size 3 1 (.slice (some ⟨g162,0,none⟩) 7 7) (([0,1,20,31,32,(-1),9223372036854775807] : List Int).map intRow),rowF (cutW w B).heap.size 9 1 (.slice (some ⟨g312,0,none⟩) 3 3) (([(⟨#[]⟩ : ByteArray),(⟨#[120]⟩ : ByteArray),(⟨#[121,122]⟩ : ByteArray)] : List ByteArray).map strRow),slF (.slice A code.length cap) 1 (code.map byteRow)]⟩ : St)) zz.1.1 zz.1.2.1 zz.1.2.2.1 zz.1.2.2.2) 6 #[true,false,true,true,true,true,true,true,false,false,false,false,false] ?_ (fun hD13 => ?_)
 rintro ⟨⟨g162,y213,g312,y363⟩,hy363⟩
 dsimp only
 try dsimp only at hy363
 refine kX 8 (.agg (pceL (⟨y213,y363⟩ : Pce)).toArray) rfl (fun _ _ ww hA => act_build [(0,.int .i64 y213),(1,.string y363)] hA rfl (by kernel_rfl) (by kernel_rfl) ww) ?_
 refine kA [1,9] ⟨?_,?_⟩
 refine kSV 1 (.v (.slice b1a b1m.held.length b1c)) rfl ?_
 exact xe_wkL (kF 2 0 [2,3,28,35]) (by kernel_rfl) (hD14 ⟨(g162,y213,g312,y363),hy363⟩)
 refine kSH 9 rfl (under_t (under_f rfl under_nil)) (hv_build (e := 108) (K := 2) (bytes := 24) [.agg (pceL (⟨y213,y363⟩ : Pce)).toArray] rfl (by kernel_rfl) (by kernel_rfl) (by kernel_rfl) (by kernel_rfl) (by kernel_rfl) (rs := ([⟨y213,y363⟩] : List Pce).map pceCells) rfl) ?_
 intro g462
 exact xe_wkL ((wk_pick [1,2,0,3,4,5,6] [curF B g 100 (.slice A code.length cap) code.length,frF w (fun b => b = g),rowF (cutW w B).heap.size 108 2 (.slice (some ⟨g462,0,none⟩) 1 1) (([⟨y213,y363⟩] : List Pce).map pceCells),rowF (cutW w B).heap.size 108 2 (.slice b1a b1m.held.length b1c) (b1m.held.map pceCells),rowF (cutW w B).heap.size 3 1 (.slice (some ⟨g162,0,none⟩) 7 7) (([0,1,20,31,32,(-1),9223372036854775807] : List Int).map intRow),rowF (cutW w B).heap.size 9 1 (.slice (some ⟨g312,0,none⟩) 3 3) (([(⟨#[]⟩ : ByteArray),(⟨#[120]⟩ : ByteArray),(⟨#[121,122]⟩ : ByteArray)] : List ByteArray).map strRow),slF (.slice A code.length cap) 1 (code.map byteRow)] (by kernel_rfl) (by kernel_rfl)).trans <| kF 2 0 [2,3,27,36]) (by kernel_rfl) (hD15 ⟨(g162,y213,g312,y363,g462),hy363⟩)
 refine xe_cut (α := Nat × Int × Nat) (fun zz => (fun (g162 : Nat) (y213 : Int) (g312 : Nat) => (⟨[(2,.p 0 0),(3,.p 1 0),(27,.p 1 2),(31,.v (.int .i64 y213)),(32,.v (.pointer (some ⟨g,0,none⟩))),(33,.v (.slice (some ⟨g312,0,none⟩) 3 3))],[⟨30,rcvZ⟩,⟨30,rcvL b1m (.slice b1a b1m.held.length b1c)⟩],[],[curF B g 100 (.slice A code.length cap) code.length,frF w (fun b => b = g),rowF (cutW w B).heap.size 108 2 (.slice b1a b1m.held.length b1c) (b1m.held.map pceCells),rowF (cutW w B).heap.size 3 1 (.slice (some ⟨g162,0,none⟩) 7 7) (([0,1,20,31,32,(-1),9223372036854775807] : List Int).map intRow),rowF (cutW w B).heap.size 9 1 (.slice (some ⟨g312,0,none⟩) 3 3) (([(⟨#[]⟩ : ByteArray),(⟨#[120]⟩ : ByteArray),(⟨#[121,122]⟩ : ByteArray)] : List ByteArray).map strRow),slF (.slice A code.length cap) 1 (code.map byteRow)]⟩ : St)) zz.1 zz.2.1 zz.2.2) 7 #[true,false,true,true,true,true,true,false,false,false,false,false,false] ?_ (fun hD12 => ?_)
 rintro ⟨g162,y213,g312⟩
 dsimp only
 refine kA [1,7] ⟨?_,?_⟩
 refine kSV 1 (.v (.slice b1a b1m.held.length b1c)) rfl ?_
 exact xe_wkL (kF 2 0 [2,3,28,31,32,33]) (by kernel_rfl) (hD3 (g162,y213,g312))
 refine xs_know (φ := ¬ (slF (.slice (some ⟨g312,0,none⟩) 3 3) 1 (([(⟨#[]⟩ : ByteArray),(⟨#[120]⟩ : ByteArray),(⟨#[121,122]⟩ : ByteArray)] : List ByteArray).map strRow)).blk g) (fun _ _ _ _ hr => fun hb => hr.2.apart 4 0 (rowF (cutW w B).heap.size 9 1 (.slice (some ⟨g312,0,none⟩) 3 3) (([(⟨#[]⟩ : ByteArray),(⟨#[120]⟩ : ByteArray),(⟨#[121,122]⟩ : ByteArray)] : List ByteArray).map strRow)) (curF B g 100 (.slice A code.length cap) code.length) rfl rfl (by decide) rfl g (rowF_sblk hb) rfl) (fun hk362 => ?_)
 refine kSW 7 131 [.pointer (some ⟨g,0,none⟩),.slice (some ⟨g312,0,none⟩) 3 3] (some 34) 0 rfl rfl hlo (under_t (under_f rfl under_nil)) (l1Pick_c_K hBw hap (fun ww hw hf => (rowF_sl (hf _ m4))) hk362 (by simp)) ?_
 rintro ⟨y363,hy363⟩
 exact xe_wkL (kF 2 0 [2,3,27,31,34]) (by kernel_rfl) (hD13 ⟨(g162,y213,g312,y363),hy363⟩)
 refine xe_cut (α := Nat × Int) (fun zz => (fun (g162 : Nat) (y213 : Int) => (⟨[(2,.p 0 0),(3,.p 1 0),(27,.p 1 2),(31,.v (.int .i64 y213)),(32,.v (.pointer (some ⟨g,0,none⟩)))],[⟨30,rcvZ⟩,⟨30,rcvL b1m (.slice b1a b1m.held.length b1c)⟩],[],[curF B g 100 (.slice A code.length cap) code.length,frF w (fun b => b = g),rowF (cutW w B).heap.size 108 2 (.slice b1a b1m.held.length b1c) (b1m.held.map pceCells),rowF (cutW w B).heap.size 3 1 (.slice (some ⟨g162,0,none⟩) 7 7) (([0,1,20,31,32,(-1),9223372036854775807] : List Int).map intRow),slF (.slice A code.length cap) 1 (code.map byteRow)]⟩ : St)) zz.1 zz.2) 8 #[true,false,true,true,true,true,false,false,false,false,false,false,false] ?_ (fun hD11 => ?_)
 rintro ⟨g162,y213⟩
 dsimp only
 refine kA [1,6] ⟨?_,?_⟩
 refine kSV 1 (.v (.slice b1a b1m.held.length b1c)) rfl ?_
 exact xe_wkL (kF 2 0 [2,3,28,31,32]) (by kernel_rfl) (hD2 (g162,y213))
 refine kSH 6 rfl (under_t (under_f rfl under_nil)) (hv_build (e := 9) (K := 1) (bytes := 16) [.string (⟨#[]⟩ : ByteArray),.string (⟨#[120]⟩ : ByteArray),.string (⟨#[121,122]⟩ : ByteArray)] rfl (by kernel_rfl) (by kernel_rfl) (by kernel_rfl) (by kernel_rfl) (by kernel_rfl) (rs := ([(⟨#[]⟩ : ByteArray),(⟨#[120]⟩ : ByteArray),(⟨#[121,122]⟩ : ByteArray)] : List ByteArray).map strRow) rfl) ?_
 intro g312
 exact xe_wkL ((wk_pick [1,2,3,4,0,5] [curF B g 100 (.slice A code.length cap) code.length,frF w (fun b => b = g),rowF (cutW w B).heap.size 108 2 (.slice b1a b1m.held.length b1c) (b1m.held.map pceCells),rowF (cutW w B).heap.size 3 1 (.slice (some ⟨g162,0,none⟩) 7 7) (([0,1,20,31,32,(-1),9223372036854775807] : List Int).map intRow),rowF (cutW w B).heap.size 9 1 (.slice (some ⟨g312,0,none⟩) 3 3) (([(⟨#[]⟩ : ByteArray),(⟨#[120]⟩ : ByteArray),(⟨#[121,122]⟩ : ByteArray)] : List ByteArray).map strRow),slF (.slice A code.length cap) 1 (code.map byteRow)] (by kernel_rfl) (by kernel_rfl)).trans <| kF 2 0 [2,3,27,31,32,33]) (by kernel_rfl) (hD12 (g162,y213,g312))
 refine xe_cut (α := Nat × Nat) (fun zz => (fun (g162 : Nat) (g312 : Nat) => (⟨[(2,.p 0 0),(3,.p 1 0),(27,.p 1 2),(29,.v (.pointer (some ⟨g,0,none⟩))),(30,.v (.slice (some ⟨g162,0,none⟩) 7 7)),(32,.v (.pointer (some ⟨g,0,none⟩))),(33,.v (.slice (some ⟨g312,0,none⟩) 3 3))],[⟨30,rcvZ⟩,⟨30,rcvL b1m (.slice b1a b1m.held.length b1c)⟩],[],[curF B g 100 (.slice A code.length cap) code.length,frF w (fun b => b = g),rowF (cutW w B).heap.size 108 2 (.slice b1a b1m.held.length b1c) (b1m.held.map pceCells),rowF (cutW w B).heap.size 3 1 (.slice (some ⟨g162,0,none⟩) 7 7) (([0,1,20,31,32,(-1),9223372036854775807] : List Int).map intRow),rowF (cutW w B).heap.size 9 1 (.slice (some ⟨g312,0,none⟩) 3 3) (([(⟨#[]⟩ : ByteArray),(⟨#[120]⟩ : ByteArray),(⟨#[121,122]⟩ : ByteArray)] : List ByteArray).map strRow),slF (.slice A code.length cap) 1 (code.map byteRow)]⟩ : St)) zz.1 zz.2) 8 #[true,false,true,true,false,true,true,false,false,false,false,false,false] ?_ (fun hD16 => ?_)
 rintro ⟨g162,g312⟩
 dsimp only
 refine kA [1,4] ⟨?_,?_⟩
 refine kSV 1 (.v (.slice b1a b1m.held.length b1c)) rfl ?_
 exact xe_wkL (kF 2 0 [2,3,28,29,30,32,33]) (by kernel_rfl) (hD8 (g162,g312))
 refine xs_know (φ := ¬ (slF (.slice (some ⟨g162,0,none⟩) 7 7) 1 (([0,1,20,31,32,(-1),9223372036854775807] : List Int).map intRow)).blk g) (fun _ _ _ _ hr => fun hb => hr.2.apart 3 0 (rowF (cutW w B).heap.size 3 1 (.slice (some ⟨g162,0,none⟩) 7 7) (([0,1,20,31,32,(-1),9223372036854775807] : List Int).map intRow)) (curF B g 100 (.slice A code.length cap) code.length) rfl rfl (by decide) rfl g (rowF_sblk hb) rfl) (fun hk212 => ?_)
 refine kSW 4 66 [.pointer (some ⟨g,0,none⟩),.slice (some ⟨g162,0,none⟩) 7 7] (some 31) 0 rfl rfl hlo (under_t (under_f rfl under_nil)) (l1PickInt_c_K hBw hap (fun ww hw hf => (rowF_sl (hf _ m3))) hk212 (by simp)) ?_
 rintro ⟨y213,hy213⟩
 exact xe_wkL (kF 2 0 [2,3,27,31,32,33]) (by kernel_rfl) (hD12 (g162,y213,g312))
 refine xe_cut (α := Nat) (fun zz => (fun (g162 : Nat) => (⟨[(2,.p 0 0),(3,.p 1 0),(27,.p 1 2),(29,.v (.pointer (some ⟨g,0,none⟩))),(30,.v (.slice (some ⟨g162,0,none⟩) 7 7)),(32,.v (.pointer (some ⟨g,0,none⟩)))],[⟨30,rcvZ⟩,⟨30,rcvL b1m (.slice b1a b1m.held.length b1c)⟩],[],[curF B g 100 (.slice A code.length cap) code.length,frF w (fun b => b = g),rowF (cutW w B).heap.size 108 2 (.slice b1a b1m.held.length b1c) (b1m.held.map pceCells),rowF (cutW w B).heap.size 3 1 (.slice (some ⟨g162,0,none⟩) 7 7) (([0,1,20,31,32,(-1),9223372036854775807] : List Int).map intRow),slF (.slice A code.length cap) 1 (code.map byteRow)]⟩ : St)) zz) 9 #[true,false,true,true,false,true,false,false,false,false,false,false,false] ?_ (fun hD10 => ?_)
 intro g162
 try dsimp only
 refine kA [1,4,6] ⟨?_,?_,?_⟩
 refine kSV 1 (.v (.slice b1a b1m.held.length b1c)) rfl ?_
 exact xe_wkL (kF 2 0 [2,3,28,29,30,32]) (by kernel_rfl) (hD1 (g162))
 refine xs_know (φ := ¬ (slF (.slice (some ⟨g162,0,none⟩) 7 7) 1 (([0,1,20,31,32,(-1),9223372036854775807] : List Int).map intRow)).blk g) (fun _ _ _ _ hr => fun hb => hr.2.apart 3 0 (rowF (cutW w B).heap.size 3 1 (.slice (some ⟨g162,0,none⟩) 7 7) (([0,1,20,31,32,(-1),9223372036854775807] : List Int).map intRow)) (curF B g 100 (.slice A code.length cap) code.length) rfl rfl (by decide) rfl g (rowF_sblk hb) rfl) (fun hk212 => ?_)
 refine kSW 4 66 [.pointer (some ⟨g,0,none⟩),.slice (some ⟨g162,0,none⟩) 7 7] (some 31) 0 rfl rfl hlo (under_t (under_f rfl under_nil)) (l1PickInt_c_K hBw hap (fun ww hw hf => (rowF_sl (hf _ m3))) hk212 (by simp)) ?_
 rintro ⟨y213,hy213⟩
 exact xe_wkL (kF 2 0 [2,3,27,31,32]) (by kernel_rfl) (hD11 (g162,y213))
 refine kSH 6 rfl (under_t (under_f rfl under_nil)) (hv_build (e := 9) (K := 1) (bytes := 16) [.string (⟨#[]⟩ : ByteArray),.string (⟨#[120]⟩ : ByteArray),.string (⟨#[121,122]⟩ : ByteArray)] rfl (by kernel_rfl) (by kernel_rfl) (by kernel_rfl) (by kernel_rfl) (by kernel_rfl) (rs := ([(⟨#[]⟩ : ByteArray),(⟨#[120]⟩ : ByteArray),(⟨#[121,122]⟩ : ByteArray)] : List ByteArray).map strRow) rfl) ?_
 intro g312
 exact xe_wkL ((wk_pick [1,2,3,4,0,5] [curF B g 100 (.slice A code.length cap) code.length,frF w (fun b => b = g),rowF (cutW w B).heap.size 108 2 (.slice b1a b1m.held.length b1c) (b1m.held.map pceCells),rowF (cutW w B).heap.size 3 1 (.slice (some ⟨g162,0,none⟩) 7 7) (([0,1,20,31,32,(-1),9223372036854775807] : List Int).map intRow),rowF (cutW w B).heap.size 9 1 (.slice (some ⟨g312,0,none⟩) 3 3) (([(⟨#[]⟩ : ByteArray),(⟨#[120]⟩ : ByteArray),(⟨#[121,122]⟩ : ByteArray)] : List ByteArray).map strRow),slF (.slice A code.length cap) 1 (code.map byteRow)] (by kernel_rfl) (by kernel_rfl)).trans <| kF 2 0 [2,3,27,29,30,32,33]) (by kernel_rfl) (hD16 (g162,g312))
 refine xe_cut (α := Nat) (fun zz => (fun (g312 : Nat) => (⟨[(2,.p 0 0),(3,.p 1 0),(27,.p 1 2),(29,.v (.pointer (some ⟨g,0,none⟩))),(32,.v (.pointer (some ⟨g,0,none⟩))),(33,.v (.slice (some ⟨g312,0,none⟩) 3 3))],[⟨30,rcvZ⟩,⟨30,rcvL b1m (.slice b1a b1m.held.length b1c)⟩],[],[curF B g 100 (.slice A code.length cap) code.length,frF w (fun b => b = g),rowF (cutW w B).heap.size 108 2 (.slice b1a b1m.held.length b1c) (b1m.held.map pceCells),rowF (cutW w B).heap.size 9 1 (.slice (some ⟨g312,0,none⟩) 3 3) (([(⟨#[]⟩ : ByteArray),(⟨#[120]⟩ : ByteArray),(⟨#[121,122]⟩ : ByteArray)] : List ByteArray).map strRow),slF (.slice A code.length cap) 1 (code.map byteRow)]⟩ : St)) zz) 9 #[true,false,true,false,false,true,true,false,false,false,false,false,false] ?_ (fun hD17 => ?_)
 intro g312
 try dsimp only
 refine kA [1,3] ⟨?_,?_⟩
 refine kSV 1 (.v (.slice b1a b1m.held.length b1c)) rfl ?_
 exact xe_wkL (kF 2 0 [2,3,28,29,32,33]) (by kernel_rfl) (hD9 (g312))
 refine kSH 3 rfl (under_t (under_f rfl under_nil)) (hv_build (e := 3) (K := 1) (bytes := 8) [.int .i64 0,.int .i64 1,.int .i64 20,.int .i64 31,.int .i64 32,.int .i64 (-1),.int .i64 9223372036854775807] rfl (by kernel_rfl) (by kernel_rfl) (by kernel_rfl) (by kernel_rfl) (by kernel_rfl) (rs := ([0,1,20,31,32,(-1),9223372036854775807] : List Int).map intRow) rfl) ?_
 intro g162
 exact xe_wkL ((wk_pick [1,2,3,0,4,5] [curF B g 100 (.slice A code.length cap) code.length,frF w (fun b => b = g),rowF (cutW w B).heap.size 108 2 (.slice b1a b1m.held.length b1c) (b1m.held.map pceCells),rowF (cutW w B).heap.size 3 1 (.slice (some ⟨g162,0,none⟩) 7 7) (([0,1,20,31,32,(-1),9223372036854775807] : List Int).map intRow),rowF (cutW w B).heap.size 9 1 (.slice (some ⟨g312,0,none⟩) 3 3) (([(⟨#[]⟩ : ByteArray),(⟨#[120]⟩ : ByteArray),(⟨#[121,122]⟩ : ByteArray)] : List ByteArray).map strRow),slF (.slice A code.length cap) 1 (code.map byteRow)] (by kernel_rfl) (by kernel_rfl)).trans <| kF 2 0 [2,3,27,29,30,32,33]) (by kernel_rfl) (hD16 (g162,g312))
 refine kTS [0,2,5] [32,29,27,2,3] 10 [(32,.v (.pointer (some ⟨g,0,none⟩))),(29,.v (.pointer (some ⟨g,0,none⟩))),(27,.p 1 2),(2,.p 0 0),(3,.p 1 0)] ?_
 refine kA [1,3,6] ⟨?_,?_,?_⟩
 refine kSV 1 (.v (.slice b1a b1m.held.length b1c)) rfl ?_
 exact xe_wkL ((wk_pick [0,3,1,2] [curF B g 100 (.slice A code.length cap) code.length,frF w (fun b => b = g),rowF (cutW w B).heap.size 108 2 (.slice b1a b1m.held.length b1c) (b1m.held.map pceCells),slF (.slice A code.length cap) 1 (code.map byteRow)] (by kernel_rfl) (by kernel_rfl)).trans <| kF 2 0 [2,3,28,29,32]) (by kernel_rfl) (hD0 ())
 refine kSH 3 rfl (under_t (under_f rfl under_nil)) (hv_build (e := 3) (K := 1) (bytes := 8) [.int .i64 0,.int .i64 1,.int .i64 20,.int .i64 31,.int .i64 32,.int .i64 (-1),.int .i64 9223372036854775807] rfl (by kernel_rfl) (by kernel_rfl) (by kernel_rfl) (by kernel_rfl) (by kernel_rfl) (rs := ([0,1,20,31,32,(-1),9223372036854775807] : List Int).map intRow) rfl) ?_
 intro g162
 exact xe_wkL ((wk_pick [1,4,2,0,3] [curF B g 100 (.slice A code.length cap) code.length,frF w (fun b => b = g),rowF (cutW w B).heap.size 108 2 (.slice b1a b1m.held.length b1c) (b1m.held.map pceCells),rowF (cutW w B).heap.size 3 1 (.slice (some ⟨g162,0,none⟩) 7 7) (([0,1,20,31,32,(-1),9223372036854775807] : List Int).map intRow),slF (.slice A code.length cap) 1 (code.map byteRow)] (by kernel_rfl) (by kernel_rfl)).trans <| kF 2 0 [2,3,27,29,30,32]) (by kernel_rfl) (hD10 (g162))
 refine kSH 6 rfl (under_t (under_f rfl under_nil)) (hv_build (e := 9) (K := 1) (bytes := 16) [.string (⟨#[]⟩ : ByteArray),.string (⟨#[120]⟩ : ByteArray),.string (⟨#[121,122]⟩ : ByteArray)] rfl (by kernel_rfl) (by kernel_rfl) (by kernel_rfl) (by kernel_rfl) (by kernel_rfl) (rs := ([(⟨#[]⟩ : ByteArray),(⟨#[120]⟩ : ByteArray),(⟨#[121,122]⟩ : ByteArray)] : List ByteArray).map strRow) rfl) ?_
 intro g312
 exact xe_wkL ((wk_pick [1,4,2,0,3] [curF B g 100 (.slice A code.length cap) code.length,frF w (fun b => b = g),rowF (cutW w B).heap.size 108 2 (.slice b1a b1m.held.length b1c) (b1m.held.map pceCells),rowF (cutW w B).heap.size 9 1 (.slice (some ⟨g312,0,none⟩) 3 3) (([(⟨#[]⟩ : ByteArray),(⟨#[120]⟩ : ByteArray),(⟨#[121,122]⟩ : ByteArray)] : List ByteArray).map strRow),slF (.slice A code.length cap) 1 (code.map byteRow)] (by kernel_rfl) (by kernel_rfl)).trans <| kF 2 0 [2,3,27,29,32,33]) (by kernel_rfl) (hD17 (g312))
 have h10p := eqF h10
 refine kQ ?_
 refine kED [0,2,3,39] [(39,.v (.bool (y2 == 4)))] ?_
 refine kC (y2 == 4) (fun h674 => ?_) (fun h674 => ?_)
 have h674p := eqT h674
 refine kG ?_
 refine kWD 1 [2,3,41] [(41,.v (.pointer (some ⟨g,0,none⟩)))] 86 [.pointer (some ⟨g,0,none⟩),.int .i64 3] (some 42) 0 rfl rfl hlo (l1Below_c_K hBw hap) ?_
 rintro ⟨y675,hy675⟩
 obtain ⟨hy6750,hy6751⟩ := hy675
 refine kCS 1 [2,3,43] [(2,.p 0 0),(3,.p 1 0),(43,.v (.int .i64 (IntKind.i64.wrap (31 + y675))))] 65 [.int .i64 (IntKind.i64.wrap (31 + y675))] (some 44) rfl (xc_b fun ww hf => l5Long_c (IntKind.i64.wrap (31 + y675)) ww (by first | omega | (rw [wrap_id (by omega) (by omega)]; omega))) ?_
 intro _
 refine kRF 2 [2,3] ⟨[(2,.p 0 0),(3,.p 1 0)],[⟨30,rcvZ⟩,⟨30,rcvL { b1m with data := bstr (List.replicate ((IntKind.i64.wrap (31 + y675))).toNat 0) } (.slice b1a b1m.held.length b1c)⟩],[],[curF B g 100 (.slice A code.length cap) code.length,rowF (cutW w B).heap.size 108 2 (.slice b1a b1m.held.length b1c) (b1m.held.map pceCells),slF (.slice A code.length cap) 1 (code.map byteRow),frF w (fun b => b = g)]⟩ ?_
 refine xl_eq (st' := ⟨[(2,.p 0 0),(3,.p 1 0)],[⟨30,rcvZ⟩,⟨30,rcvL { b1m with data := bstr (List.replicate ((31 + y675)).toNat 0) } (.slice b1a b1m.held.length b1c)⟩],[],[curF B g 100 (.slice A code.length cap) code.length,rowF (cutW w B).heap.size 108 2 (.slice b1a b1m.held.length b1c) (b1m.held.map pceCells),slF (.slice A code.length cap) 1 (code.map byteRow),frF w (fun b => b = g)]⟩) (by rw [show (IntKind.i64.wrap (31 + y675)) = (31 + y675) from wrap_id (by omega) (by omega)] <;> rfl) ?_
 refine kED [2,3] [] ?_
 exact ⟨⟨({ b1m with data := bstr (List.replicate ((31 + y675)).toNat 0) },b1a,b1c),⟨Nat.le_trans hb1.1 (by decide),hb1.2.1,(by show (bstr _).size ≤ 65; rw [bstr_size,List.length_replicate]; omega)⟩⟩,(wk_pick [1,0,2,3] [rowF (cutW w B).heap.size 108 2 (.slice b1a b1m.held.length b1c) (b1m.held.map pceCells),curF B g 100 (.slice A code.length cap) code.length,slF (.slice A code.length cap) 1 (code.map byteRow),frF w (fun b => b = g)] (by kernel_rfl) (by kernel_rfl)).trans <| kF 2 0 [2,3]⟩
 have h674p := eqF h674
 refine kK ?_
 exact ⟨⟨(b1m,b1a,b1c),⟨Nat.le_trans hb1.1 (by decide),hb1.2.1,hb1.2.2⟩⟩,(wk_pick [1,0,2,3] [rowF (cutW w B).heap.size 108 2 (.slice b1a b1m.held.length b1c) (b1m.held.map pceCells),curF B g 100 (.slice A code.length cap) code.length,slF (.slice A code.length cap) 1 (code.map byteRow),frF w (fun b => b = g)] (by kernel_rfl) (by kernel_rfl)).trans <| kF 2 0 [2,3]⟩
 rintro ⟨⟨q,A3,c3⟩,hq⟩
 try dsimp only
 try dsimp only at hq
 refine kQ ?_
 refine kEU [2] [(2,.p 0 0)] 0 ⟨30,rcvL q (.slice A3 q.held.length c3)⟩ ?_
 refine kR ?_
 exact ⟨[.agg (rcvL q (.slice A3 q.held.length c3)).toArray],by kernel_rfl,fun w' hb hf ha => ⟨⟨(q,A3,c3),hq⟩,rfl,hf (curF B g 100 (.slice A code.length cap) code.length) (by simp),rowF_raise (hf (rowF (cutW w B).heap.size 108 2 (.slice A3 q.held.length c3) (q.held.map pceCells)) (by simp)) (own_new ha (i := 0) (j := 1) (k := 3) rfl rfl rfl rfl (by decide) (by decide)),hgl,frF_chgd (hf (frF w (fun b => b = g)) (by simp)) hb rfl rfl rfl⟩⟩
theorem l17Sender_c (g : Nat) (code : List Int) (A : Option Addr) (cap : Nat)  (w : World) (B : Nat) (hB : B ≤ w.heap.size) (hc : (curF B g 100 (.slice A code.length cap) code.length).p w) (hl : Sl w (.slice A code.length cap) 1 (code.map byteRow)) (hap : ¬ (slF (.slice A code.length cap) 1 (code.map byteRow)).blk g) (hn : code.length ≤ 1048576)  : Calls Tryz.prog 129 #[.pointer (some ⟨g, 0, none⟩)] w fun e w' => ∃ y : {y : Snd // True}, e = .returned (.agg (sndL y.1).toArray) ∧ (curF B g 100 (.slice A code.length cap) code.length).p w' ∧ Chgd (fun b => b = g) w w' := by
 have hq_code := Sl.capLe hl
 have hBw : B ≤ (cutW w B).heap.size := Nat.le_of_eq (cutW_size hB).symm
 have hlo : ∀ (ww : World) (b : Nat),(curF B g 100 (.slice A code.length cap) code.length).p ww → (curF B g 100 (.slice A code.length cap) code.length).blk b → (cutW w B).heap.size ≤ b := fun ww b h hb => Nat.le_trans (cutW_le w B) (cur_lo h hb)
 refine x_callsM (args := [.pointer (some ⟨g,0,none⟩)]) (fn := Tryz.f129) [curF B g 100 (.slice A code.length cap) code.length,slF (.slice A code.length cap) 1 (code.map byteRow),frF w (fun b => b = g)] B Tryz.func129 rfl Tryz.ntmps129 rfl hB (by simp only [List.mem_cons,List.not_mem_nil,or_false,forall_eq_or_imp,forall_eq]; exact ⟨hc,hl,frF_start w _⟩) (apart_cur hap rfl) ?_
 refine kQ ?_
 refine kEF [0,2] ⟨[(0,.v (.pointer (some ⟨g,0,none⟩))),(2,.p 0 0)],[⟨27,sndZ⟩],[],[curF B g 100 (.slice A code.length cap) code.length,slF (.slice A code.length cap) 1 (code.map byteRow),frF w (fun b => b = g)]⟩ ?_
 refine kQ ?_
 refine kWD 1 [0,2,8] [(8,.v (.pointer (some ⟨g,0,none⟩)))] 126 [.pointer (some ⟨g,0,none⟩)] (some 9) 0 rfl rfl hlo (l2Deep_c_K hBw hap) ?_
 rintro ⟨y1,hy1⟩
 refine kOD 0 [0,2,9] [] (.agg #[.int .i64 y1,.string (⟨#[]⟩ : ByteArray),.int .i64 0,.bool false,.bool false,.bool false]) rfl (fun _ _ _ ww hr => act_build [(0,.int .i64 y1)] hr.1 rfl (by kernel_rfl) (by kernel_rfl) ww) ?_
 refine kEA [0,2,3] [(3,.p 1 0)] [⟨27,[.int .i64 y1,.string (⟨#[]⟩ : ByteArray),.int .i64 0,.bool false,.bool false,.bool false]⟩] ?_
 refine kQ ?_
 refine kWD 1 [0,2,3,11] [(11,.v (.pointer (some ⟨g,0,none⟩)))] 86 [.pointer (some ⟨g,0,none⟩),.int .i64 6] (some 12) 0 rfl rfl hlo (l1Below_c_K hBw hap) ?_
 rintro ⟨y2,hy2⟩
 obtain ⟨hy20,hy21⟩ := hy2
 refine kED [0,2,3,4] [(4,.v (.int .i64 y2))] ?_
 refine kS ?_
 refine kQ ?_
 refine kED [0,2,3,4,5] [(5,.v (.int .i64 0))] ?_
 refine xw_block ?_
 refine xw_loopW (α := {x : Nat × Snd // (fun (i : Nat) (s : Snd) => (i : Int) ≤ y2) x.1 x.2}) (fun x => (fun (i : Nat) (s : Snd) => (⟨[(0,.v (.pointer (some ⟨g,0,none⟩))),(2,.p 0 0),(3,.p 1 0),(4,.v (.int .i64 y2)),(5,.v (.int .i64 (i : Int)))],[⟨27,sndZ⟩,⟨27,sndL s⟩],[],[curF B g 100 (.slice A code.length cap) code.length,slF (.slice A code.length cap) 1 (code.map byteRow),frF w (fun b => b = g)]⟩ : St)) x.1.1 x.1.2) (fun x => (fun (i : Nat) (s : Snd) => (y2).toNat - i) x.1.1 x.1.2) ⟨(0,⟨y1,(⟨#[]⟩ : ByteArray),0,false,false,false⟩),(by omega)⟩ (kF 2 0 [0,2,3,4,5]) ?_
 rintro ⟨⟨i,s⟩,hi⟩
 try dsimp only
 try dsimp only at hi
 refine kS ?_
 refine kQ ?_
 refine kED [0,2,3,4,5,15] [(15,.v (.bool (decide ((i : Int) < y2))))] ?_
 refine kC (decide ((i : Int) < y2)) (fun h3 => ?_) (fun h3 => ?_)
 have h3p := of_decide_eq_true h3
 have hlt :  (i : Int) < y2 := of_decide_eq_true h3
 refine kK ?_
 refine kS ?_
 refine xw_joinF (α := {zz : Snd // (fun (s2 : Snd) => True) zz}) (fun zz => (fun (s2 : Snd) => (⟨[(0,.v (.pointer (some ⟨g,0,none⟩))),(2,.p 0 0),(3,.p 1 0),(4,.v (.int .i64 y2)),(5,.v (.int .i64 (i : Int)))],[⟨27,sndZ⟩,⟨27,sndL s2⟩],[],[curF B g 100 (.slice A code.length cap) code.length,slF (.slice A code.length cap) 1 (code.map byteRow),frF w (fun b => b = g)]⟩ : St)) zz.1) ?_ ?_
 refine xw_block ?_
 refine kQ ?_
 refine kWD 1 [0,2,3,4,5,18] [(18,.v (.pointer (some ⟨g,0,none⟩)))] 86 [.pointer (some ⟨g,0,none⟩),.int .i64 4] (some 19) 0 rfl rfl hlo (l1Below_c_K hBw hap) ?_
 rintro ⟨y4,hy4⟩
 obtain ⟨hy40,hy41⟩ := hy4
 refine kED [0,2,3,4,5,19] [] ?_
 refine xw_block ?_
 refine kQ ?_
 refine kED [0,2,3,4,5,19,27] [(27,.v (.bool (y4 == 0)))] ?_
 refine kC (y4 == 0) (fun h5 => ?_) (fun h5 => ?_)
 have h5p := eqT h5
 refine xe_region0 [true,false] (by kernel_rfl) (fun ρ σ => ?_)
 refine kTS [1,2] [32,31,0,2,3,4,5] 9 [(32,.v (.pointer (some ⟨g,0,none⟩))),(31,.v (.pointer (some ⟨g,0,none⟩))),(0,.v (.pointer (some ⟨g,0,none⟩))),(2,.p 0 0),(3,.p 1 0),(4,.v (.int .i64 y2)),(5,.v (.int .i64 (i : Int)))] ?_
 refine kA [0,3] ⟨?_,?_⟩
 refine kSV 0 (.v (.agg (sndL s).toArray)) rfl ?_
 refine kA [3] ?_
 refine kSW 3 86 [.pointer (some ⟨g,0,none⟩),.int .i64 20] (some 33) 0 rfl rfl hlo (under_t (under_f rfl under_nil)) (l1Below_c_K hBw hap) ?_
 rintro ⟨y6,hy6⟩
 obtain ⟨hy60,hy61⟩ := hy6
 refine kA [4] ?_
 refine kSW 4 85 [.pointer (some ⟨g,0,none⟩),.int .i64 y6] (some 34) 0 rfl rfl hlo (under_t (under_f rfl under_nil)) (xcm_curR fun ww hw hf => l1Bytes_c g code A cap y6 ww B (Nat.le_trans (by first | exact Nat.le_refl _ | exact Nat.le_of_eq (cutW_size hB).symm) hw) (hf (curF B g 100 (.slice A code.length cap) code.length) (by simp)) (hf _ m1) hap (by omega) (by omega)) ?_
 rintro ⟨⟨b7l,b7a,b7c⟩,hb7⟩
 dsimp only at hb7
 refine kA [5] ?_
 refine kSR 5 (.string (bstr b7l)) rfl (fun _ _ ww hr => act_b2s (e := 5) b7l hr.1 rfl (by kernel_rfl) (by kernel_rfl) (by kernel_rfl) rfl (rowF_sl (hr.2.fact (rowF (cutW w B).heap.size 5 1 (.slice b7a b7l.length b7c) (b7l.map byteRow)) (by simp)).1)) ?_
 refine kA [6] ?_
 refine kSC 6 87 [.agg (sndL s).toArray,.string (bstr b7l)] (some 36) rfl (xc_b fun ww hf => ysQueued_c s (bstr b7l) ww  (by first | omega | (rw [bstr_size]; omega))) ?_
 intro _
 refine kTD [7,8,9] [37,0,2,3,4,5] 1 [(37,.v (.agg (sndL (queued s (bstr b7l)).1).toArray))] ?_
 refine kA [10] ?_
 refine kSS 10 1 0 (sndL (queued s (bstr b7l)).1) rfl ?_
 refine kZ ?_
 exact ⟨⟨((queued s (bstr b7l)).1),⟨⟩⟩,(wk_pick [1,2,3] [curF B g 100 (.slice A code.length cap) code.length,slF (.slice A code.length cap) 1 (code.map byteRow),frF w (fun b => b = g)] (by kernel_rfl) (by kernel_rfl)).trans <| kF 2 0 [0,2,3,4,5]⟩
 refine kSW 3 86 [.pointer (some ⟨g,0,none⟩),.int .i64 20] (some 33) 0 rfl rfl hlo (under_t (under_f rfl under_nil)) (l1Below_c_K hBw hap) ?_
 rintro ⟨y8,hy8⟩
 obtain ⟨hy80,hy81⟩ := hy8
 refine kA [0,4] ⟨?_,?_⟩
 refine kSV 0 (.v (.agg (sndL s).toArray)) rfl ?_
 refine kA [4] ?_
 refine kSW 4 85 [.pointer (some ⟨g,0,none⟩),.int .i64 y8] (some 34) 0 rfl rfl hlo (under_t (under_f rfl under_nil)) (xcm_curR fun ww hw hf => l1Bytes_c g code A cap y8 ww B (Nat.le_trans (by first | exact Nat.le_refl _ | exact Nat.le_of_eq (cutW_size hB).symm) hw) (hf (curF B g 100 (.slice A code.length cap) code.length) (by simp)) (hf _ m1) hap (by omega) (by omega)) ?_
 rintro ⟨⟨b9l,b9a,b9c⟩,hb9⟩
 dsimp only at hb9
 refine kA [5] ?_
 refine kSR 5 (.string (bstr b9l)) rfl (fun _ _ ww hr => act_b2s (e := 5) b9l hr.1 rfl (by kernel_rfl) (by kernel_rfl) (by kernel_rfl) rfl (rowF_sl (hr.2.fact (rowF (cutW w B).heap.size 5 1 (.slice b9a b9l.length b9c) (b9l.map byteRow)) (by simp)).1)) ?_
 refine kA [6] ?_
 refine kSC 6 87 [.agg (sndL s).toArray,.string (bstr b9l)] (some 36) rfl (xc_b fun ww hf => ysQueued_c s (bstr b9l) ww  (by first | omega | (rw [bstr_size]; omega))) ?_
 intro _
 refine kTD [7,8,9] [37,0,2,3,4,5] 1 [(37,.v (.agg (sndL (queued s (bstr b9l)).1).toArray))] ?_
 refine kA [10] ?_
 refine kSS 10 1 0 (sndL (queued s (bstr b9l)).1) rfl ?_
 refine kZ ?_
 exact ⟨⟨((queued s (bstr b9l)).1),⟨⟩⟩,(wk_pick [1,2,3] [curF B g 100 (.slice A code.length cap) code.length,slF (.slice A code.length cap) 1 (code.map byteRow),frF w (fun b => b = g)] (by kernel_rfl) (by kernel_rfl)).trans <| kF 2 0 [0,2,3,4,5]⟩
 refine kSW 4 85 [.pointer (some ⟨g,0,none⟩),.int .i64 y8] (some 34) 0 rfl rfl hlo (under_t (under_f rfl under_nil)) (xcm_curR fun ww hw hf => l1Bytes_c g code A cap y8 ww B (Nat.le_trans (by first | exact Nat.le_refl _ | exact Nat.le_of_eq (cutW_size hB).symm) hw) (hf (curF B g 100 (.slice A code.length cap) code.length) (by simp)) (hf _ m1) hap (by omega) (by omega)) ?_
 rintro ⟨⟨b10l,b10a,b10c⟩,hb10⟩
 dsimp only at hb10
 refine kA [0,5] ⟨?_,?_⟩
 refine kSV 0 (.v (.agg (sndL s).toArray)) rfl ?_
 refine kA [5] ?_
 refine kSR 5 (.string (bstr b10l)) rfl (fun _ _ ww hr => act_b2s (e := 5) b10l hr.1 rfl (by kernel_rfl) (by kernel_rfl) (by kernel_rfl) rfl (rowF_sl (hr.2.fact (rowF (cutW w B).heap.size 5 1 (.slice b10a b10l.length b10c) (b10l.map byteRow)) (by simp)).1)) ?_
 refine kA [6] ?_
 refine kSC 6 87 [.agg (sndL s).toArray,.string (bstr b10l)] (some 36) rfl (xc_b fun ww hf => ysQueued_c s (bstr b10l) ww  (by first | omega | (rw [bstr_size]; omega))) ?_
 intro _
 refine kTD [7,8,9] [37,0,2,3,4,5] 1 [(37,.v (.agg (sndL (queued s (bstr b10l)).1).toArray))] ?_
 refine kA [10] ?_
 refine kSS 10 1 0 (sndL (queued s (bstr b10l)).1) rfl ?_
 refine kZ ?_
 exact ⟨⟨((queued s (bstr b10l)).1),⟨⟩⟩,(wk_pick [1,2,3] [curF B g 100 (.slice A code.length cap) code.length,slF (.slice A code.length cap) 1 (code.map byteRow),frF w (fun b => b = g)] (by kernel_rfl) (by kernel_rfl)).trans <| kF 2 0 [0,2,3,4,5]⟩
 refine kSR 5 (.string (bstr b10l)) rfl (fun _ _ ww hr => act_b2s (e := 5) b10l hr.1 rfl (by kernel_rfl) (by kernel_rfl) (by kernel_rfl) rfl (rowF_sl (hr.2.fact (rowF (cutW w B).heap.size 5 1 (.slice b10a b10l.length b10c) (b10l.map byteRow)) (by simp)).1)) ?_
 refine kA [0] ?_
 refine kSV 0 (.v (.agg (sndL s).toArray)) rfl ?_
 refine kA [6] ?_
 refine kSC 6 87 [.agg (sndL s).toArray,.string (bstr b10l)] (some 36) rfl (xc_b fun ww hf => ysQueued_c s (bstr b10l) ww  (by first | omega | (rw [bstr_size]; omega))) ?_
 intro _
 refine kTD [7,8,9] [37,0,2,3,4,5] 1 [(37,.v (.agg (sndL (queued s (bstr b10l)).1).toArray))] ?_
 refine kA [10] ?_
 refine kSS 10 1 0 (sndL (queued s (bstr b10l)).1) rfl ?_
 refine kZ ?_
 exact ⟨⟨((queued s (bstr b10l)).1),⟨⟩⟩,(wk_pick [1,2,3] [curF B g 100 (.slice A code.length cap) code.length,slF (.slice A code.length cap) 1 (code.map byteRow),frF w (fun b => b = g)] (by kernel_rfl) (by kernel_rfl)).trans <| kF 2 0 [0,2,3,4,5]⟩
 have h5p := eqF h5
 refine kQ ?_
 refine kES [0,2,3,4,5,19,39] [(0,.v (.pointer (some ⟨g,0,none⟩))),(2,.p 0 0),(3,.p 1 0),(4,.v (.int .i64 y2)),(5,.v (.int .i64 (i : Int))),(19,.v (.int .i64 y4)),(39,.v (.bool (y4 == 1)))] ?_
 refine kC (y4 == 1) (fun h11 => ?_) (fun h11 => ?_)
 have h11p := eqT h11
 refine kS ?_
 refine xe_region0 [] (by kernel_rfl) (fun ρ σ => ?_)
 refine kTD [0,1,4] [46,43,42,0,2,3,4,5] 11 [(46,.v (.pointer (some ⟨g,0,none⟩))),(43,.v (.pointer (some ⟨g,0,none⟩))),(42,.v (.agg (sndL s).toArray))] ?_
 refine kA [2,11] ⟨?_,?_⟩
 refine kSW 2 86 [.pointer (some ⟨g,0,none⟩),.int .i64 40] (some 44) 0 rfl rfl hlo (under_t (under_t under_nil)) (l1Below_c_K hBw hap) ?_
 rintro ⟨y12,hy12⟩
 obtain ⟨hy120,hy121⟩ := hy12
 refine kTD [3] [45,46,42,0,2,3,4,5] 9 [(45,.v (.int .i64 (IntKind.i64.wrap (1 + y12))))] ?_
 refine kA [5,11] ⟨?_,?_⟩
 refine kSW 5 86 [.pointer (some ⟨g,0,none⟩),.int .i64 16] (some 47) 0 rfl rfl hlo (under_t (under_t under_nil)) (l1Below_c_K hBw hap) ?_
 rintro ⟨y13,hy13⟩
 obtain ⟨hy130,hy131⟩ := hy13
 refine kTD [6] [48,45,42,0,2,3,4,5] 7 [(48,.v (.int .i64 (IntKind.i64.wrap (1 + y13))))] ?_
 refine kA [7,11] ⟨?_,?_⟩
 refine kSC 7 91 [.agg (sndL s).toArray,.int .i64 (IntKind.i64.wrap (1 + y12)),.int .i64 (IntKind.i64.wrap (1 + y13))] (some 49) rfl (xc_b fun ww hf => ysNextChunk_c s (IntKind.i64.wrap (1 + y12)) (IntKind.i64.wrap (1 + y13)) ww  (by first | omega | (rw [wrap_id (by omega) (by omega)]; omega))) ?_
 intro _
 refine kTD [8,9,10] [51,50,0,2,3,4,5] 3 [(51,.v (.bool ((nextChunk s (IntKind.i64.wrap (1 + y12)) (IntKind.i64.wrap (1 + y13))).2))),(50,.v (.agg (chkL (nextChunk s (IntKind.i64.wrap (1 + y12)) (IntKind.i64.wrap (1 + y13))).1).toArray))] ?_
 refine kA [11] ?_
 refine xs_box 11 ⟨89,chkL (⟨0,(⟨#[]⟩ : ByteArray),false⟩ : Chk)⟩ _ rfl (by kernel_rfl) (by kernel_rfl) (by kernel_rfl) (by kernel_rfl) rfl ?_
 refine kA [12] ?_
 refine kSS 12 2 0 (chkL (nextChunk s (IntKind.i64.wrap (1 + y12)) (IntKind.i64.wrap (1 + y13))).1) rfl ?_
 refine kTD [13] [7,6,0,2,3,4,5] 0 [(7,.v (.bool ((nextChunk s (IntKind.i64.wrap (1 + y12)) (IntKind.i64.wrap (1 + y13))).2)))] ?_
 refine kZ ?_
 refine kQ ?_
 refine kED [0,2,3,4,5,6,52] [(52,.v (.bool ((nextChunk s (IntKind.i64.wrap (1 + y12)) (IntKind.i64.wrap (1 + y13))).2)))] ?_
 refine kC ((nextChunk s (IntKind.i64.wrap (1 + y12)) (IntKind.i64.wrap (1 + y13))).2) (fun h14 => ?_) (fun h14 => ?_)
 refine kG ?_
 refine kCD 2 [0,2,3,4,5,53,54] [(53,.v (.agg (sndL s).toArray)),(54,.v (.agg (chkL (nextChunk s (IntKind.i64.wrap (1 + y12)) (IntKind.i64.wrap (1 + y13))).1).toArray))] 93 [.agg (sndL s).toArray,.agg (chkL (nextChunk s (IntKind.i64.wrap (1 + y12)) (IntKind.i64.wrap (1 + y13))).1).toArray] (some 55) rfl (xc_b fun ww hf => ysSentOff_c s ((nextChunk s (IntKind.i64.wrap (1 + y12)) (IntKind.i64.wrap (1 + y13))).1) ww  ) ?_
 intro _
 refine kEU [0,2,3,4,5] [] 1 ⟨27,sndL (sentOff s ((nextChunk s (IntKind.i64.wrap (1 + y12)) (IntKind.i64.wrap (1 + y13))).1))⟩ ?_
 exact ⟨⟨((sentOff s ((nextChunk s (IntKind.i64.wrap (1 + y12)) (IntKind.i64.wrap (1 + y13))).1))),⟨⟩⟩,kF 2 0 [0,2,3,4,5]⟩
 refine kK ?_
 exact ⟨⟨(s),⟨⟩⟩,kF 2 0 [0,2,3,4,5]⟩
 refine xs_box 11 ⟨89,chkL (⟨0,(⟨#[]⟩ : ByteArray),false⟩ : Chk)⟩ _ rfl (by kernel_rfl) (by kernel_rfl) (by kernel_rfl) (by kernel_rfl) rfl ?_
 refine kA [7] ?_
 refine kSC 7 91 [.agg (sndL s).toArray,.int .i64 (IntKind.i64.wrap (1 + y12)),.int .i64 (IntKind.i64.wrap (1 + y13))] (some 49) rfl (xc_b fun ww hf => ysNextChunk_c s (IntKind.i64.wrap (1 + y12)) (IntKind.i64.wrap (1 + y13)) ww  (by first | omega | (rw [wrap_id (by omega) (by omega)]; omega))) ?_
 intro _
 refine kTD [8,9,10] [51,50,6,0,2,3,4,5] 2 [(51,.v (.bool ((nextChunk s (IntKind.i64.wrap (1 + y12)) (IntKind.i64.wrap (1 + y13))).2))),(50,.v (.agg (chkL (nextChunk s (IntKind.i64.wrap (1 + y12)) (IntKind.i64.wrap (1 + y13))).1).toArray))] ?_
 refine kA [12] ?_
 refine kSS 12 2 0 (chkL (nextChunk s (IntKind.i64.wrap (1 + y12)) (IntKind.i64.wrap (1 + y13))).1) rfl ?_
 refine kTD [13] [7,6,0,2,3,4,5] 0 [(7,.v (.bool ((nextChunk s (IntKind.i64.wrap (1 + y12)) (IntKind.i64.wrap (1 + y13))).2)))] ?_
 refine kZ ?_
 refine kQ ?_
 refine kED [0,2,3,4,5,6,52] [(52,.v (.bool ((nextChunk s (IntKind.i64.wrap (1 + y12)) (IntKind.i64.wrap (1 + y13))).2)))] ?_
 refine kC ((nextChunk s (IntKind.i64.wrap (1 + y12)) (IntKind.i64.wrap (1 + y13))).2) (fun h15 => ?_) (fun h15 => ?_)
 refine kG ?_
 refine kCD 2 [0,2,3,4,5,53,54] [(53,.v (.agg (sndL s).toArray)),(54,.v (.agg (chkL (nextChunk s (IntKind.i64.wrap (1 + y12)) (IntKind.i64.wrap (1 + y13))).1).toArray))] 93 [.agg (sndL s).toArray,.agg (chkL (nextChunk s (IntKind.i64.wrap (1 + y12)) (IntKind.i64.wrap (1 + y13))).1).toArray] (some 55) rfl (xc_b fun ww hf => ysSentOff_c s ((nextChunk s (IntKind.i64.wrap (1 + y12)) (IntKind.i64.wrap (1 + y13))).1) ww  ) ?_
 intro _
 refine kEU [0,2,3,4,5] [] 1 ⟨27,sndL (sentOff s ((nextChunk s (IntKind.i64.wrap (1 + y12)) (IntKind.i64.wrap (1 + y13))).1))⟩ ?_
 exact ⟨⟨((sentOff s ((nextChunk s (IntKind.i64.wrap (1 + y12)) (IntKind.i64.wrap (1 + y13))).1))),⟨⟩⟩,kF 2 0 [0,2,3,4,5]⟩
 refine kK ?_
 exact ⟨⟨(s),⟨⟩⟩,kF 2 0 [0,2,3,4,5]⟩
 refine xs_box 11 ⟨89,chkL (⟨0,(⟨#[]⟩ : ByteArray),false⟩ : Chk)⟩ _ rfl (by kernel_rfl) (by kernel_rfl) (by kernel_rfl) (by kernel_rfl) rfl ?_
 refine kA [5] ?_
 refine kSW 5 86 [.pointer (some ⟨g,0,none⟩),.int .i64 16] (some 47) 0 rfl rfl hlo (under_t (under_t under_nil)) (l1Below_c_K hBw hap) ?_
 rintro ⟨y16,hy16⟩
 obtain ⟨hy160,hy161⟩ := hy16
 refine kTD [6] [48,6,45,42,0,2,3,4,5] 6 [(48,.v (.int .i64 (IntKind.i64.wrap (1 + y16))))] ?_
 refine kA [7] ?_
 refine kSC 7 91 [.agg (sndL s).toArray,.int .i64 (IntKind.i64.wrap (1 + y12)),.int .i64 (IntKind.i64.wrap (1 + y16))] (some 49) rfl (xc_b fun ww hf => ysNextChunk_c s (IntKind.i64.wrap (1 + y12)) (IntKind.i64.wrap (1 + y16)) ww  (by first | omega | (rw [wrap_id (by omega) (by omega)]; omega))) ?_
 intro _
 refine kTD [8,9,10] [51,50,6,0,2,3,4,5] 2 [(51,.v (.bool ((nextChunk s (IntKind.i64.wrap (1 + y12)) (IntKind.i64.wrap (1 + y16))).2))),(50,.v (.agg (chkL (nextChunk s (IntKind.i64.wrap (1 + y12)) (IntKind.i64.wrap (1 + y16))).1).toArray))] ?_
 refine kA [12] ?_
 refine kSS 12 2 0 (chkL (nextChunk s (IntKind.i64.wrap (1 + y12)) (IntKind.i64.wrap (1 + y16))).1) rfl ?_
 refine kTD [13] [7,6,0,2,3,4,5] 0 [(7,.v (.bool ((nextChunk s (IntKind.i64.wrap (1 + y12)) (IntKind.i64.wrap (1 + y16))).2)))] ?_
 refine kZ ?_
 refine kQ ?_
 refine kED [0,2,3,4,5,6,52] [(52,.v (.bool ((nextChunk s (IntKind.i64.wrap (1 + y12)) (IntKind.i64.wrap (1 + y16))).2)))] ?_
 refine kC ((nextChunk s (IntKind.i64.wrap (1 + y12)) (IntKind.i64.wrap (1 + y16))).2) (fun h17 => ?_) (fun h17 => ?_)
 refine kG ?_
 refine kCD 2 [0,2,3,4,5,53,54] [(53,.v (.agg (sndL s).toArray)),(54,.v (.agg (chkL (nextChunk s (IntKind.i64.wrap (1 + y12)) (IntKind.i64.wrap (1 + y16))).1).toArray))] 93 [.agg (sndL s).toArray,.agg (chkL (nextChunk s (IntKind.i64.wrap (1 + y12)) (IntKind.i64.wrap (1 + y16))).1).toArray] (some 55) rfl (xc_b fun ww hf => ysSentOff_c s ((nextChunk s (IntKind.i64.wrap (1 + y12)) (IntKind.i64.wrap (1 + y16))).1) ww  ) ?_
 intro _
 refine kEU [0,2,3,4,5] [] 1 ⟨27,sndL (sentOff s ((nextChunk s (IntKind.i64.wrap (1 + y12)) (IntKind.i64.wrap (1 + y16))).1))⟩ ?_
 exact ⟨⟨((sentOff s ((nextChunk s (IntKind.i64.wrap (1 + y12)) (IntKind.i64.wrap (1 + y16))).1))),⟨⟩⟩,kF 2 0 [0,2,3,4,5]⟩
 refine kK ?_
 exact ⟨⟨(s),⟨⟩⟩,kF 2 0 [0,2,3,4,5]⟩
 refine xs_box 11 ⟨89,chkL (⟨0,(⟨#[]⟩ : ByteArray),false⟩ : Chk)⟩ _ rfl (by kernel_rfl) (by kernel_rfl) (by kernel_rfl) (by kernel_rfl) rfl ?_
 refine kA [2] ?_
 refine kSW 2 86 [.pointer (some ⟨g,0,none⟩),.int .i64 40] (some 44) 0 rfl rfl hlo (under_t (under_t under_nil)) (l1Below_c_K hBw hap) ?_
 rintro ⟨y18,hy18⟩
 obtain ⟨hy180,hy181⟩ := hy18
 refine kTD [3] [45,6,46,42,0,2,3,4,5] 8 [(45,.v (.int .i64 (IntKind.i64.wrap (1 + y18))))] ?_
 refine kA [5] ?_
 refine kSW 5 86 [.pointer (some ⟨g,0,none⟩),.int .i64 16] (some 47) 0 rfl rfl hlo (under_t (under_t under_nil)) (l1Below_c_K hBw hap) ?_
 rintro ⟨y19,hy19⟩
 obtain ⟨hy190,hy191⟩ := hy19
 refine kTD [6] [48,45,6,42,0,2,3,4,5] 6 [(48,.v (.int .i64 (IntKind.i64.wrap (1 + y19))))] ?_
 refine kA [7] ?_
 refine kSC 7 91 [.agg (sndL s).toArray,.int .i64 (IntKind.i64.wrap (1 + y18)),.int .i64 (IntKind.i64.wrap (1 + y19))] (some 49) rfl (xc_b fun ww hf => ysNextChunk_c s (IntKind.i64.wrap (1 + y18)) (IntKind.i64.wrap (1 + y19)) ww  (by first | omega | (rw [wrap_id (by omega) (by omega)]; omega))) ?_
 intro _
 refine kTD [8,9,10] [51,50,6,0,2,3,4,5] 2 [(51,.v (.bool ((nextChunk s (IntKind.i64.wrap (1 + y18)) (IntKind.i64.wrap (1 + y19))).2))),(50,.v (.agg (chkL (nextChunk s (IntKind.i64.wrap (1 + y18)) (IntKind.i64.wrap (1 + y19))).1).toArray))] ?_
 refine kA [12] ?_
 refine kSS 12 2 0 (chkL (nextChunk s (IntKind.i64.wrap (1 + y18)) (IntKind.i64.wrap (1 + y19))).1) rfl ?_
 refine kTD [13] [7,6,0,2,3,4,5] 0 [(7,.v (.bool ((nextChunk s (IntKind.i64.wrap (1 + y18)) (IntKind.i64.wrap (1 + y19))).2)))] ?_
 refine kZ ?_
 refine kQ ?_
 refine kED [0,2,3,4,5,6,52] [(52,.v (.bool ((nextChunk s (IntKind.i64.wrap (1 + y18)) (IntKind.i64.wrap (1 + y19))).2)))] ?_
 refine kC ((nextChunk s (IntKind.i64.wrap (1 + y18)) (IntKind.i64.wrap (1 + y19))).2) (fun h20 => ?_) (fun h20 => ?_)
 refine kG ?_
 refine kCD 2 [0,2,3,4,5,53,54] [(53,.v (.agg (sndL s).toArray)),(54,.v (.agg (chkL (nextChunk s (IntKind.i64.wrap (1 + y18)) (IntKind.i64.wrap (1 + y19))).1).toArray))] 93 [.agg (sndL s).toArray,.agg (chkL (nextChunk s (IntKind.i64.wrap (1 + y18)) (IntKind.i64.wrap (1 + y19))).1).toArray] (some 55) rfl (xc_b fun ww hf => ysSentOff_c s ((nextChunk s (IntKind.i64.wrap (1 + y18)) (IntKind.i64.wrap (1 + y19))).1) ww  ) ?_
 intro _
 refine kEU [0,2,3,4,5] [] 1 ⟨27,sndL (sentOff s ((nextChunk s (IntKind.i64.wrap (1 + y18)) (IntKind.i64.wrap (1 + y19))).1))⟩ ?_
 exact ⟨⟨((sentOff s ((nextChunk s (IntKind.i64.wrap (1 + y18)) (IntKind.i64.wrap (1 + y19))).1))),⟨⟩⟩,kF 2 0 [0,2,3,4,5]⟩
 refine kK ?_
 exact ⟨⟨(s),⟨⟩⟩,kF 2 0 [0,2,3,4,5]⟩
 have h11p := eqF h11
 refine kQ ?_
 refine kED [0,2,3,4,5,56] [(56,.v (.bool (y4 == 2)))] ?_
 refine kC (y4 == 2) (fun h21 => ?_) (fun h21 => ?_)
 have h21p := eqT h21
 refine xe_region0 [true,false] (by kernel_rfl) (fun ρ σ => ?_)
 refine xe_cut (α := {zz : Int // (fun (y373 : Int) => 0 ≤ y373 ∧ (0 < (IntKind.i64.wrap ((flown s) + 1)) → y373 < (IntKind.i64.wrap ((flown s) + 1)))) zz}) (fun zz => (fun (y373 : Int) => (⟨[(0,.v (.pointer (some ⟨g,0,none⟩))),(2,.p 0 0),(3,.p 1 0),(4,.v (.int .i64 y2)),(5,.v (.int .i64 (i : Int)))],[⟨27,sndZ⟩,⟨27,sndL (acked s (seqAdd s.una y373)).1⟩],[],[curF B g 100 (.slice A code.length cap) code.length,frF w (fun b => b = g),slF (.slice A code.length cap) 1 (code.map byteRow)]⟩ : St)) zz.1) 0 #[true,true,true,true,true,true,true,true,true,true,true,true,true,true] ?_ (fun hD7 => ?_)
 rintro ⟨y373,hy373⟩
 try dsimp only
 try dsimp only at hy373
 obtain ⟨hy3730,hy3731⟩ := hy373
 refine kZ ?_
 exact ⟨⟨((acked s (seqAdd s.una y373)).1),⟨⟩⟩,(wk_pick [0,2,1] [curF B g 100 (.slice A code.length cap) code.length,slF (.slice A code.length cap) 1 (code.map byteRow),frF w (fun b => b = g)] (by kernel_rfl) (by kernel_rfl)).trans <| kF 2 0 [0,2,3,4,5]⟩
 refine xe_cut (α := {zz : Int // (fun (y373 : Int) => 0 ≤ y373 ∧ (0 < (IntKind.i64.wrap ((flown s) + 1)) → y373 < (IntKind.i64.wrap ((flown s) + 1)))) zz}) (fun zz => (fun (y373 : Int) => (⟨[(0,.v (.pointer (some ⟨g,0,none⟩))),(2,.p 0 0),(3,.p 1 0),(4,.v (.int .i64 y2)),(5,.v (.int .i64 (i : Int))),(68,.v (.tuple #[.agg (sndL (acked s (seqAdd s.una y373)).1).toArray,.bool ((acked s (seqAdd s.una y373)).2)]))],[⟨27,sndZ⟩,⟨27,sndL s⟩],[],[curF B g 100 (.slice A code.length cap) code.length,frF w (fun b => b = g),slF (.slice A code.length cap) 1 (code.map byteRow)]⟩ : St)) zz.1) 4 #[true,true,true,true,true,true,true,true,true,true,false,false,false,false] ?_ (fun hD6 => ?_)
 rintro ⟨y373,hy373⟩
 try dsimp only
 try dsimp only at hy373
 obtain ⟨hy3730,hy3731⟩ := hy373
 refine kTD [10,11,12] [69,0,2,3,4,5] 1 [(69,.v (.agg (sndL (acked s (seqAdd s.una y373)).1).toArray))] ?_
 refine kA [13] ?_
 refine kSS 13 1 0 (sndL (acked s (seqAdd s.una y373)).1) rfl ?_
 exact xe_wkL (kF 2 0 [0,2,3,4,5]) (by kernel_rfl) (hD7 ⟨(y373),⟨hy3730,hy3731⟩⟩)
 refine xe_cut (α := {zz : Int // (fun (y373 : Int) => 0 ≤ y373 ∧ (0 < (IntKind.i64.wrap ((flown s) + 1)) → y373 < (IntKind.i64.wrap ((flown s) + 1)))) zz}) (fun zz => (fun (y373 : Int) => (⟨[(0,.v (.pointer (some ⟨g,0,none⟩))),(2,.p 0 0),(3,.p 1 0),(4,.v (.int .i64 y2)),(5,.v (.int .i64 (i : Int))),(59,.v (.agg (sndL s).toArray)),(67,.v (.int .i64 (seqAdd s.una y373)))],[⟨27,sndZ⟩,⟨27,sndL s⟩],[],[curF B g 100 (.slice A code.length cap) code.length,frF w (fun b => b = g),slF (.slice A code.length cap) 1 (code.map byteRow)]⟩ : St)) zz.1) 5 #[true,true,true,true,true,true,true,true,true,false,false,false,false,false] ?_ (fun hD5 => ?_)
 rintro ⟨y373,hy373⟩
 try dsimp only
 try dsimp only at hy373
 obtain ⟨hy3730,hy3731⟩ := hy373
 refine kA [9] ?_
 refine kSC 9 138 [.agg (sndL s).toArray,.int .i64 (seqAdd s.una y373)] (some 68) rfl (xc_b fun ww hf => ysAcked_c s (seqAdd s.una y373) ww  ) ?_
 intro _
 exact xe_wkL (kF 2 0 [0,2,3,4,5,68]) (by kernel_rfl) (hD6 ⟨(y373),⟨hy3730,hy3731⟩⟩)
 refine xe_cut (α := {zz : Int // (fun (y373 : Int) => 0 ≤ y373 ∧ (0 < (IntKind.i64.wrap ((flown s) + 1)) → y373 < (IntKind.i64.wrap ((flown s) + 1)))) zz}) (fun zz => (fun (y373 : Int) => (⟨[(0,.v (.pointer (some ⟨g,0,none⟩))),(2,.p 0 0),(3,.p 1 0),(4,.v (.int .i64 y2)),(5,.v (.int .i64 (i : Int))),(59,.v (.agg (sndL s).toArray)),(61,.v (.int .i64 s.una)),(66,.v (.int .i64 y373))],[⟨27,sndZ⟩,⟨27,sndL s⟩],[],[curF B g 100 (.slice A code.length cap) code.length,frF w (fun b => b = g),slF (.slice A code.length cap) 1 (code.map byteRow)]⟩ : St)) zz.1) 6 #[true,true,true,true,true,true,true,true,false,false,false,false,false,false] ?_ (fun hD4 => ?_)
 rintro ⟨y373,hy373⟩
 try dsimp only
 try dsimp only at hy373
 obtain ⟨hy3730,hy3731⟩ := hy373
 refine kA [8] ?_
 refine kSC 8 60 [.int .i64 s.una,.int .i64 y373] (some 67) rfl (xc_s fun ww hf => sSeqAdd_c s.una y373 ww ) ?_
 intro _
 exact xe_wkL (kF 2 0 [0,2,3,4,5,59,67]) (by kernel_rfl) (hD5 ⟨(y373),⟨hy3730,hy3731⟩⟩)
 refine xe_cut (α := Unit) (fun zz => (fun (u_ : Unit) => (⟨[(0,.v (.pointer (some ⟨g,0,none⟩))),(2,.p 0 0),(3,.p 1 0),(4,.v (.int .i64 y2)),(5,.v (.int .i64 (i : Int))),(59,.v (.agg (sndL s).toArray)),(61,.v (.int .i64 s.una)),(62,.v (.pointer (some ⟨g,0,none⟩))),(64,.v (.int .i64 (flown s)))],[⟨27,sndZ⟩,⟨27,sndL s⟩],[],[curF B g 100 (.slice A code.length cap) code.length,frF w (fun b => b = g),slF (.slice A code.length cap) 1 (code.map byteRow)]⟩ : St)) zz) 8 #[true,true,true,true,true,true,false,false,false,false,false,false,false,false] ?_ (fun hD3 => ?_)
 intro u_
 try dsimp only
 refine kTD [6] [65,0,2,3,4,5,59,61,62] 7 [(65,.v (.int .i64 (IntKind.i64.wrap ((flown s) + 1))))] ?_
 refine kA [7] ?_
 refine kSW 7 86 [.pointer (some ⟨g,0,none⟩),.int .i64 (IntKind.i64.wrap ((flown s) + 1))] (some 66) 0 rfl rfl hlo (under_t (under_f rfl under_nil)) (l1Below_c_K hBw hap) ?_
 rintro ⟨y373,hy373⟩
 obtain ⟨hy3730,hy3731⟩ := hy373
 exact xe_wkL (kF 2 0 [0,2,3,4,5,59,61,66]) (by kernel_rfl) (hD4 ⟨(y373),⟨hy3730,hy3731⟩⟩)
 refine xe_cut (α := Unit) (fun zz => (fun (u_ : Unit) => (⟨[(0,.v (.pointer (some ⟨g,0,none⟩))),(2,.p 0 0),(3,.p 1 0),(4,.v (.int .i64 y2)),(5,.v (.int .i64 (i : Int))),(59,.v (.agg (sndL s).toArray)),(61,.v (.int .i64 s.una)),(62,.v (.pointer (some ⟨g,0,none⟩))),(63,.v (.agg (sndL s).toArray))],[⟨27,sndZ⟩,⟨27,sndL s⟩],[],[curF B g 100 (.slice A code.length cap) code.length,frF w (fun b => b = g),slF (.slice A code.length cap) 1 (code.map byteRow)]⟩ : St)) zz) 9 #[true,true,true,true,true,false,false,false,false,false,false,false,false,false] ?_ (fun hD2 => ?_)
 intro u_
 try dsimp only
 refine kA [5] ?_
 refine kSC 5 61 [.agg (sndL s).toArray] (some 64) rfl (xc_b fun ww hf => sFlown_c s.una s.data s.sent s.fin s.finSent s.done ww ) ?_
 intro _
 exact xe_wkL (kF 2 0 [0,2,3,4,5,59,61,62,64]) (by kernel_rfl) (hD3 ())
 refine xe_cut (α := Unit) (fun zz => (fun (u_ : Unit) => (⟨[(0,.v (.pointer (some ⟨g,0,none⟩))),(2,.p 0 0),(3,.p 1 0),(4,.v (.int .i64 y2)),(5,.v (.int .i64 (i : Int))),(59,.v (.agg (sndL s).toArray)),(61,.v (.int .i64 s.una)),(62,.v (.pointer (some ⟨g,0,none⟩)))],[⟨27,sndZ⟩,⟨27,sndL s⟩],[],[curF B g 100 (.slice A code.length cap) code.length,frF w (fun b => b = g),slF (.slice A code.length cap) 1 (code.map byteRow)]⟩ : St)) zz) 10 #[true,true,true,true,false,false,false,false,false,false,false,false,false,false] ?_ (fun hD1 => ?_)
 intro u_
 try dsimp only
 refine kA [4] ?_
 refine kSV 4 (.v (.agg (sndL s).toArray)) rfl ?_
 exact xe_wkL (kF 2 0 [0,2,3,4,5,59,61,62,63]) (by kernel_rfl) (hD2 ())
 refine xe_cut (α := Unit) (fun zz => (fun (u_ : Unit) => (⟨[(0,.v (.pointer (some ⟨g,0,none⟩))),(2,.p 0 0),(3,.p 1 0),(4,.v (.int .i64 y2)),(5,.v (.int .i64 (i : Int))),(59,.v (.agg (sndL s).toArray)),(61,.v (.int .i64 s.una)),(62,.v (.pointer (some ⟨g,0,none⟩))),(65,.v (.int .i64 (IntKind.i64.wrap ((flown s) + 1))))],[⟨27,sndZ⟩,⟨27,sndL s⟩],[],[curF B g 100 (.slice A code.length cap) code.length,frF w (fun b => b = g),slF (.slice A code.length cap) 1 (code.map byteRow)]⟩ : St)) zz) 7 #[true,true,true,true,true,true,true,false,false,false,false,false,false,false] ?_ (fun hD10 => ?_)
 intro u_
 try dsimp only
 refine kA [7] ?_
 refine kSW 7 86 [.pointer (some ⟨g,0,none⟩),.int .i64 (IntKind.i64.wrap ((flown s) + 1))] (some 66) 0 rfl rfl hlo (under_t (under_f rfl under_nil)) (l1Below_c_K hBw hap) ?_
 rintro ⟨y373,hy373⟩
 obtain ⟨hy3730,hy3731⟩ := hy373
 exact xe_wkL (kF 2 0 [0,2,3,4,5,59,61,66]) (by kernel_rfl) (hD4 ⟨(y373),⟨hy3730,hy3731⟩⟩)
 refine xe_cut (α := {zz : Int // (fun (y373 : Int) => 0 ≤ y373 ∧ (0 < (IntKind.i64.wrap ((flown s) + 1)) → y373 < (IntKind.i64.wrap ((flown s) + 1)))) zz}) (fun zz => (fun (y373 : Int) => (⟨[(0,.v (.pointer (some ⟨g,0,none⟩))),(2,.p 0 0),(3,.p 1 0),(4,.v (.int .i64 y2)),(5,.v (.int .i64 (i : Int))),(59,.v (.agg (sndL s).toArray)),(60,.p 1 0),(66,.v (.int .i64 y373))],[⟨27,sndZ⟩,⟨27,sndL s⟩],[],[curF B g 100 (.slice A code.length cap) code.length,frF w (fun b => b = g),slF (.slice A code.length cap) 1 (code.map byteRow)]⟩ : St)) zz.1) 7 #[true,true,false,true,true,true,true,true,false,false,false,false,false,false] ?_ (fun hD11 => ?_)
 rintro ⟨y373,hy373⟩
 try dsimp only
 try dsimp only at hy373
 obtain ⟨hy3730,hy3731⟩ := hy373
 refine kA [2] ?_
 refine kSV 2 (.v (.int .i64 s.una)) rfl ?_
 exact xe_wkL (kF 2 0 [0,2,3,4,5,59,61,66]) (by kernel_rfl) (hD4 ⟨(y373),⟨hy3730,hy3731⟩⟩)
 refine xe_cut (α := Unit) (fun zz => (fun (u_ : Unit) => (⟨[(0,.v (.pointer (some ⟨g,0,none⟩))),(2,.p 0 0),(3,.p 1 0),(4,.v (.int .i64 y2)),(5,.v (.int .i64 (i : Int))),(59,.v (.agg (sndL s).toArray)),(60,.p 1 0),(62,.v (.pointer (some ⟨g,0,none⟩))),(64,.v (.int .i64 (flown s)))],[⟨27,sndZ⟩,⟨27,sndL s⟩],[],[curF B g 100 (.slice A code.length cap) code.length,frF w (fun b => b = g),slF (.slice A code.length cap) 1 (code.map byteRow)]⟩ : St)) zz) 9 #[true,true,false,true,true,true,false,false,false,false,false,false,false,false] ?_ (fun hD9 => ?_)
 intro u_
 try dsimp only
 refine kTD [6] [65,0,2,3,4,5,59,60,62] 8 [(65,.v (.int .i64 (IntKind.i64.wrap ((flown s) + 1))))] ?_
 refine kA [2,7] ⟨?_,?_⟩
 refine kSV 2 (.v (.int .i64 s.una)) rfl ?_
 exact xe_wkL (kF 2 0 [0,2,3,4,5,59,61,62,65]) (by kernel_rfl) (hD10 ())
 refine kSW 7 86 [.pointer (some ⟨g,0,none⟩),.int .i64 (IntKind.i64.wrap ((flown s) + 1))] (some 66) 0 rfl rfl hlo (under_t (under_f rfl under_nil)) (l1Below_c_K hBw hap) ?_
 rintro ⟨y373,hy373⟩
 obtain ⟨hy3730,hy3731⟩ := hy373
 exact xe_wkL (kF 2 0 [0,2,3,4,5,59,60,66]) (by kernel_rfl) (hD11 ⟨(y373),⟨hy3730,hy3731⟩⟩)
 refine xe_cut (α := Unit) (fun zz => (fun (u_ : Unit) => (⟨[(0,.v (.pointer (some ⟨g,0,none⟩))),(2,.p 0 0),(3,.p 1 0),(4,.v (.int .i64 y2)),(5,.v (.int .i64 (i : Int))),(59,.v (.agg (sndL s).toArray)),(60,.p 1 0),(62,.v (.pointer (some ⟨g,0,none⟩))),(63,.v (.agg (sndL s).toArray))],[⟨27,sndZ⟩,⟨27,sndL s⟩],[],[curF B g 100 (.slice A code.length cap) code.length,frF w (fun b => b = g),slF (.slice A code.length cap) 1 (code.map byteRow)]⟩ : St)) zz) 10 #[true,true,false,true,true,false,false,false,false,false,false,false,false,false] ?_ (fun hD8 => ?_)
 intro u_
 try dsimp only
 refine kA [2,5] ⟨?_,?_⟩
 refine kSV 2 (.v (.int .i64 s.una)) rfl ?_
 exact xe_wkL (kF 2 0 [0,2,3,4,5,59,61,62,63]) (by kernel_rfl) (hD2 ())
 refine kSC 5 61 [.agg (sndL s).toArray] (some 64) rfl (xc_b fun ww hf => sFlown_c s.una s.data s.sent s.fin s.finSent s.done ww ) ?_
 intro _
 exact xe_wkL (kF 2 0 [0,2,3,4,5,59,60,62,64]) (by kernel_rfl) (hD9 ())
 refine xe_cut (α := Unit) (fun zz => (fun (u_ : Unit) => (⟨[(0,.v (.pointer (some ⟨g,0,none⟩))),(2,.p 0 0),(3,.p 1 0),(4,.v (.int .i64 y2)),(5,.v (.int .i64 (i : Int))),(59,.v (.agg (sndL s).toArray)),(60,.p 1 0),(62,.v (.pointer (some ⟨g,0,none⟩)))],[⟨27,sndZ⟩,⟨27,sndL s⟩],[],[curF B g 100 (.slice A code.length cap) code.length,frF w (fun b => b = g),slF (.slice A code.length cap) 1 (code.map byteRow)]⟩ : St)) zz) 11 #[true,true,false,true,false,false,false,false,false,false,false,false,false,false] ?_ (fun hD0 => ?_)
 intro u_
 try dsimp only
 refine kA [2,4] ⟨?_,?_⟩
 refine kSV 2 (.v (.int .i64 s.una)) rfl ?_
 exact xe_wkL (kF 2 0 [0,2,3,4,5,59,61,62]) (by kernel_rfl) (hD1 ())
 refine kSV 4 (.v (.agg (sndL s).toArray)) rfl ?_
 exact xe_wkL (kF 2 0 [0,2,3,4,5,59,60,62,63]) (by kernel_rfl) (hD8 ())
 refine xe_cut (α := {zz : Int // (fun (y373 : Int) => 0 ≤ y373 ∧ (0 < (IntKind.i64.wrap ((flown s) + 1)) → y373 < (IntKind.i64.wrap ((flown s) + 1)))) zz}) (fun zz => (fun (y373 : Int) => (⟨[(0,.v (.pointer (some ⟨g,0,none⟩))),(2,.p 0 0),(3,.p 1 0),(4,.v (.int .i64 y2)),(5,.v (.int .i64 (i : Int))),(67,.v (.int .i64 (seqAdd s.una y373)))],[⟨27,sndZ⟩,⟨27,sndL s⟩],[],[curF B g 100 (.slice A code.length cap) code.length,frF w (fun b => b = g),slF (.slice A code.length cap) 1 (code.map byteRow)]⟩ : St)) zz.1) 6 #[false,true,true,true,true,true,true,true,true,false,false,false,false,false] ?_ (fun hD16 => ?_)
 rintro ⟨y373,hy373⟩
 try dsimp only
 try dsimp only at hy373
 obtain ⟨hy3730,hy3731⟩ := hy373
 refine kA [0] ?_
 refine kSV 0 (.v (.agg (sndL s).toArray)) rfl ?_
 exact xe_wkL (kF 2 0 [0,2,3,4,5,59,67]) (by kernel_rfl) (hD5 ⟨(y373),⟨hy3730,hy3731⟩⟩)
 refine xe_cut (α := {zz : Int // (fun (y373 : Int) => 0 ≤ y373 ∧ (0 < (IntKind.i64.wrap ((flown s) + 1)) → y373 < (IntKind.i64.wrap ((flown s) + 1)))) zz}) (fun zz => (fun (y373 : Int) => (⟨[(0,.v (.pointer (some ⟨g,0,none⟩))),(2,.p 0 0),(3,.p 1 0),(4,.v (.int .i64 y2)),(5,.v (.int .i64 (i : Int))),(61,.v (.int .i64 s.una)),(66,.v (.int .i64 y373))],[⟨27,sndZ⟩,⟨27,sndL s⟩],[],[curF B g 100 (.slice A code.length cap) code.length,frF w (fun b => b = g),slF (.slice A code.length cap) 1 (code.map byteRow)]⟩ : St)) zz.1) 7 #[false,true,true,true,true,true,true,true,false,false,false,false,false,false] ?_ (fun hD15 => ?_)
 rintro ⟨y373,hy373⟩
 try dsimp only
 try dsimp only at hy373
 obtain ⟨hy3730,hy3731⟩ := hy373
 refine kA [0,8] ⟨?_,?_⟩
 refine kSV 0 (.v (.agg (sndL s).toArray)) rfl ?_
 exact xe_wkL (kF 2 0 [0,2,3,4,5,59,61,66]) (by kernel_rfl) (hD4 ⟨(y373),⟨hy3730,hy3731⟩⟩)
 refine kSC 8 60 [.int .i64 s.una,.int .i64 y373] (some 67) rfl (xc_s fun ww hf => sSeqAdd_c s.una y373 ww ) ?_
 intro _
 exact xe_wkL (kF 2 0 [0,2,3,4,5,67]) (by kernel_rfl) (hD16 ⟨(y373),⟨hy3730,hy3731⟩⟩)
 refine xe_cut (α := Unit) (fun zz => (fun (u_ : Unit) => (⟨[(0,.v (.pointer (some ⟨g,0,none⟩))),(2,.p 0 0),(3,.p 1 0),(4,.v (.int .i64 y2)),(5,.v (.int .i64 (i : Int))),(61,.v (.int .i64 s.una)),(62,.v (.pointer (some ⟨g,0,none⟩))),(64,.v (.int .i64 (flown s)))],[⟨27,sndZ⟩,⟨27,sndL s⟩],[],[curF B g 100 (.slice A code.length cap) code.length,frF w (fun b => b = g),slF (.slice A code.length cap) 1 (code.map byteRow)]⟩ : St)) zz) 9 #[false,true,true,true,true,true,false,false,false,false,false,false,false,false] ?_ (fun hD14 => ?_)
 intro u_
 try dsimp only
 refine kTD [6] [65,0,2,3,4,5,61,62] 8 [(65,.v (.int .i64 (IntKind.i64.wrap ((flown s) + 1))))] ?_
 refine kA [0,7] ⟨?_,?_⟩
 refine kSV 0 (.v (.agg (sndL s).toArray)) rfl ?_
 exact xe_wkL (kF 2 0 [0,2,3,4,5,59,61,62,65]) (by kernel_rfl) (hD10 ())
 refine kSW 7 86 [.pointer (some ⟨g,0,none⟩),.int .i64 (IntKind.i64.wrap ((flown s) + 1))] (some 66) 0 rfl rfl hlo (under_t (under_f rfl under_nil)) (l1Below_c_K hBw hap) ?_
 rintro ⟨y373,hy373⟩
 obtain ⟨hy3730,hy3731⟩ := hy373
 exact xe_wkL (kF 2 0 [0,2,3,4,5,61,66]) (by kernel_rfl) (hD15 ⟨(y373),⟨hy3730,hy3731⟩⟩)
 refine xe_cut (α := Unit) (fun zz => (fun (u_ : Unit) => (⟨[(0,.v (.pointer (some ⟨g,0,none⟩))),(2,.p 0 0),(3,.p 1 0),(4,.v (.int .i64 y2)),(5,.v (.int .i64 (i : Int))),(61,.v (.int .i64 s.una)),(62,.v (.pointer (some ⟨g,0,none⟩))),(63,.v (.agg (sndL s).toArray))],[⟨27,sndZ⟩,⟨27,sndL s⟩],[],[curF B g 100 (.slice A code.length cap) code.length,frF w (fun b => b = g),slF (.slice A code.length cap) 1 (code.map byteRow)]⟩ : St)) zz) 10 #[false,true,true,true,true,false,false,false,false,false,false,false,false,false] ?_ (fun hD13 => ?_)
 intro u_
 try dsimp only
 refine kA [0,5] ⟨?_,?_⟩
 refine kSV 0 (.v (.agg (sndL s).toArray)) rfl ?_
 exact xe_wkL (kF 2 0 [0,2,3,4,5,59,61,62,63]) (by kernel_rfl) (hD2 ())
 refine kSC 5 61 [.agg (sndL s).toArray] (some 64) rfl (xc_b fun ww hf => sFlown_c s.una s.data s.sent s.fin s.finSent s.done ww ) ?_
 intro _
 exact xe_wkL (kF 2 0 [0,2,3,4,5,61,62,64]) (by kernel_rfl) (hD14 ())
 refine xe_cut (α := Unit) (fun zz => (fun (u_ : Unit) => (⟨[(0,.v (.pointer (some ⟨g,0,none⟩))),(2,.p 0 0),(3,.p 1 0),(4,.v (.int .i64 y2)),(5,.v (.int .i64 (i : Int))),(61,.v (.int .i64 s.una)),(62,.v (.pointer (some ⟨g,0,none⟩)))],[⟨27,sndZ⟩,⟨27,sndL s⟩],[],[curF B g 100 (.slice A code.length cap) code.length,frF w (fun b => b = g),slF (.slice A code.length cap) 1 (code.map byteRow)]⟩ : St)) zz) 11 #[false,true,true,true,false,false,false,false,false,false,false,false,false,false] ?_ (fun hD12 => ?_)
 intro u_
 try dsimp only
 refine kA [0,4] ⟨?_,?_⟩
 refine kSV 0 (.v (.agg (sndL s).toArray)) rfl ?_
 exact xe_wkL (kF 2 0 [0,2,3,4,5,59,61,62]) (by kernel_rfl) (hD1 ())
 refine kSV 4 (.v (.agg (sndL s).toArray)) rfl ?_
 exact xe_wkL (kF 2 0 [0,2,3,4,5,61,62,63]) (by kernel_rfl) (hD13 ())
 refine xe_cut (α := Unit) (fun zz => (fun (u_ : Unit) => (⟨[(0,.v (.pointer (some ⟨g,0,none⟩))),(2,.p 0 0),(3,.p 1 0),(4,.v (.int .i64 y2)),(5,.v (.int .i64 (i : Int))),(59,.v (.agg (sndL s).toArray)),(60,.p 1 0),(62,.v (.pointer (some ⟨g,0,none⟩))),(65,.v (.int .i64 (IntKind.i64.wrap ((flown s) + 1))))],[⟨27,sndZ⟩,⟨27,sndL s⟩],[],[curF B g 100 (.slice A code.length cap) code.length,frF w (fun b => b = g),slF (.slice A code.length cap) 1 (code.map byteRow)]⟩ : St)) zz) 8 #[true,true,false,true,true,true,true,false,false,false,false,false,false,false] ?_ (fun hD19 => ?_)
 intro u_
 try dsimp only
 refine kA [2,7] ⟨?_,?_⟩
 refine kSV 2 (.v (.int .i64 s.una)) rfl ?_
 exact xe_wkL (kF 2 0 [0,2,3,4,5,59,61,62,65]) (by kernel_rfl) (hD10 ())
 refine kSW 7 86 [.pointer (some ⟨g,0,none⟩),.int .i64 (IntKind.i64.wrap ((flown s) + 1))] (some 66) 0 rfl rfl hlo (under_t (under_f rfl under_nil)) (l1Below_c_K hBw hap) ?_
 rintro ⟨y373,hy373⟩
 obtain ⟨hy3730,hy3731⟩ := hy373
 exact xe_wkL (kF 2 0 [0,2,3,4,5,59,60,66]) (by kernel_rfl) (hD11 ⟨(y373),⟨hy3730,hy3731⟩⟩)
 refine xe_cut (α := Unit) (fun zz => (fun (u_ : Unit) => (⟨[(0,.v (.pointer (some ⟨g,0,none⟩))),(2,.p 0 0),(3,.p 1 0),(4,.v (.int .i64 y2)),(5,.v (.int .i64 (i : Int))),(61,.v (.int .i64 s.una)),(62,.v (.pointer (some ⟨g,0,none⟩))),(65,.v (.int .i64 (IntKind.i64.wrap ((flown s) + 1))))],[⟨27,sndZ⟩,⟨27,sndL s⟩],[],[curF B g 100 (.slice A code.length cap) code.length,frF w (fun b => b = g),slF (.slice A code.length cap) 1 (code.map byteRow)]⟩ : St)) zz) 8 #[false,true,true,true,true,true,true,false,false,false,false,false,false,false] ?_ (fun hD20 => ?_)
 intro u_
 try dsimp only
 refine kA [0,7] ⟨?_,?_⟩
 refine kSV 0 (.v (.agg (sndL s).toArray)) rfl ?_
 exact xe_wkL (kF 2 0 [0,2,3,4,5,59,61,62,65]) (by kernel_rfl) (hD10 ())
 refine kSW 7 86 [.pointer (some ⟨g,0,none⟩),.int .i64 (IntKind.i64.wrap ((flown s) + 1))] (some 66) 0 rfl rfl hlo (under_t (under_f rfl under_nil)) (l1Below_c_K hBw hap) ?_
 rintro ⟨y373,hy373⟩
 obtain ⟨hy3730,hy3731⟩ := hy373
 exact xe_wkL (kF 2 0 [0,2,3,4,5,61,66]) (by kernel_rfl) (hD15 ⟨(y373),⟨hy3730,hy3731⟩⟩)
 refine xe_cut (α := {zz : Int // (fun (y373 : Int) => 0 ≤ y373 ∧ (0 < (IntKind.i64.wrap ((flown s) + 1)) → y373 < (IntKind.i64.wrap ((flown s) + 1)))) zz}) (fun zz => (fun (y373 : Int) => (⟨[(0,.v (.pointer (some ⟨g,0,none⟩))),(2,.p 0 0),(3,.p 1 0),(4,.v (.int .i64 y2)),(5,.v (.int .i64 (i : Int))),(60,.p 1 0),(66,.v (.int .i64 y373))],[⟨27,sndZ⟩,⟨27,sndL s⟩],[],[curF B g 100 (.slice A code.length cap) code.length,frF w (fun b => b = g),slF (.slice A code.length cap) 1 (code.map byteRow)]⟩ : St)) zz.1) 8 #[false,true,false,true,true,true,true,true,false,false,false,false,false,false] ?_ (fun hD21 => ?_)
 rintro ⟨y373,hy373⟩
 try dsimp only
 try dsimp only at hy373
 obtain ⟨hy3730,hy3731⟩ := hy373
 refine kA [0,2] ⟨?_,?_⟩
 refine kSV 0 (.v (.agg (sndL s).toArray)) rfl ?_
 exact xe_wkL (kF 2 0 [0,2,3,4,5,59,60,66]) (by kernel_rfl) (hD11 ⟨(y373),⟨hy3730,hy3731⟩⟩)
 refine kSV 2 (.v (.int .i64 s.una)) rfl ?_
 exact xe_wkL (kF 2 0 [0,2,3,4,5,61,66]) (by kernel_rfl) (hD15 ⟨(y373),⟨hy3730,hy3731⟩⟩)
 refine xe_cut (α := Unit) (fun zz => (fun (u_ : Unit) => (⟨[(0,.v (.pointer (some ⟨g,0,none⟩))),(2,.p 0 0),(3,.p 1 0),(4,.v (.int .i64 y2)),(5,.v (.int .i64 (i : Int))),(60,.p 1 0),(62,.v (.pointer (some ⟨g,0,none⟩))),(64,.v (.int .i64 (flown s)))],[⟨27,sndZ⟩,⟨27,sndL s⟩],[],[curF B g 100 (.slice A code.length cap) code.length,frF w (fun b => b = g),slF (.slice A code.length cap) 1 (code.map byteRow)]⟩ : St)) zz) 10 #[false,true,false,true,true,true,false,false,false,false,false,false,false,false] ?_ (fun hD18 => ?_)
 intro u_
 try dsimp only
 refine kTD [6] [65,0,2,3,4,5,60,62] 9 [(65,.v (.int .i64 (IntKind.i64.wrap ((flown s) + 1))))] ?_
 refine kA [0,2,7] ⟨?_,?_,?_⟩
 refine kSV 0 (.v (.agg (sndL s).toArray)) rfl ?_
 exact xe_wkL (kF 2 0 [0,2,3,4,5,59,60,62,65]) (by kernel_rfl) (hD19 ())
 refine kSV 2 (.v (.int .i64 s.una)) rfl ?_
 exact xe_wkL (kF 2 0 [0,2,3,4,5,61,62,65]) (by kernel_rfl) (hD20 ())
 refine kSW 7 86 [.pointer (some ⟨g,0,none⟩),.int .i64 (IntKind.i64.wrap ((flown s) + 1))] (some 66) 0 rfl rfl hlo (under_t (under_f rfl under_nil)) (l1Below_c_K hBw hap) ?_
 rintro ⟨y373,hy373⟩
 obtain ⟨hy3730,hy3731⟩ := hy373
 exact xe_wkL (kF 2 0 [0,2,3,4,5,60,66]) (by kernel_rfl) (hD21 ⟨(y373),⟨hy3730,hy3731⟩⟩)
 refine xe_cut (α := Unit) (fun zz => (fun (u_ : Unit) => (⟨[(0,.v (.pointer (some ⟨g,0,none⟩))),(2,.p 0 0),(3,.p 1 0),(4,.v (.int .i64 y2)),(5,.v (.int .i64 (i : Int))),(60,.p 1 0),(62,.v (.pointer (some ⟨g,0,none⟩))),(63,.v (.agg (sndL s).toArray))],[⟨27,sndZ⟩,⟨27,sndL s⟩],[],[curF B g 100 (.slice A code.length cap) code.length,frF w (fun b => b = g),slF (.slice A code.length cap) 1 (code.map byteRow)]⟩ : St)) zz) 11 #[false,true,false,true,true,false,false,false,false,false,false,false,false,false] ?_ (fun hD17 => ?_)
 intro u_
 try dsimp only
 refine kA [0,2,5] ⟨?_,?_,?_⟩
 refine kSV 0 (.v (.agg (sndL s).toArray)) rfl ?_
 exact xe_wkL (kF 2 0 [0,2,3,4,5,59,60,62,63]) (by kernel_rfl) (hD8 ())
 refine kSV 2 (.v (.int .i64 s.una)) rfl ?_
 exact xe_wkL (kF 2 0 [0,2,3,4,5,61,62,63]) (by kernel_rfl) (hD13 ())
 refine kSC 5 61 [.agg (sndL s).toArray] (some 64) rfl (xc_b fun ww hf => sFlown_c s.una s.data s.sent s.fin s.finSent s.done ww ) ?_
 intro _
 exact xe_wkL (kF 2 0 [0,2,3,4,5,60,62,64]) (by kernel_rfl) (hD18 ())
 refine kTD [1,3] [62,60,0,2,3,4,5] 12 [(62,.v (.pointer (some ⟨g,0,none⟩))),(60,.p 1 0)] ?_
 refine kA [0,2,4] ⟨?_,?_,?_⟩
 refine kSV 0 (.v (.agg (sndL s).toArray)) rfl ?_
 exact xe_wkL ((wk_pick [0,2,1] [curF B g 100 (.slice A code.length cap) code.length,frF w (fun b => b = g),slF (.slice A code.length cap) 1 (code.map byteRow)] (by kernel_rfl) (by kernel_rfl)).trans <| kF 2 0 [0,2,3,4,5,59,60,62]) (by kernel_rfl) (hD0 ())
 refine kSV 2 (.v (.int .i64 s.una)) rfl ?_
 exact xe_wkL ((wk_pick [0,2,1] [curF B g 100 (.slice A code.length cap) code.length,frF w (fun b => b = g),slF (.slice A code.length cap) 1 (code.map byteRow)] (by kernel_rfl) (by kernel_rfl)).trans <| kF 2 0 [0,2,3,4,5,61,62]) (by kernel_rfl) (hD12 ())
 refine kSV 4 (.v (.agg (sndL s).toArray)) rfl ?_
 exact xe_wkL ((wk_pick [0,2,1] [curF B g 100 (.slice A code.length cap) code.length,frF w (fun b => b = g),slF (.slice A code.length cap) 1 (code.map byteRow)] (by kernel_rfl) (by kernel_rfl)).trans <| kF 2 0 [0,2,3,4,5,60,62,63]) (by kernel_rfl) (hD17 ())
 have h21p := eqF h21
 refine kG ?_
 refine kRD 3 [0,2,3,4,5,22] [(22,.v (.bool s.fin))] ?_
 refine kP 22 (s.fin) (fun h723 => ?_) (fun h723 => ?_)
 refine kEU [0,2,3,4,5] [] 1 ⟨27,sndL { s with fin := true }⟩ ?_
 exact ⟨⟨({ s with fin := true }),⟨⟩⟩,kF 2 0 [0,2,3,4,5]⟩
 refine kWD 1 [0,2,3,4,5,22,23] [(22,.v (.bool false)),(23,.v (.pointer (some ⟨g,0,none⟩)))] 64 [.pointer (some ⟨g,0,none⟩),.int .i64 2] (some 24) 0 rfl rfl hlo (l1Once_c_K hBw hap) ?_
 rintro ⟨y724,hy724⟩
 refine kEU [0,2,3,4,5] [] 1 ⟨27,sndL { s with fin := y724 }⟩ ?_
 exact ⟨⟨({ s with fin := y724 }),⟨⟩⟩,kF 2 0 [0,2,3,4,5]⟩
 rintro ⟨s2,-⟩
 try dsimp only
 refine kG ?_
 refine kRS 3 [0,2,3,4,5] [(0,.v (.pointer (some ⟨g,0,none⟩))),(2,.p 0 0),(3,.p 1 0),(4,.v (.int .i64 y2)),(5,.v (.int .i64 (IntKind.i64.wrap ((i : Int) + 1))))] ?_
 refine xl_eqS (t' := [(0,.v (.pointer (some ⟨g,0,none⟩))),(2,.p 0 0),(3,.p 1 0),(4,.v (.int .i64 y2)),(5,.v (.int .i64 ((i : Int) + 1)))]) (by rw [show (IntKind.i64.wrap ((i : Int) + 1)) = ((i : Int) + 1) from wrap_id (by omega) (by omega)]) ?_
 refine kED [0,2,3,4,5] [] ?_
 exact ⟨⟨(i + 1,s2),(by omega)⟩,kF 2 0 [0,2,3,4,5],by show (fun (i : Nat) (s : Snd) => (y2).toNat - i) (i + 1) s2 < (y2).toNat - i; (dsimp only; omega)⟩
 have h3p := of_decide_eq_false h3
 have hge : ¬ (i : Int) < y2 := of_decide_eq_false h3
 refine xw_exit ?_
 refine kQ ?_
 refine kEU [2] [(2,.p 0 0)] 0 ⟨27,sndL s⟩ ?_
 refine kR ?_
 exact ⟨[.agg (sndL s).toArray],by kernel_rfl,fun w' hb hf => ⟨⟨s,trivial⟩,rfl,hf (curF B g 100 (.slice A code.length cap) code.length) (by simp),frF_chgd (hf (frF w (fun b => b = g)) (by simp)) hb rfl rfl rfl⟩⟩
theorem l17Sender_c_K {g : Nat} {code : List Int} {A : Option Addr} {cap : Nat}  {w0 : World} {fs : List Fact} {B : Nat} (hB : B ≤ w0.heap.size) (hap : ¬ (slF (.slice A code.length cap) 1 (code.map byteRow)).blk g)  (hn : code.length ≤ 1048576 := by omega) (h1 : curF B g 100 (.slice A code.length cap) code.length ∈ fs := by simp) (h2 : slF (.slice A code.length cap) 1 (code.map byteRow) ∈ fs := by simp) : XCM Tryz.prog w0 fs (curF B g 100 (.slice A code.length cap) code.length).blk 129 [.pointer (some ⟨g, 0, none⟩)] (α := {y : Snd // True}) (fun y => .agg (sndL y.1).toArray) (fun _ => [curF B g 100 (.slice A code.length cap) code.length]) := xcm_cur fun w hw hf => l17Sender_c g code A cap  w B (Nat.le_trans hB hw) (hf _ h1) (hf _ h2) hap hn  
theorem l17Bent_c (g : Nat) (code : List Int) (A : Option Addr) (cap : Nat)  (w : World) (B : Nat) (hB : B ≤ w.heap.size) (hc : (curF B g 100 (.slice A code.length cap) code.length).p w) (hl : Sl w (.slice A code.length cap) 1 (code.map byteRow)) (hap : ¬ (slF (.slice A code.length cap) 1 (code.map byteRow)).blk g) (hn : code.length ≤ 1048576)  : Calls Tryz.prog 108 #[.pointer (some ⟨g, 0, none⟩)] w fun e w' => ∃ y : {y : Snd // True}, e = .returned (.agg (sndL y.1).toArray) ∧ (curF B g 100 (.slice A code.length cap) code.length).p w' ∧ Chgd (fun b => b = g) w w' := by
 have hq_code := Sl.capLe hl
 have hBw : B ≤ (cutW w B).heap.size := Nat.le_of_eq (cutW_size hB).symm
 have hlo : ∀ (ww : World) (b : Nat),(curF B g 100 (.slice A code.length cap) code.length).p ww → (curF B g 100 (.slice A code.length cap) code.length).blk b → (cutW w B).heap.size ≤ b := fun ww b h hb => Nat.le_trans (cutW_le w B) (cur_lo h hb)
 refine x_callsM (args := [.pointer (some ⟨g,0,none⟩)]) (fn := Tryz.f108) [curF B g 100 (.slice A code.length cap) code.length,slF (.slice A code.length cap) 1 (code.map byteRow),frF w (fun b => b = g)] B Tryz.func108 rfl Tryz.ntmps108 rfl hB (by simp only [List.mem_cons,List.not_mem_nil,or_false,forall_eq_or_imp,forall_eq]; exact ⟨hc,hl,frF_start w _⟩) (apart_cur hap rfl) ?_
 refine kQ ?_
 refine kEF [0,2] ⟨[(0,.v (.pointer (some ⟨g,0,none⟩))),(2,.p 0 0)],[⟨27,sndZ⟩],[],[curF B g 100 (.slice A code.length cap) code.length,slF (.slice A code.length cap) 1 (code.map byteRow),frF w (fun b => b = g)]⟩ ?_
 refine kQ ?_
 refine kWD 1 [0,2,4] [(4,.v (.pointer (some ⟨g,0,none⟩)))] 129 [.pointer (some ⟨g,0,none⟩)] (some 5) 0 rfl rfl hlo (l17Sender_c_K hBw hap) ?_
 rintro ⟨y1,hy1⟩
 refine kEA [0,2,3] [(3,.p 1 0)] [⟨27,sndL y1⟩] ?_
 refine kS ?_
 refine kQ ?_
 refine kWD 1 [0,2,3,6] [(6,.v (.pointer (some ⟨g,0,none⟩)))] 86 [.pointer (some ⟨g,0,none⟩),.int .i64 10] (some 7) 0 rfl rfl hlo (l1Below_c_K hBw hap) ?_
 rintro ⟨y2,hy2⟩
 obtain ⟨hy20,hy21⟩ := hy2
 refine kED [0,2,3,7] [] ?_
 refine xw_block ?_
 refine kQ ?_
 refine kED [0,2,3,7,8] [(8,.v (.bool (y2 == 0)))] ?_
 refine kC (y2 == 0) (fun h3 => ?_) (fun h3 => ?_)
 have h3p := eqT h3
 refine kG ?_
 refine kWD 1 [2,3,10] [(10,.v (.pointer (some ⟨g,0,none⟩)))] 123 [.pointer (some ⟨g,0,none⟩)] (some 11) 0 rfl rfl hlo (l2Word_c_K hBw hap) ?_
 rintro ⟨y4,hy4⟩
 refine kEU [2,3] [] 1 ⟨27,sndL { y1 with una := y4 }⟩ ?_
 refine kQ ?_
 refine kEU [2] [(2,.p 0 0)] 0 ⟨27,sndL { y1 with una := y4 }⟩ ?_
 refine kR ?_
 exact ⟨[.agg (sndL { y1 with una := y4 }).toArray],by kernel_rfl,fun w' hb hf => ⟨⟨{ y1 with una := y4 },trivial⟩,rfl,hf (curF B g 100 (.slice A code.length cap) code.length) (by simp),frF_chgd (hf (frF w (fun b => b = g)) (by simp)) hb rfl rfl rfl⟩⟩
 have h3p := eqF h3
 refine kQ ?_
 refine kED [0,2,3,7,13] [(13,.v (.bool (y2 == 1)))] ?_
 refine kC (y2 == 1) (fun h5 => ?_) (fun h5 => ?_)
 have h5p := eqT h5
 refine kG ?_
 refine kHD 5 [2,3,15,19] [(15,.v (.pointer (some ⟨g,0,none⟩))),(19,.v (.int .i64 (IntKind.i64.wrap ((y1.data.size : Int) + 1))))] rfl (hv_build (e := 3) (K := 1) (bytes := 8) [.int .i64 (-1),.int .i64 0,.int .i64 48,.int .i64 49,.int .i64 (IntKind.i64.wrap ((y1.data.size : Int) + 1))] rfl (by kernel_rfl) (by kernel_rfl) (by kernel_rfl) (by kernel_rfl) (by kernel_rfl) (rs := ([(-1),0,48,49,IntKind.i64.wrap ((y1.data.size : Int) + 1)] : List Int).map intRow) rfl) ?_
 intro g6
 refine xl_know (φ := ¬ (slF (.slice (some ⟨g6,0,none⟩) 5 5) 1 (([(-1),0,48,49,IntKind.i64.wrap ((y1.data.size : Int) + 1)] : List Int).map intRow)).blk g) (fun _ _ _ _ hr => fun hb => hr.2.apart 0 1 (rowF (cutW w B).heap.size 3 1 (.slice (some ⟨g6,0,none⟩) 5 5) (([(-1),0,48,49,IntKind.i64.wrap ((y1.data.size : Int) + 1)] : List Int).map intRow)) (curF B g 100 (.slice A code.length cap) code.length) rfl rfl (by decide) rfl g (rowF_sblk hb) rfl) (fun hk7 => ?_)
 refine kWD 0 [2,3,15,20] [] 66 [.pointer (some ⟨g,0,none⟩),.slice (some ⟨g6,0,none⟩) 5 5] (some 21) 1 rfl rfl hlo (l1PickInt_c_K hBw hap (fun ww hw hf => (rowF_sl (hf _ m0))) hk7 (by simp)) ?_
 rintro ⟨y8,hy8⟩
 refine kEU [2,3] [] 1 ⟨27,sndL { y1 with sent := y8 }⟩ ?_
 refine kQ ?_
 refine kEU [2] [(2,.p 0 0)] 0 ⟨27,sndL { y1 with sent := y8 }⟩ ?_
 refine kR ?_
 exact ⟨[.agg (sndL { y1 with sent := y8 }).toArray],by kernel_rfl,fun w' hb hf => ⟨⟨{ y1 with sent := y8 },trivial⟩,rfl,hf (curF B g 100 (.slice A code.length cap) code.length) (by simp),frF_chgd (hf (frF w (fun b => b = g)) (by simp)) hb rfl rfl rfl⟩⟩
 have h5p := eqF h5
 refine kQ ?_
 refine kED [0,2,3,7,23] [(23,.v (.bool (y2 == 2)))] ?_
 refine kC (y2 == 2) (fun h9 => ?_) (fun h9 => ?_)
 have h9p := eqT h9
 refine kG ?_
 refine kEU [2,3] [] 1 ⟨27,sndL { y1 with finSent := !y1.finSent }⟩ ?_
 refine kQ ?_
 refine kEU [2] [(2,.p 0 0)] 0 ⟨27,sndL { y1 with finSent := !y1.finSent }⟩ ?_
 refine kR ?_
 exact ⟨[.agg (sndL { y1 with finSent := !y1.finSent }).toArray],by kernel_rfl,fun w' hb hf => ⟨⟨{ y1 with finSent := !y1.finSent },trivial⟩,rfl,hf (curF B g 100 (.slice A code.length cap) code.length) (by simp),frF_chgd (hf (frF w (fun b => b = g)) (by simp)) hb rfl rfl rfl⟩⟩
 have h9p := eqF h9
 refine kQ ?_
 refine kED [0,2,3,7,29] [(29,.v (.bool (y2 == 3)))] ?_
 refine kC (y2 == 3) (fun h10 => ?_) (fun h10 => ?_)
 have h10p := eqT h10
 refine kG ?_
 refine kEU [2,3] [] 1 ⟨27,sndL { y1 with done := !y1.done }⟩ ?_
 refine kQ ?_
 refine kEU [2] [(2,.p 0 0)] 0 ⟨27,sndL { y1 with done := !y1.done }⟩ ?_
 refine kR ?_
 exact ⟨[.agg (sndL { y1 with done := !y1.done }).toArray],by kernel_rfl,fun w' hb hf => ⟨⟨{ y1 with done := !y1.done },trivial⟩,rfl,hf (curF B g 100 (.slice A code.length cap) code.length) (by simp),frF_chgd (hf (frF w (fun b => b = g)) (by simp)) hb rfl rfl rfl⟩⟩
 have h10p := eqF h10
 refine kQ ?_
 refine kED [0,2,3,35] [(35,.v (.bool (y2 == 4)))] ?_
 refine kC (y2 == 4) (fun h11 => ?_) (fun h11 => ?_)
 have h11p := eqT h11
 refine kG ?_
 refine kWD 1 [2,3,37] [(37,.v (.pointer (some ⟨g,0,none⟩)))] 86 [.pointer (some ⟨g,0,none⟩),.int .i64 3] (some 38) 0 rfl rfl hlo (l1Below_c_K hBw hap) ?_
 rintro ⟨y12,hy12⟩
 obtain ⟨hy120,hy121⟩ := hy12
 refine kCS 1 [2,3,39] [(2,.p 0 0),(3,.p 1 0),(39,.v (.int .i64 (IntKind.i64.wrap (47 + y12))))] 65 [.int .i64 (IntKind.i64.wrap (47 + y12))] (some 40) rfl (xc_b fun ww hf => l5Long_c (IntKind.i64.wrap (47 + y12)) ww (by first | omega | (rw [wrap_id (by omega) (by omega)]; omega))) ?_
 intro _
 refine kEU [2,3] [] 1 ⟨27,sndL { y1 with data := bstr (List.replicate ((IntKind.i64.wrap (47 + y12))).toNat 0) }⟩ ?_
 refine kQ ?_
 refine kEU [2] [(2,.p 0 0)] 0 ⟨27,sndL { y1 with data := bstr (List.replicate ((IntKind.i64.wrap (47 + y12))).toNat 0) }⟩ ?_
 refine kR ?_
 exact ⟨[.agg (sndL { y1 with data := bstr (List.replicate ((IntKind.i64.wrap (47 + y12))).toNat 0) }).toArray],by kernel_rfl,fun w' hb hf => ⟨⟨{ y1 with data := bstr (List.replicate ((IntKind.i64.wrap (47 + y12))).toNat 0) },trivial⟩,rfl,hf (curF B g 100 (.slice A code.length cap) code.length) (by simp),frF_chgd (hf (frF w (fun b => b = g)) (by simp)) hb rfl rfl rfl⟩⟩
 have h11p := eqF h11
 refine kK ?_
 refine kQ ?_
 refine kEU [2] [(2,.p 0 0)] 0 ⟨27,sndL y1⟩ ?_
 refine kR ?_
 exact ⟨[.agg (sndL y1).toArray],by kernel_rfl,fun w' hb hf => ⟨⟨y1,trivial⟩,rfl,hf (curF B g 100 (.slice A code.length cap) code.length) (by simp),frF_chgd (hf (frF w (fun b => b = g)) (by simp)) hb rfl rfl rfl⟩⟩
theorem l17Bent_c_K {g : Nat} {code : List Int} {A : Option Addr} {cap : Nat}  {w0 : World} {fs : List Fact} {B : Nat} (hB : B ≤ w0.heap.size) (hap : ¬ (slF (.slice A code.length cap) 1 (code.map byteRow)).blk g)  (hn : code.length ≤ 1048576 := by omega) (h1 : curF B g 100 (.slice A code.length cap) code.length ∈ fs := by simp) (h2 : slF (.slice A code.length cap) 1 (code.map byteRow) ∈ fs := by simp) : XCM Tryz.prog w0 fs (curF B g 100 (.slice A code.length cap) code.length).blk 108 [.pointer (some ⟨g, 0, none⟩)] (α := {y : Snd // True}) (fun y => .agg (sndL y.1).toArray) (fun _ => [curF B g 100 (.slice A code.length cap) code.length]) := xcm_cur fun w hw hf => l17Bent_c g code A cap  w B (Nat.le_trans hB hw) (hf _ h1) (hf _ h2) hap hn  
theorem l4Near_c (g : Nat) (code : List Int) (A : Option Addr) (cap : Nat) (x : Int) (w : World) (B : Nat) (hB : B ≤ w.heap.size) (hc : (curF B g 100 (.slice A code.length cap) code.length).p w) (hl : Sl w (.slice A code.length cap) 1 (code.map byteRow)) (hap : ¬ (slF (.slice A code.length cap) 1 (code.map byteRow)).blk g) (hn : code.length ≤ 1048576)  : Calls Tryz.prog 121 #[.pointer (some ⟨g, 0, none⟩), .int .i64 x] w fun e w' => ∃ y : {y : Int // True}, e = .returned (.int .i64 y.1) ∧ (curF B g 100 (.slice A code.length cap) code.length).p w' ∧ Chgd (fun b => b = g) w w' := by
 have hq_code := Sl.capLe hl
 have hBw : B ≤ (cutW w B).heap.size := Nat.le_of_eq (cutW_size hB).symm
 have hlo : ∀ (ww : World) (b : Nat),(curF B g 100 (.slice A code.length cap) code.length).p ww → (curF B g 100 (.slice A code.length cap) code.length).blk b → (cutW w B).heap.size ≤ b := fun ww b h hb => Nat.le_trans (cutW_le w B) (cur_lo h hb)
 refine x_callsM (args := [.pointer (some ⟨g,0,none⟩),.int .i64 x]) (fn := Tryz.f121) [curF B g 100 (.slice A code.length cap) code.length,slF (.slice A code.length cap) 1 (code.map byteRow),frF w (fun b => b = g)] B Tryz.func121 rfl Tryz.ntmps121 rfl hB (by simp only [List.mem_cons,List.not_mem_nil,or_false,forall_eq_or_imp,forall_eq]; exact ⟨hc,hl,frF_start w _⟩) (apart_cur hap rfl) ?_
 refine kQ ?_
 refine kEF [0,1] ⟨[(0,.v (.pointer (some ⟨g,0,none⟩))),(1,.v (.int .i64 x))],[],[],[curF B g 100 (.slice A code.length cap) code.length,slF (.slice A code.length cap) 1 (code.map byteRow),frF w (fun b => b = g)]⟩ ?_
 refine kS ?_
 refine kQ ?_
 refine kWD 1 [0,1,5] [(5,.v (.pointer (some ⟨g,0,none⟩)))] 86 [.pointer (some ⟨g,0,none⟩),.int .i64 4] (some 6) 0 rfl rfl hlo (l1Below_c_K hBw hap) ?_
 rintro ⟨y1,hy1⟩
 obtain ⟨hy10,hy11⟩ := hy1
 refine kED [0,1,6] [] ?_
 refine xw_block ?_
 refine kQ ?_
 refine kED [0,1,6,7] [(7,.v (.bool (y1 == 0)))] ?_
 refine kC (y1 == 0) (fun h2 => ?_) (fun h2 => ?_)
 have h2p := eqT h2
 refine kQ ?_
 refine kWS 1 [9] [(9,.v (.pointer (some ⟨g,0,none⟩)))] 133 [.pointer (some ⟨g,0,none⟩)] (some 10) 0 rfl rfl hlo (l4Place_c_K hBw hap) ?_
 rintro ⟨y3,hy3⟩
 refine kES [4] [(4,.v (.int .i64 y3))] ?_
 refine kR ?_
 exact ⟨[.int .i64 y3],by kernel_rfl,fun w' hb hf => ⟨⟨y3,trivial⟩,rfl,hf (curF B g 100 (.slice A code.length cap) code.length) (by simp),frF_chgd (hf (frF w (fun b => b = g)) (by simp)) hb rfl rfl rfl⟩⟩
 have h2p := eqF h2
 refine kQ ?_
 refine kED [0,1,11] [(11,.v (.bool (y1 == 1)))] ?_
 refine kC (y1 == 1) (fun h4 => ?_) (fun h4 => ?_)
 have h4p := eqT h4
 refine kQ ?_
 refine kHS 2 [13,14] [(13,.v (.int .i64 x)),(14,.v (.pointer (some ⟨g,0,none⟩)))] rfl (hv_build (e := 3) (K := 1) (bytes := 8) [.int .i64 2147483647,.int .i64 2147483648,.int .i64 (-1),.int .i64 1,.int .i64 0] rfl (by kernel_rfl) (by kernel_rfl) (by kernel_rfl) (by kernel_rfl) (by kernel_rfl) (rs := ([2147483647,2147483648,(-1),1,0] : List Int).map intRow) rfl) ?_
 intro g5
 refine xl_know (φ := ¬ (slF (.slice (some ⟨g5,0,none⟩) 5 5) 1 (([2147483647,2147483648,(-1),1,0] : List Int).map intRow)).blk g) (fun _ _ _ _ hr => fun hb => hr.2.apart 0 1 (rowF (cutW w B).heap.size 3 1 (.slice (some ⟨g5,0,none⟩) 5 5) (([2147483647,2147483648,(-1),1,0] : List Int).map intRow)) (curF B g 100 (.slice A code.length cap) code.length) rfl rfl (by decide) rfl g (rowF_sblk hb) rfl) (fun hk6 => ?_)
 refine kWD 0 [13,14,15] [] 66 [.pointer (some ⟨g,0,none⟩),.slice (some ⟨g5,0,none⟩) 5 5] (some 16) 1 rfl rfl hlo (l1PickInt_c_K hBw hap (fun ww hw hf => (rowF_sl (hf _ m0))) hk6 (by simp)) ?_
 rintro ⟨y7,hy7⟩
 refine kCD 0 [13,16] [] 60 [.int .i64 x,.int .i64 y7] (some 17) rfl (xc_s fun ww hf => sSeqAdd_c x y7 ww ) ?_
 intro _
 refine kES [4] [(4,.v (.int .i64 (seqAdd x y7)))] ?_
 refine kR ?_
 exact ⟨[.int .i64 (seqAdd x y7)],by kernel_rfl,fun w' hb hf => ⟨⟨seqAdd x y7,trivial⟩,rfl,hf (curF B g 100 (.slice A code.length cap) code.length) (by simp),frF_chgd (hf (frF w (fun b => b = g)) (by simp)) hb rfl rfl rfl⟩⟩
 have h4p := eqF h4
 refine kK ?_
 refine kQ ?_
 refine kWS 2 [18,19] [(18,.v (.int .i64 x)),(19,.v (.pointer (some ⟨g,0,none⟩)))] 86 [.pointer (some ⟨g,0,none⟩),.int .i64 41] (some 20) 0 rfl rfl hlo (l1Below_c_K hBw hap) ?_
 rintro ⟨y8,hy8⟩
 obtain ⟨hy80,hy81⟩ := hy8
 refine kCD 1 [18,21] [(21,.v (.int .i64 (IntKind.i64.wrap (y8 - 20))))] 60 [.int .i64 x,.int .i64 (IntKind.i64.wrap (y8 - 20))] (some 22) rfl (xc_s fun ww hf => sSeqAdd_c x (IntKind.i64.wrap (y8 - 20)) ww ) ?_
 intro _
 refine kES [4] [(4,.v (.int .i64 (seqAdd x (IntKind.i64.wrap (y8 - 20)))))] ?_
 refine kR ?_
 exact ⟨[.int .i64 (seqAdd x (IntKind.i64.wrap (y8 - 20)))],by kernel_rfl,fun w' hb hf => ⟨⟨seqAdd x (IntKind.i64.wrap (y8 - 20)),trivial⟩,rfl,hf (curF B g 100 (.slice A code.length cap) code.length) (by simp),frF_chgd (hf (frF w (fun b => b = g)) (by simp)) hb rfl rfl rfl⟩⟩
theorem l4Near_c_K {g : Nat} {code : List Int} {A : Option Addr} {cap : Nat} {x : Int} {w0 : World} {fs : List Fact} {B : Nat} (hB : B ≤ w0.heap.size) (hap : ¬ (slF (.slice A code.length cap) 1 (code.map byteRow)).blk g)  (hn : code.length ≤ 1048576 := by omega) (h1 : curF B g 100 (.slice A code.length cap) code.length ∈ fs := by simp) (h2 : slF (.slice A code.length cap) 1 (code.map byteRow) ∈ fs := by simp) : XCM Tryz.prog w0 fs (curF B g 100 (.slice A code.length cap) code.length).blk 121 [.pointer (some ⟨g, 0, none⟩), .int .i64 x] (α := {y : Int // True}) (fun y => .int .i64 y.1) (fun _ => [curF B g 100 (.slice A code.length cap) code.length]) := xcm_cur fun w hw hf => l4Near_c g code A cap x w B (Nat.le_trans hB hw) (hf _ h1) (hf _ h2) hap hn  
theorem l19Segment_c (g : Nat) (code : List Int) (A : Option Addr) (cap : Nat) (x : Con) (x_r_heldV : Value) (w : World) (B : Nat) (hB : B ≤ w.heap.size) (hc : (curF B g 100 (.slice A code.length cap) code.length).p w) (hl : Sl w (.slice A code.length cap) 1 (code.map byteRow)) (hap : ¬ (slF (.slice A code.length cap) 1 (code.map byteRow)).blk g) (hn : code.length ≤ 1048576)  : Calls Tryz.prog 100 #[.pointer (some ⟨g, 0, none⟩), .agg (conL x x_r_heldV).toArray] w fun e w' => ∃ y : {y : Seg // y.body.size ≤ 4096}, e = .returned (.agg (segL y.1).toArray) ∧ (curF B g 100 (.slice A code.length cap) code.length).p w' ∧ Chgd (fun b => b = g) w w' := by
 have hq_code := Sl.capLe hl
 have hBw : B ≤ (cutW w B).heap.size := Nat.le_of_eq (cutW_size hB).symm
 have hlo : ∀ (ww : World) (b : Nat),(curF B g 100 (.slice A code.length cap) code.length).p ww → (curF B g 100 (.slice A code.length cap) code.length).blk b → (cutW w B).heap.size ≤ b := fun ww b h hb => Nat.le_trans (cutW_le w B) (cur_lo h hb)
 refine x_callsM (args := [.pointer (some ⟨g,0,none⟩),.agg (conL x x_r_heldV).toArray]) (fn := Tryz.f100) [curF B g 100 (.slice A code.length cap) code.length,slF (.slice A code.length cap) 1 (code.map byteRow),frF w (fun b => b = g)] B Tryz.func100 rfl Tryz.ntmps100 rfl hB (by simp only [List.mem_cons,List.not_mem_nil,or_false,forall_eq_or_imp,forall_eq]; exact ⟨hc,hl,frF_start w _⟩) (apart_cur hap rfl) ?_
 refine kQ ?_
 refine kEF [0,3,4] ⟨[(0,.v (.pointer (some ⟨g,0,none⟩))),(3,.p 0 0),(4,.p 1 0)],[⟨34,conL x x_r_heldV⟩,⟨36,segZ⟩],[],[curF B g 100 (.slice A code.length cap) code.length,slF (.slice A code.length cap) 1 (code.map byteRow),frF w (fun b => b = g)]⟩ ?_
 refine kQ ?_
 refine kWD 3 [0,3,4,10,12] [(10,.v (.pointer (some ⟨g,0,none⟩))),(12,.v (.agg (rcvL x.r x_r_heldV).toArray))] 119 [.pointer (some ⟨g,0,none⟩),.agg (rcvL x.r x_r_heldV).toArray] (some 13) 0 rfl rfl hlo (l18Stream_c_K hBw hap) ?_
 rintro ⟨y1,hy1⟩
 refine kED [0,3,4,5,6,7] [(5,.v (.int .i64 y1.1)),(6,.v (.string y1.2.1)),(7,.v (.bool y1.2.2))] ?_
 refine kS ?_
 refine xw_joinF (α := {zz : Int // (fun (sq : Int) => True) zz}) (fun zz => (fun (sq : Int) => (⟨[(0,.v (.pointer (some ⟨g,0,none⟩))),(3,.p 0 0),(4,.p 1 0),(5,.v (.int .i64 sq)),(6,.v (.string y1.2.1)),(7,.v (.bool y1.2.2))],[⟨34,conL x x_r_heldV⟩,⟨36,segZ⟩],[],[curF B g 100 (.slice A code.length cap) code.length,slF (.slice A code.length cap) 1 (code.map byteRow),frF w (fun b => b = g)]⟩ : St)) zz.1) ?_ ?_
 refine kQ ?_
 refine kWD 1 [0,3,4,5,6,7,17] [(17,.v (.pointer (some ⟨g,0,none⟩)))] 64 [.pointer (some ⟨g,0,none⟩),.int .i64 2] (some 18) 0 rfl rfl hlo (l1Once_c_K hBw hap) ?_
 rintro ⟨y2,hy2⟩
 refine kED [0,3,4,5,6,7,18] [] ?_
 refine kC (y2) (fun h3 => ?_) (fun h3 => ?_)
 refine kG ?_
 refine kED [0,3,4,5,6,7] [(5,.v (.int .i64 x.r.next))] ?_
 exact ⟨⟨(x.r.next),⟨⟩⟩,kF 2 0 [0,3,4,5,6,7]⟩
 refine kK ?_
 exact ⟨⟨(y1.1),⟨⟩⟩,kF 2 0 [0,3,4,5,6,7]⟩
 rintro ⟨sq,-⟩
 try dsimp only
 refine kS ?_
 refine xe_region0 [] (by kernel_rfl) (fun ρ σ => ?_)
 refine xe_cut (α := {zz : Int × Nat × Int // (fun (y755 : Int) (g905 : Nat) (y956 : Int) => 0 ≤ y755 ∧ (0 < (IntKind.i64.wrap ((flown x.s) + 1)) → y755 < (IntKind.i64.wrap ((flown x.s) + 1)))) zz.1 zz.2.1 zz.2.2}) (fun zz => (fun (y755 : Int) (g905 : Nat) (y956 : Int) => (⟨[(0,.v (.pointer (some ⟨g,0,none⟩))),(3,.p 0 0),(4,.p 1 0),(7,.v (.bool y1.2.2)),(8,.p 2 0)],[⟨34,conL x x_r_heldV⟩,⟨36,segZ⟩,⟨36,[.int .i64 x.t.port,.int .i64 x.t.my,.int .i64 sq,.int .i64 (seqAdd x.s.una y755),.int .i64 16,.int .i64 y956,.int .i64 0,.int .i64 (-1),.bool false,.bool false,.int .i64 0,.int .i64 0,.string y1.2.1]⟩],[],[curF B g 100 (.slice A code.length cap) code.length,frF w (fun b => b = g),rowF (cutW w B).heap.size 3 1 (.slice (some ⟨g905,0,none⟩) 5 5) (([0,1,8,64,65535] : List Int).map intRow),slF (.slice A code.length cap) 1 (code.map byteRow)]⟩ : St)) zz.1.1 zz.1.2.1 zz.1.2.2) 0 #[true,true,true,true,true,true,true,true,true,true,true,true,true,true,true,true,true,true,true,true,true,true,true,true,true] ?_ (fun hD7 => ?_)
 rintro ⟨⟨y755,g905,y956⟩,hy755⟩
 dsimp only
 try dsimp only at hy755
 obtain ⟨hy7550,hy7551⟩ := hy755
 refine kZ ?_
 refine kS ?_
 refine xw_joinF (α := {zz : Seg // (fun (sg : Seg) => sg.body.size ≤ 4096) zz}) (fun zz => (fun (sg : Seg) => (⟨[(0,.v (.pointer (some ⟨g,0,none⟩))),(3,.p 0 0),(4,.p 1 0),(8,.p 2 0)],[⟨34,conL x x_r_heldV⟩,⟨36,segZ⟩,⟨36,segL sg⟩],[],[curF B g 100 (.slice A code.length cap) code.length,frF w (fun b => b = g),rowF (cutW w B).heap.size 3 1 (.slice (some ⟨g905,0,none⟩) 5 5) (([0,1,8,64,65535] : List Int).map intRow),slF (.slice A code.length cap) 1 (code.map byteRow)]⟩ : St)) zz.1) ?_ ?_
 refine kQ ?_
 refine kED [0,3,4,8,45] [(45,.v (.bool y1.2.2))] ?_
 refine kC (y1.2.2) (fun h1258 => ?_) (fun h1258 => ?_)
 refine kG ?_
 refine kEU [0,3,4,8] [] 2 ⟨36,[.int .i64 x.t.port,.int .i64 x.t.my,.int .i64 sq,.int .i64 (seqAdd x.s.una y755),.int .i64 17,.int .i64 y956,.int .i64 0,.int .i64 (-1),.bool false,.bool false,.int .i64 0,.int .i64 0,.string y1.2.1]⟩ ?_
 exact ⟨⟨(⟨x.t.port,x.t.my,sq,seqAdd x.s.una y755,17,y956,⟨0,(-1),false,false,0,0⟩,y1.2.1⟩),(by first | assumption | (dsimp only; assumption) | exact Nat.zero_le _)⟩,kF 3 0 [0,3,4,8]⟩
 refine kK ?_
 exact ⟨⟨(⟨x.t.port,x.t.my,sq,seqAdd x.s.una y755,16,y956,⟨0,(-1),false,false,0,0⟩,y1.2.1⟩),(by first | assumption | (dsimp only; assumption) | exact Nat.zero_le _)⟩,kF 3 0 [0,3,4,8]⟩
 rintro ⟨sg,hsg⟩
 try dsimp only
 try dsimp only at hsg
 refine kS ?_
 refine xw_joinF (α := {zz : Seg // (fun (sh : Seg) => sh.body.size ≤ 4096) zz}) (fun zz => (fun (sh : Seg) => (⟨[(4,.p 1 0),(8,.p 2 0)],[⟨34,conL x x_r_heldV⟩,⟨36,segZ⟩,⟨36,segL sh⟩],[],[curF B g 100 (.slice A code.length cap) code.length,frF w (fun b => b = g),rowF (cutW w B).heap.size 3 1 (.slice (some ⟨g905,0,none⟩) 5 5) (([0,1,8,64,65535] : List Int).map intRow),slF (.slice A code.length cap) 1 (code.map byteRow)]⟩ : St)) zz.1) ?_ ?_
 refine kQ ?_
 refine kWD 1 [0,3,4,8,50] [(50,.v (.pointer (some ⟨g,0,none⟩)))] 86 [.pointer (some ⟨g,0,none⟩),.int .i64 10] (some 51) 0 rfl rfl hlo (l1Below_c_K hBw hap) ?_
 rintro ⟨y1259,hy1259⟩
 obtain ⟨hy12590,hy12591⟩ := hy1259
 refine kED [0,3,4,8,51] [] ?_
 refine xw_block ?_
 refine kQ ?_
 refine kED [0,3,4,8,51,52] [(52,.v (.bool (y1259 == 0)))] ?_
 refine kC (y1259 == 0) (fun h1260 => ?_) (fun h1260 => ?_)
 have h1260p := eqT h1260
 refine kG ?_
 refine kWD 1 [4,8,54] [(54,.v (.pointer (some ⟨g,0,none⟩)))] 120 [.pointer (some ⟨g,0,none⟩)] (some 55) 0 rfl rfl hlo (l9Flags_c_K hBw hap) ?_
 rintro ⟨y1261,hy1261⟩
 refine kEU [4,8] [] 2 ⟨36,segL { sg with flags := y1261 }⟩ ?_
 exact ⟨⟨({ sg with flags := y1261 }),(by first | assumption | (dsimp only; assumption) | exact Nat.zero_le _)⟩,kF 3 0 [4,8]⟩
 have h1260p := eqF h1260
 refine kQ ?_
 refine kED [0,3,4,8,51,57] [(57,.v (.bool (y1259 == 1)))] ?_
 refine kC (y1259 == 1) (fun h1262 => ?_) (fun h1262 => ?_)
 have h1262p := eqT h1262
 refine kG ?_
 refine kWD 4 [4,8,59,62] [(59,.v (.pointer (some ⟨g,0,none⟩))),(62,.v (.int .i64 x.s.una))] 121 [.pointer (some ⟨g,0,none⟩),.int .i64 x.s.una] (some 63) 0 rfl rfl hlo (l4Near_c_K hBw hap) ?_
 rintro ⟨y1263,hy1263⟩
 refine kEU [4,8] [] 2 ⟨36,segL { sg with ack := y1263 }⟩ ?_
 exact ⟨⟨({ sg with ack := y1263 }),(by first | assumption | (dsimp only; assumption) | exact Nat.zero_le _)⟩,kF 3 0 [4,8]⟩
 have h1262p := eqF h1262
 refine kQ ?_
 refine kED [0,3,4,8,51,65] [(65,.v (.bool (y1259 == 2)))] ?_
 refine kC (y1259 == 2) (fun h1264 => ?_) (fun h1264 => ?_)
 have h1264p := eqT h1264
 refine kG ?_
 refine kWD 4 [4,8,67,70] [(67,.v (.pointer (some ⟨g,0,none⟩))),(70,.v (.int .i64 x.r.next))] 121 [.pointer (some ⟨g,0,none⟩),.int .i64 x.r.next] (some 71) 0 rfl rfl hlo (l4Near_c_K hBw hap) ?_
 rintro ⟨y1265,hy1265⟩
 refine kEF [4,8] ⟨[(4,.p 1 0),(8,.p 2 0)],[⟨34,conL x x_r_heldV⟩,⟨36,segZ⟩,⟨36,segL { sg with seq := y1265 }⟩],[],[curF B g 100 (.slice A code.length cap) code.length,frF w (fun b => b = g),rowF (cutW w B).heap.size 3 1 (.slice (some ⟨g905,0,none⟩) 5 5) (([0,1,8,64,65535] : List Int).map intRow),slF (.slice A code.length cap) 1 (code.map byteRow)]⟩ ?_
 exact ⟨⟨({ sg with seq := y1265 }),(by first | assumption | (dsimp only; assumption) | exact Nat.zero_le _)⟩,kF 3 0 [4,8]⟩
 have h1264p := eqF h1264
 refine kQ ?_
 refine kED [4,8,73] [(73,.v (.bool (y1259 == 3)))] ?_
 refine kC (y1259 == 3) (fun h1266 => ?_) (fun h1266 => ?_)
 have h1266p := eqT h1266
 refine kG ?_
 refine kEF [4,8] ⟨[(4,.p 1 0),(8,.p 2 0)],[⟨34,conL x x_r_heldV⟩,⟨36,segZ⟩,⟨36,segL { sg with body := (⟨#[]⟩ : ByteArray) }⟩],[],[curF B g 100 (.slice A code.length cap) code.length,frF w (fun b => b = g),rowF (cutW w B).heap.size 3 1 (.slice (some ⟨g905,0,none⟩) 5 5) (([0,1,8,64,65535] : List Int).map intRow),slF (.slice A code.length cap) 1 (code.map byteRow)]⟩ ?_
 exact ⟨⟨({ sg with body := (⟨#[]⟩ : ByteArray) }),(by first | assumption | (dsimp only; assumption) | exact Nat.zero_le _)⟩,kF 3 0 [4,8]⟩
 have h1266p := eqF h1266
 refine kK ?_
 exact ⟨⟨(sg),(by first | assumption | (dsimp only; assumption) | exact Nat.zero_le _)⟩,kF 3 0 [4,8]⟩
 rintro ⟨sh,hsh⟩
 try dsimp only
 try dsimp only at hsh
 refine kQ ?_
 refine kCD 2 [4,8,77] [(77,.v (.int .i64 sh.seq))] 104 [.int .i64 sh.seq] (some 78) rfl (xc_s fun ww hf => sRest_c sh.seq ww ) ?_
 intro _
 refine kEU [4,8] [] 2 ⟨36,segL { sh with seq := sh.seq % 4294967296 }⟩ ?_
 refine kQ ?_
 refine kCD 2 [4,8,81] [(81,.v (.int .i64 sh.ack))] 104 [.int .i64 sh.ack] (some 82) rfl (xc_s fun ww hf => sRest_c sh.ack ww ) ?_
 intro _
 refine kEU [4,8] [] 2 ⟨36,segL { sh with seq := sh.seq % 4294967296,ack := sh.ack % 4294967296 }⟩ ?_
 refine kQ ?_
 refine kEU [4] [(4,.p 1 0)] 1 ⟨36,segL { sh with seq := sh.seq % 4294967296,ack := sh.ack % 4294967296 }⟩ ?_
 refine kR ?_
 exact ⟨[.agg (segL { sh with seq := sh.seq % 4294967296,ack := sh.ack % 4294967296 }).toArray],by kernel_rfl,fun w' hb hf => ⟨⟨{ sh with seq := sh.seq % 4294967296,ack := sh.ack % 4294967296 },(by first | assumption | (dsimp only; assumption) | exact Nat.zero_le _)⟩,rfl,hf (curF B g 100 (.slice A code.length cap) code.length) (by simp),frF_chgd (hf (frF w (fun b => b = g)) (by simp)) hb rfl rfl rfl⟩⟩
 refine xe_cut (α := {zz : Int × Nat × Int // (fun (y755 : Int) (g905 : Nat) (y956 : Int) => 0 ≤ y755 ∧ (0 < (IntKind.i64.wrap ((flown x.s) + 1)) → y755 < (IntKind.i64.wrap ((flown x.s) + 1)))) zz.1 zz.2.1 zz.2.2}) (fun zz => (fun (y755 : Int) (g905 : Nat) (y956 : Int) => (⟨[(0,.v (.pointer (some ⟨g,0,none⟩))),(3,.p 0 0),(4,.p 1 0),(7,.v (.bool y1.2.2)),(8,.p 2 0),(44,.v (.agg #[.int .i64 x.t.port,.int .i64 x.t.my,.int .i64 sq,.int .i64 (seqAdd x.s.una y755),.int .i64 16,.int .i64 y956,.int .i64 0,.int .i64 (-1),.bool false,.bool false,.int .i64 0,.int .i64 0,.string y1.2.1]))],[⟨34,conL x x_r_heldV⟩,⟨36,segZ⟩,⟨36,segZ⟩],[],[curF B g 100 (.slice A code.length cap) code.length,frF w (fun b => b = g),rowF (cutW w B).heap.size 3 1 (.slice (some ⟨g905,0,none⟩) 5 5) (([0,1,8,64,65535] : List Int).map intRow),slF (.slice A code.length cap) 1 (code.map byteRow)]⟩ : St)) zz.1.1 zz.1.2.1 zz.1.2.2) 1 #[true,true,true,true,true,true,true,true,true,true,true,true,true,true,true,true,true,true,true,true,true,true,true,true,false] ?_ (fun hD6 => ?_)
 rintro ⟨⟨y755,g905,y956⟩,hy755⟩
 dsimp only
 try dsimp only at hy755
 obtain ⟨hy7550,hy7551⟩ := hy755
 refine kA [24] ?_
 refine kSS 24 2 0 [.int .i64 x.t.port,.int .i64 x.t.my,.int .i64 sq,.int .i64 (seqAdd x.s.una y755),.int .i64 16,.int .i64 y956,.int .i64 0,.int .i64 (-1),.bool false,.bool false,.int .i64 0,.int .i64 0,.string y1.2.1] rfl ?_
 exact xe_wkL (kF 3 0 [0,3,4,7,8]) (by kernel_rfl) (hD7 ⟨(y755,g905,y956),⟨hy7550,hy7551⟩⟩)
 refine xe_cut (α := {zz : Int × Nat × Int // (fun (y755 : Int) (g905 : Nat) (y956 : Int) => 0 ≤ y755 ∧ (0 < (IntKind.i64.wrap ((flown x.s) + 1)) → y755 < (IntKind.i64.wrap ((flown x.s) + 1)))) zz.1 zz.2.1 zz.2.2}) (fun zz => (fun (y755 : Int) (g905 : Nat) (y956 : Int) => (⟨[(0,.v (.pointer (some ⟨g,0,none⟩))),(3,.p 0 0),(4,.p 1 0),(7,.v (.bool y1.2.2)),(24,.v (.int .i64 x.t.port)),(27,.v (.int .i64 x.t.my)),(28,.v (.int .i64 sq)),(38,.v (.int .i64 (seqAdd x.s.una y755))),(41,.v (.int .i64 y956)),(42,.v (.agg #[.int .i64 0,.int .i64 (-1),.bool false,.bool false,.int .i64 0,.int .i64 0])),(43,.v (.string y1.2.1))],[⟨34,conL x x_r_heldV⟩,⟨36,segZ⟩],[],[curF B g 100 (.slice A code.length cap) code.length,frF w (fun b => b = g),rowF (cutW w B).heap.size 3 1 (.slice (some ⟨g905,0,none⟩) 5 5) (([0,1,8,64,65535] : List Int).map intRow),slF (.slice A code.length cap) 1 (code.map byteRow)]⟩ : St)) zz.1.1 zz.1.2.1 zz.1.2.2) 3 #[true,true,true,true,true,true,true,true,true,true,true,true,true,true,true,true,true,true,true,true,true,true,false,false,false] ?_ (fun hD5 => ?_)
 rintro ⟨⟨y755,g905,y956⟩,hy755⟩
 dsimp only
 try dsimp only at hy755
 obtain ⟨hy7550,hy7551⟩ := hy755
 refine kX 22 (.agg #[.int .i64 x.t.port,.int .i64 x.t.my,.int .i64 sq,.int .i64 (seqAdd x.s.una y755),.int .i64 16,.int .i64 y956,.int .i64 0,.int .i64 (-1),.bool false,.bool false,.int .i64 0,.int .i64 0,.string y1.2.1]) rfl (fun _ _ ww hA => act_build [(0,.int .i64 x.t.port),(1,.int .i64 x.t.my),(2,.int .i64 sq),(3,.int .i64 (seqAdd x.s.una y755)),(4,.int .i64 16),(5,.int .i64 y956),(6,.agg #[.int .i64 0,.int .i64 (-1),.bool false,.bool false,.int .i64 0,.int .i64 0]),(7,.string y1.2.1)] hA rfl (by kernel_rfl) (by kernel_rfl) ww) ?_
 refine kA [23] ?_
 refine xs_box 23 ⟨36,segZ⟩ _ rfl (by kernel_rfl) (by kernel_rfl) (by kernel_rfl) (by kernel_rfl) rfl ?_
 exact xe_wkL (kF 3 0 [0,3,4,7,8,44]) (by kernel_rfl) (hD6 ⟨(y755,g905,y956),⟨hy7550,hy7551⟩⟩)
 refine xe_cut (α := {zz : Int × Nat × Int // (fun (y755 : Int) (g905 : Nat) (y956 : Int) => 0 ≤ y755 ∧ (0 < (IntKind.i64.wrap ((flown x.s) + 1)) → y755 < (IntKind.i64.wrap ((flown x.s) + 1)))) zz.1 zz.2.1 zz.2.2}) (fun zz => (fun (y755 : Int) (g905 : Nat) (y956 : Int) => (⟨[(0,.v (.pointer (some ⟨g,0,none⟩))),(3,.p 0 0),(4,.p 1 0),(7,.v (.bool y1.2.2)),(8,.p 2 0),(24,.v (.int .i64 x.t.port)),(27,.v (.int .i64 x.t.my)),(28,.v (.int .i64 sq)),(38,.v (.int .i64 (seqAdd x.s.una y755))),(41,.v (.int .i64 y956)),(42,.v (.agg #[.int .i64 0,.int .i64 (-1),.bool false,.bool false,.int .i64 0,.int .i64 0])),(43,.v (.string y1.2.1))],[⟨34,conL x x_r_heldV⟩,⟨36,segZ⟩,⟨36,segZ⟩],[],[curF B g 100 (.slice A code.length cap) code.length,frF w (fun b => b = g),rowF (cutW w B).heap.size 3 1 (.slice (some ⟨g905,0,none⟩) 5 5) (([0,1,8,64,65535] : List Int).map intRow),slF (.slice A code.length cap) 1 (code.map byteRow)]⟩ : St)) zz.1.1 zz.1.2.1 zz.1.2.2) 2 #[true,true,true,true,true,true,true,true,true,true,true,true,true,true,true,true,true,true,true,true,true,true,false,true,false] ?_ (fun hD9 => ?_)
 rintro ⟨⟨y755,g905,y956⟩,hy755⟩
 dsimp only
 try dsimp only at hy755
 obtain ⟨hy7550,hy7551⟩ := hy755
 refine kX 22 (.agg #[.int .i64 x.t.port,.int .i64 x.t.my,.int .i64 sq,.int .i64 (seqAdd x.s.una y755),.int .i64 16,.int .i64 y956,.int .i64 0,.int .i64 (-1),.bool false,.bool false,.int .i64 0,.int .i64 0,.string y1.2.1]) rfl (fun _ _ ww hA => act_build [(0,.int .i64 x.t.port),(1,.int .i64 x.t.my),(2,.int .i64 sq),(3,.int .i64 (seqAdd x.s.una y755)),(4,.int .i64 16),(5,.int .i64 y956),(6,.agg #[.int .i64 0,.int .i64 (-1),.bool false,.bool false,.int .i64 0,.int .i64 0]),(7,.string y1.2.1)] hA rfl (by kernel_rfl) (by kernel_rfl) ww) ?_
 refine kA [24] ?_
 refine kSS 24 2 0 [.int .i64 x.t.port,.int .i64 x.t.my,.int .i64 sq,.int .i64 (seqAdd x.s.una y755),.int .i64 16,.int .i64 y956,.int .i64 0,.int .i64 (-1),.bool false,.bool false,.int .i64 0,.int .i64 0,.string y1.2.1] rfl ?_
 exact xe_wkL (kF 3 0 [0,3,4,7,8]) (by kernel_rfl) (hD7 ⟨(y755,g905,y956),⟨hy7550,hy7551⟩⟩)
 refine xe_cut (α := {zz : Int × Nat × Int // (fun (y755 : Int) (g905 : Nat) (y956 : Int) => 0 ≤ y755 ∧ (0 < (IntKind.i64.wrap ((flown x.s) + 1)) → y755 < (IntKind.i64.wrap ((flown x.s) + 1)))) zz.1 zz.2.1 zz.2.2}) (fun zz => (fun (y755 : Int) (g905 : Nat) (y956 : Int) => (⟨[(0,.v (.pointer (some ⟨g,0,none⟩))),(3,.p 0 0),(4,.p 1 0),(7,.v (.bool y1.2.2)),(8,.p 2 0),(24,.v (.int .i64 x.t.port)),(27,.v (.int .i64 x.t.my)),(28,.v (.int .i64 sq)),(38,.v (.int .i64 (seqAdd x.s.una y755))),(41,.v (.int .i64 y956)),(43,.v (.string y1.2.1))],[⟨34,conL x x_r_heldV⟩,⟨36,segZ⟩,⟨36,segZ⟩],[],[curF B g 100 (.slice A code.length cap) code.length,frF w (fun b => b = g),rowF (cutW w B).heap.size 3 1 (.slice (some ⟨g905,0,none⟩) 5 5) (([0,1,8,64,65535] : List Int).map intRow),slF (.slice A code.length cap) 1 (code.map byteRow)]⟩ : St)) zz.1.1 zz.1.2.1 zz.1.2.2) 3 #[true,true,true,true,true,true,true,true,true,true,true,true,true,true,true,true,true,true,true,true,false,true,false,true,false] ?_ (fun hD8 => ?_)
 rintro ⟨⟨y755,g905,y956⟩,hy755⟩
 dsimp only
 try dsimp only at hy755
 obtain ⟨hy7550,hy7551⟩ := hy755
 refine kA [20] ?_
 refine kSC 20 117 [] (some 42) rfl (xc_b fun ww hf => sNoOptions_c  ww ) ?_
 intro _
 exact xe_wkL (kF 3 0 [0,3,4,7,8,24,27,28,38,41,42,43]) (by kernel_rfl) (hD9 ⟨(y755,g905,y956),⟨hy7550,hy7551⟩⟩)
 refine xe_cut (α := {zz : Int × Nat × Int // (fun (y755 : Int) (g905 : Nat) (y956 : Int) => 0 ≤ y755 ∧ (0 < (IntKind.i64.wrap ((flown x.s) + 1)) → y755 < (IntKind.i64.wrap ((flown x.s) + 1)))) zz.1 zz.2.1 zz.2.2}) (fun zz => (fun (y755 : Int) (g905 : Nat) (y956 : Int) => (⟨[(0,.v (.pointer (some ⟨g,0,none⟩))),(3,.p 0 0),(4,.p 1 0),(7,.v (.bool y1.2.2)),(24,.v (.int .i64 x.t.port)),(27,.v (.int .i64 x.t.my)),(28,.v (.int .i64 sq)),(38,.v (.int .i64 (seqAdd x.s.una y755))),(41,.v (.int .i64 y956)),(43,.v (.string y1.2.1))],[⟨34,conL x x_r_heldV⟩,⟨36,segZ⟩],[],[curF B g 100 (.slice A code.length cap) code.length,frF w (fun b => b = g),rowF (cutW w B).heap.size 3 1 (.slice (some ⟨g905,0,none⟩) 5 5) (([0,1,8,64,65535] : List Int).map intRow),slF (.slice A code.length cap) 1 (code.map byteRow)]⟩ : St)) zz.1.1 zz.1.2.1 zz.1.2.2) 4 #[true,true,true,true,true,true,true,true,true,true,true,true,true,true,true,true,true,true,true,true,false,true,false,false,false] ?_ (fun hD4 => ?_)
 rintro ⟨⟨y755,g905,y956⟩,hy755⟩
 dsimp only
 try dsimp only at hy755
 obtain ⟨hy7550,hy7551⟩ := hy755
 refine kA [20,23] ⟨?_,?_⟩
 refine kSC 20 117 [] (some 42) rfl (xc_b fun ww hf => sNoOptions_c  ww ) ?_
 intro _
 exact xe_wkL (kF 2 0 [0,3,4,7,24,27,28,38,41,42,43]) (by kernel_rfl) (hD5 ⟨(y755,g905,y956),⟨hy7550,hy7551⟩⟩)
 refine xs_box 23 ⟨36,segZ⟩ _ rfl (by kernel_rfl) (by kernel_rfl) (by kernel_rfl) (by kernel_rfl) rfl ?_
 exact xe_wkL (kF 3 0 [0,3,4,7,8,24,27,28,38,41,43]) (by kernel_rfl) (hD8 ⟨(y755,g905,y956),⟨hy7550,hy7551⟩⟩)
 refine xe_cut (α := {zz : Int × Nat // (fun (y755 : Int) (g905 : Nat) => 0 ≤ y755 ∧ (0 < (IntKind.i64.wrap ((flown x.s) + 1)) → y755 < (IntKind.i64.wrap ((flown x.s) + 1)))) zz.1 zz.2}) (fun zz => (fun (y755 : Int) (g905 : Nat) => (⟨[(0,.v (.pointer (some ⟨g,0,none⟩))),(3,.p 0 0),(4,.p 1 0),(7,.v (.bool y1.2.2)),(8,.p 2 0),(24,.v (.int .i64 x.t.port)),(27,.v (.int .i64 x.t.my)),(28,.v (.int .i64 sq)),(38,.v (.int .i64 (seqAdd x.s.una y755))),(39,.v (.pointer (some ⟨g,0,none⟩))),(40,.v (.slice (some ⟨g905,0,none⟩) 5 5)),(43,.v (.string y1.2.1))],[⟨34,conL x x_r_heldV⟩,⟨36,segZ⟩,⟨36,segZ⟩],[],[curF B g 100 (.slice A code.length cap) code.length,frF w (fun b => b = g),rowF (cutW w B).heap.size 3 1 (.slice (some ⟨g905,0,none⟩) 5 5) (([0,1,8,64,65535] : List Int).map intRow),slF (.slice A code.length cap) 1 (code.map byteRow)]⟩ : St)) zz.1.1 zz.1.2) 4 #[true,true,true,true,true,true,true,true,true,true,true,true,true,true,true,true,true,true,true,false,false,true,false,true,false] ?_ (fun hD10 => ?_)
 rintro ⟨⟨y755,g905⟩,hy755⟩
 dsimp only
 try dsimp only at hy755
 obtain ⟨hy7550,hy7551⟩ := hy755
 refine kA [19] ?_
 refine xs_know (φ := ¬ (slF (.slice (some ⟨g905,0,none⟩) 5 5) 1 (([0,1,8,64,65535] : List Int).map intRow)).blk g) (fun _ _ _ _ hr => fun hb => hr.2.apart 2 0 (rowF (cutW w B).heap.size 3 1 (.slice (some ⟨g905,0,none⟩) 5 5) (([0,1,8,64,65535] : List Int).map intRow)) (curF B g 100 (.slice A code.length cap) code.length) rfl rfl (by decide) rfl g (rowF_sblk hb) rfl) (fun hk955 => ?_)
 refine kSW 19 66 [.pointer (some ⟨g,0,none⟩),.slice (some ⟨g905,0,none⟩) 5 5] (some 41) 0 rfl rfl hlo (under_t (under_t under_nil)) (l1PickInt_c_K hBw hap (fun ww hw hf => (rowF_sl (hf _ m2))) hk955 (by simp)) ?_
 rintro ⟨y956,hy956⟩
 exact xe_wkL (kF 3 0 [0,3,4,7,8,24,27,28,38,41,43]) (by kernel_rfl) (hD8 ⟨(y755,g905,y956),⟨hy7550,hy7551⟩⟩)
 refine xe_cut (α := {zz : Int × Nat // (fun (y755 : Int) (g905 : Nat) => 0 ≤ y755 ∧ (0 < (IntKind.i64.wrap ((flown x.s) + 1)) → y755 < (IntKind.i64.wrap ((flown x.s) + 1)))) zz.1 zz.2}) (fun zz => (fun (y755 : Int) (g905 : Nat) => (⟨[(0,.v (.pointer (some ⟨g,0,none⟩))),(3,.p 0 0),(4,.p 1 0),(7,.v (.bool y1.2.2)),(24,.v (.int .i64 x.t.port)),(27,.v (.int .i64 x.t.my)),(28,.v (.int .i64 sq)),(38,.v (.int .i64 (seqAdd x.s.una y755))),(39,.v (.pointer (some ⟨g,0,none⟩))),(40,.v (.slice (some ⟨g905,0,none⟩) 5 5)),(43,.v (.string y1.2.1))],[⟨34,conL x x_r_heldV⟩,⟨36,segZ⟩],[],[curF B g 100 (.slice A code.length cap) code.length,frF w (fun b => b = g),rowF (cutW w B).heap.size 3 1 (.slice (some ⟨g905,0,none⟩) 5 5) (([0,1,8,64,65535] : List Int).map intRow),slF (.slice A code.length cap) 1 (code.map byteRow)]⟩ : St)) zz.1.1 zz.1.2) 5 #[true,true,true,true,true,true,true,true,true,true,true,true,true,true,true,true,true,true,true,false,false,true,false,false,false] ?_ (fun hD3 => ?_)
 rintro ⟨⟨y755,g905⟩,hy755⟩
 dsimp only
 try dsimp only at hy755
 obtain ⟨hy7550,hy7551⟩ := hy755
 refine kA [19,23] ⟨?_,?_⟩
 refine xs_know (φ := ¬ (slF (.slice (some ⟨g905,0,none⟩) 5 5) 1 (([0,1,8,64,65535] : List Int).map intRow)).blk g) (fun _ _ _ _ hr => fun hb => hr.2.apart 2 0 (rowF (cutW w B).heap.size 3 1 (.slice (some ⟨g905,0,none⟩) 5 5) (([0,1,8,64,65535] : List Int).map intRow)) (curF B g 100 (.slice A code.length cap) code.length) rfl rfl (by decide) rfl g (rowF_sblk hb) rfl) (fun hk955 => ?_)
 refine kSW 19 66 [.pointer (some ⟨g,0,none⟩),.slice (some ⟨g905,0,none⟩) 5 5] (some 41) 0 rfl rfl hlo (under_t (under_t under_nil)) (l1PickInt_c_K hBw hap (fun ww hw hf => (rowF_sl (hf _ m2))) hk955 (by simp)) ?_
 rintro ⟨y956,hy956⟩
 exact xe_wkL (kF 2 0 [0,3,4,7,24,27,28,38,41,43]) (by kernel_rfl) (hD4 ⟨(y755,g905,y956),⟨hy7550,hy7551⟩⟩)
 refine xs_box 23 ⟨36,segZ⟩ _ rfl (by kernel_rfl) (by kernel_rfl) (by kernel_rfl) (by kernel_rfl) rfl ?_
 exact xe_wkL (kF 3 0 [0,3,4,7,8,24,27,28,38,39,40,43]) (by kernel_rfl) (hD10 ⟨(y755,g905),⟨hy7550,hy7551⟩⟩)
 refine xe_cut (α := {zz : Int // (fun (y755 : Int) => 0 ≤ y755 ∧ (0 < (IntKind.i64.wrap ((flown x.s) + 1)) → y755 < (IntKind.i64.wrap ((flown x.s) + 1)))) zz}) (fun zz => (fun (y755 : Int) => (⟨[(0,.v (.pointer (some ⟨g,0,none⟩))),(3,.p 0 0),(4,.p 1 0),(7,.v (.bool y1.2.2)),(8,.p 2 0),(24,.v (.int .i64 x.t.port)),(27,.v (.int .i64 x.t.my)),(28,.v (.int .i64 sq)),(38,.v (.int .i64 (seqAdd x.s.una y755))),(39,.v (.pointer (some ⟨g,0,none⟩))),(43,.v (.string y1.2.1))],[⟨34,conL x x_r_heldV⟩,⟨36,segZ⟩,⟨36,segZ⟩],[],[curF B g 100 (.slice A code.length cap) code.length,frF w (fun b => b = g),slF (.slice A code.length cap) 1 (code.map byteRow)]⟩ : St)) zz.1) 5 #[true,true,true,true,true,true,true,true,true,true,true,true,true,true,true,true,true,true,false,false,false,true,false,true,false] ?_ (fun hD11 => ?_)
 rintro ⟨y755,hy755⟩
 try dsimp only
 try dsimp only at hy755
 obtain ⟨hy7550,hy7551⟩ := hy755
 refine kA [18] ?_
 refine kSH 18 rfl (under_t (under_t under_nil)) (hv_build (e := 3) (K := 1) (bytes := 8) [.int .i64 0,.int .i64 1,.int .i64 8,.int .i64 64,.int .i64 65535] rfl (by kernel_rfl) (by kernel_rfl) (by kernel_rfl) (by kernel_rfl) (by kernel_rfl) (rs := ([0,1,8,64,65535] : List Int).map intRow) rfl) ?_
 intro g905
 exact xe_wkL ((wk_pick [1,2,0,3] [curF B g 100 (.slice A code.length cap) code.length,frF w (fun b => b = g),rowF (cutW w B).heap.size 3 1 (.slice (some ⟨g905,0,none⟩) 5 5) (([0,1,8,64,65535] : List Int).map intRow),slF (.slice A code.length cap) 1 (code.map byteRow)] (by kernel_rfl) (by kernel_rfl)).trans <| kF 3 0 [0,3,4,7,8,24,27,28,38,39,40,43]) (by kernel_rfl) (hD10 ⟨(y755,g905),⟨hy7550,hy7551⟩⟩)
 refine xe_cut (α := {zz : Int // (fun (y755 : Int) => 0 ≤ y755 ∧ (0 < (IntKind.i64.wrap ((flown x.s) + 1)) → y755 < (IntKind.i64.wrap ((flown x.s) + 1)))) zz}) (fun zz => (fun (y755 : Int) => (⟨[(0,.v (.pointer (some ⟨g,0,none⟩))),(3,.p 0 0),(4,.p 1 0),(7,.v (.bool y1.2.2)),(24,.v (.int .i64 x.t.port)),(27,.v (.int .i64 x.t.my)),(28,.v (.int .i64 sq)),(38,.v (.int .i64 (seqAdd x.s.una y755))),(39,.v (.pointer (some ⟨g,0,none⟩))),(43,.v (.string y1.2.1))],[⟨34,conL x x_r_heldV⟩,⟨36,segZ⟩],[],[curF B g 100 (.slice A code.length cap) code.length,frF w (fun b => b = g),slF (.slice A code.length cap) 1 (code.map byteRow)]⟩ : St)) zz.1) 6 #[true,true,true,true,true,true,true,true,true,true,true,true,true,true,true,true,true,true,false,false,false,true,false,false,false] ?_ (fun hD2 => ?_)
 rintro ⟨y755,hy755⟩
 try dsimp only
 try dsimp only at hy755
 obtain ⟨hy7550,hy7551⟩ := hy755
 refine kA [18,23] ⟨?_,?_⟩
 refine kSH 18 rfl (under_t (under_t under_nil)) (hv_build (e := 3) (K := 1) (bytes := 8) [.int .i64 0,.int .i64 1,.int .i64 8,.int .i64 64,.int .i64 65535] rfl (by kernel_rfl) (by kernel_rfl) (by kernel_rfl) (by kernel_rfl) (by kernel_rfl) (rs := ([0,1,8,64,65535] : List Int).map intRow) rfl) ?_
 intro g905
 exact xe_wkL ((wk_pick [1,2,0,3] [curF B g 100 (.slice A code.length cap) code.length,frF w (fun b => b = g),rowF (cutW w B).heap.size 3 1 (.slice (some ⟨g905,0,none⟩) 5 5) (([0,1,8,64,65535] : List Int).map intRow),slF (.slice A code.length cap) 1 (code.map byteRow)] (by kernel_rfl) (by kernel_rfl)).trans <| kF 2 0 [0,3,4,7,24,27,28,38,39,40,43]) (by kernel_rfl) (hD3 ⟨(y755,g905),⟨hy7550,hy7551⟩⟩)
 refine xs_box 23 ⟨36,segZ⟩ _ rfl (by kernel_rfl) (by kernel_rfl) (by kernel_rfl) (by kernel_rfl) rfl ?_
 exact xe_wkL (kF 3 0 [0,3,4,7,8,24,27,28,38,39,43]) (by kernel_rfl) (hD11 ⟨(y755),⟨hy7550,hy7551⟩⟩)
 refine xe_cut (α := {zz : Int × Nat // (fun (y755 : Int) (g905 : Nat) => 0 ≤ y755 ∧ (0 < (IntKind.i64.wrap ((flown x.s) + 1)) → y755 < (IntKind.i64.wrap ((flown x.s) + 1)))) zz.1 zz.2}) (fun zz => (fun (y755 : Int) (g905 : Nat) => (⟨[(0,.v (.pointer (some ⟨g,0,none⟩))),(3,.p 0 0),(4,.p 1 0),(7,.v (.bool y1.2.2)),(8,.p 2 0),(24,.v (.int .i64 x.t.port)),(27,.v (.int .i64 x.t.my)),(28,.v (.int .i64 sq)),(31,.v (.int .i64 x.s.una)),(37,.v (.int .i64 y755)),(39,.v (.pointer (some ⟨g,0,none⟩))),(40,.v (.slice (some ⟨g905,0,none⟩) 5 5)),(43,.v (.string y1.2.1))],[⟨34,conL x x_r_heldV⟩,⟨36,segZ⟩,⟨36,segZ⟩],[],[curF B g 100 (.slice A code.length cap) code.length,frF w (fun b => b = g),rowF (cutW w B).heap.size 3 1 (.slice (some ⟨g905,0,none⟩) 5 5) (([0,1,8,64,65535] : List Int).map intRow),slF (.slice A code.length cap) 1 (code.map byteRow)]⟩ : St)) zz.1.1 zz.1.2) 5 #[true,true,true,true,true,true,true,true,true,true,true,true,true,true,true,true,false,true,true,false,false,true,false,true,false] ?_ (fun hD13 => ?_)
 rintro ⟨⟨y755,g905⟩,hy755⟩
 dsimp only
 try dsimp only at hy755
 obtain ⟨hy7550,hy7551⟩ := hy755
 refine kA [16] ?_
 refine kSC 16 60 [.int .i64 x.s.una,.int .i64 y755] (some 38) rfl (xc_s fun ww hf => sSeqAdd_c x.s.una y755 ww ) ?_
 intro _
 exact xe_wkL (kF 3 0 [0,3,4,7,8,24,27,28,38,39,40,43]) (by kernel_rfl) (hD10 ⟨(y755,g905),⟨hy7550,hy7551⟩⟩)
 refine xe_cut (α := {zz : Int × Nat // (fun (y755 : Int) (g905 : Nat) => 0 ≤ y755 ∧ (0 < (IntKind.i64.wrap ((flown x.s) + 1)) → y755 < (IntKind.i64.wrap ((flown x.s) + 1)))) zz.1 zz.2}) (fun zz => (fun (y755 : Int) (g905 : Nat) => (⟨[(0,.v (.pointer (some ⟨g,0,none⟩))),(3,.p 0 0),(4,.p 1 0),(7,.v (.bool y1.2.2)),(24,.v (.int .i64 x.t.port)),(27,.v (.int .i64 x.t.my)),(28,.v (.int .i64 sq)),(31,.v (.int .i64 x.s.una)),(37,.v (.int .i64 y755)),(39,.v (.pointer (some ⟨g,0,none⟩))),(40,.v (.slice (some ⟨g905,0,none⟩) 5 5)),(43,.v (.string y1.2.1))],[⟨34,conL x x_r_heldV⟩,⟨36,segZ⟩],[],[curF B g 100 (.slice A code.length cap) code.length,frF w (fun b => b = g),rowF (cutW w B).heap.size 3 1 (.slice (some ⟨g905,0,none⟩) 5 5) (([0,1,8,64,65535] : List Int).map intRow),slF (.slice A code.length cap) 1 (code.map byteRow)]⟩ : St)) zz.1.1 zz.1.2) 6 #[true,true,true,true,true,true,true,true,true,true,true,true,true,true,true,true,false,true,true,false,false,true,false,false,false] ?_ (fun hD12 => ?_)
 rintro ⟨⟨y755,g905⟩,hy755⟩
 dsimp only
 try dsimp only at hy755
 obtain ⟨hy7550,hy7551⟩ := hy755
 refine kA [16,23] ⟨?_,?_⟩
 refine kSC 16 60 [.int .i64 x.s.una,.int .i64 y755] (some 38) rfl (xc_s fun ww hf => sSeqAdd_c x.s.una y755 ww ) ?_
 intro _
 exact xe_wkL (kF 2 0 [0,3,4,7,24,27,28,38,39,40,43]) (by kernel_rfl) (hD3 ⟨(y755,g905),⟨hy7550,hy7551⟩⟩)
 refine xs_box 23 ⟨36,segZ⟩ _ rfl (by kernel_rfl) (by kernel_rfl) (by kernel_rfl) (by kernel_rfl) rfl ?_
 exact xe_wkL (kF 3 0 [0,3,4,7,8,24,27,28,31,37,39,40,43]) (by kernel_rfl) (hD13 ⟨(y755,g905),⟨hy7550,hy7551⟩⟩)
 refine xe_cut (α := {zz : Int // (fun (y755 : Int) => 0 ≤ y755 ∧ (0 < (IntKind.i64.wrap ((flown x.s) + 1)) → y755 < (IntKind.i64.wrap ((flown x.s) + 1)))) zz}) (fun zz => (fun (y755 : Int) => (⟨[(0,.v (.pointer (some ⟨g,0,none⟩))),(3,.p 0 0),(4,.p 1 0),(7,.v (.bool y1.2.2)),(8,.p 2 0),(24,.v (.int .i64 x.t.port)),(27,.v (.int .i64 x.t.my)),(28,.v (.int .i64 sq)),(31,.v (.int .i64 x.s.una)),(37,.v (.int .i64 y755)),(39,.v (.pointer (some ⟨g,0,none⟩))),(43,.v (.string y1.2.1))],[⟨34,conL x x_r_heldV⟩,⟨36,segZ⟩,⟨36,segZ⟩],[],[curF B g 100 (.slice A code.length cap) code.length,frF w (fun b => b = g),slF (.slice A code.length cap) 1 (code.map byteRow)]⟩ : St)) zz.1) 6 #[true,true,true,true,true,true,true,true,true,true,true,true,true,true,true,true,false,true,false,false,false,true,false,true,false] ?_ (fun hD14 => ?_)
 rintro ⟨y755,hy755⟩
 try dsimp only
 try dsimp only at hy755
 obtain ⟨hy7550,hy7551⟩ := hy755
 refine kA [16,18] ⟨?_,?_⟩
 refine kSC 16 60 [.int .i64 x.s.una,.int .i64 y755] (some 38) rfl (xc_s fun ww hf => sSeqAdd_c x.s.una y755 ww ) ?_
 intro _
 exact xe_wkL (kF 3 0 [0,3,4,7,8,24,27,28,38,39,43]) (by kernel_rfl) (hD11 ⟨(y755),⟨hy7550,hy7551⟩⟩)
 refine kSH 18 rfl (under_t (under_t under_nil)) (hv_build (e := 3) (K := 1) (bytes := 8) [.int .i64 0,.int .i64 1,.int .i64 8,.int .i64 64,.int .i64 65535] rfl (by kernel_rfl) (by kernel_rfl) (by kernel_rfl) (by kernel_rfl) (by kernel_rfl) (rs := ([0,1,8,64,65535] : List Int).map intRow) rfl) ?_
 intro g905
 exact xe_wkL ((wk_pick [1,2,0,3] [curF B g 100 (.slice A code.length cap) code.length,frF w (fun b => b = g),rowF (cutW w B).heap.size 3 1 (.slice (some ⟨g905,0,none⟩) 5 5) (([0,1,8,64,65535] : List Int).map intRow),slF (.slice A code.length cap) 1 (code.map byteRow)] (by kernel_rfl) (by kernel_rfl)).trans <| kF 3 0 [0,3,4,7,8,24,27,28,31,37,39,40,43]) (by kernel_rfl) (hD13 ⟨(y755,g905),⟨hy7550,hy7551⟩⟩)
 refine xe_cut (α := {zz : Int // (fun (y755 : Int) => 0 ≤ y755 ∧ (0 < (IntKind.i64.wrap ((flown x.s) + 1)) → y755 < (IntKind.i64.wrap ((flown x.s) + 1)))) zz}) (fun zz => (fun (y755 : Int) => (⟨[(0,.v (.pointer (some ⟨g,0,none⟩))),(3,.p 0 0),(4,.p 1 0),(7,.v (.bool y1.2.2)),(24,.v (.int .i64 x.t.port)),(27,.v (.int .i64 x.t.my)),(28,.v (.int .i64 sq)),(31,.v (.int .i64 x.s.una)),(37,.v (.int .i64 y755)),(39,.v (.pointer (some ⟨g,0,none⟩))),(43,.v (.string y1.2.1))],[⟨34,conL x x_r_heldV⟩,⟨36,segZ⟩],[],[curF B g 100 (.slice A code.length cap) code.length,frF w (fun b => b = g),slF (.slice A code.length cap) 1 (code.map byteRow)]⟩ : St)) zz.1) 7 #[true,true,true,true,true,true,true,true,true,true,true,true,true,true,true,true,false,true,false,false,false,true,false,false,false] ?_ (fun hD1 => ?_)
 rintro ⟨y755,hy755⟩
 try dsimp only
 try dsimp only at hy755
 obtain ⟨hy7550,hy7551⟩ := hy755
 refine kA [16,18,23] ⟨?_,?_,?_⟩
 refine kSC 16 60 [.int .i64 x.s.una,.int .i64 y755] (some 38) rfl (xc_s fun ww hf => sSeqAdd_c x.s.una y755 ww ) ?_
 intro _
 exact xe_wkL (kF 2 0 [0,3,4,7,24,27,28,38,39,43]) (by kernel_rfl) (hD2 ⟨(y755),⟨hy7550,hy7551⟩⟩)
 refine kSH 18 rfl (under_t (under_t under_nil)) (hv_build (e := 3) (K := 1) (bytes := 8) [.int .i64 0,.int .i64 1,.int .i64 8,.int .i64 64,.int .i64 65535] rfl (by kernel_rfl) (by kernel_rfl) (by kernel_rfl) (by kernel_rfl) (by kernel_rfl) (rs := ([0,1,8,64,65535] : List Int).map intRow) rfl) ?_
 intro g905
 exact xe_wkL ((wk_pick [1,2,0,3] [curF B g 100 (.slice A code.length cap) code.length,frF w (fun b => b = g),rowF (cutW w B).heap.size 3 1 (.slice (some ⟨g905,0,none⟩) 5 5) (([0,1,8,64,65535] : List Int).map intRow),slF (.slice A code.length cap) 1 (code.map byteRow)] (by kernel_rfl) (by kernel_rfl)).trans <| kF 2 0 [0,3,4,7,24,27,28,31,37,39,40,43]) (by kernel_rfl) (hD12 ⟨(y755,g905),⟨hy7550,hy7551⟩⟩)
 refine xs_box 23 ⟨36,segZ⟩ _ rfl (by kernel_rfl) (by kernel_rfl) (by kernel_rfl) (by kernel_rfl) rfl ?_
 exact xe_wkL (kF 3 0 [0,3,4,7,8,24,27,28,31,37,39,43]) (by kernel_rfl) (hD14 ⟨(y755),⟨hy7550,hy7551⟩⟩)
 refine xe_cut (α := Nat) (fun zz => (fun (g905 : Nat) => (⟨[(0,.v (.pointer (some ⟨g,0,none⟩))),(3,.p 0 0),(4,.p 1 0),(7,.v (.bool y1.2.2)),(8,.p 2 0),(24,.v (.int .i64 x.t.port)),(27,.v (.int .i64 x.t.my)),(28,.v (.int .i64 sq)),(31,.v (.int .i64 x.s.una)),(32,.v (.pointer (some ⟨g,0,none⟩))),(36,.v (.int .i64 (IntKind.i64.wrap ((flown x.s) + 1)))),(39,.v (.pointer (some ⟨g,0,none⟩))),(40,.v (.slice (some ⟨g905,0,none⟩) 5 5)),(43,.v (.string y1.2.1))],[⟨34,conL x x_r_heldV⟩,⟨36,segZ⟩,⟨36,segZ⟩],[],[curF B g 100 (.slice A code.length cap) code.length,frF w (fun b => b = g),rowF (cutW w B).heap.size 3 1 (.slice (some ⟨g905,0,none⟩) 5 5) (([0,1,8,64,65535] : List Int).map intRow),slF (.slice A code.length cap) 1 (code.map byteRow)]⟩ : St)) zz) 6 #[true,true,true,true,true,true,true,true,true,true,true,true,true,true,true,false,false,true,true,false,false,true,false,true,false] ?_ (fun hD16 => ?_)
 intro g905
 try dsimp only
 refine kA [15] ?_
 refine kSW 15 86 [.pointer (some ⟨g,0,none⟩),.int .i64 (IntKind.i64.wrap ((flown x.s) + 1))] (some 37) 0 rfl rfl hlo (under_t (under_t under_nil)) (l1Below_c_K hBw hap) ?_
 rintro ⟨y755,hy755⟩
 obtain ⟨hy7550,hy7551⟩ := hy755
 exact xe_wkL (kF 3 0 [0,3,4,7,8,24,27,28,31,37,39,40,43]) (by kernel_rfl) (hD13 ⟨(y755,g905),⟨hy7550,hy7551⟩⟩)
 refine xe_cut (α := Nat) (fun zz => (fun (g905 : Nat) => (⟨[(0,.v (.pointer (some ⟨g,0,none⟩))),(3,.p 0 0),(4,.p 1 0),(7,.v (.bool y1.2.2)),(24,.v (.int .i64 x.t.port)),(27,.v (.int .i64 x.t.my)),(28,.v (.int .i64 sq)),(31,.v (.int .i64 x.s.una)),(32,.v (.pointer (some ⟨g,0,none⟩))),(36,.v (.int .i64 (IntKind.i64.wrap ((flown x.s) + 1)))),(39,.v (.pointer (some ⟨g,0,none⟩))),(40,.v (.slice (some ⟨g905,0,none⟩) 5 5)),(43,.v (.string y1.2.1))],[⟨34,conL x x_r_heldV⟩,⟨36,segZ⟩],[],[curF B g 100 (.slice A code.length cap) code.length,frF w (fun b => b = g),rowF (cutW w B).heap.size 3 1 (.slice (some ⟨g905,0,none⟩) 5 5) (([0,1,8,64,65535] : List Int).map intRow),slF (.slice A code.length cap) 1 (code.map byteRow)]⟩ : St)) zz) 7 #[true,true,true,true,true,true,true,true,true,true,true,true,true,true,true,false,false,true,true,false,false,true,false,false,false] ?_ (fun hD15 => ?_)
 intro g905
 try dsimp only
 refine kA [15,23] ⟨?_,?_⟩
 refine kSW 15 86 [.pointer (some ⟨g,0,none⟩),.int .i64 (IntKind.i64.wrap ((flown x.s) + 1))] (some 37) 0 rfl rfl hlo (under_t (under_t under_nil)) (l1Below_c_K hBw hap) ?_
 rintro ⟨y755,hy755⟩
 obtain ⟨hy7550,hy7551⟩ := hy755
 exact xe_wkL (kF 2 0 [0,3,4,7,24,27,28,31,37,39,40,43]) (by kernel_rfl) (hD12 ⟨(y755,g905),⟨hy7550,hy7551⟩⟩)
 refine xs_box 23 ⟨36,segZ⟩ _ rfl (by kernel_rfl) (by kernel_rfl) (by kernel_rfl) (by kernel_rfl) rfl ?_
 exact xe_wkL (kF 3 0 [0,3,4,7,8,24,27,28,31,32,36,39,40,43]) (by kernel_rfl) (hD16 (g905))
 refine xe_cut (α := Unit) (fun zz => (fun (u_ : Unit) => (⟨[(0,.v (.pointer (some ⟨g,0,none⟩))),(3,.p 0 0),(4,.p 1 0),(7,.v (.bool y1.2.2)),(8,.p 2 0),(24,.v (.int .i64 x.t.port)),(27,.v (.int .i64 x.t.my)),(28,.v (.int .i64 sq)),(31,.v (.int .i64 x.s.una)),(32,.v (.pointer (some ⟨g,0,none⟩))),(36,.v (.int .i64 (IntKind.i64.wrap ((flown x.s) + 1)))),(39,.v (.pointer (some ⟨g,0,none⟩))),(43,.v (.string y1.2.1))],[⟨34,conL x x_r_heldV⟩,⟨36,segZ⟩,⟨36,segZ⟩],[],[curF B g 100 (.slice A code.length cap) code.length,frF w (fun b => b = g),slF (.slice A code.length cap) 1 (code.map byteRow)]⟩ : St)) zz) 7 #[true,true,true,true,true,true,true,true,true,true,true,true,true,true,true,false,false,true,false,false,false,true,false,true,false] ?_ (fun hD17 => ?_)
 intro u_
 try dsimp only
 refine kA [15,18] ⟨?_,?_⟩
 refine kSW 15 86 [.pointer (some ⟨g,0,none⟩),.int .i64 (IntKind.i64.wrap ((flown x.s) + 1))] (some 37) 0 rfl rfl hlo (under_t (under_t under_nil)) (l1Below_c_K hBw hap) ?_
 rintro ⟨y755,hy755⟩
 obtain ⟨hy7550,hy7551⟩ := hy755
 exact xe_wkL (kF 3 0 [0,3,4,7,8,24,27,28,31,37,39,43]) (by kernel_rfl) (hD14 ⟨(y755),⟨hy7550,hy7551⟩⟩)
 refine kSH 18 rfl (under_t (under_t under_nil)) (hv_build (e := 3) (K := 1) (bytes := 8) [.int .i64 0,.int .i64 1,.int .i64 8,.int .i64 64,.int .i64 65535] rfl (by kernel_rfl) (by kernel_rfl) (by kernel_rfl) (by kernel_rfl) (by kernel_rfl) (rs := ([0,1,8,64,65535] : List Int).map intRow) rfl) ?_
 intro g905
 exact xe_wkL ((wk_pick [1,2,0,3] [curF B g 100 (.slice A code.length cap) code.length,frF w (fun b => b = g),rowF (cutW w B).heap.size 3 1 (.slice (some ⟨g905,0,none⟩) 5 5) (([0,1,8,64,65535] : List Int).map intRow),slF (.slice A code.length cap) 1 (code.map byteRow)] (by kernel_rfl) (by kernel_rfl)).trans <| kF 3 0 [0,3,4,7,8,24,27,28,31,32,36,39,40,43]) (by kernel_rfl) (hD16 (g905))
 refine xe_cut (α := Unit) (fun zz => (fun (u_ : Unit) => (⟨[(0,.v (.pointer (some ⟨g,0,none⟩))),(3,.p 0 0),(4,.p 1 0),(7,.v (.bool y1.2.2)),(24,.v (.int .i64 x.t.port)),(27,.v (.int .i64 x.t.my)),(28,.v (.int .i64 sq)),(31,.v (.int .i64 x.s.una)),(32,.v (.pointer (some ⟨g,0,none⟩))),(35,.v (.int .i64 (flown x.s))),(39,.v (.pointer (some ⟨g,0,none⟩))),(43,.v (.string y1.2.1))],[⟨34,conL x x_r_heldV⟩,⟨36,segZ⟩],[],[curF B g 100 (.slice A code.length cap) code.length,frF w (fun b => b = g),slF (.slice A code.length cap) 1 (code.map byteRow)]⟩ : St)) zz) 9 #[true,true,true,true,true,true,true,true,true,true,true,true,true,true,false,false,false,true,false,false,false,true,false,false,false] ?_ (fun hD0 => ?_)
 intro u_
 try dsimp only
 refine kTD [14] [36,0,3,4,7,24,27,28,31,32,39,43] 8 [(36,.v (.int .i64 (IntKind.i64.wrap ((flown x.s) + 1))))] ?_
 refine kA [15,18,23] ⟨?_,?_,?_⟩
 refine kSW 15 86 [.pointer (some ⟨g,0,none⟩),.int .i64 (IntKind.i64.wrap ((flown x.s) + 1))] (some 37) 0 rfl rfl hlo (under_t (under_t under_nil)) (l1Below_c_K hBw hap) ?_
 rintro ⟨y755,hy755⟩
 obtain ⟨hy7550,hy7551⟩ := hy755
 exact xe_wkL (kF 2 0 [0,3,4,7,24,27,28,31,37,39,43]) (by kernel_rfl) (hD1 ⟨(y755),⟨hy7550,hy7551⟩⟩)
 refine kSH 18 rfl (under_t (under_t under_nil)) (hv_build (e := 3) (K := 1) (bytes := 8) [.int .i64 0,.int .i64 1,.int .i64 8,.int .i64 64,.int .i64 65535] rfl (by kernel_rfl) (by kernel_rfl) (by kernel_rfl) (by kernel_rfl) (by kernel_rfl) (rs := ([0,1,8,64,65535] : List Int).map intRow) rfl) ?_
 intro g905
 exact xe_wkL ((wk_pick [1,2,0,3] [curF B g 100 (.slice A code.length cap) code.length,frF w (fun b => b = g),rowF (cutW w B).heap.size 3 1 (.slice (some ⟨g905,0,none⟩) 5 5) (([0,1,8,64,65535] : List Int).map intRow),slF (.slice A code.length cap) 1 (code.map byteRow)] (by kernel_rfl) (by kernel_rfl)).trans <| kF 2 0 [0,3,4,7,24,27,28,31,32,36,39,40,43]) (by kernel_rfl) (hD15 (g905))
 refine xs_box 23 ⟨36,segZ⟩ _ rfl (by kernel_rfl) (by kernel_rfl) (by kernel_rfl) (by kernel_rfl) rfl ?_
 exact xe_wkL (kF 3 0 [0,3,4,7,8,24,27,28,31,32,36,39,43]) (by kernel_rfl) (hD17 ())
 refine xe_cut (α := Nat) (fun zz => (fun (g905 : Nat) => (⟨[(0,.v (.pointer (some ⟨g,0,none⟩))),(3,.p 0 0),(4,.p 1 0),(7,.v (.bool y1.2.2)),(24,.v (.int .i64 x.t.port)),(27,.v (.int .i64 x.t.my)),(28,.v (.int .i64 sq)),(31,.v (.int .i64 x.s.una)),(32,.v (.pointer (some ⟨g,0,none⟩))),(35,.v (.int .i64 (flown x.s))),(39,.v (.pointer (some ⟨g,0,none⟩))),(40,.v (.slice (some ⟨g905,0,none⟩) 5 5)),(43,.v (.string y1.2.1))],[⟨34,conL x x_r_heldV⟩,⟨36,segZ⟩],[],[curF B g 100 (.slice A code.length cap) code.length,frF w (fun b => b = g),rowF (cutW w B).heap.size 3 1 (.slice (some ⟨g905,0,none⟩) 5 5) (([0,1,8,64,65535] : List Int).map intRow),slF (.slice A code.length cap) 1 (code.map byteRow)]⟩ : St)) zz) 8 #[true,true,true,true,true,true,true,true,true,true,true,true,true,true,false,false,false,true,true,false,false,true,false,false,false] ?_ (fun hD19 => ?_)
 intro g905
 try dsimp only
 refine kTD [14] [36,0,3,4,7,24,27,28,31,32,39,40,43] 7 [(36,.v (.int .i64 (IntKind.i64.wrap ((flown x.s) + 1))))] ?_
 refine kA [15,23] ⟨?_,?_⟩
 refine kSW 15 86 [.pointer (some ⟨g,0,none⟩),.int .i64 (IntKind.i64.wrap ((flown x.s) + 1))] (some 37) 0 rfl rfl hlo (under_t (under_t under_nil)) (l1Below_c_K hBw hap) ?_
 rintro ⟨y755,hy755⟩
 obtain ⟨hy7550,hy7551⟩ := hy755
 exact xe_wkL (kF 2 0 [0,3,4,7,24,27,28,31,37,39,40,43]) (by kernel_rfl) (hD12 ⟨(y755,g905),⟨hy7550,hy7551⟩⟩)
 refine xs_box 23 ⟨36,segZ⟩ _ rfl (by kernel_rfl) (by kernel_rfl) (by kernel_rfl) (by kernel_rfl) rfl ?_
 exact xe_wkL (kF 3 0 [0,3,4,7,8,24,27,28,31,32,36,39,40,43]) (by kernel_rfl) (hD16 (g905))
 refine xe_cut (α := Nat) (fun zz => (fun (g905 : Nat) => (⟨[(0,.v (.pointer (some ⟨g,0,none⟩))),(3,.p 0 0),(4,.p 1 0),(7,.v (.bool y1.2.2)),(8,.p 2 0),(24,.v (.int .i64 x.t.port)),(27,.v (.int .i64 x.t.my)),(28,.v (.int .i64 sq)),(31,.v (.int .i64 x.s.una)),(32,.v (.pointer (some ⟨g,0,none⟩))),(35,.v (.int .i64 (flown x.s))),(39,.v (.pointer (some ⟨g,0,none⟩))),(40,.v (.slice (some ⟨g905,0,none⟩) 5 5)),(43,.v (.string y1.2.1))],[⟨34,conL x x_r_heldV⟩,⟨36,segZ⟩,⟨36,segZ⟩],[],[curF B g 100 (.slice A code.length cap) code.length,frF w (fun b => b = g),rowF (cutW w B).heap.size 3 1 (.slice (some ⟨g905,0,none⟩) 5 5) (([0,1,8,64,65535] : List Int).map intRow),slF (.slice A code.length cap) 1 (code.map byteRow)]⟩ : St)) zz) 7 #[true,true,true,true,true,true,true,true,true,true,true,true,true,true,false,false,false,true,true,false,false,true,false,true,false] ?_ (fun hD21 => ?_)
 intro g905
 try dsimp only
 refine kTD [14] [36,0,3,4,7,8,24,27,28,31,32,39,40,43] 6 [(36,.v (.int .i64 (IntKind.i64.wrap ((flown x.s) + 1))))] ?_
 refine kA [15] ?_
 refine kSW 15 86 [.pointer (some ⟨g,0,none⟩),.int .i64 (IntKind.i64.wrap ((flown x.s) + 1))] (some 37) 0 rfl rfl hlo (under_t (under_t under_nil)) (l1Below_c_K hBw hap) ?_
 rintro ⟨y755,hy755⟩
 obtain ⟨hy7550,hy7551⟩ := hy755
 exact xe_wkL (kF 3 0 [0,3,4,7,8,24,27,28,31,37,39,40,43]) (by kernel_rfl) (hD13 ⟨(y755,g905),⟨hy7550,hy7551⟩⟩)
 refine xe_cut (α := Nat) (fun zz => (fun (g905 : Nat) => (⟨[(0,.v (.pointer (some ⟨g,0,none⟩))),(3,.p 0 0),(4,.p 1 0),(7,.v (.bool y1.2.2)),(8,.p 2 0),(24,.v (.int .i64 x.t.port)),(27,.v (.int .i64 x.t.my)),(28,.v (.int .i64 sq)),(31,.v (.int .i64 x.s.una)),(32,.v (.pointer (some ⟨g,0,none⟩))),(34,.v (.agg (sndL x.s).toArray)),(39,.v (.pointer (some ⟨g,0,none⟩))),(40,.v (.slice (some ⟨g905,0,none⟩) 5 5)),(43,.v (.string y1.2.1))],[⟨34,conL x x_r_heldV⟩,⟨36,segZ⟩,⟨36,segZ⟩],[],[curF B g 100 (.slice A code.length cap) code.length,frF w (fun b => b = g),rowF (cutW w B).heap.size 3 1 (.slice (some ⟨g905,0,none⟩) 5 5) (([0,1,8,64,65535] : List Int).map intRow),slF (.slice A code.length cap) 1 (code.map byteRow)]⟩ : St)) zz) 8 #[true,true,true,true,true,true,true,true,true,true,true,true,true,false,false,false,false,true,true,false,false,true,false,true,false] ?_ (fun hD20 => ?_)
 intro g905
 try dsimp only
 refine kA [13] ?_
 refine kSC 13 61 [.agg (sndL x.s).toArray] (some 35) rfl (xc_b fun ww hf => sFlown_c x.s.una x.s.data x.s.sent x.s.fin x.s.finSent x.s.done ww ) ?_
 intro _
 exact xe_wkL (kF 3 0 [0,3,4,7,8,24,27,28,31,32,35,39,40,43]) (by kernel_rfl) (hD21 (g905))
 refine xe_cut (α := Nat) (fun zz => (fun (g905 : Nat) => (⟨[(0,.v (.pointer (some ⟨g,0,none⟩))),(3,.p 0 0),(4,.p 1 0),(7,.v (.bool y1.2.2)),(24,.v (.int .i64 x.t.port)),(27,.v (.int .i64 x.t.my)),(28,.v (.int .i64 sq)),(31,.v (.int .i64 x.s.una)),(32,.v (.pointer (some ⟨g,0,none⟩))),(34,.v (.agg (sndL x.s).toArray)),(39,.v (.pointer (some ⟨g,0,none⟩))),(40,.v (.slice (some ⟨g905,0,none⟩) 5 5)),(43,.v (.string y1.2.1))],[⟨34,conL x x_r_heldV⟩,⟨36,segZ⟩],[],[curF B g 100 (.slice A code.length cap) code.length,frF w (fun b => b = g),rowF (cutW w B).heap.size 3 1 (.slice (some ⟨g905,0,none⟩) 5 5) (([0,1,8,64,65535] : List Int).map intRow),slF (.slice A code.length cap) 1 (code.map byteRow)]⟩ : St)) zz) 9 #[true,true,true,true,true,true,true,true,true,true,true,true,true,false,false,false,false,true,true,false,false,true,false,false,false] ?_ (fun hD18 => ?_)
 intro g905
 try dsimp only
 refine kA [13,23] ⟨?_,?_⟩
 refine kSC 13 61 [.agg (sndL x.s).toArray] (some 35) rfl (xc_b fun ww hf => sFlown_c x.s.una x.s.data x.s.sent x.s.fin x.s.finSent x.s.done ww ) ?_
 intro _
 exact xe_wkL (kF 2 0 [0,3,4,7,24,27,28,31,32,35,39,40,43]) (by kernel_rfl) (hD19 (g905))
 refine xs_box 23 ⟨36,segZ⟩ _ rfl (by kernel_rfl) (by kernel_rfl) (by kernel_rfl) (by kernel_rfl) rfl ?_
 exact xe_wkL (kF 3 0 [0,3,4,7,8,24,27,28,31,32,34,39,40,43]) (by kernel_rfl) (hD20 (g905))
 refine xe_cut (α := Unit) (fun zz => (fun (u_ : Unit) => (⟨[(0,.v (.pointer (some ⟨g,0,none⟩))),(3,.p 0 0),(4,.p 1 0),(7,.v (.bool y1.2.2)),(8,.p 2 0),(24,.v (.int .i64 x.t.port)),(27,.v (.int .i64 x.t.my)),(28,.v (.int .i64 sq)),(31,.v (.int .i64 x.s.una)),(32,.v (.pointer (some ⟨g,0,none⟩))),(35,.v (.int .i64 (flown x.s))),(39,.v (.pointer (some ⟨g,0,none⟩))),(43,.v (.string y1.2.1))],[⟨34,conL x x_r_heldV⟩,⟨36,segZ⟩,⟨36,segZ⟩],[],[curF B g 100 (.slice A code.length cap) code.length,frF w (fun b => b = g),slF (.slice A code.length cap) 1 (code.map byteRow)]⟩ : St)) zz) 8 #[true,true,true,true,true,true,true,true,true,true,true,true,true,true,false,false,false,true,false,false,false,true,false,true,false] ?_ (fun hD23 => ?_)
 intro u_
 try dsimp only
 refine kTD [14] [36,0,3,4,7,8,24,27,28,31,32,39,43] 7 [(36,.v (.int .i64 (IntKind.i64.wrap ((flown x.s) + 1))))] ?_
 refine kA [15,18] ⟨?_,?_⟩
 refine kSW 15 86 [.pointer (some ⟨g,0,none⟩),.int .i64 (IntKind.i64.wrap ((flown x.s) + 1))] (some 37) 0 rfl rfl hlo (under_t (under_t under_nil)) (l1Below_c_K hBw hap) ?_
 rintro ⟨y755,hy755⟩
 obtain ⟨hy7550,hy7551⟩ := hy755
 exact xe_wkL (kF 3 0 [0,3,4,7,8,24,27,28,31,37,39,43]) (by kernel_rfl) (hD14 ⟨(y755),⟨hy7550,hy7551⟩⟩)
 refine kSH 18 rfl (under_t (under_t under_nil)) (hv_build (e := 3) (K := 1) (bytes := 8) [.int .i64 0,.int .i64 1,.int .i64 8,.int .i64 64,.int .i64 65535] rfl (by kernel_rfl) (by kernel_rfl) (by kernel_rfl) (by kernel_rfl) (by kernel_rfl) (rs := ([0,1,8,64,65535] : List Int).map intRow) rfl) ?_
 intro g905
 exact xe_wkL ((wk_pick [1,2,0,3] [curF B g 100 (.slice A code.length cap) code.length,frF w (fun b => b = g),rowF (cutW w B).heap.size 3 1 (.slice (some ⟨g905,0,none⟩) 5 5) (([0,1,8,64,65535] : List Int).map intRow),slF (.slice A code.length cap) 1 (code.map byteRow)] (by kernel_rfl) (by kernel_rfl)).trans <| kF 3 0 [0,3,4,7,8,24,27,28,31,32,36,39,40,43]) (by kernel_rfl) (hD16 (g905))
 refine xe_cut (α := Unit) (fun zz => (fun (u_ : Unit) => (⟨[(0,.v (.pointer (some ⟨g,0,none⟩))),(3,.p 0 0),(4,.p 1 0),(7,.v (.bool y1.2.2)),(8,.p 2 0),(24,.v (.int .i64 x.t.port)),(27,.v (.int .i64 x.t.my)),(28,.v (.int .i64 sq)),(31,.v (.int .i64 x.s.una)),(32,.v (.pointer (some ⟨g,0,none⟩))),(34,.v (.agg (sndL x.s).toArray)),(39,.v (.pointer (some ⟨g,0,none⟩))),(43,.v (.string y1.2.1))],[⟨34,conL x x_r_heldV⟩,⟨36,segZ⟩,⟨36,segZ⟩],[],[curF B g 100 (.slice A code.length cap) code.length,frF w (fun b => b = g),slF (.slice A code.length cap) 1 (code.map byteRow)]⟩ : St)) zz) 9 #[true,true,true,true,true,true,true,true,true,true,true,true,true,false,false,false,false,true,false,false,false,true,false,true,false] ?_ (fun hD22 => ?_)
 intro u_
 try dsimp only
 refine kA [13,18] ⟨?_,?_⟩
 refine kSC 13 61 [.agg (sndL x.s).toArray] (some 35) rfl (xc_b fun ww hf => sFlown_c x.s.una x.s.data x.s.sent x.s.fin x.s.finSent x.s.done ww ) ?_
 intro _
 exact xe_wkL (kF 3 0 [0,3,4,7,8,24,27,28,31,32,35,39,43]) (by kernel_rfl) (hD23 ())
 refine kSH 18 rfl (under_t (under_t under_nil)) (hv_build (e := 3) (K := 1) (bytes := 8) [.int .i64 0,.int .i64 1,.int .i64 8,.int .i64 64,.int .i64 65535] rfl (by kernel_rfl) (by kernel_rfl) (by kernel_rfl) (by kernel_rfl) (by kernel_rfl) (rs := ([0,1,8,64,65535] : List Int).map intRow) rfl) ?_
 intro g905
 exact xe_wkL ((wk_pick [1,2,0,3] [curF B g 100 (.slice A code.length cap) code.length,frF w (fun b => b = g),rowF (cutW w B).heap.size 3 1 (.slice (some ⟨g905,0,none⟩) 5 5) (([0,1,8,64,65535] : List Int).map intRow),slF (.slice A code.length cap) 1 (code.map byteRow)] (by kernel_rfl) (by kernel_rfl)).trans <| kF 3 0 [0,3,4,7,8,24,27,28,31,32,34,39,40,43]) (by kernel_rfl) (hD20 (g905))
 refine kTD [0,1,2,3,4,5,6,7,8,9,10,11,12,17,21] [43,39,34,32,31,28,27,24,0,3,4,7] 10 [(43,.v (.string y1.2.1)),(39,.v (.pointer (some ⟨g,0,none⟩))),(34,.v (.agg (sndL x.s).toArray)),(32,.v (.pointer (some ⟨g,0,none⟩))),(31,.v (.int .i64 x.s.una)),(28,.v (.int .i64 sq)),(27,.v (.int .i64 x.t.my)),(24,.v (.int .i64 x.t.port))] ?_
 refine kA [13,18,23] ⟨?_,?_,?_⟩
 refine kSC 13 61 [.agg (sndL x.s).toArray] (some 35) rfl (xc_b fun ww hf => sFlown_c x.s.una x.s.data x.s.sent x.s.fin x.s.finSent x.s.done ww ) ?_
 intro _
 exact xe_wkL ((wk_pick [0,2,1] [curF B g 100 (.slice A code.length cap) code.length,frF w (fun b => b = g),slF (.slice A code.length cap) 1 (code.map byteRow)] (by kernel_rfl) (by kernel_rfl)).trans <| kF 2 0 [0,3,4,7,24,27,28,31,32,35,39,43]) (by kernel_rfl) (hD0 ())
 refine kSH 18 rfl (under_t (under_t under_nil)) (hv_build (e := 3) (K := 1) (bytes := 8) [.int .i64 0,.int .i64 1,.int .i64 8,.int .i64 64,.int .i64 65535] rfl (by kernel_rfl) (by kernel_rfl) (by kernel_rfl) (by kernel_rfl) (by kernel_rfl) (rs := ([0,1,8,64,65535] : List Int).map intRow) rfl) ?_
 intro g905
 exact xe_wkL ((wk_pick [1,3,0,2] [curF B g 100 (.slice A code.length cap) code.length,frF w (fun b => b = g),rowF (cutW w B).heap.size 3 1 (.slice (some ⟨g905,0,none⟩) 5 5) (([0,1,8,64,65535] : List Int).map intRow),slF (.slice A code.length cap) 1 (code.map byteRow)] (by kernel_rfl) (by kernel_rfl)).trans <| kF 2 0 [0,3,4,7,24,27,28,31,32,34,39,40,43]) (by kernel_rfl) (hD18 (g905))
 refine xs_box 23 ⟨36,segZ⟩ _ rfl (by kernel_rfl) (by kernel_rfl) (by kernel_rfl) (by kernel_rfl) rfl ?_
 exact xe_wkL ((wk_pick [0,2,1] [curF B g 100 (.slice A code.length cap) code.length,frF w (fun b => b = g),slF (.slice A code.length cap) 1 (code.map byteRow)] (by kernel_rfl) (by kernel_rfl)).trans <| kF 3 0 [0,3,4,7,8,24,27,28,31,32,34,39,43]) (by kernel_rfl) (hD22 ())
theorem l19Segment_c_K {g : Nat} {code : List Int} {A : Option Addr} {cap : Nat} {x : Con} {x_r_heldV : Value} {w0 : World} {fs : List Fact} {B : Nat} (hB : B ≤ w0.heap.size) (hap : ¬ (slF (.slice A code.length cap) 1 (code.map byteRow)).blk g)  (hn : code.length ≤ 1048576 := by omega) (h1 : curF B g 100 (.slice A code.length cap) code.length ∈ fs := by simp) (h2 : slF (.slice A code.length cap) 1 (code.map byteRow) ∈ fs := by simp) : XCM Tryz.prog w0 fs (curF B g 100 (.slice A code.length cap) code.length).blk 100 [.pointer (some ⟨g, 0, none⟩), .agg (conL x x_r_heldV).toArray] (α := {y : Seg // y.body.size ≤ 4096}) (fun y => .agg (segL y.1).toArray) (fun _ => [curF B g 100 (.slice A code.length cap) code.length]) := xcm_cur fun w hw hf => l19Segment_c g code A cap x x_r_heldV w B (Nat.le_trans hB hw) (hf _ h1) (hf _ h2) hap hn  
theorem l19Conn_c (g : Nat) (code : List Int) (A : Option Addr) (cap : Nat) (w : World) (B : Nat) (hB : B ≤ w.heap.size) (hc : (curF B g 100 (.slice A code.length cap) code.length).p w) (hl : Sl w (.slice A code.length cap) 1 (code.map byteRow)) (hap : ¬ (slF (.slice A code.length cap) 1 (code.map byteRow)).blk g) (hn : code.length ≤ 1048576) : Calls Tryz.prog 107 #[.pointer (some ⟨g, 0, none⟩)] w fun e w' => ∃ y : {y : Con × (Option Addr × Nat) // RB 4 y.1.r}, e = .returned (.agg (conL y.1.1 (.slice y.1.2.1 y.1.1.r.held.length y.1.2.2)).toArray) ∧ (curF B g 100 (.slice A code.length cap) code.length).p w' ∧ (newF w.heap.size (.slice y.1.2.1 y.1.1.r.held.length y.1.2.2) 2 (y.1.1.r.held.map pceCells)).p w' ∧ g < w.heap.size ∧ Chgd (fun b => b = g) w w' := by
 have hq_code := Sl.capLe hl
 have hBw : B ≤ (cutW w B).heap.size := Nat.le_of_eq (cutW_size hB).symm
 have hlo : ∀ (ww : World) (b : Nat),(curF B g 100 (.slice A code.length cap) code.length).p ww → (curF B g 100 (.slice A code.length cap) code.length).blk b → (cutW w B).heap.size ≤ b := fun ww b h hb => Nat.le_trans (cutW_le w B) (cur_lo h hb)
 refine x_callsMA (args := [.pointer (some ⟨g,0,none⟩)]) (fn := Tryz.f107) [curF B g 100 (.slice A code.length cap) code.length,slF (.slice A code.length cap) 1 (code.map byteRow),frF w (fun b => b = g)] B Tryz.func107 rfl Tryz.ntmps107 rfl hB (by simp only [List.mem_cons,List.not_mem_nil,or_false,forall_eq_or_imp,forall_eq]; exact ⟨hc,hl,frF_start w _⟩) (apart_cur hap rfl) ?_
 have hgl : g < w.heap.size := (curF B g 100 (.slice A code.length cap) code.length).lt w g hc rfl
 refine kQ ?_
 refine kEF [0,2] ⟨[(0,.v (.pointer (some ⟨g,0,none⟩))),(2,.p 0 0)],[⟨34,conZ⟩],[],[curF B g 100 (.slice A code.length cap) code.length,slF (.slice A code.length cap) 1 (code.map byteRow),frF w (fun b => b = g)]⟩ ?_
 refine kQ ?_
 refine kWD 1 [0,2,6] [(6,.v (.pointer (some ⟨g,0,none⟩)))] 125 [.pointer (some ⟨g,0,none⟩)] (some 7) 0 rfl rfl hlo (l12Tuple_c_K hBw hap) ?_
 rintro ⟨y1,hy1⟩
 refine kWD 1 [0,2,7,8] [(8,.v (.pointer (some ⟨g,0,none⟩)))] 126 [.pointer (some ⟨g,0,none⟩)] (some 9) 0 rfl rfl hlo (l2Deep_c_K hBw hap) ?_
 rintro ⟨y2,hy2⟩
 refine kWD 1 [0,2,7,9,10] [(10,.v (.pointer (some ⟨g,0,none⟩)))] 126 [.pointer (some ⟨g,0,none⟩)] (some 11) 0 rfl rfl hlo (l2Deep_c_K hBw hap) ?_
 rintro ⟨y3,hy3⟩
 refine kWD 1 [0,2,7,9,11,12] [(12,.v (.pointer (some ⟨g,0,none⟩)))] 127 [.pointer (some ⟨g,0,none⟩)] (some 13) 0 rfl rfl hlo (l8Options_c_K hBw hap) ?_
 rintro ⟨y4,hy4⟩
 refine kHD 1 [0,2,7,9,11,13,14] [(14,.v (.pointer (some ⟨g,0,none⟩)))] rfl (hv_build (e := 3) (K := 1) (bytes := 8) [.int .i64 0,.int .i64 4,.int .i64 64,.int .i64 65535] rfl (by kernel_rfl) (by kernel_rfl) (by kernel_rfl) (by kernel_rfl) (by kernel_rfl) (rs := ([0,4,64,65535] : List Int).map intRow) rfl) ?_
 intro g5
 refine xl_know (φ := ¬ (slF (.slice (some ⟨g5,0,none⟩) 4 4) 1 (([0,4,64,65535] : List Int).map intRow)).blk g) (fun _ _ _ _ hr => fun hb => hr.2.apart 0 1 (rowF (cutW w B).heap.size 3 1 (.slice (some ⟨g5,0,none⟩) 4 4) (([0,4,64,65535] : List Int).map intRow)) (curF B g 100 (.slice A code.length cap) code.length) rfl rfl (by decide) rfl g (rowF_sblk hb) rfl) (fun hk6 => ?_)
 refine kWD 0 [0,2,7,9,11,13,14,15] [] 66 [.pointer (some ⟨g,0,none⟩),.slice (some ⟨g5,0,none⟩) 4 4] (some 16) 1 rfl rfl hlo (l1PickInt_c_K hBw hap (fun ww hw hf => (rowF_sl (hf _ m0))) hk6 (by simp)) ?_
 rintro ⟨y7,hy7⟩
 refine kCD 0 [0,2,7,9,11,13,16] [] 124 [.agg (tupL y1).toArray,.int .i64 y2,.int .i64 y3,.agg (optL y4).toArray,.int .i64 y7] (some 17) rfl (xc_r fun ww hw hf => ysConnNew_c y1 y2 y3 y4 y7 ww   ((cutW w B).heap.size) hw) ?_
 rintro ⟨v8a,v8c⟩
 have hbd9 : (connNew y1 y2 y3 y4 y7).r.held.length ≤ 1048576 := connNew_bd _ _ _ _ _  (by omega)
 refine kEA [0,2,3] [(3,.p 1 0)] [⟨34,conL (connNew y1 y2 y3 y4 y7) (.slice v8a ((connNew y1 y2 y3 y4 y7).r.held.length) v8c)⟩] ?_
 refine kQ ?_
 refine kWD 1 [0,2,3,18] [(18,.v (.pointer (some ⟨g,0,none⟩)))] 86 [.pointer (some ⟨g,0,none⟩),.int .i64 9] (some 19) 1 rfl rfl hlo (l1Below_c_K hBw hap) ?_
 rintro ⟨y10,hy10⟩
 obtain ⟨hy100,hy101⟩ := hy10
 refine kED [0,2,3,4] [(4,.v (.int .i64 y10))] ?_
 refine kS ?_
 refine kQ ?_
 refine kES [0,2,3,4,5] [(0,.v (.pointer (some ⟨g,0,none⟩))),(2,.p 0 0),(3,.p 1 0),(4,.v (.int .i64 y10)),(5,.v (.int .i64 0))] ?_
 refine xw_block ?_
 refine xw_loopW (α := {x : Nat × Con × Option Addr × Nat // (fun (i : Nat) (x : Con) (A1 : Option Addr) (c1 : Nat) => (i : Int) ≤ y10 ∧ RB 3 x.r) x.1 x.2.1 x.2.2.1 x.2.2.2}) (fun x => (fun (i : Nat) (x : Con) (A1 : Option Addr) (c1 : Nat) => (⟨[(0,.v (.pointer (some ⟨g,0,none⟩))),(2,.p 0 0),(3,.p 1 0),(4,.v (.int .i64 y10)),(5,.v (.int .i64 (i : Int)))],[⟨34,conZ⟩,⟨34,conL x (.slice A1 x.r.held.length c1)⟩],[],[ownF (cutW w B).heap.size (.slice A1 x.r.held.length c1) 2 (x.r.held.map pceCells),curF B g 100 (.slice A code.length cap) code.length,rowF (cutW w B).heap.size 3 1 (.slice (some ⟨g5,0,none⟩) 4 4) (([0,4,64,65535] : List Int).map intRow),slF (.slice A code.length cap) 1 (code.map byteRow),frF w (fun b => b = g)]⟩ : St)) x.1.1 x.1.2.1 x.1.2.2.1 x.1.2.2.2) (fun x => (fun (i : Nat) (x : Con) (A1 : Option Addr) (c1 : Nat) => (y10).toNat - i) x.1.1 x.1.2.1 x.1.2.2.1 x.1.2.2.2) ⟨(0,(connNew y1 y2 y3 y4 y7),v8a,v8c),⟨(by omega),RB.newC _ _ _ _ _⟩⟩ ((wk_pick [1,0,2,3,4] [ownF (cutW w B).heap.size (.slice v8a ((connNew y1 y2 y3 y4 y7).r.held.length) v8c) 2 ((connNew y1 y2 y3 y4 y7).r.held.map pceCells),curF B g 100 (.slice A code.length cap) code.length,rowF (cutW w B).heap.size 3 1 (.slice (some ⟨g5,0,none⟩) 4 4) (([0,4,64,65535] : List Int).map intRow),slF (.slice A code.length cap) 1 (code.map byteRow),frF w (fun b => b = g)] (by kernel_rfl) (by kernel_rfl)).trans <| kF 2 0 [0,2,3,4,5]) ?_
 rintro ⟨⟨i,x,A1,c1⟩,hi,hrb⟩
 try dsimp only
 try dsimp only at hi hrb
 have hkn := hrb.up.kn; have hm := hrb.hm; have hsz := hrb.sz
 refine kS ?_
 refine kQ ?_
 refine kED [0,2,3,4,5,22] [(22,.v (.bool (decide ((i : Int) < y10))))] ?_
 refine kC (decide ((i : Int) < y10)) (fun h11 => ?_) (fun h11 => ?_)
 have h11p := of_decide_eq_true h11
 have hlt :  (i : Int) < y10 := of_decide_eq_true h11
 refine kK ?_
 refine kS ?_
 refine xw_joinF (α := {zz : Con × Option Addr × Nat // (fun (x2 : Con) (A4 : Option Addr) (c4 : Nat) => RB 3 x2.r) zz.1 zz.2.1 zz.2.2}) (fun zz => (fun (x2 : Con) (A4 : Option Addr) (c4 : Nat) => (⟨[(0,.v (.pointer (some ⟨g,0,none⟩))),(2,.p 0 0),(3,.p 1 0),(4,.v (.int .i64 y10)),(5,.v (.int .i64 (i : Int)))],[⟨34,conZ⟩,⟨34,conL x2 (.slice A4 x2.r.held.length c4)⟩],[],[ownF (cutW w B).heap.size (.slice A4 x2.r.held.length c4) 2 (x2.r.held.map pceCells),curF B g 100 (.slice A code.length cap) code.length,rowF (cutW w B).heap.size 3 1 (.slice (some ⟨g5,0,none⟩) 4 4) (([0,4,64,65535] : List Int).map intRow),slF (.slice A code.length cap) 1 (code.map byteRow),frF w (fun b => b = g)]⟩ : St)) zz.1.1 zz.1.2.1 zz.1.2.2) ?_ ?_
 refine xw_block ?_
 refine kQ ?_
 refine kWD 1 [0,2,3,4,5,25] [(25,.v (.pointer (some ⟨g,0,none⟩)))] 86 [.pointer (some ⟨g,0,none⟩),.int .i64 8] (some 26) 1 rfl rfl hlo (l1Below_c_K hBw hap) ?_
 rintro ⟨y12,hy12⟩
 obtain ⟨hy120,hy121⟩ := hy12
 refine kED [0,2,3,4,5,26] [] ?_
 refine xw_block ?_
 refine kQ ?_
 refine kED [0,2,3,4,5,26,36] [(36,.v (.bool (y12 == 0)))] ?_
 refine kC (y12 == 0) (fun h13 => ?_) (fun h13 => ?_)
 have h13p := eqT h13
 refine xe_region0 [true,false] (by kernel_rfl) (fun ρ σ => ?_)
 refine kTD [1,2] [41,40,0,2,3,4,5] 10 [(41,.v (.pointer (some ⟨g,0,none⟩))),(40,.v (.pointer (some ⟨g,0,none⟩)))] ?_
 refine kA [0,3] ⟨?_,?_⟩
 refine kSV 0 (.v (.agg (conL x (.slice A1 x.r.held.length c1)).toArray)) rfl ?_
 refine kA [3] ?_
 refine kSW 3 86 [.pointer (some ⟨g,0,none⟩),.int .i64 20] (some 42) 0 rfl rfl hlo (under_t (under_f rfl under_nil)) (l1Below_c_K hBw hap) ?_
 rintro ⟨y14,hy14⟩
 obtain ⟨hy140,hy141⟩ := hy14
 refine kA [4] ?_
 refine kSW 4 85 [.pointer (some ⟨g,0,none⟩),.int .i64 y14] (some 43) 0 rfl rfl hlo (under_t (under_f rfl under_nil)) (xcm_curR fun ww hw hf => l1Bytes_c g code A cap y14 ww B (Nat.le_trans (by first | exact Nat.le_refl _ | exact Nat.le_of_eq (cutW_size hB).symm) hw) (hf (curF B g 100 (.slice A code.length cap) code.length) (by simp)) (hf _ m3) hap (by omega) (by omega)) ?_
 rintro ⟨⟨b15l,b15a,b15c⟩,hb15⟩
 dsimp only at hb15
 refine kA [5] ?_
 refine kSR 5 (.string (bstr b15l)) rfl (fun _ _ ww hr => act_b2s (e := 5) b15l hr.1 rfl (by kernel_rfl) (by kernel_rfl) (by kernel_rfl) rfl (rowF_sl (hr.2.fact (rowF (cutW w B).heap.size 5 1 (.slice b15a b15l.length b15c) (b15l.map byteRow)) (by simp)).1)) ?_
 refine kA [6] ?_
 refine kSC 6 34 [.agg (conL x (.slice A1 x.r.held.length c1)).toArray,.string (bstr b15l)] (some 45) rfl (xc_r fun ww hw hf => ysWrite_c x (.slice A1 x.r.held.length c1) (bstr b15l) ww (Own.sl (hf _ m2)) (by assumption) (by assumption) (by omega) (by first | omega | (rw [bstr_size]; omega) | decide) ((cutW w B).heap.size) hw) ?_
 rintro ⟨⟨v16a,v16c⟩,⟨v17a,v17c⟩⟩
 have hbd18 : (write x (bstr b15l)).1.r.held.length ≤ 1048576 ∧ (write x (bstr b15l)).2.2.length ≤ 49 := write_bd _ _  (by omega)
 have hbd18a := hbd18.1; have hbd18b := hbd18.2
 refine kTD [7,8,9,10] [46,0,2,3,4,5] 1 [(46,.v (.agg (conL (write x (bstr b15l)).1 (.slice v16a ((write x (bstr b15l)).1.r.held.length) v16c)).toArray))] ?_
 refine kA [11] ?_
 refine kSS 11 1 0 (conL (write x (bstr b15l)).1 (.slice v16a ((write x (bstr b15l)).1.r.held.length) v16c)) rfl ?_
 refine kZ ?_
 exact ⟨⟨((write x (bstr b15l)).1,v16a,v16c),(by first | exact RB.write hrb _ | exact RB.tick hrb | exact RB.shut hrb | exact RB.read hrb _ | exact RB.recv hrb (by omega) _ | exact hrb)⟩,(wk_pick [0,3,5,6,7] [ownF (cutW w B).heap.size (.slice v16a ((write x (bstr b15l)).1.r.held.length) v16c) 2 ((write x (bstr b15l)).1.r.held.map pceCells),curF B g 100 (.slice A code.length cap) code.length,rowF (cutW w B).heap.size 3 1 (.slice (some ⟨g5,0,none⟩) 4 4) (([0,4,64,65535] : List Int).map intRow),slF (.slice A code.length cap) 1 (code.map byteRow),frF w (fun b => b = g)] (by kernel_rfl) (by kernel_rfl)).trans <| kF 2 0 [0,2,3,4,5]⟩
 refine kSW 3 86 [.pointer (some ⟨g,0,none⟩),.int .i64 20] (some 42) 0 rfl rfl hlo (under_t (under_f rfl under_nil)) (l1Below_c_K hBw hap) ?_
 rintro ⟨y19,hy19⟩
 obtain ⟨hy190,hy191⟩ := hy19
 refine kA [0,4] ⟨?_,?_⟩
 refine kSV 0 (.v (.agg (conL x (.slice A1 x.r.held.length c1)).toArray)) rfl ?_
 refine kA [4] ?_
 refine kSW 4 85 [.pointer (some ⟨g,0,none⟩),.int .i64 y19] (some 43) 0 rfl rfl hlo (under_t (under_f rfl under_nil)) (xcm_curR fun ww hw hf => l1Bytes_c g code A cap y19 ww B (Nat.le_trans (by first | exact Nat.le_refl _ | exact Nat.le_of_eq (cutW_size hB).symm) hw) (hf (curF B g 100 (.slice A code.length cap) code.length) (by simp)) (hf _ m3) hap (by omega) (by omega)) ?_
 rintro ⟨⟨b20l,b20a,b20c⟩,hb20⟩
 dsimp only at hb20
 refine kA [5] ?_
 refine kSR 5 (.string (bstr b20l)) rfl (fun _ _ ww hr => act_b2s (e := 5) b20l hr.1 rfl (by kernel_rfl) (by kernel_rfl) (by kernel_rfl) rfl (rowF_sl (hr.2.fact (rowF (cutW w B).heap.size 5 1 (.slice b20a b20l.length b20c) (b20l.map byteRow)) (by simp)).1)) ?_
 refine kA [6] ?_
 refine kSC 6 34 [.agg (conL x (.slice A1 x.r.held.length c1)).toArray,.string (bstr b20l)] (some 45) rfl (xc_r fun ww hw hf => ysWrite_c x (.slice A1 x.r.held.length c1) (bstr b20l) ww (Own.sl (hf _ m2)) (by assumption) (by assumption) (by omega) (by first | omega | (rw [bstr_size]; omega) | decide) ((cutW w B).heap.size) hw) ?_
 rintro ⟨⟨v21a,v21c⟩,⟨v22a,v22c⟩⟩
 have hbd23 : (write x (bstr b20l)).1.r.held.length ≤ 1048576 ∧ (write x (bstr b20l)).2.2.length ≤ 49 := write_bd _ _  (by omega)
 have hbd23a := hbd23.1; have hbd23b := hbd23.2
 refine kTD [7,8,9,10] [46,0,2,3,4,5] 1 [(46,.v (.agg (conL (write x (bstr b20l)).1 (.slice v21a ((write x (bstr b20l)).1.r.held.length) v21c)).toArray))] ?_
 refine kA [11] ?_
 refine kSS 11 1 0 (conL (write x (bstr b20l)).1 (.slice v21a ((write x (bstr b20l)).1.r.held.length) v21c)) rfl ?_
 refine kZ ?_
 exact ⟨⟨((write x (bstr b20l)).1,v21a,v21c),(by first | exact RB.write hrb _ | exact RB.tick hrb | exact RB.shut hrb | exact RB.read hrb _ | exact RB.recv hrb (by omega) _ | exact hrb)⟩,(wk_pick [0,3,5,6,7] [ownF (cutW w B).heap.size (.slice v21a ((write x (bstr b20l)).1.r.held.length) v21c) 2 ((write x (bstr b20l)).1.r.held.map pceCells),curF B g 100 (.slice A code.length cap) code.length,rowF (cutW w B).heap.size 3 1 (.slice (some ⟨g5,0,none⟩) 4 4) (([0,4,64,65535] : List Int).map intRow),slF (.slice A code.length cap) 1 (code.map byteRow),frF w (fun b => b = g)] (by kernel_rfl) (by kernel_rfl)).trans <| kF 2 0 [0,2,3,4,5]⟩
 refine kSW 4 85 [.pointer (some ⟨g,0,none⟩),.int .i64 y19] (some 43) 0 rfl rfl hlo (under_t (under_f rfl under_nil)) (xcm_curR fun ww hw hf => l1Bytes_c g code A cap y19 ww B (Nat.le_trans (by first | exact Nat.le_refl _ | exact Nat.le_of_eq (cutW_size hB).symm) hw) (hf (curF B g 100 (.slice A code.length cap) code.length) (by simp)) (hf _ m3) hap (by omega) (by omega)) ?_
 rintro ⟨⟨b24l,b24a,b24c⟩,hb24⟩
 dsimp only at hb24
 refine kA [0,5] ⟨?_,?_⟩
 refine kSV 0 (.v (.agg (conL x (.slice A1 x.r.held.length c1)).toArray)) rfl ?_
 refine kA [5] ?_
 refine kSR 5 (.string (bstr b24l)) rfl (fun _ _ ww hr => act_b2s (e := 5) b24l hr.1 rfl (by kernel_rfl) (by kernel_rfl) (by kernel_rfl) rfl (rowF_sl (hr.2.fact (rowF (cutW w B).heap.size 5 1 (.slice b24a b24l.length b24c) (b24l.map byteRow)) (by simp)).1)) ?_
 refine kA [6] ?_
 refine kSC 6 34 [.agg (conL x (.slice A1 x.r.held.length c1)).toArray,.string (bstr b24l)] (some 45) rfl (xc_r fun ww hw hf => ysWrite_c x (.slice A1 x.r.held.length c1) (bstr b24l) ww (Own.sl (hf _ m2)) (by assumption) (by assumption) (by omega) (by first | omega | (rw [bstr_size]; omega) | decide) ((cutW w B).heap.size) hw) ?_
 rintro ⟨⟨v25a,v25c⟩,⟨v26a,v26c⟩⟩
 have hbd27 : (write x (bstr b24l)).1.r.held.length ≤ 1048576 ∧ (write x (bstr b24l)).2.2.length ≤ 49 := write_bd _ _  (by omega)
 have hbd27a := hbd27.1; have hbd27b := hbd27.2
 refine kTD [7,8,9,10] [46,0,2,3,4,5] 1 [(46,.v (.agg (conL (write x (bstr b24l)).1 (.slice v25a ((write x (bstr b24l)).1.r.held.length) v25c)).toArray))] ?_
 refine kA [11] ?_
 refine kSS 11 1 0 (conL (write x (bstr b24l)).1 (.slice v25a ((write x (bstr b24l)).1.r.held.length) v25c)) rfl ?_
 refine kZ ?_
 exact ⟨⟨((write x (bstr b24l)).1,v25a,v25c),(by first | exact RB.write hrb _ | exact RB.tick hrb | exact RB.shut hrb | exact RB.read hrb _ | exact RB.recv hrb (by omega) _ | exact hrb)⟩,(wk_pick [0,3,5,6,7] [ownF (cutW w B).heap.size (.slice v25a ((write x (bstr b24l)).1.r.held.length) v25c) 2 ((write x (bstr b24l)).1.r.held.map pceCells),curF B g 100 (.slice A code.length cap) code.length,rowF (cutW w B).heap.size 3 1 (.slice (some ⟨g5,0,none⟩) 4 4) (([0,4,64,65535] : List Int).map intRow),slF (.slice A code.length cap) 1 (code.map byteRow),frF w (fun b => b = g)] (by kernel_rfl) (by kernel_rfl)).trans <| kF 2 0 [0,2,3,4,5]⟩
 refine kSR 5 (.string (bstr b24l)) rfl (fun _ _ ww hr => act_b2s (e := 5) b24l hr.1 rfl (by kernel_rfl) (by kernel_rfl) (by kernel_rfl) rfl (rowF_sl (hr.2.fact (rowF (cutW w B).heap.size 5 1 (.slice b24a b24l.length b24c) (b24l.map byteRow)) (by simp)).1)) ?_
 refine kA [0] ?_
 refine kSV 0 (.v (.agg (conL x (.slice A1 x.r.held.length c1)).toArray)) rfl ?_
 refine kA [6] ?_
 refine kSC 6 34 [.agg (conL x (.slice A1 x.r.held.length c1)).toArray,.string (bstr b24l)] (some 45) rfl (xc_r fun ww hw hf => ysWrite_c x (.slice A1 x.r.held.length c1) (bstr b24l) ww (Own.sl (hf _ m2)) (by assumption) (by assumption) (by omega) (by first | omega | (rw [bstr_size]; omega) | decide) ((cutW w B).heap.size) hw) ?_
 rintro ⟨⟨v28a,v28c⟩,⟨v29a,v29c⟩⟩
 have hbd30 : (write x (bstr b24l)).1.r.held.length ≤ 1048576 ∧ (write x (bstr b24l)).2.2.length ≤ 49 := write_bd _ _  (by omega)
 have hbd30a := hbd30.1; have hbd30b := hbd30.2
 refine kTD [7,8,9,10] [46,0,2,3,4,5] 1 [(46,.v (.agg (conL (write x (bstr b24l)).1 (.slice v28a ((write x (bstr b24l)).1.r.held.length) v28c)).toArray))] ?_
 refine kA [11] ?_
 refine kSS 11 1 0 (conL (write x (bstr b24l)).1 (.slice v28a ((write x (bstr b24l)).1.r.held.length) v28c)) rfl ?_
 refine kZ ?_
 exact ⟨⟨((write x (bstr b24l)).1,v28a,v28c),(by first | exact RB.write hrb _ | exact RB.tick hrb | exact RB.shut hrb | exact RB.read hrb _ | exact RB.recv hrb (by omega) _ | exact hrb)⟩,(wk_pick [0,3,5,6,7] [ownF (cutW w B).heap.size (.slice v28a ((write x (bstr b24l)).1.r.held.length) v28c) 2 ((write x (bstr b24l)).1.r.held.map pceCells),curF B g 100 (.slice A code.length cap) code.length,rowF (cutW w B).heap.size 3 1 (.slice (some ⟨g5,0,none⟩) 4 4) (([0,4,64,65535] : List Int).map intRow),slF (.slice A code.length cap) 1 (code.map byteRow),frF w (fun b => b = g)] (by kernel_rfl) (by kernel_rfl)).trans <| kF 2 0 [0,2,3,4,5]⟩
 have h13p := eqF h13
 refine kQ ?_
 refine kED [0,2,3,4,5,26,49] [(49,.v (.bool (y12 == 1)))] ?_
 refine kC (y12 == 1) (fun h31 => ?_) (fun h31 => ?_)
 have h31p := eqT h31
 refine kG ?_
 refine kCD 1 [0,2,3,4,5,52] [(52,.v (.agg (conL x (.slice A1 x.r.held.length c1)).toArray))] 43 [.agg (conL x (.slice A1 x.r.held.length c1)).toArray] (some 53) rfl (xc_r fun ww hw hf => ysTickConn_c x (.slice A1 x.r.held.length c1) ww (Own.sl (hf _ m1)) (by assumption) (by assumption) (by omega) ((cutW w B).heap.size) hw) ?_
 rintro ⟨⟨v32a,v32c⟩,⟨v33a,v33c⟩⟩
 have hbd34 : (tickConn x).1.r.held.length ≤ 1048576 ∧ (tickConn x).2.length ≤ 49 := tickConn_bd _  (by omega)
 have hbd34a := hbd34.1; have hbd34b := hbd34.2
 refine kEU [0,2,3,4,5] [] 1 ⟨34,conL (tickConn x).1 (.slice v32a ((tickConn x).1.r.held.length) v32c)⟩ ?_
 exact ⟨⟨((tickConn x).1,v32a,v32c),(by first | exact RB.write hrb _ | exact RB.tick hrb | exact RB.shut hrb | exact RB.read hrb _ | exact RB.recv hrb (by omega) _ | exact hrb)⟩,(wk_pick [0,2,4,5,6] [ownF (cutW w B).heap.size (.slice v32a ((tickConn x).1.r.held.length) v32c) 2 ((tickConn x).1.r.held.map pceCells),curF B g 100 (.slice A code.length cap) code.length,rowF (cutW w B).heap.size 3 1 (.slice (some ⟨g5,0,none⟩) 4 4) (([0,4,64,65535] : List Int).map intRow),slF (.slice A code.length cap) 1 (code.map byteRow),frF w (fun b => b = g)] (by kernel_rfl) (by kernel_rfl)).trans <| kF 2 0 [0,2,3,4,5]⟩
 have h31p := eqF h31
 refine kQ ?_
 refine kED [0,2,3,4,5,26,56] [(56,.v (.bool (y12 == 2)))] ?_
 refine kC (y12 == 2) (fun h35 => ?_) (fun h35 => ?_)
 have h35p := eqT h35
 refine kQ ?_
 refine kWD 1 [0,2,3,4,5,58] [(58,.v (.pointer (some ⟨g,0,none⟩)))] 64 [.pointer (some ⟨g,0,none⟩),.int .i64 2] (some 59) 0 rfl rfl hlo (l1Once_c_K hBw hap) ?_
 rintro ⟨y36,hy36⟩
 refine kED [0,2,3,4,5,59] [] ?_
 refine kC (y36) (fun h37 => ?_) (fun h37 => ?_)
 refine kG ?_
 refine kCD 1 [0,2,3,4,5,61] [(61,.v (.agg (conL x (.slice A1 x.r.held.length c1)).toArray))] 29 [.agg (conL x (.slice A1 x.r.held.length c1)).toArray] (some 62) rfl (xc_r fun ww hw hf => ysShut_c x (.slice A1 x.r.held.length c1) ww (Own.sl (hf _ m1)) (by assumption) (by assumption) (by omega) ((cutW w B).heap.size) hw) ?_
 rintro ⟨⟨v38a,v38c⟩,⟨v39a,v39c⟩⟩
 have hbd40 : (shut x).1.r.held.length ≤ 1048576 ∧ (shut x).2.length ≤ 49 := shut_bd _  (by omega)
 have hbd40a := hbd40.1; have hbd40b := hbd40.2
 refine kEU [0,2,3,4,5] [] 1 ⟨34,conL (shut x).1 (.slice v38a ((shut x).1.r.held.length) v38c)⟩ ?_
 exact ⟨⟨((shut x).1,v38a,v38c),(by first | exact RB.write hrb _ | exact RB.tick hrb | exact RB.shut hrb | exact RB.read hrb _ | exact RB.recv hrb (by omega) _ | exact hrb)⟩,(wk_pick [0,2,4,5,6] [ownF (cutW w B).heap.size (.slice v38a ((shut x).1.r.held.length) v38c) 2 ((shut x).1.r.held.map pceCells),curF B g 100 (.slice A code.length cap) code.length,rowF (cutW w B).heap.size 3 1 (.slice (some ⟨g5,0,none⟩) 4 4) (([0,4,64,65535] : List Int).map intRow),slF (.slice A code.length cap) 1 (code.map byteRow),frF w (fun b => b = g)] (by kernel_rfl) (by kernel_rfl)).trans <| kF 2 0 [0,2,3,4,5]⟩
 refine kK ?_
 exact ⟨⟨(x,A1,c1),(by first | exact RB.write hrb _ | exact RB.tick hrb | exact RB.shut hrb | exact RB.read hrb _ | exact RB.recv hrb (by omega) _ | exact hrb)⟩,(wk_pick [1,0,2,3,4] [ownF (cutW w B).heap.size (.slice A1 x.r.held.length c1) 2 (x.r.held.map pceCells),curF B g 100 (.slice A code.length cap) code.length,rowF (cutW w B).heap.size 3 1 (.slice (some ⟨g5,0,none⟩) 4 4) (([0,4,64,65535] : List Int).map intRow),slF (.slice A code.length cap) 1 (code.map byteRow),frF w (fun b => b = g)] (by kernel_rfl) (by kernel_rfl)).trans <| kF 2 0 [0,2,3,4,5]⟩
 have h35p := eqF h35
 refine kQ ?_
 refine kED [0,2,3,4,5,65] [(65,.v (.bool (y12 == 3)))] ?_
 refine kC (y12 == 3) (fun h41 => ?_) (fun h41 => ?_)
 have h41p := eqT h41
 refine xe_region0 [true,false] (by kernel_rfl) (fun ρ σ => ?_)
 refine kTD [1] [69,0,2,3,4,5] 8 [(69,.v (.pointer (some ⟨g,0,none⟩)))] ?_
 refine kA [0,2] ⟨?_,?_⟩
 refine kSV 0 (.v (.agg (conL x (.slice A1 x.r.held.length c1)).toArray)) rfl ?_
 refine kA [2] ?_
 refine kSW 2 86 [.pointer (some ⟨g,0,none⟩),.int .i64 9] (some 70) 0 rfl rfl hlo (under_t (under_f rfl under_nil)) (l1Below_c_K hBw hap) ?_
 rintro ⟨y42,hy42⟩
 obtain ⟨hy420,hy421⟩ := hy42
 refine kA [3] ?_
 refine kSC 3 20 [.agg (conL x (.slice A1 x.r.held.length c1)).toArray,.int .i64 y42] (some 71) rfl (xc_r fun ww hw hf => ysReadConn_c x (.slice A1 x.r.held.length c1) y42 ww (Own.sl (hf _ m1)) (by assumption) (by assumption) (by omega) ((cutW w B).heap.size) hw) ?_
 rintro ⟨⟨v43a,v43c⟩,⟨v44a,v44c⟩⟩
 have hbd45 : (readConn x y42).1.r.held.length ≤ 1048576 ∧ (readConn x y42).2.2.length ≤ 1 := readConn_bd _ _  (by omega)
 have hbd45a := hbd45.1; have hbd45b := hbd45.2
 refine kTD [4,5,6,7] [72,0,2,3,4,5] 1 [(72,.v (.agg (conL (readConn x y42).1 (.slice v43a ((readConn x y42).1.r.held.length) v43c)).toArray))] ?_
 refine kA [8] ?_
 refine kSS 8 1 0 (conL (readConn x y42).1 (.slice v43a ((readConn x y42).1.r.held.length) v43c)) rfl ?_
 refine kZ ?_
 exact ⟨⟨((readConn x y42).1,v43a,v43c),(by first | exact RB.write hrb _ | exact RB.tick hrb | exact RB.shut hrb | exact RB.read hrb _ | exact RB.recv hrb (by omega) _ | exact hrb)⟩,(wk_pick [0,2,4,5,6] [ownF (cutW w B).heap.size (.slice v43a ((readConn x y42).1.r.held.length) v43c) 2 ((readConn x y42).1.r.held.map pceCells),curF B g 100 (.slice A code.length cap) code.length,rowF (cutW w B).heap.size 3 1 (.slice (some ⟨g5,0,none⟩) 4 4) (([0,4,64,65535] : List Int).map intRow),slF (.slice A code.length cap) 1 (code.map byteRow),frF w (fun b => b = g)] (by kernel_rfl) (by kernel_rfl)).trans <| kF 2 0 [0,2,3,4,5]⟩
 refine kSW 2 86 [.pointer (some ⟨g,0,none⟩),.int .i64 9] (some 70) 0 rfl rfl hlo (under_t (under_f rfl under_nil)) (l1Below_c_K hBw hap) ?_
 rintro ⟨y46,hy46⟩
 obtain ⟨hy460,hy461⟩ := hy46
 refine kA [0] ?_
 refine kSV 0 (.v (.agg (conL x (.slice A1 x.r.held.length c1)).toArray)) rfl ?_
 refine kA [3] ?_
 refine kSC 3 20 [.agg (conL x (.slice A1 x.r.held.length c1)).toArray,.int .i64 y46] (some 71) rfl (xc_r fun ww hw hf => ysReadConn_c x (.slice A1 x.r.held.length c1) y46 ww (Own.sl (hf _ m1)) (by assumption) (by assumption) (by omega) ((cutW w B).heap.size) hw) ?_
 rintro ⟨⟨v47a,v47c⟩,⟨v48a,v48c⟩⟩
 have hbd49 : (readConn x y46).1.r.held.length ≤ 1048576 ∧ (readConn x y46).2.2.length ≤ 1 := readConn_bd _ _  (by omega)
 have hbd49a := hbd49.1; have hbd49b := hbd49.2
 refine kTD [4,5,6,7] [72,0,2,3,4,5] 1 [(72,.v (.agg (conL (readConn x y46).1 (.slice v47a ((readConn x y46).1.r.held.length) v47c)).toArray))] ?_
 refine kA [8] ?_
 refine kSS 8 1 0 (conL (readConn x y46).1 (.slice v47a ((readConn x y46).1.r.held.length) v47c)) rfl ?_
 refine kZ ?_
 exact ⟨⟨((readConn x y46).1,v47a,v47c),(by first | exact RB.write hrb _ | exact RB.tick hrb | exact RB.shut hrb | exact RB.read hrb _ | exact RB.recv hrb (by omega) _ | exact hrb)⟩,(wk_pick [0,2,4,5,6] [ownF (cutW w B).heap.size (.slice v47a ((readConn x y46).1.r.held.length) v47c) 2 ((readConn x y46).1.r.held.map pceCells),curF B g 100 (.slice A code.length cap) code.length,rowF (cutW w B).heap.size 3 1 (.slice (some ⟨g5,0,none⟩) 4 4) (([0,4,64,65535] : List Int).map intRow),slF (.slice A code.length cap) 1 (code.map byteRow),frF w (fun b => b = g)] (by kernel_rfl) (by kernel_rfl)).trans <| kF 2 0 [0,2,3,4,5]⟩
 have h41p := eqF h41
 refine xe_region0 [true,false] (by kernel_rfl) (fun ρ σ => ?_)
 refine kTD [1] [29,0,2,3,4,5] 9 [(29,.v (.pointer (some ⟨g,0,none⟩)))] ?_
 refine kA [0,2] ⟨?_,?_⟩
 refine kSV 0 (.v (.agg (conL x (.slice A1 x.r.held.length c1)).toArray)) rfl ?_
 refine kA [2] ?_
 refine kSV 2 (.v (.agg (conL x (.slice A1 x.r.held.length c1)).toArray)) rfl ?_
 refine kA [3] ?_
 refine kSW 3 100 [.pointer (some ⟨g,0,none⟩),.agg (conL x (.slice A1 x.r.held.length c1)).toArray] (some 31) 0 rfl rfl hlo (under_t (under_f rfl under_nil)) (l19Segment_c_K hBw hap) ?_
 rintro ⟨y50,hy50⟩
 refine kA [4] ?_
 refine kSC 4 128 [.agg (conL x (.slice A1 x.r.held.length c1)).toArray,.agg (segL y50).toArray] (some 32) rfl (xc_r fun ww hw hf => ysReceive_c x (.slice A1 x.r.held.length c1) y50 ww (Own.sl (hf _ m1)) (by assumption) (by omega) (by assumption) (by omega) ((cutW w B).heap.size) hw) ?_
 rintro ⟨⟨v51a,v51c⟩,⟨v52a,v52c⟩⟩
 refine kTD [5,6,7,8] [33,0,2,3,4,5] 1 [(33,.v (.agg (conL (received x y50).1 (.slice v51a ((received x y50).1.r.held.length) v51c)).toArray))] ?_
 refine kA [9] ?_
 refine kSS 9 1 0 (conL (received x y50).1 (.slice v51a ((received x y50).1.r.held.length) v51c)) rfl ?_
 refine kZ ?_
 exact ⟨⟨((received x y50).1,v51a,v51c),(by first | exact RB.write hrb _ | exact RB.tick hrb | exact RB.shut hrb | exact RB.read hrb _ | exact RB.recv hrb (by omega) _ | exact hrb)⟩,(wk_pick [0,2,4,5,6] [ownF (cutW w B).heap.size (.slice v51a ((received x y50).1.r.held.length) v51c) 2 ((received x y50).1.r.held.map pceCells),curF B g 100 (.slice A code.length cap) code.length,rowF (cutW w B).heap.size 3 1 (.slice (some ⟨g5,0,none⟩) 4 4) (([0,4,64,65535] : List Int).map intRow),slF (.slice A code.length cap) 1 (code.map byteRow),frF w (fun b => b = g)] (by kernel_rfl) (by kernel_rfl)).trans <| kF 2 0 [0,2,3,4,5]⟩
 refine kSV 2 (.v (.agg (conL x (.slice A1 x.r.held.length c1)).toArray)) rfl ?_
 refine kA [0,3] ⟨?_,?_⟩
 refine kSV 0 (.v (.agg (conL x (.slice A1 x.r.held.length c1)).toArray)) rfl ?_
 refine kA [3] ?_
 refine kSW 3 100 [.pointer (some ⟨g,0,none⟩),.agg (conL x (.slice A1 x.r.held.length c1)).toArray] (some 31) 0 rfl rfl hlo (under_t (under_f rfl under_nil)) (l19Segment_c_K hBw hap) ?_
 rintro ⟨y53,hy53⟩
 refine kA [4] ?_
 refine kSC 4 128 [.agg (conL x (.slice A1 x.r.held.length c1)).toArray,.agg (segL y53).toArray] (some 32) rfl (xc_r fun ww hw hf => ysReceive_c x (.slice A1 x.r.held.length c1) y53 ww (Own.sl (hf _ m1)) (by assumption) (by omega) (by assumption) (by omega) ((cutW w B).heap.size) hw) ?_
 rintro ⟨⟨v54a,v54c⟩,⟨v55a,v55c⟩⟩
 refine kTD [5,6,7,8] [33,0,2,3,4,5] 1 [(33,.v (.agg (conL (received x y53).1 (.slice v54a ((received x y53).1.r.held.length) v54c)).toArray))] ?_
 refine kA [9] ?_
 refine kSS 9 1 0 (conL (received x y53).1 (.slice v54a ((received x y53).1.r.held.length) v54c)) rfl ?_
 refine kZ ?_
 exact ⟨⟨((received x y53).1,v54a,v54c),(by first | exact RB.write hrb _ | exact RB.tick hrb | exact RB.shut hrb | exact RB.read hrb _ | exact RB.recv hrb (by omega) _ | exact hrb)⟩,(wk_pick [0,2,4,5,6] [ownF (cutW w B).heap.size (.slice v54a ((received x y53).1.r.held.length) v54c) 2 ((received x y53).1.r.held.map pceCells),curF B g 100 (.slice A code.length cap) code.length,rowF (cutW w B).heap.size 3 1 (.slice (some ⟨g5,0,none⟩) 4 4) (([0,4,64,65535] : List Int).map intRow),slF (.slice A code.length cap) 1 (code.map byteRow),frF w (fun b => b = g)] (by kernel_rfl) (by kernel_rfl)).trans <| kF 2 0 [0,2,3,4,5]⟩
 refine kSW 3 100 [.pointer (some ⟨g,0,none⟩),.agg (conL x (.slice A1 x.r.held.length c1)).toArray] (some 31) 0 rfl rfl hlo (under_t (under_f rfl under_nil)) (l19Segment_c_K hBw hap) ?_
 rintro ⟨y56,hy56⟩
 refine kA [0] ?_
 refine kSV 0 (.v (.agg (conL x (.slice A1 x.r.held.length c1)).toArray)) rfl ?_
 refine kA [4] ?_
 refine kSC 4 128 [.agg (conL x (.slice A1 x.r.held.length c1)).toArray,.agg (segL y56).toArray] (some 32) rfl (xc_r fun ww hw hf => ysReceive_c x (.slice A1 x.r.held.length c1) y56 ww (Own.sl (hf _ m1)) (by assumption) (by omega) (by assumption) (by omega) ((cutW w B).heap.size) hw) ?_
 rintro ⟨⟨v57a,v57c⟩,⟨v58a,v58c⟩⟩
 refine kTD [5,6,7,8] [33,0,2,3,4,5] 1 [(33,.v (.agg (conL (received x y56).1 (.slice v57a ((received x y56).1.r.held.length) v57c)).toArray))] ?_
 refine kA [9] ?_
 refine kSS 9 1 0 (conL (received x y56).1 (.slice v57a ((received x y56).1.r.held.length) v57c)) rfl ?_
 refine kZ ?_
 exact ⟨⟨((received x y56).1,v57a,v57c),(by first | exact RB.write hrb _ | exact RB.tick hrb | exact RB.shut hrb | exact RB.read hrb _ | exact RB.recv hrb (by omega) _ | exact hrb)⟩,(wk_pick [0,2,4,5,6] [ownF (cutW w B).heap.size (.slice v57a ((received x y56).1.r.held.length) v57c) 2 ((received x y56).1.r.held.map pceCells),curF B g 100 (.slice A code.length cap) code.length,rowF (cutW w B).heap.size 3 1 (.slice (some ⟨g5,0,none⟩) 4 4) (([0,4,64,65535] : List Int).map intRow),slF (.slice A code.length cap) 1 (code.map byteRow),frF w (fun b => b = g)] (by kernel_rfl) (by kernel_rfl)).trans <| kF 2 0 [0,2,3,4,5]⟩
 rintro ⟨⟨x2,A4,c4⟩,hr2⟩
 try dsimp only
 try dsimp only at hr2
 refine kG ?_
 refine kRS 3 [0,2,3,4,5] [(0,.v (.pointer (some ⟨g,0,none⟩))),(2,.p 0 0),(3,.p 1 0),(4,.v (.int .i64 y10)),(5,.v (.int .i64 (IntKind.i64.wrap ((i : Int) + 1))))] ?_
 refine xl_eqS (t' := [(0,.v (.pointer (some ⟨g,0,none⟩))),(2,.p 0 0),(3,.p 1 0),(4,.v (.int .i64 y10)),(5,.v (.int .i64 ((i : Int) + 1)))]) (by rw [show (IntKind.i64.wrap ((i : Int) + 1)) = ((i : Int) + 1) from wrap_id (by omega) (by omega)]) ?_
 refine kED [0,2,3,4,5] [] ?_
 exact ⟨⟨(i + 1,x2,A4,c4),⟨(by omega),hr2⟩⟩,kF 2 0 [0,2,3,4,5],by show (fun (i : Nat) (x : Con) (A1 : Option Addr) (c1 : Nat) => (y10).toNat - i) (i + 1) x2 A4 c4 < (y10).toNat - i; (dsimp only; omega)⟩
 have h11p := of_decide_eq_false h11
 have hge : ¬ (i : Int) < y10 := of_decide_eq_false h11
 refine xw_exit ?_
 refine kQ ?_
 refine kEU [2] [(2,.p 0 0)] 0 ⟨34,conL x (.slice A1 x.r.held.length c1)⟩ ?_
 refine kR ?_
 exact ⟨[.agg (conL x (.slice A1 x.r.held.length c1)).toArray],by kernel_rfl,fun w' hb hf ha => ⟨⟨(x,A1,c1),hrb.up⟩,rfl,hf (curF B g 100 (.slice A code.length cap) code.length) (by simp),newF_own (hf (ownF (cutW w B).heap.size (.slice A1 x.r.held.length c1) 2 (x.r.held.map pceCells)) (by simp)) (own_new ha (i := 0) (j := 1) (k := 4) rfl rfl rfl rfl (by decide) (by decide)),hgl,frF_chgd (hf (frF w (fun b => b = g)) (by simp)) hb rfl rfl rfl⟩⟩
theorem l19Bent_c (g : Nat) (code : List Int) (A : Option Addr) (cap : Nat) (w : World) (B : Nat) (hB : B ≤ w.heap.size) (hc : (curF B g 100 (.slice A code.length cap) code.length).p w) (hl : Sl w (.slice A code.length cap) 1 (code.map byteRow)) (hap : ¬ (slF (.slice A code.length cap) 1 (code.map byteRow)).blk g) (hn : code.length ≤ 1048576) : Calls Tryz.prog 63 #[.pointer (some ⟨g, 0, none⟩)] w fun e w' => ∃ y : {y : Con × (Option Addr × Nat) // RB 4 y.1.r}, e = .returned (.agg (conL y.1.1 (.slice y.1.2.1 y.1.1.r.held.length y.1.2.2)).toArray) ∧ (curF B g 100 (.slice A code.length cap) code.length).p w' ∧ (newF w.heap.size (.slice y.1.2.1 y.1.1.r.held.length y.1.2.2) 2 (y.1.1.r.held.map pceCells)).p w' ∧ g < w.heap.size ∧ Chgd (fun b => b = g) w w' := by
 have hq_code := Sl.capLe hl
 have hBw : B ≤ (cutW w B).heap.size := Nat.le_of_eq (cutW_size hB).symm
 have hlo : ∀ (ww : World) (b : Nat),(curF B g 100 (.slice A code.length cap) code.length).p ww → (curF B g 100 (.slice A code.length cap) code.length).blk b → (cutW w B).heap.size ≤ b := fun ww b h hb => Nat.le_trans (cutW_le w B) (cur_lo h hb)
 refine x_callsMA (args := [.pointer (some ⟨g,0,none⟩)]) (fn := Tryz.f63) [curF B g 100 (.slice A code.length cap) code.length,slF (.slice A code.length cap) 1 (code.map byteRow),frF w (fun b => b = g)] B Tryz.func63 rfl Tryz.ntmps63 rfl hB (by simp only [List.mem_cons,List.not_mem_nil,or_false,forall_eq_or_imp,forall_eq]; exact ⟨hc,hl,frF_start w _⟩) (apart_cur hap rfl) ?_
 have hgl : g < w.heap.size := (curF B g 100 (.slice A code.length cap) code.length).lt w g hc rfl
 refine kQ ?_
 refine kEF [0,2] ⟨[(0,.v (.pointer (some ⟨g,0,none⟩))),(2,.p 0 0)],[⟨34,conZ⟩],[],[curF B g 100 (.slice A code.length cap) code.length,slF (.slice A code.length cap) 1 (code.map byteRow),frF w (fun b => b = g)]⟩ ?_
 refine kQ ?_
 refine kWD 1 [0,2,4] [(4,.v (.pointer (some ⟨g,0,none⟩)))] 107 [.pointer (some ⟨g,0,none⟩)] (some 5) 0 rfl rfl hlo (xcm_curN fun ww hw hf => l19Conn_c g code A cap ww B (Nat.le_trans (by first | exact Nat.le_refl _ | exact Nat.le_of_eq (cutW_size hB).symm) hw) (hf (curF B g 100 (.slice A code.length cap) code.length) (by simp)) (hf _ m1) hap (by omega)) ?_
 rintro ⟨⟨b1m,b1a,b1c⟩,hb1⟩
 dsimp only at hb1
 have hb1n := hb1.1
 refine kEA [0,2,3] [(3,.p 1 0)] [⟨34,conL b1m (.slice b1a b1m.r.held.length b1c)⟩] ?_
 refine kS ?_
 refine kQ ?_
 refine kWD 1 [0,2,3,6] [(6,.v (.pointer (some ⟨g,0,none⟩)))] 86 [.pointer (some ⟨g,0,none⟩),.int .i64 16] (some 7) 1 rfl rfl hlo (l1Below_c_K hBw hap) ?_
 rintro ⟨y2,hy2⟩
 obtain ⟨hy20,hy21⟩ := hy2
 refine kED [0,2,3,7] [] ?_
 refine xw_block ?_
 refine kQ ?_
 refine kED [0,2,3,7,8] [(8,.v (.bool (y2 == 0)))] ?_
 refine kC (y2 == 0) (fun h3 => ?_) (fun h3 => ?_)
 have h3p := eqT h3
 refine kG ?_
 refine kWD 1 [2,3,10] [(10,.v (.pointer (some ⟨g,0,none⟩)))] 86 [.pointer (some ⟨g,0,none⟩),.int .i64 11] (some 11) 0 rfl rfl hlo (l1Below_c_K hBw hap) ?_
 rintro ⟨y4,hy4⟩
 obtain ⟨hy40,hy41⟩ := hy4
 refine kEU [2,3] [] 1 ⟨34,conL { b1m with state := IntKind.i64.wrap (y4 - 1) } (.slice b1a b1m.r.held.length b1c)⟩ ?_
 refine kQ ?_
 refine kEU [2] [(2,.p 0 0)] 0 ⟨34,conL { b1m with state := IntKind.i64.wrap (y4 - 1) } (.slice b1a b1m.r.held.length b1c)⟩ ?_
 refine kR ?_
 exact ⟨[.agg (conL { b1m with state := IntKind.i64.wrap (y4 - 1) } (.slice b1a b1m.r.held.length b1c)).toArray],by kernel_rfl,fun w' hb hf ha => ⟨⟨({ b1m with state := IntKind.i64.wrap (y4 - 1) },b1a,b1c),hb1⟩,rfl,hf (curF B g 100 (.slice A code.length cap) code.length) (by simp),newF_new (hf (newF (cutW w B).heap.size (.slice b1a b1m.r.held.length b1c) 2 (b1m.r.held.map pceCells)) (by simp)) (own_new ha (i := 1) (j := 0) (k := 3) rfl rfl rfl rfl (by decide) (by decide)),hgl,frF_chgd (hf (frF w (fun b => b = g)) (by simp)) hb rfl rfl rfl⟩⟩
 have h3p := eqF h3
 refine kQ ?_
 refine kED [0,2,3,7,14] [(14,.v (.bool (y2 == 1)))] ?_
 refine kC (y2 == 1) (fun h5 => ?_) (fun h5 => ?_)
 have h5p := eqT h5
 refine kG ?_
 refine kWD 1 [2,3,16] [(16,.v (.pointer (some ⟨g,0,none⟩)))] 108 [.pointer (some ⟨g,0,none⟩)] (some 17) 0 rfl rfl hlo (l17Bent_c_K hBw hap) ?_
 rintro ⟨y6,hy6⟩
 refine kEU [2,3] [] 1 ⟨34,conL { b1m with s := y6 } (.slice b1a b1m.r.held.length b1c)⟩ ?_
 refine kQ ?_
 refine kEU [2] [(2,.p 0 0)] 0 ⟨34,conL { b1m with s := y6 } (.slice b1a b1m.r.held.length b1c)⟩ ?_
 refine kR ?_
 exact ⟨[.agg (conL { b1m with s := y6 } (.slice b1a b1m.r.held.length b1c)).toArray],by kernel_rfl,fun w' hb hf ha => ⟨⟨({ b1m with s := y6 },b1a,b1c),hb1⟩,rfl,hf (curF B g 100 (.slice A code.length cap) code.length) (by simp),newF_new (hf (newF (cutW w B).heap.size (.slice b1a b1m.r.held.length b1c) 2 (b1m.r.held.map pceCells)) (by simp)) (own_new ha (i := 1) (j := 0) (k := 3) rfl rfl rfl rfl (by decide) (by decide)),hgl,frF_chgd (hf (frF w (fun b => b = g)) (by simp)) hb rfl rfl rfl⟩⟩
 have h5p := eqF h5
 refine kQ ?_
 refine kED [0,2,3,7,19] [(19,.v (.bool (y2 == 2)))] ?_
 refine kC (y2 == 2) (fun h7 => ?_) (fun h7 => ?_)
 have h7p := eqT h7
 refine kG ?_
 refine kWD 1 [2,3,21] [(21,.v (.pointer (some ⟨g,0,none⟩)))] 109 [.pointer (some ⟨g,0,none⟩)] (some 22) 0 rfl rfl hlo (xcm_curR fun ww hw hf => l18Bent_c g code A cap ww B (Nat.le_trans (by first | exact Nat.le_refl _ | exact Nat.le_of_eq (cutW_size hB).symm) hw) (hf (curF B g 100 (.slice A code.length cap) code.length) (by simp)) (hf _ m2) hap (by omega)) ?_
 rintro ⟨⟨b8m,b8a,b8c⟩,hb8⟩
 dsimp only at hb8
 have hb8n := hb8.1
 refine kEU [2,3] [] 1 ⟨34,conL { b1m with r := b8m } (.slice b8a b8m.held.length b8c)⟩ ?_
 refine kQ ?_
 refine kEU [2] [(2,.p 0 0)] 0 ⟨34,conL { b1m with r := b8m } (.slice b8a b8m.held.length b8c)⟩ ?_
 refine kR ?_
 exact ⟨[.agg (conL { b1m with r := b8m } (.slice b8a b8m.held.length b8c)).toArray],by kernel_rfl,fun w' hb hf ha => ⟨⟨({ b1m with r := b8m },b8a,b8c),hb8⟩,rfl,hf (curF B g 100 (.slice A code.length cap) code.length) (by simp),newF_row (hf (rowF (cutW w B).heap.size 108 2 (.slice b8a b8m.held.length b8c) (b8m.held.map pceCells)) (by simp)) (own_new ha (i := 0) (j := 1) (k := 4) rfl rfl rfl rfl (by decide) (by decide)),hgl,frF_chgd (hf (frF w (fun b => b = g)) (by simp)) hb rfl rfl rfl⟩⟩
 have h7p := eqF h7
 refine kQ ?_
 refine kED [0,2,3,7,24] [(24,.v (.bool (y2 == 3)))] ?_
 refine kC (y2 == 3) (fun h9 => ?_) (fun h9 => ?_)
 have h9p := eqT h9
 refine kG ?_
 refine kHD 6 [2,3,26,28,31] [(26,.v (.pointer (some ⟨g,0,none⟩))),(28,.v (.int .i64 b1m.most)),(31,.v (.int .i64 (IntKind.i64.wrap (b1m.most + 1))))] rfl (hv_build (e := 3) (K := 1) (bytes := 8) [.int .i64 (-1),.int .i64 0,.int .i64 b1m.most,.int .i64 (IntKind.i64.wrap (b1m.most + 1))] rfl (by kernel_rfl) (by kernel_rfl) (by kernel_rfl) (by kernel_rfl) (by kernel_rfl) (rs := ([(-1),0,b1m.most,IntKind.i64.wrap (b1m.most + 1)] : List Int).map intRow) rfl) ?_
 intro g10
 refine xl_know (φ := ¬ (slF (.slice (some ⟨g10,0,none⟩) 4 4) 1 (([(-1),0,b1m.most,IntKind.i64.wrap (b1m.most + 1)] : List Int).map intRow)).blk g) (fun _ _ _ _ hr => fun hb => hr.2.apart 0 1 (rowF (cutW w B).heap.size 3 1 (.slice (some ⟨g10,0,none⟩) 4 4) (([(-1),0,b1m.most,IntKind.i64.wrap (b1m.most + 1)] : List Int).map intRow)) (curF B g 100 (.slice A code.length cap) code.length) rfl rfl (by decide) rfl g (rowF_sblk hb) rfl) (fun hk11 => ?_)
 refine kWD 0 [2,3,26,32] [] 66 [.pointer (some ⟨g,0,none⟩),.slice (some ⟨g10,0,none⟩) 4 4] (some 33) 1 rfl rfl hlo (l1PickInt_c_K hBw hap (fun ww hw hf => (rowF_sl (hf _ m0))) hk11 (by simp)) ?_
 rintro ⟨y12,hy12⟩
 refine kEF [2,3] ⟨[(2,.p 0 0),(3,.p 1 0)],[⟨34,conZ⟩,⟨34,conL { b1m with window := y12 } (.slice b1a b1m.r.held.length b1c)⟩],[],[curF B g 100 (.slice A code.length cap) code.length,rowF (cutW w B).heap.size 3 1 (.slice (some ⟨g10,0,none⟩) 4 4) (([(-1),0,b1m.most,IntKind.i64.wrap (b1m.most + 1)] : List Int).map intRow),newF (cutW w B).heap.size (.slice b1a b1m.r.held.length b1c) 2 (b1m.r.held.map pceCells),slF (.slice A code.length cap) 1 (code.map byteRow),frF w (fun b => b = g)]⟩ ?_
 refine kQ ?_
 refine kEU [2] [(2,.p 0 0)] 0 ⟨34,conL { b1m with window := y12 } (.slice b1a b1m.r.held.length b1c)⟩ ?_
 refine kR ?_
 exact ⟨[.agg (conL { b1m with window := y12 } (.slice b1a b1m.r.held.length b1c)).toArray],by kernel_rfl,fun w' hb hf ha => ⟨⟨({ b1m with window := y12 },b1a,b1c),hb1⟩,rfl,hf (curF B g 100 (.slice A code.length cap) code.length) (by simp),newF_new (hf (newF (cutW w B).heap.size (.slice b1a b1m.r.held.length b1c) 2 (b1m.r.held.map pceCells)) (by simp)) (own_new ha (i := 2) (j := 0) (k := 4) rfl rfl rfl rfl (by decide) (by decide)),hgl,frF_chgd (hf (frF w (fun b => b = g)) (by simp)) hb rfl rfl rfl⟩⟩
 have h9p := eqF h9
 refine kQ ?_
 refine kED [0,2,3,7,35] [(35,.v (.bool (y2 == 4)))] ?_
 refine kC (y2 == 4) (fun h13 => ?_) (fun h13 => ?_)
 have h13p := eqT h13
 refine kG ?_
 refine kHD 1 [2,3,37] [(37,.v (.pointer (some ⟨g,0,none⟩)))] rfl (hv_build (e := 3) (K := 1) (bytes := 8) [.int .i64 (-1),.int .i64 0,.int .i64 3,.int .i64 4,.int .i64 5] rfl (by kernel_rfl) (by kernel_rfl) (by kernel_rfl) (by kernel_rfl) (by kernel_rfl) (rs := ([(-1),0,3,4,5] : List Int).map intRow) rfl) ?_
 intro g14
 refine xl_know (φ := ¬ (slF (.slice (some ⟨g14,0,none⟩) 5 5) 1 (([(-1),0,3,4,5] : List Int).map intRow)).blk g) (fun _ _ _ _ hr => fun hb => hr.2.apart 0 1 (rowF (cutW w B).heap.size 3 1 (.slice (some ⟨g14,0,none⟩) 5 5) (([(-1),0,3,4,5] : List Int).map intRow)) (curF B g 100 (.slice A code.length cap) code.length) rfl rfl (by decide) rfl g (rowF_sblk hb) rfl) (fun hk15 => ?_)
 refine kWS 0 [2,3,37,38] [(2,.p 0 0),(3,.p 1 0),(37,.v (.pointer (some ⟨g,0,none⟩))),(38,.v (.slice (some ⟨g14,0,none⟩) 5 5))] 66 [.pointer (some ⟨g,0,none⟩),.slice (some ⟨g14,0,none⟩) 5 5] (some 39) 1 rfl rfl hlo (l1PickInt_c_K hBw hap (fun ww hw hf => (rowF_sl (hf _ m0))) hk15 (by simp)) ?_
 rintro ⟨y16,hy16⟩
 refine kEU [2,3] [] 1 ⟨34,conL { b1m with timer := y16 } (.slice b1a b1m.r.held.length b1c)⟩ ?_
 refine kQ ?_
 refine kEU [2] [(2,.p 0 0)] 0 ⟨34,conL { b1m with timer := y16 } (.slice b1a b1m.r.held.length b1c)⟩ ?_
 refine kR ?_
 exact ⟨[.agg (conL { b1m with timer := y16 } (.slice b1a b1m.r.held.length b1c)).toArray],by kernel_rfl,fun w' hb hf ha => ⟨⟨({ b1m with timer := y16 },b1a,b1c),hb1⟩,rfl,hf (curF B g 100 (.slice A code.length cap) code.length) (by simp),newF_new (hf (newF (cutW w B).heap.size (.slice b1a b1m.r.held.length b1c) 2 (b1m.r.held.map pceCells)) (by simp)) (own_new ha (i := 2) (j := 0) (k := 4) rfl rfl rfl rfl (by decide) (by decide)),hgl,frF_chgd (hf (frF w (fun b => b = g)) (by simp)) hb rfl rfl rfl⟩⟩
 have h13p := eqF h13
 refine kQ ?_
 refine kED [0,2,3,7,41] [(41,.v (.bool (y2 == 5)))] ?_
 refine kC (y2 == 5) (fun h17 => ?_) (fun h17 => ?_)
 have h17p := eqT h17
 refine kG ?_
 refine kHS 1 [2,3,43] [(2,.p 0 0),(3,.p 1 0),(43,.v (.pointer (some ⟨g,0,none⟩)))] rfl (hv_build (e := 3) (K := 1) (bytes := 8) [.int .i64 (-1),.int .i64 0,.int .i64 3,.int .i64 4] rfl (by kernel_rfl) (by kernel_rfl) (by kernel_rfl) (by kernel_rfl) (by kernel_rfl) (rs := ([(-1),0,3,4] : List Int).map intRow) rfl) ?_
 intro g18
 refine xl_know (φ := ¬ (slF (.slice (some ⟨g18,0,none⟩) 4 4) 1 (([(-1),0,3,4] : List Int).map intRow)).blk g) (fun _ _ _ _ hr => fun hb => hr.2.apart 0 1 (rowF (cutW w B).heap.size 3 1 (.slice (some ⟨g18,0,none⟩) 4 4) (([(-1),0,3,4] : List Int).map intRow)) (curF B g 100 (.slice A code.length cap) code.length) rfl rfl (by decide) rfl g (rowF_sblk hb) rfl) (fun hk19 => ?_)
 refine kWD 0 [2,3,43,44] [] 66 [.pointer (some ⟨g,0,none⟩),.slice (some ⟨g18,0,none⟩) 4 4] (some 45) 1 rfl rfl hlo (l1PickInt_c_K hBw hap (fun ww hw hf => (rowF_sl (hf _ m0))) hk19 (by simp)) ?_
 rintro ⟨y20,hy20⟩
 refine kEU [2,3] [] 1 ⟨34,conL { b1m with tries := y20 } (.slice b1a b1m.r.held.length b1c)⟩ ?_
 refine kQ ?_
 refine kEU [2] [(2,.p 0 0)] 0 ⟨34,conL { b1m with tries := y20 } (.slice b1a b1m.r.held.length b1c)⟩ ?_
 refine kR ?_
 exact ⟨[.agg (conL { b1m with tries := y20 } (.slice b1a b1m.r.held.length b1c)).toArray],by kernel_rfl,fun w' hb hf ha => ⟨⟨({ b1m with tries := y20 },b1a,b1c),hb1⟩,rfl,hf (curF B g 100 (.slice A code.length cap) code.length) (by simp),newF_new (hf (newF (cutW w B).heap.size (.slice b1a b1m.r.held.length b1c) 2 (b1m.r.held.map pceCells)) (by simp)) (own_new ha (i := 2) (j := 0) (k := 4) rfl rfl rfl rfl (by decide) (by decide)),hgl,frF_chgd (hf (frF w (fun b => b = g)) (by simp)) hb rfl rfl rfl⟩⟩
 have h17p := eqF h17
 refine kQ ?_
 refine kES [0,2,3,7,47] [(0,.v (.pointer (some ⟨g,0,none⟩))),(2,.p 0 0),(3,.p 1 0),(7,.v (.int .i64 y2)),(47,.v (.bool (y2 == 6)))] ?_
 refine kC (y2 == 6) (fun h21 => ?_) (fun h21 => ?_)
 have h21p := eqT h21
 refine kG ?_
 refine kWD 1 [2,3,49] [(49,.v (.pointer (some ⟨g,0,none⟩)))] 110 [.pointer (some ⟨g,0,none⟩)] (some 50) 0 rfl rfl hlo (l8Bent_c_K hBw hap) ?_
 rintro ⟨y22,hy22⟩
 refine kEU [2,3] [] 1 ⟨34,conL { b1m with o := y22 } (.slice b1a b1m.r.held.length b1c)⟩ ?_
 refine kQ ?_
 refine kEU [2] [(2,.p 0 0)] 0 ⟨34,conL { b1m with o := y22 } (.slice b1a b1m.r.held.length b1c)⟩ ?_
 refine kR ?_
 exact ⟨[.agg (conL { b1m with o := y22 } (.slice b1a b1m.r.held.length b1c)).toArray],by kernel_rfl,fun w' hb hf ha => ⟨⟨({ b1m with o := y22 },b1a,b1c),hb1⟩,rfl,hf (curF B g 100 (.slice A code.length cap) code.length) (by simp),newF_new (hf (newF (cutW w B).heap.size (.slice b1a b1m.r.held.length b1c) 2 (b1m.r.held.map pceCells)) (by simp)) (own_new ha (i := 1) (j := 0) (k := 3) rfl rfl rfl rfl (by decide) (by decide)),hgl,frF_chgd (hf (frF w (fun b => b = g)) (by simp)) hb rfl rfl rfl⟩⟩
 have h21p := eqF h21
 refine kQ ?_
 refine kED [0,2,3,52] [(52,.v (.bool (y2 == 7)))] ?_
 refine kC (y2 == 7) (fun h23 => ?_) (fun h23 => ?_)
 have h23p := eqT h23
 refine kG ?_
 refine kWD 1 [2,3,54] [(54,.v (.pointer (some ⟨g,0,none⟩)))] 111 [.pointer (some ⟨g,0,none⟩)] (some 55) 0 rfl rfl hlo (l12Bent_c_K hBw hap) ?_
 rintro ⟨y24,hy24⟩
 refine kEU [2,3] [] 1 ⟨34,conL { b1m with t := y24 } (.slice b1a b1m.r.held.length b1c)⟩ ?_
 refine kQ ?_
 refine kEU [2] [(2,.p 0 0)] 0 ⟨34,conL { b1m with t := y24 } (.slice b1a b1m.r.held.length b1c)⟩ ?_
 refine kR ?_
 exact ⟨[.agg (conL { b1m with t := y24 } (.slice b1a b1m.r.held.length b1c)).toArray],by kernel_rfl,fun w' hb hf ha => ⟨⟨({ b1m with t := y24 },b1a,b1c),hb1⟩,rfl,hf (curF B g 100 (.slice A code.length cap) code.length) (by simp),newF_new (hf (newF (cutW w B).heap.size (.slice b1a b1m.r.held.length b1c) 2 (b1m.r.held.map pceCells)) (by simp)) (own_new ha (i := 1) (j := 0) (k := 3) rfl rfl rfl rfl (by decide) (by decide)),hgl,frF_chgd (hf (frF w (fun b => b = g)) (by simp)) hb rfl rfl rfl⟩⟩
 have h23p := eqF h23
 refine kK ?_
 refine kQ ?_
 refine kEU [2] [(2,.p 0 0)] 0 ⟨34,conL b1m (.slice b1a b1m.r.held.length b1c)⟩ ?_
 refine kR ?_
 exact ⟨[.agg (conL b1m (.slice b1a b1m.r.held.length b1c)).toArray],by kernel_rfl,fun w' hb hf ha => ⟨⟨(b1m,b1a,b1c),hb1⟩,rfl,hf (curF B g 100 (.slice A code.length cap) code.length) (by simp),newF_new (hf (newF (cutW w B).heap.size (.slice b1a b1m.r.held.length b1c) 2 (b1m.r.held.map pceCells)) (by simp)) (own_new ha (i := 1) (j := 0) (k := 3) rfl rfl rfl rfl (by decide) (by decide)),hgl,frF_chgd (hf (frF w (fun b => b = g)) (by simp)) hb rfl rfl rfl⟩⟩
theorem drawShut_c (code : List Int) (A : Option Addr) (cap : Nat) (w : World) (hl : Sl w (.slice A code.length cap) 1 (code.map byteRow)) (hn : code.length ≤ 1048576) : Calls Tryz.prog 27 #[.slice A code.length cap] w fun e w' => ∃ y : {y : (Con) × (Option Addr × Nat) // RB 4 y.1.r}, e = .returned (.agg (conL y.1.1 (.slice y.1.2.1 y.1.1.r.held.length y.1.2.2)).toArray) ∧ (newF w.heap.size (.slice y.1.2.1 y.1.1.r.held.length y.1.2.2) 2 (y.1.1.r.held.map pceCells)).p w' ∧ Below w.heap.size w w' := by
 have hq_code := Sl.capLe hl
 refine x_callsA (args := [.slice A code.length cap]) (fn := Tryz.f27) [slF (.slice A code.length cap) 1 (code.map byteRow)] Tryz.func27 rfl Tryz.ntmps27 rfl (by simp only [List.mem_cons,List.not_mem_nil,or_false,forall_eq]; exact ⟨rfl,hl⟩) ?_
 refine kQ ?_
 refine kEF [0,2] ⟨[(0,.v (.slice A code.length cap)),(2,.p 0 0)],[⟨34,conZ⟩],[],[slF (.slice A code.length cap) 1 (code.map byteRow)]⟩ ?_
 refine kQ ?_
 refine kCD 1 [2,3] [(3,.v (.slice A code.length cap))] 62 [.slice A code.length cap] (some 4) rfl (xc_new fun ww hw hf => l1New_c code A cap ww (hf _ m0) (by omega)) ?_
 rintro ⟨g1,hapg1⟩
 refine kWD 0 [2,4] [] 63 [.pointer (some ⟨g1,0,none⟩)] (some 5) 0 rfl rfl (fun ww b h hb => cur_lo h hb) (xcm_curN fun ww hw hf => l19Bent_c g1 code A cap ww w.heap.size hw (hf (curF w.heap.size g1 100 (.slice A code.length cap) code.length) (by simp)) (hf _ m1) hapg1 (by omega)) ?_
 rintro ⟨⟨b2m,b2a,b2c⟩,hb2⟩
 dsimp only at hb2
 have hb2n := hb2.1
 have hb2m := hb2.hm; have hb2z := hb2.sz
 refine kEU [2] [(2,.p 0 0)] 0 ⟨34,conL b2m (.slice b2a b2m.r.held.length b2c)⟩ ?_
 refine kR ?_
 exact ⟨[.agg (conL b2m (.slice b2a b2m.r.held.length b2c)).toArray],by kernel_rfl,fun w' hb hf ha => ⟨⟨((b2m),b2a,b2c),hb2⟩,rfl,newF_new (hf (newF w.heap.size (.slice b2a b2m.r.held.length b2c) 2 (b2m.r.held.map pceCells)) (by simp)) (fun b hb => newF_lo (hf (newF w.heap.size (.slice b2a b2m.r.held.length b2c) 2 (b2m.r.held.map pceCells)) (by simp)) hb),hb⟩⟩

theorem ysameSegments_c (a : List Seg) (aV : Value) (b : List Seg) (bV : Value) (w : World) (hl_aV : Sl w aV 13 (a.map segCells)) (hl_bV : Sl w bV 13 (b.map segCells))  : Calls Tryz.prog 22 #[aV, bV] w fun e w' => e = .returned (.bool (sameL segEq a b)) ∧ Below w.heap.size w w' := by
 obtain ⟨Aa,Ca,hva⟩ := hl_aV.form
 rw [List.length_map] at hva; subst hva
 have hna := hl_aV.len; rw [List.length_map] at hna
 have hqa := Sl.capLe hl_aV
 obtain ⟨Ab,Cb,hvb⟩ := hl_bV.form
 rw [List.length_map] at hvb; subst hvb
 have hnb := hl_bV.len; rw [List.length_map] at hnb
 have hqb := Sl.capLe hl_bV
 refine x_calls (args := [.slice Aa a.length Ca,.slice Ab b.length Cb]) (fn := Tryz.f22) [slF (.slice Aa a.length Ca) 13 (a.map segCells),slF (.slice Ab b.length Cb) 13 (b.map segCells)] Tryz.func22 rfl Tryz.ntmps22 rfl (by simp only [List.mem_cons,List.not_mem_nil,or_false,forall_eq_or_imp,forall_eq]; exact ⟨⟨rfl,hl_aV⟩,⟨rfl,hl_bV⟩⟩) ?_
 refine kQ ?_
 refine kEF [0,1] ⟨[(0,.v (.slice Aa a.length Ca)),(1,.v (.slice Ab b.length Cb))],[],[],[slF (.slice Aa a.length Ca) 13 (a.map segCells),slF (.slice Ab b.length Cb) 13 (b.map segCells)]⟩ ?_
 refine kS ?_
 refine kQ ?_
 refine kES [0,1,10] [(0,.v (.slice Aa a.length Ca)),(1,.v (.slice Ab b.length Cb)),(10,.v (.bool (((a.length : Nat) : Int) != ((b.length : Nat) : Int))))] ?_
 refine kC (((a.length : Nat) : Int) != ((b.length : Nat) : Int)) (fun h1 => ?_) (fun h1 => ?_)
 have h1p := neT h1
 refine kQ ?_
 refine kES [4] [(4,.v (.bool false))] ?_
 refine kR ?_
 exact ⟨[.bool false],by kernel_rfl,fun w' hb hf => ⟨ret_bool (show (false : Bool) = sameL segEq a b from by first | rfl | (simp [sameL_len, *]; done) | grind [sameL_len,sameL_len]),hb⟩⟩
 have h1p := neF h1
 refine kK ?_
 refine kS ?_
 refine kQ ?_
 refine kES [0,1,5] [(0,.v (.slice Aa a.length Ca)),(1,.v (.slice Ab b.length Cb)),(5,.v (.int .i64 0))] ?_
 refine xw_block ?_
 have hlen : a.length = b.length := by omega
 refine xw_loopW (α := {x : Nat // (fun (k : Nat) => k ≤ a.length ∧ ∀ (i : Nat) (x y : Seg),i < k → a[i]? = some x → b[i]? = some y → segEq x y = true) x}) (fun x => (fun (k : Nat) => (⟨[(0,.v (.slice Aa a.length Ca)),(1,.v (.slice Ab b.length Cb)),(5,.v (.int .i64 (k : Int)))],[],[],[slF (.slice Aa a.length Ca) 13 (a.map segCells),slF (.slice Ab b.length Cb) 13 (b.map segCells)]⟩ : St)) x.1) (fun x => a.length - x.1) ⟨(0),⟨Nat.zero_le _,fun i x y hi => by omega⟩⟩ (kF 0 0 [0,1,5]) ?_
 rintro ⟨k,hk,HK⟩
 try dsimp only
 try dsimp only at hk HK
 refine kS ?_
 refine kQ ?_
 refine kES [0,1,5,14] [(0,.v (.slice Aa a.length Ca)),(1,.v (.slice Ab b.length Cb)),(5,.v (.int .i64 (k : Int))),(14,.v (.bool (decide ((k : Int) < ((a.length : Nat) : Int)))))] ?_
 refine kC (decide ((k : Int) < ((a.length : Nat) : Int))) (fun h2 => ?_) (fun h2 => ?_)
 have h2p := of_decide_eq_true h2
 have hlt : k < a.length := by simpa using h2
 obtain ⟨x,hx⟩ : ∃ x,a[k]? = some x := ⟨_,List.getElem?_eq_getElem hlt⟩
 obtain ⟨y,hy⟩ : ∃ y,b[k]? = some y := ⟨_,List.getElem?_eq_getElem (by omega)⟩
 refine kK ?_
 refine kS ?_
 refine xw_block ?_
 refine kS ?_
 refine xws_start ?_
 refine xws_row (K := 13) (j := k) [.int .i64 x.src,.int .i64 x.dst,.int .i64 x.seq,.int .i64 x.ack,.int .i64 x.flags,.int .i64 x.window,.int .i64 x.o.mss,.int .i64 x.o.scale,.bool x.o.sack,.bool x.o.stamp,.int .i64 x.o.val,.int .i64 x.o.echo,.string x.body] (slF (.slice Aa a.length Ca) 13 (a.map segCells)) (fun _ _ h => h) (by simp) (fun w h => h) (fun b h => h) (by simp only [List.getElem?_map,hx]; rfl) (fun bq3 offq3 hAq3 => ?_)
 refine xws_row (K := 13) (j := k) [.int .i64 y.src,.int .i64 y.dst,.int .i64 y.seq,.int .i64 y.ack,.int .i64 y.flags,.int .i64 y.window,.int .i64 y.o.mss,.int .i64 y.o.scale,.bool y.o.sack,.bool y.o.stamp,.int .i64 y.o.val,.int .i64 y.o.echo,.string y.body] (slF (.slice Ab b.length Cb) 13 (b.map segCells)) (fun _ _ h => h) (by simp) (fun w h => h) (fun b h => h) (by simp only [List.getElem?_map,hy]; rfl) (fun bq4 offq4 hAq4 => ?_)
 refine xws_regionE [] (by kernel_rfl) (fun ρ σ hq5 => ?_)
 refine kTS [0,1,4,5] [22,21,18,17,0,1,5] 5 [(22,.v (.int .i64 (k : Int))),(21,.v (.slice Ab b.length Cb)),(18,.v (.int .i64 (k : Int))),(17,.v (.slice Aa a.length Ca)),(0,.v (.slice Aa a.length Ca)),(1,.v (.slice Ab b.length Cb)),(5,.v (.int .i64 (k : Int)))] ?_
 refine xe_takeI (kd := .i64) (T := 46) (e := 36) (K := 13) (j := k) (A := Aa) (len := a.length) (cap := Ca) 2 0 _ rfl (by kernel_rfl) (by kernel_rfl) (by kernel_rfl) (fun _ _ h => h) (by kernel_rfl) rfl rfl (by kernel_rfl) (by kernel_rfl) (by kernel_rfl) (by kernel_rfl) hlt hAq3 hq5.1.2 (by kernel_rfl) rfl ?_
 refine kTS [3] [20,22,21,0,1,5] 3 [(20,.v (.agg (segL x).toArray)),(22,.v (.int .i64 (k : Int))),(21,.v (.slice Ab b.length Cb)),(0,.v (.slice Aa a.length Ca)),(1,.v (.slice Ab b.length Cb)),(5,.v (.int .i64 (k : Int)))] ?_
 refine xe_takeI (kd := .i64) (T := 46) (e := 36) (K := 13) (j := k) (A := Ab) (len := b.length) (cap := Cb) 6 1 _ rfl (by kernel_rfl) (by kernel_rfl) (by kernel_rfl) (fun _ _ h => h) (by kernel_rfl) rfl rfl (by kernel_rfl) (by kernel_rfl) (by kernel_rfl) (by kernel_rfl) (by omega) hAq4 hq5.2 (by kernel_rfl) rfl ?_
 refine kTS [7] [24,20,0,1,5] 1 [(24,.v (.agg (segL y).toArray)),(20,.v (.agg (segL x).toArray)),(0,.v (.slice Aa a.length Ca)),(1,.v (.slice Ab b.length Cb)),(5,.v (.int .i64 (k : Int)))] ?_
 refine kX 8 (.bool (!segEq x y)) rfl (fun _ _ ww hA => act_bin hA rfl (by kernel_rfl) (by kernel_rfl) (agg_bin (by kernel_rfl) (run_neq_SEG x.src x.dst x.seq x.ack x.flags x.window x.o.mss x.o.scale x.o.sack x.o.stamp x.o.val x.o.echo x.body y.src y.dst y.seq y.ack y.flags y.window y.o.mss y.o.scale y.o.sack y.o.stamp y.o.val y.o.echo y.body ww))) ?_
 refine kZ ?_
 refine kC (!segEq x y) (fun h6 => ?_) (fun h6 => ?_)
 have hno := sameL_no hx hy (by simpa using h6)
 refine kQ ?_
 refine kES [4] [(4,.v (.bool false))] ?_
 refine kR ?_
 exact ⟨[.bool false],by kernel_rfl,fun w' hb hf => ⟨ret_bool (show (false : Bool) = sameL segEq a b from by first | rfl | (simp [sameL_len, *]; done) | grind [sameL_len,sameL_len]),hb⟩⟩
 have hye : segEq x y = true := by simpa using h6
 refine kK ?_
 refine kG ?_
 refine kRS 3 [0,1,5] [(0,.v (.slice Aa a.length Ca)),(1,.v (.slice Ab b.length Cb)),(5,.v (.int .i64 (IntKind.i64.wrap ((k : Int) + 1))))] ?_
 refine xl_eqS (t' := [(0,.v (.slice Aa a.length Ca)),(1,.v (.slice Ab b.length Cb)),(5,.v (.int .i64 ((k : Int) + 1)))]) (by rw [show (IntKind.i64.wrap ((k : Int) + 1)) = ((k : Int) + 1) from wrap_id (by omega) (by omega)]) ?_
 refine kES [0,1,5] [(0,.v (.slice Aa a.length Ca)),(1,.v (.slice Ab b.length Cb)),(5,.v (.int .i64 ((k : Int) + 1)))] ?_
 exact ⟨⟨(k + 1),⟨by omega,same_step hx hy hye HK⟩⟩,kF 0 0 [0,1,5],by show a.length - (k + 1) < a.length - k; omega⟩
 have h2p := of_decide_eq_false h2
 have hge : k = a.length := by simp at h2; omega
 have hall := sameL_nil_of hge hlen HK
 refine xw_exit ?_
 refine kQ ?_
 refine kES [4] [(4,.v (.bool true))] ?_
 refine kR ?_
 exact ⟨[.bool true],by kernel_rfl,fun w' hb hf => ⟨ret_bool (show (true : Bool) = sameL segEq a b from by first | rfl | (simp [sameL_len, *]; done) | grind [sameL_len,sameL_len]),hb⟩⟩
theorem sameSeg_self (l : List Seg) : sameL segEq l l = true := sameL_yes rfl fun i x y h1 h2 => by rw [h1] at h2; simp only [Option.some.injEq] at h2; subst h2; exact segEq_self x
end Go.Proofs.YtnmmhbhdcplfmaaGreat
