/- Contracts that this law needs, part 1. -/
import Derived.Test.YtebgmdiejgcoiaaGreatYW
import Derived.Test.YtebgmdiejgcoiaaGreatA5
import Derived.Test.YtebgmdiejgcoiaaGreatG1
import Derived.Test.YtebgmdiejgcoiaaGreatYD
import Derived.Test.YtebgmdiejgcoiaaGreatG3
import Derived.Test.YtebgmdiejgcoiaaGreatG2
import Derived.Test.YtebgmdiejgcoiaaGreatA2
namespace Go.Proofs.YtebgmdiejgcoiaaGreat
open Go.RowKit
set_option linter.unusedVariables false
set_option linter.unusedSimpArgs false
set_option maxRecDepth 100000
set_option maxHeartbeats 2000000

theorem ysMssFor_c (c : Con) (rV : Value) (w : World)  : Calls Tryz.prog 90 #[.agg (conL c rV).toArray] w fun e w' => e = .returned (.int .i64 (mssFor c)) ∧ Below w.heap.size w w' := by
 refine x_calls (args := [.agg (conL c rV).toArray]) (fn := Tryz.f90) [] Tryz.func90 rfl Tryz.ntmps90 rfl (by simp) ?_
 refine kQ ?_
 refine kEF [1] ⟨[(1,.p 0 0)],[⟨44,conL c rV⟩],[],[]⟩ ?_
 refine kS ?_
 refine kQ ?_
 refine kES [1,6] [(1,.p 0 0),(6,.v (.bool (c.o.mss == 0)))] ?_
 refine kC (c.o.mss == 0) (fun h1 => ?_) (fun h1 => ?_)
 have h1p := eqT h1
 refine kQ ?_
 refine kES [2] [(2,.v (.int .i64 536))] ?_
 refine kR ?_
 exact ⟨[.int .i64 536],by kernel_rfl,fun w' hb hf => ⟨ret_int (show (536 : Int) = mssFor c from by first | rfl | (simp [mssFor, *]; done) | (simp [mssFor, *]; omega) | grind [toList_lit0,mssFor]),hb⟩⟩
 have h1p := eqF h1
 refine kK ?_
 refine kQ ?_
 refine kCS 3 [9] [(9,.v (.int .i64 c.o.mss))] 75 [.int .i64 1460,.int .i64 c.o.mss] (some 10) rfl (xc_s fun ww hf => l1Min_c 1460 c.o.mss ww ) ?_
 intro _
 refine kCS 0 [10] [(10,.v (.int .i64 (min 1460 c.o.mss)))] 76 [.int .i64 1,.int .i64 (min 1460 c.o.mss)] (some 11) rfl (xc_s fun ww hf => l1Max_c 1 (min 1460 c.o.mss) ww ) ?_
 intro _
 refine kES [2] [(2,.v (.int .i64 (max 1 (min 1460 c.o.mss))))] ?_
 refine kR ?_
 exact ⟨[.int .i64 (max 1 (min 1460 c.o.mss))],by kernel_rfl,fun w' hb hf => ⟨ret_int (show (max 1 (min 1460 c.o.mss) : Int) = mssFor c from by first | rfl | (simp [mssFor, *]; done) | (simp [mssFor, *]; omega) | grind [toList_lit0,mssFor]),hb⟩⟩
theorem ysUnsent_c (c : Con) (rV : Value) (w : World)  : Calls Tryz.prog 167 #[.agg (conL c rV).toArray] w fun e w' => e = .returned (.bool (unsent c)) ∧ Below w.heap.size w w' := by
 refine x_calls (args := [.agg (conL c rV).toArray]) (fn := Tryz.f167) [] Tryz.func167 rfl Tryz.ntmps167 rfl (by simp) ?_
 refine kQ ?_
 refine kEF [1] ⟨[(1,.p 0 0)],[⟨44,conL c rV⟩],[],[]⟩ ?_
 refine kS ?_
 refine xw_join ⟨[(2,.v (.bool ((!(c.s.data.toList == (⟨#[]⟩ : ByteArray).toList)) || (c.s.fin && (!c.s.done)))))],[⟨44,conL c rV⟩],[],[]⟩ ?_ ?_
 refine kG ?_
 refine kRS 5 [1,7] [(1,.p 0 0),(7,.v (.bool (!(c.s.data.toList == (⟨#[]⟩ : ByteArray).toList))))] ?_
 refine kP 7 (!(c.s.data.toList == (⟨#[]⟩ : ByteArray).toList)) (fun h1 => ?_) (fun h1 => ?_)
 have h1n := not_t h1
 have h1np := h1n; simp only [beq_iff_eq,bne_iff_ne,beq_eq_false_iff_ne,bne_eq_false_iff_eq,ne_eq,toList_lit0] at h1np
 refine kES [2] [(2,.v (.bool true))] ?_
 show Wk _ _
 try rw [h1]
 exact kF 1 0 [2]
 have h1n := not_f h1
 have h1np := h1n; simp only [beq_iff_eq,bne_iff_ne,beq_eq_false_iff_ne,bne_eq_false_iff_eq,ne_eq,toList_lit0] at h1np
 refine kRS 4 [1,7,11] [(1,.p 0 0),(7,.v (.bool false)),(11,.v (.bool c.s.fin))] ?_
 refine kP 11 (c.s.fin) (fun h2 => ?_) (fun h2 => ?_)
 refine kES [2] [(2,.v (.bool (!c.s.done)))] ?_
 show Wk _ _
 try rw [h1]
 try rw [h2]
 exact kF 1 0 [2]
 refine kES [2] [(2,.v (.bool false))] ?_
 show Wk _ _
 try rw [h1]
 try rw [h2]
 exact kF 1 0 [2]
 refine kR ?_
 exact ⟨[.bool ((!(c.s.data.toList == (⟨#[]⟩ : ByteArray).toList)) || (c.s.fin && (!c.s.done)))],by kernel_rfl,fun w' hb hf => ⟨ret_bool (show ((!(c.s.data.toList == (⟨#[]⟩ : ByteArray).toList)) || (c.s.fin && (!c.s.done)) : Bool) = unsent c from by first | rfl | (simp [unsent, *]; done) | (simp [unsent, *]; omega) | grind [toList_lit0,unsent]),hb⟩⟩
theorem ysReceiverOk_c (r : Rcv) (r_heldV : Value) (w : World) (hl_r_heldV : Sl w r_heldV 2 (r.held.map pC)) (hm : ∀ p ∈ r.held, p.text.size ≤ 1048576) (hsz : r.data.size ≤ 4611686018427387904) : Calls Tryz.prog 65 #[.agg (rcvL r r_heldV).toArray] w fun e w' => e = .returned (.bool (rO r)) ∧ Below w.heap.size w w' := by
 have hw := windowOf_bd r
 obtain ⟨Arh,Crh,hvrh⟩ := hl_r_heldV.form
 rw [List.length_map] at hvrh; subst hvrh
 have hnrh := hl_r_heldV.len; rw [List.length_map] at hnrh
 have hqrh := Sl.capLe hl_r_heldV
 refine x_calls (args := [.agg (rcvL r (.slice Arh r.held.length Crh)).toArray]) (fn := Tryz.f65) [slF (.slice Arh r.held.length Crh) 2 (r.held.map pC)] Tryz.func65 rfl Tryz.ntmps65 rfl (by simp only [List.mem_cons,List.not_mem_nil,or_false,forall_eq_or_imp,forall_eq]; exact ⟨rfl,hl_r_heldV⟩) ?_
 refine kQ ?_
 refine kEF [1] ⟨[(1,.p 0 0)],[⟨41,rcvL r (.slice Arh r.held.length Crh)⟩],[],[slF (.slice Arh r.held.length Crh) 2 (r.held.map pC)]⟩ ?_
 refine kQ ?_
 refine kCD 1 [1,7] [(7,.v (.agg (rcvL r (.slice Arh r.held.length Crh)).toArray))] 82 [.agg (rcvL r (.slice Arh r.held.length Crh)).toArray] (some 8) rfl (xc_b fun ww hf => sWindowOf_c r.next r.data r.held (.slice Arh r.held.length Crh) r.fin r.done ww (by omega)) ?_
 intro _
 refine kED [1,3] [(3,.v (.int .i64 (wO r)))] ?_
 refine kS ?_
 refine kQ ?_
 refine kCD 2 [1,3,10] [(10,.v (.int .i64 r.next))] 114 [.int .i64 r.next,.int .i64 32] (some 11) rfl (xc_s fun ww hf => sWordOk32_c r.next ww) ?_
 intro _
 refine kRD 2 [1,3,13] [(13,.v (.bool (!(wordOk r.next 32))))] ?_
 refine kP 13 (!(wordOk r.next 32)) (fun h1 => ?_) (fun h1 => ?_)
 have h1n := not_t h1
 refine kED [1,3,36] [(36,.v (.bool true))] ?_
 refine kT ?_
 refine kQ ?_
 refine kES [2] [(2,.v (.bool false))] ?_
 refine kR ?_
 exact ⟨[.bool false],by kernel_rfl,fun w' hb hf => ⟨ret_bool (show (false : Bool) = rO r from by first | rfl | (rw [HR,HK]; simp [*]; done) | (rw [HR,HK]; simp [*]; omega) | (rw [HR,HK]; grind [rcvPost]) | (simp [rO,rcvPre, *]; done) | (simp [rO,rcvPre, *]; omega) | grind [rO,rcvPre]),hb⟩⟩
 have h1n := not_f h1
 refine kRD 6 [1,3,19] [(19,.v (.bool (decide ((r.data.size : Int) > 32))))] ?_
 refine kP 19 (decide ((r.data.size : Int) > 32)) (fun h2 => ?_) (fun h2 => ?_)
 have h2p := of_decide_eq_true h2
 refine kED [1,3,36] [(36,.v (.bool true))] ?_
 refine kT ?_
 refine kQ ?_
 refine kES [2] [(2,.v (.bool false))] ?_
 refine kR ?_
 exact ⟨[.bool false],by kernel_rfl,fun w' hb hf => ⟨ret_bool (show (false : Bool) = rO r from by first | rfl | (rw [HR,HK]; simp [*]; done) | (rw [HR,HK]; simp [*]; omega) | (rw [HR,HK]; grind [rcvPost]) | (simp [rO,rcvPre, *]; done) | (simp [rO,rcvPre, *]; omega) | grind [rO,rcvPre]),hb⟩⟩
 have h2p := of_decide_eq_false h2
 refine kRD 6 [1,3,25] [(25,.v (.bool (decide (((r.held.length : Nat) : Int) > 3))))] ?_
 refine kP 25 (decide (((r.held.length : Nat) : Int) > 3)) (fun h3 => ?_) (fun h3 => ?_)
 have h3p := of_decide_eq_true h3
 refine kED [1,3,36] [(36,.v (.bool true))] ?_
 refine kT ?_
 refine kQ ?_
 refine kES [2] [(2,.v (.bool false))] ?_
 refine kR ?_
 exact ⟨[.bool false],by kernel_rfl,fun w' hb hf => ⟨ret_bool (show (false : Bool) = rO r from by first | rfl | (rw [HR,HK]; simp [*]; done) | (rw [HR,HK]; simp [*]; omega) | (rw [HR,HK]; grind [rcvPost]) | (simp [rO,rcvPre, *]; done) | (simp [rO,rcvPre, *]; omega) | grind [rO,rcvPre]),hb⟩⟩
 have h3p := of_decide_eq_false h3
 refine kCD 3 [1,3,25,27,28] [(25,.v (.bool false)),(27,.v (.int .i64 r.fin)),(28,.v (.int .i64 (wO r)))] 67 [.int .i64 r.fin,.int .i64 (-1),.int .i64 (wO r)] (some 29) rfl (xc_s fun ww hf => l1In_c r.fin (-1) (wO r) ww ) ?_
 intro _
 refine kRD 3 [1,3,32] [(32,.v (.bool (!(inB r.fin (-1) (wO r)))))] ?_
 refine kP 32 (!(inB r.fin (-1) (wO r))) (fun h4 => ?_) (fun h4 => ?_)
 have h4n := not_t h4
 refine kED [1,3,36] [(36,.v (.bool true))] ?_
 refine kT ?_
 refine kQ ?_
 refine kES [2] [(2,.v (.bool false))] ?_
 refine kR ?_
 exact ⟨[.bool false],by kernel_rfl,fun w' hb hf => ⟨ret_bool (show (false : Bool) = rO r from by first | rfl | (rw [HR,HK]; simp [*]; done) | (rw [HR,HK]; simp [*]; omega) | (rw [HR,HK]; grind [rcvPost]) | (simp [rO,rcvPre, *]; done) | (simp [rO,rcvPre, *]; omega) | grind [rO,rcvPre]),hb⟩⟩
 have h4n := not_f h4
 refine kED [1,3,36] [(36,.v (.bool (r.fin == 0)))] ?_
 refine kC (r.fin == 0) (fun h5 => ?_) (fun h5 => ?_)
 have h5p := eqT h5
 refine kQ ?_
 refine kES [2] [(2,.v (.bool false))] ?_
 refine kR ?_
 exact ⟨[.bool false],by kernel_rfl,fun w' hb hf => ⟨ret_bool (show (false : Bool) = rO r from by first | rfl | (rw [HR,HK]; simp [*]; done) | (rw [HR,HK]; simp [*]; omega) | (rw [HR,HK]; grind [rcvPost]) | (simp [rO,rcvPre, *]; done) | (simp [rO,rcvPre, *]; omega) | grind [rO,rcvPre]),hb⟩⟩
 have h5p := eqF h5
 refine kK ?_
 refine kQ ?_
 refine kED [1,3,4] [(4,.v (.int .i64 0))] ?_
 refine kS ?_
 refine kQ ?_
 refine kES [1,3,4,5] [(1,.p 0 0),(3,.v (.int .i64 (wO r))),(4,.v (.int .i64 0)),(5,.v (.int .i64 0))] ?_
 refine xw_block ?_
 have hp : rcvPre r = true := by first | (simp [rcvPre, *]; done) | (simp [rcvPre, *]; omega) | grind [rcvPre]
 have hin := inB_tt.1 (rcvPre_iff.1 hp).2.2.2.1
 have HR := receiverOkS r hp
 refine xw_loopW (α := {x : Nat × Int // (fun (k : Nat) (z : Int) => k ≤ r.held.length ∧ 0 ≤ z ∧ z ≤ 32 ∧ heldOkS (wO r) r.fin 0 r.held = heldOkS (wO r) r.fin z (r.held.drop k)) x.1 x.2}) (fun x => (fun (k : Nat) (z : Int) => (⟨[(1,.p 0 0),(3,.v (.int .i64 (wO r))),(4,.v (.int .i64 z)),(5,.v (.int .i64 (k : Int)))],[⟨41,rcvL r (.slice Arh r.held.length Crh)⟩],[],[slF (.slice Arh r.held.length Crh) 2 (r.held.map pC)]⟩ : St)) x.1.1 x.1.2) (fun x => r.held.length - x.1.1) ⟨(0,0),⟨Nat.zero_le _,by omega,by omega,rfl⟩⟩ (kF 1 0 [1,3,4,5]) ?_
 rintro ⟨⟨k,z⟩,hk,hz0,hz1,HK⟩
 try dsimp only
 try dsimp only at hk hz0 hz1 HK
 refine kS ?_
 refine kQ ?_
 refine kED [1,3,4,5,41] [(41,.v (.bool (decide ((k : Int) < ((r.held.length : Nat) : Int)))))] ?_
 refine kC (decide ((k : Int) < ((r.held.length : Nat) : Int))) (fun h6 => ?_) (fun h6 => ?_)
 have h6p := of_decide_eq_true h6
 have hlt : k < r.held.length := by simpa using h6
 obtain ⟨x,hx⟩ : ∃ x,r.held[k]? = some x := ⟨_,List.getElem?_eq_getElem hlt⟩
 have hxm := hm x (List.mem_of_getElem? hx)
 rw [drop_cons_of hx] at HK; simp only [heldOkS,heldOk] at HK
 refine kK ?_
 refine kS ?_
 refine xw_block ?_
 refine kQ ?_
 refine xl_indexD (kd := .i64) (T := 39) (e := 85) (K := 2) 3 [1,3,4,5,45,46] [(45,.v (.slice Arh r.held.length Crh)),(46,.v (.int .i64 (k : Int)))] k [.int .i64 x.off,.string x.text] (slF (.slice Arh r.held.length Crh) 2 (r.held.map pC)) (by kernel_rfl) rfl (by kernel_rfl) rfl rfl (by kernel_rfl) (by kernel_rfl) (by kernel_rfl) (by kernel_rfl) hlt (by simp) (fun w h => h) (fun b h => h) (by simp only [List.getElem?_map,hx]; rfl) ?_
 refine kEA [1,3,4,5,6] [(6,.p 1 0)] [⟨85,pceL x⟩] ?_
 refine kS ?_
 refine kQ ?_
 refine kRD 4 [1,3,4,5,6,52] [(52,.v (.bool (x.text.toList == (⟨#[]⟩ : ByteArray).toList)))] ?_
 refine kP 52 (x.text.toList == (⟨#[]⟩ : ByteArray).toList) (fun h7 => ?_) (fun h7 => ?_)
 have h7p := h7; simp only [beq_iff_eq,bne_iff_ne,beq_eq_false_iff_ne,bne_eq_false_iff_eq,ne_eq,toList_lit0] at h7p
 refine kED [1,3,5,6,73] [(73,.v (.bool true))] ?_
 refine kT ?_
 refine kQ ?_
 refine kES [2] [(2,.v (.bool false))] ?_
 refine kR ?_
 exact ⟨[.bool false],by kernel_rfl,fun w' hb hf => ⟨ret_bool (show (false : Bool) = rO r from by first | rfl | (rw [HR,HK]; simp [*]; done) | (rw [HR,HK]; simp [*]; omega) | (rw [HR,HK]; grind [rcvPost]) | (simp [rO,rcvPre, *]; done) | (simp [rO,rcvPre, *]; omega) | grind [rO,rcvPre]),hb⟩⟩
 have h7p := h7; simp only [beq_iff_eq,bne_iff_ne,beq_eq_false_iff_ne,bne_eq_false_iff_eq,ne_eq,toList_lit0] at h7p
 refine kRD 6 [1,3,5,6,58] [(58,.v (.bool (decide (x.off ≤ z))))] ?_
 refine kP 58 (decide (x.off ≤ z)) (fun h8 => ?_) (fun h8 => ?_)
 have h8p := of_decide_eq_true h8
 refine kED [1,3,5,6,73] [(73,.v (.bool true))] ?_
 refine kT ?_
 refine kQ ?_
 refine kES [2] [(2,.v (.bool false))] ?_
 refine kR ?_
 exact ⟨[.bool false],by kernel_rfl,fun w' hb hf => ⟨ret_bool (show (false : Bool) = rO r from by first | rfl | (rw [HR,HK]; simp [*]; done) | (rw [HR,HK]; simp [*]; omega) | (rw [HR,HK]; grind [rcvPost]) | (simp [rO,rcvPre, *]; done) | (simp [rO,rcvPre, *]; omega) | grind [rO,rcvPre]),hb⟩⟩
 have h8p := of_decide_eq_false h8
 refine kRD 6 [1,3,5,6,64] [(64,.v (.bool (decide (x.off > (wO r)))))] ?_
 refine kP 64 (decide (x.off > (wO r))) (fun h9 => ?_) (fun h9 => ?_)
 have h9p := of_decide_eq_true h9
 refine kED [1,3,5,6,73] [(73,.v (.bool true))] ?_
 refine kT ?_
 refine kQ ?_
 refine kES [2] [(2,.v (.bool false))] ?_
 refine kR ?_
 exact ⟨[.bool false],by kernel_rfl,fun w' hb hf => ⟨ret_bool (show (false : Bool) = rO r from by first | rfl | (rw [HR,HK]; simp [*]; done) | (rw [HR,HK]; simp [*]; omega) | (rw [HR,HK]; grind [rcvPost]) | (simp [rO,rcvPre, *]; done) | (simp [rO,rcvPre, *]; omega) | grind [rO,rcvPre]),hb⟩⟩
 have h9p := of_decide_eq_false h9
 refine kRD 9 [1,3,5,6,73] [(73,.v (.bool (decide ((IntKind.i64.wrap (x.off + (x.text.size : Int))) > (wO r)))))] ?_
 refine xl_nv [1,3,5,6,73] [(73,.v (.bool (decide ((IntKind.i64.wrap (x.off + (x.text.size : Int))) > (wO r)))))] [(73,.v (.bool (decide ((x.off + (x.text.size : Int)) > (wO r)))))] (by rw [show (IntKind.i64.wrap (x.off + (x.text.size : Int))) = (x.off + (x.text.size : Int)) from wrap_id (by omega) (by omega)]) (by kernel_rfl) ?_
 refine kED [1,3,5,6,73] [] ?_
 refine kC (decide ((x.off + (x.text.size : Int)) > (wO r))) (fun h10 => ?_) (fun h10 => ?_)
 have h10p := of_decide_eq_true h10
 refine kQ ?_
 refine kES [2] [(2,.v (.bool false))] ?_
 refine kR ?_
 exact ⟨[.bool false],by kernel_rfl,fun w' hb hf => ⟨ret_bool (show (false : Bool) = rO r from by first | rfl | (rw [HR,HK]; simp [*]; done) | (rw [HR,HK]; simp [*]; omega) | (rw [HR,HK]; grind [rcvPost]) | (simp [rO,rcvPre, *]; done) | (simp [rO,rcvPre, *]; omega) | grind [rO,rcvPre]),hb⟩⟩
 have h10p := of_decide_eq_false h10
 refine kK ?_
 refine kG ?_
 refine kRS 7 [1,3,4,5] [(1,.p 0 0),(3,.v (.int .i64 (wO r))),(4,.v (.int .i64 (IntKind.i64.wrap (x.off + (x.text.size : Int))))),(5,.v (.int .i64 (k : Int)))] ?_
 refine xl_eqS (t' := [(1,.p 0 0),(3,.v (.int .i64 (wO r))),(4,.v (.int .i64 (x.off + (x.text.size : Int)))),(5,.v (.int .i64 (k : Int)))]) (by rw [show (IntKind.i64.wrap (x.off + (x.text.size : Int))) = (x.off + (x.text.size : Int)) from wrap_id (by omega) (by omega)]) ?_
 refine kED [1,3,4,5] [] ?_
 refine kG ?_
 refine kRD 3 [1,3,4,5] [(5,.v (.int .i64 (IntKind.i64.wrap ((k : Int) + 1))))] ?_
 refine xl_nv [1,3,4,5] [(5,.v (.int .i64 (IntKind.i64.wrap ((k : Int) + 1))))] [(5,.v (.int .i64 ((k : Int) + 1)))] (by rw [show (IntKind.i64.wrap ((k : Int) + 1)) = ((k : Int) + 1) from wrap_id (by omega) (by omega)]) (by kernel_rfl) ?_
 refine kED [1,3,4,5] [] ?_
 exact ⟨⟨(k + 1,x.off + (x.text.size : Int)),⟨by omega,by omega,by omega,by rw [HK]; first | (simp [*]; done) | (simp [*]; omega) | grind⟩⟩,kF 1 0 [1,3,4,5],by show r.held.length - (k + 1) < r.held.length - k; omega⟩
 have h6p := of_decide_eq_false h6
 have hge : k = r.held.length := by simp at h6; omega
 subst hge; simp only [List.drop_length,heldOkS,heldOk] at HK
 refine xw_exit ?_
 refine kQ ?_
 refine kRD 4 [1,4,83] [(83,.v (.bool (decide (r.fin < 0))))] ?_
 refine kP 83 (decide (r.fin < 0)) (fun h11 => ?_) (fun h11 => ?_)
 have h11p := of_decide_eq_true h11
 refine kRD 10 [1,89,93] [(89,.v (.bool true)),(93,.v (.bool (!r.done)))] ?_
 refine kP 93 (!r.done) (fun h12 => ?_) (fun h12 => ?_)
 have h12n := not_t h12
 refine kES [2] [(2,.v (.bool true))] ?_
 refine kR ?_
 exact ⟨[.bool true],by kernel_rfl,fun w' hb hf => ⟨ret_bool (show (true : Bool) = rO r from by first | rfl | (rw [HR,HK]; simp [*]; done) | (rw [HR,HK]; simp [*]; omega) | (rw [HR,HK]; grind [rcvPost]) | (simp [rO,rcvPre, *]; done) | (simp [rO,rcvPre, *]; omega) | grind [rO,rcvPre]),hb⟩⟩
 have h12n := not_f h12
 refine kRD 5 [1,89,93,98] [(93,.v (.bool false)),(98,.v (.bool (((r.held.length : Nat) : Int) == 0)))] ?_
 refine kP 98 (((r.held.length : Nat) : Int) == 0) (fun h13 => ?_) (fun h13 => ?_)
 have h13p := eqT h13
 refine kES [2] [(2,.v (.bool (r.fin == (-1))))] ?_
 refine kR ?_
 exact ⟨[.bool (r.fin == (-1))],by kernel_rfl,fun w' hb hf => ⟨ret_bool (show (r.fin == (-1) : Bool) = rO r from by first | rfl | (rw [HR,HK]; simp [*]; done) | (rw [HR,HK]; simp [*]; omega) | (rw [HR,HK]; grind [rcvPost]) | (simp [rO,rcvPre, *]; done) | (simp [rO,rcvPre, *]; omega) | grind [rO,rcvPre]),hb⟩⟩
 have h13p := eqF h13
 refine kES [2] [(2,.v (.bool false))] ?_
 refine kR ?_
 exact ⟨[.bool false],by kernel_rfl,fun w' hb hf => ⟨ret_bool (show (false : Bool) = rO r from by first | rfl | (rw [HR,HK]; simp [*]; done) | (rw [HR,HK]; simp [*]; omega) | (rw [HR,HK]; grind [rcvPost]) | (simp [rO,rcvPre, *]; done) | (simp [rO,rcvPre, *]; omega) | grind [rO,rcvPre]),hb⟩⟩
 have h11p := of_decide_eq_false h11
 refine kRD 6 [1,89] [(89,.v (.bool (decide (z ≤ r.fin))))] ?_
 refine kP 89 (decide (z ≤ r.fin)) (fun h14 => ?_) (fun h14 => ?_)
 have h14p := of_decide_eq_true h14
 refine kRD 4 [1,89,93] [(89,.v (.bool true)),(93,.v (.bool (!r.done)))] ?_
 refine kP 93 (!r.done) (fun h15 => ?_) (fun h15 => ?_)
 have h15n := not_t h15
 refine kES [2] [(2,.v (.bool true))] ?_
 refine kR ?_
 exact ⟨[.bool true],by kernel_rfl,fun w' hb hf => ⟨ret_bool (show (true : Bool) = rO r from by first | rfl | (rw [HR,HK]; simp [*]; done) | (rw [HR,HK]; simp [*]; omega) | (rw [HR,HK]; grind [rcvPost]) | (simp [rO,rcvPre, *]; done) | (simp [rO,rcvPre, *]; omega) | grind [rO,rcvPre]),hb⟩⟩
 have h15n := not_f h15
 refine kRD 5 [1,89,93,98] [(93,.v (.bool false)),(98,.v (.bool (((r.held.length : Nat) : Int) == 0)))] ?_
 refine kP 98 (((r.held.length : Nat) : Int) == 0) (fun h16 => ?_) (fun h16 => ?_)
 have h16p := eqT h16
 refine kES [2] [(2,.v (.bool (r.fin == (-1))))] ?_
 refine kR ?_
 exact ⟨[.bool (r.fin == (-1))],by kernel_rfl,fun w' hb hf => ⟨ret_bool (show (r.fin == (-1) : Bool) = rO r from by first | rfl | (rw [HR,HK]; simp [*]; done) | (rw [HR,HK]; simp [*]; omega) | (rw [HR,HK]; grind [rcvPost]) | (simp [rO,rcvPre, *]; done) | (simp [rO,rcvPre, *]; omega) | grind [rO,rcvPre]),hb⟩⟩
 have h16p := eqF h16
 refine kES [2] [(2,.v (.bool false))] ?_
 refine kR ?_
 exact ⟨[.bool false],by kernel_rfl,fun w' hb hf => ⟨ret_bool (show (false : Bool) = rO r from by first | rfl | (rw [HR,HK]; simp [*]; done) | (rw [HR,HK]; simp [*]; omega) | (rw [HR,HK]; grind [rcvPost]) | (simp [rO,rcvPre, *]; done) | (simp [rO,rcvPre, *]; omega) | grind [rO,rcvPre]),hb⟩⟩
 have h14p := of_decide_eq_false h14
 refine kES [2] [(2,.v (.bool false))] ?_
 refine kR ?_
 exact ⟨[.bool false],by kernel_rfl,fun w' hb hf => ⟨ret_bool (show (false : Bool) = rO r from by first | rfl | (rw [HR,HK]; simp [*]; done) | (rw [HR,HK]; simp [*]; omega) | (rw [HR,HK]; grind [rcvPost]) | (simp [rO,rcvPre, *]; done) | (simp [rO,rcvPre, *]; omega) | grind [rO,rcvPre]),hb⟩⟩
theorem yiReceiverOk_c (r : Rcv) (r_heldV : Value) (w : World) (hl_r_heldV : Sl w r_heldV 2 (r.held.map pC)) (hm : ∀ p ∈ r.held, p.text.size ≤ 1048576) (hsz : r.data.size ≤ 4611686018427387904) : Calls Tryz.prog 60 #[.agg (rcvL r r_heldV).toArray] w fun e w' => e = .returned (.bool (rO r)) ∧ Below w.heap.size w w' := by
 have hw := windowOf_bd r
 obtain ⟨Arh,Crh,hvrh⟩ := hl_r_heldV.form
 rw [List.length_map] at hvrh; subst hvrh
 have hnrh := hl_r_heldV.len; rw [List.length_map] at hnrh
 have hqrh := Sl.capLe hl_r_heldV
 refine x_calls (args := [.agg (rcvL r (.slice Arh r.held.length Crh)).toArray]) (fn := Tryz.f60) [slF (.slice Arh r.held.length Crh) 2 (r.held.map pC)] Tryz.func60 rfl Tryz.ntmps60 rfl (by simp only [List.mem_cons,List.not_mem_nil,or_false,forall_eq_or_imp,forall_eq]; exact ⟨rfl,hl_r_heldV⟩) ?_
 refine kQ ?_
 refine kEF [1] ⟨[(1,.p 0 0)],[⟨41,rcvL r (.slice Arh r.held.length Crh)⟩],[],[slF (.slice Arh r.held.length Crh) 2 (r.held.map pC)]⟩ ?_
 refine kQ ?_
 refine kCD 1 [1,8] [(8,.v (.agg (rcvL r (.slice Arh r.held.length Crh)).toArray))] 95 [.agg (rcvL r (.slice Arh r.held.length Crh)).toArray] (some 9) rfl (xc_b fun ww hf => iWindowOf_c r.next r.data r.held (.slice Arh r.held.length Crh) r.fin r.done ww (by omega)) ?_
 intro _
 refine kED [1,3] [(3,.v (.int .i64 (wO r)))] ?_
 refine kS ?_
 refine kQ ?_
 refine kCD 2 [1,3,11] [(11,.v (.int .i64 r.next))] 113 [.int .i64 r.next,.int .i64 32] (some 12) rfl (xc_s fun ww hf => iWordOk32_c r.next ww) ?_
 intro _
 refine kRD 2 [1,3,14] [(14,.v (.bool (!(wordOk r.next 32))))] ?_
 refine kP 14 (!(wordOk r.next 32)) (fun h1 => ?_) (fun h1 => ?_)
 have h1n := not_t h1
 refine kED [1,3,37] [(37,.v (.bool true))] ?_
 refine kT ?_
 refine kQ ?_
 refine kES [2] [(2,.v (.bool false))] ?_
 refine kR ?_
 exact ⟨[.bool false],by kernel_rfl,fun w' hb hf => ⟨ret_bool (show (false : Bool) = rO r from by first | rfl | (rw [HR,HK]; simp [*]; done) | (rw [HR,HK]; simp [*]; omega) | (rw [HR,HK]; grind [rcvPost]) | (simp [rO,rcvPre, *]; done) | (simp [rO,rcvPre, *]; omega) | grind [rO,rcvPre]),hb⟩⟩
 have h1n := not_f h1
 refine kRD 6 [1,3,20] [(20,.v (.bool (decide ((r.data.size : Int) > 32))))] ?_
 refine kP 20 (decide ((r.data.size : Int) > 32)) (fun h2 => ?_) (fun h2 => ?_)
 have h2p := of_decide_eq_true h2
 refine kED [1,3,37] [(37,.v (.bool true))] ?_
 refine kT ?_
 refine kQ ?_
 refine kES [2] [(2,.v (.bool false))] ?_
 refine kR ?_
 exact ⟨[.bool false],by kernel_rfl,fun w' hb hf => ⟨ret_bool (show (false : Bool) = rO r from by first | rfl | (rw [HR,HK]; simp [*]; done) | (rw [HR,HK]; simp [*]; omega) | (rw [HR,HK]; grind [rcvPost]) | (simp [rO,rcvPre, *]; done) | (simp [rO,rcvPre, *]; omega) | grind [rO,rcvPre]),hb⟩⟩
 have h2p := of_decide_eq_false h2
 refine kRD 6 [1,3,26] [(26,.v (.bool (decide (((r.held.length : Nat) : Int) > 3))))] ?_
 refine kP 26 (decide (((r.held.length : Nat) : Int) > 3)) (fun h3 => ?_) (fun h3 => ?_)
 have h3p := of_decide_eq_true h3
 refine kED [1,3,37] [(37,.v (.bool true))] ?_
 refine kT ?_
 refine kQ ?_
 refine kES [2] [(2,.v (.bool false))] ?_
 refine kR ?_
 exact ⟨[.bool false],by kernel_rfl,fun w' hb hf => ⟨ret_bool (show (false : Bool) = rO r from by first | rfl | (rw [HR,HK]; simp [*]; done) | (rw [HR,HK]; simp [*]; omega) | (rw [HR,HK]; grind [rcvPost]) | (simp [rO,rcvPre, *]; done) | (simp [rO,rcvPre, *]; omega) | grind [rO,rcvPre]),hb⟩⟩
 have h3p := of_decide_eq_false h3
 refine kCD 3 [1,3,26,28,29] [(26,.v (.bool false)),(28,.v (.int .i64 r.fin)),(29,.v (.int .i64 (wO r)))] 62 [.int .i64 r.fin,.int .i64 (-1),.int .i64 (wO r)] (some 30) rfl (xc_s fun ww hf => within_c r.fin (-1) (wO r) ww ) ?_
 intro _
 refine kRD 3 [1,3,33] [(33,.v (.bool (!(inB r.fin (-1) (wO r)))))] ?_
 refine kP 33 (!(inB r.fin (-1) (wO r))) (fun h4 => ?_) (fun h4 => ?_)
 have h4n := not_t h4
 refine kED [1,3,37] [(37,.v (.bool true))] ?_
 refine kT ?_
 refine kQ ?_
 refine kES [2] [(2,.v (.bool false))] ?_
 refine kR ?_
 exact ⟨[.bool false],by kernel_rfl,fun w' hb hf => ⟨ret_bool (show (false : Bool) = rO r from by first | rfl | (rw [HR,HK]; simp [*]; done) | (rw [HR,HK]; simp [*]; omega) | (rw [HR,HK]; grind [rcvPost]) | (simp [rO,rcvPre, *]; done) | (simp [rO,rcvPre, *]; omega) | grind [rO,rcvPre]),hb⟩⟩
 have h4n := not_f h4
 refine kED [1,3,37] [(37,.v (.bool (r.fin == 0)))] ?_
 refine kC (r.fin == 0) (fun h5 => ?_) (fun h5 => ?_)
 have h5p := eqT h5
 refine kQ ?_
 refine kES [2] [(2,.v (.bool false))] ?_
 refine kR ?_
 exact ⟨[.bool false],by kernel_rfl,fun w' hb hf => ⟨ret_bool (show (false : Bool) = rO r from by first | rfl | (rw [HR,HK]; simp [*]; done) | (rw [HR,HK]; simp [*]; omega) | (rw [HR,HK]; grind [rcvPost]) | (simp [rO,rcvPre, *]; done) | (simp [rO,rcvPre, *]; omega) | grind [rO,rcvPre]),hb⟩⟩
 have h5p := eqF h5
 refine kK ?_
 refine kQ ?_
 refine kED [1,4] [(4,.v (.int .i64 (wO r)))] ?_
 refine kS ?_
 refine kQ ?_
 refine kES [1,4,41] [(1,.p 0 0),(4,.v (.int .i64 (wO r))),(41,.v (.bool (r.fin != (-1))))] ?_
 refine kC (r.fin != (-1)) (fun h6 => ?_) (fun h6 => ?_)
 have h6p := neT h6
 refine kG ?_
 refine kED [1,4] [(4,.v (.int .i64 r.fin))] ?_
 refine kQ ?_
 refine kED [1,4,5] [(5,.v (.int .i64 0))] ?_
 refine kS ?_
 refine kQ ?_
 refine kED [1,4,5,45,46,47] [(45,.v (.slice Arh r.held.length Crh)),(46,.v (.int .i64 ((r.held.length : Nat) : Int))),(47,.v (.int .i64 0))] ?_
 refine xw_block ?_
 have hp : rcvPre r = true := by first | (simp [rcvPre, *]; done) | (simp [rcvPre, *]; omega) | grind [rcvPre]
 have hin := inB_tt.1 (rcvPre_iff.1 hp).2.2.2.1
 have HR : rO r = (heldOk (if r.fin = -1 then wO r else r.fin) 0 r.held && rcvPost r) := by unfold rO; rw [hp]; rfl
 refine xw_loopW (α := {x : Nat × Int // (fun (k : Nat) (z : Int) => k ≤ r.held.length ∧ 0 ≤ z ∧ z ≤ 32 ∧ heldOk (if r.fin = -1 then wO r else r.fin) 0 r.held = heldOk (if r.fin = -1 then wO r else r.fin) z (r.held.drop k)) x.1 x.2}) (fun x => (fun (k : Nat) (z : Int) => (⟨[(1,.p 0 0),(4,.v (.int .i64 r.fin)),(5,.v (.int .i64 z)),(45,.v (.slice Arh r.held.length Crh)),(46,.v (.int .i64 ((r.held.length : Nat) : Int))),(47,.v (.int .i64 (k : Int)))],[⟨41,rcvL r (.slice Arh r.held.length Crh)⟩],[],[slF (.slice Arh r.held.length Crh) 2 (r.held.map pC)]⟩ : St)) x.1.1 x.1.2) (fun x => r.held.length - x.1.1) ⟨(0,0),⟨Nat.zero_le _,by omega,by omega,rfl⟩⟩ (kF 1 0 [1,4,5,45,46,47]) ?_
 rintro ⟨⟨k,z⟩,hk,hz0,hz1,HK⟩
 try dsimp only
 try dsimp only at hk hz0 hz1 HK
 refine kQ ?_
 refine kED [1,4,5,45,46,47,48] [(48,.v (.bool (decide ((k : Int) < ((r.held.length : Nat) : Int)))))] ?_
 refine kS ?_
 refine kC (decide ((k : Int) < ((r.held.length : Nat) : Int))) (fun h7 => ?_) (fun h7 => ?_)
 have h7p := of_decide_eq_true h7
 have hlt : k < r.held.length := by simpa using h7
 obtain ⟨x,hx⟩ : ∃ x,r.held[k]? = some x := ⟨_,List.getElem?_eq_getElem hlt⟩
 have hxm := hm x (List.mem_of_getElem? hx)
 rw [drop_cons_of hx] at HK; simp only [heldOkS,heldOk] at HK
 refine kK ?_
 refine kS ?_
 refine xw_block ?_
 refine kQ ?_
 refine xl_indexD (kd := .i64) (T := 39) (e := 85) (K := 2) 0 [1,4,5,45,46,47] [] k [.int .i64 x.off,.string x.text] (slF (.slice Arh r.held.length Crh) 2 (r.held.map pC)) (by kernel_rfl) rfl (by kernel_rfl) rfl rfl (by kernel_rfl) (by kernel_rfl) (by kernel_rfl) (by kernel_rfl) hlt (by simp) (fun w h => h) (fun b h => h) (by simp only [List.getElem?_map,hx]; rfl) ?_
 refine kEA [1,4,5,7,45,46,47] [(7,.p 1 0)] [⟨85,pceL x⟩] ?_
 refine kS ?_
 refine kQ ?_
 refine kRD 4 [1,4,5,7,45,46,47,54] [(54,.v (.bool (x.text.toList == (⟨#[]⟩ : ByteArray).toList)))] ?_
 refine kP 54 (x.text.toList == (⟨#[]⟩ : ByteArray).toList) (fun h8 => ?_) (fun h8 => ?_)
 have h8p := h8; simp only [beq_iff_eq,bne_iff_ne,beq_eq_false_iff_ne,bne_eq_false_iff_eq,ne_eq,toList_lit0] at h8p
 refine kED [1,4,7,45,46,47,69] [(69,.v (.bool true))] ?_
 refine kT ?_
 refine kQ ?_
 refine kES [2] [(2,.v (.bool false))] ?_
 refine kR ?_
 exact ⟨[.bool false],by kernel_rfl,fun w' hb hf => ⟨ret_bool (show (false : Bool) = rO r from by first | rfl | (rw [HR,HK]; simp [*]; done) | (rw [HR,HK]; simp [*]; omega) | (rw [HR,HK]; grind [rcvPost]) | (simp [rO,rcvPre, *]; done) | (simp [rO,rcvPre, *]; omega) | grind [rO,rcvPre]),hb⟩⟩
 have h8p := h8; simp only [beq_iff_eq,bne_iff_ne,beq_eq_false_iff_ne,bne_eq_false_iff_eq,ne_eq,toList_lit0] at h8p
 refine kRD 6 [1,4,7,45,46,47,60] [(60,.v (.bool (decide (x.off ≤ z))))] ?_
 refine kP 60 (decide (x.off ≤ z)) (fun h9 => ?_) (fun h9 => ?_)
 have h9p := of_decide_eq_true h9
 refine kED [1,4,7,45,46,47,69] [(69,.v (.bool true))] ?_
 refine kT ?_
 refine kQ ?_
 refine kES [2] [(2,.v (.bool false))] ?_
 refine kR ?_
 exact ⟨[.bool false],by kernel_rfl,fun w' hb hf => ⟨ret_bool (show (false : Bool) = rO r from by first | rfl | (rw [HR,HK]; simp [*]; done) | (rw [HR,HK]; simp [*]; omega) | (rw [HR,HK]; grind [rcvPost]) | (simp [rO,rcvPre, *]; done) | (simp [rO,rcvPre, *]; omega) | grind [rO,rcvPre]),hb⟩⟩
 have h9p := of_decide_eq_false h9
 refine kRD 9 [1,4,7,45,46,47,69] [(69,.v (.bool (decide (x.off > (IntKind.i64.wrap (r.fin - (x.text.size : Int)))))))] ?_
 refine xl_nv [1,4,7,45,46,47,69] [(69,.v (.bool (decide (x.off > (IntKind.i64.wrap (r.fin - (x.text.size : Int)))))))] [(69,.v (.bool (decide (x.off > (r.fin - (x.text.size : Int))))))] (by rw [show (IntKind.i64.wrap (r.fin - (x.text.size : Int))) = (r.fin - (x.text.size : Int)) from wrap_id (by omega) (by omega)]) (by kernel_rfl) ?_
 refine kES [1,4,7,45,46,47,69] [(1,.p 0 0),(4,.v (.int .i64 r.fin)),(7,.p 1 0),(45,.v (.slice Arh r.held.length Crh)),(46,.v (.int .i64 ((r.held.length : Nat) : Int))),(47,.v (.int .i64 (k : Int))),(69,.v (.bool (decide (x.off > (r.fin - (x.text.size : Int))))))] ?_
 refine kC (decide (x.off > (r.fin - (x.text.size : Int)))) (fun h10 => ?_) (fun h10 => ?_)
 have h10p := of_decide_eq_true h10
 refine kQ ?_
 refine kES [2] [(2,.v (.bool false))] ?_
 refine kR ?_
 exact ⟨[.bool false],by kernel_rfl,fun w' hb hf => ⟨ret_bool (show (false : Bool) = rO r from by first | rfl | (rw [HR,HK]; simp [*]; done) | (rw [HR,HK]; simp [*]; omega) | (rw [HR,HK]; grind [rcvPost]) | (simp [rO,rcvPre, *]; done) | (simp [rO,rcvPre, *]; omega) | grind [rO,rcvPre]),hb⟩⟩
 have h10p := of_decide_eq_false h10
 refine kK ?_
 refine kG ?_
 refine kRD 7 [1,4,5,45,46,47] [(5,.v (.int .i64 (IntKind.i64.wrap (x.off + (x.text.size : Int)))))] ?_
 refine xl_nv [1,4,5,45,46,47] [(5,.v (.int .i64 (IntKind.i64.wrap (x.off + (x.text.size : Int)))))] [(5,.v (.int .i64 (x.off + (x.text.size : Int))))] (by rw [show (IntKind.i64.wrap (x.off + (x.text.size : Int))) = (x.off + (x.text.size : Int)) from wrap_id (by omega) (by omega)]) (by kernel_rfl) ?_
 refine kED [1,4,5,45,46,47] [] ?_
 refine kG ?_
 refine kRD 2 [1,4,5,45,46,47] [(47,.v (.int .i64 (IntKind.i64.wrap ((k : Int) + 1))))] ?_
 refine xl_nv [1,4,5,45,46,47] [(47,.v (.int .i64 (IntKind.i64.wrap ((k : Int) + 1))))] [(47,.v (.int .i64 ((k : Int) + 1)))] (by rw [show (IntKind.i64.wrap ((k : Int) + 1)) = ((k : Int) + 1) from wrap_id (by omega) (by omega)]) (by kernel_rfl) ?_
 refine kED [1,4,5,45,46,47] [] ?_
 exact ⟨⟨(k + 1,x.off + (x.text.size : Int)),⟨by omega,by omega,by omega,by rw [HK]; first | (simp [*]; done) | (simp [*]; omega) | grind⟩⟩,kF 1 0 [1,4,5,45,46,47],by show r.held.length - (k + 1) < r.held.length - k; omega⟩
 have h7p := of_decide_eq_false h7
 have hge : k = r.held.length := by simp at h7; omega
 subst hge; simp only [List.drop_length,heldOkS,heldOk] at HK
 refine xw_exit ?_
 refine kQ ?_
 refine kRD 4 [1,80] [(80,.v (.bool (!r.done)))] ?_
 refine kP 80 (!r.done) (fun h11 => ?_) (fun h11 => ?_)
 have h11n := not_t h11
 refine kES [2] [(2,.v (.bool true))] ?_
 refine kR ?_
 exact ⟨[.bool true],by kernel_rfl,fun w' hb hf => ⟨ret_bool (show (true : Bool) = rO r from by first | rfl | (rw [HR,HK]; simp [*]; done) | (rw [HR,HK]; simp [*]; omega) | (rw [HR,HK]; grind [rcvPost]) | (simp [rO,rcvPre, *]; done) | (simp [rO,rcvPre, *]; omega) | grind [rO,rcvPre]),hb⟩⟩
 have h11n := not_f h11
 refine kRD 5 [1,80,85] [(80,.v (.bool false)),(85,.v (.bool (((r.held.length : Nat) : Int) == 0)))] ?_
 refine kP 85 (((r.held.length : Nat) : Int) == 0) (fun h12 => ?_) (fun h12 => ?_)
 have h12p := eqT h12
 refine kES [2] [(2,.v (.bool (r.fin == (-1))))] ?_
 refine kR ?_
 exact ⟨[.bool (r.fin == (-1))],by kernel_rfl,fun w' hb hf => ⟨ret_bool (show (r.fin == (-1) : Bool) = rO r from by first | rfl | (rw [HR,HK]; simp [*]; done) | (rw [HR,HK]; simp [*]; omega) | (rw [HR,HK]; grind [rcvPost]) | (simp [rO,rcvPre, *]; done) | (simp [rO,rcvPre, *]; omega) | grind [rO,rcvPre]),hb⟩⟩
 have h12p := eqF h12
 refine kES [2] [(2,.v (.bool false))] ?_
 refine kR ?_
 exact ⟨[.bool false],by kernel_rfl,fun w' hb hf => ⟨ret_bool (show (false : Bool) = rO r from by first | rfl | (rw [HR,HK]; simp [*]; done) | (rw [HR,HK]; simp [*]; omega) | (rw [HR,HK]; grind [rcvPost]) | (simp [rO,rcvPre, *]; done) | (simp [rO,rcvPre, *]; omega) | grind [rO,rcvPre]),hb⟩⟩
 have h6p := neF h6
 refine kK ?_
 refine kQ ?_
 refine kED [1,4,5] [(5,.v (.int .i64 0))] ?_
 refine kS ?_
 refine kQ ?_
 refine kED [1,4,5,45,46,47] [(45,.v (.slice Arh r.held.length Crh)),(46,.v (.int .i64 ((r.held.length : Nat) : Int))),(47,.v (.int .i64 0))] ?_
 refine xw_block ?_
 have hp : rcvPre r = true := by first | (simp [rcvPre, *]; done) | (simp [rcvPre, *]; omega) | grind [rcvPre]
 have hin := inB_tt.1 (rcvPre_iff.1 hp).2.2.2.1
 have HR : rO r = (heldOk (if r.fin = -1 then wO r else r.fin) 0 r.held && rcvPost r) := by unfold rO; rw [hp]; rfl
 refine xw_loopW (α := {x : Nat × Int // (fun (k : Nat) (z : Int) => k ≤ r.held.length ∧ 0 ≤ z ∧ z ≤ 32 ∧ heldOk (if r.fin = -1 then wO r else r.fin) 0 r.held = heldOk (if r.fin = -1 then wO r else r.fin) z (r.held.drop k)) x.1 x.2}) (fun x => (fun (k : Nat) (z : Int) => (⟨[(1,.p 0 0),(4,.v (.int .i64 (wO r))),(5,.v (.int .i64 z)),(45,.v (.slice Arh r.held.length Crh)),(46,.v (.int .i64 ((r.held.length : Nat) : Int))),(47,.v (.int .i64 (k : Int)))],[⟨41,rcvL r (.slice Arh r.held.length Crh)⟩],[],[slF (.slice Arh r.held.length Crh) 2 (r.held.map pC)]⟩ : St)) x.1.1 x.1.2) (fun x => r.held.length - x.1.1) ⟨(0,0),⟨Nat.zero_le _,by omega,by omega,rfl⟩⟩ (kF 1 0 [1,4,5,45,46,47]) ?_
 rintro ⟨⟨k,z⟩,hk,hz0,hz1,HK⟩
 try dsimp only
 try dsimp only at hk hz0 hz1 HK
 refine kQ ?_
 refine kED [1,4,5,45,46,47,48] [(48,.v (.bool (decide ((k : Int) < ((r.held.length : Nat) : Int)))))] ?_
 refine kS ?_
 refine kC (decide ((k : Int) < ((r.held.length : Nat) : Int))) (fun h13 => ?_) (fun h13 => ?_)
 have h13p := of_decide_eq_true h13
 have hlt : k < r.held.length := by simpa using h13
 obtain ⟨x,hx⟩ : ∃ x,r.held[k]? = some x := ⟨_,List.getElem?_eq_getElem hlt⟩
 have hxm := hm x (List.mem_of_getElem? hx)
 rw [drop_cons_of hx] at HK; simp only [heldOkS,heldOk] at HK
 refine kK ?_
 refine kS ?_
 refine xw_block ?_
 refine kQ ?_
 refine xl_indexD (kd := .i64) (T := 39) (e := 85) (K := 2) 0 [1,4,5,45,46,47] [] k [.int .i64 x.off,.string x.text] (slF (.slice Arh r.held.length Crh) 2 (r.held.map pC)) (by kernel_rfl) rfl (by kernel_rfl) rfl rfl (by kernel_rfl) (by kernel_rfl) (by kernel_rfl) (by kernel_rfl) hlt (by simp) (fun w h => h) (fun b h => h) (by simp only [List.getElem?_map,hx]; rfl) ?_
 refine kEA [1,4,5,7,45,46,47] [(7,.p 1 0)] [⟨85,pceL x⟩] ?_
 refine kS ?_
 refine kQ ?_
 refine kRD 4 [1,4,5,7,45,46,47,54] [(54,.v (.bool (x.text.toList == (⟨#[]⟩ : ByteArray).toList)))] ?_
 refine kP 54 (x.text.toList == (⟨#[]⟩ : ByteArray).toList) (fun h14 => ?_) (fun h14 => ?_)
 have h14p := h14; simp only [beq_iff_eq,bne_iff_ne,beq_eq_false_iff_ne,bne_eq_false_iff_eq,ne_eq,toList_lit0] at h14p
 refine kED [1,4,7,45,46,47,69] [(69,.v (.bool true))] ?_
 refine kT ?_
 refine kQ ?_
 refine kES [2] [(2,.v (.bool false))] ?_
 refine kR ?_
 exact ⟨[.bool false],by kernel_rfl,fun w' hb hf => ⟨ret_bool (show (false : Bool) = rO r from by first | rfl | (rw [HR,HK]; simp [*]; done) | (rw [HR,HK]; simp [*]; omega) | (rw [HR,HK]; grind [rcvPost]) | (simp [rO,rcvPre, *]; done) | (simp [rO,rcvPre, *]; omega) | grind [rO,rcvPre]),hb⟩⟩
 have h14p := h14; simp only [beq_iff_eq,bne_iff_ne,beq_eq_false_iff_ne,bne_eq_false_iff_eq,ne_eq,toList_lit0] at h14p
 refine kRD 6 [1,4,7,45,46,47,60] [(60,.v (.bool (decide (x.off ≤ z))))] ?_
 refine kP 60 (decide (x.off ≤ z)) (fun h15 => ?_) (fun h15 => ?_)
 have h15p := of_decide_eq_true h15
 refine kED [1,4,7,45,46,47,69] [(69,.v (.bool true))] ?_
 refine kT ?_
 refine kQ ?_
 refine kES [2] [(2,.v (.bool false))] ?_
 refine kR ?_
 exact ⟨[.bool false],by kernel_rfl,fun w' hb hf => ⟨ret_bool (show (false : Bool) = rO r from by first | rfl | (rw [HR,HK]; simp [*]; done) | (rw [HR,HK]; simp [*]; omega) | (rw [HR,HK]; grind [rcvPost]) | (simp [rO,rcvPre, *]; done) | (simp [rO,rcvPre, *]; omega) | grind [rO,rcvPre]),hb⟩⟩
 have h15p := of_decide_eq_false h15
 refine kRD 9 [1,4,7,45,46,47,69] [(69,.v (.bool (decide (x.off > (IntKind.i64.wrap ((wO r) - (x.text.size : Int)))))))] ?_
 refine xl_nv [1,4,7,45,46,47,69] [(69,.v (.bool (decide (x.off > (IntKind.i64.wrap ((wO r) - (x.text.size : Int)))))))] [(69,.v (.bool (decide (x.off > ((wO r) - (x.text.size : Int))))))] (by rw [show (IntKind.i64.wrap ((wO r) - (x.text.size : Int))) = ((wO r) - (x.text.size : Int)) from wrap_id (by omega) (by omega)]) (by kernel_rfl) ?_
 refine kED [1,4,7,45,46,47,69] [] ?_
 refine kC (decide (x.off > ((wO r) - (x.text.size : Int)))) (fun h16 => ?_) (fun h16 => ?_)
 have h16p := of_decide_eq_true h16
 refine kQ ?_
 refine kES [2] [(2,.v (.bool false))] ?_
 refine kR ?_
 exact ⟨[.bool false],by kernel_rfl,fun w' hb hf => ⟨ret_bool (show (false : Bool) = rO r from by first | rfl | (rw [HR,HK]; simp [*]; done) | (rw [HR,HK]; simp [*]; omega) | (rw [HR,HK]; grind [rcvPost]) | (simp [rO,rcvPre, *]; done) | (simp [rO,rcvPre, *]; omega) | grind [rO,rcvPre]),hb⟩⟩
 have h16p := of_decide_eq_false h16
 refine kK ?_
 refine kG ?_
 refine kRS 7 [1,4,5,45,46,47] [(1,.p 0 0),(4,.v (.int .i64 (wO r))),(5,.v (.int .i64 (IntKind.i64.wrap (x.off + (x.text.size : Int))))),(45,.v (.slice Arh r.held.length Crh)),(46,.v (.int .i64 ((r.held.length : Nat) : Int))),(47,.v (.int .i64 (k : Int)))] ?_
 refine xl_eqS (t' := [(1,.p 0 0),(4,.v (.int .i64 (wO r))),(5,.v (.int .i64 (x.off + (x.text.size : Int)))),(45,.v (.slice Arh r.held.length Crh)),(46,.v (.int .i64 ((r.held.length : Nat) : Int))),(47,.v (.int .i64 (k : Int)))]) (by rw [show (IntKind.i64.wrap (x.off + (x.text.size : Int))) = (x.off + (x.text.size : Int)) from wrap_id (by omega) (by omega)]) ?_
 refine kED [1,4,5,45,46,47] [] ?_
 refine kG ?_
 refine kRD 2 [1,4,5,45,46,47] [(47,.v (.int .i64 (IntKind.i64.wrap ((k : Int) + 1))))] ?_
 refine xl_nv [1,4,5,45,46,47] [(47,.v (.int .i64 (IntKind.i64.wrap ((k : Int) + 1))))] [(47,.v (.int .i64 ((k : Int) + 1)))] (by rw [show (IntKind.i64.wrap ((k : Int) + 1)) = ((k : Int) + 1) from wrap_id (by omega) (by omega)]) (by kernel_rfl) ?_
 refine kED [1,4,5,45,46,47] [] ?_
 exact ⟨⟨(k + 1,x.off + (x.text.size : Int)),⟨by omega,by omega,by omega,by rw [HK]; first | (simp [*]; done) | (simp [*]; omega) | grind⟩⟩,kF 1 0 [1,4,5,45,46,47],by show r.held.length - (k + 1) < r.held.length - k; omega⟩
 have h13p := of_decide_eq_false h13
 have hge : k = r.held.length := by simp at h13; omega
 subst hge; simp only [List.drop_length,heldOkS,heldOk] at HK
 refine xw_exit ?_
 refine kQ ?_
 refine kRD 4 [1,80] [(80,.v (.bool (!r.done)))] ?_
 refine kP 80 (!r.done) (fun h17 => ?_) (fun h17 => ?_)
 have h17n := not_t h17
 refine kES [2] [(2,.v (.bool true))] ?_
 refine kR ?_
 exact ⟨[.bool true],by kernel_rfl,fun w' hb hf => ⟨ret_bool (show (true : Bool) = rO r from by first | rfl | (rw [HR,HK]; simp [*]; done) | (rw [HR,HK]; simp [*]; omega) | (rw [HR,HK]; grind [rcvPost]) | (simp [rO,rcvPre, *]; done) | (simp [rO,rcvPre, *]; omega) | grind [rO,rcvPre]),hb⟩⟩
 have h17n := not_f h17
 refine kRD 5 [1,80,85] [(80,.v (.bool false)),(85,.v (.bool (((r.held.length : Nat) : Int) == 0)))] ?_
 refine kP 85 (((r.held.length : Nat) : Int) == 0) (fun h18 => ?_) (fun h18 => ?_)
 have h18p := eqT h18
 refine kES [2] [(2,.v (.bool (r.fin == (-1))))] ?_
 refine kR ?_
 exact ⟨[.bool (r.fin == (-1))],by kernel_rfl,fun w' hb hf => ⟨ret_bool (show (r.fin == (-1) : Bool) = rO r from by first | rfl | (rw [HR,HK]; simp [*]; done) | (rw [HR,HK]; simp [*]; omega) | (rw [HR,HK]; grind [rcvPost]) | (simp [rO,rcvPre, *]; done) | (simp [rO,rcvPre, *]; omega) | grind [rO,rcvPre]),hb⟩⟩
 have h18p := eqF h18
 refine kES [2] [(2,.v (.bool false))] ?_
 refine kR ?_
 exact ⟨[.bool false],by kernel_rfl,fun w' hb hf => ⟨ret_bool (show (false : Bool) = rO r from by first | rfl | (rw [HR,HK]; simp [*]; done) | (rw [HR,HK]; simp [*]; omega) | (rw [HR,HK]; grind [rcvPost]) | (simp [rO,rcvPre, *]; done) | (simp [rO,rcvPre, *]; omega) | grind [rO,rcvPre]),hb⟩⟩
theorem ysSameReceiver_c (a : Rcv) (a_heldV : Value) (b : Rcv) (b_heldV : Value) (w : World) (hl_a_heldV : Sl w a_heldV 2 (a.held.map pC)) (hl_b_heldV : Sl w b_heldV 2 (b.held.map pC))  : Calls Tryz.prog 23 #[.agg (rcvL a a_heldV).toArray, .agg (rcvL b b_heldV).toArray] w fun e w' => e = .returned (.bool (sameReceiver a b)) ∧ Below w.heap.size w w' := by
 obtain ⟨Aah,Cah,hvah⟩ := hl_a_heldV.form
 rw [List.length_map] at hvah; subst hvah
 have hnah := hl_a_heldV.len; rw [List.length_map] at hnah
 have hqah := Sl.capLe hl_a_heldV
 obtain ⟨Abh,Cbh,hvbh⟩ := hl_b_heldV.form
 rw [List.length_map] at hvbh; subst hvbh
 have hnbh := hl_b_heldV.len; rw [List.length_map] at hnbh
 have hqbh := Sl.capLe hl_b_heldV
 refine x_calls (args := [.agg (rcvL a (.slice Aah a.held.length Cah)).toArray,.agg (rcvL b (.slice Abh b.held.length Cbh)).toArray]) (fn := Tryz.f23) [slF (.slice Aah a.held.length Cah) 2 (a.held.map pC),slF (.slice Abh b.held.length Cbh) 2 (b.held.map pC)] Tryz.func23 rfl Tryz.ntmps23 rfl (by simp only [List.mem_cons,List.not_mem_nil,or_false,forall_eq_or_imp,forall_eq]; exact ⟨⟨rfl,hl_a_heldV⟩,⟨rfl,hl_b_heldV⟩⟩) ?_
 refine kQ ?_
 refine kEF [2,3] ⟨[(2,.p 0 0),(3,.p 1 0)],[⟨41,rcvL a (.slice Aah a.held.length Cah)⟩,⟨41,rcvL b (.slice Abh b.held.length Cbh)⟩],[],[slF (.slice Aah a.held.length Cah) 2 (a.held.map pC),slF (.slice Abh b.held.length Cbh) 2 (b.held.map pC)]⟩ ?_
 refine kS ?_
 refine kS ?_
 refine xw_join ⟨[(2,.p 0 0),(3,.p 1 0),(40,.v (.bool ((a.next != b.next) || ((!(a.data.toList == b.data.toList)) || ((a.fin != b.fin) || ((!(a.done == b.done)) || (((a.held.length : Nat) : Int) != ((b.held.length : Nat) : Int))))))))],[⟨41,rcvL a (.slice Aah a.held.length Cah)⟩,⟨41,rcvL b (.slice Abh b.held.length Cbh)⟩],[],[slF (.slice Aah a.held.length Cah) 2 (a.held.map pC),slF (.slice Abh b.held.length Cbh) 2 (b.held.map pC)]⟩ ?_ ?_
 refine kG ?_
 refine kRS 6 [2,3,11] [(2,.p 0 0),(3,.p 1 0),(11,.v (.bool (a.next != b.next)))] ?_
 refine kP 11 (a.next != b.next) (fun h1 => ?_) (fun h1 => ?_)
 have h1p := neT h1
 refine kES [2,3,40] [(2,.p 0 0),(3,.p 1 0),(40,.v (.bool true))] ?_
 show Wk _ _
 try rw [h1]
 exact kF 2 0 [2,3,40]
 have h1p := neF h1
 refine kRS 7 [2,3,18] [(2,.p 0 0),(3,.p 1 0),(18,.v (.bool (!(a.data.toList == b.data.toList))))] ?_
 refine kP 18 (!(a.data.toList == b.data.toList)) (fun h2 => ?_) (fun h2 => ?_)
 have h2n := not_t h2
 have h2np := h2n; simp only [beq_iff_eq,bne_iff_ne,beq_eq_false_iff_ne,bne_eq_false_iff_eq,ne_eq,toList_lit0] at h2np
 refine kES [2,3,40] [(2,.p 0 0),(3,.p 1 0),(40,.v (.bool true))] ?_
 show Wk _ _
 try rw [h1]
 try rw [h2]
 exact kF 2 0 [2,3,40]
 have h2n := not_f h2
 have h2np := h2n; simp only [beq_iff_eq,bne_iff_ne,beq_eq_false_iff_ne,bne_eq_false_iff_eq,ne_eq,toList_lit0] at h2np
 refine kRS 7 [2,3,25] [(2,.p 0 0),(3,.p 1 0),(25,.v (.bool (a.fin != b.fin)))] ?_
 refine kP 25 (a.fin != b.fin) (fun h3 => ?_) (fun h3 => ?_)
 have h3p := neT h3
 refine kES [2,3,40] [(2,.p 0 0),(3,.p 1 0),(40,.v (.bool true))] ?_
 show Wk _ _
 try rw [h1]
 try rw [h2]
 try rw [h3]
 exact kF 2 0 [2,3,40]
 have h3p := neF h3
 refine kRS 7 [2,3,32] [(2,.p 0 0),(3,.p 1 0),(32,.v (.bool (!(a.done == b.done))))] ?_
 refine kP 32 (!(a.done == b.done)) (fun h4 => ?_) (fun h4 => ?_)
 have h4n := not_t h4
 have h4np := eqF h4n
 refine kES [2,3,40] [(2,.p 0 0),(3,.p 1 0),(40,.v (.bool true))] ?_
 show Wk _ _
 try rw [h1]
 try rw [h2]
 try rw [h3]
 try rw [h4]
 exact kF 2 0 [2,3,40]
 have h4n := not_f h4
 have h4np := eqT h4n
 refine kES [2,3,40] [(2,.p 0 0),(3,.p 1 0),(40,.v (.bool (((a.held.length : Nat) : Int) != ((b.held.length : Nat) : Int))))] ?_
 show Wk _ _
 try rw [h1]
 try rw [h2]
 try rw [h3]
 try rw [h4]
 exact kF 2 0 [2,3,40]
 refine kC ((a.next != b.next) || ((!(a.data.toList == b.data.toList)) || ((a.fin != b.fin) || ((!(a.done == b.done)) || (((a.held.length : Nat) : Int) != ((b.held.length : Nat) : Int)))))) (fun h5 => ?_) (fun h5 => ?_)
 refine kQ ?_
 refine kES [4] [(4,.v (.bool false))] ?_
 refine kR ?_
 exact ⟨[.bool false],by kernel_rfl,fun w' hb hf => ⟨ret_bool (show (false : Bool) = sameReceiver a b from by first | rfl | (simp [sameReceiver, *]; done) | grind [sameReceiver,sameL_len]),hb⟩⟩
 have h5l := or_l h5
 have h5lp := neF h5l
 have h5r := or_r h5
 have h5rl := or_l h5r
 have h5rln := not_f h5rl
 have h5rlnp := h5rln; simp only [beq_iff_eq,bne_iff_ne,beq_eq_false_iff_ne,bne_eq_false_iff_eq,ne_eq,toList_lit0] at h5rlnp
 have h5rr := or_r h5r
 have h5rrl := or_l h5rr
 have h5rrlp := neF h5rrl
 have h5rrr := or_r h5rr
 have h5rrrl := or_l h5rrr
 have h5rrrln := not_f h5rrrl
 have h5rrrlnp := eqT h5rrrln
 have h5rrrr := or_r h5rrr
 have h5rrrrp := neF h5rrrr
 refine kK ?_
 refine kS ?_
 refine kQ ?_
 refine kES [2,3,5] [(2,.p 0 0),(3,.p 1 0),(5,.v (.int .i64 0))] ?_
 refine xw_block ?_
 have hlen : a.held.length = b.held.length := by omega
 refine xw_loopW (α := {x : Nat // (fun (k : Nat) => k ≤ a.held.length ∧ ∀ (i : Nat) (x y : Pce),i < k → a.held[i]? = some x → b.held[i]? = some y → pceEq x y = true) x}) (fun x => (fun (k : Nat) => (⟨[(2,.p 0 0),(3,.p 1 0),(5,.v (.int .i64 (k : Int)))],[⟨41,rcvL a (.slice Aah a.held.length Cah)⟩,⟨41,rcvL b (.slice Abh b.held.length Cbh)⟩],[],[slF (.slice Aah a.held.length Cah) 2 (a.held.map pC),slF (.slice Abh b.held.length Cbh) 2 (b.held.map pC)]⟩ : St)) x.1) (fun x => a.held.length - x.1) ⟨(0),⟨Nat.zero_le _,fun i x y hi => by omega⟩⟩ (kF 2 0 [2,3,5]) ?_
 rintro ⟨k,hk,HK⟩
 try dsimp only
 try dsimp only at hk HK
 refine kS ?_
 refine kQ ?_
 refine kES [2,3,5,45] [(2,.p 0 0),(3,.p 1 0),(5,.v (.int .i64 (k : Int))),(45,.v (.bool (decide ((k : Int) < ((a.held.length : Nat) : Int)))))] ?_
 refine kC (decide ((k : Int) < ((a.held.length : Nat) : Int))) (fun h6 => ?_) (fun h6 => ?_)
 have h6p := of_decide_eq_true h6
 have hlt : k < a.held.length := by simpa using h6
 obtain ⟨x,hx⟩ : ∃ x,a.held[k]? = some x := ⟨_,List.getElem?_eq_getElem hlt⟩
 obtain ⟨y,hy⟩ : ∃ y,b.held[k]? = some y := ⟨_,List.getElem?_eq_getElem (by omega)⟩
 refine kK ?_
 refine kS ?_
 refine xw_block ?_
 refine kS ?_
 refine xws_start ?_
 refine xws_row (K := 2) (j := k) [.int .i64 x.off,.string x.text] (slF (.slice Aah a.held.length Cah) 2 (a.held.map pC)) (fun _ _ h => h) (by simp) (fun w h => h) (fun b h => h) (by simp only [List.getElem?_map,hx]; rfl) (fun bq7 offq7 hAq7 => ?_)
 refine xws_row (K := 2) (j := k) [.int .i64 y.off,.string y.text] (slF (.slice Abh b.held.length Cbh) 2 (b.held.map pC)) (fun _ _ h => h) (by simp) (fun w h => h) (fun b h => h) (by simp only [List.getElem?_map,hy]; rfl) (fun bq8 offq8 hAq8 => ?_)
 refine xws_regionE [] (by kernel_rfl) (fun ρ σ hq9 => ?_)
 refine kTS [0,1,2,5,6,7] [55,54,50,49,2,3,5] 5 [(55,.v (.int .i64 (k : Int))),(54,.v (.slice Abh b.held.length Cbh)),(50,.v (.int .i64 (k : Int))),(49,.v (.slice Aah a.held.length Cah)),(2,.p 0 0),(3,.p 1 0),(5,.v (.int .i64 (k : Int)))] ?_
 refine xe_takeI (kd := .i64) (T := 39) (e := 85) (K := 2) (j := k) (A := Aah) (len := a.held.length) (cap := Cah) 3 0 _ rfl (by kernel_rfl) (by kernel_rfl) (by kernel_rfl) (fun _ _ h => h) (by kernel_rfl) rfl rfl (by kernel_rfl) (by kernel_rfl) (by kernel_rfl) (by kernel_rfl) hlt hAq7 hq9.1.2 (by kernel_rfl) rfl ?_
 refine kTS [4] [52,55,54,2,3,5] 3 [(52,.v (.agg (pceL x).toArray)),(55,.v (.int .i64 (k : Int))),(54,.v (.slice Abh b.held.length Cbh)),(2,.p 0 0),(3,.p 1 0),(5,.v (.int .i64 (k : Int)))] ?_
 refine xe_takeI (kd := .i64) (T := 39) (e := 85) (K := 2) (j := k) (A := Abh) (len := b.held.length) (cap := Cbh) 8 1 _ rfl (by kernel_rfl) (by kernel_rfl) (by kernel_rfl) (fun _ _ h => h) (by kernel_rfl) rfl rfl (by kernel_rfl) (by kernel_rfl) (by kernel_rfl) (by kernel_rfl) (by omega) hAq8 hq9.2 (by kernel_rfl) rfl ?_
 refine kTS [9] [57,52,2,3,5] 1 [(57,.v (.agg (pceL y).toArray)),(52,.v (.agg (pceL x).toArray)),(2,.p 0 0),(3,.p 1 0),(5,.v (.int .i64 (k : Int)))] ?_
 refine kX 10 (.bool (!pceEq x y)) rfl (fun _ _ ww hA => act_bin hA rfl (by kernel_rfl) (by kernel_rfl) (agg_bin (by kernel_rfl) (run_neq_PCE x.off x.text y.off y.text ww))) ?_
 refine kZ ?_
 refine kC (!pceEq x y) (fun h10 => ?_) (fun h10 => ?_)
 have hno := sameL_no hx hy (by simpa using h10)
 refine kQ ?_
 refine kES [4] [(4,.v (.bool false))] ?_
 refine kR ?_
 exact ⟨[.bool false],by kernel_rfl,fun w' hb hf => ⟨ret_bool (show (false : Bool) = sameReceiver a b from by first | rfl | (simp [sameReceiver, *]; done) | grind [sameReceiver,sameL_len]),hb⟩⟩
 have hye : pceEq x y = true := by simpa using h10
 refine kK ?_
 refine kG ?_
 refine kRS 3 [2,3,5] [(2,.p 0 0),(3,.p 1 0),(5,.v (.int .i64 (IntKind.i64.wrap ((k : Int) + 1))))] ?_
 refine xl_eqS (t' := [(2,.p 0 0),(3,.p 1 0),(5,.v (.int .i64 ((k : Int) + 1)))]) (by rw [show (IntKind.i64.wrap ((k : Int) + 1)) = ((k : Int) + 1) from wrap_id (by omega) (by omega)]) ?_
 refine kES [2,3,5] [(2,.p 0 0),(3,.p 1 0),(5,.v (.int .i64 ((k : Int) + 1)))] ?_
 exact ⟨⟨(k + 1),⟨by omega,same_step hx hy hye HK⟩⟩,kF 2 0 [2,3,5],by show a.held.length - (k + 1) < a.held.length - k; omega⟩
 have h6p := of_decide_eq_false h6
 have hge : k = a.held.length := by simp at h6; omega
 have hall := sameL_nil_of hge hlen HK
 refine xw_exit ?_
 refine kQ ?_
 refine kES [4] [(4,.v (.bool true))] ?_
 refine kR ?_
 exact ⟨[.bool true],by kernel_rfl,fun w' hb hf => ⟨ret_bool (show (true : Bool) = sameReceiver a b from by first | rfl | (simp [sameReceiver, *]; done) | grind [sameReceiver,sameL_len]),hb⟩⟩
theorem ysSameConn_c (a : Con) (a_r_heldV : Value) (b : Con) (b_r_heldV : Value) (w : World) (hl_a_r_heldV : Sl w a_r_heldV 2 (a.r.held.map pC)) (hl_b_r_heldV : Sl w b_r_heldV 2 (b.r.held.map pC))  : Calls Tryz.prog 20 #[.agg (conL a a_r_heldV).toArray, .agg (conL b b_r_heldV).toArray] w fun e w' => e = .returned (.bool (sameConn a b)) ∧ Below w.heap.size w w' := by
 obtain ⟨Aarh,Carh,hvarh⟩ := hl_a_r_heldV.form
 rw [List.length_map] at hvarh; subst hvarh
 have hnarh := hl_a_r_heldV.len; rw [List.length_map] at hnarh
 have hqarh := Sl.capLe hl_a_r_heldV
 obtain ⟨Abrh,Cbrh,hvbrh⟩ := hl_b_r_heldV.form
 rw [List.length_map] at hvbrh; subst hvbrh
 have hnbrh := hl_b_r_heldV.len; rw [List.length_map] at hnbrh
 have hqbrh := Sl.capLe hl_b_r_heldV
 refine x_calls (args := [.agg (conL a (.slice Aarh a.r.held.length Carh)).toArray,.agg (conL b (.slice Abrh b.r.held.length Cbrh)).toArray]) (fn := Tryz.f20) [slF (.slice Aarh a.r.held.length Carh) 2 (a.r.held.map pC),slF (.slice Abrh b.r.held.length Cbrh) 2 (b.r.held.map pC)] Tryz.func20 rfl Tryz.ntmps20 rfl (by simp only [List.mem_cons,List.not_mem_nil,or_false,forall_eq_or_imp,forall_eq]; exact ⟨⟨rfl,hl_a_r_heldV⟩,⟨rfl,hl_b_r_heldV⟩⟩) ?_
 refine kQ ?_
 refine kEF [2,3] ⟨[(2,.p 0 0),(3,.p 1 0)],[⟨44,conL a (.slice Aarh a.r.held.length Carh)⟩,⟨44,conL b (.slice Abrh b.r.held.length Cbrh)⟩],[],[slF (.slice Aarh a.r.held.length Carh) 2 (a.r.held.map pC),slF (.slice Abrh b.r.held.length Cbrh) 2 (b.r.held.map pC)]⟩ ?_
 refine kS ?_
 refine xw_join ⟨[(4,.v (.bool ((tupEq a.t b.t) && ((a.state == b.state) && ((sndEq a.s b.s) && ((sameReceiver a.r b.r) && ((a.window == b.window) && ((a.most == b.most) && ((optEq a.o b.o) && ((a.timer == b.timer) && (a.tries == b.tries)))))))))))],[⟨44,conL a (.slice Aarh a.r.held.length Carh)⟩,⟨44,conL b (.slice Abrh b.r.held.length Cbrh)⟩],[],[slF (.slice Aarh a.r.held.length Carh) 2 (a.r.held.map pC),slF (.slice Abrh b.r.held.length Cbrh) 2 (b.r.held.map pC)]⟩ ?_ ?_
 refine kG ?_
 refine kOS 4 [2,3,6,8] [(2,.p 0 0),(3,.p 1 0),(6,.v (.agg (tupL a.t).toArray)),(8,.v (.agg (tupL b.t).toArray))] (.bool (tupEq a.t b.t)) rfl (fun _ _ _ ww hr => act_bin hr.1 rfl (by kernel_rfl) (by kernel_rfl) (agg_bin (by kernel_rfl) (run_eql_TUP a.t.ip a.t.port a.t.my b.t.ip b.t.port b.t.my ww))) ?_
 refine kRS 1 [2,3,10] [(2,.p 0 0),(3,.p 1 0),(10,.v (.bool (tupEq a.t b.t)))] ?_
 refine kP 10 (tupEq a.t b.t) (fun h1 => ?_) (fun h1 => ?_)
 refine kRS 7 [2,3,17] [(2,.p 0 0),(3,.p 1 0),(17,.v (.bool (a.state == b.state)))] ?_
 refine kP 17 (a.state == b.state) (fun h2 => ?_) (fun h2 => ?_)
 have h2p := eqT h2
 refine kOS 4 [2,3,17,19,21] [(2,.p 0 0),(3,.p 1 0),(17,.v (.bool true)),(19,.v (.agg (sndL a.s).toArray)),(21,.v (.agg (sndL b.s).toArray))] (.bool (sndEq a.s b.s)) rfl (fun _ _ _ ww hr => act_bin hr.1 rfl (by kernel_rfl) (by kernel_rfl) (agg_bin (by kernel_rfl) (run_eql_SND a.s.una a.s.data a.s.sent a.s.fin a.s.finSent a.s.done b.s.una b.s.data b.s.sent b.s.fin b.s.finSent b.s.done ww))) ?_
 refine kRS 2 [2,3,24] [(2,.p 0 0),(3,.p 1 0),(24,.v (.bool (sndEq a.s b.s)))] ?_
 refine kP 24 (sndEq a.s b.s) (fun h3 => ?_) (fun h3 => ?_)
 refine kCS 4 [2,3,24,26,28] [(2,.p 0 0),(3,.p 1 0),(24,.v (.bool true)),(26,.v (.agg (rcvL a.r (.slice Aarh a.r.held.length Carh)).toArray)),(28,.v (.agg (rcvL b.r (.slice Abrh b.r.held.length Cbrh)).toArray))] 23 [.agg (rcvL a.r (.slice Aarh a.r.held.length Carh)).toArray,.agg (rcvL b.r (.slice Abrh b.r.held.length Cbrh)).toArray] (some 29) rfl (xc_b fun ww hf => ysSameReceiver_c a.r (.slice Aarh a.r.held.length Carh) b.r (.slice Abrh b.r.held.length Cbrh) ww (hf _ m0) (hf _ m1) ) ?_
 intro _
 refine kRS 2 [2,3,31] [(2,.p 0 0),(3,.p 1 0),(31,.v (.bool (sameReceiver a.r b.r)))] ?_
 refine kP 31 (sameReceiver a.r b.r) (fun h4 => ?_) (fun h4 => ?_)
 refine kRS 7 [2,3,38] [(2,.p 0 0),(3,.p 1 0),(38,.v (.bool (a.window == b.window)))] ?_
 refine kP 38 (a.window == b.window) (fun h5 => ?_) (fun h5 => ?_)
 have h5p := eqT h5
 refine kRS 7 [2,3,45] [(2,.p 0 0),(3,.p 1 0),(45,.v (.bool (a.most == b.most)))] ?_
 refine kP 45 (a.most == b.most) (fun h6 => ?_) (fun h6 => ?_)
 have h6p := eqT h6
 refine kOS 4 [2,3,45,47,49] [(2,.p 0 0),(3,.p 1 0),(45,.v (.bool true)),(47,.v (.agg (optL a.o).toArray)),(49,.v (.agg (optL b.o).toArray))] (.bool (optEq a.o b.o)) rfl (fun _ _ _ ww hr => act_bin hr.1 rfl (by kernel_rfl) (by kernel_rfl) (agg_bin (by kernel_rfl) (run_eql_OPT a.o.mss a.o.scale a.o.sack a.o.stamp a.o.val a.o.echo b.o.mss b.o.scale b.o.sack b.o.stamp b.o.val b.o.echo ww))) ?_
 refine kRS 2 [2,3,52] [(2,.p 0 0),(3,.p 1 0),(52,.v (.bool (optEq a.o b.o)))] ?_
 refine kP 52 (optEq a.o b.o) (fun h7 => ?_) (fun h7 => ?_)
 refine kRS 7 [2,3,59] [(2,.p 0 0),(3,.p 1 0),(59,.v (.bool (a.timer == b.timer)))] ?_
 refine kP 59 (a.timer == b.timer) (fun h8 => ?_) (fun h8 => ?_)
 have h8p := eqT h8
 refine kES [4] [(4,.v (.bool (a.tries == b.tries)))] ?_
 show Wk _ _
 try rw [h1]
 try rw [h2]
 try rw [h3]
 try rw [h4]
 try rw [h5]
 try rw [h6]
 try rw [h7]
 try rw [h8]
 exact kF 2 0 [4]
 have h8p := eqF h8
 refine kES [4] [(4,.v (.bool false))] ?_
 show Wk _ _
 try rw [h1]
 try rw [h2]
 try rw [h3]
 try rw [h4]
 try rw [h5]
 try rw [h6]
 try rw [h7]
 try rw [h8]
 exact kF 2 0 [4]
 refine kES [4] [(4,.v (.bool false))] ?_
 show Wk _ _
 try rw [h1]
 try rw [h2]
 try rw [h3]
 try rw [h4]
 try rw [h5]
 try rw [h6]
 try rw [h7]
 exact kF 2 0 [4]
 have h6p := eqF h6
 refine kES [4] [(4,.v (.bool false))] ?_
 show Wk _ _
 try rw [h1]
 try rw [h2]
 try rw [h3]
 try rw [h4]
 try rw [h5]
 try rw [h6]
 exact kF 2 0 [4]
 have h5p := eqF h5
 refine kES [4] [(4,.v (.bool false))] ?_
 show Wk _ _
 try rw [h1]
 try rw [h2]
 try rw [h3]
 try rw [h4]
 try rw [h5]
 exact kF 2 0 [4]
 refine kES [4] [(4,.v (.bool false))] ?_
 show Wk _ _
 try rw [h1]
 try rw [h2]
 try rw [h3]
 try rw [h4]
 exact kF 2 0 [4]
 refine kES [4] [(4,.v (.bool false))] ?_
 show Wk _ _
 try rw [h1]
 try rw [h2]
 try rw [h3]
 exact kF 2 0 [4]
 have h2p := eqF h2
 refine kES [4] [(4,.v (.bool false))] ?_
 show Wk _ _
 try rw [h1]
 try rw [h2]
 exact kF 2 0 [4]
 refine kES [4] [(4,.v (.bool false))] ?_
 show Wk _ _
 try rw [h1]
 exact kF 2 0 [4]
 refine kR ?_
 exact ⟨[.bool ((tupEq a.t b.t) && ((a.state == b.state) && ((sndEq a.s b.s) && ((sameReceiver a.r b.r) && ((a.window == b.window) && ((a.most == b.most) && ((optEq a.o b.o) && ((a.timer == b.timer) && (a.tries == b.tries)))))))))],by kernel_rfl,fun w' hb hf => ⟨ret_bool (show ((tupEq a.t b.t) && ((a.state == b.state) && ((sndEq a.s b.s) && ((sameReceiver a.r b.r) && ((a.window == b.window) && ((a.most == b.most) && ((optEq a.o b.o) && ((a.timer == b.timer) && (a.tries == b.tries)))))))) : Bool) = sameConn a b from by first | rfl | (simp [sameConn, *]; done) | grind [sameConn,sameL_len]),hb⟩⟩
theorem l19Fin_c (k : Int) (w : World)  : Calls Tryz.prog 68 #[.int .i64 k] w fun e w' => e = .returned (.bool (decide (k ≠ 1 ∧ k ≠ 4))) ∧ Below w.heap.size w w' := by
 refine x_calls (args := [.int .i64 k]) (fn := Tryz.f68) [] Tryz.func68 rfl Tryz.ntmps68 rfl (by simp) ?_
 refine kQ ?_
 refine kEF [0] ⟨[(0,.v (.int .i64 k))],[],[],[]⟩ ?_
 refine kS ?_
 refine xw_join ⟨[(2,.v (.bool ((k != 1) && (k != 4))))],[],[],[]⟩ ?_ ?_
 refine kG ?_
 refine kRS 3 [0,5] [(0,.v (.int .i64 k)),(5,.v (.bool (k != 1)))] ?_
 refine kP 5 (k != 1) (fun h1 => ?_) (fun h1 => ?_)
 have h1p := neT h1
 refine kES [2] [(2,.v (.bool (k != 4)))] ?_
 show Wk _ _
 try rw [h1]
 exact kF 0 0 [2]
 have h1p := neF h1
 refine kES [2] [(2,.v (.bool false))] ?_
 show Wk _ _
 try rw [h1]
 exact kF 0 0 [2]
 refine kR ?_
 exact ⟨[.bool ((k != 1) && (k != 4))],by kernel_rfl,fun w' hb hf => ⟨ret_bool (show ((k != 1) && (k != 4) : Bool) = decide (k ≠ 1 ∧ k ≠ 4) from by first | rfl | (simp [*]; done) | (simp [*]; omega) | grind [toList_lit0]),hb⟩⟩
@[simp] theorem inB18_1 : inB 1 1 8 = true := rfl
@[simp] theorem inB18_2 : inB 2 1 8 = true := rfl
@[simp] theorem inB18_3 : inB 3 1 8 = true := rfl
@[simp] theorem inB18_4 : inB 4 1 8 = true := rfl
@[simp] theorem inB18_5 : inB 5 1 8 = true := rfl
@[simp] theorem inB18_6 : inB 6 1 8 = true := rfl
@[simp] theorem inB18_7 : inB 7 1 8 = true := rfl
@[simp] theorem inB18_8 : inB 8 1 8 = true := rfl
theorem ysConnOk_c (c : Con) (rV : Value) (w : World) (hZ : Sl w rV 2 (c.r.held.map pC)) (hm : ∀ p ∈ c.r.held, p.text.size ≤ 1048576) (hsz : c.r.data.size ≤ 4611686018427387904) : Calls Tryz.prog 25 #[.agg (conL c rV).toArray] w fun e w' => e = .returned (.bool (conOk c)) ∧ Below w.heap.size w w' := by
 obtain ⟨Z,Y,hY⟩ := hZ.form
 rw [List.length_map] at hY; subst hY
 have hJ := hZ.len; rw [List.length_map] at hJ
 have hqcrh := Sl.capLe hZ
 refine x_calls (args := [.agg (conL c (.slice Z c.r.held.length Y)).toArray]) (fn := Tryz.f25) [slF (.slice Z c.r.held.length Y) 2 (c.r.held.map pC)] Tryz.func25 rfl Tryz.ntmps25 rfl (by simp only [List.mem_cons,List.not_mem_nil,or_false,forall_eq_or_imp,forall_eq]; exact ⟨rfl,hZ⟩) ?_
 refine kQ ?_
 refine kEF [1] ⟨[(1,.p 0 0)],[⟨44,conL c (.slice Z c.r.held.length Y)⟩],[],[slF (.slice Z c.r.held.length Y) 2 (c.r.held.map pC)]⟩ ?_
 refine kS ?_
 refine kS ?_
 refine xw_join ⟨[(1,.p 0 0),(52,.v (.bool ((!(tupleOk c.t)) || ((!(senderOk c.s)) || ((!(rO c.r)) || ((!(optionsOk c.o)) || ((!(inB c.state 1 8)) || ((!(inB c.window 0 c.most)) || ((decide (c.most > 1073725440)) || (!(inB c.tries 0 3)))))))))))],[⟨44,conL c (.slice Z c.r.held.length Y)⟩],[],[slF (.slice Z c.r.held.length Y) 2 (c.r.held.map pC)]⟩ ?_ ?_
 refine kG ?_
 refine kCS 2 [1,7] [(1,.p 0 0),(7,.v (.agg (tupL c.t).toArray))] 63 [.agg (tupL c.t).toArray] (some 8) rfl (xc_b fun ww hf => sTupleOk_c c.t.ip c.t.port c.t.my ww ) ?_
 intro _
 refine kRS 2 [1,10] [(1,.p 0 0),(10,.v (.bool (!(tupleOk c.t))))] ?_
 refine kP 10 (!(tupleOk c.t)) (fun h1 => ?_) (fun h1 => ?_)
 have h1n := not_t h1
 refine kES [1,52] [(1,.p 0 0),(52,.v (.bool true))] ?_
 show Wk _ _
 try rw [h1]
 exact kF 1 0 [1,52]
 have h1n := not_f h1
 refine kCS 2 [1,10,12] [(1,.p 0 0),(10,.v (.bool false)),(12,.v (.agg (sndL c.s).toArray))] 64 [.agg (sndL c.s).toArray] (some 13) rfl (xc_b fun ww hf => sSenderOk_c c.s.una c.s.data c.s.sent c.s.fin c.s.finSent c.s.done ww ) ?_
 intro _
 refine kRS 3 [1,16] [(1,.p 0 0),(16,.v (.bool (!(senderOk c.s))))] ?_
 refine kP 16 (!(senderOk c.s)) (fun h2 => ?_) (fun h2 => ?_)
 have h2n := not_t h2
 refine kES [1,52] [(1,.p 0 0),(52,.v (.bool true))] ?_
 show Wk _ _
 try rw [h1]
 try rw [h2]
 exact kF 1 0 [1,52]
 have h2n := not_f h2
 refine kCS 2 [1,16,18] [(1,.p 0 0),(16,.v (.bool false)),(18,.v (.agg (rcvL c.r (.slice Z c.r.held.length Y)).toArray))] 65 [.agg (rcvL c.r (.slice Z c.r.held.length Y)).toArray] (some 19) rfl (xc_b fun ww hf => ysReceiverOk_c c.r (.slice Z c.r.held.length Y) ww (hf _ m0) (by assumption) (by omega)) ?_
 intro _
 refine kRS 3 [1,22] [(1,.p 0 0),(22,.v (.bool (!(rO c.r))))] ?_
 refine kP 22 (!(rO c.r)) (fun h3 => ?_) (fun h3 => ?_)
 have h3n := not_t h3
 refine kES [1,52] [(1,.p 0 0),(52,.v (.bool true))] ?_
 show Wk _ _
 try rw [h1]
 try rw [h2]
 try rw [h3]
 exact kF 1 0 [1,52]
 have h3n := not_f h3
 refine kCS 2 [1,22,24] [(1,.p 0 0),(22,.v (.bool false)),(24,.v (.agg (optL c.o).toArray))] 66 [.agg (optL c.o).toArray] (some 25) rfl (xc_b fun ww hf => sOptionsOk_c c.o.mss c.o.scale c.o.sack c.o.stamp c.o.val c.o.echo ww ) ?_
 intro _
 refine kRS 3 [1,28] [(1,.p 0 0),(28,.v (.bool (!(optionsOk c.o))))] ?_
 refine kP 28 (!(optionsOk c.o)) (fun h4 => ?_) (fun h4 => ?_)
 have h4n := not_t h4
 refine kES [1,52] [(1,.p 0 0),(52,.v (.bool true))] ?_
 show Wk _ _
 try rw [h1]
 try rw [h2]
 try rw [h3]
 try rw [h4]
 exact kF 1 0 [1,52]
 have h4n := not_f h4
 refine kCS 2 [1,28,30] [(1,.p 0 0),(28,.v (.bool false)),(30,.v (.int .i64 c.state))] 67 [.int .i64 c.state,.int .i64 1,.int .i64 8] (some 31) rfl (xc_s fun ww hf => l1In_c c.state 1 8 ww ) ?_
 intro _
 refine kRS 3 [1,34] [(1,.p 0 0),(34,.v (.bool (!(inB c.state 1 8))))] ?_
 refine kP 34 (!(inB c.state 1 8)) (fun h5 => ?_) (fun h5 => ?_)
 have h5n := not_t h5
 refine kES [1,52] [(1,.p 0 0),(52,.v (.bool true))] ?_
 show Wk _ _
 try rw [h1]
 try rw [h2]
 try rw [h3]
 try rw [h4]
 try rw [h5]
 exact kF 1 0 [1,52]
 have h5n := not_f h5
 refine kCS 4 [1,34,36,38] [(1,.p 0 0),(34,.v (.bool false)),(36,.v (.int .i64 c.window)),(38,.v (.int .i64 c.most))] 67 [.int .i64 c.window,.int .i64 0,.int .i64 c.most] (some 39) rfl (xc_s fun ww hf => l1In_c c.window 0 c.most ww ) ?_
 intro _
 refine kRS 3 [1,42] [(1,.p 0 0),(42,.v (.bool (!(inB c.window 0 c.most))))] ?_
 refine kP 42 (!(inB c.window 0 c.most)) (fun h6 => ?_) (fun h6 => ?_)
 have h6n := not_t h6
 refine kES [1,52] [(1,.p 0 0),(52,.v (.bool true))] ?_
 show Wk _ _
 try rw [h1]
 try rw [h2]
 try rw [h3]
 try rw [h4]
 try rw [h5]
 try rw [h6]
 exact kF 1 0 [1,52]
 have h6n := not_f h6
 refine kRS 5 [1,47] [(1,.p 0 0),(47,.v (.bool (decide (c.most > 1073725440))))] ?_
 refine kP 47 (decide (c.most > 1073725440)) (fun h7 => ?_) (fun h7 => ?_)
 have h7p := of_decide_eq_true h7
 refine kES [1,52] [(1,.p 0 0),(52,.v (.bool true))] ?_
 show Wk _ _
 try rw [h1]
 try rw [h2]
 try rw [h3]
 try rw [h4]
 try rw [h5]
 try rw [h6]
 try rw [h7]
 exact kF 1 0 [1,52]
 have h7p := of_decide_eq_false h7
 refine kCS 2 [1,47,49] [(1,.p 0 0),(47,.v (.bool false)),(49,.v (.int .i64 c.tries))] 67 [.int .i64 c.tries,.int .i64 0,.int .i64 3] (some 50) rfl (xc_s fun ww hf => l1In_c c.tries 0 3 ww ) ?_
 intro _
 refine kES [1,52] [(1,.p 0 0),(52,.v (.bool (!(inB c.tries 0 3))))] ?_
 show Wk _ _
 try rw [h1]
 try rw [h2]
 try rw [h3]
 try rw [h4]
 try rw [h5]
 try rw [h6]
 try rw [h7]
 exact kF 1 0 [1,52]
 refine kC ((!(tupleOk c.t)) || ((!(senderOk c.s)) || ((!(rO c.r)) || ((!(optionsOk c.o)) || ((!(inB c.state 1 8)) || ((!(inB c.window 0 c.most)) || ((decide (c.most > 1073725440)) || (!(inB c.tries 0 3))))))))) (fun h8 => ?_) (fun h8 => ?_)
 refine kQ ?_
 refine kES [2] [(2,.v (.bool false))] ?_
 refine kR ?_
 exact ⟨[.bool false],by kernel_rfl,fun w' hb hf => ⟨ret_bool (show (false : Bool) = conOk c from by first | rfl | (simp [conOk,conPre,conMid,stateFits, *]; done) | (clear hm hf hb; simp_all [conOk,conPre,conMid,stateFits]; done) | grind [conOk,conPre,conMid,stateFits,inB]),hb⟩⟩
 have h8l := or_l h8
 have h8ln := not_f h8l
 have h8r := or_r h8
 have h8rl := or_l h8r
 have h8rln := not_f h8rl
 have h8rr := or_r h8r
 have h8rrl := or_l h8rr
 have h8rrln := not_f h8rrl
 have h8rrr := or_r h8rr
 have h8rrrl := or_l h8rrr
 have h8rrrln := not_f h8rrrl
 have h8rrrr := or_r h8rrr
 have h8rrrrl := or_l h8rrrr
 have h8rrrrln := not_f h8rrrrl
 have h8rrrrr := or_r h8rrrr
 have h8rrrrrl := or_l h8rrrrr
 have h8rrrrrln := not_f h8rrrrrl
 have h8rrrrrr := or_r h8rrrrr
 have h8rrrrrrl := or_l h8rrrrrr
 have h8rrrrrrr := or_r h8rrrrrr
 have h8rrrrrrrn := not_f h8rrrrrrr
 refine kK ?_
 refine kQ ?_
 refine kES [1,3] [(1,.p 0 0),(3,.v (.int .i64 3))] ?_
 refine kS ?_
 refine kQ ?_
 refine kES [1,3,55] [(1,.p 0 0),(3,.v (.int .i64 3)),(55,.v (.bool (c.state == 7)))] ?_
 refine xw_join ⟨[(1,.p 0 0),(3,.v (.int .i64 (if (c.state == 7) = true then 4 else 3)))],[⟨44,conL c (.slice Z c.r.held.length Y)⟩],[],[slF (.slice Z c.r.held.length Y) 2 (c.r.held.map pC)]⟩ ?_ ?_
 refine kC (c.state == 7) (fun h9 => ?_) (fun h9 => ?_)
 have h9p := eqT h9
 refine kG ?_
 refine kES [1,3] [(1,.p 0 0),(3,.v (.int .i64 4))] ?_
 show Wk _ _; rw [h9]; exact kF 1 0 [1,3]
 have h9p := eqF h9
 refine kK ?_
 show Wk _ _; rw [h9]; exact kF 1 0 [1,3]
 refine kS ?_
 refine kQ ?_
 refine kCS 3 [1,57,58] [(1,.p 0 0),(57,.v (.int .i64 c.timer)),(58,.v (.int .i64 (if (c.state == 7) = true then 4 else 3)))] 67 [.int .i64 c.timer,.int .i64 0,.int .i64 (if (c.state == 7) = true then 4 else 3)] (some 59) rfl (xc_s fun ww hf => l1In_c c.timer 0 (if (c.state == 7) = true then 4 else 3) ww ) ?_
 intro _
 refine kES [1,60] [(1,.p 0 0),(60,.v (.bool (!(inB c.timer 0 (if (c.state == 7) = true then 4 else 3)))))] ?_
 refine kC (!(inB c.timer 0 (if (c.state == 7) = true then 4 else 3))) (fun h10 => ?_) (fun h10 => ?_)
 have h10n := not_t h10
 have h10np := h10n; simp only [beq_iff_eq,bne_iff_ne,beq_eq_false_iff_ne,bne_eq_false_iff_eq,ne_eq,toList_lit0] at h10np
 refine kQ ?_
 refine kES [2] [(2,.v (.bool false))] ?_
 refine kR ?_
 exact ⟨[.bool false],by kernel_rfl,fun w' hb hf => ⟨ret_bool (show (false : Bool) = conOk c from by first | rfl | (simp [conOk,conPre,conMid,stateFits, *]; done) | (clear hm hf hb; simp_all [conOk,conPre,conMid,stateFits]; done) | grind [conOk,conPre,conMid,stateFits,inB]),hb⟩⟩
 have h10n := not_f h10
 have h10np := h10n; simp only [beq_iff_eq,bne_iff_ne,beq_eq_false_iff_ne,bne_eq_false_iff_eq,ne_eq,toList_lit0] at h10np
 refine kK ?_
 refine kS ?_
 refine kQ ?_
 refine kES [1,63] [(1,.p 0 0),(63,.v (.bool (c.state == 8)))] ?_
 refine kC (c.state == 8) (fun h11 => ?_) (fun h11 => ?_)
 have h11p := eqT h11
 refine kQ ?_
 refine kES [2] [(2,.v (.bool true))] ?_
 refine kR ?_
 exact ⟨[.bool true],by kernel_rfl,fun w' hb hf => ⟨ret_bool (show (true : Bool) = conOk c from by first | rfl | (simp [conOk,conPre,conMid,stateFits, *]; done) | (clear hm hf hb; simp_all [conOk,conPre,conMid,stateFits]; done) | grind [conOk,conPre,conMid,stateFits,inB]),hb⟩⟩
 have h11p := eqF h11
 refine kK ?_
 refine kS ?_
 refine xw_join ⟨[(1,.p 0 0),(4,.v (.bool ((c.state == 3) || (c.state == 7))))],[⟨44,conL c (.slice Z c.r.held.length Y)⟩],[],[slF (.slice Z c.r.held.length Y) 2 (c.r.held.map pC)]⟩ ?_ ?_
 refine kG ?_
 refine kRS 4 [1,67] [(1,.p 0 0),(67,.v (.bool (c.state == 3)))] ?_
 refine kP 67 (c.state == 3) (fun h12 => ?_) (fun h12 => ?_)
 have h12p := eqT h12
 refine kES [1,4] [(1,.p 0 0),(4,.v (.bool true))] ?_
 show Wk _ _
 try rw [h12]
 exact kF 1 0 [1,4]
 have h12p := eqF h12
 refine kES [1,4] [(1,.p 0 0),(4,.v (.bool (c.state == 7)))] ?_
 show Wk _ _
 try rw [h12]
 exact kF 1 0 [1,4]
 refine kS ?_
 refine xw_join ⟨[(1,.p 0 0),(4,.v (.bool ((c.state == 3) || (c.state == 7)))),(5,.v (.bool ((c.state == 4) || (decide (c.state ≥ 5)))))],[⟨44,conL c (.slice Z c.r.held.length Y)⟩],[],[slF (.slice Z c.r.held.length Y) 2 (c.r.held.map pC)]⟩ ?_ ?_
 refine kG ?_
 refine kRS 4 [1,4,75] [(1,.p 0 0),(4,.v (.bool ((c.state == 3) || (c.state == 7)))),(75,.v (.bool (c.state == 4)))] ?_
 refine kP 75 (c.state == 4) (fun h13 => ?_) (fun h13 => ?_)
 have h13p := eqT h13
 refine kES [1,4,5] [(1,.p 0 0),(4,.v (.bool ((c.state == 3) || (c.state == 7)))),(5,.v (.bool true))] ?_
 show Wk _ _
 try rw [h13]
 exact kF 1 0 [1,4,5]
 have h13p := eqF h13
 refine kES [1,4,5] [(1,.p 0 0),(4,.v (.bool ((c.state == 3) || (c.state == 7)))),(5,.v (.bool (decide (c.state ≥ 5))))] ?_
 show Wk _ _
 try rw [h13]
 exact kF 1 0 [1,4,5]
 refine kS ?_
 refine xw_join ⟨[(2,.v (.bool ((c.s.fin == (decide (c.state ≠ 1 ∧ c.state ≠ 4))) && ((c.s.done == ((c.state == 3) || (c.state == 7))) && (c.r.done == ((c.state == 4) || (decide (c.state ≥ 5))))))))],[⟨44,conL c (.slice Z c.r.held.length Y)⟩],[],[slF (.slice Z c.r.held.length Y) 2 (c.r.held.map pC)]⟩ ?_ ?_
 refine xe_region [] (by kernel_rfl) (fun ρ σ => ?_)
 refine kTS [0,1,2,3,4] [84,82,1,4,5] 17 [(84,.v (.int .i64 c.state)),(82,.v (.bool c.s.fin)),(1,.p 0 0),(4,.v (.bool ((c.state == 3) || (c.state == 7)))),(5,.v (.bool ((c.state == 4) || (decide (c.state ≥ 5)))))] ?_
 refine kA [5] ?_
 refine kSC 5 68 [.int .i64 c.state] (some 85) rfl (xc_b fun ww hf => l19Fin_c c.state ww ) ?_
 intro _
 refine kTS [6,7] [87,1,4,5] 14 [(87,.v (.bool (c.s.fin == (decide (c.state ≠ 1 ∧ c.state ≠ 4))))),(1,.p 0 0),(4,.v (.bool ((c.state == 3) || (c.state == 7)))),(5,.v (.bool ((c.state == 4) || (decide (c.state ≥ 5)))))] ?_
 refine kY 87 (c.s.fin == (decide (c.state ≠ 1 ∧ c.state ≠ 4))) (fun h14 => ?_) (fun h14 => ?_)
 have h14p := eqT h14
 refine kTS [8,9,10,11,12,13,14] [94,1,5] 7 [(94,.v (.bool (c.s.done == ((c.state == 3) || (c.state == 7))))),(1,.p 0 0),(5,.v (.bool ((c.state == 4) || (decide (c.state ≥ 5)))))] ?_
 refine kY 94 (c.s.done == ((c.state == 3) || (c.state == 7))) (fun h15 => ?_) (fun h15 => ?_)
 have h15p := eqT h15
 refine kTS [15,16,17,18,19,20,21] [2] 0 [(2,.v (.bool (c.r.done == ((c.state == 4) || (decide (c.state ≥ 5))))))] ?_
 refine kZ ?_
 show Wk _ _
 try rw [h14]
 try rw [h15]
 exact kF 1 0 [2]
 have h15p := eqF h15
 refine kTS [15,16,17,18,19,20,21] [2] 0 [(2,.v (.bool false))] ?_
 refine kZ ?_
 show Wk _ _
 try rw [h14]
 try rw [h15]
 exact kF 1 0 [2]
 have h14p := eqF h14
 refine kTS [8,9,10,11,12,13,14,15,16,17,18,19,20,21] [2] 0 [(2,.v (.bool false))] ?_
 refine kZ ?_
 show Wk _ _
 try rw [h14]
 exact kF 1 0 [2]
 refine kR ?_
 exact ⟨[.bool ((c.s.fin == (decide (c.state ≠ 1 ∧ c.state ≠ 4))) && ((c.s.done == ((c.state == 3) || (c.state == 7))) && (c.r.done == ((c.state == 4) || (decide (c.state ≥ 5))))))],by kernel_rfl,fun w' hb hf => ⟨ret_bool (show ((c.s.fin == (decide (c.state ≠ 1 ∧ c.state ≠ 4))) && ((c.s.done == ((c.state == 3) || (c.state == 7))) && (c.r.done == ((c.state == 4) || (decide (c.state ≥ 5))))) : Bool) = conOk c from by first | rfl | (simp [conOk,conPre,conMid,stateFits, *]; done) | (clear hm hf hb; simp_all [conOk,conPre,conMid,stateFits]; done) | grind [conOk,conPre,conMid,stateFits,inB]),hb⟩⟩
theorem ysWaits_c (c : Con) (rV : Value) (w : World) (hZ : Sl w rV 2 (c.r.held.map pC)) (hm : ∀ p ∈ c.r.held, p.text.size ≤ 1048576) (hsz : c.r.data.size ≤ 4611686018427387904) : Calls Tryz.prog 164 #[.agg (conL c rV).toArray] w fun e w' => e = .returned (.bool (waits c)) ∧ Below w.heap.size w w' := by
 obtain ⟨Z,Y,hY⟩ := hZ.form
 rw [List.length_map] at hY; subst hY
 have hJ := hZ.len; rw [List.length_map] at hJ
 have hqcrh := Sl.capLe hZ
 refine x_calls (args := [.agg (conL c (.slice Z c.r.held.length Y)).toArray]) (fn := Tryz.f164) [slF (.slice Z c.r.held.length Y) 2 (c.r.held.map pC)] Tryz.func164 rfl Tryz.ntmps164 rfl (by simp only [List.mem_cons,List.not_mem_nil,or_false,forall_eq_or_imp,forall_eq]; exact ⟨rfl,hZ⟩) ?_
 refine kQ ?_
 refine kEF [1] ⟨[(1,.p 0 0)],[⟨44,conL c (.slice Z c.r.held.length Y)⟩],[],[slF (.slice Z c.r.held.length Y) 2 (c.r.held.map pC)]⟩ ?_
 refine kS ?_
 refine xw_join ⟨[(2,.v (.bool ((conOk c) && ((c.state == 7) || ((c.state != 8) && (unsent c))))))],[⟨44,conL c (.slice Z c.r.held.length Y)⟩],[],[slF (.slice Z c.r.held.length Y) 2 (c.r.held.map pC)]⟩ ?_ ?_
 refine kG ?_
 refine kCS 1 [1,3] [(1,.p 0 0),(3,.v (.agg (conL c (.slice Z c.r.held.length Y)).toArray))] 25 [.agg (conL c (.slice Z c.r.held.length Y)).toArray] (some 4) rfl (xc_b fun ww hf => ysConnOk_c c (.slice Z c.r.held.length Y) ww (hf _ m0) (by assumption) (by omega)) ?_
 intro _
 refine kRS 1 [1,5] [(1,.p 0 0),(5,.v (.bool (conOk c)))] ?_
 refine kP 5 (conOk c) (fun h1 => ?_) (fun h1 => ?_)
 refine kRS 4 [1,5,9] [(1,.p 0 0),(5,.v (.bool true)),(9,.v (.bool (c.state == 7)))] ?_
 refine kP 9 (c.state == 7) (fun h2 => ?_) (fun h2 => ?_)
 have h2p := eqT h2
 refine kES [2] [(2,.v (.bool true))] ?_
 show Wk _ _
 try rw [h1]
 try rw [h2]
 exact kF 1 0 [2]
 have h2p := eqF h2
 refine kRS 4 [1,5,9,13] [(1,.p 0 0),(5,.v (.bool true)),(9,.v (.bool false)),(13,.v (.bool (c.state != 8)))] ?_
 refine kP 13 (c.state != 8) (fun h3 => ?_) (fun h3 => ?_)
 have h3p := neT h3
 refine kCS 1 [5,9,13,14] [(5,.v (.bool true)),(9,.v (.bool false)),(13,.v (.bool true)),(14,.v (.agg (conL c (.slice Z c.r.held.length Y)).toArray))] 167 [.agg (conL c (.slice Z c.r.held.length Y)).toArray] (some 15) rfl (xc_b fun ww hf => ysUnsent_c c (.slice Z c.r.held.length Y) ww ) ?_
 intro _
 refine kES [2] [(2,.v (.bool (unsent c)))] ?_
 show Wk _ _
 try rw [h1]
 try rw [h2]
 try rw [h3]
 exact kF 1 0 [2]
 have h3p := neF h3
 refine kES [2] [(2,.v (.bool false))] ?_
 show Wk _ _
 try rw [h1]
 try rw [h2]
 try rw [h3]
 exact kF 1 0 [2]
 refine kES [2] [(2,.v (.bool false))] ?_
 show Wk _ _
 try rw [h1]
 exact kF 1 0 [2]
 refine kR ?_
 exact ⟨[.bool ((conOk c) && ((c.state == 7) || ((c.state != 8) && (unsent c))))],by kernel_rfl,fun w' hb hf => ⟨ret_bool (show ((conOk c) && ((c.state == 7) || ((c.state != 8) && (unsent c))) : Bool) = waits c from by first | rfl | (simp [waits, *]; done) | grind [waits]),hb⟩⟩
theorem yiConnOk_c (c : Con) (rV : Value) (w : World) (hZ : Sl w rV 2 (c.r.held.map pC)) (hm : ∀ p ∈ c.r.held, p.text.size ≤ 1048576) (hsz : c.r.data.size ≤ 4611686018427387904) : Calls Tryz.prog 24 #[.agg (conL c rV).toArray] w fun e w' => e = .returned (.bool (conOk c)) ∧ Below w.heap.size w w' := by
 obtain ⟨Z,Y,hY⟩ := hZ.form
 rw [List.length_map] at hY; subst hY
 have hJ := hZ.len; rw [List.length_map] at hJ
 have hqcrh := Sl.capLe hZ
 refine x_calls (args := [.agg (conL c (.slice Z c.r.held.length Y)).toArray]) (fn := Tryz.f24) [slF (.slice Z c.r.held.length Y) 2 (c.r.held.map pC)] Tryz.func24 rfl Tryz.ntmps24 rfl (by simp only [List.mem_cons,List.not_mem_nil,or_false,forall_eq_or_imp,forall_eq]; exact ⟨rfl,hZ⟩) ?_
 refine kQ ?_
 refine kEF [1] ⟨[(1,.p 0 0)],[⟨44,conL c (.slice Z c.r.held.length Y)⟩],[],[slF (.slice Z c.r.held.length Y) 2 (c.r.held.map pC)]⟩ ?_
 refine kS ?_
 refine kS ?_
 refine xw_join ⟨[(1,.p 0 0),(34,.v (.bool ((!(tupleOk c.t)) || ((!(senderOk c.s)) || ((!(rO c.r)) || ((!(optionsOk c.o)) || (!(inB c.state 1 8))))))))],[⟨44,conL c (.slice Z c.r.held.length Y)⟩],[],[slF (.slice Z c.r.held.length Y) 2 (c.r.held.map pC)]⟩ ?_ ?_
 refine kG ?_
 refine kCS 2 [1,8] [(1,.p 0 0),(8,.v (.agg (tupL c.t).toArray))] 58 [.agg (tupL c.t).toArray] (some 9) rfl (xc_b fun ww hf => iTupleOk_c c.t.ip c.t.port c.t.my ww ) ?_
 intro _
 refine kRS 2 [1,11] [(1,.p 0 0),(11,.v (.bool (!(tupleOk c.t))))] ?_
 refine kP 11 (!(tupleOk c.t)) (fun h1 => ?_) (fun h1 => ?_)
 have h1n := not_t h1
 refine kES [1,34] [(1,.p 0 0),(34,.v (.bool true))] ?_
 show Wk _ _
 try rw [h1]
 exact kF 1 0 [1,34]
 have h1n := not_f h1
 refine kCS 2 [1,11,13] [(1,.p 0 0),(11,.v (.bool false)),(13,.v (.agg (sndL c.s).toArray))] 59 [.agg (sndL c.s).toArray] (some 14) rfl (xc_b fun ww hf => iSenderOk_c c.s.una c.s.data c.s.sent c.s.fin c.s.finSent c.s.done ww ) ?_
 intro _
 refine kRS 3 [1,17] [(1,.p 0 0),(17,.v (.bool (!(senderOk c.s))))] ?_
 refine kP 17 (!(senderOk c.s)) (fun h2 => ?_) (fun h2 => ?_)
 have h2n := not_t h2
 refine kES [1,34] [(1,.p 0 0),(34,.v (.bool true))] ?_
 show Wk _ _
 try rw [h1]
 try rw [h2]
 exact kF 1 0 [1,34]
 have h2n := not_f h2
 refine kCS 2 [1,17,19] [(1,.p 0 0),(17,.v (.bool false)),(19,.v (.agg (rcvL c.r (.slice Z c.r.held.length Y)).toArray))] 60 [.agg (rcvL c.r (.slice Z c.r.held.length Y)).toArray] (some 20) rfl (xc_b fun ww hf => yiReceiverOk_c c.r (.slice Z c.r.held.length Y) ww (hf _ m0) (by assumption) (by omega)) ?_
 intro _
 refine kRS 3 [1,23] [(1,.p 0 0),(23,.v (.bool (!(rO c.r))))] ?_
 refine kP 23 (!(rO c.r)) (fun h3 => ?_) (fun h3 => ?_)
 have h3n := not_t h3
 refine kES [1,34] [(1,.p 0 0),(34,.v (.bool true))] ?_
 show Wk _ _
 try rw [h1]
 try rw [h2]
 try rw [h3]
 exact kF 1 0 [1,34]
 have h3n := not_f h3
 refine kCS 2 [1,23,25] [(1,.p 0 0),(23,.v (.bool false)),(25,.v (.agg (optL c.o).toArray))] 61 [.agg (optL c.o).toArray] (some 26) rfl (xc_b fun ww hf => iOptionsOk_c c.o.mss c.o.scale c.o.sack c.o.stamp c.o.val c.o.echo ww ) ?_
 intro _
 refine kRS 3 [1,29] [(1,.p 0 0),(29,.v (.bool (!(optionsOk c.o))))] ?_
 refine kP 29 (!(optionsOk c.o)) (fun h4 => ?_) (fun h4 => ?_)
 have h4n := not_t h4
 refine kES [1,34] [(1,.p 0 0),(34,.v (.bool true))] ?_
 show Wk _ _
 try rw [h1]
 try rw [h2]
 try rw [h3]
 try rw [h4]
 exact kF 1 0 [1,34]
 have h4n := not_f h4
 refine kCS 2 [1,29,31] [(1,.p 0 0),(29,.v (.bool false)),(31,.v (.int .i64 c.state))] 62 [.int .i64 c.state,.int .i64 1,.int .i64 8] (some 32) rfl (xc_s fun ww hf => within_c c.state 1 8 ww ) ?_
 intro _
 refine kES [1,34] [(1,.p 0 0),(34,.v (.bool (!(inB c.state 1 8))))] ?_
 show Wk _ _
 try rw [h1]
 try rw [h2]
 try rw [h3]
 try rw [h4]
 exact kF 1 0 [1,34]
 refine kC ((!(tupleOk c.t)) || ((!(senderOk c.s)) || ((!(rO c.r)) || ((!(optionsOk c.o)) || (!(inB c.state 1 8)))))) (fun h5 => ?_) (fun h5 => ?_)
 refine kQ ?_
 refine kES [2] [(2,.v (.bool false))] ?_
 refine kR ?_
 exact ⟨[.bool false],by kernel_rfl,fun w' hb hf => ⟨ret_bool (show (false : Bool) = conOk c from by first | rfl | (simp [conOk,conPre,conMid,stateFits, *]; done) | (clear hm hf hb; simp_all [conOk,conPre,conMid,stateFits]; done) | grind [conOk,conPre,conMid,stateFits,inB]),hb⟩⟩
 have h5l := or_l h5
 have h5ln := not_f h5l
 have h5r := or_r h5
 have h5rl := or_l h5r
 have h5rln := not_f h5rl
 have h5rr := or_r h5r
 have h5rrl := or_l h5rr
 have h5rrln := not_f h5rrl
 have h5rrr := or_r h5rr
 have h5rrrl := or_l h5rrr
 have h5rrrln := not_f h5rrrl
 have h5rrrr := or_r h5rrr
 have h5rrrrn := not_f h5rrrr
 refine kK ?_
 refine kQ ?_
 refine kES [1,3] [(1,.p 0 0),(3,.v (.int .i64 3))] ?_
 refine kS ?_
 refine kQ ?_
 refine kES [1,3,37] [(1,.p 0 0),(3,.v (.int .i64 3)),(37,.v (.bool (c.state == 7)))] ?_
 refine xw_join ⟨[(1,.p 0 0),(3,.v (.int .i64 (if (c.state == 7) = true then 4 else 3)))],[⟨44,conL c (.slice Z c.r.held.length Y)⟩],[],[slF (.slice Z c.r.held.length Y) 2 (c.r.held.map pC)]⟩ ?_ ?_
 refine kC (c.state == 7) (fun h6 => ?_) (fun h6 => ?_)
 have h6p := eqT h6
 refine kG ?_
 refine kES [1,3] [(1,.p 0 0),(3,.v (.int .i64 4))] ?_
 show Wk _ _; rw [h6]; exact kF 1 0 [1,3]
 have h6p := eqF h6
 refine kK ?_
 show Wk _ _; rw [h6]; exact kF 1 0 [1,3]
 refine kS ?_
 refine kS ?_
 refine xw_join ⟨[(1,.p 0 0),(62,.v (.bool ((!(inB c.most 0 1073725440)) || ((!(inB c.window 0 c.most)) || ((!(inB c.timer 0 (if (c.state == 7) = true then 4 else 3))) || (!(inB c.tries 0 3)))))))],[⟨44,conL c (.slice Z c.r.held.length Y)⟩],[],[slF (.slice Z c.r.held.length Y) 2 (c.r.held.map pC)]⟩ ?_ ?_
 refine kG ?_
 refine kCS 2 [1,3,39] [(1,.p 0 0),(3,.v (.int .i64 (if (c.state == 7) = true then 4 else 3))),(39,.v (.int .i64 c.most))] 62 [.int .i64 c.most,.int .i64 0,.int .i64 1073725440] (some 40) rfl (xc_s fun ww hf => within_c c.most 0 1073725440 ww ) ?_
 intro _
 refine kRS 2 [1,3,42] [(1,.p 0 0),(3,.v (.int .i64 (if (c.state == 7) = true then 4 else 3))),(42,.v (.bool (!(inB c.most 0 1073725440))))] ?_
 refine kP 42 (!(inB c.most 0 1073725440)) (fun h7 => ?_) (fun h7 => ?_)
 have h7n := not_t h7
 refine kES [1,62] [(1,.p 0 0),(62,.v (.bool true))] ?_
 show Wk _ _
 try rw [h7]
 exact kF 1 0 [1,62]
 have h7n := not_f h7
 refine kCS 4 [1,3,42,44,46] [(1,.p 0 0),(3,.v (.int .i64 (if (c.state == 7) = true then 4 else 3))),(42,.v (.bool false)),(44,.v (.int .i64 c.window)),(46,.v (.int .i64 c.most))] 62 [.int .i64 c.window,.int .i64 0,.int .i64 c.most] (some 47) rfl (xc_s fun ww hf => within_c c.window 0 c.most ww ) ?_
 intro _
 refine kRS 3 [1,3,50] [(1,.p 0 0),(3,.v (.int .i64 (if (c.state == 7) = true then 4 else 3))),(50,.v (.bool (!(inB c.window 0 c.most))))] ?_
 refine kP 50 (!(inB c.window 0 c.most)) (fun h8 => ?_) (fun h8 => ?_)
 have h8n := not_t h8
 refine kES [1,62] [(1,.p 0 0),(62,.v (.bool true))] ?_
 show Wk _ _
 try rw [h7]
 try rw [h8]
 exact kF 1 0 [1,62]
 have h8n := not_f h8
 refine kCS 3 [1,50,52,53] [(1,.p 0 0),(50,.v (.bool false)),(52,.v (.int .i64 c.timer)),(53,.v (.int .i64 (if (c.state == 7) = true then 4 else 3)))] 62 [.int .i64 c.timer,.int .i64 0,.int .i64 (if (c.state == 7) = true then 4 else 3)] (some 54) rfl (xc_s fun ww hf => within_c c.timer 0 (if (c.state == 7) = true then 4 else 3) ww ) ?_
 intro _
 refine kRS 3 [1,57] [(1,.p 0 0),(57,.v (.bool (!(inB c.timer 0 (if (c.state == 7) = true then 4 else 3)))))] ?_
 refine kP 57 (!(inB c.timer 0 (if (c.state == 7) = true then 4 else 3))) (fun h9 => ?_) (fun h9 => ?_)
 have h9n := not_t h9
 have h9np := h9n; simp only [beq_iff_eq,bne_iff_ne,beq_eq_false_iff_ne,bne_eq_false_iff_eq,ne_eq,toList_lit0] at h9np
 refine kES [1,62] [(1,.p 0 0),(62,.v (.bool true))] ?_
 show Wk _ _
 try rw [h7]
 try rw [h8]
 try rw [h9]
 exact kF 1 0 [1,62]
 have h9n := not_f h9
 have h9np := h9n; simp only [beq_iff_eq,bne_iff_ne,beq_eq_false_iff_ne,bne_eq_false_iff_eq,ne_eq,toList_lit0] at h9np
 refine kCS 2 [1,57,59] [(1,.p 0 0),(57,.v (.bool false)),(59,.v (.int .i64 c.tries))] 62 [.int .i64 c.tries,.int .i64 0,.int .i64 3] (some 60) rfl (xc_s fun ww hf => within_c c.tries 0 3 ww ) ?_
 intro _
 refine kES [1,62] [(1,.p 0 0),(62,.v (.bool (!(inB c.tries 0 3))))] ?_
 show Wk _ _
 try rw [h7]
 try rw [h8]
 try rw [h9]
 exact kF 1 0 [1,62]
 refine kC ((!(inB c.most 0 1073725440)) || ((!(inB c.window 0 c.most)) || ((!(inB c.timer 0 (if (c.state == 7) = true then 4 else 3))) || (!(inB c.tries 0 3))))) (fun h10 => ?_) (fun h10 => ?_)
 refine kQ ?_
 refine kES [2] [(2,.v (.bool false))] ?_
 refine kR ?_
 exact ⟨[.bool false],by kernel_rfl,fun w' hb hf => ⟨ret_bool (show (false : Bool) = conOk c from by first | rfl | (simp [conOk,conPre,conMid,stateFits, *]; done) | (clear hm hf hb; simp_all [conOk,conPre,conMid,stateFits]; done) | grind [conOk,conPre,conMid,stateFits,inB]),hb⟩⟩
 have h10l := or_l h10
 have h10ln := not_f h10l
 have h10r := or_r h10
 have h10rl := or_l h10r
 have h10rln := not_f h10rl
 have h10rr := or_r h10r
 have h10rrl := or_l h10rr
 have h10rrln := not_f h10rrl
 have h10rrlnp := h10rrln; simp only [beq_iff_eq,bne_iff_ne,beq_eq_false_iff_ne,bne_eq_false_iff_eq,ne_eq,toList_lit0] at h10rrlnp
 have h10rrr := or_r h10rr
 have h10rrrn := not_f h10rrr
 refine kK ?_
 refine kS ?_
 refine xe_region [] (by kernel_rfl) (fun ρ σ => ?_)
 refine kTS [0,1,2,3,4,5,6,7,8,9,10,11] [6,5,4,1] 0 [(6,.v (.bool c.r.done)),(5,.v (.bool c.s.done)),(4,.v (.bool c.s.fin)),(1,.p 0 0)] ?_
 refine kZ ?_
 refine kS ?_
 refine kQ ?_
 refine kES [4,5,6,73] [(4,.v (.bool c.s.fin)),(5,.v (.bool c.s.done)),(6,.v (.bool c.r.done)),(73,.v (.int .i64 c.state))] ?_
 refine xw_block ?_
 refine kQ ?_
 refine kES [4,5,6,73,74] [(4,.v (.bool c.s.fin)),(5,.v (.bool c.s.done)),(6,.v (.bool c.r.done)),(73,.v (.int .i64 c.state)),(74,.v (.bool (c.state == 1)))] ?_
 refine kC (c.state == 1) (fun h11 => ?_) (fun h11 => ?_)
 have h11p := eqT h11
 refine kS ?_
 refine xw_join ⟨[(2,.v (.bool ((!c.s.fin) && ((!c.s.done) && (!c.r.done)))))],[⟨44,conL c (.slice Z c.r.held.length Y)⟩],[],[slF (.slice Z c.r.held.length Y) 2 (c.r.held.map pC)]⟩ ?_ ?_
 refine kG ?_
 refine kRS 3 [5,6,78] [(5,.v (.bool c.s.done)),(6,.v (.bool c.r.done)),(78,.v (.bool (!c.s.fin)))] ?_
 refine kP 78 (!c.s.fin) (fun h12 => ?_) (fun h12 => ?_)
 have h12n := not_t h12
 refine kRS 4 [6,82] [(6,.v (.bool c.r.done)),(82,.v (.bool (!c.s.done)))] ?_
 refine kP 82 (!c.s.done) (fun h13 => ?_) (fun h13 => ?_)
 have h13n := not_t h13
 refine kES [2] [(2,.v (.bool (!c.r.done)))] ?_
 show Wk _ _
 try rw [h12]
 try rw [h13]
 exact kF 1 0 [2]
 have h13n := not_f h13
 refine kES [2] [(2,.v (.bool false))] ?_
 show Wk _ _
 try rw [h12]
 try rw [h13]
 exact kF 1 0 [2]
 have h12n := not_f h12
 refine kES [2] [(2,.v (.bool false))] ?_
 show Wk _ _
 try rw [h12]
 exact kF 1 0 [2]
 refine kR ?_
 exact ⟨[.bool ((!c.s.fin) && ((!c.s.done) && (!c.r.done)))],by kernel_rfl,fun w' hb hf => ⟨ret_bool (show ((!c.s.fin) && ((!c.s.done) && (!c.r.done)) : Bool) = conOk c from by first | rfl | (simp [conOk,conPre,conMid,stateFits, *]; done) | (clear hm hf hb; simp_all [conOk,conPre,conMid,stateFits]; done) | grind [conOk,conPre,conMid,stateFits,inB]),hb⟩⟩
 have h11p := eqF h11
 refine kQ ?_
 refine kES [4,5,6,73,86] [(4,.v (.bool c.s.fin)),(5,.v (.bool c.s.done)),(6,.v (.bool c.r.done)),(73,.v (.int .i64 c.state)),(86,.v (.bool (c.state == 2)))] ?_
 refine kC (c.state == 2) (fun h14 => ?_) (fun h14 => ?_)
 have h14p := eqT h14
 refine kS ?_
 refine xw_join ⟨[(2,.v (.bool (c.s.fin && ((!c.s.done) && (!c.r.done)))))],[⟨44,conL c (.slice Z c.r.held.length Y)⟩],[],[slF (.slice Z c.r.held.length Y) 2 (c.r.held.map pC)]⟩ ?_ ?_
 refine kG ?_
 refine kRS 2 [5,6,89] [(5,.v (.bool c.s.done)),(6,.v (.bool c.r.done)),(89,.v (.bool c.s.fin))] ?_
 refine kP 89 (c.s.fin) (fun h15 => ?_) (fun h15 => ?_)
 refine kRS 4 [6,93] [(6,.v (.bool c.r.done)),(93,.v (.bool (!c.s.done)))] ?_
 refine kP 93 (!c.s.done) (fun h16 => ?_) (fun h16 => ?_)
 have h16n := not_t h16
 refine kES [2] [(2,.v (.bool (!c.r.done)))] ?_
 show Wk _ _
 try rw [h15]
 try rw [h16]
 exact kF 1 0 [2]
 have h16n := not_f h16
 refine kES [2] [(2,.v (.bool false))] ?_
 show Wk _ _
 try rw [h15]
 try rw [h16]
 exact kF 1 0 [2]
 refine kES [2] [(2,.v (.bool false))] ?_
 show Wk _ _
 try rw [h15]
 exact kF 1 0 [2]
 refine kR ?_
 exact ⟨[.bool (c.s.fin && ((!c.s.done) && (!c.r.done)))],by kernel_rfl,fun w' hb hf => ⟨ret_bool (show (c.s.fin && ((!c.s.done) && (!c.r.done)) : Bool) = conOk c from by first | rfl | (simp [conOk,conPre,conMid,stateFits, *]; done) | (clear hm hf hb; simp_all [conOk,conPre,conMid,stateFits]; done) | grind [conOk,conPre,conMid,stateFits,inB]),hb⟩⟩
 have h14p := eqF h14
 refine kQ ?_
 refine kES [4,5,6,73,97] [(4,.v (.bool c.s.fin)),(5,.v (.bool c.s.done)),(6,.v (.bool c.r.done)),(73,.v (.int .i64 c.state)),(97,.v (.bool (c.state == 3)))] ?_
 refine kC (c.state == 3) (fun h17 => ?_) (fun h17 => ?_)
 have h17p := eqT h17
 refine kS ?_
 refine xw_join ⟨[(2,.v (.bool (c.s.fin && (c.s.done && (!c.r.done)))))],[⟨44,conL c (.slice Z c.r.held.length Y)⟩],[],[slF (.slice Z c.r.held.length Y) 2 (c.r.held.map pC)]⟩ ?_ ?_
 refine kG ?_
 refine kRS 2 [5,6,100] [(5,.v (.bool c.s.done)),(6,.v (.bool c.r.done)),(100,.v (.bool c.s.fin))] ?_
 refine kP 100 (c.s.fin) (fun h18 => ?_) (fun h18 => ?_)
 refine kRS 3 [6,103] [(6,.v (.bool c.r.done)),(103,.v (.bool c.s.done))] ?_
 refine kP 103 (c.s.done) (fun h19 => ?_) (fun h19 => ?_)
 refine kES [2] [(2,.v (.bool (!c.r.done)))] ?_
 show Wk _ _
 try rw [h18]
 try rw [h19]
 exact kF 1 0 [2]
 refine kES [2] [(2,.v (.bool false))] ?_
 show Wk _ _
 try rw [h18]
 try rw [h19]
 exact kF 1 0 [2]
 refine kES [2] [(2,.v (.bool false))] ?_
 show Wk _ _
 try rw [h18]
 exact kF 1 0 [2]
 refine kR ?_
 exact ⟨[.bool (c.s.fin && (c.s.done && (!c.r.done)))],by kernel_rfl,fun w' hb hf => ⟨ret_bool (show (c.s.fin && (c.s.done && (!c.r.done)) : Bool) = conOk c from by first | rfl | (simp [conOk,conPre,conMid,stateFits, *]; done) | (clear hm hf hb; simp_all [conOk,conPre,conMid,stateFits]; done) | grind [conOk,conPre,conMid,stateFits,inB]),hb⟩⟩
 have h17p := eqF h17
 refine kQ ?_
 refine kES [4,5,6,73,107] [(4,.v (.bool c.s.fin)),(5,.v (.bool c.s.done)),(6,.v (.bool c.r.done)),(73,.v (.int .i64 c.state)),(107,.v (.bool (c.state == 4)))] ?_
 refine kC (c.state == 4) (fun h20 => ?_) (fun h20 => ?_)
 have h20p := eqT h20
 refine kS ?_
 refine xw_join ⟨[(2,.v (.bool ((!c.s.fin) && ((!c.s.done) && c.r.done))))],[⟨44,conL c (.slice Z c.r.held.length Y)⟩],[],[slF (.slice Z c.r.held.length Y) 2 (c.r.held.map pC)]⟩ ?_ ?_
 refine kG ?_
 refine kRS 3 [5,6,111] [(5,.v (.bool c.s.done)),(6,.v (.bool c.r.done)),(111,.v (.bool (!c.s.fin)))] ?_
 refine kP 111 (!c.s.fin) (fun h21 => ?_) (fun h21 => ?_)
 have h21n := not_t h21
 refine kRS 4 [6,115] [(6,.v (.bool c.r.done)),(115,.v (.bool (!c.s.done)))] ?_
 refine kP 115 (!c.s.done) (fun h22 => ?_) (fun h22 => ?_)
 have h22n := not_t h22
 refine kES [2] [(2,.v (.bool c.r.done))] ?_
 show Wk _ _
 try rw [h21]
 try rw [h22]
 exact kF 1 0 [2]
 have h22n := not_f h22
 refine kES [2] [(2,.v (.bool false))] ?_
 show Wk _ _
 try rw [h21]
 try rw [h22]
 exact kF 1 0 [2]
 have h21n := not_f h21
 refine kES [2] [(2,.v (.bool false))] ?_
 show Wk _ _
 try rw [h21]
 exact kF 1 0 [2]
 refine kR ?_
 exact ⟨[.bool ((!c.s.fin) && ((!c.s.done) && c.r.done))],by kernel_rfl,fun w' hb hf => ⟨ret_bool (show ((!c.s.fin) && ((!c.s.done) && c.r.done) : Bool) = conOk c from by first | rfl | (simp [conOk,conPre,conMid,stateFits, *]; done) | (clear hm hf hb; simp_all [conOk,conPre,conMid,stateFits]; done) | grind [conOk,conPre,conMid,stateFits,inB]),hb⟩⟩
 have h20p := eqF h20
 refine kS ?_
 refine kQ ?_
 refine kES [4,5,6,73,118] [(4,.v (.bool c.s.fin)),(5,.v (.bool c.s.done)),(6,.v (.bool c.r.done)),(73,.v (.int .i64 c.state)),(118,.v (.bool (c.state == 5)))] ?_
 refine xw_join ⟨[(4,.v (.bool c.s.fin)),(5,.v (.bool c.s.done)),(6,.v (.bool c.r.done)),(73,.v (.int .i64 c.state)),(118,.v (.bool (if (c.state == 5) = true then c.state == 5 else c.state == 6)))],[⟨44,conL c (.slice Z c.r.held.length Y)⟩],[],[slF (.slice Z c.r.held.length Y) 2 (c.r.held.map pC)]⟩ ?_ ?_
 refine kC (c.state == 5) (fun h23 => ?_) (fun h23 => ?_)
 have h23p := eqT h23
 refine kK ?_
 show Wk _ _; rw [h23]; exact kF 1 0 [4,5,6,73,118]
 have h23p := eqF h23
 refine kG ?_
 refine kES [4,5,6,73,118] [(4,.v (.bool c.s.fin)),(5,.v (.bool c.s.done)),(6,.v (.bool c.r.done)),(73,.v (.int .i64 c.state)),(118,.v (.bool (c.state == 6)))] ?_
 show Wk _ _; rw [h23]; exact kF 1 0 [4,5,6,73,118]
 refine kC (if (c.state == 5) = true then c.state == 5 else c.state == 6) (fun h24 => ?_) (fun h24 => ?_)
 have h24p := h24; simp only [beq_iff_eq,bne_iff_ne,beq_eq_false_iff_ne,bne_eq_false_iff_eq,ne_eq,toList_lit0] at h24p
 refine kS ?_
 refine xw_join ⟨[(2,.v (.bool (c.s.fin && ((!c.s.done) && c.r.done))))],[⟨44,conL c (.slice Z c.r.held.length Y)⟩],[],[slF (.slice Z c.r.held.length Y) 2 (c.r.held.map pC)]⟩ ?_ ?_
 refine kG ?_
 refine kRS 2 [5,6,122] [(5,.v (.bool c.s.done)),(6,.v (.bool c.r.done)),(122,.v (.bool c.s.fin))] ?_
 refine kP 122 (c.s.fin) (fun h25 => ?_) (fun h25 => ?_)
 refine kRS 4 [6,126] [(6,.v (.bool c.r.done)),(126,.v (.bool (!c.s.done)))] ?_
 refine kP 126 (!c.s.done) (fun h26 => ?_) (fun h26 => ?_)
 have h26n := not_t h26
 refine kES [2] [(2,.v (.bool c.r.done))] ?_
 show Wk _ _
 try rw [h25]
 try rw [h26]
 exact kF 1 0 [2]
 have h26n := not_f h26
 refine kES [2] [(2,.v (.bool false))] ?_
 show Wk _ _
 try rw [h25]
 try rw [h26]
 exact kF 1 0 [2]
 refine kES [2] [(2,.v (.bool false))] ?_
 show Wk _ _
 try rw [h25]
 exact kF 1 0 [2]
 refine kR ?_
 exact ⟨[.bool (c.s.fin && ((!c.s.done) && c.r.done))],by kernel_rfl,fun w' hb hf => ⟨ret_bool (show (c.s.fin && ((!c.s.done) && c.r.done) : Bool) = conOk c from by first | rfl | (simp [conOk,conPre,conMid,stateFits, *]; done) | (clear hm hf hb; simp_all [conOk,conPre,conMid,stateFits]; done) | grind [conOk,conPre,conMid,stateFits,inB]),hb⟩⟩
 have h24p := h24; simp only [beq_iff_eq,bne_iff_ne,beq_eq_false_iff_ne,bne_eq_false_iff_eq,ne_eq,toList_lit0] at h24p
 refine kQ ?_
 refine kES [4,5,6,129] [(4,.v (.bool c.s.fin)),(5,.v (.bool c.s.done)),(6,.v (.bool c.r.done)),(129,.v (.bool (c.state == 7)))] ?_
 refine kC (c.state == 7) (fun h27 => ?_) (fun h27 => ?_)
 have h27p := eqT h27
 refine kS ?_
 refine xw_join ⟨[(2,.v (.bool (c.s.fin && (c.s.done && c.r.done))))],[⟨44,conL c (.slice Z c.r.held.length Y)⟩],[],[slF (.slice Z c.r.held.length Y) 2 (c.r.held.map pC)]⟩ ?_ ?_
 refine kG ?_
 refine kRS 2 [5,6,132] [(5,.v (.bool c.s.done)),(6,.v (.bool c.r.done)),(132,.v (.bool c.s.fin))] ?_
 refine kP 132 (c.s.fin) (fun h28 => ?_) (fun h28 => ?_)
 refine kRS 3 [6,135] [(6,.v (.bool c.r.done)),(135,.v (.bool c.s.done))] ?_
 refine kP 135 (c.s.done) (fun h29 => ?_) (fun h29 => ?_)
 refine kES [2] [(2,.v (.bool c.r.done))] ?_
 show Wk _ _
 try rw [h28]
 try rw [h29]
 exact kF 1 0 [2]
 refine kES [2] [(2,.v (.bool false))] ?_
 show Wk _ _
 try rw [h28]
 try rw [h29]
 exact kF 1 0 [2]
 refine kES [2] [(2,.v (.bool false))] ?_
 show Wk _ _
 try rw [h28]
 exact kF 1 0 [2]
 refine kR ?_
 exact ⟨[.bool (c.s.fin && (c.s.done && c.r.done))],by kernel_rfl,fun w' hb hf => ⟨ret_bool (show (c.s.fin && (c.s.done && c.r.done) : Bool) = conOk c from by first | rfl | (simp [conOk,conPre,conMid,stateFits, *]; done) | (clear hm hf hb; simp_all [conOk,conPre,conMid,stateFits]; done) | grind [conOk,conPre,conMid,stateFits,inB]),hb⟩⟩
 have h27p := eqF h27
 refine kK ?_
 refine kQ ?_
 refine kES [2] [(2,.v (.bool true))] ?_
 refine kR ?_
 exact ⟨[.bool true],by kernel_rfl,fun w' hb hf => ⟨ret_bool (show (true : Bool) = conOk c from by first | rfl | (simp [conOk,conPre,conMid,stateFits, *]; done) | (clear hm hf hb; simp_all [conOk,conPre,conMid,stateFits]; done) | grind [conOk,conPre,conMid,stateFits,inB]),hb⟩⟩
theorem ysSegmentOk_c (g : Seg) (w : World) (hsz : g.body.size ≤ 4611686018427387904) : Calls Tryz.prog 80 #[.agg (segL g).toArray] w fun e w' => e = .returned (.bool (segmentOk g)) ∧ Below w.heap.size w w' := by
 refine x_calls (args := [.agg (segL g).toArray]) (fn := Tryz.f80) [] Tryz.func80 rfl Tryz.ntmps80 rfl (by simp) ?_
 refine kQ ?_
 refine kEF [1] ⟨[(1,.p 0 0)],[⟨50,segL g⟩],[],[]⟩ ?_
 refine kS ?_
 refine xw_join ⟨[(2,.v (.bool ((wordOk g.src 16) && ((wordOk g.dst 16) && ((wordOk g.window 16) && ((wordOk g.seq 32) && ((wordOk g.ack 32) && ((wordOk g.flags 6) && ((optionsOk g.o) && (decide ((g.body.size : Int) ≤ 1420)))))))))))],[⟨50,segL g⟩],[],[]⟩ ?_ ?_
 refine kG ?_
 refine kCS 2 [1,4] [(1,.p 0 0),(4,.v (.int .i64 g.src))] 114 [.int .i64 g.src,.int .i64 16] (some 5) rfl (xc_s fun ww hf => sWordOk16_c g.src ww) ?_
 intro _
 refine kRS 1 [1,6] [(1,.p 0 0),(6,.v (.bool (wordOk g.src 16)))] ?_
 refine kP 6 (wordOk g.src 16) (fun h1 => ?_) (fun h1 => ?_)
 refine kCS 2 [1,6,8] [(1,.p 0 0),(6,.v (.bool true)),(8,.v (.int .i64 g.dst))] 114 [.int .i64 g.dst,.int .i64 16] (some 9) rfl (xc_s fun ww hf => sWordOk16_c g.dst ww) ?_
 intro _
 refine kRS 2 [1,11] [(1,.p 0 0),(11,.v (.bool (wordOk g.dst 16)))] ?_
 refine kP 11 (wordOk g.dst 16) (fun h2 => ?_) (fun h2 => ?_)
 refine kCS 2 [1,11,13] [(1,.p 0 0),(11,.v (.bool true)),(13,.v (.int .i64 g.window))] 114 [.int .i64 g.window,.int .i64 16] (some 14) rfl (xc_s fun ww hf => sWordOk16_c g.window ww) ?_
 intro _
 refine kRS 2 [1,16] [(1,.p 0 0),(16,.v (.bool (wordOk g.window 16)))] ?_
 refine kP 16 (wordOk g.window 16) (fun h3 => ?_) (fun h3 => ?_)
 refine kCS 2 [1,16,18] [(1,.p 0 0),(16,.v (.bool true)),(18,.v (.int .i64 g.seq))] 114 [.int .i64 g.seq,.int .i64 32] (some 19) rfl (xc_s fun ww hf => sWordOk32_c g.seq ww) ?_
 intro _
 refine kRS 2 [1,21] [(1,.p 0 0),(21,.v (.bool (wordOk g.seq 32)))] ?_
 refine kP 21 (wordOk g.seq 32) (fun h4 => ?_) (fun h4 => ?_)
 refine kCS 2 [1,21,23] [(1,.p 0 0),(21,.v (.bool true)),(23,.v (.int .i64 g.ack))] 114 [.int .i64 g.ack,.int .i64 32] (some 24) rfl (xc_s fun ww hf => sWordOk32_c g.ack ww) ?_
 intro _
 refine kRS 2 [1,26] [(1,.p 0 0),(26,.v (.bool (wordOk g.ack 32)))] ?_
 refine kP 26 (wordOk g.ack 32) (fun h5 => ?_) (fun h5 => ?_)
 refine kCS 2 [1,26,28] [(1,.p 0 0),(26,.v (.bool true)),(28,.v (.int .i64 g.flags))] 114 [.int .i64 g.flags,.int .i64 6] (some 29) rfl (xc_s fun ww hf => sWordOk6_c g.flags ww) ?_
 intro _
 refine kRS 2 [1,31] [(1,.p 0 0),(31,.v (.bool (wordOk g.flags 6)))] ?_
 refine kP 31 (wordOk g.flags 6) (fun h6 => ?_) (fun h6 => ?_)
 refine kCS 2 [1,31,33] [(1,.p 0 0),(31,.v (.bool true)),(33,.v (.agg (optL g.o).toArray))] 66 [.agg (optL g.o).toArray] (some 34) rfl (xc_b fun ww hf => sOptionsOk_c g.o.mss g.o.scale g.o.sack g.o.stamp g.o.val g.o.echo ww ) ?_
 intro _
 refine kRS 2 [1,36] [(1,.p 0 0),(36,.v (.bool (optionsOk g.o)))] ?_
 refine kP 36 (optionsOk g.o) (fun h7 => ?_) (fun h7 => ?_)
 refine kES [2] [(2,.v (.bool (decide ((g.body.size : Int) ≤ 1420))))] ?_
 show Wk _ _
 try rw [h1]
 try rw [h2]
 try rw [h3]
 try rw [h4]
 try rw [h5]
 try rw [h6]
 try rw [h7]
 exact kF 1 0 [2]
 refine kES [2] [(2,.v (.bool false))] ?_
 show Wk _ _
 try rw [h1]
 try rw [h2]
 try rw [h3]
 try rw [h4]
 try rw [h5]
 try rw [h6]
 try rw [h7]
 exact kF 1 0 [2]
 refine kES [2] [(2,.v (.bool false))] ?_
 show Wk _ _
 try rw [h1]
 try rw [h2]
 try rw [h3]
 try rw [h4]
 try rw [h5]
 try rw [h6]
 exact kF 1 0 [2]
 refine kES [2] [(2,.v (.bool false))] ?_
 show Wk _ _
 try rw [h1]
 try rw [h2]
 try rw [h3]
 try rw [h4]
 try rw [h5]
 exact kF 1 0 [2]
 refine kES [2] [(2,.v (.bool false))] ?_
 show Wk _ _
 try rw [h1]
 try rw [h2]
 try rw [h3]
 try rw [h4]
 exact kF 1 0 [2]
 refine kES [2] [(2,.v (.bool false))] ?_
 show Wk _ _
 try rw [h1]
 try rw [h2]
 try rw [h3]
 exact kF 1 0 [2]
 refine kES [2] [(2,.v (.bool false))] ?_
 show Wk _ _
 try rw [h1]
 try rw [h2]
 exact kF 1 0 [2]
 refine kES [2] [(2,.v (.bool false))] ?_
 show Wk _ _
 try rw [h1]
 exact kF 1 0 [2]
 refine kR ?_
 exact ⟨[.bool ((wordOk g.src 16) && ((wordOk g.dst 16) && ((wordOk g.window 16) && ((wordOk g.seq 32) && ((wordOk g.ack 32) && ((wordOk g.flags 6) && ((optionsOk g.o) && (decide ((g.body.size : Int) ≤ 1420)))))))))],by kernel_rfl,fun w' hb hf => ⟨ret_bool (show ((wordOk g.src 16) && ((wordOk g.dst 16) && ((wordOk g.window 16) && ((wordOk g.seq 32) && ((wordOk g.ack 32) && ((wordOk g.flags 6) && ((optionsOk g.o) && (decide ((g.body.size : Int) ≤ 1420)))))))) : Bool) = segmentOk g from by first | rfl | (simp [segmentOk, *]; done) | (simp [segmentOk, *]; omega) | grind [toList_lit0,segmentOk]),hb⟩⟩
theorem ysVerdict_c (c : Con) (rV : Value) (g : Seg) (w : World) (hZ : Sl w rV 2 (c.r.held.map pC)) (hgz : g.body.size ≤ 1048576) (hm : ∀ p ∈ c.r.held, p.text.size ≤ 1048576) (hsz : c.r.data.size ≤ 4611686018427387904) : Calls Tryz.prog 29 #[.agg (conL c rV).toArray, .agg (segL g).toArray] w fun e w' => e = .returned (.int .i64 (verdict c g)) ∧ Below w.heap.size w w' := by
 obtain ⟨Z,Y,hY⟩ := hZ.form
 rw [List.length_map] at hY; subst hY
 have hJ := hZ.len; rw [List.length_map] at hJ
 have hqcrh := Sl.capLe hZ
 refine x_calls (args := [.agg (conL c (.slice Z c.r.held.length Y)).toArray,.agg (segL g).toArray]) (fn := Tryz.f29) [slF (.slice Z c.r.held.length Y) 2 (c.r.held.map pC)] Tryz.func29 rfl Tryz.ntmps29 rfl (by simp only [List.mem_cons,List.not_mem_nil,or_false,forall_eq_or_imp,forall_eq]; exact ⟨rfl,hZ⟩) ?_
 refine kQ ?_
 refine kEF [2,3] ⟨[(2,.p 0 0),(3,.p 1 0)],[⟨44,conL c (.slice Z c.r.held.length Y)⟩,⟨50,segL g⟩],[],[slF (.slice Z c.r.held.length Y) 2 (c.r.held.map pC)]⟩ ?_
 refine kS ?_
 refine xw_block ?_
 refine kS ?_
 refine xw_join ⟨[(2,.p 0 0),(3,.p 1 0),(5,.v (.bool ((!(conOk c)) || ((c.state == 8) || (!(segmentOk g))))))],[⟨44,conL c (.slice Z c.r.held.length Y)⟩,⟨50,segL g⟩],[],[slF (.slice Z c.r.held.length Y) 2 (c.r.held.map pC)]⟩ ?_ ?_
 refine kG ?_
 refine kCS 1 [2,3,6] [(2,.p 0 0),(3,.p 1 0),(6,.v (.agg (conL c (.slice Z c.r.held.length Y)).toArray))] 25 [.agg (conL c (.slice Z c.r.held.length Y)).toArray] (some 7) rfl (xc_b fun ww hf => ysConnOk_c c (.slice Z c.r.held.length Y) ww (hf _ m0) (by assumption) (by omega)) ?_
 intro _
 refine kRS 2 [2,3,9] [(2,.p 0 0),(3,.p 1 0),(9,.v (.bool (!(conOk c))))] ?_
 refine kP 9 (!(conOk c)) (fun h1 => ?_) (fun h1 => ?_)
 have h1n := not_t h1
 refine kES [2,3,5] [(2,.p 0 0),(3,.p 1 0),(5,.v (.bool true))] ?_
 show Wk _ _
 try rw [h1]
 exact kF 2 0 [2,3,5]
 have h1n := not_f h1
 refine kRS 5 [2,3,14] [(2,.p 0 0),(3,.p 1 0),(14,.v (.bool (c.state == 8)))] ?_
 refine kP 14 (c.state == 8) (fun h2 => ?_) (fun h2 => ?_)
 have h2p := eqT h2
 refine kES [2,3,5] [(2,.p 0 0),(3,.p 1 0),(5,.v (.bool true))] ?_
 show Wk _ _
 try rw [h1]
 try rw [h2]
 exact kF 2 0 [2,3,5]
 have h2p := eqF h2
 refine kCS 1 [2,3,14,15] [(2,.p 0 0),(3,.p 1 0),(14,.v (.bool false)),(15,.v (.agg (segL g).toArray))] 80 [.agg (segL g).toArray] (some 16) rfl (xc_b fun ww hf => ysSegmentOk_c g ww (by first | omega | exact Nat.zero_le _)) ?_
 intro _
 refine kES [2,3,5] [(2,.p 0 0),(3,.p 1 0),(5,.v (.bool (!(segmentOk g))))] ?_
 show Wk _ _
 try rw [h1]
 try rw [h2]
 exact kF 2 0 [2,3,5]
 refine kC ((!(conOk c)) || ((c.state == 8) || (!(segmentOk g)))) (fun h3 => ?_) (fun h3 => ?_)
 refine kQ ?_
 refine kES [4] [(4,.v (.int .i64 1))] ?_
 refine kR ?_
 have hmod : verdict c g = 1 := by first | rfl | (simp [verdict, *]; done) | grind [verdict]
 exact ⟨[.int .i64 1],by kernel_rfl,fun w' hb hf => by rw [hmod]; exact ⟨rfl,hb⟩⟩
 have h3l := or_l h3
 have h3ln := not_f h3l
 have h3r := or_r h3
 have h3rl := or_l h3r
 have h3rlp := eqF h3rl
 have h3rr := or_r h3r
 have h3rrn := not_f h3rr
 refine kS ?_
 refine xw_join ⟨[(2,.p 0 0),(3,.p 1 0),(19,.v (.bool ((hasF g.flags 4) && (g.seq == c.r.next))))],[⟨44,conL c (.slice Z c.r.held.length Y)⟩,⟨50,segL g⟩],[],[slF (.slice Z c.r.held.length Y) 2 (c.r.held.map pC)]⟩ ?_ ?_
 refine kG ?_
 refine kCS 1 [2,3,20] [(2,.p 0 0),(3,.p 1 0),(20,.v (.agg (segL g).toArray))] 34 [.agg (segL g).toArray,.int .i64 4] (some 21) rfl (xc_b fun ww hf => sHas_c g.src g.dst g.seq g.ack g.flags g.window g.o.mss g.o.scale g.o.sack g.o.stamp g.o.val g.o.echo g.body 4 ww ) ?_
 intro _
 refine kRS 1 [2,3,22] [(2,.p 0 0),(3,.p 1 0),(22,.v (.bool (hasF g.flags 4)))] ?_
 refine kP 22 (hasF g.flags 4) (fun h4 => ?_) (fun h4 => ?_)
 refine kES [2,3,19] [(2,.p 0 0),(3,.p 1 0),(19,.v (.bool (g.seq == c.r.next)))] ?_
 show Wk _ _
 try rw [h4]
 exact kF 2 0 [2,3,19]
 refine kES [2,3,19] [(2,.p 0 0),(3,.p 1 0),(19,.v (.bool false))] ?_
 show Wk _ _
 try rw [h4]
 exact kF 2 0 [2,3,19]
 refine kC ((hasF g.flags 4) && (g.seq == c.r.next)) (fun h5 => ?_) (fun h5 => ?_)
 have h5l := and_l h5
 have h5r := and_r h5
 have h5rp := eqT h5r
 refine kQ ?_
 refine kES [4] [(4,.v (.int .i64 2))] ?_
 refine kR ?_
 have hmod : verdict c g = 2 := by first | rfl | (simp [verdict, *]; done) | grind [verdict]
 exact ⟨[.int .i64 2],by kernel_rfl,fun w' hb hf => by rw [hmod]; exact ⟨rfl,hb⟩⟩
 refine kS ?_
 refine xw_join ⟨[(2,.p 0 0),(3,.p 1 0),(30,.v (.bool ((hasF g.flags 4) && (inWindow g.seq c.r.next (wO c.r)))))],[⟨44,conL c (.slice Z c.r.held.length Y)⟩,⟨50,segL g⟩],[],[slF (.slice Z c.r.held.length Y) 2 (c.r.held.map pC)]⟩ ?_ ?_
 refine xe_region [] (by kernel_rfl) (fun ρ σ => ?_)
 refine kTS [0] [31,2,3] 13 [(31,.v (.agg (segL g).toArray)),(2,.p 0 0),(3,.p 1 0)] ?_
 refine kA [1] ?_
 refine kSC 1 34 [.agg (segL g).toArray,.int .i64 4] (some 32) rfl (xc_b fun ww hf => sHas_c g.src g.dst g.seq g.ack g.flags g.window g.o.mss g.o.scale g.o.sack g.o.stamp g.o.val g.o.echo g.body 4 ww ) ?_
 intro _
 refine kTS [2] [33,2,3] 11 [(33,.v (.bool (hasF g.flags 4))),(2,.p 0 0),(3,.p 1 0)] ?_
 refine kY 33 (hasF g.flags 4) (fun h6 => ?_) (fun h6 => ?_)
 refine kTS [3,4,5,6,7,8,9] [40,38,35,33,2,3] 4 [(40,.v (.agg (rcvL c.r (.slice Z c.r.held.length Y)).toArray)),(38,.v (.int .i64 c.r.next)),(35,.v (.int .i64 g.seq)),(33,.v (.bool true)),(2,.p 0 0),(3,.p 1 0)] ?_
 refine kA [10] ?_
 refine kSC 10 82 [.agg (rcvL c.r (.slice Z c.r.held.length Y)).toArray] (some 41) rfl (xc_b fun ww hf => sWindowOf_c c.r.next c.r.data c.r.held (.slice Z c.r.held.length Y) c.r.fin c.r.done ww (by omega)) ?_
 intro _
 refine kA [11] ?_
 refine kSC 11 81 [.int .i64 g.seq,.int .i64 c.r.next,.int .i64 (wO c.r)] (some 42) rfl (xc_s fun ww hf => sInWindow_c g.seq c.r.next (wO c.r) ww ) ?_
 intro _
 refine kTS [12,13] [30,2,3] 0 [(30,.v (.bool (inWindow g.seq c.r.next (wO c.r)))),(2,.p 0 0),(3,.p 1 0)] ?_
 refine kZ ?_
 show Wk _ _
 try rw [h6]
 exact kF 2 0 [2,3,30]
 refine kTS [3,4,5,6,7,8,9,10,11,12,13] [30,2,3] 0 [(30,.v (.bool false)),(2,.p 0 0),(3,.p 1 0)] ?_
 refine kZ ?_
 show Wk _ _
 try rw [h6]
 exact kF 2 0 [2,3,30]
 refine kC ((hasF g.flags 4) && (inWindow g.seq c.r.next (wO c.r))) (fun h7 => ?_) (fun h7 => ?_)
 have h7l := and_l h7
 have h7r := and_r h7
 refine kQ ?_
 refine kES [4] [(4,.v (.int .i64 3))] ?_
 refine kR ?_
 have hmod : verdict c g = 3 := by first | rfl | (simp [verdict, *]; done) | grind [verdict]
 exact ⟨[.int .i64 3],by kernel_rfl,fun w' hb hf => by rw [hmod]; exact ⟨rfl,hb⟩⟩
 refine kQ ?_
 refine kCS 1 [2,3,45] [(2,.p 0 0),(3,.p 1 0),(45,.v (.agg (segL g).toArray))] 34 [.agg (segL g).toArray,.int .i64 4] (some 46) rfl (xc_b fun ww hf => sHas_c g.src g.dst g.seq g.ack g.flags g.window g.o.mss g.o.scale g.o.sack g.o.stamp g.o.val g.o.echo g.body 4 ww ) ?_
 intro _
 refine kES [2,3,44] [(2,.p 0 0),(3,.p 1 0),(44,.v (.bool (hasF g.flags 4)))] ?_
 refine kC (hasF g.flags 4) (fun h8 => ?_) (fun h8 => ?_)
 refine kQ ?_
 refine kES [4] [(4,.v (.int .i64 1))] ?_
 refine kR ?_
 have hmod : verdict c g = 1 := by first | rfl | (simp [verdict, *]; done) | grind [verdict]
 exact ⟨[.int .i64 1],by kernel_rfl,fun w' hb hf => by rw [hmod]; exact ⟨rfl,hb⟩⟩
 refine kQ ?_
 refine kCS 1 [2,3,48] [(2,.p 0 0),(3,.p 1 0),(48,.v (.agg (segL g).toArray))] 34 [.agg (segL g).toArray,.int .i64 2] (some 49) rfl (xc_b fun ww hf => sHas_c g.src g.dst g.seq g.ack g.flags g.window g.o.mss g.o.scale g.o.sack g.o.stamp g.o.val g.o.echo g.body 2 ww ) ?_
 intro _
 refine kES [2,3,47] [(2,.p 0 0),(3,.p 1 0),(47,.v (.bool (hasF g.flags 2)))] ?_
 refine kC (hasF g.flags 2) (fun h9 => ?_) (fun h9 => ?_)
 refine kQ ?_
 refine kES [4] [(4,.v (.int .i64 3))] ?_
 refine kR ?_
 have hmod : verdict c g = 3 := by first | rfl | (simp [verdict, *]; done) | grind [verdict]
 exact ⟨[.int .i64 3],by kernel_rfl,fun w' hb hf => by rw [hmod]; exact ⟨rfl,hb⟩⟩
 refine kQ ?_
 refine kCS 2 [2,3,51,52] [(2,.p 0 0),(3,.p 1 0),(51,.v (.agg (conL c (.slice Z c.r.held.length Y)).toArray)),(52,.v (.agg (segL g).toArray))] 83 [.agg (conL c (.slice Z c.r.held.length Y)).toArray,.agg (segL g).toArray] (some 53) rfl (xc_b fun ww hf => sAcceptable_c c.t.ip c.t.port c.t.my c.state c.s.una c.s.data c.s.sent c.s.fin c.s.finSent c.s.done c.r.next c.r.data c.r.held (.slice Z c.r.held.length Y) c.r.fin c.r.done c.window c.most c.o.mss c.o.scale c.o.sack c.o.stamp c.o.val c.o.echo c.timer c.tries g.src g.dst g.seq g.ack g.flags g.window g.o.mss g.o.scale g.o.sack g.o.stamp g.o.val g.o.echo g.body ww (by omega) (by omega)) ?_
 intro _
 refine kES [2,3,50] [(2,.p 0 0),(3,.p 1 0),(50,.v (.bool (!(acceptable c g))))] ?_
 refine kC (!(acceptable c g)) (fun h10 => ?_) (fun h10 => ?_)
 have h10n := not_t h10
 refine kQ ?_
 refine kES [4] [(4,.v (.int .i64 4))] ?_
 refine kR ?_
 have hmod : verdict c g = 4 := by first | rfl | (simp [verdict, *]; done) | grind [verdict]
 exact ⟨[.int .i64 4],by kernel_rfl,fun w' hb hf => by rw [hmod]; exact ⟨rfl,hb⟩⟩
 have h10n := not_f h10
 refine kQ ?_
 refine kCS 1 [2,3,56] [(2,.p 0 0),(3,.p 1 0),(56,.v (.agg (segL g).toArray))] 34 [.agg (segL g).toArray,.int .i64 16] (some 57) rfl (xc_b fun ww hf => sHas_c g.src g.dst g.seq g.ack g.flags g.window g.o.mss g.o.scale g.o.sack g.o.stamp g.o.val g.o.echo g.body 16 ww ) ?_
 intro _
 refine kES [2,3,55] [(2,.p 0 0),(3,.p 1 0),(55,.v (.bool (!(hasF g.flags 16))))] ?_
 refine kC (!(hasF g.flags 16)) (fun h11 => ?_) (fun h11 => ?_)
 have h11n := not_t h11
 refine kQ ?_
 refine kES [4] [(4,.v (.int .i64 1))] ?_
 refine kR ?_
 have hmod : verdict c g = 1 := by first | rfl | (simp [verdict, *]; done) | grind [verdict]
 exact ⟨[.int .i64 1],by kernel_rfl,fun w' hb hf => by rw [hmod]; exact ⟨rfl,hb⟩⟩
 have h11n := not_f h11
 refine kQ ?_
 refine kCS 3 [60,62] [(60,.v (.agg (conL c (.slice Z c.r.held.length Y)).toArray)),(62,.v (.int .i64 g.ack))] 84 [.agg (conL c (.slice Z c.r.held.length Y)).toArray,.int .i64 g.ack] (some 63) rfl (xc_b fun ww hf => sAckFits_c c.t.ip c.t.port c.t.my c.state c.s.una c.s.data c.s.sent c.s.fin c.s.finSent c.s.done c.r.next c.r.data c.r.held (.slice Z c.r.held.length Y) c.r.fin c.r.done c.window c.most c.o.mss c.o.scale c.o.sack c.o.stamp c.o.val c.o.echo c.timer c.tries g.ack ww ) ?_
 intro _
 refine kES [59] [(59,.v (.bool (!(ackFits c g.ack))))] ?_
 refine kC (!(ackFits c g.ack)) (fun h12 => ?_) (fun h12 => ?_)
 have h12n := not_t h12
 refine kQ ?_
 refine kES [4] [(4,.v (.int .i64 3))] ?_
 refine kR ?_
 have hmod : verdict c g = 3 := by first | rfl | (simp [verdict, *]; done) | grind [verdict]
 exact ⟨[.int .i64 3],by kernel_rfl,fun w' hb hf => by rw [hmod]; exact ⟨rfl,hb⟩⟩
 have h12n := not_f h12
 refine kK ?_
 refine kQ ?_
 refine kES [4] [(4,.v (.int .i64 5))] ?_
 refine kR ?_
 have hmod : verdict c g = 5 := by first | rfl | (simp [verdict, *]; done) | grind [verdict]
 exact ⟨[.int .i64 5],by kernel_rfl,fun w' hb hf => by rw [hmod]; exact ⟨rfl,hb⟩⟩
theorem yiSegmentOk_c (g : Seg) (w : World) (hsz : g.body.size ≤ 4611686018427387904) : Calls Tryz.prog 93 #[.agg (segL g).toArray] w fun e w' => e = .returned (.bool (segmentOk g)) ∧ Below w.heap.size w w' := by
 refine x_calls (args := [.agg (segL g).toArray]) (fn := Tryz.f93) [] Tryz.func93 rfl Tryz.ntmps93 rfl (by simp) ?_
 refine kQ ?_
 refine kEF [1] ⟨[(1,.p 0 0)],[⟨50,segL g⟩],[],[]⟩ ?_
 refine kS ?_
 refine xw_join ⟨[(2,.v (.bool ((wordOk g.src 16) && ((wordOk g.dst 16) && ((wordOk g.window 16) && ((wordOk g.seq 32) && ((wordOk g.ack 32) && ((wordOk g.flags 6) && ((optionsOk g.o) && (decide ((g.body.size : Int) ≤ 1420)))))))))))],[⟨50,segL g⟩],[],[]⟩ ?_ ?_
 refine kG ?_
 refine kCS 2 [1,4] [(1,.p 0 0),(4,.v (.int .i64 g.src))] 113 [.int .i64 g.src,.int .i64 16] (some 5) rfl (xc_s fun ww hf => iWordOk16_c g.src ww) ?_
 intro _
 refine kRS 1 [1,6] [(1,.p 0 0),(6,.v (.bool (wordOk g.src 16)))] ?_
 refine kP 6 (wordOk g.src 16) (fun h1 => ?_) (fun h1 => ?_)
 refine kCS 2 [1,6,8] [(1,.p 0 0),(6,.v (.bool true)),(8,.v (.int .i64 g.dst))] 113 [.int .i64 g.dst,.int .i64 16] (some 9) rfl (xc_s fun ww hf => iWordOk16_c g.dst ww) ?_
 intro _
 refine kRS 2 [1,11] [(1,.p 0 0),(11,.v (.bool (wordOk g.dst 16)))] ?_
 refine kP 11 (wordOk g.dst 16) (fun h2 => ?_) (fun h2 => ?_)
 refine kCS 2 [1,11,13] [(1,.p 0 0),(11,.v (.bool true)),(13,.v (.int .i64 g.window))] 113 [.int .i64 g.window,.int .i64 16] (some 14) rfl (xc_s fun ww hf => iWordOk16_c g.window ww) ?_
 intro _
 refine kRS 2 [1,16] [(1,.p 0 0),(16,.v (.bool (wordOk g.window 16)))] ?_
 refine kP 16 (wordOk g.window 16) (fun h3 => ?_) (fun h3 => ?_)
 refine kCS 2 [1,16,18] [(1,.p 0 0),(16,.v (.bool true)),(18,.v (.int .i64 g.seq))] 113 [.int .i64 g.seq,.int .i64 32] (some 19) rfl (xc_s fun ww hf => iWordOk32_c g.seq ww) ?_
 intro _
 refine kRS 2 [1,21] [(1,.p 0 0),(21,.v (.bool (wordOk g.seq 32)))] ?_
 refine kP 21 (wordOk g.seq 32) (fun h4 => ?_) (fun h4 => ?_)
 refine kCS 2 [1,21,23] [(1,.p 0 0),(21,.v (.bool true)),(23,.v (.int .i64 g.ack))] 113 [.int .i64 g.ack,.int .i64 32] (some 24) rfl (xc_s fun ww hf => iWordOk32_c g.ack ww) ?_
 intro _
 refine kRS 2 [1,26] [(1,.p 0 0),(26,.v (.bool (wordOk g.ack 32)))] ?_
 refine kP 26 (wordOk g.ack 32) (fun h5 => ?_) (fun h5 => ?_)
 refine kCS 2 [1,26,28] [(1,.p 0 0),(26,.v (.bool true)),(28,.v (.int .i64 g.flags))] 113 [.int .i64 g.flags,.int .i64 6] (some 29) rfl (xc_s fun ww hf => iWordOk6_c g.flags ww) ?_
 intro _
 refine kRS 2 [1,31] [(1,.p 0 0),(31,.v (.bool (wordOk g.flags 6)))] ?_
 refine kP 31 (wordOk g.flags 6) (fun h6 => ?_) (fun h6 => ?_)
 refine kCS 2 [1,31,33] [(1,.p 0 0),(31,.v (.bool true)),(33,.v (.agg (optL g.o).toArray))] 61 [.agg (optL g.o).toArray] (some 34) rfl (xc_b fun ww hf => iOptionsOk_c g.o.mss g.o.scale g.o.sack g.o.stamp g.o.val g.o.echo ww ) ?_
 intro _
 refine kRS 2 [1,36] [(1,.p 0 0),(36,.v (.bool (optionsOk g.o)))] ?_
 refine kP 36 (optionsOk g.o) (fun h7 => ?_) (fun h7 => ?_)
 refine kES [2] [(2,.v (.bool (decide ((g.body.size : Int) ≤ 1420))))] ?_
 show Wk _ _
 try rw [h1]
 try rw [h2]
 try rw [h3]
 try rw [h4]
 try rw [h5]
 try rw [h6]
 try rw [h7]
 exact kF 1 0 [2]
 refine kES [2] [(2,.v (.bool false))] ?_
 show Wk _ _
 try rw [h1]
 try rw [h2]
 try rw [h3]
 try rw [h4]
 try rw [h5]
 try rw [h6]
 try rw [h7]
 exact kF 1 0 [2]
 refine kES [2] [(2,.v (.bool false))] ?_
 show Wk _ _
 try rw [h1]
 try rw [h2]
 try rw [h3]
 try rw [h4]
 try rw [h5]
 try rw [h6]
 exact kF 1 0 [2]
 refine kES [2] [(2,.v (.bool false))] ?_
 show Wk _ _
 try rw [h1]
 try rw [h2]
 try rw [h3]
 try rw [h4]
 try rw [h5]
 exact kF 1 0 [2]
 refine kES [2] [(2,.v (.bool false))] ?_
 show Wk _ _
 try rw [h1]
 try rw [h2]
 try rw [h3]
 try rw [h4]
 exact kF 1 0 [2]
 refine kES [2] [(2,.v (.bool false))] ?_
 show Wk _ _
 try rw [h1]
 try rw [h2]
 try rw [h3]
 exact kF 1 0 [2]
 refine kES [2] [(2,.v (.bool false))] ?_
 show Wk _ _
 try rw [h1]
 try rw [h2]
 exact kF 1 0 [2]
 refine kES [2] [(2,.v (.bool false))] ?_
 show Wk _ _
 try rw [h1]
 exact kF 1 0 [2]
 refine kR ?_
 exact ⟨[.bool ((wordOk g.src 16) && ((wordOk g.dst 16) && ((wordOk g.window 16) && ((wordOk g.seq 32) && ((wordOk g.ack 32) && ((wordOk g.flags 6) && ((optionsOk g.o) && (decide ((g.body.size : Int) ≤ 1420)))))))))],by kernel_rfl,fun w' hb hf => ⟨ret_bool (show ((wordOk g.src 16) && ((wordOk g.dst 16) && ((wordOk g.window 16) && ((wordOk g.seq 32) && ((wordOk g.ack 32) && ((wordOk g.flags 6) && ((optionsOk g.o) && (decide ((g.body.size : Int) ≤ 1420)))))))) : Bool) = segmentOk g from by first | rfl | (simp [segmentOk, *]; done) | (simp [segmentOk, *]; omega) | grind [toList_lit0,segmentOk]),hb⟩⟩
theorem yiVerdict_c (c : Con) (rV : Value) (g : Seg) (w : World) (hZ : Sl w rV 2 (c.r.held.map pC)) (hgz : g.body.size ≤ 1048576) (hm : ∀ p ∈ c.r.held, p.text.size ≤ 1048576) (hsz : c.r.data.size ≤ 4611686018427387904) : Calls Tryz.prog 42 #[.agg (conL c rV).toArray, .agg (segL g).toArray] w fun e w' => e = .returned (.int .i64 (verdict c g)) ∧ Below w.heap.size w w' := by
 obtain ⟨Z,Y,hY⟩ := hZ.form
 rw [List.length_map] at hY; subst hY
 have hJ := hZ.len; rw [List.length_map] at hJ
 have hqcrh := Sl.capLe hZ
 refine x_calls (args := [.agg (conL c (.slice Z c.r.held.length Y)).toArray,.agg (segL g).toArray]) (fn := Tryz.f42) [slF (.slice Z c.r.held.length Y) 2 (c.r.held.map pC)] Tryz.func42 rfl Tryz.ntmps42 rfl (by simp only [List.mem_cons,List.not_mem_nil,or_false,forall_eq_or_imp,forall_eq]; exact ⟨rfl,hZ⟩) ?_
 refine kQ ?_
 refine kEF [2,3] ⟨[(2,.p 0 0),(3,.p 1 0)],[⟨44,conL c (.slice Z c.r.held.length Y)⟩,⟨50,segL g⟩],[],[slF (.slice Z c.r.held.length Y) 2 (c.r.held.map pC)]⟩ ?_
 refine kS ?_
 refine kS ?_
 refine xw_join ⟨[(2,.p 0 0),(3,.p 1 0),(17,.v (.bool ((!(conOk c)) || ((c.state == 8) || (!(segmentOk g))))))],[⟨44,conL c (.slice Z c.r.held.length Y)⟩,⟨50,segL g⟩],[],[slF (.slice Z c.r.held.length Y) 2 (c.r.held.map pC)]⟩ ?_ ?_
 refine kG ?_
 refine kCS 1 [2,3,5] [(2,.p 0 0),(3,.p 1 0),(5,.v (.agg (conL c (.slice Z c.r.held.length Y)).toArray))] 24 [.agg (conL c (.slice Z c.r.held.length Y)).toArray] (some 6) rfl (xc_b fun ww hf => yiConnOk_c c (.slice Z c.r.held.length Y) ww (hf _ m0) (by assumption) (by omega)) ?_
 intro _
 refine kRS 2 [2,3,8] [(2,.p 0 0),(3,.p 1 0),(8,.v (.bool (!(conOk c))))] ?_
 refine kP 8 (!(conOk c)) (fun h1 => ?_) (fun h1 => ?_)
 have h1n := not_t h1
 refine kES [2,3,17] [(2,.p 0 0),(3,.p 1 0),(17,.v (.bool true))] ?_
 show Wk _ _
 try rw [h1]
 exact kF 2 0 [2,3,17]
 have h1n := not_f h1
 refine kRS 5 [2,3,13] [(2,.p 0 0),(3,.p 1 0),(13,.v (.bool (c.state == 8)))] ?_
 refine kP 13 (c.state == 8) (fun h2 => ?_) (fun h2 => ?_)
 have h2p := eqT h2
 refine kES [2,3,17] [(2,.p 0 0),(3,.p 1 0),(17,.v (.bool true))] ?_
 show Wk _ _
 try rw [h1]
 try rw [h2]
 exact kF 2 0 [2,3,17]
 have h2p := eqF h2
 refine kCS 1 [2,3,13,14] [(2,.p 0 0),(3,.p 1 0),(13,.v (.bool false)),(14,.v (.agg (segL g).toArray))] 93 [.agg (segL g).toArray] (some 15) rfl (xc_b fun ww hf => yiSegmentOk_c g ww (by first | omega | exact Nat.zero_le _)) ?_
 intro _
 refine kES [2,3,17] [(2,.p 0 0),(3,.p 1 0),(17,.v (.bool (!(segmentOk g))))] ?_
 show Wk _ _
 try rw [h1]
 try rw [h2]
 exact kF 2 0 [2,3,17]
 refine kC ((!(conOk c)) || ((c.state == 8) || (!(segmentOk g)))) (fun h3 => ?_) (fun h3 => ?_)
 refine kQ ?_
 refine kES [4] [(4,.v (.int .i64 1))] ?_
 refine kR ?_
 have hmod : verdict c g = 1 := by first | rfl | (simp [verdict, *]; done) | grind [verdict]
 exact ⟨[.int .i64 1],by kernel_rfl,fun w' hb hf => by rw [hmod]; exact ⟨rfl,hb⟩⟩
 have h3l := or_l h3
 have h3ln := not_f h3l
 have h3r := or_r h3
 have h3rl := or_l h3r
 have h3rlp := eqF h3rl
 have h3rr := or_r h3r
 have h3rrn := not_f h3rr
 refine kK ?_
 refine kS ?_
 refine kQ ?_
 refine kCS 1 [2,3,18] [(2,.p 0 0),(3,.p 1 0),(18,.v (.agg (segL g).toArray))] 44 [.agg (segL g).toArray,.int .i64 4] (some 19) rfl (xc_b fun ww hf => iHas_c g.src g.dst g.seq g.ack g.flags g.window g.o.mss g.o.scale g.o.sack g.o.stamp g.o.val g.o.echo g.body 4 ww ) ?_
 intro _
 refine kES [2,3,19] [(2,.p 0 0),(3,.p 1 0),(19,.v (.bool (hasF g.flags 4)))] ?_
 refine kC (hasF g.flags 4) (fun h4 => ?_) (fun h4 => ?_)
 refine kS ?_
 refine xw_block ?_
 refine kQ ?_
 refine kES [2,3,20] [(2,.p 0 0),(3,.p 1 0),(20,.v (.bool (g.seq == c.r.next)))] ?_
 refine kC (g.seq == c.r.next) (fun h5 => ?_) (fun h5 => ?_)
 have h5p := eqT h5
 refine kQ ?_
 refine kES [4] [(4,.v (.int .i64 2))] ?_
 refine kR ?_
 have hmod : verdict c g = 2 := by first | rfl | (simp [verdict, *]; done) | grind [verdict]
 exact ⟨[.int .i64 2],by kernel_rfl,fun w' hb hf => by rw [hmod]; exact ⟨rfl,hb⟩⟩
 have h5p := eqF h5
 refine kS ?_
 refine xe_region [] (by kernel_rfl) (fun ρ σ => ?_)
 refine kTS [0,1,2,3,4,5,6] [34,32,29] 3 [(34,.v (.agg (rcvL c.r (.slice Z c.r.held.length Y)).toArray)),(32,.v (.int .i64 c.r.next)),(29,.v (.int .i64 g.seq))] ?_
 refine kA [7] ?_
 refine kSC 7 95 [.agg (rcvL c.r (.slice Z c.r.held.length Y)).toArray] (some 35) rfl (xc_b fun ww hf => iWindowOf_c c.r.next c.r.data c.r.held (.slice Z c.r.held.length Y) c.r.fin c.r.done ww (by omega)) ?_
 intro _
 refine kA [8] ?_
 refine kSC 8 94 [.int .i64 g.seq,.int .i64 c.r.next,.int .i64 (wO c.r)] (some 36) rfl (xc_s fun ww hf => iInWindow_c g.seq c.r.next (wO c.r) ww ) ?_
 intro _
 refine kTS [9] [27] 0 [(27,.v (.bool (inWindow g.seq c.r.next (wO c.r))))] ?_
 refine kZ ?_
 refine kC (inWindow g.seq c.r.next (wO c.r)) (fun h6 => ?_) (fun h6 => ?_)
 refine kQ ?_
 refine kES [4] [(4,.v (.int .i64 3))] ?_
 refine kR ?_
 have hmod : verdict c g = 3 := by first | rfl | (simp [verdict, *]; done) | grind [verdict]
 exact ⟨[.int .i64 3],by kernel_rfl,fun w' hb hf => by rw [hmod]; exact ⟨rfl,hb⟩⟩
 refine kK ?_
 refine kQ ?_
 refine kES [4] [(4,.v (.int .i64 1))] ?_
 refine kR ?_
 have hmod : verdict c g = 1 := by first | rfl | (simp [verdict, *]; done) | grind [verdict]
 exact ⟨[.int .i64 1],by kernel_rfl,fun w' hb hf => by rw [hmod]; exact ⟨rfl,hb⟩⟩
 refine kK ?_
 refine kS ?_
 refine xw_block ?_
 refine kQ ?_
 refine kCS 1 [2,3,38] [(2,.p 0 0),(3,.p 1 0),(38,.v (.agg (segL g).toArray))] 44 [.agg (segL g).toArray,.int .i64 2] (some 39) rfl (xc_b fun ww hf => iHas_c g.src g.dst g.seq g.ack g.flags g.window g.o.mss g.o.scale g.o.sack g.o.stamp g.o.val g.o.echo g.body 2 ww ) ?_
 intro _
 refine kES [2,3,37] [(2,.p 0 0),(3,.p 1 0),(37,.v (.bool (hasF g.flags 2)))] ?_
 refine kC (hasF g.flags 2) (fun h7 => ?_) (fun h7 => ?_)
 refine kQ ?_
 refine kES [4] [(4,.v (.int .i64 3))] ?_
 refine kR ?_
 have hmod : verdict c g = 3 := by first | rfl | (simp [verdict, *]; done) | grind [verdict]
 exact ⟨[.int .i64 3],by kernel_rfl,fun w' hb hf => by rw [hmod]; exact ⟨rfl,hb⟩⟩
 refine kQ ?_
 refine kCS 2 [2,3,41,42] [(2,.p 0 0),(3,.p 1 0),(41,.v (.agg (conL c (.slice Z c.r.held.length Y)).toArray)),(42,.v (.agg (segL g).toArray))] 96 [.agg (conL c (.slice Z c.r.held.length Y)).toArray,.agg (segL g).toArray] (some 43) rfl (xc_b fun ww hf => iAcceptable_c c.t.ip c.t.port c.t.my c.state c.s.una c.s.data c.s.sent c.s.fin c.s.finSent c.s.done c.r.next c.r.data c.r.held (.slice Z c.r.held.length Y) c.r.fin c.r.done c.window c.most c.o.mss c.o.scale c.o.sack c.o.stamp c.o.val c.o.echo c.timer c.tries g.src g.dst g.seq g.ack g.flags g.window g.o.mss g.o.scale g.o.sack g.o.stamp g.o.val g.o.echo g.body ww (by omega) (by omega)) ?_
 intro _
 refine kES [2,3,40] [(2,.p 0 0),(3,.p 1 0),(40,.v (.bool (!(acceptable c g))))] ?_
 refine kC (!(acceptable c g)) (fun h8 => ?_) (fun h8 => ?_)
 have h8n := not_t h8
 refine kQ ?_
 refine kES [4] [(4,.v (.int .i64 4))] ?_
 refine kR ?_
 have hmod : verdict c g = 4 := by first | rfl | (simp [verdict, *]; done) | grind [verdict]
 exact ⟨[.int .i64 4],by kernel_rfl,fun w' hb hf => by rw [hmod]; exact ⟨rfl,hb⟩⟩
 have h8n := not_f h8
 refine kQ ?_
 refine kCS 1 [2,3,46] [(2,.p 0 0),(3,.p 1 0),(46,.v (.agg (segL g).toArray))] 44 [.agg (segL g).toArray,.int .i64 16] (some 47) rfl (xc_b fun ww hf => iHas_c g.src g.dst g.seq g.ack g.flags g.window g.o.mss g.o.scale g.o.sack g.o.stamp g.o.val g.o.echo g.body 16 ww ) ?_
 intro _
 refine kES [2,3,45] [(2,.p 0 0),(3,.p 1 0),(45,.v (.bool (!(hasF g.flags 16))))] ?_
 refine kC (!(hasF g.flags 16)) (fun h9 => ?_) (fun h9 => ?_)
 have h9n := not_t h9
 refine kQ ?_
 refine kES [4] [(4,.v (.int .i64 1))] ?_
 refine kR ?_
 have hmod : verdict c g = 1 := by first | rfl | (simp [verdict, *]; done) | grind [verdict]
 exact ⟨[.int .i64 1],by kernel_rfl,fun w' hb hf => by rw [hmod]; exact ⟨rfl,hb⟩⟩
 have h9n := not_f h9
 refine kQ ?_
 refine kCS 3 [50,52] [(50,.v (.agg (conL c (.slice Z c.r.held.length Y)).toArray)),(52,.v (.int .i64 g.ack))] 97 [.agg (conL c (.slice Z c.r.held.length Y)).toArray,.int .i64 g.ack] (some 53) rfl (xc_b fun ww hf => iAckFits_c c.t.ip c.t.port c.t.my c.state c.s.una c.s.data c.s.sent c.s.fin c.s.finSent c.s.done c.r.next c.r.data c.r.held (.slice Z c.r.held.length Y) c.r.fin c.r.done c.window c.most c.o.mss c.o.scale c.o.sack c.o.stamp c.o.val c.o.echo c.timer c.tries g.ack ww ) ?_
 intro _
 refine kES [49] [(49,.v (.bool (!(ackFits c g.ack))))] ?_
 refine kC (!(ackFits c g.ack)) (fun h10 => ?_) (fun h10 => ?_)
 have h10n := not_t h10
 refine kQ ?_
 refine kES [4] [(4,.v (.int .i64 3))] ?_
 refine kR ?_
 have hmod : verdict c g = 3 := by first | rfl | (simp [verdict, *]; done) | grind [verdict]
 exact ⟨[.int .i64 3],by kernel_rfl,fun w' hb hf => by rw [hmod]; exact ⟨rfl,hb⟩⟩
 have h10n := not_f h10
 refine kK ?_
 refine kQ ?_
 refine kES [4] [(4,.v (.int .i64 5))] ?_
 refine kR ?_
 have hmod : verdict c g = 5 := by first | rfl | (simp [verdict, *]; done) | grind [verdict]
 exact ⟨[.int .i64 5],by kernel_rfl,fun w' hb hf => by rw [hmod]; exact ⟨rfl,hb⟩⟩
theorem yClonePiece_c (a : List Pce) (aV : Value) (w : World) (hl_aV : Sl w aV 2 (a.map pC)) (hkn : a.length ≤ 1048576) (B : Nat) (hB : B ≤ w.heap.size) : Calls Tryz.prog 130 #[aV] w fun e w' => XRs w w' e (α := Option Addr × Nat) (fun y => .slice y.1 a.length y.2) (fun y => [ownF B (.slice y.1 a.length y.2) 2 (a.map pC)]) := by
 obtain ⟨Aa,Ca,hva⟩ := hl_aV.form
 rw [List.length_map] at hva; subst hva
 have hna := hl_aV.len; rw [List.length_map] at hna
 have hqa := Sl.capLe hl_aV
 have hnil := fun h => Sl.nil_of h hl_aV
 refine x_callsA (args := [.slice Aa a.length Ca]) (fn := Tryz.f130) [slF (.slice Aa a.length Ca) 2 (a.map pC)] Tryz.func130 rfl Tryz.ntmps130 rfl (by simp only [List.mem_cons,List.not_mem_nil,or_false,forall_eq_or_imp,forall_eq]; exact ⟨rfl,hl_aV⟩) ?_
 refine kQ ?_
 refine kEF [0] ⟨[(0,.v (.slice Aa a.length Ca))],[],[],[slF (.slice Aa a.length Ca) 2 (a.map pC)]⟩ ?_
 refine kS ?_
 refine kQ ?_
 refine kOS 1 [0,3] [(0,.v (.slice Aa a.length Ca)),(3,.v (.slice Aa a.length Ca))] (.bool Aa.isNone) rfl (fun _ _ _ ww hr => act_nilEq (e := 85) hr.1 rfl (by kernel_rfl) rfl rfl ww) ?_
 refine kES [0,4] [(0,.v (.slice Aa a.length Ca)),(4,.v (.bool Aa.isNone))] ?_
 refine kC (Aa.isNone) (fun h1 => ?_) (fun h1 => ?_)
 refine kQ ?_
 refine kES [2] [(2,.v (.slice none 0 0))] ?_
 refine kR ?_
 have hmod : a = [] := by exact hnil (by assumption)
 exact ⟨[.slice none 0 0],by kernel_rfl,fun w' hb hf ha => by rw [hmod]; exact xo1 ((none,0)) rfl rfl ⟨.inl ⟨rfl,_,rfl⟩,fun b hb => (hb.1 rfl).elim⟩ hb⟩
 refine kK ?_
 refine kQ ?_
 refine kHS 0 [0] [(0,.v (.slice Aa a.length Ca))] rfl (hv_build (e := 85) (K := 2) (bytes := 24) [] rfl (by kernel_rfl) (by kernel_rfl) (by kernel_rfl) (by kernel_rfl) (by kernel_rfl) (rs := ([] : List Pce).map pC) rfl) ?_
 intro g2
 refine kHS 1 [5,6] [(5,.v (.slice (some ⟨g2,0,none⟩) 0 0)),(6,.v (.slice Aa a.length Ca))] rfl (hv_append (e := 85) (K := 2) (bytes := 24) (i := 0) (q := a.length) (new := a.map pC) (rs' := a.map pC) rfl rfl rfl rfl (by kernel_rfl) (by kernel_rfl) (by kernel_rfl) rfl (by simp) rfl (by simp) (fun ww hf => (hf (slF (.slice Aa a.length Ca) 2 (a.map pC)) (by simp))) (by intro r hr; obtain ⟨x,hx,rfl⟩ := List.mem_map.1 hr; exact ⟨rfl,by simp [pC,Value.oneCell']⟩) (by (try simp only [List.length_map,List.length_append,List.length_cons,List.length_nil,List.length_take,List.length_drop,maxLen]); omega) (by (try simp only [List.length_map,List.length_append,List.length_cons,List.length_nil,List.length_take,List.length_drop,maxLen]); omega)) ?_
 rintro ⟨v3a,v3c⟩
 refine kES [2] [(2,.v (.slice v3a a.length v3c))] ?_
 refine kR ?_
 exact ⟨[.slice v3a a.length v3c],by kernel_rfl,fun w' hb hf ha => by exact xo1 ((v3a,v3c)) rfl rfl (pR (hf _ m0) hB) hb⟩
theorem yl18Copy_c (r : Rcv) (r_heldV : Value) (w : World) (hl_r_heldV : Sl w r_heldV 2 (r.held.map pC)) (hkn : r.held.length ≤ 1048576) (B : Nat) (hB : B ≤ w.heap.size) : Calls Tryz.prog 86 #[.agg (rcvL r r_heldV).toArray] w fun e w' => XRs w w' e (α := Option Addr × Nat) (fun y => .agg (rcvL r (.slice y.1 r.held.length y.2)).toArray) (fun y => [rowF B 85 2 (.slice y.1 r.held.length y.2) (r.held.map pC)]) := by
 obtain ⟨Arh,Crh,hvrh⟩ := hl_r_heldV.form
 rw [List.length_map] at hvrh; subst hvrh
 have hnrh := hl_r_heldV.len; rw [List.length_map] at hnrh
 have hqrh := Sl.capLe hl_r_heldV
 refine x_callsA (args := [.agg (rcvL r (.slice Arh r.held.length Crh)).toArray]) (fn := Tryz.f86) [slF (.slice Arh r.held.length Crh) 2 (r.held.map pC)] Tryz.func86 rfl Tryz.ntmps86 rfl (by simp only [List.mem_cons,List.not_mem_nil,or_false,forall_eq_or_imp,forall_eq]; exact ⟨rfl,hl_r_heldV⟩) ?_
 refine kQ ?_
 refine kEF [1,2] ⟨[(1,.p 0 0),(2,.p 1 0)],[⟨41,rcvL r (.slice Arh r.held.length Crh)⟩,⟨41,rcvZ⟩],[],[slF (.slice Arh r.held.length Crh) 2 (r.held.map pC)]⟩ ?_
 refine kQ ?_
 refine kHS 0 [1,2] [(1,.p 0 0),(2,.p 1 0)] rfl (hv_build (e := 85) (K := 2) (bytes := 24) [] rfl (by kernel_rfl) (by kernel_rfl) (by kernel_rfl) (by kernel_rfl) (by kernel_rfl) (rs := ([] : List Pce).map pC) rfl) ?_
 intro g1
 refine kHS 2 [1,2,3,5] [(1,.p 0 0),(2,.p 1 0),(3,.v (.slice (some ⟨g1,0,none⟩) 0 0)),(5,.v (.slice Arh r.held.length Crh))] rfl (hv_append (e := 85) (K := 2) (bytes := 24) (i := 0) (q := r.held.length) (new := r.held.map pC) (rs' := r.held.map pC) rfl rfl rfl rfl (by kernel_rfl) (by kernel_rfl) (by kernel_rfl) rfl (by simp) rfl (by simp) (fun ww hf => (hf (slF (.slice Arh r.held.length Crh) 2 (r.held.map pC)) (by simp))) (by intro r hr; obtain ⟨x,hx,rfl⟩ := List.mem_map.1 hr; exact ⟨rfl,by simp [pC,Value.oneCell']⟩) (by (try simp only [List.length_map,List.length_append,List.length_cons,List.length_nil,List.length_take,List.length_drop,maxLen]); omega) (by (try simp only [List.length_map,List.length_append,List.length_cons,List.length_nil,List.length_take,List.length_drop,maxLen]); omega)) ?_
 rintro ⟨v2a,v2c⟩
 refine kEF [1,2] ⟨[(1,.p 0 0),(2,.p 1 0)],[⟨41,rcvL r (.slice v2a r.held.length v2c)⟩,⟨41,rcvZ⟩],[],[rowF w.heap.size 85 2 (.slice v2a r.held.length v2c) (r.held.map pC),slF (.slice Arh r.held.length Crh) 2 (r.held.map pC)]⟩ ?_
 refine kQ ?_
 refine kEF [2] ⟨[(2,.p 1 0)],[⟨41,rcvL r (.slice v2a r.held.length v2c)⟩,⟨41,rcvL r (.slice v2a r.held.length v2c)⟩],[],[rowF w.heap.size 85 2 (.slice v2a r.held.length v2c) (r.held.map pC),slF (.slice Arh r.held.length Crh) 2 (r.held.map pC)]⟩ ?_
 refine kR ?_
 exact ⟨[.agg (rcvL r (.slice v2a r.held.length v2c)).toArray],by kernel_rfl,fun w' hb hf ha => by exact xo1 ((v2a,v2c)) rfl rfl (pW (hf _ m0) hB) hb⟩
theorem ycloneReceiver_c (r : Rcv) (r_heldV : Value) (w : World) (hl_r_heldV : Sl w r_heldV 2 (r.held.map pC)) (hkn : r.held.length ≤ 1048576) (B : Nat) (hB : B ≤ w.heap.size) : Calls Tryz.prog 98 #[.agg (rcvL r r_heldV).toArray] w fun e w' => XRs w w' e (α := Option Addr × Nat) (fun y => .agg (rcvL r (.slice y.1 r.held.length y.2)).toArray) (fun y => [ownF B (.slice y.1 r.held.length y.2) 2 (r.held.map pC)]) := by
 obtain ⟨Arh,Crh,hvrh⟩ := hl_r_heldV.form
 rw [List.length_map] at hvrh; subst hvrh
 have hnrh := hl_r_heldV.len; rw [List.length_map] at hnrh
 have hqrh := Sl.capLe hl_r_heldV
 refine x_callsA (args := [.agg (rcvL r (.slice Arh r.held.length Crh)).toArray]) (fn := Tryz.f98) [slF (.slice Arh r.held.length Crh) 2 (r.held.map pC)] Tryz.func98 rfl Tryz.ntmps98 rfl (by simp only [List.mem_cons,List.not_mem_nil,or_false,forall_eq_or_imp,forall_eq]; exact ⟨rfl,hl_r_heldV⟩) ?_
 refine kQ ?_
 refine kEF [1,2] ⟨[(1,.p 0 0),(2,.p 1 0)],[⟨41,rcvL r (.slice Arh r.held.length Crh)⟩,⟨41,rcvZ⟩],[],[slF (.slice Arh r.held.length Crh) 2 (r.held.map pC)]⟩ ?_
 refine kQ ?_
 refine kCS 2 [1,2,4] [(1,.p 0 0),(2,.p 1 0),(4,.v (.slice Arh r.held.length Crh))] 130 [.slice Arh r.held.length Crh] (some 5) rfl (xc_r fun ww hw hf => yClonePiece_c r.held (.slice Arh r.held.length Crh) ww (hf _ m0) (by assumption) w.heap.size hw) ?_
 rintro ⟨v1a,v1c⟩
 refine kEF [1,2] ⟨[(1,.p 0 0),(2,.p 1 0)],[⟨41,rcvL r (.slice v1a r.held.length v1c)⟩,⟨41,rcvZ⟩],[],[ownF w.heap.size (.slice v1a r.held.length v1c) 2 (r.held.map pC),slF (.slice Arh r.held.length Crh) 2 (r.held.map pC)]⟩ ?_
 refine kQ ?_
 refine kEF [2] ⟨[(2,.p 1 0)],[⟨41,rcvL r (.slice v1a r.held.length v1c)⟩,⟨41,rcvL r (.slice v1a r.held.length v1c)⟩],[],[ownF w.heap.size (.slice v1a r.held.length v1c) 2 (r.held.map pC),slF (.slice Arh r.held.length Crh) 2 (r.held.map pC)]⟩ ?_
 refine kR ?_
 exact ⟨[.agg (rcvL r (.slice v1a r.held.length v1c)).toArray],by kernel_rfl,fun w' hb hf ha => by exact xo1 ((v1a,v1c)) rfl rfl (pO (hf _ m0) hB) hb⟩
theorem yl19Copy_c (c : Con) (rV : Value) (w : World) (hZ : Sl w rV 2 (c.r.held.map pC)) (hkn : c.r.held.length ≤ 1048576) (B : Nat) (hB : B ≤ w.heap.size) : Calls Tryz.prog 33 #[.agg (conL c rV).toArray] w fun e w' => XRs w w' e (α := Option Addr × Nat) (fun y => .agg (conL c (.slice y.1 c.r.held.length y.2)).toArray) (fun y => [ownF B (.slice y.1 c.r.held.length y.2) 2 (c.r.held.map pC)]) := by
 obtain ⟨Z,Y,hY⟩ := hZ.form
 rw [List.length_map] at hY; subst hY
 have hJ := hZ.len; rw [List.length_map] at hJ
 have hqcrh := Sl.capLe hZ
 refine x_callsA (args := [.agg (conL c (.slice Z c.r.held.length Y)).toArray]) (fn := Tryz.f33) [slF (.slice Z c.r.held.length Y) 2 (c.r.held.map pC)] Tryz.func33 rfl Tryz.ntmps33 rfl (by simp only [List.mem_cons,List.not_mem_nil,or_false,forall_eq_or_imp,forall_eq]; exact ⟨rfl,hZ⟩) ?_
 refine kQ ?_
 refine kEF [1,2] ⟨[(1,.p 0 0),(2,.p 1 0)],[⟨44,conL c (.slice Z c.r.held.length Y)⟩,⟨44,conZ⟩],[],[slF (.slice Z c.r.held.length Y) 2 (c.r.held.map pC)]⟩ ?_
 refine kQ ?_
 refine kCS 2 [1,2,4] [(1,.p 0 0),(2,.p 1 0),(4,.v (.agg (rcvL c.r (.slice Z c.r.held.length Y)).toArray))] 86 [.agg (rcvL c.r (.slice Z c.r.held.length Y)).toArray] (some 5) rfl (xc_r fun ww hw hf => yl18Copy_c c.r (.slice Z c.r.held.length Y) ww (hf _ m0) (by assumption) w.heap.size hw) ?_
 rintro ⟨v1a,v1c⟩
 refine kEF [1,2] ⟨[(1,.p 0 0),(2,.p 1 0)],[⟨44,conL c (.slice v1a c.r.held.length v1c)⟩,⟨44,conZ⟩],[],[rowF w.heap.size 85 2 (.slice v1a c.r.held.length v1c) (c.r.held.map pC),slF (.slice Z c.r.held.length Y) 2 (c.r.held.map pC)]⟩ ?_
 refine kQ ?_
 refine kEF [2] ⟨[(2,.p 1 0)],[⟨44,conL c (.slice v1a c.r.held.length v1c)⟩,⟨44,conL c (.slice v1a c.r.held.length v1c)⟩],[],[rowF w.heap.size 85 2 (.slice v1a c.r.held.length v1c) (c.r.held.map pC),slF (.slice Z c.r.held.length Y) 2 (c.r.held.map pC)]⟩ ?_
 refine kR ?_
 exact ⟨[.agg (conL c (.slice v1a c.r.held.length v1c)).toArray],by kernel_rfl,fun w' hb hf ha => by exact xo1 ((v1a,v1c)) rfl rfl (pR (hf _ m0) hB) hb⟩
theorem ycloneConn_c (c : Con) (rV : Value) (w : World) (hZ : Sl w rV 2 (c.r.held.map pC)) (hkn : c.r.held.length ≤ 1048576) (B : Nat) (hB : B ≤ w.heap.size) : Calls Tryz.prog 43 #[.agg (conL c rV).toArray] w fun e w' => XRs w w' e (α := Option Addr × Nat) (fun y => .agg (conL c (.slice y.1 c.r.held.length y.2)).toArray) (fun y => [ownF B (.slice y.1 c.r.held.length y.2) 2 (c.r.held.map pC)]) := by
 obtain ⟨Z,Y,hY⟩ := hZ.form
 rw [List.length_map] at hY; subst hY
 have hJ := hZ.len; rw [List.length_map] at hJ
 have hqcrh := Sl.capLe hZ
 refine x_callsA (args := [.agg (conL c (.slice Z c.r.held.length Y)).toArray]) (fn := Tryz.f43) [slF (.slice Z c.r.held.length Y) 2 (c.r.held.map pC)] Tryz.func43 rfl Tryz.ntmps43 rfl (by simp only [List.mem_cons,List.not_mem_nil,or_false,forall_eq_or_imp,forall_eq]; exact ⟨rfl,hZ⟩) ?_
 refine kQ ?_
 refine kEF [1,2] ⟨[(1,.p 0 0),(2,.p 1 0)],[⟨44,conL c (.slice Z c.r.held.length Y)⟩,⟨44,conZ⟩],[],[slF (.slice Z c.r.held.length Y) 2 (c.r.held.map pC)]⟩ ?_
 refine kQ ?_
 refine kCS 2 [1,2,4] [(1,.p 0 0),(2,.p 1 0),(4,.v (.agg (rcvL c.r (.slice Z c.r.held.length Y)).toArray))] 98 [.agg (rcvL c.r (.slice Z c.r.held.length Y)).toArray] (some 5) rfl (xc_r fun ww hw hf => ycloneReceiver_c c.r (.slice Z c.r.held.length Y) ww (hf _ m0) (by assumption) w.heap.size hw) ?_
 rintro ⟨v1a,v1c⟩
 refine kEF [1,2] ⟨[(1,.p 0 0),(2,.p 1 0)],[⟨44,conL c (.slice v1a c.r.held.length v1c)⟩,⟨44,conZ⟩],[],[ownF w.heap.size (.slice v1a c.r.held.length v1c) 2 (c.r.held.map pC),slF (.slice Z c.r.held.length Y) 2 (c.r.held.map pC)]⟩ ?_
 refine kQ ?_
 refine kEF [2] ⟨[(2,.p 1 0)],[⟨44,conL c (.slice v1a c.r.held.length v1c)⟩,⟨44,conL c (.slice v1a c.r.held.length v1c)⟩],[],[ownF w.heap.size (.slice v1a c.r.held.length v1c) 2 (c.r.held.map pC),slF (.slice Z c.r.held.length Y) 2 (c.r.held.map pC)]⟩ ?_
 refine kR ?_
 exact ⟨[.agg (conL c (.slice v1a c.r.held.length v1c)).toArray],by kernel_rfl,fun w' hb hf ha => by exact xo1 ((v1a,v1c)) rfl rfl (pO (hf _ m0) hB) hb⟩
theorem yl18Free_c (l : List Int) (lV : Value) (m : Nat) (w : World) (hl_lV : Sl w lV 1 (l.map intRow)) (hm : m ≤ l.length) : Calls Tryz.prog 123 #[lV, .int .i64 (m : Int)] w fun e w' => e = .returned (.bool (freeFrom l m)) ∧ Below w.heap.size w w' := by
 obtain ⟨Al,Cl,hvl⟩ := hl_lV.form
 rw [List.length_map] at hvl; subst hvl
 have hnl := hl_lV.len; rw [List.length_map] at hnl
 have hql := Sl.capLe hl_lV
 refine x_calls (args := [.slice Al l.length Cl,.int .i64 (m : Int)]) (fn := Tryz.f123) [slF (.slice Al l.length Cl) 1 (l.map intRow)] Tryz.func123 rfl Tryz.ntmps123 rfl (by simp only [List.mem_cons,List.not_mem_nil,or_false,forall_eq_or_imp,forall_eq]; exact ⟨rfl,hl_lV⟩) ?_
 refine kQ ?_
 refine kEF [0,1] ⟨[(0,.v (.slice Al l.length Cl)),(1,.v (.int .i64 (m : Int)))],[],[],[slF (.slice Al l.length Cl) 1 (l.map intRow)]⟩ ?_
 refine kS ?_
 refine kQ ?_
 refine kES [0,5] [(0,.v (.slice Al l.length Cl)),(5,.v (.int .i64 (m : Int)))] ?_
 refine xw_block ?_
 refine xw_loopW (α := {x : Nat // (fun (k : Nat) => k ≤ l.length ∧ freeFrom l m = freeFrom l k) x}) (fun x => (fun (k : Nat) => (⟨[(0,.v (.slice Al l.length Cl)),(5,.v (.int .i64 (k : Int)))],[],[],[slF (.slice Al l.length Cl) 1 (l.map intRow)]⟩ : St)) x.1) (fun x => l.length - x.1) ⟨(m),⟨hm,rfl⟩⟩ (kF 0 0 [0,5]) ?_
 rintro ⟨k,hk,HK⟩
 try dsimp only
 try dsimp only at hk HK
 refine kS ?_
 refine kQ ?_
 refine kES [0,5,10] [(0,.v (.slice Al l.length Cl)),(5,.v (.int .i64 (k : Int))),(10,.v (.bool (decide ((k : Int) < ((l.length : Nat) : Int)))))] ?_
 refine kC (decide ((k : Int) < ((l.length : Nat) : Int))) (fun h1 => ?_) (fun h1 => ?_)
 have h1p := of_decide_eq_true h1
 have hlt : k < l.length := by simpa using h1
 obtain ⟨x,hx⟩ : ∃ x,l[k]? = some x := ⟨_,List.getElem?_eq_getElem hlt⟩
 have hfs := freeFrom_step hx
 refine kK ?_
 refine kS ?_
 refine xw_block ?_
 refine kQ ?_
 refine xl_indexS (kd := .i64) (T := 125) (e := 3) (K := 1) 2 [0,5,13,14] [(0,.v (.slice Al l.length Cl)),(5,.v (.int .i64 (k : Int))),(13,.v (.slice Al l.length Cl)),(14,.v (.int .i64 (k : Int)))] k [.int .i64 x] (slF (.slice Al l.length Cl) 1 (l.map intRow)) (by kernel_rfl) rfl (by kernel_rfl) rfl rfl (by kernel_rfl) (by kernel_rfl) (by kernel_rfl) (by kernel_rfl) hlt (by simp) (fun w h => h) (fun b h => h) (by simp only [List.getElem?_map,hx]; rfl) ?_
 refine kES [0,5,17] [(0,.v (.slice Al l.length Cl)),(5,.v (.int .i64 (k : Int))),(17,.v (.bool (decide (x ≥ 0))))] ?_
 refine kC (decide (x ≥ 0)) (fun h2 => ?_) (fun h2 => ?_)
 have h2p := of_decide_eq_true h2
 refine kQ ?_
 refine kES [4] [(4,.v (.bool false))] ?_
 refine kR ?_
 have hmod : freeFrom l m = false := by first | (rw [HK]; exact hfe) | (rw [HK,hfs]; simp; omega) | (rw [HK,hfs]; simp [*])
 exact ⟨[.bool false],by kernel_rfl,fun w' hb hf => by rw [hmod]; exact ⟨rfl,hb⟩⟩
 have h2p := of_decide_eq_false h2
 refine kK ?_
 refine kG ?_
 refine kRS 3 [0,5] [(0,.v (.slice Al l.length Cl)),(5,.v (.int .i64 (IntKind.i64.wrap ((k : Int) + 1))))] ?_
 refine xl_eqS (t' := [(0,.v (.slice Al l.length Cl)),(5,.v (.int .i64 ((k : Int) + 1)))]) (by rw [show (IntKind.i64.wrap ((k : Int) + 1)) = ((k : Int) + 1) from wrap_id (by omega) (by omega)]) ?_
 refine kES [0,5] [(0,.v (.slice Al l.length Cl)),(5,.v (.int .i64 ((k : Int) + 1)))] ?_
 exact ⟨⟨(k + 1),⟨by omega,by rw [HK,hfs]; simp; omega⟩⟩,kF 0 0 [0,5],by show l.length - (k + 1) < l.length - k; omega⟩
 have h1p := of_decide_eq_false h1
 have hge : k = l.length := by simp at h1; omega
 have hfe := freeFrom_end l
 subst hge
 refine xw_exit ?_
 refine kQ ?_
 refine kES [4] [(4,.v (.bool true))] ?_
 refine kR ?_
 have hmod : freeFrom l m = true := by first | (rw [HK]; exact hfe) | (rw [HK,hfs]; simp; omega) | (rw [HK,hfs]; simp [*])
 exact ⟨[.bool true],by kernel_rfl,fun w' hb hf => by rw [hmod]; exact ⟨rfl,hb⟩⟩
theorem yl18Slots_c (r : Rcv) (r_heldV : Value) (w : World) (hl_r_heldV : Sl w r_heldV 2 (r.held.map pC)) (hkn : r.held.length ≤ 1048576) (hheld : ∀ p ∈ r.held, 0 < p.off ∧ p.off + (p.text.size : Int) ≤ 32) (B : Nat) (hB : B ≤ w.heap.size) : Calls Tryz.prog 121 #[.agg (rcvL r r_heldV).toArray] w fun e w' => XRs w w' e (α := Option Addr × Nat) (fun y => .slice y.1 ((slotsOf r).length) y.2) (fun y => [rowF B 3 1 (.slice y.1 ((slotsOf r).length) y.2) ((slotsOf r).map intRow)]) := by
 obtain ⟨Arh,Crh,hvrh⟩ := hl_r_heldV.form
 rw [List.length_map] at hvrh; subst hvrh
 have hnrh := hl_r_heldV.len; rw [List.length_map] at hnrh
 have hqrh := Sl.capLe hl_r_heldV
 refine x_callsA (args := [.agg (rcvL r (.slice Arh r.held.length Crh)).toArray]) (fn := Tryz.f121) [slF (.slice Arh r.held.length Crh) 2 (r.held.map pC)] Tryz.func121 rfl Tryz.ntmps121 rfl (by simp only [List.mem_cons,List.not_mem_nil,or_false,forall_eq_or_imp,forall_eq]; exact ⟨rfl,hl_r_heldV⟩) ?_
 refine kQ ?_
 refine kEF [1] ⟨[(1,.p 0 0)],[⟨41,rcvL r (.slice Arh r.held.length Crh)⟩],[],[slF (.slice Arh r.held.length Crh) 2 (r.held.map pC)]⟩ ?_
 refine kQ ?_
 refine kHS 0 [1] [(1,.p 0 0)] rfl (hv_make (kl := .i64) (kc := .i64) (e := 3) (K := 1) (bytes := 8) (m := 33) (z := .int .i64 0) (rs := (List.replicate 33 0).map intRow) rfl (by kernel_rfl) (by kernel_rfl) (by kernel_rfl) (by kernel_rfl) (by (try simp only [List.length_map,List.length_append,List.length_cons,List.length_nil,List.length_take,List.length_drop,maxLen]); omega) (by (try simp only [List.length_map,List.length_append,List.length_cons,List.length_nil,List.length_take,List.length_drop,maxLen]); omega) (by rw [List.map_replicate]; rfl)) ?_
 intro g1
 refine kED [1,3] [(3,.v (.slice (some ⟨g1,0,none⟩) 33 33))] ?_
 refine kS ?_
 refine kQ ?_
 refine kED [1,3,4] [(4,.v (.int .i64 0))] ?_
 refine xw_block ?_
 refine xw_loopW (α := {x : Nat × List Int // (fun (k : Nat) (l : List Int) => k ≤ 33 ∧ l.length = 33 ∧ l.take k = List.replicate k (-1)) x.1 x.2}) (fun x => (fun (k : Nat) (l : List Int) => (⟨[(1,.p 0 0),(3,.v (.slice (some ⟨g1,0,none⟩) 33 33)),(4,.v (.int .i64 (k : Int)))],[⟨41,rcvL r (.slice Arh r.held.length Crh)⟩],[],[rowF w.heap.size 3 1 (.slice (some ⟨g1,0,none⟩) 33 33) (l.map intRow),slF (.slice Arh r.held.length Crh) 2 (r.held.map pC)]⟩ : St)) x.1.1 x.1.2) (fun x => (fun (k : Nat) (l : List Int) => 33 - k) x.1.1 x.1.2) ⟨(0,(List.replicate 33 0)),⟨Nat.zero_le _,by simp,rfl⟩⟩ (kPk [0,1] <| kF 1 0 [1,3,4]) ?_
 rintro ⟨⟨k,l⟩,hk,hl,HK⟩
 try dsimp only
 try dsimp only at hk hl HK
 refine kS ?_
 refine kQ ?_
 refine kED [1,3,4,11] [(11,.v (.bool (decide ((k : Int) < 33))))] ?_
 refine kC (decide ((k : Int) < 33)) (fun h2 => ?_) (fun h2 => ?_)
 have h2p := of_decide_eq_true h2
 have hlt : k < 33 := by simp at h2; omega
 obtain ⟨x0,hx0⟩ : ∃ x,l[k]? = some x := ⟨_,List.getElem?_eq_getElem (by omega)⟩
 refine kK ?_
 refine kS ?_
 refine xw_block ?_
 refine kG ?_
 refine kOD 2 [1,3,4,14,15] [(14,.v (.slice (some ⟨g1,0,none⟩) 33 33)),(15,.v (.int .i64 (k : Int)))] (.pointer (some ⟨g1,k * 1,none⟩)) rfl (fun _ _ _ ww hr => act_ix (kd := .i64) (T := 125) (e := 3) (K := 1) (g := g1) (N := 33) (cap := 33) k rfl hr.1 rfl rfl (by kernel_rfl) (by kernel_rfl) (by kernel_rfl) hlt ww) ?_
 refine xl_hs 0 [1,3,4,16] ⟨[(1,.p 0 0),(3,.v (.slice (some ⟨g1,0,none⟩) 33 33)),(4,.v (.int .i64 (k : Int))),(16,.v (.pointer (some ⟨g1,k * 1,none⟩)))],[⟨41,rcvL r (.slice Arh r.held.length Crh)⟩],[],[rowF w.heap.size 3 1 (.slice (some ⟨g1,0,none⟩) 33 33) (l.map intRow),slF (.slice Arh r.held.length Crh) 2 (r.held.map pC)]⟩ (by kernel_rfl) rfl (by kernel_rfl) rfl (by kernel_rfl) (HSg.hs (hs_stR (g := g1) (B := w.heap.size) (e := 3) (K := 1) (N := 33) (cap := 33) (rs := (l.map intRow)) (rs' := (l.set k (-1)).map intRow) (v := (.int .i64 (-1))) (i := 0) (off := k * 1) k 0 [.int .i64 x0] (row' := [.int .i64 (-1)]) rfl rfl (by kernel_rfl) rfl (by kernel_rfl) (by kernel_rfl) (by kernel_rfl) (by kernel_rfl) (Nat.le_refl _) (by simp only [List.getElem?_map,hx0]; rfl) (by kernel_rfl) rfl (by rw [List.map_set]; rfl))) ?_
 refine kED [1,3,4] [] ?_
 refine kG ?_
 refine kRD 3 [1,3,4] [(4,.v (.int .i64 (IntKind.i64.wrap ((k : Int) + 1))))] ?_
 refine xl_nv [1,3,4] [(4,.v (.int .i64 (IntKind.i64.wrap ((k : Int) + 1))))] [(4,.v (.int .i64 ((k : Int) + 1)))] (by rw [show (IntKind.i64.wrap ((k : Int) + 1)) = ((k : Int) + 1) from wrap_id (by omega) (by omega)]) (by kernel_rfl) ?_
 refine kED [1,3,4] [] ?_
 exact ⟨⟨(k + 1,l.set k (-1)),⟨hlt,(by rw [List.length_set]; exact hl),init_step HK (by omega)⟩⟩,kF 1 0 [1,3,4],by show (fun (k : Nat) (l : List Int) => 33 - k) (k + 1) (l.set k (-1)) < 33 - k; (dsimp only; omega)⟩
 have h2p := of_decide_eq_false h2
 have hk33 : k = 33 := by simp at h2; omega
 have hl1 : l = List.replicate 33 (-1) := by rw [hk33,← hl,List.take_length] at HK; rw [HK,hl]
 refine xw_exit ?_
 refine kS ?_
 refine kQ ?_
 refine kED [1,3,5] [(5,.v (.int .i64 0))] ?_
 refine xw_block ?_
 refine xw_loopW (α := {x : Nat × List Int // (fun (i : Nat) (l2 : List Int) => i ≤ r.held.length ∧ l2.length = 33 ∧ putHeld l r.held = putHeld l2 (r.held.drop i)) x.1 x.2}) (fun x => (fun (i : Nat) (l2 : List Int) => (⟨[(1,.p 0 0),(3,.v (.slice (some ⟨g1,0,none⟩) 33 33)),(5,.v (.int .i64 (i : Int)))],[⟨41,rcvL r (.slice Arh r.held.length Crh)⟩],[],[rowF w.heap.size 3 1 (.slice (some ⟨g1,0,none⟩) 33 33) (l2.map intRow),slF (.slice Arh r.held.length Crh) 2 (r.held.map pC)]⟩ : St)) x.1.1 x.1.2) (fun x => (fun (i : Nat) (l2 : List Int) => r.held.length - i) x.1.1 x.1.2) ⟨(0,l),⟨Nat.zero_le _,hl,rfl⟩⟩ (kPk [0,1] <| kF 1 0 [1,3,5]) ?_
 rintro ⟨⟨i,l2⟩,hi,hl2,H2⟩
 try dsimp only
 try dsimp only at hi hl2 H2
 refine kS ?_
 refine kQ ?_
 refine kED [1,3,5,21] [(21,.v (.bool (decide ((i : Int) < ((r.held.length : Nat) : Int)))))] ?_
 refine kC (decide ((i : Int) < ((r.held.length : Nat) : Int))) (fun h3 => ?_) (fun h3 => ?_)
 have h3p := of_decide_eq_true h3
 have hlt2 : i < r.held.length := by simpa using h3
 obtain ⟨pp,hx⟩ : ∃ p,r.held[i]? = some p := ⟨_,List.getElem?_eq_getElem hlt2⟩
 have hin := hheld pp (List.mem_of_getElem? hx)
 refine kK ?_
 refine kS ?_
 refine xw_block ?_
 refine kQ ?_
 refine kED [1,3,5,6] [(6,.v (.int .i64 0))] ?_
 refine xw_block ?_
 refine xw_loopW (α := {x : Nat × List Int // (fun (q : Nat) (l3 : List Int) => q ≤ pp.text.size ∧ l3.length = 33 ∧ l3 = putText l2 pp.off.toNat pp.text q) x.1 x.2}) (fun x => (fun (q : Nat) (l3 : List Int) => (⟨[(1,.p 0 0),(3,.v (.slice (some ⟨g1,0,none⟩) 33 33)),(5,.v (.int .i64 (i : Int))),(6,.v (.int .i64 (q : Int)))],[⟨41,rcvL r (.slice Arh r.held.length Crh)⟩],[],[rowF w.heap.size 3 1 (.slice (some ⟨g1,0,none⟩) 33 33) (l3.map intRow),slF (.slice Arh r.held.length Crh) 2 (r.held.map pC)]⟩ : St)) x.1.1 x.1.2) (fun x => (fun (q : Nat) (l3 : List Int) => pp.text.size - q) x.1.1 x.1.2) ⟨(0,l2),⟨Nat.zero_le _,hl2,rfl⟩⟩ (kPk [0,1] <| kF 1 0 [1,3,5,6]) ?_
 rintro ⟨⟨q,l3⟩,hq,hl3,H3⟩
 try dsimp only
 try dsimp only at hq hl3 H3
 refine kS ?_
 refine kQ ?_
 refine xl_indexD (kd := .i64) (T := 39) (e := 85) (K := 2) 4 [1,3,5,6,24,26,27] [(24,.v (.int .i64 (q : Int))),(26,.v (.slice Arh r.held.length Crh)),(27,.v (.int .i64 (i : Int)))] i [.int .i64 pp.off,.string pp.text] (slF (.slice Arh r.held.length Crh) 2 (r.held.map pC)) (by kernel_rfl) rfl (by kernel_rfl) rfl rfl (by kernel_rfl) (by kernel_rfl) (by kernel_rfl) (by kernel_rfl) hlt2 (by simp) (fun w h => h) (fun b h => h) (by simp only [List.getElem?_map,hx]; rfl) ?_
 refine kED [1,3,5,6,32] [(32,.v (.bool (decide ((q : Int) < (pp.text.size : Int)))))] ?_
 refine kC (decide ((q : Int) < (pp.text.size : Int))) (fun h4 => ?_) (fun h4 => ?_)
 have h4p := of_decide_eq_true h4
 have hlt3 : q < pp.text.size := by simpa using h4
 have hbr := byteAt_rng pp.text q
 obtain ⟨x3,hx3⟩ : ∃ x,l3[pp.off.toNat + q]? = some x := ⟨_,List.getElem?_eq_getElem (by omega)⟩
 refine kK ?_
 refine kS ?_
 refine xw_block ?_
 refine xw_wk (wkf (s' := ⟨[(1,.p 0 0),(3,.v (.slice (some ⟨g1,0,none⟩) 33 33)),(5,.v (.int .i64 (i : Int))),(6,.v (.int .i64 (q : Int))),(32,.v (.bool (decide ((q : Int) < (pp.text.size : Int)))))],[⟨41,rcvL r (.slice Arh r.held.length Crh)⟩],[],[rowF w.heap.size 3 1 (.slice (some ⟨g1,0,none⟩) 33 33) (l3.map intRow),slF (.slice Arh r.held.length Crh) 2 (r.held.map pC)]⟩) 1 0 [1,3,5,6,32] (by kernel_rfl)) ?_
 refine xws_start ?_
 refine xws_row (K := 2) (j := i) [.int .i64 pp.off,.string pp.text] (slF (.slice Arh r.held.length Crh) 2 (r.held.map pC)) (fun _ _ h => h) (by simp) (fun w h => h) (fun b h => h) (by simp only [List.getElem?_map,hx]; rfl) (fun bq5 offq5 hAq5 => ?_)
 refine xws_know (ψ := bq5 ≠ g1) (fun _ _ _ _ hr => row_ne hr 0 1 rfl rfl rfl (by decide) hAq5 i [.int .i64 pp.off,.string pp.text] (by simp only [List.getElem?_map,hx]; rfl)) (fun hneq5g1 => ?_)
 refine xws_row (K := 2) (j := i) [.int .i64 pp.off,.string pp.text] (slF (.slice Arh r.held.length Crh) 2 (r.held.map pC)) (fun _ _ h => h) (by simp) (fun w h => h) (fun b h => h) (by simp only [List.getElem?_map,hx]; rfl) (fun bq6 offq6 hAq6 => ?_)
 refine xws_know (ψ := bq6 ≠ g1) (fun _ _ _ _ hr => row_ne hr 0 1 rfl rfl rfl (by decide) hAq6 i [.int .i64 pp.off,.string pp.text] (by simp only [List.getElem?_map,hx]; rfl)) (fun hneq6g1 => ?_)
 refine xws_regionE [] (by kernel_rfl) (fun ρ σ hq7 => ?_)
 refine kTS [0,1,2,3,7,9,10,11,15] [50,46,45,42,38,37,35,1,3,5,6] 11 [(50,.v (.int .i64 (q : Int))),(46,.v (.int .i64 (i : Int))),(45,.v (.slice Arh r.held.length Crh)),(42,.v (.int .i64 (q : Int))),(38,.v (.int .i64 (i : Int))),(37,.v (.slice Arh r.held.length Crh)),(35,.v (.slice (some ⟨g1,0,none⟩) 33 33)),(1,.p 0 0),(3,.v (.slice (some ⟨g1,0,none⟩) 33 33)),(5,.v (.int .i64 (i : Int))),(6,.v (.int .i64 (q : Int)))] ?_
 refine xe_takeI (kd := .i64) (T := 39) (e := 85) (K := 2) (j := i) (A := Arh) (len := r.held.length) (cap := Crh) 4 0 _ rfl (by kernel_rfl) (by kernel_rfl) (by kernel_rfl) (fun _ _ h => h) (by kernel_rfl) rfl rfl (by kernel_rfl) (by kernel_rfl) (by kernel_rfl) (by kernel_rfl) hlt2 hAq5 hq7.1.2 (by kernel_rfl) rfl ?_
 refine kTS [5,6,8] [43,50,46,45,35,1,3,5,6] 7 [(43,.v (.int .i64 (IntKind.i64.wrap (pp.off + (q : Int))))),(50,.v (.int .i64 (q : Int))),(46,.v (.int .i64 (i : Int))),(45,.v (.slice Arh r.held.length Crh)),(35,.v (.slice (some ⟨g1,0,none⟩) 33 33)),(1,.p 0 0),(3,.v (.slice (some ⟨g1,0,none⟩) 33 33)),(5,.v (.int .i64 (i : Int))),(6,.v (.int .i64 (q : Int)))] ?_
 refine xe_nv [43,50,46,45,35,1,3,5,6] [(43,.v (.int .i64 (IntKind.i64.wrap (pp.off + (q : Int)))))] [(43,.v (.int .i64 ((pp.off.toNat + q : Nat) : Int)))] (by rw [show (IntKind.i64.wrap (pp.off + (q : Int))) = ((pp.off.toNat + q : Nat) : Int) from by rw [wrap_id (by omega) (by omega)]; omega]) (by kernel_rfl) ?_
 refine xe_takeI (kd := .i64) (T := 39) (e := 85) (K := 2) (j := i) (A := Arh) (len := r.held.length) (cap := Crh) 12 1 _ rfl (by kernel_rfl) (by kernel_rfl) (by kernel_rfl) (fun _ _ h => h) (by kernel_rfl) rfl rfl (by kernel_rfl) (by kernel_rfl) (by kernel_rfl) (by kernel_rfl) hlt2 hAq6 hq7.2 (by kernel_rfl) rfl ?_
 refine kTS [13,14] [49,43,50,35,1,3,5,6] 4 [(49,.v (.string pp.text)),(43,.v (.int .i64 ((pp.off.toNat + q : Nat) : Int))),(50,.v (.int .i64 (q : Int))),(35,.v (.slice (some ⟨g1,0,none⟩) 33 33)),(1,.p 0 0),(3,.v (.slice (some ⟨g1,0,none⟩) 33 33)),(5,.v (.int .i64 (i : Int))),(6,.v (.int .i64 (q : Int)))] ?_
 refine kX 16 (.int .u8 (byteAt pp.text q)) rfl (fun _ _ ww hA => act_tix (kd := .i64) (t := pp.text) q hA rfl rfl (by kernel_rfl) (by kernel_rfl) hlt3 ww) ?_
 refine kTS [17] [52,43,35,1,3,5,6] 2 [(52,.v (.int .i64 (IntKind.i64.wrap (byteAt pp.text q)))),(43,.v (.int .i64 ((pp.off.toNat + q : Nat) : Int))),(35,.v (.slice (some ⟨g1,0,none⟩) 33 33)),(1,.p 0 0),(3,.v (.slice (some ⟨g1,0,none⟩) 33 33)),(5,.v (.int .i64 (i : Int))),(6,.v (.int .i64 (q : Int)))] ?_
 refine xe_nv [52,43,35,1,3,5,6] [(52,.v (.int .i64 (IntKind.i64.wrap (byteAt pp.text q))))] [(52,.v (.int .i64 (byteAt pp.text q)))] (by rw [show (IntKind.i64.wrap (byteAt pp.text q)) = (byteAt pp.text q) from wrap_id (by omega) (by omega)]) (by kernel_rfl) ?_
 refine kX 18 (.pointer (some ⟨g1,(pp.off.toNat + q) * 1,none⟩)) rfl (fun _ _ ww hA => act_ix (kd := .i64) (T := 125) (e := 3) (K := 1) (g := g1) (N := 33) (cap := 33) (pp.off.toNat + q) rfl hA rfl rfl (by kernel_rfl) (by kernel_rfl) (by kernel_rfl) (by omega) ww) ?_
 refine kA [19] ?_
 refine xs_hsG 19 g1 rfl (by kernel_rfl) (by kernel_rfl) (by kernel_rfl) (under_t under_nil) (fun kk rr hk => match kk,hk with | 0,_ => .inr (fun h => hneq5g1 ((congrArg Prod.fst hq7.1.2).symm.trans h)) | 1,_ => .inr (fun h => hneq6g1 ((congrArg Prod.fst hq7.2).symm.trans h)) | nn + 2,hk => (by simp [addRow] at hk)) (hs_stR (g := g1) (B := w.heap.size) (e := 3) (K := 1) (N := 33) (cap := 33) (rs := (l3.map intRow)) (rs' := (l3.set (pp.off.toNat + q) (byteAt pp.text q)).map intRow) (v := (.int .i64 (byteAt pp.text q))) (i := 0) (off := (pp.off.toNat + q) * 1) (pp.off.toNat + q) 0 [.int .i64 x3] (row' := [.int .i64 (byteAt pp.text q)]) rfl rfl (by kernel_rfl) rfl (by kernel_rfl) (by kernel_rfl) (by kernel_rfl) (by kernel_rfl) (Nat.le_refl _) (by simp only [List.getElem?_map,hx3]; rfl) (by kernel_rfl) rfl (by rw [List.map_set]; rfl)) ?_
 refine kZ ?_
 refine kG ?_
 refine kRD 3 [1,3,5,6] [(6,.v (.int .i64 (IntKind.i64.wrap ((q : Int) + 1))))] ?_
 refine xl_nv [1,3,5,6] [(6,.v (.int .i64 (IntKind.i64.wrap ((q : Int) + 1))))] [(6,.v (.int .i64 ((q : Int) + 1)))] (by rw [show (IntKind.i64.wrap ((q : Int) + 1)) = ((q : Int) + 1) from wrap_id (by omega) (by omega)]) (by kernel_rfl) ?_
 refine kED [1,3,5,6] [] ?_
 exact ⟨⟨(q + 1,(l3.set (pp.off.toNat + q) (byteAt pp.text q))),⟨hlt3,(by rw [List.length_set]; exact hl3),(by rw [H3]; rfl)⟩⟩,kF 1 0 [1,3,5,6],by show (fun (q : Nat) (l3 : List Int) => pp.text.size - q) (q + 1) (l3.set (pp.off.toNat + q) (byteAt pp.text q)) < pp.text.size - q; (dsimp only; omega)⟩
 have h4p := of_decide_eq_false h4
 have hq3 : q = pp.text.size := by simp at h4; omega
 refine xw_exit ?_
 refine kG ?_
 refine kRD 3 [1,3,5] [(5,.v (.int .i64 (IntKind.i64.wrap ((i : Int) + 1))))] ?_
 refine xl_nv [1,3,5] [(5,.v (.int .i64 (IntKind.i64.wrap ((i : Int) + 1))))] [(5,.v (.int .i64 ((i : Int) + 1)))] (by rw [show (IntKind.i64.wrap ((i : Int) + 1)) = ((i : Int) + 1) from wrap_id (by omega) (by omega)]) (by kernel_rfl) ?_
 refine kES [1,3,5] [(1,.p 0 0),(3,.v (.slice (some ⟨g1,0,none⟩) 33 33)),(5,.v (.int .i64 ((i : Int) + 1)))] ?_
 exact ⟨⟨(i + 1,l3),⟨hlt2,hl3,(by rw [H2,drop_cons_of hx,putHeld,← hq3,← H3])⟩⟩,kF 1 0 [1,3,5],by show (fun (i : Nat) (l2 : List Int) => r.held.length - i) (i + 1) l3 < r.held.length - i; (dsimp only; omega)⟩
 have h3p := of_decide_eq_false h3
 have hi2 : i = r.held.length := by simp at h3; omega
 rw [hi2,List.drop_length] at H2; simp only [putHeld] at H2
 refine xw_exit ?_
 refine kQ ?_
 refine kES [2] [(2,.v (.slice (some ⟨g1,0,none⟩) 33 33))] ?_
 refine kR ?_
 have hmod : slotsOf r = l2 := by (unfold slotsOf; rw [← hl1]; exact H2)
 exact ⟨[.slice (some ⟨g1,0,none⟩) 33 33],by kernel_rfl,fun w' hb hf ha => by rw [hmod,hl2]; exact xo1 ((((some ⟨g1,0,none⟩) : Option Addr),33)) rfl rfl (pW (hf _ m0) hB) hb⟩
theorem yl18Pieces_c (l : List Int) (lV : Value) (m : Nat) (w : World) (hl_lV : Sl w lV 1 (l.map intRow)) (hm : m ≤ l.length) (hll : l.length ≤ 64) (hby : ∀ x ∈ l, x ≤ 255) (B : Nat) (hB : B ≤ w.heap.size) : Calls Tryz.prog 124 #[lV, .int .i64 (m : Int)] w fun e w' => XRs w w' e (α := Option Addr × Nat) (fun y => .slice y.1 ((pcs [] 0 (l.drop m)).length) y.2) (fun y => [rowF B 85 2 (.slice y.1 ((pcs [] 0 (l.drop m)).length) y.2) ((pcs [] 0 (l.drop m)).map pC)]) := by
 obtain ⟨Al,Cl,hvl⟩ := hl_lV.form
 rw [List.length_map] at hvl; subst hvl
 have hnl := hl_lV.len; rw [List.length_map] at hnl
 have hql := Sl.capLe hl_lV
 refine x_callsA (args := [.slice Al l.length Cl,.int .i64 (m : Int)]) (fn := Tryz.f124) [slF (.slice Al l.length Cl) 1 (l.map intRow)] Tryz.func124 rfl Tryz.ntmps124 rfl (by simp only [List.mem_cons,List.not_mem_nil,or_false,forall_eq_or_imp,forall_eq]; exact ⟨rfl,hl_lV⟩) ?_
 refine kQ ?_
 refine kEF [0,1] ⟨[(0,.v (.slice Al l.length Cl)),(1,.v (.int .i64 (m : Int)))],[],[],[slF (.slice Al l.length Cl) 1 (l.map intRow)]⟩ ?_
 refine kQ ?_
 refine kHS 0 [0,1] [(0,.v (.slice Al l.length Cl)),(1,.v (.int .i64 (m : Int)))] rfl (hv_build (e := 85) (K := 2) (bytes := 24) [] rfl (by kernel_rfl) (by kernel_rfl) (by kernel_rfl) (by kernel_rfl) (by kernel_rfl) (rs := ([] : List Pce).map pC) rfl) ?_
 intro g1
 refine kES [0,1,5] [(0,.v (.slice Al l.length Cl)),(1,.v (.int .i64 (m : Int))),(5,.v (.slice (some ⟨g1,0,none⟩) 0 0))] ?_
 refine kS ?_
 refine kQ ?_
 refine kES [0,1,5,6] [(0,.v (.slice Al l.length Cl)),(1,.v (.int .i64 (m : Int))),(5,.v (.slice (some ⟨g1,0,none⟩) 0 0)),(6,.v (.int .i64 (m : Int)))] ?_
 refine xw_block ?_
 refine xw_loopW (α := {x : Nat × List Pce × Option Addr × Nat × Nat // (fun (i : Nat) (out : List Pce) (A1 : Option Addr) (c1 : Nat) (n : Nat) => (m ≤ i ∧ i ≤ l.length) ∧ pcs [] 0 (l.drop m) = pcs out (i - m) (l.drop i) ∧ (∀ p ∈ out,0 ≤ p.off ∧ p.off + (p.text.size : Int) ≤ ((i - m : Nat) : Int)) ∧ out.length = n ∧ n ≤ i) x.1 x.2.1 x.2.2.1 x.2.2.2.1 x.2.2.2.2}) (fun x => (fun (i : Nat) (out : List Pce) (A1 : Option Addr) (c1 : Nat) (n : Nat) => (⟨[(0,.v (.slice Al l.length Cl)),(1,.v (.int .i64 (m : Int))),(5,.v (.slice A1 n c1)),(6,.v (.int .i64 (i : Int)))],[],[],[rowF w.heap.size 85 2 (.slice A1 n c1) (out.map pC),slF (.slice Al l.length Cl) 1 (l.map intRow)]⟩ : St)) x.1.1 x.1.2.1 x.1.2.2.1 x.1.2.2.2.1 x.1.2.2.2.2) (fun x => (fun (i : Nat) (out : List Pce) (A1 : Option Addr) (c1 : Nat) (n : Nat) => l.length - i) x.1.1 x.1.2.1 x.1.2.2.1 x.1.2.2.2.1 x.1.2.2.2.2) ⟨(m,([] : List Pce),(some ⟨g1,0,none⟩),0,0),⟨⟨Nat.le_refl _,hm⟩,(by rw [Nat.sub_self]),(by simp),rfl,Nat.zero_le _⟩⟩ (kPk [0,1] <| kF 0 0 [0,1,5,6]) ?_
 rintro ⟨⟨i,out,A1,c1,n⟩,hi,HP,hbd,hn,hni⟩
 try dsimp only
 try dsimp only at hi HP hbd hn hni
 refine kS ?_
 refine kQ ?_
 refine kES [0,1,5,6,13] [(0,.v (.slice Al l.length Cl)),(1,.v (.int .i64 (m : Int))),(5,.v (.slice A1 n c1)),(6,.v (.int .i64 (i : Int))),(13,.v (.bool (decide ((i : Int) < ((l.length : Nat) : Int)))))] ?_
 refine kC (decide ((i : Int) < ((l.length : Nat) : Int))) (fun h2 => ?_) (fun h2 => ?_)
 have h2p := of_decide_eq_true h2
 have hlt : i < l.length := by simpa using h2
 obtain ⟨x,hx⟩ : ∃ x,l[i]? = some x := ⟨_,List.getElem?_eq_getElem hlt⟩
 have hx255 := hby x (List.mem_of_getElem? hx)
 have hps := pcs_step (out := out) hx hi.1
 refine xw_know (φ := ∃ b off,Al = some ⟨b,off,none⟩) (fun _ _ _ _ hr => know_sl hr (K := 1) (rs := l.map intRow) 1 rfl (j := i) (row := [.int .i64 x]) (by simp only [List.getElem?_map,hx]; rfl)) ?_
 rintro ⟨bb,ob,hbb⟩
 refine kK ?_
 refine kS ?_
 refine xw_block ?_
 refine kS ?_
 refine kQ ?_
 refine kOS 2 [0,1,5,6,16,17] [(0,.v (.slice Al l.length Cl)),(1,.v (.int .i64 (m : Int))),(5,.v (.slice A1 n c1)),(6,.v (.int .i64 (i : Int))),(16,.v (.slice Al l.length Cl)),(17,.v (.int .i64 (i : Int)))] (.pointer (some ⟨bb,ob + i * 1,none⟩)) rfl (fun _ _ _ ww hr => act_ixO (kd := .i64) (T := 125) (e := 3) (K := 1) (b := bb) (off := ob) (N := l.length) (cap := Cl) i hbb hr.1 rfl rfl (by kernel_rfl) (by kernel_rfl) (by kernel_rfl) hlt ww) ?_
 refine kOS 0 [0,1,5,6,18] [(0,.v (.slice Al l.length Cl)),(1,.v (.int .i64 (m : Int))),(5,.v (.slice A1 n c1)),(6,.v (.int .i64 (i : Int))),(18,.v (.pointer (some ⟨bb,ob + i * 1,none⟩)))] (.int .i64 x) rfl (fun _ _ _ ww hr => ldS_run (j := i) (row := [.int .i64 x]) (slF (.slice Al l.length Cl) 1 (l.map intRow)) hr rfl (by kernel_rfl) (by simp) (by simp only [List.getElem?_map,hx]; rfl) (by kernel_rfl) hbb rfl) ?_
 refine kES [0,1,5,6,20] [(0,.v (.slice Al l.length Cl)),(1,.v (.int .i64 (m : Int))),(5,.v (.slice A1 n c1)),(6,.v (.int .i64 (i : Int))),(20,.v (.bool (decide (x < 0))))] ?_
 refine kC (decide (x < 0)) (fun h3 => ?_) (fun h3 => ?_)
 have h3p := of_decide_eq_true h3
 refine xw_exit ?_
 refine kG ?_
 refine kRS 3 [0,1,5,6] [(0,.v (.slice Al l.length Cl)),(1,.v (.int .i64 (m : Int))),(5,.v (.slice A1 n c1)),(6,.v (.int .i64 (IntKind.i64.wrap ((i : Int) + 1))))] ?_
 refine xl_eqS (t' := [(0,.v (.slice Al l.length Cl)),(1,.v (.int .i64 (m : Int))),(5,.v (.slice A1 n c1)),(6,.v (.int .i64 ((i : Int) + 1)))]) (by rw [show (IntKind.i64.wrap ((i : Int) + 1)) = ((i : Int) + 1) from wrap_id (by omega) (by omega)]) ?_
 refine kES [0,1,5,6] [(0,.v (.slice Al l.length Cl)),(1,.v (.int .i64 (m : Int))),(5,.v (.slice A1 n c1)),(6,.v (.int .i64 ((i : Int) + 1)))] ?_
 exact ⟨⟨(i + 1,out,A1,c1,n),⟨(by (try dsimp only); omega),(by rw [HP,hps,if_pos (by omega)]),(fun q hq => by have := hbd q hq; (try dsimp only); omega),hn,(by (try dsimp only); omega)⟩⟩,kF 0 0 [0,1,5,6],by show (fun (i : Nat) (out : List Pce) (A1 : Option Addr) (c1 : Nat) (n : Nat) => l.length - i) (i + 1) out A1 c1 n < l.length - i; (dsimp only; omega)⟩
 have h3p := of_decide_eq_false h3
 have hx0 : 0 ≤ x := by simp at h3; omega
 have hb1 : (bstr [x]).size = 1 := bstr_len [x]
 obtain ⟨p,hp⟩ : ∃ p : Pce,0 < n → out[n - 1]? = some p := if h : 0 < n then ⟨out[n - 1]'(by omega),fun _ => List.getElem?_eq_getElem _⟩ else ⟨⟨0,⟨#[]⟩⟩,fun h' => absurd h' h⟩
 refine xw_know (φ := ∃ g,0 < n → A1 = some ⟨g,0,none⟩) (fun _ _ _ _ hr => know_row hr (K := 2) (rs := out.map pC) 0 rfl (j := n - 1) (row := [.int .i64 p.off,.string p.text]) (fun hpos => by simp only [List.getElem?_map,hp hpos]; rfl)) ?_
 rintro ⟨gg,hgg⟩
 refine kK ?_
 refine kQ ?_
 refine kES [0,1,5,6,7] [(0,.v (.slice Al l.length Cl)),(1,.v (.int .i64 (m : Int))),(5,.v (.slice A1 n c1)),(6,.v (.int .i64 (i : Int))),(7,.v (.int .i64 ((n : Nat) : Int)))] ?_
 refine kS ?_
 refine xw_joinF (α := {zz : Bool // (fun (bq : Bool) => (bq = true ↔ (0 < n ∧ p.off + (p.text.size : Int) = ((i - m : Nat) : Int)))) zz}) (fun zz => (fun (bq : Bool) => (⟨[(0,.v (.slice Al l.length Cl)),(1,.v (.int .i64 (m : Int))),(5,.v (.slice A1 n c1)),(6,.v (.int .i64 (i : Int))),(7,.v (.int .i64 ((n : Nat) : Int))),(44,.v (.bool bq))],[],[],[rowF w.heap.size 85 2 (.slice A1 n c1) (out.map pC),slF (.slice Al l.length Cl) 1 (l.map intRow)]⟩ : St)) zz.1) ?_ ?_
 refine xe_region0 [] (by kernel_rfl) (fun ρ σ => ?_)
 refine kTS [0,1,2] [25,0,1,5,6,7] 19 [(25,.v (.bool (decide (((n : Nat) : Int) > 0)))),(0,.v (.slice Al l.length Cl)),(1,.v (.int .i64 (m : Int))),(5,.v (.slice A1 n c1)),(6,.v (.int .i64 (i : Int))),(7,.v (.int .i64 ((n : Nat) : Int)))] ?_
 refine kY 25 (decide (((n : Nat) : Int) > 0)) (fun h4 => ?_) (fun h4 => ?_)
 have h4p := of_decide_eq_true h4
 have hpos : 0 < n := by simp at h4; omega
 have hpb := hbd p (List.mem_of_getElem? (hp hpos))
 refine kTS [3,4,5,9,10,11,17,18,19] [42,34,32,28,26,25,0,1,5,6,7] 10 [(42,.v (.int .i64 (IntKind.i64.wrap ((i : Int) - (m : Int))))),(34,.v (.int .i64 (IntKind.i64.wrap (((n : Nat) : Int) - 1)))),(32,.v (.slice A1 n c1)),(28,.v (.int .i64 (IntKind.i64.wrap (((n : Nat) : Int) - 1)))),(26,.v (.slice A1 n c1)),(25,.v (.bool true)),(0,.v (.slice Al l.length Cl)),(1,.v (.int .i64 (m : Int))),(5,.v (.slice A1 n c1)),(6,.v (.int .i64 (i : Int))),(7,.v (.int .i64 ((n : Nat) : Int)))] ?_
 refine xe_eqS (t := [(42,.v (.int .i64 (IntKind.i64.wrap ((i : Int) - (m : Int))))),(34,.v (.int .i64 (IntKind.i64.wrap (((n : Nat) : Int) - 1)))),(32,.v (.slice A1 n c1)),(28,.v (.int .i64 (IntKind.i64.wrap (((n : Nat) : Int) - 1)))),(26,.v (.slice A1 n c1)),(25,.v (.bool true)),(0,.v (.slice Al l.length Cl)),(1,.v (.int .i64 (m : Int))),(5,.v (.slice A1 n c1)),(6,.v (.int .i64 (i : Int))),(7,.v (.int .i64 ((n : Nat) : Int)))]) (t' := [(42,.v (.int .i64 ((i - m : Nat) : Int))),(34,.v (.int .i64 ((n - 1 : Nat) : Int))),(32,.v (.slice A1 n c1)),(28,.v (.int .i64 ((n - 1 : Nat) : Int))),(26,.v (.slice A1 n c1)),(25,.v (.bool true)),(0,.v (.slice Al l.length Cl)),(1,.v (.int .i64 (m : Int))),(5,.v (.slice A1 n c1)),(6,.v (.int .i64 (i : Int))),(7,.v (.int .i64 ((n : Nat) : Int)))]) (by rw [show (IntKind.i64.wrap (((n : Nat) : Int) - 1)) = ((n - 1 : Nat) : Int) from by rw [wrap_id (by omega) (by omega)]; omega,show (IntKind.i64.wrap ((i : Int) - (m : Int))) = ((i - m : Nat) : Int) from by rw [wrap_id (by omega) (by omega)]; omega]) ?_
 refine kX 6 (.pointer (some ⟨gg,(n - 1) * 2,none⟩)) rfl (fun _ _ ww hA => act_ix (kd := .i64) (T := 39) (e := 85) (K := 2) (g := gg) (N := n) (cap := c1) (n - 1) (hgg hpos) hA rfl rfl (by kernel_rfl) (by kernel_rfl) (by kernel_rfl) (by omega) ww) ?_
 refine kX 7 (.pointer (some ⟨gg,(n - 1) * 2,none⟩)) rfl (fun _ _ ww hA => act_fld (sz := 1) (b := gg) (m := (n - 1) * 2) hA rfl Tryz.underlying85 rfl (by kernel_rfl) rfl (by kernel_rfl) rfl) ?_
 refine kX 12 (.pointer (some ⟨gg,(n - 1) * 2,none⟩)) rfl (fun _ _ ww hA => act_ix (kd := .i64) (T := 39) (e := 85) (K := 2) (g := gg) (N := n) (cap := c1) (n - 1) (hgg hpos) hA rfl rfl (by kernel_rfl) (by kernel_rfl) (by kernel_rfl) (by omega) ww) ?_
 refine kX 13 (.pointer (some ⟨gg,(n - 1) * 2 + 1,none⟩)) rfl (fun _ _ ww hA => act_fld (sz := 1) (b := gg) (m := (n - 1) * 2) hA rfl Tryz.underlying85 rfl (by kernel_rfl) rfl (by kernel_rfl) rfl) ?_
 refine kA [8,14] ⟨?_,?_⟩
 refine kSR 8 (.int .i64 p.off) rfl (fun _ _ ww hr => ldR_run (po := 0) (j := (n - 1)) (row := [.int .i64 p.off,.string p.text]) (rowF w.heap.size 85 2 (.slice A1 n c1) (out.map pC)) hr rfl (by kernel_rfl) (by simp) (by simp only [List.getElem?_map,hp hpos]; rfl) (by kernel_rfl) (hgg hpos) rfl rfl) ?_
 refine kA [14] ?_
 refine kSR 14 (.string p.text) rfl (fun _ _ ww hr => ldR_run (po := 1) (j := (n - 1)) (row := [.int .i64 p.off,.string p.text]) (rowF w.heap.size 85 2 (.slice A1 n c1) (out.map pC)) hr rfl (by kernel_rfl) (by simp) (by simp only [List.getElem?_map,hp hpos]; rfl) (by kernel_rfl) (hgg hpos) rfl rfl) ?_
 refine kTS [15,16,20,21] [44,0,1,5,6,7] 0 [(44,.v (.bool ((IntKind.i64.wrap (p.off + (p.text.size : Int))) == ((i - m : Nat) : Int)))),(0,.v (.slice Al l.length Cl)),(1,.v (.int .i64 (m : Int))),(5,.v (.slice A1 n c1)),(6,.v (.int .i64 (i : Int))),(7,.v (.int .i64 ((n : Nat) : Int)))] ?_
 refine xe_eqS (t := [(44,.v (.bool ((IntKind.i64.wrap (p.off + (p.text.size : Int))) == ((i - m : Nat) : Int)))),(0,.v (.slice Al l.length Cl)),(1,.v (.int .i64 (m : Int))),(5,.v (.slice A1 n c1)),(6,.v (.int .i64 (i : Int))),(7,.v (.int .i64 ((n : Nat) : Int)))]) (t' := [(44,.v (.bool ((p.off + (p.text.size : Int)) == ((i - m : Nat) : Int)))),(0,.v (.slice Al l.length Cl)),(1,.v (.int .i64 (m : Int))),(5,.v (.slice A1 n c1)),(6,.v (.int .i64 (i : Int))),(7,.v (.int .i64 ((n : Nat) : Int)))]) (by rw [show (IntKind.i64.wrap (p.off + (p.text.size : Int))) = (p.off + (p.text.size : Int)) from wrap_id (by omega) (by omega)]) ?_
 refine kZ ?_
 exact ⟨⟨((p.off + (p.text.size : Int)) == ((i - m : Nat) : Int)),⟨fun h => ⟨hpos,eq_of_beq h⟩,fun h => beq_iff_eq.2 h.2⟩⟩,kF 0 0 [0,1,5,6,7,44]⟩
 refine kSR 14 (.string p.text) rfl (fun _ _ ww hr => ldR_run (po := 1) (j := (n - 1)) (row := [.int .i64 p.off,.string p.text]) (rowF w.heap.size 85 2 (.slice A1 n c1) (out.map pC)) hr rfl (by kernel_rfl) (by simp) (by simp only [List.getElem?_map,hp hpos]; rfl) (by kernel_rfl) (hgg hpos) rfl rfl) ?_
 refine kTS [15] [38,30,42,25,0,1,5,6,7] 4 [(38,.v (.int .i64 (p.text.size : Int))),(30,.v (.pointer (some ⟨gg,(n - 1) * 2,none⟩))),(42,.v (.int .i64 ((i - m : Nat) : Int))),(25,.v (.bool true)),(0,.v (.slice Al l.length Cl)),(1,.v (.int .i64 (m : Int))),(5,.v (.slice A1 n c1)),(6,.v (.int .i64 (i : Int))),(7,.v (.int .i64 ((n : Nat) : Int)))] ?_
 refine kA [8] ?_
 refine kSR 8 (.int .i64 p.off) rfl (fun _ _ ww hr => ldR_run (po := 0) (j := (n - 1)) (row := [.int .i64 p.off,.string p.text]) (rowF w.heap.size 85 2 (.slice A1 n c1) (out.map pC)) hr rfl (by kernel_rfl) (by simp) (by simp only [List.getElem?_map,hp hpos]; rfl) (by kernel_rfl) (hgg hpos) rfl rfl) ?_
 refine kTS [16,20,21] [44,0,1,5,6,7] 0 [(44,.v (.bool ((IntKind.i64.wrap (p.off + (p.text.size : Int))) == ((i - m : Nat) : Int)))),(0,.v (.slice Al l.length Cl)),(1,.v (.int .i64 (m : Int))),(5,.v (.slice A1 n c1)),(6,.v (.int .i64 (i : Int))),(7,.v (.int .i64 ((n : Nat) : Int)))] ?_
 refine xe_eqS (t := [(44,.v (.bool ((IntKind.i64.wrap (p.off + (p.text.size : Int))) == ((i - m : Nat) : Int)))),(0,.v (.slice Al l.length Cl)),(1,.v (.int .i64 (m : Int))),(5,.v (.slice A1 n c1)),(6,.v (.int .i64 (i : Int))),(7,.v (.int .i64 ((n : Nat) : Int)))]) (t' := [(44,.v (.bool ((p.off + (p.text.size : Int)) == ((i - m : Nat) : Int)))),(0,.v (.slice Al l.length Cl)),(1,.v (.int .i64 (m : Int))),(5,.v (.slice A1 n c1)),(6,.v (.int .i64 (i : Int))),(7,.v (.int .i64 ((n : Nat) : Int)))]) (by rw [show (IntKind.i64.wrap (p.off + (p.text.size : Int))) = (p.off + (p.text.size : Int)) from wrap_id (by omega) (by omega)]) ?_
 refine kZ ?_
 exact ⟨⟨((p.off + (p.text.size : Int)) == ((i - m : Nat) : Int)),⟨fun h => ⟨hpos,eq_of_beq h⟩,fun h => beq_iff_eq.2 h.2⟩⟩,kF 0 0 [0,1,5,6,7,44]⟩
 have h4p := of_decide_eq_false h4
 have hn0 : n = 0 := by simp at h4; omega
 refine kTS [3,4,5,6,7,8,9,10,11,12,13,14,15,16,17,18,19,20,21] [44,0,1,5,6,7] 0 [(44,.v (.bool false)),(0,.v (.slice Al l.length Cl)),(1,.v (.int .i64 (m : Int))),(5,.v (.slice A1 n c1)),(6,.v (.int .i64 (i : Int))),(7,.v (.int .i64 ((n : Nat) : Int)))] ?_
 refine kZ ?_
 exact ⟨⟨(false),⟨fun h => (by cases h),fun h => (by omega)⟩⟩,kF 0 0 [0,1,5,6,7,44]⟩
 rintro ⟨bq,hbq⟩
 try dsimp only
 try dsimp only at hbq
 refine kC (bq) (fun h5 => ?_) (fun h5 => ?_)
 obtain ⟨hpos,heq⟩ := hbq.1 h5
 have hpb := hbd p (List.mem_of_getElem? (hp hpos))
 refine xw_joinE (α := Nat) (fun y => (fun (g7 : Nat) => (⟨[(0,.v (.slice Al l.length Cl)),(1,.v (.int .i64 (m : Int))),(5,.v (.slice A1 n c1)),(6,.v (.int .i64 (i : Int)))],[],[],[rowF w.heap.size 85 2 (.slice A1 n c1) ((out.set (n - 1) ⟨p.off,p.text ++ (bstr ([x] : List Int))⟩).map pC),rowF w.heap.size 5 1 (.slice (some ⟨g7,0,none⟩) 1 1) (([x] : List Int).map bR),slF (.slice Al l.length Cl) 1 (l.map intRow)]⟩ : St)) y) ?_ ?_
 refine xe_region0 [] (by kernel_rfl) (fun ρ σ => ?_)
 refine kTS [0,1,2,3,4,5,9,10] [55,54,50,48,47,45,0,1,5,6] 12 [(55,.v (.int .i64 (i : Int))),(54,.v (.slice Al l.length Cl)),(50,.v (.int .i64 (IntKind.i64.wrap (((n : Nat) : Int) - 1)))),(48,.v (.slice A1 n c1)),(47,.v (.int .i64 (IntKind.i64.wrap (((n : Nat) : Int) - 1)))),(45,.v (.slice A1 n c1)),(0,.v (.slice Al l.length Cl)),(1,.v (.int .i64 (m : Int))),(5,.v (.slice A1 n c1)),(6,.v (.int .i64 (i : Int)))] ?_
 refine xe_eqS (t := [(55,.v (.int .i64 (i : Int))),(54,.v (.slice Al l.length Cl)),(50,.v (.int .i64 (IntKind.i64.wrap (((n : Nat) : Int) - 1)))),(48,.v (.slice A1 n c1)),(47,.v (.int .i64 (IntKind.i64.wrap (((n : Nat) : Int) - 1)))),(45,.v (.slice A1 n c1)),(0,.v (.slice Al l.length Cl)),(1,.v (.int .i64 (m : Int))),(5,.v (.slice A1 n c1)),(6,.v (.int .i64 (i : Int)))]) (t' := [(55,.v (.int .i64 (i : Int))),(54,.v (.slice Al l.length Cl)),(50,.v (.int .i64 ((n - 1 : Nat) : Int))),(48,.v (.slice A1 n c1)),(47,.v (.int .i64 ((n - 1 : Nat) : Int))),(45,.v (.slice A1 n c1)),(0,.v (.slice Al l.length Cl)),(1,.v (.int .i64 (m : Int))),(5,.v (.slice A1 n c1)),(6,.v (.int .i64 (i : Int)))]) (by rw [show (IntKind.i64.wrap (((n : Nat) : Int) - 1)) = ((n - 1 : Nat) : Int) from by rw [wrap_id (by omega) (by omega)]; omega]) ?_
 refine kX 6 (.pointer (some ⟨gg,(n - 1) * 2,none⟩)) rfl (fun _ _ ww hA => act_ix (kd := .i64) (T := 39) (e := 85) (K := 2) (g := gg) (N := n) (cap := c1) (n - 1) (hgg hpos) hA rfl rfl (by kernel_rfl) (by kernel_rfl) (by kernel_rfl) (by omega) ww) ?_
 refine kX 7 (.pointer (some ⟨gg,(n - 1) * 2 + 1,none⟩)) rfl (fun _ _ ww hA => act_fld (sz := 1) (b := gg) (m := (n - 1) * 2) hA rfl Tryz.underlying85 rfl (by kernel_rfl) rfl (by kernel_rfl) rfl) ?_
 refine kX 11 (.pointer (some ⟨bb,ob + i * 1,none⟩)) rfl (fun _ _ ww hA => act_ixO (kd := .i64) (T := 125) (e := 3) (K := 1) (b := bb) (off := ob) (N := l.length) (cap := Cl) i hbb hA rfl rfl (by kernel_rfl) (by kernel_rfl) (by kernel_rfl) hlt ww) ?_
 refine kA [8,12] ⟨?_,?_⟩
 refine kSR 8 (.string p.text) rfl (fun _ _ ww hr => ldR_run (po := 1) (j := (n - 1)) (row := [.int .i64 p.off,.string p.text]) (rowF w.heap.size 85 2 (.slice A1 n c1) (out.map pC)) hr rfl (by kernel_rfl) (by simp) (by simp only [List.getElem?_map,hp hpos]; rfl) (by kernel_rfl) (hgg hpos) rfl rfl) ?_
 refine kA [12] ?_
 refine kSR 12 (.int .i64 x) rfl (fun _ _ ww hr => ldS_run (j := i) (row := [.int .i64 x]) (slF (.slice Al l.length Cl) 1 (l.map intRow)) hr rfl (by kernel_rfl) (by simp) (by simp only [List.getElem?_map,hx]; rfl) (by kernel_rfl) hbb rfl) ?_
 refine kTS [13] [58,53,47,45,0,1,5,6] 6 [(58,.v (.int .u8 (IntKind.u8.wrap x))),(53,.v (.string p.text)),(47,.v (.int .i64 ((n - 1 : Nat) : Int))),(45,.v (.slice A1 n c1)),(0,.v (.slice Al l.length Cl)),(1,.v (.int .i64 (m : Int))),(5,.v (.slice A1 n c1)),(6,.v (.int .i64 (i : Int)))] ?_
 refine xe_eqS (t := [(58,.v (.int .u8 (IntKind.u8.wrap x))),(53,.v (.string p.text)),(47,.v (.int .i64 ((n - 1 : Nat) : Int))),(45,.v (.slice A1 n c1)),(0,.v (.slice Al l.length Cl)),(1,.v (.int .i64 (m : Int))),(5,.v (.slice A1 n c1)),(6,.v (.int .i64 (i : Int)))]) (t' := [(58,.v (.int .u8 x)),(53,.v (.string p.text)),(47,.v (.int .i64 ((n - 1 : Nat) : Int))),(45,.v (.slice A1 n c1)),(0,.v (.slice Al l.length Cl)),(1,.v (.int .i64 (m : Int))),(5,.v (.slice A1 n c1)),(6,.v (.int .i64 (i : Int)))]) (by rw [show (IntKind.u8.wrap x) = x from u8_id (by omega) (by omega)]) ?_
 refine kA [14] ?_
 refine kSH 14 rfl under_nil (hv_build (e := 5) (K := 1) (bytes := 1) [.int .u8 x] rfl (by kernel_rfl) (by kernel_rfl) (by kernel_rfl) (by kernel_rfl) (by kernel_rfl) (rs := ([x] : List Int).map bR) rfl) ?_
 intro g7
 refine kA [15] ?_
 refine kSR 15 (.string (bstr ([x] : List Int))) rfl (fun _ _ ww hr => act_b2s (e := 5) ([x] : List Int) hr.1 rfl (by kernel_rfl) (by kernel_rfl) (by kernel_rfl) rfl (rowF_sl (hr.2.fact (rowF w.heap.size 5 1 (.slice (some ⟨g7,0,none⟩) 1 1) (([x] : List Int).map bR)) (by simp)).1)) ?_
 refine kX 16 (.string (p.text ++ (bstr ([x] : List Int)))) rfl (fun _ _ ww hA => act_bin hA rfl (by kernel_rfl) (by kernel_rfl) (str_add (by first | omega | (simp only [ByteArray.size_extract]; omega)) ww)) ?_
 refine kX 17 (.pointer (some ⟨gg,(n - 1) * 2,none⟩)) rfl (fun _ _ ww hA => act_ix (kd := .i64) (T := 39) (e := 85) (K := 2) (g := gg) (N := n) (cap := c1) (n - 1) (hgg hpos) hA rfl rfl (by kernel_rfl) (by kernel_rfl) (by kernel_rfl) (by omega) ww) ?_
 refine kX 18 (.pointer (some ⟨gg,(n - 1) * 2 + 1,none⟩)) rfl (fun _ _ ww hA => act_fld (sz := 1) (b := gg) (m := (n - 1) * 2) hA rfl Tryz.underlying85 rfl (by kernel_rfl) rfl (by kernel_rfl) rfl) ?_
 refine kA [19] ?_
 refine xs_hsG 19 gg rfl (by kernel_rfl) (by kernel_rfl) (by kernel_rfl) under_nil (fun kk rr hk => by simp at hk) (hs_stR (g := gg) (B := w.heap.size) (e := 85) (K := 2) (N := n) (cap := c1) (rs := (out.map pC)) (rs' := (out.set (n - 1) ⟨p.off,p.text ++ (bstr ([x] : List Int))⟩).map pC) (v := (.string (p.text ++ (bstr ([x] : List Int))))) (i := 1) (off := (n - 1) * 2 + 1) (n - 1) 1 [.int .i64 p.off,.string p.text] (row' := [.int .i64 p.off,.string (p.text ++ (bstr ([x] : List Int)))]) (hgg hpos) rfl (by kernel_rfl) rfl (by kernel_rfl) (by kernel_rfl) (by kernel_rfl) (by kernel_rfl) (Nat.le_refl _) (by simp only [List.getElem?_map,hp hpos]; rfl) (by kernel_rfl) rfl (by rw [List.map_set]; rfl)) ?_
 refine kZ ?_
 exact ⟨(g7),kF 0 0 [0,1,5,6]⟩
 refine kSR 12 (.int .i64 x) rfl (fun _ _ ww hr => ldS_run (j := i) (row := [.int .i64 x]) (slF (.slice Al l.length Cl) 1 (l.map intRow)) hr rfl (by kernel_rfl) (by simp) (by simp only [List.getElem?_map,hx]; rfl) (by kernel_rfl) hbb rfl) ?_
 refine kTS [13] [58,52,47,45,0,1,5,6] 7 [(58,.v (.int .u8 (IntKind.u8.wrap x))),(52,.v (.pointer (some ⟨gg,(n - 1) * 2 + 1,none⟩))),(47,.v (.int .i64 ((n - 1 : Nat) : Int))),(45,.v (.slice A1 n c1)),(0,.v (.slice Al l.length Cl)),(1,.v (.int .i64 (m : Int))),(5,.v (.slice A1 n c1)),(6,.v (.int .i64 (i : Int)))] ?_
 refine xe_eqS (t := [(58,.v (.int .u8 (IntKind.u8.wrap x))),(52,.v (.pointer (some ⟨gg,(n - 1) * 2 + 1,none⟩))),(47,.v (.int .i64 ((n - 1 : Nat) : Int))),(45,.v (.slice A1 n c1)),(0,.v (.slice Al l.length Cl)),(1,.v (.int .i64 (m : Int))),(5,.v (.slice A1 n c1)),(6,.v (.int .i64 (i : Int)))]) (t' := [(58,.v (.int .u8 x)),(52,.v (.pointer (some ⟨gg,(n - 1) * 2 + 1,none⟩))),(47,.v (.int .i64 ((n - 1 : Nat) : Int))),(45,.v (.slice A1 n c1)),(0,.v (.slice Al l.length Cl)),(1,.v (.int .i64 (m : Int))),(5,.v (.slice A1 n c1)),(6,.v (.int .i64 (i : Int)))]) (by rw [show (IntKind.u8.wrap x) = x from u8_id (by omega) (by omega)]) ?_
 refine kA [8,14] ⟨?_,?_⟩
 refine kSR 8 (.string p.text) rfl (fun _ _ ww hr => ldR_run (po := 1) (j := (n - 1)) (row := [.int .i64 p.off,.string p.text]) (rowF w.heap.size 85 2 (.slice A1 n c1) (out.map pC)) hr rfl (by kernel_rfl) (by simp) (by simp only [List.getElem?_map,hp hpos]; rfl) (by kernel_rfl) (hgg hpos) rfl rfl) ?_
 refine kA [14] ?_
 refine kSH 14 rfl under_nil (hv_build (e := 5) (K := 1) (bytes := 1) [.int .u8 x] rfl (by kernel_rfl) (by kernel_rfl) (by kernel_rfl) (by kernel_rfl) (by kernel_rfl) (rs := ([x] : List Int).map bR) rfl) ?_
 intro g10
 refine kA [15] ?_
 refine kSR 15 (.string (bstr ([x] : List Int))) rfl (fun _ _ ww hr => act_b2s (e := 5) ([x] : List Int) hr.1 rfl (by kernel_rfl) (by kernel_rfl) (by kernel_rfl) rfl (rowF_sl (hr.2.fact (rowF w.heap.size 5 1 (.slice (some ⟨g10,0,none⟩) 1 1) (([x] : List Int).map bR)) (by simp)).1)) ?_
 refine kX 16 (.string (p.text ++ (bstr ([x] : List Int)))) rfl (fun _ _ ww hA => act_bin hA rfl (by kernel_rfl) (by kernel_rfl) (str_add (by first | omega | (simp only [ByteArray.size_extract]; omega)) ww)) ?_
 refine kX 17 (.pointer (some ⟨gg,(n - 1) * 2,none⟩)) rfl (fun _ _ ww hA => act_ix (kd := .i64) (T := 39) (e := 85) (K := 2) (g := gg) (N := n) (cap := c1) (n - 1) (hgg hpos) hA rfl rfl (by kernel_rfl) (by kernel_rfl) (by kernel_rfl) (by omega) ww) ?_
 refine kX 18 (.pointer (some ⟨gg,(n - 1) * 2 + 1,none⟩)) rfl (fun _ _ ww hA => act_fld (sz := 1) (b := gg) (m := (n - 1) * 2) hA rfl Tryz.underlying85 rfl (by kernel_rfl) rfl (by kernel_rfl) rfl) ?_
 refine kA [19] ?_
 refine xs_hsG 19 gg rfl (by kernel_rfl) (by kernel_rfl) (by kernel_rfl) under_nil (fun kk rr hk => by simp at hk) (hs_stR (g := gg) (B := w.heap.size) (e := 85) (K := 2) (N := n) (cap := c1) (rs := (out.map pC)) (rs' := (out.set (n - 1) ⟨p.off,p.text ++ (bstr ([x] : List Int))⟩).map pC) (v := (.string (p.text ++ (bstr ([x] : List Int))))) (i := 1) (off := (n - 1) * 2 + 1) (n - 1) 1 [.int .i64 p.off,.string p.text] (row' := [.int .i64 p.off,.string (p.text ++ (bstr ([x] : List Int)))]) (hgg hpos) rfl (by kernel_rfl) rfl (by kernel_rfl) (by kernel_rfl) (by kernel_rfl) (by kernel_rfl) (Nat.le_refl _) (by simp only [List.getElem?_map,hp hpos]; rfl) (by kernel_rfl) rfl (by rw [List.map_set]; rfl)) ?_
 refine kZ ?_
 exact ⟨(g10),kF 0 0 [0,1,5,6]⟩
 refine kSH 14 rfl under_nil (hv_build (e := 5) (K := 1) (bytes := 1) [.int .u8 x] rfl (by kernel_rfl) (by kernel_rfl) (by kernel_rfl) (by kernel_rfl) (by kernel_rfl) (rs := ([x] : List Int).map bR) rfl) ?_
 intro g11
 refine kA [8,15] ⟨?_,?_⟩
 refine kSR 8 (.string p.text) rfl (fun _ _ ww hr => ldR_run (po := 1) (j := (n - 1)) (row := [.int .i64 p.off,.string p.text]) (rowF w.heap.size 85 2 (.slice A1 n c1) (out.map pC)) hr rfl (by kernel_rfl) (by simp) (by simp only [List.getElem?_map,hp hpos]; rfl) (by kernel_rfl) (hgg hpos) rfl rfl) ?_
 refine kA [15] ?_
 refine kSR 15 (.string (bstr ([x] : List Int))) rfl (fun _ _ ww hr => act_b2s (e := 5) ([x] : List Int) hr.1 rfl (by kernel_rfl) (by kernel_rfl) (by kernel_rfl) rfl (rowF_sl (hr.2.fact (rowF w.heap.size 5 1 (.slice (some ⟨g11,0,none⟩) 1 1) (([x] : List Int).map bR)) (by simp)).1)) ?_
 refine kX 16 (.string (p.text ++ (bstr ([x] : List Int)))) rfl (fun _ _ ww hA => act_bin hA rfl (by kernel_rfl) (by kernel_rfl) (str_add (by first | omega | (simp only [ByteArray.size_extract]; omega)) ww)) ?_
 refine kX 17 (.pointer (some ⟨gg,(n - 1) * 2,none⟩)) rfl (fun _ _ ww hA => act_ix (kd := .i64) (T := 39) (e := 85) (K := 2) (g := gg) (N := n) (cap := c1) (n - 1) (hgg hpos) hA rfl rfl (by kernel_rfl) (by kernel_rfl) (by kernel_rfl) (by omega) ww) ?_
 refine kX 18 (.pointer (some ⟨gg,(n - 1) * 2 + 1,none⟩)) rfl (fun _ _ ww hA => act_fld (sz := 1) (b := gg) (m := (n - 1) * 2) hA rfl Tryz.underlying85 rfl (by kernel_rfl) rfl (by kernel_rfl) rfl) ?_
 refine kA [19] ?_
 refine xs_hsG 19 gg rfl (by kernel_rfl) (by kernel_rfl) (by kernel_rfl) under_nil (fun kk rr hk => by simp at hk) (hs_stR (g := gg) (B := w.heap.size) (e := 85) (K := 2) (N := n) (cap := c1) (rs := (out.map pC)) (rs' := (out.set (n - 1) ⟨p.off,p.text ++ (bstr ([x] : List Int))⟩).map pC) (v := (.string (p.text ++ (bstr ([x] : List Int))))) (i := 1) (off := (n - 1) * 2 + 1) (n - 1) 1 [.int .i64 p.off,.string p.text] (row' := [.int .i64 p.off,.string (p.text ++ (bstr ([x] : List Int)))]) (hgg hpos) rfl (by kernel_rfl) rfl (by kernel_rfl) (by kernel_rfl) (by kernel_rfl) (by kernel_rfl) (Nat.le_refl _) (by simp only [List.getElem?_map,hp hpos]; rfl) (by kernel_rfl) rfl (by rw [List.map_set]; rfl)) ?_
 refine kZ ?_
 exact ⟨(g11),kF 0 0 [0,1,5,6]⟩
 refine kSR 15 (.string (bstr ([x] : List Int))) rfl (fun _ _ ww hr => act_b2s (e := 5) ([x] : List Int) hr.1 rfl (by kernel_rfl) (by kernel_rfl) (by kernel_rfl) rfl (rowF_sl (hr.2.fact (rowF w.heap.size 5 1 (.slice (some ⟨g11,0,none⟩) 1 1) (([x] : List Int).map bR)) (by simp)).1)) ?_
 refine kA [8] ?_
 refine kSR 8 (.string p.text) rfl (fun _ _ ww hr => ldR_run (po := 1) (j := (n - 1)) (row := [.int .i64 p.off,.string p.text]) (rowF w.heap.size 85 2 (.slice A1 n c1) (out.map pC)) hr rfl (by kernel_rfl) (by simp) (by simp only [List.getElem?_map,hp hpos]; rfl) (by kernel_rfl) (hgg hpos) rfl rfl) ?_
 refine kX 16 (.string (p.text ++ (bstr ([x] : List Int)))) rfl (fun _ _ ww hA => act_bin hA rfl (by kernel_rfl) (by kernel_rfl) (str_add (by first | omega | (simp only [ByteArray.size_extract]; omega)) ww)) ?_
 refine kX 17 (.pointer (some ⟨gg,(n - 1) * 2,none⟩)) rfl (fun _ _ ww hA => act_ix (kd := .i64) (T := 39) (e := 85) (K := 2) (g := gg) (N := n) (cap := c1) (n - 1) (hgg hpos) hA rfl rfl (by kernel_rfl) (by kernel_rfl) (by kernel_rfl) (by omega) ww) ?_
 refine kX 18 (.pointer (some ⟨gg,(n - 1) * 2 + 1,none⟩)) rfl (fun _ _ ww hA => act_fld (sz := 1) (b := gg) (m := (n - 1) * 2) hA rfl Tryz.underlying85 rfl (by kernel_rfl) rfl (by kernel_rfl) rfl) ?_
 refine kA [19] ?_
 refine xs_hsG 19 gg rfl (by kernel_rfl) (by kernel_rfl) (by kernel_rfl) under_nil (fun kk rr hk => by simp at hk) (hs_stR (g := gg) (B := w.heap.size) (e := 85) (K := 2) (N := n) (cap := c1) (rs := (out.map pC)) (rs' := (out.set (n - 1) ⟨p.off,p.text ++ (bstr ([x] : List Int))⟩).map pC) (v := (.string (p.text ++ (bstr ([x] : List Int))))) (i := 1) (off := (n - 1) * 2 + 1) (n - 1) 1 [.int .i64 p.off,.string p.text] (row' := [.int .i64 p.off,.string (p.text ++ (bstr ([x] : List Int)))]) (hgg hpos) rfl (by kernel_rfl) rfl (by kernel_rfl) (by kernel_rfl) (by kernel_rfl) (by kernel_rfl) (Nat.le_refl _) (by simp only [List.getElem?_map,hp hpos]; rfl) (by kernel_rfl) rfl (by rw [List.map_set]; rfl)) ?_
 refine kZ ?_
 exact ⟨(g11),kF 0 0 [0,1,5,6]⟩
 intro g7
 refine kG ?_
 refine kRF 3 [0,1,5,6] ⟨[(0,.v (.slice Al l.length Cl)),(1,.v (.int .i64 (m : Int))),(5,.v (.slice A1 n c1)),(6,.v (.int .i64 (IntKind.i64.wrap ((i : Int) + 1))))],[],[],[rowF w.heap.size 85 2 (.slice A1 n c1) ((out.set (n - 1) ⟨p.off,p.text ++ (bstr ([x] : List Int))⟩).map pC),rowF w.heap.size 5 1 (.slice (some ⟨g7,0,none⟩) 1 1) (([x] : List Int).map bR),slF (.slice Al l.length Cl) 1 (l.map intRow)]⟩ ?_
 refine xl_eqS (t' := [(0,.v (.slice Al l.length Cl)),(1,.v (.int .i64 (m : Int))),(5,.v (.slice A1 n c1)),(6,.v (.int .i64 ((i : Int) + 1)))]) (by rw [show (IntKind.i64.wrap ((i : Int) + 1)) = ((i : Int) + 1) from wrap_id (by omega) (by omega)]) ?_
 refine kES [0,1,5,6] [(0,.v (.slice Al l.length Cl)),(1,.v (.int .i64 (m : Int))),(5,.v (.slice A1 n c1)),(6,.v (.int .i64 ((i : Int) + 1)))] ?_
 have hadd : addByte out (i - m) x = (out.set (n - 1) ⟨p.off,p.text ++ (bstr ([x] : List Int))⟩) := by first | (rw [addByte_set (p := p) (by rw [hn]; exact hp hpos) heq,hn]) | (exact if hz : 0 < n then addByte_far (p := p) (by rw [hn]; exact hp hz) (fun e => heqn ⟨hz,e⟩) else addByte_nil (by omega))
 exact ⟨⟨(i + 1,(out.set (n - 1) ⟨p.off,p.text ++ (bstr ([x] : List Int))⟩),A1,c1,n),⟨(by (try dsimp only); omega),(by rw [HP,hps,if_neg (by omega),hadd]),(by rw [← hadd]; intro q hq; have := addByte_bd hbd q hq; (try dsimp only); omega),(by simp [hn]),(by (try dsimp only); (try simp only [List.length_append,List.length_cons,List.length_nil]); omega)⟩⟩,kPk [0,2] <| kF 0 0 [0,1,5,6],by show (fun (i : Nat) (out : List Pce) (A1 : Option Addr) (c1 : Nat) (n : Nat) => l.length - i) (i + 1) (out.set (n - 1) ⟨p.off,p.text ++ (bstr ([x] : List Int))⟩) A1 c1 n < l.length - i; (dsimp only; omega)⟩
 have heqn : ¬ (0 < n ∧ p.off + (p.text.size : Int) = ((i - m : Nat) : Int)) := fun e => by rw [hbq.2 e] at h5; cases h5
 refine kG ?_
 refine kOS 6 [0,1,5,6,64,67,68,69] [(0,.v (.slice Al l.length Cl)),(1,.v (.int .i64 (m : Int))),(5,.v (.slice A1 n c1)),(6,.v (.int .i64 (i : Int))),(64,.v (.slice A1 n c1)),(67,.v (.int .i64 (IntKind.i64.wrap ((i : Int) - (m : Int))))),(68,.v (.slice Al l.length Cl)),(69,.v (.int .i64 (i : Int)))] (.pointer (some ⟨bb,ob + i * 1,none⟩)) rfl (fun _ _ _ ww hr => act_ixO (kd := .i64) (T := 125) (e := 3) (K := 1) (b := bb) (off := ob) (N := l.length) (cap := Cl) i hbb hr.1 rfl rfl (by kernel_rfl) (by kernel_rfl) (by kernel_rfl) hlt ww) ?_
 refine kOS 0 [0,1,5,6,64,67,70] [(0,.v (.slice Al l.length Cl)),(1,.v (.int .i64 (m : Int))),(5,.v (.slice A1 n c1)),(6,.v (.int .i64 (i : Int))),(64,.v (.slice A1 n c1)),(67,.v (.int .i64 (IntKind.i64.wrap ((i : Int) - (m : Int))))),(70,.v (.pointer (some ⟨bb,ob + i * 1,none⟩)))] (.int .i64 x) rfl (fun _ _ _ ww hr => ldS_run (j := i) (row := [.int .i64 x]) (slF (.slice Al l.length Cl) 1 (l.map intRow)) hr rfl (by kernel_rfl) (by simp) (by simp only [List.getElem?_map,hx]; rfl) (by kernel_rfl) hbb rfl) ?_
 refine kHS 1 [0,1,5,6,64,67,72] [(0,.v (.slice Al l.length Cl)),(1,.v (.int .i64 (m : Int))),(5,.v (.slice A1 n c1)),(6,.v (.int .i64 (i : Int))),(64,.v (.slice A1 n c1)),(67,.v (.int .i64 (IntKind.i64.wrap ((i : Int) - (m : Int))))),(72,.v (.int .u8 (IntKind.u8.wrap x)))] rfl (hv_build (e := 5) (K := 1) (bytes := 1) [.int .u8 (IntKind.u8.wrap x)] rfl (by kernel_rfl) (by kernel_rfl) (by kernel_rfl) (by kernel_rfl) (by kernel_rfl) (rs := ([IntKind.u8.wrap x] : List Int).map bR) rfl) ?_
 intro g12
 refine kOS 0 [0,1,5,6,64,67,73] [(0,.v (.slice Al l.length Cl)),(1,.v (.int .i64 (m : Int))),(5,.v (.slice A1 n c1)),(6,.v (.int .i64 (i : Int))),(64,.v (.slice A1 n c1)),(67,.v (.int .i64 (IntKind.i64.wrap ((i : Int) - (m : Int))))),(73,.v (.slice (some ⟨g12,0,none⟩) 1 1))] (.string (bstr ([IntKind.u8.wrap x] : List Int))) rfl (fun _ _ _ ww hr => act_b2s (e := 5) ([IntKind.u8.wrap x] : List Int) hr.1 rfl (by kernel_rfl) (by kernel_rfl) (by kernel_rfl) rfl (rowF_sl (hr.2.fact (rowF w.heap.size 5 1 (.slice (some ⟨g12,0,none⟩) 1 1) (([IntKind.u8.wrap x] : List Int).map bR)) (by simp)).1)) ?_
 refine kOS 0 [0,1,5,6,64,67,74] [(0,.v (.slice Al l.length Cl)),(1,.v (.int .i64 (m : Int))),(5,.v (.slice A1 n c1)),(6,.v (.int .i64 (i : Int))),(64,.v (.slice A1 n c1)),(67,.v (.int .i64 (IntKind.i64.wrap ((i : Int) - (m : Int))))),(74,.v (.string (bstr ([IntKind.u8.wrap x] : List Int))))] (.agg (pceL (⟨IntKind.i64.wrap ((i : Int) - (m : Int)),bstr ([IntKind.u8.wrap x] : List Int)⟩ : Pce)).toArray) rfl (fun _ _ _ ww hr => act_build [(0,.int .i64 (IntKind.i64.wrap ((i : Int) - (m : Int)))),(1,.string (bstr ([IntKind.u8.wrap x] : List Int)))] hr.1 rfl (by kernel_rfl) (by kernel_rfl) ww) ?_
 refine kHS 0 [0,1,5,6,64,75] [(0,.v (.slice Al l.length Cl)),(1,.v (.int .i64 (m : Int))),(5,.v (.slice A1 n c1)),(6,.v (.int .i64 (i : Int))),(64,.v (.slice A1 n c1)),(75,.v (.agg (pceL (⟨IntKind.i64.wrap ((i : Int) - (m : Int)),bstr ([IntKind.u8.wrap x] : List Int)⟩ : Pce)).toArray))] rfl (hv_build (e := 85) (K := 2) (bytes := 24) [.agg (pceL (⟨IntKind.i64.wrap ((i : Int) - (m : Int)),bstr ([IntKind.u8.wrap x] : List Int)⟩ : Pce)).toArray] rfl (by kernel_rfl) (by kernel_rfl) (by kernel_rfl) (by kernel_rfl) (by kernel_rfl) (rs := ([⟨IntKind.i64.wrap ((i : Int) - (m : Int)),bstr ([IntKind.u8.wrap x] : List Int)⟩] : List Pce).map pC) rfl) ?_
 intro g13
 refine kHS 0 [0,1,5,6,64,76] [(0,.v (.slice Al l.length Cl)),(1,.v (.int .i64 (m : Int))),(5,.v (.slice A1 n c1)),(6,.v (.int .i64 (i : Int))),(64,.v (.slice A1 n c1)),(76,.v (.slice (some ⟨g13,0,none⟩) 1 1))] rfl (hv_append (e := 85) (K := 2) (bytes := 24) (i := 2) (q := (out ++ ([⟨IntKind.i64.wrap ((i : Int) - (m : Int)),bstr ([IntKind.u8.wrap x] : List Int)⟩] : List Pce)).length) (new := ([⟨IntKind.i64.wrap ((i : Int) - (m : Int)),bstr ([IntKind.u8.wrap x] : List Int)⟩] : List Pce).map pC) (rs' := (out ++ ([⟨IntKind.i64.wrap ((i : Int) - (m : Int)),bstr ([IntKind.u8.wrap x] : List Int)⟩] : List Pce)).map pC) rfl rfl rfl rfl (by kernel_rfl) (by kernel_rfl) (by kernel_rfl) rfl (by simp) (by rw [List.map_append]) (by simp) (fun ww hf => (rowF_sl (hf (rowF w.heap.size 85 2 (.slice (some ⟨g13,0,none⟩) 1 1) (([⟨IntKind.i64.wrap ((i : Int) - (m : Int)),bstr ([IntKind.u8.wrap x] : List Int)⟩] : List Pce).map pC)) (by simp)))) (by intro r hr; obtain ⟨x,hx,rfl⟩ := List.mem_map.1 hr; exact ⟨rfl,by simp [pC,Value.oneCell']⟩) (by (try simp only [List.length_map,List.length_append,List.length_cons,List.length_nil,List.length_take,List.length_drop,maxLen]); omega) (by (try simp only [List.length_map,List.length_append,List.length_cons,List.length_nil,List.length_take,List.length_drop,maxLen]); omega)) ?_
 rintro ⟨v14a,v14c⟩
 refine kRS 1 [0,1,5,6] [(0,.v (.slice Al l.length Cl)),(1,.v (.int .i64 (m : Int))),(5,.v (.slice v14a ((out ++ ([⟨IntKind.i64.wrap ((i : Int) - (m : Int)),bstr ([IntKind.u8.wrap x] : List Int)⟩] : List Pce)).length) v14c)),(6,.v (.int .i64 (i : Int)))] ?_
 refine xl_eq (st' := ⟨[(0,.v (.slice Al l.length Cl)),(1,.v (.int .i64 (m : Int))),(5,.v (.slice v14a ((out ++ ([⟨((i - m : Nat) : Int),bstr ([x] : List Int)⟩] : List Pce)).length) v14c)),(6,.v (.int .i64 (i : Int)))],[],[],[rowF w.heap.size 85 2 (.slice v14a ((out ++ ([⟨((i - m : Nat) : Int),bstr ([x] : List Int)⟩] : List Pce)).length) v14c) ((out ++ ([⟨((i - m : Nat) : Int),bstr ([x] : List Int)⟩] : List Pce)).map pC),rowF w.heap.size 85 2 (.slice (some ⟨g13,0,none⟩) 1 1) (([⟨((i - m : Nat) : Int),bstr ([x] : List Int)⟩] : List Pce).map pC),rowF w.heap.size 5 1 (.slice (some ⟨g12,0,none⟩) 1 1) (([x] : List Int).map bR),slF (.slice Al l.length Cl) 1 (l.map intRow)]⟩) (by rw [show (IntKind.i64.wrap ((i : Int) - (m : Int))) = ((i - m : Nat) : Int) from by rw [wrap_id (by omega) (by omega)]; omega,show (IntKind.u8.wrap x) = x from u8_id (by omega) (by omega)] <;> rfl) ?_
 refine kES [0,1,5,6] [(0,.v (.slice Al l.length Cl)),(1,.v (.int .i64 (m : Int))),(5,.v (.slice v14a ((out ++ ([⟨((i - m : Nat) : Int),bstr ([x] : List Int)⟩] : List Pce)).length) v14c)),(6,.v (.int .i64 (i : Int)))] ?_
 refine kG ?_
 refine kRS 3 [0,1,5,6] [(0,.v (.slice Al l.length Cl)),(1,.v (.int .i64 (m : Int))),(5,.v (.slice v14a ((out ++ ([⟨((i - m : Nat) : Int),bstr ([x] : List Int)⟩] : List Pce)).length) v14c)),(6,.v (.int .i64 (IntKind.i64.wrap ((i : Int) + 1))))] ?_
 refine xl_eqS (t' := [(0,.v (.slice Al l.length Cl)),(1,.v (.int .i64 (m : Int))),(5,.v (.slice v14a ((out ++ ([⟨((i - m : Nat) : Int),bstr ([x] : List Int)⟩] : List Pce)).length) v14c)),(6,.v (.int .i64 ((i : Int) + 1)))]) (by rw [show (IntKind.i64.wrap ((i : Int) + 1)) = ((i : Int) + 1) from wrap_id (by omega) (by omega)]) ?_
 refine kES [0,1,5,6] [(0,.v (.slice Al l.length Cl)),(1,.v (.int .i64 (m : Int))),(5,.v (.slice v14a ((out ++ ([⟨((i - m : Nat) : Int),bstr ([x] : List Int)⟩] : List Pce)).length) v14c)),(6,.v (.int .i64 ((i : Int) + 1)))] ?_
 have hadd : addByte out (i - m) x = (out ++ ([⟨((i - m : Nat) : Int),bstr ([x] : List Int)⟩] : List Pce)) := by first | (rw [addByte_set (p := p) (by rw [hn]; exact hp hpos) heq,hn]) | (exact if hz : 0 < n then addByte_far (p := p) (by rw [hn]; exact hp hz) (fun e => heqn ⟨hz,e⟩) else addByte_nil (by omega))
 exact ⟨⟨(i + 1,(out ++ ([⟨((i - m : Nat) : Int),bstr ([x] : List Int)⟩] : List Pce)),v14a,v14c,(out ++ ([⟨((i - m : Nat) : Int),bstr ([x] : List Int)⟩] : List Pce)).length),⟨(by (try dsimp only); omega),(by rw [HP,hps,if_neg (by omega),hadd]),(by rw [← hadd]; intro q hq; have := addByte_bd hbd q hq; (try dsimp only); omega),(by simp [hn]),(by (try dsimp only); (try simp only [List.length_append,List.length_cons,List.length_nil]); omega)⟩⟩,kPk [0,3] <| kF 0 0 [0,1,5,6],by show (fun (i : Nat) (out : List Pce) (A1 : Option Addr) (c1 : Nat) (n : Nat) => l.length - i) (i + 1) (out ++ ([⟨((i - m : Nat) : Int),bstr ([x] : List Int)⟩] : List Pce)) v14a v14c ((out ++ ([⟨((i - m : Nat) : Int),bstr ([x] : List Int)⟩] : List Pce)).length) < l.length - i; (dsimp only; omega)⟩
 have h2p := of_decide_eq_false h2
 have hge : i = l.length := by simp at h2; omega
 rw [hge,List.drop_length,pcs] at HP
 refine xw_exit ?_
 refine kQ ?_
 refine kES [4] [(4,.v (.slice A1 n c1))] ?_
 refine kR ?_
 have hmod : pcs [] 0 (l.drop m) = out := by exact HP
 exact ⟨[.slice A1 n c1],by kernel_rfl,fun w' hb hf ha => by rw [hmod,hn]; exact xo1 ((A1,c1)) rfl rfl (pW (hf _ m0) hB) hb⟩
theorem ysArrived_c (r : Rcv) (r_heldV : Value) (seq : Int) (text : ByteArray) (fin : Bool) (w : World) (hl_r_heldV : Sl w r_heldV 2 (r.held.map pC)) (hkn : r.held.length ≤ 1048576) (hm : ∀ p ∈ r.held, p.text.size ≤ 1048576) (hsz : r.data.size ≤ 4611686018427387904) (hts : text.size ≤ 4611686018427387904) (B : Nat) (hB : B ≤ w.heap.size) : Calls Tryz.prog 78 #[.agg (rcvL r r_heldV).toArray, .int .i64 seq, .string text, .bool fin] w fun e w' => XRs w w' e (α := Option Addr × Nat) (fun y => .agg (rcvL (arrived r seq text fin) (.slice y.1 ((arrived r seq text fin).held.length) y.2)).toArray) (fun y => [rowF B 85 2 (.slice y.1 ((arrived r seq text fin).held.length) y.2) ((arrived r seq text fin).held.map pC)]) := by
 obtain ⟨Arh,Crh,hvrh⟩ := hl_r_heldV.form
 rw [List.length_map] at hvrh; subst hvrh
 have hnrh := hl_r_heldV.len; rw [List.length_map] at hnrh
 have hqrh := Sl.capLe hl_r_heldV
 refine x_callsA (args := [.agg (rcvL r (.slice Arh r.held.length Crh)).toArray,.int .i64 seq,.string text,.bool fin]) (fn := Tryz.f78) [slF (.slice Arh r.held.length Crh) 2 (r.held.map pC)] Tryz.func78 rfl Tryz.ntmps78 rfl (by simp only [List.mem_cons,List.not_mem_nil,or_false,forall_eq_or_imp,forall_eq]; exact ⟨rfl,hl_r_heldV⟩) ?_
 refine kQ ?_
 refine kEF [1,2,3,4,8] ⟨[(1,.v (.int .i64 seq)),(2,.v (.string text)),(3,.v (.bool fin)),(4,.p 0 0),(8,.p 1 0)],[⟨41,rcvL r (.slice Arh r.held.length Crh)⟩,⟨41,rcvZ⟩],[],[slF (.slice Arh r.held.length Crh) 2 (r.held.map pC)]⟩ ?_
 refine kQ ?_
 refine kCD 1 [1,2,3,4,8,17] [(17,.v (.agg (rcvL r (.slice Arh r.held.length Crh)).toArray))] 86 [.agg (rcvL r (.slice Arh r.held.length Crh)).toArray] (some 18) rfl (xc_r fun ww hw hf => yl18Copy_c r (.slice Arh r.held.length Crh) ww (hf _ m0) (by assumption) w.heap.size hw) ?_
 rintro ⟨v1a,v1c⟩
 refine kEA [1,2,3,4,8,9] [(9,.p 2 0)] [⟨41,rcvL r (.slice v1a r.held.length v1c)⟩] ?_
 refine kS ?_
 refine kQ ?_
 refine kCD 1 [1,2,3,4,8,9,19] [(19,.v (.agg (rcvL r (.slice Arh r.held.length Crh)).toArray))] 65 [.agg (rcvL r (.slice Arh r.held.length Crh)).toArray] (some 20) rfl (xc_b fun ww hf => ysReceiverOk_c r (.slice Arh r.held.length Crh) ww (hf _ m1) (by assumption) (by omega)) ?_
 intro _
 refine kRD 2 [1,2,3,4,8,9,22] [(22,.v (.bool (!(rO r))))] ?_
 refine kP 22 (!(rO r)) (fun h2 => ?_) (fun h2 => ?_)
 have h2n := not_t h2
 refine kED [1,2,3,4,8,9,25] [(25,.v (.bool true))] ?_
 refine kT ?_
 refine kQ ?_
 refine kEU [8] [(8,.p 1 0)] 1 ⟨41,rcvL r (.slice v1a r.held.length v1c)⟩ ?_
 refine kR ?_
 have hmod : arrived r seq text fin = r := by first | exact arrived_over hrk (by assumption) (by rw [← hall,← hnf]; omega) | (unfold arrived; rw [if_neg (by grind)]; done) | (unfold arrived; rw [if_pos (by grind),← hall,← hnf,← hg2,← hfp]; first | (rw [if_pos (by omega)]; done) | (rw [if_neg (by omega),if_pos (by first | omega | simp_all)]; done) | (rw [if_neg (by omega),if_neg (by first | omega | simp_all)]; done))
 exact ⟨[.agg (rcvL r (.slice v1a r.held.length v1c)).toArray],by kernel_rfl,fun w' hb hf ha => by rw [hmod]; exact xo1 ((v1a,v1c)) rfl rfl (pW (hf _ m0) hB) hb⟩
 have h2n := not_f h2
 have hrk := h2n
 obtain ⟨hf0,hf1,hf2,hf3,hf4,hheld⟩ := rok_facts h2n
 have hwb := windowOf_bd r
 have hN := slotsOf_len r
 have hsqt := seqAdd_in seq (text.size : Int)
 refine kED [1,2,3,4,8,9,25] [(25,.v (.bool r.done))] ?_
 refine kC (r.done) (fun h3 => ?_) (fun h3 => ?_)
 refine kQ ?_
 refine kEU [8] [(8,.p 1 0)] 1 ⟨41,rcvL r (.slice v1a r.held.length v1c)⟩ ?_
 refine kR ?_
 have hmod : arrived r seq text fin = r := by first | exact arrived_over hrk (by assumption) (by rw [← hall,← hnf]; omega) | (unfold arrived; rw [if_neg (by grind)]; done) | (unfold arrived; rw [if_pos (by grind),← hall,← hnf,← hg2,← hfp]; first | (rw [if_pos (by omega)]; done) | (rw [if_neg (by omega),if_pos (by first | omega | simp_all)]; done) | (rw [if_neg (by omega),if_neg (by first | omega | simp_all)]; done))
 exact ⟨[.agg (rcvL r (.slice v1a r.held.length v1c)).toArray],by kernel_rfl,fun w' hb hf ha => by rw [hmod]; exact xo1 ((v1a,v1c)) rfl rfl (pW (hf _ m0) hB) hb⟩
 refine kK ?_
 refine kQ ?_
 refine kCD 1 [1,2,3,4,8,9,27] [(27,.v (.agg (rcvL r (.slice Arh r.held.length Crh)).toArray))] 82 [.agg (rcvL r (.slice Arh r.held.length Crh)).toArray] (some 28) rfl (xc_b fun ww hf => sWindowOf_c r.next r.data r.held (.slice Arh r.held.length Crh) r.fin r.done ww (by omega)) ?_
 intro _
 refine kED [1,2,3,4,8,9,10] [(10,.v (.int .i64 (wO r)))] ?_
 refine kQ ?_
 refine kCD 1 [1,2,3,4,8,9,10,29] [(29,.v (.agg (rcvL r (.slice Arh r.held.length Crh)).toArray))] 121 [.agg (rcvL r (.slice Arh r.held.length Crh)).toArray] (some 30) rfl (xc_r fun ww hw hf => yl18Slots_c r (.slice Arh r.held.length Crh) ww (hf _ m1) (by assumption) (by assumption) w.heap.size hw) ?_
 rintro ⟨v4a,v4c⟩
 refine kED [1,2,3,4,8,9,10,11] [(11,.v (.slice v4a ((slotsOf r).length) v4c))] ?_
 refine kS ?_
 refine kQ ?_
 refine kED [1,2,3,4,8,9,10,11,12] [(12,.v (.int .i64 0))] ?_
 refine xw_block ?_
 refine xw_know (φ := ∃ g,True → v4a = some ⟨g,0,none⟩) (fun _ _ _ _ hr => know_row hr (K := 1) (rs := (slotsOf r).map intRow) 0 rfl (j := 0) (row := intRow ((slotsOf r)[0]'(by omega))) (fun _ => by rw [List.getElem?_map,List.getElem?_eq_getElem (by omega)]; rfl)) ?_
 rintro ⟨gg,hgg⟩
 refine xw_loopW (α := {x : Nat × List Int // (fun (i : Nat) (sl : List Int) => i ≤ text.size ∧ sl.length = 33 ∧ sl = textN r seq text (slotsOf r) i) x.1 x.2}) (fun x => (fun (i : Nat) (sl : List Int) => (⟨[(1,.v (.int .i64 seq)),(2,.v (.string text)),(3,.v (.bool fin)),(4,.p 0 0),(8,.p 1 0),(9,.p 2 0),(10,.v (.int .i64 (wO r))),(11,.v (.slice v4a ((slotsOf r).length) v4c)),(12,.v (.int .i64 (i : Int)))],[⟨41,rcvL r (.slice Arh r.held.length Crh)⟩,⟨41,rcvZ⟩,⟨41,rcvL r (.slice v1a r.held.length v1c)⟩],[],[rowF w.heap.size 3 1 (.slice v4a ((slotsOf r).length) v4c) (sl.map intRow),rowF w.heap.size 85 2 (.slice v1a r.held.length v1c) (r.held.map pC),slF (.slice Arh r.held.length Crh) 2 (r.held.map pC)]⟩ : St)) x.1.1 x.1.2) (fun x => (fun (i : Nat) (sl : List Int) => text.size - i) x.1.1 x.1.2) ⟨(0,(slotsOf r)),⟨Nat.zero_le _,hN,rfl⟩⟩ (kPk [0,1,2] <| kF 3 0 [1,2,3,4,8,9,10,11,12]) ?_
 rintro ⟨⟨i,sl⟩,hi,hl,HS⟩
 try dsimp only
 try dsimp only at hi hl HS
 refine kS ?_
 refine kQ ?_
 refine kES [1,2,3,4,8,9,10,11,12,34] [(1,.v (.int .i64 seq)),(2,.v (.string text)),(3,.v (.bool fin)),(4,.p 0 0),(8,.p 1 0),(9,.p 2 0),(10,.v (.int .i64 (wO r))),(11,.v (.slice v4a ((slotsOf r).length) v4c)),(12,.v (.int .i64 (i : Int))),(34,.v (.bool (decide ((i : Int) < (text.size : Int)))))] ?_
 refine kC (decide ((i : Int) < (text.size : Int))) (fun h5 => ?_) (fun h5 => ?_)
 have h5p := of_decide_eq_true h5
 have hlti : i < text.size := by simpa using h5
 have hbt := byteAt_rng text i
 have hsq := seqAdd_in seq (i : Int)
 refine kK ?_
 refine kS ?_
 refine xw_block ?_
 refine kS ?_
 refine xe_region0 [] (by kernel_rfl) (fun ρ σ => ?_)
 refine kTS [0,1,3,4] [41,38,37,1,2,3,4,8,9,10,11,12] 4 [(41,.v (.int .i64 r.next)),(38,.v (.int .i64 (i : Int))),(37,.v (.int .i64 seq)),(1,.v (.int .i64 seq)),(2,.v (.string text)),(3,.v (.bool fin)),(4,.p 0 0),(8,.p 1 0),(9,.p 2 0),(10,.v (.int .i64 (wO r))),(11,.v (.slice v4a ((slotsOf r).length) v4c)),(12,.v (.int .i64 (i : Int)))] ?_
 refine kA [2] ?_
 refine kSC 2 120 [.int .i64 seq,.int .i64 (i : Int)] (some 39) rfl (xc_s fun ww hf => sSeqAdd_c seq (i : Int) ww ) ?_
 intro _
 refine kTS [5] [42,1,2,3,4,8,9,10,11,12] 2 [(42,.v (.int .i64 (IntKind.i64.wrap ((sA seq (i : Int)) - r.next)))),(1,.v (.int .i64 seq)),(2,.v (.string text)),(3,.v (.bool fin)),(4,.p 0 0),(8,.p 1 0),(9,.p 2 0),(10,.v (.int .i64 (wO r))),(11,.v (.slice v4a ((slotsOf r).length) v4c)),(12,.v (.int .i64 (i : Int)))] ?_
 refine xe_nv [42,1,2,3,4,8,9,10,11,12] [(42,.v (.int .i64 (IntKind.i64.wrap ((sA seq (i : Int)) - r.next))))] [(42,.v (.int .i64 ((sA seq (i : Int)) - r.next)))] (by rw [show (IntKind.i64.wrap ((sA seq (i : Int)) - r.next)) = ((sA seq (i : Int)) - r.next) from wrap_id (by omega) (by omega)]) (by kernel_rfl) ?_
 refine kA [6] ?_
 refine kSC 6 122 [.int .i64 ((sA seq (i : Int)) - r.next)] (some 43) rfl (xc_s fun ww hf => sRest_c ((sA seq (i : Int)) - r.next) ww ) ?_
 intro _
 refine xe_nv [43,42,1,2,3,4,8,9,10,11,12] [(43,.v (.int .i64 (((sA seq (i : Int)) - r.next) % 4294967296)))] [(43,.v (.int .i64 ((offN r seq i : Nat) : Int)))] (by rw [show (((sA seq (i : Int)) - r.next) % 4294967296) = ((offN r seq i : Nat) : Int) from offN_eq r seq i]) (by kernel_rfl) ?_
 refine kTS [7] [13,1,2,3,4,8,9,10,11,12] 0 [(13,.v (.int .i64 ((offN r seq i : Nat) : Int))),(1,.v (.int .i64 seq)),(2,.v (.string text)),(3,.v (.bool fin)),(4,.p 0 0),(8,.p 1 0),(9,.p 2 0),(10,.v (.int .i64 (wO r))),(11,.v (.slice v4a ((slotsOf r).length) v4c)),(12,.v (.int .i64 (i : Int)))] ?_
 refine kZ ?_
 refine kQ ?_
 refine kRD 4 [1,2,3,4,8,9,10,11,12,13,47] [(47,.v (.bool (decide (((offN r seq i : Nat) : Int) < (wO r)))))] ?_
 refine kP 47 (decide (((offN r seq i : Nat) : Int) < (wO r))) (fun h6 => ?_) (fun h6 => ?_)
 have h6p := of_decide_eq_true h6
 obtain ⟨x,hx⟩ : ∃ x,sl[offN r seq i]? = some x := ⟨_,List.getElem?_eq_getElem (by omega)⟩
 have hsx := slotAt_of hx
 refine kRD 4 [1,2,3,4,8,9,10,11,12,13,47,51] [(47,.v (.bool true)),(51,.v (.bool (decide (r.fin < 0))))] ?_
 refine kP 51 (decide (r.fin < 0)) (fun h7 => ?_) (fun h7 => ?_)
 have h7p := of_decide_eq_true h7
 refine kOD 9 [1,2,3,4,8,9,10,11,12,13,58,59,60] [(58,.v (.bool true)),(59,.v (.slice v4a ((slotsOf r).length) v4c)),(60,.v (.int .i64 ((offN r seq i : Nat) : Int)))] (.pointer (some ⟨gg,(offN r seq i) * 1,none⟩)) rfl (fun _ _ _ ww hr => act_ix (kd := .i64) (T := 125) (e := 3) (K := 1) (g := gg) (N := ((slotsOf r).length)) (cap := v4c) (offN r seq i) (hgg trivial) hr.1 rfl rfl (by kernel_rfl) (by kernel_rfl) (by kernel_rfl) (by omega) ww) ?_
 refine kOD 0 [1,2,3,4,8,9,10,11,12,13,58,61] [] (.int .i64 x) rfl (fun _ _ _ ww hr => ldR_run (po := 0) (j := (offN r seq i)) (row := [.int .i64 x]) (rowF w.heap.size 3 1 (.slice v4a ((slotsOf r).length) v4c) (sl.map intRow)) hr rfl (by kernel_rfl) (by simp) (by simp only [List.getElem?_map,hx]; rfl) (by kernel_rfl) (hgg trivial) rfl rfl) ?_
 refine kED [1,2,3,4,8,9,10,11,12,13,64] [(64,.v (.bool (decide (x < 0))))] ?_
 refine kC (decide (x < 0)) (fun h8 => ?_) (fun h8 => ?_)
 have h8p := of_decide_eq_true h8
 refine kG ?_
 refine kOD 4 [1,2,3,4,8,9,10,11,12,65,66,67,68] [(65,.v (.slice v4a ((slotsOf r).length) v4c)),(66,.v (.int .i64 ((offN r seq i : Nat) : Int))),(67,.v (.string text)),(68,.v (.int .i64 (i : Int)))] (.int .u8 (byteAt text i)) rfl (fun _ _ _ ww hr => act_tix (kd := .i64) (t := text) i hr.1 rfl rfl (by kernel_rfl) (by kernel_rfl) hlti ww) ?_
 refine kOD 1 [1,2,3,4,8,9,10,11,12,65,66,70] [(70,.v (.int .i64 (IntKind.i64.wrap (byteAt text i))))] (.pointer (some ⟨gg,(offN r seq i) * 1,none⟩)) rfl (fun _ _ _ ww hr => act_ix (kd := .i64) (T := 125) (e := 3) (K := 1) (g := gg) (N := ((slotsOf r).length)) (cap := v4c) (offN r seq i) (hgg trivial) hr.1 rfl rfl (by kernel_rfl) (by kernel_rfl) (by kernel_rfl) (by omega) ww) ?_
 refine xl_hs 0 [1,2,3,4,8,9,10,11,12,70,71] ⟨[(1,.v (.int .i64 seq)),(2,.v (.string text)),(3,.v (.bool fin)),(4,.p 0 0),(8,.p 1 0),(9,.p 2 0),(10,.v (.int .i64 (wO r))),(11,.v (.slice v4a ((slotsOf r).length) v4c)),(12,.v (.int .i64 (i : Int))),(70,.v (.int .i64 (IntKind.i64.wrap (byteAt text i)))),(71,.v (.pointer (some ⟨gg,(offN r seq i) * 1,none⟩)))],[⟨41,rcvL r (.slice Arh r.held.length Crh)⟩,⟨41,rcvZ⟩,⟨41,rcvL r (.slice v1a r.held.length v1c)⟩],[],[rowF w.heap.size 3 1 (.slice v4a ((slotsOf r).length) v4c) (sl.map intRow),rowF w.heap.size 85 2 (.slice v1a r.held.length v1c) (r.held.map pC),slF (.slice Arh r.held.length Crh) 2 (r.held.map pC)]⟩ (by kernel_rfl) rfl (by kernel_rfl) rfl (by kernel_rfl) (HSg.hs (hs_stR (g := gg) (B := w.heap.size) (e := 3) (K := 1) (N := ((slotsOf r).length)) (cap := v4c) (rs := (sl.map intRow)) (rs' := (sl.set (offN r seq i) (IntKind.i64.wrap (byteAt text i))).map intRow) (v := (.int .i64 (IntKind.i64.wrap (byteAt text i)))) (i := 0) (off := (offN r seq i) * 1) (offN r seq i) 0 [.int .i64 x] (row' := [.int .i64 (IntKind.i64.wrap (byteAt text i))]) (hgg trivial) rfl (by kernel_rfl) rfl (by kernel_rfl) (by kernel_rfl) (by kernel_rfl) (by kernel_rfl) (Nat.le_refl _) (by simp only [List.getElem?_map,hx]; rfl) (by kernel_rfl) rfl (by rw [List.map_set]; rfl))) ?_
 refine kRS 0 [1,2,3,4,8,9,10,11,12] [(1,.v (.int .i64 seq)),(2,.v (.string text)),(3,.v (.bool fin)),(4,.p 0 0),(8,.p 1 0),(9,.p 2 0),(10,.v (.int .i64 (wO r))),(11,.v (.slice v4a ((slotsOf r).length) v4c)),(12,.v (.int .i64 (i : Int)))] ?_
 refine xl_eq (st' := ⟨[(1,.v (.int .i64 seq)),(2,.v (.string text)),(3,.v (.bool fin)),(4,.p 0 0),(8,.p 1 0),(9,.p 2 0),(10,.v (.int .i64 (wO r))),(11,.v (.slice v4a ((slotsOf r).length) v4c)),(12,.v (.int .i64 (i : Int)))],[⟨41,rcvL r (.slice Arh r.held.length Crh)⟩,⟨41,rcvZ⟩,⟨41,rcvL r (.slice v1a r.held.length v1c)⟩],[],[rowF w.heap.size 3 1 (.slice v4a ((slotsOf r).length) v4c) ((sl.set (offN r seq i) (byteAt text i)).map intRow),rowF w.heap.size 85 2 (.slice v1a r.held.length v1c) (r.held.map pC),slF (.slice Arh r.held.length Crh) 2 (r.held.map pC)]⟩) (by rw [show (IntKind.i64.wrap (byteAt text i)) = (byteAt text i) from wrap_id (by omega) (by omega)] <;> rfl) ?_
 refine kED [1,2,3,4,8,9,10,11,12] [] ?_
 refine kG ?_
 refine kRD 3 [1,2,3,4,8,9,10,11,12] [(12,.v (.int .i64 (IntKind.i64.wrap ((i : Int) + 1))))] ?_
 refine xl_nv [1,2,3,4,8,9,10,11,12] [(12,.v (.int .i64 (IntKind.i64.wrap ((i : Int) + 1))))] [(12,.v (.int .i64 ((i : Int) + 1)))] (by rw [show (IntKind.i64.wrap ((i : Int) + 1)) = ((i : Int) + 1) from wrap_id (by omega) (by omega)]) (by kernel_rfl) ?_
 refine kED [1,2,3,4,8,9,10,11,12] [] ?_
 exact ⟨⟨(i + 1,(sl.set (offN r seq i) (byteAt text i))),⟨hlti,(by rw [List.length_set]; exact hl),(by rw [textN,← HS,textStep_eq]; first | (rw [if_pos (by refine ⟨by omega,by omega,?_⟩; rw [hsx]; omega)]) | (rw [if_neg (by intro hh; have hh1 := hh.1; have hh2 := hh.2.1; have hh3 := hh.2.2; (try rw [hsx] at hh3); omega)]))⟩⟩,kF 3 0 [1,2,3,4,8,9,10,11,12],by show (fun (i : Nat) (sl : List Int) => text.size - i) (i + 1) (sl.set (offN r seq i) (byteAt text i)) < text.size - i; (dsimp only; omega)⟩
 have h8p := of_decide_eq_false h8
 refine kK ?_
 refine kG ?_
 refine kRD 3 [1,2,3,4,8,9,10,11,12] [(12,.v (.int .i64 (IntKind.i64.wrap ((i : Int) + 1))))] ?_
 refine xl_nv [1,2,3,4,8,9,10,11,12] [(12,.v (.int .i64 (IntKind.i64.wrap ((i : Int) + 1))))] [(12,.v (.int .i64 ((i : Int) + 1)))] (by rw [show (IntKind.i64.wrap ((i : Int) + 1)) = ((i : Int) + 1) from wrap_id (by omega) (by omega)]) (by kernel_rfl) ?_
 refine kED [1,2,3,4,8,9,10,11,12] [] ?_
 exact ⟨⟨(i + 1,sl),⟨hlti,hl,(by rw [textN,← HS,textStep_eq]; first | (rw [if_pos (by refine ⟨by omega,by omega,?_⟩; rw [hsx]; omega)]) | (rw [if_neg (by intro hh; have hh1 := hh.1; have hh2 := hh.2.1; have hh3 := hh.2.2; (try rw [hsx] at hh3); omega)]))⟩⟩,kF 3 0 [1,2,3,4,8,9,10,11,12],by show (fun (i : Nat) (sl : List Int) => text.size - i) (i + 1) sl < text.size - i; (dsimp only; omega)⟩
 have h7p := of_decide_eq_false h7
 refine kRD 7 [1,2,3,4,8,9,10,11,12,13,58] [(58,.v (.bool (decide (((offN r seq i : Nat) : Int) < r.fin))))] ?_
 refine kP 58 (decide (((offN r seq i : Nat) : Int) < r.fin)) (fun h9 => ?_) (fun h9 => ?_)
 have h9p := of_decide_eq_true h9
 refine kOD 2 [1,2,3,4,8,9,10,11,12,13,58,59,60] [(58,.v (.bool true)),(59,.v (.slice v4a ((slotsOf r).length) v4c)),(60,.v (.int .i64 ((offN r seq i : Nat) : Int)))] (.pointer (some ⟨gg,(offN r seq i) * 1,none⟩)) rfl (fun _ _ _ ww hr => act_ix (kd := .i64) (T := 125) (e := 3) (K := 1) (g := gg) (N := ((slotsOf r).length)) (cap := v4c) (offN r seq i) (hgg trivial) hr.1 rfl rfl (by kernel_rfl) (by kernel_rfl) (by kernel_rfl) (by omega) ww) ?_
 refine kOD 0 [1,2,3,4,8,9,10,11,12,13,58,61] [] (.int .i64 x) rfl (fun _ _ _ ww hr => ldR_run (po := 0) (j := (offN r seq i)) (row := [.int .i64 x]) (rowF w.heap.size 3 1 (.slice v4a ((slotsOf r).length) v4c) (sl.map intRow)) hr rfl (by kernel_rfl) (by simp) (by simp only [List.getElem?_map,hx]; rfl) (by kernel_rfl) (hgg trivial) rfl rfl) ?_
 refine kED [1,2,3,4,8,9,10,11,12,13,64] [(64,.v (.bool (decide (x < 0))))] ?_
 refine kC (decide (x < 0)) (fun h10 => ?_) (fun h10 => ?_)
 have h10p := of_decide_eq_true h10
 refine kG ?_
 refine kOD 4 [1,2,3,4,8,9,10,11,12,65,66,67,68] [(65,.v (.slice v4a ((slotsOf r).length) v4c)),(66,.v (.int .i64 ((offN r seq i : Nat) : Int))),(67,.v (.string text)),(68,.v (.int .i64 (i : Int)))] (.int .u8 (byteAt text i)) rfl (fun _ _ _ ww hr => act_tix (kd := .i64) (t := text) i hr.1 rfl rfl (by kernel_rfl) (by kernel_rfl) hlti ww) ?_
 refine kOD 1 [1,2,3,4,8,9,10,11,12,65,66,70] [(70,.v (.int .i64 (IntKind.i64.wrap (byteAt text i))))] (.pointer (some ⟨gg,(offN r seq i) * 1,none⟩)) rfl (fun _ _ _ ww hr => act_ix (kd := .i64) (T := 125) (e := 3) (K := 1) (g := gg) (N := ((slotsOf r).length)) (cap := v4c) (offN r seq i) (hgg trivial) hr.1 rfl rfl (by kernel_rfl) (by kernel_rfl) (by kernel_rfl) (by omega) ww) ?_
 refine xl_hs 0 [1,2,3,4,8,9,10,11,12,70,71] ⟨[(1,.v (.int .i64 seq)),(2,.v (.string text)),(3,.v (.bool fin)),(4,.p 0 0),(8,.p 1 0),(9,.p 2 0),(10,.v (.int .i64 (wO r))),(11,.v (.slice v4a ((slotsOf r).length) v4c)),(12,.v (.int .i64 (i : Int))),(70,.v (.int .i64 (IntKind.i64.wrap (byteAt text i)))),(71,.v (.pointer (some ⟨gg,(offN r seq i) * 1,none⟩)))],[⟨41,rcvL r (.slice Arh r.held.length Crh)⟩,⟨41,rcvZ⟩,⟨41,rcvL r (.slice v1a r.held.length v1c)⟩],[],[rowF w.heap.size 3 1 (.slice v4a ((slotsOf r).length) v4c) (sl.map intRow),rowF w.heap.size 85 2 (.slice v1a r.held.length v1c) (r.held.map pC),slF (.slice Arh r.held.length Crh) 2 (r.held.map pC)]⟩ (by kernel_rfl) rfl (by kernel_rfl) rfl (by kernel_rfl) (HSg.hs (hs_stR (g := gg) (B := w.heap.size) (e := 3) (K := 1) (N := ((slotsOf r).length)) (cap := v4c) (rs := (sl.map intRow)) (rs' := (sl.set (offN r seq i) (IntKind.i64.wrap (byteAt text i))).map intRow) (v := (.int .i64 (IntKind.i64.wrap (byteAt text i)))) (i := 0) (off := (offN r seq i) * 1) (offN r seq i) 0 [.int .i64 x] (row' := [.int .i64 (IntKind.i64.wrap (byteAt text i))]) (hgg trivial) rfl (by kernel_rfl) rfl (by kernel_rfl) (by kernel_rfl) (by kernel_rfl) (by kernel_rfl) (Nat.le_refl _) (by simp only [List.getElem?_map,hx]; rfl) (by kernel_rfl) rfl (by rw [List.map_set]; rfl))) ?_
 refine kRS 0 [1,2,3,4,8,9,10,11,12] [(1,.v (.int .i64 seq)),(2,.v (.string text)),(3,.v (.bool fin)),(4,.p 0 0),(8,.p 1 0),(9,.p 2 0),(10,.v (.int .i64 (wO r))),(11,.v (.slice v4a ((slotsOf r).length) v4c)),(12,.v (.int .i64 (i : Int)))] ?_
 refine xl_eq (st' := ⟨[(1,.v (.int .i64 seq)),(2,.v (.string text)),(3,.v (.bool fin)),(4,.p 0 0),(8,.p 1 0),(9,.p 2 0),(10,.v (.int .i64 (wO r))),(11,.v (.slice v4a ((slotsOf r).length) v4c)),(12,.v (.int .i64 (i : Int)))],[⟨41,rcvL r (.slice Arh r.held.length Crh)⟩,⟨41,rcvZ⟩,⟨41,rcvL r (.slice v1a r.held.length v1c)⟩],[],[rowF w.heap.size 3 1 (.slice v4a ((slotsOf r).length) v4c) ((sl.set (offN r seq i) (byteAt text i)).map intRow),rowF w.heap.size 85 2 (.slice v1a r.held.length v1c) (r.held.map pC),slF (.slice Arh r.held.length Crh) 2 (r.held.map pC)]⟩) (by rw [show (IntKind.i64.wrap (byteAt text i)) = (byteAt text i) from wrap_id (by omega) (by omega)] <;> rfl) ?_
 refine kED [1,2,3,4,8,9,10,11,12] [] ?_
 refine kG ?_
 refine kRD 3 [1,2,3,4,8,9,10,11,12] [(12,.v (.int .i64 (IntKind.i64.wrap ((i : Int) + 1))))] ?_
 refine xl_nv [1,2,3,4,8,9,10,11,12] [(12,.v (.int .i64 (IntKind.i64.wrap ((i : Int) + 1))))] [(12,.v (.int .i64 ((i : Int) + 1)))] (by rw [show (IntKind.i64.wrap ((i : Int) + 1)) = ((i : Int) + 1) from wrap_id (by omega) (by omega)]) (by kernel_rfl) ?_
 refine kED [1,2,3,4,8,9,10,11,12] [] ?_
 exact ⟨⟨(i + 1,(sl.set (offN r seq i) (byteAt text i))),⟨hlti,(by rw [List.length_set]; exact hl),(by rw [textN,← HS,textStep_eq]; first | (rw [if_pos (by refine ⟨by omega,by omega,?_⟩; rw [hsx]; omega)]) | (rw [if_neg (by intro hh; have hh1 := hh.1; have hh2 := hh.2.1; have hh3 := hh.2.2; (try rw [hsx] at hh3); omega)]))⟩⟩,kF 3 0 [1,2,3,4,8,9,10,11,12],by show (fun (i : Nat) (sl : List Int) => text.size - i) (i + 1) (sl.set (offN r seq i) (byteAt text i)) < text.size - i; (dsimp only; omega)⟩
 have h10p := of_decide_eq_false h10
 refine kK ?_
 refine kG ?_
 refine kRD 3 [1,2,3,4,8,9,10,11,12] [(12,.v (.int .i64 (IntKind.i64.wrap ((i : Int) + 1))))] ?_
 refine xl_nv [1,2,3,4,8,9,10,11,12] [(12,.v (.int .i64 (IntKind.i64.wrap ((i : Int) + 1))))] [(12,.v (.int .i64 ((i : Int) + 1)))] (by rw [show (IntKind.i64.wrap ((i : Int) + 1)) = ((i : Int) + 1) from wrap_id (by omega) (by omega)]) (by kernel_rfl) ?_
 refine kED [1,2,3,4,8,9,10,11,12] [] ?_
 exact ⟨⟨(i + 1,sl),⟨hlti,hl,(by rw [textN,← HS,textStep_eq]; first | (rw [if_pos (by refine ⟨by omega,by omega,?_⟩; rw [hsx]; omega)]) | (rw [if_neg (by intro hh; have hh1 := hh.1; have hh2 := hh.2.1; have hh3 := hh.2.2; (try rw [hsx] at hh3); omega)]))⟩⟩,kF 3 0 [1,2,3,4,8,9,10,11,12],by show (fun (i : Nat) (sl : List Int) => text.size - i) (i + 1) sl < text.size - i; (dsimp only; omega)⟩
 have h9p := of_decide_eq_false h9
 refine kED [1,2,3,4,8,9,10,11,12,13,64] [(64,.v (.bool false))] ?_
 refine kN ?_
 refine kK ?_
 refine kG ?_
 refine kRD 3 [1,2,3,4,8,9,10,11,12] [(12,.v (.int .i64 (IntKind.i64.wrap ((i : Int) + 1))))] ?_
 refine xl_nv [1,2,3,4,8,9,10,11,12] [(12,.v (.int .i64 (IntKind.i64.wrap ((i : Int) + 1))))] [(12,.v (.int .i64 ((i : Int) + 1)))] (by rw [show (IntKind.i64.wrap ((i : Int) + 1)) = ((i : Int) + 1) from wrap_id (by omega) (by omega)]) (by kernel_rfl) ?_
 refine kED [1,2,3,4,8,9,10,11,12] [] ?_
 exact ⟨⟨(i + 1,sl),⟨hlti,hl,(by rw [textN,← HS,textStep_eq]; first | (rw [if_pos (by refine ⟨by omega,by omega,?_⟩; rw [hsx]; omega)]) | (rw [if_neg (by intro hh; have hh1 := hh.1; have hh2 := hh.2.1; have hh3 := hh.2.2; (try rw [hsx] at hh3); omega)]))⟩⟩,kF 3 0 [1,2,3,4,8,9,10,11,12],by show (fun (i : Nat) (sl : List Int) => text.size - i) (i + 1) sl < text.size - i; (dsimp only; omega)⟩
 have h6p := of_decide_eq_false h6
 refine kED [1,2,3,4,8,9,10,11,12,13,64] [(64,.v (.bool false))] ?_
 refine kN ?_
 refine kK ?_
 refine kG ?_
 refine kRD 3 [1,2,3,4,8,9,10,11,12] [(12,.v (.int .i64 (IntKind.i64.wrap ((i : Int) + 1))))] ?_
 refine xl_nv [1,2,3,4,8,9,10,11,12] [(12,.v (.int .i64 (IntKind.i64.wrap ((i : Int) + 1))))] [(12,.v (.int .i64 ((i : Int) + 1)))] (by rw [show (IntKind.i64.wrap ((i : Int) + 1)) = ((i : Int) + 1) from wrap_id (by omega) (by omega)]) (by kernel_rfl) ?_
 refine kED [1,2,3,4,8,9,10,11,12] [] ?_
 exact ⟨⟨(i + 1,sl),⟨hlti,hl,(by rw [textN,← HS,textStep_eq]; first | (rw [if_pos (by refine ⟨by omega,by omega,?_⟩; rw [hsx]; omega)]) | (rw [if_neg (by intro hh; have hh1 := hh.1; have hh2 := hh.2.1; have hh3 := hh.2.2; (try rw [hsx] at hh3); omega)]))⟩⟩,kF 3 0 [1,2,3,4,8,9,10,11,12],by show (fun (i : Nat) (sl : List Int) => text.size - i) (i + 1) sl < text.size - i; (dsimp only; omega)⟩
 have h5p := of_decide_eq_false h5
 have hti : i = text.size := by simp at h5; omega
 subst hti
 have hall : sl = allIn r seq text := HS
 have hby : ∀ x ∈ sl,x ≤ 255 := by rw [hall]; exact allIn_le _ _ _
 refine xw_exit ?_
 refine kS ?_
 refine xe_region0 [] (by kernel_rfl) (fun ρ σ => ?_)
 refine kTS [0,1,2,4,5] [77,74,72,3,4,8,9,10,11] 4 [(77,.v (.int .i64 r.next)),(74,.v (.int .i64 (text.size : Int))),(72,.v (.int .i64 seq)),(3,.v (.bool fin)),(4,.p 0 0),(8,.p 1 0),(9,.p 2 0),(10,.v (.int .i64 (wO r))),(11,.v (.slice v4a ((slotsOf r).length) v4c))] ?_
 refine kA [3] ?_
 refine kSC 3 120 [.int .i64 seq,.int .i64 (text.size : Int)] (some 75) rfl (xc_s fun ww hf => sSeqAdd_c seq (text.size : Int) ww ) ?_
 intro _
 refine kTS [6] [78,3,4,8,9,10,11] 2 [(78,.v (.int .i64 (IntKind.i64.wrap ((sA seq (text.size : Int)) - r.next)))),(3,.v (.bool fin)),(4,.p 0 0),(8,.p 1 0),(9,.p 2 0),(10,.v (.int .i64 (wO r))),(11,.v (.slice v4a ((slotsOf r).length) v4c))] ?_
 refine xe_nv [78,3,4,8,9,10,11] [(78,.v (.int .i64 (IntKind.i64.wrap ((sA seq (text.size : Int)) - r.next))))] [(78,.v (.int .i64 ((sA seq (text.size : Int)) - r.next)))] (by rw [show (IntKind.i64.wrap ((sA seq (text.size : Int)) - r.next)) = ((sA seq (text.size : Int)) - r.next) from wrap_id (by omega) (by omega)]) (by kernel_rfl) ?_
 refine kA [7] ?_
 refine kSC 7 122 [.int .i64 ((sA seq (text.size : Int)) - r.next)] (some 79) rfl (xc_s fun ww hf => sRest_c ((sA seq (text.size : Int)) - r.next) ww ) ?_
 intro _
 refine xe_nv [79,78,3,4,8,9,10,11] [(79,.v (.int .i64 (((sA seq (text.size : Int)) - r.next) % 4294967296)))] [(79,.v (.int .i64 ((offN r seq text.size : Nat) : Int)))] (by rw [show (((sA seq (text.size : Int)) - r.next) % 4294967296) = ((offN r seq text.size : Nat) : Int) from offN_eq r seq text.size]) (by kernel_rfl) ?_
 refine kTS [8] [14,3,4,8,9,10,11] 0 [(14,.v (.int .i64 ((offN r seq text.size : Nat) : Int))),(3,.v (.bool fin)),(4,.p 0 0),(8,.p 1 0),(9,.p 2 0),(10,.v (.int .i64 (wO r))),(11,.v (.slice v4a ((slotsOf r).length) v4c))] ?_
 refine kZ ?_
 refine kS ?_
 refine xw_joinF (α := {zz : Int // (fun (fo : Int) => fo = finIn r seq text fin ∧ (-1 ≤ fo ∧ fo ≤ 32)) zz}) (fun zz => (fun (fo : Int) => (⟨[(4,.p 0 0),(8,.p 1 0),(9,.p 2 0),(11,.v (.slice v4a ((slotsOf r).length) v4c))],[⟨41,rcvL r (.slice Arh r.held.length Crh)⟩,⟨41,rcvZ⟩,⟨41,rcvL { r with fin := fo } (.slice v1a r.held.length v1c)⟩],[],[rowF w.heap.size 3 1 (.slice v4a ((slotsOf r).length) v4c) (sl.map intRow),rowF w.heap.size 85 2 (.slice v1a r.held.length v1c) (r.held.map pC),slF (.slice Arh r.held.length Crh) 2 (r.held.map pC)]⟩ : St)) zz.1) ?_ ?_
 refine kQ ?_
 refine kRD 2 [4,8,9,10,11,14,81] [(81,.v (.bool fin))] ?_
 refine kP 81 (fin) (fun h11 => ?_) (fun h11 => ?_)
 refine kRD 5 [4,8,9,10,11,14,86] [(86,.v (.bool (decide (r.fin < 0))))] ?_
 refine kP 86 (decide (r.fin < 0)) (fun h12 => ?_) (fun h12 => ?_)
 have h12p := of_decide_eq_true h12
 refine kRD 5 [4,8,9,11,14,91] [(91,.v (.bool (decide (((offN r seq text.size : Nat) : Int) ≤ (wO r)))))] ?_
 refine kP 91 (decide (((offN r seq text.size : Nat) : Int) ≤ (wO r))) (fun h13 => ?_) (fun h13 => ?_)
 have h13p := of_decide_eq_true h13
 refine kCD 2 [4,8,9,11,14,91,92,93] [(91,.v (.bool true)),(92,.v (.slice v4a ((slotsOf r).length) v4c)),(93,.v (.int .i64 ((offN r seq text.size : Nat) : Int)))] 123 [.slice v4a ((slotsOf r).length) v4c,.int .i64 ((offN r seq text.size : Nat) : Int)] (some 94) rfl (xc_b fun ww hf => yl18Free_c sl (.slice v4a ((slotsOf r).length) v4c) (offN r seq text.size : Nat) ww (rowF_sl (hf _ m0)) (by omega)) ?_
 intro _
 refine kED [4,8,9,11,14,95] [(95,.v (.bool (freeFrom sl (offN r seq text.size : Nat))))] ?_
 refine kC ((freeFrom sl (offN r seq text.size : Nat))) (fun h14 => ?_) (fun h14 => ?_)
 refine kG ?_
 refine kEU [4,8,9,11] [] 2 ⟨41,rcvL { r with fin := ((offN r seq text.size : Nat) : Int) } (.slice v1a r.held.length v1c)⟩ ?_
 exact ⟨⟨(((offN r seq text.size : Nat) : Int)),⟨(by unfold finIn; rw [← hall]; first | (simp [*]; done) | grind),(by first | omega | (have := hf3; omega))⟩⟩,kF 3 0 [4,8,9,11]⟩
 refine kK ?_
 exact ⟨⟨(r.fin),⟨(by unfold finIn; rw [← hall]; first | (simp [*]; done) | grind),(by first | omega | (have := hf3; omega))⟩⟩,kF 3 0 [4,8,9,11]⟩
 have h13p := of_decide_eq_false h13
 refine kED [4,8,9,11,14,95] [(95,.v (.bool false))] ?_
 refine kN ?_
 refine kK ?_
 exact ⟨⟨(r.fin),⟨(by unfold finIn; rw [← hall]; first | (simp [*]; done) | grind),(by first | omega | (have := hf3; omega))⟩⟩,kF 3 0 [4,8,9,11]⟩
 have h12p := of_decide_eq_false h12
 refine kED [4,8,9,11,14,95] [(95,.v (.bool false))] ?_
 refine kN ?_
 refine kK ?_
 exact ⟨⟨(r.fin),⟨(by unfold finIn; rw [← hall]; first | (simp [*]; done) | grind),(by first | omega | (have := hf3; omega))⟩⟩,kF 3 0 [4,8,9,11]⟩
 refine kED [4,8,9,11,14,95] [(95,.v (.bool false))] ?_
 refine kN ?_
 refine kK ?_
 exact ⟨⟨(r.fin),⟨(by unfold finIn; rw [← hall]; first | (simp [*]; done) | grind),(by first | omega | (have := hf3; omega))⟩⟩,kF 3 0 [4,8,9,11]⟩
 rintro ⟨fo,hfo,hfb⟩
 try dsimp only
 try dsimp only at hfo hfb
 refine kQ ?_
 refine kED [4,8,9,11,15] [(15,.v (.int .i64 0))] ?_
 refine kQ ?_
 refine kHD 0 [4,8,9,11,15] [] rfl (hv_build (e := 5) (K := 1) (bytes := 1) [] rfl (by kernel_rfl) (by kernel_rfl) (by kernel_rfl) (by kernel_rfl) (by kernel_rfl) (rs := ([] : List Int).map bR) rfl) ?_
 intro g15
 refine kED [4,8,9,11,15,16] [(16,.v (.slice (some ⟨g15,0,none⟩) 0 0))] ?_
 refine kS ?_
 refine xw_joinF (α := {zz : Nat × List Int × Option Addr × Nat // (fun (n2 : Nat) (gt : List Int) (A2 : Option Addr) (c2 : Nat) => n2 = filled sl ∧ gt = sl.take n2 ∧ n2 ≤ 33) zz.1 zz.2.1 zz.2.2.1 zz.2.2.2}) (fun zz => (fun (n2 : Nat) (gt : List Int) (A2 : Option Addr) (c2 : Nat) => (⟨[(4,.p 0 0),(8,.p 1 0),(9,.p 2 0),(11,.v (.slice v4a ((slotsOf r).length) v4c)),(15,.v (.int .i64 (n2 : Int))),(16,.v (.slice A2 gt.length c2))],[⟨41,rcvL r (.slice Arh r.held.length Crh)⟩,⟨41,rcvZ⟩,⟨41,rcvL { r with fin := fo } (.slice v1a r.held.length v1c)⟩],[],[rowF w.heap.size 5 1 (.slice A2 gt.length c2) (gt.map bR),rowF w.heap.size 3 1 (.slice v4a ((slotsOf r).length) v4c) (sl.map intRow),rowF w.heap.size 85 2 (.slice v1a r.held.length v1c) (r.held.map pC),slF (.slice Arh r.held.length Crh) 2 (r.held.map pC)]⟩ : St)) zz.1.1 zz.1.2.1 zz.1.2.2.1 zz.1.2.2.2) ?_ ?_
 refine xw_block ?_
 refine xw_loopW (α := {x : Nat × List Int × Option Addr × Nat // (fun (n2 : Nat) (gt : List Int) (A2 : Option Addr) (c2 : Nat) => n2 ≤ 33 ∧ gt = sl.take n2 ∧ (∀ x ∈ sl.take n2,0 ≤ x)) x.1 x.2.1 x.2.2.1 x.2.2.2}) (fun x => (fun (n2 : Nat) (gt : List Int) (A2 : Option Addr) (c2 : Nat) => (⟨[(4,.p 0 0),(8,.p 1 0),(9,.p 2 0),(11,.v (.slice v4a ((slotsOf r).length) v4c)),(15,.v (.int .i64 (n2 : Int))),(16,.v (.slice A2 gt.length c2))],[⟨41,rcvL r (.slice Arh r.held.length Crh)⟩,⟨41,rcvZ⟩,⟨41,rcvL { r with fin := fo } (.slice v1a r.held.length v1c)⟩],[],[rowF w.heap.size 5 1 (.slice A2 gt.length c2) (gt.map bR),rowF w.heap.size 3 1 (.slice v4a ((slotsOf r).length) v4c) (sl.map intRow),rowF w.heap.size 85 2 (.slice v1a r.held.length v1c) (r.held.map pC),slF (.slice Arh r.held.length Crh) 2 (r.held.map pC)]⟩ : St)) x.1.1 x.1.2.1 x.1.2.2.1 x.1.2.2.2) (fun x => (fun (n2 : Nat) (gt : List Int) (A2 : Option Addr) (c2 : Nat) => 33 - n2) x.1.1 x.1.2.1 x.1.2.2.1 x.1.2.2.2) ⟨(0,([] : List Int),(some ⟨g15,0,none⟩),0),⟨Nat.zero_le _,rfl,(by simp)⟩⟩ (kPk [0,1,2,3] <| kF 3 0 [4,8,9,11,15,16]) ?_
 rintro ⟨⟨n2,gt,A2,c2⟩,hn2,hg2,hps⟩
 try dsimp only
 try dsimp only at hn2 hg2 hps
 refine kS ?_
 refine kQ ?_
 refine kRD 5 [4,8,9,11,15,16,103] [(103,.v (.bool (decide ((n2 : Int) < (((slotsOf r).length : Nat) : Int)))))] ?_
 refine kP 103 (decide ((n2 : Int) < (((slotsOf r).length : Nat) : Int))) (fun h16 => ?_) (fun h16 => ?_)
 have h16p := of_decide_eq_true h16
 have hlt2 : n2 < 33 := by simp at h16; omega
 obtain ⟨y,hy⟩ : ∃ y,sl[n2]? = some y := ⟨_,List.getElem?_eq_getElem (by omega)⟩
 have hy255 := hby y (List.mem_of_getElem? hy)
 have hgl : gt.length ≤ 33 := by rw [hg2,List.length_take]; omega
 refine kOD 2 [4,8,9,11,15,16,103,104,105] [(103,.v (.bool true)),(104,.v (.slice v4a ((slotsOf r).length) v4c)),(105,.v (.int .i64 (n2 : Int)))] (.pointer (some ⟨gg,n2 * 1,none⟩)) rfl (fun _ _ _ ww hr => act_ix (kd := .i64) (T := 125) (e := 3) (K := 1) (g := gg) (N := ((slotsOf r).length)) (cap := v4c) n2 (hgg trivial) hr.1 rfl rfl (by kernel_rfl) (by kernel_rfl) (by kernel_rfl) (by omega) ww) ?_
 refine kOD 0 [4,8,9,11,15,16,103,106] [] (.int .i64 y) rfl (fun _ _ _ ww hr => ldR_run (po := 0) (j := n2) (row := [.int .i64 y]) (rowF w.heap.size 3 1 (.slice v4a ((slotsOf r).length) v4c) (sl.map intRow)) hr rfl (by kernel_rfl) (by simp) (by simp only [List.getElem?_map,hy]; rfl) (by kernel_rfl) (hgg trivial) rfl rfl) ?_
 refine kED [4,8,9,11,15,16,109] [(109,.v (.bool (decide (y ≥ 0))))] ?_
 refine kC (decide (y ≥ 0)) (fun h17 => ?_) (fun h17 => ?_)
 have h17p := of_decide_eq_true h17
 refine kK ?_
 refine xw_block ?_
 refine kQ ?_
 refine kOD 3 [4,8,9,11,15,16,110,111,112] [(110,.v (.slice A2 gt.length c2)),(111,.v (.slice v4a ((slotsOf r).length) v4c)),(112,.v (.int .i64 (n2 : Int)))] (.pointer (some ⟨gg,n2 * 1,none⟩)) rfl (fun _ _ _ ww hr => act_ix (kd := .i64) (T := 125) (e := 3) (K := 1) (g := gg) (N := ((slotsOf r).length)) (cap := v4c) n2 (hgg trivial) hr.1 rfl rfl (by kernel_rfl) (by kernel_rfl) (by kernel_rfl) (by omega) ww) ?_
 refine kOD 0 [4,8,9,11,15,16,110,113] [] (.int .i64 y) rfl (fun _ _ _ ww hr => ldR_run (po := 0) (j := n2) (row := [.int .i64 y]) (rowF w.heap.size 3 1 (.slice v4a ((slotsOf r).length) v4c) (sl.map intRow)) hr rfl (by kernel_rfl) (by simp) (by simp only [List.getElem?_map,hy]; rfl) (by kernel_rfl) (hgg trivial) rfl rfl) ?_
 refine kHD 1 [4,8,9,11,15,16,110,115] [(115,.v (.int .u8 (IntKind.u8.wrap y)))] rfl (hv_build (e := 5) (K := 1) (bytes := 1) [.int .u8 (IntKind.u8.wrap y)] rfl (by kernel_rfl) (by kernel_rfl) (by kernel_rfl) (by kernel_rfl) (by kernel_rfl) (rs := ([IntKind.u8.wrap y] : List Int).map bR) rfl) ?_
 intro g18
 refine kHS 0 [4,8,9,11,15,16,110,116] [(4,.p 0 0),(8,.p 1 0),(9,.p 2 0),(11,.v (.slice v4a ((slotsOf r).length) v4c)),(15,.v (.int .i64 (n2 : Int))),(16,.v (.slice A2 gt.length c2)),(110,.v (.slice A2 gt.length c2)),(116,.v (.slice (some ⟨g18,0,none⟩) 1 1))] rfl (hv_append (e := 5) (K := 1) (bytes := 1) (i := 1) (q := (gt ++ ([IntKind.u8.wrap y] : List Int)).length) (new := ([IntKind.u8.wrap y] : List Int).map bR) (rs' := (gt ++ ([IntKind.u8.wrap y] : List Int)).map bR) rfl rfl rfl rfl (by kernel_rfl) (by kernel_rfl) (by kernel_rfl) rfl (by simp) (by rw [List.map_append]) (by simp) (fun ww hf => (rowF_sl (hf (rowF w.heap.size 5 1 (.slice (some ⟨g18,0,none⟩) 1 1) (([IntKind.u8.wrap y] : List Int).map bR)) (by simp)))) (by intro r hr; obtain ⟨x,hx,rfl⟩ := List.mem_map.1 hr; exact ⟨rfl,by simp [bR,Value.oneCell']⟩) (by (try simp only [List.length_map,List.length_append,List.length_cons,List.length_nil,List.length_take,List.length_drop,maxLen]); omega) (by (try simp only [List.length_map,List.length_append,List.length_cons,List.length_nil,List.length_take,List.length_drop,maxLen]); omega)) ?_
 rintro ⟨v19a,v19c⟩
 refine kRS 1 [4,8,9,11,15,16] [(4,.p 0 0),(8,.p 1 0),(9,.p 2 0),(11,.v (.slice v4a ((slotsOf r).length) v4c)),(15,.v (.int .i64 (n2 : Int))),(16,.v (.slice v19a ((gt ++ ([IntKind.u8.wrap y] : List Int)).length) v19c))] ?_
 refine xl_eq (st' := ⟨[(4,.p 0 0),(8,.p 1 0),(9,.p 2 0),(11,.v (.slice v4a ((slotsOf r).length) v4c)),(15,.v (.int .i64 (n2 : Int))),(16,.v (.slice v19a ((gt ++ ([y] : List Int)).length) v19c))],[⟨41,rcvL r (.slice Arh r.held.length Crh)⟩,⟨41,rcvZ⟩,⟨41,rcvL { r with fin := fo } (.slice v1a r.held.length v1c)⟩],[],[rowF w.heap.size 5 1 (.slice v19a ((gt ++ ([y] : List Int)).length) v19c) ((gt ++ ([y] : List Int)).map bR),rowF w.heap.size 5 1 (.slice (some ⟨g18,0,none⟩) 1 1) (([y] : List Int).map bR),rowF w.heap.size 3 1 (.slice v4a ((slotsOf r).length) v4c) (sl.map intRow),rowF w.heap.size 85 2 (.slice v1a r.held.length v1c) (r.held.map pC),slF (.slice Arh r.held.length Crh) 2 (r.held.map pC)]⟩) (by rw [show (IntKind.u8.wrap y) = y from u8_id (by omega) (by omega)] <;> rfl) ?_
 refine kED [4,8,9,11,15,16] [] ?_
 refine kG ?_
 refine kRD 3 [4,8,9,11,15,16] [(15,.v (.int .i64 (IntKind.i64.wrap ((n2 : Int) + 1))))] ?_
 refine xl_nv [4,8,9,11,15,16] [(15,.v (.int .i64 (IntKind.i64.wrap ((n2 : Int) + 1))))] [(15,.v (.int .i64 ((n2 : Int) + 1)))] (by rw [show (IntKind.i64.wrap ((n2 : Int) + 1)) = ((n2 : Int) + 1) from wrap_id (by omega) (by omega)]) (by kernel_rfl) ?_
 refine kED [4,8,9,11,15,16] [] ?_
 exact ⟨⟨(n2 + 1,(gt ++ ([y] : List Int)),v19a,v19c),⟨(by omega),(by rw [hg2,take_more hy]),(take_pos hps hy (by omega))⟩⟩,kPk [0,2,3,4] <| kF 3 0 [4,8,9,11,15,16],by show (fun (n2 : Nat) (gt : List Int) (A2 : Option Addr) (c2 : Nat) => 33 - n2) (n2 + 1) (gt ++ ([y] : List Int)) v19a v19c < 33 - n2; (dsimp only; omega)⟩
 have h17p := of_decide_eq_false h17
 refine xw_exit ?_
 exact ⟨⟨(n2,gt,A2,c2),⟨(by first | exact (filled_stop (k := n2) (by omega) hps (fun z hz => by rw [hy] at hz; simp only [Option.some.injEq] at hz; omega)).symm | exact (filled_stop (k := n2) (by omega) hps (fun z hz => by rw [List.getElem?_eq_none (by omega)] at hz; simp at hz)).symm),hg2,hn2⟩⟩,kF 3 0 [4,8,9,11,15,16]⟩
 have h16p := of_decide_eq_false h16
 have hge2 : 33 ≤ n2 := by simp at h16; omega
 refine kED [4,8,9,11,15,16,109] [(109,.v (.bool false))] ?_
 refine kN ?_
 refine xw_exit ?_
 exact ⟨⟨(n2,gt,A2,c2),⟨(by first | exact (filled_stop (k := n2) (by omega) hps (fun z hz => by rw [hy] at hz; simp only [Option.some.injEq] at hz; omega)).symm | exact (filled_stop (k := n2) (by omega) hps (fun z hz => by rw [List.getElem?_eq_none (by omega)] at hz; simp at hz)).symm),hg2,hn2⟩⟩,kF 3 0 [4,8,9,11,15,16]⟩
 rintro ⟨⟨n2,gt,A2,c2⟩,hnf,hg2,hn2⟩
 try dsimp only
 try dsimp only at hnf hg2 hn2
 have hbl := bstr_len gt
 have hgl : gt.length ≤ 33 := by rw [hg2,List.length_take]; omega
 refine kQ ?_
 refine kOD 3 [4,8,9,11,15,121,122] [(121,.v (.string r.data)),(122,.v (.slice A2 gt.length c2))] (.string (bstr gt)) rfl (fun _ _ _ ww hr => act_b2s (e := 5) gt hr.1 rfl (by kernel_rfl) (by kernel_rfl) (by kernel_rfl) rfl (rowF_sl (hr.2.fact (rowF w.heap.size 5 1 (.slice A2 gt.length c2) (gt.map bR)) (by simp)).1)) ?_
 refine kOD 0 [4,8,9,11,15,121,123] [] (.string (r.data ++ (bstr gt))) rfl (fun _ _ _ ww hr => act_bin hr.1 rfl (by kernel_rfl) (by kernel_rfl) (str_add (by first | omega | (simp only [ByteArray.size_extract]; omega)) ww)) ?_
 refine kEU [4,8,9,11,15] [] 2 ⟨41,rcvL { r with data := r.data ++ (bstr gt),fin := fo } (.slice v1a r.held.length v1c)⟩ ?_
 refine kQ ?_
 refine kCD 3 [4,8,9,11,15,127,128] [(127,.v (.int .i64 r.next)),(128,.v (.int .i64 (n2 : Int)))] 120 [.int .i64 r.next,.int .i64 (n2 : Int)] (some 129) rfl (xc_s fun ww hf => sSeqAdd_c r.next (n2 : Int) ww ) ?_
 intro _
 refine kEU [4,8,9,11,15] [] 2 ⟨41,[.int .i64 (sA r.next (n2 : Int)),.string (r.data ++ (bstr gt)),.slice v1a r.held.length v1c,.int .i64 fo,.bool r.done]⟩ ?_
 refine kQ ?_
 refine kCD 2 [4,8,9,15,131,132] [(131,.v (.slice v4a ((slotsOf r).length) v4c)),(132,.v (.int .i64 (n2 : Int)))] 124 [.slice v4a ((slotsOf r).length) v4c,.int .i64 (n2 : Int)] (some 133) rfl (xc_r fun ww hw hf => yl18Pieces_c sl (.slice v4a ((slotsOf r).length) v4c) n2 ww (rowF_sl (hf _ m1)) (by omega) (by omega) (by assumption) w.heap.size hw) ?_
 rintro ⟨v20a,v20c⟩
 refine kEU [4,8,9,15] [] 2 ⟨41,[.int .i64 (sA r.next (n2 : Int)),.string (r.data ++ (bstr gt)),.slice v20a ((pcs [] 0 (sl.drop n2)).length) v20c,.int .i64 fo,.bool r.done]⟩ ?_
 refine kS ?_
 refine xw_joinF (α := {zz : Int // (fun (fp : Int) => fp = finOut r seq text fin) zz}) (fun zz => (fun (fp : Int) => (⟨[(4,.p 0 0),(8,.p 1 0),(9,.p 2 0)],[⟨41,rcvL r (.slice Arh r.held.length Crh)⟩,⟨41,rcvZ⟩,⟨41,[.int .i64 (sA r.next (n2 : Int)),.string (r.data ++ (bstr gt)),.slice v20a ((pcs [] 0 (sl.drop n2)).length) v20c,.int .i64 fp,.bool r.done]⟩],[],[rowF w.heap.size 85 2 (.slice v20a ((pcs [] 0 (sl.drop n2)).length) v20c) ((pcs [] 0 (sl.drop n2)).map pC),rowF w.heap.size 5 1 (.slice A2 gt.length c2) (gt.map bR),rowF w.heap.size 3 1 (.slice v4a ((slotsOf r).length) v4c) (sl.map intRow),rowF w.heap.size 85 2 (.slice v1a r.held.length v1c) (r.held.map pC),slF (.slice Arh r.held.length Crh) 2 (r.held.map pC)]⟩ : St)) zz.1) ?_ ?_
 refine kQ ?_
 refine kES [4,8,9,15,137] [(4,.p 0 0),(8,.p 1 0),(9,.p 2 0),(15,.v (.int .i64 (n2 : Int))),(137,.v (.bool (decide (fo ≥ 0))))] ?_
 refine kC (decide (fo ≥ 0)) (fun h21 => ?_) (fun h21 => ?_)
 have h21p := of_decide_eq_true h21
 refine kG ?_
 refine kRB 6 [4,8,9] [(4,.p 0 0),(8,.p 1 0),(9,.p 2 0)] [⟨41,rcvL r (.slice Arh r.held.length Crh)⟩,⟨41,rcvZ⟩,⟨41,[.int .i64 (sA r.next (n2 : Int)),.string (r.data ++ (bstr gt)),.slice v20a ((pcs [] 0 (sl.drop n2)).length) v20c,.int .i64 (IntKind.i64.wrap (fo - (n2 : Int))),.bool r.done]⟩] ?_
 refine xl_eq (st' := ⟨[(4,.p 0 0),(8,.p 1 0),(9,.p 2 0)],[⟨41,rcvL r (.slice Arh r.held.length Crh)⟩,⟨41,rcvZ⟩,⟨41,[.int .i64 (sA r.next (n2 : Int)),.string (r.data ++ (bstr gt)),.slice v20a ((pcs [] 0 (sl.drop n2)).length) v20c,.int .i64 (fo - (n2 : Int)),.bool r.done]⟩],[],[rowF w.heap.size 85 2 (.slice v20a ((pcs [] 0 (sl.drop n2)).length) v20c) ((pcs [] 0 (sl.drop n2)).map pC),rowF w.heap.size 5 1 (.slice A2 gt.length c2) (gt.map bR),rowF w.heap.size 3 1 (.slice v4a ((slotsOf r).length) v4c) (sl.map intRow),rowF w.heap.size 85 2 (.slice v1a r.held.length v1c) (r.held.map pC),slF (.slice Arh r.held.length Crh) 2 (r.held.map pC)]⟩) (by rw [show (IntKind.i64.wrap (fo - (n2 : Int))) = (fo - (n2 : Int)) from wrap_id (by omega) (by omega)] <;> rfl) ?_
 refine kED [4,8,9] [] ?_
 exact ⟨⟨(fo - (n2 : Int)),(by unfold finOut; rw [← hall,← hnf,← hfo]; first | rw [if_pos (by omega)] | rw [if_neg (by omega)])⟩,kF 3 0 [4,8,9]⟩
 have h21p := of_decide_eq_false h21
 refine kK ?_
 exact ⟨⟨(fo),(by unfold finOut; rw [← hall,← hnf,← hfo]; first | rw [if_pos (by omega)] | rw [if_neg (by omega)])⟩,kF 3 0 [4,8,9]⟩
 rintro ⟨fp,hfp⟩
 try dsimp only
 try dsimp only at hfp
 refine kS ?_
 refine kQ ?_
 refine kES [4,8,9,145] [(4,.p 0 0),(8,.p 1 0),(9,.p 2 0),(145,.v (.bool (fp == 0)))] ?_
 refine kC (fp == 0) (fun h22 => ?_) (fun h22 => ?_)
 have h22p := eqT h22
 refine kQ ?_
 refine kEU [4,8,9] [] 2 ⟨41,[.int .i64 (sA r.next (n2 : Int)),.string (r.data ++ (bstr gt)),.slice v20a ((pcs [] 0 (sl.drop n2)).length) v20c,.int .i64 (-1),.bool r.done]⟩ ?_
 refine kQ ?_
 refine kEU [4,8,9] [] 2 ⟨41,[.int .i64 (sA r.next (n2 : Int)),.string (r.data ++ (bstr gt)),.slice v20a ((pcs [] 0 (sl.drop n2)).length) v20c,.int .i64 (-1),.bool true]⟩ ?_
 refine kG ?_
 refine kCD 2 [4,8,9,149] [(149,.v (.int .i64 (sA r.next (n2 : Int))))] 120 [.int .i64 (sA r.next (n2 : Int)),.int .i64 1] (some 150) rfl (xc_s fun ww hf => sSeqAdd_c (sA r.next (n2 : Int)) 1 ww ) ?_
 intro _
 refine kEU [4,8,9] [] 2 ⟨41,[.int .i64 (sA (sA r.next (n2 : Int)) 1),.string (r.data ++ (bstr gt)),.slice v20a ((pcs [] 0 (sl.drop n2)).length) v20c,.int .i64 (-1),.bool true]⟩ ?_
 refine kS ?_
 refine kQ ?_
 refine kED [4,8,9,155] [(155,.v (.bool (decide ((((pcs [] 0 (sl.drop n2)).length : Nat) : Int) > 3))))] ?_
 refine kC (decide ((((pcs [] 0 (sl.drop n2)).length : Nat) : Int) > 3)) (fun h23 => ?_) (fun h23 => ?_)
 have h23p := of_decide_eq_true h23
 refine kQ ?_
 refine kCD 1 [8,156] [(156,.v (.agg (rcvL r (.slice Arh r.held.length Crh)).toArray))] 86 [.agg (rcvL r (.slice Arh r.held.length Crh)).toArray] (some 157) rfl (xc_r fun ww hw hf => yl18Copy_c r (.slice Arh r.held.length Crh) ww (hf _ m4) (by assumption) w.heap.size hw) ?_
 rintro ⟨v24a,v24c⟩
 refine kEU [8] [(8,.p 1 0)] 1 ⟨41,rcvL r (.slice v24a r.held.length v24c)⟩ ?_
 refine kR ?_
 have hmod : arrived r seq text fin = r := by first | exact arrived_over hrk (by assumption) (by rw [← hall,← hnf]; omega) | (unfold arrived; rw [if_neg (by grind)]; done) | (unfold arrived; rw [if_pos (by grind),← hall,← hnf,← hg2,← hfp]; first | (rw [if_pos (by omega)]; done) | (rw [if_neg (by omega),if_pos (by first | omega | simp_all)]; done) | (rw [if_neg (by omega),if_neg (by first | omega | simp_all)]; done))
 exact ⟨[.agg (rcvL r (.slice v24a r.held.length v24c)).toArray],by kernel_rfl,fun w' hb hf ha => by rw [hmod]; exact xo1 ((v24a,v24c)) rfl rfl (pW (hf _ m0) hB) hb⟩
 have h23p := of_decide_eq_false h23
 refine kK ?_
 refine kQ ?_
 refine kEU [8] [(8,.p 1 0)] 1 ⟨41,[.int .i64 (sA (sA r.next (n2 : Int)) 1),.string (r.data ++ (bstr gt)),.slice v20a ((pcs [] 0 (sl.drop n2)).length) v20c,.int .i64 (-1),.bool true]⟩ ?_
 refine kR ?_
 have hmod : arrived r seq text fin = (⟨sA (sA r.next (n2 : Int)) 1,r.data ++ (bstr gt),(pcs [] 0 (sl.drop n2)),(-1),true⟩) := by first | exact arrived_over hrk (by assumption) (by rw [← hall,← hnf]; omega) | (unfold arrived; rw [if_neg (by grind)]; done) | (unfold arrived; rw [if_pos (by grind),← hall,← hnf,← hg2,← hfp]; first | (rw [if_pos (by omega)]; done) | (rw [if_neg (by omega),if_pos (by first | omega | simp_all)]; done) | (rw [if_neg (by omega),if_neg (by first | omega | simp_all)]; done))
 exact ⟨[.agg #[.int .i64 (sA (sA r.next (n2 : Int)) 1),.string (r.data ++ (bstr gt)),.slice v20a ((pcs [] 0 (sl.drop n2)).length) v20c,.int .i64 (-1),.bool true]],by kernel_rfl,fun w' hb hf ha => by rw [hmod]; exact xo1 ((v20a,v20c)) rfl rfl (pW (hf _ m0) hB) hb⟩
 have h22p := eqF h22
 refine kK ?_
 refine kS ?_
 refine kQ ?_
 refine kED [4,8,9,155] [(155,.v (.bool (decide ((((pcs [] 0 (sl.drop n2)).length : Nat) : Int) > 3))))] ?_
 refine kC (decide ((((pcs [] 0 (sl.drop n2)).length : Nat) : Int) > 3)) (fun h25 => ?_) (fun h25 => ?_)
 have h25p := of_decide_eq_true h25
 refine kQ ?_
 refine kCD 1 [8,156] [(156,.v (.agg (rcvL r (.slice Arh r.held.length Crh)).toArray))] 86 [.agg (rcvL r (.slice Arh r.held.length Crh)).toArray] (some 157) rfl (xc_r fun ww hw hf => yl18Copy_c r (.slice Arh r.held.length Crh) ww (hf _ m4) (by assumption) w.heap.size hw) ?_
 rintro ⟨v26a,v26c⟩
 refine kEU [8] [(8,.p 1 0)] 1 ⟨41,rcvL r (.slice v26a r.held.length v26c)⟩ ?_
 refine kR ?_
 have hmod : arrived r seq text fin = r := by first | exact arrived_over hrk (by assumption) (by rw [← hall,← hnf]; omega) | (unfold arrived; rw [if_neg (by grind)]; done) | (unfold arrived; rw [if_pos (by grind),← hall,← hnf,← hg2,← hfp]; first | (rw [if_pos (by omega)]; done) | (rw [if_neg (by omega),if_pos (by first | omega | simp_all)]; done) | (rw [if_neg (by omega),if_neg (by first | omega | simp_all)]; done))
 exact ⟨[.agg (rcvL r (.slice v26a r.held.length v26c)).toArray],by kernel_rfl,fun w' hb hf ha => by rw [hmod]; exact xo1 ((v26a,v26c)) rfl rfl (pW (hf _ m0) hB) hb⟩
 have h25p := of_decide_eq_false h25
 refine kK ?_
 refine kQ ?_
 refine kEU [8] [(8,.p 1 0)] 1 ⟨41,[.int .i64 (sA r.next (n2 : Int)),.string (r.data ++ (bstr gt)),.slice v20a ((pcs [] 0 (sl.drop n2)).length) v20c,.int .i64 fp,.bool r.done]⟩ ?_
 refine kR ?_
 have hmod : arrived r seq text fin = (⟨sA r.next (n2 : Int),r.data ++ (bstr gt),(pcs [] 0 (sl.drop n2)),fp,r.done⟩) := by first | exact arrived_over hrk (by assumption) (by rw [← hall,← hnf]; omega) | (unfold arrived; rw [if_neg (by grind)]; done) | (unfold arrived; rw [if_pos (by grind),← hall,← hnf,← hg2,← hfp]; first | (rw [if_pos (by omega)]; done) | (rw [if_neg (by omega),if_pos (by first | omega | simp_all)]; done) | (rw [if_neg (by omega),if_neg (by first | omega | simp_all)]; done))
 exact ⟨[.agg #[.int .i64 (sA r.next (n2 : Int)),.string (r.data ++ (bstr gt)),.slice v20a ((pcs [] 0 (sl.drop n2)).length) v20c,.int .i64 fp,.bool r.done]],by kernel_rfl,fun w' hb hf ha => by rw [hmod]; exact xo1 ((v20a,v20c)) rfl rfl (pW (hf _ m0) hB) hb⟩
theorem ysAcked_c (s : Snd) (ack : Int) (w : World)  : Calls Tryz.prog 74 #[.agg (sndL s).toArray, .int .i64 ack] w fun e w' => e = .returned (.tuple #[.agg (sndL (acked s ack).1).toArray, .bool ((acked s ack).2)]) ∧ Below w.heap.size w w' := by
 refine x_calls (args := [.agg (sndL s).toArray,.int .i64 ack]) (fn := Tryz.f74) [] Tryz.func74 rfl Tryz.ntmps74 rfl (by simp) ?_
 refine kQ ?_
 refine kEF [1,2,4] ⟨[(1,.v (.int .i64 ack)),(2,.p 0 0),(4,.p 1 0)],[⟨38,sndL s⟩,⟨38,sndZ⟩],[],[]⟩ ?_
 refine kQ ?_
 refine kCD 3 [2,4,8,10] [(8,.v (.int .i64 ack)),(10,.v (.int .i64 s.una))] 119 [.int .i64 ack,.int .i64 s.una] (some 11) rfl (xc_s fun ww hf => sSeqDiff_c ack s.una ww ) ?_
 intro _
 refine kED [2,4,6] [(6,.v (.int .i64 (seqDiff ack s.una)))] ?_
 refine kS ?_
 refine kQ ?_
 refine kCD 1 [2,4,6,12] [(12,.v (.agg (sndL s).toArray))] 64 [.agg (sndL s).toArray] (some 13) rfl (xc_b fun ww hf => sSenderOk_c s.una s.data s.sent s.fin s.finSent s.done ww ) ?_
 intro _
 refine kRD 2 [2,4,6,15] [(15,.v (.bool (!(senderOk s))))] ?_
 refine kP 15 (!(senderOk s)) (fun h1 => ?_) (fun h1 => ?_)
 have h1n := not_t h1
 refine kED [2,4,6,21] [(21,.v (.bool true))] ?_
 refine kT ?_
 refine kQ ?_
 refine kEU [4,5] [(5,.v (.bool false))] 1 ⟨38,sndL s⟩ ?_
 refine kR ?_
 have hmod : acked s ack = (s,false) := by first | rfl | (simp [acked, *]; done) | (cases hfs : s.finSent <;> grind [acked])
 exact ⟨[.agg (sndL s).toArray,.bool false],by kernel_rfl,fun w' hb hf => by rw [hmod]; exact ⟨rfl,hb⟩⟩
 have h1n := not_f h1
 have h1nb := senderOk_bd (s := s) (by simpa using h1n)
 obtain ⟨h1nb0,h1nb1,h1nb2,h1nb3,h1nb4,h1nb5,h1nb6,h1nb7,h1nb8,h1nb9,h1nb10⟩ := h1nb
 refine kCD 2 [2,4,6,15,16,17] [(15,.v (.bool false)),(16,.v (.int .i64 (seqDiff ack s.una))),(17,.v (.agg (sndL s).toArray))] 77 [.agg (sndL s).toArray] (some 18) rfl (xc_b fun ww hf => sFlown_c s.una s.data s.sent s.fin s.finSent s.done ww ) ?_
 intro _
 refine kCD 0 [2,4,6,15,16,18] [] 67 [.int .i64 (seqDiff ack s.una),.int .i64 0,.int .i64 (flown s)] (some 19) rfl (xc_s fun ww hf => l1In_c (seqDiff ack s.una) 0 (flown s) ww ) ?_
 intro _
 refine kED [2,4,6,21] [(21,.v (.bool (!(inB (seqDiff ack s.una) 0 (flown s)))))] ?_
 refine kC (!(inB (seqDiff ack s.una) 0 (flown s))) (fun h2 => ?_) (fun h2 => ?_)
 have h2n := not_t h2
 have h2ni := inB_ff.1 (show inB (seqDiff ack s.una) 0 (flown s) = false from by simpa using h2n)
 refine kQ ?_
 refine kEU [4,5] [(5,.v (.bool false))] 1 ⟨38,sndL s⟩ ?_
 refine kR ?_
 have hmod : acked s ack = (s,false) := by first | rfl | (simp [acked, *]; done) | (cases hfs : s.finSent <;> grind [acked])
 exact ⟨[.agg (sndL s).toArray,.bool false],by kernel_rfl,fun w' hb hf => by rw [hmod]; exact ⟨rfl,hb⟩⟩
 have h2n := not_f h2
 have h2ni := inB_tt.1 (show inB (seqDiff ack s.una) 0 (flown s) = true from by simpa using h2n)
 refine kK ?_
 refine kQ ?_
 refine kEA [2,4,6,7] [(7,.p 2 0)] [⟨38,sndL s⟩] ?_
 refine kQ ?_
 refine kCD 3 [2,4,6,7,25,26] [(25,.v (.int .i64 s.una)),(26,.v (.int .i64 (seqDiff ack s.una)))] 120 [.int .i64 s.una,.int .i64 (seqDiff ack s.una)] (some 27) rfl (xc_s fun ww hf => sSeqAdd_c s.una (seqDiff ack s.una) ww ) ?_
 intro _
 refine kEU [2,4,6,7] [] 2 ⟨38,sndL { s with una := sA s.una (seqDiff ack s.una) }⟩ ?_
 refine kS ?_
 refine kQ ?_
 refine kES [2,4,6,7,32] [(2,.p 0 0),(4,.p 1 0),(6,.v (.int .i64 (seqDiff ack s.una))),(7,.p 2 0),(32,.v (.bool (decide ((seqDiff ack s.una) > s.sent))))] ?_
 refine kC (decide ((seqDiff ack s.una) > s.sent)) (fun h3 => ?_) (fun h3 => ?_)
 have h3p := of_decide_eq_true h3
 refine kQ ?_
 refine kEU [2,4,7] [] 2 ⟨38,sndL { s with una := sA s.una (seqDiff ack s.una),finSent := false }⟩ ?_
 refine kQ ?_
 refine kEU [2,4,7] [] 2 ⟨38,sndL { s with una := sA s.una (seqDiff ack s.una),finSent := false,done := true }⟩ ?_
 refine kG ?_
 refine kED [2,4,6,7] [(6,.v (.int .i64 s.sent))] ?_
 refine kQ ?_
 refine kOD 3 [2,4,6,7,38,39] [(38,.v (.string s.data)),(39,.v (.int .i64 s.sent))] (.string (s.data.extract (s.sent).toNat s.data.size)) rfl (fun _ _ _ ww hr => act_slSe (s.sent) hr.1 rfl (by kernel_rfl) rfl rfl (by omega) (by omega) ww) ?_
 refine kEU [2,4,6,7] [] 2 ⟨38,[.int .i64 (sA s.una (seqDiff ack s.una)),.string (s.data.extract (s.sent).toNat s.data.size),.int .i64 s.sent,.bool s.fin,.bool false,.bool true]⟩ ?_
 refine kQ ?_
 refine kRF 6 [4,7] ⟨[(4,.p 1 0),(7,.p 2 0)],[⟨38,sndL s⟩,⟨38,sndZ⟩,⟨38,[.int .i64 (sA s.una (seqDiff ack s.una)),.string (s.data.extract (s.sent).toNat s.data.size),.int .i64 (IntKind.i64.wrap (s.sent - s.sent)),.bool s.fin,.bool false,.bool true]⟩],[],[]⟩ ?_
 refine xl_eq (st' := ⟨[(4,.p 1 0),(7,.p 2 0)],[⟨38,sndL s⟩,⟨38,sndZ⟩,⟨38,[.int .i64 (sA s.una (seqDiff ack s.una)),.string (s.data.extract (s.sent).toNat s.data.size),.int .i64 (s.sent - s.sent),.bool s.fin,.bool false,.bool true]⟩],[],[]⟩) (by rw [show (IntKind.i64.wrap (s.sent - s.sent)) = (s.sent - s.sent) from wrap_id (by omega) (by omega)] <;> rfl) ?_
 refine kED [4,7] [] ?_
 refine kQ ?_
 refine kEU [4,5] [(5,.v (.bool true))] 1 ⟨38,[.int .i64 (sA s.una (seqDiff ack s.una)),.string (s.data.extract (s.sent).toNat s.data.size),.int .i64 (s.sent - s.sent),.bool s.fin,.bool false,.bool true]⟩ ?_
 refine kR ?_
 have hmod : acked s ack = ((⟨sA s.una (seqDiff ack s.una),s.data.extract (s.sent).toNat s.data.size,s.sent - s.sent,s.fin,false,true⟩),true) := by first | rfl | (simp [acked, *]; done) | (cases hfs : s.finSent <;> grind [acked])
 exact ⟨[.agg #[.int .i64 (sA s.una (seqDiff ack s.una)),.string (s.data.extract (s.sent).toNat s.data.size),.int .i64 (s.sent - s.sent),.bool s.fin,.bool false,.bool true],.bool true],by kernel_rfl,fun w' hb hf => by rw [hmod]; exact ⟨rfl,hb⟩⟩
 have h3p := of_decide_eq_false h3
 refine kK ?_
 refine kQ ?_
 refine kOD 3 [2,4,6,7,38,39] [(38,.v (.string s.data)),(39,.v (.int .i64 (seqDiff ack s.una)))] (.string (s.data.extract (seqDiff ack s.una).toNat s.data.size)) rfl (fun _ _ _ ww hr => act_slSe (seqDiff ack s.una) hr.1 rfl (by kernel_rfl) rfl rfl (by omega) (by omega) ww) ?_
 refine kEU [2,4,6,7] [] 2 ⟨38,sndL { s with una := sA s.una (seqDiff ack s.una),data := s.data.extract (seqDiff ack s.una).toNat s.data.size }⟩ ?_
 refine kQ ?_
 refine kRF 6 [4,7] ⟨[(4,.p 1 0),(7,.p 2 0)],[⟨38,sndL s⟩,⟨38,sndZ⟩,⟨38,sndL { s with una := sA s.una (seqDiff ack s.una),data := s.data.extract (seqDiff ack s.una).toNat s.data.size,sent := IntKind.i64.wrap (s.sent - (seqDiff ack s.una)) }⟩],[],[]⟩ ?_
 refine xl_eq (st' := ⟨[(4,.p 1 0),(7,.p 2 0)],[⟨38,sndL s⟩,⟨38,sndZ⟩,⟨38,sndL { s with una := sA s.una (seqDiff ack s.una),data := s.data.extract (seqDiff ack s.una).toNat s.data.size,sent := s.sent - (seqDiff ack s.una) }⟩],[],[]⟩) (by rw [show (IntKind.i64.wrap (s.sent - (seqDiff ack s.una))) = (s.sent - (seqDiff ack s.una)) from wrap_id (by omega) (by omega)] <;> rfl) ?_
 refine kED [4,7] [] ?_
 refine kQ ?_
 refine kEU [4,5] [(5,.v (.bool true))] 1 ⟨38,sndL { s with una := sA s.una (seqDiff ack s.una),data := s.data.extract (seqDiff ack s.una).toNat s.data.size,sent := s.sent - (seqDiff ack s.una) }⟩ ?_
 refine kR ?_
 have hmod : acked s ack = (({ s with una := sA s.una (seqDiff ack s.una),data := s.data.extract (seqDiff ack s.una).toNat s.data.size,sent := s.sent - (seqDiff ack s.una) }),true) := by first | rfl | (simp [acked, *]; done) | (cases hfs : s.finSent <;> grind [acked])
 exact ⟨[.agg (sndL { s with una := sA s.una (seqDiff ack s.una),data := s.data.extract (seqDiff ack s.una).toNat s.data.size,sent := s.sent - (seqDiff ack s.una) }).toArray,.bool true],by kernel_rfl,fun w' hb hf => by rw [hmod]; exact ⟨rfl,hb⟩⟩
theorem ysTakenIn_c (r : Rcv) (r_heldV : Value) (n : Int) (w : World) (hl_r_heldV : Sl w r_heldV 2 (r.held.map pC)) (hkn : r.held.length ≤ 1048576) (hm : ∀ p ∈ r.held, p.text.size ≤ 1048576) (hsz : r.data.size ≤ 4611686018427387904) (B : Nat) (hB : B ≤ w.heap.size) : Calls Tryz.prog 166 #[.agg (rcvL r r_heldV).toArray, .int .i64 n] w fun e w' => XRs w w' e (α := Option Addr × Nat) (fun y => .tuple #[.agg (rcvL (takenIn r n).1 (.slice y.1 ((takenIn r n).1.held.length) y.2)).toArray, .string ((takenIn r n).2)]) (fun y => [rowF B 85 2 (.slice y.1 ((takenIn r n).1.held.length) y.2) ((takenIn r n).1.held.map pC)]) := by
 obtain ⟨Arh,Crh,hvrh⟩ := hl_r_heldV.form
 rw [List.length_map] at hvrh; subst hvrh
 have hnrh := hl_r_heldV.len; rw [List.length_map] at hnrh
 have hqrh := Sl.capLe hl_r_heldV
 refine x_callsA (args := [.agg (rcvL r (.slice Arh r.held.length Crh)).toArray,.int .i64 n]) (fn := Tryz.f166) [slF (.slice Arh r.held.length Crh) 2 (r.held.map pC)] Tryz.func166 rfl Tryz.ntmps166 rfl (by simp only [List.mem_cons,List.not_mem_nil,or_false,forall_eq_or_imp,forall_eq]; exact ⟨rfl,hl_r_heldV⟩) ?_
 refine kQ ?_
 refine kEF [1,2,4] ⟨[(1,.v (.int .i64 n)),(2,.p 0 0),(4,.p 1 0)],[⟨41,rcvL r (.slice Arh r.held.length Crh)⟩,⟨41,rcvZ⟩],[],[slF (.slice Arh r.held.length Crh) 2 (r.held.map pC)]⟩ ?_
 refine kQ ?_
 refine kCS 1 [1,2,4,7] [(1,.v (.int .i64 n)),(2,.p 0 0),(4,.p 1 0),(7,.v (.agg (rcvL r (.slice Arh r.held.length Crh)).toArray))] 86 [.agg (rcvL r (.slice Arh r.held.length Crh)).toArray] (some 8) rfl (xc_r fun ww hw hf => yl18Copy_c r (.slice Arh r.held.length Crh) ww (hf _ m0) (by assumption) w.heap.size hw) ?_
 rintro ⟨v1a,v1c⟩
 refine kEF [1,2,4,6] ⟨[(1,.v (.int .i64 n)),(2,.p 0 0),(4,.p 1 0),(6,.p 2 0)],[⟨41,rcvL r (.slice Arh r.held.length Crh)⟩,⟨41,rcvZ⟩,⟨41,rcvL r (.slice v1a r.held.length v1c)⟩],[],[rowF w.heap.size 85 2 (.slice v1a r.held.length v1c) (r.held.map pC),slF (.slice Arh r.held.length Crh) 2 (r.held.map pC)]⟩ ?_
 refine kS ?_
 refine kQ ?_
 refine kCS 1 [1,2,4,6,9] [(1,.v (.int .i64 n)),(2,.p 0 0),(4,.p 1 0),(6,.p 2 0),(9,.v (.agg (rcvL r (.slice Arh r.held.length Crh)).toArray))] 65 [.agg (rcvL r (.slice Arh r.held.length Crh)).toArray] (some 10) rfl (xc_b fun ww hf => ysReceiverOk_c r (.slice Arh r.held.length Crh) ww (hf _ m1) (by assumption) (by omega)) ?_
 intro _
 refine kES [1,2,4,6,11] [(1,.v (.int .i64 n)),(2,.p 0 0),(4,.p 1 0),(6,.p 2 0),(11,.v (.bool (!(rO r))))] ?_
 refine kC (!(rO r)) (fun h2 => ?_) (fun h2 => ?_)
 have h2n := not_t h2
 refine kQ ?_
 refine kEF [4,5] ⟨[(4,.p 1 0),(5,.v (.string (⟨#[]⟩ : ByteArray)))],[⟨41,rcvL r (.slice Arh r.held.length Crh)⟩,⟨41,rcvL r (.slice v1a r.held.length v1c)⟩,⟨41,rcvL r (.slice v1a r.held.length v1c)⟩],[],[rowF w.heap.size 85 2 (.slice v1a r.held.length v1c) (r.held.map pC),slF (.slice Arh r.held.length Crh) 2 (r.held.map pC)]⟩ ?_
 refine kR ?_
 have hmod : takenIn r n = (r,(⟨#[]⟩ : ByteArray)) := by first | rfl | (simp [takenIn,cut, *]; done) | grind [takenIn,cut]
 exact ⟨[.agg (rcvL r (.slice v1a r.held.length v1c)).toArray,.string (⟨#[]⟩ : ByteArray)],by kernel_rfl,fun w' hb hf ha => by rw [hmod]; exact xo1 ((v1a,v1c)) rfl rfl (pW (hf _ m0) hB) hb⟩
 have h2n := not_f h2
 refine kK ?_
 refine kQ ?_
 refine kCS 4 [1,2,4,6,13,16] [(1,.v (.int .i64 n)),(2,.p 0 0),(4,.p 1 0),(6,.p 2 0),(13,.v (.int .i64 n)),(16,.v (.int .i64 (r.data.size : Int)))] 75 [.int .i64 n,.int .i64 (r.data.size : Int)] (some 17) rfl (xc_s fun ww hf => l1Min_c n (r.data.size : Int) ww ) ?_
 intro _
 refine kCS 0 [1,2,4,6,17] [(1,.v (.int .i64 n)),(2,.p 0 0),(4,.p 1 0),(6,.p 2 0),(17,.v (.int .i64 (min n (r.data.size : Int))))] 76 [.int .i64 0,.int .i64 (min n (r.data.size : Int))] (some 18) rfl (xc_s fun ww hf => l1Max_c 0 (min n (r.data.size : Int)) ww ) ?_
 intro _
 refine kES [1,2,4,6] [(1,.v (.int .i64 (max 0 (min n (r.data.size : Int))))),(2,.p 0 0),(4,.p 1 0),(6,.p 2 0)] ?_
 refine kQ ?_
 refine kOS 3 [1,2,4,6,20,21] [(1,.v (.int .i64 (max 0 (min n (r.data.size : Int))))),(2,.p 0 0),(4,.p 1 0),(6,.p 2 0),(20,.v (.string r.data)),(21,.v (.int .i64 (max 0 (min n (r.data.size : Int)))))] (.string (r.data.extract (max 0 (min n (r.data.size : Int))).toNat r.data.size)) rfl (fun _ _ _ ww hr => act_slSe (max 0 (min n (r.data.size : Int))) hr.1 rfl (by kernel_rfl) rfl rfl (by omega) (by omega) ww) ?_
 refine kEF [1,2,4,6] ⟨[(1,.v (.int .i64 (max 0 (min n (r.data.size : Int))))),(2,.p 0 0),(4,.p 1 0),(6,.p 2 0)],[⟨41,rcvL r (.slice Arh r.held.length Crh)⟩,⟨41,rcvZ⟩,⟨41,rcvL { r with data := r.data.extract (max 0 (min n (r.data.size : Int))).toNat r.data.size } (.slice v1a r.held.length v1c)⟩],[],[rowF w.heap.size 85 2 (.slice v1a r.held.length v1c) (r.held.map pC),slF (.slice Arh r.held.length Crh) 2 (r.held.map pC)]⟩ ?_
 refine kS ?_
 refine xe_region [true,false,true] (by kernel_rfl) (fun ρ σ => ?_)
 refine kTS [0,1,2,3] [27,26,24,4] 3 [(27,.v (.int .i64 (max 0 (min n (r.data.size : Int))))),(26,.v (.string r.data)),(24,.v (.agg (rcvL { r with data := r.data.extract (max 0 (min n (r.data.size : Int))).toNat r.data.size } (.slice v1a r.held.length v1c)).toArray)),(4,.p 1 0)] ?_
 refine kX 4 (.string (r.data.extract 0 (max 0 (min n (r.data.size : Int))).toNat)) rfl (fun _ _ ww hA => act_slS0 (max 0 (min n (r.data.size : Int))) hA rfl (by kernel_rfl) rfl rfl (by omega) (by omega) ww) ?_
 refine kA [5] ?_
 refine kSS 5 1 0 (rcvL { r with data := r.data.extract (max 0 (min n (r.data.size : Int))).toNat r.data.size } (.slice v1a r.held.length v1c)) rfl ?_
 refine kTS [6] [5,4] 0 [(5,.v (.string (r.data.extract 0 (max 0 (min n (r.data.size : Int))).toNat))),(4,.p 1 0)] ?_
 refine kZ ?_
 refine kR ?_
 have hmod : takenIn r n = (({ r with data := r.data.extract (max 0 (min n (r.data.size : Int))).toNat r.data.size }),(r.data.extract 0 (max 0 (min n (r.data.size : Int))).toNat)) := by first | rfl | (simp [takenIn,cut, *]; done) | grind [takenIn,cut]
 exact ⟨[.agg (rcvL { r with data := r.data.extract (max 0 (min n (r.data.size : Int))).toNat r.data.size } (.slice v1a r.held.length v1c)).toArray,.string (r.data.extract 0 (max 0 (min n (r.data.size : Int))).toNat)],by kernel_rfl,fun w' hb hf ha => by rw [hmod]; exact xo1 ((v1a,v1c)) rfl rfl (pW (hf _ m0) hB) hb⟩
theorem yiAcked_c (s : Snd) (ack : Int) (w : World)  : Calls Tryz.prog 69 #[.agg (sndL s).toArray, .int .i64 ack] w fun e w' => e = .returned (.tuple #[.agg (sndL (acked s ack).1).toArray, .bool ((acked s ack).2)]) ∧ Below w.heap.size w w' := by
 refine x_calls (args := [.agg (sndL s).toArray,.int .i64 ack]) (fn := Tryz.f69) [] Tryz.func69 rfl Tryz.ntmps69 rfl (by simp) ?_
 refine kQ ?_
 refine kEF [1,2,4] ⟨[(1,.v (.int .i64 ack)),(2,.p 0 0),(4,.p 1 0)],[⟨38,sndL s⟩,⟨38,sndZ⟩],[],[]⟩ ?_
 refine kQ ?_
 refine kCD 3 [2,4,9,11] [(9,.v (.int .i64 ack)),(11,.v (.int .i64 s.una))] 30 [.int .i64 ack,.int .i64 s.una] (some 12) rfl (xc_s fun ww hf => iSeqDiff_c ack s.una ww ) ?_
 intro _
 refine kED [2,4,6] [(6,.v (.int .i64 (seqDiff ack s.una)))] ?_
 refine kS ?_
 refine kQ ?_
 refine kCD 1 [2,4,6,13] [(13,.v (.agg (sndL s).toArray))] 59 [.agg (sndL s).toArray] (some 14) rfl (xc_b fun ww hf => iSenderOk_c s.una s.data s.sent s.fin s.finSent s.done ww ) ?_
 intro _
 refine kRD 2 [2,4,6,16] [(16,.v (.bool (!(senderOk s))))] ?_
 refine kP 16 (!(senderOk s)) (fun h1 => ?_) (fun h1 => ?_)
 have h1n := not_t h1
 refine kED [2,4,6,22] [(22,.v (.bool true))] ?_
 refine kT ?_
 refine kQ ?_
 refine kEU [4,5] [(5,.v (.bool false))] 1 ⟨38,sndL s⟩ ?_
 refine kR ?_
 have hmod : acked s ack = (s,false) := by first | rfl | (simp [acked, *]; done) | (cases hfs : s.finSent <;> grind [acked])
 exact ⟨[.agg (sndL s).toArray,.bool false],by kernel_rfl,fun w' hb hf => by rw [hmod]; exact ⟨rfl,hb⟩⟩
 have h1n := not_f h1
 have h1nb := senderOk_bd (s := s) (by simpa using h1n)
 obtain ⟨h1nb0,h1nb1,h1nb2,h1nb3,h1nb4,h1nb5,h1nb6,h1nb7,h1nb8,h1nb9,h1nb10⟩ := h1nb
 refine kCD 2 [2,4,6,16,17,18] [(16,.v (.bool false)),(17,.v (.int .i64 (seqDiff ack s.una))),(18,.v (.agg (sndL s).toArray))] 71 [.agg (sndL s).toArray] (some 19) rfl (xc_b fun ww hf => iFlown_c s.una s.data s.sent s.fin s.finSent s.done ww ) ?_
 intro _
 refine kCD 0 [2,4,6,16,17,19] [] 62 [.int .i64 (seqDiff ack s.una),.int .i64 0,.int .i64 (flown s)] (some 20) rfl (xc_s fun ww hf => within_c (seqDiff ack s.una) 0 (flown s) ww ) ?_
 intro _
 refine kED [2,4,6,22] [(22,.v (.bool (!(inB (seqDiff ack s.una) 0 (flown s)))))] ?_
 refine kC (!(inB (seqDiff ack s.una) 0 (flown s))) (fun h2 => ?_) (fun h2 => ?_)
 have h2n := not_t h2
 have h2ni := inB_ff.1 (show inB (seqDiff ack s.una) 0 (flown s) = false from by simpa using h2n)
 refine kQ ?_
 refine kEU [4,5] [(5,.v (.bool false))] 1 ⟨38,sndL s⟩ ?_
 refine kR ?_
 have hmod : acked s ack = (s,false) := by first | rfl | (simp [acked, *]; done) | (cases hfs : s.finSent <;> grind [acked])
 exact ⟨[.agg (sndL s).toArray,.bool false],by kernel_rfl,fun w' hb hf => by rw [hmod]; exact ⟨rfl,hb⟩⟩
 have h2n := not_f h2
 have h2ni := inB_tt.1 (show inB (seqDiff ack s.una) 0 (flown s) = true from by simpa using h2n)
 refine kK ?_
 refine kQ ?_
 refine kEA [2,4,6,7] [(7,.p 2 0)] [⟨38,sndL s⟩] ?_
 refine kQ ?_
 refine kOD 4 [2,4,6,7,25,28] [(25,.v (.int .i64 (seqDiff ack s.una))),(28,.v (.int .i64 (s.data.size : Int)))] (.int .i64 (min (seqDiff ack s.una) (s.data.size : Int))) rfl (fun _ _ _ ww hr => act_min2 (k := .i64) (k' := .i64) (p := seqDiff ack s.una) (q := (s.data.size : Int)) hr.1 rfl rfl rfl (by kernel_rfl) (by kernel_rfl) ww) ?_
 refine kED [2,4,6,7,8] [(8,.v (.int .i64 (min (seqDiff ack s.una) (s.data.size : Int))))] ?_
 refine kQ ?_
 refine kOS 3 [2,4,6,7,8,31,32] [(2,.p 0 0),(4,.p 1 0),(6,.v (.int .i64 (seqDiff ack s.una))),(7,.p 2 0),(8,.v (.int .i64 (min (seqDiff ack s.una) (s.data.size : Int)))),(31,.v (.string s.data)),(32,.v (.int .i64 (min (seqDiff ack s.una) (s.data.size : Int))))] (.string (s.data.extract (min (seqDiff ack s.una) (s.data.size : Int)).toNat s.data.size)) rfl (fun _ _ _ ww hr => act_slSe (min (seqDiff ack s.una) (s.data.size : Int)) hr.1 rfl (by kernel_rfl) rfl rfl (by omega) (by omega) ww) ?_
 refine kEU [2,4,6,7,8] [] 2 ⟨38,sndL { s with data := s.data.extract (min (seqDiff ack s.una) (s.data.size : Int)).toNat s.data.size }⟩ ?_
 refine kQ ?_
 refine kCD 3 [2,4,6,7,8,36,37] [(36,.v (.int .i64 s.una)),(37,.v (.int .i64 (seqDiff ack s.una)))] 115 [.int .i64 s.una,.int .i64 (seqDiff ack s.una)] (some 38) rfl (xc_s fun ww hf => iSeqAdd_c s.una (seqDiff ack s.una) ww ) ?_
 intro _
 refine kEU [2,4,6,7,8] [] 2 ⟨38,sndL { s with una := sA s.una (seqDiff ack s.una),data := s.data.extract (min (seqDiff ack s.una) (s.data.size : Int)).toNat s.data.size }⟩ ?_
 refine kQ ?_
 refine kRF 6 [2,4,6,7] ⟨[(2,.p 0 0),(4,.p 1 0),(6,.v (.int .i64 (seqDiff ack s.una))),(7,.p 2 0)],[⟨38,sndL s⟩,⟨38,sndZ⟩,⟨38,sndL { s with una := sA s.una (seqDiff ack s.una),data := s.data.extract (min (seqDiff ack s.una) (s.data.size : Int)).toNat s.data.size,sent := IntKind.i64.wrap (s.sent - (min (seqDiff ack s.una) (s.data.size : Int))) }⟩],[],[]⟩ ?_
 refine xl_eq (st' := ⟨[(2,.p 0 0),(4,.p 1 0),(6,.v (.int .i64 (seqDiff ack s.una))),(7,.p 2 0)],[⟨38,sndL s⟩,⟨38,sndZ⟩,⟨38,sndL { s with una := sA s.una (seqDiff ack s.una),data := s.data.extract (min (seqDiff ack s.una) (s.data.size : Int)).toNat s.data.size,sent := s.sent - (min (seqDiff ack s.una) (s.data.size : Int)) }⟩],[],[]⟩) (by rw [show (IntKind.i64.wrap (s.sent - (min (seqDiff ack s.una) (s.data.size : Int)))) = (s.sent - (min (seqDiff ack s.una) (s.data.size : Int))) from wrap_id (by omega) (by omega)] <;> rfl) ?_
 refine kED [2,4,6,7] [] ?_
 refine kS ?_
 refine kQ ?_
 refine kRD 5 [4,7,49] [(49,.v (.bool ((seqDiff ack s.una) == (IntKind.i64.wrap (s.sent + 1)))))] ?_
 refine xl_nv [4,7,49] [(49,.v (.bool ((seqDiff ack s.una) == (IntKind.i64.wrap (s.sent + 1)))))] [(49,.v (.bool ((seqDiff ack s.una) == (s.sent + 1))))] (by rw [show (IntKind.i64.wrap (s.sent + 1)) = (s.sent + 1) from wrap_id (by omega) (by omega)]) (by kernel_rfl) ?_
 refine kED [4,7,49] [] ?_
 refine kC ((seqDiff ack s.una) == (s.sent + 1)) (fun h3 => ?_) (fun h3 => ?_)
 have h3p := eqT h3
 refine kQ ?_
 refine kEU [4,7] [] 2 ⟨38,[.int .i64 (sA s.una (seqDiff ack s.una)),.string (s.data.extract (min (seqDiff ack s.una) (s.data.size : Int)).toNat s.data.size),.int .i64 (s.sent - (min (seqDiff ack s.una) (s.data.size : Int))),.bool s.fin,.bool false,.bool s.done]⟩ ?_
 refine kG ?_
 refine kEU [4,7] [] 2 ⟨38,[.int .i64 (sA s.una (seqDiff ack s.una)),.string (s.data.extract (min (seqDiff ack s.una) (s.data.size : Int)).toNat s.data.size),.int .i64 (s.sent - (min (seqDiff ack s.una) (s.data.size : Int))),.bool s.fin,.bool false,.bool true]⟩ ?_
 refine kQ ?_
 refine kEU [4,5] [(5,.v (.bool true))] 1 ⟨38,[.int .i64 (sA s.una (seqDiff ack s.una)),.string (s.data.extract (min (seqDiff ack s.una) (s.data.size : Int)).toNat s.data.size),.int .i64 (s.sent - (min (seqDiff ack s.una) (s.data.size : Int))),.bool s.fin,.bool false,.bool true]⟩ ?_
 refine kR ?_
 have hmod : acked s ack = ((⟨sA s.una (seqDiff ack s.una),s.data.extract (min (seqDiff ack s.una) (s.data.size : Int)).toNat s.data.size,s.sent - (min (seqDiff ack s.una) (s.data.size : Int)),s.fin,false,true⟩),true) := by first | rfl | (simp [acked, *]; done) | (cases hfs : s.finSent <;> grind [acked])
 exact ⟨[.agg #[.int .i64 (sA s.una (seqDiff ack s.una)),.string (s.data.extract (min (seqDiff ack s.una) (s.data.size : Int)).toNat s.data.size),.int .i64 (s.sent - (min (seqDiff ack s.una) (s.data.size : Int))),.bool s.fin,.bool false,.bool true],.bool true],by kernel_rfl,fun w' hb hf => by rw [hmod]; exact ⟨rfl,hb⟩⟩
 have h3p := eqF h3
 refine kK ?_
 refine kQ ?_
 refine kEU [4,5] [(5,.v (.bool true))] 1 ⟨38,sndL { s with una := sA s.una (seqDiff ack s.una),data := s.data.extract (min (seqDiff ack s.una) (s.data.size : Int)).toNat s.data.size,sent := s.sent - (min (seqDiff ack s.una) (s.data.size : Int)) }⟩ ?_
 refine kR ?_
 have hmod : acked s ack = (({ s with una := sA s.una (seqDiff ack s.una),data := s.data.extract (min (seqDiff ack s.una) (s.data.size : Int)).toNat s.data.size,sent := s.sent - (min (seqDiff ack s.una) (s.data.size : Int)) }),true) := by first | rfl | (simp [acked, *]; done) | (cases hfs : s.finSent <;> grind [acked])
 exact ⟨[.agg (sndL { s with una := sA s.una (seqDiff ack s.una),data := s.data.extract (min (seqDiff ack s.una) (s.data.size : Int)).toNat s.data.size,sent := s.sent - (min (seqDiff ack s.una) (s.data.size : Int)) }).toArray,.bool true],by kernel_rfl,fun w' hb hf => by rw [hmod]; exact ⟨rfl,hb⟩⟩
end Go.Proofs.YtebgmdiejgcoiaaGreat
