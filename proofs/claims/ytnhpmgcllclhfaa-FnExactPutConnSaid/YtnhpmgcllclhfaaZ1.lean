/- Contracts that this law needs, part 1. -/
import Derived.Test.YtnhpmgcllclhfaaYW
import Derived.Test.YtnhpmgcllclhfaaA5
import Derived.Test.YtnhpmgcllclhfaaG1
import Derived.Test.YtnhpmgcllclhfaaYD
import Derived.Test.YtnhpmgcllclhfaaG3
import Derived.Test.YtnhpmgcllclhfaaA2
import Derived.Test.YtnhpmgcllclhfaaG2
namespace Go.Proofs.Ytnhpmgcllclhfaa
open Go.RowKit
set_option linter.unusedVariables false
set_option linter.unusedSimpArgs false
set_option maxRecDepth 100000
set_option maxHeartbeats 2000000

theorem ysReceiverOk_c (r : Rcv) (r_heldV : Value) (w : World) (hl_r_heldV : Sl w r_heldV 2 (r.held.map pceCells)) (hm : ∀ p ∈ r.held, p.text.size ≤ 1048576) (hsz : r.data.size ≤ 4611686018427387904) : Calls Try.prog 81 #[.agg (rcvL r r_heldV).toArray] w fun e w' => e = .returned (.bool (receiverOk r)) ∧ Below w.heap.size w w' := by
 have hw := windowOf_bd r
 obtain ⟨Arh,Crh,hvrh⟩ := hl_r_heldV.form
 rw [List.length_map] at hvrh; subst hvrh
 have hnrh := hl_r_heldV.len; rw [List.length_map] at hnrh
 have hqrh := Sl.capLe hl_r_heldV
 refine x_calls (args := [.agg (rcvL r (.slice Arh r.held.length Crh)).toArray]) (fn := Try.f81) [slF (.slice Arh r.held.length Crh) 2 (r.held.map pceCells)] Try.func81 rfl Try.ntmps81 rfl (by simp only [List.mem_cons,List.not_mem_nil,or_false,forall_eq_or_imp,forall_eq]; exact ⟨rfl,hl_r_heldV⟩) ?_
 refine kQ ?_
 refine kEF [1] ⟨[(1,.p 0 0)],[⟨65,rcvL r (.slice Arh r.held.length Crh)⟩],[],[slF (.slice Arh r.held.length Crh) 2 (r.held.map pceCells)]⟩ ?_
 refine kQ ?_
 refine kCD 1 [1,7] [(7,.v (.agg (rcvL r (.slice Arh r.held.length Crh)).toArray))] 101 [.agg (rcvL r (.slice Arh r.held.length Crh)).toArray] (some 8) rfl (xc_b fun ww hf => sWindowOf_c r.next r.data r.held (.slice Arh r.held.length Crh) r.fin r.done ww (by omega)) ?_
 intro _
 refine kED [1,3] [(3,.v (.int .i64 (windowOf r)))] ?_
 refine kS ?_
 refine kQ ?_
 refine kCD 2 [1,3,10] [(10,.v (.int .i64 r.next))] 100 [.int .i64 r.next,.int .i64 32] (some 11) rfl (xc_s fun ww hf => sWordOk32_c r.next ww) ?_
 intro _
 refine kRD 2 [1,3,13] [(13,.v (.bool (!(wordOk r.next 32))))] ?_
 refine kP 13 (!(wordOk r.next 32)) (fun h1 => ?_) (fun h1 => ?_)
 have h1n := not_t h1
 refine kED [1,3,36] [(36,.v (.bool true))] ?_
 refine kT ?_
 refine kQ ?_
 refine kES [2] [(2,.v (.bool false))] ?_
 refine kR ?_
 exact ⟨[.bool false],by kernel_rfl,fun w' hb hf => ⟨ret_bool (show (false : Bool) = receiverOk r from by first | rfl | (rw [HR,HK]; simp [*]; done) | (rw [HR,HK]; simp [*]; omega) | (rw [HR,HK]; grind [rcvPost]) | (simp [receiverOk,rcvPre, *]; done) | (simp [receiverOk,rcvPre, *]; omega) | grind [receiverOk,rcvPre]),hb⟩⟩
 have h1n := not_f h1
 refine kRD 6 [1,3,19] [(19,.v (.bool (decide ((r.data.size : Int) > 32))))] ?_
 refine kP 19 (decide ((r.data.size : Int) > 32)) (fun h2 => ?_) (fun h2 => ?_)
 have h2p := of_decide_eq_true h2
 refine kED [1,3,36] [(36,.v (.bool true))] ?_
 refine kT ?_
 refine kQ ?_
 refine kES [2] [(2,.v (.bool false))] ?_
 refine kR ?_
 exact ⟨[.bool false],by kernel_rfl,fun w' hb hf => ⟨ret_bool (show (false : Bool) = receiverOk r from by first | rfl | (rw [HR,HK]; simp [*]; done) | (rw [HR,HK]; simp [*]; omega) | (rw [HR,HK]; grind [rcvPost]) | (simp [receiverOk,rcvPre, *]; done) | (simp [receiverOk,rcvPre, *]; omega) | grind [receiverOk,rcvPre]),hb⟩⟩
 have h2p := of_decide_eq_false h2
 refine kRD 6 [1,3,25] [(25,.v (.bool (decide (((r.held.length : Nat) : Int) > 3))))] ?_
 refine kP 25 (decide (((r.held.length : Nat) : Int) > 3)) (fun h3 => ?_) (fun h3 => ?_)
 have h3p := of_decide_eq_true h3
 refine kED [1,3,36] [(36,.v (.bool true))] ?_
 refine kT ?_
 refine kQ ?_
 refine kES [2] [(2,.v (.bool false))] ?_
 refine kR ?_
 exact ⟨[.bool false],by kernel_rfl,fun w' hb hf => ⟨ret_bool (show (false : Bool) = receiverOk r from by first | rfl | (rw [HR,HK]; simp [*]; done) | (rw [HR,HK]; simp [*]; omega) | (rw [HR,HK]; grind [rcvPost]) | (simp [receiverOk,rcvPre, *]; done) | (simp [receiverOk,rcvPre, *]; omega) | grind [receiverOk,rcvPre]),hb⟩⟩
 have h3p := of_decide_eq_false h3
 refine kCD 3 [1,3,25,27,28] [(25,.v (.bool false)),(27,.v (.int .i64 r.fin)),(28,.v (.int .i64 (windowOf r)))] 78 [.int .i64 r.fin,.int .i64 (-1),.int .i64 (windowOf r)] (some 29) rfl (xc_s fun ww hf => l1In_c r.fin (-1) (windowOf r) ww ) ?_
 intro _
 refine kRD 3 [1,3,32] [(32,.v (.bool (!(inB r.fin (-1) (windowOf r)))))] ?_
 refine kP 32 (!(inB r.fin (-1) (windowOf r))) (fun h4 => ?_) (fun h4 => ?_)
 have h4n := not_t h4
 refine kED [1,3,36] [(36,.v (.bool true))] ?_
 refine kT ?_
 refine kQ ?_
 refine kES [2] [(2,.v (.bool false))] ?_
 refine kR ?_
 exact ⟨[.bool false],by kernel_rfl,fun w' hb hf => ⟨ret_bool (show (false : Bool) = receiverOk r from by first | rfl | (rw [HR,HK]; simp [*]; done) | (rw [HR,HK]; simp [*]; omega) | (rw [HR,HK]; grind [rcvPost]) | (simp [receiverOk,rcvPre, *]; done) | (simp [receiverOk,rcvPre, *]; omega) | grind [receiverOk,rcvPre]),hb⟩⟩
 have h4n := not_f h4
 refine kED [1,3,36] [(36,.v (.bool (r.fin == 0)))] ?_
 refine kC (r.fin == 0) (fun h5 => ?_) (fun h5 => ?_)
 have h5p := eqT h5
 refine kQ ?_
 refine kES [2] [(2,.v (.bool false))] ?_
 refine kR ?_
 exact ⟨[.bool false],by kernel_rfl,fun w' hb hf => ⟨ret_bool (show (false : Bool) = receiverOk r from by first | rfl | (rw [HR,HK]; simp [*]; done) | (rw [HR,HK]; simp [*]; omega) | (rw [HR,HK]; grind [rcvPost]) | (simp [receiverOk,rcvPre, *]; done) | (simp [receiverOk,rcvPre, *]; omega) | grind [receiverOk,rcvPre]),hb⟩⟩
 have h5p := eqF h5
 refine kK ?_
 refine kQ ?_
 refine kED [1,3,4] [(4,.v (.int .i64 0))] ?_
 refine kS ?_
 refine kQ ?_
 refine kES [1,3,4,5] [(1,.p 0 0),(3,.v (.int .i64 (windowOf r))),(4,.v (.int .i64 0)),(5,.v (.int .i64 0))] ?_
 refine xw_block ?_
 have hp : rcvPre r = true := by first | (simp [rcvPre, *]; done) | (simp [rcvPre, *]; omega) | grind [rcvPre]
 have hin := inB_tt.1 (rcvPre_iff.1 hp).2.2.2.1
 have HR := receiverOkS r hp
 refine xw_loopW (α := {x : Nat × Int // (fun (k : Nat) (z : Int) => k ≤ r.held.length ∧ 0 ≤ z ∧ z ≤ 32 ∧ heldOkS (windowOf r) r.fin 0 r.held = heldOkS (windowOf r) r.fin z (r.held.drop k)) x.1 x.2}) (fun x => (fun (k : Nat) (z : Int) => (⟨[(1,.p 0 0),(3,.v (.int .i64 (windowOf r))),(4,.v (.int .i64 z)),(5,.v (.int .i64 (k : Int)))],[⟨65,rcvL r (.slice Arh r.held.length Crh)⟩],[],[slF (.slice Arh r.held.length Crh) 2 (r.held.map pceCells)]⟩ : St)) x.1.1 x.1.2) (fun x => r.held.length - x.1.1) ⟨(0,0),⟨Nat.zero_le _,by omega,by omega,rfl⟩⟩ (kF 1 0 [1,3,4,5]) ?_
 rintro ⟨⟨k,z⟩,hk,hz0,hz1,HK⟩
 try dsimp only
 try dsimp only at hk hz0 hz1 HK
 refine kS ?_
 refine kQ ?_
 refine kED [1,3,4,5,41] [(41,.v (.bool (decide ((k : Int) < ((r.held.length : Nat) : Int)))))] ?_
 refine kC (decide ((k : Int) < ((r.held.length : Nat) : Int))) (fun h6 => ?_) (fun h6 => ?_)
 have h6p := of_decide_eq_true h6
 have hlt : k < r.held.length := by simpa using h6
 obtain ⟨x,hx⟩ : ∃ x,r.held[k]? = some x := ⟨_,List.getElem?_eq_getElem hlt⟩
 have hxm := hm x (List.mem_of_getElem? hx)
 rw [drop_cons_of hx] at HK; simp only [heldOkS,heldOk] at HK
 refine kK ?_
 refine kS ?_
 refine xw_block ?_
 refine kQ ?_
 refine xl_indexD (kd := .i64) (T := 63) (e := 118) (K := 2) 3 [1,3,4,5,45,46] [(45,.v (.slice Arh r.held.length Crh)),(46,.v (.int .i64 (k : Int)))] k [.int .i64 x.off,.string x.text] (slF (.slice Arh r.held.length Crh) 2 (r.held.map pceCells)) (by kernel_rfl) rfl (by kernel_rfl) rfl rfl (by kernel_rfl) (by kernel_rfl) (by kernel_rfl) (by kernel_rfl) hlt (by simp) (fun w h => h) (fun b h => h) (by simp only [List.getElem?_map,hx]; rfl) ?_
 refine kEA [1,3,4,5,6] [(6,.p 1 0)] [⟨118,pceL x⟩] ?_
 refine kS ?_
 refine kQ ?_
 refine kRD 4 [1,3,4,5,6,52] [(52,.v (.bool (x.text.toList == (⟨#[]⟩ : ByteArray).toList)))] ?_
 refine kP 52 (x.text.toList == (⟨#[]⟩ : ByteArray).toList) (fun h7 => ?_) (fun h7 => ?_)
 have h7p := h7; simp only [beq_iff_eq,bne_iff_ne,beq_eq_false_iff_ne,bne_eq_false_iff_eq,ne_eq,toList_lit0] at h7p
 refine kED [1,3,5,6,73] [(73,.v (.bool true))] ?_
 refine kT ?_
 refine kQ ?_
 refine kES [2] [(2,.v (.bool false))] ?_
 refine kR ?_
 exact ⟨[.bool false],by kernel_rfl,fun w' hb hf => ⟨ret_bool (show (false : Bool) = receiverOk r from by first | rfl | (rw [HR,HK]; simp [*]; done) | (rw [HR,HK]; simp [*]; omega) | (rw [HR,HK]; grind [rcvPost]) | (simp [receiverOk,rcvPre, *]; done) | (simp [receiverOk,rcvPre, *]; omega) | grind [receiverOk,rcvPre]),hb⟩⟩
 have h7p := h7; simp only [beq_iff_eq,bne_iff_ne,beq_eq_false_iff_ne,bne_eq_false_iff_eq,ne_eq,toList_lit0] at h7p
 refine kRD 6 [1,3,5,6,58] [(58,.v (.bool (decide (x.off ≤ z))))] ?_
 refine kP 58 (decide (x.off ≤ z)) (fun h8 => ?_) (fun h8 => ?_)
 have h8p := of_decide_eq_true h8
 refine kED [1,3,5,6,73] [(73,.v (.bool true))] ?_
 refine kT ?_
 refine kQ ?_
 refine kES [2] [(2,.v (.bool false))] ?_
 refine kR ?_
 exact ⟨[.bool false],by kernel_rfl,fun w' hb hf => ⟨ret_bool (show (false : Bool) = receiverOk r from by first | rfl | (rw [HR,HK]; simp [*]; done) | (rw [HR,HK]; simp [*]; omega) | (rw [HR,HK]; grind [rcvPost]) | (simp [receiverOk,rcvPre, *]; done) | (simp [receiverOk,rcvPre, *]; omega) | grind [receiverOk,rcvPre]),hb⟩⟩
 have h8p := of_decide_eq_false h8
 refine kRD 6 [1,3,5,6,64] [(64,.v (.bool (decide (x.off > (windowOf r)))))] ?_
 refine kP 64 (decide (x.off > (windowOf r))) (fun h9 => ?_) (fun h9 => ?_)
 have h9p := of_decide_eq_true h9
 refine kED [1,3,5,6,73] [(73,.v (.bool true))] ?_
 refine kT ?_
 refine kQ ?_
 refine kES [2] [(2,.v (.bool false))] ?_
 refine kR ?_
 exact ⟨[.bool false],by kernel_rfl,fun w' hb hf => ⟨ret_bool (show (false : Bool) = receiverOk r from by first | rfl | (rw [HR,HK]; simp [*]; done) | (rw [HR,HK]; simp [*]; omega) | (rw [HR,HK]; grind [rcvPost]) | (simp [receiverOk,rcvPre, *]; done) | (simp [receiverOk,rcvPre, *]; omega) | grind [receiverOk,rcvPre]),hb⟩⟩
 have h9p := of_decide_eq_false h9
 refine kRD 9 [1,3,5,6,73] [(73,.v (.bool (decide ((IntKind.i64.wrap (x.off + (x.text.size : Int))) > (windowOf r)))))] ?_
 refine xl_nv [1,3,5,6,73] [(73,.v (.bool (decide ((IntKind.i64.wrap (x.off + (x.text.size : Int))) > (windowOf r)))))] [(73,.v (.bool (decide ((x.off + (x.text.size : Int)) > (windowOf r)))))] (by rw [show (IntKind.i64.wrap (x.off + (x.text.size : Int))) = (x.off + (x.text.size : Int)) from wrap_id (by omega) (by omega)]) (by kernel_rfl) ?_
 refine kED [1,3,5,6,73] [] ?_
 refine kC (decide ((x.off + (x.text.size : Int)) > (windowOf r))) (fun h10 => ?_) (fun h10 => ?_)
 have h10p := of_decide_eq_true h10
 refine kQ ?_
 refine kES [2] [(2,.v (.bool false))] ?_
 refine kR ?_
 exact ⟨[.bool false],by kernel_rfl,fun w' hb hf => ⟨ret_bool (show (false : Bool) = receiverOk r from by first | rfl | (rw [HR,HK]; simp [*]; done) | (rw [HR,HK]; simp [*]; omega) | (rw [HR,HK]; grind [rcvPost]) | (simp [receiverOk,rcvPre, *]; done) | (simp [receiverOk,rcvPre, *]; omega) | grind [receiverOk,rcvPre]),hb⟩⟩
 have h10p := of_decide_eq_false h10
 refine kK ?_
 refine kG ?_
 refine kRS 7 [1,3,4,5] [(1,.p 0 0),(3,.v (.int .i64 (windowOf r))),(4,.v (.int .i64 (IntKind.i64.wrap (x.off + (x.text.size : Int))))),(5,.v (.int .i64 (k : Int)))] ?_
 refine xl_eqS (t' := [(1,.p 0 0),(3,.v (.int .i64 (windowOf r))),(4,.v (.int .i64 (x.off + (x.text.size : Int)))),(5,.v (.int .i64 (k : Int)))]) (by rw [show (IntKind.i64.wrap (x.off + (x.text.size : Int))) = (x.off + (x.text.size : Int)) from wrap_id (by omega) (by omega)]) ?_
 refine kED [1,3,4,5] [] ?_
 refine kG ?_
 refine kRD 3 [1,3,4,5] [(5,.v (.int .i64 (IntKind.i64.wrap ((k : Int) + 1))))] ?_
 refine xl_nv [1,3,4,5] [(5,.v (.int .i64 (IntKind.i64.wrap ((k : Int) + 1))))] [(5,.v (.int .i64 ((k : Int) + 1)))] (by rw [show (IntKind.i64.wrap ((k : Int) + 1)) = ((k : Int) + 1) from wrap_id (by omega) (by omega)]) (by kernel_rfl) ?_
 refine kED [1,3,4,5] [] ?_
 exact ⟨⟨(k + 1,x.off + (x.text.size : Int)),⟨by omega,by omega,by omega,by rw [HK]; first | (simp [*]; done) | (simp [*]; omega) | grind⟩⟩,kF 1 0 [1,3,4,5],by show r.held.length - (k + 1) < r.held.length - k; omega⟩
 have h6p := of_decide_eq_false h6
 have hge : k = r.held.length := by simp at h6; omega
 subst hge; simp only [List.drop_length,heldOkS,heldOk] at HK
 refine xw_exit ?_
 refine kQ ?_
 refine kRD 4 [1,4,83] [(83,.v (.bool (decide (r.fin < 0))))] ?_
 refine kP 83 (decide (r.fin < 0)) (fun h11 => ?_) (fun h11 => ?_)
 have h11p := of_decide_eq_true h11
 refine kRD 10 [1,89,93] [(89,.v (.bool true)),(93,.v (.bool (!r.done)))] ?_
 refine kP 93 (!r.done) (fun h12 => ?_) (fun h12 => ?_)
 have h12n := not_t h12
 refine kES [2] [(2,.v (.bool true))] ?_
 refine kR ?_
 exact ⟨[.bool true],by kernel_rfl,fun w' hb hf => ⟨ret_bool (show (true : Bool) = receiverOk r from by first | rfl | (rw [HR,HK]; simp [*]; done) | (rw [HR,HK]; simp [*]; omega) | (rw [HR,HK]; grind [rcvPost]) | (simp [receiverOk,rcvPre, *]; done) | (simp [receiverOk,rcvPre, *]; omega) | grind [receiverOk,rcvPre]),hb⟩⟩
 have h12n := not_f h12
 refine kRD 5 [1,89,93,98] [(93,.v (.bool false)),(98,.v (.bool (((r.held.length : Nat) : Int) == 0)))] ?_
 refine kP 98 (((r.held.length : Nat) : Int) == 0) (fun h13 => ?_) (fun h13 => ?_)
 have h13p := eqT h13
 refine kES [2] [(2,.v (.bool (r.fin == (-1))))] ?_
 refine kR ?_
 exact ⟨[.bool (r.fin == (-1))],by kernel_rfl,fun w' hb hf => ⟨ret_bool (show (r.fin == (-1) : Bool) = receiverOk r from by first | rfl | (rw [HR,HK]; simp [*]; done) | (rw [HR,HK]; simp [*]; omega) | (rw [HR,HK]; grind [rcvPost]) | (simp [receiverOk,rcvPre, *]; done) | (simp [receiverOk,rcvPre, *]; omega) | grind [receiverOk,rcvPre]),hb⟩⟩
 have h13p := eqF h13
 refine kES [2] [(2,.v (.bool false))] ?_
 refine kR ?_
 exact ⟨[.bool false],by kernel_rfl,fun w' hb hf => ⟨ret_bool (show (false : Bool) = receiverOk r from by first | rfl | (rw [HR,HK]; simp [*]; done) | (rw [HR,HK]; simp [*]; omega) | (rw [HR,HK]; grind [rcvPost]) | (simp [receiverOk,rcvPre, *]; done) | (simp [receiverOk,rcvPre, *]; omega) | grind [receiverOk,rcvPre]),hb⟩⟩
 have h11p := of_decide_eq_false h11
 refine kRD 6 [1,89] [(89,.v (.bool (decide (z ≤ r.fin))))] ?_
 refine kP 89 (decide (z ≤ r.fin)) (fun h14 => ?_) (fun h14 => ?_)
 have h14p := of_decide_eq_true h14
 refine kRD 4 [1,89,93] [(89,.v (.bool true)),(93,.v (.bool (!r.done)))] ?_
 refine kP 93 (!r.done) (fun h15 => ?_) (fun h15 => ?_)
 have h15n := not_t h15
 refine kES [2] [(2,.v (.bool true))] ?_
 refine kR ?_
 exact ⟨[.bool true],by kernel_rfl,fun w' hb hf => ⟨ret_bool (show (true : Bool) = receiverOk r from by first | rfl | (rw [HR,HK]; simp [*]; done) | (rw [HR,HK]; simp [*]; omega) | (rw [HR,HK]; grind [rcvPost]) | (simp [receiverOk,rcvPre, *]; done) | (simp [receiverOk,rcvPre, *]; omega) | grind [receiverOk,rcvPre]),hb⟩⟩
 have h15n := not_f h15
 refine kRD 5 [1,89,93,98] [(93,.v (.bool false)),(98,.v (.bool (((r.held.length : Nat) : Int) == 0)))] ?_
 refine kP 98 (((r.held.length : Nat) : Int) == 0) (fun h16 => ?_) (fun h16 => ?_)
 have h16p := eqT h16
 refine kES [2] [(2,.v (.bool (r.fin == (-1))))] ?_
 refine kR ?_
 exact ⟨[.bool (r.fin == (-1))],by kernel_rfl,fun w' hb hf => ⟨ret_bool (show (r.fin == (-1) : Bool) = receiverOk r from by first | rfl | (rw [HR,HK]; simp [*]; done) | (rw [HR,HK]; simp [*]; omega) | (rw [HR,HK]; grind [rcvPost]) | (simp [receiverOk,rcvPre, *]; done) | (simp [receiverOk,rcvPre, *]; omega) | grind [receiverOk,rcvPre]),hb⟩⟩
 have h16p := eqF h16
 refine kES [2] [(2,.v (.bool false))] ?_
 refine kR ?_
 exact ⟨[.bool false],by kernel_rfl,fun w' hb hf => ⟨ret_bool (show (false : Bool) = receiverOk r from by first | rfl | (rw [HR,HK]; simp [*]; done) | (rw [HR,HK]; simp [*]; omega) | (rw [HR,HK]; grind [rcvPost]) | (simp [receiverOk,rcvPre, *]; done) | (simp [receiverOk,rcvPre, *]; omega) | grind [receiverOk,rcvPre]),hb⟩⟩
 have h14p := of_decide_eq_false h14
 refine kES [2] [(2,.v (.bool false))] ?_
 refine kR ?_
 exact ⟨[.bool false],by kernel_rfl,fun w' hb hf => ⟨ret_bool (show (false : Bool) = receiverOk r from by first | rfl | (rw [HR,HK]; simp [*]; done) | (rw [HR,HK]; simp [*]; omega) | (rw [HR,HK]; grind [rcvPost]) | (simp [receiverOk,rcvPre, *]; done) | (simp [receiverOk,rcvPre, *]; omega) | grind [receiverOk,rcvPre]),hb⟩⟩
theorem yiReceiverOk_c (r : Rcv) (r_heldV : Value) (w : World) (hl_r_heldV : Sl w r_heldV 2 (r.held.map pceCells)) (hm : ∀ p ∈ r.held, p.text.size ≤ 1048576) (hsz : r.data.size ≤ 4611686018427387904) : Calls Try.prog 87 #[.agg (rcvL r r_heldV).toArray] w fun e w' => e = .returned (.bool (receiverOk r)) ∧ Below w.heap.size w w' := by
 have hw := windowOf_bd r
 obtain ⟨Arh,Crh,hvrh⟩ := hl_r_heldV.form
 rw [List.length_map] at hvrh; subst hvrh
 have hnrh := hl_r_heldV.len; rw [List.length_map] at hnrh
 have hqrh := Sl.capLe hl_r_heldV
 refine x_calls (args := [.agg (rcvL r (.slice Arh r.held.length Crh)).toArray]) (fn := Try.f87) [slF (.slice Arh r.held.length Crh) 2 (r.held.map pceCells)] Try.func87 rfl Try.ntmps87 rfl (by simp only [List.mem_cons,List.not_mem_nil,or_false,forall_eq_or_imp,forall_eq]; exact ⟨rfl,hl_r_heldV⟩) ?_
 refine kQ ?_
 refine kEF [1] ⟨[(1,.p 0 0)],[⟨65,rcvL r (.slice Arh r.held.length Crh)⟩],[],[slF (.slice Arh r.held.length Crh) 2 (r.held.map pceCells)]⟩ ?_
 refine kQ ?_
 refine kCD 1 [1,8] [(8,.v (.agg (rcvL r (.slice Arh r.held.length Crh)).toArray))] 103 [.agg (rcvL r (.slice Arh r.held.length Crh)).toArray] (some 9) rfl (xc_b fun ww hf => iWindowOf_c r.next r.data r.held (.slice Arh r.held.length Crh) r.fin r.done ww (by omega)) ?_
 intro _
 refine kED [1,3] [(3,.v (.int .i64 (windowOf r)))] ?_
 refine kS ?_
 refine kQ ?_
 refine kCD 2 [1,3,11] [(11,.v (.int .i64 r.next))] 102 [.int .i64 r.next,.int .i64 32] (some 12) rfl (xc_s fun ww hf => iWordOk32_c r.next ww) ?_
 intro _
 refine kRD 2 [1,3,14] [(14,.v (.bool (!(wordOk r.next 32))))] ?_
 refine kP 14 (!(wordOk r.next 32)) (fun h1 => ?_) (fun h1 => ?_)
 have h1n := not_t h1
 refine kED [1,3,37] [(37,.v (.bool true))] ?_
 refine kT ?_
 refine kQ ?_
 refine kES [2] [(2,.v (.bool false))] ?_
 refine kR ?_
 exact ⟨[.bool false],by kernel_rfl,fun w' hb hf => ⟨ret_bool (show (false : Bool) = receiverOk r from by first | rfl | (rw [HR,HK]; simp [*]; done) | (rw [HR,HK]; simp [*]; omega) | (rw [HR,HK]; grind [rcvPost]) | (simp [receiverOk,rcvPre, *]; done) | (simp [receiverOk,rcvPre, *]; omega) | grind [receiverOk,rcvPre]),hb⟩⟩
 have h1n := not_f h1
 refine kRD 6 [1,3,20] [(20,.v (.bool (decide ((r.data.size : Int) > 32))))] ?_
 refine kP 20 (decide ((r.data.size : Int) > 32)) (fun h2 => ?_) (fun h2 => ?_)
 have h2p := of_decide_eq_true h2
 refine kED [1,3,37] [(37,.v (.bool true))] ?_
 refine kT ?_
 refine kQ ?_
 refine kES [2] [(2,.v (.bool false))] ?_
 refine kR ?_
 exact ⟨[.bool false],by kernel_rfl,fun w' hb hf => ⟨ret_bool (show (false : Bool) = receiverOk r from by first | rfl | (rw [HR,HK]; simp [*]; done) | (rw [HR,HK]; simp [*]; omega) | (rw [HR,HK]; grind [rcvPost]) | (simp [receiverOk,rcvPre, *]; done) | (simp [receiverOk,rcvPre, *]; omega) | grind [receiverOk,rcvPre]),hb⟩⟩
 have h2p := of_decide_eq_false h2
 refine kRD 6 [1,3,26] [(26,.v (.bool (decide (((r.held.length : Nat) : Int) > 3))))] ?_
 refine kP 26 (decide (((r.held.length : Nat) : Int) > 3)) (fun h3 => ?_) (fun h3 => ?_)
 have h3p := of_decide_eq_true h3
 refine kED [1,3,37] [(37,.v (.bool true))] ?_
 refine kT ?_
 refine kQ ?_
 refine kES [2] [(2,.v (.bool false))] ?_
 refine kR ?_
 exact ⟨[.bool false],by kernel_rfl,fun w' hb hf => ⟨ret_bool (show (false : Bool) = receiverOk r from by first | rfl | (rw [HR,HK]; simp [*]; done) | (rw [HR,HK]; simp [*]; omega) | (rw [HR,HK]; grind [rcvPost]) | (simp [receiverOk,rcvPre, *]; done) | (simp [receiverOk,rcvPre, *]; omega) | grind [receiverOk,rcvPre]),hb⟩⟩
 have h3p := of_decide_eq_false h3
 refine kCD 3 [1,3,26,28,29] [(26,.v (.bool false)),(28,.v (.int .i64 r.fin)),(29,.v (.int .i64 (windowOf r)))] 84 [.int .i64 r.fin,.int .i64 (-1),.int .i64 (windowOf r)] (some 30) rfl (xc_s fun ww hf => within_c r.fin (-1) (windowOf r) ww ) ?_
 intro _
 refine kRD 3 [1,3,33] [(33,.v (.bool (!(inB r.fin (-1) (windowOf r)))))] ?_
 refine kP 33 (!(inB r.fin (-1) (windowOf r))) (fun h4 => ?_) (fun h4 => ?_)
 have h4n := not_t h4
 refine kED [1,3,37] [(37,.v (.bool true))] ?_
 refine kT ?_
 refine kQ ?_
 refine kES [2] [(2,.v (.bool false))] ?_
 refine kR ?_
 exact ⟨[.bool false],by kernel_rfl,fun w' hb hf => ⟨ret_bool (show (false : Bool) = receiverOk r from by first | rfl | (rw [HR,HK]; simp [*]; done) | (rw [HR,HK]; simp [*]; omega) | (rw [HR,HK]; grind [rcvPost]) | (simp [receiverOk,rcvPre, *]; done) | (simp [receiverOk,rcvPre, *]; omega) | grind [receiverOk,rcvPre]),hb⟩⟩
 have h4n := not_f h4
 refine kED [1,3,37] [(37,.v (.bool (r.fin == 0)))] ?_
 refine kC (r.fin == 0) (fun h5 => ?_) (fun h5 => ?_)
 have h5p := eqT h5
 refine kQ ?_
 refine kES [2] [(2,.v (.bool false))] ?_
 refine kR ?_
 exact ⟨[.bool false],by kernel_rfl,fun w' hb hf => ⟨ret_bool (show (false : Bool) = receiverOk r from by first | rfl | (rw [HR,HK]; simp [*]; done) | (rw [HR,HK]; simp [*]; omega) | (rw [HR,HK]; grind [rcvPost]) | (simp [receiverOk,rcvPre, *]; done) | (simp [receiverOk,rcvPre, *]; omega) | grind [receiverOk,rcvPre]),hb⟩⟩
 have h5p := eqF h5
 refine kK ?_
 refine kQ ?_
 refine kED [1,4] [(4,.v (.int .i64 (windowOf r)))] ?_
 refine kS ?_
 refine kQ ?_
 refine kES [1,4,41] [(1,.p 0 0),(4,.v (.int .i64 (windowOf r))),(41,.v (.bool (r.fin != (-1))))] ?_
 refine kC (r.fin != (-1)) (fun h6 => ?_) (fun h6 => ?_)
 have h6p := neT h6
 refine kG ?_
 refine kED [1,4] [(4,.v (.int .i64 r.fin))] ?_
 refine kQ ?_
 refine kED [1,4,5] [(5,.v (.int .i64 0))] ?_
 refine kS ?_
 refine kQ ?_
 refine kED [1,4,5,45,46,47] [(45,.v (.slice Arh r.held.length Crh)),(46,.v (.int .i64 ((r.held.length : Nat) : Int))),(47,.v (.int .i64 0))] ?_
 refine xw_block ?_
 have hp : rcvPre r = true := by first | (simp [rcvPre, *]; done) | (simp [rcvPre, *]; omega) | grind [rcvPre]
 have hin := inB_tt.1 (rcvPre_iff.1 hp).2.2.2.1
 have HR : receiverOk r = (heldOk (if r.fin = -1 then windowOf r else r.fin) 0 r.held && rcvPost r) := by unfold receiverOk; rw [hp]; rfl
 refine xw_loopW (α := {x : Nat × Int // (fun (k : Nat) (z : Int) => k ≤ r.held.length ∧ 0 ≤ z ∧ z ≤ 32 ∧ heldOk (if r.fin = -1 then windowOf r else r.fin) 0 r.held = heldOk (if r.fin = -1 then windowOf r else r.fin) z (r.held.drop k)) x.1 x.2}) (fun x => (fun (k : Nat) (z : Int) => (⟨[(1,.p 0 0),(4,.v (.int .i64 r.fin)),(5,.v (.int .i64 z)),(45,.v (.slice Arh r.held.length Crh)),(46,.v (.int .i64 ((r.held.length : Nat) : Int))),(47,.v (.int .i64 (k : Int)))],[⟨65,rcvL r (.slice Arh r.held.length Crh)⟩],[],[slF (.slice Arh r.held.length Crh) 2 (r.held.map pceCells)]⟩ : St)) x.1.1 x.1.2) (fun x => r.held.length - x.1.1) ⟨(0,0),⟨Nat.zero_le _,by omega,by omega,rfl⟩⟩ (kF 1 0 [1,4,5,45,46,47]) ?_
 rintro ⟨⟨k,z⟩,hk,hz0,hz1,HK⟩
 try dsimp only
 try dsimp only at hk hz0 hz1 HK
 refine kQ ?_
 refine kED [1,4,5,45,46,47,48] [(48,.v (.bool (decide ((k : Int) < ((r.held.length : Nat) : Int)))))] ?_
 refine kS ?_
 refine kC (decide ((k : Int) < ((r.held.length : Nat) : Int))) (fun h7 => ?_) (fun h7 => ?_)
 have h7p := of_decide_eq_true h7
 have hlt : k < r.held.length := by simpa using h7
 obtain ⟨x,hx⟩ : ∃ x,r.held[k]? = some x := ⟨_,List.getElem?_eq_getElem hlt⟩
 have hxm := hm x (List.mem_of_getElem? hx)
 rw [drop_cons_of hx] at HK; simp only [heldOkS,heldOk] at HK
 refine kK ?_
 refine kS ?_
 refine xw_block ?_
 refine kQ ?_
 refine xl_indexD (kd := .i64) (T := 63) (e := 118) (K := 2) 0 [1,4,5,45,46,47] [] k [.int .i64 x.off,.string x.text] (slF (.slice Arh r.held.length Crh) 2 (r.held.map pceCells)) (by kernel_rfl) rfl (by kernel_rfl) rfl rfl (by kernel_rfl) (by kernel_rfl) (by kernel_rfl) (by kernel_rfl) hlt (by simp) (fun w h => h) (fun b h => h) (by simp only [List.getElem?_map,hx]; rfl) ?_
 refine kEA [1,4,5,7,45,46,47] [(7,.p 1 0)] [⟨118,pceL x⟩] ?_
 refine kS ?_
 refine kQ ?_
 refine kRD 4 [1,4,5,7,45,46,47,54] [(54,.v (.bool (x.text.toList == (⟨#[]⟩ : ByteArray).toList)))] ?_
 refine kP 54 (x.text.toList == (⟨#[]⟩ : ByteArray).toList) (fun h8 => ?_) (fun h8 => ?_)
 have h8p := h8; simp only [beq_iff_eq,bne_iff_ne,beq_eq_false_iff_ne,bne_eq_false_iff_eq,ne_eq,toList_lit0] at h8p
 refine kED [1,4,7,45,46,47,69] [(69,.v (.bool true))] ?_
 refine kT ?_
 refine kQ ?_
 refine kES [2] [(2,.v (.bool false))] ?_
 refine kR ?_
 exact ⟨[.bool false],by kernel_rfl,fun w' hb hf => ⟨ret_bool (show (false : Bool) = receiverOk r from by first | rfl | (rw [HR,HK]; simp [*]; done) | (rw [HR,HK]; simp [*]; omega) | (rw [HR,HK]; grind [rcvPost]) | (simp [receiverOk,rcvPre, *]; done) | (simp [receiverOk,rcvPre, *]; omega) | grind [receiverOk,rcvPre]),hb⟩⟩
 have h8p := h8; simp only [beq_iff_eq,bne_iff_ne,beq_eq_false_iff_ne,bne_eq_false_iff_eq,ne_eq,toList_lit0] at h8p
 refine kRD 6 [1,4,7,45,46,47,60] [(60,.v (.bool (decide (x.off ≤ z))))] ?_
 refine kP 60 (decide (x.off ≤ z)) (fun h9 => ?_) (fun h9 => ?_)
 have h9p := of_decide_eq_true h9
 refine kED [1,4,7,45,46,47,69] [(69,.v (.bool true))] ?_
 refine kT ?_
 refine kQ ?_
 refine kES [2] [(2,.v (.bool false))] ?_
 refine kR ?_
 exact ⟨[.bool false],by kernel_rfl,fun w' hb hf => ⟨ret_bool (show (false : Bool) = receiverOk r from by first | rfl | (rw [HR,HK]; simp [*]; done) | (rw [HR,HK]; simp [*]; omega) | (rw [HR,HK]; grind [rcvPost]) | (simp [receiverOk,rcvPre, *]; done) | (simp [receiverOk,rcvPre, *]; omega) | grind [receiverOk,rcvPre]),hb⟩⟩
 have h9p := of_decide_eq_false h9
 refine kRD 9 [1,4,7,45,46,47,69] [(69,.v (.bool (decide (x.off > (IntKind.i64.wrap (r.fin - (x.text.size : Int)))))))] ?_
 refine xl_nv [1,4,7,45,46,47,69] [(69,.v (.bool (decide (x.off > (IntKind.i64.wrap (r.fin - (x.text.size : Int)))))))] [(69,.v (.bool (decide (x.off > (r.fin - (x.text.size : Int))))))] (by rw [show (IntKind.i64.wrap (r.fin - (x.text.size : Int))) = (r.fin - (x.text.size : Int)) from wrap_id (by omega) (by omega)]) (by kernel_rfl) ?_
 refine kES [1,4,7,45,46,47,69] [(1,.p 0 0),(4,.v (.int .i64 r.fin)),(7,.p 1 0),(45,.v (.slice Arh r.held.length Crh)),(46,.v (.int .i64 ((r.held.length : Nat) : Int))),(47,.v (.int .i64 (k : Int))),(69,.v (.bool (decide (x.off > (r.fin - (x.text.size : Int))))))] ?_
 refine kC (decide (x.off > (r.fin - (x.text.size : Int)))) (fun h10 => ?_) (fun h10 => ?_)
 have h10p := of_decide_eq_true h10
 refine kQ ?_
 refine kES [2] [(2,.v (.bool false))] ?_
 refine kR ?_
 exact ⟨[.bool false],by kernel_rfl,fun w' hb hf => ⟨ret_bool (show (false : Bool) = receiverOk r from by first | rfl | (rw [HR,HK]; simp [*]; done) | (rw [HR,HK]; simp [*]; omega) | (rw [HR,HK]; grind [rcvPost]) | (simp [receiverOk,rcvPre, *]; done) | (simp [receiverOk,rcvPre, *]; omega) | grind [receiverOk,rcvPre]),hb⟩⟩
 have h10p := of_decide_eq_false h10
 refine kK ?_
 refine kG ?_
 refine kRD 7 [1,4,5,45,46,47] [(5,.v (.int .i64 (IntKind.i64.wrap (x.off + (x.text.size : Int)))))] ?_
 refine xl_nv [1,4,5,45,46,47] [(5,.v (.int .i64 (IntKind.i64.wrap (x.off + (x.text.size : Int)))))] [(5,.v (.int .i64 (x.off + (x.text.size : Int))))] (by rw [show (IntKind.i64.wrap (x.off + (x.text.size : Int))) = (x.off + (x.text.size : Int)) from wrap_id (by omega) (by omega)]) (by kernel_rfl) ?_
 refine kED [1,4,5,45,46,47] [] ?_
 refine kG ?_
 refine kRD 2 [1,4,5,45,46,47] [(47,.v (.int .i64 (IntKind.i64.wrap ((k : Int) + 1))))] ?_
 refine xl_nv [1,4,5,45,46,47] [(47,.v (.int .i64 (IntKind.i64.wrap ((k : Int) + 1))))] [(47,.v (.int .i64 ((k : Int) + 1)))] (by rw [show (IntKind.i64.wrap ((k : Int) + 1)) = ((k : Int) + 1) from wrap_id (by omega) (by omega)]) (by kernel_rfl) ?_
 refine kED [1,4,5,45,46,47] [] ?_
 exact ⟨⟨(k + 1,x.off + (x.text.size : Int)),⟨by omega,by omega,by omega,by rw [HK]; first | (simp [*]; done) | (simp [*]; omega) | grind⟩⟩,kF 1 0 [1,4,5,45,46,47],by show r.held.length - (k + 1) < r.held.length - k; omega⟩
 have h7p := of_decide_eq_false h7
 have hge : k = r.held.length := by simp at h7; omega
 subst hge; simp only [List.drop_length,heldOkS,heldOk] at HK
 refine xw_exit ?_
 refine kQ ?_
 refine kRD 4 [1,80] [(80,.v (.bool (!r.done)))] ?_
 refine kP 80 (!r.done) (fun h11 => ?_) (fun h11 => ?_)
 have h11n := not_t h11
 refine kES [2] [(2,.v (.bool true))] ?_
 refine kR ?_
 exact ⟨[.bool true],by kernel_rfl,fun w' hb hf => ⟨ret_bool (show (true : Bool) = receiverOk r from by first | rfl | (rw [HR,HK]; simp [*]; done) | (rw [HR,HK]; simp [*]; omega) | (rw [HR,HK]; grind [rcvPost]) | (simp [receiverOk,rcvPre, *]; done) | (simp [receiverOk,rcvPre, *]; omega) | grind [receiverOk,rcvPre]),hb⟩⟩
 have h11n := not_f h11
 refine kRD 5 [1,80,85] [(80,.v (.bool false)),(85,.v (.bool (((r.held.length : Nat) : Int) == 0)))] ?_
 refine kP 85 (((r.held.length : Nat) : Int) == 0) (fun h12 => ?_) (fun h12 => ?_)
 have h12p := eqT h12
 refine kES [2] [(2,.v (.bool (r.fin == (-1))))] ?_
 refine kR ?_
 exact ⟨[.bool (r.fin == (-1))],by kernel_rfl,fun w' hb hf => ⟨ret_bool (show (r.fin == (-1) : Bool) = receiverOk r from by first | rfl | (rw [HR,HK]; simp [*]; done) | (rw [HR,HK]; simp [*]; omega) | (rw [HR,HK]; grind [rcvPost]) | (simp [receiverOk,rcvPre, *]; done) | (simp [receiverOk,rcvPre, *]; omega) | grind [receiverOk,rcvPre]),hb⟩⟩
 have h12p := eqF h12
 refine kES [2] [(2,.v (.bool false))] ?_
 refine kR ?_
 exact ⟨[.bool false],by kernel_rfl,fun w' hb hf => ⟨ret_bool (show (false : Bool) = receiverOk r from by first | rfl | (rw [HR,HK]; simp [*]; done) | (rw [HR,HK]; simp [*]; omega) | (rw [HR,HK]; grind [rcvPost]) | (simp [receiverOk,rcvPre, *]; done) | (simp [receiverOk,rcvPre, *]; omega) | grind [receiverOk,rcvPre]),hb⟩⟩
 have h6p := neF h6
 refine kK ?_
 refine kQ ?_
 refine kED [1,4,5] [(5,.v (.int .i64 0))] ?_
 refine kS ?_
 refine kQ ?_
 refine kED [1,4,5,45,46,47] [(45,.v (.slice Arh r.held.length Crh)),(46,.v (.int .i64 ((r.held.length : Nat) : Int))),(47,.v (.int .i64 0))] ?_
 refine xw_block ?_
 have hp : rcvPre r = true := by first | (simp [rcvPre, *]; done) | (simp [rcvPre, *]; omega) | grind [rcvPre]
 have hin := inB_tt.1 (rcvPre_iff.1 hp).2.2.2.1
 have HR : receiverOk r = (heldOk (if r.fin = -1 then windowOf r else r.fin) 0 r.held && rcvPost r) := by unfold receiverOk; rw [hp]; rfl
 refine xw_loopW (α := {x : Nat × Int // (fun (k : Nat) (z : Int) => k ≤ r.held.length ∧ 0 ≤ z ∧ z ≤ 32 ∧ heldOk (if r.fin = -1 then windowOf r else r.fin) 0 r.held = heldOk (if r.fin = -1 then windowOf r else r.fin) z (r.held.drop k)) x.1 x.2}) (fun x => (fun (k : Nat) (z : Int) => (⟨[(1,.p 0 0),(4,.v (.int .i64 (windowOf r))),(5,.v (.int .i64 z)),(45,.v (.slice Arh r.held.length Crh)),(46,.v (.int .i64 ((r.held.length : Nat) : Int))),(47,.v (.int .i64 (k : Int)))],[⟨65,rcvL r (.slice Arh r.held.length Crh)⟩],[],[slF (.slice Arh r.held.length Crh) 2 (r.held.map pceCells)]⟩ : St)) x.1.1 x.1.2) (fun x => r.held.length - x.1.1) ⟨(0,0),⟨Nat.zero_le _,by omega,by omega,rfl⟩⟩ (kF 1 0 [1,4,5,45,46,47]) ?_
 rintro ⟨⟨k,z⟩,hk,hz0,hz1,HK⟩
 try dsimp only
 try dsimp only at hk hz0 hz1 HK
 refine kQ ?_
 refine kED [1,4,5,45,46,47,48] [(48,.v (.bool (decide ((k : Int) < ((r.held.length : Nat) : Int)))))] ?_
 refine kS ?_
 refine kC (decide ((k : Int) < ((r.held.length : Nat) : Int))) (fun h13 => ?_) (fun h13 => ?_)
 have h13p := of_decide_eq_true h13
 have hlt : k < r.held.length := by simpa using h13
 obtain ⟨x,hx⟩ : ∃ x,r.held[k]? = some x := ⟨_,List.getElem?_eq_getElem hlt⟩
 have hxm := hm x (List.mem_of_getElem? hx)
 rw [drop_cons_of hx] at HK; simp only [heldOkS,heldOk] at HK
 refine kK ?_
 refine kS ?_
 refine xw_block ?_
 refine kQ ?_
 refine xl_indexD (kd := .i64) (T := 63) (e := 118) (K := 2) 0 [1,4,5,45,46,47] [] k [.int .i64 x.off,.string x.text] (slF (.slice Arh r.held.length Crh) 2 (r.held.map pceCells)) (by kernel_rfl) rfl (by kernel_rfl) rfl rfl (by kernel_rfl) (by kernel_rfl) (by kernel_rfl) (by kernel_rfl) hlt (by simp) (fun w h => h) (fun b h => h) (by simp only [List.getElem?_map,hx]; rfl) ?_
 refine kEA [1,4,5,7,45,46,47] [(7,.p 1 0)] [⟨118,pceL x⟩] ?_
 refine kS ?_
 refine kQ ?_
 refine kRD 4 [1,4,5,7,45,46,47,54] [(54,.v (.bool (x.text.toList == (⟨#[]⟩ : ByteArray).toList)))] ?_
 refine kP 54 (x.text.toList == (⟨#[]⟩ : ByteArray).toList) (fun h14 => ?_) (fun h14 => ?_)
 have h14p := h14; simp only [beq_iff_eq,bne_iff_ne,beq_eq_false_iff_ne,bne_eq_false_iff_eq,ne_eq,toList_lit0] at h14p
 refine kED [1,4,7,45,46,47,69] [(69,.v (.bool true))] ?_
 refine kT ?_
 refine kQ ?_
 refine kES [2] [(2,.v (.bool false))] ?_
 refine kR ?_
 exact ⟨[.bool false],by kernel_rfl,fun w' hb hf => ⟨ret_bool (show (false : Bool) = receiverOk r from by first | rfl | (rw [HR,HK]; simp [*]; done) | (rw [HR,HK]; simp [*]; omega) | (rw [HR,HK]; grind [rcvPost]) | (simp [receiverOk,rcvPre, *]; done) | (simp [receiverOk,rcvPre, *]; omega) | grind [receiverOk,rcvPre]),hb⟩⟩
 have h14p := h14; simp only [beq_iff_eq,bne_iff_ne,beq_eq_false_iff_ne,bne_eq_false_iff_eq,ne_eq,toList_lit0] at h14p
 refine kRD 6 [1,4,7,45,46,47,60] [(60,.v (.bool (decide (x.off ≤ z))))] ?_
 refine kP 60 (decide (x.off ≤ z)) (fun h15 => ?_) (fun h15 => ?_)
 have h15p := of_decide_eq_true h15
 refine kED [1,4,7,45,46,47,69] [(69,.v (.bool true))] ?_
 refine kT ?_
 refine kQ ?_
 refine kES [2] [(2,.v (.bool false))] ?_
 refine kR ?_
 exact ⟨[.bool false],by kernel_rfl,fun w' hb hf => ⟨ret_bool (show (false : Bool) = receiverOk r from by first | rfl | (rw [HR,HK]; simp [*]; done) | (rw [HR,HK]; simp [*]; omega) | (rw [HR,HK]; grind [rcvPost]) | (simp [receiverOk,rcvPre, *]; done) | (simp [receiverOk,rcvPre, *]; omega) | grind [receiverOk,rcvPre]),hb⟩⟩
 have h15p := of_decide_eq_false h15
 refine kRD 9 [1,4,7,45,46,47,69] [(69,.v (.bool (decide (x.off > (IntKind.i64.wrap ((windowOf r) - (x.text.size : Int)))))))] ?_
 refine xl_nv [1,4,7,45,46,47,69] [(69,.v (.bool (decide (x.off > (IntKind.i64.wrap ((windowOf r) - (x.text.size : Int)))))))] [(69,.v (.bool (decide (x.off > ((windowOf r) - (x.text.size : Int))))))] (by rw [show (IntKind.i64.wrap ((windowOf r) - (x.text.size : Int))) = ((windowOf r) - (x.text.size : Int)) from wrap_id (by omega) (by omega)]) (by kernel_rfl) ?_
 refine kED [1,4,7,45,46,47,69] [] ?_
 refine kC (decide (x.off > ((windowOf r) - (x.text.size : Int)))) (fun h16 => ?_) (fun h16 => ?_)
 have h16p := of_decide_eq_true h16
 refine kQ ?_
 refine kES [2] [(2,.v (.bool false))] ?_
 refine kR ?_
 exact ⟨[.bool false],by kernel_rfl,fun w' hb hf => ⟨ret_bool (show (false : Bool) = receiverOk r from by first | rfl | (rw [HR,HK]; simp [*]; done) | (rw [HR,HK]; simp [*]; omega) | (rw [HR,HK]; grind [rcvPost]) | (simp [receiverOk,rcvPre, *]; done) | (simp [receiverOk,rcvPre, *]; omega) | grind [receiverOk,rcvPre]),hb⟩⟩
 have h16p := of_decide_eq_false h16
 refine kK ?_
 refine kG ?_
 refine kRS 7 [1,4,5,45,46,47] [(1,.p 0 0),(4,.v (.int .i64 (windowOf r))),(5,.v (.int .i64 (IntKind.i64.wrap (x.off + (x.text.size : Int))))),(45,.v (.slice Arh r.held.length Crh)),(46,.v (.int .i64 ((r.held.length : Nat) : Int))),(47,.v (.int .i64 (k : Int)))] ?_
 refine xl_eqS (t' := [(1,.p 0 0),(4,.v (.int .i64 (windowOf r))),(5,.v (.int .i64 (x.off + (x.text.size : Int)))),(45,.v (.slice Arh r.held.length Crh)),(46,.v (.int .i64 ((r.held.length : Nat) : Int))),(47,.v (.int .i64 (k : Int)))]) (by rw [show (IntKind.i64.wrap (x.off + (x.text.size : Int))) = (x.off + (x.text.size : Int)) from wrap_id (by omega) (by omega)]) ?_
 refine kED [1,4,5,45,46,47] [] ?_
 refine kG ?_
 refine kRD 2 [1,4,5,45,46,47] [(47,.v (.int .i64 (IntKind.i64.wrap ((k : Int) + 1))))] ?_
 refine xl_nv [1,4,5,45,46,47] [(47,.v (.int .i64 (IntKind.i64.wrap ((k : Int) + 1))))] [(47,.v (.int .i64 ((k : Int) + 1)))] (by rw [show (IntKind.i64.wrap ((k : Int) + 1)) = ((k : Int) + 1) from wrap_id (by omega) (by omega)]) (by kernel_rfl) ?_
 refine kED [1,4,5,45,46,47] [] ?_
 exact ⟨⟨(k + 1,x.off + (x.text.size : Int)),⟨by omega,by omega,by omega,by rw [HK]; first | (simp [*]; done) | (simp [*]; omega) | grind⟩⟩,kF 1 0 [1,4,5,45,46,47],by show r.held.length - (k + 1) < r.held.length - k; omega⟩
 have h13p := of_decide_eq_false h13
 have hge : k = r.held.length := by simp at h13; omega
 subst hge; simp only [List.drop_length,heldOkS,heldOk] at HK
 refine xw_exit ?_
 refine kQ ?_
 refine kRD 4 [1,80] [(80,.v (.bool (!r.done)))] ?_
 refine kP 80 (!r.done) (fun h17 => ?_) (fun h17 => ?_)
 have h17n := not_t h17
 refine kES [2] [(2,.v (.bool true))] ?_
 refine kR ?_
 exact ⟨[.bool true],by kernel_rfl,fun w' hb hf => ⟨ret_bool (show (true : Bool) = receiverOk r from by first | rfl | (rw [HR,HK]; simp [*]; done) | (rw [HR,HK]; simp [*]; omega) | (rw [HR,HK]; grind [rcvPost]) | (simp [receiverOk,rcvPre, *]; done) | (simp [receiverOk,rcvPre, *]; omega) | grind [receiverOk,rcvPre]),hb⟩⟩
 have h17n := not_f h17
 refine kRD 5 [1,80,85] [(80,.v (.bool false)),(85,.v (.bool (((r.held.length : Nat) : Int) == 0)))] ?_
 refine kP 85 (((r.held.length : Nat) : Int) == 0) (fun h18 => ?_) (fun h18 => ?_)
 have h18p := eqT h18
 refine kES [2] [(2,.v (.bool (r.fin == (-1))))] ?_
 refine kR ?_
 exact ⟨[.bool (r.fin == (-1))],by kernel_rfl,fun w' hb hf => ⟨ret_bool (show (r.fin == (-1) : Bool) = receiverOk r from by first | rfl | (rw [HR,HK]; simp [*]; done) | (rw [HR,HK]; simp [*]; omega) | (rw [HR,HK]; grind [rcvPost]) | (simp [receiverOk,rcvPre, *]; done) | (simp [receiverOk,rcvPre, *]; omega) | grind [receiverOk,rcvPre]),hb⟩⟩
 have h18p := eqF h18
 refine kES [2] [(2,.v (.bool false))] ?_
 refine kR ?_
 exact ⟨[.bool false],by kernel_rfl,fun w' hb hf => ⟨ret_bool (show (false : Bool) = receiverOk r from by first | rfl | (rw [HR,HK]; simp [*]; done) | (rw [HR,HK]; simp [*]; omega) | (rw [HR,HK]; grind [rcvPost]) | (simp [receiverOk,rcvPre, *]; done) | (simp [receiverOk,rcvPre, *]; omega) | grind [receiverOk,rcvPre]),hb⟩⟩
theorem l19Fin_c (k : Int) (w : World)  : Calls Try.prog 83 #[.int .i64 k] w fun e w' => e = .returned (.bool (decide (k ≠ 1 ∧ k ≠ 4))) ∧ Below w.heap.size w w' := by
 refine x_calls (args := [.int .i64 k]) (fn := Try.f83) [] Try.func83 rfl Try.ntmps83 rfl (by simp) ?_
 refine kQ ?_
 refine kEF [0] ⟨[(0,.v (.int .i64 k))],[],[],[]⟩ ?_
 refine kS ?_
 refine xw_join ⟨[(2,.v (.bool ((k != 1) && (k != 4))))],[],[],[]⟩ ?_ ?_
 refine kG ?_
 refine kRS 3 [0,5] [(0,.v (.int .i64 k)),(5,.v (.bool (k != 1)))] ?_
 refine kP 5 (k != 1) (fun h1 => ?_) (fun h1 => ?_)
 have h1p := neT h1
 refine kES [2] [(2,.v (.bool (k != 4)))] ?_
 show Wk _ _
 try rw [h1]
 exact kF 0 0 [2]
 have h1p := neF h1
 refine kES [2] [(2,.v (.bool false))] ?_
 show Wk _ _
 try rw [h1]
 exact kF 0 0 [2]
 refine kR ?_
 exact ⟨[.bool ((k != 1) && (k != 4))],by kernel_rfl,fun w' hb hf => ⟨ret_bool (show ((k != 1) && (k != 4) : Bool) = decide (k ≠ 1 ∧ k ≠ 4) from by first | rfl | (simp [*]; done) | (simp [*]; omega) | grind [toList_lit0]),hb⟩⟩
@[simp] theorem inB18_1 : inB 1 1 8 = true := rfl
@[simp] theorem inB18_2 : inB 2 1 8 = true := rfl
@[simp] theorem inB18_3 : inB 3 1 8 = true := rfl
@[simp] theorem inB18_4 : inB 4 1 8 = true := rfl
@[simp] theorem inB18_5 : inB 5 1 8 = true := rfl
@[simp] theorem inB18_6 : inB 6 1 8 = true := rfl
@[simp] theorem inB18_7 : inB 7 1 8 = true := rfl
@[simp] theorem inB18_8 : inB 8 1 8 = true := rfl
theorem ysConnOk_c (c : Con) (c_r_heldV : Value) (w : World) (hl_c_r_heldV : Sl w c_r_heldV 2 (c.r.held.map pceCells)) (hm : ∀ p ∈ c.r.held, p.text.size ≤ 1048576) (hsz : c.r.data.size ≤ 4611686018427387904) : Calls Try.prog 49 #[.agg (conL c c_r_heldV).toArray] w fun e w' => e = .returned (.bool (conOk c)) ∧ Below w.heap.size w w' := by
 obtain ⟨Acrh,Ccrh,hvcrh⟩ := hl_c_r_heldV.form
 rw [List.length_map] at hvcrh; subst hvcrh
 have hncrh := hl_c_r_heldV.len; rw [List.length_map] at hncrh
 have hqcrh := Sl.capLe hl_c_r_heldV
 refine x_calls (args := [.agg (conL c (.slice Acrh c.r.held.length Ccrh)).toArray]) (fn := Try.f49) [slF (.slice Acrh c.r.held.length Ccrh) 2 (c.r.held.map pceCells)] Try.func49 rfl Try.ntmps49 rfl (by simp only [List.mem_cons,List.not_mem_nil,or_false,forall_eq_or_imp,forall_eq]; exact ⟨rfl,hl_c_r_heldV⟩) ?_
 refine kQ ?_
 refine kEF [1] ⟨[(1,.p 0 0)],[⟨68,conL c (.slice Acrh c.r.held.length Ccrh)⟩],[],[slF (.slice Acrh c.r.held.length Ccrh) 2 (c.r.held.map pceCells)]⟩ ?_
 refine kS ?_
 refine kS ?_
 refine xw_join ⟨[(1,.p 0 0),(52,.v (.bool ((!(tupleOk c.t)) || ((!(senderOk c.s)) || ((!(receiverOk c.r)) || ((!(optionsOk c.o)) || ((!(inB c.state 1 8)) || ((!(inB c.window 0 c.most)) || ((decide (c.most > 1073725440)) || (!(inB c.tries 0 3)))))))))))],[⟨68,conL c (.slice Acrh c.r.held.length Ccrh)⟩],[],[slF (.slice Acrh c.r.held.length Ccrh) 2 (c.r.held.map pceCells)]⟩ ?_ ?_
 refine kG ?_
 refine kCS 2 [1,7] [(1,.p 0 0),(7,.v (.agg (tupL c.t).toArray))] 79 [.agg (tupL c.t).toArray] (some 8) rfl (xc_b fun ww hf => sTupleOk_c c.t.ip c.t.port c.t.my ww ) ?_
 intro _
 refine kRS 2 [1,10] [(1,.p 0 0),(10,.v (.bool (!(tupleOk c.t))))] ?_
 refine kP 10 (!(tupleOk c.t)) (fun h1 => ?_) (fun h1 => ?_)
 have h1n := not_t h1
 refine kES [1,52] [(1,.p 0 0),(52,.v (.bool true))] ?_
 show Wk _ _
 try rw [h1]
 exact kF 1 0 [1,52]
 have h1n := not_f h1
 refine kCS 2 [1,10,12] [(1,.p 0 0),(10,.v (.bool false)),(12,.v (.agg (sndL c.s).toArray))] 80 [.agg (sndL c.s).toArray] (some 13) rfl (xc_b fun ww hf => sSenderOk_c c.s.una c.s.data c.s.sent c.s.fin c.s.finSent c.s.done ww ) ?_
 intro _
 refine kRS 3 [1,16] [(1,.p 0 0),(16,.v (.bool (!(senderOk c.s))))] ?_
 refine kP 16 (!(senderOk c.s)) (fun h2 => ?_) (fun h2 => ?_)
 have h2n := not_t h2
 refine kES [1,52] [(1,.p 0 0),(52,.v (.bool true))] ?_
 show Wk _ _
 try rw [h1]
 try rw [h2]
 exact kF 1 0 [1,52]
 have h2n := not_f h2
 refine kCS 2 [1,16,18] [(1,.p 0 0),(16,.v (.bool false)),(18,.v (.agg (rcvL c.r (.slice Acrh c.r.held.length Ccrh)).toArray))] 81 [.agg (rcvL c.r (.slice Acrh c.r.held.length Ccrh)).toArray] (some 19) rfl (xc_b fun ww hf => ysReceiverOk_c c.r (.slice Acrh c.r.held.length Ccrh) ww (hf _ m0) (by assumption) (by omega)) ?_
 intro _
 refine kRS 3 [1,22] [(1,.p 0 0),(22,.v (.bool (!(receiverOk c.r))))] ?_
 refine kP 22 (!(receiverOk c.r)) (fun h3 => ?_) (fun h3 => ?_)
 have h3n := not_t h3
 refine kES [1,52] [(1,.p 0 0),(52,.v (.bool true))] ?_
 show Wk _ _
 try rw [h1]
 try rw [h2]
 try rw [h3]
 exact kF 1 0 [1,52]
 have h3n := not_f h3
 refine kCS 2 [1,22,24] [(1,.p 0 0),(22,.v (.bool false)),(24,.v (.agg (optL c.o).toArray))] 82 [.agg (optL c.o).toArray] (some 25) rfl (xc_b fun ww hf => sOptionsOk_c c.o.mss c.o.scale c.o.sack c.o.stamp c.o.val c.o.echo ww ) ?_
 intro _
 refine kRS 3 [1,28] [(1,.p 0 0),(28,.v (.bool (!(optionsOk c.o))))] ?_
 refine kP 28 (!(optionsOk c.o)) (fun h4 => ?_) (fun h4 => ?_)
 have h4n := not_t h4
 refine kES [1,52] [(1,.p 0 0),(52,.v (.bool true))] ?_
 show Wk _ _
 try rw [h1]
 try rw [h2]
 try rw [h3]
 try rw [h4]
 exact kF 1 0 [1,52]
 have h4n := not_f h4
 refine kCS 2 [1,28,30] [(1,.p 0 0),(28,.v (.bool false)),(30,.v (.int .i64 c.state))] 78 [.int .i64 c.state,.int .i64 1,.int .i64 8] (some 31) rfl (xc_s fun ww hf => l1In_c c.state 1 8 ww ) ?_
 intro _
 refine kRS 3 [1,34] [(1,.p 0 0),(34,.v (.bool (!(inB c.state 1 8))))] ?_
 refine kP 34 (!(inB c.state 1 8)) (fun h5 => ?_) (fun h5 => ?_)
 have h5n := not_t h5
 refine kES [1,52] [(1,.p 0 0),(52,.v (.bool true))] ?_
 show Wk _ _
 try rw [h1]
 try rw [h2]
 try rw [h3]
 try rw [h4]
 try rw [h5]
 exact kF 1 0 [1,52]
 have h5n := not_f h5
 refine kCS 4 [1,34,36,38] [(1,.p 0 0),(34,.v (.bool false)),(36,.v (.int .i64 c.window)),(38,.v (.int .i64 c.most))] 78 [.int .i64 c.window,.int .i64 0,.int .i64 c.most] (some 39) rfl (xc_s fun ww hf => l1In_c c.window 0 c.most ww ) ?_
 intro _
 refine kRS 3 [1,42] [(1,.p 0 0),(42,.v (.bool (!(inB c.window 0 c.most))))] ?_
 refine kP 42 (!(inB c.window 0 c.most)) (fun h6 => ?_) (fun h6 => ?_)
 have h6n := not_t h6
 refine kES [1,52] [(1,.p 0 0),(52,.v (.bool true))] ?_
 show Wk _ _
 try rw [h1]
 try rw [h2]
 try rw [h3]
 try rw [h4]
 try rw [h5]
 try rw [h6]
 exact kF 1 0 [1,52]
 have h6n := not_f h6
 refine kRS 5 [1,47] [(1,.p 0 0),(47,.v (.bool (decide (c.most > 1073725440))))] ?_
 refine kP 47 (decide (c.most > 1073725440)) (fun h7 => ?_) (fun h7 => ?_)
 have h7p := of_decide_eq_true h7
 refine kES [1,52] [(1,.p 0 0),(52,.v (.bool true))] ?_
 show Wk _ _
 try rw [h1]
 try rw [h2]
 try rw [h3]
 try rw [h4]
 try rw [h5]
 try rw [h6]
 try rw [h7]
 exact kF 1 0 [1,52]
 have h7p := of_decide_eq_false h7
 refine kCS 2 [1,47,49] [(1,.p 0 0),(47,.v (.bool false)),(49,.v (.int .i64 c.tries))] 78 [.int .i64 c.tries,.int .i64 0,.int .i64 3] (some 50) rfl (xc_s fun ww hf => l1In_c c.tries 0 3 ww ) ?_
 intro _
 refine kES [1,52] [(1,.p 0 0),(52,.v (.bool (!(inB c.tries 0 3))))] ?_
 show Wk _ _
 try rw [h1]
 try rw [h2]
 try rw [h3]
 try rw [h4]
 try rw [h5]
 try rw [h6]
 try rw [h7]
 exact kF 1 0 [1,52]
 refine kC ((!(tupleOk c.t)) || ((!(senderOk c.s)) || ((!(receiverOk c.r)) || ((!(optionsOk c.o)) || ((!(inB c.state 1 8)) || ((!(inB c.window 0 c.most)) || ((decide (c.most > 1073725440)) || (!(inB c.tries 0 3))))))))) (fun h8 => ?_) (fun h8 => ?_)
 refine kQ ?_
 refine kES [2] [(2,.v (.bool false))] ?_
 refine kR ?_
 exact ⟨[.bool false],by kernel_rfl,fun w' hb hf => ⟨ret_bool (show (false : Bool) = conOk c from by first | rfl | (simp [conOk,conPre,conMid,stateFits, *]; done) | (clear hm hf hb; simp_all [conOk,conPre,conMid,stateFits]; done) | grind [conOk,conPre,conMid,stateFits,inB]),hb⟩⟩
 have h8l := or_l h8
 have h8ln := not_f h8l
 have h8r := or_r h8
 have h8rl := or_l h8r
 have h8rln := not_f h8rl
 have h8rr := or_r h8r
 have h8rrl := or_l h8rr
 have h8rrln := not_f h8rrl
 have h8rrr := or_r h8rr
 have h8rrrl := or_l h8rrr
 have h8rrrln := not_f h8rrrl
 have h8rrrr := or_r h8rrr
 have h8rrrrl := or_l h8rrrr
 have h8rrrrln := not_f h8rrrrl
 have h8rrrrr := or_r h8rrrr
 have h8rrrrrl := or_l h8rrrrr
 have h8rrrrrln := not_f h8rrrrrl
 have h8rrrrrr := or_r h8rrrrr
 have h8rrrrrrl := or_l h8rrrrrr
 have h8rrrrrrr := or_r h8rrrrrr
 have h8rrrrrrrn := not_f h8rrrrrrr
 refine kK ?_
 refine kQ ?_
 refine kES [1,3] [(1,.p 0 0),(3,.v (.int .i64 3))] ?_
 refine kS ?_
 refine kQ ?_
 refine kES [1,3,55] [(1,.p 0 0),(3,.v (.int .i64 3)),(55,.v (.bool (c.state == 7)))] ?_
 refine xw_join ⟨[(1,.p 0 0),(3,.v (.int .i64 (if (c.state == 7) = true then 4 else 3)))],[⟨68,conL c (.slice Acrh c.r.held.length Ccrh)⟩],[],[slF (.slice Acrh c.r.held.length Ccrh) 2 (c.r.held.map pceCells)]⟩ ?_ ?_
 refine kC (c.state == 7) (fun h9 => ?_) (fun h9 => ?_)
 have h9p := eqT h9
 refine kG ?_
 refine kES [1,3] [(1,.p 0 0),(3,.v (.int .i64 4))] ?_
 show Wk _ _; rw [h9]; exact kF 1 0 [1,3]
 have h9p := eqF h9
 refine kK ?_
 show Wk _ _; rw [h9]; exact kF 1 0 [1,3]
 refine kS ?_
 refine kQ ?_
 refine kCS 3 [1,57,58] [(1,.p 0 0),(57,.v (.int .i64 c.timer)),(58,.v (.int .i64 (if (c.state == 7) = true then 4 else 3)))] 78 [.int .i64 c.timer,.int .i64 0,.int .i64 (if (c.state == 7) = true then 4 else 3)] (some 59) rfl (xc_s fun ww hf => l1In_c c.timer 0 (if (c.state == 7) = true then 4 else 3) ww ) ?_
 intro _
 refine kES [1,60] [(1,.p 0 0),(60,.v (.bool (!(inB c.timer 0 (if (c.state == 7) = true then 4 else 3)))))] ?_
 refine kC (!(inB c.timer 0 (if (c.state == 7) = true then 4 else 3))) (fun h10 => ?_) (fun h10 => ?_)
 have h10n := not_t h10
 have h10np := h10n; simp only [beq_iff_eq,bne_iff_ne,beq_eq_false_iff_ne,bne_eq_false_iff_eq,ne_eq,toList_lit0] at h10np
 refine kQ ?_
 refine kES [2] [(2,.v (.bool false))] ?_
 refine kR ?_
 exact ⟨[.bool false],by kernel_rfl,fun w' hb hf => ⟨ret_bool (show (false : Bool) = conOk c from by first | rfl | (simp [conOk,conPre,conMid,stateFits, *]; done) | (clear hm hf hb; simp_all [conOk,conPre,conMid,stateFits]; done) | grind [conOk,conPre,conMid,stateFits,inB]),hb⟩⟩
 have h10n := not_f h10
 have h10np := h10n; simp only [beq_iff_eq,bne_iff_ne,beq_eq_false_iff_ne,bne_eq_false_iff_eq,ne_eq,toList_lit0] at h10np
 refine kK ?_
 refine kS ?_
 refine kQ ?_
 refine kES [1,63] [(1,.p 0 0),(63,.v (.bool (c.state == 8)))] ?_
 refine kC (c.state == 8) (fun h11 => ?_) (fun h11 => ?_)
 have h11p := eqT h11
 refine kQ ?_
 refine kES [2] [(2,.v (.bool true))] ?_
 refine kR ?_
 exact ⟨[.bool true],by kernel_rfl,fun w' hb hf => ⟨ret_bool (show (true : Bool) = conOk c from by first | rfl | (simp [conOk,conPre,conMid,stateFits, *]; done) | (clear hm hf hb; simp_all [conOk,conPre,conMid,stateFits]; done) | grind [conOk,conPre,conMid,stateFits,inB]),hb⟩⟩
 have h11p := eqF h11
 refine kK ?_
 refine kS ?_
 refine xw_join ⟨[(1,.p 0 0),(4,.v (.bool ((c.state == 3) || (c.state == 7))))],[⟨68,conL c (.slice Acrh c.r.held.length Ccrh)⟩],[],[slF (.slice Acrh c.r.held.length Ccrh) 2 (c.r.held.map pceCells)]⟩ ?_ ?_
 refine kG ?_
 refine kRS 4 [1,67] [(1,.p 0 0),(67,.v (.bool (c.state == 3)))] ?_
 refine kP 67 (c.state == 3) (fun h12 => ?_) (fun h12 => ?_)
 have h12p := eqT h12
 refine kES [1,4] [(1,.p 0 0),(4,.v (.bool true))] ?_
 show Wk _ _
 try rw [h12]
 exact kF 1 0 [1,4]
 have h12p := eqF h12
 refine kES [1,4] [(1,.p 0 0),(4,.v (.bool (c.state == 7)))] ?_
 show Wk _ _
 try rw [h12]
 exact kF 1 0 [1,4]
 refine kS ?_
 refine xw_join ⟨[(1,.p 0 0),(4,.v (.bool ((c.state == 3) || (c.state == 7)))),(5,.v (.bool ((c.state == 4) || (decide (c.state ≥ 5)))))],[⟨68,conL c (.slice Acrh c.r.held.length Ccrh)⟩],[],[slF (.slice Acrh c.r.held.length Ccrh) 2 (c.r.held.map pceCells)]⟩ ?_ ?_
 refine kG ?_
 refine kRS 4 [1,4,75] [(1,.p 0 0),(4,.v (.bool ((c.state == 3) || (c.state == 7)))),(75,.v (.bool (c.state == 4)))] ?_
 refine kP 75 (c.state == 4) (fun h13 => ?_) (fun h13 => ?_)
 have h13p := eqT h13
 refine kES [1,4,5] [(1,.p 0 0),(4,.v (.bool ((c.state == 3) || (c.state == 7)))),(5,.v (.bool true))] ?_
 show Wk _ _
 try rw [h13]
 exact kF 1 0 [1,4,5]
 have h13p := eqF h13
 refine kES [1,4,5] [(1,.p 0 0),(4,.v (.bool ((c.state == 3) || (c.state == 7)))),(5,.v (.bool (decide (c.state ≥ 5))))] ?_
 show Wk _ _
 try rw [h13]
 exact kF 1 0 [1,4,5]
 refine kS ?_
 refine xw_join ⟨[(2,.v (.bool ((c.s.fin == (decide (c.state ≠ 1 ∧ c.state ≠ 4))) && ((c.s.done == ((c.state == 3) || (c.state == 7))) && (c.r.done == ((c.state == 4) || (decide (c.state ≥ 5))))))))],[⟨68,conL c (.slice Acrh c.r.held.length Ccrh)⟩],[],[slF (.slice Acrh c.r.held.length Ccrh) 2 (c.r.held.map pceCells)]⟩ ?_ ?_
 refine xe_region [] (by kernel_rfl) (fun ρ σ => ?_)
 refine kTS [0,1,2,3,4] [84,82,1,4,5] 17 [(84,.v (.int .i64 c.state)),(82,.v (.bool c.s.fin)),(1,.p 0 0),(4,.v (.bool ((c.state == 3) || (c.state == 7)))),(5,.v (.bool ((c.state == 4) || (decide (c.state ≥ 5)))))] ?_
 refine kA [5] ?_
 refine kSC 5 83 [.int .i64 c.state] (some 85) rfl (xc_b fun ww hf => l19Fin_c c.state ww ) ?_
 intro _
 refine kTS [6,7] [87,1,4,5] 14 [(87,.v (.bool (c.s.fin == (decide (c.state ≠ 1 ∧ c.state ≠ 4))))),(1,.p 0 0),(4,.v (.bool ((c.state == 3) || (c.state == 7)))),(5,.v (.bool ((c.state == 4) || (decide (c.state ≥ 5)))))] ?_
 refine kY 87 (c.s.fin == (decide (c.state ≠ 1 ∧ c.state ≠ 4))) (fun h14 => ?_) (fun h14 => ?_)
 have h14p := eqT h14
 refine kTS [8,9,10,11,12,13,14] [94,1,5] 7 [(94,.v (.bool (c.s.done == ((c.state == 3) || (c.state == 7))))),(1,.p 0 0),(5,.v (.bool ((c.state == 4) || (decide (c.state ≥ 5)))))] ?_
 refine kY 94 (c.s.done == ((c.state == 3) || (c.state == 7))) (fun h15 => ?_) (fun h15 => ?_)
 have h15p := eqT h15
 refine kTS [15,16,17,18,19,20,21] [2] 0 [(2,.v (.bool (c.r.done == ((c.state == 4) || (decide (c.state ≥ 5))))))] ?_
 refine kZ ?_
 show Wk _ _
 try rw [h14]
 try rw [h15]
 exact kF 1 0 [2]
 have h15p := eqF h15
 refine kTS [15,16,17,18,19,20,21] [2] 0 [(2,.v (.bool false))] ?_
 refine kZ ?_
 show Wk _ _
 try rw [h14]
 try rw [h15]
 exact kF 1 0 [2]
 have h14p := eqF h14
 refine kTS [8,9,10,11,12,13,14,15,16,17,18,19,20,21] [2] 0 [(2,.v (.bool false))] ?_
 refine kZ ?_
 show Wk _ _
 try rw [h14]
 exact kF 1 0 [2]
 refine kR ?_
 exact ⟨[.bool ((c.s.fin == (decide (c.state ≠ 1 ∧ c.state ≠ 4))) && ((c.s.done == ((c.state == 3) || (c.state == 7))) && (c.r.done == ((c.state == 4) || (decide (c.state ≥ 5))))))],by kernel_rfl,fun w' hb hf => ⟨ret_bool (show ((c.s.fin == (decide (c.state ≠ 1 ∧ c.state ≠ 4))) && ((c.s.done == ((c.state == 3) || (c.state == 7))) && (c.r.done == ((c.state == 4) || (decide (c.state ≥ 5))))) : Bool) = conOk c from by first | rfl | (simp [conOk,conPre,conMid,stateFits, *]; done) | (clear hm hf hb; simp_all [conOk,conPre,conMid,stateFits]; done) | grind [conOk,conPre,conMid,stateFits,inB]),hb⟩⟩
theorem yiConnOk_c (c : Con) (c_r_heldV : Value) (w : World) (hl_c_r_heldV : Sl w c_r_heldV 2 (c.r.held.map pceCells)) (hm : ∀ p ∈ c.r.held, p.text.size ≤ 1048576) (hsz : c.r.data.size ≤ 4611686018427387904) : Calls Try.prog 52 #[.agg (conL c c_r_heldV).toArray] w fun e w' => e = .returned (.bool (conOk c)) ∧ Below w.heap.size w w' := by
 obtain ⟨Acrh,Ccrh,hvcrh⟩ := hl_c_r_heldV.form
 rw [List.length_map] at hvcrh; subst hvcrh
 have hncrh := hl_c_r_heldV.len; rw [List.length_map] at hncrh
 have hqcrh := Sl.capLe hl_c_r_heldV
 refine x_calls (args := [.agg (conL c (.slice Acrh c.r.held.length Ccrh)).toArray]) (fn := Try.f52) [slF (.slice Acrh c.r.held.length Ccrh) 2 (c.r.held.map pceCells)] Try.func52 rfl Try.ntmps52 rfl (by simp only [List.mem_cons,List.not_mem_nil,or_false,forall_eq_or_imp,forall_eq]; exact ⟨rfl,hl_c_r_heldV⟩) ?_
 refine kQ ?_
 refine kEF [1] ⟨[(1,.p 0 0)],[⟨68,conL c (.slice Acrh c.r.held.length Ccrh)⟩],[],[slF (.slice Acrh c.r.held.length Ccrh) 2 (c.r.held.map pceCells)]⟩ ?_
 refine kS ?_
 refine kS ?_
 refine xw_join ⟨[(1,.p 0 0),(34,.v (.bool ((!(tupleOk c.t)) || ((!(senderOk c.s)) || ((!(receiverOk c.r)) || ((!(optionsOk c.o)) || (!(inB c.state 1 8))))))))],[⟨68,conL c (.slice Acrh c.r.held.length Ccrh)⟩],[],[slF (.slice Acrh c.r.held.length Ccrh) 2 (c.r.held.map pceCells)]⟩ ?_ ?_
 refine kG ?_
 refine kCS 2 [1,8] [(1,.p 0 0),(8,.v (.agg (tupL c.t).toArray))] 85 [.agg (tupL c.t).toArray] (some 9) rfl (xc_b fun ww hf => iTupleOk_c c.t.ip c.t.port c.t.my ww ) ?_
 intro _
 refine kRS 2 [1,11] [(1,.p 0 0),(11,.v (.bool (!(tupleOk c.t))))] ?_
 refine kP 11 (!(tupleOk c.t)) (fun h1 => ?_) (fun h1 => ?_)
 have h1n := not_t h1
 refine kES [1,34] [(1,.p 0 0),(34,.v (.bool true))] ?_
 show Wk _ _
 try rw [h1]
 exact kF 1 0 [1,34]
 have h1n := not_f h1
 refine kCS 2 [1,11,13] [(1,.p 0 0),(11,.v (.bool false)),(13,.v (.agg (sndL c.s).toArray))] 86 [.agg (sndL c.s).toArray] (some 14) rfl (xc_b fun ww hf => iSenderOk_c c.s.una c.s.data c.s.sent c.s.fin c.s.finSent c.s.done ww ) ?_
 intro _
 refine kRS 3 [1,17] [(1,.p 0 0),(17,.v (.bool (!(senderOk c.s))))] ?_
 refine kP 17 (!(senderOk c.s)) (fun h2 => ?_) (fun h2 => ?_)
 have h2n := not_t h2
 refine kES [1,34] [(1,.p 0 0),(34,.v (.bool true))] ?_
 show Wk _ _
 try rw [h1]
 try rw [h2]
 exact kF 1 0 [1,34]
 have h2n := not_f h2
 refine kCS 2 [1,17,19] [(1,.p 0 0),(17,.v (.bool false)),(19,.v (.agg (rcvL c.r (.slice Acrh c.r.held.length Ccrh)).toArray))] 87 [.agg (rcvL c.r (.slice Acrh c.r.held.length Ccrh)).toArray] (some 20) rfl (xc_b fun ww hf => yiReceiverOk_c c.r (.slice Acrh c.r.held.length Ccrh) ww (hf _ m0) (by assumption) (by omega)) ?_
 intro _
 refine kRS 3 [1,23] [(1,.p 0 0),(23,.v (.bool (!(receiverOk c.r))))] ?_
 refine kP 23 (!(receiverOk c.r)) (fun h3 => ?_) (fun h3 => ?_)
 have h3n := not_t h3
 refine kES [1,34] [(1,.p 0 0),(34,.v (.bool true))] ?_
 show Wk _ _
 try rw [h1]
 try rw [h2]
 try rw [h3]
 exact kF 1 0 [1,34]
 have h3n := not_f h3
 refine kCS 2 [1,23,25] [(1,.p 0 0),(23,.v (.bool false)),(25,.v (.agg (optL c.o).toArray))] 88 [.agg (optL c.o).toArray] (some 26) rfl (xc_b fun ww hf => iOptionsOk_c c.o.mss c.o.scale c.o.sack c.o.stamp c.o.val c.o.echo ww ) ?_
 intro _
 refine kRS 3 [1,29] [(1,.p 0 0),(29,.v (.bool (!(optionsOk c.o))))] ?_
 refine kP 29 (!(optionsOk c.o)) (fun h4 => ?_) (fun h4 => ?_)
 have h4n := not_t h4
 refine kES [1,34] [(1,.p 0 0),(34,.v (.bool true))] ?_
 show Wk _ _
 try rw [h1]
 try rw [h2]
 try rw [h3]
 try rw [h4]
 exact kF 1 0 [1,34]
 have h4n := not_f h4
 refine kCS 2 [1,29,31] [(1,.p 0 0),(29,.v (.bool false)),(31,.v (.int .i64 c.state))] 84 [.int .i64 c.state,.int .i64 1,.int .i64 8] (some 32) rfl (xc_s fun ww hf => within_c c.state 1 8 ww ) ?_
 intro _
 refine kES [1,34] [(1,.p 0 0),(34,.v (.bool (!(inB c.state 1 8))))] ?_
 show Wk _ _
 try rw [h1]
 try rw [h2]
 try rw [h3]
 try rw [h4]
 exact kF 1 0 [1,34]
 refine kC ((!(tupleOk c.t)) || ((!(senderOk c.s)) || ((!(receiverOk c.r)) || ((!(optionsOk c.o)) || (!(inB c.state 1 8)))))) (fun h5 => ?_) (fun h5 => ?_)
 refine kQ ?_
 refine kES [2] [(2,.v (.bool false))] ?_
 refine kR ?_
 exact ⟨[.bool false],by kernel_rfl,fun w' hb hf => ⟨ret_bool (show (false : Bool) = conOk c from by first | rfl | (simp [conOk,conPre,conMid,stateFits, *]; done) | (clear hm hf hb; simp_all [conOk,conPre,conMid,stateFits]; done) | grind [conOk,conPre,conMid,stateFits,inB]),hb⟩⟩
 have h5l := or_l h5
 have h5ln := not_f h5l
 have h5r := or_r h5
 have h5rl := or_l h5r
 have h5rln := not_f h5rl
 have h5rr := or_r h5r
 have h5rrl := or_l h5rr
 have h5rrln := not_f h5rrl
 have h5rrr := or_r h5rr
 have h5rrrl := or_l h5rrr
 have h5rrrln := not_f h5rrrl
 have h5rrrr := or_r h5rrr
 have h5rrrrn := not_f h5rrrr
 refine kK ?_
 refine kQ ?_
 refine kES [1,3] [(1,.p 0 0),(3,.v (.int .i64 3))] ?_
 refine kS ?_
 refine kQ ?_
 refine kES [1,3,37] [(1,.p 0 0),(3,.v (.int .i64 3)),(37,.v (.bool (c.state == 7)))] ?_
 refine xw_join ⟨[(1,.p 0 0),(3,.v (.int .i64 (if (c.state == 7) = true then 4 else 3)))],[⟨68,conL c (.slice Acrh c.r.held.length Ccrh)⟩],[],[slF (.slice Acrh c.r.held.length Ccrh) 2 (c.r.held.map pceCells)]⟩ ?_ ?_
 refine kC (c.state == 7) (fun h6 => ?_) (fun h6 => ?_)
 have h6p := eqT h6
 refine kG ?_
 refine kES [1,3] [(1,.p 0 0),(3,.v (.int .i64 4))] ?_
 show Wk _ _; rw [h6]; exact kF 1 0 [1,3]
 have h6p := eqF h6
 refine kK ?_
 show Wk _ _; rw [h6]; exact kF 1 0 [1,3]
 refine kS ?_
 refine kS ?_
 refine xw_join ⟨[(1,.p 0 0),(62,.v (.bool ((!(inB c.most 0 1073725440)) || ((!(inB c.window 0 c.most)) || ((!(inB c.timer 0 (if (c.state == 7) = true then 4 else 3))) || (!(inB c.tries 0 3)))))))],[⟨68,conL c (.slice Acrh c.r.held.length Ccrh)⟩],[],[slF (.slice Acrh c.r.held.length Ccrh) 2 (c.r.held.map pceCells)]⟩ ?_ ?_
 refine kG ?_
 refine kCS 2 [1,3,39] [(1,.p 0 0),(3,.v (.int .i64 (if (c.state == 7) = true then 4 else 3))),(39,.v (.int .i64 c.most))] 84 [.int .i64 c.most,.int .i64 0,.int .i64 1073725440] (some 40) rfl (xc_s fun ww hf => within_c c.most 0 1073725440 ww ) ?_
 intro _
 refine kRS 2 [1,3,42] [(1,.p 0 0),(3,.v (.int .i64 (if (c.state == 7) = true then 4 else 3))),(42,.v (.bool (!(inB c.most 0 1073725440))))] ?_
 refine kP 42 (!(inB c.most 0 1073725440)) (fun h7 => ?_) (fun h7 => ?_)
 have h7n := not_t h7
 refine kES [1,62] [(1,.p 0 0),(62,.v (.bool true))] ?_
 show Wk _ _
 try rw [h7]
 exact kF 1 0 [1,62]
 have h7n := not_f h7
 refine kCS 4 [1,3,42,44,46] [(1,.p 0 0),(3,.v (.int .i64 (if (c.state == 7) = true then 4 else 3))),(42,.v (.bool false)),(44,.v (.int .i64 c.window)),(46,.v (.int .i64 c.most))] 84 [.int .i64 c.window,.int .i64 0,.int .i64 c.most] (some 47) rfl (xc_s fun ww hf => within_c c.window 0 c.most ww ) ?_
 intro _
 refine kRS 3 [1,3,50] [(1,.p 0 0),(3,.v (.int .i64 (if (c.state == 7) = true then 4 else 3))),(50,.v (.bool (!(inB c.window 0 c.most))))] ?_
 refine kP 50 (!(inB c.window 0 c.most)) (fun h8 => ?_) (fun h8 => ?_)
 have h8n := not_t h8
 refine kES [1,62] [(1,.p 0 0),(62,.v (.bool true))] ?_
 show Wk _ _
 try rw [h7]
 try rw [h8]
 exact kF 1 0 [1,62]
 have h8n := not_f h8
 refine kCS 3 [1,50,52,53] [(1,.p 0 0),(50,.v (.bool false)),(52,.v (.int .i64 c.timer)),(53,.v (.int .i64 (if (c.state == 7) = true then 4 else 3)))] 84 [.int .i64 c.timer,.int .i64 0,.int .i64 (if (c.state == 7) = true then 4 else 3)] (some 54) rfl (xc_s fun ww hf => within_c c.timer 0 (if (c.state == 7) = true then 4 else 3) ww ) ?_
 intro _
 refine kRS 3 [1,57] [(1,.p 0 0),(57,.v (.bool (!(inB c.timer 0 (if (c.state == 7) = true then 4 else 3)))))] ?_
 refine kP 57 (!(inB c.timer 0 (if (c.state == 7) = true then 4 else 3))) (fun h9 => ?_) (fun h9 => ?_)
 have h9n := not_t h9
 have h9np := h9n; simp only [beq_iff_eq,bne_iff_ne,beq_eq_false_iff_ne,bne_eq_false_iff_eq,ne_eq,toList_lit0] at h9np
 refine kES [1,62] [(1,.p 0 0),(62,.v (.bool true))] ?_
 show Wk _ _
 try rw [h7]
 try rw [h8]
 try rw [h9]
 exact kF 1 0 [1,62]
 have h9n := not_f h9
 have h9np := h9n; simp only [beq_iff_eq,bne_iff_ne,beq_eq_false_iff_ne,bne_eq_false_iff_eq,ne_eq,toList_lit0] at h9np
 refine kCS 2 [1,57,59] [(1,.p 0 0),(57,.v (.bool false)),(59,.v (.int .i64 c.tries))] 84 [.int .i64 c.tries,.int .i64 0,.int .i64 3] (some 60) rfl (xc_s fun ww hf => within_c c.tries 0 3 ww ) ?_
 intro _
 refine kES [1,62] [(1,.p 0 0),(62,.v (.bool (!(inB c.tries 0 3))))] ?_
 show Wk _ _
 try rw [h7]
 try rw [h8]
 try rw [h9]
 exact kF 1 0 [1,62]
 refine kC ((!(inB c.most 0 1073725440)) || ((!(inB c.window 0 c.most)) || ((!(inB c.timer 0 (if (c.state == 7) = true then 4 else 3))) || (!(inB c.tries 0 3))))) (fun h10 => ?_) (fun h10 => ?_)
 refine kQ ?_
 refine kES [2] [(2,.v (.bool false))] ?_
 refine kR ?_
 exact ⟨[.bool false],by kernel_rfl,fun w' hb hf => ⟨ret_bool (show (false : Bool) = conOk c from by first | rfl | (simp [conOk,conPre,conMid,stateFits, *]; done) | (clear hm hf hb; simp_all [conOk,conPre,conMid,stateFits]; done) | grind [conOk,conPre,conMid,stateFits,inB]),hb⟩⟩
 have h10l := or_l h10
 have h10ln := not_f h10l
 have h10r := or_r h10
 have h10rl := or_l h10r
 have h10rln := not_f h10rl
 have h10rr := or_r h10r
 have h10rrl := or_l h10rr
 have h10rrln := not_f h10rrl
 have h10rrlnp := h10rrln; simp only [beq_iff_eq,bne_iff_ne,beq_eq_false_iff_ne,bne_eq_false_iff_eq,ne_eq,toList_lit0] at h10rrlnp
 have h10rrr := or_r h10rr
 have h10rrrn := not_f h10rrr
 refine kK ?_
 refine kS ?_
 refine xe_region [] (by kernel_rfl) (fun ρ σ => ?_)
 refine kTS [0,1,2,3,4,5,6,7,8,9,10,11] [6,5,4,1] 0 [(6,.v (.bool c.r.done)),(5,.v (.bool c.s.done)),(4,.v (.bool c.s.fin)),(1,.p 0 0)] ?_
 refine kZ ?_
 refine kS ?_
 refine kQ ?_
 refine kES [4,5,6,73] [(4,.v (.bool c.s.fin)),(5,.v (.bool c.s.done)),(6,.v (.bool c.r.done)),(73,.v (.int .i64 c.state))] ?_
 refine xw_block ?_
 refine kQ ?_
 refine kES [4,5,6,73,74] [(4,.v (.bool c.s.fin)),(5,.v (.bool c.s.done)),(6,.v (.bool c.r.done)),(73,.v (.int .i64 c.state)),(74,.v (.bool (c.state == 1)))] ?_
 refine kC (c.state == 1) (fun h11 => ?_) (fun h11 => ?_)
 have h11p := eqT h11
 refine kS ?_
 refine xw_join ⟨[(2,.v (.bool ((!c.s.fin) && ((!c.s.done) && (!c.r.done)))))],[⟨68,conL c (.slice Acrh c.r.held.length Ccrh)⟩],[],[slF (.slice Acrh c.r.held.length Ccrh) 2 (c.r.held.map pceCells)]⟩ ?_ ?_
 refine kG ?_
 refine kRS 3 [5,6,78] [(5,.v (.bool c.s.done)),(6,.v (.bool c.r.done)),(78,.v (.bool (!c.s.fin)))] ?_
 refine kP 78 (!c.s.fin) (fun h12 => ?_) (fun h12 => ?_)
 have h12n := not_t h12
 refine kRS 4 [6,82] [(6,.v (.bool c.r.done)),(82,.v (.bool (!c.s.done)))] ?_
 refine kP 82 (!c.s.done) (fun h13 => ?_) (fun h13 => ?_)
 have h13n := not_t h13
 refine kES [2] [(2,.v (.bool (!c.r.done)))] ?_
 show Wk _ _
 try rw [h12]
 try rw [h13]
 exact kF 1 0 [2]
 have h13n := not_f h13
 refine kES [2] [(2,.v (.bool false))] ?_
 show Wk _ _
 try rw [h12]
 try rw [h13]
 exact kF 1 0 [2]
 have h12n := not_f h12
 refine kES [2] [(2,.v (.bool false))] ?_
 show Wk _ _
 try rw [h12]
 exact kF 1 0 [2]
 refine kR ?_
 exact ⟨[.bool ((!c.s.fin) && ((!c.s.done) && (!c.r.done)))],by kernel_rfl,fun w' hb hf => ⟨ret_bool (show ((!c.s.fin) && ((!c.s.done) && (!c.r.done)) : Bool) = conOk c from by first | rfl | (simp [conOk,conPre,conMid,stateFits, *]; done) | (clear hm hf hb; simp_all [conOk,conPre,conMid,stateFits]; done) | grind [conOk,conPre,conMid,stateFits,inB]),hb⟩⟩
 have h11p := eqF h11
 refine kQ ?_
 refine kES [4,5,6,73,86] [(4,.v (.bool c.s.fin)),(5,.v (.bool c.s.done)),(6,.v (.bool c.r.done)),(73,.v (.int .i64 c.state)),(86,.v (.bool (c.state == 2)))] ?_
 refine kC (c.state == 2) (fun h14 => ?_) (fun h14 => ?_)
 have h14p := eqT h14
 refine kS ?_
 refine xw_join ⟨[(2,.v (.bool (c.s.fin && ((!c.s.done) && (!c.r.done)))))],[⟨68,conL c (.slice Acrh c.r.held.length Ccrh)⟩],[],[slF (.slice Acrh c.r.held.length Ccrh) 2 (c.r.held.map pceCells)]⟩ ?_ ?_
 refine kG ?_
 refine kRS 2 [5,6,89] [(5,.v (.bool c.s.done)),(6,.v (.bool c.r.done)),(89,.v (.bool c.s.fin))] ?_
 refine kP 89 (c.s.fin) (fun h15 => ?_) (fun h15 => ?_)
 refine kRS 4 [6,93] [(6,.v (.bool c.r.done)),(93,.v (.bool (!c.s.done)))] ?_
 refine kP 93 (!c.s.done) (fun h16 => ?_) (fun h16 => ?_)
 have h16n := not_t h16
 refine kES [2] [(2,.v (.bool (!c.r.done)))] ?_
 show Wk _ _
 try rw [h15]
 try rw [h16]
 exact kF 1 0 [2]
 have h16n := not_f h16
 refine kES [2] [(2,.v (.bool false))] ?_
 show Wk _ _
 try rw [h15]
 try rw [h16]
 exact kF 1 0 [2]
 refine kES [2] [(2,.v (.bool false))] ?_
 show Wk _ _
 try rw [h15]
 exact kF 1 0 [2]
 refine kR ?_
 exact ⟨[.bool (c.s.fin && ((!c.s.done) && (!c.r.done)))],by kernel_rfl,fun w' hb hf => ⟨ret_bool (show (c.s.fin && ((!c.s.done) && (!c.r.done)) : Bool) = conOk c from by first | rfl | (simp [conOk,conPre,conMid,stateFits, *]; done) | (clear hm hf hb; simp_all [conOk,conPre,conMid,stateFits]; done) | grind [conOk,conPre,conMid,stateFits,inB]),hb⟩⟩
 have h14p := eqF h14
 refine kQ ?_
 refine kES [4,5,6,73,97] [(4,.v (.bool c.s.fin)),(5,.v (.bool c.s.done)),(6,.v (.bool c.r.done)),(73,.v (.int .i64 c.state)),(97,.v (.bool (c.state == 3)))] ?_
 refine kC (c.state == 3) (fun h17 => ?_) (fun h17 => ?_)
 have h17p := eqT h17
 refine kS ?_
 refine xw_join ⟨[(2,.v (.bool (c.s.fin && (c.s.done && (!c.r.done)))))],[⟨68,conL c (.slice Acrh c.r.held.length Ccrh)⟩],[],[slF (.slice Acrh c.r.held.length Ccrh) 2 (c.r.held.map pceCells)]⟩ ?_ ?_
 refine kG ?_
 refine kRS 2 [5,6,100] [(5,.v (.bool c.s.done)),(6,.v (.bool c.r.done)),(100,.v (.bool c.s.fin))] ?_
 refine kP 100 (c.s.fin) (fun h18 => ?_) (fun h18 => ?_)
 refine kRS 3 [6,103] [(6,.v (.bool c.r.done)),(103,.v (.bool c.s.done))] ?_
 refine kP 103 (c.s.done) (fun h19 => ?_) (fun h19 => ?_)
 refine kES [2] [(2,.v (.bool (!c.r.done)))] ?_
 show Wk _ _
 try rw [h18]
 try rw [h19]
 exact kF 1 0 [2]
 refine kES [2] [(2,.v (.bool false))] ?_
 show Wk _ _
 try rw [h18]
 try rw [h19]
 exact kF 1 0 [2]
 refine kES [2] [(2,.v (.bool false))] ?_
 show Wk _ _
 try rw [h18]
 exact kF 1 0 [2]
 refine kR ?_
 exact ⟨[.bool (c.s.fin && (c.s.done && (!c.r.done)))],by kernel_rfl,fun w' hb hf => ⟨ret_bool (show (c.s.fin && (c.s.done && (!c.r.done)) : Bool) = conOk c from by first | rfl | (simp [conOk,conPre,conMid,stateFits, *]; done) | (clear hm hf hb; simp_all [conOk,conPre,conMid,stateFits]; done) | grind [conOk,conPre,conMid,stateFits,inB]),hb⟩⟩
 have h17p := eqF h17
 refine kQ ?_
 refine kES [4,5,6,73,107] [(4,.v (.bool c.s.fin)),(5,.v (.bool c.s.done)),(6,.v (.bool c.r.done)),(73,.v (.int .i64 c.state)),(107,.v (.bool (c.state == 4)))] ?_
 refine kC (c.state == 4) (fun h20 => ?_) (fun h20 => ?_)
 have h20p := eqT h20
 refine kS ?_
 refine xw_join ⟨[(2,.v (.bool ((!c.s.fin) && ((!c.s.done) && c.r.done))))],[⟨68,conL c (.slice Acrh c.r.held.length Ccrh)⟩],[],[slF (.slice Acrh c.r.held.length Ccrh) 2 (c.r.held.map pceCells)]⟩ ?_ ?_
 refine kG ?_
 refine kRS 3 [5,6,111] [(5,.v (.bool c.s.done)),(6,.v (.bool c.r.done)),(111,.v (.bool (!c.s.fin)))] ?_
 refine kP 111 (!c.s.fin) (fun h21 => ?_) (fun h21 => ?_)
 have h21n := not_t h21
 refine kRS 4 [6,115] [(6,.v (.bool c.r.done)),(115,.v (.bool (!c.s.done)))] ?_
 refine kP 115 (!c.s.done) (fun h22 => ?_) (fun h22 => ?_)
 have h22n := not_t h22
 refine kES [2] [(2,.v (.bool c.r.done))] ?_
 show Wk _ _
 try rw [h21]
 try rw [h22]
 exact kF 1 0 [2]
 have h22n := not_f h22
 refine kES [2] [(2,.v (.bool false))] ?_
 show Wk _ _
 try rw [h21]
 try rw [h22]
 exact kF 1 0 [2]
 have h21n := not_f h21
 refine kES [2] [(2,.v (.bool false))] ?_
 show Wk _ _
 try rw [h21]
 exact kF 1 0 [2]
 refine kR ?_
 exact ⟨[.bool ((!c.s.fin) && ((!c.s.done) && c.r.done))],by kernel_rfl,fun w' hb hf => ⟨ret_bool (show ((!c.s.fin) && ((!c.s.done) && c.r.done) : Bool) = conOk c from by first | rfl | (simp [conOk,conPre,conMid,stateFits, *]; done) | (clear hm hf hb; simp_all [conOk,conPre,conMid,stateFits]; done) | grind [conOk,conPre,conMid,stateFits,inB]),hb⟩⟩
 have h20p := eqF h20
 refine kS ?_
 refine kQ ?_
 refine kES [4,5,6,73,118] [(4,.v (.bool c.s.fin)),(5,.v (.bool c.s.done)),(6,.v (.bool c.r.done)),(73,.v (.int .i64 c.state)),(118,.v (.bool (c.state == 5)))] ?_
 refine xw_join ⟨[(4,.v (.bool c.s.fin)),(5,.v (.bool c.s.done)),(6,.v (.bool c.r.done)),(73,.v (.int .i64 c.state)),(118,.v (.bool (if (c.state == 5) = true then c.state == 5 else c.state == 6)))],[⟨68,conL c (.slice Acrh c.r.held.length Ccrh)⟩],[],[slF (.slice Acrh c.r.held.length Ccrh) 2 (c.r.held.map pceCells)]⟩ ?_ ?_
 refine kC (c.state == 5) (fun h23 => ?_) (fun h23 => ?_)
 have h23p := eqT h23
 refine kK ?_
 show Wk _ _; rw [h23]; exact kF 1 0 [4,5,6,73,118]
 have h23p := eqF h23
 refine kG ?_
 refine kES [4,5,6,73,118] [(4,.v (.bool c.s.fin)),(5,.v (.bool c.s.done)),(6,.v (.bool c.r.done)),(73,.v (.int .i64 c.state)),(118,.v (.bool (c.state == 6)))] ?_
 show Wk _ _; rw [h23]; exact kF 1 0 [4,5,6,73,118]
 refine kC (if (c.state == 5) = true then c.state == 5 else c.state == 6) (fun h24 => ?_) (fun h24 => ?_)
 have h24p := h24; simp only [beq_iff_eq,bne_iff_ne,beq_eq_false_iff_ne,bne_eq_false_iff_eq,ne_eq,toList_lit0] at h24p
 refine kS ?_
 refine xw_join ⟨[(2,.v (.bool (c.s.fin && ((!c.s.done) && c.r.done))))],[⟨68,conL c (.slice Acrh c.r.held.length Ccrh)⟩],[],[slF (.slice Acrh c.r.held.length Ccrh) 2 (c.r.held.map pceCells)]⟩ ?_ ?_
 refine kG ?_
 refine kRS 2 [5,6,122] [(5,.v (.bool c.s.done)),(6,.v (.bool c.r.done)),(122,.v (.bool c.s.fin))] ?_
 refine kP 122 (c.s.fin) (fun h25 => ?_) (fun h25 => ?_)
 refine kRS 4 [6,126] [(6,.v (.bool c.r.done)),(126,.v (.bool (!c.s.done)))] ?_
 refine kP 126 (!c.s.done) (fun h26 => ?_) (fun h26 => ?_)
 have h26n := not_t h26
 refine kES [2] [(2,.v (.bool c.r.done))] ?_
 show Wk _ _
 try rw [h25]
 try rw [h26]
 exact kF 1 0 [2]
 have h26n := not_f h26
 refine kES [2] [(2,.v (.bool false))] ?_
 show Wk _ _
 try rw [h25]
 try rw [h26]
 exact kF 1 0 [2]
 refine kES [2] [(2,.v (.bool false))] ?_
 show Wk _ _
 try rw [h25]
 exact kF 1 0 [2]
 refine kR ?_
 exact ⟨[.bool (c.s.fin && ((!c.s.done) && c.r.done))],by kernel_rfl,fun w' hb hf => ⟨ret_bool (show (c.s.fin && ((!c.s.done) && c.r.done) : Bool) = conOk c from by first | rfl | (simp [conOk,conPre,conMid,stateFits, *]; done) | (clear hm hf hb; simp_all [conOk,conPre,conMid,stateFits]; done) | grind [conOk,conPre,conMid,stateFits,inB]),hb⟩⟩
 have h24p := h24; simp only [beq_iff_eq,bne_iff_ne,beq_eq_false_iff_ne,bne_eq_false_iff_eq,ne_eq,toList_lit0] at h24p
 refine kQ ?_
 refine kES [4,5,6,129] [(4,.v (.bool c.s.fin)),(5,.v (.bool c.s.done)),(6,.v (.bool c.r.done)),(129,.v (.bool (c.state == 7)))] ?_
 refine kC (c.state == 7) (fun h27 => ?_) (fun h27 => ?_)
 have h27p := eqT h27
 refine kS ?_
 refine xw_join ⟨[(2,.v (.bool (c.s.fin && (c.s.done && c.r.done))))],[⟨68,conL c (.slice Acrh c.r.held.length Ccrh)⟩],[],[slF (.slice Acrh c.r.held.length Ccrh) 2 (c.r.held.map pceCells)]⟩ ?_ ?_
 refine kG ?_
 refine kRS 2 [5,6,132] [(5,.v (.bool c.s.done)),(6,.v (.bool c.r.done)),(132,.v (.bool c.s.fin))] ?_
 refine kP 132 (c.s.fin) (fun h28 => ?_) (fun h28 => ?_)
 refine kRS 3 [6,135] [(6,.v (.bool c.r.done)),(135,.v (.bool c.s.done))] ?_
 refine kP 135 (c.s.done) (fun h29 => ?_) (fun h29 => ?_)
 refine kES [2] [(2,.v (.bool c.r.done))] ?_
 show Wk _ _
 try rw [h28]
 try rw [h29]
 exact kF 1 0 [2]
 refine kES [2] [(2,.v (.bool false))] ?_
 show Wk _ _
 try rw [h28]
 try rw [h29]
 exact kF 1 0 [2]
 refine kES [2] [(2,.v (.bool false))] ?_
 show Wk _ _
 try rw [h28]
 exact kF 1 0 [2]
 refine kR ?_
 exact ⟨[.bool (c.s.fin && (c.s.done && c.r.done))],by kernel_rfl,fun w' hb hf => ⟨ret_bool (show (c.s.fin && (c.s.done && c.r.done) : Bool) = conOk c from by first | rfl | (simp [conOk,conPre,conMid,stateFits, *]; done) | (clear hm hf hb; simp_all [conOk,conPre,conMid,stateFits]; done) | grind [conOk,conPre,conMid,stateFits,inB]),hb⟩⟩
 have h27p := eqF h27
 refine kK ?_
 refine kQ ?_
 refine kES [2] [(2,.v (.bool true))] ?_
 refine kR ?_
 exact ⟨[.bool true],by kernel_rfl,fun w' hb hf => ⟨ret_bool (show (true : Bool) = conOk c from by first | rfl | (simp [conOk,conPre,conMid,stateFits, *]; done) | (clear hm hf hb; simp_all [conOk,conPre,conMid,stateFits]; done) | grind [conOk,conPre,conMid,stateFits,inB]),hb⟩⟩
def tabL (x : Tab) (x_connsV : Value) (x_waitingV : Value) : List Value := [x_connsV, x_waitingV]
theorem ysFindConn_c (t : Tab) (t_connsV : Value) (t_waitingV : Value) (u : Tup) (w : World) (hl_t_connsV : Sl w t_connsV 25 (t.conns.map conR)) (hh_t_connsV : ∀ x ∈ t.conns, Sl w x.2 2 (x.1.r.held.map pceCells)) (hl_t_waitingV : Sl w t_waitingV 3 (t.waiting.map tupCells))  : Calls Try.prog 11 #[.agg (tabL t t_connsV t_waitingV).toArray, .agg (tupL u).toArray] w fun e w' => e = .returned (.int .i64 (findConn t u)) ∧ Below w.heap.size w w' := by
 obtain ⟨Atc,Ctc,hvtc⟩ := hl_t_connsV.form
 rw [List.length_map] at hvtc; subst hvtc
 have hntc := hl_t_connsV.len; rw [List.length_map] at hntc
 have hqtc := Sl.capLe hl_t_connsV
 obtain ⟨Atw,Ctw,hvtw⟩ := hl_t_waitingV.form
 rw [List.length_map] at hvtw; subst hvtw
 have hntw := hl_t_waitingV.len; rw [List.length_map] at hntw
 have hqtw := Sl.capLe hl_t_waitingV
 refine x_calls (args := [.agg (tabL t (.slice Atc t.conns.length Ctc) (.slice Atw t.waiting.length Ctw)).toArray,.agg (tupL u).toArray]) (fn := Try.f11) [slF (.slice Atc t.conns.length Ctc) 25 (t.conns.map conR),hldF t.conns,slF (.slice Atw t.waiting.length Ctw) 3 (t.waiting.map tupCells)] Try.func11 rfl Try.ntmps11 rfl (by simp only [List.mem_cons,List.not_mem_nil,or_false,forall_eq_or_imp,forall_eq]; exact ⟨⟨rfl,hl_t_connsV⟩,⟨rfl,hh_t_connsV⟩,⟨rfl,hl_t_waitingV⟩⟩) ?_
 refine kQ ?_
 refine kEF [2,3] ⟨[(2,.p 0 0),(3,.p 1 0)],[⟨33,tabL t (.slice Atc t.conns.length Ctc) (.slice Atw t.waiting.length Ctw)⟩,⟨35,tupL u⟩],[],[slF (.slice Atc t.conns.length Ctc) 25 (t.conns.map conR),hldF t.conns,slF (.slice Atw t.waiting.length Ctw) 3 (t.waiting.map tupCells)]⟩ ?_
 refine kS ?_
 refine kQ ?_
 refine kED [2,3,5] [(5,.v (.int .i64 0))] ?_
 refine xw_block ?_
 refine xw_loopW (α := {x : Nat // (fun (k : Nat) => k ≤ t.conns.length ∧ ∀ (i : Nat) (h' : CV),i < k → t.conns[i]? = some h' → tupEq h'.1.t u = false) x}) (fun x => (fun (k : Nat) => (⟨[(2,.p 0 0),(3,.p 1 0),(5,.v (.int .i64 (k : Int)))],[⟨33,tabL t (.slice Atc t.conns.length Ctc) (.slice Atw t.waiting.length Ctw)⟩,⟨35,tupL u⟩],[],[slF (.slice Atc t.conns.length Ctc) 25 (t.conns.map conR),hldF t.conns,slF (.slice Atw t.waiting.length Ctw) 3 (t.waiting.map tupCells)]⟩ : St)) x.1) (fun x => t.conns.length - x.1) ⟨(0),⟨Nat.zero_le _,fun i x hi => by omega⟩⟩ (kF 2 0 [2,3,5]) ?_
 rintro ⟨k,hk,HK⟩
 try dsimp only
 try dsimp only at hk HK
 refine kS ?_
 refine kQ ?_
 refine kED [2,3,5,10] [(10,.v (.bool (decide ((k : Int) < ((t.conns.length : Nat) : Int)))))] ?_
 refine kC (decide ((k : Int) < ((t.conns.length : Nat) : Int))) (fun h1 => ?_) (fun h1 => ?_)
 have h1p := of_decide_eq_true h1
 have hlt : k < t.conns.length := by simpa using h1
 obtain ⟨x0,hx⟩ : ∃ x,t.conns[k]? = some x := ⟨_,List.getElem?_eq_getElem hlt⟩
 obtain ⟨x,xa,xc,rfl⟩ := cv_form (hh_t_connsV x0 (List.mem_of_getElem? hx))
 refine kK ?_
 refine kS ?_
 refine xw_block ?_
 refine kS ?_
 refine xws_start ?_
 refine xws_row (K := 25) (j := k) [.int .i64 x.t.ip,.int .i64 x.t.port,.int .i64 x.t.my,.int .i64 x.state,.int .i64 x.s.una,.string x.s.data,.int .i64 x.s.sent,.bool x.s.fin,.bool x.s.finSent,.bool x.s.done,.int .i64 x.r.next,.string x.r.data,.slice xa x.r.held.length xc,.int .i64 x.r.fin,.bool x.r.done,.int .i64 x.window,.int .i64 x.most,.int .i64 x.o.mss,.int .i64 x.o.scale,.bool x.o.sack,.bool x.o.stamp,.int .i64 x.o.val,.int .i64 x.o.echo,.int .i64 x.timer,.int .i64 x.tries] (slF (.slice Atc t.conns.length Ctc) 25 (t.conns.map conR)) (fun _ _ h => h) (by simp) (fun w h => h) (fun b h => h) (by simp only [List.getElem?_map,hx]; rfl) (fun bq2 offq2 hAq2 => ?_)
 refine xws_regionE [] (by kernel_rfl) (fun ρ σ hq3 => ?_)
 refine kTD [0,1,2,6] [19,15,14,2,3,5] 4 [(19,.v (.agg (tupL u).toArray)),(15,.v (.int .i64 (k : Int))),(14,.v (.slice Atc t.conns.length Ctc))] ?_
 refine xe_takeI (kd := .i64) (T := 30) (e := 68) (K := 25) (j := k) (A := Atc) (len := t.conns.length) (cap := Ctc) 3 0 _ rfl (by kernel_rfl) (by kernel_rfl) (by kernel_rfl) (fun _ _ h => h) (by kernel_rfl) rfl rfl (by kernel_rfl) (by kernel_rfl) (by kernel_rfl) (by kernel_rfl) hlt hAq2 hq3.2 (by kernel_rfl) rfl ?_
 refine kTD [4,5] [18,19,2,3,5] 1 [(18,.v (.agg (tupL x.t).toArray))] ?_
 refine kX 7 (.bool (tupEq x.t u)) rfl (fun _ _ ww hA => act_bin hA rfl (by kernel_rfl) (by kernel_rfl) (agg_bin (by kernel_rfl) (run_eql_TUP x.t.ip x.t.port x.t.my u.ip u.port u.my ww))) ?_
 refine kZ ?_
 refine kC (tupEq x.t u) (fun h4 => ?_) (fun h4 => ?_)
 have hfd := findConn_eq hx (by exact h4) HK
 refine kQ ?_
 refine kES [4] [(4,.v (.int .i64 (k : Int)))] ?_
 refine kR ?_
 exact ⟨[.int .i64 (k : Int)],by kernel_rfl,fun w' hb hf => ⟨ret_int (show ((k : Int) : Int) = findConn t u from by first | exact hfd.symm | exact hfn.symm),hb⟩⟩
 have hq : tupEq x.t u = false := by exact h4
 refine kK ?_
 refine kG ?_
 refine kRD 3 [2,3,5] [(5,.v (.int .i64 (IntKind.i64.wrap ((k : Int) + 1))))] ?_
 refine xl_nv [2,3,5] [(5,.v (.int .i64 (IntKind.i64.wrap ((k : Int) + 1))))] [(5,.v (.int .i64 ((k : Int) + 1)))] (by rw [show (IntKind.i64.wrap ((k : Int) + 1)) = ((k : Int) + 1) from wrap_id (by omega) (by omega)]) (by kernel_rfl) ?_
 refine kED [2,3,5] [] ?_
 exact ⟨⟨(k + 1),⟨by omega,no_step (p := fun c : CV => tupEq c.1.t u) hx hq HK⟩⟩,kF 2 0 [2,3,5],by show t.conns.length - (k + 1) < t.conns.length - k; omega⟩
 have h1p := of_decide_eq_false h1
 have hge : k = t.conns.length := by simp at h1; omega
 have hfn := findConn_no hge HK
 refine xw_exit ?_
 refine kQ ?_
 refine kES [4] [(4,.v (.int .i64 (-1)))] ?_
 refine kR ?_
 exact ⟨[.int .i64 (-1)],by kernel_rfl,fun w' hb hf => ⟨ret_int (show ((-1) : Int) = findConn t u from by first | exact hfd.symm | exact hfn.symm),hb⟩⟩
theorem yFindConn1_c (c : Con) (V : Value) (u : Tup) (g : Nat) (w : World) (hcell : (cellP g 35 [.int .i64 u.ip, .int .i64 u.port, .int .i64 u.my]).p w) : Calls Try.prog 41 #[.agg #[.int .i64 c.t.ip, .int .i64 c.t.port, .int .i64 c.t.my, .int .i64 c.state, .int .i64 c.s.una, .string c.s.data, .int .i64 c.s.sent, .bool c.s.fin, .bool c.s.finSent, .bool c.s.done, .int .i64 c.r.next, .string c.r.data, V, .int .i64 c.r.fin, .bool c.r.done, .int .i64 c.window, .int .i64 c.most, .int .i64 c.o.mss, .int .i64 c.o.scale, .bool c.o.sack, .bool c.o.stamp, .int .i64 c.o.val, .int .i64 c.o.echo, .int .i64 c.timer, .int .i64 c.tries], .pointer (some ⟨g, 0, none⟩)] w fun e w' => e = .returned (.bool (tupEq c.t u)) ∧ Below w.heap.size w w' := by
 refine x_calls (args := [.agg #[.int .i64 c.t.ip,.int .i64 c.t.port,.int .i64 c.t.my,.int .i64 c.state,.int .i64 c.s.una,.string c.s.data,.int .i64 c.s.sent,.bool c.s.fin,.bool c.s.finSent,.bool c.s.done,.int .i64 c.r.next,.string c.r.data,V,.int .i64 c.r.fin,.bool c.r.done,.int .i64 c.window,.int .i64 c.most,.int .i64 c.o.mss,.int .i64 c.o.scale,.bool c.o.sack,.bool c.o.stamp,.int .i64 c.o.val,.int .i64 c.o.echo,.int .i64 c.timer,.int .i64 c.tries],.pointer (some ⟨g,0,none⟩)]) (fn := Try.f41) [cellP g 35 [.int .i64 u.ip,.int .i64 u.port,.int .i64 u.my]] Try.func41 rfl Try.ntmps41 rfl (by simp only [List.mem_cons,List.not_mem_nil,or_false,forall_eq_or_imp,forall_eq]; exact ⟨rfl,hcell⟩) ?_
 refine kQ ?_
 refine kEF [1,2] ⟨[(1,.v (.pointer (some ⟨g,0,none⟩))),(2,.p 0 0)],[⟨68,[.int .i64 c.t.ip,.int .i64 c.t.port,.int .i64 c.t.my,.int .i64 c.state,.int .i64 c.s.una,.string c.s.data,.int .i64 c.s.sent,.bool c.s.fin,.bool c.s.finSent,.bool c.s.done,.int .i64 c.r.next,.string c.r.data,V,.int .i64 c.r.fin,.bool c.r.done,.int .i64 c.window,.int .i64 c.most,.int .i64 c.o.mss,.int .i64 c.o.scale,.bool c.o.sack,.bool c.o.stamp,.int .i64 c.o.val,.int .i64 c.o.echo,.int .i64 c.timer,.int .i64 c.tries]⟩],[],[cellP g 35 [.int .i64 u.ip,.int .i64 u.port,.int .i64 u.my]]⟩ ?_
 refine kQ ?_
 refine kOD 2 [1,5] [(5,.v (.agg (tupL c.t).toArray))] (.agg (tupL u).toArray) rfl (fun _ _ _ ww hr => ldK_run (off := 0) (g := g) (T := 35) (cs := [.int .i64 u.ip,.int .i64 u.port,.int .i64 u.my]) hr rfl (by kernel_rfl) (by simp) (by kernel_rfl)) ?_
 refine kOD 0 [5,6] [] (.bool (tupEq c.t u)) rfl (fun _ _ _ ww hr => act_bin hr.1 rfl (by kernel_rfl) (by kernel_rfl) (agg_bin (by kernel_rfl) (run_eql_TUP c.t.ip c.t.port c.t.my u.ip u.port u.my ww))) ?_
 refine kES [3] [(3,.v (.bool (tupEq c.t u)))] ?_
 refine kR ?_
 exact ⟨[.bool (tupEq c.t u)],by kernel_rfl,fun w' hb hf => ⟨rfl,hb⟩⟩
theorem yIndexFConn_c (l : List CV) (lV : Value) (u : Tup) (g : Nat) (w : World) (hl_lV : Sl w lV 25 (l.map conR)) (hh_lV : ∀ x ∈ l, Sl w x.2 2 (x.1.r.held.map pceCells)) (hcell : (cellP g 35 [.int .i64 u.ip, .int .i64 u.port, .int .i64 u.my]).p w) : Calls Try.prog 40 #[lV, .func (.func 41) #[] #[.pointer (some ⟨g, 0, none⟩)]] w fun e w' => e = .returned (.int .i64 (findConn ⟨l, []⟩ u)) ∧ Below w.heap.size w w' := by
 obtain ⟨Al,Cl,hvl⟩ := hl_lV.form
 rw [List.length_map] at hvl; subst hvl
 have hnl := hl_lV.len; rw [List.length_map] at hnl
 have hql := Sl.capLe hl_lV
 refine x_calls (args := [.slice Al l.length Cl,.func (.func 41) #[] #[.pointer (some ⟨g,0,none⟩)]]) (fn := Try.f40) [slF (.slice Al l.length Cl) 25 (l.map conR),hldF l,cellP g 35 [.int .i64 u.ip,.int .i64 u.port,.int .i64 u.my]] Try.func40 rfl Try.ntmps40 rfl (by simp only [List.mem_cons,List.not_mem_nil,or_false,forall_eq_or_imp,forall_eq]; exact ⟨⟨rfl,hl_lV⟩,⟨rfl,hh_lV⟩,⟨rfl,hcell⟩⟩) ?_
 refine kQ ?_
 refine kEF [0,1] ⟨[(0,.v (.slice Al l.length Cl)),(1,.v (.func (.func 41) #[] #[.pointer (some ⟨g,0,none⟩)]))],[],[],[slF (.slice Al l.length Cl) 25 (l.map conR),hldF l,cellP g 35 [.int .i64 u.ip,.int .i64 u.port,.int .i64 u.my]]⟩ ?_
 refine kS ?_
 refine kQ ?_
 refine kED [0,1,7,8] [(7,.v (.int .i64 ((l.length : Nat) : Int))),(8,.v (.int .i64 0))] ?_
 refine xw_block ?_
 refine xw_loopW (α := {x : Nat // (fun (k : Nat) => k ≤ l.length ∧ ∀ (i : Nat) (h' : CV),i < k → l[i]? = some h' → tupEq h'.1.t u = false) x}) (fun x => (fun (k : Nat) => (⟨[(0,.v (.slice Al l.length Cl)),(1,.v (.func (.func 41) #[] #[.pointer (some ⟨g,0,none⟩)])),(7,.v (.int .i64 ((l.length : Nat) : Int))),(8,.v (.int .i64 (k : Int)))],[],[],[slF (.slice Al l.length Cl) 25 (l.map conR),hldF l,cellP g 35 [.int .i64 u.ip,.int .i64 u.port,.int .i64 u.my]]⟩ : St)) x.1) (fun x => l.length - x.1) ⟨(0),⟨Nat.zero_le _,fun i x hi => by omega⟩⟩ (kF 0 0 [0,1,7,8]) ?_
 rintro ⟨k,hk,HK⟩
 try dsimp only
 try dsimp only at hk HK
 refine kQ ?_
 refine kED [0,1,7,8,9] [(9,.v (.bool (decide ((k : Int) < ((l.length : Nat) : Int)))))] ?_
 refine kS ?_
 refine kC (decide ((k : Int) < ((l.length : Nat) : Int))) (fun h1 => ?_) (fun h1 => ?_)
 have h1p := of_decide_eq_true h1
 have hlt : k < l.length := by simpa using h1
 obtain ⟨x0,hx⟩ : ∃ x,l[k]? = some x := ⟨_,List.getElem?_eq_getElem hlt⟩
 obtain ⟨x,xa,xc,rfl⟩ := cv_form (hh_lV x0 (List.mem_of_getElem? hx))
 refine kK ?_
 refine kS ?_
 refine xw_block ?_
 refine kQ ?_
 refine kED [0,1,5,7,8] [(5,.v (.int .i64 (k : Int)))] ?_
 refine kQ ?_
 refine xl_indexD (kd := .i64) (T := 30) (e := 68) (K := 25) 3 [0,1,5,7,8,11,12,13] [(11,.v (.func (.func 41) #[] #[.pointer (some ⟨g,0,none⟩)])),(12,.v (.slice Al l.length Cl)),(13,.v (.int .i64 (k : Int)))] k [.int .i64 x.t.ip,.int .i64 x.t.port,.int .i64 x.t.my,.int .i64 x.state,.int .i64 x.s.una,.string x.s.data,.int .i64 x.s.sent,.bool x.s.fin,.bool x.s.finSent,.bool x.s.done,.int .i64 x.r.next,.string x.r.data,.slice xa x.r.held.length xc,.int .i64 x.r.fin,.bool x.r.done,.int .i64 x.window,.int .i64 x.most,.int .i64 x.o.mss,.int .i64 x.o.scale,.bool x.o.sack,.bool x.o.stamp,.int .i64 x.o.val,.int .i64 x.o.echo,.int .i64 x.timer,.int .i64 x.tries] (slF (.slice Al l.length Cl) 25 (l.map conR)) (by kernel_rfl) rfl (by kernel_rfl) rfl rfl (by kernel_rfl) (by kernel_rfl) (by kernel_rfl) (by kernel_rfl) hlt (by simp) (fun w h => h) (fun b h => h) (by simp only [List.getElem?_map,hx]; rfl) ?_
 refine xl_callC 1 [0,1,5,7,8,11,15] ⟨[(0,.v (.slice Al l.length Cl)),(1,.v (.func (.func 41) #[] #[.pointer (some ⟨g,0,none⟩)])),(5,.v (.int .i64 (k : Int))),(7,.v (.int .i64 ((l.length : Nat) : Int))),(8,.v (.int .i64 (k : Int))),(11,.v (.func (.func 41) #[] #[.pointer (some ⟨g,0,none⟩)])),(15,.v (.agg (conL x (.slice xa x.r.held.length xc)).toArray))],[],[[.int .i64 x.t.ip,.int .i64 x.t.port,.int .i64 x.t.my,.int .i64 x.state,.int .i64 x.s.una,.string x.s.data,.int .i64 x.s.sent,.bool x.s.fin,.bool x.s.finSent,.bool x.s.done,.int .i64 x.r.next,.string x.r.data,.slice xa x.r.held.length xc,.int .i64 x.r.fin,.bool x.r.done,.int .i64 x.window,.int .i64 x.most,.int .i64 x.o.mss,.int .i64 x.o.scale,.bool x.o.sack,.bool x.o.stamp,.int .i64 x.o.val,.int .i64 x.o.echo,.int .i64 x.timer,.int .i64 x.tries]],[slF (.slice Al l.length Cl) 25 (l.map conR),hldF l,cellP g 35 [.int .i64 u.ip,.int .i64 u.port,.int .i64 u.my]]⟩ 41 [.agg (conL x (.slice xa x.r.held.length xc)).toArray,.pointer (some ⟨g,0,none⟩)] (some 16) (by kernel_rfl) rfl (by kernel_rfl) rfl (by kernel_rfl) (xc_b fun ww hf => yFindConn1_c x (.slice xa x.r.held.length xc) u g ww (hf (cellP g 35 [.int .i64 u.ip,.int .i64 u.port,.int .i64 u.my]) (by simp))) ?_
 intro _
 refine kED [0,1,5,7,8,16] [] ?_
 refine kC (tupEq x.t u) (fun h2 => ?_) (fun h2 => ?_)
 have hfd := findConn_eq (t := ⟨l,[]⟩) hx (by exact h2) HK
 refine kQ ?_
 refine kES [4] [(4,.v (.int .i64 (k : Int)))] ?_
 refine kR ?_
 exact ⟨[.int .i64 (k : Int)],by kernel_rfl,fun w' hb hf => ⟨ret_int (by first | exact hfd.symm | exact hfn.symm),hb⟩⟩
 have hq : tupEq x.t u = false := by exact h2
 refine kK ?_
 refine kG ?_
 refine kRD 2 [0,1,7,8] [(8,.v (.int .i64 (IntKind.i64.wrap ((k : Int) + 1))))] ?_
 refine xl_nv [0,1,7,8] [(8,.v (.int .i64 (IntKind.i64.wrap ((k : Int) + 1))))] [(8,.v (.int .i64 ((k : Int) + 1)))] (by rw [show (IntKind.i64.wrap ((k : Int) + 1)) = ((k : Int) + 1) from wrap_id (by omega) (by omega)]) (by kernel_rfl) ?_
 refine kED [0,1,7,8] [] ?_
 exact ⟨⟨(k + 1),⟨by omega,no_step (p := fun c : CV => tupEq c.1.t u) hx hq HK⟩⟩,kF 0 0 [0,1,7,8],by show l.length - (k + 1) < l.length - k; omega⟩
 have h1p := of_decide_eq_false h1
 have hge : k = l.length := by simp at h1; omega
 have hfn := findConn_no (t := ⟨l,[]⟩) hge HK
 refine xw_exit ?_
 refine kQ ?_
 refine kES [4] [(4,.v (.int .i64 (-1)))] ?_
 refine kR ?_
 exact ⟨[.int .i64 (-1)],by kernel_rfl,fun w' hb hf => ⟨ret_int (by first | exact hfd.symm | exact hfn.symm),hb⟩⟩
theorem yiFindConn_c (t : Tab) (t_connsV : Value) (t_waitingV : Value) (u : Tup) (w : World) (hl_t_connsV : Sl w t_connsV 25 (t.conns.map conR)) (hh_t_connsV : ∀ x ∈ t.conns, Sl w x.2 2 (x.1.r.held.map pceCells)) (hl_t_waitingV : Sl w t_waitingV 3 (t.waiting.map tupCells))  : Calls Try.prog 14 #[.agg (tabL t t_connsV t_waitingV).toArray, .agg (tupL u).toArray] w fun e w' => e = .returned (.int .i64 (findConn t u)) ∧ Below w.heap.size w w' := by
 obtain ⟨Atc,Ctc,hvtc⟩ := hl_t_connsV.form
 rw [List.length_map] at hvtc; subst hvtc
 have hntc := hl_t_connsV.len; rw [List.length_map] at hntc
 have hqtc := Sl.capLe hl_t_connsV
 obtain ⟨Atw,Ctw,hvtw⟩ := hl_t_waitingV.form
 rw [List.length_map] at hvtw; subst hvtw
 have hntw := hl_t_waitingV.len; rw [List.length_map] at hntw
 have hqtw := Sl.capLe hl_t_waitingV
 refine x_calls (args := [.agg (tabL t (.slice Atc t.conns.length Ctc) (.slice Atw t.waiting.length Ctw)).toArray,.agg (tupL u).toArray]) (fn := Try.f14) [slF (.slice Atc t.conns.length Ctc) 25 (t.conns.map conR),hldF t.conns,slF (.slice Atw t.waiting.length Ctw) 3 (t.waiting.map tupCells)] Try.func14 rfl Try.ntmps14 rfl (by simp only [List.mem_cons,List.not_mem_nil,or_false,forall_eq_or_imp,forall_eq]; exact ⟨⟨rfl,hl_t_connsV⟩,⟨rfl,hh_t_connsV⟩,⟨rfl,hl_t_waitingV⟩⟩) ?_
 refine kQ ?_
 refine kEF [2,3] ⟨[(2,.p 0 0),(3,.p 1 0)],[⟨33,tabL t (.slice Atc t.conns.length Ctc) (.slice Atw t.waiting.length Ctw)⟩,⟨35,tupL u⟩],[],[slF (.slice Atc t.conns.length Ctc) 25 (t.conns.map conR),hldF t.conns,slF (.slice Atw t.waiting.length Ctw) 3 (t.waiting.map tupCells)]⟩ ?_
 refine kS ?_
 refine xw_pinB 3 35 [.int .i64 u.ip,.int .i64 u.port,.int .i64 u.my] [⟨33,tabL t (.slice Atc t.conns.length Ctc) (.slice Atw t.waiting.length Ctw)⟩] rfl (by kernel_rfl) (by kernel_rfl) ?_
 intro g hg hgn
 refine kG ?_
 refine kOF 2 [3,6] ⟨[(3,.v (.pointer (some ⟨g,0,none⟩))),(6,.v (.slice Atc t.conns.length Ctc))],[⟨33,tabL t (.slice Atc t.conns.length Ctc) (.slice Atw t.waiting.length Ctw)⟩],[],[cellF w.heap.size g 35 [.int .i64 u.ip,.int .i64 u.port,.int .i64 u.my],slF (.slice Atc t.conns.length Ctc) 25 (t.conns.map conR),hldF t.conns,slF (.slice Atw t.waiting.length Ctw) 3 (t.waiting.map tupCells)]⟩ (.func (.func 41) #[] #[.pointer (some ⟨g,0,none⟩)]) rfl (fun _ _ _ ww hr => act_mkf [.pointer (some ⟨g,0,none⟩)] hr.1 rfl (by kernel_rfl) ww) ?_
 refine kCD 0 [6,7] [] 40 [.slice Atc t.conns.length Ctc,.func (.func 41) #[] #[.pointer (some ⟨g,0,none⟩)]] (some 8) rfl (xc_b fun ww hf => yIndexFConn_c t.conns (.slice Atc t.conns.length Ctc) u g ww (hf _ m1) (hf _ m2) (hf (cellF w.heap.size g 35 [.int .i64 u.ip,.int .i64 u.port,.int .i64 u.my]) (by simp)).2) ?_
 intro _
 refine kES [4] [(4,.v (.int .i64 (findConn ⟨t.conns,[]⟩ u)))] ?_
 refine kR ?_
 exact ⟨[.int .i64 (findConn ⟨t.conns,[]⟩ u)],by kernel_rfl,fun w' hb hf => ⟨ret_int (show (findConn ⟨t.conns,[]⟩ u : Int) = findConn t u from by rfl),hb⟩⟩
theorem yl25Waits_c (l : List Tup) (lV : Value) (u : Tup) (w : World) (hl_lV : Sl w lV 3 (l.map tupCells))  : Calls Try.prog 50 #[lV, .agg (tupL u).toArray] w fun e w' => e = .returned (.bool (isWait l u)) ∧ Below w.heap.size w w' := by
 obtain ⟨Al,Cl,hvl⟩ := hl_lV.form
 rw [List.length_map] at hvl; subst hvl
 have hnl := hl_lV.len; rw [List.length_map] at hnl
 have hql := Sl.capLe hl_lV
 refine x_calls (args := [.slice Al l.length Cl,.agg (tupL u).toArray]) (fn := Try.f50) [slF (.slice Al l.length Cl) 3 (l.map tupCells)] Try.func50 rfl Try.ntmps50 rfl (by simp only [List.mem_cons,List.not_mem_nil,or_false,forall_eq_or_imp,forall_eq]; exact ⟨rfl,hl_lV⟩) ?_
 refine kQ ?_
 refine kEF [0,3] ⟨[(0,.v (.slice Al l.length Cl)),(3,.p 0 0)],[⟨35,tupL u⟩],[],[slF (.slice Al l.length Cl) 3 (l.map tupCells)]⟩ ?_
 refine kS ?_
 refine kQ ?_
 refine kED [0,3,5] [(5,.v (.int .i64 0))] ?_
 refine xw_block ?_
 refine xw_loopW (α := {x : Nat // (fun (k : Nat) => k ≤ l.length ∧ ∀ (i : Nat) (h' : Tup),i < k → l[i]? = some h' → tupEq h' u = false) x}) (fun x => (fun (k : Nat) => (⟨[(0,.v (.slice Al l.length Cl)),(3,.p 0 0),(5,.v (.int .i64 (k : Int)))],[⟨35,tupL u⟩],[],[slF (.slice Al l.length Cl) 3 (l.map tupCells)]⟩ : St)) x.1) (fun x => l.length - x.1) ⟨(0),⟨Nat.zero_le _,fun i x hi => by omega⟩⟩ (kF 1 0 [0,3,5]) ?_
 rintro ⟨k,hk,HK⟩
 try dsimp only
 try dsimp only at hk HK
 refine kS ?_
 refine kQ ?_
 refine kED [0,3,5,9] [(9,.v (.bool (decide ((k : Int) < ((l.length : Nat) : Int)))))] ?_
 refine kC (decide ((k : Int) < ((l.length : Nat) : Int))) (fun h1 => ?_) (fun h1 => ?_)
 have h1p := of_decide_eq_true h1
 have hlt : k < l.length := by simpa using h1
 obtain ⟨x,hx⟩ : ∃ x,l[k]? = some x := ⟨_,List.getElem?_eq_getElem hlt⟩
 refine kK ?_
 refine kS ?_
 refine xw_block ?_
 refine kS ?_
 refine xws_start ?_
 refine xws_row (K := 3) (j := k) [.int .i64 x.ip,.int .i64 x.port,.int .i64 x.my] (slF (.slice Al l.length Cl) 3 (l.map tupCells)) (fun _ _ h => h) (by simp) (fun w h => h) (fun b h => h) (by simp only [List.getElem?_map,hx]; rfl) (fun bq2 offq2 hAq2 => ?_)
 refine xws_regionE [] (by kernel_rfl) (fun ρ σ hq3 => ?_)
 refine kTD [0,1,4] [16,13,12,0,3,5] 3 [(16,.v (.agg (tupL u).toArray)),(13,.v (.int .i64 (k : Int))),(12,.v (.slice Al l.length Cl))] ?_
 refine xe_takeI (kd := .i64) (T := 31) (e := 35) (K := 3) (j := k) (A := Al) (len := l.length) (cap := Cl) 2 0 _ rfl (by kernel_rfl) (by kernel_rfl) (by kernel_rfl) (fun _ _ h => h) (by kernel_rfl) rfl rfl (by kernel_rfl) (by kernel_rfl) (by kernel_rfl) (by kernel_rfl) hlt hAq2 hq3.2 (by kernel_rfl) rfl ?_
 refine kTD [3] [15,16,0,3,5] 1 [(15,.v (.agg (tupL x).toArray))] ?_
 refine kX 5 (.bool (tupEq x u)) rfl (fun _ _ ww hA => act_bin hA rfl (by kernel_rfl) (by kernel_rfl) (agg_bin (by kernel_rfl) (run_eql_TUP x.ip x.port x.my u.ip u.port u.my ww))) ?_
 refine kZ ?_
 refine kC (tupEq x u) (fun h4 => ?_) (fun h4 => ?_)
 have hfd := (fun a b (_ : ∀ (i : Nat) (h' : Tup),i < k → l[i]? = some h' → tupEq h' u = false) => isWait_yes (l := l) (k := k) a b) hx (by exact h4) HK
 refine kQ ?_
 refine kES [4] [(4,.v (.bool true))] ?_
 refine kR ?_
 exact ⟨[.bool true],by kernel_rfl,fun w' hb hf => ⟨ret_bool (show (true : Bool) = isWait l u from by first | exact hfd.symm | exact hfn.symm),hb⟩⟩
 have hq : tupEq x u = false := by exact h4
 refine kK ?_
 refine kG ?_
 refine kRD 3 [0,3,5] [(5,.v (.int .i64 (IntKind.i64.wrap ((k : Int) + 1))))] ?_
 refine xl_nv [0,3,5] [(5,.v (.int .i64 (IntKind.i64.wrap ((k : Int) + 1))))] [(5,.v (.int .i64 ((k : Int) + 1)))] (by rw [show (IntKind.i64.wrap ((k : Int) + 1)) = ((k : Int) + 1) from wrap_id (by omega) (by omega)]) (by kernel_rfl) ?_
 refine kED [0,3,5] [] ?_
 exact ⟨⟨(k + 1),⟨by omega,no_step (p := fun c : Tup => tupEq c u) hx hq HK⟩⟩,kF 1 0 [0,3,5],by show l.length - (k + 1) < l.length - k; omega⟩
 have h1p := of_decide_eq_false h1
 have hge : k = l.length := by simp at h1; omega
 have hfn := isWait_no hge HK
 refine xw_exit ?_
 refine kQ ?_
 refine kES [4] [(4,.v (.bool false))] ?_
 refine kR ?_
 exact ⟨[.bool false],by kernel_rfl,fun w' hb hf => ⟨ret_bool (show (false : Bool) = isWait l u from by first | exact hfd.symm | exact hfn.symm),hb⟩⟩
theorem yIndexTuple_c (l : List Tup) (lV : Value) (u : Tup) (w : World) (hl_lV : Sl w lV 3 (l.map tupCells))  : Calls Try.prog 53 #[lV, .agg (tupL u).toArray] w fun e w' => e = .returned (.int .i64 (idxTup l u)) ∧ Below w.heap.size w w' := by
 obtain ⟨Al,Cl,hvl⟩ := hl_lV.form
 rw [List.length_map] at hvl; subst hvl
 have hnl := hl_lV.len; rw [List.length_map] at hnl
 have hql := Sl.capLe hl_lV
 refine x_calls (args := [.slice Al l.length Cl,.agg (tupL u).toArray]) (fn := Try.f53) [slF (.slice Al l.length Cl) 3 (l.map tupCells)] Try.func53 rfl Try.ntmps53 rfl (by simp only [List.mem_cons,List.not_mem_nil,or_false,forall_eq_or_imp,forall_eq]; exact ⟨rfl,hl_lV⟩) ?_
 refine kQ ?_
 refine kEF [0,3] ⟨[(0,.v (.slice Al l.length Cl)),(3,.p 0 0)],[⟨35,tupL u⟩],[],[slF (.slice Al l.length Cl) 3 (l.map tupCells)]⟩ ?_
 refine kS ?_
 refine kQ ?_
 refine kED [0,3,7,8] [(7,.v (.int .i64 ((l.length : Nat) : Int))),(8,.v (.int .i64 0))] ?_
 refine xw_block ?_
 refine xw_loopW (α := {x : Nat // (fun (k : Nat) => k ≤ l.length ∧ ∀ (i : Nat) (h' : Tup),i < k → l[i]? = some h' → tupEq h' u = false) x}) (fun x => (fun (k : Nat) => (⟨[(0,.v (.slice Al l.length Cl)),(3,.p 0 0),(7,.v (.int .i64 ((l.length : Nat) : Int))),(8,.v (.int .i64 (k : Int)))],[⟨35,tupL u⟩],[],[slF (.slice Al l.length Cl) 3 (l.map tupCells)]⟩ : St)) x.1) (fun x => l.length - x.1) ⟨(0),⟨Nat.zero_le _,fun i x hi => by omega⟩⟩ (kF 1 0 [0,3,7,8]) ?_
 rintro ⟨k,hk,HK⟩
 try dsimp only
 try dsimp only at hk HK
 refine kQ ?_
 refine kED [0,3,7,8,9] [(9,.v (.bool (decide ((k : Int) < ((l.length : Nat) : Int)))))] ?_
 refine kS ?_
 refine kC (decide ((k : Int) < ((l.length : Nat) : Int))) (fun h1 => ?_) (fun h1 => ?_)
 have h1p := of_decide_eq_true h1
 have hlt : k < l.length := by simpa using h1
 obtain ⟨x,hx⟩ : ∃ x,l[k]? = some x := ⟨_,List.getElem?_eq_getElem hlt⟩
 refine kK ?_
 refine kS ?_
 refine xw_block ?_
 refine kQ ?_
 refine kED [0,3,5,7,8] [(5,.v (.int .i64 (k : Int)))] ?_
 refine kS ?_
 refine xws_start ?_
 refine xws_row (K := 3) (j := k) [.int .i64 x.ip,.int .i64 x.port,.int .i64 x.my] (slF (.slice Al l.length Cl) 3 (l.map tupCells)) (fun _ _ h => h) (by simp) (fun w h => h) (fun b h => h) (by simp only [List.getElem?_map,hx]; rfl) (fun bq2 offq2 hAq2 => ?_)
 refine xws_regionE [] (by kernel_rfl) (fun ρ σ hq3 => ?_)
 refine kTD [0,1,2] [13,12,11,0,3,5,7,8] 3 [(13,.v (.int .i64 (k : Int))),(12,.v (.slice Al l.length Cl)),(11,.v (.agg (tupL u).toArray))] ?_
 refine xe_takeI (kd := .i64) (T := 31) (e := 35) (K := 3) (j := k) (A := Al) (len := l.length) (cap := Cl) 3 0 _ rfl (by kernel_rfl) (by kernel_rfl) (by kernel_rfl) (fun _ _ h => h) (by kernel_rfl) rfl rfl (by kernel_rfl) (by kernel_rfl) (by kernel_rfl) (by kernel_rfl) hlt hAq2 hq3.2 (by kernel_rfl) rfl ?_
 refine kTD [4] [15,11,0,3,5,7,8] 1 [(15,.v (.agg (tupL x).toArray))] ?_
 refine kX 5 (.bool (tupEq u x)) rfl (fun _ _ ww hA => act_bin hA rfl (by kernel_rfl) (by kernel_rfl) (agg_bin (by kernel_rfl) (run_eql_TUP u.ip u.port u.my x.ip x.port x.my ww))) ?_
 refine kZ ?_
 refine kC (tupEq u x) (fun h4 => ?_) (fun h4 => ?_)
 have hfd := idxTup_eq hx (by rw [tupEq_comm]; exact h4) HK
 refine kQ ?_
 refine kES [4] [(4,.v (.int .i64 (k : Int)))] ?_
 refine kR ?_
 exact ⟨[.int .i64 (k : Int)],by kernel_rfl,fun w' hb hf => ⟨ret_int (show ((k : Int) : Int) = idxTup l u from by first | exact hfd.symm | exact hfn.symm),hb⟩⟩
 have hq : tupEq x u = false := by rw [tupEq_comm]; exact h4
 refine kK ?_
 refine kG ?_
 refine kRD 2 [0,3,7,8] [(8,.v (.int .i64 (IntKind.i64.wrap ((k : Int) + 1))))] ?_
 refine xl_nv [0,3,7,8] [(8,.v (.int .i64 (IntKind.i64.wrap ((k : Int) + 1))))] [(8,.v (.int .i64 ((k : Int) + 1)))] (by rw [show (IntKind.i64.wrap ((k : Int) + 1)) = ((k : Int) + 1) from wrap_id (by omega) (by omega)]) (by kernel_rfl) ?_
 refine kED [0,3,7,8] [] ?_
 exact ⟨⟨(k + 1),⟨by omega,no_step (p := fun c : Tup => tupEq c u) hx hq HK⟩⟩,kF 1 0 [0,3,7,8],by show l.length - (k + 1) < l.length - k; omega⟩
 have h1p := of_decide_eq_false h1
 have hge : k = l.length := by simp at h1; omega
 have hfn := idxTup_no hge HK
 refine xw_exit ?_
 refine kQ ?_
 refine kES [4] [(4,.v (.int .i64 (-1)))] ?_
 refine kR ?_
 exact ⟨[.int .i64 (-1)],by kernel_rfl,fun w' hb hf => ⟨ret_int (show ((-1) : Int) = idxTup l u from by first | exact hfd.symm | exact hfn.symm),hb⟩⟩
theorem ysLimitsOk_c (l : Lim) (w : World)  : Calls Try.prog 48 #[.agg (limL l).toArray] w fun e w' => e = .returned (.bool (limitsOk l)) ∧ Below w.heap.size w w' := by
 refine x_calls (args := [.agg (limL l).toArray]) (fn := Try.f48) [] Try.func48 rfl Try.ntmps48 rfl (by simp) ?_
 refine kQ ?_
 refine kEF [1] ⟨[(1,.p 0 0)],[⟨43,limL l⟩],[],[]⟩ ?_
 refine kS ?_
 refine xw_join ⟨[(2,.v (.bool ((inB l.halves 1 64) && ((inB l.waiting 1 16) && ((inB l.conns 1 16) && (inB l.chal 0 1000))))))],[⟨43,limL l⟩],[],[]⟩ ?_ ?_
 refine kG ?_
 refine kCS 2 [1,4] [(1,.p 0 0),(4,.v (.int .i64 l.halves))] 78 [.int .i64 l.halves,.int .i64 1,.int .i64 64] (some 5) rfl (xc_s fun ww hf => l1In_c l.halves 1 64 ww ) ?_
 intro _
 refine kRS 1 [1,6] [(1,.p 0 0),(6,.v (.bool (inB l.halves 1 64)))] ?_
 refine kP 6 (inB l.halves 1 64) (fun h1 => ?_) (fun h1 => ?_)
 have h1i := inB_tt.1 (show inB l.halves 1 64 = true from by simpa using h1)
 refine kCS 2 [1,6,8] [(1,.p 0 0),(6,.v (.bool true)),(8,.v (.int .i64 l.waiting))] 78 [.int .i64 l.waiting,.int .i64 1,.int .i64 16] (some 9) rfl (xc_s fun ww hf => l1In_c l.waiting 1 16 ww ) ?_
 intro _
 refine kRS 2 [1,11] [(1,.p 0 0),(11,.v (.bool (inB l.waiting 1 16)))] ?_
 refine kP 11 (inB l.waiting 1 16) (fun h2 => ?_) (fun h2 => ?_)
 have h2i := inB_tt.1 (show inB l.waiting 1 16 = true from by simpa using h2)
 refine kCS 2 [1,11,13] [(1,.p 0 0),(11,.v (.bool true)),(13,.v (.int .i64 l.conns))] 78 [.int .i64 l.conns,.int .i64 1,.int .i64 16] (some 14) rfl (xc_s fun ww hf => l1In_c l.conns 1 16 ww ) ?_
 intro _
 refine kRS 2 [1,16] [(1,.p 0 0),(16,.v (.bool (inB l.conns 1 16)))] ?_
 refine kP 16 (inB l.conns 1 16) (fun h3 => ?_) (fun h3 => ?_)
 have h3i := inB_tt.1 (show inB l.conns 1 16 = true from by simpa using h3)
 refine kCS 2 [16,18] [(16,.v (.bool true)),(18,.v (.int .i64 l.chal))] 78 [.int .i64 l.chal,.int .i64 0,.int .i64 1000] (some 19) rfl (xc_s fun ww hf => l1In_c l.chal 0 1000 ww ) ?_
 intro _
 refine kES [2] [(2,.v (.bool (inB l.chal 0 1000)))] ?_
 show Wk _ _
 try rw [h1]
 try rw [h2]
 try rw [h3]
 exact kF 1 0 [2]
 have h3i := inB_ff.1 (show inB l.conns 1 16 = false from by simpa using h3)
 refine kES [2] [(2,.v (.bool false))] ?_
 show Wk _ _
 try rw [h1]
 try rw [h2]
 try rw [h3]
 exact kF 1 0 [2]
 have h2i := inB_ff.1 (show inB l.waiting 1 16 = false from by simpa using h2)
 refine kES [2] [(2,.v (.bool false))] ?_
 show Wk _ _
 try rw [h1]
 try rw [h2]
 exact kF 1 0 [2]
 have h1i := inB_ff.1 (show inB l.halves 1 64 = false from by simpa using h1)
 refine kES [2] [(2,.v (.bool false))] ?_
 show Wk _ _
 try rw [h1]
 exact kF 1 0 [2]
 refine kR ?_
 exact ⟨[.bool ((inB l.halves 1 64) && ((inB l.waiting 1 16) && ((inB l.conns 1 16) && (inB l.chal 0 1000))))],by kernel_rfl,fun w' hb hf => ⟨ret_bool (show ((inB l.halves 1 64) && ((inB l.waiting 1 16) && ((inB l.conns 1 16) && (inB l.chal 0 1000))) : Bool) = limitsOk l from by first | rfl | (simp [limitsOk, *]; done) | grind [limitsOk]),hb⟩⟩
theorem yiLimitsOk_c (l : Lim) (w : World)  : Calls Try.prog 51 #[.agg (limL l).toArray] w fun e w' => e = .returned (.bool (limitsOk l)) ∧ Below w.heap.size w w' := by
 refine x_calls (args := [.agg (limL l).toArray]) (fn := Try.f51) [] Try.func51 rfl Try.ntmps51 rfl (by simp) ?_
 refine kQ ?_
 refine kEF [1] ⟨[(1,.p 0 0)],[⟨43,limL l⟩],[],[]⟩ ?_
 refine kS ?_
 refine xw_join ⟨[(2,.v (.bool ((inB l.halves 1 64) && ((inB l.waiting 1 16) && ((inB l.conns 1 16) && (inB l.chal 0 1000))))))],[⟨43,limL l⟩],[],[]⟩ ?_ ?_
 refine kG ?_
 refine kCS 2 [1,4] [(1,.p 0 0),(4,.v (.int .i64 l.halves))] 84 [.int .i64 l.halves,.int .i64 1,.int .i64 64] (some 5) rfl (xc_s fun ww hf => within_c l.halves 1 64 ww ) ?_
 intro _
 refine kRS 1 [1,6] [(1,.p 0 0),(6,.v (.bool (inB l.halves 1 64)))] ?_
 refine kP 6 (inB l.halves 1 64) (fun h1 => ?_) (fun h1 => ?_)
 have h1i := inB_tt.1 (show inB l.halves 1 64 = true from by simpa using h1)
 refine kCS 2 [1,6,8] [(1,.p 0 0),(6,.v (.bool true)),(8,.v (.int .i64 l.waiting))] 84 [.int .i64 l.waiting,.int .i64 1,.int .i64 16] (some 9) rfl (xc_s fun ww hf => within_c l.waiting 1 16 ww ) ?_
 intro _
 refine kRS 2 [1,11] [(1,.p 0 0),(11,.v (.bool (inB l.waiting 1 16)))] ?_
 refine kP 11 (inB l.waiting 1 16) (fun h2 => ?_) (fun h2 => ?_)
 have h2i := inB_tt.1 (show inB l.waiting 1 16 = true from by simpa using h2)
 refine kCS 2 [1,11,13] [(1,.p 0 0),(11,.v (.bool true)),(13,.v (.int .i64 l.conns))] 84 [.int .i64 l.conns,.int .i64 1,.int .i64 16] (some 14) rfl (xc_s fun ww hf => within_c l.conns 1 16 ww ) ?_
 intro _
 refine kRS 2 [1,16] [(1,.p 0 0),(16,.v (.bool (inB l.conns 1 16)))] ?_
 refine kP 16 (inB l.conns 1 16) (fun h3 => ?_) (fun h3 => ?_)
 have h3i := inB_tt.1 (show inB l.conns 1 16 = true from by simpa using h3)
 refine kCS 2 [16,18] [(16,.v (.bool true)),(18,.v (.int .i64 l.chal))] 84 [.int .i64 l.chal,.int .i64 0,.int .i64 1000] (some 19) rfl (xc_s fun ww hf => within_c l.chal 0 1000 ww ) ?_
 intro _
 refine kES [2] [(2,.v (.bool (inB l.chal 0 1000)))] ?_
 show Wk _ _
 try rw [h1]
 try rw [h2]
 try rw [h3]
 exact kF 1 0 [2]
 have h3i := inB_ff.1 (show inB l.conns 1 16 = false from by simpa using h3)
 refine kES [2] [(2,.v (.bool false))] ?_
 show Wk _ _
 try rw [h1]
 try rw [h2]
 try rw [h3]
 exact kF 1 0 [2]
 have h2i := inB_ff.1 (show inB l.waiting 1 16 = false from by simpa using h2)
 refine kES [2] [(2,.v (.bool false))] ?_
 show Wk _ _
 try rw [h1]
 try rw [h2]
 exact kF 1 0 [2]
 have h1i := inB_ff.1 (show inB l.halves 1 64 = false from by simpa using h1)
 refine kES [2] [(2,.v (.bool false))] ?_
 show Wk _ _
 try rw [h1]
 exact kF 1 0 [2]
 refine kR ?_
 exact ⟨[.bool ((inB l.halves 1 64) && ((inB l.waiting 1 16) && ((inB l.conns 1 16) && (inB l.chal 0 1000))))],by kernel_rfl,fun w' hb hf => ⟨ret_bool (show ((inB l.halves 1 64) && ((inB l.waiting 1 16) && ((inB l.conns 1 16) && (inB l.chal 0 1000))) : Bool) = limitsOk l from by first | rfl | (simp [limitsOk, *]; done) | grind [limitsOk]),hb⟩⟩
theorem ysTableOk_c (t : Tab) (t_connsV : Value) (t_waitingV : Value) (l : Lim) (w : World) (hl_t_connsV : Sl w t_connsV 25 (t.conns.map conR)) (hh_t_connsV : ∀ x ∈ t.conns, Sl w x.2 2 (x.1.r.held.map pceCells)) (hl_t_waitingV : Sl w t_waitingV 3 (t.waiting.map tupCells)) (hfit : ∀ x ∈ t.conns, conFit x.1) : Calls Try.prog 18 #[.agg (tabL t t_connsV t_waitingV).toArray, .agg (limL l).toArray] w fun e w' => e = .returned (.bool (tableOk t l)) ∧ Below w.heap.size w w' := by
 obtain ⟨Atc,Ctc,hvtc⟩ := hl_t_connsV.form
 rw [List.length_map] at hvtc; subst hvtc
 have hntc := hl_t_connsV.len; rw [List.length_map] at hntc
 have hqtc := Sl.capLe hl_t_connsV
 obtain ⟨Atw,Ctw,hvtw⟩ := hl_t_waitingV.form
 rw [List.length_map] at hvtw; subst hvtw
 have hntw := hl_t_waitingV.len; rw [List.length_map] at hntw
 have hqtw := Sl.capLe hl_t_waitingV
 refine x_calls (args := [.agg (tabL t (.slice Atc t.conns.length Ctc) (.slice Atw t.waiting.length Ctw)).toArray,.agg (limL l).toArray]) (fn := Try.f18) [slF (.slice Atc t.conns.length Ctc) 25 (t.conns.map conR),hldF t.conns,slF (.slice Atw t.waiting.length Ctw) 3 (t.waiting.map tupCells)] Try.func18 rfl Try.ntmps18 rfl (by simp only [List.mem_cons,List.not_mem_nil,or_false,forall_eq_or_imp,forall_eq]; exact ⟨⟨rfl,hl_t_connsV⟩,⟨rfl,hh_t_connsV⟩,⟨rfl,hl_t_waitingV⟩⟩) ?_
 refine kQ ?_
 refine kEF [2,3] ⟨[(2,.p 0 0),(3,.p 1 0)],[⟨33,tabL t (.slice Atc t.conns.length Ctc) (.slice Atw t.waiting.length Ctw)⟩,⟨43,limL l⟩],[],[slF (.slice Atc t.conns.length Ctc) 25 (t.conns.map conR),hldF t.conns,slF (.slice Atw t.waiting.length Ctw) 3 (t.waiting.map tupCells)]⟩ ?_
 refine kS ?_
 refine kQ ?_
 refine kCD 1 [2,3,7] [(7,.v (.agg (limL l).toArray))] 48 [.agg (limL l).toArray] (some 8) rfl (xc_b fun ww hf => ysLimitsOk_c l ww ) ?_
 intro _
 refine kRD 2 [2,3,10] [(10,.v (.bool (!(limitsOk l))))] ?_
 refine kP 10 (!(limitsOk l)) (fun h1 => ?_) (fun h1 => ?_)
 have h1n := not_t h1
 refine kED [2,25] [(25,.v (.bool true))] ?_
 refine kT ?_
 refine kQ ?_
 refine kES [4] [(4,.v (.bool false))] ?_
 refine kR ?_
 exact ⟨[.bool false],by kernel_rfl,fun w' hb hf => ⟨ret_bool (show (false : Bool) = tableOk t l from by first | exact hno.symm | (exact (tableOk_end (by simpa using h1) (by omega) (by omega) hallC hgew HKw).symm) | (exact (tableOk_lim (by simpa using h1)).symm) | (exact (tableOk_len (by omega)).symm) | (exact (tableOk_wait (by omega)).symm)),hb⟩⟩
 have h1n := not_f h1
 refine kRD 8 [2,3,18] [(18,.v (.bool (decide (((t.conns.length : Nat) : Int) > l.conns))))] ?_
 refine kP 18 (decide (((t.conns.length : Nat) : Int) > l.conns)) (fun h2 => ?_) (fun h2 => ?_)
 have h2p := of_decide_eq_true h2
 refine kED [2,25] [(25,.v (.bool true))] ?_
 refine kT ?_
 refine kQ ?_
 refine kES [4] [(4,.v (.bool false))] ?_
 refine kR ?_
 exact ⟨[.bool false],by kernel_rfl,fun w' hb hf => ⟨ret_bool (show (false : Bool) = tableOk t l from by first | exact hno.symm | (exact (tableOk_end (by simpa using h1) (by omega) (by omega) hallC hgew HKw).symm) | (exact (tableOk_lim (by simpa using h1)).symm) | (exact (tableOk_len (by omega)).symm) | (exact (tableOk_wait (by omega)).symm)),hb⟩⟩
 have h2p := of_decide_eq_false h2
 refine kED [2,25] [(25,.v (.bool (decide (((t.waiting.length : Nat) : Int) > l.waiting))))] ?_
 refine kC (decide (((t.waiting.length : Nat) : Int) > l.waiting)) (fun h3 => ?_) (fun h3 => ?_)
 have h3p := of_decide_eq_true h3
 refine kQ ?_
 refine kES [4] [(4,.v (.bool false))] ?_
 refine kR ?_
 exact ⟨[.bool false],by kernel_rfl,fun w' hb hf => ⟨ret_bool (show (false : Bool) = tableOk t l from by first | exact hno.symm | (exact (tableOk_end (by simpa using h1) (by omega) (by omega) hallC hgew HKw).symm) | (exact (tableOk_lim (by simpa using h1)).symm) | (exact (tableOk_len (by omega)).symm) | (exact (tableOk_wait (by omega)).symm)),hb⟩⟩
 have h3p := of_decide_eq_false h3
 refine kK ?_
 refine kS ?_
 refine kQ ?_
 refine kED [2,5] [(5,.v (.int .i64 0))] ?_
 refine xw_block ?_
 refine xw_loopW (α := {x : Nat // (fun (k : Nat) => k ≤ t.conns.length ∧ ∀ (i : Nat) (x : CV),i < k → t.conns[i]? = some x → cOne t i x = true) x}) (fun x => (fun (k : Nat) => (⟨[(2,.p 0 0),(5,.v (.int .i64 (k : Int)))],[⟨33,tabL t (.slice Atc t.conns.length Ctc) (.slice Atw t.waiting.length Ctw)⟩,⟨43,limL l⟩],[],[slF (.slice Atc t.conns.length Ctc) 25 (t.conns.map conR),hldF t.conns,slF (.slice Atw t.waiting.length Ctw) 3 (t.waiting.map tupCells)]⟩ : St)) x.1) (fun x => t.conns.length - x.1) ⟨(0),⟨Nat.zero_le _,fun i x hi => by omega⟩⟩ (kF 2 0 [2,5]) ?_
 rintro ⟨k,hk,HK⟩
 try dsimp only
 try dsimp only at hk HK
 refine kS ?_
 refine kQ ?_
 refine kED [2,5,30] [(30,.v (.bool (decide ((k : Int) < ((t.conns.length : Nat) : Int)))))] ?_
 refine kC (decide ((k : Int) < ((t.conns.length : Nat) : Int))) (fun h4 => ?_) (fun h4 => ?_)
 have h4p := of_decide_eq_true h4
 have hlt : k < t.conns.length := by simpa using h4
 obtain ⟨x0,hx⟩ : ∃ x,t.conns[k]? = some x := ⟨_,List.getElem?_eq_getElem hlt⟩
 obtain ⟨x,xa,xc,rfl⟩ := cv_form (hh_t_connsV x0 (List.mem_of_getElem? hx))
 have hft_x : conFit x := hfit _ (List.mem_of_getElem? hx)
 obtain ⟨hfs_x,hfr_x,hfh_x,hfp_x⟩ := hft_x
 refine kK ?_
 refine kS ?_
 refine xw_block ?_
 refine kS ?_
 refine xws_start ?_
 refine xws_row (K := 25) (j := k) [.int .i64 x.t.ip,.int .i64 x.t.port,.int .i64 x.t.my,.int .i64 x.state,.int .i64 x.s.una,.string x.s.data,.int .i64 x.s.sent,.bool x.s.fin,.bool x.s.finSent,.bool x.s.done,.int .i64 x.r.next,.string x.r.data,.slice xa x.r.held.length xc,.int .i64 x.r.fin,.bool x.r.done,.int .i64 x.window,.int .i64 x.most,.int .i64 x.o.mss,.int .i64 x.o.scale,.bool x.o.sack,.bool x.o.stamp,.int .i64 x.o.val,.int .i64 x.o.echo,.int .i64 x.timer,.int .i64 x.tries] (slF (.slice Atc t.conns.length Ctc) 25 (t.conns.map conR)) (fun _ _ h => h) (by simp) (fun w h => h) (fun b h => h) (by simp only [List.getElem?_map,hx]; rfl) (fun bq5 offq5 hAq5 => ?_)
 refine xws_row (K := 25) (j := k) [.int .i64 x.t.ip,.int .i64 x.t.port,.int .i64 x.t.my,.int .i64 x.state,.int .i64 x.s.una,.string x.s.data,.int .i64 x.s.sent,.bool x.s.fin,.bool x.s.finSent,.bool x.s.done,.int .i64 x.r.next,.string x.r.data,.slice xa x.r.held.length xc,.int .i64 x.r.fin,.bool x.r.done,.int .i64 x.window,.int .i64 x.most,.int .i64 x.o.mss,.int .i64 x.o.scale,.bool x.o.sack,.bool x.o.stamp,.int .i64 x.o.val,.int .i64 x.o.echo,.int .i64 x.timer,.int .i64 x.tries] (slF (.slice Atc t.conns.length Ctc) 25 (t.conns.map conR)) (fun _ _ h => h) (by simp) (fun w h => h) (fun b h => h) (by simp only [List.getElem?_map,hx]; rfl) (fun bq6 offq6 hAq6 => ?_)
 refine xws_regionE [] (by kernel_rfl) (fun ρ σ hq7 => ?_)
 refine kTD [0,1,2] [35,34,2,5] 16 [(35,.v (.int .i64 (k : Int))),(34,.v (.slice Atc t.conns.length Ctc))] ?_
 refine xe_takeI (kd := .i64) (T := 30) (e := 68) (K := 25) (j := k) (A := Atc) (len := t.conns.length) (cap := Ctc) 3 0 _ rfl (by kernel_rfl) (by kernel_rfl) (by kernel_rfl) (fun _ _ h => h) (by kernel_rfl) rfl rfl (by kernel_rfl) (by kernel_rfl) (by kernel_rfl) (by kernel_rfl) hlt hAq5 hq7.1.2 (by kernel_rfl) rfl ?_
 refine kTD [4] [37,2,5] 14 [(37,.v (.agg (conL x (.slice xa x.r.held.length xc)).toArray))] ?_
 refine kA [5] ?_
 refine kSC 5 49 [.agg (conL x (.slice xa x.r.held.length xc)).toArray] (some 38) rfl (xc_b fun ww hf => ysConnOk_c x (.slice xa x.r.held.length xc) ww ((hf _ m1) (x,.slice xa x.r.held.length xc) (List.mem_of_getElem? hx)) (by assumption) (by omega)) ?_
 intro _
 refine kTD [6,7] [40,2,5] 11 [(40,.v (.bool (!(conOk x))))] ?_
 refine kY 40 (!(conOk x)) (fun h8 => ?_) (fun h8 => ?_)
 have hno := tableOk_c (l := l) hx (cOne_no1 (by simpa using h8))
 refine kTD [8,9,10,11,16] [49,44,43,41,40,2,5] 6 [(49,.v undef),(44,.v undef),(43,.v undef),(41,.v undef),(40,.v (.bool true))] ?_
 refine xe_skip 12 ⟨[(45,.v undef),(49,.v undef),(44,.v undef),(43,.v undef),(41,.v undef),(40,.v (.bool true)),(2,.p 0 0),(5,.v (.int .i64 (k : Int)))],[⟨33,tabL t (.slice Atc t.conns.length Ctc) (.slice Atw t.waiting.length Ctw)⟩,⟨43,limL l⟩],[[.int .i64 x.t.ip,.int .i64 x.t.port,.int .i64 x.t.my,.int .i64 x.state,.int .i64 x.s.una,.string x.s.data,.int .i64 x.s.sent,.bool x.s.fin,.bool x.s.finSent,.bool x.s.done,.int .i64 x.r.next,.string x.r.data,.slice xa x.r.held.length xc,.int .i64 x.r.fin,.bool x.r.done,.int .i64 x.window,.int .i64 x.most,.int .i64 x.o.mss,.int .i64 x.o.scale,.bool x.o.sack,.bool x.o.stamp,.int .i64 x.o.val,.int .i64 x.o.echo,.int .i64 x.timer,.int .i64 x.tries],[.int .i64 x.t.ip,.int .i64 x.t.port,.int .i64 x.t.my,.int .i64 x.state,.int .i64 x.s.una,.string x.s.data,.int .i64 x.s.sent,.bool x.s.fin,.bool x.s.finSent,.bool x.s.done,.int .i64 x.r.next,.string x.r.data,.slice xa x.r.held.length xc,.int .i64 x.r.fin,.bool x.r.done,.int .i64 x.window,.int .i64 x.most,.int .i64 x.o.mss,.int .i64 x.o.scale,.bool x.o.sack,.bool x.o.stamp,.int .i64 x.o.val,.int .i64 x.o.echo,.int .i64 x.timer,.int .i64 x.tries]],[slF (.slice Atc t.conns.length Ctc) 25 (t.conns.map conR),hldF t.conns,slF (.slice Atw t.waiting.length Ctw) 3 (t.waiting.map tupCells)]⟩ rfl (by kernel_rfl) (by kernel_rfl) (by kernel_rfl) (fun _ _ h => h) (by kernel_rfl) rfl (by kernel_rfl) ?_
 refine kTS [13,14,15,17,18] [51,2,5] 0 [(51,.v (.bool true)),(2,.p 0 0),(5,.v (.int .i64 (k : Int)))] ?_
 refine kZ ?_
 refine kT ?_
 refine kQ ?_
 refine kES [4] [(4,.v (.bool false))] ?_
 refine kR ?_
 exact ⟨[.bool false],by kernel_rfl,fun w' hb hf => ⟨ret_bool (show (false : Bool) = tableOk t l from by first | exact hno.symm | (exact (tableOk_end (by simpa using h1) (by omega) (by omega) hallC hgew HKw).symm) | (exact (tableOk_lim (by simpa using h1)).symm) | (exact (tableOk_len (by omega)).symm) | (exact (tableOk_wait (by omega)).symm)),hb⟩⟩
 have hy1 : conOk x = true := by simpa using h8
 refine kTD [8,9,10,11,16] [49,44,43,41,40,2,5] 6 [(49,.v (.int .i64 (k : Int))),(44,.v (.int .i64 (k : Int))),(43,.v (.slice Atc t.conns.length Ctc)),(41,.v (.agg (tabL t (.slice Atc t.conns.length Ctc) (.slice Atw t.waiting.length Ctw)).toArray)),(40,.v (.bool false))] ?_
 refine xe_takeI (kd := .i64) (T := 30) (e := 68) (K := 25) (j := k) (A := Atc) (len := t.conns.length) (cap := Ctc) 12 1 _ rfl (by kernel_rfl) (by kernel_rfl) (by kernel_rfl) (fun _ _ h => h) (by kernel_rfl) rfl rfl (by kernel_rfl) (by kernel_rfl) (by kernel_rfl) (by kernel_rfl) hlt hAq6 hq7.2 (by kernel_rfl) rfl ?_
 refine kTS [13,14] [47,49,41,40,2,5] 3 [(47,.v (.agg (tupL x.t).toArray)),(49,.v (.int .i64 (k : Int))),(41,.v (.agg (tabL t (.slice Atc t.conns.length Ctc) (.slice Atw t.waiting.length Ctw)).toArray)),(40,.v (.bool false)),(2,.p 0 0),(5,.v (.int .i64 (k : Int)))] ?_
 refine kA [15] ?_
 refine kSC 15 11 [.agg (tabL t (.slice Atc t.conns.length Ctc) (.slice Atw t.waiting.length Ctw)).toArray,.agg (tupL x.t).toArray] (some 48) rfl (xc_b fun ww hf => ysFindConn_c t (.slice Atc t.conns.length Ctc) (.slice Atw t.waiting.length Ctw) x.t ww (hf _ m0) (hf _ m1) (hf _ m2) ) ?_
 intro _
 refine kTD [17,18] [51,2,5] 0 [(51,.v (.bool ((findConn t x.t) != (k : Int))))] ?_
 refine kZ ?_
 refine kC ((findConn t x.t) != (k : Int)) (fun h9 => ?_) (fun h9 => ?_)
 have h9p := neT h9
 have hno := tableOk_c (l := l) hx (cOne_no2 (by simpa using h9))
 refine kQ ?_
 refine kES [4] [(4,.v (.bool false))] ?_
 refine kR ?_
 exact ⟨[.bool false],by kernel_rfl,fun w' hb hf => ⟨ret_bool (show (false : Bool) = tableOk t l from by first | exact hno.symm | (exact (tableOk_end (by simpa using h1) (by omega) (by omega) hallC hgew HKw).symm) | (exact (tableOk_lim (by simpa using h1)).symm) | (exact (tableOk_len (by omega)).symm) | (exact (tableOk_wait (by omega)).symm)),hb⟩⟩
 have h9p := neF h9
 have hy2 : findConn t x.t = (k : Int) := by simpa using h9
 refine kK ?_
 refine kG ?_
 refine kRD 3 [2,5] [(5,.v (.int .i64 (IntKind.i64.wrap ((k : Int) + 1))))] ?_
 refine xl_nv [2,5] [(5,.v (.int .i64 (IntKind.i64.wrap ((k : Int) + 1))))] [(5,.v (.int .i64 ((k : Int) + 1)))] (by rw [show (IntKind.i64.wrap ((k : Int) + 1)) = ((k : Int) + 1) from wrap_id (by omega) (by omega)]) (by kernel_rfl) ?_
 refine kED [2,5] [] ?_
 exact ⟨⟨(k + 1),⟨by omega,all_step (p := cOne t) hx (cOne_yes hy1 hy2) HK⟩⟩,kF 2 0 [2,5],by show t.conns.length - (k + 1) < t.conns.length - k; omega⟩
 have h4p := of_decide_eq_false h4
 have hge : k = t.conns.length := by simp at h4; omega
 have hallC := allI_all hge HK
 refine xw_exit ?_
 refine kS ?_
 refine kQ ?_
 refine kED [2,6] [(6,.v (.int .i64 0))] ?_
 refine xw_block ?_
 refine xw_loopW (α := {x : Nat // (fun (kw : Nat) => kw ≤ t.waiting.length ∧ ∀ (i : Nat) (x : Tup),i < kw → t.waiting[i]? = some x → wOne t i x = true) x}) (fun x => (fun (kw : Nat) => (⟨[(2,.p 0 0),(6,.v (.int .i64 (kw : Int)))],[⟨33,tabL t (.slice Atc t.conns.length Ctc) (.slice Atw t.waiting.length Ctw)⟩,⟨43,limL l⟩],[],[slF (.slice Atc t.conns.length Ctc) 25 (t.conns.map conR),hldF t.conns,slF (.slice Atw t.waiting.length Ctw) 3 (t.waiting.map tupCells)]⟩ : St)) x.1) (fun x => t.waiting.length - x.1) ⟨(0),⟨Nat.zero_le _,fun i x hi => by omega⟩⟩ (kF 2 0 [2,6]) ?_
 rintro ⟨kw,hkw,HKw⟩
 try dsimp only
 try dsimp only at hkw HKw
 refine kS ?_
 refine kQ ?_
 refine kED [2,6,56] [(56,.v (.bool (decide ((kw : Int) < ((t.waiting.length : Nat) : Int)))))] ?_
 refine kC (decide ((kw : Int) < ((t.waiting.length : Nat) : Int))) (fun h10 => ?_) (fun h10 => ?_)
 have h10p := of_decide_eq_true h10
 have hltw : kw < t.waiting.length := by simpa using h10
 obtain ⟨xw,hxw⟩ : ∃ x,t.waiting[kw]? = some x := ⟨_,List.getElem?_eq_getElem hltw⟩
 have hwp := wait_pre hxw
 refine kK ?_
 refine kS ?_
 refine xw_block ?_
 refine kS ?_
 refine xws_start ?_
 refine xws_row (K := 3) (j := kw) [.int .i64 xw.ip,.int .i64 xw.port,.int .i64 xw.my] (slF (.slice Atw t.waiting.length Ctw) 3 (t.waiting.map tupCells)) (fun _ _ h => h) (by simp) (fun w h => h) (fun b h => h) (by simp only [List.getElem?_map,hxw]; rfl) (fun bq11 offq11 hAq11 => ?_)
 refine xws_row (K := 3) (j := kw) [.int .i64 xw.ip,.int .i64 xw.port,.int .i64 xw.my] (slF (.slice Atw t.waiting.length Ctw) 3 (t.waiting.map tupCells)) (fun _ _ h => h) (by simp) (fun w h => h) (fun b h => h) (by simp only [List.getElem?_map,hxw]; rfl) (fun bq12 offq12 hAq12 => ?_)
 refine xws_regionE [] (by kernel_rfl) (fun ρ σ hq13 => ?_)
 refine kTD [0,1,2,4,5,6] [65,64,61,60,2,6] 14 [(65,.v (.int .i64 (kw : Int))),(64,.v (.slice Atw t.waiting.length Ctw)),(61,.v (.int .i64 (kw : Int))),(60,.v (.slice Atw t.waiting.length Ctw))] ?_
 refine kX 3 (.slice (if Ctw = 0 then Atw else Atw.map (·.add (0 * 3))) (kw - 0) (Ctw - 0)) rfl (fun _ _ ww hA => act_slV0 (e := 35) kw hA rfl (by kernel_rfl) (by kernel_rfl) rfl rfl rfl (by omega) ww) ?_
 refine xe_takeI (kd := .i64) (T := 31) (e := 35) (K := 3) (j := kw) (A := Atw) (len := t.waiting.length) (cap := Ctw) 7 0 _ rfl (by kernel_rfl) (by kernel_rfl) (by kernel_rfl) (fun _ _ h => h) (by kernel_rfl) rfl rfl (by kernel_rfl) (by kernel_rfl) (by kernel_rfl) (by kernel_rfl) hltw hAq11 hq13.1.2 (by kernel_rfl) rfl ?_
 refine kTD [8] [67,62,2,6] 11 [(67,.v (.agg (tupL xw).toArray)),(62,.v (.slice (if Ctw = 0 then Atw else Atw.map (·.add (0 * 3))) (kw - 0) (Ctw - 0)))] ?_
 refine kA [9] ?_
 refine kSC 9 50 [.slice (if Ctw = 0 then Atw else Atw.map (·.add (0 * 3))) (kw - 0) (Ctw - 0),.agg (tupL xw).toArray] (some 68) rfl (xc_b fun ww hf => yl25Waits_c ((t.waiting.drop 0).take (kw - 0)) (.slice (if Ctw = 0 then Atw else Atw.map (·.add (0 * 3))) (kw - 0) (Ctw - 0)) xw ww (Sl.partM (hf _ m2) 0 kw (by omega) (by omega)) ) ?_
 intro _
 refine kTS [10] [69,2,6] 9 [(69,.v (.bool (isWait ((t.waiting.drop 0).take (kw - 0)) xw))),(2,.p 0 0),(6,.v (.int .i64 (kw : Int)))] ?_
 refine kY 69 (isWait ((t.waiting.drop 0).take (kw - 0)) xw) (fun h14 => ?_) (fun h14 => ?_)
 have hno := tableOk_w (l := l) hxw (wOne_no2 (by have e := hwp; rw [h14] at e; simpa using e))
 refine kTD [11,12,13,14] [73,72,70,69,2,6] 5 [(73,.v undef),(72,.v undef),(70,.v undef),(69,.v (.bool true))] ?_
 refine xe_skip 15 ⟨[(74,.v undef),(73,.v undef),(72,.v undef),(70,.v undef),(69,.v (.bool true)),(2,.p 0 0),(6,.v (.int .i64 (kw : Int)))],[⟨33,tabL t (.slice Atc t.conns.length Ctc) (.slice Atw t.waiting.length Ctw)⟩,⟨43,limL l⟩],[[.int .i64 xw.ip,.int .i64 xw.port,.int .i64 xw.my],[.int .i64 xw.ip,.int .i64 xw.port,.int .i64 xw.my]],[slF (.slice Atc t.conns.length Ctc) 25 (t.conns.map conR),hldF t.conns,slF (.slice Atw t.waiting.length Ctw) 3 (t.waiting.map tupCells)]⟩ rfl (by kernel_rfl) (by kernel_rfl) (by kernel_rfl) (fun _ _ h => h) (by kernel_rfl) rfl (by kernel_rfl) ?_
 refine kTD [16,17,18,19] [78,2,6] 0 [(78,.v (.bool true))] ?_
 refine kZ ?_
 refine kT ?_
 refine kQ ?_
 refine kES [4] [(4,.v (.bool false))] ?_
 refine kR ?_
 exact ⟨[.bool false],by kernel_rfl,fun w' hb hf => ⟨ret_bool (show (false : Bool) = tableOk t l from by first | exact hno.symm | (exact (tableOk_end (by simpa using h1) (by omega) (by omega) hallC hgew HKw).symm) | (exact (tableOk_lim (by simpa using h1)).symm) | (exact (tableOk_len (by omega)).symm) | (exact (tableOk_wait (by omega)).symm)),hb⟩⟩
 have hy2 : idxTup t.waiting xw = (kw : Int) := by have e := hwp; rw [h14] at e; simpa using e
 refine kTD [11,12,13,14] [73,72,70,69,2,6] 5 [(73,.v (.int .i64 (kw : Int))),(72,.v (.slice Atw t.waiting.length Ctw)),(70,.v (.agg (tabL t (.slice Atc t.conns.length Ctc) (.slice Atw t.waiting.length Ctw)).toArray)),(69,.v (.bool false))] ?_
 refine xe_takeI (kd := .i64) (T := 31) (e := 35) (K := 3) (j := kw) (A := Atw) (len := t.waiting.length) (cap := Ctw) 15 1 _ rfl (by kernel_rfl) (by kernel_rfl) (by kernel_rfl) (fun _ _ h => h) (by kernel_rfl) rfl rfl (by kernel_rfl) (by kernel_rfl) (by kernel_rfl) (by kernel_rfl) hltw hAq12 hq13.2 (by kernel_rfl) rfl ?_
 refine kTD [16] [75,70,69,2,6] 3 [(75,.v (.agg (tupL xw).toArray))] ?_
 refine kA [17] ?_
 refine kSC 17 11 [.agg (tabL t (.slice Atc t.conns.length Ctc) (.slice Atw t.waiting.length Ctw)).toArray,.agg (tupL xw).toArray] (some 76) rfl (xc_b fun ww hf => ysFindConn_c t (.slice Atc t.conns.length Ctc) (.slice Atw t.waiting.length Ctw) xw ww (hf _ m0) (hf _ m1) (hf _ m2) ) ?_
 intro _
 refine kTD [18,19] [78,2,6] 0 [(78,.v (.bool (decide ((findConn t xw) < 0))))] ?_
 refine kZ ?_
 refine kC (decide ((findConn t xw) < 0)) (fun h15 => ?_) (fun h15 => ?_)
 have h15p := of_decide_eq_true h15
 have hno := tableOk_w (l := l) hxw (wOne_no1 (by simpa using h15))
 refine kQ ?_
 refine kES [4] [(4,.v (.bool false))] ?_
 refine kR ?_
 exact ⟨[.bool false],by kernel_rfl,fun w' hb hf => ⟨ret_bool (show (false : Bool) = tableOk t l from by first | exact hno.symm | (exact (tableOk_end (by simpa using h1) (by omega) (by omega) hallC hgew HKw).symm) | (exact (tableOk_lim (by simpa using h1)).symm) | (exact (tableOk_len (by omega)).symm) | (exact (tableOk_wait (by omega)).symm)),hb⟩⟩
 have h15p := of_decide_eq_false h15
 have hy1 : ¬ findConn t xw < 0 := by simpa using h15
 refine kK ?_
 refine kG ?_
 refine kRD 3 [2,6] [(6,.v (.int .i64 (IntKind.i64.wrap ((kw : Int) + 1))))] ?_
 refine xl_nv [2,6] [(6,.v (.int .i64 (IntKind.i64.wrap ((kw : Int) + 1))))] [(6,.v (.int .i64 ((kw : Int) + 1)))] (by rw [show (IntKind.i64.wrap ((kw : Int) + 1)) = ((kw : Int) + 1) from wrap_id (by omega) (by omega)]) (by kernel_rfl) ?_
 refine kED [2,6] [] ?_
 exact ⟨⟨(kw + 1),⟨by omega,all_step (p := wOne t) hxw (wOne_yes hy1 hy2) HKw⟩⟩,kF 2 0 [2,6],by show t.waiting.length - (kw + 1) < t.waiting.length - kw; omega⟩
 have h10p := of_decide_eq_false h10
 have hgew : kw = t.waiting.length := by simp at h10; omega
 refine xw_exit ?_
 refine kQ ?_
 refine kES [4] [(4,.v (.bool true))] ?_
 refine kR ?_
 exact ⟨[.bool true],by kernel_rfl,fun w' hb hf => ⟨ret_bool (show (true : Bool) = tableOk t l from by first | exact hno.symm | (exact (tableOk_end (by simpa using h1) (by omega) (by omega) hallC hgew HKw).symm) | (exact (tableOk_lim (by simpa using h1)).symm) | (exact (tableOk_len (by omega)).symm) | (exact (tableOk_wait (by omega)).symm)),hb⟩⟩
theorem yiTableOk_c (t : Tab) (t_connsV : Value) (t_waitingV : Value) (l : Lim) (w : World) (hl_t_connsV : Sl w t_connsV 25 (t.conns.map conR)) (hh_t_connsV : ∀ x ∈ t.conns, Sl w x.2 2 (x.1.r.held.map pceCells)) (hl_t_waitingV : Sl w t_waitingV 3 (t.waiting.map tupCells)) (hfit : ∀ x ∈ t.conns, conFit x.1) : Calls Try.prog 20 #[.agg (tabL t t_connsV t_waitingV).toArray, .agg (limL l).toArray] w fun e w' => e = .returned (.bool (tableOk t l)) ∧ Below w.heap.size w w' := by
 obtain ⟨Atc,Ctc,hvtc⟩ := hl_t_connsV.form
 rw [List.length_map] at hvtc; subst hvtc
 have hntc := hl_t_connsV.len; rw [List.length_map] at hntc
 have hqtc := Sl.capLe hl_t_connsV
 obtain ⟨Atw,Ctw,hvtw⟩ := hl_t_waitingV.form
 rw [List.length_map] at hvtw; subst hvtw
 have hntw := hl_t_waitingV.len; rw [List.length_map] at hntw
 have hqtw := Sl.capLe hl_t_waitingV
 refine x_calls (args := [.agg (tabL t (.slice Atc t.conns.length Ctc) (.slice Atw t.waiting.length Ctw)).toArray,.agg (limL l).toArray]) (fn := Try.f20) [slF (.slice Atc t.conns.length Ctc) 25 (t.conns.map conR),hldF t.conns,slF (.slice Atw t.waiting.length Ctw) 3 (t.waiting.map tupCells)] Try.func20 rfl Try.ntmps20 rfl (by simp only [List.mem_cons,List.not_mem_nil,or_false,forall_eq_or_imp,forall_eq]; exact ⟨⟨rfl,hl_t_connsV⟩,⟨rfl,hh_t_connsV⟩,⟨rfl,hl_t_waitingV⟩⟩) ?_
 refine kQ ?_
 refine kEF [2,3] ⟨[(2,.p 0 0),(3,.p 1 0)],[⟨33,tabL t (.slice Atc t.conns.length Ctc) (.slice Atw t.waiting.length Ctw)⟩,⟨43,limL l⟩],[],[slF (.slice Atc t.conns.length Ctc) 25 (t.conns.map conR),hldF t.conns,slF (.slice Atw t.waiting.length Ctw) 3 (t.waiting.map tupCells)]⟩ ?_
 refine kS ?_
 refine kQ ?_
 refine kCD 1 [2,3,9] [(9,.v (.agg (limL l).toArray))] 51 [.agg (limL l).toArray] (some 10) rfl (xc_b fun ww hf => yiLimitsOk_c l ww ) ?_
 intro _
 refine kRD 2 [2,3,12] [(12,.v (.bool (!(limitsOk l))))] ?_
 refine kP 12 (!(limitsOk l)) (fun h1 => ?_) (fun h1 => ?_)
 have h1n := not_t h1
 refine kED [2,27] [(27,.v (.bool true))] ?_
 refine kT ?_
 refine kQ ?_
 refine kES [4] [(4,.v (.bool false))] ?_
 refine kR ?_
 exact ⟨[.bool false],by kernel_rfl,fun w' hb hf => ⟨ret_bool (show (false : Bool) = tableOk t l from by first | exact hno.symm | (exact (tableOk_end (by simpa using h1) (by omega) (by omega) hallC hgew HKw).symm) | (exact (tableOk_lim (by simpa using h1)).symm) | (exact (tableOk_len (by omega)).symm) | (exact (tableOk_wait (by omega)).symm)),hb⟩⟩
 have h1n := not_f h1
 refine kRD 8 [2,3,20] [(20,.v (.bool (decide (((t.conns.length : Nat) : Int) > l.conns))))] ?_
 refine kP 20 (decide (((t.conns.length : Nat) : Int) > l.conns)) (fun h2 => ?_) (fun h2 => ?_)
 have h2p := of_decide_eq_true h2
 refine kED [2,27] [(27,.v (.bool true))] ?_
 refine kT ?_
 refine kQ ?_
 refine kES [4] [(4,.v (.bool false))] ?_
 refine kR ?_
 exact ⟨[.bool false],by kernel_rfl,fun w' hb hf => ⟨ret_bool (show (false : Bool) = tableOk t l from by first | exact hno.symm | (exact (tableOk_end (by simpa using h1) (by omega) (by omega) hallC hgew HKw).symm) | (exact (tableOk_lim (by simpa using h1)).symm) | (exact (tableOk_len (by omega)).symm) | (exact (tableOk_wait (by omega)).symm)),hb⟩⟩
 have h2p := of_decide_eq_false h2
 refine kED [2,27] [(27,.v (.bool (decide (((t.waiting.length : Nat) : Int) > l.waiting))))] ?_
 refine kC (decide (((t.waiting.length : Nat) : Int) > l.waiting)) (fun h3 => ?_) (fun h3 => ?_)
 have h3p := of_decide_eq_true h3
 refine kQ ?_
 refine kES [4] [(4,.v (.bool false))] ?_
 refine kR ?_
 exact ⟨[.bool false],by kernel_rfl,fun w' hb hf => ⟨ret_bool (show (false : Bool) = tableOk t l from by first | exact hno.symm | (exact (tableOk_end (by simpa using h1) (by omega) (by omega) hallC hgew HKw).symm) | (exact (tableOk_lim (by simpa using h1)).symm) | (exact (tableOk_len (by omega)).symm) | (exact (tableOk_wait (by omega)).symm)),hb⟩⟩
 have h3p := of_decide_eq_false h3
 refine kK ?_
 refine kS ?_
 refine kQ ?_
 refine kED [2,29,30,31] [(29,.v (.slice Atc t.conns.length Ctc)),(30,.v (.int .i64 ((t.conns.length : Nat) : Int))),(31,.v (.int .i64 0))] ?_
 refine xw_block ?_
 refine xw_loopW (α := {x : Nat // (fun (k : Nat) => k ≤ t.conns.length ∧ ∀ (i : Nat) (x : CV),i < k → t.conns[i]? = some x → cOne t i x = true) x}) (fun x => (fun (k : Nat) => (⟨[(2,.p 0 0),(29,.v (.slice Atc t.conns.length Ctc)),(30,.v (.int .i64 ((t.conns.length : Nat) : Int))),(31,.v (.int .i64 (k : Int)))],[⟨33,tabL t (.slice Atc t.conns.length Ctc) (.slice Atw t.waiting.length Ctw)⟩,⟨43,limL l⟩],[],[slF (.slice Atc t.conns.length Ctc) 25 (t.conns.map conR),hldF t.conns,slF (.slice Atw t.waiting.length Ctw) 3 (t.waiting.map tupCells)]⟩ : St)) x.1) (fun x => t.conns.length - x.1) ⟨(0),⟨Nat.zero_le _,fun i x hi => by omega⟩⟩ (kF 2 0 [2,29,30,31]) ?_
 rintro ⟨k,hk,HK⟩
 try dsimp only
 try dsimp only at hk HK
 refine kQ ?_
 refine kED [2,29,30,31,32] [(32,.v (.bool (decide ((k : Int) < ((t.conns.length : Nat) : Int)))))] ?_
 refine kS ?_
 refine kC (decide ((k : Int) < ((t.conns.length : Nat) : Int))) (fun h4 => ?_) (fun h4 => ?_)
 have h4p := of_decide_eq_true h4
 have hlt : k < t.conns.length := by simpa using h4
 obtain ⟨x0,hx⟩ : ∃ x,t.conns[k]? = some x := ⟨_,List.getElem?_eq_getElem hlt⟩
 obtain ⟨x,xa,xc,rfl⟩ := cv_form (hh_t_connsV x0 (List.mem_of_getElem? hx))
 have hft_x : conFit x := hfit _ (List.mem_of_getElem? hx)
 obtain ⟨hfs_x,hfr_x,hfh_x,hfp_x⟩ := hft_x
 refine kK ?_
 refine kS ?_
 refine xw_block ?_
 refine kQ ?_
 refine xl_indexD (kd := .i64) (T := 30) (e := 68) (K := 25) 1 [2,29,30,31,33] [(33,.v (.int .i64 (k : Int)))] k [.int .i64 x.t.ip,.int .i64 x.t.port,.int .i64 x.t.my,.int .i64 x.state,.int .i64 x.s.una,.string x.s.data,.int .i64 x.s.sent,.bool x.s.fin,.bool x.s.finSent,.bool x.s.done,.int .i64 x.r.next,.string x.r.data,.slice xa x.r.held.length xc,.int .i64 x.r.fin,.bool x.r.done,.int .i64 x.window,.int .i64 x.most,.int .i64 x.o.mss,.int .i64 x.o.scale,.bool x.o.sack,.bool x.o.stamp,.int .i64 x.o.val,.int .i64 x.o.echo,.int .i64 x.timer,.int .i64 x.tries] (slF (.slice Atc t.conns.length Ctc) 25 (t.conns.map conR)) (by kernel_rfl) rfl (by kernel_rfl) rfl rfl (by kernel_rfl) (by kernel_rfl) (by kernel_rfl) (by kernel_rfl) hlt (by simp) (fun w h => h) (fun b h => h) (by simp only [List.getElem?_map,hx]; rfl) ?_
 refine kEA [2,5,6,29,30,31] [(5,.v (.int .i64 (k : Int))),(6,.p 2 0)] [⟨68,conL x (.slice xa x.r.held.length xc)⟩] ?_
 refine kQ ?_
 refine kCD 1 [2,5,6,29,30,31,36] [(36,.v (.agg (conL x (.slice xa x.r.held.length xc)).toArray))] 52 [.agg (conL x (.slice xa x.r.held.length xc)).toArray] (some 37) rfl (xc_b fun ww hf => yiConnOk_c x (.slice xa x.r.held.length xc) ww ((hf _ m1) (x,.slice xa x.r.held.length xc) (List.mem_of_getElem? hx)) (by assumption) (by omega)) ?_
 intro _
 refine kRD 2 [2,5,6,29,30,31,39] [(39,.v (.bool (!(conOk x))))] ?_
 refine kP 39 (!(conOk x)) (fun h5 => ?_) (fun h5 => ?_)
 have hno := tableOk_c (l := l) hx (cOne_no1 (by simpa using h5))
 refine kES [2,29,30,31,46] [(2,.p 0 0),(29,.v (.slice Atc t.conns.length Ctc)),(30,.v (.int .i64 ((t.conns.length : Nat) : Int))),(31,.v (.int .i64 (k : Int))),(46,.v (.bool true))] ?_
 refine kT ?_
 refine kQ ?_
 refine kES [4] [(4,.v (.bool false))] ?_
 refine kR ?_
 exact ⟨[.bool false],by kernel_rfl,fun w' hb hf => ⟨ret_bool (show (false : Bool) = tableOk t l from by first | exact hno.symm | (exact (tableOk_end (by simpa using h1) (by omega) (by omega) hallC hgew HKw).symm) | (exact (tableOk_lim (by simpa using h1)).symm) | (exact (tableOk_len (by omega)).symm) | (exact (tableOk_wait (by omega)).symm)),hb⟩⟩
 have hy1 : conOk x = true := by simpa using h5
 refine kCS 3 [2,5,29,30,31,39,40,42] [(2,.p 0 0),(5,.v (.int .i64 (k : Int))),(29,.v (.slice Atc t.conns.length Ctc)),(30,.v (.int .i64 ((t.conns.length : Nat) : Int))),(31,.v (.int .i64 (k : Int))),(39,.v (.bool false)),(40,.v (.agg (tabL t (.slice Atc t.conns.length Ctc) (.slice Atw t.waiting.length Ctw)).toArray)),(42,.v (.agg (tupL x.t).toArray))] 14 [.agg (tabL t (.slice Atc t.conns.length Ctc) (.slice Atw t.waiting.length Ctw)).toArray,.agg (tupL x.t).toArray] (some 43) rfl (xc_b fun ww hf => yiFindConn_c t (.slice Atc t.conns.length Ctc) (.slice Atw t.waiting.length Ctw) x.t ww (hf _ m0) (hf _ m1) (hf _ m2) ) ?_
 intro _
 refine kED [2,29,30,31,46] [(46,.v (.bool ((findConn t x.t) != (k : Int))))] ?_
 refine kC ((findConn t x.t) != (k : Int)) (fun h6 => ?_) (fun h6 => ?_)
 have h6p := neT h6
 have hno := tableOk_c (l := l) hx (cOne_no2 (by simpa using h6))
 refine kQ ?_
 refine kES [4] [(4,.v (.bool false))] ?_
 refine kR ?_
 exact ⟨[.bool false],by kernel_rfl,fun w' hb hf => ⟨ret_bool (show (false : Bool) = tableOk t l from by first | exact hno.symm | (exact (tableOk_end (by simpa using h1) (by omega) (by omega) hallC hgew HKw).symm) | (exact (tableOk_lim (by simpa using h1)).symm) | (exact (tableOk_len (by omega)).symm) | (exact (tableOk_wait (by omega)).symm)),hb⟩⟩
 have h6p := neF h6
 have hy2 : findConn t x.t = (k : Int) := by simpa using h6
 refine kK ?_
 refine kG ?_
 refine kRD 2 [2,29,30,31] [(31,.v (.int .i64 (IntKind.i64.wrap ((k : Int) + 1))))] ?_
 refine xl_nv [2,29,30,31] [(31,.v (.int .i64 (IntKind.i64.wrap ((k : Int) + 1))))] [(31,.v (.int .i64 ((k : Int) + 1)))] (by rw [show (IntKind.i64.wrap ((k : Int) + 1)) = ((k : Int) + 1) from wrap_id (by omega) (by omega)]) (by kernel_rfl) ?_
 refine kED [2,29,30,31] [] ?_
 exact ⟨⟨(k + 1),⟨by omega,all_step (p := cOne t) hx (cOne_yes hy1 hy2) HK⟩⟩,kF 2 0 [2,29,30,31],by show t.conns.length - (k + 1) < t.conns.length - k; omega⟩
 have h4p := of_decide_eq_false h4
 have hge : k = t.conns.length := by simp at h4; omega
 have hallC := allI_all hge HK
 refine xw_exit ?_
 refine kS ?_
 refine kQ ?_
 refine kED [2,49,50,51] [(49,.v (.slice Atw t.waiting.length Ctw)),(50,.v (.int .i64 ((t.waiting.length : Nat) : Int))),(51,.v (.int .i64 0))] ?_
 refine xw_block ?_
 refine xw_loopW (α := {x : Nat // (fun (kw : Nat) => kw ≤ t.waiting.length ∧ ∀ (i : Nat) (x : Tup),i < kw → t.waiting[i]? = some x → wOne t i x = true) x}) (fun x => (fun (kw : Nat) => (⟨[(2,.p 0 0),(49,.v (.slice Atw t.waiting.length Ctw)),(50,.v (.int .i64 ((t.waiting.length : Nat) : Int))),(51,.v (.int .i64 (kw : Int)))],[⟨33,tabL t (.slice Atc t.conns.length Ctc) (.slice Atw t.waiting.length Ctw)⟩,⟨43,limL l⟩],[],[slF (.slice Atc t.conns.length Ctc) 25 (t.conns.map conR),hldF t.conns,slF (.slice Atw t.waiting.length Ctw) 3 (t.waiting.map tupCells)]⟩ : St)) x.1) (fun x => t.waiting.length - x.1) ⟨(0),⟨Nat.zero_le _,fun i x hi => by omega⟩⟩ (kF 2 0 [2,49,50,51]) ?_
 rintro ⟨kw,hkw,HKw⟩
 try dsimp only
 try dsimp only at hkw HKw
 refine kQ ?_
 refine kED [2,49,50,51,52] [(52,.v (.bool (decide ((kw : Int) < ((t.waiting.length : Nat) : Int)))))] ?_
 refine kS ?_
 refine kC (decide ((kw : Int) < ((t.waiting.length : Nat) : Int))) (fun h7 => ?_) (fun h7 => ?_)
 have h7p := of_decide_eq_true h7
 have hltw : kw < t.waiting.length := by simpa using h7
 obtain ⟨xw,hxw⟩ : ∃ x,t.waiting[kw]? = some x := ⟨_,List.getElem?_eq_getElem hltw⟩
 refine kK ?_
 refine kS ?_
 refine xw_block ?_
 refine kQ ?_
 refine xl_indexD (kd := .i64) (T := 31) (e := 35) (K := 3) 1 [2,49,50,51,53] [(53,.v (.int .i64 (kw : Int)))] kw [.int .i64 xw.ip,.int .i64 xw.port,.int .i64 xw.my] (slF (.slice Atw t.waiting.length Ctw) 3 (t.waiting.map tupCells)) (by kernel_rfl) rfl (by kernel_rfl) rfl rfl (by kernel_rfl) (by kernel_rfl) (by kernel_rfl) (by kernel_rfl) hltw (by simp) (fun w h => h) (fun b h => h) (by simp only [List.getElem?_map,hxw]; rfl) ?_
 refine kEA [2,7,8,49,50,51] [(7,.v (.int .i64 (kw : Int))),(8,.p 2 0)] [⟨35,tupL xw⟩] ?_
 refine kQ ?_
 refine kCS 2 [2,7,8,49,50,51,56,57] [(2,.p 0 0),(7,.v (.int .i64 (kw : Int))),(8,.p 2 0),(49,.v (.slice Atw t.waiting.length Ctw)),(50,.v (.int .i64 ((t.waiting.length : Nat) : Int))),(51,.v (.int .i64 (kw : Int))),(56,.v (.agg (tabL t (.slice Atc t.conns.length Ctc) (.slice Atw t.waiting.length Ctw)).toArray)),(57,.v (.agg (tupL xw).toArray))] 14 [.agg (tabL t (.slice Atc t.conns.length Ctc) (.slice Atw t.waiting.length Ctw)).toArray,.agg (tupL xw).toArray] (some 58) rfl (xc_b fun ww hf => yiFindConn_c t (.slice Atc t.conns.length Ctc) (.slice Atw t.waiting.length Ctw) xw ww (hf _ m0) (hf _ m1) (hf _ m2) ) ?_
 intro _
 refine kRD 2 [2,7,8,49,50,51,60] [(60,.v (.bool (decide ((findConn t xw) < 0))))] ?_
 refine kP 60 (decide ((findConn t xw) < 0)) (fun h8 => ?_) (fun h8 => ?_)
 have h8p := of_decide_eq_true h8
 have hno := tableOk_w (l := l) hxw (wOne_no1 (by simpa using h8))
 refine kED [2,49,50,51,67] [(67,.v (.bool true))] ?_
 refine kT ?_
 refine kQ ?_
 refine kES [4] [(4,.v (.bool false))] ?_
 refine kR ?_
 exact ⟨[.bool false],by kernel_rfl,fun w' hb hf => ⟨ret_bool (show (false : Bool) = tableOk t l from by first | exact hno.symm | (exact (tableOk_end (by simpa using h1) (by omega) (by omega) hallC hgew HKw).symm) | (exact (tableOk_lim (by simpa using h1)).symm) | (exact (tableOk_len (by omega)).symm) | (exact (tableOk_wait (by omega)).symm)),hb⟩⟩
 have h8p := of_decide_eq_false h8
 have hy1 : ¬ findConn t xw < 0 := by simpa using h8
 refine kCD 3 [2,7,49,50,51,60,62,63] [(60,.v (.bool false)),(62,.v (.slice Atw t.waiting.length Ctw)),(63,.v (.agg (tupL xw).toArray))] 53 [.slice Atw t.waiting.length Ctw,.agg (tupL xw).toArray] (some 64) rfl (xc_b fun ww hf => yIndexTuple_c t.waiting (.slice Atw t.waiting.length Ctw) xw ww (hf _ m2) ) ?_
 intro _
 refine kED [2,49,50,51,67] [(67,.v (.bool ((idxTup t.waiting xw) != (kw : Int))))] ?_
 refine kC ((idxTup t.waiting xw) != (kw : Int)) (fun h9 => ?_) (fun h9 => ?_)
 have h9p := neT h9
 have hno := tableOk_w (l := l) hxw (wOne_no2 (by simpa using h9))
 refine kQ ?_
 refine kES [4] [(4,.v (.bool false))] ?_
 refine kR ?_
 exact ⟨[.bool false],by kernel_rfl,fun w' hb hf => ⟨ret_bool (show (false : Bool) = tableOk t l from by first | exact hno.symm | (exact (tableOk_end (by simpa using h1) (by omega) (by omega) hallC hgew HKw).symm) | (exact (tableOk_lim (by simpa using h1)).symm) | (exact (tableOk_len (by omega)).symm) | (exact (tableOk_wait (by omega)).symm)),hb⟩⟩
 have h9p := neF h9
 have hy2 : idxTup t.waiting xw = (kw : Int) := by simpa using h9
 refine kK ?_
 refine kG ?_
 refine kRD 2 [2,49,50,51] [(51,.v (.int .i64 (IntKind.i64.wrap ((kw : Int) + 1))))] ?_
 refine xl_nv [2,49,50,51] [(51,.v (.int .i64 (IntKind.i64.wrap ((kw : Int) + 1))))] [(51,.v (.int .i64 ((kw : Int) + 1)))] (by rw [show (IntKind.i64.wrap ((kw : Int) + 1)) = ((kw : Int) + 1) from wrap_id (by omega) (by omega)]) (by kernel_rfl) ?_
 refine kED [2,49,50,51] [] ?_
 exact ⟨⟨(kw + 1),⟨by omega,all_step (p := wOne t) hxw (wOne_yes hy1 hy2) HKw⟩⟩,kF 2 0 [2,49,50,51],by show t.waiting.length - (kw + 1) < t.waiting.length - kw; omega⟩
 have h7p := of_decide_eq_false h7
 have hgew : kw = t.waiting.length := by simp at h7; omega
 refine xw_exit ?_
 refine kQ ?_
 refine kES [4] [(4,.v (.bool true))] ?_
 refine kR ?_
 exact ⟨[.bool true],by kernel_rfl,fun w' hb hf => ⟨ret_bool (show (true : Bool) = tableOk t l from by first | exact hno.symm | (exact (tableOk_end (by simpa using h1) (by omega) (by omega) hallC hgew HKw).symm) | (exact (tableOk_lim (by simpa using h1)).symm) | (exact (tableOk_len (by omega)).symm) | (exact (tableOk_wait (by omega)).symm)),hb⟩⟩
theorem yszConnS_c (a : List CV) (aV : Value) (left : Int) (w : World) (hl_aV : Sl w aV 25 (a.map conR)) (hh_aV : ∀ x ∈ a, Sl w x.2 2 (x.1.r.held.map pceCells)) (h0 : 0 ≤ left) (h1 : left ≤ 1048576) (hm : ∀ x ∈ a, conMax x.1) : Calls Try.prog 36 #[aV, .int .i64 left] w fun e w' => ∃ r : Int, e = .returned (.int .i64 r) ∧ szP left r a ∧ Below w.heap.size w w' := by
 obtain ⟨Aa,Ca,hva⟩ := hl_aV.form
 rw [List.length_map] at hva; subst hva
 have hna := hl_aV.len; rw [List.length_map] at hna
 have hqa := Sl.capLe hl_aV
 refine x_calls (args := [.slice Aa a.length Ca,.int .i64 left]) (fn := Try.f36) [slF (.slice Aa a.length Ca) 25 (a.map conR),hldF a] Try.func36 rfl Try.ntmps36 rfl (by simp only [List.mem_cons,List.not_mem_nil,or_false,forall_eq_or_imp,forall_eq]; exact ⟨⟨rfl,hl_aV⟩,⟨rfl,hh_aV⟩⟩) ?_
 refine kQ ?_
 refine kEF [0,1] ⟨[(0,.v (.slice Aa a.length Ca)),(1,.v (.int .i64 left))],[],[],[slF (.slice Aa a.length Ca) 25 (a.map conR),hldF a]⟩ ?_
 refine kQ ?_
 refine kRD 5 [0,1] [(1,.v (.int .i64 (IntKind.i64.wrap (left - ((a.length : Nat) : Int)))))] ?_
 refine xl_nv [0,1] [(1,.v (.int .i64 (IntKind.i64.wrap (left - ((a.length : Nat) : Int)))))] [(1,.v (.int .i64 (left - ((a.length : Nat) : Int))))] (by rw [show (IntKind.i64.wrap (left - ((a.length : Nat) : Int))) = (left - ((a.length : Nat) : Int)) from wrap_id (by omega) (by omega)]) (by kernel_rfl) ?_
 refine kED [0,1] [] ?_
 refine kS ?_
 refine kQ ?_
 refine kED [0,1,11] [(11,.v (.bool (decide ((left - ((a.length : Nat) : Int)) < 0))))] ?_
 refine kC (decide ((left - ((a.length : Nat) : Int)) < 0)) (fun h1 => ?_) (fun h1 => ?_)
 have h1p := of_decide_eq_true h1
 refine kQ ?_
 refine kES [4] [(4,.v (.int .i64 (-1)))] ?_
 refine kR ?_
 exact ⟨[.int .i64 (-1)],by kernel_rfl,fun w' hb hf => ⟨_,rfl,.inl rfl,hb⟩⟩
 have h1p := of_decide_eq_false h1
 refine kK ?_
 refine kS ?_
 refine kQ ?_
 refine kED [0,1,5] [(5,.v (.int .i64 0))] ?_
 refine xw_block ?_
 refine xw_loopW (α := {x : Nat × Int // (fun (i : Nat) (z : Int) => i ≤ a.length ∧ 0 ≤ z ∧ z ≤ left - (a.length : Int) ∧ ∀ (j : Nat) (x : CV),j < i → a[j]? = some x → ConFit left x.1) x.1 x.2}) (fun x => (fun (i : Nat) (z : Int) => (⟨[(0,.v (.slice Aa a.length Ca)),(1,.v (.int .i64 z)),(5,.v (.int .i64 (i : Int)))],[],[],[slF (.slice Aa a.length Ca) 25 (a.map conR),hldF a]⟩ : St)) x.1.1 x.1.2) (fun x => (fun (i : Nat) (z : Int) => a.length - i) x.1.1 x.1.2) ⟨(0,left - ((a.length : Nat) : Int)),⟨Nat.zero_le _,(by first | omega | (simp at *; omega)),(by omega),(fun j x hj => by omega)⟩⟩ (kF 0 0 [0,1,5]) ?_
 rintro ⟨⟨i,z⟩,hi,hz0,hz1,HK⟩
 try dsimp only
 try dsimp only at hi hz0 hz1 HK
 refine kS ?_
 refine kQ ?_
 refine kED [0,1,5,15] [(15,.v (.bool (decide ((i : Int) < ((a.length : Nat) : Int)))))] ?_
 refine kC (decide ((i : Int) < ((a.length : Nat) : Int))) (fun h2 => ?_) (fun h2 => ?_)
 have h2p := of_decide_eq_true h2
 have hlt : i < a.length := by simpa using h2
 obtain ⟨x0,hx⟩ : ∃ x,a[i]? = some x := ⟨_,List.getElem?_eq_getElem hlt⟩
 obtain ⟨x,xa,xc,rfl⟩ := cv_form (hh_aV x0 (List.mem_of_getElem? hx))
 have hmx : conMax x := hm _ (List.mem_of_getElem? hx)
 refine kK ?_
 refine kS ?_
 refine xw_block ?_
 refine kQ ?_
 refine xl_indexD (kd := .i64) (T := 22) (e := 59) (K := 25) 2 [0,1,5,18,19] [(18,.v (.slice Aa a.length Ca)),(19,.v (.int .i64 (i : Int)))] i [.int .i64 x.t.ip,.int .i64 x.t.port,.int .i64 x.t.my,.int .i64 x.state,.int .i64 x.s.una,.string x.s.data,.int .i64 x.s.sent,.bool x.s.fin,.bool x.s.finSent,.bool x.s.done,.int .i64 x.r.next,.string x.r.data,.slice xa x.r.held.length xc,.int .i64 x.r.fin,.bool x.r.done,.int .i64 x.window,.int .i64 x.most,.int .i64 x.o.mss,.int .i64 x.o.scale,.bool x.o.sack,.bool x.o.stamp,.int .i64 x.o.val,.int .i64 x.o.echo,.int .i64 x.timer,.int .i64 x.tries] (slF (.slice Aa a.length Ca) 25 (a.map conR)) (by kernel_rfl) rfl (by kernel_rfl) rfl rfl (by kernel_rfl) (by kernel_rfl) (by kernel_rfl) (by kernel_rfl) hlt (by simp) (fun w h => h) (fun b h => h) (by simp only [List.getElem?_map,hx]; rfl) ?_
 refine kCD 2 [0,1,5,21,22] [(21,.v (.agg (conL x (.slice xa x.r.held.length xc)).toArray)),(22,.v (.int .i64 z))] 26 [.agg (conL x (.slice xa x.r.held.length xc)).toArray,.int .i64 z] (some 23) rfl (xc_e (α := Int) (F := fun y => .int .i64 y) (p := fun r => r = -1 ∨ (0 ≤ r ∧ r ≤ z ∧ ConFit z x)) fun ww hf => szConn_c x.t.ip x.t.port x.t.my x.state x.s.una x.s.data x.s.sent x.s.fin x.s.finSent x.s.done x.r.next x.r.data x.r.held (.slice xa x.r.held.length xc) x.r.fin x.r.done x.window x.most x.o.mss x.o.scale x.o.sack x.o.stamp x.o.val x.o.echo x.timer x.tries z ww ((hf _ m1) (x,.slice xa x.r.held.length xc) (List.mem_of_getElem? hx)) hmx.2.2 (by omega) (by omega) hmx.2.1 hmx.1) ?_
 rintro ⟨r3,hr3⟩
 refine kED [0,1,5] [(1,.v (.int .i64 r3))] ?_
 refine kQ ?_
 refine kED [0,1,5,25] [(25,.v (.bool (decide (r3 < 0))))] ?_
 refine kC (decide (r3 < 0)) (fun h4 => ?_) (fun h4 => ?_)
 have h4p := of_decide_eq_true h4
 refine kQ ?_
 refine kES [4] [(4,.v (.int .i64 (-1)))] ?_
 refine kR ?_
 exact ⟨[.int .i64 (-1)],by kernel_rfl,fun w' hb hf => ⟨_,rfl,.inl rfl,hb⟩⟩
 have h4p := of_decide_eq_false h4
 rcases hr3 with hr3 | ⟨hr3a,hr3b,hr3c⟩
 · omega
 refine kK ?_
 refine kG ?_
 refine kRS 3 [0,1,5] [(0,.v (.slice Aa a.length Ca)),(1,.v (.int .i64 r3)),(5,.v (.int .i64 (IntKind.i64.wrap ((i : Int) + 1))))] ?_
 refine xl_eqS (t' := [(0,.v (.slice Aa a.length Ca)),(1,.v (.int .i64 r3)),(5,.v (.int .i64 ((i : Int) + 1)))]) (by rw [show (IntKind.i64.wrap ((i : Int) + 1)) = ((i : Int) + 1) from wrap_id (by omega) (by omega)]) ?_
 refine kED [0,1,5] [] ?_
 exact ⟨⟨(i + 1,r3),⟨hlt,by omega,by omega,sz_step hx (hr3c.mono (by omega)) HK⟩⟩,kF 0 0 [0,1,5],by show (fun (i : Nat) (z : Int) => a.length - i) (i + 1) r3 < a.length - i; (dsimp only; omega)⟩
 have h2p := of_decide_eq_false h2
 have hge : i = a.length := by simp at h2; omega
 refine xw_exit ?_
 refine kQ ?_
 refine kES [4] [(4,.v (.int .i64 z))] ?_
 refine kR ?_
 exact ⟨[.int .i64 z],by kernel_rfl,fun w' hb hf => ⟨_,rfl,.inr ⟨by omega,by omega,by omega,sz_all hge HK⟩,hb⟩⟩
theorem yszTable_c (c : List CV) (wt : List Tup) (tc : Value) (tw : Value) (left : Int) (w : World) (hl_tc : Sl w tc 25 (c.map conR)) (hh_tc : ∀ x ∈ c, Sl w x.2 2 (x.1.r.held.map pceCells)) (hl_tw : Sl w tw 3 (wt.map tupCells)) (h0 : 0 ≤ left) (h1 : left ≤ 1048576) (hm : ∀ x ∈ c, conMax x.1) : Calls Try.prog 10 #[.agg #[tc, tw], .int .i64 left] w fun e w' => ∃ r : Int, e = .returned (.int .i64 r) ∧ (r = -1 ∨ (0 ≤ r ∧ r ≤ left ∧ (c.length : Int) ≤ left ∧ (∀ x ∈ c, ConFit left x.1) ∧ (wt.length : Int) ≤ left)) ∧ Below w.heap.size w w' := by
 obtain ⟨ra_tc,rc_tc,hv_tc⟩ := hl_tc.form
 rw [List.length_map] at hv_tc; subst hv_tc
 have hn_tc := hl_tc.len; rw [List.length_map] at hn_tc
 have hq_tc := Sl.capLe hl_tc
 obtain ⟨ra_tw,rc_tw,hv_tw⟩ := hl_tw.form
 rw [List.length_map] at hv_tw; subst hv_tw
 have hn_tw := hl_tw.len; rw [List.length_map] at hn_tw
 have hq_tw := Sl.capLe hl_tw
 refine x_calls (args := [.agg #[.slice ra_tc c.length rc_tc,.slice ra_tw wt.length rc_tw],.int .i64 left]) (fn := Try.f10) [slF (.slice ra_tc c.length rc_tc) 25 (c.map conR),hldF c,slF (.slice ra_tw wt.length rc_tw) 3 (wt.map tupCells)] Try.func10 rfl Try.ntmps10 rfl (by simp only [List.mem_cons,List.not_mem_nil,or_false,forall_eq_or_imp,forall_eq]; exact ⟨⟨rfl,hl_tc⟩,⟨rfl,hh_tc⟩,⟨rfl,hl_tw⟩⟩) ?_
 refine kQ ?_
 refine kEF [1,2] ⟨[(1,.v (.int .i64 left)),(2,.p 0 0)],[⟨25,[.slice ra_tc c.length rc_tc,.slice ra_tw wt.length rc_tw]⟩],[],[slF (.slice ra_tc c.length rc_tc) 25 (c.map conR),hldF c,slF (.slice ra_tw wt.length rc_tw) 3 (wt.map tupCells)]⟩ ?_
 refine kQ ?_
 refine kCD 3 [1,2,6,7] [(6,.v (.slice ra_tc c.length rc_tc)),(7,.v (.int .i64 left))] 36 [.slice ra_tc c.length rc_tc,.int .i64 left] (some 8) rfl (xc_e (α := Int) (F := fun y => .int .i64 y) (p := fun r => szP left r c) fun ww hf => yszConnS_c c (.slice ra_tc c.length rc_tc) left ww (hf _ m0) (hf _ m1) (by omega) (by omega) hm) ?_
 rintro ⟨r1,hr1⟩
 refine kED [1,2] [(1,.v (.int .i64 r1))] ?_
 refine kS ?_
 refine kQ ?_
 refine kED [1,2,10] [(10,.v (.bool (decide (r1 < 0))))] ?_
 refine kC (decide (r1 < 0)) (fun h2 => ?_) (fun h2 => ?_)
 have h2p := of_decide_eq_true h2
 refine kQ ?_
 refine kES [4] [(4,.v (.int .i64 (-1)))] ?_
 refine kR ?_
 exact ⟨[.int .i64 (-1)],by kernel_rfl,fun w' hb hf => ⟨_,rfl,.inl rfl,hb⟩⟩
 have h2p := of_decide_eq_false h2
 rcases hr1 with hr1 | ⟨hr1a,hr1b,hr1n,hr1c⟩
 · omega
 refine kK ?_
 refine kQ ?_
 refine kCD 3 [1,12,13] [(12,.v (.slice ra_tw wt.length rc_tw)),(13,.v (.int .i64 r1))] 37 [.slice ra_tw wt.length rc_tw,.int .i64 r1] (some 14) rfl (xc_s fun ww hf => szTupleS_c (.slice ra_tw wt.length rc_tw) wt r1 ww (hf _ m2) (by omega) (by omega)) ?_
 intro _
 refine kES [1] [(1,.v (.int .i64 (if (r1 : Int) < wt.length then -1 else (r1 : Int) - wt.length)))] ?_
 refine kS ?_
 refine kQ ?_
 refine kED [1,16] [(16,.v (.bool (decide ((if (r1 : Int) < wt.length then -1 else (r1 : Int) - wt.length) < 0))))] ?_
 refine kC (decide ((if (r1 : Int) < wt.length then -1 else (r1 : Int) - wt.length) < 0)) (fun h3 => ?_) (fun h3 => ?_)
 have h3p := of_decide_eq_true h3
 refine kQ ?_
 refine kES [4] [(4,.v (.int .i64 (-1)))] ?_
 refine kR ?_
 exact ⟨[.int .i64 (-1)],by kernel_rfl,fun w' hb hf => ⟨_,rfl,.inl rfl,hb⟩⟩
 have h3p := of_decide_eq_false h3
 have hsz_wt : wt.length ≤ 1048576 := by by_cases hh : (r1 : Int) < (wt.length : Int) <;> simp [hh] at h3; omega
 refine kK ?_
 refine kQ ?_
 refine kES [4] [(4,.v (.int .i64 (if (r1 : Int) < wt.length then -1 else (r1 : Int) - wt.length)))] ?_
 refine kR ?_
 exact ⟨[.int .i64 (if (r1 : Int) < wt.length then -1 else (r1 : Int) - wt.length)],by kernel_rfl,fun w' hb hf => ⟨_,rfl,.inr ⟨by split <;> omega,by split <;> omega,by omega,by assumption,by omega⟩,hb⟩⟩
theorem ytoConnS_c (a : List CV) (aV : Value) (w : World) (hl_aV : Sl w aV 25 (a.map conR)) (hh_aV : ∀ x ∈ a, Sl w x.2 2 (x.1.r.held.map pceCells)) (hfit : ∀ x ∈ a, conFit x.1) (hln : a.length ≤ 1048576) (B : Nat) (hB : B ≤ w.heap.size) : Calls Try.prog 38 #[aV] w fun e w' => XRs w w' e (α := {cs : List CV // pl cs = pl a} × (Option Addr × Nat)) (fun y => .slice y.2.1 y.1.1.length y.2.2) (fun y => [rowF B 68 25 (.slice y.2.1 y.1.1.length y.2.2) (y.1.1.map conR), hownF B y.1.1]) := by
 obtain ⟨Aa,Ca,hva⟩ := hl_aV.form
 rw [List.length_map] at hva; subst hva
 have hna := hl_aV.len; rw [List.length_map] at hna
 have hqa := Sl.capLe hl_aV
 refine x_callsA (args := [.slice Aa a.length Ca]) (fn := Try.f38) [slF (.slice Aa a.length Ca) 25 (a.map conR),hldF a] Try.func38 rfl Try.ntmps38 rfl (by simp only [List.mem_cons,List.not_mem_nil,or_false,forall_eq_or_imp,forall_eq]; exact ⟨⟨rfl,hl_aV⟩,⟨rfl,hh_aV⟩⟩) ?_
 refine kQ ?_
 refine kEF [0] ⟨[(0,.v (.slice Aa a.length Ca))],[],[],[slF (.slice Aa a.length Ca) 25 (a.map conR),hldF a]⟩ ?_
 refine kQ ?_
 refine kHD 2 [0,6] [(6,.v (.int .i64 ((a.length : Nat) : Int)))] rfl (hv_make (kl := .i64) (kc := .i64) (e := 68) (K := 25) (bytes := 208) (m := a.length) (z := .agg (conZ).toArray) (rs := (List.replicate a.length ((⟨⟨0,0,0⟩,0,⟨0,(⟨#[]⟩ : ByteArray),0,false,false,false⟩,⟨0,(⟨#[]⟩ : ByteArray),[],0,false⟩,0,0,⟨0,0,false,false,0,0⟩,0,0⟩,.slice none 0 0) : CV)).map conR) rfl (by kernel_rfl) (by kernel_rfl) (by kernel_rfl) (by kernel_rfl) (by (try simp only [List.length_map,List.length_append,List.length_cons,List.length_nil,List.length_take,List.length_drop,maxLen]); omega) (by (try simp only [List.length_map,List.length_append,List.length_cons,List.length_nil,List.length_take,List.length_drop,maxLen]); omega) (by rw [List.map_replicate]; rfl)) ?_
 intro g1
 refine kED [0,3] [(3,.v (.slice (some ⟨g1,0,none⟩) a.length a.length))] ?_
 refine kS ?_
 refine kQ ?_
 refine kED [0,3,4] [(4,.v (.int .i64 0))] ?_
 refine xw_block ?_
 refine xw_free (hownF w.heap.size (List.replicate a.length ((⟨⟨0,0,0⟩,0,⟨0,(⟨#[]⟩ : ByteArray),0,false,false,false⟩,⟨0,(⟨#[]⟩ : ByteArray),[],0,false⟩,0,0,⟨0,0,false,false,0,0⟩,0,0⟩,.slice none 0 0) : CV))) (fun ww _ => hownF_rep ww _ _) (fun b => hownF_repb) ?_
 refine xw_loopW (α := {x : Nat × List CV // (fun (i : Nat) (l : List CV) => i ≤ a.length ∧ l.length = a.length ∧ (pl l).take i = (pl a).take i) x.1 x.2}) (fun x => (fun (i : Nat) (l : List CV) => (⟨[(0,.v (.slice Aa a.length Ca)),(3,.v (.slice (some ⟨g1,0,none⟩) a.length a.length)),(4,.v (.int .i64 (i : Int)))],[],[],[hownF w.heap.size l,rowF w.heap.size 68 25 (.slice (some ⟨g1,0,none⟩) a.length a.length) (l.map conR),slF (.slice Aa a.length Ca) 25 (a.map conR),hldF a]⟩ : St)) x.1.1 x.1.2) (fun x => (fun (i : Nat) (l : List CV) => a.length - i) x.1.1 x.1.2) ⟨(0,(List.replicate a.length ((⟨⟨0,0,0⟩,0,⟨0,(⟨#[]⟩ : ByteArray),0,false,false,false⟩,⟨0,(⟨#[]⟩ : ByteArray),[],0,false⟩,0,0,⟨0,0,false,false,0,0⟩,0,0⟩,.slice none 0 0) : CV))),⟨Nat.zero_le _,List.length_replicate,rfl⟩⟩ (kPk [0,1,2,3] <| kF 0 0 [0,3,4]) ?_
 rintro ⟨⟨i,l⟩,hi,hll,HK⟩
 try dsimp only
 try dsimp only at hi hll HK
 refine kS ?_
 refine kQ ?_
 refine kED [0,3,4,11] [(11,.v (.bool (decide ((i : Int) < ((a.length : Nat) : Int)))))] ?_
 refine kC (decide ((i : Int) < ((a.length : Nat) : Int))) (fun h2 => ?_) (fun h2 => ?_)
 have h2p := of_decide_eq_true h2
 have hlt : i < a.length := by simpa using h2
 obtain ⟨x0,hx⟩ : ∃ x,a[i]? = some x := ⟨_,List.getElem?_eq_getElem hlt⟩
 obtain ⟨x,xa,xc,rfl⟩ := cv_form (hh_aV x0 (List.mem_of_getElem? hx))
 have hft_x : conFit x := hfit _ (List.mem_of_getElem? hx)
 obtain ⟨hfs_x,hfr_x,hfh_x,hfp_x⟩ := hft_x
 obtain ⟨z,hz⟩ : ∃ z,l[i]? = some z := ⟨_,List.getElem?_eq_getElem (by omega)⟩
 refine kK ?_
 refine kS ?_
 refine xw_block ?_
 refine kG ?_
 refine xl_indexD (kd := .i64) (T := 22) (e := 59) (K := 25) 4 [0,3,4,14,15,16,17] [(14,.v (.slice (some ⟨g1,0,none⟩) a.length a.length)),(15,.v (.int .i64 (i : Int))),(16,.v (.slice Aa a.length Ca)),(17,.v (.int .i64 (i : Int)))] i [.int .i64 x.t.ip,.int .i64 x.t.port,.int .i64 x.t.my,.int .i64 x.state,.int .i64 x.s.una,.string x.s.data,.int .i64 x.s.sent,.bool x.s.fin,.bool x.s.finSent,.bool x.s.done,.int .i64 x.r.next,.string x.r.data,.slice xa x.r.held.length xc,.int .i64 x.r.fin,.bool x.r.done,.int .i64 x.window,.int .i64 x.most,.int .i64 x.o.mss,.int .i64 x.o.scale,.bool x.o.sack,.bool x.o.stamp,.int .i64 x.o.val,.int .i64 x.o.echo,.int .i64 x.timer,.int .i64 x.tries] (slF (.slice Aa a.length Ca) 25 (a.map conR)) (by kernel_rfl) rfl (by kernel_rfl) rfl rfl (by kernel_rfl) (by kernel_rfl) (by kernel_rfl) (by kernel_rfl) hlt (by simp) (fun w h => h) (fun b h => h) (by simp only [List.getElem?_map,hx]; rfl) ?_
 refine kCD 1 [0,3,4,14,15,19] [(19,.v (.agg (conL x (.slice xa x.r.held.length xc)).toArray))] 28 [.agg (conL x (.slice xa x.r.held.length xc)).toArray] (some 20) rfl (xc_on (m := x.r.held.length) (F := fun v' => .agg (conL x v').toArray) (List.length_map ..) fun ww hf => toConn_c x.t.ip x.t.port x.t.my x.state x.s.una x.s.data x.s.sent x.s.fin x.s.finSent x.s.done x.r.next x.r.data x.r.held (.slice xa x.r.held.length xc) x.r.fin x.r.done x.window x.most x.o.mss x.o.scale x.o.sack x.o.stamp x.o.val x.o.echo x.timer x.tries ww ((hf _ m3) (x,.slice xa x.r.held.length xc) (List.mem_of_getElem? hx)) (by omega)) ?_
 rintro ⟨v3a,v3c⟩
 refine kOD 0 [0,3,4,14,15,20] [] (.pointer (some ⟨g1,i * 25,none⟩)) rfl (fun _ _ _ ww hr => act_ix (kd := .i64) (T := 30) (e := 68) (K := 25) (g := g1) (N := a.length) (cap := a.length) i rfl hr.1 rfl rfl (by kernel_rfl) (by kernel_rfl) (by kernel_rfl) (by omega) ww) ?_
 refine xl_hs 0 [0,3,4,20,21] ⟨[(0,.v (.slice Aa a.length Ca)),(3,.v (.slice (some ⟨g1,0,none⟩) a.length a.length)),(4,.v (.int .i64 (i : Int))),(20,.v (.agg (conL x (.slice v3a x.r.held.length v3c)).toArray)),(21,.v (.pointer (some ⟨g1,i * 25,none⟩)))],[],[[.int .i64 x.t.ip,.int .i64 x.t.port,.int .i64 x.t.my,.int .i64 x.state,.int .i64 x.s.una,.string x.s.data,.int .i64 x.s.sent,.bool x.s.fin,.bool x.s.finSent,.bool x.s.done,.int .i64 x.r.next,.string x.r.data,.slice xa x.r.held.length xc,.int .i64 x.r.fin,.bool x.r.done,.int .i64 x.window,.int .i64 x.most,.int .i64 x.o.mss,.int .i64 x.o.scale,.bool x.o.sack,.bool x.o.stamp,.int .i64 x.o.val,.int .i64 x.o.echo,.int .i64 x.timer,.int .i64 x.tries]],[ownF w.heap.size (.slice v3a x.r.held.length v3c) 2 (x.r.held.map pceCells),hownF w.heap.size l,rowF w.heap.size 68 25 (.slice (some ⟨g1,0,none⟩) a.length a.length) (l.map conR),slF (.slice Aa a.length Ca) 25 (a.map conR),hldF a]⟩ (by kernel_rfl) rfl (by kernel_rfl) rfl (by kernel_rfl) (HSg.hs (hs_stR (g := g1) (B := w.heap.size) (e := 68) (K := 25) (N := a.length) (cap := a.length) (rs := (l.map conR)) (rs' := (l.set i (((x,.slice v3a x.r.held.length v3c) : CV))).map conR) (v := (.agg (conL x (.slice v3a x.r.held.length v3c)).toArray)) (i := 2) (off := i * 25) i 0 [.int .i64 z.1.t.ip,.int .i64 z.1.t.port,.int .i64 z.1.t.my,.int .i64 z.1.state,.int .i64 z.1.s.una,.string z.1.s.data,.int .i64 z.1.s.sent,.bool z.1.s.fin,.bool z.1.s.finSent,.bool z.1.s.done,.int .i64 z.1.r.next,.string z.1.r.data,z.2,.int .i64 z.1.r.fin,.bool z.1.r.done,.int .i64 z.1.window,.int .i64 z.1.most,.int .i64 z.1.o.mss,.int .i64 z.1.o.scale,.bool z.1.o.sack,.bool z.1.o.stamp,.int .i64 z.1.o.val,.int .i64 z.1.o.echo,.int .i64 z.1.timer,.int .i64 z.1.tries] (row' := [.int .i64 x.t.ip,.int .i64 x.t.port,.int .i64 x.t.my,.int .i64 x.state,.int .i64 x.s.una,.string x.s.data,.int .i64 x.s.sent,.bool x.s.fin,.bool x.s.finSent,.bool x.s.done,.int .i64 x.r.next,.string x.r.data,.slice v3a x.r.held.length v3c,.int .i64 x.r.fin,.bool x.r.done,.int .i64 x.window,.int .i64 x.most,.int .i64 x.o.mss,.int .i64 x.o.scale,.bool x.o.sack,.bool x.o.stamp,.int .i64 x.o.val,.int .i64 x.o.echo,.int .i64 x.timer,.int .i64 x.tries]) rfl rfl (by kernel_rfl) rfl (by kernel_rfl) (by kernel_rfl) (by kernel_rfl) (by kernel_rfl) (Nat.le_refl _) (by simp only [List.getElem?_map,hz]; rfl) (by kernel_rfl) rfl (by rw [List.map_set]; rfl))) ?_
 refine kED [0,3,4] [] ?_
 refine kG ?_
 refine kRD 3 [0,3,4] [(4,.v (.int .i64 (IntKind.i64.wrap ((i : Int) + 1))))] ?_
 refine xl_nv [0,3,4] [(4,.v (.int .i64 (IntKind.i64.wrap ((i : Int) + 1))))] [(4,.v (.int .i64 ((i : Int) + 1)))] (by rw [show (IntKind.i64.wrap ((i : Int) + 1)) = ((i : Int) + 1) from wrap_id (by omega) (by omega)]) (by kernel_rfl) ?_
 refine kES [0,3,4] [(0,.v (.slice Aa a.length Ca)),(3,.v (.slice (some ⟨g1,0,none⟩) a.length a.length)),(4,.v (.int .i64 ((i : Int) + 1)))] ?_
 exact ⟨⟨(i + 1,(l.set i (((x,.slice v3a x.r.held.length v3c) : CV)))),⟨hlt,(by rw [List.length_set]; exact hll),pl_set (x := (x,_)) HK hx (by omega)⟩⟩,kPk [1,2,0,3,4] <| (wk_turn (fun _ _ _ _ h => hown_set (cs := l) (i := i) (x := (((x,.slice v3a x.r.held.length v3c) : CV))) (by omega) h)).trans <| kF 0 0 [0,3,4],by show (fun (i : Nat) (l : List CV) => a.length - i) (i + 1) (l.set i (((x,.slice v3a x.r.held.length v3c) : CV))) < a.length - i; (dsimp only; omega)⟩
 have h2p := of_decide_eq_false h2
 have hge : i = a.length := by simp at h2; omega
 refine xw_exit ?_
 refine kQ ?_
 refine kES [2] [(2,.v (.slice (some ⟨g1,0,none⟩) a.length a.length))] ?_
 refine kR ?_
 have hmc : pl l = pl a := by subst hge; have h1 := HK; rw [← hll] at h1; unfold pl at h1 ⊢; rw [List.take_of_length_le (by simp)] at h1; rw [h1,List.take_of_length_le (by simp; omega)]
 exact ⟨[.slice (some ⟨g1,0,none⟩) a.length a.length],by kernel_rfl,fun w' hb hf ha => xo2 (⟨l,hmc⟩,(((some ⟨g1,0,none⟩) : Option Addr),l.length)) (by show Value.slice _ _ _ = Value.slice _ _ _; rw [hll]) rfl (pW (by have h := hf (rowF w.heap.size 68 25 (.slice (some ⟨g1,0,none⟩) a.length a.length) (l.map conR)) (by simp); rw [← hll] at h; exact h) hB) (pH (hf (hownF w.heap.size l) (by simp)) hB) (Apart.sub2 ha (i := 1) (j := 0) rfl rfl (by decide) rfl (fun b h => h) (fun b h => hownF_blk h)) hb⟩
theorem ytoTable_c (t : Tab) (t_connsV : Value) (t_waitingV : Value) (w : World) (hl_t_connsV : Sl w t_connsV 25 (t.conns.map conR)) (hh_t_connsV : ∀ x ∈ t.conns, Sl w x.2 2 (x.1.r.held.map pceCells)) (hl_t_waitingV : Sl w t_waitingV 3 (t.waiting.map tupCells)) (hfit : ∀ x ∈ t.conns, conFit x.1) (hln : t.conns.length ≤ 1048576) (hlw : t.waiting.length ≤ 1048576) (B : Nat) (hB : B ≤ w.heap.size) : Calls Try.prog 12 #[.agg (tabL t t_connsV t_waitingV).toArray] w fun e w' => XRs w w' e (α := {cs : List CV // pl cs = pl t.conns} × (Option Addr × Nat) × (Option Addr × Nat)) (fun y => .agg #[.slice y.2.1.1 y.1.1.length y.2.1.2, .slice y.2.2.1 t.waiting.length y.2.2.2]) (fun y => [rowF B 68 25 (.slice y.2.1.1 y.1.1.length y.2.1.2) (y.1.1.map conR), hownF B y.1.1, ownF B (.slice y.2.2.1 t.waiting.length y.2.2.2) 3 (t.waiting.map tupCells)]) := by
 obtain ⟨Atc,Ctc,hvtc⟩ := hl_t_connsV.form
 rw [List.length_map] at hvtc; subst hvtc
 have hntc := hl_t_connsV.len; rw [List.length_map] at hntc
 have hqtc := Sl.capLe hl_t_connsV
 obtain ⟨Atw,Ctw,hvtw⟩ := hl_t_waitingV.form
 rw [List.length_map] at hvtw; subst hvtw
 have hntw := hl_t_waitingV.len; rw [List.length_map] at hntw
 have hqtw := Sl.capLe hl_t_waitingV
 refine x_callsA (args := [.agg (tabL t (.slice Atc t.conns.length Ctc) (.slice Atw t.waiting.length Ctw)).toArray]) (fn := Try.f12) [slF (.slice Atc t.conns.length Ctc) 25 (t.conns.map conR),hldF t.conns,slF (.slice Atw t.waiting.length Ctw) 3 (t.waiting.map tupCells)] Try.func12 rfl Try.ntmps12 rfl (by simp only [List.mem_cons,List.not_mem_nil,or_false,forall_eq_or_imp,forall_eq]; exact ⟨⟨rfl,hl_t_connsV⟩,⟨rfl,hh_t_connsV⟩,⟨rfl,hl_t_waitingV⟩⟩) ?_
 refine kQ ?_
 refine kEF [1,2] ⟨[(1,.p 0 0),(2,.p 1 0)],[⟨25,tabL t (.slice Atc t.conns.length Ctc) (.slice Atw t.waiting.length Ctw)⟩,⟨33,[.slice none 0 0,.slice none 0 0]⟩],[],[slF (.slice Atc t.conns.length Ctc) 25 (t.conns.map conR),hldF t.conns,slF (.slice Atw t.waiting.length Ctw) 3 (t.waiting.map tupCells)]⟩ ?_
 refine kQ ?_
 refine kEA [1,2,3] [(3,.p 2 0)] [⟨33,[.slice none 0 0,.slice none 0 0]⟩] ?_
 refine kQ ?_
 refine kCD 2 [1,2,3,5] [(5,.v (.slice Atc t.conns.length Ctc))] 38 [.slice Atc t.conns.length Ctc] (some 6) rfl (xc_r fun ww hw hf => ytoConnS_c t.conns (.slice Atc t.conns.length Ctc) ww (hf _ m0) (hf _ m1) (by assumption) (by omega) w.heap.size hw) ?_
 rintro ⟨⟨t1l,ht1l⟩,⟨t1a,t1c⟩⟩
 dsimp only
 refine kEU [1,2,3] [] 2 ⟨33,[.slice t1a t1l.length t1c,.slice none 0 0]⟩ ?_
 refine kQ ?_
 refine kCD 2 [2,3,9] [(9,.v (.slice Atw t.waiting.length Ctw))] 39 [.slice Atw t.waiting.length Ctw] (some 10) rfl (xc_on (m := t.waiting.length) (F := fun v' => v') (List.length_map ..) fun ww hf => toTupleS_c (.slice Atw t.waiting.length Ctw) t.waiting ww (hf _ m4) (by omega)) ?_
 rintro ⟨v2a,v2c⟩
 refine kEU [2,3] [] 2 ⟨33,tabL { t with conns := t1l } (.slice t1a t1l.length t1c) (.slice v2a t.waiting.length v2c)⟩ ?_
 refine kQ ?_
 refine kEU [2] [(2,.p 1 0)] 1 ⟨33,tabL { t with conns := t1l } (.slice t1a t1l.length t1c) (.slice v2a t.waiting.length v2c)⟩ ?_
 refine kR ?_
 have hmc : pl t1l = pl t.conns := by assumption
 exact ⟨[.agg (tabL { t with conns := t1l } (.slice t1a t1l.length t1c) (.slice v2a t.waiting.length v2c)).toArray],by kernel_rfl,fun w' hb hf ha => by exact xo3 (⟨t1l,hmc⟩,(t1a,t1c),(v2a,v2c)) rfl rfl (pW (hf _ m1) hB) (pH (hf _ m2) hB) (pO (hf _ m0) hB) (Apart.sub3 ha [1,2,0] rfl (by decide) rfl rfl rfl (by exact fun b h => h) (fun b h => hownF_blk h) (fun b h => h)) hb⟩
theorem yeqConnS_c (a : List CV) (aV : Value) (b : List CV) (bV : Value) (w : World) (hl_aV : Sl w aV 25 (a.map conR)) (hh_aV : ∀ x ∈ a, Sl w x.2 2 (x.1.r.held.map pceCells)) (hl_bV : Sl w bV 25 (b.map conR)) (hh_bV : ∀ x ∈ b, Sl w x.2 2 (x.1.r.held.map pceCells)) (hpl : pl a = pl b) : Calls Try.prog 42 #[aV, bV] w fun e w' => e = .returned (.bool true) ∧ Below w.heap.size w w' := by
 obtain ⟨Aa,Ca,hva⟩ := hl_aV.form
 rw [List.length_map] at hva; subst hva
 have hna := hl_aV.len; rw [List.length_map] at hna
 have hqa := Sl.capLe hl_aV
 obtain ⟨Ab,Cb,hvb⟩ := hl_bV.form
 rw [List.length_map] at hvb; subst hvb
 have hnb := hl_bV.len; rw [List.length_map] at hnb
 have hqb := Sl.capLe hl_bV
 have hlab := pl_len hpl
 refine x_calls (args := [.slice Aa a.length Ca,.slice Ab b.length Cb]) (fn := Try.f42) [slF (.slice Aa a.length Ca) 25 (a.map conR),hldF a,slF (.slice Ab b.length Cb) 25 (b.map conR),hldF b] Try.func42 rfl Try.ntmps42 rfl (by simp only [List.mem_cons,List.not_mem_nil,or_false,forall_eq_or_imp,forall_eq]; exact ⟨⟨rfl,hl_aV⟩,⟨rfl,hh_aV⟩,⟨rfl,hl_bV⟩,⟨rfl,hh_bV⟩⟩) ?_
 refine kQ ?_
 refine kEF [0,1] ⟨[(0,.v (.slice Aa a.length Ca)),(1,.v (.slice Ab b.length Cb))],[],[],[slF (.slice Aa a.length Ca) 25 (a.map conR),hldF a,slF (.slice Ab b.length Cb) 25 (b.map conR),hldF b]⟩ ?_
 refine kS ?_
 refine kQ ?_
 refine kED [0,1,10] [(10,.v (.bool (((a.length : Nat) : Int) != ((b.length : Nat) : Int))))] ?_
 refine kC (((a.length : Nat) : Int) != ((b.length : Nat) : Int)) (fun h1 => ?_) (fun h1 => ?_)
 have h1p := neT h1
 exfalso; simp at h1; omega
 have h1p := neF h1
 refine kK ?_
 refine kS ?_
 refine kQ ?_
 refine kED [0,1,5] [(5,.v (.int .i64 0))] ?_
 refine xw_block ?_
 refine xw_loopW (α := {x : Nat // (fun (i : Nat) => i ≤ a.length) x}) (fun x => (fun (i : Nat) => (⟨[(0,.v (.slice Aa a.length Ca)),(1,.v (.slice Ab b.length Cb)),(5,.v (.int .i64 (i : Int)))],[],[],[slF (.slice Aa a.length Ca) 25 (a.map conR),hldF a,slF (.slice Ab b.length Cb) 25 (b.map conR),hldF b]⟩ : St)) x.1) (fun x => (fun (i : Nat) => a.length - i) x.1) ⟨(0),Nat.zero_le _⟩ (kF 0 0 [0,1,5]) ?_
 rintro ⟨i,hi⟩
 try dsimp only
 try dsimp only at hi
 refine kS ?_
 refine kQ ?_
 refine kED [0,1,5,14] [(14,.v (.bool (decide ((i : Int) < ((a.length : Nat) : Int)))))] ?_
 refine kC (decide ((i : Int) < ((a.length : Nat) : Int))) (fun h2 => ?_) (fun h2 => ?_)
 have h2p := of_decide_eq_true h2
 have hlt : i < a.length := by simpa using h2
 obtain ⟨x0,hx⟩ : ∃ x,a[i]? = some x := ⟨_,List.getElem?_eq_getElem hlt⟩
 obtain ⟨x,xa,xc,rfl⟩ := cv_form (hh_aV x0 (List.mem_of_getElem? hx))
 obtain ⟨u,hu⟩ := pl_get hpl hx
 refine kK ?_
 refine kS ?_
 refine xw_block ?_
 refine kS ?_
 refine xws_start ?_
 refine xws_row (K := 25) (j := i) [.int .i64 x.t.ip,.int .i64 x.t.port,.int .i64 x.t.my,.int .i64 x.state,.int .i64 x.s.una,.string x.s.data,.int .i64 x.s.sent,.bool x.s.fin,.bool x.s.finSent,.bool x.s.done,.int .i64 x.r.next,.string x.r.data,.slice xa x.r.held.length xc,.int .i64 x.r.fin,.bool x.r.done,.int .i64 x.window,.int .i64 x.most,.int .i64 x.o.mss,.int .i64 x.o.scale,.bool x.o.sack,.bool x.o.stamp,.int .i64 x.o.val,.int .i64 x.o.echo,.int .i64 x.timer,.int .i64 x.tries] (slF (.slice Aa a.length Ca) 25 (a.map conR)) (fun _ _ h => h) (by simp) (fun w h => h) (fun b h => h) (by simp only [List.getElem?_map,hx]; rfl) (fun bq3 offq3 hAq3 => ?_)
 refine xws_row (K := 25) (j := i) [.int .i64 x.t.ip,.int .i64 x.t.port,.int .i64 x.t.my,.int .i64 x.state,.int .i64 x.s.una,.string x.s.data,.int .i64 x.s.sent,.bool x.s.fin,.bool x.s.finSent,.bool x.s.done,.int .i64 x.r.next,.string x.r.data,u,.int .i64 x.r.fin,.bool x.r.done,.int .i64 x.window,.int .i64 x.most,.int .i64 x.o.mss,.int .i64 x.o.scale,.bool x.o.sack,.bool x.o.stamp,.int .i64 x.o.val,.int .i64 x.o.echo,.int .i64 x.timer,.int .i64 x.tries] (slF (.slice Ab b.length Cb) 25 (b.map conR)) (fun _ _ h => h) (by simp) (fun w h => h) (fun b h => h) (by simp only [List.getElem?_map,hu]; rfl) (fun bq4 offq4 hAq4 => ?_)
 refine xws_regionE [] (by kernel_rfl) (fun ρ σ hq5 => ?_)
 refine kTD [0,1,4,5] [22,21,18,17,0,1,5] 6 [(22,.v (.int .i64 (i : Int))),(21,.v (.slice Ab b.length Cb)),(18,.v (.int .i64 (i : Int))),(17,.v (.slice Aa a.length Ca))] ?_
 refine xe_takeI (kd := .i64) (T := 30) (e := 68) (K := 25) (j := i) (A := Aa) (len := a.length) (cap := Ca) 2 0 _ rfl (by kernel_rfl) (by kernel_rfl) (by kernel_rfl) (fun _ _ h => h) (by kernel_rfl) rfl rfl (by kernel_rfl) (by kernel_rfl) (by kernel_rfl) (by kernel_rfl) hlt hAq3 hq5.1.2 (by kernel_rfl) rfl ?_
 refine kTD [3] [20,22,21,0,1,5] 4 [(20,.v (.agg (conL x (.slice xa x.r.held.length xc)).toArray))] ?_
 refine xe_takeI (kd := .i64) (T := 30) (e := 68) (K := 25) (j := i) (A := Ab) (len := b.length) (cap := Cb) 6 1 _ rfl (by kernel_rfl) (by kernel_rfl) (by kernel_rfl) (fun _ _ h => h) (by kernel_rfl) rfl rfl (by kernel_rfl) (by kernel_rfl) (by kernel_rfl) (by kernel_rfl) (by omega) hAq4 hq5.2 (by kernel_rfl) rfl ?_
 refine kTD [7] [24,20,0,1,5] 2 [(24,.v (.agg (conL x u).toArray))] ?_
 refine kA [8] ?_
 refine kSC 8 30 [.agg (conL x (.slice xa x.r.held.length xc)).toArray,.agg (conL x u).toArray] (some 25) rfl (xc_b fun ww hf => eqConn_c x.t.ip x.t.port x.t.my x.state x.s.una x.s.data x.s.sent x.s.fin x.s.finSent x.s.done x.r.next x.r.data x.r.held (.slice xa x.r.held.length xc) x.r.fin x.r.done x.window x.most x.o.mss x.o.scale x.o.sack x.o.stamp x.o.val x.o.echo x.timer x.tries u ww ((hf _ m1) (x,.slice xa x.r.held.length xc) (List.mem_of_getElem? hx)) ((hf _ m3) (x,u) (List.mem_of_getElem? hu))) ?_
 intro _
 refine kTD [9] [26,0,1,5] 0 [(26,.v (.bool false))] ?_
 refine kZ ?_
 refine kN ?_
 refine kK ?_
 refine kG ?_
 refine kRD 3 [0,1,5] [(5,.v (.int .i64 (IntKind.i64.wrap ((i : Int) + 1))))] ?_
 refine xl_nv [0,1,5] [(5,.v (.int .i64 (IntKind.i64.wrap ((i : Int) + 1))))] [(5,.v (.int .i64 ((i : Int) + 1)))] (by rw [show (IntKind.i64.wrap ((i : Int) + 1)) = ((i : Int) + 1) from wrap_id (by omega) (by omega)]) (by kernel_rfl) ?_
 refine kED [0,1,5] [] ?_
 exact ⟨⟨(i + 1),hlt⟩,kF 0 0 [0,1,5],by show (fun (i : Nat) => a.length - i) (i + 1) < a.length - i; (dsimp only; omega)⟩
 have h2p := of_decide_eq_false h2
 have hge : i = a.length := by simp at h2; omega
 refine xw_exit ?_
 refine kQ ?_
 refine kES [4] [(4,.v (.bool true))] ?_
 refine kR ?_
 exact ⟨[.bool true],by kernel_rfl,fun w' hb hf => ⟨rfl,hb⟩⟩
theorem yeqTable_c (a : List CV) (wt : List Tup) (pc : Value) (pw : Value) (b : List CV) (qc : Value) (qw : Value) (w : World) (hl_pc : Sl w pc 25 (a.map conR)) (hh_pc : ∀ x ∈ a, Sl w x.2 2 (x.1.r.held.map pceCells)) (hl_pw : Sl w pw 3 (wt.map tupCells)) (hl_qc : Sl w qc 25 (b.map conR)) (hh_qc : ∀ x ∈ b, Sl w x.2 2 (x.1.r.held.map pceCells)) (hl_qw : Sl w qw 3 (wt.map tupCells)) (hpl : pl a = pl b) : Calls Try.prog 15 #[.agg #[pc, pw], .agg #[qc, qw]] w fun e w' => e = .returned (.bool true) ∧ Below w.heap.size w w' := by
 obtain ⟨ra_pc,rc_pc,hv_pc⟩ := hl_pc.form
 rw [List.length_map] at hv_pc; subst hv_pc
 have hn_pc := hl_pc.len; rw [List.length_map] at hn_pc
 have hq_pc := Sl.capLe hl_pc
 obtain ⟨ra_pw,rc_pw,hv_pw⟩ := hl_pw.form
 rw [List.length_map] at hv_pw; subst hv_pw
 have hn_pw := hl_pw.len; rw [List.length_map] at hn_pw
 have hq_pw := Sl.capLe hl_pw
 obtain ⟨ra_qc,rc_qc,hv_qc⟩ := hl_qc.form
 rw [List.length_map] at hv_qc; subst hv_qc
 have hn_qc := hl_qc.len; rw [List.length_map] at hn_qc
 have hq_qc := Sl.capLe hl_qc
 obtain ⟨ra_qw,rc_qw,hv_qw⟩ := hl_qw.form
 rw [List.length_map] at hv_qw; subst hv_qw
 have hn_qw := hl_qw.len; rw [List.length_map] at hn_qw
 have hq_qw := Sl.capLe hl_qw
 refine x_calls (args := [.agg #[.slice ra_pc a.length rc_pc,.slice ra_pw wt.length rc_pw],.agg #[.slice ra_qc b.length rc_qc,.slice ra_qw wt.length rc_qw]]) (fn := Try.f15) [slF (.slice ra_pc a.length rc_pc) 25 (a.map conR),hldF a,slF (.slice ra_pw wt.length rc_pw) 3 (wt.map tupCells),slF (.slice ra_qc b.length rc_qc) 25 (b.map conR),hldF b,slF (.slice ra_qw wt.length rc_qw) 3 (wt.map tupCells)] Try.func15 rfl Try.ntmps15 rfl (by simp only [List.mem_cons,List.not_mem_nil,or_false,forall_eq_or_imp,forall_eq]; exact ⟨⟨rfl,hl_pc⟩,⟨rfl,hh_pc⟩,⟨rfl,hl_pw⟩,⟨rfl,hl_qc⟩,⟨rfl,hh_qc⟩,⟨rfl,hl_qw⟩⟩) ?_
 refine kQ ?_
 refine kEF [2,3] ⟨[(2,.p 0 0),(3,.p 1 0)],[⟨33,[.slice ra_pc a.length rc_pc,.slice ra_pw wt.length rc_pw]⟩,⟨33,[.slice ra_qc b.length rc_qc,.slice ra_qw wt.length rc_qw]⟩],[],[slF (.slice ra_pc a.length rc_pc) 25 (a.map conR),hldF a,slF (.slice ra_pw wt.length rc_pw) 3 (wt.map tupCells),slF (.slice ra_qc b.length rc_qc) 25 (b.map conR),hldF b,slF (.slice ra_qw wt.length rc_qw) 3 (wt.map tupCells)]⟩ ?_
 refine kS ?_
 refine kQ ?_
 refine kCD 4 [2,3,6,8] [(6,.v (.slice ra_pc a.length rc_pc)),(8,.v (.slice ra_qc b.length rc_qc))] 42 [.slice ra_pc a.length rc_pc,.slice ra_qc b.length rc_qc] (some 9) rfl (xc_b fun ww hf => yeqConnS_c a (.slice ra_pc a.length rc_pc) b (.slice ra_qc b.length rc_qc) ww (hf _ m0) (hf _ m1) (hf _ m3) (hf _ m4) (by first | assumption | (simp only [*]; done))) ?_
 intro _
 refine kED [2,3,10] [(10,.v (.bool false))] ?_
 refine kN ?_
 refine kK ?_
 refine kS ?_
 refine kQ ?_
 refine kCS 4 [12,14] [(12,.v (.slice ra_pw wt.length rc_pw)),(14,.v (.slice ra_qw wt.length rc_qw))] 43 [.slice ra_pw wt.length rc_pw,.slice ra_qw wt.length rc_qw] (some 15) rfl (xc_b fun ww hf => eqTupleS_c (.slice ra_pw wt.length rc_pw) (.slice ra_qw wt.length rc_qw) wt ww (hf _ m2) (hf _ m5)) ?_
 intro _
 refine kES [16] [(16,.v (.bool false))] ?_
 refine kN ?_
 refine kK ?_
 refine kQ ?_
 refine kES [4] [(4,.v (.bool true))] ?_
 refine kR ?_
 exact ⟨[.bool true],by kernel_rfl,fun w' hb hf => ⟨rfl,hb⟩⟩
theorem ytoLimits_c (l : Lim) (w : World)  : Calls Try.prog 19 #[.agg (limL l).toArray] w fun e w' => e = .returned (.agg (limL l).toArray) ∧ Below w.heap.size w w' := by
 refine x_calls (args := [.agg (limL l).toArray]) (fn := Try.f19) [] Try.func19 rfl Try.ntmps19 rfl (by simp) ?_
 refine kQ ?_
 refine kEF [1,2] ⟨[(1,.p 0 0),(2,.p 1 0)],[⟨41,limL l⟩,⟨43,[.int .i64 0,.int .i64 0,.int .i64 0,.int .i64 0]⟩],[],[]⟩ ?_
 refine kQ ?_
 refine kEF [1,2,3] ⟨[(1,.p 0 0),(2,.p 1 0),(3,.p 2 0)],[⟨41,limL l⟩,⟨43,[.int .i64 0,.int .i64 0,.int .i64 0,.int .i64 0]⟩,⟨43,[.int .i64 0,.int .i64 0,.int .i64 0,.int .i64 0]⟩],[],[]⟩ ?_
 refine kQ ?_
 refine kEF [1,2,3] ⟨[(1,.p 0 0),(2,.p 1 0),(3,.p 2 0)],[⟨41,limL l⟩,⟨43,[.int .i64 0,.int .i64 0,.int .i64 0,.int .i64 0]⟩,⟨43,[.int .i64 l.halves,.int .i64 0,.int .i64 0,.int .i64 0]⟩],[],[]⟩ ?_
 refine kQ ?_
 refine kEF [1,2,3] ⟨[(1,.p 0 0),(2,.p 1 0),(3,.p 2 0)],[⟨41,limL l⟩,⟨43,[.int .i64 0,.int .i64 0,.int .i64 0,.int .i64 0]⟩,⟨43,limL { l with conns := 0,chal := 0 }⟩],[],[]⟩ ?_
 refine kQ ?_
 refine kEF [1,2,3] ⟨[(1,.p 0 0),(2,.p 1 0),(3,.p 2 0)],[⟨41,limL l⟩,⟨43,[.int .i64 0,.int .i64 0,.int .i64 0,.int .i64 0]⟩,⟨43,limL { l with chal := 0 }⟩],[],[]⟩ ?_
 refine kQ ?_
 refine kEF [2,3] ⟨[(2,.p 1 0),(3,.p 2 0)],[⟨41,limL l⟩,⟨43,[.int .i64 0,.int .i64 0,.int .i64 0,.int .i64 0]⟩,⟨43,limL l⟩],[],[]⟩ ?_
 refine kQ ?_
 refine kEF [2] ⟨[(2,.p 1 0)],[⟨41,limL l⟩,⟨43,limL l⟩,⟨43,limL l⟩],[],[]⟩ ?_
 refine kR ?_
 exact ⟨[.agg (limL l).toArray],by kernel_rfl,fun w' hb hf => ⟨rfl,hb⟩⟩
theorem yClonePiece_c (a : List Pce) (aV : Value) (w : World) (hl_aV : Sl w aV 2 (a.map pceCells)) (hkn : a.length ≤ 1048576) (B : Nat) (hB : B ≤ w.heap.size) : Calls Try.prog 106 #[aV] w fun e w' => XRs w w' e (α := Option Addr × Nat) (fun y => .slice y.1 a.length y.2) (fun y => [ownF B (.slice y.1 a.length y.2) 2 (a.map pceCells)]) := by
 obtain ⟨Aa,Ca,hva⟩ := hl_aV.form
 rw [List.length_map] at hva; subst hva
 have hna := hl_aV.len; rw [List.length_map] at hna
 have hqa := Sl.capLe hl_aV
 have hnil := fun h => Sl.nil_of h hl_aV
 refine x_callsA (args := [.slice Aa a.length Ca]) (fn := Try.f106) [slF (.slice Aa a.length Ca) 2 (a.map pceCells)] Try.func106 rfl Try.ntmps106 rfl (by simp only [List.mem_cons,List.not_mem_nil,or_false,forall_eq_or_imp,forall_eq]; exact ⟨rfl,hl_aV⟩) ?_
 refine kQ ?_
 refine kEF [0] ⟨[(0,.v (.slice Aa a.length Ca))],[],[],[slF (.slice Aa a.length Ca) 2 (a.map pceCells)]⟩ ?_
 refine kS ?_
 refine kQ ?_
 refine kOS 1 [0,3] [(0,.v (.slice Aa a.length Ca)),(3,.v (.slice Aa a.length Ca))] (.bool Aa.isNone) rfl (fun _ _ _ ww hr => act_nilEq (e := 118) hr.1 rfl (by kernel_rfl) rfl rfl ww) ?_
 refine kES [0,4] [(0,.v (.slice Aa a.length Ca)),(4,.v (.bool Aa.isNone))] ?_
 refine kC (Aa.isNone) (fun h1 => ?_) (fun h1 => ?_)
 refine kQ ?_
 refine kES [2] [(2,.v (.slice none 0 0))] ?_
 refine kR ?_
 have hmod : a = [] := by exact hnil (by assumption)
 exact ⟨[.slice none 0 0],by kernel_rfl,fun w' hb hf ha => by rw [hmod]; exact xo1 ((none,0)) rfl rfl ⟨.inl ⟨rfl,_,rfl⟩,fun b hb => (hb.1 rfl).elim⟩ hb⟩
 refine kK ?_
 refine kQ ?_
 refine kHS 0 [0] [(0,.v (.slice Aa a.length Ca))] rfl (hv_bK (e := 118) (K := 2) (bytes := 24) [] (rs := ([] : List Pce).map pceCells) rfl rfl) ?_
 intro g2
 refine kHS 1 [5,6] [(5,.v (.slice (some ⟨g2,0,none⟩) 0 0)),(6,.v (.slice Aa a.length Ca))] rfl (hv_append (e := 118) (K := 2) (bytes := 24) (i := 0) (q := a.length) (new := a.map pceCells) (rs' := a.map pceCells) rfl rfl rfl rfl (by kernel_rfl) (by kernel_rfl) (by kernel_rfl) rfl (by simp) rfl (by simp) (fun ww hf => (hf (slF (.slice Aa a.length Ca) 2 (a.map pceCells)) (by simp))) (by intro r hr; obtain ⟨x,hx,rfl⟩ := List.mem_map.1 hr; exact ⟨rfl,by simp [pceCells,Value.oneCell']⟩) (by (try simp only [List.length_map,List.length_append,List.length_cons,List.length_nil,List.length_take,List.length_drop,maxLen]); omega) (by (try simp only [List.length_map,List.length_append,List.length_cons,List.length_nil,List.length_take,List.length_drop,maxLen]); omega)) ?_
 rintro ⟨v3a,v3c⟩
 refine kES [2] [(2,.v (.slice v3a a.length v3c))] ?_
 refine kR ?_
 exact ⟨[.slice v3a a.length v3c],by kernel_rfl,fun w' hb hf ha => by exact xo1 ((v3a,v3c)) rfl rfl (pR (hf _ m0) hB) hb⟩
theorem yl18Copy_c (r : Rcv) (r_heldV : Value) (w : World) (hl_r_heldV : Sl w r_heldV 2 (r.held.map pceCells)) (hkn : r.held.length ≤ 1048576) (B : Nat) (hB : B ≤ w.heap.size) : Calls Try.prog 94 #[.agg (rcvL r r_heldV).toArray] w fun e w' => XRs w w' e (α := Option Addr × Nat) (fun y => .agg (rcvL r (.slice y.1 r.held.length y.2)).toArray) (fun y => [rowF B 118 2 (.slice y.1 r.held.length y.2) (r.held.map pceCells)]) := by
 obtain ⟨Arh,Crh,hvrh⟩ := hl_r_heldV.form
 rw [List.length_map] at hvrh; subst hvrh
 have hnrh := hl_r_heldV.len; rw [List.length_map] at hnrh
 have hqrh := Sl.capLe hl_r_heldV
 refine x_callsA (args := [.agg (rcvL r (.slice Arh r.held.length Crh)).toArray]) (fn := Try.f94) [slF (.slice Arh r.held.length Crh) 2 (r.held.map pceCells)] Try.func94 rfl Try.ntmps94 rfl (by simp only [List.mem_cons,List.not_mem_nil,or_false,forall_eq_or_imp,forall_eq]; exact ⟨rfl,hl_r_heldV⟩) ?_
 refine kQ ?_
 refine kEF [1,2] ⟨[(1,.p 0 0),(2,.p 1 0)],[⟨65,rcvL r (.slice Arh r.held.length Crh)⟩,⟨65,rcvZ⟩],[],[slF (.slice Arh r.held.length Crh) 2 (r.held.map pceCells)]⟩ ?_
 refine kQ ?_
 refine kHS 0 [1,2] [(1,.p 0 0),(2,.p 1 0)] rfl (hv_bK (e := 118) (K := 2) (bytes := 24) [] (rs := ([] : List Pce).map pceCells) rfl rfl) ?_
 intro g1
 refine kHS 2 [1,2,3,5] [(1,.p 0 0),(2,.p 1 0),(3,.v (.slice (some ⟨g1,0,none⟩) 0 0)),(5,.v (.slice Arh r.held.length Crh))] rfl (hv_append (e := 118) (K := 2) (bytes := 24) (i := 0) (q := r.held.length) (new := r.held.map pceCells) (rs' := r.held.map pceCells) rfl rfl rfl rfl (by kernel_rfl) (by kernel_rfl) (by kernel_rfl) rfl (by simp) rfl (by simp) (fun ww hf => (hf (slF (.slice Arh r.held.length Crh) 2 (r.held.map pceCells)) (by simp))) (by intro r hr; obtain ⟨x,hx,rfl⟩ := List.mem_map.1 hr; exact ⟨rfl,by simp [pceCells,Value.oneCell']⟩) (by (try simp only [List.length_map,List.length_append,List.length_cons,List.length_nil,List.length_take,List.length_drop,maxLen]); omega) (by (try simp only [List.length_map,List.length_append,List.length_cons,List.length_nil,List.length_take,List.length_drop,maxLen]); omega)) ?_
 rintro ⟨v2a,v2c⟩
 refine kEF [1,2] ⟨[(1,.p 0 0),(2,.p 1 0)],[⟨65,rcvL r (.slice v2a r.held.length v2c)⟩,⟨65,rcvZ⟩],[],[rowF w.heap.size 118 2 (.slice v2a r.held.length v2c) (r.held.map pceCells),slF (.slice Arh r.held.length Crh) 2 (r.held.map pceCells)]⟩ ?_
 refine kQ ?_
 refine kEF [2] ⟨[(2,.p 1 0)],[⟨65,rcvL r (.slice v2a r.held.length v2c)⟩,⟨65,rcvL r (.slice v2a r.held.length v2c)⟩],[],[rowF w.heap.size 118 2 (.slice v2a r.held.length v2c) (r.held.map pceCells),slF (.slice Arh r.held.length Crh) 2 (r.held.map pceCells)]⟩ ?_
 refine kR ?_
 exact ⟨[.agg (rcvL r (.slice v2a r.held.length v2c)).toArray],by kernel_rfl,fun w' hb hf ha => by exact xo1 ((v2a,v2c)) rfl rfl (pW (hf _ m0) hB) hb⟩
theorem ycloneReceiver_c (r : Rcv) (r_heldV : Value) (w : World) (hl_r_heldV : Sl w r_heldV 2 (r.held.map pceCells)) (hkn : r.held.length ≤ 1048576) (B : Nat) (hB : B ≤ w.heap.size) : Calls Try.prog 96 #[.agg (rcvL r r_heldV).toArray] w fun e w' => XRs w w' e (α := Option Addr × Nat) (fun y => .agg (rcvL r (.slice y.1 r.held.length y.2)).toArray) (fun y => [ownF B (.slice y.1 r.held.length y.2) 2 (r.held.map pceCells)]) := by
 obtain ⟨Arh,Crh,hvrh⟩ := hl_r_heldV.form
 rw [List.length_map] at hvrh; subst hvrh
 have hnrh := hl_r_heldV.len; rw [List.length_map] at hnrh
 have hqrh := Sl.capLe hl_r_heldV
 refine x_callsA (args := [.agg (rcvL r (.slice Arh r.held.length Crh)).toArray]) (fn := Try.f96) [slF (.slice Arh r.held.length Crh) 2 (r.held.map pceCells)] Try.func96 rfl Try.ntmps96 rfl (by simp only [List.mem_cons,List.not_mem_nil,or_false,forall_eq_or_imp,forall_eq]; exact ⟨rfl,hl_r_heldV⟩) ?_
 refine kQ ?_
 refine kEF [1,2] ⟨[(1,.p 0 0),(2,.p 1 0)],[⟨65,rcvL r (.slice Arh r.held.length Crh)⟩,⟨65,rcvZ⟩],[],[slF (.slice Arh r.held.length Crh) 2 (r.held.map pceCells)]⟩ ?_
 refine kQ ?_
 refine kCS 2 [1,2,4] [(1,.p 0 0),(2,.p 1 0),(4,.v (.slice Arh r.held.length Crh))] 106 [.slice Arh r.held.length Crh] (some 5) rfl (xc_r fun ww hw hf => yClonePiece_c r.held (.slice Arh r.held.length Crh) ww (hf _ m0) (by assumption) w.heap.size hw) ?_
 rintro ⟨v1a,v1c⟩
 refine kEF [1,2] ⟨[(1,.p 0 0),(2,.p 1 0)],[⟨65,rcvL r (.slice v1a r.held.length v1c)⟩,⟨65,rcvZ⟩],[],[ownF w.heap.size (.slice v1a r.held.length v1c) 2 (r.held.map pceCells),slF (.slice Arh r.held.length Crh) 2 (r.held.map pceCells)]⟩ ?_
 refine kQ ?_
 refine kEF [2] ⟨[(2,.p 1 0)],[⟨65,rcvL r (.slice v1a r.held.length v1c)⟩,⟨65,rcvL r (.slice v1a r.held.length v1c)⟩],[],[ownF w.heap.size (.slice v1a r.held.length v1c) 2 (r.held.map pceCells),slF (.slice Arh r.held.length Crh) 2 (r.held.map pceCells)]⟩ ?_
 refine kR ?_
 exact ⟨[.agg (rcvL r (.slice v1a r.held.length v1c)).toArray],by kernel_rfl,fun w' hb hf ha => by exact xo1 ((v1a,v1c)) rfl rfl (pO (hf _ m0) hB) hb⟩
theorem yl19Copy_c (c : Con) (c_r_heldV : Value) (w : World) (hl_c_r_heldV : Sl w c_r_heldV 2 (c.r.held.map pceCells)) (hkn : c.r.held.length ≤ 1048576) (B : Nat) (hB : B ≤ w.heap.size) : Calls Try.prog 62 #[.agg (conL c c_r_heldV).toArray] w fun e w' => XRs w w' e (α := Option Addr × Nat) (fun y => .agg (conL c (.slice y.1 c.r.held.length y.2)).toArray) (fun y => [ownF B (.slice y.1 c.r.held.length y.2) 2 (c.r.held.map pceCells)]) := by
 obtain ⟨Acrh,Ccrh,hvcrh⟩ := hl_c_r_heldV.form
 rw [List.length_map] at hvcrh; subst hvcrh
 have hncrh := hl_c_r_heldV.len; rw [List.length_map] at hncrh
 have hqcrh := Sl.capLe hl_c_r_heldV
 refine x_callsA (args := [.agg (conL c (.slice Acrh c.r.held.length Ccrh)).toArray]) (fn := Try.f62) [slF (.slice Acrh c.r.held.length Ccrh) 2 (c.r.held.map pceCells)] Try.func62 rfl Try.ntmps62 rfl (by simp only [List.mem_cons,List.not_mem_nil,or_false,forall_eq_or_imp,forall_eq]; exact ⟨rfl,hl_c_r_heldV⟩) ?_
 refine kQ ?_
 refine kEF [1,2] ⟨[(1,.p 0 0),(2,.p 1 0)],[⟨68,conL c (.slice Acrh c.r.held.length Ccrh)⟩,⟨68,conZ⟩],[],[slF (.slice Acrh c.r.held.length Ccrh) 2 (c.r.held.map pceCells)]⟩ ?_
 refine kQ ?_
 refine kCS 2 [1,2,4] [(1,.p 0 0),(2,.p 1 0),(4,.v (.agg (rcvL c.r (.slice Acrh c.r.held.length Ccrh)).toArray))] 94 [.agg (rcvL c.r (.slice Acrh c.r.held.length Ccrh)).toArray] (some 5) rfl (xc_r fun ww hw hf => yl18Copy_c c.r (.slice Acrh c.r.held.length Ccrh) ww (hf _ m0) (by assumption) w.heap.size hw) ?_
 rintro ⟨v1a,v1c⟩
 refine kEF [1,2] ⟨[(1,.p 0 0),(2,.p 1 0)],[⟨68,conL c (.slice v1a c.r.held.length v1c)⟩,⟨68,conZ⟩],[],[rowF w.heap.size 118 2 (.slice v1a c.r.held.length v1c) (c.r.held.map pceCells),slF (.slice Acrh c.r.held.length Ccrh) 2 (c.r.held.map pceCells)]⟩ ?_
 refine kQ ?_
 refine kEF [2] ⟨[(2,.p 1 0)],[⟨68,conL c (.slice v1a c.r.held.length v1c)⟩,⟨68,conL c (.slice v1a c.r.held.length v1c)⟩],[],[rowF w.heap.size 118 2 (.slice v1a c.r.held.length v1c) (c.r.held.map pceCells),slF (.slice Acrh c.r.held.length Ccrh) 2 (c.r.held.map pceCells)]⟩ ?_
 refine kR ?_
 exact ⟨[.agg (conL c (.slice v1a c.r.held.length v1c)).toArray],by kernel_rfl,fun w' hb hf ha => by exact xo1 ((v1a,v1c)) rfl rfl (pR (hf _ m0) hB) hb⟩
theorem ycloneConn_c (c : Con) (c_r_heldV : Value) (w : World) (hl_c_r_heldV : Sl w c_r_heldV 2 (c.r.held.map pceCells)) (hkn : c.r.held.length ≤ 1048576) (B : Nat) (hB : B ≤ w.heap.size) : Calls Try.prog 66 #[.agg (conL c c_r_heldV).toArray] w fun e w' => XRs w w' e (α := Option Addr × Nat) (fun y => .agg (conL c (.slice y.1 c.r.held.length y.2)).toArray) (fun y => [ownF B (.slice y.1 c.r.held.length y.2) 2 (c.r.held.map pceCells)]) := by
 obtain ⟨Acrh,Ccrh,hvcrh⟩ := hl_c_r_heldV.form
 rw [List.length_map] at hvcrh; subst hvcrh
 have hncrh := hl_c_r_heldV.len; rw [List.length_map] at hncrh
 have hqcrh := Sl.capLe hl_c_r_heldV
 refine x_callsA (args := [.agg (conL c (.slice Acrh c.r.held.length Ccrh)).toArray]) (fn := Try.f66) [slF (.slice Acrh c.r.held.length Ccrh) 2 (c.r.held.map pceCells)] Try.func66 rfl Try.ntmps66 rfl (by simp only [List.mem_cons,List.not_mem_nil,or_false,forall_eq_or_imp,forall_eq]; exact ⟨rfl,hl_c_r_heldV⟩) ?_
 refine kQ ?_
 refine kEF [1,2] ⟨[(1,.p 0 0),(2,.p 1 0)],[⟨68,conL c (.slice Acrh c.r.held.length Ccrh)⟩,⟨68,conZ⟩],[],[slF (.slice Acrh c.r.held.length Ccrh) 2 (c.r.held.map pceCells)]⟩ ?_
 refine kQ ?_
 refine kCS 2 [1,2,4] [(1,.p 0 0),(2,.p 1 0),(4,.v (.agg (rcvL c.r (.slice Acrh c.r.held.length Ccrh)).toArray))] 96 [.agg (rcvL c.r (.slice Acrh c.r.held.length Ccrh)).toArray] (some 5) rfl (xc_r fun ww hw hf => ycloneReceiver_c c.r (.slice Acrh c.r.held.length Ccrh) ww (hf _ m0) (by assumption) w.heap.size hw) ?_
 rintro ⟨v1a,v1c⟩
 refine kEF [1,2] ⟨[(1,.p 0 0),(2,.p 1 0)],[⟨68,conL c (.slice v1a c.r.held.length v1c)⟩,⟨68,conZ⟩],[],[ownF w.heap.size (.slice v1a c.r.held.length v1c) 2 (c.r.held.map pceCells),slF (.slice Acrh c.r.held.length Ccrh) 2 (c.r.held.map pceCells)]⟩ ?_
 refine kQ ?_
 refine kEF [2] ⟨[(2,.p 1 0)],[⟨68,conL c (.slice v1a c.r.held.length v1c)⟩,⟨68,conL c (.slice v1a c.r.held.length v1c)⟩],[],[ownF w.heap.size (.slice v1a c.r.held.length v1c) 2 (c.r.held.map pceCells),slF (.slice Acrh c.r.held.length Ccrh) 2 (c.r.held.map pceCells)]⟩ ?_
 refine kR ?_
 exact ⟨[.agg (conL c (.slice v1a c.r.held.length v1c)).toArray],by kernel_rfl,fun w' hb hf ha => by exact xo1 ((v1a,v1c)) rfl rfl (pO (hf _ m0) hB) hb⟩
theorem ymarkText_c (k : Int) (w : World) (hk : k ≤ 4611686018427387904) : Calls Try.prog 90 #[.int .i64 k] w fun e w' => e = .returned (.string (markText k)) ∧ Below w.heap.size w w' := by
 refine x_calls (args := [.int .i64 k]) (fn := Try.f90) [] Try.func90 rfl Try.ntmps90 rfl (by simp) ?_
 refine kQ ?_
 refine kEF [0] ⟨[(0,.v (.int .i64 k))],[],[],[]⟩ ?_
 refine kS ?_
 refine kQ ?_
 refine kES [0,5] [(0,.v (.int .i64 k)),(5,.v (.bool (decide (k ≤ 0))))] ?_
 refine kC (decide (k ≤ 0)) (fun h1 => ?_) (fun h1 => ?_)
 have h1p := of_decide_eq_true h1
 refine kQ ?_
 refine kES [2] [(2,.v (.string (⟨#[109,48]⟩ : ByteArray)))] ?_
 refine kR ?_
 have hmod : markText k = (⟨#[109,48]⟩ : ByteArray) := by first | rfl | (simp [markText, *]; done) | (rw [markText,if_neg (by omega),hE])
 exact ⟨[.string (⟨#[109,48]⟩ : ByteArray)],by kernel_rfl,fun w' hb hf => by rw [hmod]; exact ⟨rfl,hb⟩⟩
 have h1p := of_decide_eq_false h1
 refine kK ?_
 refine kQ ?_
 refine kES [0,3] [(0,.v (.int .i64 k)),(3,.v (.string (⟨#[]⟩ : ByteArray)))] ?_
 refine kS ?_
 refine xw_block ?_
 refine xw_loopW (α := {x : Int × ByteArray // (fun (z : Int) (out : ByteArray) => markLoop k (⟨#[]⟩ : ByteArray) = markLoop z out ∧ out.size + z.toNat ≤ k.toNat) x.1 x.2}) (fun x => (fun (z : Int) (out : ByteArray) => (⟨[(0,.v (.int .i64 z)),(3,.v (.string out))],[],[],[]⟩ : St)) x.1.1 x.1.2) (fun x => (fun (z : Int) (out : ByteArray) => z.toNat) x.1.1 x.1.2) ⟨(k,(⟨#[]⟩ : ByteArray)),⟨rfl,Nat.le_of_eq (Nat.zero_add _)⟩⟩ (kF 0 0 [0,3]) ?_
 rintro ⟨⟨z,out⟩,HK,hR⟩
 try dsimp only
 try dsimp only at HK hR
 refine kS ?_
 refine kQ ?_
 refine kES [0,3,7] [(0,.v (.int .i64 z)),(3,.v (.string out)),(7,.v (.bool (decide (z > 0))))] ?_
 refine kC (decide (z > 0)) (fun h2 => ?_) (fun h2 => ?_)
 have h2p := of_decide_eq_true h2
 have hz : 0 < z := by simpa using h2
 refine kK ?_
 refine xw_block ?_
 refine kQ ?_
 refine kOS 1 [0,3,8] [(0,.v (.int .i64 z)),(3,.v (.string out)),(8,.v (.int .i64 z))] (.int .i64 (Int.tmod z 10)) rfl (fun _ _ _ ww hr => act_bin hr.1 rfl (by kernel_rfl) (by kernel_rfl) (rem_run (by first | decide | omega) ww)) ?_
 refine kHS 2 [0,3,11] [(0,.v (.int .i64 z)),(3,.v (.string out)),(11,.v (.int .u8 (IntKind.u8.wrap (IntKind.i64.wrap (48 + (Int.tmod z 10))))))] rfl (hv_bK (e := 5) (K := 1) (bytes := 1) [.int .u8 (IntKind.u8.wrap (IntKind.i64.wrap (48 + (Int.tmod z 10))))] (rs := ([IntKind.u8.wrap (IntKind.i64.wrap (48 + (Int.tmod z 10)))] : List Int).map byteRow) rfl rfl) ?_
 intro g3
 refine kOS 0 [0,3,12] [(0,.v (.int .i64 z)),(3,.v (.string out)),(12,.v (.slice (some ⟨g3,0,none⟩) 1 1))] (.string (bstr ([IntKind.u8.wrap (IntKind.i64.wrap (48 + (Int.tmod z 10)))] : List Int))) rfl (fun _ _ _ ww hr => act_b2s (e := 5) ([IntKind.u8.wrap (IntKind.i64.wrap (48 + (Int.tmod z 10)))] : List Int) hr.1 rfl (by kernel_rfl) (by kernel_rfl) (by kernel_rfl) rfl (rowF_sl (hr.2.fact (rowF w.heap.size 5 1 (.slice (some ⟨g3,0,none⟩) 1 1) (([IntKind.u8.wrap (IntKind.i64.wrap (48 + (Int.tmod z 10)))] : List Int).map byteRow)) (by simp)).1)) ?_
 refine kOS 1 [0,3,13,14] [(0,.v (.int .i64 z)),(3,.v (.string out)),(13,.v (.string (bstr ([IntKind.u8.wrap (IntKind.i64.wrap (48 + (Int.tmod z 10)))] : List Int)))),(14,.v (.string out))] (.string ((bstr ([IntKind.u8.wrap (IntKind.i64.wrap (48 + (Int.tmod z 10)))] : List Int)) ++ out)) rfl (fun _ _ _ ww hr => act_bin hr.1 rfl (by kernel_rfl) (by kernel_rfl) (str_add (mark_sz hz hR hk) ww)) ?_
 refine kRS 1 [0,3] [(0,.v (.int .i64 z)),(3,.v (.string ((bstr ([IntKind.u8.wrap (IntKind.i64.wrap (48 + (Int.tmod z 10)))] : List Int)) ++ out)))] ?_
 refine xl_eq (st' := ⟨[(0,.v (.int .i64 z)),(3,.v (.string ((bstr ([IntKind.u8.wrap (48 + z.tmod 10)] : List Int)) ++ out)))],[],[],[rowF w.heap.size 5 1 (.slice (some ⟨g3,0,none⟩) 1 1) (([IntKind.u8.wrap (48 + z.tmod 10)] : List Int).map byteRow)]⟩) (by rw [show (IntKind.i64.wrap (48 + (Int.tmod z 10))) = (48 + z.tmod 10) from wrap_tmod hz] <;> rfl) ?_
 refine kES [0,3] [(0,.v (.int .i64 z)),(3,.v (.string ((bstr ([IntKind.u8.wrap (48 + z.tmod 10)] : List Int)) ++ out)))] ?_
 refine kG ?_
 refine kOS 1 [0,3,16] [(0,.v (.int .i64 z)),(3,.v (.string ((bstr ([IntKind.u8.wrap (48 + z.tmod 10)] : List Int)) ++ out))),(16,.v (.int .i64 z))] (.int .i64 (IntKind.i64.wrap (Int.tdiv z 10))) rfl (fun _ _ _ ww hr => act_bin hr.1 rfl (by kernel_rfl) (by kernel_rfl) (quo_run (by decide) ww)) ?_
 refine kRS 1 [0,3] [(0,.v (.int .i64 (IntKind.i64.wrap (Int.tdiv z 10)))),(3,.v (.string ((bstr ([IntKind.u8.wrap (48 + z.tmod 10)] : List Int)) ++ out)))] ?_
 refine xl_eqS (t' := [(0,.v (.int .i64 (z.tdiv 10))),(3,.v (.string ((bstr ([IntKind.u8.wrap (48 + z.tmod 10)] : List Int)) ++ out)))]) (by rw [show (IntKind.i64.wrap (Int.tdiv z 10)) = (z.tdiv 10) from wrap_tdiv hz hR hk]) ?_
 refine kES [0,3] [(0,.v (.int .i64 (z.tdiv 10))),(3,.v (.string ((bstr ([IntKind.u8.wrap (48 + z.tmod 10)] : List Int)) ++ out)))] ?_
 exact ⟨⟨(z.tdiv 10,bstr [IntKind.u8.wrap (48 + z.tmod 10)] ++ out),⟨markLoop_step hz HK,mark_room hz hR⟩⟩,kPk [] <| kF 0 0 [0,3],by show (fun (z : Int) (out : ByteArray) => z.toNat) (z.tdiv 10) (bstr [IntKind.u8.wrap (48 + z.tmod 10)] ++ out) < z.toNat; exact mark_dec hz⟩
 have h2p := of_decide_eq_false h2
 have hz : ¬ 0 < z := by simpa using h2
 have hE := markLoop_end hz HK
 refine xw_exit ?_
 refine kQ ?_
 refine kOS 1 [18] [(18,.v (.string out))] (.string ((⟨#[109]⟩ : ByteArray) ++ out)) rfl (fun _ _ _ ww hr => act_bin hr.1 rfl (by kernel_rfl) (by kernel_rfl) (str_add (mark_sz0 hR hk) ww)) ?_
 refine kES [2] [(2,.v (.string ((⟨#[109]⟩ : ByteArray) ++ out)))] ?_
 refine kR ?_
 have hmod : markText k = ((⟨#[109]⟩ : ByteArray) ++ out) := by first | rfl | (simp [markText, *]; done) | (rw [markText,if_neg (by omega),hE])
 exact ⟨[.string ((⟨#[109]⟩ : ByteArray) ++ out)],by kernel_rfl,fun w' hb hf => by rw [hmod]; exact ⟨rfl,hb⟩⟩
theorem ymarkPieceS_c (v : Value) (l : List Pce) (k : Int) (w : World) (B : Nat) (hB : B ≤ w.heap.size) (h : Own w B v 2 (l.map pceCells)) (hk0 : 0 ≤ k) (hk : k ≤ 4503599627370496) (hl : l.length ≤ 1048576) : Calls Try.prog 91 #[v, .int .i64 k] w fun e w' => e = .returned (.int .i64 (k + 2 * (l.length : Int))) ∧ Own w' B v 2 ((marks mkP 2 k l.length).map pceCells) ∧ Chgd (ownF B v 2 (l.map pceCells)).blk w w' := by
 obtain ⟨A,cap,hv⟩ := h.form
 rw [List.length_map] at hv; subst hv
 refine x_callsM (args := [.slice A l.length cap,.int .i64 k]) (fn := Try.f91) [ownF B (.slice A l.length cap) 2 (l.map pceCells),frF w (ownF B (.slice A l.length cap) 2 (l.map pceCells)).blk] B Try.func91 rfl Try.ntmps91 rfl hB (by simp only [List.mem_cons,List.not_mem_nil,or_false,forall_eq_or_imp,forall_eq]; exact ⟨h,frF_start w _⟩) apart_fr ?_
 refine kQ ?_
 refine kEF [0,1] ⟨[(0,.v (.slice A l.length cap)),(1,.v (.int .i64 k))],[],[],[ownF B (.slice A l.length cap) 2 (l.map pceCells),frF w (ownF B (.slice A l.length cap) 2 (l.map pceCells)).blk]⟩ ?_
 refine kS ?_
 refine kQ ?_
 refine kES [0,1,5] [(0,.v (.slice A l.length cap)),(1,.v (.int .i64 k)),(5,.v (.int .i64 0))] ?_
 refine xw_block ?_
 have e0 : k + 2 * ((0 : Nat) : Int) = k := by omega
 refine xw_eq (st' := ⟨[(0,.v (.slice A l.length cap)),(1,.v (.int .i64 (k + 2 * ((0 : Nat) : Int)))),(5,.v (.int .i64 0))],[],[],[ownF B (.slice A l.length cap) 2 (l.map pceCells),frF w (ownF B (.slice A l.length cap) 2 (l.map pceCells)).blk]⟩) (by rw [e0]) ?_
 refine xw_loopW (α := {x : Nat // (fun (i : Nat) => i ≤ l.length) x}) (fun x => (fun (i : Nat) => (⟨[(0,.v (.slice A l.length cap)),(1,.v (.int .i64 (k + 2 * (i : Int)))),(5,.v (.int .i64 (i : Int)))],[],[],[ownF B (.slice A l.length cap) 2 ((marks mkP 2 k i ++ l.drop i).map pceCells),frF w (ownF B (.slice A l.length cap) 2 (l.map pceCells)).blk]⟩ : St)) x.1) (fun x => (fun (i : Nat) => l.length - i) x.1) ⟨(0),Nat.zero_le _⟩ (kF 0 0 [0,1,5]) ?_
 rintro ⟨i,hi⟩
 try dsimp only
 try dsimp only at hi
 refine kS ?_
 refine kQ ?_
 refine kES [0,1,5,9] [(0,.v (.slice A l.length cap)),(1,.v (.int .i64 (k + 2 * (i : Int)))),(5,.v (.int .i64 (i : Int))),(9,.v (.bool (decide ((i : Int) < ((l.length : Nat) : Int)))))] ?_
 refine kC (decide ((i : Int) < ((l.length : Nat) : Int))) (fun h1 => ?_) (fun h1 => ?_)
 have h1p := of_decide_eq_true h1
 have hlt : i < l.length := by simpa using h1
 obtain ⟨b,hb⟩ : ∃ b,b = k + 2 * (i : Int) := ⟨_,rfl⟩
 rw [← hb]
 obtain ⟨x,hx⟩ : ∃ x,l[i]? = some x := ⟨_,List.getElem?_eq_getElem hlt⟩
 refine xw_fact0 (g := ownF B (.slice A l.length cap) 2 (((marks mkP 2 k i ++ l.drop i).map pceCells).set i [.int .i64 x.off,.string x.text])) (congrArg (fun z => ownF B (.slice A l.length cap) 2 z) (mark_same (f := pceCells) (mk := mkP) (c := 2) (k := k) hx)) ?_
 refine kK ?_
 refine kS ?_
 refine xw_block ?_
 refine kQ ?_
 refine xl_elem (kd := .i64) (T := 63) (e := 118) (K := 2) (A := A) (len := l.length) (cap := cap) (rs := (((marks mkP 2 k i ++ l.drop i).map pceCells).set i [.int .i64 x.off,.string x.text])) 3 [0,1,5,12,13,14] ⟨[(0,.v (.slice A l.length cap)),(1,.v (.int .i64 b)),(5,.v (.int .i64 (i : Int))),(12,.v (.slice A l.length cap)),(13,.v (.int .i64 (i : Int))),(14,.v (.int .i64 b))],[],[],[ownF B (.slice A l.length cap) 2 (((marks mkP 2 k i ++ l.drop i).map pceCells).set i [.int .i64 x.off,.string x.text]),frF w (ownF B (.slice A l.length cap) 2 (l.map pceCells)).blk]⟩ i (ownF B (.slice A l.length cap) 2 (((marks mkP 2 k i ++ l.drop i).map pceCells).set i [.int .i64 x.off,.string x.text])) (by kernel_rfl) rfl (by kernel_rfl) (by kernel_rfl) rfl (by kernel_rfl) (by kernel_rfl) (by kernel_rfl) (by kernel_rfl) hlt (by simp) (fun ww h => Own.sl h) (by rw [List.length_set,mark_ln hi]; exact hlt) ?_
 intro b2 o3 hA4
 refine kOF 0 [0,1,5,14,15] ⟨[(0,.v (.slice A l.length cap)),(1,.v (.int .i64 b)),(5,.v (.int .i64 (i : Int))),(14,.v (.int .i64 b)),(15,.v (.pointer (some ⟨b2,o3 + i * 2,none⟩)))],[],[],[ownF B (.slice A l.length cap) 2 (((marks mkP 2 k i ++ l.drop i).map pceCells).set i [.int .i64 x.off,.string x.text]),frF w (ownF B (.slice A l.length cap) 2 (l.map pceCells)).blk]⟩ (.pointer (some ⟨b2,o3 + i * 2 + 0,none⟩)) rfl (fun _ _ _ ww hr => fld_run (sz := 1) hr rfl Try.underlying118 rfl (by kernel_rfl) rfl rfl (by first | rfl | omega)) ?_
 refine xl_stE (K := 2) (po := 0) (B := B) (rs := ((marks mkP 2 k i ++ l.drop i).map pceCells)) (row' := [.int .i64 b,.string x.text]) 0 [0,1,5,14,16] ⟨[(0,.v (.slice A l.length cap)),(1,.v (.int .i64 b)),(5,.v (.int .i64 (i : Int))),(14,.v (.int .i64 b)),(16,.v (.pointer (some ⟨b2,o3 + i * 2 + 0,none⟩)))],[],[],[ownF B (.slice A l.length cap) 2 (((marks mkP 2 k i ++ l.drop i).map pceCells).set i [.int .i64 x.off,.string x.text]),frF w (ownF B (.slice A l.length cap) 2 (l.map pceCells)).blk]⟩ i [.int .i64 x.off,.string x.text] 0 (by kernel_rfl) rfl (by kernel_rfl) rfl rfl rfl rfl (by kernel_rfl) (by kernel_rfl) rfl (cutW_le w B) hA4 (by rw [mark_ln hi]; exact hlt) (fun r hr => by obtain ⟨y,_,rfl⟩ := List.mem_map.1 hr; rfl) (by kernel_rfl) (by kernel_rfl) rfl rfl ?_
 refine kEF [0,1,5] ⟨[(0,.v (.slice A l.length cap)),(1,.v (.int .i64 b)),(5,.v (.int .i64 (i : Int)))],[],[],[ownF B (.slice A l.length cap) 2 (((marks mkP 2 k i ++ l.drop i).map pceCells).set i [.int .i64 b,.string x.text]),frF w (ownF B (.slice A l.length cap) 2 (l.map pceCells)).blk]⟩ ?_
 refine kQ ?_
 refine kRS 3 [0,1,5] [(0,.v (.slice A l.length cap)),(1,.v (.int .i64 (IntKind.i64.wrap (b + 1)))),(5,.v (.int .i64 (i : Int)))] ?_
 refine xl_eqS (t' := [(0,.v (.slice A l.length cap)),(1,.v (.int .i64 (b + 1))),(5,.v (.int .i64 (i : Int)))]) (by rw [show (IntKind.i64.wrap (b + 1)) = (b + 1) from wrap_id (by omega) (by omega)]) ?_
 refine kES [0,1,5] [(0,.v (.slice A l.length cap)),(1,.v (.int .i64 (b + 1))),(5,.v (.int .i64 (i : Int)))] ?_
 refine kQ ?_
 refine kCS 3 [0,1,5,19,20,21] [(0,.v (.slice A l.length cap)),(1,.v (.int .i64 (b + 1))),(5,.v (.int .i64 (i : Int))),(19,.v (.slice A l.length cap)),(20,.v (.int .i64 (i : Int))),(21,.v (.int .i64 (b + 1)))] 90 [.int .i64 (b + 1)] (some 22) rfl (xc_b fun ww hf => ymarkText_c (b + 1) ww  (by omega)) ?_
 intro _
 refine xl_elem (kd := .i64) (T := 63) (e := 118) (K := 2) (A := A) (len := l.length) (cap := cap) (rs := (((marks mkP 2 k i ++ l.drop i).map pceCells).set i [.int .i64 b,.string x.text])) 0 [0,1,5,19,20,22] ⟨[(0,.v (.slice A l.length cap)),(1,.v (.int .i64 (b + 1))),(5,.v (.int .i64 (i : Int))),(19,.v (.slice A l.length cap)),(20,.v (.int .i64 (i : Int))),(22,.v (.string (markText (b + 1))))],[],[],[ownF B (.slice A l.length cap) 2 (((marks mkP 2 k i ++ l.drop i).map pceCells).set i [.int .i64 b,.string x.text]),frF w (ownF B (.slice A l.length cap) 2 (l.map pceCells)).blk]⟩ i (ownF B (.slice A l.length cap) 2 (((marks mkP 2 k i ++ l.drop i).map pceCells).set i [.int .i64 b,.string x.text])) (by kernel_rfl) rfl (by kernel_rfl) (by kernel_rfl) rfl (by kernel_rfl) (by kernel_rfl) (by kernel_rfl) (by kernel_rfl) hlt (by simp) (fun ww h => Own.sl h) (by rw [List.length_set,mark_ln hi]; exact hlt) ?_
 intro b5 o6 hA7
 refine kOF 0 [0,1,5,22,23] ⟨[(0,.v (.slice A l.length cap)),(1,.v (.int .i64 (b + 1))),(5,.v (.int .i64 (i : Int))),(22,.v (.string (markText (b + 1)))),(23,.v (.pointer (some ⟨b5,o6 + i * 2,none⟩)))],[],[],[ownF B (.slice A l.length cap) 2 (((marks mkP 2 k i ++ l.drop i).map pceCells).set i [.int .i64 b,.string x.text]),frF w (ownF B (.slice A l.length cap) 2 (l.map pceCells)).blk]⟩ (.pointer (some ⟨b5,o6 + i * 2 + 1,none⟩)) rfl (fun _ _ _ ww hr => fld_run (sz := 1) hr rfl Try.underlying118 rfl (by kernel_rfl) rfl rfl (by first | rfl | omega)) ?_
 refine xl_stE (K := 2) (po := 1) (B := B) (rs := ((marks mkP 2 k i ++ l.drop i).map pceCells)) (row' := [.int .i64 b,.string (markText (b + 1))]) 0 [0,1,5,22,24] ⟨[(0,.v (.slice A l.length cap)),(1,.v (.int .i64 (b + 1))),(5,.v (.int .i64 (i : Int))),(22,.v (.string (markText (b + 1)))),(24,.v (.pointer (some ⟨b5,o6 + i * 2 + 1,none⟩)))],[],[],[ownF B (.slice A l.length cap) 2 (((marks mkP 2 k i ++ l.drop i).map pceCells).set i [.int .i64 b,.string x.text]),frF w (ownF B (.slice A l.length cap) 2 (l.map pceCells)).blk]⟩ i [.int .i64 b,.string x.text] 0 (by kernel_rfl) rfl (by kernel_rfl) rfl rfl rfl rfl (by kernel_rfl) (by kernel_rfl) rfl (cutW_le w B) hA7 (by rw [mark_ln hi]; exact hlt) (fun r hr => by obtain ⟨y,_,rfl⟩ := List.mem_map.1 hr; rfl) (by kernel_rfl) (by kernel_rfl) rfl rfl ?_
 refine kEF [0,1,5] ⟨[(0,.v (.slice A l.length cap)),(1,.v (.int .i64 (b + 1))),(5,.v (.int .i64 (i : Int)))],[],[],[ownF B (.slice A l.length cap) 2 (((marks mkP 2 k i ++ l.drop i).map pceCells).set i [.int .i64 b,.string (markText (b + 1))]),frF w (ownF B (.slice A l.length cap) 2 (l.map pceCells)).blk]⟩ ?_
 refine kG ?_
 refine kRS 3 [0,1,5] [(0,.v (.slice A l.length cap)),(1,.v (.int .i64 (IntKind.i64.wrap (b + 1 + 1)))),(5,.v (.int .i64 (i : Int)))] ?_
 refine xl_eqS (t' := [(0,.v (.slice A l.length cap)),(1,.v (.int .i64 (b + 2))),(5,.v (.int .i64 (i : Int)))]) (by rw [show (IntKind.i64.wrap (b + 1 + 1)) = (b + 2) from wrap_to (by omega) (by omega) (by omega)]) ?_
 refine kES [0,1,5] [(0,.v (.slice A l.length cap)),(1,.v (.int .i64 (b + 2))),(5,.v (.int .i64 (i : Int)))] ?_
 refine kG ?_
 refine kRS 3 [0,1,5] [(0,.v (.slice A l.length cap)),(1,.v (.int .i64 (b + 2))),(5,.v (.int .i64 (IntKind.i64.wrap ((i : Int) + 1))))] ?_
 refine xl_eqS (t' := [(0,.v (.slice A l.length cap)),(1,.v (.int .i64 (b + 2))),(5,.v (.int .i64 ((i : Int) + 1)))]) (by rw [show (IntKind.i64.wrap ((i : Int) + 1)) = ((i : Int) + 1) from wrap_id (by omega) (by omega)]) ?_
 refine kES [0,1,5] [(0,.v (.slice A l.length cap)),(1,.v (.int .i64 (b + 2))),(5,.v (.int .i64 ((i : Int) + 1)))] ?_
 have e : b + 2 = k + 2 * ((i + 1 : Nat) : Int) := by omega
 rw [e]
 subst hb
 exact ⟨⟨(i + 1),hlt⟩,(wk_fact0 (congrArg (fun z => ownF B (.slice A l.length cap) 2 z) (mark_next (f := pceCells) (mk := mkP) (c := 2) (k := k) hlt))).trans <| kF 0 0 [0,1,5],by show (fun (i : Nat) => l.length - i) (i + 1) < l.length - i; (dsimp only; omega)⟩
 have h1p := of_decide_eq_false h1
 have hge : i = l.length := by simp at h1; omega
 refine xw_exit ?_
 refine kQ ?_
 refine kES [4] [(4,.v (.int .i64 (k + 2 * (i : Int))))] ?_
 refine kR ?_
 subst hge
 exact ⟨[.int .i64 (k + 2 * (l.length : Int))],by kernel_rfl,fun w' hb hf => ⟨ret_int (by simp),by have := hf (ownF B (.slice A l.length cap) 2 ((marks mkP 2 k l.length ++ l.drop l.length).map pceCells)) (by simp); rw [List.drop_length,List.append_nil] at this; exact this,frF_chgd (hf (frF w (ownF B (.slice A l.length cap) 2 (l.map pceCells)).blk) (by simp)) hb rfl rfl rfl⟩⟩
theorem ymarkReceiver_c (x : Rcv) (x_heldV : Value) (k : Int) (w : World) (B : Nat) (hB : B ≤ w.heap.size) (h : Own w B x_heldV 2 (x.held.map pceCells)) (hk0 : 0 ≤ k) (hk : k ≤ 4503599627370496) (hl : x.held.length ≤ 1048576) : Calls Try.prog 70 #[.agg #[.int .i64 x.next, .string x.data, x_heldV, .int .i64 x.fin, .bool x.done], .int .i64 k] w fun e w' => e = .returned (.int .i64 (k + 2 * (x.held.length : Int))) ∧ Own w' B x_heldV 2 ((marks mkP 2 k x.held.length).map pceCells) ∧ Chgd (ownF B x_heldV 2 (x.held.map pceCells)).blk w w' := by
 obtain ⟨A,cap,hv⟩ := h.form
 rw [List.length_map] at hv; subst hv
 refine x_callsM (args := [.agg (rcvL x (.slice A x.held.length cap)).toArray,.int .i64 k]) (fn := Try.f70) [ownF B (.slice A x.held.length cap) 2 (x.held.map pceCells),frF w (ownF B (.slice A x.held.length cap) 2 (x.held.map pceCells)).blk] B Try.func70 rfl Try.ntmps70 rfl hB (by simp only [List.mem_cons,List.not_mem_nil,or_false,forall_eq_or_imp,forall_eq]; exact ⟨h,frF_start w _⟩) apart_fr ?_
 refine kQ ?_
 refine kEF [1,2] ⟨[(1,.v (.int .i64 k)),(2,.p 0 0)],[⟨65,rcvL x (.slice A x.held.length cap)⟩],[],[ownF B (.slice A x.held.length cap) 2 (x.held.map pceCells),frF w (ownF B (.slice A x.held.length cap) 2 (x.held.map pceCells)).blk]⟩ ?_
 refine kQ ?_
 refine kWS 3 [1,6,7] [(1,.v (.int .i64 k)),(6,.v (.slice A x.held.length cap)),(7,.v (.int .i64 k))] 91 [.slice A x.held.length cap,.int .i64 k] (some 8) 0 rfl rfl (fun ww b h hb => Nat.le_trans (cutW_le w B) (vblk_lo h hb)) (xcm_own marks_ne fun ww hw hf => ymarkPieceS_c (.slice A x.held.length cap) x.held k ww B (Nat.le_trans (by first | exact Nat.le_refl _ | exact Nat.le_of_eq (cutW_size hB).symm) hw) (hf (ownF B (.slice A x.held.length cap) 2 (x.held.map pceCells)) (by simp)) (by omega) (by omega) (by omega)) ?_
 intro _
 refine kES [1] [(1,.v (.int .i64 (k + 2 * (x.held.length : Int))))] ?_
 refine kQ ?_
 refine kES [4] [(4,.v (.int .i64 (k + 2 * (x.held.length : Int))))] ?_
 refine kR ?_
 exact ⟨[.int .i64 (k + 2 * (x.held.length : Int))],by kernel_rfl,fun w' hb hf => ⟨rfl,hf (ownF B (.slice A x.held.length cap) 2 ((marks mkP 2 k x.held.length).map pceCells)) (by simp),frF_chgd (hf (frF w (ownF B (.slice A x.held.length cap) 2 (x.held.map pceCells)).blk) (by simp)) hb rfl rfl rfl⟩⟩
theorem ymarkConn_c (x : Con) (x_r_heldV : Value) (k : Int) (w : World) (B : Nat) (hB : B ≤ w.heap.size) (h : Own w B x_r_heldV 2 (x.r.held.map pceCells)) (hk0 : 0 ≤ k) (hk : k ≤ 4503599627370496) (hl : x.r.held.length ≤ 1048576) : Calls Try.prog 31 #[.agg #[.int .i64 x.t.ip, .int .i64 x.t.port, .int .i64 x.t.my, .int .i64 x.state, .int .i64 x.s.una, .string x.s.data, .int .i64 x.s.sent, .bool x.s.fin, .bool x.s.finSent, .bool x.s.done, .int .i64 x.r.next, .string x.r.data, x_r_heldV, .int .i64 x.r.fin, .bool x.r.done, .int .i64 x.window, .int .i64 x.most, .int .i64 x.o.mss, .int .i64 x.o.scale, .bool x.o.sack, .bool x.o.stamp, .int .i64 x.o.val, .int .i64 x.o.echo, .int .i64 x.timer, .int .i64 x.tries], .int .i64 k] w fun e w' => e = .returned (.int .i64 (k + 2 * (x.r.held.length : Int))) ∧ Own w' B x_r_heldV 2 ((marks mkP 2 k x.r.held.length).map pceCells) ∧ Chgd (ownF B x_r_heldV 2 (x.r.held.map pceCells)).blk w w' := by
 obtain ⟨A,cap,hv⟩ := h.form
 rw [List.length_map] at hv; subst hv
 refine x_callsM (args := [.agg (conL x (.slice A x.r.held.length cap)).toArray,.int .i64 k]) (fn := Try.f31) [ownF B (.slice A x.r.held.length cap) 2 (x.r.held.map pceCells),frF w (ownF B (.slice A x.r.held.length cap) 2 (x.r.held.map pceCells)).blk] B Try.func31 rfl Try.ntmps31 rfl hB (by simp only [List.mem_cons,List.not_mem_nil,or_false,forall_eq_or_imp,forall_eq]; exact ⟨h,frF_start w _⟩) apart_fr ?_
 refine kQ ?_
 refine kEF [1,2] ⟨[(1,.v (.int .i64 k)),(2,.p 0 0)],[⟨68,conL x (.slice A x.r.held.length cap)⟩],[],[ownF B (.slice A x.r.held.length cap) 2 (x.r.held.map pceCells),frF w (ownF B (.slice A x.r.held.length cap) 2 (x.r.held.map pceCells)).blk]⟩ ?_
 refine kQ ?_
 refine kWS 3 [1,6,7] [(1,.v (.int .i64 k)),(6,.v (.agg (rcvL x.r (.slice A x.r.held.length cap)).toArray)),(7,.v (.int .i64 k))] 70 [.agg (rcvL x.r (.slice A x.r.held.length cap)).toArray,.int .i64 k] (some 8) 0 rfl rfl (fun ww b h hb => Nat.le_trans (cutW_le w B) (vblk_lo h hb)) (xcm_own marks_ne fun ww hw hf => ymarkReceiver_c x.r (.slice A x.r.held.length cap) k ww B (Nat.le_trans (by first | exact Nat.le_refl _ | exact Nat.le_of_eq (cutW_size hB).symm) hw) (hf (ownF B (.slice A x.r.held.length cap) 2 (x.r.held.map pceCells)) (by simp)) (by omega) (by omega) (by omega)) ?_
 intro _
 refine kES [1] [(1,.v (.int .i64 (k + 2 * (x.r.held.length : Int))))] ?_
 refine kQ ?_
 refine kES [4] [(4,.v (.int .i64 (k + 2 * (x.r.held.length : Int))))] ?_
 refine kR ?_
 exact ⟨[.int .i64 (k + 2 * (x.r.held.length : Int))],by kernel_rfl,fun w' hb hf => ⟨rfl,hf (ownF B (.slice A x.r.held.length cap) 2 ((marks mkP 2 k x.r.held.length).map pceCells)) (by simp),frF_chgd (hf (frF w (ownF B (.slice A x.r.held.length cap) 2 (x.r.held.map pceCells)).blk) (by simp)) hb rfl rfl rfl⟩⟩
theorem yheldPieceS_c (a : List Pce) (aV : Value) (k : Int) (w : World) (hl_aV : Sl w aV 2 (a.map pceCells)) (ha : a = marks mkP 2 k a.length) (hk0 : 0 ≤ k) (hk : k ≤ 4503599627370496) (hl : a.length ≤ 1048576) : Calls Try.prog 92 #[aV, .int .i64 k] w fun e w' => e = .returned (.int .i64 (k + 2 * (a.length : Int))) ∧ Below w.heap.size w w' := by
 obtain ⟨Aa,Ca,hva⟩ := hl_aV.form
 rw [List.length_map] at hva; subst hva
 have hna := hl_aV.len; rw [List.length_map] at hna
 have hqa := Sl.capLe hl_aV
 refine x_calls (args := [.slice Aa a.length Ca,.int .i64 k]) (fn := Try.f92) [slF (.slice Aa a.length Ca) 2 (a.map pceCells)] Try.func92 rfl Try.ntmps92 rfl (by simp only [List.mem_cons,List.not_mem_nil,or_false,forall_eq_or_imp,forall_eq]; exact ⟨rfl,hl_aV⟩) ?_
 refine kQ ?_
 refine kEF [0,1] ⟨[(0,.v (.slice Aa a.length Ca)),(1,.v (.int .i64 k))],[],[],[slF (.slice Aa a.length Ca) 2 (a.map pceCells)]⟩ ?_
 refine kS ?_
 refine kQ ?_
 refine kES [0,1,5] [(0,.v (.slice Aa a.length Ca)),(1,.v (.int .i64 k)),(5,.v (.int .i64 0))] ?_
 refine xw_block ?_
 have e0 : k + 2 * ((0 : Nat) : Int) = k := by omega
 refine xw_eq (st' := ⟨[(0,.v (.slice Aa a.length Ca)),(1,.v (.int .i64 (k + 2 * ((0 : Nat) : Int)))),(5,.v (.int .i64 0))],[],[],[slF (.slice Aa a.length Ca) 2 (a.map pceCells)]⟩) (by rw [e0]) ?_
 refine xw_loopW (α := {x : Nat // (fun (i : Nat) => i ≤ a.length) x}) (fun x => (fun (i : Nat) => (⟨[(0,.v (.slice Aa a.length Ca)),(1,.v (.int .i64 (k + 2 * (i : Int)))),(5,.v (.int .i64 (i : Int)))],[],[],[slF (.slice Aa a.length Ca) 2 (a.map pceCells)]⟩ : St)) x.1) (fun x => (fun (i : Nat) => a.length - i) x.1) ⟨(0),Nat.zero_le _⟩ (kF 0 0 [0,1,5]) ?_
 rintro ⟨i,hi⟩
 try dsimp only
 try dsimp only at hi
 refine kS ?_
 refine kQ ?_
 refine kES [0,1,5,9] [(0,.v (.slice Aa a.length Ca)),(1,.v (.int .i64 (k + 2 * (i : Int)))),(5,.v (.int .i64 (i : Int))),(9,.v (.bool (decide ((i : Int) < ((a.length : Nat) : Int)))))] ?_
 refine kC (decide ((i : Int) < ((a.length : Nat) : Int))) (fun h1 => ?_) (fun h1 => ?_)
 have h1p := of_decide_eq_true h1
 have hlt : i < a.length := by simpa using h1
 obtain ⟨x,hx⟩ : ∃ x,a[i]? = some x := ⟨_,List.getElem?_eq_getElem hlt⟩
 have hxe := marks_get (mk := mkP) (c := 2) (k := k) (n := a.length) (show _ = some x by rw [← ha]; exact hx)
 obtain ⟨b,hb⟩ : ∃ b,b = k + 2 * (i : Int) := ⟨_,rfl⟩
 rw [← hb] at hxe ⊢
 refine kK ?_
 refine kS ?_
 refine xw_block ?_
 refine kS ?_
 refine kQ ?_
 refine xl_index (kd := .i64) (T := 63) (e := 118) (K := 2) 2 [0,1,5,12,13] ⟨[(0,.v (.slice Aa a.length Ca)),(1,.v (.int .i64 b)),(5,.v (.int .i64 (i : Int))),(12,.v (.slice Aa a.length Ca)),(13,.v (.int .i64 (i : Int)))],[],[],[slF (.slice Aa a.length Ca) 2 (a.map pceCells)]⟩ i [.int .i64 b,.string (markText (b + 1))] (slF (.slice Aa a.length Ca) 2 (a.map pceCells)) (by kernel_rfl) rfl (by kernel_rfl) rfl rfl (by kernel_rfl) (by kernel_rfl) (by kernel_rfl) (by kernel_rfl) hlt (by simp) (fun w h => h) (fun b h => h) (by simp only [List.getElem?_map,hx,hxe]; rfl) ?_
 refine kES [0,1,5,18] [(0,.v (.slice Aa a.length Ca)),(1,.v (.int .i64 b)),(5,.v (.int .i64 (i : Int))),(18,.v (.bool (b != b)))] ?_
 refine kC (b != b) (fun h2 => ?_) (fun h2 => ?_)
 simp at h2
 have h2p := neF h2
 refine kK ?_
 refine kQ ?_
 refine kRS 3 [0,1,5] [(0,.v (.slice Aa a.length Ca)),(1,.v (.int .i64 (IntKind.i64.wrap (b + 1)))),(5,.v (.int .i64 (i : Int)))] ?_
 refine xl_eqS (t' := [(0,.v (.slice Aa a.length Ca)),(1,.v (.int .i64 (b + 1))),(5,.v (.int .i64 (i : Int)))]) (by rw [show (IntKind.i64.wrap (b + 1)) = (b + 1) from wrap_id (by omega) (by omega)]) ?_
 refine kES [0,1,5] [(0,.v (.slice Aa a.length Ca)),(1,.v (.int .i64 (b + 1))),(5,.v (.int .i64 (i : Int)))] ?_
 refine kS ?_
 refine kS ?_
 refine xws_start ?_
 refine xws_row (K := 2) (j := i) [.int .i64 b,.string (markText (b + 1))] (slF (.slice Aa a.length Ca) 2 (a.map pceCells)) (fun _ _ h => h) (by simp) (fun w h => h) (fun b h => h) (by simp only [List.getElem?_map,hx,hxe]; rfl) (fun bq3 offq3 hAq3 => ?_)
 refine xws_regionE [] (by kernel_rfl) (fun ρ σ hq4 => ?_)
 refine kTS [0,1,5] [26,22,21,0,1,5] 5 [(26,.v (.int .i64 (b + 1))),(22,.v (.int .i64 (i : Int))),(21,.v (.slice Aa a.length Ca)),(0,.v (.slice Aa a.length Ca)),(1,.v (.int .i64 (b + 1))),(5,.v (.int .i64 (i : Int)))] ?_
 refine xe_takeI (kd := .i64) (T := 63) (e := 118) (K := 2) (j := i) (A := Aa) (len := a.length) (cap := Ca) 2 1 _ rfl (by kernel_rfl) (by kernel_rfl) (by kernel_rfl) (fun _ _ h => h) (by kernel_rfl) rfl rfl (by kernel_rfl) (by kernel_rfl) (by kernel_rfl) (by kernel_rfl) hlt hAq3 hq4.2 (by kernel_rfl) rfl ?_
 refine kTS [3,4] [25,26,0,1,5] 2 [(25,.v (.string (markText (b + 1)))),(26,.v (.int .i64 (b + 1))),(0,.v (.slice Aa a.length Ca)),(1,.v (.int .i64 (b + 1))),(5,.v (.int .i64 (i : Int)))] ?_
 refine kA [6] ?_
 refine kSC 6 90 [.int .i64 (b + 1)] (some 27) rfl (xc_b fun ww hf => ymarkText_c (b + 1) ww  (by omega)) ?_
 intro _
 refine kTS [7] [28,0,1,5] 0 [(28,.v (.bool (!((markText (b + 1)).toList == (markText (b + 1)).toList)))),(0,.v (.slice Aa a.length Ca)),(1,.v (.int .i64 (b + 1))),(5,.v (.int .i64 (i : Int)))] ?_
 refine kZ ?_
 refine kC (!((markText (b + 1)).toList == (markText (b + 1)).toList)) (fun h5 => ?_) (fun h5 => ?_)
 have h5n := not_t h5
 simp at h5n
 have h5n := not_f h5
 have h5np := h5n; simp only [beq_iff_eq,bne_iff_ne,beq_eq_false_iff_ne,bne_eq_false_iff_eq,ne_eq,toList_lit0] at h5np
 refine kK ?_
 refine kG ?_
 refine kRS 3 [0,1,5] [(0,.v (.slice Aa a.length Ca)),(1,.v (.int .i64 (IntKind.i64.wrap (b + 1 + 1)))),(5,.v (.int .i64 (i : Int)))] ?_
 refine xl_eqS (t' := [(0,.v (.slice Aa a.length Ca)),(1,.v (.int .i64 (b + 2))),(5,.v (.int .i64 (i : Int)))]) (by rw [show (IntKind.i64.wrap (b + 1 + 1)) = (b + 2) from wrap_to (by omega) (by omega) (by omega)]) ?_
 refine kES [0,1,5] [(0,.v (.slice Aa a.length Ca)),(1,.v (.int .i64 (b + 2))),(5,.v (.int .i64 (i : Int)))] ?_
 refine kG ?_
 refine kRS 3 [0,1,5] [(0,.v (.slice Aa a.length Ca)),(1,.v (.int .i64 (b + 2))),(5,.v (.int .i64 (IntKind.i64.wrap ((i : Int) + 1))))] ?_
 refine xl_eqS (t' := [(0,.v (.slice Aa a.length Ca)),(1,.v (.int .i64 (b + 2))),(5,.v (.int .i64 ((i : Int) + 1)))]) (by rw [show (IntKind.i64.wrap ((i : Int) + 1)) = ((i : Int) + 1) from wrap_id (by omega) (by omega)]) ?_
 refine kES [0,1,5] [(0,.v (.slice Aa a.length Ca)),(1,.v (.int .i64 (b + 2))),(5,.v (.int .i64 ((i : Int) + 1)))] ?_
 have e : b + 2 = k + 2 * ((i + 1 : Nat) : Int) := by omega
 rw [e]
 exact ⟨⟨(i + 1),hlt⟩,kF 0 0 [0,1,5],by show (fun (i : Nat) => a.length - i) (i + 1) < a.length - i; (dsimp only; omega)⟩
 have h1p := of_decide_eq_false h1
 have hge : i = a.length := by simp at h1; omega
 refine xw_exit ?_
 refine kQ ?_
 refine kES [4] [(4,.v (.int .i64 (k + 2 * (i : Int))))] ?_
 refine kR ?_
 have hmod : k + 2 * (a.length : Int) = (k + 2 * (i : Int)) := by first | rfl | (rw [hge])
 exact ⟨[.int .i64 (k + 2 * (i : Int))],by kernel_rfl,fun w' hb hf => by rw [hmod]; exact ⟨rfl,hb⟩⟩
theorem yheldPieceS_m (n : Nat) (v : Value) (k : Int) (w : World) (hs : Sl w v 2 ((marks mkP 2 k n).map pceCells)) (hk0 : 0 ≤ k) (hk : k ≤ 4503599627370496) (hl : n ≤ 1048576) : Calls Try.prog 92 #[v, .int .i64 k] w fun e w' => e = .returned (.int .i64 (k + 2 * (n : Int))) ∧ Below w.heap.size w w' := by
 have := yheldPieceS_c (marks mkP 2 k n) v k w hs (by rw [marks_len]) hk0 hk (by rw [marks_len]; exact hl)
 rw [marks_len] at this; exact this
theorem ymarkTupleS_c (v : Value) (l : List Tup) (k : Int) (w : World) (B : Nat) (hB : B ≤ w.heap.size) (h : Own w B v 3 (l.map tupCells)) (hk0 : 0 ≤ k) (hk : k ≤ 4503599627370496) (hl : l.length ≤ 1048576) : Calls Try.prog 57 #[v, .int .i64 k] w fun e w' => e = .returned (.int .i64 (k + 3 * (l.length : Int))) ∧ Own w' B v 3 ((marks mkT 3 k l.length).map tupCells) ∧ Chgd (ownF B v 3 (l.map tupCells)).blk w w' := by
 obtain ⟨A,cap,hv⟩ := h.form
 rw [List.length_map] at hv; subst hv
 refine x_callsM (args := [.slice A l.length cap,.int .i64 k]) (fn := Try.f57) [ownF B (.slice A l.length cap) 3 (l.map tupCells),frF w (ownF B (.slice A l.length cap) 3 (l.map tupCells)).blk] B Try.func57 rfl Try.ntmps57 rfl hB (by simp only [List.mem_cons,List.not_mem_nil,or_false,forall_eq_or_imp,forall_eq]; exact ⟨h,frF_start w _⟩) apart_fr ?_
 refine kQ ?_
 refine kEF [0,1] ⟨[(0,.v (.slice A l.length cap)),(1,.v (.int .i64 k))],[],[],[ownF B (.slice A l.length cap) 3 (l.map tupCells),frF w (ownF B (.slice A l.length cap) 3 (l.map tupCells)).blk]⟩ ?_
 refine kS ?_
 refine kQ ?_
 refine kES [0,1,5] [(0,.v (.slice A l.length cap)),(1,.v (.int .i64 k)),(5,.v (.int .i64 0))] ?_
 refine xw_block ?_
 have e0 : k + 3 * ((0 : Nat) : Int) = k := by omega
 refine xw_eq (st' := ⟨[(0,.v (.slice A l.length cap)),(1,.v (.int .i64 (k + 3 * ((0 : Nat) : Int)))),(5,.v (.int .i64 0))],[],[],[ownF B (.slice A l.length cap) 3 (l.map tupCells),frF w (ownF B (.slice A l.length cap) 3 (l.map tupCells)).blk]⟩) (by rw [e0]) ?_
 refine xw_loopW (α := {x : Nat // (fun (i : Nat) => i ≤ l.length) x}) (fun x => (fun (i : Nat) => (⟨[(0,.v (.slice A l.length cap)),(1,.v (.int .i64 (k + 3 * (i : Int)))),(5,.v (.int .i64 (i : Int)))],[],[],[ownF B (.slice A l.length cap) 3 ((marks mkT 3 k i ++ l.drop i).map tupCells),frF w (ownF B (.slice A l.length cap) 3 (l.map tupCells)).blk]⟩ : St)) x.1) (fun x => (fun (i : Nat) => l.length - i) x.1) ⟨(0),Nat.zero_le _⟩ (kF 0 0 [0,1,5]) ?_
 rintro ⟨i,hi⟩
 try dsimp only
 try dsimp only at hi
 refine kS ?_
 refine kQ ?_
 refine kES [0,1,5,9] [(0,.v (.slice A l.length cap)),(1,.v (.int .i64 (k + 3 * (i : Int)))),(5,.v (.int .i64 (i : Int))),(9,.v (.bool (decide ((i : Int) < ((l.length : Nat) : Int)))))] ?_
 refine kC (decide ((i : Int) < ((l.length : Nat) : Int))) (fun h1 => ?_) (fun h1 => ?_)
 have h1p := of_decide_eq_true h1
 have hlt : i < l.length := by simpa using h1
 obtain ⟨b,hb⟩ : ∃ b,b = k + 3 * (i : Int) := ⟨_,rfl⟩
 rw [← hb]
 obtain ⟨x,hx⟩ : ∃ x,l[i]? = some x := ⟨_,List.getElem?_eq_getElem hlt⟩
 refine xw_fact0 (g := ownF B (.slice A l.length cap) 3 (((marks mkT 3 k i ++ l.drop i).map tupCells).set i [.int .i64 x.ip,.int .i64 x.port,.int .i64 x.my])) (congrArg (fun z => ownF B (.slice A l.length cap) 3 z) (mark_same (f := tupCells) (mk := mkT) (c := 3) (k := k) hx)) ?_
 refine kK ?_
 refine kS ?_
 refine xw_block ?_
 refine kQ ?_
 refine xl_elem (kd := .i64) (T := 31) (e := 35) (K := 3) (A := A) (len := l.length) (cap := cap) (rs := (((marks mkT 3 k i ++ l.drop i).map tupCells).set i [.int .i64 x.ip,.int .i64 x.port,.int .i64 x.my])) 3 [0,1,5,12,13,14] ⟨[(0,.v (.slice A l.length cap)),(1,.v (.int .i64 b)),(5,.v (.int .i64 (i : Int))),(12,.v (.slice A l.length cap)),(13,.v (.int .i64 (i : Int))),(14,.v (.int .i64 b))],[],[],[ownF B (.slice A l.length cap) 3 (((marks mkT 3 k i ++ l.drop i).map tupCells).set i [.int .i64 x.ip,.int .i64 x.port,.int .i64 x.my]),frF w (ownF B (.slice A l.length cap) 3 (l.map tupCells)).blk]⟩ i (ownF B (.slice A l.length cap) 3 (((marks mkT 3 k i ++ l.drop i).map tupCells).set i [.int .i64 x.ip,.int .i64 x.port,.int .i64 x.my])) (by kernel_rfl) rfl (by kernel_rfl) (by kernel_rfl) rfl (by kernel_rfl) (by kernel_rfl) (by kernel_rfl) (by kernel_rfl) hlt (by simp) (fun ww h => Own.sl h) (by rw [List.length_set,mark_ln hi]; exact hlt) ?_
 intro b2 o3 hA4
 refine kOF 0 [0,1,5,14,15] ⟨[(0,.v (.slice A l.length cap)),(1,.v (.int .i64 b)),(5,.v (.int .i64 (i : Int))),(14,.v (.int .i64 b)),(15,.v (.pointer (some ⟨b2,o3 + i * 3,none⟩)))],[],[],[ownF B (.slice A l.length cap) 3 (((marks mkT 3 k i ++ l.drop i).map tupCells).set i [.int .i64 x.ip,.int .i64 x.port,.int .i64 x.my]),frF w (ownF B (.slice A l.length cap) 3 (l.map tupCells)).blk]⟩ (.pointer (some ⟨b2,o3 + i * 3 + 0,none⟩)) rfl (fun _ _ _ ww hr => fld_run (sz := 1) hr rfl Try.underlying35 rfl (by kernel_rfl) rfl rfl (by first | rfl | omega)) ?_
 refine xl_stE (K := 3) (po := 0) (B := B) (rs := ((marks mkT 3 k i ++ l.drop i).map tupCells)) (row' := [.int .i64 b,.int .i64 x.port,.int .i64 x.my]) 0 [0,1,5,14,16] ⟨[(0,.v (.slice A l.length cap)),(1,.v (.int .i64 b)),(5,.v (.int .i64 (i : Int))),(14,.v (.int .i64 b)),(16,.v (.pointer (some ⟨b2,o3 + i * 3 + 0,none⟩)))],[],[],[ownF B (.slice A l.length cap) 3 (((marks mkT 3 k i ++ l.drop i).map tupCells).set i [.int .i64 x.ip,.int .i64 x.port,.int .i64 x.my]),frF w (ownF B (.slice A l.length cap) 3 (l.map tupCells)).blk]⟩ i [.int .i64 x.ip,.int .i64 x.port,.int .i64 x.my] 0 (by kernel_rfl) rfl (by kernel_rfl) rfl rfl rfl rfl (by kernel_rfl) (by kernel_rfl) rfl (cutW_le w B) hA4 (by rw [mark_ln hi]; exact hlt) (fun r hr => by obtain ⟨y,_,rfl⟩ := List.mem_map.1 hr; rfl) (by kernel_rfl) (by kernel_rfl) rfl rfl ?_
 refine kEF [0,1,5] ⟨[(0,.v (.slice A l.length cap)),(1,.v (.int .i64 b)),(5,.v (.int .i64 (i : Int)))],[],[],[ownF B (.slice A l.length cap) 3 (((marks mkT 3 k i ++ l.drop i).map tupCells).set i [.int .i64 b,.int .i64 x.port,.int .i64 x.my]),frF w (ownF B (.slice A l.length cap) 3 (l.map tupCells)).blk]⟩ ?_
 refine kQ ?_
 refine kRS 3 [0,1,5] [(0,.v (.slice A l.length cap)),(1,.v (.int .i64 (IntKind.i64.wrap (b + 1)))),(5,.v (.int .i64 (i : Int)))] ?_
 refine xl_eqS (t' := [(0,.v (.slice A l.length cap)),(1,.v (.int .i64 (b + 1))),(5,.v (.int .i64 (i : Int)))]) (by rw [show (IntKind.i64.wrap (b + 1)) = (b + 1) from wrap_id (by omega) (by omega)]) ?_
 refine kES [0,1,5] [(0,.v (.slice A l.length cap)),(1,.v (.int .i64 (b + 1))),(5,.v (.int .i64 (i : Int)))] ?_
 refine kQ ?_
 refine xl_elem (kd := .i64) (T := 31) (e := 35) (K := 3) (A := A) (len := l.length) (cap := cap) (rs := (((marks mkT 3 k i ++ l.drop i).map tupCells).set i [.int .i64 b,.int .i64 x.port,.int .i64 x.my])) 3 [0,1,5,19,20,21] ⟨[(0,.v (.slice A l.length cap)),(1,.v (.int .i64 (b + 1))),(5,.v (.int .i64 (i : Int))),(19,.v (.slice A l.length cap)),(20,.v (.int .i64 (i : Int))),(21,.v (.int .i64 (b + 1)))],[],[],[ownF B (.slice A l.length cap) 3 (((marks mkT 3 k i ++ l.drop i).map tupCells).set i [.int .i64 b,.int .i64 x.port,.int .i64 x.my]),frF w (ownF B (.slice A l.length cap) 3 (l.map tupCells)).blk]⟩ i (ownF B (.slice A l.length cap) 3 (((marks mkT 3 k i ++ l.drop i).map tupCells).set i [.int .i64 b,.int .i64 x.port,.int .i64 x.my])) (by kernel_rfl) rfl (by kernel_rfl) (by kernel_rfl) rfl (by kernel_rfl) (by kernel_rfl) (by kernel_rfl) (by kernel_rfl) hlt (by simp) (fun ww h => Own.sl h) (by rw [List.length_set,mark_ln hi]; exact hlt) ?_
 intro b5 o6 hA7
 refine kOF 0 [0,1,5,21,22] ⟨[(0,.v (.slice A l.length cap)),(1,.v (.int .i64 (b + 1))),(5,.v (.int .i64 (i : Int))),(21,.v (.int .i64 (b + 1))),(22,.v (.pointer (some ⟨b5,o6 + i * 3,none⟩)))],[],[],[ownF B (.slice A l.length cap) 3 (((marks mkT 3 k i ++ l.drop i).map tupCells).set i [.int .i64 b,.int .i64 x.port,.int .i64 x.my]),frF w (ownF B (.slice A l.length cap) 3 (l.map tupCells)).blk]⟩ (.pointer (some ⟨b5,o6 + i * 3 + 1,none⟩)) rfl (fun _ _ _ ww hr => fld_run (sz := 1) hr rfl Try.underlying35 rfl (by kernel_rfl) rfl rfl (by first | rfl | omega)) ?_
 refine xl_stE (K := 3) (po := 1) (B := B) (rs := ((marks mkT 3 k i ++ l.drop i).map tupCells)) (row' := [.int .i64 b,.int .i64 (b + 1),.int .i64 x.my]) 0 [0,1,5,21,23] ⟨[(0,.v (.slice A l.length cap)),(1,.v (.int .i64 (b + 1))),(5,.v (.int .i64 (i : Int))),(21,.v (.int .i64 (b + 1))),(23,.v (.pointer (some ⟨b5,o6 + i * 3 + 1,none⟩)))],[],[],[ownF B (.slice A l.length cap) 3 (((marks mkT 3 k i ++ l.drop i).map tupCells).set i [.int .i64 b,.int .i64 x.port,.int .i64 x.my]),frF w (ownF B (.slice A l.length cap) 3 (l.map tupCells)).blk]⟩ i [.int .i64 b,.int .i64 x.port,.int .i64 x.my] 0 (by kernel_rfl) rfl (by kernel_rfl) rfl rfl rfl rfl (by kernel_rfl) (by kernel_rfl) rfl (cutW_le w B) hA7 (by rw [mark_ln hi]; exact hlt) (fun r hr => by obtain ⟨y,_,rfl⟩ := List.mem_map.1 hr; rfl) (by kernel_rfl) (by kernel_rfl) rfl rfl ?_
 refine kEF [0,1,5] ⟨[(0,.v (.slice A l.length cap)),(1,.v (.int .i64 (b + 1))),(5,.v (.int .i64 (i : Int)))],[],[],[ownF B (.slice A l.length cap) 3 (((marks mkT 3 k i ++ l.drop i).map tupCells).set i [.int .i64 b,.int .i64 (b + 1),.int .i64 x.my]),frF w (ownF B (.slice A l.length cap) 3 (l.map tupCells)).blk]⟩ ?_
 refine kQ ?_
 refine kRS 3 [0,1,5] [(0,.v (.slice A l.length cap)),(1,.v (.int .i64 (IntKind.i64.wrap (b + 1 + 1)))),(5,.v (.int .i64 (i : Int)))] ?_
 refine xl_eqS (t' := [(0,.v (.slice A l.length cap)),(1,.v (.int .i64 (b + 2))),(5,.v (.int .i64 (i : Int)))]) (by rw [show (IntKind.i64.wrap (b + 1 + 1)) = (b + 2) from wrap_to (by omega) (by omega) (by omega)]) ?_
 refine kES [0,1,5] [(0,.v (.slice A l.length cap)),(1,.v (.int .i64 (b + 2))),(5,.v (.int .i64 (i : Int)))] ?_
 refine kQ ?_
 refine xl_elem (kd := .i64) (T := 31) (e := 35) (K := 3) (A := A) (len := l.length) (cap := cap) (rs := (((marks mkT 3 k i ++ l.drop i).map tupCells).set i [.int .i64 b,.int .i64 (b + 1),.int .i64 x.my])) 3 [0,1,5,26,27,28] ⟨[(0,.v (.slice A l.length cap)),(1,.v (.int .i64 (b + 2))),(5,.v (.int .i64 (i : Int))),(26,.v (.slice A l.length cap)),(27,.v (.int .i64 (i : Int))),(28,.v (.int .i64 (b + 2)))],[],[],[ownF B (.slice A l.length cap) 3 (((marks mkT 3 k i ++ l.drop i).map tupCells).set i [.int .i64 b,.int .i64 (b + 1),.int .i64 x.my]),frF w (ownF B (.slice A l.length cap) 3 (l.map tupCells)).blk]⟩ i (ownF B (.slice A l.length cap) 3 (((marks mkT 3 k i ++ l.drop i).map tupCells).set i [.int .i64 b,.int .i64 (b + 1),.int .i64 x.my])) (by kernel_rfl) rfl (by kernel_rfl) (by kernel_rfl) rfl (by kernel_rfl) (by kernel_rfl) (by kernel_rfl) (by kernel_rfl) hlt (by simp) (fun ww h => Own.sl h) (by rw [List.length_set,mark_ln hi]; exact hlt) ?_
 intro b8 o9 hA10
 refine kOF 0 [0,1,5,28,29] ⟨[(0,.v (.slice A l.length cap)),(1,.v (.int .i64 (b + 2))),(5,.v (.int .i64 (i : Int))),(28,.v (.int .i64 (b + 2))),(29,.v (.pointer (some ⟨b8,o9 + i * 3,none⟩)))],[],[],[ownF B (.slice A l.length cap) 3 (((marks mkT 3 k i ++ l.drop i).map tupCells).set i [.int .i64 b,.int .i64 (b + 1),.int .i64 x.my]),frF w (ownF B (.slice A l.length cap) 3 (l.map tupCells)).blk]⟩ (.pointer (some ⟨b8,o9 + i * 3 + 2,none⟩)) rfl (fun _ _ _ ww hr => fld_run (sz := 1) hr rfl Try.underlying35 rfl (by kernel_rfl) rfl rfl (by first | rfl | omega)) ?_
 refine xl_stE (K := 3) (po := 2) (B := B) (rs := ((marks mkT 3 k i ++ l.drop i).map tupCells)) (row' := [.int .i64 b,.int .i64 (b + 1),.int .i64 (b + 2)]) 0 [0,1,5,28,30] ⟨[(0,.v (.slice A l.length cap)),(1,.v (.int .i64 (b + 2))),(5,.v (.int .i64 (i : Int))),(28,.v (.int .i64 (b + 2))),(30,.v (.pointer (some ⟨b8,o9 + i * 3 + 2,none⟩)))],[],[],[ownF B (.slice A l.length cap) 3 (((marks mkT 3 k i ++ l.drop i).map tupCells).set i [.int .i64 b,.int .i64 (b + 1),.int .i64 x.my]),frF w (ownF B (.slice A l.length cap) 3 (l.map tupCells)).blk]⟩ i [.int .i64 b,.int .i64 (b + 1),.int .i64 x.my] 0 (by kernel_rfl) rfl (by kernel_rfl) rfl rfl rfl rfl (by kernel_rfl) (by kernel_rfl) rfl (cutW_le w B) hA10 (by rw [mark_ln hi]; exact hlt) (fun r hr => by obtain ⟨y,_,rfl⟩ := List.mem_map.1 hr; rfl) (by kernel_rfl) (by kernel_rfl) rfl rfl ?_
 refine kEF [0,1,5] ⟨[(0,.v (.slice A l.length cap)),(1,.v (.int .i64 (b + 2))),(5,.v (.int .i64 (i : Int)))],[],[],[ownF B (.slice A l.length cap) 3 (((marks mkT 3 k i ++ l.drop i).map tupCells).set i [.int .i64 b,.int .i64 (b + 1),.int .i64 (b + 2)]),frF w (ownF B (.slice A l.length cap) 3 (l.map tupCells)).blk]⟩ ?_
 refine kG ?_
 refine kRS 3 [0,1,5] [(0,.v (.slice A l.length cap)),(1,.v (.int .i64 (IntKind.i64.wrap (b + 2 + 1)))),(5,.v (.int .i64 (i : Int)))] ?_
 refine xl_eqS (t' := [(0,.v (.slice A l.length cap)),(1,.v (.int .i64 (b + 3))),(5,.v (.int .i64 (i : Int)))]) (by rw [show (IntKind.i64.wrap (b + 2 + 1)) = (b + 3) from wrap_to (by omega) (by omega) (by omega)]) ?_
 refine kES [0,1,5] [(0,.v (.slice A l.length cap)),(1,.v (.int .i64 (b + 3))),(5,.v (.int .i64 (i : Int)))] ?_
 refine kG ?_
 refine kRS 3 [0,1,5] [(0,.v (.slice A l.length cap)),(1,.v (.int .i64 (b + 3))),(5,.v (.int .i64 (IntKind.i64.wrap ((i : Int) + 1))))] ?_
 refine xl_eqS (t' := [(0,.v (.slice A l.length cap)),(1,.v (.int .i64 (b + 3))),(5,.v (.int .i64 ((i : Int) + 1)))]) (by rw [show (IntKind.i64.wrap ((i : Int) + 1)) = ((i : Int) + 1) from wrap_id (by omega) (by omega)]) ?_
 refine kES [0,1,5] [(0,.v (.slice A l.length cap)),(1,.v (.int .i64 (b + 3))),(5,.v (.int .i64 ((i : Int) + 1)))] ?_
 have e : b + 3 = k + 3 * ((i + 1 : Nat) : Int) := by omega
 rw [e]
 subst hb
 exact ⟨⟨(i + 1),hlt⟩,(wk_fact0 (congrArg (fun z => ownF B (.slice A l.length cap) 3 z) (mark_next (f := tupCells) (mk := mkT) (c := 3) (k := k) hlt))).trans <| kF 0 0 [0,1,5],by show (fun (i : Nat) => l.length - i) (i + 1) < l.length - i; (dsimp only; omega)⟩
 have h1p := of_decide_eq_false h1
 have hge : i = l.length := by simp at h1; omega
 refine xw_exit ?_
 refine kQ ?_
 refine kES [4] [(4,.v (.int .i64 (k + 3 * (i : Int))))] ?_
 refine kR ?_
 subst hge
 exact ⟨[.int .i64 (k + 3 * (l.length : Int))],by kernel_rfl,fun w' hb hf => ⟨ret_int (by simp),by have := hf (ownF B (.slice A l.length cap) 3 ((marks mkT 3 k l.length ++ l.drop l.length).map tupCells)) (by simp); rw [List.drop_length,List.append_nil] at this; exact this,frF_chgd (hf (frF w (ownF B (.slice A l.length cap) 3 (l.map tupCells)).blk) (by simp)) hb rfl rfl rfl⟩⟩
theorem yheldTupleS_c (a : List Tup) (aV : Value) (k : Int) (w : World) (hl_aV : Sl w aV 3 (a.map tupCells)) (ha : a = marks mkT 3 k a.length) (hk0 : 0 ≤ k) (hk : k ≤ 4503599627370496) (hl : a.length ≤ 1048576) : Calls Try.prog 59 #[aV, .int .i64 k] w fun e w' => e = .returned (.int .i64 (k + 3 * (a.length : Int))) ∧ Below w.heap.size w w' := by
 obtain ⟨Aa,Ca,hva⟩ := hl_aV.form
 rw [List.length_map] at hva; subst hva
 have hna := hl_aV.len; rw [List.length_map] at hna
 have hqa := Sl.capLe hl_aV
 refine x_calls (args := [.slice Aa a.length Ca,.int .i64 k]) (fn := Try.f59) [slF (.slice Aa a.length Ca) 3 (a.map tupCells)] Try.func59 rfl Try.ntmps59 rfl (by simp only [List.mem_cons,List.not_mem_nil,or_false,forall_eq_or_imp,forall_eq]; exact ⟨rfl,hl_aV⟩) ?_
 refine kQ ?_
 refine kEF [0,1] ⟨[(0,.v (.slice Aa a.length Ca)),(1,.v (.int .i64 k))],[],[],[slF (.slice Aa a.length Ca) 3 (a.map tupCells)]⟩ ?_
 refine kS ?_
 refine kQ ?_
 refine kES [0,1,5] [(0,.v (.slice Aa a.length Ca)),(1,.v (.int .i64 k)),(5,.v (.int .i64 0))] ?_
 refine xw_block ?_
 have e0 : k + 3 * ((0 : Nat) : Int) = k := by omega
 refine xw_eq (st' := ⟨[(0,.v (.slice Aa a.length Ca)),(1,.v (.int .i64 (k + 3 * ((0 : Nat) : Int)))),(5,.v (.int .i64 0))],[],[],[slF (.slice Aa a.length Ca) 3 (a.map tupCells)]⟩) (by rw [e0]) ?_
 refine xw_loopW (α := {x : Nat // (fun (i : Nat) => i ≤ a.length) x}) (fun x => (fun (i : Nat) => (⟨[(0,.v (.slice Aa a.length Ca)),(1,.v (.int .i64 (k + 3 * (i : Int)))),(5,.v (.int .i64 (i : Int)))],[],[],[slF (.slice Aa a.length Ca) 3 (a.map tupCells)]⟩ : St)) x.1) (fun x => (fun (i : Nat) => a.length - i) x.1) ⟨(0),Nat.zero_le _⟩ (kF 0 0 [0,1,5]) ?_
 rintro ⟨i,hi⟩
 try dsimp only
 try dsimp only at hi
 refine kS ?_
 refine kQ ?_
 refine kES [0,1,5,9] [(0,.v (.slice Aa a.length Ca)),(1,.v (.int .i64 (k + 3 * (i : Int)))),(5,.v (.int .i64 (i : Int))),(9,.v (.bool (decide ((i : Int) < ((a.length : Nat) : Int)))))] ?_
 refine kC (decide ((i : Int) < ((a.length : Nat) : Int))) (fun h1 => ?_) (fun h1 => ?_)
 have h1p := of_decide_eq_true h1
 have hlt : i < a.length := by simpa using h1
 obtain ⟨x,hx⟩ : ∃ x,a[i]? = some x := ⟨_,List.getElem?_eq_getElem hlt⟩
 have hxe := marks_get (mk := mkT) (c := 3) (k := k) (n := a.length) (show _ = some x by rw [← ha]; exact hx)
 obtain ⟨b,hb⟩ : ∃ b,b = k + 3 * (i : Int) := ⟨_,rfl⟩
 rw [← hb] at hxe ⊢
 refine kK ?_
 refine kS ?_
 refine xw_block ?_
 refine kS ?_
 refine kQ ?_
 refine xl_index (kd := .i64) (T := 31) (e := 35) (K := 3) 2 [0,1,5,12,13] ⟨[(0,.v (.slice Aa a.length Ca)),(1,.v (.int .i64 b)),(5,.v (.int .i64 (i : Int))),(12,.v (.slice Aa a.length Ca)),(13,.v (.int .i64 (i : Int)))],[],[],[slF (.slice Aa a.length Ca) 3 (a.map tupCells)]⟩ i [.int .i64 b,.int .i64 (b + 1),.int .i64 (b + 2)] (slF (.slice Aa a.length Ca) 3 (a.map tupCells)) (by kernel_rfl) rfl (by kernel_rfl) rfl rfl (by kernel_rfl) (by kernel_rfl) (by kernel_rfl) (by kernel_rfl) hlt (by simp) (fun w h => h) (fun b h => h) (by simp only [List.getElem?_map,hx,hxe]; rfl) ?_
 refine kES [0,1,5,18] [(0,.v (.slice Aa a.length Ca)),(1,.v (.int .i64 b)),(5,.v (.int .i64 (i : Int))),(18,.v (.bool (b != b)))] ?_
 refine kC (b != b) (fun h2 => ?_) (fun h2 => ?_)
 simp at h2
 have h2p := neF h2
 refine kK ?_
 refine kQ ?_
 refine kRS 3 [0,1,5] [(0,.v (.slice Aa a.length Ca)),(1,.v (.int .i64 (IntKind.i64.wrap (b + 1)))),(5,.v (.int .i64 (i : Int)))] ?_
 refine xl_eqS (t' := [(0,.v (.slice Aa a.length Ca)),(1,.v (.int .i64 (b + 1))),(5,.v (.int .i64 (i : Int)))]) (by rw [show (IntKind.i64.wrap (b + 1)) = (b + 1) from wrap_id (by omega) (by omega)]) ?_
 refine kES [0,1,5] [(0,.v (.slice Aa a.length Ca)),(1,.v (.int .i64 (b + 1))),(5,.v (.int .i64 (i : Int)))] ?_
 refine kS ?_
 refine kQ ?_
 refine xl_indexS (kd := .i64) (T := 31) (e := 35) (K := 3) 2 [0,1,5,21,22] [(0,.v (.slice Aa a.length Ca)),(1,.v (.int .i64 (b + 1))),(5,.v (.int .i64 (i : Int))),(21,.v (.slice Aa a.length Ca)),(22,.v (.int .i64 (i : Int)))] i [.int .i64 b,.int .i64 (b + 1),.int .i64 (b + 2)] (slF (.slice Aa a.length Ca) 3 (a.map tupCells)) (by kernel_rfl) rfl (by kernel_rfl) rfl rfl (by kernel_rfl) (by kernel_rfl) (by kernel_rfl) (by kernel_rfl) hlt (by simp) (fun w h => h) (fun b h => h) (by simp only [List.getElem?_map,hx,hxe]; rfl) ?_
 refine kES [0,1,5,27] [(0,.v (.slice Aa a.length Ca)),(1,.v (.int .i64 (b + 1))),(5,.v (.int .i64 (i : Int))),(27,.v (.bool ((b + 1) != (b + 1))))] ?_
 refine kC ((b + 1) != (b + 1)) (fun h3 => ?_) (fun h3 => ?_)
 simp at h3
 have h3p := neF h3
 refine kK ?_
 refine kQ ?_
 refine kRS 3 [0,1,5] [(0,.v (.slice Aa a.length Ca)),(1,.v (.int .i64 (IntKind.i64.wrap (b + 1 + 1)))),(5,.v (.int .i64 (i : Int)))] ?_
 refine xl_eqS (t' := [(0,.v (.slice Aa a.length Ca)),(1,.v (.int .i64 (b + 2))),(5,.v (.int .i64 (i : Int)))]) (by rw [show (IntKind.i64.wrap (b + 1 + 1)) = (b + 2) from wrap_to (by omega) (by omega) (by omega)]) ?_
 refine kES [0,1,5] [(0,.v (.slice Aa a.length Ca)),(1,.v (.int .i64 (b + 2))),(5,.v (.int .i64 (i : Int)))] ?_
 refine kS ?_
 refine kQ ?_
 refine xl_indexS (kd := .i64) (T := 31) (e := 35) (K := 3) 2 [0,1,5,30,31] [(0,.v (.slice Aa a.length Ca)),(1,.v (.int .i64 (b + 2))),(5,.v (.int .i64 (i : Int))),(30,.v (.slice Aa a.length Ca)),(31,.v (.int .i64 (i : Int)))] i [.int .i64 b,.int .i64 (b + 1),.int .i64 (b + 2)] (slF (.slice Aa a.length Ca) 3 (a.map tupCells)) (by kernel_rfl) rfl (by kernel_rfl) rfl rfl (by kernel_rfl) (by kernel_rfl) (by kernel_rfl) (by kernel_rfl) hlt (by simp) (fun w h => h) (fun b h => h) (by simp only [List.getElem?_map,hx,hxe]; rfl) ?_
 refine kES [0,1,5,36] [(0,.v (.slice Aa a.length Ca)),(1,.v (.int .i64 (b + 2))),(5,.v (.int .i64 (i : Int))),(36,.v (.bool ((b + 2) != (b + 2))))] ?_
 refine kC ((b + 2) != (b + 2)) (fun h4 => ?_) (fun h4 => ?_)
 simp at h4
 have h4p := neF h4
 refine kK ?_
 refine kG ?_
 refine kRS 3 [0,1,5] [(0,.v (.slice Aa a.length Ca)),(1,.v (.int .i64 (IntKind.i64.wrap (b + 2 + 1)))),(5,.v (.int .i64 (i : Int)))] ?_
 refine xl_eqS (t' := [(0,.v (.slice Aa a.length Ca)),(1,.v (.int .i64 (b + 3))),(5,.v (.int .i64 (i : Int)))]) (by rw [show (IntKind.i64.wrap (b + 2 + 1)) = (b + 3) from wrap_to (by omega) (by omega) (by omega)]) ?_
 refine kES [0,1,5] [(0,.v (.slice Aa a.length Ca)),(1,.v (.int .i64 (b + 3))),(5,.v (.int .i64 (i : Int)))] ?_
 refine kG ?_
 refine kRS 3 [0,1,5] [(0,.v (.slice Aa a.length Ca)),(1,.v (.int .i64 (b + 3))),(5,.v (.int .i64 (IntKind.i64.wrap ((i : Int) + 1))))] ?_
 refine xl_eqS (t' := [(0,.v (.slice Aa a.length Ca)),(1,.v (.int .i64 (b + 3))),(5,.v (.int .i64 ((i : Int) + 1)))]) (by rw [show (IntKind.i64.wrap ((i : Int) + 1)) = ((i : Int) + 1) from wrap_id (by omega) (by omega)]) ?_
 refine kES [0,1,5] [(0,.v (.slice Aa a.length Ca)),(1,.v (.int .i64 (b + 3))),(5,.v (.int .i64 ((i : Int) + 1)))] ?_
 have e : b + 3 = k + 3 * ((i + 1 : Nat) : Int) := by omega
 rw [e]
 exact ⟨⟨(i + 1),hlt⟩,kF 0 0 [0,1,5],by show (fun (i : Nat) => a.length - i) (i + 1) < a.length - i; (dsimp only; omega)⟩
 have h1p := of_decide_eq_false h1
 have hge : i = a.length := by simp at h1; omega
 refine xw_exit ?_
 refine kQ ?_
 refine kES [4] [(4,.v (.int .i64 (k + 3 * (i : Int))))] ?_
 refine kR ?_
 have hmod : k + 3 * (a.length : Int) = (k + 3 * (i : Int)) := by first | rfl | (rw [hge])
 exact ⟨[.int .i64 (k + 3 * (i : Int))],by kernel_rfl,fun w' hb hf => by rw [hmod]; exact ⟨rfl,hb⟩⟩
theorem yheldTupleS_m (n : Nat) (v : Value) (k : Int) (w : World) (hs : Sl w v 3 ((marks mkT 3 k n).map tupCells)) (hk0 : 0 ≤ k) (hk : k ≤ 4503599627370496) (hl : n ≤ 1048576) : Calls Try.prog 59 #[v, .int .i64 k] w fun e w' => e = .returned (.int .i64 (k + 3 * (n : Int))) ∧ Below w.heap.size w w' := by
 have := yheldTupleS_c (marks mkT 3 k n) v k w hs (by rw [marks_len]) hk0 hk (by rw [marks_len]; exact hl)
 rw [marks_len] at this; exact this
end Go.Proofs.Ytnhpmgcllclhfaa
