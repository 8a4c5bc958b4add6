/- Contracts that this law needs, part 1. -/
import Derived.Test.YtnmmhbhdcplfmaaYW
import Derived.Test.YtnmmhbhdcplfmaaA5
import Derived.Test.YtnmmhbhdcplfmaaG1
import Derived.Test.YtnmmhbhdcplfmaaYD
import Derived.Test.YtnmmhbhdcplfmaaG3
import Derived.Test.YtnmmhbhdcplfmaaG2
import Derived.Test.YtnmmhbhdcplfmaaA2
namespace Go.Proofs.Ytnmmhbhdcplfmaa
open Go.RowKit
set_option linter.unusedVariables false
set_option linter.unusedSimpArgs false
set_option maxRecDepth 100000
set_option maxHeartbeats 2000000

theorem ysReceiverOk_c (r : Rcv) (r_heldV : Value) (w : World) (hl_r_heldV : Sl w r_heldV 2 (r.held.map pceCells)) (hm : ∀ p ∈ r.held, p.text.size ≤ 1048576) (hsz : r.data.size ≤ 4611686018427387904) : Calls Try.prog 13 #[.agg (rcvL r r_heldV).toArray] w fun e w' => e = .returned (.bool (receiverOk r)) ∧ Below w.heap.size w w' := by
 have hw := windowOf_bd r
 obtain ⟨Arh,Crh,hvrh⟩ := hl_r_heldV.form
 rw [List.length_map] at hvrh; subst hvrh
 have hnrh := hl_r_heldV.len; rw [List.length_map] at hnrh
 have hqrh := Sl.capLe hl_r_heldV
 refine x_calls (args := [.agg (rcvL r (.slice Arh r.held.length Crh)).toArray]) (fn := Try.f13) [slF (.slice Arh r.held.length Crh) 2 (r.held.map pceCells)] Try.func13 rfl Try.ntmps13 rfl (by simp only [List.mem_cons,List.not_mem_nil,or_false,forall_eq_or_imp,forall_eq]; exact ⟨rfl,hl_r_heldV⟩) ?_
 refine kQ ?_
 refine kEF [1] ⟨[(1,.p 0 0)],[⟨26,rcvL r (.slice Arh r.held.length Crh)⟩],[],[slF (.slice Arh r.held.length Crh) 2 (r.held.map pceCells)]⟩ ?_
 refine kQ ?_
 refine kCD 1 [1,7] [(7,.v (.agg (rcvL r (.slice Arh r.held.length Crh)).toArray))] 25 [.agg (rcvL r (.slice Arh r.held.length Crh)).toArray] (some 8) rfl (xc_b fun ww hf => sWindowOf_c r.next r.data r.held (.slice Arh r.held.length Crh) r.fin r.done ww (by omega)) ?_
 intro _
 refine kED [1,3] [(3,.v (.int .i64 (windowOf r)))] ?_
 refine kS ?_
 refine kQ ?_
 refine kCD 2 [1,3,10] [(10,.v (.int .i64 r.next))] 40 [.int .i64 r.next,.int .i64 32] (some 11) rfl (xc_s fun ww hf => sWordOk32_c r.next ww) ?_
 intro _
 refine kRD 2 [1,3,13] [(13,.v (.bool (!(wordOk r.next 32))))] ?_
 refine kP 13 (!(wordOk r.next 32)) (fun h1 => ?_) (fun h1 => ?_)
 have h1n := not_t h1
 refine kED [1,3,36] [(36,.v (.bool true))] ?_
 refine kT ?_
 refine kQ ?_
 refine kES [2] [(2,.v (.bool false))] ?_
 refine kR ?_
 exact ⟨[.bool false],by kernel_rfl,fun w' hb hf => ⟨ret_bool (show (false : Bool) = receiverOk r from by first | rfl | (rw [HR,HK]; simp [*]; done) | (rw [HR,HK]; simp [*]; omega) | (rw [HR,HK]; grind [rcvPost]) | (simp [receiverOk,rcvPre, *]; done) | (simp [receiverOk,rcvPre, *]; omega) | grind [receiverOk,rcvPre]),hb⟩⟩
 have h1n := not_f h1
 refine kRD 6 [1,3,19] [(19,.v (.bool (decide ((r.data.size : Int) > 32))))] ?_
 refine kP 19 (decide ((r.data.size : Int) > 32)) (fun h2 => ?_) (fun h2 => ?_)
 have h2p := of_decide_eq_true h2
 refine kED [1,3,36] [(36,.v (.bool true))] ?_
 refine kT ?_
 refine kQ ?_
 refine kES [2] [(2,.v (.bool false))] ?_
 refine kR ?_
 exact ⟨[.bool false],by kernel_rfl,fun w' hb hf => ⟨ret_bool (show (false : Bool) = receiverOk r from by first | rfl | (rw [HR,HK]; simp [*]; done) | (rw [HR,HK]; simp [*]; omega) | (rw [HR,HK]; grind [rcvPost]) | (simp [receiverOk,rcvPre, *]; done) | (simp [receiverOk,rcvPre, *]; omega) | grind [receiverOk,rcvPre]),hb⟩⟩
 have h2p := of_decide_eq_false h2
 refine kRD 6 [1,3,25] [(25,.v (.bool (decide (((r.held.length : Nat) : Int) > 3))))] ?_
 refine kP 25 (decide (((r.held.length : Nat) : Int) > 3)) (fun h3 => ?_) (fun h3 => ?_)
 have h3p := of_decide_eq_true h3
 refine kED [1,3,36] [(36,.v (.bool true))] ?_
 refine kT ?_
 refine kQ ?_
 refine kES [2] [(2,.v (.bool false))] ?_
 refine kR ?_
 exact ⟨[.bool false],by kernel_rfl,fun w' hb hf => ⟨ret_bool (show (false : Bool) = receiverOk r from by first | rfl | (rw [HR,HK]; simp [*]; done) | (rw [HR,HK]; simp [*]; omega) | (rw [HR,HK]; grind [rcvPost]) | (simp [receiverOk,rcvPre, *]; done) | (simp [receiverOk,rcvPre, *]; omega) | grind [receiverOk,rcvPre]),hb⟩⟩
 have h3p := of_decide_eq_false h3
 refine kCD 3 [1,3,25,27,28] [(25,.v (.bool false)),(27,.v (.int .i64 r.fin)),(28,.v (.int .i64 (windowOf r)))] 41 [.int .i64 r.fin,.int .i64 (-1),.int .i64 (windowOf r)] (some 29) rfl (xc_s fun ww hf => l1In_c r.fin (-1) (windowOf r) ww ) ?_
 intro _
 refine kRD 3 [1,3,32] [(32,.v (.bool (!(inB r.fin (-1) (windowOf r)))))] ?_
 refine kP 32 (!(inB r.fin (-1) (windowOf r))) (fun h4 => ?_) (fun h4 => ?_)
 have h4n := not_t h4
 refine kED [1,3,36] [(36,.v (.bool true))] ?_
 refine kT ?_
 refine kQ ?_
 refine kES [2] [(2,.v (.bool false))] ?_
 refine kR ?_
 exact ⟨[.bool false],by kernel_rfl,fun w' hb hf => ⟨ret_bool (show (false : Bool) = receiverOk r from by first | rfl | (rw [HR,HK]; simp [*]; done) | (rw [HR,HK]; simp [*]; omega) | (rw [HR,HK]; grind [rcvPost]) | (simp [receiverOk,rcvPre, *]; done) | (simp [receiverOk,rcvPre, *]; omega) | grind [receiverOk,rcvPre]),hb⟩⟩
 have h4n := not_f h4
 refine kED [1,3,36] [(36,.v (.bool (r.fin == 0)))] ?_
 refine kC (r.fin == 0) (fun h5 => ?_) (fun h5 => ?_)
 have h5p := eqT h5
 refine kQ ?_
 refine kES [2] [(2,.v (.bool false))] ?_
 refine kR ?_
 exact ⟨[.bool false],by kernel_rfl,fun w' hb hf => ⟨ret_bool (show (false : Bool) = receiverOk r from by first | rfl | (rw [HR,HK]; simp [*]; done) | (rw [HR,HK]; simp [*]; omega) | (rw [HR,HK]; grind [rcvPost]) | (simp [receiverOk,rcvPre, *]; done) | (simp [receiverOk,rcvPre, *]; omega) | grind [receiverOk,rcvPre]),hb⟩⟩
 have h5p := eqF h5
 refine kK ?_
 refine kQ ?_
 refine kED [1,3,4] [(4,.v (.int .i64 0))] ?_
 refine kS ?_
 refine kQ ?_
 refine kES [1,3,4,5] [(1,.p 0 0),(3,.v (.int .i64 (windowOf r))),(4,.v (.int .i64 0)),(5,.v (.int .i64 0))] ?_
 refine xw_block ?_
 have hp : rcvPre r = true := by first | (simp [rcvPre, *]; done) | (simp [rcvPre, *]; omega) | grind [rcvPre]
 have hin := inB_tt.1 (rcvPre_iff.1 hp).2.2.2.1
 have HR := receiverOkS r hp
 refine xw_loopW (α := {x : Nat × Int // (fun (k : Nat) (z : Int) => k ≤ r.held.length ∧ 0 ≤ z ∧ z ≤ 32 ∧ heldOkS (windowOf r) r.fin 0 r.held = heldOkS (windowOf r) r.fin z (r.held.drop k)) x.1 x.2}) (fun x => (fun (k : Nat) (z : Int) => (⟨[(1,.p 0 0),(3,.v (.int .i64 (windowOf r))),(4,.v (.int .i64 z)),(5,.v (.int .i64 (k : Int)))],[⟨26,rcvL r (.slice Arh r.held.length Crh)⟩],[],[slF (.slice Arh r.held.length Crh) 2 (r.held.map pceCells)]⟩ : St)) x.1.1 x.1.2) (fun x => r.held.length - x.1.1) ⟨(0,0),⟨Nat.zero_le _,by omega,by omega,rfl⟩⟩ (kF 1 0 [1,3,4,5]) ?_
 rintro ⟨⟨k,z⟩,hk,hz0,hz1,HK⟩
 try dsimp only
 try dsimp only at hk hz0 hz1 HK
 refine kS ?_
 refine kQ ?_
 refine kED [1,3,4,5,41] [(41,.v (.bool (decide ((k : Int) < ((r.held.length : Nat) : Int)))))] ?_
 refine kC (decide ((k : Int) < ((r.held.length : Nat) : Int))) (fun h6 => ?_) (fun h6 => ?_)
 have h6p := of_decide_eq_true h6
 have hlt : k < r.held.length := by simpa using h6
 obtain ⟨x,hx⟩ : ∃ x,r.held[k]? = some x := ⟨_,List.getElem?_eq_getElem hlt⟩
 have hxm := hm x (List.mem_of_getElem? hx)
 rw [drop_cons_of hx] at HK; simp only [heldOkS,heldOk] at HK
 refine kK ?_
 refine kS ?_
 refine xw_block ?_
 refine kQ ?_
 refine xl_indexD (kd := .i64) (T := 24) (e := 65) (K := 2) 3 [1,3,4,5,45,46] [(45,.v (.slice Arh r.held.length Crh)),(46,.v (.int .i64 (k : Int)))] k [.int .i64 x.off,.string x.text] (slF (.slice Arh r.held.length Crh) 2 (r.held.map pceCells)) (by kernel_rfl) rfl (by kernel_rfl) rfl rfl (by kernel_rfl) (by kernel_rfl) (by kernel_rfl) (by kernel_rfl) hlt (by simp) (fun w h => h) (fun b h => h) (by simp only [List.getElem?_map,hx]; rfl) ?_
 refine kEA [1,3,4,5,6] [(6,.p 1 0)] [⟨65,pceL x⟩] ?_
 refine kS ?_
 refine kQ ?_
 refine kRD 4 [1,3,4,5,6,52] [(52,.v (.bool (x.text.toList == (⟨#[]⟩ : ByteArray).toList)))] ?_
 refine kP 52 (x.text.toList == (⟨#[]⟩ : ByteArray).toList) (fun h7 => ?_) (fun h7 => ?_)
 have h7p := h7; simp only [beq_iff_eq,bne_iff_ne,beq_eq_false_iff_ne,bne_eq_false_iff_eq,ne_eq,toList_lit0] at h7p
 refine kED [1,3,5,6,73] [(73,.v (.bool true))] ?_
 refine kT ?_
 refine kQ ?_
 refine kES [2] [(2,.v (.bool false))] ?_
 refine kR ?_
 exact ⟨[.bool false],by kernel_rfl,fun w' hb hf => ⟨ret_bool (show (false : Bool) = receiverOk r from by first | rfl | (rw [HR,HK]; simp [*]; done) | (rw [HR,HK]; simp [*]; omega) | (rw [HR,HK]; grind [rcvPost]) | (simp [receiverOk,rcvPre, *]; done) | (simp [receiverOk,rcvPre, *]; omega) | grind [receiverOk,rcvPre]),hb⟩⟩
 have h7p := h7; simp only [beq_iff_eq,bne_iff_ne,beq_eq_false_iff_ne,bne_eq_false_iff_eq,ne_eq,toList_lit0] at h7p
 refine kRD 6 [1,3,5,6,58] [(58,.v (.bool (decide (x.off ≤ z))))] ?_
 refine kP 58 (decide (x.off ≤ z)) (fun h8 => ?_) (fun h8 => ?_)
 have h8p := of_decide_eq_true h8
 refine kED [1,3,5,6,73] [(73,.v (.bool true))] ?_
 refine kT ?_
 refine kQ ?_
 refine kES [2] [(2,.v (.bool false))] ?_
 refine kR ?_
 exact ⟨[.bool false],by kernel_rfl,fun w' hb hf => ⟨ret_bool (show (false : Bool) = receiverOk r from by first | rfl | (rw [HR,HK]; simp [*]; done) | (rw [HR,HK]; simp [*]; omega) | (rw [HR,HK]; grind [rcvPost]) | (simp [receiverOk,rcvPre, *]; done) | (simp [receiverOk,rcvPre, *]; omega) | grind [receiverOk,rcvPre]),hb⟩⟩
 have h8p := of_decide_eq_false h8
 refine kRD 6 [1,3,5,6,64] [(64,.v (.bool (decide (x.off > (windowOf r)))))] ?_
 refine kP 64 (decide (x.off > (windowOf r))) (fun h9 => ?_) (fun h9 => ?_)
 have h9p := of_decide_eq_true h9
 refine kED [1,3,5,6,73] [(73,.v (.bool true))] ?_
 refine kT ?_
 refine kQ ?_
 refine kES [2] [(2,.v (.bool false))] ?_
 refine kR ?_
 exact ⟨[.bool false],by kernel_rfl,fun w' hb hf => ⟨ret_bool (show (false : Bool) = receiverOk r from by first | rfl | (rw [HR,HK]; simp [*]; done) | (rw [HR,HK]; simp [*]; omega) | (rw [HR,HK]; grind [rcvPost]) | (simp [receiverOk,rcvPre, *]; done) | (simp [receiverOk,rcvPre, *]; omega) | grind [receiverOk,rcvPre]),hb⟩⟩
 have h9p := of_decide_eq_false h9
 refine kRS 9 [1,3,5,6,73] [(1,.p 0 0),(3,.v (.int .i64 (windowOf r))),(5,.v (.int .i64 (k : Int))),(6,.p 1 0),(73,.v (.bool (decide ((IntKind.i64.wrap (x.off + (x.text.size : Int))) > (windowOf r)))))] ?_
 refine xl_eqS (t' := [(1,.p 0 0),(3,.v (.int .i64 (windowOf r))),(5,.v (.int .i64 (k : Int))),(6,.p 1 0),(73,.v (.bool (decide ((x.off + (x.text.size : Int)) > (windowOf r)))))]) (by rw [show (IntKind.i64.wrap (x.off + (x.text.size : Int))) = (x.off + (x.text.size : Int)) from wrap_id (by omega) (by omega)]) ?_
 refine kED [1,3,5,6,73] [] ?_
 refine kC (decide ((x.off + (x.text.size : Int)) > (windowOf r))) (fun h10 => ?_) (fun h10 => ?_)
 have h10p := of_decide_eq_true h10
 refine kQ ?_
 refine kES [2] [(2,.v (.bool false))] ?_
 refine kR ?_
 exact ⟨[.bool false],by kernel_rfl,fun w' hb hf => ⟨ret_bool (show (false : Bool) = receiverOk r from by first | rfl | (rw [HR,HK]; simp [*]; done) | (rw [HR,HK]; simp [*]; omega) | (rw [HR,HK]; grind [rcvPost]) | (simp [receiverOk,rcvPre, *]; done) | (simp [receiverOk,rcvPre, *]; omega) | grind [receiverOk,rcvPre]),hb⟩⟩
 have h10p := of_decide_eq_false h10
 refine kK ?_
 refine kG ?_
 refine kRS 7 [1,3,4,5] [(1,.p 0 0),(3,.v (.int .i64 (windowOf r))),(4,.v (.int .i64 (IntKind.i64.wrap (x.off + (x.text.size : Int))))),(5,.v (.int .i64 (k : Int)))] ?_
 refine xl_eqS (t' := [(1,.p 0 0),(3,.v (.int .i64 (windowOf r))),(4,.v (.int .i64 (x.off + (x.text.size : Int)))),(5,.v (.int .i64 (k : Int)))]) (by rw [show (IntKind.i64.wrap (x.off + (x.text.size : Int))) = (x.off + (x.text.size : Int)) from wrap_id (by omega) (by omega)]) ?_
 refine kED [1,3,4,5] [] ?_
 refine kG ?_
 refine kRS 3 [1,3,4,5] [(1,.p 0 0),(3,.v (.int .i64 (windowOf r))),(4,.v (.int .i64 (x.off + (x.text.size : Int)))),(5,.v (.int .i64 (IntKind.i64.wrap ((k : Int) + 1))))] ?_
 refine xl_eqS (t' := [(1,.p 0 0),(3,.v (.int .i64 (windowOf r))),(4,.v (.int .i64 (x.off + (x.text.size : Int)))),(5,.v (.int .i64 ((k : Int) + 1)))]) (by rw [show (IntKind.i64.wrap ((k : Int) + 1)) = ((k : Int) + 1) from wrap_id (by omega) (by omega)]) ?_
 refine kED [1,3,4,5] [] ?_
 exact ⟨⟨(k + 1,x.off + (x.text.size : Int)),⟨by omega,by omega,by omega,by rw [HK]; first | (simp [*]; done) | (simp [*]; omega) | grind⟩⟩,kF 1 0 [1,3,4,5],by show r.held.length - (k + 1) < r.held.length - k; omega⟩
 have h6p := of_decide_eq_false h6
 have hge : k = r.held.length := by simp at h6; omega
 subst hge; simp only [List.drop_length,heldOkS,heldOk] at HK
 refine xw_exit ?_
 refine kQ ?_
 refine kRD 4 [1,4,83] [(83,.v (.bool (decide (r.fin < 0))))] ?_
 refine kP 83 (decide (r.fin < 0)) (fun h11 => ?_) (fun h11 => ?_)
 have h11p := of_decide_eq_true h11
 refine kRD 10 [1,89,93] [(89,.v (.bool true)),(93,.v (.bool (!r.done)))] ?_
 refine kP 93 (!r.done) (fun h12 => ?_) (fun h12 => ?_)
 have h12n := not_t h12
 refine kES [2] [(2,.v (.bool true))] ?_
 refine kR ?_
 exact ⟨[.bool true],by kernel_rfl,fun w' hb hf => ⟨ret_bool (show (true : Bool) = receiverOk r from by first | rfl | (rw [HR,HK]; simp [*]; done) | (rw [HR,HK]; simp [*]; omega) | (rw [HR,HK]; grind [rcvPost]) | (simp [receiverOk,rcvPre, *]; done) | (simp [receiverOk,rcvPre, *]; omega) | grind [receiverOk,rcvPre]),hb⟩⟩
 have h12n := not_f h12
 refine kRD 5 [1,89,93,98] [(93,.v (.bool false)),(98,.v (.bool (((r.held.length : Nat) : Int) == 0)))] ?_
 refine kP 98 (((r.held.length : Nat) : Int) == 0) (fun h13 => ?_) (fun h13 => ?_)
 have h13p := eqT h13
 refine kES [2] [(2,.v (.bool (r.fin == (-1))))] ?_
 refine kR ?_
 exact ⟨[.bool (r.fin == (-1))],by kernel_rfl,fun w' hb hf => ⟨ret_bool (show (r.fin == (-1) : Bool) = receiverOk r from by first | rfl | (rw [HR,HK]; simp [*]; done) | (rw [HR,HK]; simp [*]; omega) | (rw [HR,HK]; grind [rcvPost]) | (simp [receiverOk,rcvPre, *]; done) | (simp [receiverOk,rcvPre, *]; omega) | grind [receiverOk,rcvPre]),hb⟩⟩
 have h13p := eqF h13
 refine kES [2] [(2,.v (.bool false))] ?_
 refine kR ?_
 exact ⟨[.bool false],by kernel_rfl,fun w' hb hf => ⟨ret_bool (show (false : Bool) = receiverOk r from by first | rfl | (rw [HR,HK]; simp [*]; done) | (rw [HR,HK]; simp [*]; omega) | (rw [HR,HK]; grind [rcvPost]) | (simp [receiverOk,rcvPre, *]; done) | (simp [receiverOk,rcvPre, *]; omega) | grind [receiverOk,rcvPre]),hb⟩⟩
 have h11p := of_decide_eq_false h11
 refine kRD 6 [1,89] [(89,.v (.bool (decide (z ≤ r.fin))))] ?_
 refine kP 89 (decide (z ≤ r.fin)) (fun h14 => ?_) (fun h14 => ?_)
 have h14p := of_decide_eq_true h14
 refine kRD 4 [1,89,93] [(89,.v (.bool true)),(93,.v (.bool (!r.done)))] ?_
 refine kP 93 (!r.done) (fun h15 => ?_) (fun h15 => ?_)
 have h15n := not_t h15
 refine kES [2] [(2,.v (.bool true))] ?_
 refine kR ?_
 exact ⟨[.bool true],by kernel_rfl,fun w' hb hf => ⟨ret_bool (show (true : Bool) = receiverOk r from by first | rfl | (rw [HR,HK]; simp [*]; done) | (rw [HR,HK]; simp [*]; omega) | (rw [HR,HK]; grind [rcvPost]) | (simp [receiverOk,rcvPre, *]; done) | (simp [receiverOk,rcvPre, *]; omega) | grind [receiverOk,rcvPre]),hb⟩⟩
 have h15n := not_f h15
 refine kRD 5 [1,89,93,98] [(93,.v (.bool false)),(98,.v (.bool (((r.held.length : Nat) : Int) == 0)))] ?_
 refine kP 98 (((r.held.length : Nat) : Int) == 0) (fun h16 => ?_) (fun h16 => ?_)
 have h16p := eqT h16
 refine kES [2] [(2,.v (.bool (r.fin == (-1))))] ?_
 refine kR ?_
 exact ⟨[.bool (r.fin == (-1))],by kernel_rfl,fun w' hb hf => ⟨ret_bool (show (r.fin == (-1) : Bool) = receiverOk r from by first | rfl | (rw [HR,HK]; simp [*]; done) | (rw [HR,HK]; simp [*]; omega) | (rw [HR,HK]; grind [rcvPost]) | (simp [receiverOk,rcvPre, *]; done) | (simp [receiverOk,rcvPre, *]; omega) | grind [receiverOk,rcvPre]),hb⟩⟩
 have h16p := eqF h16
 refine kES [2] [(2,.v (.bool false))] ?_
 refine kR ?_
 exact ⟨[.bool false],by kernel_rfl,fun w' hb hf => ⟨ret_bool (show (false : Bool) = receiverOk r from by first | rfl | (rw [HR,HK]; simp [*]; done) | (rw [HR,HK]; simp [*]; omega) | (rw [HR,HK]; grind [rcvPost]) | (simp [receiverOk,rcvPre, *]; done) | (simp [receiverOk,rcvPre, *]; omega) | grind [receiverOk,rcvPre]),hb⟩⟩
 have h14p := of_decide_eq_false h14
 refine kES [2] [(2,.v (.bool false))] ?_
 refine kR ?_
 exact ⟨[.bool false],by kernel_rfl,fun w' hb hf => ⟨ret_bool (show (false : Bool) = receiverOk r from by first | rfl | (rw [HR,HK]; simp [*]; done) | (rw [HR,HK]; simp [*]; omega) | (rw [HR,HK]; grind [rcvPost]) | (simp [receiverOk,rcvPre, *]; done) | (simp [receiverOk,rcvPre, *]; omega) | grind [receiverOk,rcvPre]),hb⟩⟩
theorem yiReceiverOk_c (r : Rcv) (r_heldV : Value) (w : World) (hl_r_heldV : Sl w r_heldV 2 (r.held.map pceCells)) (hm : ∀ p ∈ r.held, p.text.size ≤ 1048576) (hsz : r.data.size ≤ 4611686018427387904) : Calls Try.prog 14 #[.agg (rcvL r r_heldV).toArray] w fun e w' => e = .returned (.bool (receiverOk r)) ∧ Below w.heap.size w w' := by
 have hw := windowOf_bd r
 obtain ⟨Arh,Crh,hvrh⟩ := hl_r_heldV.form
 rw [List.length_map] at hvrh; subst hvrh
 have hnrh := hl_r_heldV.len; rw [List.length_map] at hnrh
 have hqrh := Sl.capLe hl_r_heldV
 refine x_calls (args := [.agg (rcvL r (.slice Arh r.held.length Crh)).toArray]) (fn := Try.f14) [slF (.slice Arh r.held.length Crh) 2 (r.held.map pceCells)] Try.func14 rfl Try.ntmps14 rfl (by simp only [List.mem_cons,List.not_mem_nil,or_false,forall_eq_or_imp,forall_eq]; exact ⟨rfl,hl_r_heldV⟩) ?_
 refine kQ ?_
 refine kEF [1] ⟨[(1,.p 0 0)],[⟨26,rcvL r (.slice Arh r.held.length Crh)⟩],[],[slF (.slice Arh r.held.length Crh) 2 (r.held.map pceCells)]⟩ ?_
 refine kQ ?_
 refine kCD 1 [1,8] [(8,.v (.agg (rcvL r (.slice Arh r.held.length Crh)).toArray))] 15 [.agg (rcvL r (.slice Arh r.held.length Crh)).toArray] (some 9) rfl (xc_b fun ww hf => iWindowOf_c r.next r.data r.held (.slice Arh r.held.length Crh) r.fin r.done ww (by omega)) ?_
 intro _
 refine kED [1,3] [(3,.v (.int .i64 (windowOf r)))] ?_
 refine kS ?_
 refine kQ ?_
 refine kCD 2 [1,3,11] [(11,.v (.int .i64 r.next))] 42 [.int .i64 r.next,.int .i64 32] (some 12) rfl (xc_s fun ww hf => iWordOk32_c r.next ww) ?_
 intro _
 refine kRD 2 [1,3,14] [(14,.v (.bool (!(wordOk r.next 32))))] ?_
 refine kP 14 (!(wordOk r.next 32)) (fun h1 => ?_) (fun h1 => ?_)
 have h1n := not_t h1
 refine kED [1,3,37] [(37,.v (.bool true))] ?_
 refine kT ?_
 refine kQ ?_
 refine kES [2] [(2,.v (.bool false))] ?_
 refine kR ?_
 exact ⟨[.bool false],by kernel_rfl,fun w' hb hf => ⟨ret_bool (show (false : Bool) = receiverOk r from by first | rfl | (rw [HR,HK]; simp [*]; done) | (rw [HR,HK]; simp [*]; omega) | (rw [HR,HK]; grind [rcvPost]) | (simp [receiverOk,rcvPre, *]; done) | (simp [receiverOk,rcvPre, *]; omega) | grind [receiverOk,rcvPre]),hb⟩⟩
 have h1n := not_f h1
 refine kRD 6 [1,3,20] [(20,.v (.bool (decide ((r.data.size : Int) > 32))))] ?_
 refine kP 20 (decide ((r.data.size : Int) > 32)) (fun h2 => ?_) (fun h2 => ?_)
 have h2p := of_decide_eq_true h2
 refine kED [1,3,37] [(37,.v (.bool true))] ?_
 refine kT ?_
 refine kQ ?_
 refine kES [2] [(2,.v (.bool false))] ?_
 refine kR ?_
 exact ⟨[.bool false],by kernel_rfl,fun w' hb hf => ⟨ret_bool (show (false : Bool) = receiverOk r from by first | rfl | (rw [HR,HK]; simp [*]; done) | (rw [HR,HK]; simp [*]; omega) | (rw [HR,HK]; grind [rcvPost]) | (simp [receiverOk,rcvPre, *]; done) | (simp [receiverOk,rcvPre, *]; omega) | grind [receiverOk,rcvPre]),hb⟩⟩
 have h2p := of_decide_eq_false h2
 refine kRD 6 [1,3,26] [(26,.v (.bool (decide (((r.held.length : Nat) : Int) > 3))))] ?_
 refine kP 26 (decide (((r.held.length : Nat) : Int) > 3)) (fun h3 => ?_) (fun h3 => ?_)
 have h3p := of_decide_eq_true h3
 refine kED [1,3,37] [(37,.v (.bool true))] ?_
 refine kT ?_
 refine kQ ?_
 refine kES [2] [(2,.v (.bool false))] ?_
 refine kR ?_
 exact ⟨[.bool false],by kernel_rfl,fun w' hb hf => ⟨ret_bool (show (false : Bool) = receiverOk r from by first | rfl | (rw [HR,HK]; simp [*]; done) | (rw [HR,HK]; simp [*]; omega) | (rw [HR,HK]; grind [rcvPost]) | (simp [receiverOk,rcvPre, *]; done) | (simp [receiverOk,rcvPre, *]; omega) | grind [receiverOk,rcvPre]),hb⟩⟩
 have h3p := of_decide_eq_false h3
 refine kCD 3 [1,3,26,28,29] [(26,.v (.bool false)),(28,.v (.int .i64 r.fin)),(29,.v (.int .i64 (windowOf r)))] 43 [.int .i64 r.fin,.int .i64 (-1),.int .i64 (windowOf r)] (some 30) rfl (xc_s fun ww hf => within_c r.fin (-1) (windowOf r) ww ) ?_
 intro _
 refine kRD 3 [1,3,33] [(33,.v (.bool (!(inB r.fin (-1) (windowOf r)))))] ?_
 refine kP 33 (!(inB r.fin (-1) (windowOf r))) (fun h4 => ?_) (fun h4 => ?_)
 have h4n := not_t h4
 refine kED [1,3,37] [(37,.v (.bool true))] ?_
 refine kT ?_
 refine kQ ?_
 refine kES [2] [(2,.v (.bool false))] ?_
 refine kR ?_
 exact ⟨[.bool false],by kernel_rfl,fun w' hb hf => ⟨ret_bool (show (false : Bool) = receiverOk r from by first | rfl | (rw [HR,HK]; simp [*]; done) | (rw [HR,HK]; simp [*]; omega) | (rw [HR,HK]; grind [rcvPost]) | (simp [receiverOk,rcvPre, *]; done) | (simp [receiverOk,rcvPre, *]; omega) | grind [receiverOk,rcvPre]),hb⟩⟩
 have h4n := not_f h4
 refine kED [1,3,37] [(37,.v (.bool (r.fin == 0)))] ?_
 refine kC (r.fin == 0) (fun h5 => ?_) (fun h5 => ?_)
 have h5p := eqT h5
 refine kQ ?_
 refine kES [2] [(2,.v (.bool false))] ?_
 refine kR ?_
 exact ⟨[.bool false],by kernel_rfl,fun w' hb hf => ⟨ret_bool (show (false : Bool) = receiverOk r from by first | rfl | (rw [HR,HK]; simp [*]; done) | (rw [HR,HK]; simp [*]; omega) | (rw [HR,HK]; grind [rcvPost]) | (simp [receiverOk,rcvPre, *]; done) | (simp [receiverOk,rcvPre, *]; omega) | grind [receiverOk,rcvPre]),hb⟩⟩
 have h5p := eqF h5
 refine kK ?_
 refine kQ ?_
 refine kED [1,4] [(4,.v (.int .i64 (windowOf r)))] ?_
 refine kS ?_
 refine kQ ?_
 refine kES [1,4,41] [(1,.p 0 0),(4,.v (.int .i64 (windowOf r))),(41,.v (.bool (r.fin != (-1))))] ?_
 refine kC (r.fin != (-1)) (fun h6 => ?_) (fun h6 => ?_)
 have h6p := neT h6
 refine kG ?_
 refine kED [1,4] [(4,.v (.int .i64 r.fin))] ?_
 refine kQ ?_
 refine kED [1,4,5] [(5,.v (.int .i64 0))] ?_
 refine kS ?_
 refine kQ ?_
 refine kED [1,4,5,45,46,47] [(45,.v (.slice Arh r.held.length Crh)),(46,.v (.int .i64 ((r.held.length : Nat) : Int))),(47,.v (.int .i64 0))] ?_
 refine xw_block ?_
 have hp : rcvPre r = true := by first | (simp [rcvPre, *]; done) | (simp [rcvPre, *]; omega) | grind [rcvPre]
 have hin := inB_tt.1 (rcvPre_iff.1 hp).2.2.2.1
 have HR : receiverOk r = (heldOk (if r.fin = -1 then windowOf r else r.fin) 0 r.held && rcvPost r) := by unfold receiverOk; rw [hp]; rfl
 refine xw_loopW (α := {x : Nat × Int // (fun (k : Nat) (z : Int) => k ≤ r.held.length ∧ 0 ≤ z ∧ z ≤ 32 ∧ heldOk (if r.fin = -1 then windowOf r else r.fin) 0 r.held = heldOk (if r.fin = -1 then windowOf r else r.fin) z (r.held.drop k)) x.1 x.2}) (fun x => (fun (k : Nat) (z : Int) => (⟨[(1,.p 0 0),(4,.v (.int .i64 r.fin)),(5,.v (.int .i64 z)),(45,.v (.slice Arh r.held.length Crh)),(46,.v (.int .i64 ((r.held.length : Nat) : Int))),(47,.v (.int .i64 (k : Int)))],[⟨26,rcvL r (.slice Arh r.held.length Crh)⟩],[],[slF (.slice Arh r.held.length Crh) 2 (r.held.map pceCells)]⟩ : St)) x.1.1 x.1.2) (fun x => r.held.length - x.1.1) ⟨(0,0),⟨Nat.zero_le _,by omega,by omega,rfl⟩⟩ (kF 1 0 [1,4,5,45,46,47]) ?_
 rintro ⟨⟨k,z⟩,hk,hz0,hz1,HK⟩
 try dsimp only
 try dsimp only at hk hz0 hz1 HK
 refine kQ ?_
 refine kED [1,4,5,45,46,47,48] [(48,.v (.bool (decide ((k : Int) < ((r.held.length : Nat) : Int)))))] ?_
 refine kS ?_
 refine kC (decide ((k : Int) < ((r.held.length : Nat) : Int))) (fun h7 => ?_) (fun h7 => ?_)
 have h7p := of_decide_eq_true h7
 have hlt : k < r.held.length := by simpa using h7
 obtain ⟨x,hx⟩ : ∃ x,r.held[k]? = some x := ⟨_,List.getElem?_eq_getElem hlt⟩
 have hxm := hm x (List.mem_of_getElem? hx)
 rw [drop_cons_of hx] at HK; simp only [heldOkS,heldOk] at HK
 refine kK ?_
 refine kS ?_
 refine xw_block ?_
 refine kQ ?_
 refine xl_indexD (kd := .i64) (T := 24) (e := 65) (K := 2) 0 [1,4,5,45,46,47] [] k [.int .i64 x.off,.string x.text] (slF (.slice Arh r.held.length Crh) 2 (r.held.map pceCells)) (by kernel_rfl) rfl (by kernel_rfl) rfl rfl (by kernel_rfl) (by kernel_rfl) (by kernel_rfl) (by kernel_rfl) hlt (by simp) (fun w h => h) (fun b h => h) (by simp only [List.getElem?_map,hx]; rfl) ?_
 refine kEA [1,4,5,7,45,46,47] [(7,.p 1 0)] [⟨65,pceL x⟩] ?_
 refine kS ?_
 refine kQ ?_
 refine kRD 4 [1,4,5,7,45,46,47,54] [(54,.v (.bool (x.text.toList == (⟨#[]⟩ : ByteArray).toList)))] ?_
 refine kP 54 (x.text.toList == (⟨#[]⟩ : ByteArray).toList) (fun h8 => ?_) (fun h8 => ?_)
 have h8p := h8; simp only [beq_iff_eq,bne_iff_ne,beq_eq_false_iff_ne,bne_eq_false_iff_eq,ne_eq,toList_lit0] at h8p
 refine kED [1,4,7,45,46,47,69] [(69,.v (.bool true))] ?_
 refine kT ?_
 refine kQ ?_
 refine kES [2] [(2,.v (.bool false))] ?_
 refine kR ?_
 exact ⟨[.bool false],by kernel_rfl,fun w' hb hf => ⟨ret_bool (show (false : Bool) = receiverOk r from by first | rfl | (rw [HR,HK]; simp [*]; done) | (rw [HR,HK]; simp [*]; omega) | (rw [HR,HK]; grind [rcvPost]) | (simp [receiverOk,rcvPre, *]; done) | (simp [receiverOk,rcvPre, *]; omega) | grind [receiverOk,rcvPre]),hb⟩⟩
 have h8p := h8; simp only [beq_iff_eq,bne_iff_ne,beq_eq_false_iff_ne,bne_eq_false_iff_eq,ne_eq,toList_lit0] at h8p
 refine kRD 6 [1,4,7,45,46,47,60] [(60,.v (.bool (decide (x.off ≤ z))))] ?_
 refine kP 60 (decide (x.off ≤ z)) (fun h9 => ?_) (fun h9 => ?_)
 have h9p := of_decide_eq_true h9
 refine kED [1,4,7,45,46,47,69] [(69,.v (.bool true))] ?_
 refine kT ?_
 refine kQ ?_
 refine kES [2] [(2,.v (.bool false))] ?_
 refine kR ?_
 exact ⟨[.bool false],by kernel_rfl,fun w' hb hf => ⟨ret_bool (show (false : Bool) = receiverOk r from by first | rfl | (rw [HR,HK]; simp [*]; done) | (rw [HR,HK]; simp [*]; omega) | (rw [HR,HK]; grind [rcvPost]) | (simp [receiverOk,rcvPre, *]; done) | (simp [receiverOk,rcvPre, *]; omega) | grind [receiverOk,rcvPre]),hb⟩⟩
 have h9p := of_decide_eq_false h9
 refine kRS 9 [1,4,7,45,46,47,69] [(1,.p 0 0),(4,.v (.int .i64 r.fin)),(7,.p 1 0),(45,.v (.slice Arh r.held.length Crh)),(46,.v (.int .i64 ((r.held.length : Nat) : Int))),(47,.v (.int .i64 (k : Int))),(69,.v (.bool (decide (x.off > (IntKind.i64.wrap (r.fin - (x.text.size : Int)))))))] ?_
 refine xl_eqS (t' := [(1,.p 0 0),(4,.v (.int .i64 r.fin)),(7,.p 1 0),(45,.v (.slice Arh r.held.length Crh)),(46,.v (.int .i64 ((r.held.length : Nat) : Int))),(47,.v (.int .i64 (k : Int))),(69,.v (.bool (decide (x.off > (r.fin - (x.text.size : Int))))))]) (by rw [show (IntKind.i64.wrap (r.fin - (x.text.size : Int))) = (r.fin - (x.text.size : Int)) from wrap_id (by omega) (by omega)]) ?_
 refine kED [1,4,7,45,46,47,69] [] ?_
 refine kC (decide (x.off > (r.fin - (x.text.size : Int)))) (fun h10 => ?_) (fun h10 => ?_)
 have h10p := of_decide_eq_true h10
 refine kQ ?_
 refine kES [2] [(2,.v (.bool false))] ?_
 refine kR ?_
 exact ⟨[.bool false],by kernel_rfl,fun w' hb hf => ⟨ret_bool (show (false : Bool) = receiverOk r from by first | rfl | (rw [HR,HK]; simp [*]; done) | (rw [HR,HK]; simp [*]; omega) | (rw [HR,HK]; grind [rcvPost]) | (simp [receiverOk,rcvPre, *]; done) | (simp [receiverOk,rcvPre, *]; omega) | grind [receiverOk,rcvPre]),hb⟩⟩
 have h10p := of_decide_eq_false h10
 refine kK ?_
 refine kG ?_
 refine kRS 7 [1,4,5,45,46,47] [(1,.p 0 0),(4,.v (.int .i64 r.fin)),(5,.v (.int .i64 (IntKind.i64.wrap (x.off + (x.text.size : Int))))),(45,.v (.slice Arh r.held.length Crh)),(46,.v (.int .i64 ((r.held.length : Nat) : Int))),(47,.v (.int .i64 (k : Int)))] ?_
 refine xl_eqS (t' := [(1,.p 0 0),(4,.v (.int .i64 r.fin)),(5,.v (.int .i64 (x.off + (x.text.size : Int)))),(45,.v (.slice Arh r.held.length Crh)),(46,.v (.int .i64 ((r.held.length : Nat) : Int))),(47,.v (.int .i64 (k : Int)))]) (by rw [show (IntKind.i64.wrap (x.off + (x.text.size : Int))) = (x.off + (x.text.size : Int)) from wrap_id (by omega) (by omega)]) ?_
 refine kED [1,4,5,45,46,47] [] ?_
 refine kG ?_
 refine kRS 2 [1,4,5,45,46,47] [(1,.p 0 0),(4,.v (.int .i64 r.fin)),(5,.v (.int .i64 (x.off + (x.text.size : Int)))),(45,.v (.slice Arh r.held.length Crh)),(46,.v (.int .i64 ((r.held.length : Nat) : Int))),(47,.v (.int .i64 (IntKind.i64.wrap ((k : Int) + 1))))] ?_
 refine xl_eqS (t' := [(1,.p 0 0),(4,.v (.int .i64 r.fin)),(5,.v (.int .i64 (x.off + (x.text.size : Int)))),(45,.v (.slice Arh r.held.length Crh)),(46,.v (.int .i64 ((r.held.length : Nat) : Int))),(47,.v (.int .i64 ((k : Int) + 1)))]) (by rw [show (IntKind.i64.wrap ((k : Int) + 1)) = ((k : Int) + 1) from wrap_id (by omega) (by omega)]) ?_
 refine kED [1,4,5,45,46,47] [] ?_
 exact ⟨⟨(k + 1,x.off + (x.text.size : Int)),⟨by omega,by omega,by omega,by rw [HK]; first | (simp [*]; done) | (simp [*]; omega) | grind⟩⟩,kF 1 0 [1,4,5,45,46,47],by show r.held.length - (k + 1) < r.held.length - k; omega⟩
 have h7p := of_decide_eq_false h7
 have hge : k = r.held.length := by simp at h7; omega
 subst hge; simp only [List.drop_length,heldOkS,heldOk] at HK
 refine xw_exit ?_
 refine kQ ?_
 refine kRD 4 [1,80] [(80,.v (.bool (!r.done)))] ?_
 refine kP 80 (!r.done) (fun h11 => ?_) (fun h11 => ?_)
 have h11n := not_t h11
 refine kES [2] [(2,.v (.bool true))] ?_
 refine kR ?_
 exact ⟨[.bool true],by kernel_rfl,fun w' hb hf => ⟨ret_bool (show (true : Bool) = receiverOk r from by first | rfl | (rw [HR,HK]; simp [*]; done) | (rw [HR,HK]; simp [*]; omega) | (rw [HR,HK]; grind [rcvPost]) | (simp [receiverOk,rcvPre, *]; done) | (simp [receiverOk,rcvPre, *]; omega) | grind [receiverOk,rcvPre]),hb⟩⟩
 have h11n := not_f h11
 refine kRD 5 [1,80,85] [(80,.v (.bool false)),(85,.v (.bool (((r.held.length : Nat) : Int) == 0)))] ?_
 refine kP 85 (((r.held.length : Nat) : Int) == 0) (fun h12 => ?_) (fun h12 => ?_)
 have h12p := eqT h12
 refine kES [2] [(2,.v (.bool (r.fin == (-1))))] ?_
 refine kR ?_
 exact ⟨[.bool (r.fin == (-1))],by kernel_rfl,fun w' hb hf => ⟨ret_bool (show (r.fin == (-1) : Bool) = receiverOk r from by first | rfl | (rw [HR,HK]; simp [*]; done) | (rw [HR,HK]; simp [*]; omega) | (rw [HR,HK]; grind [rcvPost]) | (simp [receiverOk,rcvPre, *]; done) | (simp [receiverOk,rcvPre, *]; omega) | grind [receiverOk,rcvPre]),hb⟩⟩
 have h12p := eqF h12
 refine kES [2] [(2,.v (.bool false))] ?_
 refine kR ?_
 exact ⟨[.bool false],by kernel_rfl,fun w' hb hf => ⟨ret_bool (show (false : Bool) = receiverOk r from by first | rfl | (rw [HR,HK]; simp [*]; done) | (rw [HR,HK]; simp [*]; omega) | (rw [HR,HK]; grind [rcvPost]) | (simp [receiverOk,rcvPre, *]; done) | (simp [receiverOk,rcvPre, *]; omega) | grind [receiverOk,rcvPre]),hb⟩⟩
 have h6p := neF h6
 refine kK ?_
 refine kQ ?_
 refine kED [1,4,5] [(5,.v (.int .i64 0))] ?_
 refine kS ?_
 refine kQ ?_
 refine kED [1,4,5,45,46,47] [(45,.v (.slice Arh r.held.length Crh)),(46,.v (.int .i64 ((r.held.length : Nat) : Int))),(47,.v (.int .i64 0))] ?_
 refine xw_block ?_
 have hp : rcvPre r = true := by first | (simp [rcvPre, *]; done) | (simp [rcvPre, *]; omega) | grind [rcvPre]
 have hin := inB_tt.1 (rcvPre_iff.1 hp).2.2.2.1
 have HR : receiverOk r = (heldOk (if r.fin = -1 then windowOf r else r.fin) 0 r.held && rcvPost r) := by unfold receiverOk; rw [hp]; rfl
 refine xw_loopW (α := {x : Nat × Int // (fun (k : Nat) (z : Int) => k ≤ r.held.length ∧ 0 ≤ z ∧ z ≤ 32 ∧ heldOk (if r.fin = -1 then windowOf r else r.fin) 0 r.held = heldOk (if r.fin = -1 then windowOf r else r.fin) z (r.held.drop k)) x.1 x.2}) (fun x => (fun (k : Nat) (z : Int) => (⟨[(1,.p 0 0),(4,.v (.int .i64 (windowOf r))),(5,.v (.int .i64 z)),(45,.v (.slice Arh r.held.length Crh)),(46,.v (.int .i64 ((r.held.length : Nat) : Int))),(47,.v (.int .i64 (k : Int)))],[⟨26,rcvL r (.slice Arh r.held.length Crh)⟩],[],[slF (.slice Arh r.held.length Crh) 2 (r.held.map pceCells)]⟩ : St)) x.1.1 x.1.2) (fun x => r.held.length - x.1.1) ⟨(0,0),⟨Nat.zero_le _,by omega,by omega,rfl⟩⟩ (kF 1 0 [1,4,5,45,46,47]) ?_
 rintro ⟨⟨k,z⟩,hk,hz0,hz1,HK⟩
 try dsimp only
 try dsimp only at hk hz0 hz1 HK
 refine kQ ?_
 refine kED [1,4,5,45,46,47,48] [(48,.v (.bool (decide ((k : Int) < ((r.held.length : Nat) : Int)))))] ?_
 refine kS ?_
 refine kC (decide ((k : Int) < ((r.held.length : Nat) : Int))) (fun h13 => ?_) (fun h13 => ?_)
 have h13p := of_decide_eq_true h13
 have hlt : k < r.held.length := by simpa using h13
 obtain ⟨x,hx⟩ : ∃ x,r.held[k]? = some x := ⟨_,List.getElem?_eq_getElem hlt⟩
 have hxm := hm x (List.mem_of_getElem? hx)
 rw [drop_cons_of hx] at HK; simp only [heldOkS,heldOk] at HK
 refine kK ?_
 refine kS ?_
 refine xw_block ?_
 refine kQ ?_
 refine xl_indexD (kd := .i64) (T := 24) (e := 65) (K := 2) 0 [1,4,5,45,46,47] [] k [.int .i64 x.off,.string x.text] (slF (.slice Arh r.held.length Crh) 2 (r.held.map pceCells)) (by kernel_rfl) rfl (by kernel_rfl) rfl rfl (by kernel_rfl) (by kernel_rfl) (by kernel_rfl) (by kernel_rfl) hlt (by simp) (fun w h => h) (fun b h => h) (by simp only [List.getElem?_map,hx]; rfl) ?_
 refine kEA [1,4,5,7,45,46,47] [(7,.p 1 0)] [⟨65,pceL x⟩] ?_
 refine kS ?_
 refine kQ ?_
 refine kRD 4 [1,4,5,7,45,46,47,54] [(54,.v (.bool (x.text.toList == (⟨#[]⟩ : ByteArray).toList)))] ?_
 refine kP 54 (x.text.toList == (⟨#[]⟩ : ByteArray).toList) (fun h14 => ?_) (fun h14 => ?_)
 have h14p := h14; simp only [beq_iff_eq,bne_iff_ne,beq_eq_false_iff_ne,bne_eq_false_iff_eq,ne_eq,toList_lit0] at h14p
 refine kED [1,4,7,45,46,47,69] [(69,.v (.bool true))] ?_
 refine kT ?_
 refine kQ ?_
 refine kES [2] [(2,.v (.bool false))] ?_
 refine kR ?_
 exact ⟨[.bool false],by kernel_rfl,fun w' hb hf => ⟨ret_bool (show (false : Bool) = receiverOk r from by first | rfl | (rw [HR,HK]; simp [*]; done) | (rw [HR,HK]; simp [*]; omega) | (rw [HR,HK]; grind [rcvPost]) | (simp [receiverOk,rcvPre, *]; done) | (simp [receiverOk,rcvPre, *]; omega) | grind [receiverOk,rcvPre]),hb⟩⟩
 have h14p := h14; simp only [beq_iff_eq,bne_iff_ne,beq_eq_false_iff_ne,bne_eq_false_iff_eq,ne_eq,toList_lit0] at h14p
 refine kRD 6 [1,4,7,45,46,47,60] [(60,.v (.bool (decide (x.off ≤ z))))] ?_
 refine kP 60 (decide (x.off ≤ z)) (fun h15 => ?_) (fun h15 => ?_)
 have h15p := of_decide_eq_true h15
 refine kED [1,4,7,45,46,47,69] [(69,.v (.bool true))] ?_
 refine kT ?_
 refine kQ ?_
 refine kES [2] [(2,.v (.bool false))] ?_
 refine kR ?_
 exact ⟨[.bool false],by kernel_rfl,fun w' hb hf => ⟨ret_bool (show (false : Bool) = receiverOk r from by first | rfl | (rw [HR,HK]; simp [*]; done) | (rw [HR,HK]; simp [*]; omega) | (rw [HR,HK]; grind [rcvPost]) | (simp [receiverOk,rcvPre, *]; done) | (simp [receiverOk,rcvPre, *]; omega) | grind [receiverOk,rcvPre]),hb⟩⟩
 have h15p := of_decide_eq_false h15
 refine kRS 9 [1,4,7,45,46,47,69] [(1,.p 0 0),(4,.v (.int .i64 (windowOf r))),(7,.p 1 0),(45,.v (.slice Arh r.held.length Crh)),(46,.v (.int .i64 ((r.held.length : Nat) : Int))),(47,.v (.int .i64 (k : Int))),(69,.v (.bool (decide (x.off > (IntKind.i64.wrap ((windowOf r) - (x.text.size : Int)))))))] ?_
 refine xl_eqS (t' := [(1,.p 0 0),(4,.v (.int .i64 (windowOf r))),(7,.p 1 0),(45,.v (.slice Arh r.held.length Crh)),(46,.v (.int .i64 ((r.held.length : Nat) : Int))),(47,.v (.int .i64 (k : Int))),(69,.v (.bool (decide (x.off > ((windowOf r) - (x.text.size : Int))))))]) (by rw [show (IntKind.i64.wrap ((windowOf r) - (x.text.size : Int))) = ((windowOf r) - (x.text.size : Int)) from wrap_id (by omega) (by omega)]) ?_
 refine kED [1,4,7,45,46,47,69] [] ?_
 refine kC (decide (x.off > ((windowOf r) - (x.text.size : Int)))) (fun h16 => ?_) (fun h16 => ?_)
 have h16p := of_decide_eq_true h16
 refine kQ ?_
 refine kES [2] [(2,.v (.bool false))] ?_
 refine kR ?_
 exact ⟨[.bool false],by kernel_rfl,fun w' hb hf => ⟨ret_bool (show (false : Bool) = receiverOk r from by first | rfl | (rw [HR,HK]; simp [*]; done) | (rw [HR,HK]; simp [*]; omega) | (rw [HR,HK]; grind [rcvPost]) | (simp [receiverOk,rcvPre, *]; done) | (simp [receiverOk,rcvPre, *]; omega) | grind [receiverOk,rcvPre]),hb⟩⟩
 have h16p := of_decide_eq_false h16
 refine kK ?_
 refine kG ?_
 refine kRS 7 [1,4,5,45,46,47] [(1,.p 0 0),(4,.v (.int .i64 (windowOf r))),(5,.v (.int .i64 (IntKind.i64.wrap (x.off + (x.text.size : Int))))),(45,.v (.slice Arh r.held.length Crh)),(46,.v (.int .i64 ((r.held.length : Nat) : Int))),(47,.v (.int .i64 (k : Int)))] ?_
 refine xl_eqS (t' := [(1,.p 0 0),(4,.v (.int .i64 (windowOf r))),(5,.v (.int .i64 (x.off + (x.text.size : Int)))),(45,.v (.slice Arh r.held.length Crh)),(46,.v (.int .i64 ((r.held.length : Nat) : Int))),(47,.v (.int .i64 (k : Int)))]) (by rw [show (IntKind.i64.wrap (x.off + (x.text.size : Int))) = (x.off + (x.text.size : Int)) from wrap_id (by omega) (by omega)]) ?_
 refine kED [1,4,5,45,46,47] [] ?_
 refine kG ?_
 refine kRS 2 [1,4,5,45,46,47] [(1,.p 0 0),(4,.v (.int .i64 (windowOf r))),(5,.v (.int .i64 (x.off + (x.text.size : Int)))),(45,.v (.slice Arh r.held.length Crh)),(46,.v (.int .i64 ((r.held.length : Nat) : Int))),(47,.v (.int .i64 (IntKind.i64.wrap ((k : Int) + 1))))] ?_
 refine xl_eqS (t' := [(1,.p 0 0),(4,.v (.int .i64 (windowOf r))),(5,.v (.int .i64 (x.off + (x.text.size : Int)))),(45,.v (.slice Arh r.held.length Crh)),(46,.v (.int .i64 ((r.held.length : Nat) : Int))),(47,.v (.int .i64 ((k : Int) + 1)))]) (by rw [show (IntKind.i64.wrap ((k : Int) + 1)) = ((k : Int) + 1) from wrap_id (by omega) (by omega)]) ?_
 refine kED [1,4,5,45,46,47] [] ?_
 exact ⟨⟨(k + 1,x.off + (x.text.size : Int)),⟨by omega,by omega,by omega,by rw [HK]; first | (simp [*]; done) | (simp [*]; omega) | grind⟩⟩,kF 1 0 [1,4,5,45,46,47],by show r.held.length - (k + 1) < r.held.length - k; omega⟩
 have h13p := of_decide_eq_false h13
 have hge : k = r.held.length := by simp at h13; omega
 subst hge; simp only [List.drop_length,heldOkS,heldOk] at HK
 refine xw_exit ?_
 refine kQ ?_
 refine kRD 4 [1,80] [(80,.v (.bool (!r.done)))] ?_
 refine kP 80 (!r.done) (fun h17 => ?_) (fun h17 => ?_)
 have h17n := not_t h17
 refine kES [2] [(2,.v (.bool true))] ?_
 refine kR ?_
 exact ⟨[.bool true],by kernel_rfl,fun w' hb hf => ⟨ret_bool (show (true : Bool) = receiverOk r from by first | rfl | (rw [HR,HK]; simp [*]; done) | (rw [HR,HK]; simp [*]; omega) | (rw [HR,HK]; grind [rcvPost]) | (simp [receiverOk,rcvPre, *]; done) | (simp [receiverOk,rcvPre, *]; omega) | grind [receiverOk,rcvPre]),hb⟩⟩
 have h17n := not_f h17
 refine kRD 5 [1,80,85] [(80,.v (.bool false)),(85,.v (.bool (((r.held.length : Nat) : Int) == 0)))] ?_
 refine kP 85 (((r.held.length : Nat) : Int) == 0) (fun h18 => ?_) (fun h18 => ?_)
 have h18p := eqT h18
 refine kES [2] [(2,.v (.bool (r.fin == (-1))))] ?_
 refine kR ?_
 exact ⟨[.bool (r.fin == (-1))],by kernel_rfl,fun w' hb hf => ⟨ret_bool (show (r.fin == (-1) : Bool) = receiverOk r from by first | rfl | (rw [HR,HK]; simp [*]; done) | (rw [HR,HK]; simp [*]; omega) | (rw [HR,HK]; grind [rcvPost]) | (simp [receiverOk,rcvPre, *]; done) | (simp [receiverOk,rcvPre, *]; omega) | grind [receiverOk,rcvPre]),hb⟩⟩
 have h18p := eqF h18
 refine kES [2] [(2,.v (.bool false))] ?_
 refine kR ?_
 exact ⟨[.bool false],by kernel_rfl,fun w' hb hf => ⟨ret_bool (show (false : Bool) = receiverOk r from by first | rfl | (rw [HR,HK]; simp [*]; done) | (rw [HR,HK]; simp [*]; omega) | (rw [HR,HK]; grind [rcvPost]) | (simp [receiverOk,rcvPre, *]; done) | (simp [receiverOk,rcvPre, *]; omega) | grind [receiverOk,rcvPre]),hb⟩⟩
theorem ysSameReceiver_c (a : Rcv) (a_heldV : Value) (b : Rcv) (b_heldV : Value) (w : World) (hl_a_heldV : Sl w a_heldV 2 (a.held.map pceCells)) (hl_b_heldV : Sl w b_heldV 2 (b.held.map pceCells))  : Calls Try.prog 12 #[.agg (rcvL a a_heldV).toArray, .agg (rcvL b b_heldV).toArray] w fun e w' => e = .returned (.bool (sameReceiver a b)) ∧ Below w.heap.size w w' := by
 obtain ⟨Aah,Cah,hvah⟩ := hl_a_heldV.form
 rw [List.length_map] at hvah; subst hvah
 have hnah := hl_a_heldV.len; rw [List.length_map] at hnah
 have hqah := Sl.capLe hl_a_heldV
 obtain ⟨Abh,Cbh,hvbh⟩ := hl_b_heldV.form
 rw [List.length_map] at hvbh; subst hvbh
 have hnbh := hl_b_heldV.len; rw [List.length_map] at hnbh
 have hqbh := Sl.capLe hl_b_heldV
 refine x_calls (args := [.agg (rcvL a (.slice Aah a.held.length Cah)).toArray,.agg (rcvL b (.slice Abh b.held.length Cbh)).toArray]) (fn := Try.f12) [slF (.slice Aah a.held.length Cah) 2 (a.held.map pceCells),slF (.slice Abh b.held.length Cbh) 2 (b.held.map pceCells)] Try.func12 rfl Try.ntmps12 rfl (by simp only [List.mem_cons,List.not_mem_nil,or_false,forall_eq_or_imp,forall_eq]; exact ⟨⟨rfl,hl_a_heldV⟩,⟨rfl,hl_b_heldV⟩⟩) ?_
 refine kQ ?_
 refine kEF [2,3] ⟨[(2,.p 0 0),(3,.p 1 0)],[⟨26,rcvL a (.slice Aah a.held.length Cah)⟩,⟨26,rcvL b (.slice Abh b.held.length Cbh)⟩],[],[slF (.slice Aah a.held.length Cah) 2 (a.held.map pceCells),slF (.slice Abh b.held.length Cbh) 2 (b.held.map pceCells)]⟩ ?_
 refine kS ?_
 refine kS ?_
 refine xw_join ⟨[(2,.p 0 0),(3,.p 1 0),(40,.v (.bool ((a.next != b.next) || ((!(a.data.toList == b.data.toList)) || ((a.fin != b.fin) || ((!(a.done == b.done)) || (((a.held.length : Nat) : Int) != ((b.held.length : Nat) : Int))))))))],[⟨26,rcvL a (.slice Aah a.held.length Cah)⟩,⟨26,rcvL b (.slice Abh b.held.length Cbh)⟩],[],[slF (.slice Aah a.held.length Cah) 2 (a.held.map pceCells),slF (.slice Abh b.held.length Cbh) 2 (b.held.map pceCells)]⟩ ?_ ?_
 refine kG ?_
 refine kRS 6 [2,3,11] [(2,.p 0 0),(3,.p 1 0),(11,.v (.bool (a.next != b.next)))] ?_
 refine kP 11 (a.next != b.next) (fun h1 => ?_) (fun h1 => ?_)
 have h1p := neT h1
 refine kES [2,3,40] [(2,.p 0 0),(3,.p 1 0),(40,.v (.bool true))] ?_
 show Wk _ _
 try rw [h1]
 exact kF 2 0 [2,3,40]
 have h1p := neF h1
 refine kRS 7 [2,3,18] [(2,.p 0 0),(3,.p 1 0),(18,.v (.bool (!(a.data.toList == b.data.toList))))] ?_
 refine kP 18 (!(a.data.toList == b.data.toList)) (fun h2 => ?_) (fun h2 => ?_)
 have h2n := not_t h2
 have h2np := h2n; simp only [beq_iff_eq,bne_iff_ne,beq_eq_false_iff_ne,bne_eq_false_iff_eq,ne_eq,toList_lit0] at h2np
 refine kES [2,3,40] [(2,.p 0 0),(3,.p 1 0),(40,.v (.bool true))] ?_
 show Wk _ _
 try rw [h1]
 try rw [h2]
 exact kF 2 0 [2,3,40]
 have h2n := not_f h2
 have h2np := h2n; simp only [beq_iff_eq,bne_iff_ne,beq_eq_false_iff_ne,bne_eq_false_iff_eq,ne_eq,toList_lit0] at h2np
 refine kRS 7 [2,3,25] [(2,.p 0 0),(3,.p 1 0),(25,.v (.bool (a.fin != b.fin)))] ?_
 refine kP 25 (a.fin != b.fin) (fun h3 => ?_) (fun h3 => ?_)
 have h3p := neT h3
 refine kES [2,3,40] [(2,.p 0 0),(3,.p 1 0),(40,.v (.bool true))] ?_
 show Wk _ _
 try rw [h1]
 try rw [h2]
 try rw [h3]
 exact kF 2 0 [2,3,40]
 have h3p := neF h3
 refine kRS 7 [2,3,32] [(2,.p 0 0),(3,.p 1 0),(32,.v (.bool (!(a.done == b.done))))] ?_
 refine kP 32 (!(a.done == b.done)) (fun h4 => ?_) (fun h4 => ?_)
 have h4n := not_t h4
 have h4np := eqF h4n
 refine kES [2,3,40] [(2,.p 0 0),(3,.p 1 0),(40,.v (.bool true))] ?_
 show Wk _ _
 try rw [h1]
 try rw [h2]
 try rw [h3]
 try rw [h4]
 exact kF 2 0 [2,3,40]
 have h4n := not_f h4
 have h4np := eqT h4n
 refine kES [2,3,40] [(2,.p 0 0),(3,.p 1 0),(40,.v (.bool (((a.held.length : Nat) : Int) != ((b.held.length : Nat) : Int))))] ?_
 show Wk _ _
 try rw [h1]
 try rw [h2]
 try rw [h3]
 try rw [h4]
 exact kF 2 0 [2,3,40]
 refine kC ((a.next != b.next) || ((!(a.data.toList == b.data.toList)) || ((a.fin != b.fin) || ((!(a.done == b.done)) || (((a.held.length : Nat) : Int) != ((b.held.length : Nat) : Int)))))) (fun h5 => ?_) (fun h5 => ?_)
 refine kQ ?_
 refine kES [4] [(4,.v (.bool false))] ?_
 refine kR ?_
 exact ⟨[.bool false],by kernel_rfl,fun w' hb hf => ⟨ret_bool (show (false : Bool) = sameReceiver a b from by first | rfl | (simp [sameReceiver, *]; done) | grind [sameReceiver,sameL_len]),hb⟩⟩
 have h5l := or_l h5
 have h5lp := neF h5l
 have h5r := or_r h5
 have h5rl := or_l h5r
 have h5rln := not_f h5rl
 have h5rlnp := h5rln; simp only [beq_iff_eq,bne_iff_ne,beq_eq_false_iff_ne,bne_eq_false_iff_eq,ne_eq,toList_lit0] at h5rlnp
 have h5rr := or_r h5r
 have h5rrl := or_l h5rr
 have h5rrlp := neF h5rrl
 have h5rrr := or_r h5rr
 have h5rrrl := or_l h5rrr
 have h5rrrln := not_f h5rrrl
 have h5rrrlnp := eqT h5rrrln
 have h5rrrr := or_r h5rrr
 have h5rrrrp := neF h5rrrr
 refine kK ?_
 refine kS ?_
 refine kQ ?_
 refine kES [2,3,5] [(2,.p 0 0),(3,.p 1 0),(5,.v (.int .i64 0))] ?_
 refine xw_block ?_
 have hlen : a.held.length = b.held.length := by omega
 refine xw_loopW (α := {x : Nat // (fun (k : Nat) => k ≤ a.held.length ∧ ∀ (i : Nat) (x y : Pce),i < k → a.held[i]? = some x → b.held[i]? = some y → pceEq x y = true) x}) (fun x => (fun (k : Nat) => (⟨[(2,.p 0 0),(3,.p 1 0),(5,.v (.int .i64 (k : Int)))],[⟨26,rcvL a (.slice Aah a.held.length Cah)⟩,⟨26,rcvL b (.slice Abh b.held.length Cbh)⟩],[],[slF (.slice Aah a.held.length Cah) 2 (a.held.map pceCells),slF (.slice Abh b.held.length Cbh) 2 (b.held.map pceCells)]⟩ : St)) x.1) (fun x => a.held.length - x.1) ⟨(0),⟨Nat.zero_le _,fun i x y hi => by omega⟩⟩ (kF 2 0 [2,3,5]) ?_
 rintro ⟨k,hk,HK⟩
 try dsimp only
 try dsimp only at hk HK
 refine kS ?_
 refine kQ ?_
 refine kES [2,3,5,45] [(2,.p 0 0),(3,.p 1 0),(5,.v (.int .i64 (k : Int))),(45,.v (.bool (decide ((k : Int) < ((a.held.length : Nat) : Int)))))] ?_
 refine kC (decide ((k : Int) < ((a.held.length : Nat) : Int))) (fun h6 => ?_) (fun h6 => ?_)
 have h6p := of_decide_eq_true h6
 have hlt : k < a.held.length := by simpa using h6
 obtain ⟨x,hx⟩ : ∃ x,a.held[k]? = some x := ⟨_,List.getElem?_eq_getElem hlt⟩
 obtain ⟨y,hy⟩ : ∃ y,b.held[k]? = some y := ⟨_,List.getElem?_eq_getElem (by omega)⟩
 refine kK ?_
 refine kS ?_
 refine xw_block ?_
 refine kS ?_
 refine xws_start ?_
 refine xws_row (K := 2) (j := k) [.int .i64 x.off,.string x.text] (slF (.slice Aah a.held.length Cah) 2 (a.held.map pceCells)) (fun _ _ h => h) (by simp) (fun w h => h) (fun b h => h) (by simp only [List.getElem?_map,hx]; rfl) (fun bq7 offq7 hAq7 => ?_)
 refine xws_row (K := 2) (j := k) [.int .i64 y.off,.string y.text] (slF (.slice Abh b.held.length Cbh) 2 (b.held.map pceCells)) (fun _ _ h => h) (by simp) (fun w h => h) (fun b h => h) (by simp only [List.getElem?_map,hy]; rfl) (fun bq8 offq8 hAq8 => ?_)
 refine xws_regionE [] (by kernel_rfl) (fun ρ σ hq9 => ?_)
 refine kTS [0,1,2,5,6,7] [55,54,50,49,2,3,5] 5 [(55,.v (.int .i64 (k : Int))),(54,.v (.slice Abh b.held.length Cbh)),(50,.v (.int .i64 (k : Int))),(49,.v (.slice Aah a.held.length Cah)),(2,.p 0 0),(3,.p 1 0),(5,.v (.int .i64 (k : Int)))] ?_
 refine xe_takeI (kd := .i64) (T := 24) (e := 65) (K := 2) (j := k) (A := Aah) (len := a.held.length) (cap := Cah) 3 0 _ rfl (by kernel_rfl) (by kernel_rfl) (by kernel_rfl) (fun _ _ h => h) (by kernel_rfl) rfl rfl (by kernel_rfl) (by kernel_rfl) (by kernel_rfl) (by kernel_rfl) hlt hAq7 hq9.1.2 (by kernel_rfl) rfl ?_
 refine kTS [4] [52,55,54,2,3,5] 3 [(52,.v (.agg (pceL x).toArray)),(55,.v (.int .i64 (k : Int))),(54,.v (.slice Abh b.held.length Cbh)),(2,.p 0 0),(3,.p 1 0),(5,.v (.int .i64 (k : Int)))] ?_
 refine xe_takeI (kd := .i64) (T := 24) (e := 65) (K := 2) (j := k) (A := Abh) (len := b.held.length) (cap := Cbh) 8 1 _ rfl (by kernel_rfl) (by kernel_rfl) (by kernel_rfl) (fun _ _ h => h) (by kernel_rfl) rfl rfl (by kernel_rfl) (by kernel_rfl) (by kernel_rfl) (by kernel_rfl) (by omega) hAq8 hq9.2 (by kernel_rfl) rfl ?_
 refine kTS [9] [57,52,2,3,5] 1 [(57,.v (.agg (pceL y).toArray)),(52,.v (.agg (pceL x).toArray)),(2,.p 0 0),(3,.p 1 0),(5,.v (.int .i64 (k : Int)))] ?_
 refine kX 10 (.bool (!pceEq x y)) rfl (fun _ _ ww hA => act_bin hA rfl (by kernel_rfl) (by kernel_rfl) (agg_bin (by kernel_rfl) (run_neq_PCE x.off x.text y.off y.text ww))) ?_
 refine kZ ?_
 refine kC (!pceEq x y) (fun h10 => ?_) (fun h10 => ?_)
 have hno := sameL_no hx hy (by simpa using h10)
 refine kQ ?_
 refine kES [4] [(4,.v (.bool false))] ?_
 refine kR ?_
 exact ⟨[.bool false],by kernel_rfl,fun w' hb hf => ⟨ret_bool (show (false : Bool) = sameReceiver a b from by first | rfl | (simp [sameReceiver, *]; done) | grind [sameReceiver,sameL_len]),hb⟩⟩
 have hye : pceEq x y = true := by simpa using h10
 refine kK ?_
 refine kG ?_
 refine kRS 3 [2,3,5] [(2,.p 0 0),(3,.p 1 0),(5,.v (.int .i64 (IntKind.i64.wrap ((k : Int) + 1))))] ?_
 refine xl_eqS (t' := [(2,.p 0 0),(3,.p 1 0),(5,.v (.int .i64 ((k : Int) + 1)))]) (by rw [show (IntKind.i64.wrap ((k : Int) + 1)) = ((k : Int) + 1) from wrap_id (by omega) (by omega)]) ?_
 refine kES [2,3,5] [(2,.p 0 0),(3,.p 1 0),(5,.v (.int .i64 ((k : Int) + 1)))] ?_
 exact ⟨⟨(k + 1),⟨by omega,same_step hx hy hye HK⟩⟩,kF 2 0 [2,3,5],by show a.held.length - (k + 1) < a.held.length - k; omega⟩
 have h6p := of_decide_eq_false h6
 have hge : k = a.held.length := by simp at h6; omega
 have hall := sameL_nil_of hge hlen HK
 refine xw_exit ?_
 refine kQ ?_
 refine kES [4] [(4,.v (.bool true))] ?_
 refine kR ?_
 exact ⟨[.bool true],by kernel_rfl,fun w' hb hf => ⟨ret_bool (show (true : Bool) = sameReceiver a b from by first | rfl | (simp [sameReceiver, *]; done) | grind [sameReceiver,sameL_len]),hb⟩⟩
@[simp] theorem inB18_1 : inB 1 1 8 = true := rfl
@[simp] theorem inB18_2 : inB 2 1 8 = true := rfl
@[simp] theorem inB18_3 : inB 3 1 8 = true := rfl
@[simp] theorem inB18_4 : inB 4 1 8 = true := rfl
@[simp] theorem inB18_5 : inB 5 1 8 = true := rfl
@[simp] theorem inB18_6 : inB 6 1 8 = true := rfl
@[simp] theorem inB18_7 : inB 7 1 8 = true := rfl
@[simp] theorem inB18_8 : inB 8 1 8 = true := rfl
theorem yClonePiece_c (a : List Pce) (aV : Value) (w : World) (hl_aV : Sl w aV 2 (a.map pceCells)) (hkn : a.length ≤ 1048576) (B : Nat) (hB : B ≤ w.heap.size) : Calls Try.prog 76 #[aV] w fun e w' => XRs w w' e (α := Option Addr × Nat) (fun y => .slice y.1 a.length y.2) (fun y => [ownF B (.slice y.1 a.length y.2) 2 (a.map pceCells)]) := by
 obtain ⟨Aa,Ca,hva⟩ := hl_aV.form
 rw [List.length_map] at hva; subst hva
 have hna := hl_aV.len; rw [List.length_map] at hna
 have hqa := Sl.capLe hl_aV
 have hnil := fun h => Sl.nil_of h hl_aV
 refine x_callsA (args := [.slice Aa a.length Ca]) (fn := Try.f76) [slF (.slice Aa a.length Ca) 2 (a.map pceCells)] Try.func76 rfl Try.ntmps76 rfl (by simp only [List.mem_cons,List.not_mem_nil,or_false,forall_eq_or_imp,forall_eq]; exact ⟨rfl,hl_aV⟩) ?_
 refine kQ ?_
 refine kEF [0] ⟨[(0,.v (.slice Aa a.length Ca))],[],[],[slF (.slice Aa a.length Ca) 2 (a.map pceCells)]⟩ ?_
 refine kS ?_
 refine kQ ?_
 refine kOS 1 [0,3] [(0,.v (.slice Aa a.length Ca)),(3,.v (.slice Aa a.length Ca))] (.bool Aa.isNone) rfl (fun _ _ _ ww hr => act_nilEq (e := 65) hr.1 rfl (by kernel_rfl) rfl rfl ww) ?_
 refine kES [0,4] [(0,.v (.slice Aa a.length Ca)),(4,.v (.bool Aa.isNone))] ?_
 refine kC (Aa.isNone) (fun h1 => ?_) (fun h1 => ?_)
 refine kQ ?_
 refine kES [2] [(2,.v (.slice none 0 0))] ?_
 refine kR ?_
 have hmod : a = [] := by exact hnil (by assumption)
 exact ⟨[.slice none 0 0],by kernel_rfl,fun w' hb hf ha => by rw [hmod]; exact xo1 ((none,0)) rfl rfl ⟨.inl ⟨rfl,_,rfl⟩,fun b hb => (hb.1 rfl).elim⟩ hb⟩
 refine kK ?_
 refine kQ ?_
 refine kHS 0 [0] [(0,.v (.slice Aa a.length Ca))] rfl (hv_build (e := 65) (K := 2) (bytes := 24) [] rfl (by kernel_rfl) (by kernel_rfl) (by kernel_rfl) (by kernel_rfl) (by kernel_rfl) (rs := ([] : List Pce).map pceCells) rfl) ?_
 intro g2
 refine kHS 1 [5,6] [(5,.v (.slice (some ⟨g2,0,none⟩) 0 0)),(6,.v (.slice Aa a.length Ca))] rfl (hv_append (e := 65) (K := 2) (bytes := 24) (i := 0) (q := a.length) (new := a.map pceCells) (rs' := a.map pceCells) rfl rfl rfl rfl (by kernel_rfl) (by kernel_rfl) (by kernel_rfl) rfl (by simp) rfl (by simp) (fun ww hf => (hf (slF (.slice Aa a.length Ca) 2 (a.map pceCells)) (by simp))) (by intro r hr; obtain ⟨x,hx,rfl⟩ := List.mem_map.1 hr; exact ⟨rfl,by simp [pceCells,Value.oneCell']⟩) (by (try simp only [List.length_map,List.length_append,List.length_cons,List.length_nil,List.length_take,List.length_drop,maxLen]); omega) (by (try simp only [List.length_map,List.length_append,List.length_cons,List.length_nil,List.length_take,List.length_drop,maxLen]); omega)) ?_
 rintro ⟨v3a,v3c⟩
 refine kES [2] [(2,.v (.slice v3a a.length v3c))] ?_
 refine kR ?_
 exact ⟨[.slice v3a a.length v3c],by kernel_rfl,fun w' hb hf ha => by exact xo1 ((v3a,v3c)) rfl rfl (pR (hf _ m0) hB) hb⟩
theorem yl18Copy_c (r : Rcv) (r_heldV : Value) (w : World) (hl_r_heldV : Sl w r_heldV 2 (r.held.map pceCells)) (hkn : r.held.length ≤ 1048576) (B : Nat) (hB : B ≤ w.heap.size) : Calls Try.prog 37 #[.agg (rcvL r r_heldV).toArray] w fun e w' => XRs w w' e (α := Option Addr × Nat) (fun y => .agg (rcvL r (.slice y.1 r.held.length y.2)).toArray) (fun y => [rowF B 65 2 (.slice y.1 r.held.length y.2) (r.held.map pceCells)]) := by
 obtain ⟨Arh,Crh,hvrh⟩ := hl_r_heldV.form
 rw [List.length_map] at hvrh; subst hvrh
 have hnrh := hl_r_heldV.len; rw [List.length_map] at hnrh
 have hqrh := Sl.capLe hl_r_heldV
 refine x_callsA (args := [.agg (rcvL r (.slice Arh r.held.length Crh)).toArray]) (fn := Try.f37) [slF (.slice Arh r.held.length Crh) 2 (r.held.map pceCells)] Try.func37 rfl Try.ntmps37 rfl (by simp only [List.mem_cons,List.not_mem_nil,or_false,forall_eq_or_imp,forall_eq]; exact ⟨rfl,hl_r_heldV⟩) ?_
 refine kQ ?_
 refine kEF [1,2] ⟨[(1,.p 0 0),(2,.p 1 0)],[⟨26,rcvL r (.slice Arh r.held.length Crh)⟩,⟨26,rcvZ⟩],[],[slF (.slice Arh r.held.length Crh) 2 (r.held.map pceCells)]⟩ ?_
 refine kQ ?_
 refine kHS 0 [1,2] [(1,.p 0 0),(2,.p 1 0)] rfl (hv_build (e := 65) (K := 2) (bytes := 24) [] rfl (by kernel_rfl) (by kernel_rfl) (by kernel_rfl) (by kernel_rfl) (by kernel_rfl) (rs := ([] : List Pce).map pceCells) rfl) ?_
 intro g1
 refine kHS 2 [1,2,3,5] [(1,.p 0 0),(2,.p 1 0),(3,.v (.slice (some ⟨g1,0,none⟩) 0 0)),(5,.v (.slice Arh r.held.length Crh))] rfl (hv_append (e := 65) (K := 2) (bytes := 24) (i := 0) (q := r.held.length) (new := r.held.map pceCells) (rs' := r.held.map pceCells) rfl rfl rfl rfl (by kernel_rfl) (by kernel_rfl) (by kernel_rfl) rfl (by simp) rfl (by simp) (fun ww hf => (hf (slF (.slice Arh r.held.length Crh) 2 (r.held.map pceCells)) (by simp))) (by intro r hr; obtain ⟨x,hx,rfl⟩ := List.mem_map.1 hr; exact ⟨rfl,by simp [pceCells,Value.oneCell']⟩) (by (try simp only [List.length_map,List.length_append,List.length_cons,List.length_nil,List.length_take,List.length_drop,maxLen]); omega) (by (try simp only [List.length_map,List.length_append,List.length_cons,List.length_nil,List.length_take,List.length_drop,maxLen]); omega)) ?_
 rintro ⟨v2a,v2c⟩
 refine kEF [1,2] ⟨[(1,.p 0 0),(2,.p 1 0)],[⟨26,rcvL r (.slice v2a r.held.length v2c)⟩,⟨26,rcvZ⟩],[],[rowF w.heap.size 65 2 (.slice v2a r.held.length v2c) (r.held.map pceCells),slF (.slice Arh r.held.length Crh) 2 (r.held.map pceCells)]⟩ ?_
 refine kQ ?_
 refine kEF [2] ⟨[(2,.p 1 0)],[⟨26,rcvL r (.slice v2a r.held.length v2c)⟩,⟨26,rcvL r (.slice v2a r.held.length v2c)⟩],[],[rowF w.heap.size 65 2 (.slice v2a r.held.length v2c) (r.held.map pceCells),slF (.slice Arh r.held.length Crh) 2 (r.held.map pceCells)]⟩ ?_
 refine kR ?_
 exact ⟨[.agg (rcvL r (.slice v2a r.held.length v2c)).toArray],by kernel_rfl,fun w' hb hf ha => by exact xo1 ((v2a,v2c)) rfl rfl (pW (hf _ m0) hB) hb⟩
theorem ycloneReceiver_c (r : Rcv) (r_heldV : Value) (w : World) (hl_r_heldV : Sl w r_heldV 2 (r.held.map pceCells)) (hkn : r.held.length ≤ 1048576) (B : Nat) (hB : B ≤ w.heap.size) : Calls Try.prog 36 #[.agg (rcvL r r_heldV).toArray] w fun e w' => XRs w w' e (α := Option Addr × Nat) (fun y => .agg (rcvL r (.slice y.1 r.held.length y.2)).toArray) (fun y => [ownF B (.slice y.1 r.held.length y.2) 2 (r.held.map pceCells)]) := by
 obtain ⟨Arh,Crh,hvrh⟩ := hl_r_heldV.form
 rw [List.length_map] at hvrh; subst hvrh
 have hnrh := hl_r_heldV.len; rw [List.length_map] at hnrh
 have hqrh := Sl.capLe hl_r_heldV
 refine x_callsA (args := [.agg (rcvL r (.slice Arh r.held.length Crh)).toArray]) (fn := Try.f36) [slF (.slice Arh r.held.length Crh) 2 (r.held.map pceCells)] Try.func36 rfl Try.ntmps36 rfl (by simp only [List.mem_cons,List.not_mem_nil,or_false,forall_eq_or_imp,forall_eq]; exact ⟨rfl,hl_r_heldV⟩) ?_
 refine kQ ?_
 refine kEF [1,2] ⟨[(1,.p 0 0),(2,.p 1 0)],[⟨26,rcvL r (.slice Arh r.held.length Crh)⟩,⟨26,rcvZ⟩],[],[slF (.slice Arh r.held.length Crh) 2 (r.held.map pceCells)]⟩ ?_
 refine kQ ?_
 refine kCS 2 [1,2,4] [(1,.p 0 0),(2,.p 1 0),(4,.v (.slice Arh r.held.length Crh))] 76 [.slice Arh r.held.length Crh] (some 5) rfl (xc_r fun ww hw hf => yClonePiece_c r.held (.slice Arh r.held.length Crh) ww (hf _ m0) (by assumption) w.heap.size hw) ?_
 rintro ⟨v1a,v1c⟩
 refine kEF [1,2] ⟨[(1,.p 0 0),(2,.p 1 0)],[⟨26,rcvL r (.slice v1a r.held.length v1c)⟩,⟨26,rcvZ⟩],[],[ownF w.heap.size (.slice v1a r.held.length v1c) 2 (r.held.map pceCells),slF (.slice Arh r.held.length Crh) 2 (r.held.map pceCells)]⟩ ?_
 refine kQ ?_
 refine kEF [2] ⟨[(2,.p 1 0)],[⟨26,rcvL r (.slice v1a r.held.length v1c)⟩,⟨26,rcvL r (.slice v1a r.held.length v1c)⟩],[],[ownF w.heap.size (.slice v1a r.held.length v1c) 2 (r.held.map pceCells),slF (.slice Arh r.held.length Crh) 2 (r.held.map pceCells)]⟩ ?_
 refine kR ?_
 exact ⟨[.agg (rcvL r (.slice v1a r.held.length v1c)).toArray],by kernel_rfl,fun w' hb hf ha => by exact xo1 ((v1a,v1c)) rfl rfl (pO (hf _ m0) hB) hb⟩
theorem yl18Free_c (l : List Int) (lV : Value) (m : Nat) (w : World) (hl_lV : Sl w lV 1 (l.map intRow)) (hm : m ≤ l.length) : Calls Try.prog 70 #[lV, .int .i64 (m : Int)] w fun e w' => e = .returned (.bool (freeFrom l m)) ∧ Below w.heap.size w w' := by
 obtain ⟨Al,Cl,hvl⟩ := hl_lV.form
 rw [List.length_map] at hvl; subst hvl
 have hnl := hl_lV.len; rw [List.length_map] at hnl
 have hql := Sl.capLe hl_lV
 refine x_calls (args := [.slice Al l.length Cl,.int .i64 (m : Int)]) (fn := Try.f70) [slF (.slice Al l.length Cl) 1 (l.map intRow)] Try.func70 rfl Try.ntmps70 rfl (by simp only [List.mem_cons,List.not_mem_nil,or_false,forall_eq_or_imp,forall_eq]; exact ⟨rfl,hl_lV⟩) ?_
 refine kQ ?_
 refine kEF [0,1] ⟨[(0,.v (.slice Al l.length Cl)),(1,.v (.int .i64 (m : Int)))],[],[],[slF (.slice Al l.length Cl) 1 (l.map intRow)]⟩ ?_
 refine kS ?_
 refine kQ ?_
 refine kES [0,5] [(0,.v (.slice Al l.length Cl)),(5,.v (.int .i64 (m : Int)))] ?_
 refine xw_block ?_
 refine xw_loopW (α := {x : Nat // (fun (k : Nat) => k ≤ l.length ∧ freeFrom l m = freeFrom l k) x}) (fun x => (fun (k : Nat) => (⟨[(0,.v (.slice Al l.length Cl)),(5,.v (.int .i64 (k : Int)))],[],[],[slF (.slice Al l.length Cl) 1 (l.map intRow)]⟩ : St)) x.1) (fun x => l.length - x.1) ⟨(m),⟨hm,rfl⟩⟩ (kF 0 0 [0,5]) ?_
 rintro ⟨k,hk,HK⟩
 try dsimp only
 try dsimp only at hk HK
 refine kS ?_
 refine kQ ?_
 refine kES [0,5,10] [(0,.v (.slice Al l.length Cl)),(5,.v (.int .i64 (k : Int))),(10,.v (.bool (decide ((k : Int) < ((l.length : Nat) : Int)))))] ?_
 refine kC (decide ((k : Int) < ((l.length : Nat) : Int))) (fun h1 => ?_) (fun h1 => ?_)
 have h1p := of_decide_eq_true h1
 have hlt : k < l.length := by simpa using h1
 obtain ⟨x,hx⟩ : ∃ x,l[k]? = some x := ⟨_,List.getElem?_eq_getElem hlt⟩
 have hfs := freeFrom_step hx
 refine kK ?_
 refine kS ?_
 refine xw_block ?_
 refine kQ ?_
 refine xl_indexS (kd := .i64) (T := 62) (e := 3) (K := 1) 2 [0,5,13,14] [(0,.v (.slice Al l.length Cl)),(5,.v (.int .i64 (k : Int))),(13,.v (.slice Al l.length Cl)),(14,.v (.int .i64 (k : Int)))] k [.int .i64 x] (slF (.slice Al l.length Cl) 1 (l.map intRow)) (by kernel_rfl) rfl (by kernel_rfl) rfl rfl (by kernel_rfl) (by kernel_rfl) (by kernel_rfl) (by kernel_rfl) hlt (by simp) (fun w h => h) (fun b h => h) (by simp only [List.getElem?_map,hx]; rfl) ?_
 refine kES [0,5,17] [(0,.v (.slice Al l.length Cl)),(5,.v (.int .i64 (k : Int))),(17,.v (.bool (decide (x ≥ 0))))] ?_
 refine kC (decide (x ≥ 0)) (fun h2 => ?_) (fun h2 => ?_)
 have h2p := of_decide_eq_true h2
 refine kQ ?_
 refine kES [4] [(4,.v (.bool false))] ?_
 refine kR ?_
 have hmod : freeFrom l m = false := by first | (rw [HK]; exact hfe) | (rw [HK,hfs]; simp; omega) | (rw [HK,hfs]; simp [*])
 exact ⟨[.bool false],by kernel_rfl,fun w' hb hf => by rw [hmod]; exact ⟨rfl,hb⟩⟩
 have h2p := of_decide_eq_false h2
 refine kK ?_
 refine kG ?_
 refine kRS 3 [0,5] [(0,.v (.slice Al l.length Cl)),(5,.v (.int .i64 (IntKind.i64.wrap ((k : Int) + 1))))] ?_
 refine xl_eqS (t' := [(0,.v (.slice Al l.length Cl)),(5,.v (.int .i64 ((k : Int) + 1)))]) (by rw [show (IntKind.i64.wrap ((k : Int) + 1)) = ((k : Int) + 1) from wrap_id (by omega) (by omega)]) ?_
 refine kES [0,5] [(0,.v (.slice Al l.length Cl)),(5,.v (.int .i64 ((k : Int) + 1)))] ?_
 exact ⟨⟨(k + 1),⟨by omega,by rw [HK,hfs]; simp; omega⟩⟩,kF 0 0 [0,5],by show l.length - (k + 1) < l.length - k; omega⟩
 have h1p := of_decide_eq_false h1
 have hge : k = l.length := by simp at h1; omega
 have hfe := freeFrom_end l
 subst hge
 refine xw_exit ?_
 refine kQ ?_
 refine kES [4] [(4,.v (.bool true))] ?_
 refine kR ?_
 have hmod : freeFrom l m = true := by first | (rw [HK]; exact hfe) | (rw [HK,hfs]; simp; omega) | (rw [HK,hfs]; simp [*])
 exact ⟨[.bool true],by kernel_rfl,fun w' hb hf => by rw [hmod]; exact ⟨rfl,hb⟩⟩
theorem yl18Slots_c (r : Rcv) (r_heldV : Value) (w : World) (hl_r_heldV : Sl w r_heldV 2 (r.held.map pceCells)) (hkn : r.held.length ≤ 1048576) (hheld : ∀ p ∈ r.held, 0 < p.off ∧ p.off + (p.text.size : Int) ≤ 32) (B : Nat) (hB : B ≤ w.heap.size) : Calls Try.prog 68 #[.agg (rcvL r r_heldV).toArray] w fun e w' => XRs w w' e (α := Option Addr × Nat) (fun y => .slice y.1 ((slotsOf r).length) y.2) (fun y => [rowF B 3 1 (.slice y.1 ((slotsOf r).length) y.2) ((slotsOf r).map intRow)]) := by
 obtain ⟨Arh,Crh,hvrh⟩ := hl_r_heldV.form
 rw [List.length_map] at hvrh; subst hvrh
 have hnrh := hl_r_heldV.len; rw [List.length_map] at hnrh
 have hqrh := Sl.capLe hl_r_heldV
 refine x_callsA (args := [.agg (rcvL r (.slice Arh r.held.length Crh)).toArray]) (fn := Try.f68) [slF (.slice Arh r.held.length Crh) 2 (r.held.map pceCells)] Try.func68 rfl Try.ntmps68 rfl (by simp only [List.mem_cons,List.not_mem_nil,or_false,forall_eq_or_imp,forall_eq]; exact ⟨rfl,hl_r_heldV⟩) ?_
 refine kQ ?_
 refine kEF [1] ⟨[(1,.p 0 0)],[⟨26,rcvL r (.slice Arh r.held.length Crh)⟩],[],[slF (.slice Arh r.held.length Crh) 2 (r.held.map pceCells)]⟩ ?_
 refine kQ ?_
 refine kHS 0 [1] [(1,.p 0 0)] rfl (hv_make (kl := .i64) (kc := .i64) (e := 3) (K := 1) (bytes := 8) (m := 33) (z := .int .i64 0) (rs := (List.replicate 33 0).map intRow) rfl (by kernel_rfl) (by kernel_rfl) (by kernel_rfl) (by kernel_rfl) (by (try simp only [List.length_map,List.length_append,List.length_cons,List.length_nil,List.length_take,List.length_drop,maxLen]); omega) (by (try simp only [List.length_map,List.length_append,List.length_cons,List.length_nil,List.length_take,List.length_drop,maxLen]); omega) (by rw [List.map_replicate]; rfl)) ?_
 intro g1
 refine kED [1,3] [(3,.v (.slice (some ⟨g1,0,none⟩) 33 33))] ?_
 refine kS ?_
 refine kQ ?_
 refine kED [1,3,4] [(4,.v (.int .i64 0))] ?_
 refine xw_block ?_
 refine xw_loopW (α := {x : Nat × List Int // (fun (k : Nat) (l : List Int) => k ≤ 33 ∧ l.length = 33 ∧ l.take k = List.replicate k (-1)) x.1 x.2}) (fun x => (fun (k : Nat) (l : List Int) => (⟨[(1,.p 0 0),(3,.v (.slice (some ⟨g1,0,none⟩) 33 33)),(4,.v (.int .i64 (k : Int)))],[⟨26,rcvL r (.slice Arh r.held.length Crh)⟩],[],[rowF w.heap.size 3 1 (.slice (some ⟨g1,0,none⟩) 33 33) (l.map intRow),slF (.slice Arh r.held.length Crh) 2 (r.held.map pceCells)]⟩ : St)) x.1.1 x.1.2) (fun x => (fun (k : Nat) (l : List Int) => 33 - k) x.1.1 x.1.2) ⟨(0,(List.replicate 33 0)),⟨Nat.zero_le _,by simp,rfl⟩⟩ ((wk_pick [0,1] [rowF w.heap.size 3 1 (.slice (some ⟨g1,0,none⟩) 33 33) ((List.replicate 33 0).map intRow),slF (.slice Arh r.held.length Crh) 2 (r.held.map pceCells)] (by kernel_rfl) (by kernel_rfl)).trans <| kF 1 0 [1,3,4]) ?_
 rintro ⟨⟨k,l⟩,hk,hl,HK⟩
 try dsimp only
 try dsimp only at hk hl HK
 refine kS ?_
 refine kQ ?_
 refine kED [1,3,4,11] [(11,.v (.bool (decide ((k : Int) < 33))))] ?_
 refine kC (decide ((k : Int) < 33)) (fun h2 => ?_) (fun h2 => ?_)
 have h2p := of_decide_eq_true h2
 have hlt : k < 33 := by simp at h2; omega
 obtain ⟨x0,hx0⟩ : ∃ x,l[k]? = some x := ⟨_,List.getElem?_eq_getElem (by omega)⟩
 refine kK ?_
 refine kS ?_
 refine xw_block ?_
 refine kG ?_
 refine kOD 2 [1,3,4,14,15] [(14,.v (.slice (some ⟨g1,0,none⟩) 33 33)),(15,.v (.int .i64 (k : Int)))] (.pointer (some ⟨g1,k * 1,none⟩)) rfl (fun _ _ _ ww hr => act_ix (kd := .i64) (T := 62) (e := 3) (K := 1) (g := g1) (N := 33) (cap := 33) k rfl hr.1 rfl rfl (by kernel_rfl) (by kernel_rfl) (by kernel_rfl) hlt ww) ?_
 refine xl_hs 0 [1,3,4,16] ⟨[(1,.p 0 0),(3,.v (.slice (some ⟨g1,0,none⟩) 33 33)),(4,.v (.int .i64 (k : Int))),(16,.v (.pointer (some ⟨g1,k * 1,none⟩)))],[⟨26,rcvL r (.slice Arh r.held.length Crh)⟩],[],[rowF w.heap.size 3 1 (.slice (some ⟨g1,0,none⟩) 33 33) (l.map intRow),slF (.slice Arh r.held.length Crh) 2 (r.held.map pceCells)]⟩ (by kernel_rfl) rfl (by kernel_rfl) rfl (by kernel_rfl) (HSg.hs (hs_stR (g := g1) (B := w.heap.size) (e := 3) (K := 1) (N := 33) (cap := 33) (rs := (l.map intRow)) (rs' := (l.set k (-1)).map intRow) (v := (.int .i64 (-1))) (i := 0) (off := k * 1) k 0 [.int .i64 x0] (row' := [.int .i64 (-1)]) rfl rfl (by kernel_rfl) rfl (by kernel_rfl) (by kernel_rfl) (by kernel_rfl) (by kernel_rfl) (Nat.le_refl _) (by simp only [List.getElem?_map,hx0]; rfl) (by kernel_rfl) rfl (by rw [List.map_set]; rfl))) ?_
 refine kED [1,3,4] [] ?_
 refine kG ?_
 refine kRS 3 [1,3,4] [(1,.p 0 0),(3,.v (.slice (some ⟨g1,0,none⟩) 33 33)),(4,.v (.int .i64 (IntKind.i64.wrap ((k : Int) + 1))))] ?_
 refine xl_eqS (t' := [(1,.p 0 0),(3,.v (.slice (some ⟨g1,0,none⟩) 33 33)),(4,.v (.int .i64 ((k : Int) + 1)))]) (by rw [show (IntKind.i64.wrap ((k : Int) + 1)) = ((k : Int) + 1) from wrap_id (by omega) (by omega)]) ?_
 refine kED [1,3,4] [] ?_
 exact ⟨⟨(k + 1,l.set k (-1)),⟨hlt,(by rw [List.length_set]; exact hl),init_step HK (by omega)⟩⟩,kF 1 0 [1,3,4],by show (fun (k : Nat) (l : List Int) => 33 - k) (k + 1) (l.set k (-1)) < 33 - k; (dsimp only; omega)⟩
 have h2p := of_decide_eq_false h2
 have hk33 : k = 33 := by simp at h2; omega
 have hl1 : l = List.replicate 33 (-1) := by rw [hk33,← hl,List.take_length] at HK; rw [HK,hl]
 refine xw_exit ?_
 refine kS ?_
 refine kQ ?_
 refine kED [1,3,5] [(5,.v (.int .i64 0))] ?_
 refine xw_block ?_
 refine xw_loopW (α := {x : Nat × List Int // (fun (i : Nat) (l2 : List Int) => i ≤ r.held.length ∧ l2.length = 33 ∧ putHeld l r.held = putHeld l2 (r.held.drop i)) x.1 x.2}) (fun x => (fun (i : Nat) (l2 : List Int) => (⟨[(1,.p 0 0),(3,.v (.slice (some ⟨g1,0,none⟩) 33 33)),(5,.v (.int .i64 (i : Int)))],[⟨26,rcvL r (.slice Arh r.held.length Crh)⟩],[],[rowF w.heap.size 3 1 (.slice (some ⟨g1,0,none⟩) 33 33) (l2.map intRow),slF (.slice Arh r.held.length Crh) 2 (r.held.map pceCells)]⟩ : St)) x.1.1 x.1.2) (fun x => (fun (i : Nat) (l2 : List Int) => r.held.length - i) x.1.1 x.1.2) ⟨(0,l),⟨Nat.zero_le _,hl,rfl⟩⟩ ((wk_pick [0,1] [rowF w.heap.size 3 1 (.slice (some ⟨g1,0,none⟩) 33 33) (l.map intRow),slF (.slice Arh r.held.length Crh) 2 (r.held.map pceCells)] (by kernel_rfl) (by kernel_rfl)).trans <| kF 1 0 [1,3,5]) ?_
 rintro ⟨⟨i,l2⟩,hi,hl2,H2⟩
 try dsimp only
 try dsimp only at hi hl2 H2
 refine kS ?_
 refine kQ ?_
 refine kED [1,3,5,21] [(21,.v (.bool (decide ((i : Int) < ((r.held.length : Nat) : Int)))))] ?_
 refine kC (decide ((i : Int) < ((r.held.length : Nat) : Int))) (fun h3 => ?_) (fun h3 => ?_)
 have h3p := of_decide_eq_true h3
 have hlt2 : i < r.held.length := by simpa using h3
 obtain ⟨pp,hx⟩ : ∃ p,r.held[i]? = some p := ⟨_,List.getElem?_eq_getElem hlt2⟩
 have hin := hheld pp (List.mem_of_getElem? hx)
 refine kK ?_
 refine kS ?_
 refine xw_block ?_
 refine kQ ?_
 refine kED [1,3,5,6] [(6,.v (.int .i64 0))] ?_
 refine xw_block ?_
 refine xw_loopW (α := {x : Nat × List Int // (fun (q : Nat) (l3 : List Int) => q ≤ pp.text.size ∧ l3.length = 33 ∧ l3 = putText l2 pp.off.toNat pp.text q) x.1 x.2}) (fun x => (fun (q : Nat) (l3 : List Int) => (⟨[(1,.p 0 0),(3,.v (.slice (some ⟨g1,0,none⟩) 33 33)),(5,.v (.int .i64 (i : Int))),(6,.v (.int .i64 (q : Int)))],[⟨26,rcvL r (.slice Arh r.held.length Crh)⟩],[],[rowF w.heap.size 3 1 (.slice (some ⟨g1,0,none⟩) 33 33) (l3.map intRow),slF (.slice Arh r.held.length Crh) 2 (r.held.map pceCells)]⟩ : St)) x.1.1 x.1.2) (fun x => (fun (q : Nat) (l3 : List Int) => pp.text.size - q) x.1.1 x.1.2) ⟨(0,l2),⟨Nat.zero_le _,hl2,rfl⟩⟩ ((wk_pick [0,1] [rowF w.heap.size 3 1 (.slice (some ⟨g1,0,none⟩) 33 33) (l2.map intRow),slF (.slice Arh r.held.length Crh) 2 (r.held.map pceCells)] (by kernel_rfl) (by kernel_rfl)).trans <| kF 1 0 [1,3,5,6]) ?_
 rintro ⟨⟨q,l3⟩,hq,hl3,H3⟩
 try dsimp only
 try dsimp only at hq hl3 H3
 refine kS ?_
 refine kQ ?_
 refine xl_indexD (kd := .i64) (T := 24) (e := 65) (K := 2) 4 [1,3,5,6,24,26,27] [(24,.v (.int .i64 (q : Int))),(26,.v (.slice Arh r.held.length Crh)),(27,.v (.int .i64 (i : Int)))] i [.int .i64 pp.off,.string pp.text] (slF (.slice Arh r.held.length Crh) 2 (r.held.map pceCells)) (by kernel_rfl) rfl (by kernel_rfl) rfl rfl (by kernel_rfl) (by kernel_rfl) (by kernel_rfl) (by kernel_rfl) hlt2 (by simp) (fun w h => h) (fun b h => h) (by simp only [List.getElem?_map,hx]; rfl) ?_
 refine kED [1,3,5,6,32] [(32,.v (.bool (decide ((q : Int) < (pp.text.size : Int)))))] ?_
 refine kC (decide ((q : Int) < (pp.text.size : Int))) (fun h4 => ?_) (fun h4 => ?_)
 have h4p := of_decide_eq_true h4
 have hlt3 : q < pp.text.size := by simpa using h4
 have hbr := byteAt_rng pp.text q
 obtain ⟨x3,hx3⟩ : ∃ x,l3[pp.off.toNat + q]? = some x := ⟨_,List.getElem?_eq_getElem (by omega)⟩
 refine kK ?_
 refine kS ?_
 refine xw_block ?_
 refine xw_wk (wkf (s' := ⟨[(1,.p 0 0),(3,.v (.slice (some ⟨g1,0,none⟩) 33 33)),(5,.v (.int .i64 (i : Int))),(6,.v (.int .i64 (q : Int))),(32,.v (.bool (decide ((q : Int) < (pp.text.size : Int)))))],[⟨26,rcvL r (.slice Arh r.held.length Crh)⟩],[],[rowF w.heap.size 3 1 (.slice (some ⟨g1,0,none⟩) 33 33) (l3.map intRow),slF (.slice Arh r.held.length Crh) 2 (r.held.map pceCells)]⟩) 1 0 [1,3,5,6,32] (by kernel_rfl)) ?_
 refine xws_start ?_
 refine xws_row (K := 2) (j := i) [.int .i64 pp.off,.string pp.text] (slF (.slice Arh r.held.length Crh) 2 (r.held.map pceCells)) (fun _ _ h => h) (by simp) (fun w h => h) (fun b h => h) (by simp only [List.getElem?_map,hx]; rfl) (fun bq5 offq5 hAq5 => ?_)
 refine xws_know (ψ := bq5 ≠ g1) (fun _ _ _ _ hr => row_ne hr 0 1 rfl rfl rfl (by decide) hAq5 i [.int .i64 pp.off,.string pp.text] (by simp only [List.getElem?_map,hx]; rfl)) (fun hneq5g1 => ?_)
 refine xws_row (K := 2) (j := i) [.int .i64 pp.off,.string pp.text] (slF (.slice Arh r.held.length Crh) 2 (r.held.map pceCells)) (fun _ _ h => h) (by simp) (fun w h => h) (fun b h => h) (by simp only [List.getElem?_map,hx]; rfl) (fun bq6 offq6 hAq6 => ?_)
 refine xws_know (ψ := bq6 ≠ g1) (fun _ _ _ _ hr => row_ne hr 0 1 rfl rfl rfl (by decide) hAq6 i [.int .i64 pp.off,.string pp.text] (by simp only [List.getElem?_map,hx]; rfl)) (fun hneq6g1 => ?_)
 refine xws_regionE [] (by kernel_rfl) (fun ρ σ hq7 => ?_)
 refine kTS [0,1,2,3,7,9,10,11,15] [50,46,45,42,38,37,35,1,3,5,6] 11 [(50,.v (.int .i64 (q : Int))),(46,.v (.int .i64 (i : Int))),(45,.v (.slice Arh r.held.length Crh)),(42,.v (.int .i64 (q : Int))),(38,.v (.int .i64 (i : Int))),(37,.v (.slice Arh r.held.length Crh)),(35,.v (.slice (some ⟨g1,0,none⟩) 33 33)),(1,.p 0 0),(3,.v (.slice (some ⟨g1,0,none⟩) 33 33)),(5,.v (.int .i64 (i : Int))),(6,.v (.int .i64 (q : Int)))] ?_
 refine xe_takeI (kd := .i64) (T := 24) (e := 65) (K := 2) (j := i) (A := Arh) (len := r.held.length) (cap := Crh) 4 0 _ rfl (by kernel_rfl) (by kernel_rfl) (by kernel_rfl) (fun _ _ h => h) (by kernel_rfl) rfl rfl (by kernel_rfl) (by kernel_rfl) (by kernel_rfl) (by kernel_rfl) hlt2 hAq5 hq7.1.2 (by kernel_rfl) rfl ?_
 refine kTS [5,6,8] [43,50,46,45,35,1,3,5,6] 7 [(43,.v (.int .i64 (IntKind.i64.wrap (pp.off + (q : Int))))),(50,.v (.int .i64 (q : Int))),(46,.v (.int .i64 (i : Int))),(45,.v (.slice Arh r.held.length Crh)),(35,.v (.slice (some ⟨g1,0,none⟩) 33 33)),(1,.p 0 0),(3,.v (.slice (some ⟨g1,0,none⟩) 33 33)),(5,.v (.int .i64 (i : Int))),(6,.v (.int .i64 (q : Int)))] ?_
 refine xe_eqS (t := [(43,.v (.int .i64 (IntKind.i64.wrap (pp.off + (q : Int))))),(50,.v (.int .i64 (q : Int))),(46,.v (.int .i64 (i : Int))),(45,.v (.slice Arh r.held.length Crh)),(35,.v (.slice (some ⟨g1,0,none⟩) 33 33)),(1,.p 0 0),(3,.v (.slice (some ⟨g1,0,none⟩) 33 33)),(5,.v (.int .i64 (i : Int))),(6,.v (.int .i64 (q : Int)))]) (t' := [(43,.v (.int .i64 ((pp.off.toNat + q : Nat) : Int))),(50,.v (.int .i64 (q : Int))),(46,.v (.int .i64 (i : Int))),(45,.v (.slice Arh r.held.length Crh)),(35,.v (.slice (some ⟨g1,0,none⟩) 33 33)),(1,.p 0 0),(3,.v (.slice (some ⟨g1,0,none⟩) 33 33)),(5,.v (.int .i64 (i : Int))),(6,.v (.int .i64 (q : Int)))]) (by rw [show (IntKind.i64.wrap (pp.off + (q : Int))) = ((pp.off.toNat + q : Nat) : Int) from by rw [wrap_id (by omega) (by omega)]; omega]) ?_
 refine xe_takeI (kd := .i64) (T := 24) (e := 65) (K := 2) (j := i) (A := Arh) (len := r.held.length) (cap := Crh) 12 1 _ rfl (by kernel_rfl) (by kernel_rfl) (by kernel_rfl) (fun _ _ h => h) (by kernel_rfl) rfl rfl (by kernel_rfl) (by kernel_rfl) (by kernel_rfl) (by kernel_rfl) hlt2 hAq6 hq7.2 (by kernel_rfl) rfl ?_
 refine kTS [13,14] [49,43,50,35,1,3,5,6] 4 [(49,.v (.string pp.text)),(43,.v (.int .i64 ((pp.off.toNat + q : Nat) : Int))),(50,.v (.int .i64 (q : Int))),(35,.v (.slice (some ⟨g1,0,none⟩) 33 33)),(1,.p 0 0),(3,.v (.slice (some ⟨g1,0,none⟩) 33 33)),(5,.v (.int .i64 (i : Int))),(6,.v (.int .i64 (q : Int)))] ?_
 refine kX 16 (.int .u8 (byteAt pp.text q)) rfl (fun _ _ ww hA => act_tix (kd := .i64) (t := pp.text) q hA rfl rfl (by kernel_rfl) (by kernel_rfl) hlt3 ww) ?_
 refine kTS [17] [52,43,35,1,3,5,6] 2 [(52,.v (.int .i64 (IntKind.i64.wrap (byteAt pp.text q)))),(43,.v (.int .i64 ((pp.off.toNat + q : Nat) : Int))),(35,.v (.slice (some ⟨g1,0,none⟩) 33 33)),(1,.p 0 0),(3,.v (.slice (some ⟨g1,0,none⟩) 33 33)),(5,.v (.int .i64 (i : Int))),(6,.v (.int .i64 (q : Int)))] ?_
 refine xe_eqS (t := [(52,.v (.int .i64 (IntKind.i64.wrap (byteAt pp.text q)))),(43,.v (.int .i64 ((pp.off.toNat + q : Nat) : Int))),(35,.v (.slice (some ⟨g1,0,none⟩) 33 33)),(1,.p 0 0),(3,.v (.slice (some ⟨g1,0,none⟩) 33 33)),(5,.v (.int .i64 (i : Int))),(6,.v (.int .i64 (q : Int)))]) (t' := [(52,.v (.int .i64 (byteAt pp.text q))),(43,.v (.int .i64 ((pp.off.toNat + q : Nat) : Int))),(35,.v (.slice (some ⟨g1,0,none⟩) 33 33)),(1,.p 0 0),(3,.v (.slice (some ⟨g1,0,none⟩) 33 33)),(5,.v (.int .i64 (i : Int))),(6,.v (.int .i64 (q : Int)))]) (by rw [show (IntKind.i64.wrap (byteAt pp.text q)) = (byteAt pp.text q) from wrap_id (by omega) (by omega)]) ?_
 refine kX 18 (.pointer (some ⟨g1,(pp.off.toNat + q) * 1,none⟩)) rfl (fun _ _ ww hA => act_ix (kd := .i64) (T := 62) (e := 3) (K := 1) (g := g1) (N := 33) (cap := 33) (pp.off.toNat + q) rfl hA rfl rfl (by kernel_rfl) (by kernel_rfl) (by kernel_rfl) (by omega) ww) ?_
 refine kA [19] ?_
 refine xs_hsG 19 g1 rfl (by kernel_rfl) (by kernel_rfl) (by kernel_rfl) (under_t under_nil) (fun kk rr hk => match kk,hk with | 0,_ => .inr (fun h => hneq5g1 ((congrArg Prod.fst hq7.1.2).symm.trans h)) | 1,_ => .inr (fun h => hneq6g1 ((congrArg Prod.fst hq7.2).symm.trans h)) | nn + 2,hk => (by simp [addRow] at hk)) (hs_stR (g := g1) (B := w.heap.size) (e := 3) (K := 1) (N := 33) (cap := 33) (rs := (l3.map intRow)) (rs' := (l3.set (pp.off.toNat + q) (byteAt pp.text q)).map intRow) (v := (.int .i64 (byteAt pp.text q))) (i := 0) (off := (pp.off.toNat + q) * 1) (pp.off.toNat + q) 0 [.int .i64 x3] (row' := [.int .i64 (byteAt pp.text q)]) rfl rfl (by kernel_rfl) rfl (by kernel_rfl) (by kernel_rfl) (by kernel_rfl) (by kernel_rfl) (Nat.le_refl _) (by simp only [List.getElem?_map,hx3]; rfl) (by kernel_rfl) rfl (by rw [List.map_set]; rfl)) ?_
 refine kZ ?_
 refine kG ?_
 refine kRS 3 [1,3,5,6] [(1,.p 0 0),(3,.v (.slice (some ⟨g1,0,none⟩) 33 33)),(5,.v (.int .i64 (i : Int))),(6,.v (.int .i64 (IntKind.i64.wrap ((q : Int) + 1))))] ?_
 refine xl_eqS (t' := [(1,.p 0 0),(3,.v (.slice (some ⟨g1,0,none⟩) 33 33)),(5,.v (.int .i64 (i : Int))),(6,.v (.int .i64 ((q : Int) + 1)))]) (by rw [show (IntKind.i64.wrap ((q : Int) + 1)) = ((q : Int) + 1) from wrap_id (by omega) (by omega)]) ?_
 refine kED [1,3,5,6] [] ?_
 exact ⟨⟨(q + 1,(l3.set (pp.off.toNat + q) (byteAt pp.text q))),⟨hlt3,(by rw [List.length_set]; exact hl3),(by rw [H3]; rfl)⟩⟩,kF 1 0 [1,3,5,6],by show (fun (q : Nat) (l3 : List Int) => pp.text.size - q) (q + 1) (l3.set (pp.off.toNat + q) (byteAt pp.text q)) < pp.text.size - q; (dsimp only; omega)⟩
 have h4p := of_decide_eq_false h4
 have hq3 : q = pp.text.size := by simp at h4; omega
 refine xw_exit ?_
 refine kG ?_
 refine kRS 3 [1,3,5] [(1,.p 0 0),(3,.v (.slice (some ⟨g1,0,none⟩) 33 33)),(5,.v (.int .i64 (IntKind.i64.wrap ((i : Int) + 1))))] ?_
 refine xl_eqS (t' := [(1,.p 0 0),(3,.v (.slice (some ⟨g1,0,none⟩) 33 33)),(5,.v (.int .i64 ((i : Int) + 1)))]) (by rw [show (IntKind.i64.wrap ((i : Int) + 1)) = ((i : Int) + 1) from wrap_id (by omega) (by omega)]) ?_
 refine kED [1,3,5] [] ?_
 exact ⟨⟨(i + 1,l3),⟨hlt2,hl3,(by rw [H2,drop_cons_of hx,putHeld,← hq3,← H3])⟩⟩,kF 1 0 [1,3,5],by show (fun (i : Nat) (l2 : List Int) => r.held.length - i) (i + 1) l3 < r.held.length - i; (dsimp only; omega)⟩
 have h3p := of_decide_eq_false h3
 have hi2 : i = r.held.length := by simp at h3; omega
 rw [hi2,List.drop_length] at H2; simp only [putHeld] at H2
 refine xw_exit ?_
 refine kQ ?_
 refine kES [2] [(2,.v (.slice (some ⟨g1,0,none⟩) 33 33))] ?_
 refine kR ?_
 have hmod : slotsOf r = l2 := by (unfold slotsOf; rw [← hl1]; exact H2)
 exact ⟨[.slice (some ⟨g1,0,none⟩) 33 33],by kernel_rfl,fun w' hb hf ha => by rw [hmod,hl2]; exact xo1 ((((some ⟨g1,0,none⟩) : Option Addr),33)) rfl rfl (pW (hf _ m0) hB) hb⟩
theorem yl18Pieces_c (l : List Int) (lV : Value) (m : Nat) (w : World) (hl_lV : Sl w lV 1 (l.map intRow)) (hm : m ≤ l.length) (hll : l.length ≤ 64) (hby : ∀ x ∈ l, x ≤ 255) (B : Nat) (hB : B ≤ w.heap.size) : Calls Try.prog 71 #[lV, .int .i64 (m : Int)] w fun e w' => XRs w w' e (α := Option Addr × Nat) (fun y => .slice y.1 ((pcs [] 0 (l.drop m)).length) y.2) (fun y => [rowF B 65 2 (.slice y.1 ((pcs [] 0 (l.drop m)).length) y.2) ((pcs [] 0 (l.drop m)).map pceCells)]) := by
 obtain ⟨Al,Cl,hvl⟩ := hl_lV.form
 rw [List.length_map] at hvl; subst hvl
 have hnl := hl_lV.len; rw [List.length_map] at hnl
 have hql := Sl.capLe hl_lV
 refine x_callsA (args := [.slice Al l.length Cl,.int .i64 (m : Int)]) (fn := Try.f71) [slF (.slice Al l.length Cl) 1 (l.map intRow)] Try.func71 rfl Try.ntmps71 rfl (by simp only [List.mem_cons,List.not_mem_nil,or_false,forall_eq_or_imp,forall_eq]; exact ⟨rfl,hl_lV⟩) ?_
 refine kQ ?_
 refine kEF [0,1] ⟨[(0,.v (.slice Al l.length Cl)),(1,.v (.int .i64 (m : Int)))],[],[],[slF (.slice Al l.length Cl) 1 (l.map intRow)]⟩ ?_
 refine kQ ?_
 refine kHS 0 [0,1] [(0,.v (.slice Al l.length Cl)),(1,.v (.int .i64 (m : Int)))] rfl (hv_build (e := 65) (K := 2) (bytes := 24) [] rfl (by kernel_rfl) (by kernel_rfl) (by kernel_rfl) (by kernel_rfl) (by kernel_rfl) (rs := ([] : List Pce).map pceCells) rfl) ?_
 intro g1
 refine kES [0,1,5] [(0,.v (.slice Al l.length Cl)),(1,.v (.int .i64 (m : Int))),(5,.v (.slice (some ⟨g1,0,none⟩) 0 0))] ?_
 refine kS ?_
 refine kQ ?_
 refine kES [0,1,5,6] [(0,.v (.slice Al l.length Cl)),(1,.v (.int .i64 (m : Int))),(5,.v (.slice (some ⟨g1,0,none⟩) 0 0)),(6,.v (.int .i64 (m : Int)))] ?_
 refine xw_block ?_
 refine xw_loopW (α := {x : Nat × List Pce × Option Addr × Nat × Nat // (fun (i : Nat) (out : List Pce) (A1 : Option Addr) (c1 : Nat) (n : Nat) => (m ≤ i ∧ i ≤ l.length) ∧ pcs [] 0 (l.drop m) = pcs out (i - m) (l.drop i) ∧ (∀ p ∈ out,0 ≤ p.off ∧ p.off + (p.text.size : Int) ≤ ((i - m : Nat) : Int)) ∧ out.length = n ∧ n ≤ i) x.1 x.2.1 x.2.2.1 x.2.2.2.1 x.2.2.2.2}) (fun x => (fun (i : Nat) (out : List Pce) (A1 : Option Addr) (c1 : Nat) (n : Nat) => (⟨[(0,.v (.slice Al l.length Cl)),(1,.v (.int .i64 (m : Int))),(5,.v (.slice A1 n c1)),(6,.v (.int .i64 (i : Int)))],[],[],[rowF w.heap.size 65 2 (.slice A1 n c1) (out.map pceCells),slF (.slice Al l.length Cl) 1 (l.map intRow)]⟩ : St)) x.1.1 x.1.2.1 x.1.2.2.1 x.1.2.2.2.1 x.1.2.2.2.2) (fun x => (fun (i : Nat) (out : List Pce) (A1 : Option Addr) (c1 : Nat) (n : Nat) => l.length - i) x.1.1 x.1.2.1 x.1.2.2.1 x.1.2.2.2.1 x.1.2.2.2.2) ⟨(m,([] : List Pce),(some ⟨g1,0,none⟩),0,0),⟨⟨Nat.le_refl _,hm⟩,(by rw [Nat.sub_self]),(by simp),rfl,Nat.zero_le _⟩⟩ ((wk_pick [0,1] [rowF w.heap.size 65 2 (.slice (some ⟨g1,0,none⟩) 0 0) (([] : List Pce).map pceCells),slF (.slice Al l.length Cl) 1 (l.map intRow)] (by kernel_rfl) (by kernel_rfl)).trans <| kF 0 0 [0,1,5,6]) ?_
 rintro ⟨⟨i,out,A1,c1,n⟩,hi,HP,hbd,hn,hni⟩
 try dsimp only
 try dsimp only at hi HP hbd hn hni
 refine kS ?_
 refine kQ ?_
 refine kES [0,1,5,6,13] [(0,.v (.slice Al l.length Cl)),(1,.v (.int .i64 (m : Int))),(5,.v (.slice A1 n c1)),(6,.v (.int .i64 (i : Int))),(13,.v (.bool (decide ((i : Int) < ((l.length : Nat) : Int)))))] ?_
 refine kC (decide ((i : Int) < ((l.length : Nat) : Int))) (fun h2 => ?_) (fun h2 => ?_)
 have h2p := of_decide_eq_true h2
 have hlt : i < l.length := by simpa using h2
 obtain ⟨x,hx⟩ : ∃ x,l[i]? = some x := ⟨_,List.getElem?_eq_getElem hlt⟩
 have hx255 := hby x (List.mem_of_getElem? hx)
 have hps := pcs_step (out := out) hx hi.1
 refine xw_know (φ := ∃ b off,Al = some ⟨b,off,none⟩) (fun _ _ _ _ hr => know_sl hr (K := 1) (rs := l.map intRow) 1 rfl (j := i) (row := [.int .i64 x]) (by simp only [List.getElem?_map,hx]; rfl)) ?_
 rintro ⟨bb,ob,hbb⟩
 refine kK ?_
 refine kS ?_
 refine xw_block ?_
 refine kS ?_
 refine kQ ?_
 refine kOS 2 [0,1,5,6,16,17] [(0,.v (.slice Al l.length Cl)),(1,.v (.int .i64 (m : Int))),(5,.v (.slice A1 n c1)),(6,.v (.int .i64 (i : Int))),(16,.v (.slice Al l.length Cl)),(17,.v (.int .i64 (i : Int)))] (.pointer (some ⟨bb,ob + i * 1,none⟩)) rfl (fun _ _ _ ww hr => act_ixO (kd := .i64) (T := 62) (e := 3) (K := 1) (b := bb) (off := ob) (N := l.length) (cap := Cl) i hbb hr.1 rfl rfl (by kernel_rfl) (by kernel_rfl) (by kernel_rfl) hlt ww) ?_
 refine kOS 0 [0,1,5,6,18] [(0,.v (.slice Al l.length Cl)),(1,.v (.int .i64 (m : Int))),(5,.v (.slice A1 n c1)),(6,.v (.int .i64 (i : Int))),(18,.v (.pointer (some ⟨bb,ob + i * 1,none⟩)))] (.int .i64 x) rfl (fun _ _ _ ww hr => ldS_run (j := i) (row := [.int .i64 x]) (slF (.slice Al l.length Cl) 1 (l.map intRow)) hr rfl (by kernel_rfl) (by simp) (by simp only [List.getElem?_map,hx]; rfl) (by kernel_rfl) hbb rfl) ?_
 refine kES [0,1,5,6,20] [(0,.v (.slice Al l.length Cl)),(1,.v (.int .i64 (m : Int))),(5,.v (.slice A1 n c1)),(6,.v (.int .i64 (i : Int))),(20,.v (.bool (decide (x < 0))))] ?_
 refine kC (decide (x < 0)) (fun h3 => ?_) (fun h3 => ?_)
 have h3p := of_decide_eq_true h3
 refine xw_exit ?_
 refine kG ?_
 refine kRS 3 [0,1,5,6] [(0,.v (.slice Al l.length Cl)),(1,.v (.int .i64 (m : Int))),(5,.v (.slice A1 n c1)),(6,.v (.int .i64 (IntKind.i64.wrap ((i : Int) + 1))))] ?_
 refine xl_eqS (t' := [(0,.v (.slice Al l.length Cl)),(1,.v (.int .i64 (m : Int))),(5,.v (.slice A1 n c1)),(6,.v (.int .i64 ((i : Int) + 1)))]) (by rw [show (IntKind.i64.wrap ((i : Int) + 1)) = ((i : Int) + 1) from wrap_id (by omega) (by omega)]) ?_
 refine kES [0,1,5,6] [(0,.v (.slice Al l.length Cl)),(1,.v (.int .i64 (m : Int))),(5,.v (.slice A1 n c1)),(6,.v (.int .i64 ((i : Int) + 1)))] ?_
 exact ⟨⟨(i + 1,out,A1,c1,n),⟨(by (try dsimp only); omega),(by rw [HP,hps,if_pos (by omega)]),(fun q hq => by have := hbd q hq; (try dsimp only); omega),hn,(by (try dsimp only); omega)⟩⟩,kF 0 0 [0,1,5,6],by show (fun (i : Nat) (out : List Pce) (A1 : Option Addr) (c1 : Nat) (n : Nat) => l.length - i) (i + 1) out A1 c1 n < l.length - i; (dsimp only; omega)⟩
 have h3p := of_decide_eq_false h3
 have hx0 : 0 ≤ x := by simp at h3; omega
 have hb1 : (bstr [x]).size = 1 := bstr_len [x]
 obtain ⟨p,hp⟩ : ∃ p : Pce,0 < n → out[n - 1]? = some p := if h : 0 < n then ⟨out[n - 1]'(by omega),fun _ => List.getElem?_eq_getElem _⟩ else ⟨⟨0,⟨#[]⟩⟩,fun h' => absurd h' h⟩
 refine xw_know (φ := ∃ g,0 < n → A1 = some ⟨g,0,none⟩) (fun _ _ _ _ hr => know_row hr (K := 2) (rs := out.map pceCells) 0 rfl (j := n - 1) (row := [.int .i64 p.off,.string p.text]) (fun hpos => by simp only [List.getElem?_map,hp hpos]; rfl)) ?_
 rintro ⟨gg,hgg⟩
 refine kK ?_
 refine kQ ?_
 refine kES [0,1,5,6,7] [(0,.v (.slice Al l.length Cl)),(1,.v (.int .i64 (m : Int))),(5,.v (.slice A1 n c1)),(6,.v (.int .i64 (i : Int))),(7,.v (.int .i64 ((n : Nat) : Int)))] ?_
 refine kS ?_
 refine xw_joinF (α := {zz : Bool // (fun (bq : Bool) => (bq = true ↔ (0 < n ∧ p.off + (p.text.size : Int) = ((i - m : Nat) : Int)))) zz}) (fun zz => (fun (bq : Bool) => (⟨[(0,.v (.slice Al l.length Cl)),(1,.v (.int .i64 (m : Int))),(5,.v (.slice A1 n c1)),(6,.v (.int .i64 (i : Int))),(7,.v (.int .i64 ((n : Nat) : Int))),(44,.v (.bool bq))],[],[],[rowF w.heap.size 65 2 (.slice A1 n c1) (out.map pceCells),slF (.slice Al l.length Cl) 1 (l.map intRow)]⟩ : St)) zz.1) ?_ ?_
 refine xe_region0 [] (by kernel_rfl) (fun ρ σ => ?_)
 refine kTS [0,1,2] [25,0,1,5,6,7] 19 [(25,.v (.bool (decide (((n : Nat) : Int) > 0)))),(0,.v (.slice Al l.length Cl)),(1,.v (.int .i64 (m : Int))),(5,.v (.slice A1 n c1)),(6,.v (.int .i64 (i : Int))),(7,.v (.int .i64 ((n : Nat) : Int)))] ?_
 refine kY 25 (decide (((n : Nat) : Int) > 0)) (fun h4 => ?_) (fun h4 => ?_)
 have h4p := of_decide_eq_true h4
 have hpos : 0 < n := by simp at h4; omega
 have hpb := hbd p (List.mem_of_getElem? (hp hpos))
 refine kTS [3,4,5,9,10,11,17,18,19] [42,34,32,28,26,25,0,1,5,6,7] 10 [(42,.v (.int .i64 (IntKind.i64.wrap ((i : Int) - (m : Int))))),(34,.v (.int .i64 (IntKind.i64.wrap (((n : Nat) : Int) - 1)))),(32,.v (.slice A1 n c1)),(28,.v (.int .i64 (IntKind.i64.wrap (((n : Nat) : Int) - 1)))),(26,.v (.slice A1 n c1)),(25,.v (.bool true)),(0,.v (.slice Al l.length Cl)),(1,.v (.int .i64 (m : Int))),(5,.v (.slice A1 n c1)),(6,.v (.int .i64 (i : Int))),(7,.v (.int .i64 ((n : Nat) : Int)))] ?_
 refine xe_eqS (t := [(42,.v (.int .i64 (IntKind.i64.wrap ((i : Int) - (m : Int))))),(34,.v (.int .i64 (IntKind.i64.wrap (((n : Nat) : Int) - 1)))),(32,.v (.slice A1 n c1)),(28,.v (.int .i64 (IntKind.i64.wrap (((n : Nat) : Int) - 1)))),(26,.v (.slice A1 n c1)),(25,.v (.bool true)),(0,.v (.slice Al l.length Cl)),(1,.v (.int .i64 (m : Int))),(5,.v (.slice A1 n c1)),(6,.v (.int .i64 (i : Int))),(7,.v (.int .i64 ((n : Nat) : Int)))]) (t' := [(42,.v (.int .i64 ((i - m : Nat) : Int))),(34,.v (.int .i64 ((n - 1 : Nat) : Int))),(32,.v (.slice A1 n c1)),(28,.v (.int .i64 ((n - 1 : Nat) : Int))),(26,.v (.slice A1 n c1)),(25,.v (.bool true)),(0,.v (.slice Al l.length Cl)),(1,.v (.int .i64 (m : Int))),(5,.v (.slice A1 n c1)),(6,.v (.int .i64 (i : Int))),(7,.v (.int .i64 ((n : Nat) : Int)))]) (by rw [show (IntKind.i64.wrap (((n : Nat) : Int) - 1)) = ((n - 1 : Nat) : Int) from by rw [wrap_id (by omega) (by omega)]; omega,show (IntKind.i64.wrap ((i : Int) - (m : Int))) = ((i - m : Nat) : Int) from by rw [wrap_id (by omega) (by omega)]; omega]) ?_
 refine kX 6 (.pointer (some ⟨gg,(n - 1) * 2,none⟩)) rfl (fun _ _ ww hA => act_ix (kd := .i64) (T := 24) (e := 65) (K := 2) (g := gg) (N := n) (cap := c1) (n - 1) (hgg hpos) hA rfl rfl (by kernel_rfl) (by kernel_rfl) (by kernel_rfl) (by omega) ww) ?_
 refine kX 7 (.pointer (some ⟨gg,(n - 1) * 2,none⟩)) rfl (fun _ _ ww hA => act_fld (sz := 1) (b := gg) (m := (n - 1) * 2) hA rfl Try.underlying65 rfl (by kernel_rfl) rfl (by kernel_rfl) rfl) ?_
 refine kX 12 (.pointer (some ⟨gg,(n - 1) * 2,none⟩)) rfl (fun _ _ ww hA => act_ix (kd := .i64) (T := 24) (e := 65) (K := 2) (g := gg) (N := n) (cap := c1) (n - 1) (hgg hpos) hA rfl rfl (by kernel_rfl) (by kernel_rfl) (by kernel_rfl) (by omega) ww) ?_
 refine kX 13 (.pointer (some ⟨gg,(n - 1) * 2 + 1,none⟩)) rfl (fun _ _ ww hA => act_fld (sz := 1) (b := gg) (m := (n - 1) * 2) hA rfl Try.underlying65 rfl (by kernel_rfl) rfl (by kernel_rfl) rfl) ?_
 refine kA [8,14] ⟨?_,?_⟩
 refine kSR 8 (.int .i64 p.off) rfl (fun _ _ ww hr => ldR_run (po := 0) (j := (n - 1)) (row := [.int .i64 p.off,.string p.text]) (rowF w.heap.size 65 2 (.slice A1 n c1) (out.map pceCells)) hr rfl (by kernel_rfl) (by simp) (by simp only [List.getElem?_map,hp hpos]; rfl) (by kernel_rfl) (hgg hpos) rfl rfl) ?_
 refine kA [14] ?_
 refine kSR 14 (.string p.text) rfl (fun _ _ ww hr => ldR_run (po := 1) (j := (n - 1)) (row := [.int .i64 p.off,.string p.text]) (rowF w.heap.size 65 2 (.slice A1 n c1) (out.map pceCells)) hr rfl (by kernel_rfl) (by simp) (by simp only [List.getElem?_map,hp hpos]; rfl) (by kernel_rfl) (hgg hpos) rfl rfl) ?_
 refine kTS [15,16,20,21] [44,0,1,5,6,7] 0 [(44,.v (.bool ((IntKind.i64.wrap (p.off + (p.text.size : Int))) == ((i - m : Nat) : Int)))),(0,.v (.slice Al l.length Cl)),(1,.v (.int .i64 (m : Int))),(5,.v (.slice A1 n c1)),(6,.v (.int .i64 (i : Int))),(7,.v (.int .i64 ((n : Nat) : Int)))] ?_
 refine xe_eqS (t := [(44,.v (.bool ((IntKind.i64.wrap (p.off + (p.text.size : Int))) == ((i - m : Nat) : Int)))),(0,.v (.slice Al l.length Cl)),(1,.v (.int .i64 (m : Int))),(5,.v (.slice A1 n c1)),(6,.v (.int .i64 (i : Int))),(7,.v (.int .i64 ((n : Nat) : Int)))]) (t' := [(44,.v (.bool ((p.off + (p.text.size : Int)) == ((i - m : Nat) : Int)))),(0,.v (.slice Al l.length Cl)),(1,.v (.int .i64 (m : Int))),(5,.v (.slice A1 n c1)),(6,.v (.int .i64 (i : Int))),(7,.v (.int .i64 ((n : Nat) : Int)))]) (by rw [show (IntKind.i64.wrap (p.off + (p.text.size : Int))) = (p.off + (p.text.size : Int)) from wrap_id (by omega) (by omega)]) ?_
 refine kZ ?_
 exact ⟨⟨((p.off + (p.text.size : Int)) == ((i - m : Nat) : Int)),⟨fun h => ⟨hpos,eq_of_beq h⟩,fun h => beq_iff_eq.2 h.2⟩⟩,kF 0 0 [0,1,5,6,7,44]⟩
 refine kSR 14 (.string p.text) rfl (fun _ _ ww hr => ldR_run (po := 1) (j := (n - 1)) (row := [.int .i64 p.off,.string p.text]) (rowF w.heap.size 65 2 (.slice A1 n c1) (out.map pceCells)) hr rfl (by kernel_rfl) (by simp) (by simp only [List.getElem?_map,hp hpos]; rfl) (by kernel_rfl) (hgg hpos) rfl rfl) ?_
 refine kTS [15] [38,30,42,25,0,1,5,6,7] 4 [(38,.v (.int .i64 (p.text.size : Int))),(30,.v (.pointer (some ⟨gg,(n - 1) * 2,none⟩))),(42,.v (.int .i64 ((i - m : Nat) : Int))),(25,.v (.bool true)),(0,.v (.slice Al l.length Cl)),(1,.v (.int .i64 (m : Int))),(5,.v (.slice A1 n c1)),(6,.v (.int .i64 (i : Int))),(7,.v (.int .i64 ((n : Nat) : Int)))] ?_
 refine kA [8] ?_
 refine kSR 8 (.int .i64 p.off) rfl (fun _ _ ww hr => ldR_run (po := 0) (j := (n - 1)) (row := [.int .i64 p.off,.string p.text]) (rowF w.heap.size 65 2 (.slice A1 n c1) (out.map pceCells)) hr rfl (by kernel_rfl) (by simp) (by simp only [List.getElem?_map,hp hpos]; rfl) (by kernel_rfl) (hgg hpos) rfl rfl) ?_
 refine kTS [16,20,21] [44,0,1,5,6,7] 0 [(44,.v (.bool ((IntKind.i64.wrap (p.off + (p.text.size : Int))) == ((i - m : Nat) : Int)))),(0,.v (.slice Al l.length Cl)),(1,.v (.int .i64 (m : Int))),(5,.v (.slice A1 n c1)),(6,.v (.int .i64 (i : Int))),(7,.v (.int .i64 ((n : Nat) : Int)))] ?_
 refine xe_eqS (t := [(44,.v (.bool ((IntKind.i64.wrap (p.off + (p.text.size : Int))) == ((i - m : Nat) : Int)))),(0,.v (.slice Al l.length Cl)),(1,.v (.int .i64 (m : Int))),(5,.v (.slice A1 n c1)),(6,.v (.int .i64 (i : Int))),(7,.v (.int .i64 ((n : Nat) : Int)))]) (t' := [(44,.v (.bool ((p.off + (p.text.size : Int)) == ((i - m : Nat) : Int)))),(0,.v (.slice Al l.length Cl)),(1,.v (.int .i64 (m : Int))),(5,.v (.slice A1 n c1)),(6,.v (.int .i64 (i : Int))),(7,.v (.int .i64 ((n : Nat) : Int)))]) (by rw [show (IntKind.i64.wrap (p.off + (p.text.size : Int))) = (p.off + (p.text.size : Int)) from wrap_id (by omega) (by omega)]) ?_
 refine kZ ?_
 exact ⟨⟨((p.off + (p.text.size : Int)) == ((i - m : Nat) : Int)),⟨fun h => ⟨hpos,eq_of_beq h⟩,fun h => beq_iff_eq.2 h.2⟩⟩,kF 0 0 [0,1,5,6,7,44]⟩
 have h4p := of_decide_eq_false h4
 have hn0 : n = 0 := by simp at h4; omega
 refine kTS [3,4,5,6,7,8,9,10,11,12,13,14,15,16,17,18,19,20,21] [44,0,1,5,6,7] 0 [(44,.v (.bool false)),(0,.v (.slice Al l.length Cl)),(1,.v (.int .i64 (m : Int))),(5,.v (.slice A1 n c1)),(6,.v (.int .i64 (i : Int))),(7,.v (.int .i64 ((n : Nat) : Int)))] ?_
 refine kZ ?_
 exact ⟨⟨(false),⟨fun h => (by cases h),fun h => (by omega)⟩⟩,kF 0 0 [0,1,5,6,7,44]⟩
 rintro ⟨bq,hbq⟩
 try dsimp only
 try dsimp only at hbq
 refine kC (bq) (fun h5 => ?_) (fun h5 => ?_)
 obtain ⟨hpos,heq⟩ := hbq.1 h5
 have hpb := hbd p (List.mem_of_getElem? (hp hpos))
 refine xw_joinE (α := Nat) (fun y => (fun (g7 : Nat) => (⟨[(0,.v (.slice Al l.length Cl)),(1,.v (.int .i64 (m : Int))),(5,.v (.slice A1 n c1)),(6,.v (.int .i64 (i : Int)))],[],[],[rowF w.heap.size 65 2 (.slice A1 n c1) ((out.set (n - 1) ⟨p.off,p.text ++ (bstr ([x] : List Int))⟩).map pceCells),rowF w.heap.size 5 1 (.slice (some ⟨g7,0,none⟩) 1 1) (([x] : List Int).map byteRow),slF (.slice Al l.length Cl) 1 (l.map intRow)]⟩ : St)) y) ?_ ?_
 refine xe_region0 [] (by kernel_rfl) (fun ρ σ => ?_)
 refine kTS [0,1,2,3,4,5,9,10] [55,54,50,48,47,45,0,1,5,6] 12 [(55,.v (.int .i64 (i : Int))),(54,.v (.slice Al l.length Cl)),(50,.v (.int .i64 (IntKind.i64.wrap (((n : Nat) : Int) - 1)))),(48,.v (.slice A1 n c1)),(47,.v (.int .i64 (IntKind.i64.wrap (((n : Nat) : Int) - 1)))),(45,.v (.slice A1 n c1)),(0,.v (.slice Al l.length Cl)),(1,.v (.int .i64 (m : Int))),(5,.v (.slice A1 n c1)),(6,.v (.int .i64 (i : Int)))] ?_
 refine xe_eqS (t := [(55,.v (.int .i64 (i : Int))),(54,.v (.slice Al l.length Cl)),(50,.v (.int .i64 (IntKind.i64.wrap (((n : Nat) : Int) - 1)))),(48,.v (.slice A1 n c1)),(47,.v (.int .i64 (IntKind.i64.wrap (((n : Nat) : Int) - 1)))),(45,.v (.slice A1 n c1)),(0,.v (.slice Al l.length Cl)),(1,.v (.int .i64 (m : Int))),(5,.v (.slice A1 n c1)),(6,.v (.int .i64 (i : Int)))]) (t' := [(55,.v (.int .i64 (i : Int))),(54,.v (.slice Al l.length Cl)),(50,.v (.int .i64 ((n - 1 : Nat) : Int))),(48,.v (.slice A1 n c1)),(47,.v (.int .i64 ((n - 1 : Nat) : Int))),(45,.v (.slice A1 n c1)),(0,.v (.slice Al l.length Cl)),(1,.v (.int .i64 (m : Int))),(5,.v (.slice A1 n c1)),(6,.v (.int .i64 (i : Int)))]) (by rw [show (IntKind.i64.wrap (((n : Nat) : Int) - 1)) = ((n - 1 : Nat) : Int) from by rw [wrap_id (by omega) (by omega)]; omega]) ?_
 refine kX 6 (.pointer (some ⟨gg,(n - 1) * 2,none⟩)) rfl (fun _ _ ww hA => act_ix (kd := .i64) (T := 24) (e := 65) (K := 2) (g := gg) (N := n) (cap := c1) (n - 1) (hgg hpos) hA rfl rfl (by kernel_rfl) (by kernel_rfl) (by kernel_rfl) (by omega) ww) ?_
 refine kX 7 (.pointer (some ⟨gg,(n - 1) * 2 + 1,none⟩)) rfl (fun _ _ ww hA => act_fld (sz := 1) (b := gg) (m := (n - 1) * 2) hA rfl Try.underlying65 rfl (by kernel_rfl) rfl (by kernel_rfl) rfl) ?_
 refine kX 11 (.pointer (some ⟨bb,ob + i * 1,none⟩)) rfl (fun _ _ ww hA => act_ixO (kd := .i64) (T := 62) (e := 3) (K := 1) (b := bb) (off := ob) (N := l.length) (cap := Cl) i hbb hA rfl rfl (by kernel_rfl) (by kernel_rfl) (by kernel_rfl) hlt ww) ?_
 refine kA [8,12] ⟨?_,?_⟩
 refine kSR 8 (.string p.text) rfl (fun _ _ ww hr => ldR_run (po := 1) (j := (n - 1)) (row := [.int .i64 p.off,.string p.text]) (rowF w.heap.size 65 2 (.slice A1 n c1) (out.map pceCells)) hr rfl (by kernel_rfl) (by simp) (by simp only [List.getElem?_map,hp hpos]; rfl) (by kernel_rfl) (hgg hpos) rfl rfl) ?_
 refine kA [12] ?_
 refine kSR 12 (.int .i64 x) rfl (fun _ _ ww hr => ldS_run (j := i) (row := [.int .i64 x]) (slF (.slice Al l.length Cl) 1 (l.map intRow)) hr rfl (by kernel_rfl) (by simp) (by simp only [List.getElem?_map,hx]; rfl) (by kernel_rfl) hbb rfl) ?_
 refine kTS [13] [58,53,47,45,0,1,5,6] 6 [(58,.v (.int .u8 (IntKind.u8.wrap x))),(53,.v (.string p.text)),(47,.v (.int .i64 ((n - 1 : Nat) : Int))),(45,.v (.slice A1 n c1)),(0,.v (.slice Al l.length Cl)),(1,.v (.int .i64 (m : Int))),(5,.v (.slice A1 n c1)),(6,.v (.int .i64 (i : Int)))] ?_
 refine xe_eqS (t := [(58,.v (.int .u8 (IntKind.u8.wrap x))),(53,.v (.string p.text)),(47,.v (.int .i64 ((n - 1 : Nat) : Int))),(45,.v (.slice A1 n c1)),(0,.v (.slice Al l.length Cl)),(1,.v (.int .i64 (m : Int))),(5,.v (.slice A1 n c1)),(6,.v (.int .i64 (i : Int)))]) (t' := [(58,.v (.int .u8 x)),(53,.v (.string p.text)),(47,.v (.int .i64 ((n - 1 : Nat) : Int))),(45,.v (.slice A1 n c1)),(0,.v (.slice Al l.length Cl)),(1,.v (.int .i64 (m : Int))),(5,.v (.slice A1 n c1)),(6,.v (.int .i64 (i : Int)))]) (by rw [show (IntKind.u8.wrap x) = x from u8_id (by omega) (by omega)]) ?_
 refine kA [14] ?_
 refine kSH 14 rfl under_nil (hv_build (e := 5) (K := 1) (bytes := 1) [.int .u8 x] rfl (by kernel_rfl) (by kernel_rfl) (by kernel_rfl) (by kernel_rfl) (by kernel_rfl) (rs := ([x] : List Int).map byteRow) rfl) ?_
 intro g7
 refine kA [15] ?_
 refine kSR 15 (.string (bstr ([x] : List Int))) rfl (fun _ _ ww hr => act_b2s (e := 5) ([x] : List Int) hr.1 rfl (by kernel_rfl) (by kernel_rfl) (by kernel_rfl) rfl (rowF_sl (hr.2.fact (rowF w.heap.size 5 1 (.slice (some ⟨g7,0,none⟩) 1 1) (([x] : List Int).map byteRow)) (by simp)).1)) ?_
 refine kX 16 (.string (p.text ++ (bstr ([x] : List Int)))) rfl (fun _ _ ww hA => act_bin hA rfl (by kernel_rfl) (by kernel_rfl) (str_add (by first | omega | (simp only [ByteArray.size_extract]; omega)) ww)) ?_
 refine kX 17 (.pointer (some ⟨gg,(n - 1) * 2,none⟩)) rfl (fun _ _ ww hA => act_ix (kd := .i64) (T := 24) (e := 65) (K := 2) (g := gg) (N := n) (cap := c1) (n - 1) (hgg hpos) hA rfl rfl (by kernel_rfl) (by kernel_rfl) (by kernel_rfl) (by omega) ww) ?_
 refine kX 18 (.pointer (some ⟨gg,(n - 1) * 2 + 1,none⟩)) rfl (fun _ _ ww hA => act_fld (sz := 1) (b := gg) (m := (n - 1) * 2) hA rfl Try.underlying65 rfl (by kernel_rfl) rfl (by kernel_rfl) rfl) ?_
 refine kA [19] ?_
 refine xs_hsG 19 gg rfl (by kernel_rfl) (by kernel_rfl) (by kernel_rfl) under_nil (fun kk rr hk => by simp at hk) (hs_stR (g := gg) (B := w.heap.size) (e := 65) (K := 2) (N := n) (cap := c1) (rs := (out.map pceCells)) (rs' := (out.set (n - 1) ⟨p.off,p.text ++ (bstr ([x] : List Int))⟩).map pceCells) (v := (.string (p.text ++ (bstr ([x] : List Int))))) (i := 1) (off := (n - 1) * 2 + 1) (n - 1) 1 [.int .i64 p.off,.string p.text] (row' := [.int .i64 p.off,.string (p.text ++ (bstr ([x] : List Int)))]) (hgg hpos) rfl (by kernel_rfl) rfl (by kernel_rfl) (by kernel_rfl) (by kernel_rfl) (by kernel_rfl) (Nat.le_refl _) (by simp only [List.getElem?_map,hp hpos]; rfl) (by kernel_rfl) rfl (by rw [List.map_set]; rfl)) ?_
 refine kZ ?_
 exact ⟨(g7),kF 0 0 [0,1,5,6]⟩
 refine kSR 12 (.int .i64 x) rfl (fun _ _ ww hr => ldS_run (j := i) (row := [.int .i64 x]) (slF (.slice Al l.length Cl) 1 (l.map intRow)) hr rfl (by kernel_rfl) (by simp) (by simp only [List.getElem?_map,hx]; rfl) (by kernel_rfl) hbb rfl) ?_
 refine kTS [13] [58,52,47,45,0,1,5,6] 7 [(58,.v (.int .u8 (IntKind.u8.wrap x))),(52,.v (.pointer (some ⟨gg,(n - 1) * 2 + 1,none⟩))),(47,.v (.int .i64 ((n - 1 : Nat) : Int))),(45,.v (.slice A1 n c1)),(0,.v (.slice Al l.length Cl)),(1,.v (.int .i64 (m : Int))),(5,.v (.slice A1 n c1)),(6,.v (.int .i64 (i : Int)))] ?_
 refine xe_eqS (t := [(58,.v (.int .u8 (IntKind.u8.wrap x))),(52,.v (.pointer (some ⟨gg,(n - 1) * 2 + 1,none⟩))),(47,.v (.int .i64 ((n - 1 : Nat) : Int))),(45,.v (.slice A1 n c1)),(0,.v (.slice Al l.length Cl)),(1,.v (.int .i64 (m : Int))),(5,.v (.slice A1 n c1)),(6,.v (.int .i64 (i : Int)))]) (t' := [(58,.v (.int .u8 x)),(52,.v (.pointer (some ⟨gg,(n - 1) * 2 + 1,none⟩))),(47,.v (.int .i64 ((n - 1 : Nat) : Int))),(45,.v (.slice A1 n c1)),(0,.v (.slice Al l.length Cl)),(1,.v (.int .i64 (m : Int))),(5,.v (.slice A1 n c1)),(6,.v (.int .i64 (i : Int)))]) (by rw [show (IntKind.u8.wrap x) = x from u8_id (by omega) (by omega)]) ?_
 refine kA [8,14] ⟨?_,?_⟩
 refine kSR 8 (.string p.text) rfl (fun _ _ ww hr => ldR_run (po := 1) (j := (n - 1)) (row := [.int .i64 p.off,.string p.text]) (rowF w.heap.size 65 2 (.slice A1 n c1) (out.map pceCells)) hr rfl (by kernel_rfl) (by simp) (by simp only [List.getElem?_map,hp hpos]; rfl) (by kernel_rfl) (hgg hpos) rfl rfl) ?_
 refine kA [14] ?_
 refine kSH 14 rfl under_nil (hv_build (e := 5) (K := 1) (bytes := 1) [.int .u8 x] rfl (by kernel_rfl) (by kernel_rfl) (by kernel_rfl) (by kernel_rfl) (by kernel_rfl) (rs := ([x] : List Int).map byteRow) rfl) ?_
 intro g10
 refine kA [15] ?_
 refine kSR 15 (.string (bstr ([x] : List Int))) rfl (fun _ _ ww hr => act_b2s (e := 5) ([x] : List Int) hr.1 rfl (by kernel_rfl) (by kernel_rfl) (by kernel_rfl) rfl (rowF_sl (hr.2.fact (rowF w.heap.size 5 1 (.slice (some ⟨g10,0,none⟩) 1 1) (([x] : List Int).map byteRow)) (by simp)).1)) ?_
 refine kX 16 (.string (p.text ++ (bstr ([x] : List Int)))) rfl (fun _ _ ww hA => act_bin hA rfl (by kernel_rfl) (by kernel_rfl) (str_add (by first | omega | (simp only [ByteArray.size_extract]; omega)) ww)) ?_
 refine kX 17 (.pointer (some ⟨gg,(n - 1) * 2,none⟩)) rfl (fun _ _ ww hA => act_ix (kd := .i64) (T := 24) (e := 65) (K := 2) (g := gg) (N := n) (cap := c1) (n - 1) (hgg hpos) hA rfl rfl (by kernel_rfl) (by kernel_rfl) (by kernel_rfl) (by omega) ww) ?_
 refine kX 18 (.pointer (some ⟨gg,(n - 1) * 2 + 1,none⟩)) rfl (fun _ _ ww hA => act_fld (sz := 1) (b := gg) (m := (n - 1) * 2) hA rfl Try.underlying65 rfl (by kernel_rfl) rfl (by kernel_rfl) rfl) ?_
 refine kA [19] ?_
 refine xs_hsG 19 gg rfl (by kernel_rfl) (by kernel_rfl) (by kernel_rfl) under_nil (fun kk rr hk => by simp at hk) (hs_stR (g := gg) (B := w.heap.size) (e := 65) (K := 2) (N := n) (cap := c1) (rs := (out.map pceCells)) (rs' := (out.set (n - 1) ⟨p.off,p.text ++ (bstr ([x] : List Int))⟩).map pceCells) (v := (.string (p.text ++ (bstr ([x] : List Int))))) (i := 1) (off := (n - 1) * 2 + 1) (n - 1) 1 [.int .i64 p.off,.string p.text] (row' := [.int .i64 p.off,.string (p.text ++ (bstr ([x] : List Int)))]) (hgg hpos) rfl (by kernel_rfl) rfl (by kernel_rfl) (by kernel_rfl) (by kernel_rfl) (by kernel_rfl) (Nat.le_refl _) (by simp only [List.getElem?_map,hp hpos]; rfl) (by kernel_rfl) rfl (by rw [List.map_set]; rfl)) ?_
 refine kZ ?_
 exact ⟨(g10),kF 0 0 [0,1,5,6]⟩
 refine kSH 14 rfl under_nil (hv_build (e := 5) (K := 1) (bytes := 1) [.int .u8 x] rfl (by kernel_rfl) (by kernel_rfl) (by kernel_rfl) (by kernel_rfl) (by kernel_rfl) (rs := ([x] : List Int).map byteRow) rfl) ?_
 intro g11
 refine kA [8,15] ⟨?_,?_⟩
 refine kSR 8 (.string p.text) rfl (fun _ _ ww hr => ldR_run (po := 1) (j := (n - 1)) (row := [.int .i64 p.off,.string p.text]) (rowF w.heap.size 65 2 (.slice A1 n c1) (out.map pceCells)) hr rfl (by kernel_rfl) (by simp) (by simp only [List.getElem?_map,hp hpos]; rfl) (by kernel_rfl) (hgg hpos) rfl rfl) ?_
 refine kA [15] ?_
 refine kSR 15 (.string (bstr ([x] : List Int))) rfl (fun _ _ ww hr => act_b2s (e := 5) ([x] : List Int) hr.1 rfl (by kernel_rfl) (by kernel_rfl) (by kernel_rfl) rfl (rowF_sl (hr.2.fact (rowF w.heap.size 5 1 (.slice (some ⟨g11,0,none⟩) 1 1) (([x] : List Int).map byteRow)) (by simp)).1)) ?_
 refine kX 16 (.string (p.text ++ (bstr ([x] : List Int)))) rfl (fun _ _ ww hA => act_bin hA rfl (by kernel_rfl) (by kernel_rfl) (str_add (by first | omega | (simp only [ByteArray.size_extract]; omega)) ww)) ?_
 refine kX 17 (.pointer (some ⟨gg,(n - 1) * 2,none⟩)) rfl (fun _ _ ww hA => act_ix (kd := .i64) (T := 24) (e := 65) (K := 2) (g := gg) (N := n) (cap := c1) (n - 1) (hgg hpos) hA rfl rfl (by kernel_rfl) (by kernel_rfl) (by kernel_rfl) (by omega) ww) ?_
 refine kX 18 (.pointer (some ⟨gg,(n - 1) * 2 + 1,none⟩)) rfl (fun _ _ ww hA => act_fld (sz := 1) (b := gg) (m := (n - 1) * 2) hA rfl Try.underlying65 rfl (by kernel_rfl) rfl (by kernel_rfl) rfl) ?_
 refine kA [19] ?_
 refine xs_hsG 19 gg rfl (by kernel_rfl) (by kernel_rfl) (by kernel_rfl) under_nil (fun kk rr hk => by simp at hk) (hs_stR (g := gg) (B := w.heap.size) (e := 65) (K := 2) (N := n) (cap := c1) (rs := (out.map pceCells)) (rs' := (out.set (n - 1) ⟨p.off,p.text ++ (bstr ([x] : List Int))⟩).map pceCells) (v := (.string (p.text ++ (bstr ([x] : List Int))))) (i := 1) (off := (n - 1) * 2 + 1) (n - 1) 1 [.int .i64 p.off,.string p.text] (row' := [.int .i64 p.off,.string (p.text ++ (bstr ([x] : List Int)))]) (hgg hpos) rfl (by kernel_rfl) rfl (by kernel_rfl) (by kernel_rfl) (by kernel_rfl) (by kernel_rfl) (Nat.le_refl _) (by simp only [List.getElem?_map,hp hpos]; rfl) (by kernel_rfl) rfl (by rw [List.map_set]; rfl)) ?_
 refine kZ ?_
 exact ⟨(g11),kF 0 0 [0,1,5,6]⟩
 refine kSR 15 (.string (bstr ([x] : List Int))) rfl (fun _ _ ww hr => act_b2s (e := 5) ([x] : List Int) hr.1 rfl (by kernel_rfl) (by kernel_rfl) (by kernel_rfl) rfl (rowF_sl (hr.2.fact (rowF w.heap.size 5 1 (.slice (some ⟨g11,0,none⟩) 1 1) (([x] : List Int).map byteRow)) (by simp)).1)) ?_
 refine kA [8] ?_
 refine kSR 8 (.string p.text) rfl (fun _ _ ww hr => ldR_run (po := 1) (j := (n - 1)) (row := [.int .i64 p.off,.string p.text]) (rowF w.heap.size 65 2 (.slice A1 n c1) (out.map pceCells)) hr rfl (by kernel_rfl) (by simp) (by simp only [List.getElem?_map,hp hpos]; rfl) (by kernel_rfl) (hgg hpos) rfl rfl) ?_
 refine kX 16 (.string (p.text ++ (bstr ([x] : List Int)))) rfl (fun _ _ ww hA => act_bin hA rfl (by kernel_rfl) (by kernel_rfl) (str_add (by first | omega | (simp only [ByteArray.size_extract]; omega)) ww)) ?_
 refine kX 17 (.pointer (some ⟨gg,(n - 1) * 2,none⟩)) rfl (fun _ _ ww hA => act_ix (kd := .i64) (T := 24) (e := 65) (K := 2) (g := gg) (N := n) (cap := c1) (n - 1) (hgg hpos) hA rfl rfl (by kernel_rfl) (by kernel_rfl) (by kernel_rfl) (by omega) ww) ?_
 refine kX 18 (.pointer (some ⟨gg,(n - 1) * 2 + 1,none⟩)) rfl (fun _ _ ww hA => act_fld (sz := 1) (b := gg) (m := (n - 1) * 2) hA rfl Try.underlying65 rfl (by kernel_rfl) rfl (by kernel_rfl) rfl) ?_
 refine kA [19] ?_
 refine xs_hsG 19 gg rfl (by kernel_rfl) (by kernel_rfl) (by kernel_rfl) under_nil (fun kk rr hk => by simp at hk) (hs_stR (g := gg) (B := w.heap.size) (e := 65) (K := 2) (N := n) (cap := c1) (rs := (out.map pceCells)) (rs' := (out.set (n - 1) ⟨p.off,p.text ++ (bstr ([x] : List Int))⟩).map pceCells) (v := (.string (p.text ++ (bstr ([x] : List Int))))) (i := 1) (off := (n - 1) * 2 + 1) (n - 1) 1 [.int .i64 p.off,.string p.text] (row' := [.int .i64 p.off,.string (p.text ++ (bstr ([x] : List Int)))]) (hgg hpos) rfl (by kernel_rfl) rfl (by kernel_rfl) (by kernel_rfl) (by kernel_rfl) (by kernel_rfl) (Nat.le_refl _) (by simp only [List.getElem?_map,hp hpos]; rfl) (by kernel_rfl) rfl (by rw [List.map_set]; rfl)) ?_
 refine kZ ?_
 exact ⟨(g11),kF 0 0 [0,1,5,6]⟩
 intro g7
 refine kG ?_
 refine kRF 3 [0,1,5,6] ⟨[(0,.v (.slice Al l.length Cl)),(1,.v (.int .i64 (m : Int))),(5,.v (.slice A1 n c1)),(6,.v (.int .i64 (IntKind.i64.wrap ((i : Int) + 1))))],[],[],[rowF w.heap.size 65 2 (.slice A1 n c1) ((out.set (n - 1) ⟨p.off,p.text ++ (bstr ([x] : List Int))⟩).map pceCells),rowF w.heap.size 5 1 (.slice (some ⟨g7,0,none⟩) 1 1) (([x] : List Int).map byteRow),slF (.slice Al l.length Cl) 1 (l.map intRow)]⟩ ?_
 refine xl_eqS (t' := [(0,.v (.slice Al l.length Cl)),(1,.v (.int .i64 (m : Int))),(5,.v (.slice A1 n c1)),(6,.v (.int .i64 ((i : Int) + 1)))]) (by rw [show (IntKind.i64.wrap ((i : Int) + 1)) = ((i : Int) + 1) from wrap_id (by omega) (by omega)]) ?_
 refine kES [0,1,5,6] [(0,.v (.slice Al l.length Cl)),(1,.v (.int .i64 (m : Int))),(5,.v (.slice A1 n c1)),(6,.v (.int .i64 ((i : Int) + 1)))] ?_
 have hadd : addByte out (i - m) x = (out.set (n - 1) ⟨p.off,p.text ++ (bstr ([x] : List Int))⟩) := by first | (rw [addByte_set (p := p) (by rw [hn]; exact hp hpos) heq,hn]) | (exact if hz : 0 < n then addByte_far (p := p) (by rw [hn]; exact hp hz) (fun e => heqn ⟨hz,e⟩) else addByte_nil (by omega))
 exact ⟨⟨(i + 1,(out.set (n - 1) ⟨p.off,p.text ++ (bstr ([x] : List Int))⟩),A1,c1,n),⟨(by (try dsimp only); omega),(by rw [HP,hps,if_neg (by omega),hadd]),(by rw [← hadd]; intro q hq; have := addByte_bd hbd q hq; (try dsimp only); omega),(by simp [hn]),(by (try dsimp only); (try simp only [List.length_append,List.length_cons,List.length_nil]); omega)⟩⟩,(wk_pick [0,2] [rowF w.heap.size 65 2 (.slice A1 n c1) ((out.set (n - 1) ⟨p.off,p.text ++ (bstr ([x] : List Int))⟩).map pceCells),slF (.slice Al l.length Cl) 1 (l.map intRow)] (by kernel_rfl) (by kernel_rfl)).trans <| kF 0 0 [0,1,5,6],by show (fun (i : Nat) (out : List Pce) (A1 : Option Addr) (c1 : Nat) (n : Nat) => l.length - i) (i + 1) (out.set (n - 1) ⟨p.off,p.text ++ (bstr ([x] : List Int))⟩) A1 c1 n < l.length - i; (dsimp only; omega)⟩
 have heqn : ¬ (0 < n ∧ p.off + (p.text.size : Int) = ((i - m : Nat) : Int)) := fun e => by rw [hbq.2 e] at h5; cases h5
 refine kG ?_
 refine kOS 6 [0,1,5,6,64,67,68,69] [(0,.v (.slice Al l.length Cl)),(1,.v (.int .i64 (m : Int))),(5,.v (.slice A1 n c1)),(6,.v (.int .i64 (i : Int))),(64,.v (.slice A1 n c1)),(67,.v (.int .i64 (IntKind.i64.wrap ((i : Int) - (m : Int))))),(68,.v (.slice Al l.length Cl)),(69,.v (.int .i64 (i : Int)))] (.pointer (some ⟨bb,ob + i * 1,none⟩)) rfl (fun _ _ _ ww hr => act_ixO (kd := .i64) (T := 62) (e := 3) (K := 1) (b := bb) (off := ob) (N := l.length) (cap := Cl) i hbb hr.1 rfl rfl (by kernel_rfl) (by kernel_rfl) (by kernel_rfl) hlt ww) ?_
 refine kOS 0 [0,1,5,6,64,67,70] [(0,.v (.slice Al l.length Cl)),(1,.v (.int .i64 (m : Int))),(5,.v (.slice A1 n c1)),(6,.v (.int .i64 (i : Int))),(64,.v (.slice A1 n c1)),(67,.v (.int .i64 (IntKind.i64.wrap ((i : Int) - (m : Int))))),(70,.v (.pointer (some ⟨bb,ob + i * 1,none⟩)))] (.int .i64 x) rfl (fun _ _ _ ww hr => ldS_run (j := i) (row := [.int .i64 x]) (slF (.slice Al l.length Cl) 1 (l.map intRow)) hr rfl (by kernel_rfl) (by simp) (by simp only [List.getElem?_map,hx]; rfl) (by kernel_rfl) hbb rfl) ?_
 refine kHS 1 [0,1,5,6,64,67,72] [(0,.v (.slice Al l.length Cl)),(1,.v (.int .i64 (m : Int))),(5,.v (.slice A1 n c1)),(6,.v (.int .i64 (i : Int))),(64,.v (.slice A1 n c1)),(67,.v (.int .i64 (IntKind.i64.wrap ((i : Int) - (m : Int))))),(72,.v (.int .u8 (IntKind.u8.wrap x)))] rfl (hv_build (e := 5) (K := 1) (bytes := 1) [.int .u8 (IntKind.u8.wrap x)] rfl (by kernel_rfl) (by kernel_rfl) (by kernel_rfl) (by kernel_rfl) (by kernel_rfl) (rs := ([IntKind.u8.wrap x] : List Int).map byteRow) rfl) ?_
 intro g12
 refine kOS 0 [0,1,5,6,64,67,73] [(0,.v (.slice Al l.length Cl)),(1,.v (.int .i64 (m : Int))),(5,.v (.slice A1 n c1)),(6,.v (.int .i64 (i : Int))),(64,.v (.slice A1 n c1)),(67,.v (.int .i64 (IntKind.i64.wrap ((i : Int) - (m : Int))))),(73,.v (.slice (some ⟨g12,0,none⟩) 1 1))] (.string (bstr ([IntKind.u8.wrap x] : List Int))) rfl (fun _ _ _ ww hr => act_b2s (e := 5) ([IntKind.u8.wrap x] : List Int) hr.1 rfl (by kernel_rfl) (by kernel_rfl) (by kernel_rfl) rfl (rowF_sl (hr.2.fact (rowF w.heap.size 5 1 (.slice (some ⟨g12,0,none⟩) 1 1) (([IntKind.u8.wrap x] : List Int).map byteRow)) (by simp)).1)) ?_
 refine kOS 0 [0,1,5,6,64,67,74] [(0,.v (.slice Al l.length Cl)),(1,.v (.int .i64 (m : Int))),(5,.v (.slice A1 n c1)),(6,.v (.int .i64 (i : Int))),(64,.v (.slice A1 n c1)),(67,.v (.int .i64 (IntKind.i64.wrap ((i : Int) - (m : Int))))),(74,.v (.string (bstr ([IntKind.u8.wrap x] : List Int))))] (.agg (pceL (⟨IntKind.i64.wrap ((i : Int) - (m : Int)),bstr ([IntKind.u8.wrap x] : List Int)⟩ : Pce)).toArray) rfl (fun _ _ _ ww hr => act_build [(0,.int .i64 (IntKind.i64.wrap ((i : Int) - (m : Int)))),(1,.string (bstr ([IntKind.u8.wrap x] : List Int)))] hr.1 rfl (by kernel_rfl) (by kernel_rfl) ww) ?_
 refine kHS 0 [0,1,5,6,64,75] [(0,.v (.slice Al l.length Cl)),(1,.v (.int .i64 (m : Int))),(5,.v (.slice A1 n c1)),(6,.v (.int .i64 (i : Int))),(64,.v (.slice A1 n c1)),(75,.v (.agg (pceL (⟨IntKind.i64.wrap ((i : Int) - (m : Int)),bstr ([IntKind.u8.wrap x] : List Int)⟩ : Pce)).toArray))] rfl (hv_build (e := 65) (K := 2) (bytes := 24) [.agg (pceL (⟨IntKind.i64.wrap ((i : Int) - (m : Int)),bstr ([IntKind.u8.wrap x] : List Int)⟩ : Pce)).toArray] rfl (by kernel_rfl) (by kernel_rfl) (by kernel_rfl) (by kernel_rfl) (by kernel_rfl) (rs := ([⟨IntKind.i64.wrap ((i : Int) - (m : Int)),bstr ([IntKind.u8.wrap x] : List Int)⟩] : List Pce).map pceCells) rfl) ?_
 intro g13
 refine kHS 0 [0,1,5,6,64,76] [(0,.v (.slice Al l.length Cl)),(1,.v (.int .i64 (m : Int))),(5,.v (.slice A1 n c1)),(6,.v (.int .i64 (i : Int))),(64,.v (.slice A1 n c1)),(76,.v (.slice (some ⟨g13,0,none⟩) 1 1))] rfl (hv_append (e := 65) (K := 2) (bytes := 24) (i := 2) (q := (out ++ ([⟨IntKind.i64.wrap ((i : Int) - (m : Int)),bstr ([IntKind.u8.wrap x] : List Int)⟩] : List Pce)).length) (new := ([⟨IntKind.i64.wrap ((i : Int) - (m : Int)),bstr ([IntKind.u8.wrap x] : List Int)⟩] : List Pce).map pceCells) (rs' := (out ++ ([⟨IntKind.i64.wrap ((i : Int) - (m : Int)),bstr ([IntKind.u8.wrap x] : List Int)⟩] : List Pce)).map pceCells) rfl rfl rfl rfl (by kernel_rfl) (by kernel_rfl) (by kernel_rfl) rfl (by simp) (by rw [List.map_append]) (by simp) (fun ww hf => (rowF_sl (hf (rowF w.heap.size 65 2 (.slice (some ⟨g13,0,none⟩) 1 1) (([⟨IntKind.i64.wrap ((i : Int) - (m : Int)),bstr ([IntKind.u8.wrap x] : List Int)⟩] : List Pce).map pceCells)) (by simp)))) (by intro r hr; obtain ⟨x,hx,rfl⟩ := List.mem_map.1 hr; exact ⟨rfl,by simp [pceCells,Value.oneCell']⟩) (by (try simp only [List.length_map,List.length_append,List.length_cons,List.length_nil,List.length_take,List.length_drop,maxLen]); omega) (by (try simp only [List.length_map,List.length_append,List.length_cons,List.length_nil,List.length_take,List.length_drop,maxLen]); omega)) ?_
 rintro ⟨v14a,v14c⟩
 refine kRS 1 [0,1,5,6] [(0,.v (.slice Al l.length Cl)),(1,.v (.int .i64 (m : Int))),(5,.v (.slice v14a ((out ++ ([⟨IntKind.i64.wrap ((i : Int) - (m : Int)),bstr ([IntKind.u8.wrap x] : List Int)⟩] : List Pce)).length) v14c)),(6,.v (.int .i64 (i : Int)))] ?_
 refine xl_eq (st' := ⟨[(0,.v (.slice Al l.length Cl)),(1,.v (.int .i64 (m : Int))),(5,.v (.slice v14a ((out ++ ([⟨((i - m : Nat) : Int),bstr ([x] : List Int)⟩] : List Pce)).length) v14c)),(6,.v (.int .i64 (i : Int)))],[],[],[rowF w.heap.size 65 2 (.slice v14a ((out ++ ([⟨((i - m : Nat) : Int),bstr ([x] : List Int)⟩] : List Pce)).length) v14c) ((out ++ ([⟨((i - m : Nat) : Int),bstr ([x] : List Int)⟩] : List Pce)).map pceCells),rowF w.heap.size 65 2 (.slice (some ⟨g13,0,none⟩) 1 1) (([⟨((i - m : Nat) : Int),bstr ([x] : List Int)⟩] : List Pce).map pceCells),rowF w.heap.size 5 1 (.slice (some ⟨g12,0,none⟩) 1 1) (([x] : List Int).map byteRow),slF (.slice Al l.length Cl) 1 (l.map intRow)]⟩) (by rw [show (IntKind.i64.wrap ((i : Int) - (m : Int))) = ((i - m : Nat) : Int) from by rw [wrap_id (by omega) (by omega)]; omega,show (IntKind.u8.wrap x) = x from u8_id (by omega) (by omega)] <;> rfl) ?_
 refine kES [0,1,5,6] [(0,.v (.slice Al l.length Cl)),(1,.v (.int .i64 (m : Int))),(5,.v (.slice v14a ((out ++ ([⟨((i - m : Nat) : Int),bstr ([x] : List Int)⟩] : List Pce)).length) v14c)),(6,.v (.int .i64 (i : Int)))] ?_
 refine kG ?_
 refine kRS 3 [0,1,5,6] [(0,.v (.slice Al l.length Cl)),(1,.v (.int .i64 (m : Int))),(5,.v (.slice v14a ((out ++ ([⟨((i - m : Nat) : Int),bstr ([x] : List Int)⟩] : List Pce)).length) v14c)),(6,.v (.int .i64 (IntKind.i64.wrap ((i : Int) + 1))))] ?_
 refine xl_eqS (t' := [(0,.v (.slice Al l.length Cl)),(1,.v (.int .i64 (m : Int))),(5,.v (.slice v14a ((out ++ ([⟨((i - m : Nat) : Int),bstr ([x] : List Int)⟩] : List Pce)).length) v14c)),(6,.v (.int .i64 ((i : Int) + 1)))]) (by rw [show (IntKind.i64.wrap ((i : Int) + 1)) = ((i : Int) + 1) from wrap_id (by omega) (by omega)]) ?_
 refine kES [0,1,5,6] [(0,.v (.slice Al l.length Cl)),(1,.v (.int .i64 (m : Int))),(5,.v (.slice v14a ((out ++ ([⟨((i - m : Nat) : Int),bstr ([x] : List Int)⟩] : List Pce)).length) v14c)),(6,.v (.int .i64 ((i : Int) + 1)))] ?_
 have hadd : addByte out (i - m) x = (out ++ ([⟨((i - m : Nat) : Int),bstr ([x] : List Int)⟩] : List Pce)) := by first | (rw [addByte_set (p := p) (by rw [hn]; exact hp hpos) heq,hn]) | (exact if hz : 0 < n then addByte_far (p := p) (by rw [hn]; exact hp hz) (fun e => heqn ⟨hz,e⟩) else addByte_nil (by omega))
 exact ⟨⟨(i + 1,(out ++ ([⟨((i - m : Nat) : Int),bstr ([x] : List Int)⟩] : List Pce)),v14a,v14c,(out ++ ([⟨((i - m : Nat) : Int),bstr ([x] : List Int)⟩] : List Pce)).length),⟨(by (try dsimp only); omega),(by rw [HP,hps,if_neg (by omega),hadd]),(by rw [← hadd]; intro q hq; have := addByte_bd hbd q hq; (try dsimp only); omega),(by simp [hn]),(by (try dsimp only); (try simp only [List.length_append,List.length_cons,List.length_nil]); omega)⟩⟩,(wk_pick [0,3] [rowF w.heap.size 65 2 (.slice v14a ((out ++ ([⟨((i - m : Nat) : Int),bstr ([x] : List Int)⟩] : List Pce)).length) v14c) ((out ++ ([⟨((i - m : Nat) : Int),bstr ([x] : List Int)⟩] : List Pce)).map pceCells),slF (.slice Al l.length Cl) 1 (l.map intRow)] (by kernel_rfl) (by kernel_rfl)).trans <| kF 0 0 [0,1,5,6],by show (fun (i : Nat) (out : List Pce) (A1 : Option Addr) (c1 : Nat) (n : Nat) => l.length - i) (i + 1) (out ++ ([⟨((i - m : Nat) : Int),bstr ([x] : List Int)⟩] : List Pce)) v14a v14c ((out ++ ([⟨((i - m : Nat) : Int),bstr ([x] : List Int)⟩] : List Pce)).length) < l.length - i; (dsimp only; omega)⟩
 have h2p := of_decide_eq_false h2
 have hge : i = l.length := by simp at h2; omega
 rw [hge,List.drop_length,pcs] at HP
 refine xw_exit ?_
 refine kQ ?_
 refine kES [4] [(4,.v (.slice A1 n c1))] ?_
 refine kR ?_
 have hmod : pcs [] 0 (l.drop m) = out := by exact HP
 exact ⟨[.slice A1 n c1],by kernel_rfl,fun w' hb hf ha => by rw [hmod,hn]; exact xo1 ((A1,c1)) rfl rfl (pW (hf _ m0) hB) hb⟩
theorem ysArrived_c (r : Rcv) (r_heldV : Value) (seq : Int) (text : ByteArray) (fin : Bool) (w : World) (hl_r_heldV : Sl w r_heldV 2 (r.held.map pceCells)) (hkn : r.held.length ≤ 1048576) (hm : ∀ p ∈ r.held, p.text.size ≤ 1048576) (hsz : r.data.size ≤ 4611686018427387904) (hts : text.size ≤ 4611686018427387904) (B : Nat) (hB : B ≤ w.heap.size) : Calls Try.prog 31 #[.agg (rcvL r r_heldV).toArray, .int .i64 seq, .string text, .bool fin] w fun e w' => XRs w w' e (α := Option Addr × Nat) (fun y => .agg (rcvL (arrived r seq text fin) (.slice y.1 ((arrived r seq text fin).held.length) y.2)).toArray) (fun y => [rowF B 65 2 (.slice y.1 ((arrived r seq text fin).held.length) y.2) ((arrived r seq text fin).held.map pceCells)]) := by
 obtain ⟨Arh,Crh,hvrh⟩ := hl_r_heldV.form
 rw [List.length_map] at hvrh; subst hvrh
 have hnrh := hl_r_heldV.len; rw [List.length_map] at hnrh
 have hqrh := Sl.capLe hl_r_heldV
 refine x_callsA (args := [.agg (rcvL r (.slice Arh r.held.length Crh)).toArray,.int .i64 seq,.string text,.bool fin]) (fn := Try.f31) [slF (.slice Arh r.held.length Crh) 2 (r.held.map pceCells)] Try.func31 rfl Try.ntmps31 rfl (by simp only [List.mem_cons,List.not_mem_nil,or_false,forall_eq_or_imp,forall_eq]; exact ⟨rfl,hl_r_heldV⟩) ?_
 refine kQ ?_
 refine kEF [1,2,3,4,8] ⟨[(1,.v (.int .i64 seq)),(2,.v (.string text)),(3,.v (.bool fin)),(4,.p 0 0),(8,.p 1 0)],[⟨26,rcvL r (.slice Arh r.held.length Crh)⟩,⟨26,rcvZ⟩],[],[slF (.slice Arh r.held.length Crh) 2 (r.held.map pceCells)]⟩ ?_
 refine kQ ?_
 refine kCD 1 [1,2,3,4,8,17] [(17,.v (.agg (rcvL r (.slice Arh r.held.length Crh)).toArray))] 37 [.agg (rcvL r (.slice Arh r.held.length Crh)).toArray] (some 18) rfl (xc_r fun ww hw hf => yl18Copy_c r (.slice Arh r.held.length Crh) ww (hf _ m0) (by assumption) w.heap.size hw) ?_
 rintro ⟨v1a,v1c⟩
 refine kEA [1,2,3,4,8,9] [(9,.p 2 0)] [⟨26,rcvL r (.slice v1a r.held.length v1c)⟩] ?_
 refine kS ?_
 refine kQ ?_
 refine kCD 1 [1,2,3,4,8,9,19] [(19,.v (.agg (rcvL r (.slice Arh r.held.length Crh)).toArray))] 13 [.agg (rcvL r (.slice Arh r.held.length Crh)).toArray] (some 20) rfl (xc_b fun ww hf => ysReceiverOk_c r (.slice Arh r.held.length Crh) ww (hf _ m1) (by assumption) (by omega)) ?_
 intro _
 refine kRD 2 [1,2,3,4,8,9,22] [(22,.v (.bool (!(receiverOk r))))] ?_
 refine kP 22 (!(receiverOk r)) (fun h2 => ?_) (fun h2 => ?_)
 have h2n := not_t h2
 refine kED [1,2,3,4,8,9,25] [(25,.v (.bool true))] ?_
 refine kT ?_
 refine kQ ?_
 refine kEU [8] [(8,.p 1 0)] 1 ⟨26,rcvL r (.slice v1a r.held.length v1c)⟩ ?_
 refine kR ?_
 have hmod : arrived r seq text fin = r := by first | exact arrived_over hrk (by assumption) (by rw [← hall,← hnf]; omega) | (unfold arrived; rw [if_neg (by grind)]; done) | (unfold arrived; rw [if_pos (by grind),← hall,← hnf,← hg2,← hfp]; first | (rw [if_pos (by omega)]; done) | (rw [if_neg (by omega),if_pos (by first | omega | simp_all)]; done) | (rw [if_neg (by omega),if_neg (by first | omega | simp_all)]; done))
 exact ⟨[.agg (rcvL r (.slice v1a r.held.length v1c)).toArray],by kernel_rfl,fun w' hb hf ha => by rw [hmod]; exact xo1 ((v1a,v1c)) rfl rfl (pW (hf _ m0) hB) hb⟩
 have h2n := not_f h2
 have hrk := h2n
 obtain ⟨hf0,hf1,hf2,hf3,hf4,hheld⟩ := rok_facts h2n
 have hwb := windowOf_bd r
 have hN := slotsOf_len r
 have hsqt := seqAdd_in seq (text.size : Int)
 refine kED [1,2,3,4,8,9,25] [(25,.v (.bool r.done))] ?_
 refine kC (r.done) (fun h3 => ?_) (fun h3 => ?_)
 refine kQ ?_
 refine kEU [8] [(8,.p 1 0)] 1 ⟨26,rcvL r (.slice v1a r.held.length v1c)⟩ ?_
 refine kR ?_
 have hmod : arrived r seq text fin = r := by first | exact arrived_over hrk (by assumption) (by rw [← hall,← hnf]; omega) | (unfold arrived; rw [if_neg (by grind)]; done) | (unfold arrived; rw [if_pos (by grind),← hall,← hnf,← hg2,← hfp]; first | (rw [if_pos (by omega)]; done) | (rw [if_neg (by omega),if_pos (by first | omega | simp_all)]; done) | (rw [if_neg (by omega),if_neg (by first | omega | simp_all)]; done))
 exact ⟨[.agg (rcvL r (.slice v1a r.held.length v1c)).toArray],by kernel_rfl,fun w' hb hf ha => by rw [hmod]; exact xo1 ((v1a,v1c)) rfl rfl (pW (hf _ m0) hB) hb⟩
 refine kK ?_
 refine kQ ?_
 refine kCD 1 [1,2,3,4,8,9,27] [(27,.v (.agg (rcvL r (.slice Arh r.held.length Crh)).toArray))] 25 [.agg (rcvL r (.slice Arh r.held.length Crh)).toArray] (some 28) rfl (xc_b fun ww hf => sWindowOf_c r.next r.data r.held (.slice Arh r.held.length Crh) r.fin r.done ww (by omega)) ?_
 intro _
 refine kED [1,2,3,4,8,9,10] [(10,.v (.int .i64 (windowOf r)))] ?_
 refine kQ ?_
 refine kCD 1 [1,2,3,4,8,9,10,29] [(29,.v (.agg (rcvL r (.slice Arh r.held.length Crh)).toArray))] 68 [.agg (rcvL r (.slice Arh r.held.length Crh)).toArray] (some 30) rfl (xc_r fun ww hw hf => yl18Slots_c r (.slice Arh r.held.length Crh) ww (hf _ m1) (by assumption) (by assumption) w.heap.size hw) ?_
 rintro ⟨v4a,v4c⟩
 refine kED [1,2,3,4,8,9,10,11] [(11,.v (.slice v4a ((slotsOf r).length) v4c))] ?_
 refine kS ?_
 refine kQ ?_
 refine kED [1,2,3,4,8,9,10,11,12] [(12,.v (.int .i64 0))] ?_
 refine xw_block ?_
 refine xw_know (φ := ∃ g,True → v4a = some ⟨g,0,none⟩) (fun _ _ _ _ hr => know_row hr (K := 1) (rs := (slotsOf r).map intRow) 0 rfl (j := 0) (row := intRow ((slotsOf r)[0]'(by omega))) (fun _ => by rw [List.getElem?_map,List.getElem?_eq_getElem (by omega)]; rfl)) ?_
 rintro ⟨gg,hgg⟩
 refine xw_loopW (α := {x : Nat × List Int // (fun (i : Nat) (sl : List Int) => i ≤ text.size ∧ sl.length = 33 ∧ sl = textN r seq text (slotsOf r) i) x.1 x.2}) (fun x => (fun (i : Nat) (sl : List Int) => (⟨[(1,.v (.int .i64 seq)),(2,.v (.string text)),(3,.v (.bool fin)),(4,.p 0 0),(8,.p 1 0),(9,.p 2 0),(10,.v (.int .i64 (windowOf r))),(11,.v (.slice v4a ((slotsOf r).length) v4c)),(12,.v (.int .i64 (i : Int)))],[⟨26,rcvL r (.slice Arh r.held.length Crh)⟩,⟨26,rcvZ⟩,⟨26,rcvL r (.slice v1a r.held.length v1c)⟩],[],[rowF w.heap.size 3 1 (.slice v4a ((slotsOf r).length) v4c) (sl.map intRow),rowF w.heap.size 65 2 (.slice v1a r.held.length v1c) (r.held.map pceCells),slF (.slice Arh r.held.length Crh) 2 (r.held.map pceCells)]⟩ : St)) x.1.1 x.1.2) (fun x => (fun (i : Nat) (sl : List Int) => text.size - i) x.1.1 x.1.2) ⟨(0,(slotsOf r)),⟨Nat.zero_le _,hN,rfl⟩⟩ ((wk_pick [0,1,2] [rowF w.heap.size 3 1 (.slice v4a ((slotsOf r).length) v4c) ((slotsOf r).map intRow),rowF w.heap.size 65 2 (.slice v1a r.held.length v1c) (r.held.map pceCells),slF (.slice Arh r.held.length Crh) 2 (r.held.map pceCells)] (by kernel_rfl) (by kernel_rfl)).trans <| kF 3 0 [1,2,3,4,8,9,10,11,12]) ?_
 rintro ⟨⟨i,sl⟩,hi,hl,HS⟩
 try dsimp only
 try dsimp only at hi hl HS
 refine kS ?_
 refine kQ ?_
 refine kES [1,2,3,4,8,9,10,11,12,34] [(1,.v (.int .i64 seq)),(2,.v (.string text)),(3,.v (.bool fin)),(4,.p 0 0),(8,.p 1 0),(9,.p 2 0),(10,.v (.int .i64 (windowOf r))),(11,.v (.slice v4a ((slotsOf r).length) v4c)),(12,.v (.int .i64 (i : Int))),(34,.v (.bool (decide ((i : Int) < (text.size : Int)))))] ?_
 refine kC (decide ((i : Int) < (text.size : Int))) (fun h5 => ?_) (fun h5 => ?_)
 have h5p := of_decide_eq_true h5
 have hlti : i < text.size := by simpa using h5
 have hbt := byteAt_rng text i
 have hsq := seqAdd_in seq (i : Int)
 refine kK ?_
 refine kS ?_
 refine xw_block ?_
 refine kS ?_
 refine xe_region0 [] (by kernel_rfl) (fun ρ σ => ?_)
 refine kTS [0,1,3,4] [41,38,37,1,2,3,4,8,9,10,11,12] 4 [(41,.v (.int .i64 r.next)),(38,.v (.int .i64 (i : Int))),(37,.v (.int .i64 seq)),(1,.v (.int .i64 seq)),(2,.v (.string text)),(3,.v (.bool fin)),(4,.p 0 0),(8,.p 1 0),(9,.p 2 0),(10,.v (.int .i64 (windowOf r))),(11,.v (.slice v4a ((slotsOf r).length) v4c)),(12,.v (.int .i64 (i : Int)))] ?_
 refine kA [2] ?_
 refine kSC 2 69 [.int .i64 seq,.int .i64 (i : Int)] (some 39) rfl (xc_s fun ww hf => sSeqAdd_c seq (i : Int) ww ) ?_
 intro _
 refine kTS [5] [42,1,2,3,4,8,9,10,11,12] 2 [(42,.v (.int .i64 (IntKind.i64.wrap ((seqAdd seq (i : Int)) - r.next)))),(1,.v (.int .i64 seq)),(2,.v (.string text)),(3,.v (.bool fin)),(4,.p 0 0),(8,.p 1 0),(9,.p 2 0),(10,.v (.int .i64 (windowOf r))),(11,.v (.slice v4a ((slotsOf r).length) v4c)),(12,.v (.int .i64 (i : Int)))] ?_
 refine xe_eqS (t := [(42,.v (.int .i64 (IntKind.i64.wrap ((seqAdd seq (i : Int)) - r.next)))),(1,.v (.int .i64 seq)),(2,.v (.string text)),(3,.v (.bool fin)),(4,.p 0 0),(8,.p 1 0),(9,.p 2 0),(10,.v (.int .i64 (windowOf r))),(11,.v (.slice v4a ((slotsOf r).length) v4c)),(12,.v (.int .i64 (i : Int)))]) (t' := [(42,.v (.int .i64 ((seqAdd seq (i : Int)) - r.next))),(1,.v (.int .i64 seq)),(2,.v (.string text)),(3,.v (.bool fin)),(4,.p 0 0),(8,.p 1 0),(9,.p 2 0),(10,.v (.int .i64 (windowOf r))),(11,.v (.slice v4a ((slotsOf r).length) v4c)),(12,.v (.int .i64 (i : Int)))]) (by rw [show (IntKind.i64.wrap ((seqAdd seq (i : Int)) - r.next)) = ((seqAdd seq (i : Int)) - r.next) from wrap_id (by omega) (by omega)]) ?_
 refine kA [6] ?_
 refine kSC 6 61 [.int .i64 ((seqAdd seq (i : Int)) - r.next)] (some 43) rfl (xc_s fun ww hf => sRest_c ((seqAdd seq (i : Int)) - r.next) ww ) ?_
 intro _
 refine xe_eqS (t := [(43,.v (.int .i64 (((seqAdd seq (i : Int)) - r.next) % 4294967296))),(42,.v (.int .i64 ((seqAdd seq (i : Int)) - r.next))),(1,.v (.int .i64 seq)),(2,.v (.string text)),(3,.v (.bool fin)),(4,.p 0 0),(8,.p 1 0),(9,.p 2 0),(10,.v (.int .i64 (windowOf r))),(11,.v (.slice v4a ((slotsOf r).length) v4c)),(12,.v (.int .i64 (i : Int)))]) (t' := [(43,.v (.int .i64 ((offN r seq i : Nat) : Int))),(42,.v (.int .i64 ((seqAdd seq (i : Int)) - r.next))),(1,.v (.int .i64 seq)),(2,.v (.string text)),(3,.v (.bool fin)),(4,.p 0 0),(8,.p 1 0),(9,.p 2 0),(10,.v (.int .i64 (windowOf r))),(11,.v (.slice v4a ((slotsOf r).length) v4c)),(12,.v (.int .i64 (i : Int)))]) (by rw [show (((seqAdd seq (i : Int)) - r.next) % 4294967296) = ((offN r seq i : Nat) : Int) from offN_eq r seq i]) ?_
 refine kTS [7] [13,1,2,3,4,8,9,10,11,12] 0 [(13,.v (.int .i64 ((offN r seq i : Nat) : Int))),(1,.v (.int .i64 seq)),(2,.v (.string text)),(3,.v (.bool fin)),(4,.p 0 0),(8,.p 1 0),(9,.p 2 0),(10,.v (.int .i64 (windowOf r))),(11,.v (.slice v4a ((slotsOf r).length) v4c)),(12,.v (.int .i64 (i : Int)))] ?_
 refine kZ ?_
 refine kQ ?_
 refine kRD 4 [1,2,3,4,8,9,10,11,12,13,47] [(47,.v (.bool (decide (((offN r seq i : Nat) : Int) < (windowOf r)))))] ?_
 refine kP 47 (decide (((offN r seq i : Nat) : Int) < (windowOf r))) (fun h6 => ?_) (fun h6 => ?_)
 have h6p := of_decide_eq_true h6
 obtain ⟨x,hx⟩ : ∃ x,sl[offN r seq i]? = some x := ⟨_,List.getElem?_eq_getElem (by omega)⟩
 have hsx := slotAt_of hx
 refine kRD 4 [1,2,3,4,8,9,10,11,12,13,47,51] [(47,.v (.bool true)),(51,.v (.bool (decide (r.fin < 0))))] ?_
 refine kP 51 (decide (r.fin < 0)) (fun h7 => ?_) (fun h7 => ?_)
 have h7p := of_decide_eq_true h7
 refine kOD 9 [1,2,3,4,8,9,10,11,12,13,58,59,60] [(58,.v (.bool true)),(59,.v (.slice v4a ((slotsOf r).length) v4c)),(60,.v (.int .i64 ((offN r seq i : Nat) : Int)))] (.pointer (some ⟨gg,(offN r seq i) * 1,none⟩)) rfl (fun _ _ _ ww hr => act_ix (kd := .i64) (T := 62) (e := 3) (K := 1) (g := gg) (N := ((slotsOf r).length)) (cap := v4c) (offN r seq i) (hgg trivial) hr.1 rfl rfl (by kernel_rfl) (by kernel_rfl) (by kernel_rfl) (by omega) ww) ?_
 refine kOD 0 [1,2,3,4,8,9,10,11,12,13,58,61] [] (.int .i64 x) rfl (fun _ _ _ ww hr => ldR_run (po := 0) (j := (offN r seq i)) (row := [.int .i64 x]) (rowF w.heap.size 3 1 (.slice v4a ((slotsOf r).length) v4c) (sl.map intRow)) hr rfl (by kernel_rfl) (by simp) (by simp only [List.getElem?_map,hx]; rfl) (by kernel_rfl) (hgg trivial) rfl rfl) ?_
 refine kED [1,2,3,4,8,9,10,11,12,13,64] [(64,.v (.bool (decide (x < 0))))] ?_
 refine kC (decide (x < 0)) (fun h8 => ?_) (fun h8 => ?_)
 have h8p := of_decide_eq_true h8
 refine kG ?_
 refine kOD 4 [1,2,3,4,8,9,10,11,12,65,66,67,68] [(65,.v (.slice v4a ((slotsOf r).length) v4c)),(66,.v (.int .i64 ((offN r seq i : Nat) : Int))),(67,.v (.string text)),(68,.v (.int .i64 (i : Int)))] (.int .u8 (byteAt text i)) rfl (fun _ _ _ ww hr => act_tix (kd := .i64) (t := text) i hr.1 rfl rfl (by kernel_rfl) (by kernel_rfl) hlti ww) ?_
 refine kOD 1 [1,2,3,4,8,9,10,11,12,65,66,70] [(70,.v (.int .i64 (IntKind.i64.wrap (byteAt text i))))] (.pointer (some ⟨gg,(offN r seq i) * 1,none⟩)) rfl (fun _ _ _ ww hr => act_ix (kd := .i64) (T := 62) (e := 3) (K := 1) (g := gg) (N := ((slotsOf r).length)) (cap := v4c) (offN r seq i) (hgg trivial) hr.1 rfl rfl (by kernel_rfl) (by kernel_rfl) (by kernel_rfl) (by omega) ww) ?_
 refine xl_hs 0 [1,2,3,4,8,9,10,11,12,70,71] ⟨[(1,.v (.int .i64 seq)),(2,.v (.string text)),(3,.v (.bool fin)),(4,.p 0 0),(8,.p 1 0),(9,.p 2 0),(10,.v (.int .i64 (windowOf r))),(11,.v (.slice v4a ((slotsOf r).length) v4c)),(12,.v (.int .i64 (i : Int))),(70,.v (.int .i64 (IntKind.i64.wrap (byteAt text i)))),(71,.v (.pointer (some ⟨gg,(offN r seq i) * 1,none⟩)))],[⟨26,rcvL r (.slice Arh r.held.length Crh)⟩,⟨26,rcvZ⟩,⟨26,rcvL r (.slice v1a r.held.length v1c)⟩],[],[rowF w.heap.size 3 1 (.slice v4a ((slotsOf r).length) v4c) (sl.map intRow),rowF w.heap.size 65 2 (.slice v1a r.held.length v1c) (r.held.map pceCells),slF (.slice Arh r.held.length Crh) 2 (r.held.map pceCells)]⟩ (by kernel_rfl) rfl (by kernel_rfl) rfl (by kernel_rfl) (HSg.hs (hs_stR (g := gg) (B := w.heap.size) (e := 3) (K := 1) (N := ((slotsOf r).length)) (cap := v4c) (rs := (sl.map intRow)) (rs' := (sl.set (offN r seq i) (IntKind.i64.wrap (byteAt text i))).map intRow) (v := (.int .i64 (IntKind.i64.wrap (byteAt text i)))) (i := 0) (off := (offN r seq i) * 1) (offN r seq i) 0 [.int .i64 x] (row' := [.int .i64 (IntKind.i64.wrap (byteAt text i))]) (hgg trivial) rfl (by kernel_rfl) rfl (by kernel_rfl) (by kernel_rfl) (by kernel_rfl) (by kernel_rfl) (Nat.le_refl _) (by simp only [List.getElem?_map,hx]; rfl) (by kernel_rfl) rfl (by rw [List.map_set]; rfl))) ?_
 refine kRS 0 [1,2,3,4,8,9,10,11,12] [(1,.v (.int .i64 seq)),(2,.v (.string text)),(3,.v (.bool fin)),(4,.p 0 0),(8,.p 1 0),(9,.p 2 0),(10,.v (.int .i64 (windowOf r))),(11,.v (.slice v4a ((slotsOf r).length) v4c)),(12,.v (.int .i64 (i : Int)))] ?_
 refine xl_eq (st' := ⟨[(1,.v (.int .i64 seq)),(2,.v (.string text)),(3,.v (.bool fin)),(4,.p 0 0),(8,.p 1 0),(9,.p 2 0),(10,.v (.int .i64 (windowOf r))),(11,.v (.slice v4a ((slotsOf r).length) v4c)),(12,.v (.int .i64 (i : Int)))],[⟨26,rcvL r (.slice Arh r.held.length Crh)⟩,⟨26,rcvZ⟩,⟨26,rcvL r (.slice v1a r.held.length v1c)⟩],[],[rowF w.heap.size 3 1 (.slice v4a ((slotsOf r).length) v4c) ((sl.set (offN r seq i) (byteAt text i)).map intRow),rowF w.heap.size 65 2 (.slice v1a r.held.length v1c) (r.held.map pceCells),slF (.slice Arh r.held.length Crh) 2 (r.held.map pceCells)]⟩) (by rw [show (IntKind.i64.wrap (byteAt text i)) = (byteAt text i) from wrap_id (by omega) (by omega)] <;> rfl) ?_
 refine kED [1,2,3,4,8,9,10,11,12] [] ?_
 refine kG ?_
 refine kRS 3 [1,2,3,4,8,9,10,11,12] [(1,.v (.int .i64 seq)),(2,.v (.string text)),(3,.v (.bool fin)),(4,.p 0 0),(8,.p 1 0),(9,.p 2 0),(10,.v (.int .i64 (windowOf r))),(11,.v (.slice v4a ((slotsOf r).length) v4c)),(12,.v (.int .i64 (IntKind.i64.wrap ((i : Int) + 1))))] ?_
 refine xl_eqS (t' := [(1,.v (.int .i64 seq)),(2,.v (.string text)),(3,.v (.bool fin)),(4,.p 0 0),(8,.p 1 0),(9,.p 2 0),(10,.v (.int .i64 (windowOf r))),(11,.v (.slice v4a ((slotsOf r).length) v4c)),(12,.v (.int .i64 ((i : Int) + 1)))]) (by rw [show (IntKind.i64.wrap ((i : Int) + 1)) = ((i : Int) + 1) from wrap_id (by omega) (by omega)]) ?_
 refine kED [1,2,3,4,8,9,10,11,12] [] ?_
 exact ⟨⟨(i + 1,(sl.set (offN r seq i) (byteAt text i))),⟨hlti,(by rw [List.length_set]; exact hl),(by rw [textN,← HS,textStep_eq]; first | (rw [if_pos (by refine ⟨by omega,by omega,?_⟩; rw [hsx]; omega)]) | (rw [if_neg (by intro hh; have hh1 := hh.1; have hh2 := hh.2.1; have hh3 := hh.2.2; (try rw [hsx] at hh3); omega)]))⟩⟩,kF 3 0 [1,2,3,4,8,9,10,11,12],by show (fun (i : Nat) (sl : List Int) => text.size - i) (i + 1) (sl.set (offN r seq i) (byteAt text i)) < text.size - i; (dsimp only; omega)⟩
 have h8p := of_decide_eq_false h8
 refine kK ?_
 refine kG ?_
 refine kRS 3 [1,2,3,4,8,9,10,11,12] [(1,.v (.int .i64 seq)),(2,.v (.string text)),(3,.v (.bool fin)),(4,.p 0 0),(8,.p 1 0),(9,.p 2 0),(10,.v (.int .i64 (windowOf r))),(11,.v (.slice v4a ((slotsOf r).length) v4c)),(12,.v (.int .i64 (IntKind.i64.wrap ((i : Int) + 1))))] ?_
 refine xl_eqS (t' := [(1,.v (.int .i64 seq)),(2,.v (.string text)),(3,.v (.bool fin)),(4,.p 0 0),(8,.p 1 0),(9,.p 2 0),(10,.v (.int .i64 (windowOf r))),(11,.v (.slice v4a ((slotsOf r).length) v4c)),(12,.v (.int .i64 ((i : Int) + 1)))]) (by rw [show (IntKind.i64.wrap ((i : Int) + 1)) = ((i : Int) + 1) from wrap_id (by omega) (by omega)]) ?_
 refine kED [1,2,3,4,8,9,10,11,12] [] ?_
 exact ⟨⟨(i + 1,sl),⟨hlti,hl,(by rw [textN,← HS,textStep_eq]; first | (rw [if_pos (by refine ⟨by omega,by omega,?_⟩; rw [hsx]; omega)]) | (rw [if_neg (by intro hh; have hh1 := hh.1; have hh2 := hh.2.1; have hh3 := hh.2.2; (try rw [hsx] at hh3); omega)]))⟩⟩,kF 3 0 [1,2,3,4,8,9,10,11,12],by show (fun (i : Nat) (sl : List Int) => text.size - i) (i + 1) sl < text.size - i; (dsimp only; omega)⟩
 have h7p := of_decide_eq_false h7
 refine kRD 7 [1,2,3,4,8,9,10,11,12,13,58] [(58,.v (.bool (decide (((offN r seq i : Nat) : Int) < r.fin))))] ?_
 refine kP 58 (decide (((offN r seq i : Nat) : Int) < r.fin)) (fun h9 => ?_) (fun h9 => ?_)
 have h9p := of_decide_eq_true h9
 refine kOD 2 [1,2,3,4,8,9,10,11,12,13,58,59,60] [(58,.v (.bool true)),(59,.v (.slice v4a ((slotsOf r).length) v4c)),(60,.v (.int .i64 ((offN r seq i : Nat) : Int)))] (.pointer (some ⟨gg,(offN r seq i) * 1,none⟩)) rfl (fun _ _ _ ww hr => act_ix (kd := .i64) (T := 62) (e := 3) (K := 1) (g := gg) (N := ((slotsOf r).length)) (cap := v4c) (offN r seq i) (hgg trivial) hr.1 rfl rfl (by kernel_rfl) (by kernel_rfl) (by kernel_rfl) (by omega) ww) ?_
 refine kOD 0 [1,2,3,4,8,9,10,11,12,13,58,61] [] (.int .i64 x) rfl (fun _ _ _ ww hr => ldR_run (po := 0) (j := (offN r seq i)) (row := [.int .i64 x]) (rowF w.heap.size 3 1 (.slice v4a ((slotsOf r).length) v4c) (sl.map intRow)) hr rfl (by kernel_rfl) (by simp) (by simp only [List.getElem?_map,hx]; rfl) (by kernel_rfl) (hgg trivial) rfl rfl) ?_
 refine kED [1,2,3,4,8,9,10,11,12,13,64] [(64,.v (.bool (decide (x < 0))))] ?_
 refine kC (decide (x < 0)) (fun h10 => ?_) (fun h10 => ?_)
 have h10p := of_decide_eq_true h10
 refine kG ?_
 refine kOD 4 [1,2,3,4,8,9,10,11,12,65,66,67,68] [(65,.v (.slice v4a ((slotsOf r).length) v4c)),(66,.v (.int .i64 ((offN r seq i : Nat) : Int))),(67,.v (.string text)),(68,.v (.int .i64 (i : Int)))] (.int .u8 (byteAt text i)) rfl (fun _ _ _ ww hr => act_tix (kd := .i64) (t := text) i hr.1 rfl rfl (by kernel_rfl) (by kernel_rfl) hlti ww) ?_
 refine kOD 1 [1,2,3,4,8,9,10,11,12,65,66,70] [(70,.v (.int .i64 (IntKind.i64.wrap (byteAt text i))))] (.pointer (some ⟨gg,(offN r seq i) * 1,none⟩)) rfl (fun _ _ _ ww hr => act_ix (kd := .i64) (T := 62) (e := 3) (K := 1) (g := gg) (N := ((slotsOf r).length)) (cap := v4c) (offN r seq i) (hgg trivial) hr.1 rfl rfl (by kernel_rfl) (by kernel_rfl) (by kernel_rfl) (by omega) ww) ?_
 refine xl_hs 0 [1,2,3,4,8,9,10,11,12,70,71] ⟨[(1,.v (.int .i64 seq)),(2,.v (.string text)),(3,.v (.bool fin)),(4,.p 0 0),(8,.p 1 0),(9,.p 2 0),(10,.v (.int .i64 (windowOf r))),(11,.v (.slice v4a ((slotsOf r).length) v4c)),(12,.v (.int .i64 (i : Int))),(70,.v (.int .i64 (IntKind.i64.wrap (byteAt text i)))),(71,.v (.pointer (some ⟨gg,(offN r seq i) * 1,none⟩)))],[⟨26,rcvL r (.slice Arh r.held.length Crh)⟩,⟨26,rcvZ⟩,⟨26,rcvL r (.slice v1a r.held.length v1c)⟩],[],[rowF w.heap.size 3 1 (.slice v4a ((slotsOf r).length) v4c) (sl.map intRow),rowF w.heap.size 65 2 (.slice v1a r.held.length v1c) (r.held.map pceCells),slF (.slice Arh r.held.length Crh) 2 (r.held.map pceCells)]⟩ (by kernel_rfl) rfl (by kernel_rfl) rfl (by kernel_rfl) (HSg.hs (hs_stR (g := gg) (B := w.heap.size) (e := 3) (K := 1) (N := ((slotsOf r).length)) (cap := v4c) (rs := (sl.map intRow)) (rs' := (sl.set (offN r seq i) (IntKind.i64.wrap (byteAt text i))).map intRow) (v := (.int .i64 (IntKind.i64.wrap (byteAt text i)))) (i := 0) (off := (offN r seq i) * 1) (offN r seq i) 0 [.int .i64 x] (row' := [.int .i64 (IntKind.i64.wrap (byteAt text i))]) (hgg trivial) rfl (by kernel_rfl) rfl (by kernel_rfl) (by kernel_rfl) (by kernel_rfl) (by kernel_rfl) (Nat.le_refl _) (by simp only [List.getElem?_map,hx]; rfl) (by kernel_rfl) rfl (by rw [List.map_set]; rfl))) ?_
 refine kRS 0 [1,2,3,4,8,9,10,11,12] [(1,.v (.int .i64 seq)),(2,.v (.string text)),(3,.v (.bool fin)),(4,.p 0 0),(8,.p 1 0),(9,.p 2 0),(10,.v (.int .i64 (windowOf r))),(11,.v (.slice v4a ((slotsOf r).length) v4c)),(12,.v (.int .i64 (i : Int)))] ?_
 refine xl_eq (st' := ⟨[(1,.v (.int .i64 seq)),(2,.v (.string text)),(3,.v (.bool fin)),(4,.p 0 0),(8,.p 1 0),(9,.p 2 0),(10,.v (.int .i64 (windowOf r))),(11,.v (.slice v4a ((slotsOf r).length) v4c)),(12,.v (.int .i64 (i : Int)))],[⟨26,rcvL r (.slice Arh r.held.length Crh)⟩,⟨26,rcvZ⟩,⟨26,rcvL r (.slice v1a r.held.length v1c)⟩],[],[rowF w.heap.size 3 1 (.slice v4a ((slotsOf r).length) v4c) ((sl.set (offN r seq i) (byteAt text i)).map intRow),rowF w.heap.size 65 2 (.slice v1a r.held.length v1c) (r.held.map pceCells),slF (.slice Arh r.held.length Crh) 2 (r.held.map pceCells)]⟩) (by rw [show (IntKind.i64.wrap (byteAt text i)) = (byteAt text i) from wrap_id (by omega) (by omega)] <;> rfl) ?_
 refine kED [1,2,3,4,8,9,10,11,12] [] ?_
 refine kG ?_
 refine kRS 3 [1,2,3,4,8,9,10,11,12] [(1,.v (.int .i64 seq)),(2,.v (.string text)),(3,.v (.bool fin)),(4,.p 0 0),(8,.p 1 0),(9,.p 2 0),(10,.v (.int .i64 (windowOf r))),(11,.v (.slice v4a ((slotsOf r).length) v4c)),(12,.v (.int .i64 (IntKind.i64.wrap ((i : Int) + 1))))] ?_
 refine xl_eqS (t' := [(1,.v (.int .i64 seq)),(2,.v (.string text)),(3,.v (.bool fin)),(4,.p 0 0),(8,.p 1 0),(9,.p 2 0),(10,.v (.int .i64 (windowOf r))),(11,.v (.slice v4a ((slotsOf r).length) v4c)),(12,.v (.int .i64 ((i : Int) + 1)))]) (by rw [show (IntKind.i64.wrap ((i : Int) + 1)) = ((i : Int) + 1) from wrap_id (by omega) (by omega)]) ?_
 refine kED [1,2,3,4,8,9,10,11,12] [] ?_
 exact ⟨⟨(i + 1,(sl.set (offN r seq i) (byteAt text i))),⟨hlti,(by rw [List.length_set]; exact hl),(by rw [textN,← HS,textStep_eq]; first | (rw [if_pos (by refine ⟨by omega,by omega,?_⟩; rw [hsx]; omega)]) | (rw [if_neg (by intro hh; have hh1 := hh.1; have hh2 := hh.2.1; have hh3 := hh.2.2; (try rw [hsx] at hh3); omega)]))⟩⟩,kF 3 0 [1,2,3,4,8,9,10,11,12],by show (fun (i : Nat) (sl : List Int) => text.size - i) (i + 1) (sl.set (offN r seq i) (byteAt text i)) < text.size - i; (dsimp only; omega)⟩
 have h10p := of_decide_eq_false h10
 refine kK ?_
 refine kG ?_
 refine kRS 3 [1,2,3,4,8,9,10,11,12] [(1,.v (.int .i64 seq)),(2,.v (.string text)),(3,.v (.bool fin)),(4,.p 0 0),(8,.p 1 0),(9,.p 2 0),(10,.v (.int .i64 (windowOf r))),(11,.v (.slice v4a ((slotsOf r).length) v4c)),(12,.v (.int .i64 (IntKind.i64.wrap ((i : Int) + 1))))] ?_
 refine xl_eqS (t' := [(1,.v (.int .i64 seq)),(2,.v (.string text)),(3,.v (.bool fin)),(4,.p 0 0),(8,.p 1 0),(9,.p 2 0),(10,.v (.int .i64 (windowOf r))),(11,.v (.slice v4a ((slotsOf r).length) v4c)),(12,.v (.int .i64 ((i : Int) + 1)))]) (by rw [show (IntKind.i64.wrap ((i : Int) + 1)) = ((i : Int) + 1) from wrap_id (by omega) (by omega)]) ?_
 refine kED [1,2,3,4,8,9,10,11,12] [] ?_
 exact ⟨⟨(i + 1,sl),⟨hlti,hl,(by rw [textN,← HS,textStep_eq]; first | (rw [if_pos (by refine ⟨by omega,by omega,?_⟩; rw [hsx]; omega)]) | (rw [if_neg (by intro hh; have hh1 := hh.1; have hh2 := hh.2.1; have hh3 := hh.2.2; (try rw [hsx] at hh3); omega)]))⟩⟩,kF 3 0 [1,2,3,4,8,9,10,11,12],by show (fun (i : Nat) (sl : List Int) => text.size - i) (i + 1) sl < text.size - i; (dsimp only; omega)⟩
 have h9p := of_decide_eq_false h9
 refine kED [1,2,3,4,8,9,10,11,12,13,64] [(64,.v (.bool false))] ?_
 refine kN ?_
 refine kK ?_
 refine kG ?_
 refine kRS 3 [1,2,3,4,8,9,10,11,12] [(1,.v (.int .i64 seq)),(2,.v (.string text)),(3,.v (.bool fin)),(4,.p 0 0),(8,.p 1 0),(9,.p 2 0),(10,.v (.int .i64 (windowOf r))),(11,.v (.slice v4a ((slotsOf r).length) v4c)),(12,.v (.int .i64 (IntKind.i64.wrap ((i : Int) + 1))))] ?_
 refine xl_eqS (t' := [(1,.v (.int .i64 seq)),(2,.v (.string text)),(3,.v (.bool fin)),(4,.p 0 0),(8,.p 1 0),(9,.p 2 0),(10,.v (.int .i64 (windowOf r))),(11,.v (.slice v4a ((slotsOf r).length) v4c)),(12,.v (.int .i64 ((i : Int) + 1)))]) (by rw [show (IntKind.i64.wrap ((i : Int) + 1)) = ((i : Int) + 1) from wrap_id (by omega) (by omega)]) ?_
 refine kED [1,2,3,4,8,9,10,11,12] [] ?_
 exact ⟨⟨(i + 1,sl),⟨hlti,hl,(by rw [textN,← HS,textStep_eq]; first | (rw [if_pos (by refine ⟨by omega,by omega,?_⟩; rw [hsx]; omega)]) | (rw [if_neg (by intro hh; have hh1 := hh.1; have hh2 := hh.2.1; have hh3 := hh.2.2; (try rw [hsx] at hh3); omega)]))⟩⟩,kF 3 0 [1,2,3,4,8,9,10,11,12],by show (fun (i : Nat) (sl : List Int) => text.size - i) (i + 1) sl < text.size - i; (dsimp only; omega)⟩
 have h6p := of_decide_eq_false h6
 refine kED [1,2,3,4,8,9,10,11,12,13,64] [(64,.v (.bool false))] ?_
 refine kN ?_
 refine kK ?_
 refine kG ?_
 refine kRS 3 [1,2,3,4,8,9,10,11,12] [(1,.v (.int .i64 seq)),(2,.v (.string text)),(3,.v (.bool fin)),(4,.p 0 0),(8,.p 1 0),(9,.p 2 0),(10,.v (.int .i64 (windowOf r))),(11,.v (.slice v4a ((slotsOf r).length) v4c)),(12,.v (.int .i64 (IntKind.i64.wrap ((i : Int) + 1))))] ?_
 refine xl_eqS (t' := [(1,.v (.int .i64 seq)),(2,.v (.string text)),(3,.v (.bool fin)),(4,.p 0 0),(8,.p 1 0),(9,.p 2 0),(10,.v (.int .i64 (windowOf r))),(11,.v (.slice v4a ((slotsOf r).length) v4c)),(12,.v (.int .i64 ((i : Int) + 1)))]) (by rw [show (IntKind.i64.wrap ((i : Int) + 1)) = ((i : Int) + 1) from wrap_id (by omega) (by omega)]) ?_
 refine kED [1,2,3,4,8,9,10,11,12] [] ?_
 exact ⟨⟨(i + 1,sl),⟨hlti,hl,(by rw [textN,← HS,textStep_eq]; first | (rw [if_pos (by refine ⟨by omega,by omega,?_⟩; rw [hsx]; omega)]) | (rw [if_neg (by intro hh; have hh1 := hh.1; have hh2 := hh.2.1; have hh3 := hh.2.2; (try rw [hsx] at hh3); omega)]))⟩⟩,kF 3 0 [1,2,3,4,8,9,10,11,12],by show (fun (i : Nat) (sl : List Int) => text.size - i) (i + 1) sl < text.size - i; (dsimp only; omega)⟩
 have h5p := of_decide_eq_false h5
 have hti : i = text.size := by simp at h5; omega
 subst hti
 have hall : sl = allIn r seq text := HS
 have hby : ∀ x ∈ sl,x ≤ 255 := by rw [hall]; exact allIn_le _ _ _
 refine xw_exit ?_
 refine kS ?_
 refine xe_region0 [] (by kernel_rfl) (fun ρ σ => ?_)
 refine kTS [0,1,2,4,5] [77,74,72,3,4,8,9,10,11] 4 [(77,.v (.int .i64 r.next)),(74,.v (.int .i64 (text.size : Int))),(72,.v (.int .i64 seq)),(3,.v (.bool fin)),(4,.p 0 0),(8,.p 1 0),(9,.p 2 0),(10,.v (.int .i64 (windowOf r))),(11,.v (.slice v4a ((slotsOf r).length) v4c))] ?_
 refine kA [3] ?_
 refine kSC 3 69 [.int .i64 seq,.int .i64 (text.size : Int)] (some 75) rfl (xc_s fun ww hf => sSeqAdd_c seq (text.size : Int) ww ) ?_
 intro _
 refine kTS [6] [78,3,4,8,9,10,11] 2 [(78,.v (.int .i64 (IntKind.i64.wrap ((seqAdd seq (text.size : Int)) - r.next)))),(3,.v (.bool fin)),(4,.p 0 0),(8,.p 1 0),(9,.p 2 0),(10,.v (.int .i64 (windowOf r))),(11,.v (.slice v4a ((slotsOf r).length) v4c))] ?_
 refine xe_eqS (t := [(78,.v (.int .i64 (IntKind.i64.wrap ((seqAdd seq (text.size : Int)) - r.next)))),(3,.v (.bool fin)),(4,.p 0 0),(8,.p 1 0),(9,.p 2 0),(10,.v (.int .i64 (windowOf r))),(11,.v (.slice v4a ((slotsOf r).length) v4c))]) (t' := [(78,.v (.int .i64 ((seqAdd seq (text.size : Int)) - r.next))),(3,.v (.bool fin)),(4,.p 0 0),(8,.p 1 0),(9,.p 2 0),(10,.v (.int .i64 (windowOf r))),(11,.v (.slice v4a ((slotsOf r).length) v4c))]) (by rw [show (IntKind.i64.wrap ((seqAdd seq (text.size : Int)) - r.next)) = ((seqAdd seq (text.size : Int)) - r.next) from wrap_id (by omega) (by omega)]) ?_
 refine kA [7] ?_
 refine kSC 7 61 [.int .i64 ((seqAdd seq (text.size : Int)) - r.next)] (some 79) rfl (xc_s fun ww hf => sRest_c ((seqAdd seq (text.size : Int)) - r.next) ww ) ?_
 intro _
 refine xe_eqS (t := [(79,.v (.int .i64 (((seqAdd seq (text.size : Int)) - r.next) % 4294967296))),(78,.v (.int .i64 ((seqAdd seq (text.size : Int)) - r.next))),(3,.v (.bool fin)),(4,.p 0 0),(8,.p 1 0),(9,.p 2 0),(10,.v (.int .i64 (windowOf r))),(11,.v (.slice v4a ((slotsOf r).length) v4c))]) (t' := [(79,.v (.int .i64 ((offN r seq text.size : Nat) : Int))),(78,.v (.int .i64 ((seqAdd seq (text.size : Int)) - r.next))),(3,.v (.bool fin)),(4,.p 0 0),(8,.p 1 0),(9,.p 2 0),(10,.v (.int .i64 (windowOf r))),(11,.v (.slice v4a ((slotsOf r).length) v4c))]) (by rw [show (((seqAdd seq (text.size : Int)) - r.next) % 4294967296) = ((offN r seq text.size : Nat) : Int) from offN_eq r seq text.size]) ?_
 refine kTS [8] [14,3,4,8,9,10,11] 0 [(14,.v (.int .i64 ((offN r seq text.size : Nat) : Int))),(3,.v (.bool fin)),(4,.p 0 0),(8,.p 1 0),(9,.p 2 0),(10,.v (.int .i64 (windowOf r))),(11,.v (.slice v4a ((slotsOf r).length) v4c))] ?_
 refine kZ ?_
 refine kS ?_
 refine xw_joinF (α := {zz : Int // (fun (fo : Int) => fo = finIn r seq text fin ∧ (-1 ≤ fo ∧ fo ≤ 32)) zz}) (fun zz => (fun (fo : Int) => (⟨[(4,.p 0 0),(8,.p 1 0),(9,.p 2 0),(11,.v (.slice v4a ((slotsOf r).length) v4c))],[⟨26,rcvL r (.slice Arh r.held.length Crh)⟩,⟨26,rcvZ⟩,⟨26,rcvL { r with fin := fo } (.slice v1a r.held.length v1c)⟩],[],[rowF w.heap.size 3 1 (.slice v4a ((slotsOf r).length) v4c) (sl.map intRow),rowF w.heap.size 65 2 (.slice v1a r.held.length v1c) (r.held.map pceCells),slF (.slice Arh r.held.length Crh) 2 (r.held.map pceCells)]⟩ : St)) zz.1) ?_ ?_
 refine kQ ?_
 refine kRD 2 [4,8,9,10,11,14,81] [(81,.v (.bool fin))] ?_
 refine kP 81 (fin) (fun h11 => ?_) (fun h11 => ?_)
 refine kRD 5 [4,8,9,10,11,14,86] [(86,.v (.bool (decide (r.fin < 0))))] ?_
 refine kP 86 (decide (r.fin < 0)) (fun h12 => ?_) (fun h12 => ?_)
 have h12p := of_decide_eq_true h12
 refine kRD 5 [4,8,9,11,14,91] [(91,.v (.bool (decide (((offN r seq text.size : Nat) : Int) ≤ (windowOf r)))))] ?_
 refine kP 91 (decide (((offN r seq text.size : Nat) : Int) ≤ (windowOf r))) (fun h13 => ?_) (fun h13 => ?_)
 have h13p := of_decide_eq_true h13
 refine kCD 2 [4,8,9,11,14,91,92,93] [(91,.v (.bool true)),(92,.v (.slice v4a ((slotsOf r).length) v4c)),(93,.v (.int .i64 ((offN r seq text.size : Nat) : Int)))] 70 [.slice v4a ((slotsOf r).length) v4c,.int .i64 ((offN r seq text.size : Nat) : Int)] (some 94) rfl (xc_b fun ww hf => yl18Free_c sl (.slice v4a ((slotsOf r).length) v4c) (offN r seq text.size : Nat) ww (rowF_sl (hf _ m0)) (by omega)) ?_
 intro _
 refine kED [4,8,9,11,14,95] [(95,.v (.bool (freeFrom sl (offN r seq text.size : Nat))))] ?_
 refine kC ((freeFrom sl (offN r seq text.size : Nat))) (fun h14 => ?_) (fun h14 => ?_)
 refine kG ?_
 refine kEU [4,8,9,11] [] 2 ⟨26,rcvL { r with fin := ((offN r seq text.size : Nat) : Int) } (.slice v1a r.held.length v1c)⟩ ?_
 exact ⟨⟨(((offN r seq text.size : Nat) : Int)),⟨(by unfold finIn; rw [← hall]; first | (simp [*]; done) | grind),(by first | omega | (have := hf3; omega))⟩⟩,kF 3 0 [4,8,9,11]⟩
 refine kK ?_
 exact ⟨⟨(r.fin),⟨(by unfold finIn; rw [← hall]; first | (simp [*]; done) | grind),(by first | omega | (have := hf3; omega))⟩⟩,kF 3 0 [4,8,9,11]⟩
 have h13p := of_decide_eq_false h13
 refine kED [4,8,9,11,14,95] [(95,.v (.bool false))] ?_
 refine kN ?_
 refine kK ?_
 exact ⟨⟨(r.fin),⟨(by unfold finIn; rw [← hall]; first | (simp [*]; done) | grind),(by first | omega | (have := hf3; omega))⟩⟩,kF 3 0 [4,8,9,11]⟩
 have h12p := of_decide_eq_false h12
 refine kED [4,8,9,11,14,95] [(95,.v (.bool false))] ?_
 refine kN ?_
 refine kK ?_
 exact ⟨⟨(r.fin),⟨(by unfold finIn; rw [← hall]; first | (simp [*]; done) | grind),(by first | omega | (have := hf3; omega))⟩⟩,kF 3 0 [4,8,9,11]⟩
 refine kED [4,8,9,11,14,95] [(95,.v (.bool false))] ?_
 refine kN ?_
 refine kK ?_
 exact ⟨⟨(r.fin),⟨(by unfold finIn; rw [← hall]; first | (simp [*]; done) | grind),(by first | omega | (have := hf3; omega))⟩⟩,kF 3 0 [4,8,9,11]⟩
 rintro ⟨fo,hfo,hfb⟩
 try dsimp only
 try dsimp only at hfo hfb
 refine kQ ?_
 refine kED [4,8,9,11,15] [(15,.v (.int .i64 0))] ?_
 refine kQ ?_
 refine kHD 0 [4,8,9,11,15] [] rfl (hv_build (e := 5) (K := 1) (bytes := 1) [] rfl (by kernel_rfl) (by kernel_rfl) (by kernel_rfl) (by kernel_rfl) (by kernel_rfl) (rs := ([] : List Int).map byteRow) rfl) ?_
 intro g15
 refine kED [4,8,9,11,15,16] [(16,.v (.slice (some ⟨g15,0,none⟩) 0 0))] ?_
 refine kS ?_
 refine xw_joinF (α := {zz : Nat × List Int × Option Addr × Nat // (fun (n2 : Nat) (gt : List Int) (A2 : Option Addr) (c2 : Nat) => n2 = filled sl ∧ gt = sl.take n2 ∧ n2 ≤ 33) zz.1 zz.2.1 zz.2.2.1 zz.2.2.2}) (fun zz => (fun (n2 : Nat) (gt : List Int) (A2 : Option Addr) (c2 : Nat) => (⟨[(4,.p 0 0),(8,.p 1 0),(9,.p 2 0),(11,.v (.slice v4a ((slotsOf r).length) v4c)),(15,.v (.int .i64 (n2 : Int))),(16,.v (.slice A2 gt.length c2))],[⟨26,rcvL r (.slice Arh r.held.length Crh)⟩,⟨26,rcvZ⟩,⟨26,rcvL { r with fin := fo } (.slice v1a r.held.length v1c)⟩],[],[rowF w.heap.size 5 1 (.slice A2 gt.length c2) (gt.map byteRow),rowF w.heap.size 3 1 (.slice v4a ((slotsOf r).length) v4c) (sl.map intRow),rowF w.heap.size 65 2 (.slice v1a r.held.length v1c) (r.held.map pceCells),slF (.slice Arh r.held.length Crh) 2 (r.held.map pceCells)]⟩ : St)) zz.1.1 zz.1.2.1 zz.1.2.2.1 zz.1.2.2.2) ?_ ?_
 refine xw_block ?_
 refine xw_loopW (α := {x : Nat × List Int × Option Addr × Nat // (fun (n2 : Nat) (gt : List Int) (A2 : Option Addr) (c2 : Nat) => n2 ≤ 33 ∧ gt = sl.take n2 ∧ (∀ x ∈ sl.take n2,0 ≤ x)) x.1 x.2.1 x.2.2.1 x.2.2.2}) (fun x => (fun (n2 : Nat) (gt : List Int) (A2 : Option Addr) (c2 : Nat) => (⟨[(4,.p 0 0),(8,.p 1 0),(9,.p 2 0),(11,.v (.slice v4a ((slotsOf r).length) v4c)),(15,.v (.int .i64 (n2 : Int))),(16,.v (.slice A2 gt.length c2))],[⟨26,rcvL r (.slice Arh r.held.length Crh)⟩,⟨26,rcvZ⟩,⟨26,rcvL { r with fin := fo } (.slice v1a r.held.length v1c)⟩],[],[rowF w.heap.size 5 1 (.slice A2 gt.length c2) (gt.map byteRow),rowF w.heap.size 3 1 (.slice v4a ((slotsOf r).length) v4c) (sl.map intRow),rowF w.heap.size 65 2 (.slice v1a r.held.length v1c) (r.held.map pceCells),slF (.slice Arh r.held.length Crh) 2 (r.held.map pceCells)]⟩ : St)) x.1.1 x.1.2.1 x.1.2.2.1 x.1.2.2.2) (fun x => (fun (n2 : Nat) (gt : List Int) (A2 : Option Addr) (c2 : Nat) => 33 - n2) x.1.1 x.1.2.1 x.1.2.2.1 x.1.2.2.2) ⟨(0,([] : List Int),(some ⟨g15,0,none⟩),0),⟨Nat.zero_le _,rfl,(by simp)⟩⟩ ((wk_pick [0,1,2,3] [rowF w.heap.size 5 1 (.slice (some ⟨g15,0,none⟩) 0 0) (([] : List Int).map byteRow),rowF w.heap.size 3 1 (.slice v4a ((slotsOf r).length) v4c) (sl.map intRow),rowF w.heap.size 65 2 (.slice v1a r.held.length v1c) (r.held.map pceCells),slF (.slice Arh r.held.length Crh) 2 (r.held.map pceCells)] (by kernel_rfl) (by kernel_rfl)).trans <| kF 3 0 [4,8,9,11,15,16]) ?_
 rintro ⟨⟨n2,gt,A2,c2⟩,hn2,hg2,hps⟩
 try dsimp only
 try dsimp only at hn2 hg2 hps
 refine kS ?_
 refine kQ ?_
 refine kRD 5 [4,8,9,11,15,16,103] [(103,.v (.bool (decide ((n2 : Int) < (((slotsOf r).length : Nat) : Int)))))] ?_
 refine kP 103 (decide ((n2 : Int) < (((slotsOf r).length : Nat) : Int))) (fun h16 => ?_) (fun h16 => ?_)
 have h16p := of_decide_eq_true h16
 have hlt2 : n2 < 33 := by simp at h16; omega
 obtain ⟨y,hy⟩ : ∃ y,sl[n2]? = some y := ⟨_,List.getElem?_eq_getElem (by omega)⟩
 have hy255 := hby y (List.mem_of_getElem? hy)
 have hgl : gt.length ≤ 33 := by rw [hg2,List.length_take]; omega
 refine kOD 2 [4,8,9,11,15,16,103,104,105] [(103,.v (.bool true)),(104,.v (.slice v4a ((slotsOf r).length) v4c)),(105,.v (.int .i64 (n2 : Int)))] (.pointer (some ⟨gg,n2 * 1,none⟩)) rfl (fun _ _ _ ww hr => act_ix (kd := .i64) (T := 62) (e := 3) (K := 1) (g := gg) (N := ((slotsOf r).length)) (cap := v4c) n2 (hgg trivial) hr.1 rfl rfl (by kernel_rfl) (by kernel_rfl) (by kernel_rfl) (by omega) ww) ?_
 refine kOD 0 [4,8,9,11,15,16,103,106] [] (.int .i64 y) rfl (fun _ _ _ ww hr => ldR_run (po := 0) (j := n2) (row := [.int .i64 y]) (rowF w.heap.size 3 1 (.slice v4a ((slotsOf r).length) v4c) (sl.map intRow)) hr rfl (by kernel_rfl) (by simp) (by simp only [List.getElem?_map,hy]; rfl) (by kernel_rfl) (hgg trivial) rfl rfl) ?_
 refine kED [4,8,9,11,15,16,109] [(109,.v (.bool (decide (y ≥ 0))))] ?_
 refine kC (decide (y ≥ 0)) (fun h17 => ?_) (fun h17 => ?_)
 have h17p := of_decide_eq_true h17
 refine kK ?_
 refine xw_block ?_
 refine kQ ?_
 refine kOD 3 [4,8,9,11,15,16,110,111,112] [(110,.v (.slice A2 gt.length c2)),(111,.v (.slice v4a ((slotsOf r).length) v4c)),(112,.v (.int .i64 (n2 : Int)))] (.pointer (some ⟨gg,n2 * 1,none⟩)) rfl (fun _ _ _ ww hr => act_ix (kd := .i64) (T := 62) (e := 3) (K := 1) (g := gg) (N := ((slotsOf r).length)) (cap := v4c) n2 (hgg trivial) hr.1 rfl rfl (by kernel_rfl) (by kernel_rfl) (by kernel_rfl) (by omega) ww) ?_
 refine kOD 0 [4,8,9,11,15,16,110,113] [] (.int .i64 y) rfl (fun _ _ _ ww hr => ldR_run (po := 0) (j := n2) (row := [.int .i64 y]) (rowF w.heap.size 3 1 (.slice v4a ((slotsOf r).length) v4c) (sl.map intRow)) hr rfl (by kernel_rfl) (by simp) (by simp only [List.getElem?_map,hy]; rfl) (by kernel_rfl) (hgg trivial) rfl rfl) ?_
 refine kHD 1 [4,8,9,11,15,16,110,115] [(115,.v (.int .u8 (IntKind.u8.wrap y)))] rfl (hv_build (e := 5) (K := 1) (bytes := 1) [.int .u8 (IntKind.u8.wrap y)] rfl (by kernel_rfl) (by kernel_rfl) (by kernel_rfl) (by kernel_rfl) (by kernel_rfl) (rs := ([IntKind.u8.wrap y] : List Int).map byteRow) rfl) ?_
 intro g18
 refine kHS 0 [4,8,9,11,15,16,110,116] [(4,.p 0 0),(8,.p 1 0),(9,.p 2 0),(11,.v (.slice v4a ((slotsOf r).length) v4c)),(15,.v (.int .i64 (n2 : Int))),(16,.v (.slice A2 gt.length c2)),(110,.v (.slice A2 gt.length c2)),(116,.v (.slice (some ⟨g18,0,none⟩) 1 1))] rfl (hv_append (e := 5) (K := 1) (bytes := 1) (i := 1) (q := (gt ++ ([IntKind.u8.wrap y] : List Int)).length) (new := ([IntKind.u8.wrap y] : List Int).map byteRow) (rs' := (gt ++ ([IntKind.u8.wrap y] : List Int)).map byteRow) rfl rfl rfl rfl (by kernel_rfl) (by kernel_rfl) (by kernel_rfl) rfl (by simp) (by rw [List.map_append]) (by simp) (fun ww hf => (rowF_sl (hf (rowF w.heap.size 5 1 (.slice (some ⟨g18,0,none⟩) 1 1) (([IntKind.u8.wrap y] : List Int).map byteRow)) (by simp)))) (by intro r hr; obtain ⟨x,hx,rfl⟩ := List.mem_map.1 hr; exact ⟨rfl,by simp [byteRow,Value.oneCell']⟩) (by (try simp only [List.length_map,List.length_append,List.length_cons,List.length_nil,List.length_take,List.length_drop,maxLen]); omega) (by (try simp only [List.length_map,List.length_append,List.length_cons,List.length_nil,List.length_take,List.length_drop,maxLen]); omega)) ?_
 rintro ⟨v19a,v19c⟩
 refine kRS 1 [4,8,9,11,15,16] [(4,.p 0 0),(8,.p 1 0),(9,.p 2 0),(11,.v (.slice v4a ((slotsOf r).length) v4c)),(15,.v (.int .i64 (n2 : Int))),(16,.v (.slice v19a ((gt ++ ([IntKind.u8.wrap y] : List Int)).length) v19c))] ?_
 refine xl_eq (st' := ⟨[(4,.p 0 0),(8,.p 1 0),(9,.p 2 0),(11,.v (.slice v4a ((slotsOf r).length) v4c)),(15,.v (.int .i64 (n2 : Int))),(16,.v (.slice v19a ((gt ++ ([y] : List Int)).length) v19c))],[⟨26,rcvL r (.slice Arh r.held.length Crh)⟩,⟨26,rcvZ⟩,⟨26,rcvL { r with fin := fo } (.slice v1a r.held.length v1c)⟩],[],[rowF w.heap.size 5 1 (.slice v19a ((gt ++ ([y] : List Int)).length) v19c) ((gt ++ ([y] : List Int)).map byteRow),rowF w.heap.size 5 1 (.slice (some ⟨g18,0,none⟩) 1 1) (([y] : List Int).map byteRow),rowF w.heap.size 3 1 (.slice v4a ((slotsOf r).length) v4c) (sl.map intRow),rowF w.heap.size 65 2 (.slice v1a r.held.length v1c) (r.held.map pceCells),slF (.slice Arh r.held.length Crh) 2 (r.held.map pceCells)]⟩) (by rw [show (IntKind.u8.wrap y) = y from u8_id (by omega) (by omega)] <;> rfl) ?_
 refine kED [4,8,9,11,15,16] [] ?_
 refine kG ?_
 refine kRS 3 [4,8,9,11,15,16] [(4,.p 0 0),(8,.p 1 0),(9,.p 2 0),(11,.v (.slice v4a ((slotsOf r).length) v4c)),(15,.v (.int .i64 (IntKind.i64.wrap ((n2 : Int) + 1)))),(16,.v (.slice v19a ((gt ++ ([y] : List Int)).length) v19c))] ?_
 refine xl_eqS (t' := [(4,.p 0 0),(8,.p 1 0),(9,.p 2 0),(11,.v (.slice v4a ((slotsOf r).length) v4c)),(15,.v (.int .i64 ((n2 : Int) + 1))),(16,.v (.slice v19a ((gt ++ ([y] : List Int)).length) v19c))]) (by rw [show (IntKind.i64.wrap ((n2 : Int) + 1)) = ((n2 : Int) + 1) from wrap_id (by omega) (by omega)]) ?_
 refine kED [4,8,9,11,15,16] [] ?_
 exact ⟨⟨(n2 + 1,(gt ++ ([y] : List Int)),v19a,v19c),⟨(by omega),(by rw [hg2,take_more hy]),(take_pos hps hy (by omega))⟩⟩,(wk_pick [0,2,3,4] [rowF w.heap.size 5 1 (.slice v19a ((gt ++ ([y] : List Int)).length) v19c) ((gt ++ ([y] : List Int)).map byteRow),rowF w.heap.size 3 1 (.slice v4a ((slotsOf r).length) v4c) (sl.map intRow),rowF w.heap.size 65 2 (.slice v1a r.held.length v1c) (r.held.map pceCells),slF (.slice Arh r.held.length Crh) 2 (r.held.map pceCells)] (by kernel_rfl) (by kernel_rfl)).trans <| kF 3 0 [4,8,9,11,15,16],by show (fun (n2 : Nat) (gt : List Int) (A2 : Option Addr) (c2 : Nat) => 33 - n2) (n2 + 1) (gt ++ ([y] : List Int)) v19a v19c < 33 - n2; (dsimp only; omega)⟩
 have h17p := of_decide_eq_false h17
 refine xw_exit ?_
 exact ⟨⟨(n2,gt,A2,c2),⟨(by first | exact (filled_stop (k := n2) (by omega) hps (fun z hz => by rw [hy] at hz; simp only [Option.some.injEq] at hz; omega)).symm | exact (filled_stop (k := n2) (by omega) hps (fun z hz => by rw [List.getElem?_eq_none (by omega)] at hz; simp at hz)).symm),hg2,hn2⟩⟩,kF 3 0 [4,8,9,11,15,16]⟩
 have h16p := of_decide_eq_false h16
 have hge2 : 33 ≤ n2 := by simp at h16; omega
 refine kED [4,8,9,11,15,16,109] [(109,.v (.bool false))] ?_
 refine kN ?_
 refine xw_exit ?_
 exact ⟨⟨(n2,gt,A2,c2),⟨(by first | exact (filled_stop (k := n2) (by omega) hps (fun z hz => by rw [hy] at hz; simp only [Option.some.injEq] at hz; omega)).symm | exact (filled_stop (k := n2) (by omega) hps (fun z hz => by rw [List.getElem?_eq_none (by omega)] at hz; simp at hz)).symm),hg2,hn2⟩⟩,kF 3 0 [4,8,9,11,15,16]⟩
 rintro ⟨⟨n2,gt,A2,c2⟩,hnf,hg2,hn2⟩
 try dsimp only
 try dsimp only at hnf hg2 hn2
 have hbl := bstr_len gt
 have hgl : gt.length ≤ 33 := by rw [hg2,List.length_take]; omega
 refine kQ ?_
 refine kOD 3 [4,8,9,11,15,121,122] [(121,.v (.string r.data)),(122,.v (.slice A2 gt.length c2))] (.string (bstr gt)) rfl (fun _ _ _ ww hr => act_b2s (e := 5) gt hr.1 rfl (by kernel_rfl) (by kernel_rfl) (by kernel_rfl) rfl (rowF_sl (hr.2.fact (rowF w.heap.size 5 1 (.slice A2 gt.length c2) (gt.map byteRow)) (by simp)).1)) ?_
 refine kOD 0 [4,8,9,11,15,121,123] [] (.string (r.data ++ (bstr gt))) rfl (fun _ _ _ ww hr => act_bin hr.1 rfl (by kernel_rfl) (by kernel_rfl) (str_add (by first | omega | (simp only [ByteArray.size_extract]; omega)) ww)) ?_
 refine kEU [4,8,9,11,15] [] 2 ⟨26,rcvL { r with data := r.data ++ (bstr gt),fin := fo } (.slice v1a r.held.length v1c)⟩ ?_
 refine kQ ?_
 refine kCD 3 [4,8,9,11,15,127,128] [(127,.v (.int .i64 r.next)),(128,.v (.int .i64 (n2 : Int)))] 69 [.int .i64 r.next,.int .i64 (n2 : Int)] (some 129) rfl (xc_s fun ww hf => sSeqAdd_c r.next (n2 : Int) ww ) ?_
 intro _
 refine kEU [4,8,9,11,15] [] 2 ⟨26,[.int .i64 (seqAdd r.next (n2 : Int)),.string (r.data ++ (bstr gt)),.slice v1a r.held.length v1c,.int .i64 fo,.bool r.done]⟩ ?_
 refine kQ ?_
 refine kCD 2 [4,8,9,15,131,132] [(131,.v (.slice v4a ((slotsOf r).length) v4c)),(132,.v (.int .i64 (n2 : Int)))] 71 [.slice v4a ((slotsOf r).length) v4c,.int .i64 (n2 : Int)] (some 133) rfl (xc_r fun ww hw hf => yl18Pieces_c sl (.slice v4a ((slotsOf r).length) v4c) n2 ww (rowF_sl (hf _ m1)) (by omega) (by omega) (by assumption) w.heap.size hw) ?_
 rintro ⟨v20a,v20c⟩
 refine kEU [4,8,9,15] [] 2 ⟨26,[.int .i64 (seqAdd r.next (n2 : Int)),.string (r.data ++ (bstr gt)),.slice v20a ((pcs [] 0 (sl.drop n2)).length) v20c,.int .i64 fo,.bool r.done]⟩ ?_
 refine kS ?_
 refine xw_joinF (α := {zz : Int // (fun (fp : Int) => fp = finOut r seq text fin) zz}) (fun zz => (fun (fp : Int) => (⟨[(4,.p 0 0),(8,.p 1 0),(9,.p 2 0)],[⟨26,rcvL r (.slice Arh r.held.length Crh)⟩,⟨26,rcvZ⟩,⟨26,[.int .i64 (seqAdd r.next (n2 : Int)),.string (r.data ++ (bstr gt)),.slice v20a ((pcs [] 0 (sl.drop n2)).length) v20c,.int .i64 fp,.bool r.done]⟩],[],[rowF w.heap.size 65 2 (.slice v20a ((pcs [] 0 (sl.drop n2)).length) v20c) ((pcs [] 0 (sl.drop n2)).map pceCells),rowF w.heap.size 5 1 (.slice A2 gt.length c2) (gt.map byteRow),rowF w.heap.size 3 1 (.slice v4a ((slotsOf r).length) v4c) (sl.map intRow),rowF w.heap.size 65 2 (.slice v1a r.held.length v1c) (r.held.map pceCells),slF (.slice Arh r.held.length Crh) 2 (r.held.map pceCells)]⟩ : St)) zz.1) ?_ ?_
 refine kQ ?_
 refine kES [4,8,9,15,137] [(4,.p 0 0),(8,.p 1 0),(9,.p 2 0),(15,.v (.int .i64 (n2 : Int))),(137,.v (.bool (decide (fo ≥ 0))))] ?_
 refine kC (decide (fo ≥ 0)) (fun h21 => ?_) (fun h21 => ?_)
 have h21p := of_decide_eq_true h21
 refine kG ?_
 refine kRF 6 [4,8,9] ⟨[(4,.p 0 0),(8,.p 1 0),(9,.p 2 0)],[⟨26,rcvL r (.slice Arh r.held.length Crh)⟩,⟨26,rcvZ⟩,⟨26,[.int .i64 (seqAdd r.next (n2 : Int)),.string (r.data ++ (bstr gt)),.slice v20a ((pcs [] 0 (sl.drop n2)).length) v20c,.int .i64 (IntKind.i64.wrap (fo - (n2 : Int))),.bool r.done]⟩],[],[rowF w.heap.size 65 2 (.slice v20a ((pcs [] 0 (sl.drop n2)).length) v20c) ((pcs [] 0 (sl.drop n2)).map pceCells),rowF w.heap.size 5 1 (.slice A2 gt.length c2) (gt.map byteRow),rowF w.heap.size 3 1 (.slice v4a ((slotsOf r).length) v4c) (sl.map intRow),rowF w.heap.size 65 2 (.slice v1a r.held.length v1c) (r.held.map pceCells),slF (.slice Arh r.held.length Crh) 2 (r.held.map pceCells)]⟩ ?_
 refine xl_eq (st' := ⟨[(4,.p 0 0),(8,.p 1 0),(9,.p 2 0)],[⟨26,rcvL r (.slice Arh r.held.length Crh)⟩,⟨26,rcvZ⟩,⟨26,[.int .i64 (seqAdd r.next (n2 : Int)),.string (r.data ++ (bstr gt)),.slice v20a ((pcs [] 0 (sl.drop n2)).length) v20c,.int .i64 (fo - (n2 : Int)),.bool r.done]⟩],[],[rowF w.heap.size 65 2 (.slice v20a ((pcs [] 0 (sl.drop n2)).length) v20c) ((pcs [] 0 (sl.drop n2)).map pceCells),rowF w.heap.size 5 1 (.slice A2 gt.length c2) (gt.map byteRow),rowF w.heap.size 3 1 (.slice v4a ((slotsOf r).length) v4c) (sl.map intRow),rowF w.heap.size 65 2 (.slice v1a r.held.length v1c) (r.held.map pceCells),slF (.slice Arh r.held.length Crh) 2 (r.held.map pceCells)]⟩) (by rw [show (IntKind.i64.wrap (fo - (n2 : Int))) = (fo - (n2 : Int)) from wrap_id (by omega) (by omega)] <;> rfl) ?_
 refine kED [4,8,9] [] ?_
 exact ⟨⟨(fo - (n2 : Int)),(by unfold finOut; rw [← hall,← hnf,← hfo]; first | rw [if_pos (by omega)] | rw [if_neg (by omega)])⟩,kF 3 0 [4,8,9]⟩
 have h21p := of_decide_eq_false h21
 refine kK ?_
 exact ⟨⟨(fo),(by unfold finOut; rw [← hall,← hnf,← hfo]; first | rw [if_pos (by omega)] | rw [if_neg (by omega)])⟩,kF 3 0 [4,8,9]⟩
 rintro ⟨fp,hfp⟩
 try dsimp only
 try dsimp only at hfp
 refine kS ?_
 refine kQ ?_
 refine kES [4,8,9,145] [(4,.p 0 0),(8,.p 1 0),(9,.p 2 0),(145,.v (.bool (fp == 0)))] ?_
 refine kC (fp == 0) (fun h22 => ?_) (fun h22 => ?_)
 have h22p := eqT h22
 refine kQ ?_
 refine kEU [4,8,9] [] 2 ⟨26,[.int .i64 (seqAdd r.next (n2 : Int)),.string (r.data ++ (bstr gt)),.slice v20a ((pcs [] 0 (sl.drop n2)).length) v20c,.int .i64 (-1),.bool r.done]⟩ ?_
 refine kQ ?_
 refine kEU [4,8,9] [] 2 ⟨26,[.int .i64 (seqAdd r.next (n2 : Int)),.string (r.data ++ (bstr gt)),.slice v20a ((pcs [] 0 (sl.drop n2)).length) v20c,.int .i64 (-1),.bool true]⟩ ?_
 refine kG ?_
 refine kCD 2 [4,8,9,149] [(149,.v (.int .i64 (seqAdd r.next (n2 : Int))))] 69 [.int .i64 (seqAdd r.next (n2 : Int)),.int .i64 1] (some 150) rfl (xc_s fun ww hf => sSeqAdd_c (seqAdd r.next (n2 : Int)) 1 ww ) ?_
 intro _
 refine kEU [4,8,9] [] 2 ⟨26,[.int .i64 (seqAdd (seqAdd r.next (n2 : Int)) 1),.string (r.data ++ (bstr gt)),.slice v20a ((pcs [] 0 (sl.drop n2)).length) v20c,.int .i64 (-1),.bool true]⟩ ?_
 refine kS ?_
 refine kQ ?_
 refine kED [4,8,9,155] [(155,.v (.bool (decide ((((pcs [] 0 (sl.drop n2)).length : Nat) : Int) > 3))))] ?_
 refine kC (decide ((((pcs [] 0 (sl.drop n2)).length : Nat) : Int) > 3)) (fun h23 => ?_) (fun h23 => ?_)
 have h23p := of_decide_eq_true h23
 refine kQ ?_
 refine kCD 1 [8,156] [(156,.v (.agg (rcvL r (.slice Arh r.held.length Crh)).toArray))] 37 [.agg (rcvL r (.slice Arh r.held.length Crh)).toArray] (some 157) rfl (xc_r fun ww hw hf => yl18Copy_c r (.slice Arh r.held.length Crh) ww (hf _ m4) (by assumption) w.heap.size hw) ?_
 rintro ⟨v24a,v24c⟩
 refine kEU [8] [(8,.p 1 0)] 1 ⟨26,rcvL r (.slice v24a r.held.length v24c)⟩ ?_
 refine kR ?_
 have hmod : arrived r seq text fin = r := by first | exact arrived_over hrk (by assumption) (by rw [← hall,← hnf]; omega) | (unfold arrived; rw [if_neg (by grind)]; done) | (unfold arrived; rw [if_pos (by grind),← hall,← hnf,← hg2,← hfp]; first | (rw [if_pos (by omega)]; done) | (rw [if_neg (by omega),if_pos (by first | omega | simp_all)]; done) | (rw [if_neg (by omega),if_neg (by first | omega | simp_all)]; done))
 exact ⟨[.agg (rcvL r (.slice v24a r.held.length v24c)).toArray],by kernel_rfl,fun w' hb hf ha => by rw [hmod]; exact xo1 ((v24a,v24c)) rfl rfl (pW (hf _ m0) hB) hb⟩
 have h23p := of_decide_eq_false h23
 refine kK ?_
 refine kQ ?_
 refine kEU [8] [(8,.p 1 0)] 1 ⟨26,[.int .i64 (seqAdd (seqAdd r.next (n2 : Int)) 1),.string (r.data ++ (bstr gt)),.slice v20a ((pcs [] 0 (sl.drop n2)).length) v20c,.int .i64 (-1),.bool true]⟩ ?_
 refine kR ?_
 have hmod : arrived r seq text fin = (⟨seqAdd (seqAdd r.next (n2 : Int)) 1,r.data ++ (bstr gt),(pcs [] 0 (sl.drop n2)),(-1),true⟩) := by first | exact arrived_over hrk (by assumption) (by rw [← hall,← hnf]; omega) | (unfold arrived; rw [if_neg (by grind)]; done) | (unfold arrived; rw [if_pos (by grind),← hall,← hnf,← hg2,← hfp]; first | (rw [if_pos (by omega)]; done) | (rw [if_neg (by omega),if_pos (by first | omega | simp_all)]; done) | (rw [if_neg (by omega),if_neg (by first | omega | simp_all)]; done))
 exact ⟨[.agg #[.int .i64 (seqAdd (seqAdd r.next (n2 : Int)) 1),.string (r.data ++ (bstr gt)),.slice v20a ((pcs [] 0 (sl.drop n2)).length) v20c,.int .i64 (-1),.bool true]],by kernel_rfl,fun w' hb hf ha => by rw [hmod]; exact xo1 ((v20a,v20c)) rfl rfl (pW (hf _ m0) hB) hb⟩
 have h22p := eqF h22
 refine kK ?_
 refine kS ?_
 refine kQ ?_
 refine kED [4,8,9,155] [(155,.v (.bool (decide ((((pcs [] 0 (sl.drop n2)).length : Nat) : Int) > 3))))] ?_
 refine kC (decide ((((pcs [] 0 (sl.drop n2)).length : Nat) : Int) > 3)) (fun h25 => ?_) (fun h25 => ?_)
 have h25p := of_decide_eq_true h25
 refine kQ ?_
 refine kCD 1 [8,156] [(156,.v (.agg (rcvL r (.slice Arh r.held.length Crh)).toArray))] 37 [.agg (rcvL r (.slice Arh r.held.length Crh)).toArray] (some 157) rfl (xc_r fun ww hw hf => yl18Copy_c r (.slice Arh r.held.length Crh) ww (hf _ m4) (by assumption) w.heap.size hw) ?_
 rintro ⟨v26a,v26c⟩
 refine kEU [8] [(8,.p 1 0)] 1 ⟨26,rcvL r (.slice v26a r.held.length v26c)⟩ ?_
 refine kR ?_
 have hmod : arrived r seq text fin = r := by first | exact arrived_over hrk (by assumption) (by rw [← hall,← hnf]; omega) | (unfold arrived; rw [if_neg (by grind)]; done) | (unfold arrived; rw [if_pos (by grind),← hall,← hnf,← hg2,← hfp]; first | (rw [if_pos (by omega)]; done) | (rw [if_neg (by omega),if_pos (by first | omega | simp_all)]; done) | (rw [if_neg (by omega),if_neg (by first | omega | simp_all)]; done))
 exact ⟨[.agg (rcvL r (.slice v26a r.held.length v26c)).toArray],by kernel_rfl,fun w' hb hf ha => by rw [hmod]; exact xo1 ((v26a,v26c)) rfl rfl (pW (hf _ m0) hB) hb⟩
 have h25p := of_decide_eq_false h25
 refine kK ?_
 refine kQ ?_
 refine kEU [8] [(8,.p 1 0)] 1 ⟨26,[.int .i64 (seqAdd r.next (n2 : Int)),.string (r.data ++ (bstr gt)),.slice v20a ((pcs [] 0 (sl.drop n2)).length) v20c,.int .i64 fp,.bool r.done]⟩ ?_
 refine kR ?_
 have hmod : arrived r seq text fin = (⟨seqAdd r.next (n2 : Int),r.data ++ (bstr gt),(pcs [] 0 (sl.drop n2)),fp,r.done⟩) := by first | exact arrived_over hrk (by assumption) (by rw [← hall,← hnf]; omega) | (unfold arrived; rw [if_neg (by grind)]; done) | (unfold arrived; rw [if_pos (by grind),← hall,← hnf,← hg2,← hfp]; first | (rw [if_pos (by omega)]; done) | (rw [if_neg (by omega),if_pos (by first | omega | simp_all)]; done) | (rw [if_neg (by omega),if_neg (by first | omega | simp_all)]; done))
 exact ⟨[.agg #[.int .i64 (seqAdd r.next (n2 : Int)),.string (r.data ++ (bstr gt)),.slice v20a ((pcs [] 0 (sl.drop n2)).length) v20c,.int .i64 fp,.bool r.done]],by kernel_rfl,fun w' hb hf ha => by rw [hmod]; exact xo1 ((v20a,v20c)) rfl rfl (pW (hf _ m0) hB) hb⟩
theorem ysTakenIn_c (r : Rcv) (r_heldV : Value) (n : Int) (w : World) (hl_r_heldV : Sl w r_heldV 2 (r.held.map pceCells)) (hkn : r.held.length ≤ 1048576) (hm : ∀ p ∈ r.held, p.text.size ≤ 1048576) (hsz : r.data.size ≤ 4611686018427387904) (B : Nat) (hB : B ≤ w.heap.size) : Calls Try.prog 11 #[.agg (rcvL r r_heldV).toArray, .int .i64 n] w fun e w' => XRs w w' e (α := Option Addr × Nat) (fun y => .tuple #[.agg (rcvL (takenIn r n).1 (.slice y.1 ((takenIn r n).1.held.length) y.2)).toArray, .string ((takenIn r n).2)]) (fun y => [rowF B 65 2 (.slice y.1 ((takenIn r n).1.held.length) y.2) ((takenIn r n).1.held.map pceCells)]) := by
 obtain ⟨Arh,Crh,hvrh⟩ := hl_r_heldV.form
 rw [List.length_map] at hvrh; subst hvrh
 have hnrh := hl_r_heldV.len; rw [List.length_map] at hnrh
 have hqrh := Sl.capLe hl_r_heldV
 refine x_callsA (args := [.agg (rcvL r (.slice Arh r.held.length Crh)).toArray,.int .i64 n]) (fn := Try.f11) [slF (.slice Arh r.held.length Crh) 2 (r.held.map pceCells)] Try.func11 rfl Try.ntmps11 rfl (by simp only [List.mem_cons,List.not_mem_nil,or_false,forall_eq_or_imp,forall_eq]; exact ⟨rfl,hl_r_heldV⟩) ?_
 refine kQ ?_
 refine kEF [1,2,4] ⟨[(1,.v (.int .i64 n)),(2,.p 0 0),(4,.p 1 0)],[⟨26,rcvL r (.slice Arh r.held.length Crh)⟩,⟨26,rcvZ⟩],[],[slF (.slice Arh r.held.length Crh) 2 (r.held.map pceCells)]⟩ ?_
 refine kQ ?_
 refine kCS 1 [1,2,4,7] [(1,.v (.int .i64 n)),(2,.p 0 0),(4,.p 1 0),(7,.v (.agg (rcvL r (.slice Arh r.held.length Crh)).toArray))] 37 [.agg (rcvL r (.slice Arh r.held.length Crh)).toArray] (some 8) rfl (xc_r fun ww hw hf => yl18Copy_c r (.slice Arh r.held.length Crh) ww (hf _ m0) (by assumption) w.heap.size hw) ?_
 rintro ⟨v1a,v1c⟩
 refine kEF [1,2,4,6] ⟨[(1,.v (.int .i64 n)),(2,.p 0 0),(4,.p 1 0),(6,.p 2 0)],[⟨26,rcvL r (.slice Arh r.held.length Crh)⟩,⟨26,rcvZ⟩,⟨26,rcvL r (.slice v1a r.held.length v1c)⟩],[],[rowF w.heap.size 65 2 (.slice v1a r.held.length v1c) (r.held.map pceCells),slF (.slice Arh r.held.length Crh) 2 (r.held.map pceCells)]⟩ ?_
 refine kS ?_
 refine kQ ?_
 refine kCS 1 [1,2,4,6,9] [(1,.v (.int .i64 n)),(2,.p 0 0),(4,.p 1 0),(6,.p 2 0),(9,.v (.agg (rcvL r (.slice Arh r.held.length Crh)).toArray))] 13 [.agg (rcvL r (.slice Arh r.held.length Crh)).toArray] (some 10) rfl (xc_b fun ww hf => ysReceiverOk_c r (.slice Arh r.held.length Crh) ww (hf _ m1) (by assumption) (by omega)) ?_
 intro _
 refine kES [1,2,4,6,11] [(1,.v (.int .i64 n)),(2,.p 0 0),(4,.p 1 0),(6,.p 2 0),(11,.v (.bool (!(receiverOk r))))] ?_
 refine kC (!(receiverOk r)) (fun h2 => ?_) (fun h2 => ?_)
 have h2n := not_t h2
 refine kQ ?_
 refine kEF [4,5] ⟨[(4,.p 1 0),(5,.v (.string (⟨#[]⟩ : ByteArray)))],[⟨26,rcvL r (.slice Arh r.held.length Crh)⟩,⟨26,rcvL r (.slice v1a r.held.length v1c)⟩,⟨26,rcvL r (.slice v1a r.held.length v1c)⟩],[],[rowF w.heap.size 65 2 (.slice v1a r.held.length v1c) (r.held.map pceCells),slF (.slice Arh r.held.length Crh) 2 (r.held.map pceCells)]⟩ ?_
 refine kR ?_
 have hmod : takenIn r n = (r,(⟨#[]⟩ : ByteArray)) := by first | rfl | (simp [takenIn,cut, *]; done) | grind [takenIn,cut]
 exact ⟨[.agg (rcvL r (.slice v1a r.held.length v1c)).toArray,.string (⟨#[]⟩ : ByteArray)],by kernel_rfl,fun w' hb hf ha => by rw [hmod]; exact xo1 ((v1a,v1c)) rfl rfl (pW (hf _ m0) hB) hb⟩
 have h2n := not_f h2
 refine kK ?_
 refine kQ ?_
 refine kCS 4 [1,2,4,6,13,16] [(1,.v (.int .i64 n)),(2,.p 0 0),(4,.p 1 0),(6,.p 2 0),(13,.v (.int .i64 n)),(16,.v (.int .i64 (r.data.size : Int)))] 39 [.int .i64 n,.int .i64 (r.data.size : Int)] (some 17) rfl (xc_s fun ww hf => l1Min_c n (r.data.size : Int) ww ) ?_
 intro _
 refine kCS 0 [1,2,4,6,17] [(1,.v (.int .i64 n)),(2,.p 0 0),(4,.p 1 0),(6,.p 2 0),(17,.v (.int .i64 (min n (r.data.size : Int))))] 38 [.int .i64 0,.int .i64 (min n (r.data.size : Int))] (some 18) rfl (xc_s fun ww hf => l1Max_c 0 (min n (r.data.size : Int)) ww ) ?_
 intro _
 refine kES [1,2,4,6] [(1,.v (.int .i64 (max 0 (min n (r.data.size : Int))))),(2,.p 0 0),(4,.p 1 0),(6,.p 2 0)] ?_
 refine kQ ?_
 refine kOS 3 [1,2,4,6,20,21] [(1,.v (.int .i64 (max 0 (min n (r.data.size : Int))))),(2,.p 0 0),(4,.p 1 0),(6,.p 2 0),(20,.v (.string r.data)),(21,.v (.int .i64 (max 0 (min n (r.data.size : Int)))))] (.string (r.data.extract (max 0 (min n (r.data.size : Int))).toNat r.data.size)) rfl (fun _ _ _ ww hr => act_slSe (max 0 (min n (r.data.size : Int))) hr.1 rfl (by kernel_rfl) rfl rfl (by omega) (by omega) ww) ?_
 refine kEF [1,2,4,6] ⟨[(1,.v (.int .i64 (max 0 (min n (r.data.size : Int))))),(2,.p 0 0),(4,.p 1 0),(6,.p 2 0)],[⟨26,rcvL r (.slice Arh r.held.length Crh)⟩,⟨26,rcvZ⟩,⟨26,rcvL { r with data := r.data.extract (max 0 (min n (r.data.size : Int))).toNat r.data.size } (.slice v1a r.held.length v1c)⟩],[],[rowF w.heap.size 65 2 (.slice v1a r.held.length v1c) (r.held.map pceCells),slF (.slice Arh r.held.length Crh) 2 (r.held.map pceCells)]⟩ ?_
 refine kS ?_
 refine xe_region [true,false,true] (by kernel_rfl) (fun ρ σ => ?_)
 refine kTS [0,1,2,3] [27,26,24,4] 3 [(27,.v (.int .i64 (max 0 (min n (r.data.size : Int))))),(26,.v (.string r.data)),(24,.v (.agg (rcvL { r with data := r.data.extract (max 0 (min n (r.data.size : Int))).toNat r.data.size } (.slice v1a r.held.length v1c)).toArray)),(4,.p 1 0)] ?_
 refine kX 4 (.string (r.data.extract 0 (max 0 (min n (r.data.size : Int))).toNat)) rfl (fun _ _ ww hA => act_slS0 (max 0 (min n (r.data.size : Int))) hA rfl (by kernel_rfl) rfl rfl (by omega) (by omega) ww) ?_
 refine kA [5] ?_
 refine kSS 5 1 0 (rcvL { r with data := r.data.extract (max 0 (min n (r.data.size : Int))).toNat r.data.size } (.slice v1a r.held.length v1c)) rfl ?_
 refine kTS [6] [5,4] 0 [(5,.v (.string (r.data.extract 0 (max 0 (min n (r.data.size : Int))).toNat))),(4,.p 1 0)] ?_
 refine kZ ?_
 refine kR ?_
 have hmod : takenIn r n = (({ r with data := r.data.extract (max 0 (min n (r.data.size : Int))).toNat r.data.size }),(r.data.extract 0 (max 0 (min n (r.data.size : Int))).toNat)) := by first | rfl | (simp [takenIn,cut, *]; done) | grind [takenIn,cut]
 exact ⟨[.agg (rcvL { r with data := r.data.extract (max 0 (min n (r.data.size : Int))).toNat r.data.size } (.slice v1a r.held.length v1c)).toArray,.string (r.data.extract 0 (max 0 (min n (r.data.size : Int))).toNat)],by kernel_rfl,fun w' hb hf ha => by rw [hmod]; exact xo1 ((v1a,v1c)) rfl rfl (pW (hf _ m0) hB) hb⟩
theorem ysReceiverNew_c (n : Int) (w : World)  (B : Nat) (hB : B ≤ w.heap.size) : Calls Try.prog 96 #[.int .i64 n] w fun e w' => XRs w w' e (α := Option Addr × Nat) (fun y => .agg (rcvL (receiverNew n) (.slice y.1 ((receiverNew n).held.length) y.2)).toArray) (fun y => [rowF B 65 2 (.slice y.1 ((receiverNew n).held.length) y.2) ((receiverNew n).held.map pceCells)]) := by
 refine x_callsA (args := [.int .i64 n]) (fn := Try.f96) [] Try.func96 rfl Try.ntmps96 rfl (by simp) ?_
 refine kQ ?_
 refine kEF [0,2] ⟨[(0,.v (.int .i64 n)),(2,.p 0 0)],[⟨26,rcvZ⟩],[],[]⟩ ?_
 refine kQ ?_
 refine kCS 1 [2,3] [(2,.p 0 0),(3,.v (.int .i64 n))] 61 [.int .i64 n] (some 4) rfl (xc_s fun ww hf => sRest_c n ww ) ?_
 intro _
 refine kOS 0 [2,4] [(2,.p 0 0),(4,.v (.int .i64 (n % 4294967296)))] (.agg #[.int .i64 (n % 4294967296),.string (⟨#[]⟩ : ByteArray),.slice none 0 0,.int .i64 (-1),.bool false]) rfl (fun _ _ _ ww hr => act_build [(0,.int .i64 (n % 4294967296)),(3,.int .i64 (-1))] hr.1 rfl (by kernel_rfl) (by kernel_rfl) ww) ?_
 refine kEF [2] ⟨[(2,.p 0 0)],[⟨26,[.int .i64 (n % 4294967296),.string (⟨#[]⟩ : ByteArray),.slice none 0 0,.int .i64 (-1),.bool false]⟩],[],[]⟩ ?_
 refine kR ?_
 have hmod : receiverNew n = (⟨n % 4294967296,(⟨#[]⟩ : ByteArray),[],(-1),false⟩) := by first | rfl | (simp [receiverNew,seqAdd]; done)
 exact ⟨[.agg #[.int .i64 (n % 4294967296),.string (⟨#[]⟩ : ByteArray),.slice none 0 0,.int .i64 (-1),.bool false]],by kernel_rfl,fun w' hb hf ha => by rw [hmod]; exact xo1 ((none,0)) rfl rfl ⟨rowF_nil _ _ _ _,fun b hb => (nilF_b _ _ _ _ hb).elim⟩ hb⟩
theorem l1New_c (code : List Int) (A : Option Addr) (cap : Nat) (w : World) (hl : Sl w (.slice A code.length cap) 1 (code.map byteRow)) (hn : code.length ≤ 1048576) : Calls Try.prog 33 #[.slice A code.length cap] w fun e w' => ∃ y : {g : Nat // ¬ (slF (.slice A code.length cap) 1 (code.map byteRow)).blk g}, e = .returned (.pointer (some ⟨y.1, 0, none⟩)) ∧ (curF w.heap.size y.1 85 (.slice A code.length cap) code.length).p w' ∧ Below w.heap.size w w' := by
 have hq_code := Sl.capLe hl
 refine x_calls (args := [.slice A code.length cap]) (fn := Try.f33) [slF (.slice A code.length cap) 1 (code.map byteRow)] Try.func33 rfl Try.ntmps33 rfl (by simp only [List.mem_cons,List.not_mem_nil,or_false,forall_eq]; exact ⟨rfl,hl⟩) ?_
 refine kQ ?_
 refine kEF [0] ⟨[(0,.v (.slice A code.length cap))],[],[],[slF (.slice A code.length cap) 1 (code.map byteRow)]⟩ ?_
 refine kQ ?_
 refine kED [0,3] [(3,.v (.int .i64 (IntKind.i64.wrap (28655 + ((code.length : Nat) : Int)))))] ?_
 refine kS ?_
 refine kQ ?_
 refine kED [0,3,4] [(4,.v (.int .i64 0))] ?_
 refine xw_block ?_
 refine xw_loopW (α := {x : Nat × Int // (fun (i : Nat) (h : Int) => i ≤ code.length) x.1 x.2}) (fun x => (fun (i : Nat) (h : Int) => (⟨[(0,.v (.slice A code.length cap)),(3,.v (.int .i64 h)),(4,.v (.int .i64 (i : Int)))],[],[],[slF (.slice A code.length cap) 1 (code.map byteRow)]⟩ : St)) x.1.1 x.1.2) (fun x => (fun (i : Nat) (h : Int) => code.length - i) x.1.1 x.1.2) ⟨(0,IntKind.i64.wrap (28655 + ((code.length : Nat) : Int))),Nat.zero_le _⟩ (kF 0 0 [0,3,4]) ?_
 rintro ⟨⟨i,h⟩,hi⟩
 try dsimp only
 try dsimp only at hi
 refine kS ?_
 refine kQ ?_
 refine kRD 5 [0,3,4,12] [(12,.v (.bool (decide ((i : Int) < ((code.length : Nat) : Int)))))] ?_
 refine kP 12 (decide ((i : Int) < ((code.length : Nat) : Int))) (fun h1 => ?_) (fun h1 => ?_)
 have h1p := of_decide_eq_true h1
 have hlt : i < code.length := by simpa using h1
 obtain ⟨z,hz⟩ : ∃ z,code[i]? = some z := ⟨_,List.getElem?_eq_getElem hlt⟩
 refine kED [0,3,4,15] [(15,.v (.bool (decide ((i : Int) < 4000))))] ?_
 refine kC (decide ((i : Int) < 4000)) (fun h2 => ?_) (fun h2 => ?_)
 have h2p := of_decide_eq_true h2
 refine kK ?_
 refine kS ?_
 refine xw_block ?_
 refine kG ?_
 refine xl_indexD (kd := .i64) (T := 22) (e := 5) (K := 1) 4 [0,3,4,19,20,21] [(19,.v (.int .i64 (IntKind.i64.wrap (h * 131)))),(20,.v (.slice A code.length cap)),(21,.v (.int .i64 (i : Int)))] i [.int .u8 z] (slF (.slice A code.length cap) 1 (code.map byteRow)) (by kernel_rfl) rfl (by kernel_rfl) rfl rfl (by kernel_rfl) (by kernel_rfl) (by kernel_rfl) (by kernel_rfl) hlt (by simp) (fun w h => h) (fun b h => h) (by simp only [List.getElem?_map,hz]; rfl) ?_
 refine kED [0,3,4] [(3,.v (.int .i64 (IntKind.i64.wrap (BitVec.ofInt 64 (IntKind.i64.wrap ((IntKind.i64.wrap ((IntKind.i64.wrap (h * 131)) + (IntKind.i64.wrap z))) + 7)) &&& BitVec.ofInt 64 1073741823).toNat)))] ?_
 refine kG ?_
 refine kRS 3 [0,3,4] [(0,.v (.slice A code.length cap)),(3,.v (.int .i64 (IntKind.i64.wrap (BitVec.ofInt 64 (IntKind.i64.wrap ((IntKind.i64.wrap ((IntKind.i64.wrap (h * 131)) + (IntKind.i64.wrap z))) + 7)) &&& BitVec.ofInt 64 1073741823).toNat))),(4,.v (.int .i64 (IntKind.i64.wrap ((i : Int) + 1))))] ?_
 refine xl_eqS (t' := [(0,.v (.slice A code.length cap)),(3,.v (.int .i64 (IntKind.i64.wrap (BitVec.ofInt 64 (IntKind.i64.wrap ((IntKind.i64.wrap ((IntKind.i64.wrap (h * 131)) + (IntKind.i64.wrap z))) + 7)) &&& BitVec.ofInt 64 1073741823).toNat))),(4,.v (.int .i64 ((i : Int) + 1)))]) (by rw [show (IntKind.i64.wrap ((i : Int) + 1)) = ((i : Int) + 1) from wrap_id (by omega) (by omega)]) ?_
 refine kED [0,3,4] [] ?_
 exact ⟨⟨(i + 1,IntKind.i64.wrap (BitVec.ofInt 64 (IntKind.i64.wrap ((IntKind.i64.wrap ((IntKind.i64.wrap (h * 131)) + (IntKind.i64.wrap z))) + 7)) &&& BitVec.ofInt 64 1073741823).toNat),hlt⟩,kF 0 0 [0,3,4],by show (fun (i : Nat) (h : Int) => code.length - i) (i + 1) (IntKind.i64.wrap (BitVec.ofInt 64 (IntKind.i64.wrap ((IntKind.i64.wrap ((IntKind.i64.wrap (h * 131)) + (IntKind.i64.wrap z))) + 7)) &&& BitVec.ofInt 64 1073741823).toNat) < code.length - i; (dsimp only; omega)⟩
 have h2p := of_decide_eq_false h2
 refine xw_exit ?_
 refine kQ ?_
 refine kOS 2 [28,29] [(28,.v (.slice A code.length cap)),(29,.v (.int .i64 h))] (.agg #[.slice A code.length cap,.int .i64 0,.int .i64 h]) rfl (fun _ _ _ ww hr => act_build [(0,.slice A code.length cap),(2,.int .i64 h)] hr.1 rfl (by kernel_rfl) (by kernel_rfl) ww) ?_
 refine kEA [2] [(2,.p 0 0)] [⟨85,[.slice A code.length cap,.int .i64 0,.int .i64 h]⟩] ?_
 refine xw_pin ?_
 intro g hg hgn
 refine kR ?_
 exact ⟨[.pointer (some ⟨g,0,none⟩)],by kernel_rfl,fun w' hb hf => ⟨⟨g,hgn _ (by simp)⟩,rfl,⟨hg,0,h,Nat.zero_le _,(hf (cellF w.heap.size g 85 [.slice A code.length cap,.int .i64 0,.int .i64 h]) (by simp)).2⟩,hb⟩⟩
 have h1p := of_decide_eq_false h1
 refine kED [0,3,4,15] [(15,.v (.bool false))] ?_
 refine kN ?_
 refine xw_exit ?_
 refine kQ ?_
 refine kOS 2 [28,29] [(28,.v (.slice A code.length cap)),(29,.v (.int .i64 h))] (.agg #[.slice A code.length cap,.int .i64 0,.int .i64 h]) rfl (fun _ _ _ ww hr => act_build [(0,.slice A code.length cap),(2,.int .i64 h)] hr.1 rfl (by kernel_rfl) (by kernel_rfl) ww) ?_
 refine kEA [2] [(2,.p 0 0)] [⟨85,[.slice A code.length cap,.int .i64 0,.int .i64 h]⟩] ?_
 refine xw_pin ?_
 intro g hg hgn
 refine kR ?_
 exact ⟨[.pointer (some ⟨g,0,none⟩)],by kernel_rfl,fun w' hb hf => ⟨⟨g,hgn _ (by simp)⟩,rfl,⟨hg,0,h,Nat.zero_le _,(hf (cellF w.heap.size g 85 [.slice A code.length cap,.int .i64 0,.int .i64 h]) (by simp)).2⟩,hb⟩⟩
theorem l1Byte_c (g : Nat) (code : List Int) (A : Option Addr) (cap : Nat)  (w : World) (B : Nat) (hB : B ≤ w.heap.size) (hc : (curF B g 85 (.slice A code.length cap) code.length).p w) (hl : Sl w (.slice A code.length cap) 1 (code.map byteRow)) (hap : ¬ (slF (.slice A code.length cap) 1 (code.map byteRow)).blk g) (hn : code.length ≤ 1048576)  : Calls Try.prog 81 #[.pointer (some ⟨g, 0, none⟩)] w fun e w' => ∃ y : {y : Int // 0 ≤ y ∧ y ≤ 255}, e = .returned (.int .i64 y.1) ∧ (curF B g 85 (.slice A code.length cap) code.length).p w' ∧ Chgd (fun b => b = g) w w' := by
 have hq_code := Sl.capLe hl
 obtain ⟨hBg,i,h,hi,hg⟩ := hc
 refine x_callsM (args := [.pointer (some ⟨g,0,none⟩)]) (fn := Try.f81) [cellF B g 85 [.slice A code.length cap,.int .i64 (i : Int),.int .i64 h],slF (.slice A code.length cap) 1 (code.map byteRow),frF w (fun b => b = g)] B Try.func81 rfl Try.ntmps81 rfl hB (by simp only [List.mem_cons,List.not_mem_nil,or_false,forall_eq_or_imp,forall_eq]; exact ⟨⟨hBg,hg⟩,hl,frF_start w _⟩) (apart_cell hap rfl) ?_
 refine kQ ?_
 refine kEF [0] ⟨[(0,.v (.pointer (some ⟨g,0,none⟩)))],[],[],[cellF B g 85 [.slice A code.length cap,.int .i64 (i : Int),.int .i64 h],slF (.slice A code.length cap) 1 (code.map byteRow),frF w (fun b => b = g)]⟩ ?_
 refine kQ ?_
 refine kOD 2 [0,4,5] [(4,.v (.pointer (some ⟨g,0,none⟩))),(5,.v (.pointer (some ⟨g,0,none⟩)))] (.pointer (some ⟨g,0,none⟩)) rfl (fun _ _ _ ww hr => act_nil (b := g) (m := 0) hr.1 rfl (by kernel_rfl) ww) ?_
 refine kOD 0 [0,4,6] [] (.pointer (some ⟨g,2,none⟩)) rfl (fun _ _ _ ww hr => act_fld (sz := 1) (b := g) (m := 0) hr.1 rfl Try.underlying85 rfl (by kernel_rfl) rfl (by kernel_rfl) rfl) ?_
 refine kOD 0 [0,4,7] [] (.int .i64 h) rfl (fun _ _ _ ww hr => ldP_run (off := 2) (B := B) (g := g) (T := 85) (cs := [.slice A code.length cap,.int .i64 (i : Int),.int .i64 h]) hr rfl (by kernel_rfl) (by simp) (by kernel_rfl)) ?_
 refine kOD 2 [0,4,10] [(10,.v (.int .i64 (IntKind.i64.wrap ((IntKind.i64.wrap (h * 6364136223846793005)) + 1442695040888963407))))] (.pointer (some ⟨g,0,none⟩)) rfl (fun _ _ _ ww hr => act_nil (b := g) (m := 0) hr.1 rfl (by kernel_rfl) ww) ?_
 refine kOD 0 [0,10,11] [] (.pointer (some ⟨g,2,none⟩)) rfl (fun _ _ _ ww hr => act_fld (sz := 1) (b := g) (m := 0) hr.1 rfl Try.underlying85 rfl (by kernel_rfl) rfl (by kernel_rfl) rfl) ?_
 refine xl_hs 0 [0,10,12] ⟨[(0,.v (.pointer (some ⟨g,0,none⟩))),(10,.v (.int .i64 (IntKind.i64.wrap ((IntKind.i64.wrap (h * 6364136223846793005)) + 1442695040888963407)))),(12,.v (.pointer (some ⟨g,2,none⟩)))],[],[],[cellF B g 85 [.slice A code.length cap,.int .i64 (i : Int),.int .i64 h],slF (.slice A code.length cap) 1 (code.map byteRow),frF w (fun b => b = g)]⟩ (by kernel_rfl) rfl (by kernel_rfl) rfl (by kernel_rfl) (hs_stP (g := g) (T := 85) (off := 2) (v := (.int .i64 (IntKind.i64.wrap ((IntKind.i64.wrap (h * 6364136223846793005)) + 1442695040888963407)))) (i := 0) (B := B) (cs := [.slice A code.length cap,.int .i64 (i : Int),.int .i64 h]) [.int .i64 (IntKind.i64.wrap ((IntKind.i64.wrap (h * 6364136223846793005)) + 1442695040888963407))] (cs' := [.slice A code.length cap,.int .i64 (i : Int),.int .i64 (IntKind.i64.wrap ((IntKind.i64.wrap (h * 6364136223846793005)) + 1442695040888963407))]) rfl (by kernel_rfl) (by kernel_rfl) rfl (by kernel_rfl) rfl (by kernel_rfl) rfl rfl (cutW_le w B)) ?_
 refine kED [0] [] ?_
 refine kS ?_
 refine xws_start ?_
 refine xws_cell (B := B) (g := g) (T := 85) (cs := [.slice A code.length cap,.int .i64 (i : Int),.int .i64 (IntKind.i64.wrap ((IntKind.i64.wrap (h * 6364136223846793005)) + 1442695040888963407))]) (fun _ _ h => h) (by simp) ?_
 refine xws_regionE [] (by kernel_rfl) (fun ρ σ hq1 => ?_)
 refine kTD [0,5] [18,13,0] 11 [(18,.v (.pointer (some ⟨g,0,none⟩))),(13,.v (.pointer (some ⟨g,0,none⟩)))] ?_
 refine kX 1 (.pointer (some ⟨g,0,none⟩)) rfl (fun _ _ ww hA => act_nil (b := g) (m := 0) hA rfl (by kernel_rfl) ww) ?_
 refine kX 2 (.pointer (some ⟨g,2,none⟩)) rfl (fun _ _ ww hA => act_fld (sz := 1) (b := g) (m := 0) hA rfl Try.underlying85 rfl (by kernel_rfl) rfl (by kernel_rfl) rfl) ?_
 refine xe_opH 3 (.int .i64 (IntKind.i64.wrap ((IntKind.i64.wrap (h * 6364136223846793005)) + 1442695040888963407))) _ rfl (by kernel_rfl) (by kernel_rfl) (by kernel_rfl) (fun _ _ h => h) (by kernel_rfl) rfl (fun _ _ ww hA hS => ld_range (g := g) (off := 2) (cs := [.slice A code.length cap,.int .i64 (i : Int),.int .i64 (IntKind.i64.wrap ((IntKind.i64.wrap (h * 6364136223846793005)) + 1442695040888963407))]) hA rfl (by kernel_rfl) (rd_row hS (h := 0) rfl hq1.2) (by kernel_rfl)) rfl ?_
 refine kX 4 (.int .i64 (Int.fdiv (IntKind.i64.wrap ((IntKind.i64.wrap (h * 6364136223846793005)) + 1442695040888963407)) (2 ^ (33 : Int).toNat))) rfl (fun _ _ ww hA => act_bin hA rfl (by kernel_rfl) (by kernel_rfl) (shr_run (k' := .u64) (by decide) (by decide) ww)) ?_
 refine kX 6 (.pointer (some ⟨g,0,none⟩)) rfl (fun _ _ ww hA => act_nil (b := g) (m := 0) hA rfl (by kernel_rfl) ww) ?_
 refine kX 7 (.pointer (some ⟨g,2,none⟩)) rfl (fun _ _ ww hA => act_fld (sz := 1) (b := g) (m := 0) hA rfl Try.underlying85 rfl (by kernel_rfl) rfl (by kernel_rfl) rfl) ?_
 refine xe_opH 8 (.int .i64 (IntKind.i64.wrap ((IntKind.i64.wrap (h * 6364136223846793005)) + 1442695040888963407))) _ rfl (by kernel_rfl) (by kernel_rfl) (by kernel_rfl) (fun _ _ h => h) (by kernel_rfl) rfl (fun _ _ ww hA hS => ld_range (g := g) (off := 2) (cs := [.slice A code.length cap,.int .i64 (i : Int),.int .i64 (IntKind.i64.wrap ((IntKind.i64.wrap (h * 6364136223846793005)) + 1442695040888963407))]) hA rfl (by kernel_rfl) (rd_row hS (h := 0) rfl hq1.2) (by kernel_rfl)) rfl ?_
 refine kX 9 (.int .i64 (Int.fdiv (IntKind.i64.wrap ((IntKind.i64.wrap (h * 6364136223846793005)) + 1442695040888963407)) (2 ^ (45 : Int).toNat))) rfl (fun _ _ ww hA => act_bin hA rfl (by kernel_rfl) (by kernel_rfl) (shr_run (k' := .u64) (by decide) (by decide) ww)) ?_
 refine kX 10 (.int .i64 (IntKind.i64.wrap (BitVec.ofInt 64 (Int.fdiv (IntKind.i64.wrap ((IntKind.i64.wrap (h * 6364136223846793005)) + 1442695040888963407)) (2 ^ (33 : Int).toNat)) ^^^ BitVec.ofInt 64 (Int.fdiv (IntKind.i64.wrap ((IntKind.i64.wrap (h * 6364136223846793005)) + 1442695040888963407)) (2 ^ (45 : Int).toNat))).toNat)) rfl (fun _ _ ww hA => act_bin hA rfl (by kernel_rfl) (by kernel_rfl) (xor_run ww)) ?_
 refine kTD [11,12] [3,0] 0 [(3,.v (.int .i64 (IntKind.i64.wrap (BitVec.ofInt 64 (IntKind.i64.wrap (BitVec.ofInt 64 (Int.fdiv (IntKind.i64.wrap ((IntKind.i64.wrap (h * 6364136223846793005)) + 1442695040888963407)) (2 ^ (33 : Int).toNat)) ^^^ BitVec.ofInt 64 (Int.fdiv (IntKind.i64.wrap ((IntKind.i64.wrap (h * 6364136223846793005)) + 1442695040888963407)) (2 ^ (45 : Int).toNat))).toNat) &&& BitVec.ofInt 64 255).toNat)))] ?_
 refine kZ ?_
 refine kS ?_
 refine kS ?_
 refine xw_wk (wkf (s' := ⟨[(3,.v (.int .i64 (IntKind.i64.wrap (BitVec.ofInt 64 (IntKind.i64.wrap (BitVec.ofInt 64 (Int.fdiv (IntKind.i64.wrap ((IntKind.i64.wrap (h * 6364136223846793005)) + 1442695040888963407)) (2 ^ (33 : Int).toNat)) ^^^ BitVec.ofInt 64 (Int.fdiv (IntKind.i64.wrap ((IntKind.i64.wrap (h * 6364136223846793005)) + 1442695040888963407)) (2 ^ (45 : Int).toNat))).toNat) &&& BitVec.ofInt 64 255).toNat))),(0,.v (.pointer (some ⟨g,0,none⟩)))],[],[],[cellF B g 85 [.slice A code.length cap,.int .i64 (i : Int),.int .i64 (IntKind.i64.wrap ((IntKind.i64.wrap (h * 6364136223846793005)) + 1442695040888963407))],slF (.slice A code.length cap) 1 (code.map byteRow),frF w (fun b => b = g)]⟩) 0 0 [3,0] (by kernel_rfl)) ?_
 refine xws_start ?_
 refine xws_cell (B := B) (g := g) (T := 85) (cs := [.slice A code.length cap,.int .i64 (i : Int),.int .i64 (IntKind.i64.wrap ((IntKind.i64.wrap (h * 6364136223846793005)) + 1442695040888963407))]) (fun _ _ h => h) (by simp) ?_
 refine xws_regionE [] (by kernel_rfl) (fun ρ σ hq2 => ?_)
 refine kTD [0,4] [29,25,3,0] 8 [(29,.v (.pointer (some ⟨g,0,none⟩))),(25,.v (.pointer (some ⟨g,0,none⟩)))] ?_
 refine kX 1 (.pointer (some ⟨g,0,none⟩)) rfl (fun _ _ ww hA => act_nil (b := g) (m := 0) hA rfl (by kernel_rfl) ww) ?_
 refine kX 2 (.pointer (some ⟨g,1,none⟩)) rfl (fun _ _ ww hA => act_fld (sz := 1) (b := g) (m := 0) hA rfl Try.underlying85 rfl (by kernel_rfl) rfl (by kernel_rfl) rfl) ?_
 refine xe_opH 3 (.int .i64 (i : Int)) _ rfl (by kernel_rfl) (by kernel_rfl) (by kernel_rfl) (fun _ _ h => h) (by kernel_rfl) rfl (fun _ _ ww hA hS => ld_range (g := g) (off := 1) (cs := [.slice A code.length cap,.int .i64 (i : Int),.int .i64 (IntKind.i64.wrap ((IntKind.i64.wrap (h * 6364136223846793005)) + 1442695040888963407))]) hA rfl (by kernel_rfl) (rd_row hS (h := 0) rfl hq2.2) (by kernel_rfl)) rfl ?_
 refine kX 5 (.pointer (some ⟨g,0,none⟩)) rfl (fun _ _ ww hA => act_nil (b := g) (m := 0) hA rfl (by kernel_rfl) ww) ?_
 refine kX 6 (.pointer (some ⟨g,0,none⟩)) rfl (fun _ _ ww hA => act_fld (sz := 1) (b := g) (m := 0) hA rfl Try.underlying85 rfl (by kernel_rfl) rfl (by kernel_rfl) rfl) ?_
 refine xe_opH 7 (.slice A code.length cap) _ rfl (by kernel_rfl) (by kernel_rfl) (by kernel_rfl) (fun _ _ h => h) (by kernel_rfl) rfl (fun _ _ ww hA hS => ld_range (g := g) (off := 0) (cs := [.slice A code.length cap,.int .i64 (i : Int),.int .i64 (IntKind.i64.wrap ((IntKind.i64.wrap (h * 6364136223846793005)) + 1442695040888963407))]) hA rfl (by kernel_rfl) (rd_row hS (h := 0) rfl hq2.2) (by kernel_rfl)) rfl ?_
 refine kTD [8,9] [34,3,0] 0 [(34,.v (.bool (decide ((i : Int) < ((code.length : Nat) : Int)))))] ?_
 refine kZ ?_
 refine kC (decide ((i : Int) < ((code.length : Nat) : Int))) (fun h3 => ?_) (fun h3 => ?_)
 have h3p := of_decide_eq_true h3
 have hlt : i < code.length := by simpa using h3
 obtain ⟨z,hz⟩ : ∃ z,code[i]? = some z := ⟨_,List.getElem?_eq_getElem hlt⟩
 refine kS ?_
 refine xw_wk (wkf (s' := ⟨[(34,.v (.bool (decide ((i : Int) < ((code.length : Nat) : Int))))),(3,.v (.int .i64 (IntKind.i64.wrap (BitVec.ofInt 64 (IntKind.i64.wrap (BitVec.ofInt 64 (Int.fdiv (IntKind.i64.wrap ((IntKind.i64.wrap (h * 6364136223846793005)) + 1442695040888963407)) (2 ^ (33 : Int).toNat)) ^^^ BitVec.ofInt 64 (Int.fdiv (IntKind.i64.wrap ((IntKind.i64.wrap (h * 6364136223846793005)) + 1442695040888963407)) (2 ^ (45 : Int).toNat))).toNat) &&& BitVec.ofInt 64 255).toNat))),(0,.v (.pointer (some ⟨g,0,none⟩)))],[],[],[cellF B g 85 [.slice A code.length cap,.int .i64 (i : Int),.int .i64 (IntKind.i64.wrap ((IntKind.i64.wrap (h * 6364136223846793005)) + 1442695040888963407))],slF (.slice A code.length cap) 1 (code.map byteRow),frF w (fun b => b = g)]⟩) 0 0 [34,3,0] (by kernel_rfl)) ?_
 refine xws_start ?_
 refine xws_row (K := 1) (j := i) [.int .u8 z] (slF (.slice A code.length cap) 1 (code.map byteRow)) (fun _ _ h => h) (by simp) (fun w h => h) (fun b h => h) (by simp only [List.getElem?_map,hz]; rfl) (fun bq4 offq4 hAq4 => ?_)
 refine xws_cell (B := B) (g := g) (T := 85) (cs := [.slice A code.length cap,.int .i64 (i : Int),.int .i64 (IntKind.i64.wrap ((IntKind.i64.wrap (h * 6364136223846793005)) + 1442695040888963407))]) (fun _ _ h => h) (by simp) ?_
 refine xws_regionE [] (by kernel_rfl) (fun ρ σ hq5 => ?_)
 refine kTS [0,1,5] [40,36,35,3,0] 12 [(40,.v (.pointer (some ⟨g,0,none⟩))),(36,.v (.pointer (some ⟨g,0,none⟩))),(35,.v (.int .i64 (IntKind.i64.wrap (BitVec.ofInt 64 (IntKind.i64.wrap (BitVec.ofInt 64 (Int.fdiv (IntKind.i64.wrap ((IntKind.i64.wrap (h * 6364136223846793005)) + 1442695040888963407)) (2 ^ (33 : Int).toNat)) ^^^ BitVec.ofInt 64 (Int.fdiv (IntKind.i64.wrap ((IntKind.i64.wrap (h * 6364136223846793005)) + 1442695040888963407)) (2 ^ (45 : Int).toNat))).toNat) &&& BitVec.ofInt 64 255).toNat))),(3,.v (.int .i64 (IntKind.i64.wrap (BitVec.ofInt 64 (IntKind.i64.wrap (BitVec.ofInt 64 (Int.fdiv (IntKind.i64.wrap ((IntKind.i64.wrap (h * 6364136223846793005)) + 1442695040888963407)) (2 ^ (33 : Int).toNat)) ^^^ BitVec.ofInt 64 (Int.fdiv (IntKind.i64.wrap ((IntKind.i64.wrap (h * 6364136223846793005)) + 1442695040888963407)) (2 ^ (45 : Int).toNat))).toNat) &&& BitVec.ofInt 64 255).toNat))),(0,.v (.pointer (some ⟨g,0,none⟩)))] ?_
 refine kX 2 (.pointer (some ⟨g,0,none⟩)) rfl (fun _ _ ww hA => act_nil (b := g) (m := 0) hA rfl (by kernel_rfl) ww) ?_
 refine kX 3 (.pointer (some ⟨g,0,none⟩)) rfl (fun _ _ ww hA => act_fld (sz := 1) (b := g) (m := 0) hA rfl Try.underlying85 rfl (by kernel_rfl) rfl (by kernel_rfl) rfl) ?_
 refine xe_opH 4 (.slice A code.length cap) _ rfl (by kernel_rfl) (by kernel_rfl) (by kernel_rfl) (fun _ _ h => h) (by kernel_rfl) rfl (fun _ _ ww hA hS => ld_range (g := g) (off := 0) (cs := [.slice A code.length cap,.int .i64 (i : Int),.int .i64 (IntKind.i64.wrap ((IntKind.i64.wrap (h * 6364136223846793005)) + 1442695040888963407))]) hA rfl (by kernel_rfl) (rd_row hS (h := 1) rfl hq5.2) (by kernel_rfl)) rfl ?_
 refine kX 6 (.pointer (some ⟨g,0,none⟩)) rfl (fun _ _ ww hA => act_nil (b := g) (m := 0) hA rfl (by kernel_rfl) ww) ?_
 refine kX 7 (.pointer (some ⟨g,1,none⟩)) rfl (fun _ _ ww hA => act_fld (sz := 1) (b := g) (m := 0) hA rfl Try.underlying85 rfl (by kernel_rfl) rfl (by kernel_rfl) rfl) ?_
 refine xe_opH 8 (.int .i64 (i : Int)) _ rfl (by kernel_rfl) (by kernel_rfl) (by kernel_rfl) (fun _ _ h => h) (by kernel_rfl) rfl (fun _ _ ww hA hS => ld_range (g := g) (off := 1) (cs := [.slice A code.length cap,.int .i64 (i : Int),.int .i64 (IntKind.i64.wrap ((IntKind.i64.wrap (h * 6364136223846793005)) + 1442695040888963407))]) hA rfl (by kernel_rfl) (rd_row hS (h := 1) rfl hq5.2) (by kernel_rfl)) rfl ?_
 refine xe_takeI (kd := .i64) (T := 22) (e := 5) (K := 1) (j := i) (A := A) (len := code.length) (cap := cap) 9 0 _ rfl (by kernel_rfl) (by kernel_rfl) (by kernel_rfl) (fun _ _ h => h) (by kernel_rfl) rfl rfl (by kernel_rfl) (by kernel_rfl) (by kernel_rfl) (by kernel_rfl) hlt hAq4 hq5.1.2 (by kernel_rfl) rfl ?_
 refine kTD [10,11,12,13,14] [3,0] 0 [(3,.v (.int .i64 (IntKind.i64.wrap (BitVec.ofInt 64 (IntKind.i64.wrap ((IntKind.i64.wrap (BitVec.ofInt 64 (IntKind.i64.wrap (BitVec.ofInt 64 (Int.fdiv (IntKind.i64.wrap ((IntKind.i64.wrap (h * 6364136223846793005)) + 1442695040888963407)) (2 ^ (33 : Int).toNat)) ^^^ BitVec.ofInt 64 (Int.fdiv (IntKind.i64.wrap ((IntKind.i64.wrap (h * 6364136223846793005)) + 1442695040888963407)) (2 ^ (45 : Int).toNat))).toNat) &&& BitVec.ofInt 64 255).toNat) + (IntKind.i64.wrap z))) &&& BitVec.ofInt 64 255).toNat)))] ?_
 refine kZ ?_
 refine kG ?_
 refine kOD 2 [3,49,50] [(49,.v (.pointer (some ⟨g,0,none⟩))),(50,.v (.pointer (some ⟨g,0,none⟩)))] (.pointer (some ⟨g,0,none⟩)) rfl (fun _ _ _ ww hr => act_nil (b := g) (m := 0) hr.1 rfl (by kernel_rfl) ww) ?_
 refine kOD 0 [3,49,51] [] (.pointer (some ⟨g,1,none⟩)) rfl (fun _ _ _ ww hr => act_fld (sz := 1) (b := g) (m := 0) hr.1 rfl Try.underlying85 rfl (by kernel_rfl) rfl (by kernel_rfl) rfl) ?_
 refine kOD 0 [3,49,52] [] (.int .i64 (i : Int)) rfl (fun _ _ _ ww hr => ldP_run (off := 1) (B := B) (g := g) (T := 85) (cs := [.slice A code.length cap,.int .i64 (i : Int),.int .i64 (IntKind.i64.wrap ((IntKind.i64.wrap (h * 6364136223846793005)) + 1442695040888963407))]) hr rfl (by kernel_rfl) (by simp) (by kernel_rfl)) ?_
 refine kOD 1 [3,49,54] [(54,.v (.int .i64 (IntKind.i64.wrap ((i : Int) + 1))))] (.pointer (some ⟨g,0,none⟩)) rfl (fun _ _ _ ww hr => act_nil (b := g) (m := 0) hr.1 rfl (by kernel_rfl) ww) ?_
 refine kOD 0 [3,54,55] [] (.pointer (some ⟨g,1,none⟩)) rfl (fun _ _ _ ww hr => act_fld (sz := 1) (b := g) (m := 0) hr.1 rfl Try.underlying85 rfl (by kernel_rfl) rfl (by kernel_rfl) rfl) ?_
 refine xl_hs 0 [3,54,56] ⟨[(3,.v (.int .i64 (IntKind.i64.wrap (BitVec.ofInt 64 (IntKind.i64.wrap ((IntKind.i64.wrap (BitVec.ofInt 64 (IntKind.i64.wrap (BitVec.ofInt 64 (Int.fdiv (IntKind.i64.wrap ((IntKind.i64.wrap (h * 6364136223846793005)) + 1442695040888963407)) (2 ^ (33 : Int).toNat)) ^^^ BitVec.ofInt 64 (Int.fdiv (IntKind.i64.wrap ((IntKind.i64.wrap (h * 6364136223846793005)) + 1442695040888963407)) (2 ^ (45 : Int).toNat))).toNat) &&& BitVec.ofInt 64 255).toNat) + (IntKind.i64.wrap z))) &&& BitVec.ofInt 64 255).toNat))),(54,.v (.int .i64 (IntKind.i64.wrap ((i : Int) + 1)))),(56,.v (.pointer (some ⟨g,1,none⟩)))],[],[[.int .u8 z],[.slice A code.length cap,.int .i64 (i : Int),.int .i64 (IntKind.i64.wrap ((IntKind.i64.wrap (h * 6364136223846793005)) + 1442695040888963407))]],[cellF B g 85 [.slice A code.length cap,.int .i64 (i : Int),.int .i64 (IntKind.i64.wrap ((IntKind.i64.wrap (h * 6364136223846793005)) + 1442695040888963407))],slF (.slice A code.length cap) 1 (code.map byteRow),frF w (fun b => b = g)]⟩ (by kernel_rfl) rfl (by kernel_rfl) rfl (by kernel_rfl) (hs_stP (g := g) (T := 85) (off := 1) (v := (.int .i64 (IntKind.i64.wrap ((i : Int) + 1)))) (i := 0) (B := B) (cs := [.slice A code.length cap,.int .i64 (i : Int),.int .i64 (IntKind.i64.wrap ((IntKind.i64.wrap (h * 6364136223846793005)) + 1442695040888963407))]) [.int .i64 (IntKind.i64.wrap ((i : Int) + 1))] (cs' := [.slice A code.length cap,.int .i64 (IntKind.i64.wrap ((i : Int) + 1)),.int .i64 (IntKind.i64.wrap ((IntKind.i64.wrap (h * 6364136223846793005)) + 1442695040888963407))]) rfl (by kernel_rfl) (by kernel_rfl) rfl (by kernel_rfl) rfl (by kernel_rfl) rfl rfl (cutW_le w B)) ?_
 refine kED [3] [] ?_
 refine kQ ?_
 refine kES [2] [(2,.v (.int .i64 (IntKind.i64.wrap (BitVec.ofInt 64 (IntKind.i64.wrap ((IntKind.i64.wrap (BitVec.ofInt 64 (IntKind.i64.wrap (BitVec.ofInt 64 (Int.fdiv (IntKind.i64.wrap ((IntKind.i64.wrap (h * 6364136223846793005)) + 1442695040888963407)) (2 ^ (33 : Int).toNat)) ^^^ BitVec.ofInt 64 (Int.fdiv (IntKind.i64.wrap ((IntKind.i64.wrap (h * 6364136223846793005)) + 1442695040888963407)) (2 ^ (45 : Int).toNat))).toNat) &&& BitVec.ofInt 64 255).toNat) + (IntKind.i64.wrap z))) &&& BitVec.ofInt 64 255).toNat)))] ?_
 refine kR ?_
 exact ⟨[.int .i64 (IntKind.i64.wrap (BitVec.ofInt 64 (IntKind.i64.wrap ((IntKind.i64.wrap (BitVec.ofInt 64 (IntKind.i64.wrap (BitVec.ofInt 64 (Int.fdiv (IntKind.i64.wrap ((IntKind.i64.wrap (h * 6364136223846793005)) + 1442695040888963407)) (2 ^ (33 : Int).toNat)) ^^^ BitVec.ofInt 64 (Int.fdiv (IntKind.i64.wrap ((IntKind.i64.wrap (h * 6364136223846793005)) + 1442695040888963407)) (2 ^ (45 : Int).toNat))).toNat) &&& BitVec.ofInt 64 255).toNat) + (IntKind.i64.wrap z))) &&& BitVec.ofInt 64 255).toNat)],by kernel_rfl,fun w' hb hf => ⟨⟨IntKind.i64.wrap (BitVec.ofInt 64 (IntKind.i64.wrap ((IntKind.i64.wrap (BitVec.ofInt 64 (IntKind.i64.wrap (BitVec.ofInt 64 (Int.fdiv (IntKind.i64.wrap ((IntKind.i64.wrap (h * 6364136223846793005)) + 1442695040888963407)) (2 ^ (33 : Int).toNat)) ^^^ BitVec.ofInt 64 (Int.fdiv (IntKind.i64.wrap ((IntKind.i64.wrap (h * 6364136223846793005)) + 1442695040888963407)) (2 ^ (45 : Int).toNat))).toNat) &&& BitVec.ofInt 64 255).toNat) + (IntKind.i64.wrap z))) &&& BitVec.ofInt 64 255).toNat,and255 _⟩,rfl,⟨hBg,i + 1,IntKind.i64.wrap ((IntKind.i64.wrap (h * 6364136223846793005)) + 1442695040888963407),by omega,by have := (hf (cellF B g 85 [.slice A code.length cap,.int .i64 (IntKind.i64.wrap ((i : Int) + 1)),.int .i64 (IntKind.i64.wrap ((IntKind.i64.wrap (h * 6364136223846793005)) + 1442695040888963407))]) (by simp)).2; rw [show IntKind.i64.wrap ((i : Int) + 1) = ((i + 1 : Nat) : Int) from by rw [wrap_id (by omega) (by omega)]; omega] at this; exact this⟩,frF_chgd (hf (frF w (fun b => b = g)) (by simp)) hb rfl rfl rfl⟩⟩
 have h3p := of_decide_eq_false h3
 refine kK ?_
 refine kQ ?_
 refine kES [2] [(2,.v (.int .i64 (IntKind.i64.wrap (BitVec.ofInt 64 (IntKind.i64.wrap (BitVec.ofInt 64 (Int.fdiv (IntKind.i64.wrap ((IntKind.i64.wrap (h * 6364136223846793005)) + 1442695040888963407)) (2 ^ (33 : Int).toNat)) ^^^ BitVec.ofInt 64 (Int.fdiv (IntKind.i64.wrap ((IntKind.i64.wrap (h * 6364136223846793005)) + 1442695040888963407)) (2 ^ (45 : Int).toNat))).toNat) &&& BitVec.ofInt 64 255).toNat)))] ?_
 refine kR ?_
 exact ⟨[.int .i64 (IntKind.i64.wrap (BitVec.ofInt 64 (IntKind.i64.wrap (BitVec.ofInt 64 (Int.fdiv (IntKind.i64.wrap ((IntKind.i64.wrap (h * 6364136223846793005)) + 1442695040888963407)) (2 ^ (33 : Int).toNat)) ^^^ BitVec.ofInt 64 (Int.fdiv (IntKind.i64.wrap ((IntKind.i64.wrap (h * 6364136223846793005)) + 1442695040888963407)) (2 ^ (45 : Int).toNat))).toNat) &&& BitVec.ofInt 64 255).toNat)],by kernel_rfl,fun w' hb hf => ⟨⟨IntKind.i64.wrap (BitVec.ofInt 64 (IntKind.i64.wrap (BitVec.ofInt 64 (Int.fdiv (IntKind.i64.wrap ((IntKind.i64.wrap (h * 6364136223846793005)) + 1442695040888963407)) (2 ^ (33 : Int).toNat)) ^^^ BitVec.ofInt 64 (Int.fdiv (IntKind.i64.wrap ((IntKind.i64.wrap (h * 6364136223846793005)) + 1442695040888963407)) (2 ^ (45 : Int).toNat))).toNat) &&& BitVec.ofInt 64 255).toNat,and255 _⟩,rfl,⟨hBg,i,IntKind.i64.wrap ((IntKind.i64.wrap (h * 6364136223846793005)) + 1442695040888963407),hi,(hf (cellF B g 85 [.slice A code.length cap,.int .i64 (i : Int),.int .i64 (IntKind.i64.wrap ((IntKind.i64.wrap (h * 6364136223846793005)) + 1442695040888963407))]) (by simp)).2⟩,frF_chgd (hf (frF w (fun b => b = g)) (by simp)) hb rfl rfl rfl⟩⟩
theorem l1Byte_c_K {g : Nat} {code : List Int} {A : Option Addr} {cap : Nat}  {w0 : World} {fs : List Fact} {B : Nat} (hB : B ≤ w0.heap.size) (hap : ¬ (slF (.slice A code.length cap) 1 (code.map byteRow)).blk g)  (hn : code.length ≤ 1048576 := by omega) (h1 : curF B g 85 (.slice A code.length cap) code.length ∈ fs := by simp) (h2 : slF (.slice A code.length cap) 1 (code.map byteRow) ∈ fs := by simp) : XCM Try.prog w0 fs (curF B g 85 (.slice A code.length cap) code.length).blk 81 [.pointer (some ⟨g, 0, none⟩)] (α := {y : Int // 0 ≤ y ∧ y ≤ 255}) (fun y => .int .i64 y.1) (fun _ => [curF B g 85 (.slice A code.length cap) code.length]) := xcm_cur fun w hw hf => l1Byte_c g code A cap  w B (Nat.le_trans hB hw) (hf _ h1) (hf _ h2) hap hn  
theorem l1Below_c (g : Nat) (code : List Int) (A : Option Addr) (cap : Nat) (n : Int) (w : World) (B : Nat) (hB : B ≤ w.heap.size) (hc : (curF B g 85 (.slice A code.length cap) code.length).p w) (hl : Sl w (.slice A code.length cap) 1 (code.map byteRow)) (hap : ¬ (slF (.slice A code.length cap) 1 (code.map byteRow)).blk g) (hn : code.length ≤ 1048576)  : Calls Try.prog 45 #[.pointer (some ⟨g, 0, none⟩), .int .i64 n] w fun e w' => ∃ y : {y : Int // 0 ≤ y ∧ (0 < n → y < n)}, e = .returned (.int .i64 y.1) ∧ (curF B g 85 (.slice A code.length cap) code.length).p w' ∧ Chgd (fun b => b = g) w w' := by
 have hq_code := Sl.capLe hl
 have hBw : B ≤ (cutW w B).heap.size := Nat.le_of_eq (cutW_size hB).symm
 have hlo : ∀ (ww : World) (b : Nat),(curF B g 85 (.slice A code.length cap) code.length).p ww → (curF B g 85 (.slice A code.length cap) code.length).blk b → (cutW w B).heap.size ≤ b := fun ww b h hb => Nat.le_trans (cutW_le w B) (cur_lo h hb)
 refine x_callsM (args := [.pointer (some ⟨g,0,none⟩),.int .i64 n]) (fn := Try.f45) [curF B g 85 (.slice A code.length cap) code.length,slF (.slice A code.length cap) 1 (code.map byteRow),frF w (fun b => b = g)] B Try.func45 rfl Try.ntmps45 rfl hB (by simp only [List.mem_cons,List.not_mem_nil,or_false,forall_eq_or_imp,forall_eq]; exact ⟨hc,hl,frF_start w _⟩) (apart_cur hap rfl) ?_
 refine kQ ?_
 refine kEF [0,1] ⟨[(0,.v (.pointer (some ⟨g,0,none⟩))),(1,.v (.int .i64 n))],[],[],[curF B g 85 (.slice A code.length cap) code.length,slF (.slice A code.length cap) 1 (code.map byteRow),frF w (fun b => b = g)]⟩ ?_
 refine kS ?_
 refine kQ ?_
 refine kED [0,1,10] [(10,.v (.bool (decide (n ≤ 0))))] ?_
 refine kC (decide (n ≤ 0)) (fun h1 => ?_) (fun h1 => ?_)
 have h1p := of_decide_eq_true h1
 refine kQ ?_
 refine kES [4] [(4,.v (.int .i64 0))] ?_
 refine kR ?_
 exact ⟨[.int .i64 0],by kernel_rfl,fun w' hb hf => ⟨⟨0,(by first | (exact ⟨by omega,fun _ => by omega⟩) | (exact tmod_bd (by omega) (by omega)))⟩,rfl,hf (curF B g 85 (.slice A code.length cap) code.length) (by simp),frF_chgd (hf (frF w (fun b => b = g)) (by simp)) hb rfl rfl rfl⟩⟩
 have h1p := of_decide_eq_false h1
 refine kK ?_
 refine kS ?_
 refine kQ ?_
 refine kED [0,1,12] [(12,.v (.bool (decide (n ≤ 256))))] ?_
 refine kC (decide (n ≤ 256)) (fun h2 => ?_) (fun h2 => ?_)
 have h2p := of_decide_eq_true h2
 refine kQ ?_
 refine kWD 1 [1,13] [(13,.v (.pointer (some ⟨g,0,none⟩)))] 81 [.pointer (some ⟨g,0,none⟩)] (some 14) 0 rfl rfl hlo (l1Byte_c_K hBw hap) ?_
 rintro ⟨y3,hy3⟩
 refine kOD 1 [14,15] [(15,.v (.int .i64 n))] (.int .i64 (Int.tmod y3 n)) rfl (fun _ _ _ ww hr => act_bin hr.1 rfl (by kernel_rfl) (by kernel_rfl) (rem_run (by first | decide | omega) ww)) ?_
 refine kES [4] [(4,.v (.int .i64 (Int.tmod y3 n)))] ?_
 refine kR ?_
 exact ⟨[.int .i64 (Int.tmod y3 n)],by kernel_rfl,fun w' hb hf => ⟨⟨Int.tmod y3 n,(by first | (exact ⟨by omega,fun _ => by omega⟩) | (exact tmod_bd (by omega) (by omega)))⟩,rfl,hf (curF B g 85 (.slice A code.length cap) code.length) (by simp),frF_chgd (hf (frF w (fun b => b = g)) (by simp)) hb rfl rfl rfl⟩⟩
 have h2p := of_decide_eq_false h2
 refine kK ?_
 refine kQ ?_
 refine kWD 1 [0,1,17] [(17,.v (.pointer (some ⟨g,0,none⟩)))] 81 [.pointer (some ⟨g,0,none⟩)] (some 18) 0 rfl rfl hlo (l1Byte_c_K hBw hap) ?_
 rintro ⟨y4,hy4⟩
 refine kED [0,1,5] [(5,.v (.int .i64 y4))] ?_
 refine kQ ?_
 refine kWD 1 [0,1,5,19] [(19,.v (.pointer (some ⟨g,0,none⟩)))] 81 [.pointer (some ⟨g,0,none⟩)] (some 20) 0 rfl rfl hlo (l1Byte_c_K hBw hap) ?_
 rintro ⟨y5,hy5⟩
 refine kED [0,1,5,6] [(6,.v (.int .i64 y5))] ?_
 refine kQ ?_
 refine kWD 1 [0,1,5,6,21] [(21,.v (.pointer (some ⟨g,0,none⟩)))] 81 [.pointer (some ⟨g,0,none⟩)] (some 22) 0 rfl rfl hlo (l1Byte_c_K hBw hap) ?_
 rintro ⟨y6,hy6⟩
 refine kED [0,1,5,6,7] [(7,.v (.int .i64 y6))] ?_
 refine kQ ?_
 refine kWD 1 [1,5,6,7,23] [(23,.v (.pointer (some ⟨g,0,none⟩)))] 81 [.pointer (some ⟨g,0,none⟩)] (some 24) 0 rfl rfl hlo (l1Byte_c_K hBw hap) ?_
 rintro ⟨y7,hy7⟩
 refine kED [1,5,6,7,8] [(8,.v (.int .i64 y7))] ?_
 refine kQ ?_
 refine kOS 11 [34,35] [(34,.v (.int .i64 (IntKind.i64.wrap ((IntKind.i64.wrap ((IntKind.i64.wrap ((IntKind.i64.wrap (y4 * 16777216)) + (IntKind.i64.wrap (y5 * 65536)))) + (IntKind.i64.wrap (y6 * 256)))) + y7)))),(35,.v (.int .i64 n))] (.int .i64 (Int.tmod (IntKind.i64.wrap ((IntKind.i64.wrap ((IntKind.i64.wrap ((IntKind.i64.wrap (y4 * 16777216)) + (IntKind.i64.wrap (y5 * 65536)))) + (IntKind.i64.wrap (y6 * 256)))) + y7)) n)) rfl (fun _ _ _ ww hr => act_bin hr.1 rfl (by kernel_rfl) (by kernel_rfl) (rem_run (by first | decide | omega) ww)) ?_
 refine kRS 1 [4] [(4,.v (.int .i64 (Int.tmod (IntKind.i64.wrap ((IntKind.i64.wrap ((IntKind.i64.wrap ((IntKind.i64.wrap (y4 * 16777216)) + (IntKind.i64.wrap (y5 * 65536)))) + (IntKind.i64.wrap (y6 * 256)))) + y7)) n)))] ?_
 refine xl_eqS (t' := [(4,.v (.int .i64 (Int.tmod ((((y4 * 16777216) + (y5 * 65536)) + (y6 * 256)) + y7) n)))]) (by rw [show (IntKind.i64.wrap (y6 * 256)) = (y6 * 256) from wrap_id (by omega) (by omega),show (IntKind.i64.wrap (y5 * 65536)) = (y5 * 65536) from wrap_id (by omega) (by omega),show (IntKind.i64.wrap (y4 * 16777216)) = (y4 * 16777216) from wrap_id (by omega) (by omega),show (IntKind.i64.wrap ((y4 * 16777216) + (y5 * 65536))) = ((y4 * 16777216) + (y5 * 65536)) from wrap_id (by omega) (by omega),show (IntKind.i64.wrap (((y4 * 16777216) + (y5 * 65536)) + (y6 * 256))) = (((y4 * 16777216) + (y5 * 65536)) + (y6 * 256)) from wrap_id (by omega) (by omega),show (IntKind.i64.wrap ((((y4 * 16777216) + (y5 * 65536)) + (y6 * 256)) + y7)) = ((((y4 * 16777216) + (y5 * 65536)) + (y6 * 256)) + y7) from wrap_id (by omega) (by omega)]) ?_
 refine kED [4] [] ?_
 refine kR ?_
 exact ⟨[.int .i64 (Int.tmod ((((y4 * 16777216) + (y5 * 65536)) + (y6 * 256)) + y7) n)],by kernel_rfl,fun w' hb hf => ⟨⟨Int.tmod ((((y4 * 16777216) + (y5 * 65536)) + (y6 * 256)) + y7) n,(by first | (exact ⟨by omega,fun _ => by omega⟩) | (exact tmod_bd (by omega) (by omega)))⟩,rfl,hf (curF B g 85 (.slice A code.length cap) code.length) (by simp),frF_chgd (hf (frF w (fun b => b = g)) (by simp)) hb rfl rfl rfl⟩⟩
theorem l1Below_c_K {g : Nat} {code : List Int} {A : Option Addr} {cap : Nat} {n : Int} {w0 : World} {fs : List Fact} {B : Nat} (hB : B ≤ w0.heap.size) (hap : ¬ (slF (.slice A code.length cap) 1 (code.map byteRow)).blk g)  (hn : code.length ≤ 1048576 := by omega) (h1 : curF B g 85 (.slice A code.length cap) code.length ∈ fs := by simp) (h2 : slF (.slice A code.length cap) 1 (code.map byteRow) ∈ fs := by simp) : XCM Try.prog w0 fs (curF B g 85 (.slice A code.length cap) code.length).blk 45 [.pointer (some ⟨g, 0, none⟩), .int .i64 n] (α := {y : Int // 0 ≤ y ∧ (0 < n → y < n)}) (fun y => .int .i64 y.1) (fun _ => [curF B g 85 (.slice A code.length cap) code.length]) := xcm_cur fun w hw hf => l1Below_c g code A cap n w B (Nat.le_trans hB hw) (hf _ h1) (hf _ h2) hap hn  
theorem l1Once_c (g : Nat) (code : List Int) (A : Option Addr) (cap : Nat) (n : Int) (w : World) (B : Nat) (hB : B ≤ w.heap.size) (hc : (curF B g 85 (.slice A code.length cap) code.length).p w) (hl : Sl w (.slice A code.length cap) 1 (code.map byteRow)) (hap : ¬ (slF (.slice A code.length cap) 1 (code.map byteRow)).blk g) (hn : code.length ≤ 1048576)  : Calls Try.prog 63 #[.pointer (some ⟨g, 0, none⟩), .int .i64 n] w fun e w' => ∃ y : {y : Bool // True}, e = .returned (.bool y.1) ∧ (curF B g 85 (.slice A code.length cap) code.length).p w' ∧ Chgd (fun b => b = g) w w' := by
 have hq_code := Sl.capLe hl
 have hBw : B ≤ (cutW w B).heap.size := Nat.le_of_eq (cutW_size hB).symm
 have hlo : ∀ (ww : World) (b : Nat),(curF B g 85 (.slice A code.length cap) code.length).p ww → (curF B g 85 (.slice A code.length cap) code.length).blk b → (cutW w B).heap.size ≤ b := fun ww b h hb => Nat.le_trans (cutW_le w B) (cur_lo h hb)
 refine x_callsM (args := [.pointer (some ⟨g,0,none⟩),.int .i64 n]) (fn := Try.f63) [curF B g 85 (.slice A code.length cap) code.length,slF (.slice A code.length cap) 1 (code.map byteRow),frF w (fun b => b = g)] B Try.func63 rfl Try.ntmps63 rfl hB (by simp only [List.mem_cons,List.not_mem_nil,or_false,forall_eq_or_imp,forall_eq]; exact ⟨hc,hl,frF_start w _⟩) (apart_cur hap rfl) ?_
 refine kQ ?_
 refine kEF [0,1] ⟨[(0,.v (.pointer (some ⟨g,0,none⟩))),(1,.v (.int .i64 n))],[],[],[curF B g 85 (.slice A code.length cap) code.length,slF (.slice A code.length cap) 1 (code.map byteRow),frF w (fun b => b = g)]⟩ ?_
 refine kQ ?_
 refine kWS 2 [5,6] [(5,.v (.pointer (some ⟨g,0,none⟩))),(6,.v (.int .i64 n))] 45 [.pointer (some ⟨g,0,none⟩),.int .i64 n] (some 7) 0 rfl rfl hlo (l1Below_c_K hBw hap) ?_
 rintro ⟨y1,hy1⟩
 obtain ⟨hy10,hy11⟩ := hy1
 refine kES [4] [(4,.v (.bool (y1 == 0)))] ?_
 refine kR ?_
 exact ⟨[.bool (y1 == 0)],by kernel_rfl,fun w' hb hf => ⟨⟨y1 == 0,trivial⟩,rfl,hf (curF B g 85 (.slice A code.length cap) code.length) (by simp),frF_chgd (hf (frF w (fun b => b = g)) (by simp)) hb rfl rfl rfl⟩⟩
theorem l1Once_c_K {g : Nat} {code : List Int} {A : Option Addr} {cap : Nat} {n : Int} {w0 : World} {fs : List Fact} {B : Nat} (hB : B ≤ w0.heap.size) (hap : ¬ (slF (.slice A code.length cap) 1 (code.map byteRow)).blk g)  (hn : code.length ≤ 1048576 := by omega) (h1 : curF B g 85 (.slice A code.length cap) code.length ∈ fs := by simp) (h2 : slF (.slice A code.length cap) 1 (code.map byteRow) ∈ fs := by simp) : XCM Try.prog w0 fs (curF B g 85 (.slice A code.length cap) code.length).blk 63 [.pointer (some ⟨g, 0, none⟩), .int .i64 n] (α := {y : Bool // True}) (fun y => .bool y.1) (fun _ => [curF B g 85 (.slice A code.length cap) code.length]) := xcm_cur fun w hw hf => l1Once_c g code A cap n w B (Nat.le_trans hB hw) (hf _ h1) (hf _ h2) hap hn  
theorem l1PickInt_c (g : Nat) (code : List Int) (A : Option Addr) (cap : Nat) (list : List Int) (listV : Value) (w : World) (B : Nat) (hB : B ≤ w.heap.size) (hc : (curF B g 85 (.slice A code.length cap) code.length).p w) (hl : Sl w (.slice A code.length cap) 1 (code.map byteRow)) (hap : ¬ (slF (.slice A code.length cap) 1 (code.map byteRow)).blk g) (hn : code.length ≤ 1048576) (hl_listV : Sl w listV 1 (list.map intRow)) (hap2 : ¬ (slF listV 1 (list.map intRow)).blk g) (hne : 0 < list.length) : Calls Try.prog 35 #[.pointer (some ⟨g, 0, none⟩), listV] w fun e w' => ∃ y : {y : Int // y ∈ list}, e = .returned (.int .i64 y.1) ∧ (curF B g 85 (.slice A code.length cap) code.length).p w' ∧ Chgd (fun b => b = g) w w' := by
 have hq_code := Sl.capLe hl
 have hBw : B ≤ (cutW w B).heap.size := Nat.le_of_eq (cutW_size hB).symm
 have hlo : ∀ (ww : World) (b : Nat),(curF B g 85 (.slice A code.length cap) code.length).p ww → (curF B g 85 (.slice A code.length cap) code.length).blk b → (cutW w B).heap.size ≤ b := fun ww b h hb => Nat.le_trans (cutW_le w B) (cur_lo h hb)
 obtain ⟨Al,Cl,hvl⟩ := hl_listV.form
 rw [List.length_map] at hvl; subst hvl
 have hnl := hl_listV.len; rw [List.length_map] at hnl
 have hql := Sl.capLe hl_listV
 refine x_callsM (args := [.pointer (some ⟨g,0,none⟩),.slice Al list.length Cl]) (fn := Try.f35) [curF B g 85 (.slice A code.length cap) code.length,slF (.slice A code.length cap) 1 (code.map byteRow),frF w (fun b => b = g),slF (.slice Al list.length Cl) 1 (list.map intRow)] B Try.func35 rfl Try.ntmps35 rfl hB (by simp only [List.mem_cons,List.not_mem_nil,or_false,forall_eq_or_imp,forall_eq]; exact ⟨hc,hl,frF_start w _,hl_listV⟩) (apart_cur2 hap rfl hap2 rfl) ?_
 refine kQ ?_
 refine kEF [0,1] ⟨[(0,.v (.pointer (some ⟨g,0,none⟩))),(1,.v (.slice Al list.length Cl))],[],[],[curF B g 85 (.slice A code.length cap) code.length,slF (.slice A code.length cap) 1 (code.map byteRow),frF w (fun b => b = g),slF (.slice Al list.length Cl) 1 (list.map intRow)]⟩ ?_
 refine kQ ?_
 refine kWS 4 [5,6,8] [(5,.v (.slice Al list.length Cl)),(6,.v (.pointer (some ⟨g,0,none⟩))),(8,.v (.int .i64 ((list.length : Nat) : Int)))] 45 [.pointer (some ⟨g,0,none⟩),.int .i64 ((list.length : Nat) : Int)] (some 9) 0 rfl rfl hlo (l1Below_c_K hBw hap) ?_
 rintro ⟨y1,hy1⟩
 obtain ⟨hy10,hy11⟩ := hy1
 obtain ⟨j2,hj2⟩ : ∃ j : Nat,y1 = (j : Int) := ⟨y1.toNat,by omega⟩
 subst hj2
 have hlt : j2 < list.length := by omega
 obtain ⟨z,hz⟩ : ∃ z,list[j2]? = some z := ⟨_,List.getElem?_eq_getElem hlt⟩
 refine xl_indexD (kd := .i64) (T := 62) (e := 3) (K := 1) 0 [5,9] [] j2 [.int .i64 z] (slF (.slice Al list.length Cl) 1 (list.map intRow)) (by kernel_rfl) rfl (by kernel_rfl) rfl rfl (by kernel_rfl) (by kernel_rfl) (by kernel_rfl) (by kernel_rfl) hlt (by simp) (fun w h => h) (fun b h => h) (by simp only [List.getElem?_map,hz]; rfl) ?_
 refine kES [4] [(4,.v (.int .i64 z))] ?_
 refine kR ?_
 exact ⟨[.int .i64 z],by kernel_rfl,fun w' hb hf => ⟨⟨z,List.mem_of_getElem? hz⟩,rfl,hf (curF B g 85 (.slice A code.length cap) code.length) (by simp),frF_chgd (hf (frF w (fun b => b = g)) (by simp)) hb rfl rfl rfl⟩⟩
theorem l1PickInt_c_K {g : Nat} {code : List Int} {A : Option Addr} {cap : Nat} {list : List Int} {listV : Value} {w0 : World} {fs : List Fact} {B : Nat} (hB : B ≤ w0.heap.size) (hap : ¬ (slF (.slice A code.length cap) 1 (code.map byteRow)).blk g) (hs0 : ∀ w : World, w0.heap.size ≤ w.heap.size → (∀ f ∈ fs, f.p w) → Sl w listV 1 (list.map intRow)) (hq0 : ¬ (slF listV 1 (list.map intRow)).blk g) (hne : 0 < list.length) (hn : code.length ≤ 1048576 := by omega) (h1 : curF B g 85 (.slice A code.length cap) code.length ∈ fs := by simp) (h2 : slF (.slice A code.length cap) 1 (code.map byteRow) ∈ fs := by simp) : XCM Try.prog w0 fs (curF B g 85 (.slice A code.length cap) code.length).blk 35 [.pointer (some ⟨g, 0, none⟩), listV] (α := {y : Int // y ∈ list}) (fun y => .int .i64 y.1) (fun _ => [curF B g 85 (.slice A code.length cap) code.length]) := xcm_cur fun w hw hf => l1PickInt_c g code A cap list listV w B (Nat.le_trans hB hw) (hf _ h1) (hf _ h2) hap hn (hs0 w hw hf) hq0 hne
theorem l1Whole_c (g : Nat) (code : List Int) (A : Option Addr) (cap : Nat)  (w : World) (B : Nat) (hB : B ≤ w.heap.size) (hc : (curF B g 85 (.slice A code.length cap) code.length).p w) (hl : Sl w (.slice A code.length cap) 1 (code.map byteRow)) (hap : ¬ (slF (.slice A code.length cap) 1 (code.map byteRow)).blk g) (hn : code.length ≤ 1048576)  : Calls Try.prog 93 #[.pointer (some ⟨g, 0, none⟩)] w fun e w' => ∃ y : {y : Int // True}, e = .returned (.int .i64 y.1) ∧ (curF B g 85 (.slice A code.length cap) code.length).p w' ∧ Chgd (fun b => b = g) w w' := by
 have hq_code := Sl.capLe hl
 have hBw : B ≤ (cutW w B).heap.size := Nat.le_of_eq (cutW_size hB).symm
 have hlo : ∀ (ww : World) (b : Nat),(curF B g 85 (.slice A code.length cap) code.length).p ww → (curF B g 85 (.slice A code.length cap) code.length).blk b → (cutW w B).heap.size ≤ b := fun ww b h hb => Nat.le_trans (cutW_le w B) (cur_lo h hb)
 refine x_callsM (args := [.pointer (some ⟨g,0,none⟩)]) (fn := Try.f93) [curF B g 85 (.slice A code.length cap) code.length,slF (.slice A code.length cap) 1 (code.map byteRow),frF w (fun b => b = g)] B Try.func93 rfl Try.ntmps93 rfl hB (by simp only [List.mem_cons,List.not_mem_nil,or_false,forall_eq_or_imp,forall_eq]; exact ⟨hc,hl,frF_start w _⟩) (apart_cur hap rfl) ?_
 refine kQ ?_
 refine kEF [0] ⟨[(0,.v (.pointer (some ⟨g,0,none⟩)))],[],[],[curF B g 85 (.slice A code.length cap) code.length,slF (.slice A code.length cap) 1 (code.map byteRow),frF w (fun b => b = g)]⟩ ?_
 refine kS ?_
 refine kQ ?_
 refine kWD 1 [0,3] [(3,.v (.pointer (some ⟨g,0,none⟩)))] 45 [.pointer (some ⟨g,0,none⟩),.int .i64 3] (some 4) 0 rfl rfl hlo (l1Below_c_K hBw hap) ?_
 rintro ⟨y1,hy1⟩
 obtain ⟨hy10,hy11⟩ := hy1
 refine kED [0,4] [] ?_
 refine xw_block ?_
 refine kQ ?_
 refine kED [0,4,5] [(5,.v (.bool (y1 == 0)))] ?_
 refine kC (y1 == 0) (fun h2 => ?_) (fun h2 => ?_)
 have h2p := eqT h2
 refine kQ ?_
 refine kHS 1 [7] [(7,.v (.pointer (some ⟨g,0,none⟩)))] rfl (hv_build (e := 3) (K := 1) (bytes := 8) [.int .i64 0,.int .i64 1,.int .i64 (-1),.int .i64 9,.int .i64 10,.int .i64 999999999999,.int .i64 1000000000000,.int .i64 9223372036854775807,.int .i64 4294967295,.int .i64 4294967296,.int .i64 65535,.int .i64 65536,.int .i64 (-9223372036854775808)] rfl (by kernel_rfl) (by kernel_rfl) (by kernel_rfl) (by kernel_rfl) (by kernel_rfl) (rs := ([0,1,(-1),9,10,999999999999,1000000000000,9223372036854775807,4294967295,4294967296,65535,65536,(-9223372036854775808)] : List Int).map intRow) rfl) ?_
 intro g3
 refine xl_know (φ := ¬ (slF (.slice (some ⟨g3,0,none⟩) 13 13) 1 (([0,1,(-1),9,10,999999999999,1000000000000,9223372036854775807,4294967295,4294967296,65535,65536,(-9223372036854775808)] : List Int).map intRow)).blk g) (fun _ _ _ _ hr => fun hb => hr.2.apart 0 1 (rowF (cutW w B).heap.size 3 1 (.slice (some ⟨g3,0,none⟩) 13 13) (([0,1,(-1),9,10,999999999999,1000000000000,9223372036854775807,4294967295,4294967296,65535,65536,(-9223372036854775808)] : List Int).map intRow)) (curF B g 85 (.slice A code.length cap) code.length) rfl rfl (by decide) rfl g (rowF_sblk hb) rfl) (fun hk4 => ?_)
 refine kWD 0 [7,8] [] 35 [.pointer (some ⟨g,0,none⟩),.slice (some ⟨g3,0,none⟩) 13 13] (some 9) 1 rfl rfl hlo (l1PickInt_c_K hBw hap (fun ww hw hf => (rowF_sl (hf _ m0))) hk4 (by simp)) ?_
 rintro ⟨y5,hy5⟩
 refine kES [2] [(2,.v (.int .i64 y5))] ?_
 refine kR ?_
 exact ⟨[.int .i64 y5],by kernel_rfl,fun w' hb hf => ⟨⟨y5,trivial⟩,rfl,hf (curF B g 85 (.slice A code.length cap) code.length) (by simp),frF_chgd (hf (frF w (fun b => b = g)) (by simp)) hb rfl rfl rfl⟩⟩
 have h2p := eqF h2
 refine kQ ?_
 refine kED [0,10] [(10,.v (.bool (y1 == 1)))] ?_
 refine kC (y1 == 1) (fun h6 => ?_) (fun h6 => ?_)
 have h6p := eqT h6
 refine kQ ?_
 refine kWS 1 [12] [(12,.v (.pointer (some ⟨g,0,none⟩)))] 45 [.pointer (some ⟨g,0,none⟩),.int .i64 1000000] (some 13) 0 rfl rfl hlo (l1Below_c_K hBw hap) ?_
 rintro ⟨y7,hy7⟩
 obtain ⟨hy70,hy71⟩ := hy7
 refine kRS 2 [2] [(2,.v (.int .i64 (IntKind.i64.wrap (y7 - 500000))))] ?_
 refine xl_eqS (t' := [(2,.v (.int .i64 (y7 - 500000)))]) (by rw [show (IntKind.i64.wrap (y7 - 500000)) = (y7 - 500000) from wrap_id (by omega) (by omega)]) ?_
 refine kED [2] [] ?_
 refine kR ?_
 exact ⟨[.int .i64 (y7 - 500000)],by kernel_rfl,fun w' hb hf => ⟨⟨y7 - 500000,trivial⟩,rfl,hf (curF B g 85 (.slice A code.length cap) code.length) (by simp),frF_chgd (hf (frF w (fun b => b = g)) (by simp)) hb rfl rfl rfl⟩⟩
 have h6p := eqF h6
 refine kK ?_
 refine kQ ?_
 refine kWS 1 [15] [(15,.v (.pointer (some ⟨g,0,none⟩)))] 45 [.pointer (some ⟨g,0,none⟩),.int .i64 20] (some 16) 0 rfl rfl hlo (l1Below_c_K hBw hap) ?_
 rintro ⟨y8,hy8⟩
 obtain ⟨hy80,hy81⟩ := hy8
 refine kES [2] [(2,.v (.int .i64 y8))] ?_
 refine kR ?_
 exact ⟨[.int .i64 y8],by kernel_rfl,fun w' hb hf => ⟨⟨y8,trivial⟩,rfl,hf (curF B g 85 (.slice A code.length cap) code.length) (by simp),frF_chgd (hf (frF w (fun b => b = g)) (by simp)) hb rfl rfl rfl⟩⟩
theorem l1Whole_c_K {g : Nat} {code : List Int} {A : Option Addr} {cap : Nat}  {w0 : World} {fs : List Fact} {B : Nat} (hB : B ≤ w0.heap.size) (hap : ¬ (slF (.slice A code.length cap) 1 (code.map byteRow)).blk g)  (hn : code.length ≤ 1048576 := by omega) (h1 : curF B g 85 (.slice A code.length cap) code.length ∈ fs := by simp) (h2 : slF (.slice A code.length cap) 1 (code.map byteRow) ∈ fs := by simp) : XCM Try.prog w0 fs (curF B g 85 (.slice A code.length cap) code.length).blk 93 [.pointer (some ⟨g, 0, none⟩)] (α := {y : Int // True}) (fun y => .int .i64 y.1) (fun _ => [curF B g 85 (.slice A code.length cap) code.length]) := xcm_cur fun w hw hf => l1Whole_c g code A cap  w B (Nat.le_trans hB hw) (hf _ h1) (hf _ h2) hap hn  
theorem l2Word_c (g : Nat) (code : List Int) (A : Option Addr) (cap : Nat)  (w : World) (B : Nat) (hB : B ≤ w.heap.size) (hc : (curF B g 85 (.slice A code.length cap) code.length).p w) (hl : Sl w (.slice A code.length cap) 1 (code.map byteRow)) (hap : ¬ (slF (.slice A code.length cap) 1 (code.map byteRow)).blk g) (hn : code.length ≤ 1048576)  : Calls Try.prog 73 #[.pointer (some ⟨g, 0, none⟩)] w fun e w' => ∃ y : {y : Int // True}, e = .returned (.int .i64 y.1) ∧ (curF B g 85 (.slice A code.length cap) code.length).p w' ∧ Chgd (fun b => b = g) w w' := by
 have hq_code := Sl.capLe hl
 have hBw : B ≤ (cutW w B).heap.size := Nat.le_of_eq (cutW_size hB).symm
 have hlo : ∀ (ww : World) (b : Nat),(curF B g 85 (.slice A code.length cap) code.length).p ww → (curF B g 85 (.slice A code.length cap) code.length).blk b → (cutW w B).heap.size ≤ b := fun ww b h hb => Nat.le_trans (cutW_le w B) (cur_lo h hb)
 refine x_callsM (args := [.pointer (some ⟨g,0,none⟩)]) (fn := Try.f73) [curF B g 85 (.slice A code.length cap) code.length,slF (.slice A code.length cap) 1 (code.map byteRow),frF w (fun b => b = g)] B Try.func73 rfl Try.ntmps73 rfl hB (by simp only [List.mem_cons,List.not_mem_nil,or_false,forall_eq_or_imp,forall_eq]; exact ⟨hc,hl,frF_start w _⟩) (apart_cur hap rfl) ?_
 refine kQ ?_
 refine kEF [0] ⟨[(0,.v (.pointer (some ⟨g,0,none⟩)))],[],[],[curF B g 85 (.slice A code.length cap) code.length,slF (.slice A code.length cap) 1 (code.map byteRow),frF w (fun b => b = g)]⟩ ?_
 refine kS ?_
 refine kQ ?_
 refine kWD 1 [0,3] [(3,.v (.pointer (some ⟨g,0,none⟩)))] 45 [.pointer (some ⟨g,0,none⟩),.int .i64 3] (some 4) 0 rfl rfl hlo (l1Below_c_K hBw hap) ?_
 rintro ⟨y1,hy1⟩
 obtain ⟨hy10,hy11⟩ := hy1
 refine kED [0,4] [] ?_
 refine xw_block ?_
 refine kQ ?_
 refine kED [0,4,5] [(5,.v (.bool (y1 == 0)))] ?_
 refine kC (y1 == 0) (fun h2 => ?_) (fun h2 => ?_)
 have h2p := eqT h2
 refine kQ ?_
 refine kWS 1 [7] [(7,.v (.pointer (some ⟨g,0,none⟩)))] 93 [.pointer (some ⟨g,0,none⟩)] (some 8) 0 rfl rfl hlo (l1Whole_c_K hBw hap) ?_
 rintro ⟨y3,hy3⟩
 refine kES [2] [(2,.v (.int .i64 y3))] ?_
 refine kR ?_
 exact ⟨[.int .i64 y3],by kernel_rfl,fun w' hb hf => ⟨⟨y3,trivial⟩,rfl,hf (curF B g 85 (.slice A code.length cap) code.length) (by simp),frF_chgd (hf (frF w (fun b => b = g)) (by simp)) hb rfl rfl rfl⟩⟩
 have h2p := eqF h2
 refine kQ ?_
 refine kED [0,9] [(9,.v (.bool (y1 == 1)))] ?_
 refine kC (y1 == 1) (fun h4 => ?_) (fun h4 => ?_)
 have h4p := eqT h4
 refine kQ ?_
 refine kHS 1 [11] [(11,.v (.pointer (some ⟨g,0,none⟩)))] rfl (hv_build (e := 3) (K := 1) (bytes := 8) [.int .i64 0,.int .i64 1,.int .i64 255,.int .i64 256,.int .i64 65535,.int .i64 65536,.int .i64 16777215,.int .i64 4294967295,.int .i64 4294967296,.int .i64 281474976710655,.int .i64 281474976710656] rfl (by kernel_rfl) (by kernel_rfl) (by kernel_rfl) (by kernel_rfl) (by kernel_rfl) (rs := ([0,1,255,256,65535,65536,16777215,4294967295,4294967296,281474976710655,281474976710656] : List Int).map intRow) rfl) ?_
 intro g5
 refine xl_know (φ := ¬ (slF (.slice (some ⟨g5,0,none⟩) 11 11) 1 (([0,1,255,256,65535,65536,16777215,4294967295,4294967296,281474976710655,281474976710656] : List Int).map intRow)).blk g) (fun _ _ _ _ hr => fun hb => hr.2.apart 0 1 (rowF (cutW w B).heap.size 3 1 (.slice (some ⟨g5,0,none⟩) 11 11) (([0,1,255,256,65535,65536,16777215,4294967295,4294967296,281474976710655,281474976710656] : List Int).map intRow)) (curF B g 85 (.slice A code.length cap) code.length) rfl rfl (by decide) rfl g (rowF_sblk hb) rfl) (fun hk6 => ?_)
 refine kWD 0 [11,12] [] 35 [.pointer (some ⟨g,0,none⟩),.slice (some ⟨g5,0,none⟩) 11 11] (some 13) 1 rfl rfl hlo (l1PickInt_c_K hBw hap (fun ww hw hf => (rowF_sl (hf _ m0))) hk6 (by simp)) ?_
 rintro ⟨y7,hy7⟩
 refine kES [2] [(2,.v (.int .i64 y7))] ?_
 refine kR ?_
 exact ⟨[.int .i64 y7],by kernel_rfl,fun w' hb hf => ⟨⟨y7,trivial⟩,rfl,hf (curF B g 85 (.slice A code.length cap) code.length) (by simp),frF_chgd (hf (frF w (fun b => b = g)) (by simp)) hb rfl rfl rfl⟩⟩
 have h4p := eqF h4
 refine kK ?_
 refine kQ ?_
 refine kWS 1 [14] [(14,.v (.pointer (some ⟨g,0,none⟩)))] 45 [.pointer (some ⟨g,0,none⟩),.int .i64 65536] (some 15) 0 rfl rfl hlo (l1Below_c_K hBw hap) ?_
 rintro ⟨y8,hy8⟩
 obtain ⟨hy80,hy81⟩ := hy8
 refine kES [2] [(2,.v (.int .i64 y8))] ?_
 refine kR ?_
 exact ⟨[.int .i64 y8],by kernel_rfl,fun w' hb hf => ⟨⟨y8,trivial⟩,rfl,hf (curF B g 85 (.slice A code.length cap) code.length) (by simp),frF_chgd (hf (frF w (fun b => b = g)) (by simp)) hb rfl rfl rfl⟩⟩
theorem l2Word_c_K {g : Nat} {code : List Int} {A : Option Addr} {cap : Nat}  {w0 : World} {fs : List Fact} {B : Nat} (hB : B ≤ w0.heap.size) (hap : ¬ (slF (.slice A code.length cap) 1 (code.map byteRow)).blk g)  (hn : code.length ≤ 1048576 := by omega) (h1 : curF B g 85 (.slice A code.length cap) code.length ∈ fs := by simp) (h2 : slF (.slice A code.length cap) 1 (code.map byteRow) ∈ fs := by simp) : XCM Try.prog w0 fs (curF B g 85 (.slice A code.length cap) code.length).blk 73 [.pointer (some ⟨g, 0, none⟩)] (α := {y : Int // True}) (fun y => .int .i64 y.1) (fun _ => [curF B g 85 (.slice A code.length cap) code.length]) := xcm_cur fun w hw hf => l2Word_c g code A cap  w B (Nat.le_trans hB hw) (hf _ h1) (hf _ h2) hap hn  
theorem l2Deep_c (g : Nat) (code : List Int) (A : Option Addr) (cap : Nat)  (w : World) (B : Nat) (hB : B ≤ w.heap.size) (hc : (curF B g 85 (.slice A code.length cap) code.length).p w) (hl : Sl w (.slice A code.length cap) 1 (code.map byteRow)) (hap : ¬ (slF (.slice A code.length cap) 1 (code.map byteRow)).blk g) (hn : code.length ≤ 1048576)  : Calls Try.prog 94 #[.pointer (some ⟨g, 0, none⟩)] w fun e w' => ∃ y : {y : Int // True}, e = .returned (.int .i64 y.1) ∧ (curF B g 85 (.slice A code.length cap) code.length).p w' ∧ Chgd (fun b => b = g) w w' := by
 have hq_code := Sl.capLe hl
 have hBw : B ≤ (cutW w B).heap.size := Nat.le_of_eq (cutW_size hB).symm
 have hlo : ∀ (ww : World) (b : Nat),(curF B g 85 (.slice A code.length cap) code.length).p ww → (curF B g 85 (.slice A code.length cap) code.length).blk b → (cutW w B).heap.size ≤ b := fun ww b h hb => Nat.le_trans (cutW_le w B) (cur_lo h hb)
 refine x_callsM (args := [.pointer (some ⟨g,0,none⟩)]) (fn := Try.f94) [curF B g 85 (.slice A code.length cap) code.length,slF (.slice A code.length cap) 1 (code.map byteRow),frF w (fun b => b = g)] B Try.func94 rfl Try.ntmps94 rfl hB (by simp only [List.mem_cons,List.not_mem_nil,or_false,forall_eq_or_imp,forall_eq]; exact ⟨hc,hl,frF_start w _⟩) (apart_cur hap rfl) ?_
 refine kQ ?_
 refine kEF [0] ⟨[(0,.v (.pointer (some ⟨g,0,none⟩)))],[],[],[curF B g 85 (.slice A code.length cap) code.length,slF (.slice A code.length cap) 1 (code.map byteRow),frF w (fun b => b = g)]⟩ ?_
 refine kS ?_
 refine kQ ?_
 refine kWD 1 [0,5] [(5,.v (.pointer (some ⟨g,0,none⟩)))] 63 [.pointer (some ⟨g,0,none⟩),.int .i64 3] (some 6) 0 rfl rfl hlo (l1Once_c_K hBw hap) ?_
 rintro ⟨y1,hy1⟩
 refine kED [0,6] [] ?_
 refine kC (y1) (fun h2 => ?_) (fun h2 => ?_)
 refine kQ ?_
 refine kHS 1 [7] [(7,.v (.pointer (some ⟨g,0,none⟩)))] rfl (hv_build (e := 3) (K := 1) (bytes := 8) [.int .i64 0,.int .i64 1,.int .i64 4294967295,.int .i64 2147483647,.int .i64 2147483648,.int .i64 4294967294] rfl (by kernel_rfl) (by kernel_rfl) (by kernel_rfl) (by kernel_rfl) (by kernel_rfl) (rs := ([0,1,4294967295,2147483647,2147483648,4294967294] : List Int).map intRow) rfl) ?_
 intro g3
 refine xl_know (φ := ¬ (slF (.slice (some ⟨g3,0,none⟩) 6 6) 1 (([0,1,4294967295,2147483647,2147483648,4294967294] : List Int).map intRow)).blk g) (fun _ _ _ _ hr => fun hb => hr.2.apart 0 1 (rowF (cutW w B).heap.size 3 1 (.slice (some ⟨g3,0,none⟩) 6 6) (([0,1,4294967295,2147483647,2147483648,4294967294] : List Int).map intRow)) (curF B g 85 (.slice A code.length cap) code.length) rfl rfl (by decide) rfl g (rowF_sblk hb) rfl) (fun hk4 => ?_)
 refine kWD 0 [7,8] [] 35 [.pointer (some ⟨g,0,none⟩),.slice (some ⟨g3,0,none⟩) 6 6] (some 9) 1 rfl rfl hlo (l1PickInt_c_K hBw hap (fun ww hw hf => (rowF_sl (hf _ m0))) hk4 (by simp)) ?_
 rintro ⟨y5,hy5⟩
 refine kES [2] [(2,.v (.int .i64 y5))] ?_
 refine kR ?_
 exact ⟨[.int .i64 y5],by kernel_rfl,fun w' hb hf => ⟨⟨y5,trivial⟩,rfl,hf (curF B g 85 (.slice A code.length cap) code.length) (by simp),frF_chgd (hf (frF w (fun b => b = g)) (by simp)) hb rfl rfl rfl⟩⟩
 refine kK ?_
 refine kQ ?_
 refine kED [0,3] [(3,.v (.int .i64 0))] ?_
 refine kS ?_
 refine kQ ?_
 refine kED [0,3,4] [(4,.v (.int .i64 0))] ?_
 refine xw_block ?_
 refine xw_loopW (α := {x : Nat × Int // (fun (i : Nat) (x : Int) => i ≤ 4) x.1 x.2}) (fun x => (fun (i : Nat) (x : Int) => (⟨[(0,.v (.pointer (some ⟨g,0,none⟩))),(3,.v (.int .i64 x)),(4,.v (.int .i64 (i : Int)))],[],[],[curF B g 85 (.slice A code.length cap) code.length,slF (.slice A code.length cap) 1 (code.map byteRow),frF w (fun b => b = g)]⟩ : St)) x.1.1 x.1.2) (fun x => (fun (i : Nat) (x : Int) => 4 - i) x.1.1 x.1.2) ⟨(0,0),Nat.zero_le _⟩ (kF 0 0 [0,3,4]) ?_
 rintro ⟨⟨i,x⟩,hi⟩
 try dsimp only
 try dsimp only at hi
 refine kS ?_
 refine kQ ?_
 refine kED [0,3,4,11] [(11,.v (.bool (decide ((i : Int) < 4))))] ?_
 refine kC (decide ((i : Int) < 4)) (fun h6 => ?_) (fun h6 => ?_)
 have h6p := of_decide_eq_true h6
 have hlt : i < 4 := by simp at h6; omega
 refine kK ?_
 refine kS ?_
 refine xw_block ?_
 refine kG ?_
 refine kWD 3 [0,3,4,15,16] [(15,.v (.int .i64 (IntKind.i64.wrap (256 * x)))),(16,.v (.pointer (some ⟨g,0,none⟩)))] 81 [.pointer (some ⟨g,0,none⟩)] (some 17) 0 rfl rfl hlo (l1Byte_c_K hBw hap) ?_
 rintro ⟨y7,hy7⟩
 refine kED [0,3,4] [(3,.v (.int .i64 (IntKind.i64.wrap ((IntKind.i64.wrap (256 * x)) + y7))))] ?_
 refine kG ?_
 refine kRS 3 [0,3,4] [(0,.v (.pointer (some ⟨g,0,none⟩))),(3,.v (.int .i64 (IntKind.i64.wrap ((IntKind.i64.wrap (256 * x)) + y7)))),(4,.v (.int .i64 (IntKind.i64.wrap ((i : Int) + 1))))] ?_
 refine xl_eqS (t' := [(0,.v (.pointer (some ⟨g,0,none⟩))),(3,.v (.int .i64 (IntKind.i64.wrap ((IntKind.i64.wrap (256 * x)) + y7)))),(4,.v (.int .i64 ((i : Int) + 1)))]) (by rw [show (IntKind.i64.wrap ((i : Int) + 1)) = ((i : Int) + 1) from wrap_id (by omega) (by omega)]) ?_
 refine kED [0,3,4] [] ?_
 exact ⟨⟨(i + 1,IntKind.i64.wrap ((IntKind.i64.wrap (256 * x)) + y7)),hlt⟩,kF 0 0 [0,3,4],by show (fun (i : Nat) (x : Int) => 4 - i) (i + 1) (IntKind.i64.wrap ((IntKind.i64.wrap (256 * x)) + y7)) < 4 - i; (dsimp only; omega)⟩
 have h6p := of_decide_eq_false h6
 refine xw_exit ?_
 refine kQ ?_
 refine kES [2] [(2,.v (.int .i64 x))] ?_
 refine kR ?_
 exact ⟨[.int .i64 x],by kernel_rfl,fun w' hb hf => ⟨⟨x,trivial⟩,rfl,hf (curF B g 85 (.slice A code.length cap) code.length) (by simp),frF_chgd (hf (frF w (fun b => b = g)) (by simp)) hb rfl rfl rfl⟩⟩
theorem l2Deep_c_K {g : Nat} {code : List Int} {A : Option Addr} {cap : Nat}  {w0 : World} {fs : List Fact} {B : Nat} (hB : B ≤ w0.heap.size) (hap : ¬ (slF (.slice A code.length cap) 1 (code.map byteRow)).blk g)  (hn : code.length ≤ 1048576 := by omega) (h1 : curF B g 85 (.slice A code.length cap) code.length ∈ fs := by simp) (h2 : slF (.slice A code.length cap) 1 (code.map byteRow) ∈ fs := by simp) : XCM Try.prog w0 fs (curF B g 85 (.slice A code.length cap) code.length).blk 94 [.pointer (some ⟨g, 0, none⟩)] (α := {y : Int // True}) (fun y => .int .i64 y.1) (fun _ => [curF B g 85 (.slice A code.length cap) code.length]) := xcm_cur fun w hw hf => l2Deep_c g code A cap  w B (Nat.le_trans hB hw) (hf _ h1) (hf _ h2) hap hn  
theorem l4Place_c (g : Nat) (code : List Int) (A : Option Addr) (cap : Nat)  (w : World) (B : Nat) (hB : B ≤ w.heap.size) (hc : (curF B g 85 (.slice A code.length cap) code.length).p w) (hl : Sl w (.slice A code.length cap) 1 (code.map byteRow)) (hap : ¬ (slF (.slice A code.length cap) 1 (code.map byteRow)).blk g) (hn : code.length ≤ 1048576)  : Calls Try.prog 64 #[.pointer (some ⟨g, 0, none⟩)] w fun e w' => ∃ y : {y : Int // True}, e = .returned (.int .i64 y.1) ∧ (curF B g 85 (.slice A code.length cap) code.length).p w' ∧ Chgd (fun b => b = g) w w' := by
 have hq_code := Sl.capLe hl
 have hBw : B ≤ (cutW w B).heap.size := Nat.le_of_eq (cutW_size hB).symm
 have hlo : ∀ (ww : World) (b : Nat),(curF B g 85 (.slice A code.length cap) code.length).p ww → (curF B g 85 (.slice A code.length cap) code.length).blk b → (cutW w B).heap.size ≤ b := fun ww b h hb => Nat.le_trans (cutW_le w B) (cur_lo h hb)
 refine x_callsM (args := [.pointer (some ⟨g,0,none⟩)]) (fn := Try.f64) [curF B g 85 (.slice A code.length cap) code.length,slF (.slice A code.length cap) 1 (code.map byteRow),frF w (fun b => b = g)] B Try.func64 rfl Try.ntmps64 rfl hB (by simp only [List.mem_cons,List.not_mem_nil,or_false,forall_eq_or_imp,forall_eq]; exact ⟨hc,hl,frF_start w _⟩) (apart_cur hap rfl) ?_
 refine kQ ?_
 refine kEF [0] ⟨[(0,.v (.pointer (some ⟨g,0,none⟩)))],[],[],[curF B g 85 (.slice A code.length cap) code.length,slF (.slice A code.length cap) 1 (code.map byteRow),frF w (fun b => b = g)]⟩ ?_
 refine kS ?_
 refine kQ ?_
 refine kWD 1 [0,3] [(3,.v (.pointer (some ⟨g,0,none⟩)))] 63 [.pointer (some ⟨g,0,none⟩),.int .i64 12] (some 4) 0 rfl rfl hlo (l1Once_c_K hBw hap) ?_
 rintro ⟨y1,hy1⟩
 refine kED [0,4] [] ?_
 refine kC (y1) (fun h2 => ?_) (fun h2 => ?_)
 refine kQ ?_
 refine kWS 1 [5] [(5,.v (.pointer (some ⟨g,0,none⟩)))] 93 [.pointer (some ⟨g,0,none⟩)] (some 6) 0 rfl rfl hlo (l1Whole_c_K hBw hap) ?_
 rintro ⟨y3,hy3⟩
 refine kES [2] [(2,.v (.int .i64 y3))] ?_
 refine kR ?_
 exact ⟨[.int .i64 y3],by kernel_rfl,fun w' hb hf => ⟨⟨y3,trivial⟩,rfl,hf (curF B g 85 (.slice A code.length cap) code.length) (by simp),frF_chgd (hf (frF w (fun b => b = g)) (by simp)) hb rfl rfl rfl⟩⟩
 refine kK ?_
 refine kQ ?_
 refine kWS 1 [7] [(7,.v (.pointer (some ⟨g,0,none⟩)))] 94 [.pointer (some ⟨g,0,none⟩)] (some 8) 0 rfl rfl hlo (l2Deep_c_K hBw hap) ?_
 rintro ⟨y4,hy4⟩
 refine kES [2] [(2,.v (.int .i64 y4))] ?_
 refine kR ?_
 exact ⟨[.int .i64 y4],by kernel_rfl,fun w' hb hf => ⟨⟨y4,trivial⟩,rfl,hf (curF B g 85 (.slice A code.length cap) code.length) (by simp),frF_chgd (hf (frF w (fun b => b = g)) (by simp)) hb rfl rfl rfl⟩⟩
theorem l4Place_c_K {g : Nat} {code : List Int} {A : Option Addr} {cap : Nat}  {w0 : World} {fs : List Fact} {B : Nat} (hB : B ≤ w0.heap.size) (hap : ¬ (slF (.slice A code.length cap) 1 (code.map byteRow)).blk g)  (hn : code.length ≤ 1048576 := by omega) (h1 : curF B g 85 (.slice A code.length cap) code.length ∈ fs := by simp) (h2 : slF (.slice A code.length cap) 1 (code.map byteRow) ∈ fs := by simp) : XCM Try.prog w0 fs (curF B g 85 (.slice A code.length cap) code.length).blk 64 [.pointer (some ⟨g, 0, none⟩)] (α := {y : Int // True}) (fun y => .int .i64 y.1) (fun _ => [curF B g 85 (.slice A code.length cap) code.length]) := xcm_cur fun w hw hf => l4Place_c g code A cap  w B (Nat.le_trans hB hw) (hf _ h1) (hf _ h2) hap hn  
theorem big_c (code : List Int) (A : Option Addr) (cap : Nat) (w : World) (hl : Sl w (.slice A code.length cap) 1 (code.map byteRow)) : Calls Try.prog 8 #[.slice A code.length cap] w fun e w' => e = .returned (.bool (decide (((code.length : Nat) : Int) > 1048576))) ∧ Below w.heap.size w w' := by
 refine x_calls (args := [.slice A code.length cap]) (fn := Try.f8) [slF (.slice A code.length cap) 1 (code.map byteRow)] Try.func8 rfl Try.ntmps8 rfl (by simp only [List.mem_cons,List.not_mem_nil,or_false,forall_eq]; exact ⟨rfl,hl⟩) ?_
 refine kQ ?_
 refine kEF [0] ⟨[(0,.v (.slice A code.length cap))],[],[],[slF (.slice A code.length cap) 1 (code.map byteRow)]⟩ ?_
 refine kQ ?_
 refine kES [2] [(2,.v (.bool (decide (((code.length : Nat) : Int) > 1048576))))] ?_
 refine kR ?_
 exact ⟨[.bool (decide (((code.length : Nat) : Int) > 1048576))],by kernel_rfl,fun w' hb hf => ⟨rfl,hb⟩⟩
theorem l1Bytes_c (g : Nat) (code : List Int) (A : Option Addr) (cap : Nat) (n : Int) (w : World) (B : Nat) (hB : B ≤ w.heap.size) (hc : (curF B g 85 (.slice A code.length cap) code.length).p w) (hl : Sl w (.slice A code.length cap) 1 (code.map byteRow)) (hap : ¬ (slF (.slice A code.length cap) 1 (code.map byteRow)).blk g) (hn : code.length ≤ 1048576) (hn0 : 0 ≤ n ∧ n ≤ 4096) : Calls Try.prog 92 #[.pointer (some ⟨g, 0, none⟩), .int .i64 n] w fun e w' => ∃ y : {y : List Int × (Option Addr × Nat) // y.1.length ≤ 4096}, e = .returned (.slice y.1.2.1 y.1.1.length y.1.2.2) ∧ (curF B g 85 (.slice A code.length cap) code.length).p w' ∧ (rowF w.heap.size 5 1 (.slice y.1.2.1 y.1.1.length y.1.2.2) (y.1.1.map byteRow)).p w' ∧ g < w.heap.size ∧ Chgd (fun b => b = g) w w' := by
 have hq_code := Sl.capLe hl
 have hBw : B ≤ (cutW w B).heap.size := Nat.le_of_eq (cutW_size hB).symm
 have hlo : ∀ (ww : World) (b : Nat),(curF B g 85 (.slice A code.length cap) code.length).p ww → (curF B g 85 (.slice A code.length cap) code.length).blk b → (cutW w B).heap.size ≤ b := fun ww b h hb => Nat.le_trans (cutW_le w B) (cur_lo h hb)
 refine x_callsMA (args := [.pointer (some ⟨g,0,none⟩),.int .i64 n]) (fn := Try.f92) [curF B g 85 (.slice A code.length cap) code.length,slF (.slice A code.length cap) 1 (code.map byteRow),frF w (fun b => b = g)] B Try.func92 rfl Try.ntmps92 rfl hB (by simp only [List.mem_cons,List.not_mem_nil,or_false,forall_eq_or_imp,forall_eq]; exact ⟨hc,hl,frF_start w _⟩) (apart_cur hap rfl) ?_
 have hgl : g < w.heap.size := (curF B g 85 (.slice A code.length cap) code.length).lt w g hc rfl
 refine kQ ?_
 refine kEF [0,1] ⟨[(0,.v (.pointer (some ⟨g,0,none⟩))),(1,.v (.int .i64 n))],[],[],[curF B g 85 (.slice A code.length cap) code.length,slF (.slice A code.length cap) 1 (code.map byteRow),frF w (fun b => b = g)]⟩ ?_
 refine kQ ?_
 refine kHD 0 [0,1] [] rfl (hv_build (e := 5) (K := 1) (bytes := 1) [] rfl (by kernel_rfl) (by kernel_rfl) (by kernel_rfl) (by kernel_rfl) (by kernel_rfl) (rs := ([] : List Int).map byteRow) rfl) ?_
 intro g1
 refine kED [0,1,5] [(5,.v (.slice (some ⟨g1,0,none⟩) 0 0))] ?_
 refine kS ?_
 refine kQ ?_
 refine kED [0,1,5,6] [(6,.v (.int .i64 0))] ?_
 refine xw_block ?_
 refine xw_loopW (α := {x : Nat × List Int × Option Addr × Nat // (fun (i : Nat) (bs : List Int) (A1 : Option Addr) (c1 : Nat) => (i : Int) ≤ n ∧ bs.length = i) x.1 x.2.1 x.2.2.1 x.2.2.2}) (fun x => (fun (i : Nat) (bs : List Int) (A1 : Option Addr) (c1 : Nat) => (⟨[(0,.v (.pointer (some ⟨g,0,none⟩))),(1,.v (.int .i64 n)),(5,.v (.slice A1 bs.length c1)),(6,.v (.int .i64 (i : Int)))],[],[],[rowF (cutW w B).heap.size 5 1 (.slice A1 bs.length c1) (bs.map byteRow),curF B g 85 (.slice A code.length cap) code.length,slF (.slice A code.length cap) 1 (code.map byteRow),frF w (fun b => b = g)]⟩ : St)) x.1.1 x.1.2.1 x.1.2.2.1 x.1.2.2.2) (fun x => (fun (i : Nat) (bs : List Int) (A1 : Option Addr) (c1 : Nat) => n.toNat - i) x.1.1 x.1.2.1 x.1.2.2.1 x.1.2.2.2) ⟨(0,([] : List Int),(some ⟨g1,0,none⟩),0),⟨(by omega),rfl⟩⟩ ((wk_pick [0,1,2,3] [rowF (cutW w B).heap.size 5 1 (.slice (some ⟨g1,0,none⟩) 0 0) (([] : List Int).map byteRow),curF B g 85 (.slice A code.length cap) code.length,slF (.slice A code.length cap) 1 (code.map byteRow),frF w (fun b => b = g)] (by kernel_rfl) (by kernel_rfl)).trans <| kF 0 0 [0,1,5,6]) ?_
 rintro ⟨⟨i,bs,A1,c1⟩,hi,hbl⟩
 try dsimp only
 try dsimp only at hi hbl
 refine kS ?_
 refine kQ ?_
 refine kED [0,1,5,6,10] [(10,.v (.bool (decide ((i : Int) < n))))] ?_
 refine kC (decide ((i : Int) < n)) (fun h2 => ?_) (fun h2 => ?_)
 have h2p := of_decide_eq_true h2
 have hlt : (i : Int) < n := of_decide_eq_true h2
 refine kK ?_
 refine kS ?_
 refine xw_block ?_
 refine kG ?_
 refine kWD 2 [0,1,5,6,13,14] [(13,.v (.slice A1 bs.length c1)),(14,.v (.pointer (some ⟨g,0,none⟩)))] 81 [.pointer (some ⟨g,0,none⟩)] (some 15) 1 rfl rfl hlo (l1Byte_c_K hBw hap) ?_
 rintro ⟨y3,hy3⟩
 refine kHD 1 [0,1,5,6,13,16] [(16,.v (.int .u8 (IntKind.u8.wrap y3)))] rfl (hv_build (e := 5) (K := 1) (bytes := 1) [.int .u8 (IntKind.u8.wrap y3)] rfl (by kernel_rfl) (by kernel_rfl) (by kernel_rfl) (by kernel_rfl) (by kernel_rfl) (rs := ([IntKind.u8.wrap y3] : List Int).map byteRow) rfl) ?_
 intro g4
 refine kHD 0 [0,1,5,6,13,17] [] rfl (hv_append (e := 5) (K := 1) (bytes := 1) (i := 2) (q := (bs ++ ([IntKind.u8.wrap y3] : List Int)).length) (new := ([IntKind.u8.wrap y3] : List Int).map byteRow) (rs' := (bs ++ ([IntKind.u8.wrap y3] : List Int)).map byteRow) rfl rfl rfl rfl (by kernel_rfl) (by kernel_rfl) (by kernel_rfl) rfl (by simp) (by rw [List.map_append]) (by simp) (fun ww hf => (rowF_sl (hf (rowF (cutW w B).heap.size 5 1 (.slice (some ⟨g4,0,none⟩) 1 1) (([IntKind.u8.wrap y3] : List Int).map byteRow)) (by simp)))) (by intro r hr; obtain ⟨x,hx,rfl⟩ := List.mem_map.1 hr; exact ⟨rfl,by simp [byteRow,Value.oneCell']⟩) (by (try simp only [List.length_map,List.length_append,List.length_cons,List.length_nil,List.length_take,List.length_drop,maxLen]); omega) (by (try simp only [List.length_map,List.length_append,List.length_cons,List.length_nil,List.length_take,List.length_drop,maxLen]); omega)) ?_
 rintro ⟨v5a,v5c⟩
 refine kED [0,1,5,6] [(5,.v (.slice v5a ((bs ++ ([IntKind.u8.wrap y3] : List Int)).length) v5c))] ?_
 refine kG ?_
 refine kRS 3 [0,1,5,6] [(0,.v (.pointer (some ⟨g,0,none⟩))),(1,.v (.int .i64 n)),(5,.v (.slice v5a ((bs ++ ([IntKind.u8.wrap y3] : List Int)).length) v5c)),(6,.v (.int .i64 (IntKind.i64.wrap ((i : Int) + 1))))] ?_
 refine xl_eqS (t' := [(0,.v (.pointer (some ⟨g,0,none⟩))),(1,.v (.int .i64 n)),(5,.v (.slice v5a ((bs ++ ([IntKind.u8.wrap y3] : List Int)).length) v5c)),(6,.v (.int .i64 ((i : Int) + 1)))]) (by rw [show (IntKind.i64.wrap ((i : Int) + 1)) = ((i : Int) + 1) from wrap_id (by omega) (by omega)]) ?_
 refine kED [0,1,5,6] [] ?_
 exact ⟨⟨(i + 1,(bs ++ ([IntKind.u8.wrap y3] : List Int)),v5a,v5c),⟨by omega,by simp [hbl]⟩⟩,(wk_pick [0,2,3,4] [rowF (cutW w B).heap.size 5 1 (.slice v5a ((bs ++ ([IntKind.u8.wrap y3] : List Int)).length) v5c) ((bs ++ ([IntKind.u8.wrap y3] : List Int)).map byteRow),curF B g 85 (.slice A code.length cap) code.length,slF (.slice A code.length cap) 1 (code.map byteRow),frF w (fun b => b = g)] (by kernel_rfl) (by kernel_rfl)).trans <| kF 0 0 [0,1,5,6],by show (fun (i : Nat) (bs : List Int) (A1 : Option Addr) (c1 : Nat) => n.toNat - i) (i + 1) (bs ++ ([IntKind.u8.wrap y3] : List Int)) v5a v5c < n.toNat - i; (dsimp only; omega)⟩
 have h2p := of_decide_eq_false h2
 have hge : ¬ (i : Int) < n := of_decide_eq_false h2
 refine xw_exit ?_
 refine kQ ?_
 refine kES [4] [(4,.v (.slice A1 bs.length c1))] ?_
 refine kR ?_
 exact ⟨[.slice A1 bs.length c1],by kernel_rfl,fun w' hb hf ha => ⟨⟨(bs,A1,c1),by dsimp only; omega⟩,rfl,hf (curF B g 85 (.slice A code.length cap) code.length) (by simp),rowF_raise (hf (rowF (cutW w B).heap.size 5 1 (.slice A1 bs.length c1) (bs.map byteRow)) (by simp)) (row_new ha (i := 0) (j := 1) (k := 3) rfl rfl rfl (by decide) (by decide)),hgl,frF_chgd (hf (frF w (fun b => b = g)) (by simp)) hb rfl rfl rfl⟩⟩
theorem l5Long_c (n : Int) (w : World) (h0 : 0 ≤ n ∧ n ≤ 4096) : Calls Try.prog 75 #[.int .i64 n] w fun e w' => e = .returned (.string (bstr (List.replicate n.toNat 0))) ∧ Below w.heap.size w w' := by
 obtain ⟨m,rfl⟩ : ∃ m : Nat,n = (m : Int) := ⟨n.toNat,by omega⟩
 have hm : m ≤ 4096 := by omega
 refine x_calls (args := [.int .i64 (m : Int)]) (fn := Try.f75) [] Try.func75 rfl Try.ntmps75 rfl (by simp) ?_
 refine kQ ?_
 refine kEF [0] ⟨[(0,.v (.int .i64 (m : Int)))],[],[],[]⟩ ?_
 refine kQ ?_
 refine kHS 1 [4] [(4,.v (.int .i64 (m : Int)))] rfl (hv_make (kl := .i64) (kc := .i64) (e := 5) (K := 1) (bytes := 1) (m := m) (z := .int .u8 0) (rs := (List.replicate m 0).map byteRow) rfl (by kernel_rfl) (by kernel_rfl) (by kernel_rfl) (by kernel_rfl) (by (try simp only [List.length_map,List.length_append,List.length_cons,List.length_nil,List.length_take,List.length_drop,maxLen]); omega) (by (try simp only [List.length_map,List.length_append,List.length_cons,List.length_nil,List.length_take,List.length_drop,maxLen]); omega) (by rw [List.map_replicate]; rfl)) ?_
 intro g1
 refine kES [3] [(3,.v (.slice (some ⟨g1,0,none⟩) m m))] ?_
 refine kQ ?_
 refine kOS 1 [6] [(6,.v (.slice (some ⟨g1,0,none⟩) m m))] (.string (bstr (List.replicate m 0))) rfl (fun _ _ _ ww hr => act_b2s (e := 5) (List.replicate m 0) hr.1 rfl (by kernel_rfl) (by kernel_rfl) (by kernel_rfl) rfl (rowF_sl (hr.2.fact (rowF w.heap.size 5 1 (.slice (some ⟨g1,0,none⟩) m m) ((List.replicate m 0).map byteRow)) (by simp)).1)) ?_
 refine kES [2] [(2,.v (.string (bstr (List.replicate m 0))))] ?_
 refine kR ?_
 exact ⟨[.string (bstr (List.replicate m 0))],by kernel_rfl,fun w' hb hf => ⟨rfl,hb⟩⟩
theorem l1Pick_c (g : Nat) (code : List Int) (A : Option Addr) (cap : Nat) (list : List ByteArray) (listV : Value) (w : World) (B : Nat) (hB : B ≤ w.heap.size) (hc : (curF B g 85 (.slice A code.length cap) code.length).p w) (hl : Sl w (.slice A code.length cap) 1 (code.map byteRow)) (hap : ¬ (slF (.slice A code.length cap) 1 (code.map byteRow)).blk g) (hn : code.length ≤ 1048576) (hl_listV : Sl w listV 1 (list.map strRow)) (hap2 : ¬ (slF listV 1 (list.map strRow)).blk g) (hne : 0 < list.length) : Calls Try.prog 74 #[.pointer (some ⟨g, 0, none⟩), listV] w fun e w' => ∃ y : {y : ByteArray // y ∈ list}, e = .returned (.string y.1) ∧ (curF B g 85 (.slice A code.length cap) code.length).p w' ∧ Chgd (fun b => b = g) w w' := by
 have hq_code := Sl.capLe hl
 have hBw : B ≤ (cutW w B).heap.size := Nat.le_of_eq (cutW_size hB).symm
 have hlo : ∀ (ww : World) (b : Nat),(curF B g 85 (.slice A code.length cap) code.length).p ww → (curF B g 85 (.slice A code.length cap) code.length).blk b → (cutW w B).heap.size ≤ b := fun ww b h hb => Nat.le_trans (cutW_le w B) (cur_lo h hb)
 obtain ⟨Al,Cl,hvl⟩ := hl_listV.form
 rw [List.length_map] at hvl; subst hvl
 have hnl := hl_listV.len; rw [List.length_map] at hnl
 have hql := Sl.capLe hl_listV
 refine x_callsM (args := [.pointer (some ⟨g,0,none⟩),.slice Al list.length Cl]) (fn := Try.f74) [curF B g 85 (.slice A code.length cap) code.length,slF (.slice A code.length cap) 1 (code.map byteRow),frF w (fun b => b = g),slF (.slice Al list.length Cl) 1 (list.map strRow)] B Try.func74 rfl Try.ntmps74 rfl hB (by simp only [List.mem_cons,List.not_mem_nil,or_false,forall_eq_or_imp,forall_eq]; exact ⟨hc,hl,frF_start w _,hl_listV⟩) (apart_cur2 hap rfl hap2 rfl) ?_
 refine kQ ?_
 refine kEF [0,1] ⟨[(0,.v (.pointer (some ⟨g,0,none⟩))),(1,.v (.slice Al list.length Cl))],[],[],[curF B g 85 (.slice A code.length cap) code.length,slF (.slice A code.length cap) 1 (code.map byteRow),frF w (fun b => b = g),slF (.slice Al list.length Cl) 1 (list.map strRow)]⟩ ?_
 refine kQ ?_
 refine kWS 4 [5,6,8] [(5,.v (.slice Al list.length Cl)),(6,.v (.pointer (some ⟨g,0,none⟩))),(8,.v (.int .i64 ((list.length : Nat) : Int)))] 45 [.pointer (some ⟨g,0,none⟩),.int .i64 ((list.length : Nat) : Int)] (some 9) 0 rfl rfl hlo (l1Below_c_K hBw hap) ?_
 rintro ⟨y1,hy1⟩
 obtain ⟨hy10,hy11⟩ := hy1
 obtain ⟨j2,hj2⟩ : ∃ j : Nat,y1 = (j : Int) := ⟨y1.toNat,by omega⟩
 subst hj2
 have hlt : j2 < list.length := by omega
 obtain ⟨z,hz⟩ : ∃ z,list[j2]? = some z := ⟨_,List.getElem?_eq_getElem hlt⟩
 refine xl_indexD (kd := .i64) (T := 87) (e := 9) (K := 1) 0 [5,9] [] j2 [.string z] (slF (.slice Al list.length Cl) 1 (list.map strRow)) (by kernel_rfl) rfl (by kernel_rfl) rfl rfl (by kernel_rfl) (by kernel_rfl) (by kernel_rfl) (by kernel_rfl) hlt (by simp) (fun w h => h) (fun b h => h) (by simp only [List.getElem?_map,hz]; rfl) ?_
 refine kES [4] [(4,.v (.string z))] ?_
 refine kR ?_
 exact ⟨[.string z],by kernel_rfl,fun w' hb hf => ⟨⟨z,List.mem_of_getElem? hz⟩,rfl,hf (curF B g 85 (.slice A code.length cap) code.length) (by simp),frF_chgd (hf (frF w (fun b => b = g)) (by simp)) hb rfl rfl rfl⟩⟩
theorem l1Pick_c_K {g : Nat} {code : List Int} {A : Option Addr} {cap : Nat} {list : List ByteArray} {listV : Value} {w0 : World} {fs : List Fact} {B : Nat} (hB : B ≤ w0.heap.size) (hap : ¬ (slF (.slice A code.length cap) 1 (code.map byteRow)).blk g) (hs0 : ∀ w : World, w0.heap.size ≤ w.heap.size → (∀ f ∈ fs, f.p w) → Sl w listV 1 (list.map strRow)) (hq0 : ¬ (slF listV 1 (list.map strRow)).blk g) (hne : 0 < list.length) (hn : code.length ≤ 1048576 := by omega) (h1 : curF B g 85 (.slice A code.length cap) code.length ∈ fs := by simp) (h2 : slF (.slice A code.length cap) 1 (code.map byteRow) ∈ fs := by simp) : XCM Try.prog w0 fs (curF B g 85 (.slice A code.length cap) code.length).blk 74 [.pointer (some ⟨g, 0, none⟩), listV] (α := {y : ByteArray // y ∈ list}) (fun y => .string y.1) (fun _ => [curF B g 85 (.slice A code.length cap) code.length]) := xcm_cur fun w hw hf => l1Pick_c g code A cap list listV w B (Nat.le_trans hB hw) (hf _ h1) (hf _ h2) hap hn (hs0 w hw hf) hq0 hne
end Go.Proofs.Ytnmmhbhdcplfmaa
