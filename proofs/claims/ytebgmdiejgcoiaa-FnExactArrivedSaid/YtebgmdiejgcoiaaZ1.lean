/- Contracts that this law needs, part 1. -/
import Derived.Test.YtebgmdiejgcoiaaYW
import Derived.Test.YtebgmdiejgcoiaaA5
import Derived.Test.YtebgmdiejgcoiaaG1
import Derived.Test.YtebgmdiejgcoiaaYD
import Derived.Test.YtebgmdiejgcoiaaG3
import Derived.Test.YtebgmdiejgcoiaaG2
namespace Go.Proofs.Ytebgmdiejgcoiaa
open Go.RowKit
set_option linter.unusedVariables false
set_option linter.unusedSimpArgs false
set_option maxRecDepth 100000
set_option maxHeartbeats 2000000

theorem ysReceiverOk_c (r : Rcv) (r_heldV : Value) (w : World) (hl_r_heldV : Sl w r_heldV 2 (r.held.map pceCells)) (hm : ∀ p ∈ r.held, p.text.size ≤ 1048576) (hsz : r.data.size ≤ 4611686018427387904) : Calls Try.prog 33 #[.agg (rcvL r r_heldV).toArray] w fun e w' => e = .returned (.bool (receiverOk r)) ∧ Below w.heap.size w w' := by
 have hw := windowOf_bd r
 obtain ⟨Arh,Crh,hvrh⟩ := hl_r_heldV.form
 rw [List.length_map] at hvrh; subst hvrh
 have hnrh := hl_r_heldV.len; rw [List.length_map] at hnrh
 have hqrh := Sl.capLe hl_r_heldV
 refine x_calls (args := [.agg (rcvL r (.slice Arh r.held.length Crh)).toArray]) (fn := Try.f33) [slF (.slice Arh r.held.length Crh) 2 (r.held.map pceCells)] Try.func33 rfl Try.ntmps33 rfl (by simp only [List.mem_cons,List.not_mem_nil,or_false,forall_eq_or_imp,forall_eq]; exact ⟨rfl,hl_r_heldV⟩) ?_
 refine kQ ?_
 refine kEF [1] ⟨[(1,.p 0 0)],[⟨28,rcvL r (.slice Arh r.held.length Crh)⟩],[],[slF (.slice Arh r.held.length Crh) 2 (r.held.map pceCells)]⟩ ?_
 refine kQ ?_
 refine kCD 1 [1,7] [(7,.v (.agg (rcvL r (.slice Arh r.held.length Crh)).toArray))] 34 [.agg (rcvL r (.slice Arh r.held.length Crh)).toArray] (some 8) rfl (xc_b fun ww hf => sWindowOf_c r.next r.data r.held (.slice Arh r.held.length Crh) r.fin r.done ww (by omega)) ?_
 intro _
 refine kED [1,3] [(3,.v (.int .i64 (windowOf r)))] ?_
 refine kS ?_
 refine kQ ?_
 refine kCD 2 [1,3,10] [(10,.v (.int .i64 r.next))] 79 [.int .i64 r.next,.int .i64 32] (some 11) rfl (xc_s fun ww hf => sWordOk32_c r.next ww) ?_
 intro _
 refine kRD 2 [1,3,13] [(13,.v (.bool (!(wordOk r.next 32))))] ?_
 refine kP 13 (!(wordOk r.next 32)) (fun h1 => ?_) (fun h1 => ?_)
 have h1n := not_t h1
 refine kED [1,3,36] [(36,.v (.bool true))] ?_
 refine kT ?_
 refine kQ ?_
 refine kES [2] [(2,.v (.bool false))] ?_
 refine kR ?_
 exact ⟨[.bool false],by kernel_rfl,fun w' hb hf => ⟨ret_bool (show (false : Bool) = receiverOk r from by first | rfl | (rw [HR,HK]; simp [*]; done) | (rw [HR,HK]; simp [*]; omega) | (rw [HR,HK]; grind [rcvPost]) | (simp [receiverOk,rcvPre, *]; done) | (simp [receiverOk,rcvPre, *]; omega) | grind [receiverOk,rcvPre]),hb⟩⟩
 have h1n := not_f h1
 refine kRD 6 [1,3,19] [(19,.v (.bool (decide ((r.data.size : Int) > 32))))] ?_
 refine kP 19 (decide ((r.data.size : Int) > 32)) (fun h2 => ?_) (fun h2 => ?_)
 have h2p := of_decide_eq_true h2
 refine kED [1,3,36] [(36,.v (.bool true))] ?_
 refine kT ?_
 refine kQ ?_
 refine kES [2] [(2,.v (.bool false))] ?_
 refine kR ?_
 exact ⟨[.bool false],by kernel_rfl,fun w' hb hf => ⟨ret_bool (show (false : Bool) = receiverOk r from by first | rfl | (rw [HR,HK]; simp [*]; done) | (rw [HR,HK]; simp [*]; omega) | (rw [HR,HK]; grind [rcvPost]) | (simp [receiverOk,rcvPre, *]; done) | (simp [receiverOk,rcvPre, *]; omega) | grind [receiverOk,rcvPre]),hb⟩⟩
 have h2p := of_decide_eq_false h2
 refine kRD 6 [1,3,25] [(25,.v (.bool (decide (((r.held.length : Nat) : Int) > 3))))] ?_
 refine kP 25 (decide (((r.held.length : Nat) : Int) > 3)) (fun h3 => ?_) (fun h3 => ?_)
 have h3p := of_decide_eq_true h3
 refine kED [1,3,36] [(36,.v (.bool true))] ?_
 refine kT ?_
 refine kQ ?_
 refine kES [2] [(2,.v (.bool false))] ?_
 refine kR ?_
 exact ⟨[.bool false],by kernel_rfl,fun w' hb hf => ⟨ret_bool (show (false : Bool) = receiverOk r from by first | rfl | (rw [HR,HK]; simp [*]; done) | (rw [HR,HK]; simp [*]; omega) | (rw [HR,HK]; grind [rcvPost]) | (simp [receiverOk,rcvPre, *]; done) | (simp [receiverOk,rcvPre, *]; omega) | grind [receiverOk,rcvPre]),hb⟩⟩
 have h3p := of_decide_eq_false h3
 refine kCD 3 [1,3,25,27,28] [(25,.v (.bool false)),(27,.v (.int .i64 r.fin)),(28,.v (.int .i64 (windowOf r)))] 55 [.int .i64 r.fin,.int .i64 (-1),.int .i64 (windowOf r)] (some 29) rfl (xc_s fun ww hf => l1In_c r.fin (-1) (windowOf r) ww ) ?_
 intro _
 refine kRD 3 [1,3,32] [(32,.v (.bool (!(inB r.fin (-1) (windowOf r)))))] ?_
 refine kP 32 (!(inB r.fin (-1) (windowOf r))) (fun h4 => ?_) (fun h4 => ?_)
 have h4n := not_t h4
 refine kED [1,3,36] [(36,.v (.bool true))] ?_
 refine kT ?_
 refine kQ ?_
 refine kES [2] [(2,.v (.bool false))] ?_
 refine kR ?_
 exact ⟨[.bool false],by kernel_rfl,fun w' hb hf => ⟨ret_bool (show (false : Bool) = receiverOk r from by first | rfl | (rw [HR,HK]; simp [*]; done) | (rw [HR,HK]; simp [*]; omega) | (rw [HR,HK]; grind [rcvPost]) | (simp [receiverOk,rcvPre, *]; done) | (simp [receiverOk,rcvPre, *]; omega) | grind [receiverOk,rcvPre]),hb⟩⟩
 have h4n := not_f h4
 refine kED [1,3,36] [(36,.v (.bool (r.fin == 0)))] ?_
 refine kC (r.fin == 0) (fun h5 => ?_) (fun h5 => ?_)
 have h5p := eqT h5
 refine kQ ?_
 refine kES [2] [(2,.v (.bool false))] ?_
 refine kR ?_
 exact ⟨[.bool false],by kernel_rfl,fun w' hb hf => ⟨ret_bool (show (false : Bool) = receiverOk r from by first | rfl | (rw [HR,HK]; simp [*]; done) | (rw [HR,HK]; simp [*]; omega) | (rw [HR,HK]; grind [rcvPost]) | (simp [receiverOk,rcvPre, *]; done) | (simp [receiverOk,rcvPre, *]; omega) | grind [receiverOk,rcvPre]),hb⟩⟩
 have h5p := eqF h5
 refine kK ?_
 refine kQ ?_
 refine kED [1,3,4] [(4,.v (.int .i64 0))] ?_
 refine kS ?_
 refine kQ ?_
 refine kES [1,3,4,5] [(1,.p 0 0),(3,.v (.int .i64 (windowOf r))),(4,.v (.int .i64 0)),(5,.v (.int .i64 0))] ?_
 refine xw_block ?_
 have hp : rcvPre r = true := by first | (simp [rcvPre, *]; done) | (simp [rcvPre, *]; omega) | grind [rcvPre]
 have hin := inB_tt.1 (rcvPre_iff.1 hp).2.2.2.1
 have HR := receiverOkS r hp
 refine xw_loopW (α := {x : Nat × Int // (fun (k : Nat) (z : Int) => k ≤ r.held.length ∧ 0 ≤ z ∧ z ≤ 32 ∧ heldOkS (windowOf r) r.fin 0 r.held = heldOkS (windowOf r) r.fin z (r.held.drop k)) x.1 x.2}) (fun x => (fun (k : Nat) (z : Int) => (⟨[(1,.p 0 0),(3,.v (.int .i64 (windowOf r))),(4,.v (.int .i64 z)),(5,.v (.int .i64 (k : Int)))],[⟨28,rcvL r (.slice Arh r.held.length Crh)⟩],[],[slF (.slice Arh r.held.length Crh) 2 (r.held.map pceCells)]⟩ : St)) x.1.1 x.1.2) (fun x => r.held.length - x.1.1) ⟨(0,0),⟨Nat.zero_le _,by omega,by omega,rfl⟩⟩ (kF 1 0 [1,3,4,5]) ?_
 rintro ⟨⟨k,z⟩,hk,hz0,hz1,HK⟩
 try dsimp only
 try dsimp only at hk hz0 hz1 HK
 refine kS ?_
 refine kQ ?_
 refine kED [1,3,4,5,41] [(41,.v (.bool (decide ((k : Int) < ((r.held.length : Nat) : Int)))))] ?_
 refine kC (decide ((k : Int) < ((r.held.length : Nat) : Int))) (fun h6 => ?_) (fun h6 => ?_)
 have h6p := of_decide_eq_true h6
 have hlt : k < r.held.length := by simpa using h6
 obtain ⟨x,hx⟩ : ∃ x,r.held[k]? = some x := ⟨_,List.getElem?_eq_getElem hlt⟩
 have hxm := hm x (List.mem_of_getElem? hx)
 rw [drop_cons_of hx] at HK; simp only [heldOkS,heldOk] at HK
 refine kK ?_
 refine kS ?_
 refine xw_block ?_
 refine kQ ?_
 refine xl_indexD (kd := .i64) (T := 26) (e := 81) (K := 2) 3 [1,3,4,5,45,46] [(45,.v (.slice Arh r.held.length Crh)),(46,.v (.int .i64 (k : Int)))] k [.int .i64 x.off,.string x.text] (slF (.slice Arh r.held.length Crh) 2 (r.held.map pceCells)) (by kernel_rfl) rfl (by kernel_rfl) rfl rfl (by kernel_rfl) (by kernel_rfl) (by kernel_rfl) (by kernel_rfl) hlt (by simp) (fun w h => h) (fun b h => h) (by simp only [List.getElem?_map,hx]; rfl) ?_
 refine kEA [1,3,4,5,6] [(6,.p 1 0)] [⟨81,pceL x⟩] ?_
 refine kS ?_
 refine kQ ?_
 refine kRD 4 [1,3,4,5,6,52] [(52,.v (.bool (x.text.toList == (⟨#[]⟩ : ByteArray).toList)))] ?_
 refine kP 52 (x.text.toList == (⟨#[]⟩ : ByteArray).toList) (fun h7 => ?_) (fun h7 => ?_)
 have h7p := h7; simp only [beq_iff_eq,bne_iff_ne,beq_eq_false_iff_ne,bne_eq_false_iff_eq,ne_eq,toList_lit0] at h7p
 refine kED [1,3,5,6,73] [(73,.v (.bool true))] ?_
 refine kT ?_
 refine kQ ?_
 refine kES [2] [(2,.v (.bool false))] ?_
 refine kR ?_
 exact ⟨[.bool false],by kernel_rfl,fun w' hb hf => ⟨ret_bool (show (false : Bool) = receiverOk r from by first | rfl | (rw [HR,HK]; simp [*]; done) | (rw [HR,HK]; simp [*]; omega) | (rw [HR,HK]; grind [rcvPost]) | (simp [receiverOk,rcvPre, *]; done) | (simp [receiverOk,rcvPre, *]; omega) | grind [receiverOk,rcvPre]),hb⟩⟩
 have h7p := h7; simp only [beq_iff_eq,bne_iff_ne,beq_eq_false_iff_ne,bne_eq_false_iff_eq,ne_eq,toList_lit0] at h7p
 refine kRD 6 [1,3,5,6,58] [(58,.v (.bool (decide (x.off ≤ z))))] ?_
 refine kP 58 (decide (x.off ≤ z)) (fun h8 => ?_) (fun h8 => ?_)
 have h8p := of_decide_eq_true h8
 refine kED [1,3,5,6,73] [(73,.v (.bool true))] ?_
 refine kT ?_
 refine kQ ?_
 refine kES [2] [(2,.v (.bool false))] ?_
 refine kR ?_
 exact ⟨[.bool false],by kernel_rfl,fun w' hb hf => ⟨ret_bool (show (false : Bool) = receiverOk r from by first | rfl | (rw [HR,HK]; simp [*]; done) | (rw [HR,HK]; simp [*]; omega) | (rw [HR,HK]; grind [rcvPost]) | (simp [receiverOk,rcvPre, *]; done) | (simp [receiverOk,rcvPre, *]; omega) | grind [receiverOk,rcvPre]),hb⟩⟩
 have h8p := of_decide_eq_false h8
 refine kRD 6 [1,3,5,6,64] [(64,.v (.bool (decide (x.off > (windowOf r)))))] ?_
 refine kP 64 (decide (x.off > (windowOf r))) (fun h9 => ?_) (fun h9 => ?_)
 have h9p := of_decide_eq_true h9
 refine kED [1,3,5,6,73] [(73,.v (.bool true))] ?_
 refine kT ?_
 refine kQ ?_
 refine kES [2] [(2,.v (.bool false))] ?_
 refine kR ?_
 exact ⟨[.bool false],by kernel_rfl,fun w' hb hf => ⟨ret_bool (show (false : Bool) = receiverOk r from by first | rfl | (rw [HR,HK]; simp [*]; done) | (rw [HR,HK]; simp [*]; omega) | (rw [HR,HK]; grind [rcvPost]) | (simp [receiverOk,rcvPre, *]; done) | (simp [receiverOk,rcvPre, *]; omega) | grind [receiverOk,rcvPre]),hb⟩⟩
 have h9p := of_decide_eq_false h9
 refine kRS 9 [1,3,5,6,73] [(1,.p 0 0),(3,.v (.int .i64 (windowOf r))),(5,.v (.int .i64 (k : Int))),(6,.p 1 0),(73,.v (.bool (decide ((IntKind.i64.wrap (x.off + (x.text.size : Int))) > (windowOf r)))))] ?_
 refine xl_eqS (t' := [(1,.p 0 0),(3,.v (.int .i64 (windowOf r))),(5,.v (.int .i64 (k : Int))),(6,.p 1 0),(73,.v (.bool (decide ((x.off + (x.text.size : Int)) > (windowOf r)))))]) (by rw [show (IntKind.i64.wrap (x.off + (x.text.size : Int))) = (x.off + (x.text.size : Int)) from wrap_id (by omega) (by omega)]) ?_
 refine kED [1,3,5,6,73] [] ?_
 refine kC (decide ((x.off + (x.text.size : Int)) > (windowOf r))) (fun h10 => ?_) (fun h10 => ?_)
 have h10p := of_decide_eq_true h10
 refine kQ ?_
 refine kES [2] [(2,.v (.bool false))] ?_
 refine kR ?_
 exact ⟨[.bool false],by kernel_rfl,fun w' hb hf => ⟨ret_bool (show (false : Bool) = receiverOk r from by first | rfl | (rw [HR,HK]; simp [*]; done) | (rw [HR,HK]; simp [*]; omega) | (rw [HR,HK]; grind [rcvPost]) | (simp [receiverOk,rcvPre, *]; done) | (simp [receiverOk,rcvPre, *]; omega) | grind [receiverOk,rcvPre]),hb⟩⟩
 have h10p := of_decide_eq_false h10
 refine kK ?_
 refine kG ?_
 refine kRS 7 [1,3,4,5] [(1,.p 0 0),(3,.v (.int .i64 (windowOf r))),(4,.v (.int .i64 (IntKind.i64.wrap (x.off + (x.text.size : Int))))),(5,.v (.int .i64 (k : Int)))] ?_
 refine xl_eqS (t' := [(1,.p 0 0),(3,.v (.int .i64 (windowOf r))),(4,.v (.int .i64 (x.off + (x.text.size : Int)))),(5,.v (.int .i64 (k : Int)))]) (by rw [show (IntKind.i64.wrap (x.off + (x.text.size : Int))) = (x.off + (x.text.size : Int)) from wrap_id (by omega) (by omega)]) ?_
 refine kED [1,3,4,5] [] ?_
 refine kG ?_
 refine kRS 3 [1,3,4,5] [(1,.p 0 0),(3,.v (.int .i64 (windowOf r))),(4,.v (.int .i64 (x.off + (x.text.size : Int)))),(5,.v (.int .i64 (IntKind.i64.wrap ((k : Int) + 1))))] ?_
 refine xl_eqS (t' := [(1,.p 0 0),(3,.v (.int .i64 (windowOf r))),(4,.v (.int .i64 (x.off + (x.text.size : Int)))),(5,.v (.int .i64 ((k : Int) + 1)))]) (by rw [show (IntKind.i64.wrap ((k : Int) + 1)) = ((k : Int) + 1) from wrap_id (by omega) (by omega)]) ?_
 refine kED [1,3,4,5] [] ?_
 exact ⟨⟨(k + 1,x.off + (x.text.size : Int)),⟨by omega,by omega,by omega,by rw [HK]; first | (simp [*]; done) | (simp [*]; omega) | grind⟩⟩,kF 1 0 [1,3,4,5],by show r.held.length - (k + 1) < r.held.length - k; omega⟩
 have h6p := of_decide_eq_false h6
 have hge : k = r.held.length := by simp at h6; omega
 subst hge; simp only [List.drop_length,heldOkS,heldOk] at HK
 refine xw_exit ?_
 refine kQ ?_
 refine kRD 4 [1,4,83] [(83,.v (.bool (decide (r.fin < 0))))] ?_
 refine kP 83 (decide (r.fin < 0)) (fun h11 => ?_) (fun h11 => ?_)
 have h11p := of_decide_eq_true h11
 refine kRD 10 [1,89,93] [(89,.v (.bool true)),(93,.v (.bool (!r.done)))] ?_
 refine kP 93 (!r.done) (fun h12 => ?_) (fun h12 => ?_)
 have h12n := not_t h12
 refine kES [2] [(2,.v (.bool true))] ?_
 refine kR ?_
 exact ⟨[.bool true],by kernel_rfl,fun w' hb hf => ⟨ret_bool (show (true : Bool) = receiverOk r from by first | rfl | (rw [HR,HK]; simp [*]; done) | (rw [HR,HK]; simp [*]; omega) | (rw [HR,HK]; grind [rcvPost]) | (simp [receiverOk,rcvPre, *]; done) | (simp [receiverOk,rcvPre, *]; omega) | grind [receiverOk,rcvPre]),hb⟩⟩
 have h12n := not_f h12
 refine kRD 5 [1,89,93,98] [(93,.v (.bool false)),(98,.v (.bool (((r.held.length : Nat) : Int) == 0)))] ?_
 refine kP 98 (((r.held.length : Nat) : Int) == 0) (fun h13 => ?_) (fun h13 => ?_)
 have h13p := eqT h13
 refine kES [2] [(2,.v (.bool (r.fin == (-1))))] ?_
 refine kR ?_
 exact ⟨[.bool (r.fin == (-1))],by kernel_rfl,fun w' hb hf => ⟨ret_bool (show (r.fin == (-1) : Bool) = receiverOk r from by first | rfl | (rw [HR,HK]; simp [*]; done) | (rw [HR,HK]; simp [*]; omega) | (rw [HR,HK]; grind [rcvPost]) | (simp [receiverOk,rcvPre, *]; done) | (simp [receiverOk,rcvPre, *]; omega) | grind [receiverOk,rcvPre]),hb⟩⟩
 have h13p := eqF h13
 refine kES [2] [(2,.v (.bool false))] ?_
 refine kR ?_
 exact ⟨[.bool false],by kernel_rfl,fun w' hb hf => ⟨ret_bool (show (false : Bool) = receiverOk r from by first | rfl | (rw [HR,HK]; simp [*]; done) | (rw [HR,HK]; simp [*]; omega) | (rw [HR,HK]; grind [rcvPost]) | (simp [receiverOk,rcvPre, *]; done) | (simp [receiverOk,rcvPre, *]; omega) | grind [receiverOk,rcvPre]),hb⟩⟩
 have h11p := of_decide_eq_false h11
 refine kRD 6 [1,89] [(89,.v (.bool (decide (z ≤ r.fin))))] ?_
 refine kP 89 (decide (z ≤ r.fin)) (fun h14 => ?_) (fun h14 => ?_)
 have h14p := of_decide_eq_true h14
 refine kRD 4 [1,89,93] [(89,.v (.bool true)),(93,.v (.bool (!r.done)))] ?_
 refine kP 93 (!r.done) (fun h15 => ?_) (fun h15 => ?_)
 have h15n := not_t h15
 refine kES [2] [(2,.v (.bool true))] ?_
 refine kR ?_
 exact ⟨[.bool true],by kernel_rfl,fun w' hb hf => ⟨ret_bool (show (true : Bool) = receiverOk r from by first | rfl | (rw [HR,HK]; simp [*]; done) | (rw [HR,HK]; simp [*]; omega) | (rw [HR,HK]; grind [rcvPost]) | (simp [receiverOk,rcvPre, *]; done) | (simp [receiverOk,rcvPre, *]; omega) | grind [receiverOk,rcvPre]),hb⟩⟩
 have h15n := not_f h15
 refine kRD 5 [1,89,93,98] [(93,.v (.bool false)),(98,.v (.bool (((r.held.length : Nat) : Int) == 0)))] ?_
 refine kP 98 (((r.held.length : Nat) : Int) == 0) (fun h16 => ?_) (fun h16 => ?_)
 have h16p := eqT h16
 refine kES [2] [(2,.v (.bool (r.fin == (-1))))] ?_
 refine kR ?_
 exact ⟨[.bool (r.fin == (-1))],by kernel_rfl,fun w' hb hf => ⟨ret_bool (show (r.fin == (-1) : Bool) = receiverOk r from by first | rfl | (rw [HR,HK]; simp [*]; done) | (rw [HR,HK]; simp [*]; omega) | (rw [HR,HK]; grind [rcvPost]) | (simp [receiverOk,rcvPre, *]; done) | (simp [receiverOk,rcvPre, *]; omega) | grind [receiverOk,rcvPre]),hb⟩⟩
 have h16p := eqF h16
 refine kES [2] [(2,.v (.bool false))] ?_
 refine kR ?_
 exact ⟨[.bool false],by kernel_rfl,fun w' hb hf => ⟨ret_bool (show (false : Bool) = receiverOk r from by first | rfl | (rw [HR,HK]; simp [*]; done) | (rw [HR,HK]; simp [*]; omega) | (rw [HR,HK]; grind [rcvPost]) | (simp [receiverOk,rcvPre, *]; done) | (simp [receiverOk,rcvPre, *]; omega) | grind [receiverOk,rcvPre]),hb⟩⟩
 have h14p := of_decide_eq_false h14
 refine kES [2] [(2,.v (.bool false))] ?_
 refine kR ?_
 exact ⟨[.bool false],by kernel_rfl,fun w' hb hf => ⟨ret_bool (show (false : Bool) = receiverOk r from by first | rfl | (rw [HR,HK]; simp [*]; done) | (rw [HR,HK]; simp [*]; omega) | (rw [HR,HK]; grind [rcvPost]) | (simp [receiverOk,rcvPre, *]; done) | (simp [receiverOk,rcvPre, *]; omega) | grind [receiverOk,rcvPre]),hb⟩⟩
theorem yiReceiverOk_c (r : Rcv) (r_heldV : Value) (w : World) (hl_r_heldV : Sl w r_heldV 2 (r.held.map pceCells)) (hm : ∀ p ∈ r.held, p.text.size ≤ 1048576) (hsz : r.data.size ≤ 4611686018427387904) : Calls Try.prog 30 #[.agg (rcvL r r_heldV).toArray] w fun e w' => e = .returned (.bool (receiverOk r)) ∧ Below w.heap.size w w' := by
 have hw := windowOf_bd r
 obtain ⟨Arh,Crh,hvrh⟩ := hl_r_heldV.form
 rw [List.length_map] at hvrh; subst hvrh
 have hnrh := hl_r_heldV.len; rw [List.length_map] at hnrh
 have hqrh := Sl.capLe hl_r_heldV
 refine x_calls (args := [.agg (rcvL r (.slice Arh r.held.length Crh)).toArray]) (fn := Try.f30) [slF (.slice Arh r.held.length Crh) 2 (r.held.map pceCells)] Try.func30 rfl Try.ntmps30 rfl (by simp only [List.mem_cons,List.not_mem_nil,or_false,forall_eq_or_imp,forall_eq]; exact ⟨rfl,hl_r_heldV⟩) ?_
 refine kQ ?_
 refine kEF [1] ⟨[(1,.p 0 0)],[⟨28,rcvL r (.slice Arh r.held.length Crh)⟩],[],[slF (.slice Arh r.held.length Crh) 2 (r.held.map pceCells)]⟩ ?_
 refine kQ ?_
 refine kCD 1 [1,8] [(8,.v (.agg (rcvL r (.slice Arh r.held.length Crh)).toArray))] 41 [.agg (rcvL r (.slice Arh r.held.length Crh)).toArray] (some 9) rfl (xc_b fun ww hf => iWindowOf_c r.next r.data r.held (.slice Arh r.held.length Crh) r.fin r.done ww (by omega)) ?_
 intro _
 refine kED [1,3] [(3,.v (.int .i64 (windowOf r)))] ?_
 refine kS ?_
 refine kQ ?_
 refine kCD 2 [1,3,11] [(11,.v (.int .i64 r.next))] 76 [.int .i64 r.next,.int .i64 32] (some 12) rfl (xc_s fun ww hf => iWordOk32_c r.next ww) ?_
 intro _
 refine kRD 2 [1,3,14] [(14,.v (.bool (!(wordOk r.next 32))))] ?_
 refine kP 14 (!(wordOk r.next 32)) (fun h1 => ?_) (fun h1 => ?_)
 have h1n := not_t h1
 refine kED [1,3,37] [(37,.v (.bool true))] ?_
 refine kT ?_
 refine kQ ?_
 refine kES [2] [(2,.v (.bool false))] ?_
 refine kR ?_
 exact ⟨[.bool false],by kernel_rfl,fun w' hb hf => ⟨ret_bool (show (false : Bool) = receiverOk r from by first | rfl | (rw [HR,HK]; simp [*]; done) | (rw [HR,HK]; simp [*]; omega) | (rw [HR,HK]; grind [rcvPost]) | (simp [receiverOk,rcvPre, *]; done) | (simp [receiverOk,rcvPre, *]; omega) | grind [receiverOk,rcvPre]),hb⟩⟩
 have h1n := not_f h1
 refine kRD 6 [1,3,20] [(20,.v (.bool (decide ((r.data.size : Int) > 32))))] ?_
 refine kP 20 (decide ((r.data.size : Int) > 32)) (fun h2 => ?_) (fun h2 => ?_)
 have h2p := of_decide_eq_true h2
 refine kED [1,3,37] [(37,.v (.bool true))] ?_
 refine kT ?_
 refine kQ ?_
 refine kES [2] [(2,.v (.bool false))] ?_
 refine kR ?_
 exact ⟨[.bool false],by kernel_rfl,fun w' hb hf => ⟨ret_bool (show (false : Bool) = receiverOk r from by first | rfl | (rw [HR,HK]; simp [*]; done) | (rw [HR,HK]; simp [*]; omega) | (rw [HR,HK]; grind [rcvPost]) | (simp [receiverOk,rcvPre, *]; done) | (simp [receiverOk,rcvPre, *]; omega) | grind [receiverOk,rcvPre]),hb⟩⟩
 have h2p := of_decide_eq_false h2
 refine kRD 6 [1,3,26] [(26,.v (.bool (decide (((r.held.length : Nat) : Int) > 3))))] ?_
 refine kP 26 (decide (((r.held.length : Nat) : Int) > 3)) (fun h3 => ?_) (fun h3 => ?_)
 have h3p := of_decide_eq_true h3
 refine kED [1,3,37] [(37,.v (.bool true))] ?_
 refine kT ?_
 refine kQ ?_
 refine kES [2] [(2,.v (.bool false))] ?_
 refine kR ?_
 exact ⟨[.bool false],by kernel_rfl,fun w' hb hf => ⟨ret_bool (show (false : Bool) = receiverOk r from by first | rfl | (rw [HR,HK]; simp [*]; done) | (rw [HR,HK]; simp [*]; omega) | (rw [HR,HK]; grind [rcvPost]) | (simp [receiverOk,rcvPre, *]; done) | (simp [receiverOk,rcvPre, *]; omega) | grind [receiverOk,rcvPre]),hb⟩⟩
 have h3p := of_decide_eq_false h3
 refine kCD 3 [1,3,26,28,29] [(26,.v (.bool false)),(28,.v (.int .i64 r.fin)),(29,.v (.int .i64 (windowOf r)))] 77 [.int .i64 r.fin,.int .i64 (-1),.int .i64 (windowOf r)] (some 30) rfl (xc_s fun ww hf => within_c r.fin (-1) (windowOf r) ww ) ?_
 intro _
 refine kRD 3 [1,3,33] [(33,.v (.bool (!(inB r.fin (-1) (windowOf r)))))] ?_
 refine kP 33 (!(inB r.fin (-1) (windowOf r))) (fun h4 => ?_) (fun h4 => ?_)
 have h4n := not_t h4
 refine kED [1,3,37] [(37,.v (.bool true))] ?_
 refine kT ?_
 refine kQ ?_
 refine kES [2] [(2,.v (.bool false))] ?_
 refine kR ?_
 exact ⟨[.bool false],by kernel_rfl,fun w' hb hf => ⟨ret_bool (show (false : Bool) = receiverOk r from by first | rfl | (rw [HR,HK]; simp [*]; done) | (rw [HR,HK]; simp [*]; omega) | (rw [HR,HK]; grind [rcvPost]) | (simp [receiverOk,rcvPre, *]; done) | (simp [receiverOk,rcvPre, *]; omega) | grind [receiverOk,rcvPre]),hb⟩⟩
 have h4n := not_f h4
 refine kED [1,3,37] [(37,.v (.bool (r.fin == 0)))] ?_
 refine kC (r.fin == 0) (fun h5 => ?_) (fun h5 => ?_)
 have h5p := eqT h5
 refine kQ ?_
 refine kES [2] [(2,.v (.bool false))] ?_
 refine kR ?_
 exact ⟨[.bool false],by kernel_rfl,fun w' hb hf => ⟨ret_bool (show (false : Bool) = receiverOk r from by first | rfl | (rw [HR,HK]; simp [*]; done) | (rw [HR,HK]; simp [*]; omega) | (rw [HR,HK]; grind [rcvPost]) | (simp [receiverOk,rcvPre, *]; done) | (simp [receiverOk,rcvPre, *]; omega) | grind [receiverOk,rcvPre]),hb⟩⟩
 have h5p := eqF h5
 refine kK ?_
 refine kQ ?_
 refine kED [1,4] [(4,.v (.int .i64 (windowOf r)))] ?_
 refine kS ?_
 refine kQ ?_
 refine kES [1,4,41] [(1,.p 0 0),(4,.v (.int .i64 (windowOf r))),(41,.v (.bool (r.fin != (-1))))] ?_
 refine kC (r.fin != (-1)) (fun h6 => ?_) (fun h6 => ?_)
 have h6p := neT h6
 refine kG ?_
 refine kED [1,4] [(4,.v (.int .i64 r.fin))] ?_
 refine kQ ?_
 refine kED [1,4,5] [(5,.v (.int .i64 0))] ?_
 refine kS ?_
 refine kQ ?_
 refine kED [1,4,5,45,46,47] [(45,.v (.slice Arh r.held.length Crh)),(46,.v (.int .i64 ((r.held.length : Nat) : Int))),(47,.v (.int .i64 0))] ?_
 refine xw_block ?_
 have hp : rcvPre r = true := by first | (simp [rcvPre, *]; done) | (simp [rcvPre, *]; omega) | grind [rcvPre]
 have hin := inB_tt.1 (rcvPre_iff.1 hp).2.2.2.1
 have HR : receiverOk r = (heldOk (if r.fin = -1 then windowOf r else r.fin) 0 r.held && rcvPost r) := by unfold receiverOk; rw [hp]; rfl
 refine xw_loopW (α := {x : Nat × Int // (fun (k : Nat) (z : Int) => k ≤ r.held.length ∧ 0 ≤ z ∧ z ≤ 32 ∧ heldOk (if r.fin = -1 then windowOf r else r.fin) 0 r.held = heldOk (if r.fin = -1 then windowOf r else r.fin) z (r.held.drop k)) x.1 x.2}) (fun x => (fun (k : Nat) (z : Int) => (⟨[(1,.p 0 0),(4,.v (.int .i64 r.fin)),(5,.v (.int .i64 z)),(45,.v (.slice Arh r.held.length Crh)),(46,.v (.int .i64 ((r.held.length : Nat) : Int))),(47,.v (.int .i64 (k : Int)))],[⟨28,rcvL r (.slice Arh r.held.length Crh)⟩],[],[slF (.slice Arh r.held.length Crh) 2 (r.held.map pceCells)]⟩ : St)) x.1.1 x.1.2) (fun x => r.held.length - x.1.1) ⟨(0,0),⟨Nat.zero_le _,by omega,by omega,rfl⟩⟩ (kF 1 0 [1,4,5,45,46,47]) ?_
 rintro ⟨⟨k,z⟩,hk,hz0,hz1,HK⟩
 try dsimp only
 try dsimp only at hk hz0 hz1 HK
 refine kQ ?_
 refine kED [1,4,5,45,46,47,48] [(48,.v (.bool (decide ((k : Int) < ((r.held.length : Nat) : Int)))))] ?_
 refine kS ?_
 refine kC (decide ((k : Int) < ((r.held.length : Nat) : Int))) (fun h7 => ?_) (fun h7 => ?_)
 have h7p := of_decide_eq_true h7
 have hlt : k < r.held.length := by simpa using h7
 obtain ⟨x,hx⟩ : ∃ x,r.held[k]? = some x := ⟨_,List.getElem?_eq_getElem hlt⟩
 have hxm := hm x (List.mem_of_getElem? hx)
 rw [drop_cons_of hx] at HK; simp only [heldOkS,heldOk] at HK
 refine kK ?_
 refine kS ?_
 refine xw_block ?_
 refine kQ ?_
 refine xl_indexD (kd := .i64) (T := 26) (e := 81) (K := 2) 0 [1,4,5,45,46,47] [] k [.int .i64 x.off,.string x.text] (slF (.slice Arh r.held.length Crh) 2 (r.held.map pceCells)) (by kernel_rfl) rfl (by kernel_rfl) rfl rfl (by kernel_rfl) (by kernel_rfl) (by kernel_rfl) (by kernel_rfl) hlt (by simp) (fun w h => h) (fun b h => h) (by simp only [List.getElem?_map,hx]; rfl) ?_
 refine kEA [1,4,5,7,45,46,47] [(7,.p 1 0)] [⟨81,pceL x⟩] ?_
 refine kS ?_
 refine kQ ?_
 refine kRD 4 [1,4,5,7,45,46,47,54] [(54,.v (.bool (x.text.toList == (⟨#[]⟩ : ByteArray).toList)))] ?_
 refine kP 54 (x.text.toList == (⟨#[]⟩ : ByteArray).toList) (fun h8 => ?_) (fun h8 => ?_)
 have h8p := h8; simp only [beq_iff_eq,bne_iff_ne,beq_eq_false_iff_ne,bne_eq_false_iff_eq,ne_eq,toList_lit0] at h8p
 refine kED [1,4,7,45,46,47,69] [(69,.v (.bool true))] ?_
 refine kT ?_
 refine kQ ?_
 refine kES [2] [(2,.v (.bool false))] ?_
 refine kR ?_
 exact ⟨[.bool false],by kernel_rfl,fun w' hb hf => ⟨ret_bool (show (false : Bool) = receiverOk r from by first | rfl | (rw [HR,HK]; simp [*]; done) | (rw [HR,HK]; simp [*]; omega) | (rw [HR,HK]; grind [rcvPost]) | (simp [receiverOk,rcvPre, *]; done) | (simp [receiverOk,rcvPre, *]; omega) | grind [receiverOk,rcvPre]),hb⟩⟩
 have h8p := h8; simp only [beq_iff_eq,bne_iff_ne,beq_eq_false_iff_ne,bne_eq_false_iff_eq,ne_eq,toList_lit0] at h8p
 refine kRD 6 [1,4,7,45,46,47,60] [(60,.v (.bool (decide (x.off ≤ z))))] ?_
 refine kP 60 (decide (x.off ≤ z)) (fun h9 => ?_) (fun h9 => ?_)
 have h9p := of_decide_eq_true h9
 refine kED [1,4,7,45,46,47,69] [(69,.v (.bool true))] ?_
 refine kT ?_
 refine kQ ?_
 refine kES [2] [(2,.v (.bool false))] ?_
 refine kR ?_
 exact ⟨[.bool false],by kernel_rfl,fun w' hb hf => ⟨ret_bool (show (false : Bool) = receiverOk r from by first | rfl | (rw [HR,HK]; simp [*]; done) | (rw [HR,HK]; simp [*]; omega) | (rw [HR,HK]; grind [rcvPost]) | (simp [receiverOk,rcvPre, *]; done) | (simp [receiverOk,rcvPre, *]; omega) | grind [receiverOk,rcvPre]),hb⟩⟩
 have h9p := of_decide_eq_false h9
 refine kRS 9 [1,4,7,45,46,47,69] [(1,.p 0 0),(4,.v (.int .i64 r.fin)),(7,.p 1 0),(45,.v (.slice Arh r.held.length Crh)),(46,.v (.int .i64 ((r.held.length : Nat) : Int))),(47,.v (.int .i64 (k : Int))),(69,.v (.bool (decide (x.off > (IntKind.i64.wrap (r.fin - (x.text.size : Int)))))))] ?_
 refine xl_eqS (t' := [(1,.p 0 0),(4,.v (.int .i64 r.fin)),(7,.p 1 0),(45,.v (.slice Arh r.held.length Crh)),(46,.v (.int .i64 ((r.held.length : Nat) : Int))),(47,.v (.int .i64 (k : Int))),(69,.v (.bool (decide (x.off > (r.fin - (x.text.size : Int))))))]) (by rw [show (IntKind.i64.wrap (r.fin - (x.text.size : Int))) = (r.fin - (x.text.size : Int)) from wrap_id (by omega) (by omega)]) ?_
 refine kED [1,4,7,45,46,47,69] [] ?_
 refine kC (decide (x.off > (r.fin - (x.text.size : Int)))) (fun h10 => ?_) (fun h10 => ?_)
 have h10p := of_decide_eq_true h10
 refine kQ ?_
 refine kES [2] [(2,.v (.bool false))] ?_
 refine kR ?_
 exact ⟨[.bool false],by kernel_rfl,fun w' hb hf => ⟨ret_bool (show (false : Bool) = receiverOk r from by first | rfl | (rw [HR,HK]; simp [*]; done) | (rw [HR,HK]; simp [*]; omega) | (rw [HR,HK]; grind [rcvPost]) | (simp [receiverOk,rcvPre, *]; done) | (simp [receiverOk,rcvPre, *]; omega) | grind [receiverOk,rcvPre]),hb⟩⟩
 have h10p := of_decide_eq_false h10
 refine kK ?_
 refine kG ?_
 refine kRS 7 [1,4,5,45,46,47] [(1,.p 0 0),(4,.v (.int .i64 r.fin)),(5,.v (.int .i64 (IntKind.i64.wrap (x.off + (x.text.size : Int))))),(45,.v (.slice Arh r.held.length Crh)),(46,.v (.int .i64 ((r.held.length : Nat) : Int))),(47,.v (.int .i64 (k : Int)))] ?_
 refine xl_eqS (t' := [(1,.p 0 0),(4,.v (.int .i64 r.fin)),(5,.v (.int .i64 (x.off + (x.text.size : Int)))),(45,.v (.slice Arh r.held.length Crh)),(46,.v (.int .i64 ((r.held.length : Nat) : Int))),(47,.v (.int .i64 (k : Int)))]) (by rw [show (IntKind.i64.wrap (x.off + (x.text.size : Int))) = (x.off + (x.text.size : Int)) from wrap_id (by omega) (by omega)]) ?_
 refine kED [1,4,5,45,46,47] [] ?_
 refine kG ?_
 refine kRS 2 [1,4,5,45,46,47] [(1,.p 0 0),(4,.v (.int .i64 r.fin)),(5,.v (.int .i64 (x.off + (x.text.size : Int)))),(45,.v (.slice Arh r.held.length Crh)),(46,.v (.int .i64 ((r.held.length : Nat) : Int))),(47,.v (.int .i64 (IntKind.i64.wrap ((k : Int) + 1))))] ?_
 refine xl_eqS (t' := [(1,.p 0 0),(4,.v (.int .i64 r.fin)),(5,.v (.int .i64 (x.off + (x.text.size : Int)))),(45,.v (.slice Arh r.held.length Crh)),(46,.v (.int .i64 ((r.held.length : Nat) : Int))),(47,.v (.int .i64 ((k : Int) + 1)))]) (by rw [show (IntKind.i64.wrap ((k : Int) + 1)) = ((k : Int) + 1) from wrap_id (by omega) (by omega)]) ?_
 refine kED [1,4,5,45,46,47] [] ?_
 exact ⟨⟨(k + 1,x.off + (x.text.size : Int)),⟨by omega,by omega,by omega,by rw [HK]; first | (simp [*]; done) | (simp [*]; omega) | grind⟩⟩,kF 1 0 [1,4,5,45,46,47],by show r.held.length - (k + 1) < r.held.length - k; omega⟩
 have h7p := of_decide_eq_false h7
 have hge : k = r.held.length := by simp at h7; omega
 subst hge; simp only [List.drop_length,heldOkS,heldOk] at HK
 refine xw_exit ?_
 refine kQ ?_
 refine kRD 4 [1,80] [(80,.v (.bool (!r.done)))] ?_
 refine kP 80 (!r.done) (fun h11 => ?_) (fun h11 => ?_)
 have h11n := not_t h11
 refine kES [2] [(2,.v (.bool true))] ?_
 refine kR ?_
 exact ⟨[.bool true],by kernel_rfl,fun w' hb hf => ⟨ret_bool (show (true : Bool) = receiverOk r from by first | rfl | (rw [HR,HK]; simp [*]; done) | (rw [HR,HK]; simp [*]; omega) | (rw [HR,HK]; grind [rcvPost]) | (simp [receiverOk,rcvPre, *]; done) | (simp [receiverOk,rcvPre, *]; omega) | grind [receiverOk,rcvPre]),hb⟩⟩
 have h11n := not_f h11
 refine kRD 5 [1,80,85] [(80,.v (.bool false)),(85,.v (.bool (((r.held.length : Nat) : Int) == 0)))] ?_
 refine kP 85 (((r.held.length : Nat) : Int) == 0) (fun h12 => ?_) (fun h12 => ?_)
 have h12p := eqT h12
 refine kES [2] [(2,.v (.bool (r.fin == (-1))))] ?_
 refine kR ?_
 exact ⟨[.bool (r.fin == (-1))],by kernel_rfl,fun w' hb hf => ⟨ret_bool (show (r.fin == (-1) : Bool) = receiverOk r from by first | rfl | (rw [HR,HK]; simp [*]; done) | (rw [HR,HK]; simp [*]; omega) | (rw [HR,HK]; grind [rcvPost]) | (simp [receiverOk,rcvPre, *]; done) | (simp [receiverOk,rcvPre, *]; omega) | grind [receiverOk,rcvPre]),hb⟩⟩
 have h12p := eqF h12
 refine kES [2] [(2,.v (.bool false))] ?_
 refine kR ?_
 exact ⟨[.bool false],by kernel_rfl,fun w' hb hf => ⟨ret_bool (show (false : Bool) = receiverOk r from by first | rfl | (rw [HR,HK]; simp [*]; done) | (rw [HR,HK]; simp [*]; omega) | (rw [HR,HK]; grind [rcvPost]) | (simp [receiverOk,rcvPre, *]; done) | (simp [receiverOk,rcvPre, *]; omega) | grind [receiverOk,rcvPre]),hb⟩⟩
 have h6p := neF h6
 refine kK ?_
 refine kQ ?_
 refine kED [1,4,5] [(5,.v (.int .i64 0))] ?_
 refine kS ?_
 refine kQ ?_
 refine kED [1,4,5,45,46,47] [(45,.v (.slice Arh r.held.length Crh)),(46,.v (.int .i64 ((r.held.length : Nat) : Int))),(47,.v (.int .i64 0))] ?_
 refine xw_block ?_
 have hp : rcvPre r = true := by first | (simp [rcvPre, *]; done) | (simp [rcvPre, *]; omega) | grind [rcvPre]
 have hin := inB_tt.1 (rcvPre_iff.1 hp).2.2.2.1
 have HR : receiverOk r = (heldOk (if r.fin = -1 then windowOf r else r.fin) 0 r.held && rcvPost r) := by unfold receiverOk; rw [hp]; rfl
 refine xw_loopW (α := {x : Nat × Int // (fun (k : Nat) (z : Int) => k ≤ r.held.length ∧ 0 ≤ z ∧ z ≤ 32 ∧ heldOk (if r.fin = -1 then windowOf r else r.fin) 0 r.held = heldOk (if r.fin = -1 then windowOf r else r.fin) z (r.held.drop k)) x.1 x.2}) (fun x => (fun (k : Nat) (z : Int) => (⟨[(1,.p 0 0),(4,.v (.int .i64 (windowOf r))),(5,.v (.int .i64 z)),(45,.v (.slice Arh r.held.length Crh)),(46,.v (.int .i64 ((r.held.length : Nat) : Int))),(47,.v (.int .i64 (k : Int)))],[⟨28,rcvL r (.slice Arh r.held.length Crh)⟩],[],[slF (.slice Arh r.held.length Crh) 2 (r.held.map pceCells)]⟩ : St)) x.1.1 x.1.2) (fun x => r.held.length - x.1.1) ⟨(0,0),⟨Nat.zero_le _,by omega,by omega,rfl⟩⟩ (kF 1 0 [1,4,5,45,46,47]) ?_
 rintro ⟨⟨k,z⟩,hk,hz0,hz1,HK⟩
 try dsimp only
 try dsimp only at hk hz0 hz1 HK
 refine kQ ?_
 refine kED [1,4,5,45,46,47,48] [(48,.v (.bool (decide ((k : Int) < ((r.held.length : Nat) : Int)))))] ?_
 refine kS ?_
 refine kC (decide ((k : Int) < ((r.held.length : Nat) : Int))) (fun h13 => ?_) (fun h13 => ?_)
 have h13p := of_decide_eq_true h13
 have hlt : k < r.held.length := by simpa using h13
 obtain ⟨x,hx⟩ : ∃ x,r.held[k]? = some x := ⟨_,List.getElem?_eq_getElem hlt⟩
 have hxm := hm x (List.mem_of_getElem? hx)
 rw [drop_cons_of hx] at HK; simp only [heldOkS,heldOk] at HK
 refine kK ?_
 refine kS ?_
 refine xw_block ?_
 refine kQ ?_
 refine xl_indexD (kd := .i64) (T := 26) (e := 81) (K := 2) 0 [1,4,5,45,46,47] [] k [.int .i64 x.off,.string x.text] (slF (.slice Arh r.held.length Crh) 2 (r.held.map pceCells)) (by kernel_rfl) rfl (by kernel_rfl) rfl rfl (by kernel_rfl) (by kernel_rfl) (by kernel_rfl) (by kernel_rfl) hlt (by simp) (fun w h => h) (fun b h => h) (by simp only [List.getElem?_map,hx]; rfl) ?_
 refine kEA [1,4,5,7,45,46,47] [(7,.p 1 0)] [⟨81,pceL x⟩] ?_
 refine kS ?_
 refine kQ ?_
 refine kRD 4 [1,4,5,7,45,46,47,54] [(54,.v (.bool (x.text.toList == (⟨#[]⟩ : ByteArray).toList)))] ?_
 refine kP 54 (x.text.toList == (⟨#[]⟩ : ByteArray).toList) (fun h14 => ?_) (fun h14 => ?_)
 have h14p := h14; simp only [beq_iff_eq,bne_iff_ne,beq_eq_false_iff_ne,bne_eq_false_iff_eq,ne_eq,toList_lit0] at h14p
 refine kED [1,4,7,45,46,47,69] [(69,.v (.bool true))] ?_
 refine kT ?_
 refine kQ ?_
 refine kES [2] [(2,.v (.bool false))] ?_
 refine kR ?_
 exact ⟨[.bool false],by kernel_rfl,fun w' hb hf => ⟨ret_bool (show (false : Bool) = receiverOk r from by first | rfl | (rw [HR,HK]; simp [*]; done) | (rw [HR,HK]; simp [*]; omega) | (rw [HR,HK]; grind [rcvPost]) | (simp [receiverOk,rcvPre, *]; done) | (simp [receiverOk,rcvPre, *]; omega) | grind [receiverOk,rcvPre]),hb⟩⟩
 have h14p := h14; simp only [beq_iff_eq,bne_iff_ne,beq_eq_false_iff_ne,bne_eq_false_iff_eq,ne_eq,toList_lit0] at h14p
 refine kRD 6 [1,4,7,45,46,47,60] [(60,.v (.bool (decide (x.off ≤ z))))] ?_
 refine kP 60 (decide (x.off ≤ z)) (fun h15 => ?_) (fun h15 => ?_)
 have h15p := of_decide_eq_true h15
 refine kED [1,4,7,45,46,47,69] [(69,.v (.bool true))] ?_
 refine kT ?_
 refine kQ ?_
 refine kES [2] [(2,.v (.bool false))] ?_
 refine kR ?_
 exact ⟨[.bool false],by kernel_rfl,fun w' hb hf => ⟨ret_bool (show (false : Bool) = receiverOk r from by first | rfl | (rw [HR,HK]; simp [*]; done) | (rw [HR,HK]; simp [*]; omega) | (rw [HR,HK]; grind [rcvPost]) | (simp [receiverOk,rcvPre, *]; done) | (simp [receiverOk,rcvPre, *]; omega) | grind [receiverOk,rcvPre]),hb⟩⟩
 have h15p := of_decide_eq_false h15
 refine kRS 9 [1,4,7,45,46,47,69] [(1,.p 0 0),(4,.v (.int .i64 (windowOf r))),(7,.p 1 0),(45,.v (.slice Arh r.held.length Crh)),(46,.v (.int .i64 ((r.held.length : Nat) : Int))),(47,.v (.int .i64 (k : Int))),(69,.v (.bool (decide (x.off > (IntKind.i64.wrap ((windowOf r) - (x.text.size : Int)))))))] ?_
 refine xl_eqS (t' := [(1,.p 0 0),(4,.v (.int .i64 (windowOf r))),(7,.p 1 0),(45,.v (.slice Arh r.held.length Crh)),(46,.v (.int .i64 ((r.held.length : Nat) : Int))),(47,.v (.int .i64 (k : Int))),(69,.v (.bool (decide (x.off > ((windowOf r) - (x.text.size : Int))))))]) (by rw [show (IntKind.i64.wrap ((windowOf r) - (x.text.size : Int))) = ((windowOf r) - (x.text.size : Int)) from wrap_id (by omega) (by omega)]) ?_
 refine kED [1,4,7,45,46,47,69] [] ?_
 refine kC (decide (x.off > ((windowOf r) - (x.text.size : Int)))) (fun h16 => ?_) (fun h16 => ?_)
 have h16p := of_decide_eq_true h16
 refine kQ ?_
 refine kES [2] [(2,.v (.bool false))] ?_
 refine kR ?_
 exact ⟨[.bool false],by kernel_rfl,fun w' hb hf => ⟨ret_bool (show (false : Bool) = receiverOk r from by first | rfl | (rw [HR,HK]; simp [*]; done) | (rw [HR,HK]; simp [*]; omega) | (rw [HR,HK]; grind [rcvPost]) | (simp [receiverOk,rcvPre, *]; done) | (simp [receiverOk,rcvPre, *]; omega) | grind [receiverOk,rcvPre]),hb⟩⟩
 have h16p := of_decide_eq_false h16
 refine kK ?_
 refine kG ?_
 refine kRS 7 [1,4,5,45,46,47] [(1,.p 0 0),(4,.v (.int .i64 (windowOf r))),(5,.v (.int .i64 (IntKind.i64.wrap (x.off + (x.text.size : Int))))),(45,.v (.slice Arh r.held.length Crh)),(46,.v (.int .i64 ((r.held.length : Nat) : Int))),(47,.v (.int .i64 (k : Int)))] ?_
 refine xl_eqS (t' := [(1,.p 0 0),(4,.v (.int .i64 (windowOf r))),(5,.v (.int .i64 (x.off + (x.text.size : Int)))),(45,.v (.slice Arh r.held.length Crh)),(46,.v (.int .i64 ((r.held.length : Nat) : Int))),(47,.v (.int .i64 (k : Int)))]) (by rw [show (IntKind.i64.wrap (x.off + (x.text.size : Int))) = (x.off + (x.text.size : Int)) from wrap_id (by omega) (by omega)]) ?_
 refine kED [1,4,5,45,46,47] [] ?_
 refine kG ?_
 refine kRS 2 [1,4,5,45,46,47] [(1,.p 0 0),(4,.v (.int .i64 (windowOf r))),(5,.v (.int .i64 (x.off + (x.text.size : Int)))),(45,.v (.slice Arh r.held.length Crh)),(46,.v (.int .i64 ((r.held.length : Nat) : Int))),(47,.v (.int .i64 (IntKind.i64.wrap ((k : Int) + 1))))] ?_
 refine xl_eqS (t' := [(1,.p 0 0),(4,.v (.int .i64 (windowOf r))),(5,.v (.int .i64 (x.off + (x.text.size : Int)))),(45,.v (.slice Arh r.held.length Crh)),(46,.v (.int .i64 ((r.held.length : Nat) : Int))),(47,.v (.int .i64 ((k : Int) + 1)))]) (by rw [show (IntKind.i64.wrap ((k : Int) + 1)) = ((k : Int) + 1) from wrap_id (by omega) (by omega)]) ?_
 refine kED [1,4,5,45,46,47] [] ?_
 exact ⟨⟨(k + 1,x.off + (x.text.size : Int)),⟨by omega,by omega,by omega,by rw [HK]; first | (simp [*]; done) | (simp [*]; omega) | grind⟩⟩,kF 1 0 [1,4,5,45,46,47],by show r.held.length - (k + 1) < r.held.length - k; omega⟩
 have h13p := of_decide_eq_false h13
 have hge : k = r.held.length := by simp at h13; omega
 subst hge; simp only [List.drop_length,heldOkS,heldOk] at HK
 refine xw_exit ?_
 refine kQ ?_
 refine kRD 4 [1,80] [(80,.v (.bool (!r.done)))] ?_
 refine kP 80 (!r.done) (fun h17 => ?_) (fun h17 => ?_)
 have h17n := not_t h17
 refine kES [2] [(2,.v (.bool true))] ?_
 refine kR ?_
 exact ⟨[.bool true],by kernel_rfl,fun w' hb hf => ⟨ret_bool (show (true : Bool) = receiverOk r from by first | rfl | (rw [HR,HK]; simp [*]; done) | (rw [HR,HK]; simp [*]; omega) | (rw [HR,HK]; grind [rcvPost]) | (simp [receiverOk,rcvPre, *]; done) | (simp [receiverOk,rcvPre, *]; omega) | grind [receiverOk,rcvPre]),hb⟩⟩
 have h17n := not_f h17
 refine kRD 5 [1,80,85] [(80,.v (.bool false)),(85,.v (.bool (((r.held.length : Nat) : Int) == 0)))] ?_
 refine kP 85 (((r.held.length : Nat) : Int) == 0) (fun h18 => ?_) (fun h18 => ?_)
 have h18p := eqT h18
 refine kES [2] [(2,.v (.bool (r.fin == (-1))))] ?_
 refine kR ?_
 exact ⟨[.bool (r.fin == (-1))],by kernel_rfl,fun w' hb hf => ⟨ret_bool (show (r.fin == (-1) : Bool) = receiverOk r from by first | rfl | (rw [HR,HK]; simp [*]; done) | (rw [HR,HK]; simp [*]; omega) | (rw [HR,HK]; grind [rcvPost]) | (simp [receiverOk,rcvPre, *]; done) | (simp [receiverOk,rcvPre, *]; omega) | grind [receiverOk,rcvPre]),hb⟩⟩
 have h18p := eqF h18
 refine kES [2] [(2,.v (.bool false))] ?_
 refine kR ?_
 exact ⟨[.bool false],by kernel_rfl,fun w' hb hf => ⟨ret_bool (show (false : Bool) = receiverOk r from by first | rfl | (rw [HR,HK]; simp [*]; done) | (rw [HR,HK]; simp [*]; omega) | (rw [HR,HK]; grind [rcvPost]) | (simp [receiverOk,rcvPre, *]; done) | (simp [receiverOk,rcvPre, *]; omega) | grind [receiverOk,rcvPre]),hb⟩⟩
@[simp] theorem inB18_1 : inB 1 1 8 = true := rfl
@[simp] theorem inB18_2 : inB 2 1 8 = true := rfl
@[simp] theorem inB18_3 : inB 3 1 8 = true := rfl
@[simp] theorem inB18_4 : inB 4 1 8 = true := rfl
@[simp] theorem inB18_5 : inB 5 1 8 = true := rfl
@[simp] theorem inB18_6 : inB 6 1 8 = true := rfl
@[simp] theorem inB18_7 : inB 7 1 8 = true := rfl
@[simp] theorem inB18_8 : inB 8 1 8 = true := rfl
theorem yClonePiece_c (a : List Pce) (aV : Value) (w : World) (hl_aV : Sl w aV 2 (a.map pceCells)) (hkn : a.length ≤ 1048576) (B : Nat) (hB : B ≤ w.heap.size) : Calls Try.prog 81 #[aV] w fun e w' => XRs w w' e (α := Option Addr × Nat) (fun y => .slice y.1 a.length y.2) (fun y => [ownF B (.slice y.1 a.length y.2) 2 (a.map pceCells)]) := by
 obtain ⟨Aa,Ca,hva⟩ := hl_aV.form
 rw [List.length_map] at hva; subst hva
 have hna := hl_aV.len; rw [List.length_map] at hna
 have hqa := Sl.capLe hl_aV
 have hnil := fun h => Sl.nil_of h hl_aV
 refine x_callsA (args := [.slice Aa a.length Ca]) (fn := Try.f81) [slF (.slice Aa a.length Ca) 2 (a.map pceCells)] Try.func81 rfl Try.ntmps81 rfl (by simp only [List.mem_cons,List.not_mem_nil,or_false,forall_eq_or_imp,forall_eq]; exact ⟨rfl,hl_aV⟩) ?_
 refine kQ ?_
 refine kEF [0] ⟨[(0,.v (.slice Aa a.length Ca))],[],[],[slF (.slice Aa a.length Ca) 2 (a.map pceCells)]⟩ ?_
 refine kS ?_
 refine kQ ?_
 refine kOS 1 [0,3] [(0,.v (.slice Aa a.length Ca)),(3,.v (.slice Aa a.length Ca))] (.bool Aa.isNone) rfl (fun _ _ _ ww hr => act_nilEq (e := 81) hr.1 rfl (by kernel_rfl) rfl rfl ww) ?_
 refine kES [0,4] [(0,.v (.slice Aa a.length Ca)),(4,.v (.bool Aa.isNone))] ?_
 refine kC (Aa.isNone) (fun h1 => ?_) (fun h1 => ?_)
 refine kQ ?_
 refine kES [2] [(2,.v (.slice none 0 0))] ?_
 refine kR ?_
 have hmod : a = [] := by exact hnil (by assumption)
 exact ⟨[.slice none 0 0],by kernel_rfl,fun w' hb hf ha => by rw [hmod]; exact xo1 ((none,0)) rfl rfl ⟨.inl ⟨rfl,_,rfl⟩,fun b hb => (hb.1 rfl).elim⟩ hb⟩
 refine kK ?_
 refine kQ ?_
 refine kHS 0 [0] [(0,.v (.slice Aa a.length Ca))] rfl (hv_build (e := 81) (K := 2) (bytes := 24) [] rfl (by kernel_rfl) (by kernel_rfl) (by kernel_rfl) (by kernel_rfl) (by kernel_rfl) (rs := ([] : List Pce).map pceCells) rfl) ?_
 intro g2
 refine kHS 1 [5,6] [(5,.v (.slice (some ⟨g2,0,none⟩) 0 0)),(6,.v (.slice Aa a.length Ca))] rfl (hv_append (e := 81) (K := 2) (bytes := 24) (i := 0) (q := a.length) (new := a.map pceCells) (rs' := a.map pceCells) rfl rfl rfl rfl (by kernel_rfl) (by kernel_rfl) (by kernel_rfl) rfl (by simp) rfl (by simp) (fun ww hf => (hf (slF (.slice Aa a.length Ca) 2 (a.map pceCells)) (by simp))) (by intro r hr; obtain ⟨x,hx,rfl⟩ := List.mem_map.1 hr; exact ⟨rfl,by simp [pceCells,Value.oneCell']⟩) (by (try simp only [List.length_map,List.length_append,List.length_cons,List.length_nil,List.length_take,List.length_drop,maxLen]); omega) (by (try simp only [List.length_map,List.length_append,List.length_cons,List.length_nil,List.length_take,List.length_drop,maxLen]); omega)) ?_
 rintro ⟨v3a,v3c⟩
 refine kES [2] [(2,.v (.slice v3a a.length v3c))] ?_
 refine kR ?_
 exact ⟨[.slice v3a a.length v3c],by kernel_rfl,fun w' hb hf ha => by exact xo1 ((v3a,v3c)) rfl rfl (pR (hf _ m0) hB) hb⟩
theorem yl18Copy_c (r : Rcv) (r_heldV : Value) (w : World) (hl_r_heldV : Sl w r_heldV 2 (r.held.map pceCells)) (hkn : r.held.length ≤ 1048576) (B : Nat) (hB : B ≤ w.heap.size) : Calls Try.prog 32 #[.agg (rcvL r r_heldV).toArray] w fun e w' => XRs w w' e (α := Option Addr × Nat) (fun y => .agg (rcvL r (.slice y.1 r.held.length y.2)).toArray) (fun y => [rowF B 81 2 (.slice y.1 r.held.length y.2) (r.held.map pceCells)]) := by
 obtain ⟨Arh,Crh,hvrh⟩ := hl_r_heldV.form
 rw [List.length_map] at hvrh; subst hvrh
 have hnrh := hl_r_heldV.len; rw [List.length_map] at hnrh
 have hqrh := Sl.capLe hl_r_heldV
 refine x_callsA (args := [.agg (rcvL r (.slice Arh r.held.length Crh)).toArray]) (fn := Try.f32) [slF (.slice Arh r.held.length Crh) 2 (r.held.map pceCells)] Try.func32 rfl Try.ntmps32 rfl (by simp only [List.mem_cons,List.not_mem_nil,or_false,forall_eq_or_imp,forall_eq]; exact ⟨rfl,hl_r_heldV⟩) ?_
 refine kQ ?_
 refine kEF [1,2] ⟨[(1,.p 0 0),(2,.p 1 0)],[⟨28,rcvL r (.slice Arh r.held.length Crh)⟩,⟨28,rcvZ⟩],[],[slF (.slice Arh r.held.length Crh) 2 (r.held.map pceCells)]⟩ ?_
 refine kQ ?_
 refine kHS 0 [1,2] [(1,.p 0 0),(2,.p 1 0)] rfl (hv_build (e := 81) (K := 2) (bytes := 24) [] rfl (by kernel_rfl) (by kernel_rfl) (by kernel_rfl) (by kernel_rfl) (by kernel_rfl) (rs := ([] : List Pce).map pceCells) rfl) ?_
 intro g1
 refine kHS 2 [1,2,3,5] [(1,.p 0 0),(2,.p 1 0),(3,.v (.slice (some ⟨g1,0,none⟩) 0 0)),(5,.v (.slice Arh r.held.length Crh))] rfl (hv_append (e := 81) (K := 2) (bytes := 24) (i := 0) (q := r.held.length) (new := r.held.map pceCells) (rs' := r.held.map pceCells) rfl rfl rfl rfl (by kernel_rfl) (by kernel_rfl) (by kernel_rfl) rfl (by simp) rfl (by simp) (fun ww hf => (hf (slF (.slice Arh r.held.length Crh) 2 (r.held.map pceCells)) (by simp))) (by intro r hr; obtain ⟨x,hx,rfl⟩ := List.mem_map.1 hr; exact ⟨rfl,by simp [pceCells,Value.oneCell']⟩) (by (try simp only [List.length_map,List.length_append,List.length_cons,List.length_nil,List.length_take,List.length_drop,maxLen]); omega) (by (try simp only [List.length_map,List.length_append,List.length_cons,List.length_nil,List.length_take,List.length_drop,maxLen]); omega)) ?_
 rintro ⟨v2a,v2c⟩
 refine kEF [1,2] ⟨[(1,.p 0 0),(2,.p 1 0)],[⟨28,rcvL r (.slice v2a r.held.length v2c)⟩,⟨28,rcvZ⟩],[],[rowF w.heap.size 81 2 (.slice v2a r.held.length v2c) (r.held.map pceCells),slF (.slice Arh r.held.length Crh) 2 (r.held.map pceCells)]⟩ ?_
 refine kQ ?_
 refine kEF [2] ⟨[(2,.p 1 0)],[⟨28,rcvL r (.slice v2a r.held.length v2c)⟩,⟨28,rcvL r (.slice v2a r.held.length v2c)⟩],[],[rowF w.heap.size 81 2 (.slice v2a r.held.length v2c) (r.held.map pceCells),slF (.slice Arh r.held.length Crh) 2 (r.held.map pceCells)]⟩ ?_
 refine kR ?_
 exact ⟨[.agg (rcvL r (.slice v2a r.held.length v2c)).toArray],by kernel_rfl,fun w' hb hf ha => by exact xo1 ((v2a,v2c)) rfl rfl (pW (hf _ m0) hB) hb⟩
theorem ycloneReceiver_c (r : Rcv) (r_heldV : Value) (w : World) (hl_r_heldV : Sl w r_heldV 2 (r.held.map pceCells)) (hkn : r.held.length ≤ 1048576) (B : Nat) (hB : B ≤ w.heap.size) : Calls Try.prog 40 #[.agg (rcvL r r_heldV).toArray] w fun e w' => XRs w w' e (α := Option Addr × Nat) (fun y => .agg (rcvL r (.slice y.1 r.held.length y.2)).toArray) (fun y => [ownF B (.slice y.1 r.held.length y.2) 2 (r.held.map pceCells)]) := by
 obtain ⟨Arh,Crh,hvrh⟩ := hl_r_heldV.form
 rw [List.length_map] at hvrh; subst hvrh
 have hnrh := hl_r_heldV.len; rw [List.length_map] at hnrh
 have hqrh := Sl.capLe hl_r_heldV
 refine x_callsA (args := [.agg (rcvL r (.slice Arh r.held.length Crh)).toArray]) (fn := Try.f40) [slF (.slice Arh r.held.length Crh) 2 (r.held.map pceCells)] Try.func40 rfl Try.ntmps40 rfl (by simp only [List.mem_cons,List.not_mem_nil,or_false,forall_eq_or_imp,forall_eq]; exact ⟨rfl,hl_r_heldV⟩) ?_
 refine kQ ?_
 refine kEF [1,2] ⟨[(1,.p 0 0),(2,.p 1 0)],[⟨28,rcvL r (.slice Arh r.held.length Crh)⟩,⟨28,rcvZ⟩],[],[slF (.slice Arh r.held.length Crh) 2 (r.held.map pceCells)]⟩ ?_
 refine kQ ?_
 refine kCS 2 [1,2,4] [(1,.p 0 0),(2,.p 1 0),(4,.v (.slice Arh r.held.length Crh))] 81 [.slice Arh r.held.length Crh] (some 5) rfl (xc_r fun ww hw hf => yClonePiece_c r.held (.slice Arh r.held.length Crh) ww (hf _ m0) (by assumption) w.heap.size hw) ?_
 rintro ⟨v1a,v1c⟩
 refine kEF [1,2] ⟨[(1,.p 0 0),(2,.p 1 0)],[⟨28,rcvL r (.slice v1a r.held.length v1c)⟩,⟨28,rcvZ⟩],[],[ownF w.heap.size (.slice v1a r.held.length v1c) 2 (r.held.map pceCells),slF (.slice Arh r.held.length Crh) 2 (r.held.map pceCells)]⟩ ?_
 refine kQ ?_
 refine kEF [2] ⟨[(2,.p 1 0)],[⟨28,rcvL r (.slice v1a r.held.length v1c)⟩,⟨28,rcvL r (.slice v1a r.held.length v1c)⟩],[],[ownF w.heap.size (.slice v1a r.held.length v1c) 2 (r.held.map pceCells),slF (.slice Arh r.held.length Crh) 2 (r.held.map pceCells)]⟩ ?_
 refine kR ?_
 exact ⟨[.agg (rcvL r (.slice v1a r.held.length v1c)).toArray],by kernel_rfl,fun w' hb hf ha => by exact xo1 ((v1a,v1c)) rfl rfl (pO (hf _ m0) hB) hb⟩
theorem yl18Free_c (l : List Int) (lV : Value) (m : Nat) (w : World) (hl_lV : Sl w lV 1 (l.map intRow)) (hm : m ≤ l.length) : Calls Try.prog 37 #[lV, .int .i64 (m : Int)] w fun e w' => e = .returned (.bool (freeFrom l m)) ∧ Below w.heap.size w w' := by
 obtain ⟨Al,Cl,hvl⟩ := hl_lV.form
 rw [List.length_map] at hvl; subst hvl
 have hnl := hl_lV.len; rw [List.length_map] at hnl
 have hql := Sl.capLe hl_lV
 refine x_calls (args := [.slice Al l.length Cl,.int .i64 (m : Int)]) (fn := Try.f37) [slF (.slice Al l.length Cl) 1 (l.map intRow)] Try.func37 rfl Try.ntmps37 rfl (by simp only [List.mem_cons,List.not_mem_nil,or_false,forall_eq_or_imp,forall_eq]; exact ⟨rfl,hl_lV⟩) ?_
 refine kQ ?_
 refine kEF [0,1] ⟨[(0,.v (.slice Al l.length Cl)),(1,.v (.int .i64 (m : Int)))],[],[],[slF (.slice Al l.length Cl) 1 (l.map intRow)]⟩ ?_
 refine kS ?_
 refine kQ ?_
 refine kES [0,5] [(0,.v (.slice Al l.length Cl)),(5,.v (.int .i64 (m : Int)))] ?_
 refine xw_block ?_
 refine xw_loopW (α := {x : Nat // (fun (k : Nat) => k ≤ l.length ∧ freeFrom l m = freeFrom l k) x}) (fun x => (fun (k : Nat) => (⟨[(0,.v (.slice Al l.length Cl)),(5,.v (.int .i64 (k : Int)))],[],[],[slF (.slice Al l.length Cl) 1 (l.map intRow)]⟩ : St)) x.1) (fun x => l.length - x.1) ⟨(m),⟨hm,rfl⟩⟩ (kF 0 0 [0,5]) ?_
 rintro ⟨k,hk,HK⟩
 try dsimp only
 try dsimp only at hk HK
 refine kS ?_
 refine kQ ?_
 refine kES [0,5,10] [(0,.v (.slice Al l.length Cl)),(5,.v (.int .i64 (k : Int))),(10,.v (.bool (decide ((k : Int) < ((l.length : Nat) : Int)))))] ?_
 refine kC (decide ((k : Int) < ((l.length : Nat) : Int))) (fun h1 => ?_) (fun h1 => ?_)
 have h1p := of_decide_eq_true h1
 have hlt : k < l.length := by simpa using h1
 obtain ⟨x,hx⟩ : ∃ x,l[k]? = some x := ⟨_,List.getElem?_eq_getElem hlt⟩
 have hfs := freeFrom_step hx
 refine kK ?_
 refine kS ?_
 refine xw_block ?_
 refine kQ ?_
 refine xl_indexS (kd := .i64) (T := 72) (e := 3) (K := 1) 2 [0,5,13,14] [(0,.v (.slice Al l.length Cl)),(5,.v (.int .i64 (k : Int))),(13,.v (.slice Al l.length Cl)),(14,.v (.int .i64 (k : Int)))] k [.int .i64 x] (slF (.slice Al l.length Cl) 1 (l.map intRow)) (by kernel_rfl) rfl (by kernel_rfl) rfl rfl (by kernel_rfl) (by kernel_rfl) (by kernel_rfl) (by kernel_rfl) hlt (by simp) (fun w h => h) (fun b h => h) (by simp only [List.getElem?_map,hx]; rfl) ?_
 refine kES [0,5,17] [(0,.v (.slice Al l.length Cl)),(5,.v (.int .i64 (k : Int))),(17,.v (.bool (decide (x ≥ 0))))] ?_
 refine kC (decide (x ≥ 0)) (fun h2 => ?_) (fun h2 => ?_)
 have h2p := of_decide_eq_true h2
 refine kQ ?_
 refine kES [4] [(4,.v (.bool false))] ?_
 refine kR ?_
 have hmod : freeFrom l m = false := by first | (rw [HK]; exact hfe) | (rw [HK,hfs]; simp; omega) | (rw [HK,hfs]; simp [*])
 exact ⟨[.bool false],by kernel_rfl,fun w' hb hf => by rw [hmod]; exact ⟨rfl,hb⟩⟩
 have h2p := of_decide_eq_false h2
 refine kK ?_
 refine kG ?_
 refine kRS 3 [0,5] [(0,.v (.slice Al l.length Cl)),(5,.v (.int .i64 (IntKind.i64.wrap ((k : Int) + 1))))] ?_
 refine xl_eqS (t' := [(0,.v (.slice Al l.length Cl)),(5,.v (.int .i64 ((k : Int) + 1)))]) (by rw [show (IntKind.i64.wrap ((k : Int) + 1)) = ((k : Int) + 1) from wrap_id (by omega) (by omega)]) ?_
 refine kES [0,5] [(0,.v (.slice Al l.length Cl)),(5,.v (.int .i64 ((k : Int) + 1)))] ?_
 exact ⟨⟨(k + 1),⟨by omega,by rw [HK,hfs]; simp; omega⟩⟩,kF 0 0 [0,5],by show l.length - (k + 1) < l.length - k; omega⟩
 have h1p := of_decide_eq_false h1
 have hge : k = l.length := by simp at h1; omega
 have hfe := freeFrom_end l
 subst hge
 refine xw_exit ?_
 refine kQ ?_
 refine kES [4] [(4,.v (.bool true))] ?_
 refine kR ?_
 have hmod : freeFrom l m = true := by first | (rw [HK]; exact hfe) | (rw [HK,hfs]; simp; omega) | (rw [HK,hfs]; simp [*])
 exact ⟨[.bool true],by kernel_rfl,fun w' hb hf => by rw [hmod]; exact ⟨rfl,hb⟩⟩
theorem yl18Slots_c (r : Rcv) (r_heldV : Value) (w : World) (hl_r_heldV : Sl w r_heldV 2 (r.held.map pceCells)) (hkn : r.held.length ≤ 1048576) (hheld : ∀ p ∈ r.held, 0 < p.off ∧ p.off + (p.text.size : Int) ≤ 32) (B : Nat) (hB : B ≤ w.heap.size) : Calls Try.prog 35 #[.agg (rcvL r r_heldV).toArray] w fun e w' => XRs w w' e (α := Option Addr × Nat) (fun y => .slice y.1 ((slotsOf r).length) y.2) (fun y => [rowF B 3 1 (.slice y.1 ((slotsOf r).length) y.2) ((slotsOf r).map intRow)]) := by
 obtain ⟨Arh,Crh,hvrh⟩ := hl_r_heldV.form
 rw [List.length_map] at hvrh; subst hvrh
 have hnrh := hl_r_heldV.len; rw [List.length_map] at hnrh
 have hqrh := Sl.capLe hl_r_heldV
 refine x_callsA (args := [.agg (rcvL r (.slice Arh r.held.length Crh)).toArray]) (fn := Try.f35) [slF (.slice Arh r.held.length Crh) 2 (r.held.map pceCells)] Try.func35 rfl Try.ntmps35 rfl (by simp only [List.mem_cons,List.not_mem_nil,or_false,forall_eq_or_imp,forall_eq]; exact ⟨rfl,hl_r_heldV⟩) ?_
 refine kQ ?_
 refine kEF [1] ⟨[(1,.p 0 0)],[⟨28,rcvL r (.slice Arh r.held.length Crh)⟩],[],[slF (.slice Arh r.held.length Crh) 2 (r.held.map pceCells)]⟩ ?_
 refine kQ ?_
 refine kHS 0 [1] [(1,.p 0 0)] rfl (hv_make (kl := .i64) (kc := .i64) (e := 3) (K := 1) (bytes := 8) (m := 33) (z := .int .i64 0) (rs := (List.replicate 33 0).map intRow) rfl (by kernel_rfl) (by kernel_rfl) (by kernel_rfl) (by kernel_rfl) (by (try simp only [List.length_map,List.length_append,List.length_cons,List.length_nil,List.length_take,List.length_drop,maxLen]); omega) (by (try simp only [List.length_map,List.length_append,List.length_cons,List.length_nil,List.length_take,List.length_drop,maxLen]); omega) (by rw [List.map_replicate]; rfl)) ?_
 intro g1
 refine kED [1,3] [(3,.v (.slice (some ⟨g1,0,none⟩) 33 33))] ?_
 refine kS ?_
 refine kQ ?_
 refine kED [1,3,4] [(4,.v (.int .i64 0))] ?_
 refine xw_block ?_
 refine xw_loopW (α := {x : Nat × List Int // (fun (k : Nat) (l : List Int) => k ≤ 33 ∧ l.length = 33 ∧ l.take k = List.replicate k (-1)) x.1 x.2}) (fun x => (fun (k : Nat) (l : List Int) => (⟨[(1,.p 0 0),(3,.v (.slice (some ⟨g1,0,none⟩) 33 33)),(4,.v (.int .i64 (k : Int)))],[⟨28,rcvL r (.slice Arh r.held.length Crh)⟩],[],[rowF w.heap.size 3 1 (.slice (some ⟨g1,0,none⟩) 33 33) (l.map intRow),slF (.slice Arh r.held.length Crh) 2 (r.held.map pceCells)]⟩ : St)) x.1.1 x.1.2) (fun x => (fun (k : Nat) (l : List Int) => 33 - k) x.1.1 x.1.2) ⟨(0,(List.replicate 33 0)),⟨Nat.zero_le _,by simp,rfl⟩⟩ ((wk_pick [0,1] [rowF w.heap.size 3 1 (.slice (some ⟨g1,0,none⟩) 33 33) ((List.replicate 33 0).map intRow),slF (.slice Arh r.held.length Crh) 2 (r.held.map pceCells)] (by kernel_rfl) (by kernel_rfl)).trans <| kF 1 0 [1,3,4]) ?_
 rintro ⟨⟨k,l⟩,hk,hl,HK⟩
 try dsimp only
 try dsimp only at hk hl HK
 refine kS ?_
 refine kQ ?_
 refine kED [1,3,4,11] [(11,.v (.bool (decide ((k : Int) < 33))))] ?_
 refine kC (decide ((k : Int) < 33)) (fun h2 => ?_) (fun h2 => ?_)
 have h2p := of_decide_eq_true h2
 have hlt : k < 33 := by simp at h2; omega
 obtain ⟨x0,hx0⟩ : ∃ x,l[k]? = some x := ⟨_,List.getElem?_eq_getElem (by omega)⟩
 refine kK ?_
 refine kS ?_
 refine xw_block ?_
 refine kG ?_
 refine kOD 2 [1,3,4,14,15] [(14,.v (.slice (some ⟨g1,0,none⟩) 33 33)),(15,.v (.int .i64 (k : Int)))] (.pointer (some ⟨g1,k * 1,none⟩)) rfl (fun _ _ _ ww hr => act_ix (kd := .i64) (T := 72) (e := 3) (K := 1) (g := g1) (N := 33) (cap := 33) k rfl hr.1 rfl rfl (by kernel_rfl) (by kernel_rfl) (by kernel_rfl) hlt ww) ?_
 refine xl_hs 0 [1,3,4,16] ⟨[(1,.p 0 0),(3,.v (.slice (some ⟨g1,0,none⟩) 33 33)),(4,.v (.int .i64 (k : Int))),(16,.v (.pointer (some ⟨g1,k * 1,none⟩)))],[⟨28,rcvL r (.slice Arh r.held.length Crh)⟩],[],[rowF w.heap.size 3 1 (.slice (some ⟨g1,0,none⟩) 33 33) (l.map intRow),slF (.slice Arh r.held.length Crh) 2 (r.held.map pceCells)]⟩ (by kernel_rfl) rfl (by kernel_rfl) rfl (by kernel_rfl) (HSg.hs (hs_stR (g := g1) (B := w.heap.size) (e := 3) (K := 1) (N := 33) (cap := 33) (rs := (l.map intRow)) (rs' := (l.set k (-1)).map intRow) (v := (.int .i64 (-1))) (i := 0) (off := k * 1) k 0 [.int .i64 x0] (row' := [.int .i64 (-1)]) rfl rfl (by kernel_rfl) rfl (by kernel_rfl) (by kernel_rfl) (by kernel_rfl) (by kernel_rfl) (Nat.le_refl _) (by simp only [List.getElem?_map,hx0]; rfl) (by kernel_rfl) rfl (by rw [List.map_set]; rfl))) ?_
 refine kED [1,3,4] [] ?_
 refine kG ?_
 refine kRS 3 [1,3,4] [(1,.p 0 0),(3,.v (.slice (some ⟨g1,0,none⟩) 33 33)),(4,.v (.int .i64 (IntKind.i64.wrap ((k : Int) + 1))))] ?_
 refine xl_eqS (t' := [(1,.p 0 0),(3,.v (.slice (some ⟨g1,0,none⟩) 33 33)),(4,.v (.int .i64 ((k : Int) + 1)))]) (by rw [show (IntKind.i64.wrap ((k : Int) + 1)) = ((k : Int) + 1) from wrap_id (by omega) (by omega)]) ?_
 refine kED [1,3,4] [] ?_
 exact ⟨⟨(k + 1,l.set k (-1)),⟨hlt,(by rw [List.length_set]; exact hl),init_step HK (by omega)⟩⟩,kF 1 0 [1,3,4],by show (fun (k : Nat) (l : List Int) => 33 - k) (k + 1) (l.set k (-1)) < 33 - k; (dsimp only; omega)⟩
 have h2p := of_decide_eq_false h2
 have hk33 : k = 33 := by simp at h2; omega
 have hl1 : l = List.replicate 33 (-1) := by rw [hk33,← hl,List.take_length] at HK; rw [HK,hl]
 refine xw_exit ?_
 refine kS ?_
 refine kQ ?_
 refine kED [1,3,5] [(5,.v (.int .i64 0))] ?_
 refine xw_block ?_
 refine xw_loopW (α := {x : Nat × List Int // (fun (i : Nat) (l2 : List Int) => i ≤ r.held.length ∧ l2.length = 33 ∧ putHeld l r.held = putHeld l2 (r.held.drop i)) x.1 x.2}) (fun x => (fun (i : Nat) (l2 : List Int) => (⟨[(1,.p 0 0),(3,.v (.slice (some ⟨g1,0,none⟩) 33 33)),(5,.v (.int .i64 (i : Int)))],[⟨28,rcvL r (.slice Arh r.held.length Crh)⟩],[],[rowF w.heap.size 3 1 (.slice (some ⟨g1,0,none⟩) 33 33) (l2.map intRow),slF (.slice Arh r.held.length Crh) 2 (r.held.map pceCells)]⟩ : St)) x.1.1 x.1.2) (fun x => (fun (i : Nat) (l2 : List Int) => r.held.length - i) x.1.1 x.1.2) ⟨(0,l),⟨Nat.zero_le _,hl,rfl⟩⟩ ((wk_pick [0,1] [rowF w.heap.size 3 1 (.slice (some ⟨g1,0,none⟩) 33 33) (l.map intRow),slF (.slice Arh r.held.length Crh) 2 (r.held.map pceCells)] (by kernel_rfl) (by kernel_rfl)).trans <| kF 1 0 [1,3,5]) ?_
 rintro ⟨⟨i,l2⟩,hi,hl2,H2⟩
 try dsimp only
 try dsimp only at hi hl2 H2
 refine kS ?_
 refine kQ ?_
 refine kED [1,3,5,21] [(21,.v (.bool (decide ((i : Int) < ((r.held.length : Nat) : Int)))))] ?_
 refine kC (decide ((i : Int) < ((r.held.length : Nat) : Int))) (fun h3 => ?_) (fun h3 => ?_)
 have h3p := of_decide_eq_true h3
 have hlt2 : i < r.held.length := by simpa using h3
 obtain ⟨pp,hx⟩ : ∃ p,r.held[i]? = some p := ⟨_,List.getElem?_eq_getElem hlt2⟩
 have hin := hheld pp (List.mem_of_getElem? hx)
 refine kK ?_
 refine kS ?_
 refine xw_block ?_
 refine kQ ?_
 refine kED [1,3,5,6] [(6,.v (.int .i64 0))] ?_
 refine xw_block ?_
 refine xw_loopW (α := {x : Nat × List Int // (fun (q : Nat) (l3 : List Int) => q ≤ pp.text.size ∧ l3.length = 33 ∧ l3 = putText l2 pp.off.toNat pp.text q) x.1 x.2}) (fun x => (fun (q : Nat) (l3 : List Int) => (⟨[(1,.p 0 0),(3,.v (.slice (some ⟨g1,0,none⟩) 33 33)),(5,.v (.int .i64 (i : Int))),(6,.v (.int .i64 (q : Int)))],[⟨28,rcvL r (.slice Arh r.held.length Crh)⟩],[],[rowF w.heap.size 3 1 (.slice (some ⟨g1,0,none⟩) 33 33) (l3.map intRow),slF (.slice Arh r.held.length Crh) 2 (r.held.map pceCells)]⟩ : St)) x.1.1 x.1.2) (fun x => (fun (q : Nat) (l3 : List Int) => pp.text.size - q) x.1.1 x.1.2) ⟨(0,l2),⟨Nat.zero_le _,hl2,rfl⟩⟩ ((wk_pick [0,1] [rowF w.heap.size 3 1 (.slice (some ⟨g1,0,none⟩) 33 33) (l2.map intRow),slF (.slice Arh r.held.length Crh) 2 (r.held.map pceCells)] (by kernel_rfl) (by kernel_rfl)).trans <| kF 1 0 [1,3,5,6]) ?_
 rintro ⟨⟨q,l3⟩,hq,hl3,H3⟩
 try dsimp only
 try dsimp only at hq hl3 H3
 refine kS ?_
 refine kQ ?_
 refine xl_indexD (kd := .i64) (T := 26) (e := 81) (K := 2) 4 [1,3,5,6,24,26,27] [(24,.v (.int .i64 (q : Int))),(26,.v (.slice Arh r.held.length Crh)),(27,.v (.int .i64 (i : Int)))] i [.int .i64 pp.off,.string pp.text] (slF (.slice Arh r.held.length Crh) 2 (r.held.map pceCells)) (by kernel_rfl) rfl (by kernel_rfl) rfl rfl (by kernel_rfl) (by kernel_rfl) (by kernel_rfl) (by kernel_rfl) hlt2 (by simp) (fun w h => h) (fun b h => h) (by simp only [List.getElem?_map,hx]; rfl) ?_
 refine kED [1,3,5,6,32] [(32,.v (.bool (decide ((q : Int) < (pp.text.size : Int)))))] ?_
 refine kC (decide ((q : Int) < (pp.text.size : Int))) (fun h4 => ?_) (fun h4 => ?_)
 have h4p := of_decide_eq_true h4
 have hlt3 : q < pp.text.size := by simpa using h4
 have hbr := byteAt_rng pp.text q
 obtain ⟨x3,hx3⟩ : ∃ x,l3[pp.off.toNat + q]? = some x := ⟨_,List.getElem?_eq_getElem (by omega)⟩
 refine kK ?_
 refine kS ?_
 refine xw_block ?_
 refine xw_wk (wkf (s' := ⟨[(1,.p 0 0),(3,.v (.slice (some ⟨g1,0,none⟩) 33 33)),(5,.v (.int .i64 (i : Int))),(6,.v (.int .i64 (q : Int))),(32,.v (.bool (decide ((q : Int) < (pp.text.size : Int)))))],[⟨28,rcvL r (.slice Arh r.held.length Crh)⟩],[],[rowF w.heap.size 3 1 (.slice (some ⟨g1,0,none⟩) 33 33) (l3.map intRow),slF (.slice Arh r.held.length Crh) 2 (r.held.map pceCells)]⟩) 1 0 [1,3,5,6,32] (by kernel_rfl)) ?_
 refine xws_start ?_
 refine xws_row (K := 2) (j := i) [.int .i64 pp.off,.string pp.text] (slF (.slice Arh r.held.length Crh) 2 (r.held.map pceCells)) (fun _ _ h => h) (by simp) (fun w h => h) (fun b h => h) (by simp only [List.getElem?_map,hx]; rfl) (fun bq5 offq5 hAq5 => ?_)
 refine xws_know (ψ := bq5 ≠ g1) (fun _ _ _ _ hr => row_ne hr 0 1 rfl rfl rfl (by decide) hAq5 i [.int .i64 pp.off,.string pp.text] (by simp only [List.getElem?_map,hx]; rfl)) (fun hneq5g1 => ?_)
 refine xws_row (K := 2) (j := i) [.int .i64 pp.off,.string pp.text] (slF (.slice Arh r.held.length Crh) 2 (r.held.map pceCells)) (fun _ _ h => h) (by simp) (fun w h => h) (fun b h => h) (by simp only [List.getElem?_map,hx]; rfl) (fun bq6 offq6 hAq6 => ?_)
 refine xws_know (ψ := bq6 ≠ g1) (fun _ _ _ _ hr => row_ne hr 0 1 rfl rfl rfl (by decide) hAq6 i [.int .i64 pp.off,.string pp.text] (by simp only [List.getElem?_map,hx]; rfl)) (fun hneq6g1 => ?_)
 refine xws_regionE [] (by kernel_rfl) (fun ρ σ hq7 => ?_)
 refine kTS [0,1,2,3,7,9,10,11,15] [50,46,45,42,38,37,35,1,3,5,6] 11 [(50,.v (.int .i64 (q : Int))),(46,.v (.int .i64 (i : Int))),(45,.v (.slice Arh r.held.length Crh)),(42,.v (.int .i64 (q : Int))),(38,.v (.int .i64 (i : Int))),(37,.v (.slice Arh r.held.length Crh)),(35,.v (.slice (some ⟨g1,0,none⟩) 33 33)),(1,.p 0 0),(3,.v (.slice (some ⟨g1,0,none⟩) 33 33)),(5,.v (.int .i64 (i : Int))),(6,.v (.int .i64 (q : Int)))] ?_
 refine xe_takeI (kd := .i64) (T := 26) (e := 81) (K := 2) (j := i) (A := Arh) (len := r.held.length) (cap := Crh) 4 0 _ rfl (by kernel_rfl) (by kernel_rfl) (by kernel_rfl) (fun _ _ h => h) (by kernel_rfl) rfl rfl (by kernel_rfl) (by kernel_rfl) (by kernel_rfl) (by kernel_rfl) hlt2 hAq5 hq7.1.2 (by kernel_rfl) rfl ?_
 refine kTS [5,6,8] [43,50,46,45,35,1,3,5,6] 7 [(43,.v (.int .i64 (IntKind.i64.wrap (pp.off + (q : Int))))),(50,.v (.int .i64 (q : Int))),(46,.v (.int .i64 (i : Int))),(45,.v (.slice Arh r.held.length Crh)),(35,.v (.slice (some ⟨g1,0,none⟩) 33 33)),(1,.p 0 0),(3,.v (.slice (some ⟨g1,0,none⟩) 33 33)),(5,.v (.int .i64 (i : Int))),(6,.v (.int .i64 (q : Int)))] ?_
 refine xe_eqS (t := [(43,.v (.int .i64 (IntKind.i64.wrap (pp.off + (q : Int))))),(50,.v (.int .i64 (q : Int))),(46,.v (.int .i64 (i : Int))),(45,.v (.slice Arh r.held.length Crh)),(35,.v (.slice (some ⟨g1,0,none⟩) 33 33)),(1,.p 0 0),(3,.v (.slice (some ⟨g1,0,none⟩) 33 33)),(5,.v (.int .i64 (i : Int))),(6,.v (.int .i64 (q : Int)))]) (t' := [(43,.v (.int .i64 ((pp.off.toNat + q : Nat) : Int))),(50,.v (.int .i64 (q : Int))),(46,.v (.int .i64 (i : Int))),(45,.v (.slice Arh r.held.length Crh)),(35,.v (.slice (some ⟨g1,0,none⟩) 33 33)),(1,.p 0 0),(3,.v (.slice (some ⟨g1,0,none⟩) 33 33)),(5,.v (.int .i64 (i : Int))),(6,.v (.int .i64 (q : Int)))]) (by rw [show (IntKind.i64.wrap (pp.off + (q : Int))) = ((pp.off.toNat + q : Nat) : Int) from by rw [wrap_id (by omega) (by omega)]; omega]) ?_
 refine xe_takeI (kd := .i64) (T := 26) (e := 81) (K := 2) (j := i) (A := Arh) (len := r.held.length) (cap := Crh) 12 1 _ rfl (by kernel_rfl) (by kernel_rfl) (by kernel_rfl) (fun _ _ h => h) (by kernel_rfl) rfl rfl (by kernel_rfl) (by kernel_rfl) (by kernel_rfl) (by kernel_rfl) hlt2 hAq6 hq7.2 (by kernel_rfl) rfl ?_
 refine kTS [13,14] [49,43,50,35,1,3,5,6] 4 [(49,.v (.string pp.text)),(43,.v (.int .i64 ((pp.off.toNat + q : Nat) : Int))),(50,.v (.int .i64 (q : Int))),(35,.v (.slice (some ⟨g1,0,none⟩) 33 33)),(1,.p 0 0),(3,.v (.slice (some ⟨g1,0,none⟩) 33 33)),(5,.v (.int .i64 (i : Int))),(6,.v (.int .i64 (q : Int)))] ?_
 refine kX 16 (.int .u8 (byteAt pp.text q)) rfl (fun _ _ ww hA => act_tix (kd := .i64) (t := pp.text) q hA rfl rfl (by kernel_rfl) (by kernel_rfl) hlt3 ww) ?_
 refine kTS [17] [52,43,35,1,3,5,6] 2 [(52,.v (.int .i64 (IntKind.i64.wrap (byteAt pp.text q)))),(43,.v (.int .i64 ((pp.off.toNat + q : Nat) : Int))),(35,.v (.slice (some ⟨g1,0,none⟩) 33 33)),(1,.p 0 0),(3,.v (.slice (some ⟨g1,0,none⟩) 33 33)),(5,.v (.int .i64 (i : Int))),(6,.v (.int .i64 (q : Int)))] ?_
 refine xe_eqS (t := [(52,.v (.int .i64 (IntKind.i64.wrap (byteAt pp.text q)))),(43,.v (.int .i64 ((pp.off.toNat + q : Nat) : Int))),(35,.v (.slice (some ⟨g1,0,none⟩) 33 33)),(1,.p 0 0),(3,.v (.slice (some ⟨g1,0,none⟩) 33 33)),(5,.v (.int .i64 (i : Int))),(6,.v (.int .i64 (q : Int)))]) (t' := [(52,.v (.int .i64 (byteAt pp.text q))),(43,.v (.int .i64 ((pp.off.toNat + q : Nat) : Int))),(35,.v (.slice (some ⟨g1,0,none⟩) 33 33)),(1,.p 0 0),(3,.v (.slice (some ⟨g1,0,none⟩) 33 33)),(5,.v (.int .i64 (i : Int))),(6,.v (.int .i64 (q : Int)))]) (by rw [show (IntKind.i64.wrap (byteAt pp.text q)) = (byteAt pp.text q) from wrap_id (by omega) (by omega)]) ?_
 refine kX 18 (.pointer (some ⟨g1,(pp.off.toNat + q) * 1,none⟩)) rfl (fun _ _ ww hA => act_ix (kd := .i64) (T := 72) (e := 3) (K := 1) (g := g1) (N := 33) (cap := 33) (pp.off.toNat + q) rfl hA rfl rfl (by kernel_rfl) (by kernel_rfl) (by kernel_rfl) (by omega) ww) ?_
 refine kA [19] ?_
 refine xs_hsG 19 g1 rfl (by kernel_rfl) (by kernel_rfl) (by kernel_rfl) (under_t under_nil) (fun kk rr hk => match kk,hk with | 0,_ => .inr (fun h => hneq5g1 ((congrArg Prod.fst hq7.1.2).symm.trans h)) | 1,_ => .inr (fun h => hneq6g1 ((congrArg Prod.fst hq7.2).symm.trans h)) | nn + 2,hk => (by simp [addRow] at hk)) (hs_stR (g := g1) (B := w.heap.size) (e := 3) (K := 1) (N := 33) (cap := 33) (rs := (l3.map intRow)) (rs' := (l3.set (pp.off.toNat + q) (byteAt pp.text q)).map intRow) (v := (.int .i64 (byteAt pp.text q))) (i := 0) (off := (pp.off.toNat + q) * 1) (pp.off.toNat + q) 0 [.int .i64 x3] (row' := [.int .i64 (byteAt pp.text q)]) rfl rfl (by kernel_rfl) rfl (by kernel_rfl) (by kernel_rfl) (by kernel_rfl) (by kernel_rfl) (Nat.le_refl _) (by simp only [List.getElem?_map,hx3]; rfl) (by kernel_rfl) rfl (by rw [List.map_set]; rfl)) ?_
 refine kZ ?_
 refine kG ?_
 refine kRS 3 [1,3,5,6] [(1,.p 0 0),(3,.v (.slice (some ⟨g1,0,none⟩) 33 33)),(5,.v (.int .i64 (i : Int))),(6,.v (.int .i64 (IntKind.i64.wrap ((q : Int) + 1))))] ?_
 refine xl_eqS (t' := [(1,.p 0 0),(3,.v (.slice (some ⟨g1,0,none⟩) 33 33)),(5,.v (.int .i64 (i : Int))),(6,.v (.int .i64 ((q : Int) + 1)))]) (by rw [show (IntKind.i64.wrap ((q : Int) + 1)) = ((q : Int) + 1) from wrap_id (by omega) (by omega)]) ?_
 refine kED [1,3,5,6] [] ?_
 exact ⟨⟨(q + 1,(l3.set (pp.off.toNat + q) (byteAt pp.text q))),⟨hlt3,(by rw [List.length_set]; exact hl3),(by rw [H3]; rfl)⟩⟩,kF 1 0 [1,3,5,6],by show (fun (q : Nat) (l3 : List Int) => pp.text.size - q) (q + 1) (l3.set (pp.off.toNat + q) (byteAt pp.text q)) < pp.text.size - q; (dsimp only; omega)⟩
 have h4p := of_decide_eq_false h4
 have hq3 : q = pp.text.size := by simp at h4; omega
 refine xw_exit ?_
 refine kG ?_
 refine kRS 3 [1,3,5] [(1,.p 0 0),(3,.v (.slice (some ⟨g1,0,none⟩) 33 33)),(5,.v (.int .i64 (IntKind.i64.wrap ((i : Int) + 1))))] ?_
 refine xl_eqS (t' := [(1,.p 0 0),(3,.v (.slice (some ⟨g1,0,none⟩) 33 33)),(5,.v (.int .i64 ((i : Int) + 1)))]) (by rw [show (IntKind.i64.wrap ((i : Int) + 1)) = ((i : Int) + 1) from wrap_id (by omega) (by omega)]) ?_
 refine kED [1,3,5] [] ?_
 exact ⟨⟨(i + 1,l3),⟨hlt2,hl3,(by rw [H2,drop_cons_of hx,putHeld,← hq3,← H3])⟩⟩,kF 1 0 [1,3,5],by show (fun (i : Nat) (l2 : List Int) => r.held.length - i) (i + 1) l3 < r.held.length - i; (dsimp only; omega)⟩
 have h3p := of_decide_eq_false h3
 have hi2 : i = r.held.length := by simp at h3; omega
 rw [hi2,List.drop_length] at H2; simp only [putHeld] at H2
 refine xw_exit ?_
 refine kQ ?_
 refine kES [2] [(2,.v (.slice (some ⟨g1,0,none⟩) 33 33))] ?_
 refine kR ?_
 have hmod : slotsOf r = l2 := by (unfold slotsOf; rw [← hl1]; exact H2)
 exact ⟨[.slice (some ⟨g1,0,none⟩) 33 33],by kernel_rfl,fun w' hb hf ha => by rw [hmod,hl2]; exact xo1 ((((some ⟨g1,0,none⟩) : Option Addr),33)) rfl rfl (pW (hf _ m0) hB) hb⟩
theorem yl18Pieces_c (l : List Int) (lV : Value) (m : Nat) (w : World) (hl_lV : Sl w lV 1 (l.map intRow)) (hm : m ≤ l.length) (hll : l.length ≤ 64) (hby : ∀ x ∈ l, x ≤ 255) (B : Nat) (hB : B ≤ w.heap.size) : Calls Try.prog 38 #[lV, .int .i64 (m : Int)] w fun e w' => XRs w w' e (α := Option Addr × Nat) (fun y => .slice y.1 ((pcs [] 0 (l.drop m)).length) y.2) (fun y => [rowF B 81 2 (.slice y.1 ((pcs [] 0 (l.drop m)).length) y.2) ((pcs [] 0 (l.drop m)).map pceCells)]) := by
 obtain ⟨Al,Cl,hvl⟩ := hl_lV.form
 rw [List.length_map] at hvl; subst hvl
 have hnl := hl_lV.len; rw [List.length_map] at hnl
 have hql := Sl.capLe hl_lV
 refine x_callsA (args := [.slice Al l.length Cl,.int .i64 (m : Int)]) (fn := Try.f38) [slF (.slice Al l.length Cl) 1 (l.map intRow)] Try.func38 rfl Try.ntmps38 rfl (by simp only [List.mem_cons,List.not_mem_nil,or_false,forall_eq_or_imp,forall_eq]; exact ⟨rfl,hl_lV⟩) ?_
 refine kQ ?_
 refine kEF [0,1] ⟨[(0,.v (.slice Al l.length Cl)),(1,.v (.int .i64 (m : Int)))],[],[],[slF (.slice Al l.length Cl) 1 (l.map intRow)]⟩ ?_
 refine kQ ?_
 refine kHS 0 [0,1] [(0,.v (.slice Al l.length Cl)),(1,.v (.int .i64 (m : Int)))] rfl (hv_build (e := 81) (K := 2) (bytes := 24) [] rfl (by kernel_rfl) (by kernel_rfl) (by kernel_rfl) (by kernel_rfl) (by kernel_rfl) (rs := ([] : List Pce).map pceCells) rfl) ?_
 intro g1
 refine kES [0,1,5] [(0,.v (.slice Al l.length Cl)),(1,.v (.int .i64 (m : Int))),(5,.v (.slice (some ⟨g1,0,none⟩) 0 0))] ?_
 refine kS ?_
 refine kQ ?_
 refine kES [0,1,5,6] [(0,.v (.slice Al l.length Cl)),(1,.v (.int .i64 (m : Int))),(5,.v (.slice (some ⟨g1,0,none⟩) 0 0)),(6,.v (.int .i64 (m : Int)))] ?_
 refine xw_block ?_
 refine xw_loopW (α := {x : Nat × List Pce × Option Addr × Nat × Nat // (fun (i : Nat) (out : List Pce) (A1 : Option Addr) (c1 : Nat) (n : Nat) => (m ≤ i ∧ i ≤ l.length) ∧ pcs [] 0 (l.drop m) = pcs out (i - m) (l.drop i) ∧ (∀ p ∈ out,0 ≤ p.off ∧ p.off + (p.text.size : Int) ≤ ((i - m : Nat) : Int)) ∧ out.length = n ∧ n ≤ i) x.1 x.2.1 x.2.2.1 x.2.2.2.1 x.2.2.2.2}) (fun x => (fun (i : Nat) (out : List Pce) (A1 : Option Addr) (c1 : Nat) (n : Nat) => (⟨[(0,.v (.slice Al l.length Cl)),(1,.v (.int .i64 (m : Int))),(5,.v (.slice A1 n c1)),(6,.v (.int .i64 (i : Int)))],[],[],[rowF w.heap.size 81 2 (.slice A1 n c1) (out.map pceCells),slF (.slice Al l.length Cl) 1 (l.map intRow)]⟩ : St)) x.1.1 x.1.2.1 x.1.2.2.1 x.1.2.2.2.1 x.1.2.2.2.2) (fun x => (fun (i : Nat) (out : List Pce) (A1 : Option Addr) (c1 : Nat) (n : Nat) => l.length - i) x.1.1 x.1.2.1 x.1.2.2.1 x.1.2.2.2.1 x.1.2.2.2.2) ⟨(m,([] : List Pce),(some ⟨g1,0,none⟩),0,0),⟨⟨Nat.le_refl _,hm⟩,(by rw [Nat.sub_self]),(by simp),rfl,Nat.zero_le _⟩⟩ ((wk_pick [0,1] [rowF w.heap.size 81 2 (.slice (some ⟨g1,0,none⟩) 0 0) (([] : List Pce).map pceCells),slF (.slice Al l.length Cl) 1 (l.map intRow)] (by kernel_rfl) (by kernel_rfl)).trans <| kF 0 0 [0,1,5,6]) ?_
 rintro ⟨⟨i,out,A1,c1,n⟩,hi,HP,hbd,hn,hni⟩
 try dsimp only
 try dsimp only at hi HP hbd hn hni
 refine kS ?_
 refine kQ ?_
 refine kES [0,1,5,6,13] [(0,.v (.slice Al l.length Cl)),(1,.v (.int .i64 (m : Int))),(5,.v (.slice A1 n c1)),(6,.v (.int .i64 (i : Int))),(13,.v (.bool (decide ((i : Int) < ((l.length : Nat) : Int)))))] ?_
 refine kC (decide ((i : Int) < ((l.length : Nat) : Int))) (fun h2 => ?_) (fun h2 => ?_)
 have h2p := of_decide_eq_true h2
 have hlt : i < l.length := by simpa using h2
 obtain ⟨x,hx⟩ : ∃ x,l[i]? = some x := ⟨_,List.getElem?_eq_getElem hlt⟩
 have hx255 := hby x (List.mem_of_getElem? hx)
 have hps := pcs_step (out := out) hx hi.1
 refine xw_know (φ := ∃ b off,Al = some ⟨b,off,none⟩) (fun _ _ _ _ hr => know_sl hr (K := 1) (rs := l.map intRow) 1 rfl (j := i) (row := [.int .i64 x]) (by simp only [List.getElem?_map,hx]; rfl)) ?_
 rintro ⟨bb,ob,hbb⟩
 refine kK ?_
 refine kS ?_
 refine xw_block ?_
 refine kS ?_
 refine kQ ?_
 refine kOS 2 [0,1,5,6,16,17] [(0,.v (.slice Al l.length Cl)),(1,.v (.int .i64 (m : Int))),(5,.v (.slice A1 n c1)),(6,.v (.int .i64 (i : Int))),(16,.v (.slice Al l.length Cl)),(17,.v (.int .i64 (i : Int)))] (.pointer (some ⟨bb,ob + i * 1,none⟩)) rfl (fun _ _ _ ww hr => act_ixO (kd := .i64) (T := 72) (e := 3) (K := 1) (b := bb) (off := ob) (N := l.length) (cap := Cl) i hbb hr.1 rfl rfl (by kernel_rfl) (by kernel_rfl) (by kernel_rfl) hlt ww) ?_
 refine kOS 0 [0,1,5,6,18] [(0,.v (.slice Al l.length Cl)),(1,.v (.int .i64 (m : Int))),(5,.v (.slice A1 n c1)),(6,.v (.int .i64 (i : Int))),(18,.v (.pointer (some ⟨bb,ob + i * 1,none⟩)))] (.int .i64 x) rfl (fun _ _ _ ww hr => ldS_run (j := i) (row := [.int .i64 x]) (slF (.slice Al l.length Cl) 1 (l.map intRow)) hr rfl (by kernel_rfl) (by simp) (by simp only [List.getElem?_map,hx]; rfl) (by kernel_rfl) hbb rfl) ?_
 refine kES [0,1,5,6,20] [(0,.v (.slice Al l.length Cl)),(1,.v (.int .i64 (m : Int))),(5,.v (.slice A1 n c1)),(6,.v (.int .i64 (i : Int))),(20,.v (.bool (decide (x < 0))))] ?_
 refine kC (decide (x < 0)) (fun h3 => ?_) (fun h3 => ?_)
 have h3p := of_decide_eq_true h3
 refine xw_exit ?_
 refine kG ?_
 refine kRS 3 [0,1,5,6] [(0,.v (.slice Al l.length Cl)),(1,.v (.int .i64 (m : Int))),(5,.v (.slice A1 n c1)),(6,.v (.int .i64 (IntKind.i64.wrap ((i : Int) + 1))))] ?_
 refine xl_eqS (t' := [(0,.v (.slice Al l.length Cl)),(1,.v (.int .i64 (m : Int))),(5,.v (.slice A1 n c1)),(6,.v (.int .i64 ((i : Int) + 1)))]) (by rw [show (IntKind.i64.wrap ((i : Int) + 1)) = ((i : Int) + 1) from wrap_id (by omega) (by omega)]) ?_
 refine kES [0,1,5,6] [(0,.v (.slice Al l.length Cl)),(1,.v (.int .i64 (m : Int))),(5,.v (.slice A1 n c1)),(6,.v (.int .i64 ((i : Int) + 1)))] ?_
 exact ⟨⟨(i + 1,out,A1,c1,n),⟨(by (try dsimp only); omega),(by rw [HP,hps,if_pos (by omega)]),(fun q hq => by have := hbd q hq; (try dsimp only); omega),hn,(by (try dsimp only); omega)⟩⟩,kF 0 0 [0,1,5,6],by show (fun (i : Nat) (out : List Pce) (A1 : Option Addr) (c1 : Nat) (n : Nat) => l.length - i) (i + 1) out A1 c1 n < l.length - i; (dsimp only; omega)⟩
 have h3p := of_decide_eq_false h3
 have hx0 : 0 ≤ x := by simp at h3; omega
 have hb1 : (bstr [x]).size = 1 := bstr_len [x]
 obtain ⟨p,hp⟩ : ∃ p : Pce,0 < n → out[n - 1]? = some p := if h : 0 < n then ⟨out[n - 1]'(by omega),fun _ => List.getElem?_eq_getElem _⟩ else ⟨⟨0,⟨#[]⟩⟩,fun h' => absurd h' h⟩
 refine xw_know (φ := ∃ g,0 < n → A1 = some ⟨g,0,none⟩) (fun _ _ _ _ hr => know_row hr (K := 2) (rs := out.map pceCells) 0 rfl (j := n - 1) (row := [.int .i64 p.off,.string p.text]) (fun hpos => by simp only [List.getElem?_map,hp hpos]; rfl)) ?_
 rintro ⟨gg,hgg⟩
 refine kK ?_
 refine kQ ?_
 refine kES [0,1,5,6,7] [(0,.v (.slice Al l.length Cl)),(1,.v (.int .i64 (m : Int))),(5,.v (.slice A1 n c1)),(6,.v (.int .i64 (i : Int))),(7,.v (.int .i64 ((n : Nat) : Int)))] ?_
 refine kS ?_
 refine xw_joinF (α := {zz : Bool // (fun (bq : Bool) => (bq = true ↔ (0 < n ∧ p.off + (p.text.size : Int) = ((i - m : Nat) : Int)))) zz}) (fun zz => (fun (bq : Bool) => (⟨[(0,.v (.slice Al l.length Cl)),(1,.v (.int .i64 (m : Int))),(5,.v (.slice A1 n c1)),(6,.v (.int .i64 (i : Int))),(7,.v (.int .i64 ((n : Nat) : Int))),(44,.v (.bool bq))],[],[],[rowF w.heap.size 81 2 (.slice A1 n c1) (out.map pceCells),slF (.slice Al l.length Cl) 1 (l.map intRow)]⟩ : St)) zz.1) ?_ ?_
 refine xe_region0 [] (by kernel_rfl) (fun ρ σ => ?_)
 refine kTS [0,1,2] [25,0,1,5,6,7] 19 [(25,.v (.bool (decide (((n : Nat) : Int) > 0)))),(0,.v (.slice Al l.length Cl)),(1,.v (.int .i64 (m : Int))),(5,.v (.slice A1 n c1)),(6,.v (.int .i64 (i : Int))),(7,.v (.int .i64 ((n : Nat) : Int)))] ?_
 refine kY 25 (decide (((n : Nat) : Int) > 0)) (fun h4 => ?_) (fun h4 => ?_)
 have h4p := of_decide_eq_true h4
 have hpos : 0 < n := by simp at h4; omega
 have hpb := hbd p (List.mem_of_getElem? (hp hpos))
 refine kTS [3,4,5,9,10,11,17,18,19] [42,34,32,28,26,25,0,1,5,6,7] 10 [(42,.v (.int .i64 (IntKind.i64.wrap ((i : Int) - (m : Int))))),(34,.v (.int .i64 (IntKind.i64.wrap (((n : Nat) : Int) - 1)))),(32,.v (.slice A1 n c1)),(28,.v (.int .i64 (IntKind.i64.wrap (((n : Nat) : Int) - 1)))),(26,.v (.slice A1 n c1)),(25,.v (.bool true)),(0,.v (.slice Al l.length Cl)),(1,.v (.int .i64 (m : Int))),(5,.v (.slice A1 n c1)),(6,.v (.int .i64 (i : Int))),(7,.v (.int .i64 ((n : Nat) : Int)))] ?_
 refine xe_eqS (t := [(42,.v (.int .i64 (IntKind.i64.wrap ((i : Int) - (m : Int))))),(34,.v (.int .i64 (IntKind.i64.wrap (((n : Nat) : Int) - 1)))),(32,.v (.slice A1 n c1)),(28,.v (.int .i64 (IntKind.i64.wrap (((n : Nat) : Int) - 1)))),(26,.v (.slice A1 n c1)),(25,.v (.bool true)),(0,.v (.slice Al l.length Cl)),(1,.v (.int .i64 (m : Int))),(5,.v (.slice A1 n c1)),(6,.v (.int .i64 (i : Int))),(7,.v (.int .i64 ((n : Nat) : Int)))]) (t' := [(42,.v (.int .i64 ((i - m : Nat) : Int))),(34,.v (.int .i64 ((n - 1 : Nat) : Int))),(32,.v (.slice A1 n c1)),(28,.v (.int .i64 ((n - 1 : Nat) : Int))),(26,.v (.slice A1 n c1)),(25,.v (.bool true)),(0,.v (.slice Al l.length Cl)),(1,.v (.int .i64 (m : Int))),(5,.v (.slice A1 n c1)),(6,.v (.int .i64 (i : Int))),(7,.v (.int .i64 ((n : Nat) : Int)))]) (by rw [show (IntKind.i64.wrap (((n : Nat) : Int) - 1)) = ((n - 1 : Nat) : Int) from by rw [wrap_id (by omega) (by omega)]; omega,show (IntKind.i64.wrap ((i : Int) - (m : Int))) = ((i - m : Nat) : Int) from by rw [wrap_id (by omega) (by omega)]; omega]) ?_
 refine kX 6 (.pointer (some ⟨gg,(n - 1) * 2,none⟩)) rfl (fun _ _ ww hA => act_ix (kd := .i64) (T := 26) (e := 81) (K := 2) (g := gg) (N := n) (cap := c1) (n - 1) (hgg hpos) hA rfl rfl (by kernel_rfl) (by kernel_rfl) (by kernel_rfl) (by omega) ww) ?_
 refine kX 7 (.pointer (some ⟨gg,(n - 1) * 2,none⟩)) rfl (fun _ _ ww hA => act_fld (sz := 1) (b := gg) (m := (n - 1) * 2) hA rfl Try.underlying81 rfl (by kernel_rfl) rfl (by kernel_rfl) rfl) ?_
 refine kX 12 (.pointer (some ⟨gg,(n - 1) * 2,none⟩)) rfl (fun _ _ ww hA => act_ix (kd := .i64) (T := 26) (e := 81) (K := 2) (g := gg) (N := n) (cap := c1) (n - 1) (hgg hpos) hA rfl rfl (by kernel_rfl) (by kernel_rfl) (by kernel_rfl) (by omega) ww) ?_
 refine kX 13 (.pointer (some ⟨gg,(n - 1) * 2 + 1,none⟩)) rfl (fun _ _ ww hA => act_fld (sz := 1) (b := gg) (m := (n - 1) * 2) hA rfl Try.underlying81 rfl (by kernel_rfl) rfl (by kernel_rfl) rfl) ?_
 refine kA [8,14] ⟨?_,?_⟩
 refine kSR 8 (.int .i64 p.off) rfl (fun _ _ ww hr => ldR_run (po := 0) (j := (n - 1)) (row := [.int .i64 p.off,.string p.text]) (rowF w.heap.size 81 2 (.slice A1 n c1) (out.map pceCells)) hr rfl (by kernel_rfl) (by simp) (by simp only [List.getElem?_map,hp hpos]; rfl) (by kernel_rfl) (hgg hpos) rfl rfl) ?_
 refine kA [14] ?_
 refine kSR 14 (.string p.text) rfl (fun _ _ ww hr => ldR_run (po := 1) (j := (n - 1)) (row := [.int .i64 p.off,.string p.text]) (rowF w.heap.size 81 2 (.slice A1 n c1) (out.map pceCells)) hr rfl (by kernel_rfl) (by simp) (by simp only [List.getElem?_map,hp hpos]; rfl) (by kernel_rfl) (hgg hpos) rfl rfl) ?_
 refine kTS [15,16,20,21] [44,0,1,5,6,7] 0 [(44,.v (.bool ((IntKind.i64.wrap (p.off + (p.text.size : Int))) == ((i - m : Nat) : Int)))),(0,.v (.slice Al l.length Cl)),(1,.v (.int .i64 (m : Int))),(5,.v (.slice A1 n c1)),(6,.v (.int .i64 (i : Int))),(7,.v (.int .i64 ((n : Nat) : Int)))] ?_
 refine xe_eqS (t := [(44,.v (.bool ((IntKind.i64.wrap (p.off + (p.text.size : Int))) == ((i - m : Nat) : Int)))),(0,.v (.slice Al l.length Cl)),(1,.v (.int .i64 (m : Int))),(5,.v (.slice A1 n c1)),(6,.v (.int .i64 (i : Int))),(7,.v (.int .i64 ((n : Nat) : Int)))]) (t' := [(44,.v (.bool ((p.off + (p.text.size : Int)) == ((i - m : Nat) : Int)))),(0,.v (.slice Al l.length Cl)),(1,.v (.int .i64 (m : Int))),(5,.v (.slice A1 n c1)),(6,.v (.int .i64 (i : Int))),(7,.v (.int .i64 ((n : Nat) : Int)))]) (by rw [show (IntKind.i64.wrap (p.off + (p.text.size : Int))) = (p.off + (p.text.size : Int)) from wrap_id (by omega) (by omega)]) ?_
 refine kZ ?_
 exact ⟨⟨((p.off + (p.text.size : Int)) == ((i - m : Nat) : Int)),⟨fun h => ⟨hpos,eq_of_beq h⟩,fun h => beq_iff_eq.2 h.2⟩⟩,kF 0 0 [0,1,5,6,7,44]⟩
 refine kSR 14 (.string p.text) rfl (fun _ _ ww hr => ldR_run (po := 1) (j := (n - 1)) (row := [.int .i64 p.off,.string p.text]) (rowF w.heap.size 81 2 (.slice A1 n c1) (out.map pceCells)) hr rfl (by kernel_rfl) (by simp) (by simp only [List.getElem?_map,hp hpos]; rfl) (by kernel_rfl) (hgg hpos) rfl rfl) ?_
 refine kTS [15] [38,30,42,25,0,1,5,6,7] 4 [(38,.v (.int .i64 (p.text.size : Int))),(30,.v (.pointer (some ⟨gg,(n - 1) * 2,none⟩))),(42,.v (.int .i64 ((i - m : Nat) : Int))),(25,.v (.bool true)),(0,.v (.slice Al l.length Cl)),(1,.v (.int .i64 (m : Int))),(5,.v (.slice A1 n c1)),(6,.v (.int .i64 (i : Int))),(7,.v (.int .i64 ((n : Nat) : Int)))] ?_
 refine kA [8] ?_
 refine kSR 8 (.int .i64 p.off) rfl (fun _ _ ww hr => ldR_run (po := 0) (j := (n - 1)) (row := [.int .i64 p.off,.string p.text]) (rowF w.heap.size 81 2 (.slice A1 n c1) (out.map pceCells)) hr rfl (by kernel_rfl) (by simp) (by simp only [List.getElem?_map,hp hpos]; rfl) (by kernel_rfl) (hgg hpos) rfl rfl) ?_
 refine kTS [16,20,21] [44,0,1,5,6,7] 0 [(44,.v (.bool ((IntKind.i64.wrap (p.off + (p.text.size : Int))) == ((i - m : Nat) : Int)))),(0,.v (.slice Al l.length Cl)),(1,.v (.int .i64 (m : Int))),(5,.v (.slice A1 n c1)),(6,.v (.int .i64 (i : Int))),(7,.v (.int .i64 ((n : Nat) : Int)))] ?_
 refine xe_eqS (t := [(44,.v (.bool ((IntKind.i64.wrap (p.off + (p.text.size : Int))) == ((i - m : Nat) : Int)))),(0,.v (.slice Al l.length Cl)),(1,.v (.int .i64 (m : Int))),(5,.v (.slice A1 n c1)),(6,.v (.int .i64 (i : Int))),(7,.v (.int .i64 ((n : Nat) : Int)))]) (t' := [(44,.v (.bool ((p.off + (p.text.size : Int)) == ((i - m : Nat) : Int)))),(0,.v (.slice Al l.length Cl)),(1,.v (.int .i64 (m : Int))),(5,.v (.slice A1 n c1)),(6,.v (.int .i64 (i : Int))),(7,.v (.int .i64 ((n : Nat) : Int)))]) (by rw [show (IntKind.i64.wrap (p.off + (p.text.size : Int))) = (p.off + (p.text.size : Int)) from wrap_id (by omega) (by omega)]) ?_
 refine kZ ?_
 exact ⟨⟨((p.off + (p.text.size : Int)) == ((i - m : Nat) : Int)),⟨fun h => ⟨hpos,eq_of_beq h⟩,fun h => beq_iff_eq.2 h.2⟩⟩,kF 0 0 [0,1,5,6,7,44]⟩
 have h4p := of_decide_eq_false h4
 have hn0 : n = 0 := by simp at h4; omega
 refine kTS [3,4,5,6,7,8,9,10,11,12,13,14,15,16,17,18,19,20,21] [44,0,1,5,6,7] 0 [(44,.v (.bool false)),(0,.v (.slice Al l.length Cl)),(1,.v (.int .i64 (m : Int))),(5,.v (.slice A1 n c1)),(6,.v (.int .i64 (i : Int))),(7,.v (.int .i64 ((n : Nat) : Int)))] ?_
 refine kZ ?_
 exact ⟨⟨(false),⟨fun h => (by cases h),fun h => (by omega)⟩⟩,kF 0 0 [0,1,5,6,7,44]⟩
 rintro ⟨bq,hbq⟩
 try dsimp only
 try dsimp only at hbq
 refine kC (bq) (fun h5 => ?_) (fun h5 => ?_)
 obtain ⟨hpos,heq⟩ := hbq.1 h5
 have hpb := hbd p (List.mem_of_getElem? (hp hpos))
 refine xw_joinE (α := Nat) (fun y => (fun (g7 : Nat) => (⟨[(0,.v (.slice Al l.length Cl)),(1,.v (.int .i64 (m : Int))),(5,.v (.slice A1 n c1)),(6,.v (.int .i64 (i : Int)))],[],[],[rowF w.heap.size 81 2 (.slice A1 n c1) ((out.set (n - 1) ⟨p.off,p.text ++ (bstr ([x] : List Int))⟩).map pceCells),rowF w.heap.size 5 1 (.slice (some ⟨g7,0,none⟩) 1 1) (([x] : List Int).map byteRow),slF (.slice Al l.length Cl) 1 (l.map intRow)]⟩ : St)) y) ?_ ?_
 refine xe_region0 [] (by kernel_rfl) (fun ρ σ => ?_)
 refine kTS [0,1,2,3,4,5,9,10] [55,54,50,48,47,45,0,1,5,6] 12 [(55,.v (.int .i64 (i : Int))),(54,.v (.slice Al l.length Cl)),(50,.v (.int .i64 (IntKind.i64.wrap (((n : Nat) : Int) - 1)))),(48,.v (.slice A1 n c1)),(47,.v (.int .i64 (IntKind.i64.wrap (((n : Nat) : Int) - 1)))),(45,.v (.slice A1 n c1)),(0,.v (.slice Al l.length Cl)),(1,.v (.int .i64 (m : Int))),(5,.v (.slice A1 n c1)),(6,.v (.int .i64 (i : Int)))] ?_
 refine xe_eqS (t := [(55,.v (.int .i64 (i : Int))),(54,.v (.slice Al l.length Cl)),(50,.v (.int .i64 (IntKind.i64.wrap (((n : Nat) : Int) - 1)))),(48,.v (.slice A1 n c1)),(47,.v (.int .i64 (IntKind.i64.wrap (((n : Nat) : Int) - 1)))),(45,.v (.slice A1 n c1)),(0,.v (.slice Al l.length Cl)),(1,.v (.int .i64 (m : Int))),(5,.v (.slice A1 n c1)),(6,.v (.int .i64 (i : Int)))]) (t' := [(55,.v (.int .i64 (i : Int))),(54,.v (.slice Al l.length Cl)),(50,.v (.int .i64 ((n - 1 : Nat) : Int))),(48,.v (.slice A1 n c1)),(47,.v (.int .i64 ((n - 1 : Nat) : Int))),(45,.v (.slice A1 n c1)),(0,.v (.slice Al l.length Cl)),(1,.v (.int .i64 (m : Int))),(5,.v (.slice A1 n c1)),(6,.v (.int .i64 (i : Int)))]) (by rw [show (IntKind.i64.wrap (((n : Nat) : Int) - 1)) = ((n - 1 : Nat) : Int) from by rw [wrap_id (by omega) (by omega)]; omega]) ?_
 refine kX 6 (.pointer (some ⟨gg,(n - 1) * 2,none⟩)) rfl (fun _ _ ww hA => act_ix (kd := .i64) (T := 26) (e := 81) (K := 2) (g := gg) (N := n) (cap := c1) (n - 1) (hgg hpos) hA rfl rfl (by kernel_rfl) (by kernel_rfl) (by kernel_rfl) (by omega) ww) ?_
 refine kX 7 (.pointer (some ⟨gg,(n - 1) * 2 + 1,none⟩)) rfl (fun _ _ ww hA => act_fld (sz := 1) (b := gg) (m := (n - 1) * 2) hA rfl Try.underlying81 rfl (by kernel_rfl) rfl (by kernel_rfl) rfl) ?_
 refine kX 11 (.pointer (some ⟨bb,ob + i * 1,none⟩)) rfl (fun _ _ ww hA => act_ixO (kd := .i64) (T := 72) (e := 3) (K := 1) (b := bb) (off := ob) (N := l.length) (cap := Cl) i hbb hA rfl rfl (by kernel_rfl) (by kernel_rfl) (by kernel_rfl) hlt ww) ?_
 refine kA [8,12] ⟨?_,?_⟩
 refine kSR 8 (.string p.text) rfl (fun _ _ ww hr => ldR_run (po := 1) (j := (n - 1)) (row := [.int .i64 p.off,.string p.text]) (rowF w.heap.size 81 2 (.slice A1 n c1) (out.map pceCells)) hr rfl (by kernel_rfl) (by simp) (by simp only [List.getElem?_map,hp hpos]; rfl) (by kernel_rfl) (hgg hpos) rfl rfl) ?_
 refine kA [12] ?_
 refine kSR 12 (.int .i64 x) rfl (fun _ _ ww hr => ldS_run (j := i) (row := [.int .i64 x]) (slF (.slice Al l.length Cl) 1 (l.map intRow)) hr rfl (by kernel_rfl) (by simp) (by simp only [List.getElem?_map,hx]; rfl) (by kernel_rfl) hbb rfl) ?_
 refine kTS [13] [58,53,47,45,0,1,5,6] 6 [(58,.v (.int .u8 (IntKind.u8.wrap x))),(53,.v (.string p.text)),(47,.v (.int .i64 ((n - 1 : Nat) : Int))),(45,.v (.slice A1 n c1)),(0,.v (.slice Al l.length Cl)),(1,.v (.int .i64 (m : Int))),(5,.v (.slice A1 n c1)),(6,.v (.int .i64 (i : Int)))] ?_
 refine xe_eqS (t := [(58,.v (.int .u8 (IntKind.u8.wrap x))),(53,.v (.string p.text)),(47,.v (.int .i64 ((n - 1 : Nat) : Int))),(45,.v (.slice A1 n c1)),(0,.v (.slice Al l.length Cl)),(1,.v (.int .i64 (m : Int))),(5,.v (.slice A1 n c1)),(6,.v (.int .i64 (i : Int)))]) (t' := [(58,.v (.int .u8 x)),(53,.v (.string p.text)),(47,.v (.int .i64 ((n - 1 : Nat) : Int))),(45,.v (.slice A1 n c1)),(0,.v (.slice Al l.length Cl)),(1,.v (.int .i64 (m : Int))),(5,.v (.slice A1 n c1)),(6,.v (.int .i64 (i : Int)))]) (by rw [show (IntKind.u8.wrap x) = x from u8_id (by omega) (by omega)]) ?_
 refine kA [14] ?_
 refine kSH 14 rfl under_nil (hv_build (e := 5) (K := 1) (bytes := 1) [.int .u8 x] rfl (by kernel_rfl) (by kernel_rfl) (by kernel_rfl) (by kernel_rfl) (by kernel_rfl) (rs := ([x] : List Int).map byteRow) rfl) ?_
 intro g7
 refine kA [15] ?_
 refine kSR 15 (.string (bstr ([x] : List Int))) rfl (fun _ _ ww hr => act_b2s (e := 5) ([x] : List Int) hr.1 rfl (by kernel_rfl) (by kernel_rfl) (by kernel_rfl) rfl (rowF_sl (hr.2.fact (rowF w.heap.size 5 1 (.slice (some ⟨g7,0,none⟩) 1 1) (([x] : List Int).map byteRow)) (by simp)).1)) ?_
 refine kX 16 (.string (p.text ++ (bstr ([x] : List Int)))) rfl (fun _ _ ww hA => act_bin hA rfl (by kernel_rfl) (by kernel_rfl) (str_add (by first | omega | (simp only [ByteArray.size_extract]; omega)) ww)) ?_
 refine kX 17 (.pointer (some ⟨gg,(n - 1) * 2,none⟩)) rfl (fun _ _ ww hA => act_ix (kd := .i64) (T := 26) (e := 81) (K := 2) (g := gg) (N := n) (cap := c1) (n - 1) (hgg hpos) hA rfl rfl (by kernel_rfl) (by kernel_rfl) (by kernel_rfl) (by omega) ww) ?_
 refine kX 18 (.pointer (some ⟨gg,(n - 1) * 2 + 1,none⟩)) rfl (fun _ _ ww hA => act_fld (sz := 1) (b := gg) (m := (n - 1) * 2) hA rfl Try.underlying81 rfl (by kernel_rfl) rfl (by kernel_rfl) rfl) ?_
 refine kA [19] ?_
 refine xs_hsG 19 gg rfl (by kernel_rfl) (by kernel_rfl) (by kernel_rfl) under_nil (fun kk rr hk => by simp at hk) (hs_stR (g := gg) (B := w.heap.size) (e := 81) (K := 2) (N := n) (cap := c1) (rs := (out.map pceCells)) (rs' := (out.set (n - 1) ⟨p.off,p.text ++ (bstr ([x] : List Int))⟩).map pceCells) (v := (.string (p.text ++ (bstr ([x] : List Int))))) (i := 1) (off := (n - 1) * 2 + 1) (n - 1) 1 [.int .i64 p.off,.string p.text] (row' := [.int .i64 p.off,.string (p.text ++ (bstr ([x] : List Int)))]) (hgg hpos) rfl (by kernel_rfl) rfl (by kernel_rfl) (by kernel_rfl) (by kernel_rfl) (by kernel_rfl) (Nat.le_refl _) (by simp only [List.getElem?_map,hp hpos]; rfl) (by kernel_rfl) rfl (by rw [List.map_set]; rfl)) ?_
 refine kZ ?_
 exact ⟨(g7),kF 0 0 [0,1,5,6]⟩
 refine kSR 12 (.int .i64 x) rfl (fun _ _ ww hr => ldS_run (j := i) (row := [.int .i64 x]) (slF (.slice Al l.length Cl) 1 (l.map intRow)) hr rfl (by kernel_rfl) (by simp) (by simp only [List.getElem?_map,hx]; rfl) (by kernel_rfl) hbb rfl) ?_
 refine kTS [13] [58,52,47,45,0,1,5,6] 7 [(58,.v (.int .u8 (IntKind.u8.wrap x))),(52,.v (.pointer (some ⟨gg,(n - 1) * 2 + 1,none⟩))),(47,.v (.int .i64 ((n - 1 : Nat) : Int))),(45,.v (.slice A1 n c1)),(0,.v (.slice Al l.length Cl)),(1,.v (.int .i64 (m : Int))),(5,.v (.slice A1 n c1)),(6,.v (.int .i64 (i : Int)))] ?_
 refine xe_eqS (t := [(58,.v (.int .u8 (IntKind.u8.wrap x))),(52,.v (.pointer (some ⟨gg,(n - 1) * 2 + 1,none⟩))),(47,.v (.int .i64 ((n - 1 : Nat) : Int))),(45,.v (.slice A1 n c1)),(0,.v (.slice Al l.length Cl)),(1,.v (.int .i64 (m : Int))),(5,.v (.slice A1 n c1)),(6,.v (.int .i64 (i : Int)))]) (t' := [(58,.v (.int .u8 x)),(52,.v (.pointer (some ⟨gg,(n - 1) * 2 + 1,none⟩))),(47,.v (.int .i64 ((n - 1 : Nat) : Int))),(45,.v (.slice A1 n c1)),(0,.v (.slice Al l.length Cl)),(1,.v (.int .i64 (m : Int))),(5,.v (.slice A1 n c1)),(6,.v (.int .i64 (i : Int)))]) (by rw [show (IntKind.u8.wrap x) = x from u8_id (by omega) (by omega)]) ?_
 refine kA [8,14] ⟨?_,?_⟩
 refine kSR 8 (.string p.text) rfl (fun _ _ ww hr => ldR_run (po := 1) (j := (n - 1)) (row := [.int .i64 p.off,.string p.text]) (rowF w.heap.size 81 2 (.slice A1 n c1) (out.map pceCells)) hr rfl (by kernel_rfl) (by simp) (by simp only [List.getElem?_map,hp hpos]; rfl) (by kernel_rfl) (hgg hpos) rfl rfl) ?_
 refine kA [14] ?_
 refine kSH 14 rfl under_nil (hv_build (e := 5) (K := 1) (bytes := 1) [.int .u8 x] rfl (by kernel_rfl) (by kernel_rfl) (by kernel_rfl) (by kernel_rfl) (by kernel_rfl) (rs := ([x] : List Int).map byteRow) rfl) ?_
 intro g10
 refine kA [15] ?_
 refine kSR 15 (.string (bstr ([x] : List Int))) rfl (fun _ _ ww hr => act_b2s (e := 5) ([x] : List Int) hr.1 rfl (by kernel_rfl) (by kernel_rfl) (by kernel_rfl) rfl (rowF_sl (hr.2.fact (rowF w.heap.size 5 1 (.slice (some ⟨g10,0,none⟩) 1 1) (([x] : List Int).map byteRow)) (by simp)).1)) ?_
 refine kX 16 (.string (p.text ++ (bstr ([x] : List Int)))) rfl (fun _ _ ww hA => act_bin hA rfl (by kernel_rfl) (by kernel_rfl) (str_add (by first | omega | (simp only [ByteArray.size_extract]; omega)) ww)) ?_
 refine kX 17 (.pointer (some ⟨gg,(n - 1) * 2,none⟩)) rfl (fun _ _ ww hA => act_ix (kd := .i64) (T := 26) (e := 81) (K := 2) (g := gg) (N := n) (cap := c1) (n - 1) (hgg hpos) hA rfl rfl (by kernel_rfl) (by kernel_rfl) (by kernel_rfl) (by omega) ww) ?_
 refine kX 18 (.pointer (some ⟨gg,(n - 1) * 2 + 1,none⟩)) rfl (fun _ _ ww hA => act_fld (sz := 1) (b := gg) (m := (n - 1) * 2) hA rfl Try.underlying81 rfl (by kernel_rfl) rfl (by kernel_rfl) rfl) ?_
 refine kA [19] ?_
 refine xs_hsG 19 gg rfl (by kernel_rfl) (by kernel_rfl) (by kernel_rfl) under_nil (fun kk rr hk => by simp at hk) (hs_stR (g := gg) (B := w.heap.size) (e := 81) (K := 2) (N := n) (cap := c1) (rs := (out.map pceCells)) (rs' := (out.set (n - 1) ⟨p.off,p.text ++ (bstr ([x] : List Int))⟩).map pceCells) (v := (.string (p.text ++ (bstr ([x] : List Int))))) (i := 1) (off := (n - 1) * 2 + 1) (n - 1) 1 [.int .i64 p.off,.string p.text] (row' := [.int .i64 p.off,.string (p.text ++ (bstr ([x] : List Int)))]) (hgg hpos) rfl (by kernel_rfl) rfl (by kernel_rfl) (by kernel_rfl) (by kernel_rfl) (by kernel_rfl) (Nat.le_refl _) (by simp only [List.getElem?_map,hp hpos]; rfl) (by kernel_rfl) rfl (by rw [List.map_set]; rfl)) ?_
 refine kZ ?_
 exact ⟨(g10),kF 0 0 [0,1,5,6]⟩
 refine kSH 14 rfl under_nil (hv_build (e := 5) (K := 1) (bytes := 1) [.int .u8 x] rfl (by kernel_rfl) (by kernel_rfl) (by kernel_rfl) (by kernel_rfl) (by kernel_rfl) (rs := ([x] : List Int).map byteRow) rfl) ?_
 intro g11
 refine kA [8,15] ⟨?_,?_⟩
 refine kSR 8 (.string p.text) rfl (fun _ _ ww hr => ldR_run (po := 1) (j := (n - 1)) (row := [.int .i64 p.off,.string p.text]) (rowF w.heap.size 81 2 (.slice A1 n c1) (out.map pceCells)) hr rfl (by kernel_rfl) (by simp) (by simp only [List.getElem?_map,hp hpos]; rfl) (by kernel_rfl) (hgg hpos) rfl rfl) ?_
 refine kA [15] ?_
 refine kSR 15 (.string (bstr ([x] : List Int))) rfl (fun _ _ ww hr => act_b2s (e := 5) ([x] : List Int) hr.1 rfl (by kernel_rfl) (by kernel_rfl) (by kernel_rfl) rfl (rowF_sl (hr.2.fact (rowF w.heap.size 5 1 (.slice (some ⟨g11,0,none⟩) 1 1) (([x] : List Int).map byteRow)) (by simp)).1)) ?_
 refine kX 16 (.string (p.text ++ (bstr ([x] : List Int)))) rfl (fun _ _ ww hA => act_bin hA rfl (by kernel_rfl) (by kernel_rfl) (str_add (by first | omega | (simp only [ByteArray.size_extract]; omega)) ww)) ?_
 refine kX 17 (.pointer (some ⟨gg,(n - 1) * 2,none⟩)) rfl (fun _ _ ww hA => act_ix (kd := .i64) (T := 26) (e := 81) (K := 2) (g := gg) (N := n) (cap := c1) (n - 1) (hgg hpos) hA rfl rfl (by kernel_rfl) (by kernel_rfl) (by kernel_rfl) (by omega) ww) ?_
 refine kX 18 (.pointer (some ⟨gg,(n - 1) * 2 + 1,none⟩)) rfl (fun _ _ ww hA => act_fld (sz := 1) (b := gg) (m := (n - 1) * 2) hA rfl Try.underlying81 rfl (by kernel_rfl) rfl (by kernel_rfl) rfl) ?_
 refine kA [19] ?_
 refine xs_hsG 19 gg rfl (by kernel_rfl) (by kernel_rfl) (by kernel_rfl) under_nil (fun kk rr hk => by simp at hk) (hs_stR (g := gg) (B := w.heap.size) (e := 81) (K := 2) (N := n) (cap := c1) (rs := (out.map pceCells)) (rs' := (out.set (n - 1) ⟨p.off,p.text ++ (bstr ([x] : List Int))⟩).map pceCells) (v := (.string (p.text ++ (bstr ([x] : List Int))))) (i := 1) (off := (n - 1) * 2 + 1) (n - 1) 1 [.int .i64 p.off,.string p.text] (row' := [.int .i64 p.off,.string (p.text ++ (bstr ([x] : List Int)))]) (hgg hpos) rfl (by kernel_rfl) rfl (by kernel_rfl) (by kernel_rfl) (by kernel_rfl) (by kernel_rfl) (Nat.le_refl _) (by simp only [List.getElem?_map,hp hpos]; rfl) (by kernel_rfl) rfl (by rw [List.map_set]; rfl)) ?_
 refine kZ ?_
 exact ⟨(g11),kF 0 0 [0,1,5,6]⟩
 refine kSR 15 (.string (bstr ([x] : List Int))) rfl (fun _ _ ww hr => act_b2s (e := 5) ([x] : List Int) hr.1 rfl (by kernel_rfl) (by kernel_rfl) (by kernel_rfl) rfl (rowF_sl (hr.2.fact (rowF w.heap.size 5 1 (.slice (some ⟨g11,0,none⟩) 1 1) (([x] : List Int).map byteRow)) (by simp)).1)) ?_
 refine kA [8] ?_
 refine kSR 8 (.string p.text) rfl (fun _ _ ww hr => ldR_run (po := 1) (j := (n - 1)) (row := [.int .i64 p.off,.string p.text]) (rowF w.heap.size 81 2 (.slice A1 n c1) (out.map pceCells)) hr rfl (by kernel_rfl) (by simp) (by simp only [List.getElem?_map,hp hpos]; rfl) (by kernel_rfl) (hgg hpos) rfl rfl) ?_
 refine kX 16 (.string (p.text ++ (bstr ([x] : List Int)))) rfl (fun _ _ ww hA => act_bin hA rfl (by kernel_rfl) (by kernel_rfl) (str_add (by first | omega | (simp only [ByteArray.size_extract]; omega)) ww)) ?_
 refine kX 17 (.pointer (some ⟨gg,(n - 1) * 2,none⟩)) rfl (fun _ _ ww hA => act_ix (kd := .i64) (T := 26) (e := 81) (K := 2) (g := gg) (N := n) (cap := c1) (n - 1) (hgg hpos) hA rfl rfl (by kernel_rfl) (by kernel_rfl) (by kernel_rfl) (by omega) ww) ?_
 refine kX 18 (.pointer (some ⟨gg,(n - 1) * 2 + 1,none⟩)) rfl (fun _ _ ww hA => act_fld (sz := 1) (b := gg) (m := (n - 1) * 2) hA rfl Try.underlying81 rfl (by kernel_rfl) rfl (by kernel_rfl) rfl) ?_
 refine kA [19] ?_
 refine xs_hsG 19 gg rfl (by kernel_rfl) (by kernel_rfl) (by kernel_rfl) under_nil (fun kk rr hk => by simp at hk) (hs_stR (g := gg) (B := w.heap.size) (e := 81) (K := 2) (N := n) (cap := c1) (rs := (out.map pceCells)) (rs' := (out.set (n - 1) ⟨p.off,p.text ++ (bstr ([x] : List Int))⟩).map pceCells) (v := (.string (p.text ++ (bstr ([x] : List Int))))) (i := 1) (off := (n - 1) * 2 + 1) (n - 1) 1 [.int .i64 p.off,.string p.text] (row' := [.int .i64 p.off,.string (p.text ++ (bstr ([x] : List Int)))]) (hgg hpos) rfl (by kernel_rfl) rfl (by kernel_rfl) (by kernel_rfl) (by kernel_rfl) (by kernel_rfl) (Nat.le_refl _) (by simp only [List.getElem?_map,hp hpos]; rfl) (by kernel_rfl) rfl (by rw [List.map_set]; rfl)) ?_
 refine kZ ?_
 exact ⟨(g11),kF 0 0 [0,1,5,6]⟩
 intro g7
 refine kG ?_
 refine kRF 3 [0,1,5,6] ⟨[(0,.v (.slice Al l.length Cl)),(1,.v (.int .i64 (m : Int))),(5,.v (.slice A1 n c1)),(6,.v (.int .i64 (IntKind.i64.wrap ((i : Int) + 1))))],[],[],[rowF w.heap.size 81 2 (.slice A1 n c1) ((out.set (n - 1) ⟨p.off,p.text ++ (bstr ([x] : List Int))⟩).map pceCells),rowF w.heap.size 5 1 (.slice (some ⟨g7,0,none⟩) 1 1) (([x] : List Int).map byteRow),slF (.slice Al l.length Cl) 1 (l.map intRow)]⟩ ?_
 refine xl_eqS (t' := [(0,.v (.slice Al l.length Cl)),(1,.v (.int .i64 (m : Int))),(5,.v (.slice A1 n c1)),(6,.v (.int .i64 ((i : Int) + 1)))]) (by rw [show (IntKind.i64.wrap ((i : Int) + 1)) = ((i : Int) + 1) from wrap_id (by omega) (by omega)]) ?_
 refine kES [0,1,5,6] [(0,.v (.slice Al l.length Cl)),(1,.v (.int .i64 (m : Int))),(5,.v (.slice A1 n c1)),(6,.v (.int .i64 ((i : Int) + 1)))] ?_
 have hadd : addByte out (i - m) x = (out.set (n - 1) ⟨p.off,p.text ++ (bstr ([x] : List Int))⟩) := by first | (rw [addByte_set (p := p) (by rw [hn]; exact hp hpos) heq,hn]) | (exact if hz : 0 < n then addByte_far (p := p) (by rw [hn]; exact hp hz) (fun e => heqn ⟨hz,e⟩) else addByte_nil (by omega))
 exact ⟨⟨(i + 1,(out.set (n - 1) ⟨p.off,p.text ++ (bstr ([x] : List Int))⟩),A1,c1,n),⟨(by (try dsimp only); omega),(by rw [HP,hps,if_neg (by omega),hadd]),(by rw [← hadd]; intro q hq; have := addByte_bd hbd q hq; (try dsimp only); omega),(by simp [hn]),(by (try dsimp only); (try simp only [List.length_append,List.length_cons,List.length_nil]); omega)⟩⟩,(wk_pick [0,2] [rowF w.heap.size 81 2 (.slice A1 n c1) ((out.set (n - 1) ⟨p.off,p.text ++ (bstr ([x] : List Int))⟩).map pceCells),slF (.slice Al l.length Cl) 1 (l.map intRow)] (by kernel_rfl) (by kernel_rfl)).trans <| kF 0 0 [0,1,5,6],by show (fun (i : Nat) (out : List Pce) (A1 : Option Addr) (c1 : Nat) (n : Nat) => l.length - i) (i + 1) (out.set (n - 1) ⟨p.off,p.text ++ (bstr ([x] : List Int))⟩) A1 c1 n < l.length - i; (dsimp only; omega)⟩
 have heqn : ¬ (0 < n ∧ p.off + (p.text.size : Int) = ((i - m : Nat) : Int)) := fun e => by rw [hbq.2 e] at h5; cases h5
 refine kG ?_
 refine kOS 6 [0,1,5,6,64,67,68,69] [(0,.v (.slice Al l.length Cl)),(1,.v (.int .i64 (m : Int))),(5,.v (.slice A1 n c1)),(6,.v (.int .i64 (i : Int))),(64,.v (.slice A1 n c1)),(67,.v (.int .i64 (IntKind.i64.wrap ((i : Int) - (m : Int))))),(68,.v (.slice Al l.length Cl)),(69,.v (.int .i64 (i : Int)))] (.pointer (some ⟨bb,ob + i * 1,none⟩)) rfl (fun _ _ _ ww hr => act_ixO (kd := .i64) (T := 72) (e := 3) (K := 1) (b := bb) (off := ob) (N := l.length) (cap := Cl) i hbb hr.1 rfl rfl (by kernel_rfl) (by kernel_rfl) (by kernel_rfl) hlt ww) ?_
 refine kOS 0 [0,1,5,6,64,67,70] [(0,.v (.slice Al l.length Cl)),(1,.v (.int .i64 (m : Int))),(5,.v (.slice A1 n c1)),(6,.v (.int .i64 (i : Int))),(64,.v (.slice A1 n c1)),(67,.v (.int .i64 (IntKind.i64.wrap ((i : Int) - (m : Int))))),(70,.v (.pointer (some ⟨bb,ob + i * 1,none⟩)))] (.int .i64 x) rfl (fun _ _ _ ww hr => ldS_run (j := i) (row := [.int .i64 x]) (slF (.slice Al l.length Cl) 1 (l.map intRow)) hr rfl (by kernel_rfl) (by simp) (by simp only [List.getElem?_map,hx]; rfl) (by kernel_rfl) hbb rfl) ?_
 refine kHS 1 [0,1,5,6,64,67,72] [(0,.v (.slice Al l.length Cl)),(1,.v (.int .i64 (m : Int))),(5,.v (.slice A1 n c1)),(6,.v (.int .i64 (i : Int))),(64,.v (.slice A1 n c1)),(67,.v (.int .i64 (IntKind.i64.wrap ((i : Int) - (m : Int))))),(72,.v (.int .u8 (IntKind.u8.wrap x)))] rfl (hv_build (e := 5) (K := 1) (bytes := 1) [.int .u8 (IntKind.u8.wrap x)] rfl (by kernel_rfl) (by kernel_rfl) (by kernel_rfl) (by kernel_rfl) (by kernel_rfl) (rs := ([IntKind.u8.wrap x] : List Int).map byteRow) rfl) ?_
 intro g12
 refine kOS 0 [0,1,5,6,64,67,73] [(0,.v (.slice Al l.length Cl)),(1,.v (.int .i64 (m : Int))),(5,.v (.slice A1 n c1)),(6,.v (.int .i64 (i : Int))),(64,.v (.slice A1 n c1)),(67,.v (.int .i64 (IntKind.i64.wrap ((i : Int) - (m : Int))))),(73,.v (.slice (some ⟨g12,0,none⟩) 1 1))] (.string (bstr ([IntKind.u8.wrap x] : List Int))) rfl (fun _ _ _ ww hr => act_b2s (e := 5) ([IntKind.u8.wrap x] : List Int) hr.1 rfl (by kernel_rfl) (by kernel_rfl) (by kernel_rfl) rfl (rowF_sl (hr.2.fact (rowF w.heap.size 5 1 (.slice (some ⟨g12,0,none⟩) 1 1) (([IntKind.u8.wrap x] : List Int).map byteRow)) (by simp)).1)) ?_
 refine kOS 0 [0,1,5,6,64,67,74] [(0,.v (.slice Al l.length Cl)),(1,.v (.int .i64 (m : Int))),(5,.v (.slice A1 n c1)),(6,.v (.int .i64 (i : Int))),(64,.v (.slice A1 n c1)),(67,.v (.int .i64 (IntKind.i64.wrap ((i : Int) - (m : Int))))),(74,.v (.string (bstr ([IntKind.u8.wrap x] : List Int))))] (.agg (pceL (⟨IntKind.i64.wrap ((i : Int) - (m : Int)),bstr ([IntKind.u8.wrap x] : List Int)⟩ : Pce)).toArray) rfl (fun _ _ _ ww hr => act_build [(0,.int .i64 (IntKind.i64.wrap ((i : Int) - (m : Int)))),(1,.string (bstr ([IntKind.u8.wrap x] : List Int)))] hr.1 rfl (by kernel_rfl) (by kernel_rfl) ww) ?_
 refine kHS 0 [0,1,5,6,64,75] [(0,.v (.slice Al l.length Cl)),(1,.v (.int .i64 (m : Int))),(5,.v (.slice A1 n c1)),(6,.v (.int .i64 (i : Int))),(64,.v (.slice A1 n c1)),(75,.v (.agg (pceL (⟨IntKind.i64.wrap ((i : Int) - (m : Int)),bstr ([IntKind.u8.wrap x] : List Int)⟩ : Pce)).toArray))] rfl (hv_build (e := 81) (K := 2) (bytes := 24) [.agg (pceL (⟨IntKind.i64.wrap ((i : Int) - (m : Int)),bstr ([IntKind.u8.wrap x] : List Int)⟩ : Pce)).toArray] rfl (by kernel_rfl) (by kernel_rfl) (by kernel_rfl) (by kernel_rfl) (by kernel_rfl) (rs := ([⟨IntKind.i64.wrap ((i : Int) - (m : Int)),bstr ([IntKind.u8.wrap x] : List Int)⟩] : List Pce).map pceCells) rfl) ?_
 intro g13
 refine kHS 0 [0,1,5,6,64,76] [(0,.v (.slice Al l.length Cl)),(1,.v (.int .i64 (m : Int))),(5,.v (.slice A1 n c1)),(6,.v (.int .i64 (i : Int))),(64,.v (.slice A1 n c1)),(76,.v (.slice (some ⟨g13,0,none⟩) 1 1))] rfl (hv_append (e := 81) (K := 2) (bytes := 24) (i := 2) (q := (out ++ ([⟨IntKind.i64.wrap ((i : Int) - (m : Int)),bstr ([IntKind.u8.wrap x] : List Int)⟩] : List Pce)).length) (new := ([⟨IntKind.i64.wrap ((i : Int) - (m : Int)),bstr ([IntKind.u8.wrap x] : List Int)⟩] : List Pce).map pceCells) (rs' := (out ++ ([⟨IntKind.i64.wrap ((i : Int) - (m : Int)),bstr ([IntKind.u8.wrap x] : List Int)⟩] : List Pce)).map pceCells) rfl rfl rfl rfl (by kernel_rfl) (by kernel_rfl) (by kernel_rfl) rfl (by simp) (by rw [List.map_append]) (by simp) (fun ww hf => (rowF_sl (hf (rowF w.heap.size 81 2 (.slice (some ⟨g13,0,none⟩) 1 1) (([⟨IntKind.i64.wrap ((i : Int) - (m : Int)),bstr ([IntKind.u8.wrap x] : List Int)⟩] : List Pce).map pceCells)) (by simp)))) (by intro r hr; obtain ⟨x,hx,rfl⟩ := List.mem_map.1 hr; exact ⟨rfl,by simp [pceCells,Value.oneCell']⟩) (by (try simp only [List.length_map,List.length_append,List.length_cons,List.length_nil,List.length_take,List.length_drop,maxLen]); omega) (by (try simp only [List.length_map,List.length_append,List.length_cons,List.length_nil,List.length_take,List.length_drop,maxLen]); omega)) ?_
 rintro ⟨v14a,v14c⟩
 refine kRS 1 [0,1,5,6] [(0,.v (.slice Al l.length Cl)),(1,.v (.int .i64 (m : Int))),(5,.v (.slice v14a ((out ++ ([⟨IntKind.i64.wrap ((i : Int) - (m : Int)),bstr ([IntKind.u8.wrap x] : List Int)⟩] : List Pce)).length) v14c)),(6,.v (.int .i64 (i : Int)))] ?_
 refine xl_eq (st' := ⟨[(0,.v (.slice Al l.length Cl)),(1,.v (.int .i64 (m : Int))),(5,.v (.slice v14a ((out ++ ([⟨((i - m : Nat) : Int),bstr ([x] : List Int)⟩] : List Pce)).length) v14c)),(6,.v (.int .i64 (i : Int)))],[],[],[rowF w.heap.size 81 2 (.slice v14a ((out ++ ([⟨((i - m : Nat) : Int),bstr ([x] : List Int)⟩] : List Pce)).length) v14c) ((out ++ ([⟨((i - m : Nat) : Int),bstr ([x] : List Int)⟩] : List Pce)).map pceCells),rowF w.heap.size 81 2 (.slice (some ⟨g13,0,none⟩) 1 1) (([⟨((i - m : Nat) : Int),bstr ([x] : List Int)⟩] : List Pce).map pceCells),rowF w.heap.size 5 1 (.slice (some ⟨g12,0,none⟩) 1 1) (([x] : List Int).map byteRow),slF (.slice Al l.length Cl) 1 (l.map intRow)]⟩) (by rw [show (IntKind.i64.wrap ((i : Int) - (m : Int))) = ((i - m : Nat) : Int) from by rw [wrap_id (by omega) (by omega)]; omega,show (IntKind.u8.wrap x) = x from u8_id (by omega) (by omega)] <;> rfl) ?_
 refine kES [0,1,5,6] [(0,.v (.slice Al l.length Cl)),(1,.v (.int .i64 (m : Int))),(5,.v (.slice v14a ((out ++ ([⟨((i - m : Nat) : Int),bstr ([x] : List Int)⟩] : List Pce)).length) v14c)),(6,.v (.int .i64 (i : Int)))] ?_
 refine kG ?_
 refine kRS 3 [0,1,5,6] [(0,.v (.slice Al l.length Cl)),(1,.v (.int .i64 (m : Int))),(5,.v (.slice v14a ((out ++ ([⟨((i - m : Nat) : Int),bstr ([x] : List Int)⟩] : List Pce)).length) v14c)),(6,.v (.int .i64 (IntKind.i64.wrap ((i : Int) + 1))))] ?_
 refine xl_eqS (t' := [(0,.v (.slice Al l.length Cl)),(1,.v (.int .i64 (m : Int))),(5,.v (.slice v14a ((out ++ ([⟨((i - m : Nat) : Int),bstr ([x] : List Int)⟩] : List Pce)).length) v14c)),(6,.v (.int .i64 ((i : Int) + 1)))]) (by rw [show (IntKind.i64.wrap ((i : Int) + 1)) = ((i : Int) + 1) from wrap_id (by omega) (by omega)]) ?_
 refine kES [0,1,5,6] [(0,.v (.slice Al l.length Cl)),(1,.v (.int .i64 (m : Int))),(5,.v (.slice v14a ((out ++ ([⟨((i - m : Nat) : Int),bstr ([x] : List Int)⟩] : List Pce)).length) v14c)),(6,.v (.int .i64 ((i : Int) + 1)))] ?_
 have hadd : addByte out (i - m) x = (out ++ ([⟨((i - m : Nat) : Int),bstr ([x] : List Int)⟩] : List Pce)) := by first | (rw [addByte_set (p := p) (by rw [hn]; exact hp hpos) heq,hn]) | (exact if hz : 0 < n then addByte_far (p := p) (by rw [hn]; exact hp hz) (fun e => heqn ⟨hz,e⟩) else addByte_nil (by omega))
 exact ⟨⟨(i + 1,(out ++ ([⟨((i - m : Nat) : Int),bstr ([x] : List Int)⟩] : List Pce)),v14a,v14c,(out ++ ([⟨((i - m : Nat) : Int),bstr ([x] : List Int)⟩] : List Pce)).length),⟨(by (try dsimp only); omega),(by rw [HP,hps,if_neg (by omega),hadd]),(by rw [← hadd]; intro q hq; have := addByte_bd hbd q hq; (try dsimp only); omega),(by simp [hn]),(by (try dsimp only); (try simp only [List.length_append,List.length_cons,List.length_nil]); omega)⟩⟩,(wk_pick [0,3] [rowF w.heap.size 81 2 (.slice v14a ((out ++ ([⟨((i - m : Nat) : Int),bstr ([x] : List Int)⟩] : List Pce)).length) v14c) ((out ++ ([⟨((i - m : Nat) : Int),bstr ([x] : List Int)⟩] : List Pce)).map pceCells),slF (.slice Al l.length Cl) 1 (l.map intRow)] (by kernel_rfl) (by kernel_rfl)).trans <| kF 0 0 [0,1,5,6],by show (fun (i : Nat) (out : List Pce) (A1 : Option Addr) (c1 : Nat) (n : Nat) => l.length - i) (i + 1) (out ++ ([⟨((i - m : Nat) : Int),bstr ([x] : List Int)⟩] : List Pce)) v14a v14c ((out ++ ([⟨((i - m : Nat) : Int),bstr ([x] : List Int)⟩] : List Pce)).length) < l.length - i; (dsimp only; omega)⟩
 have h2p := of_decide_eq_false h2
 have hge : i = l.length := by simp at h2; omega
 rw [hge,List.drop_length,pcs] at HP
 refine xw_exit ?_
 refine kQ ?_
 refine kES [4] [(4,.v (.slice A1 n c1))] ?_
 refine kR ?_
 have hmod : pcs [] 0 (l.drop m) = out := by exact HP
 exact ⟨[.slice A1 n c1],by kernel_rfl,fun w' hb hf ha => by rw [hmod,hn]; exact xo1 ((A1,c1)) rfl rfl (pW (hf _ m0) hB) hb⟩
theorem ysArrived_c (r : Rcv) (r_heldV : Value) (seq : Int) (text : ByteArray) (fin : Bool) (w : World) (hl_r_heldV : Sl w r_heldV 2 (r.held.map pceCells)) (hkn : r.held.length ≤ 1048576) (hm : ∀ p ∈ r.held, p.text.size ≤ 1048576) (hsz : r.data.size ≤ 4611686018427387904) (hts : text.size ≤ 4611686018427387904) (B : Nat) (hB : B ≤ w.heap.size) : Calls Try.prog 7 #[.agg (rcvL r r_heldV).toArray, .int .i64 seq, .string text, .bool fin] w fun e w' => XRs w w' e (α := Option Addr × Nat) (fun y => .agg (rcvL (arrived r seq text fin) (.slice y.1 ((arrived r seq text fin).held.length) y.2)).toArray) (fun y => [rowF B 81 2 (.slice y.1 ((arrived r seq text fin).held.length) y.2) ((arrived r seq text fin).held.map pceCells)]) := by
 obtain ⟨Arh,Crh,hvrh⟩ := hl_r_heldV.form
 rw [List.length_map] at hvrh; subst hvrh
 have hnrh := hl_r_heldV.len; rw [List.length_map] at hnrh
 have hqrh := Sl.capLe hl_r_heldV
 refine x_callsA (args := [.agg (rcvL r (.slice Arh r.held.length Crh)).toArray,.int .i64 seq,.string text,.bool fin]) (fn := Try.f7) [slF (.slice Arh r.held.length Crh) 2 (r.held.map pceCells)] Try.func7 rfl Try.ntmps7 rfl (by simp only [List.mem_cons,List.not_mem_nil,or_false,forall_eq_or_imp,forall_eq]; exact ⟨rfl,hl_r_heldV⟩) ?_
 refine kQ ?_
 refine kEF [1,2,3,4,8] ⟨[(1,.v (.int .i64 seq)),(2,.v (.string text)),(3,.v (.bool fin)),(4,.p 0 0),(8,.p 1 0)],[⟨28,rcvL r (.slice Arh r.held.length Crh)⟩,⟨28,rcvZ⟩],[],[slF (.slice Arh r.held.length Crh) 2 (r.held.map pceCells)]⟩ ?_
 refine kQ ?_
 refine kCD 1 [1,2,3,4,8,17] [(17,.v (.agg (rcvL r (.slice Arh r.held.length Crh)).toArray))] 32 [.agg (rcvL r (.slice Arh r.held.length Crh)).toArray] (some 18) rfl (xc_r fun ww hw hf => yl18Copy_c r (.slice Arh r.held.length Crh) ww (hf _ m0) (by assumption) w.heap.size hw) ?_
 rintro ⟨v1a,v1c⟩
 refine kEA [1,2,3,4,8,9] [(9,.p 2 0)] [⟨28,rcvL r (.slice v1a r.held.length v1c)⟩] ?_
 refine kS ?_
 refine kQ ?_
 refine kCD 1 [1,2,3,4,8,9,19] [(19,.v (.agg (rcvL r (.slice Arh r.held.length Crh)).toArray))] 33 [.agg (rcvL r (.slice Arh r.held.length Crh)).toArray] (some 20) rfl (xc_b fun ww hf => ysReceiverOk_c r (.slice Arh r.held.length Crh) ww (hf _ m1) (by assumption) (by omega)) ?_
 intro _
 refine kRD 2 [1,2,3,4,8,9,22] [(22,.v (.bool (!(receiverOk r))))] ?_
 refine kP 22 (!(receiverOk r)) (fun h2 => ?_) (fun h2 => ?_)
 have h2n := not_t h2
 refine kED [1,2,3,4,8,9,25] [(25,.v (.bool true))] ?_
 refine kT ?_
 refine kQ ?_
 refine kEU [8] [(8,.p 1 0)] 1 ⟨28,rcvL r (.slice v1a r.held.length v1c)⟩ ?_
 refine kR ?_
 have hmod : arrived r seq text fin = r := by first | exact arrived_over hrk (by assumption) (by rw [← hall,← hnf]; omega) | (unfold arrived; rw [if_neg (by grind)]; done) | (unfold arrived; rw [if_pos (by grind),← hall,← hnf,← hg2,← hfp]; first | (rw [if_pos (by omega)]; done) | (rw [if_neg (by omega),if_pos (by first | omega | simp_all)]; done) | (rw [if_neg (by omega),if_neg (by first | omega | simp_all)]; done))
 exact ⟨[.agg (rcvL r (.slice v1a r.held.length v1c)).toArray],by kernel_rfl,fun w' hb hf ha => by rw [hmod]; exact xo1 ((v1a,v1c)) rfl rfl (pW (hf _ m0) hB) hb⟩
 have h2n := not_f h2
 have hrk := h2n
 obtain ⟨hf0,hf1,hf2,hf3,hf4,hheld⟩ := rok_facts h2n
 have hwb := windowOf_bd r
 have hN := slotsOf_len r
 have hsqt := seqAdd_in seq (text.size : Int)
 refine kED [1,2,3,4,8,9,25] [(25,.v (.bool r.done))] ?_
 refine kC (r.done) (fun h3 => ?_) (fun h3 => ?_)
 refine kQ ?_
 refine kEU [8] [(8,.p 1 0)] 1 ⟨28,rcvL r (.slice v1a r.held.length v1c)⟩ ?_
 refine kR ?_
 have hmod : arrived r seq text fin = r := by first | exact arrived_over hrk (by assumption) (by rw [← hall,← hnf]; omega) | (unfold arrived; rw [if_neg (by grind)]; done) | (unfold arrived; rw [if_pos (by grind),← hall,← hnf,← hg2,← hfp]; first | (rw [if_pos (by omega)]; done) | (rw [if_neg (by omega),if_pos (by first | omega | simp_all)]; done) | (rw [if_neg (by omega),if_neg (by first | omega | simp_all)]; done))
 exact ⟨[.agg (rcvL r (.slice v1a r.held.length v1c)).toArray],by kernel_rfl,fun w' hb hf ha => by rw [hmod]; exact xo1 ((v1a,v1c)) rfl rfl (pW (hf _ m0) hB) hb⟩
 refine kK ?_
 refine kQ ?_
 refine kCD 1 [1,2,3,4,8,9,27] [(27,.v (.agg (rcvL r (.slice Arh r.held.length Crh)).toArray))] 34 [.agg (rcvL r (.slice Arh r.held.length Crh)).toArray] (some 28) rfl (xc_b fun ww hf => sWindowOf_c r.next r.data r.held (.slice Arh r.held.length Crh) r.fin r.done ww (by omega)) ?_
 intro _
 refine kED [1,2,3,4,8,9,10] [(10,.v (.int .i64 (windowOf r)))] ?_
 refine kQ ?_
 refine kCD 1 [1,2,3,4,8,9,10,29] [(29,.v (.agg (rcvL r (.slice Arh r.held.length Crh)).toArray))] 35 [.agg (rcvL r (.slice Arh r.held.length Crh)).toArray] (some 30) rfl (xc_r fun ww hw hf => yl18Slots_c r (.slice Arh r.held.length Crh) ww (hf _ m1) (by assumption) (by assumption) w.heap.size hw) ?_
 rintro ⟨v4a,v4c⟩
 refine kED [1,2,3,4,8,9,10,11] [(11,.v (.slice v4a ((slotsOf r).length) v4c))] ?_
 refine kS ?_
 refine kQ ?_
 refine kED [1,2,3,4,8,9,10,11,12] [(12,.v (.int .i64 0))] ?_
 refine xw_block ?_
 refine xw_know (φ := ∃ g,True → v4a = some ⟨g,0,none⟩) (fun _ _ _ _ hr => know_row hr (K := 1) (rs := (slotsOf r).map intRow) 0 rfl (j := 0) (row := intRow ((slotsOf r)[0]'(by omega))) (fun _ => by rw [List.getElem?_map,List.getElem?_eq_getElem (by omega)]; rfl)) ?_
 rintro ⟨gg,hgg⟩
 refine xw_loopW (α := {x : Nat × List Int // (fun (i : Nat) (sl : List Int) => i ≤ text.size ∧ sl.length = 33 ∧ sl = textN r seq text (slotsOf r) i) x.1 x.2}) (fun x => (fun (i : Nat) (sl : List Int) => (⟨[(1,.v (.int .i64 seq)),(2,.v (.string text)),(3,.v (.bool fin)),(4,.p 0 0),(8,.p 1 0),(9,.p 2 0),(10,.v (.int .i64 (windowOf r))),(11,.v (.slice v4a ((slotsOf r).length) v4c)),(12,.v (.int .i64 (i : Int)))],[⟨28,rcvL r (.slice Arh r.held.length Crh)⟩,⟨28,rcvZ⟩,⟨28,rcvL r (.slice v1a r.held.length v1c)⟩],[],[rowF w.heap.size 3 1 (.slice v4a ((slotsOf r).length) v4c) (sl.map intRow),rowF w.heap.size 81 2 (.slice v1a r.held.length v1c) (r.held.map pceCells),slF (.slice Arh r.held.length Crh) 2 (r.held.map pceCells)]⟩ : St)) x.1.1 x.1.2) (fun x => (fun (i : Nat) (sl : List Int) => text.size - i) x.1.1 x.1.2) ⟨(0,(slotsOf r)),⟨Nat.zero_le _,hN,rfl⟩⟩ ((wk_pick [0,1,2] [rowF w.heap.size 3 1 (.slice v4a ((slotsOf r).length) v4c) ((slotsOf r).map intRow),rowF w.heap.size 81 2 (.slice v1a r.held.length v1c) (r.held.map pceCells),slF (.slice Arh r.held.length Crh) 2 (r.held.map pceCells)] (by kernel_rfl) (by kernel_rfl)).trans <| kF 3 0 [1,2,3,4,8,9,10,11,12]) ?_
 rintro ⟨⟨i,sl⟩,hi,hl,HS⟩
 try dsimp only
 try dsimp only at hi hl HS
 refine kS ?_
 refine kQ ?_
 refine kES [1,2,3,4,8,9,10,11,12,34] [(1,.v (.int .i64 seq)),(2,.v (.string text)),(3,.v (.bool fin)),(4,.p 0 0),(8,.p 1 0),(9,.p 2 0),(10,.v (.int .i64 (windowOf r))),(11,.v (.slice v4a ((slotsOf r).length) v4c)),(12,.v (.int .i64 (i : Int))),(34,.v (.bool (decide ((i : Int) < (text.size : Int)))))] ?_
 refine kC (decide ((i : Int) < (text.size : Int))) (fun h5 => ?_) (fun h5 => ?_)
 have h5p := of_decide_eq_true h5
 have hlti : i < text.size := by simpa using h5
 have hbt := byteAt_rng text i
 have hsq := seqAdd_in seq (i : Int)
 refine kK ?_
 refine kS ?_
 refine xw_block ?_
 refine kS ?_
 refine xe_region0 [] (by kernel_rfl) (fun ρ σ => ?_)
 refine kTS [0,1,3,4] [41,38,37,1,2,3,4,8,9,10,11,12] 4 [(41,.v (.int .i64 r.next)),(38,.v (.int .i64 (i : Int))),(37,.v (.int .i64 seq)),(1,.v (.int .i64 seq)),(2,.v (.string text)),(3,.v (.bool fin)),(4,.p 0 0),(8,.p 1 0),(9,.p 2 0),(10,.v (.int .i64 (windowOf r))),(11,.v (.slice v4a ((slotsOf r).length) v4c)),(12,.v (.int .i64 (i : Int)))] ?_
 refine kA [2] ?_
 refine kSC 2 28 [.int .i64 seq,.int .i64 (i : Int)] (some 39) rfl (xc_s fun ww hf => sSeqAdd_c seq (i : Int) ww ) ?_
 intro _
 refine kTS [5] [42,1,2,3,4,8,9,10,11,12] 2 [(42,.v (.int .i64 (IntKind.i64.wrap ((seqAdd seq (i : Int)) - r.next)))),(1,.v (.int .i64 seq)),(2,.v (.string text)),(3,.v (.bool fin)),(4,.p 0 0),(8,.p 1 0),(9,.p 2 0),(10,.v (.int .i64 (windowOf r))),(11,.v (.slice v4a ((slotsOf r).length) v4c)),(12,.v (.int .i64 (i : Int)))] ?_
 refine xe_eqS (t := [(42,.v (.int .i64 (IntKind.i64.wrap ((seqAdd seq (i : Int)) - r.next)))),(1,.v (.int .i64 seq)),(2,.v (.string text)),(3,.v (.bool fin)),(4,.p 0 0),(8,.p 1 0),(9,.p 2 0),(10,.v (.int .i64 (windowOf r))),(11,.v (.slice v4a ((slotsOf r).length) v4c)),(12,.v (.int .i64 (i : Int)))]) (t' := [(42,.v (.int .i64 ((seqAdd seq (i : Int)) - r.next))),(1,.v (.int .i64 seq)),(2,.v (.string text)),(3,.v (.bool fin)),(4,.p 0 0),(8,.p 1 0),(9,.p 2 0),(10,.v (.int .i64 (windowOf r))),(11,.v (.slice v4a ((slotsOf r).length) v4c)),(12,.v (.int .i64 (i : Int)))]) (by rw [show (IntKind.i64.wrap ((seqAdd seq (i : Int)) - r.next)) = ((seqAdd seq (i : Int)) - r.next) from wrap_id (by omega) (by omega)]) ?_
 refine kA [6] ?_
 refine kSC 6 36 [.int .i64 ((seqAdd seq (i : Int)) - r.next)] (some 43) rfl (xc_s fun ww hf => sRest_c ((seqAdd seq (i : Int)) - r.next) ww ) ?_
 intro _
 refine xe_eqS (t := [(43,.v (.int .i64 (((seqAdd seq (i : Int)) - r.next) % 4294967296))),(42,.v (.int .i64 ((seqAdd seq (i : Int)) - r.next))),(1,.v (.int .i64 seq)),(2,.v (.string text)),(3,.v (.bool fin)),(4,.p 0 0),(8,.p 1 0),(9,.p 2 0),(10,.v (.int .i64 (windowOf r))),(11,.v (.slice v4a ((slotsOf r).length) v4c)),(12,.v (.int .i64 (i : Int)))]) (t' := [(43,.v (.int .i64 ((offN r seq i : Nat) : Int))),(42,.v (.int .i64 ((seqAdd seq (i : Int)) - r.next))),(1,.v (.int .i64 seq)),(2,.v (.string text)),(3,.v (.bool fin)),(4,.p 0 0),(8,.p 1 0),(9,.p 2 0),(10,.v (.int .i64 (windowOf r))),(11,.v (.slice v4a ((slotsOf r).length) v4c)),(12,.v (.int .i64 (i : Int)))]) (by rw [show (((seqAdd seq (i : Int)) - r.next) % 4294967296) = ((offN r seq i : Nat) : Int) from offN_eq r seq i]) ?_
 refine kTS [7] [13,1,2,3,4,8,9,10,11,12] 0 [(13,.v (.int .i64 ((offN r seq i : Nat) : Int))),(1,.v (.int .i64 seq)),(2,.v (.string text)),(3,.v (.bool fin)),(4,.p 0 0),(8,.p 1 0),(9,.p 2 0),(10,.v (.int .i64 (windowOf r))),(11,.v (.slice v4a ((slotsOf r).length) v4c)),(12,.v (.int .i64 (i : Int)))] ?_
 refine kZ ?_
 refine kQ ?_
 refine kRD 4 [1,2,3,4,8,9,10,11,12,13,47] [(47,.v (.bool (decide (((offN r seq i : Nat) : Int) < (windowOf r)))))] ?_
 refine kP 47 (decide (((offN r seq i : Nat) : Int) < (windowOf r))) (fun h6 => ?_) (fun h6 => ?_)
 have h6p := of_decide_eq_true h6
 obtain ⟨x,hx⟩ : ∃ x,sl[offN r seq i]? = some x := ⟨_,List.getElem?_eq_getElem (by omega)⟩
 have hsx := slotAt_of hx
 refine kRD 4 [1,2,3,4,8,9,10,11,12,13,47,51] [(47,.v (.bool true)),(51,.v (.bool (decide (r.fin < 0))))] ?_
 refine kP 51 (decide (r.fin < 0)) (fun h7 => ?_) (fun h7 => ?_)
 have h7p := of_decide_eq_true h7
 refine kOD 9 [1,2,3,4,8,9,10,11,12,13,58,59,60] [(58,.v (.bool true)),(59,.v (.slice v4a ((slotsOf r).length) v4c)),(60,.v (.int .i64 ((offN r seq i : Nat) : Int)))] (.pointer (some ⟨gg,(offN r seq i) * 1,none⟩)) rfl (fun _ _ _ ww hr => act_ix (kd := .i64) (T := 72) (e := 3) (K := 1) (g := gg) (N := ((slotsOf r).length)) (cap := v4c) (offN r seq i) (hgg trivial) hr.1 rfl rfl (by kernel_rfl) (by kernel_rfl) (by kernel_rfl) (by omega) ww) ?_
 refine kOD 0 [1,2,3,4,8,9,10,11,12,13,58,61] [] (.int .i64 x) rfl (fun _ _ _ ww hr => ldR_run (po := 0) (j := (offN r seq i)) (row := [.int .i64 x]) (rowF w.heap.size 3 1 (.slice v4a ((slotsOf r).length) v4c) (sl.map intRow)) hr rfl (by kernel_rfl) (by simp) (by simp only [List.getElem?_map,hx]; rfl) (by kernel_rfl) (hgg trivial) rfl rfl) ?_
 refine kED [1,2,3,4,8,9,10,11,12,13,64] [(64,.v (.bool (decide (x < 0))))] ?_
 refine kC (decide (x < 0)) (fun h8 => ?_) (fun h8 => ?_)
 have h8p := of_decide_eq_true h8
 refine kG ?_
 refine kOD 4 [1,2,3,4,8,9,10,11,12,65,66,67,68] [(65,.v (.slice v4a ((slotsOf r).length) v4c)),(66,.v (.int .i64 ((offN r seq i : Nat) : Int))),(67,.v (.string text)),(68,.v (.int .i64 (i : Int)))] (.int .u8 (byteAt text i)) rfl (fun _ _ _ ww hr => act_tix (kd := .i64) (t := text) i hr.1 rfl rfl (by kernel_rfl) (by kernel_rfl) hlti ww) ?_
 refine kOD 1 [1,2,3,4,8,9,10,11,12,65,66,70] [(70,.v (.int .i64 (IntKind.i64.wrap (byteAt text i))))] (.pointer (some ⟨gg,(offN r seq i) * 1,none⟩)) rfl (fun _ _ _ ww hr => act_ix (kd := .i64) (T := 72) (e := 3) (K := 1) (g := gg) (N := ((slotsOf r).length)) (cap := v4c) (offN r seq i) (hgg trivial) hr.1 rfl rfl (by kernel_rfl) (by kernel_rfl) (by kernel_rfl) (by omega) ww) ?_
 refine xl_hs 0 [1,2,3,4,8,9,10,11,12,70,71] ⟨[(1,.v (.int .i64 seq)),(2,.v (.string text)),(3,.v (.bool fin)),(4,.p 0 0),(8,.p 1 0),(9,.p 2 0),(10,.v (.int .i64 (windowOf r))),(11,.v (.slice v4a ((slotsOf r).length) v4c)),(12,.v (.int .i64 (i : Int))),(70,.v (.int .i64 (IntKind.i64.wrap (byteAt text i)))),(71,.v (.pointer (some ⟨gg,(offN r seq i) * 1,none⟩)))],[⟨28,rcvL r (.slice Arh r.held.length Crh)⟩,⟨28,rcvZ⟩,⟨28,rcvL r (.slice v1a r.held.length v1c)⟩],[],[rowF w.heap.size 3 1 (.slice v4a ((slotsOf r).length) v4c) (sl.map intRow),rowF w.heap.size 81 2 (.slice v1a r.held.length v1c) (r.held.map pceCells),slF (.slice Arh r.held.length Crh) 2 (r.held.map pceCells)]⟩ (by kernel_rfl) rfl (by kernel_rfl) rfl (by kernel_rfl) (HSg.hs (hs_stR (g := gg) (B := w.heap.size) (e := 3) (K := 1) (N := ((slotsOf r).length)) (cap := v4c) (rs := (sl.map intRow)) (rs' := (sl.set (offN r seq i) (IntKind.i64.wrap (byteAt text i))).map intRow) (v := (.int .i64 (IntKind.i64.wrap (byteAt text i)))) (i := 0) (off := (offN r seq i) * 1) (offN r seq i) 0 [.int .i64 x] (row' := [.int .i64 (IntKind.i64.wrap (byteAt text i))]) (hgg trivial) rfl (by kernel_rfl) rfl (by kernel_rfl) (by kernel_rfl) (by kernel_rfl) (by kernel_rfl) (Nat.le_refl _) (by simp only [List.getElem?_map,hx]; rfl) (by kernel_rfl) rfl (by rw [List.map_set]; rfl))) ?_
 refine kRS 0 [1,2,3,4,8,9,10,11,12] [(1,.v (.int .i64 seq)),(2,.v (.string text)),(3,.v (.bool fin)),(4,.p 0 0),(8,.p 1 0),(9,.p 2 0),(10,.v (.int .i64 (windowOf r))),(11,.v (.slice v4a ((slotsOf r).length) v4c)),(12,.v (.int .i64 (i : Int)))] ?_
 refine xl_eq (st' := ⟨[(1,.v (.int .i64 seq)),(2,.v (.string text)),(3,.v (.bool fin)),(4,.p 0 0),(8,.p 1 0),(9,.p 2 0),(10,.v (.int .i64 (windowOf r))),(11,.v (.slice v4a ((slotsOf r).length) v4c)),(12,.v (.int .i64 (i : Int)))],[⟨28,rcvL r (.slice Arh r.held.length Crh)⟩,⟨28,rcvZ⟩,⟨28,rcvL r (.slice v1a r.held.length v1c)⟩],[],[rowF w.heap.size 3 1 (.slice v4a ((slotsOf r).length) v4c) ((sl.set (offN r seq i) (byteAt text i)).map intRow),rowF w.heap.size 81 2 (.slice v1a r.held.length v1c) (r.held.map pceCells),slF (.slice Arh r.held.length Crh) 2 (r.held.map pceCells)]⟩) (by rw [show (IntKind.i64.wrap (byteAt text i)) = (byteAt text i) from wrap_id (by omega) (by omega)] <;> rfl) ?_
 refine kED [1,2,3,4,8,9,10,11,12] [] ?_
 refine kG ?_
 refine kRS 3 [1,2,3,4,8,9,10,11,12] [(1,.v (.int .i64 seq)),(2,.v (.string text)),(3,.v (.bool fin)),(4,.p 0 0),(8,.p 1 0),(9,.p 2 0),(10,.v (.int .i64 (windowOf r))),(11,.v (.slice v4a ((slotsOf r).length) v4c)),(12,.v (.int .i64 (IntKind.i64.wrap ((i : Int) + 1))))] ?_
 refine xl_eqS (t' := [(1,.v (.int .i64 seq)),(2,.v (.string text)),(3,.v (.bool fin)),(4,.p 0 0),(8,.p 1 0),(9,.p 2 0),(10,.v (.int .i64 (windowOf r))),(11,.v (.slice v4a ((slotsOf r).length) v4c)),(12,.v (.int .i64 ((i : Int) + 1)))]) (by rw [show (IntKind.i64.wrap ((i : Int) + 1)) = ((i : Int) + 1) from wrap_id (by omega) (by omega)]) ?_
 refine kED [1,2,3,4,8,9,10,11,12] [] ?_
 exact ⟨⟨(i + 1,(sl.set (offN r seq i) (byteAt text i))),⟨hlti,(by rw [List.length_set]; exact hl),(by rw [textN,← HS,textStep_eq]; first | (rw [if_pos (by refine ⟨by omega,by omega,?_⟩; rw [hsx]; omega)]) | (rw [if_neg (by intro hh; have hh1 := hh.1; have hh2 := hh.2.1; have hh3 := hh.2.2; (try rw [hsx] at hh3); omega)]))⟩⟩,kF 3 0 [1,2,3,4,8,9,10,11,12],by show (fun (i : Nat) (sl : List Int) => text.size - i) (i + 1) (sl.set (offN r seq i) (byteAt text i)) < text.size - i; (dsimp only; omega)⟩
 have h8p := of_decide_eq_false h8
 refine kK ?_
 refine kG ?_
 refine kRS 3 [1,2,3,4,8,9,10,11,12] [(1,.v (.int .i64 seq)),(2,.v (.string text)),(3,.v (.bool fin)),(4,.p 0 0),(8,.p 1 0),(9,.p 2 0),(10,.v (.int .i64 (windowOf r))),(11,.v (.slice v4a ((slotsOf r).length) v4c)),(12,.v (.int .i64 (IntKind.i64.wrap ((i : Int) + 1))))] ?_
 refine xl_eqS (t' := [(1,.v (.int .i64 seq)),(2,.v (.string text)),(3,.v (.bool fin)),(4,.p 0 0),(8,.p 1 0),(9,.p 2 0),(10,.v (.int .i64 (windowOf r))),(11,.v (.slice v4a ((slotsOf r).length) v4c)),(12,.v (.int .i64 ((i : Int) + 1)))]) (by rw [show (IntKind.i64.wrap ((i : Int) + 1)) = ((i : Int) + 1) from wrap_id (by omega) (by omega)]) ?_
 refine kED [1,2,3,4,8,9,10,11,12] [] ?_
 exact ⟨⟨(i + 1,sl),⟨hlti,hl,(by rw [textN,← HS,textStep_eq]; first | (rw [if_pos (by refine ⟨by omega,by omega,?_⟩; rw [hsx]; omega)]) | (rw [if_neg (by intro hh; have hh1 := hh.1; have hh2 := hh.2.1; have hh3 := hh.2.2; (try rw [hsx] at hh3); omega)]))⟩⟩,kF 3 0 [1,2,3,4,8,9,10,11,12],by show (fun (i : Nat) (sl : List Int) => text.size - i) (i + 1) sl < text.size - i; (dsimp only; omega)⟩
 have h7p := of_decide_eq_false h7
 refine kRD 7 [1,2,3,4,8,9,10,11,12,13,58] [(58,.v (.bool (decide (((offN r seq i : Nat) : Int) < r.fin))))] ?_
 refine kP 58 (decide (((offN r seq i : Nat) : Int) < r.fin)) (fun h9 => ?_) (fun h9 => ?_)
 have h9p := of_decide_eq_true h9
 refine kOD 2 [1,2,3,4,8,9,10,11,12,13,58,59,60] [(58,.v (.bool true)),(59,.v (.slice v4a ((slotsOf r).length) v4c)),(60,.v (.int .i64 ((offN r seq i : Nat) : Int)))] (.pointer (some ⟨gg,(offN r seq i) * 1,none⟩)) rfl (fun _ _ _ ww hr => act_ix (kd := .i64) (T := 72) (e := 3) (K := 1) (g := gg) (N := ((slotsOf r).length)) (cap := v4c) (offN r seq i) (hgg trivial) hr.1 rfl rfl (by kernel_rfl) (by kernel_rfl) (by kernel_rfl) (by omega) ww) ?_
 refine kOD 0 [1,2,3,4,8,9,10,11,12,13,58,61] [] (.int .i64 x) rfl (fun _ _ _ ww hr => ldR_run (po := 0) (j := (offN r seq i)) (row := [.int .i64 x]) (rowF w.heap.size 3 1 (.slice v4a ((slotsOf r).length) v4c) (sl.map intRow)) hr rfl (by kernel_rfl) (by simp) (by simp only [List.getElem?_map,hx]; rfl) (by kernel_rfl) (hgg trivial) rfl rfl) ?_
 refine kED [1,2,3,4,8,9,10,11,12,13,64] [(64,.v (.bool (decide (x < 0))))] ?_
 refine kC (decide (x < 0)) (fun h10 => ?_) (fun h10 => ?_)
 have h10p := of_decide_eq_true h10
 refine kG ?_
 refine kOD 4 [1,2,3,4,8,9,10,11,12,65,66,67,68] [(65,.v (.slice v4a ((slotsOf r).length) v4c)),(66,.v (.int .i64 ((offN r seq i : Nat) : Int))),(67,.v (.string text)),(68,.v (.int .i64 (i : Int)))] (.int .u8 (byteAt text i)) rfl (fun _ _ _ ww hr => act_tix (kd := .i64) (t := text) i hr.1 rfl rfl (by kernel_rfl) (by kernel_rfl) hlti ww) ?_
 refine kOD 1 [1,2,3,4,8,9,10,11,12,65,66,70] [(70,.v (.int .i64 (IntKind.i64.wrap (byteAt text i))))] (.pointer (some ⟨gg,(offN r seq i) * 1,none⟩)) rfl (fun _ _ _ ww hr => act_ix (kd := .i64) (T := 72) (e := 3) (K := 1) (g := gg) (N := ((slotsOf r).length)) (cap := v4c) (offN r seq i) (hgg trivial) hr.1 rfl rfl (by kernel_rfl) (by kernel_rfl) (by kernel_rfl) (by omega) ww) ?_
 refine xl_hs 0 [1,2,3,4,8,9,10,11,12,70,71] ⟨[(1,.v (.int .i64 seq)),(2,.v (.string text)),(3,.v (.bool fin)),(4,.p 0 0),(8,.p 1 0),(9,.p 2 0),(10,.v (.int .i64 (windowOf r))),(11,.v (.slice v4a ((slotsOf r).length) v4c)),(12,.v (.int .i64 (i : Int))),(70,.v (.int .i64 (IntKind.i64.wrap (byteAt text i)))),(71,.v (.pointer (some ⟨gg,(offN r seq i) * 1,none⟩)))],[⟨28,rcvL r (.slice Arh r.held.length Crh)⟩,⟨28,rcvZ⟩,⟨28,rcvL r (.slice v1a r.held.length v1c)⟩],[],[rowF w.heap.size 3 1 (.slice v4a ((slotsOf r).length) v4c) (sl.map intRow),rowF w.heap.size 81 2 (.slice v1a r.held.length v1c) (r.held.map pceCells),slF (.slice Arh r.held.length Crh) 2 (r.held.map pceCells)]⟩ (by kernel_rfl) rfl (by kernel_rfl) rfl (by kernel_rfl) (HSg.hs (hs_stR (g := gg) (B := w.heap.size) (e := 3) (K := 1) (N := ((slotsOf r).length)) (cap := v4c) (rs := (sl.map intRow)) (rs' := (sl.set (offN r seq i) (IntKind.i64.wrap (byteAt text i))).map intRow) (v := (.int .i64 (IntKind.i64.wrap (byteAt text i)))) (i := 0) (off := (offN r seq i) * 1) (offN r seq i) 0 [.int .i64 x] (row' := [.int .i64 (IntKind.i64.wrap (byteAt text i))]) (hgg trivial) rfl (by kernel_rfl) rfl (by kernel_rfl) (by kernel_rfl) (by kernel_rfl) (by kernel_rfl) (Nat.le_refl _) (by simp only [List.getElem?_map,hx]; rfl) (by kernel_rfl) rfl (by rw [List.map_set]; rfl))) ?_
 refine kRS 0 [1,2,3,4,8,9,10,11,12] [(1,.v (.int .i64 seq)),(2,.v (.string text)),(3,.v (.bool fin)),(4,.p 0 0),(8,.p 1 0),(9,.p 2 0),(10,.v (.int .i64 (windowOf r))),(11,.v (.slice v4a ((slotsOf r).length) v4c)),(12,.v (.int .i64 (i : Int)))] ?_
 refine xl_eq (st' := ⟨[(1,.v (.int .i64 seq)),(2,.v (.string text)),(3,.v (.bool fin)),(4,.p 0 0),(8,.p 1 0),(9,.p 2 0),(10,.v (.int .i64 (windowOf r))),(11,.v (.slice v4a ((slotsOf r).length) v4c)),(12,.v (.int .i64 (i : Int)))],[⟨28,rcvL r (.slice Arh r.held.length Crh)⟩,⟨28,rcvZ⟩,⟨28,rcvL r (.slice v1a r.held.length v1c)⟩],[],[rowF w.heap.size 3 1 (.slice v4a ((slotsOf r).length) v4c) ((sl.set (offN r seq i) (byteAt text i)).map intRow),rowF w.heap.size 81 2 (.slice v1a r.held.length v1c) (r.held.map pceCells),slF (.slice Arh r.held.length Crh) 2 (r.held.map pceCells)]⟩) (by rw [show (IntKind.i64.wrap (byteAt text i)) = (byteAt text i) from wrap_id (by omega) (by omega)] <;> rfl) ?_
 refine kED [1,2,3,4,8,9,10,11,12] [] ?_
 refine kG ?_
 refine kRS 3 [1,2,3,4,8,9,10,11,12] [(1,.v (.int .i64 seq)),(2,.v (.string text)),(3,.v (.bool fin)),(4,.p 0 0),(8,.p 1 0),(9,.p 2 0),(10,.v (.int .i64 (windowOf r))),(11,.v (.slice v4a ((slotsOf r).length) v4c)),(12,.v (.int .i64 (IntKind.i64.wrap ((i : Int) + 1))))] ?_
 refine xl_eqS (t' := [(1,.v (.int .i64 seq)),(2,.v (.string text)),(3,.v (.bool fin)),(4,.p 0 0),(8,.p 1 0),(9,.p 2 0),(10,.v (.int .i64 (windowOf r))),(11,.v (.slice v4a ((slotsOf r).length) v4c)),(12,.v (.int .i64 ((i : Int) + 1)))]) (by rw [show (IntKind.i64.wrap ((i : Int) + 1)) = ((i : Int) + 1) from wrap_id (by omega) (by omega)]) ?_
 refine kED [1,2,3,4,8,9,10,11,12] [] ?_
 exact ⟨⟨(i + 1,(sl.set (offN r seq i) (byteAt text i))),⟨hlti,(by rw [List.length_set]; exact hl),(by rw [textN,← HS,textStep_eq]; first | (rw [if_pos (by refine ⟨by omega,by omega,?_⟩; rw [hsx]; omega)]) | (rw [if_neg (by intro hh; have hh1 := hh.1; have hh2 := hh.2.1; have hh3 := hh.2.2; (try rw [hsx] at hh3); omega)]))⟩⟩,kF 3 0 [1,2,3,4,8,9,10,11,12],by show (fun (i : Nat) (sl : List Int) => text.size - i) (i + 1) (sl.set (offN r seq i) (byteAt text i)) < text.size - i; (dsimp only; omega)⟩
 have h10p := of_decide_eq_false h10
 refine kK ?_
 refine kG ?_
 refine kRS 3 [1,2,3,4,8,9,10,11,12] [(1,.v (.int .i64 seq)),(2,.v (.string text)),(3,.v (.bool fin)),(4,.p 0 0),(8,.p 1 0),(9,.p 2 0),(10,.v (.int .i64 (windowOf r))),(11,.v (.slice v4a ((slotsOf r).length) v4c)),(12,.v (.int .i64 (IntKind.i64.wrap ((i : Int) + 1))))] ?_
 refine xl_eqS (t' := [(1,.v (.int .i64 seq)),(2,.v (.string text)),(3,.v (.bool fin)),(4,.p 0 0),(8,.p 1 0),(9,.p 2 0),(10,.v (.int .i64 (windowOf r))),(11,.v (.slice v4a ((slotsOf r).length) v4c)),(12,.v (.int .i64 ((i : Int) + 1)))]) (by rw [show (IntKind.i64.wrap ((i : Int) + 1)) = ((i : Int) + 1) from wrap_id (by omega) (by omega)]) ?_
 refine kED [1,2,3,4,8,9,10,11,12] [] ?_
 exact ⟨⟨(i + 1,sl),⟨hlti,hl,(by rw [textN,← HS,textStep_eq]; first | (rw [if_pos (by refine ⟨by omega,by omega,?_⟩; rw [hsx]; omega)]) | (rw [if_neg (by intro hh; have hh1 := hh.1; have hh2 := hh.2.1; have hh3 := hh.2.2; (try rw [hsx] at hh3); omega)]))⟩⟩,kF 3 0 [1,2,3,4,8,9,10,11,12],by show (fun (i : Nat) (sl : List Int) => text.size - i) (i + 1) sl < text.size - i; (dsimp only; omega)⟩
 have h9p := of_decide_eq_false h9
 refine kED [1,2,3,4,8,9,10,11,12,13,64] [(64,.v (.bool false))] ?_
 refine kN ?_
 refine kK ?_
 refine kG ?_
 refine kRS 3 [1,2,3,4,8,9,10,11,12] [(1,.v (.int .i64 seq)),(2,.v (.string text)),(3,.v (.bool fin)),(4,.p 0 0),(8,.p 1 0),(9,.p 2 0),(10,.v (.int .i64 (windowOf r))),(11,.v (.slice v4a ((slotsOf r).length) v4c)),(12,.v (.int .i64 (IntKind.i64.wrap ((i : Int) + 1))))] ?_
 refine xl_eqS (t' := [(1,.v (.int .i64 seq)),(2,.v (.string text)),(3,.v (.bool fin)),(4,.p 0 0),(8,.p 1 0),(9,.p 2 0),(10,.v (.int .i64 (windowOf r))),(11,.v (.slice v4a ((slotsOf r).length) v4c)),(12,.v (.int .i64 ((i : Int) + 1)))]) (by rw [show (IntKind.i64.wrap ((i : Int) + 1)) = ((i : Int) + 1) from wrap_id (by omega) (by omega)]) ?_
 refine kED [1,2,3,4,8,9,10,11,12] [] ?_
 exact ⟨⟨(i + 1,sl),⟨hlti,hl,(by rw [textN,← HS,textStep_eq]; first | (rw [if_pos (by refine ⟨by omega,by omega,?_⟩; rw [hsx]; omega)]) | (rw [if_neg (by intro hh; have hh1 := hh.1; have hh2 := hh.2.1; have hh3 := hh.2.2; (try rw [hsx] at hh3); omega)]))⟩⟩,kF 3 0 [1,2,3,4,8,9,10,11,12],by show (fun (i : Nat) (sl : List Int) => text.size - i) (i + 1) sl < text.size - i; (dsimp only; omega)⟩
 have h6p := of_decide_eq_false h6
 refine kED [1,2,3,4,8,9,10,11,12,13,64] [(64,.v (.bool false))] ?_
 refine kN ?_
 refine kK ?_
 refine kG ?_
 refine kRS 3 [1,2,3,4,8,9,10,11,12] [(1,.v (.int .i64 seq)),(2,.v (.string text)),(3,.v (.bool fin)),(4,.p 0 0),(8,.p 1 0),(9,.p 2 0),(10,.v (.int .i64 (windowOf r))),(11,.v (.slice v4a ((slotsOf r).length) v4c)),(12,.v (.int .i64 (IntKind.i64.wrap ((i : Int) + 1))))] ?_
 refine xl_eqS (t' := [(1,.v (.int .i64 seq)),(2,.v (.string text)),(3,.v (.bool fin)),(4,.p 0 0),(8,.p 1 0),(9,.p 2 0),(10,.v (.int .i64 (windowOf r))),(11,.v (.slice v4a ((slotsOf r).length) v4c)),(12,.v (.int .i64 ((i : Int) + 1)))]) (by rw [show (IntKind.i64.wrap ((i : Int) + 1)) = ((i : Int) + 1) from wrap_id (by omega) (by omega)]) ?_
 refine kED [1,2,3,4,8,9,10,11,12] [] ?_
 exact ⟨⟨(i + 1,sl),⟨hlti,hl,(by rw [textN,← HS,textStep_eq]; first | (rw [if_pos (by refine ⟨by omega,by omega,?_⟩; rw [hsx]; omega)]) | (rw [if_neg (by intro hh; have hh1 := hh.1; have hh2 := hh.2.1; have hh3 := hh.2.2; (try rw [hsx] at hh3); omega)]))⟩⟩,kF 3 0 [1,2,3,4,8,9,10,11,12],by show (fun (i : Nat) (sl : List Int) => text.size - i) (i + 1) sl < text.size - i; (dsimp only; omega)⟩
 have h5p := of_decide_eq_false h5
 have hti : i = text.size := by simp at h5; omega
 subst hti
 have hall : sl = allIn r seq text := HS
 have hby : ∀ x ∈ sl,x ≤ 255 := by rw [hall]; exact allIn_le _ _ _
 refine xw_exit ?_
 refine kS ?_
 refine xe_region0 [] (by kernel_rfl) (fun ρ σ => ?_)
 refine kTS [0,1,2,4,5] [77,74,72,3,4,8,9,10,11] 4 [(77,.v (.int .i64 r.next)),(74,.v (.int .i64 (text.size : Int))),(72,.v (.int .i64 seq)),(3,.v (.bool fin)),(4,.p 0 0),(8,.p 1 0),(9,.p 2 0),(10,.v (.int .i64 (windowOf r))),(11,.v (.slice v4a ((slotsOf r).length) v4c))] ?_
 refine kA [3] ?_
 refine kSC 3 28 [.int .i64 seq,.int .i64 (text.size : Int)] (some 75) rfl (xc_s fun ww hf => sSeqAdd_c seq (text.size : Int) ww ) ?_
 intro _
 refine kTS [6] [78,3,4,8,9,10,11] 2 [(78,.v (.int .i64 (IntKind.i64.wrap ((seqAdd seq (text.size : Int)) - r.next)))),(3,.v (.bool fin)),(4,.p 0 0),(8,.p 1 0),(9,.p 2 0),(10,.v (.int .i64 (windowOf r))),(11,.v (.slice v4a ((slotsOf r).length) v4c))] ?_
 refine xe_eqS (t := [(78,.v (.int .i64 (IntKind.i64.wrap ((seqAdd seq (text.size : Int)) - r.next)))),(3,.v (.bool fin)),(4,.p 0 0),(8,.p 1 0),(9,.p 2 0),(10,.v (.int .i64 (windowOf r))),(11,.v (.slice v4a ((slotsOf r).length) v4c))]) (t' := [(78,.v (.int .i64 ((seqAdd seq (text.size : Int)) - r.next))),(3,.v (.bool fin)),(4,.p 0 0),(8,.p 1 0),(9,.p 2 0),(10,.v (.int .i64 (windowOf r))),(11,.v (.slice v4a ((slotsOf r).length) v4c))]) (by rw [show (IntKind.i64.wrap ((seqAdd seq (text.size : Int)) - r.next)) = ((seqAdd seq (text.size : Int)) - r.next) from wrap_id (by omega) (by omega)]) ?_
 refine kA [7] ?_
 refine kSC 7 36 [.int .i64 ((seqAdd seq (text.size : Int)) - r.next)] (some 79) rfl (xc_s fun ww hf => sRest_c ((seqAdd seq (text.size : Int)) - r.next) ww ) ?_
 intro _
 refine xe_eqS (t := [(79,.v (.int .i64 (((seqAdd seq (text.size : Int)) - r.next) % 4294967296))),(78,.v (.int .i64 ((seqAdd seq (text.size : Int)) - r.next))),(3,.v (.bool fin)),(4,.p 0 0),(8,.p 1 0),(9,.p 2 0),(10,.v (.int .i64 (windowOf r))),(11,.v (.slice v4a ((slotsOf r).length) v4c))]) (t' := [(79,.v (.int .i64 ((offN r seq text.size : Nat) : Int))),(78,.v (.int .i64 ((seqAdd seq (text.size : Int)) - r.next))),(3,.v (.bool fin)),(4,.p 0 0),(8,.p 1 0),(9,.p 2 0),(10,.v (.int .i64 (windowOf r))),(11,.v (.slice v4a ((slotsOf r).length) v4c))]) (by rw [show (((seqAdd seq (text.size : Int)) - r.next) % 4294967296) = ((offN r seq text.size : Nat) : Int) from offN_eq r seq text.size]) ?_
 refine kTS [8] [14,3,4,8,9,10,11] 0 [(14,.v (.int .i64 ((offN r seq text.size : Nat) : Int))),(3,.v (.bool fin)),(4,.p 0 0),(8,.p 1 0),(9,.p 2 0),(10,.v (.int .i64 (windowOf r))),(11,.v (.slice v4a ((slotsOf r).length) v4c))] ?_
 refine kZ ?_
 refine kS ?_
 refine xw_joinF (α := {zz : Int // (fun (fo : Int) => fo = finIn r seq text fin ∧ (-1 ≤ fo ∧ fo ≤ 32)) zz}) (fun zz => (fun (fo : Int) => (⟨[(4,.p 0 0),(8,.p 1 0),(9,.p 2 0),(11,.v (.slice v4a ((slotsOf r).length) v4c))],[⟨28,rcvL r (.slice Arh r.held.length Crh)⟩,⟨28,rcvZ⟩,⟨28,rcvL { r with fin := fo } (.slice v1a r.held.length v1c)⟩],[],[rowF w.heap.size 3 1 (.slice v4a ((slotsOf r).length) v4c) (sl.map intRow),rowF w.heap.size 81 2 (.slice v1a r.held.length v1c) (r.held.map pceCells),slF (.slice Arh r.held.length Crh) 2 (r.held.map pceCells)]⟩ : St)) zz.1) ?_ ?_
 refine kQ ?_
 refine kRD 2 [4,8,9,10,11,14,81] [(81,.v (.bool fin))] ?_
 refine kP 81 (fin) (fun h11 => ?_) (fun h11 => ?_)
 refine kRD 5 [4,8,9,10,11,14,86] [(86,.v (.bool (decide (r.fin < 0))))] ?_
 refine kP 86 (decide (r.fin < 0)) (fun h12 => ?_) (fun h12 => ?_)
 have h12p := of_decide_eq_true h12
 refine kRD 5 [4,8,9,11,14,91] [(91,.v (.bool (decide (((offN r seq text.size : Nat) : Int) ≤ (windowOf r)))))] ?_
 refine kP 91 (decide (((offN r seq text.size : Nat) : Int) ≤ (windowOf r))) (fun h13 => ?_) (fun h13 => ?_)
 have h13p := of_decide_eq_true h13
 refine kCD 2 [4,8,9,11,14,91,92,93] [(91,.v (.bool true)),(92,.v (.slice v4a ((slotsOf r).length) v4c)),(93,.v (.int .i64 ((offN r seq text.size : Nat) : Int)))] 37 [.slice v4a ((slotsOf r).length) v4c,.int .i64 ((offN r seq text.size : Nat) : Int)] (some 94) rfl (xc_b fun ww hf => yl18Free_c sl (.slice v4a ((slotsOf r).length) v4c) (offN r seq text.size : Nat) ww (rowF_sl (hf _ m0)) (by omega)) ?_
 intro _
 refine kED [4,8,9,11,14,95] [(95,.v (.bool (freeFrom sl (offN r seq text.size : Nat))))] ?_
 refine kC ((freeFrom sl (offN r seq text.size : Nat))) (fun h14 => ?_) (fun h14 => ?_)
 refine kG ?_
 refine kEU [4,8,9,11] [] 2 ⟨28,rcvL { r with fin := ((offN r seq text.size : Nat) : Int) } (.slice v1a r.held.length v1c)⟩ ?_
 exact ⟨⟨(((offN r seq text.size : Nat) : Int)),⟨(by unfold finIn; rw [← hall]; first | (simp [*]; done) | grind),(by first | omega | (have := hf3; omega))⟩⟩,kF 3 0 [4,8,9,11]⟩
 refine kK ?_
 exact ⟨⟨(r.fin),⟨(by unfold finIn; rw [← hall]; first | (simp [*]; done) | grind),(by first | omega | (have := hf3; omega))⟩⟩,kF 3 0 [4,8,9,11]⟩
 have h13p := of_decide_eq_false h13
 refine kED [4,8,9,11,14,95] [(95,.v (.bool false))] ?_
 refine kN ?_
 refine kK ?_
 exact ⟨⟨(r.fin),⟨(by unfold finIn; rw [← hall]; first | (simp [*]; done) | grind),(by first | omega | (have := hf3; omega))⟩⟩,kF 3 0 [4,8,9,11]⟩
 have h12p := of_decide_eq_false h12
 refine kED [4,8,9,11,14,95] [(95,.v (.bool false))] ?_
 refine kN ?_
 refine kK ?_
 exact ⟨⟨(r.fin),⟨(by unfold finIn; rw [← hall]; first | (simp [*]; done) | grind),(by first | omega | (have := hf3; omega))⟩⟩,kF 3 0 [4,8,9,11]⟩
 refine kED [4,8,9,11,14,95] [(95,.v (.bool false))] ?_
 refine kN ?_
 refine kK ?_
 exact ⟨⟨(r.fin),⟨(by unfold finIn; rw [← hall]; first | (simp [*]; done) | grind),(by first | omega | (have := hf3; omega))⟩⟩,kF 3 0 [4,8,9,11]⟩
 rintro ⟨fo,hfo,hfb⟩
 try dsimp only
 try dsimp only at hfo hfb
 refine kQ ?_
 refine kED [4,8,9,11,15] [(15,.v (.int .i64 0))] ?_
 refine kQ ?_
 refine kHD 0 [4,8,9,11,15] [] rfl (hv_build (e := 5) (K := 1) (bytes := 1) [] rfl (by kernel_rfl) (by kernel_rfl) (by kernel_rfl) (by kernel_rfl) (by kernel_rfl) (rs := ([] : List Int).map byteRow) rfl) ?_
 intro g15
 refine kED [4,8,9,11,15,16] [(16,.v (.slice (some ⟨g15,0,none⟩) 0 0))] ?_
 refine kS ?_
 refine xw_joinF (α := {zz : Nat × List Int × Option Addr × Nat // (fun (n2 : Nat) (gt : List Int) (A2 : Option Addr) (c2 : Nat) => n2 = filled sl ∧ gt = sl.take n2 ∧ n2 ≤ 33) zz.1 zz.2.1 zz.2.2.1 zz.2.2.2}) (fun zz => (fun (n2 : Nat) (gt : List Int) (A2 : Option Addr) (c2 : Nat) => (⟨[(4,.p 0 0),(8,.p 1 0),(9,.p 2 0),(11,.v (.slice v4a ((slotsOf r).length) v4c)),(15,.v (.int .i64 (n2 : Int))),(16,.v (.slice A2 gt.length c2))],[⟨28,rcvL r (.slice Arh r.held.length Crh)⟩,⟨28,rcvZ⟩,⟨28,rcvL { r with fin := fo } (.slice v1a r.held.length v1c)⟩],[],[rowF w.heap.size 5 1 (.slice A2 gt.length c2) (gt.map byteRow),rowF w.heap.size 3 1 (.slice v4a ((slotsOf r).length) v4c) (sl.map intRow),rowF w.heap.size 81 2 (.slice v1a r.held.length v1c) (r.held.map pceCells),slF (.slice Arh r.held.length Crh) 2 (r.held.map pceCells)]⟩ : St)) zz.1.1 zz.1.2.1 zz.1.2.2.1 zz.1.2.2.2) ?_ ?_
 refine xw_block ?_
 refine xw_loopW (α := {x : Nat × List Int × Option Addr × Nat // (fun (n2 : Nat) (gt : List Int) (A2 : Option Addr) (c2 : Nat) => n2 ≤ 33 ∧ gt = sl.take n2 ∧ (∀ x ∈ sl.take n2,0 ≤ x)) x.1 x.2.1 x.2.2.1 x.2.2.2}) (fun x => (fun (n2 : Nat) (gt : List Int) (A2 : Option Addr) (c2 : Nat) => (⟨[(4,.p 0 0),(8,.p 1 0),(9,.p 2 0),(11,.v (.slice v4a ((slotsOf r).length) v4c)),(15,.v (.int .i64 (n2 : Int))),(16,.v (.slice A2 gt.length c2))],[⟨28,rcvL r (.slice Arh r.held.length Crh)⟩,⟨28,rcvZ⟩,⟨28,rcvL { r with fin := fo } (.slice v1a r.held.length v1c)⟩],[],[rowF w.heap.size 5 1 (.slice A2 gt.length c2) (gt.map byteRow),rowF w.heap.size 3 1 (.slice v4a ((slotsOf r).length) v4c) (sl.map intRow),rowF w.heap.size 81 2 (.slice v1a r.held.length v1c) (r.held.map pceCells),slF (.slice Arh r.held.length Crh) 2 (r.held.map pceCells)]⟩ : St)) x.1.1 x.1.2.1 x.1.2.2.1 x.1.2.2.2) (fun x => (fun (n2 : Nat) (gt : List Int) (A2 : Option Addr) (c2 : Nat) => 33 - n2) x.1.1 x.1.2.1 x.1.2.2.1 x.1.2.2.2) ⟨(0,([] : List Int),(some ⟨g15,0,none⟩),0),⟨Nat.zero_le _,rfl,(by simp)⟩⟩ ((wk_pick [0,1,2,3] [rowF w.heap.size 5 1 (.slice (some ⟨g15,0,none⟩) 0 0) (([] : List Int).map byteRow),rowF w.heap.size 3 1 (.slice v4a ((slotsOf r).length) v4c) (sl.map intRow),rowF w.heap.size 81 2 (.slice v1a r.held.length v1c) (r.held.map pceCells),slF (.slice Arh r.held.length Crh) 2 (r.held.map pceCells)] (by kernel_rfl) (by kernel_rfl)).trans <| kF 3 0 [4,8,9,11,15,16]) ?_
 rintro ⟨⟨n2,gt,A2,c2⟩,hn2,hg2,hps⟩
 try dsimp only
 try dsimp only at hn2 hg2 hps
 refine kS ?_
 refine kQ ?_
 refine kRD 5 [4,8,9,11,15,16,103] [(103,.v (.bool (decide ((n2 : Int) < (((slotsOf r).length : Nat) : Int)))))] ?_
 refine kP 103 (decide ((n2 : Int) < (((slotsOf r).length : Nat) : Int))) (fun h16 => ?_) (fun h16 => ?_)
 have h16p := of_decide_eq_true h16
 have hlt2 : n2 < 33 := by simp at h16; omega
 obtain ⟨y,hy⟩ : ∃ y,sl[n2]? = some y := ⟨_,List.getElem?_eq_getElem (by omega)⟩
 have hy255 := hby y (List.mem_of_getElem? hy)
 have hgl : gt.length ≤ 33 := by rw [hg2,List.length_take]; omega
 refine kOD 2 [4,8,9,11,15,16,103,104,105] [(103,.v (.bool true)),(104,.v (.slice v4a ((slotsOf r).length) v4c)),(105,.v (.int .i64 (n2 : Int)))] (.pointer (some ⟨gg,n2 * 1,none⟩)) rfl (fun _ _ _ ww hr => act_ix (kd := .i64) (T := 72) (e := 3) (K := 1) (g := gg) (N := ((slotsOf r).length)) (cap := v4c) n2 (hgg trivial) hr.1 rfl rfl (by kernel_rfl) (by kernel_rfl) (by kernel_rfl) (by omega) ww) ?_
 refine kOD 0 [4,8,9,11,15,16,103,106] [] (.int .i64 y) rfl (fun _ _ _ ww hr => ldR_run (po := 0) (j := n2) (row := [.int .i64 y]) (rowF w.heap.size 3 1 (.slice v4a ((slotsOf r).length) v4c) (sl.map intRow)) hr rfl (by kernel_rfl) (by simp) (by simp only [List.getElem?_map,hy]; rfl) (by kernel_rfl) (hgg trivial) rfl rfl) ?_
 refine kED [4,8,9,11,15,16,109] [(109,.v (.bool (decide (y ≥ 0))))] ?_
 refine kC (decide (y ≥ 0)) (fun h17 => ?_) (fun h17 => ?_)
 have h17p := of_decide_eq_true h17
 refine kK ?_
 refine xw_block ?_
 refine kQ ?_
 refine kOD 3 [4,8,9,11,15,16,110,111,112] [(110,.v (.slice A2 gt.length c2)),(111,.v (.slice v4a ((slotsOf r).length) v4c)),(112,.v (.int .i64 (n2 : Int)))] (.pointer (some ⟨gg,n2 * 1,none⟩)) rfl (fun _ _ _ ww hr => act_ix (kd := .i64) (T := 72) (e := 3) (K := 1) (g := gg) (N := ((slotsOf r).length)) (cap := v4c) n2 (hgg trivial) hr.1 rfl rfl (by kernel_rfl) (by kernel_rfl) (by kernel_rfl) (by omega) ww) ?_
 refine kOD 0 [4,8,9,11,15,16,110,113] [] (.int .i64 y) rfl (fun _ _ _ ww hr => ldR_run (po := 0) (j := n2) (row := [.int .i64 y]) (rowF w.heap.size 3 1 (.slice v4a ((slotsOf r).length) v4c) (sl.map intRow)) hr rfl (by kernel_rfl) (by simp) (by simp only [List.getElem?_map,hy]; rfl) (by kernel_rfl) (hgg trivial) rfl rfl) ?_
 refine kHD 1 [4,8,9,11,15,16,110,115] [(115,.v (.int .u8 (IntKind.u8.wrap y)))] rfl (hv_build (e := 5) (K := 1) (bytes := 1) [.int .u8 (IntKind.u8.wrap y)] rfl (by kernel_rfl) (by kernel_rfl) (by kernel_rfl) (by kernel_rfl) (by kernel_rfl) (rs := ([IntKind.u8.wrap y] : List Int).map byteRow) rfl) ?_
 intro g18
 refine kHS 0 [4,8,9,11,15,16,110,116] [(4,.p 0 0),(8,.p 1 0),(9,.p 2 0),(11,.v (.slice v4a ((slotsOf r).length) v4c)),(15,.v (.int .i64 (n2 : Int))),(16,.v (.slice A2 gt.length c2)),(110,.v (.slice A2 gt.length c2)),(116,.v (.slice (some ⟨g18,0,none⟩) 1 1))] rfl (hv_append (e := 5) (K := 1) (bytes := 1) (i := 1) (q := (gt ++ ([IntKind.u8.wrap y] : List Int)).length) (new := ([IntKind.u8.wrap y] : List Int).map byteRow) (rs' := (gt ++ ([IntKind.u8.wrap y] : List Int)).map byteRow) rfl rfl rfl rfl (by kernel_rfl) (by kernel_rfl) (by kernel_rfl) rfl (by simp) (by rw [List.map_append]) (by simp) (fun ww hf => (rowF_sl (hf (rowF w.heap.size 5 1 (.slice (some ⟨g18,0,none⟩) 1 1) (([IntKind.u8.wrap y] : List Int).map byteRow)) (by simp)))) (by intro r hr; obtain ⟨x,hx,rfl⟩ := List.mem_map.1 hr; exact ⟨rfl,by simp [byteRow,Value.oneCell']⟩) (by (try simp only [List.length_map,List.length_append,List.length_cons,List.length_nil,List.length_take,List.length_drop,maxLen]); omega) (by (try simp only [List.length_map,List.length_append,List.length_cons,List.length_nil,List.length_take,List.length_drop,maxLen]); omega)) ?_
 rintro ⟨v19a,v19c⟩
 refine kRS 1 [4,8,9,11,15,16] [(4,.p 0 0),(8,.p 1 0),(9,.p 2 0),(11,.v (.slice v4a ((slotsOf r).length) v4c)),(15,.v (.int .i64 (n2 : Int))),(16,.v (.slice v19a ((gt ++ ([IntKind.u8.wrap y] : List Int)).length) v19c))] ?_
 refine xl_eq (st' := ⟨[(4,.p 0 0),(8,.p 1 0),(9,.p 2 0),(11,.v (.slice v4a ((slotsOf r).length) v4c)),(15,.v (.int .i64 (n2 : Int))),(16,.v (.slice v19a ((gt ++ ([y] : List Int)).length) v19c))],[⟨28,rcvL r (.slice Arh r.held.length Crh)⟩,⟨28,rcvZ⟩,⟨28,rcvL { r with fin := fo } (.slice v1a r.held.length v1c)⟩],[],[rowF w.heap.size 5 1 (.slice v19a ((gt ++ ([y] : List Int)).length) v19c) ((gt ++ ([y] : List Int)).map byteRow),rowF w.heap.size 5 1 (.slice (some ⟨g18,0,none⟩) 1 1) (([y] : List Int).map byteRow),rowF w.heap.size 3 1 (.slice v4a ((slotsOf r).length) v4c) (sl.map intRow),rowF w.heap.size 81 2 (.slice v1a r.held.length v1c) (r.held.map pceCells),slF (.slice Arh r.held.length Crh) 2 (r.held.map pceCells)]⟩) (by rw [show (IntKind.u8.wrap y) = y from u8_id (by omega) (by omega)] <;> rfl) ?_
 refine kED [4,8,9,11,15,16] [] ?_
 refine kG ?_
 refine kRS 3 [4,8,9,11,15,16] [(4,.p 0 0),(8,.p 1 0),(9,.p 2 0),(11,.v (.slice v4a ((slotsOf r).length) v4c)),(15,.v (.int .i64 (IntKind.i64.wrap ((n2 : Int) + 1)))),(16,.v (.slice v19a ((gt ++ ([y] : List Int)).length) v19c))] ?_
 refine xl_eqS (t' := [(4,.p 0 0),(8,.p 1 0),(9,.p 2 0),(11,.v (.slice v4a ((slotsOf r).length) v4c)),(15,.v (.int .i64 ((n2 : Int) + 1))),(16,.v (.slice v19a ((gt ++ ([y] : List Int)).length) v19c))]) (by rw [show (IntKind.i64.wrap ((n2 : Int) + 1)) = ((n2 : Int) + 1) from wrap_id (by omega) (by omega)]) ?_
 refine kED [4,8,9,11,15,16] [] ?_
 exact ⟨⟨(n2 + 1,(gt ++ ([y] : List Int)),v19a,v19c),⟨(by omega),(by rw [hg2,take_more hy]),(take_pos hps hy (by omega))⟩⟩,(wk_pick [0,2,3,4] [rowF w.heap.size 5 1 (.slice v19a ((gt ++ ([y] : List Int)).length) v19c) ((gt ++ ([y] : List Int)).map byteRow),rowF w.heap.size 3 1 (.slice v4a ((slotsOf r).length) v4c) (sl.map intRow),rowF w.heap.size 81 2 (.slice v1a r.held.length v1c) (r.held.map pceCells),slF (.slice Arh r.held.length Crh) 2 (r.held.map pceCells)] (by kernel_rfl) (by kernel_rfl)).trans <| kF 3 0 [4,8,9,11,15,16],by show (fun (n2 : Nat) (gt : List Int) (A2 : Option Addr) (c2 : Nat) => 33 - n2) (n2 + 1) (gt ++ ([y] : List Int)) v19a v19c < 33 - n2; (dsimp only; omega)⟩
 have h17p := of_decide_eq_false h17
 refine xw_exit ?_
 exact ⟨⟨(n2,gt,A2,c2),⟨(by first | exact (filled_stop (k := n2) (by omega) hps (fun z hz => by rw [hy] at hz; simp only [Option.some.injEq] at hz; omega)).symm | exact (filled_stop (k := n2) (by omega) hps (fun z hz => by rw [List.getElem?_eq_none (by omega)] at hz; simp at hz)).symm),hg2,hn2⟩⟩,kF 3 0 [4,8,9,11,15,16]⟩
 have h16p := of_decide_eq_false h16
 have hge2 : 33 ≤ n2 := by simp at h16; omega
 refine kED [4,8,9,11,15,16,109] [(109,.v (.bool false))] ?_
 refine kN ?_
 refine xw_exit ?_
 exact ⟨⟨(n2,gt,A2,c2),⟨(by first | exact (filled_stop (k := n2) (by omega) hps (fun z hz => by rw [hy] at hz; simp only [Option.some.injEq] at hz; omega)).symm | exact (filled_stop (k := n2) (by omega) hps (fun z hz => by rw [List.getElem?_eq_none (by omega)] at hz; simp at hz)).symm),hg2,hn2⟩⟩,kF 3 0 [4,8,9,11,15,16]⟩
 rintro ⟨⟨n2,gt,A2,c2⟩,hnf,hg2,hn2⟩
 try dsimp only
 try dsimp only at hnf hg2 hn2
 have hbl := bstr_len gt
 have hgl : gt.length ≤ 33 := by rw [hg2,List.length_take]; omega
 refine kQ ?_
 refine kOD 3 [4,8,9,11,15,121,122] [(121,.v (.string r.data)),(122,.v (.slice A2 gt.length c2))] (.string (bstr gt)) rfl (fun _ _ _ ww hr => act_b2s (e := 5) gt hr.1 rfl (by kernel_rfl) (by kernel_rfl) (by kernel_rfl) rfl (rowF_sl (hr.2.fact (rowF w.heap.size 5 1 (.slice A2 gt.length c2) (gt.map byteRow)) (by simp)).1)) ?_
 refine kOD 0 [4,8,9,11,15,121,123] [] (.string (r.data ++ (bstr gt))) rfl (fun _ _ _ ww hr => act_bin hr.1 rfl (by kernel_rfl) (by kernel_rfl) (str_add (by first | omega | (simp only [ByteArray.size_extract]; omega)) ww)) ?_
 refine kEU [4,8,9,11,15] [] 2 ⟨28,rcvL { r with data := r.data ++ (bstr gt),fin := fo } (.slice v1a r.held.length v1c)⟩ ?_
 refine kQ ?_
 refine kCD 3 [4,8,9,11,15,127,128] [(127,.v (.int .i64 r.next)),(128,.v (.int .i64 (n2 : Int)))] 28 [.int .i64 r.next,.int .i64 (n2 : Int)] (some 129) rfl (xc_s fun ww hf => sSeqAdd_c r.next (n2 : Int) ww ) ?_
 intro _
 refine kEU [4,8,9,11,15] [] 2 ⟨28,[.int .i64 (seqAdd r.next (n2 : Int)),.string (r.data ++ (bstr gt)),.slice v1a r.held.length v1c,.int .i64 fo,.bool r.done]⟩ ?_
 refine kQ ?_
 refine kCD 2 [4,8,9,15,131,132] [(131,.v (.slice v4a ((slotsOf r).length) v4c)),(132,.v (.int .i64 (n2 : Int)))] 38 [.slice v4a ((slotsOf r).length) v4c,.int .i64 (n2 : Int)] (some 133) rfl (xc_r fun ww hw hf => yl18Pieces_c sl (.slice v4a ((slotsOf r).length) v4c) n2 ww (rowF_sl (hf _ m1)) (by omega) (by omega) (by assumption) w.heap.size hw) ?_
 rintro ⟨v20a,v20c⟩
 refine kEU [4,8,9,15] [] 2 ⟨28,[.int .i64 (seqAdd r.next (n2 : Int)),.string (r.data ++ (bstr gt)),.slice v20a ((pcs [] 0 (sl.drop n2)).length) v20c,.int .i64 fo,.bool r.done]⟩ ?_
 refine kS ?_
 refine xw_joinF (α := {zz : Int // (fun (fp : Int) => fp = finOut r seq text fin) zz}) (fun zz => (fun (fp : Int) => (⟨[(4,.p 0 0),(8,.p 1 0),(9,.p 2 0)],[⟨28,rcvL r (.slice Arh r.held.length Crh)⟩,⟨28,rcvZ⟩,⟨28,[.int .i64 (seqAdd r.next (n2 : Int)),.string (r.data ++ (bstr gt)),.slice v20a ((pcs [] 0 (sl.drop n2)).length) v20c,.int .i64 fp,.bool r.done]⟩],[],[rowF w.heap.size 81 2 (.slice v20a ((pcs [] 0 (sl.drop n2)).length) v20c) ((pcs [] 0 (sl.drop n2)).map pceCells),rowF w.heap.size 5 1 (.slice A2 gt.length c2) (gt.map byteRow),rowF w.heap.size 3 1 (.slice v4a ((slotsOf r).length) v4c) (sl.map intRow),rowF w.heap.size 81 2 (.slice v1a r.held.length v1c) (r.held.map pceCells),slF (.slice Arh r.held.length Crh) 2 (r.held.map pceCells)]⟩ : St)) zz.1) ?_ ?_
 refine kQ ?_
 refine kES [4,8,9,15,137] [(4,.p 0 0),(8,.p 1 0),(9,.p 2 0),(15,.v (.int .i64 (n2 : Int))),(137,.v (.bool (decide (fo ≥ 0))))] ?_
 refine kC (decide (fo ≥ 0)) (fun h21 => ?_) (fun h21 => ?_)
 have h21p := of_decide_eq_true h21
 refine kG ?_
 refine kRF 6 [4,8,9] ⟨[(4,.p 0 0),(8,.p 1 0),(9,.p 2 0)],[⟨28,rcvL r (.slice Arh r.held.length Crh)⟩,⟨28,rcvZ⟩,⟨28,[.int .i64 (seqAdd r.next (n2 : Int)),.string (r.data ++ (bstr gt)),.slice v20a ((pcs [] 0 (sl.drop n2)).length) v20c,.int .i64 (IntKind.i64.wrap (fo - (n2 : Int))),.bool r.done]⟩],[],[rowF w.heap.size 81 2 (.slice v20a ((pcs [] 0 (sl.drop n2)).length) v20c) ((pcs [] 0 (sl.drop n2)).map pceCells),rowF w.heap.size 5 1 (.slice A2 gt.length c2) (gt.map byteRow),rowF w.heap.size 3 1 (.slice v4a ((slotsOf r).length) v4c) (sl.map intRow),rowF w.heap.size 81 2 (.slice v1a r.held.length v1c) (r.held.map pceCells),slF (.slice Arh r.held.length Crh) 2 (r.held.map pceCells)]⟩ ?_
 refine xl_eq (st' := ⟨[(4,.p 0 0),(8,.p 1 0),(9,.p 2 0)],[⟨28,rcvL r (.slice Arh r.held.length Crh)⟩,⟨28,rcvZ⟩,⟨28,[.int .i64 (seqAdd r.next (n2 : Int)),.string (r.data ++ (bstr gt)),.slice v20a ((pcs [] 0 (sl.drop n2)).length) v20c,.int .i64 (fo - (n2 : Int)),.bool r.done]⟩],[],[rowF w.heap.size 81 2 (.slice v20a ((pcs [] 0 (sl.drop n2)).length) v20c) ((pcs [] 0 (sl.drop n2)).map pceCells),rowF w.heap.size 5 1 (.slice A2 gt.length c2) (gt.map byteRow),rowF w.heap.size 3 1 (.slice v4a ((slotsOf r).length) v4c) (sl.map intRow),rowF w.heap.size 81 2 (.slice v1a r.held.length v1c) (r.held.map pceCells),slF (.slice Arh r.held.length Crh) 2 (r.held.map pceCells)]⟩) (by rw [show (IntKind.i64.wrap (fo - (n2 : Int))) = (fo - (n2 : Int)) from wrap_id (by omega) (by omega)] <;> rfl) ?_
 refine kED [4,8,9] [] ?_
 exact ⟨⟨(fo - (n2 : Int)),(by unfold finOut; rw [← hall,← hnf,← hfo]; first | rw [if_pos (by omega)] | rw [if_neg (by omega)])⟩,kF 3 0 [4,8,9]⟩
 have h21p := of_decide_eq_false h21
 refine kK ?_
 exact ⟨⟨(fo),(by unfold finOut; rw [← hall,← hnf,← hfo]; first | rw [if_pos (by omega)] | rw [if_neg (by omega)])⟩,kF 3 0 [4,8,9]⟩
 rintro ⟨fp,hfp⟩
 try dsimp only
 try dsimp only at hfp
 refine kS ?_
 refine kQ ?_
 refine kES [4,8,9,145] [(4,.p 0 0),(8,.p 1 0),(9,.p 2 0),(145,.v (.bool (fp == 0)))] ?_
 refine kC (fp == 0) (fun h22 => ?_) (fun h22 => ?_)
 have h22p := eqT h22
 refine kQ ?_
 refine kEU [4,8,9] [] 2 ⟨28,[.int .i64 (seqAdd r.next (n2 : Int)),.string (r.data ++ (bstr gt)),.slice v20a ((pcs [] 0 (sl.drop n2)).length) v20c,.int .i64 (-1),.bool r.done]⟩ ?_
 refine kQ ?_
 refine kEU [4,8,9] [] 2 ⟨28,[.int .i64 (seqAdd r.next (n2 : Int)),.string (r.data ++ (bstr gt)),.slice v20a ((pcs [] 0 (sl.drop n2)).length) v20c,.int .i64 (-1),.bool true]⟩ ?_
 refine kG ?_
 refine kCD 2 [4,8,9,149] [(149,.v (.int .i64 (seqAdd r.next (n2 : Int))))] 28 [.int .i64 (seqAdd r.next (n2 : Int)),.int .i64 1] (some 150) rfl (xc_s fun ww hf => sSeqAdd_c (seqAdd r.next (n2 : Int)) 1 ww ) ?_
 intro _
 refine kEU [4,8,9] [] 2 ⟨28,[.int .i64 (seqAdd (seqAdd r.next (n2 : Int)) 1),.string (r.data ++ (bstr gt)),.slice v20a ((pcs [] 0 (sl.drop n2)).length) v20c,.int .i64 (-1),.bool true]⟩ ?_
 refine kS ?_
 refine kQ ?_
 refine kED [4,8,9,155] [(155,.v (.bool (decide ((((pcs [] 0 (sl.drop n2)).length : Nat) : Int) > 3))))] ?_
 refine kC (decide ((((pcs [] 0 (sl.drop n2)).length : Nat) : Int) > 3)) (fun h23 => ?_) (fun h23 => ?_)
 have h23p := of_decide_eq_true h23
 refine kQ ?_
 refine kCD 1 [8,156] [(156,.v (.agg (rcvL r (.slice Arh r.held.length Crh)).toArray))] 32 [.agg (rcvL r (.slice Arh r.held.length Crh)).toArray] (some 157) rfl (xc_r fun ww hw hf => yl18Copy_c r (.slice Arh r.held.length Crh) ww (hf _ m4) (by assumption) w.heap.size hw) ?_
 rintro ⟨v24a,v24c⟩
 refine kEU [8] [(8,.p 1 0)] 1 ⟨28,rcvL r (.slice v24a r.held.length v24c)⟩ ?_
 refine kR ?_
 have hmod : arrived r seq text fin = r := by first | exact arrived_over hrk (by assumption) (by rw [← hall,← hnf]; omega) | (unfold arrived; rw [if_neg (by grind)]; done) | (unfold arrived; rw [if_pos (by grind),← hall,← hnf,← hg2,← hfp]; first | (rw [if_pos (by omega)]; done) | (rw [if_neg (by omega),if_pos (by first | omega | simp_all)]; done) | (rw [if_neg (by omega),if_neg (by first | omega | simp_all)]; done))
 exact ⟨[.agg (rcvL r (.slice v24a r.held.length v24c)).toArray],by kernel_rfl,fun w' hb hf ha => by rw [hmod]; exact xo1 ((v24a,v24c)) rfl rfl (pW (hf _ m0) hB) hb⟩
 have h23p := of_decide_eq_false h23
 refine kK ?_
 refine kQ ?_
 refine kEU [8] [(8,.p 1 0)] 1 ⟨28,[.int .i64 (seqAdd (seqAdd r.next (n2 : Int)) 1),.string (r.data ++ (bstr gt)),.slice v20a ((pcs [] 0 (sl.drop n2)).length) v20c,.int .i64 (-1),.bool true]⟩ ?_
 refine kR ?_
 have hmod : arrived r seq text fin = (⟨seqAdd (seqAdd r.next (n2 : Int)) 1,r.data ++ (bstr gt),(pcs [] 0 (sl.drop n2)),(-1),true⟩) := by first | exact arrived_over hrk (by assumption) (by rw [← hall,← hnf]; omega) | (unfold arrived; rw [if_neg (by grind)]; done) | (unfold arrived; rw [if_pos (by grind),← hall,← hnf,← hg2,← hfp]; first | (rw [if_pos (by omega)]; done) | (rw [if_neg (by omega),if_pos (by first | omega | simp_all)]; done) | (rw [if_neg (by omega),if_neg (by first | omega | simp_all)]; done))
 exact ⟨[.agg #[.int .i64 (seqAdd (seqAdd r.next (n2 : Int)) 1),.string (r.data ++ (bstr gt)),.slice v20a ((pcs [] 0 (sl.drop n2)).length) v20c,.int .i64 (-1),.bool true]],by kernel_rfl,fun w' hb hf ha => by rw [hmod]; exact xo1 ((v20a,v20c)) rfl rfl (pW (hf _ m0) hB) hb⟩
 have h22p := eqF h22
 refine kK ?_
 refine kS ?_
 refine kQ ?_
 refine kED [4,8,9,155] [(155,.v (.bool (decide ((((pcs [] 0 (sl.drop n2)).length : Nat) : Int) > 3))))] ?_
 refine kC (decide ((((pcs [] 0 (sl.drop n2)).length : Nat) : Int) > 3)) (fun h25 => ?_) (fun h25 => ?_)
 have h25p := of_decide_eq_true h25
 refine kQ ?_
 refine kCD 1 [8,156] [(156,.v (.agg (rcvL r (.slice Arh r.held.length Crh)).toArray))] 32 [.agg (rcvL r (.slice Arh r.held.length Crh)).toArray] (some 157) rfl (xc_r fun ww hw hf => yl18Copy_c r (.slice Arh r.held.length Crh) ww (hf _ m4) (by assumption) w.heap.size hw) ?_
 rintro ⟨v26a,v26c⟩
 refine kEU [8] [(8,.p 1 0)] 1 ⟨28,rcvL r (.slice v26a r.held.length v26c)⟩ ?_
 refine kR ?_
 have hmod : arrived r seq text fin = r := by first | exact arrived_over hrk (by assumption) (by rw [← hall,← hnf]; omega) | (unfold arrived; rw [if_neg (by grind)]; done) | (unfold arrived; rw [if_pos (by grind),← hall,← hnf,← hg2,← hfp]; first | (rw [if_pos (by omega)]; done) | (rw [if_neg (by omega),if_pos (by first | omega | simp_all)]; done) | (rw [if_neg (by omega),if_neg (by first | omega | simp_all)]; done))
 exact ⟨[.agg (rcvL r (.slice v26a r.held.length v26c)).toArray],by kernel_rfl,fun w' hb hf ha => by rw [hmod]; exact xo1 ((v26a,v26c)) rfl rfl (pW (hf _ m0) hB) hb⟩
 have h25p := of_decide_eq_false h25
 refine kK ?_
 refine kQ ?_
 refine kEU [8] [(8,.p 1 0)] 1 ⟨28,[.int .i64 (seqAdd r.next (n2 : Int)),.string (r.data ++ (bstr gt)),.slice v20a ((pcs [] 0 (sl.drop n2)).length) v20c,.int .i64 fp,.bool r.done]⟩ ?_
 refine kR ?_
 have hmod : arrived r seq text fin = (⟨seqAdd r.next (n2 : Int),r.data ++ (bstr gt),(pcs [] 0 (sl.drop n2)),fp,r.done⟩) := by first | exact arrived_over hrk (by assumption) (by rw [← hall,← hnf]; omega) | (unfold arrived; rw [if_neg (by grind)]; done) | (unfold arrived; rw [if_pos (by grind),← hall,← hnf,← hg2,← hfp]; first | (rw [if_pos (by omega)]; done) | (rw [if_neg (by omega),if_pos (by first | omega | simp_all)]; done) | (rw [if_neg (by omega),if_neg (by first | omega | simp_all)]; done))
 exact ⟨[.agg #[.int .i64 (seqAdd r.next (n2 : Int)),.string (r.data ++ (bstr gt)),.slice v20a ((pcs [] 0 (sl.drop n2)).length) v20c,.int .i64 fp,.bool r.done]],by kernel_rfl,fun w' hb hf ha => by rw [hmod]; exact xo1 ((v20a,v20c)) rfl rfl (pW (hf _ m0) hB) hb⟩
theorem arrStore_c (B gh gd bh bd W off : Nat) (sl : List Int) (x : Int) (w : World) (hB : B ≤ w.heap.size) (hF : (arrF B gh gd bh bd 78 59 4 5 W sl).p w) (hlen : W ≤ sl.length) (ho : off < W) (hx : 0 ≤ x ∧ x ≤ 255) : Calls Try.prog 42 #[.int .i64 (off : Int), .int .u8 x, .pointer (some ⟨gh, 0, none⟩), .pointer (some ⟨gd, 0, none⟩)] w fun e w' => e = .returned (.tuple #[]) ∧ (arrF B gh gd bh bd 78 59 4 5 W (stOne sl off x)).p w' ∧ Chgd (arrF B gh gd bh bd 78 59 4 5 W sl).blk w w' := by
 obtain ⟨hF4,hFa⟩ := hF
 simp only [List.mem_cons,List.not_mem_nil,or_false,forall_eq_or_imp,forall_eq] at hF4
 obtain ⟨hF1,hF2,hF3,hF5⟩ := hF4
 obtain ⟨z,hz⟩ : ∃ z,sl[off]? = some z := ⟨_,List.getElem?_eq_getElem (by omega)⟩
 refine x_callsMA (args := [.int .i64 (off : Int),.int .u8 x,.pointer (some ⟨gh,0,none⟩),.pointer (some ⟨gd,0,none⟩)]) (fn := Try.f42) [cellF B gh 78 [.slice (some ⟨bh,0,none⟩) W W],cellF B gd 59 [.slice (some ⟨bd,0,none⟩) W W],rowF B 4 1 (.slice (some ⟨bh,0,none⟩) W W) ((hvOf W sl).map boolRow),rowF B 5 1 (.slice (some ⟨bd,0,none⟩) W W) ((dtOf W sl).map byteRow),frF w (arrF B gh gd bh bd 78 59 4 5 W sl).blk] B Try.func42 rfl Try.ntmps42 rfl hB (by simp only [List.mem_cons,List.not_mem_nil,or_false,forall_eq_or_imp,forall_eq]; exact ⟨hF1,hF2,hF3,hF5,frF_start w _⟩) (apart_frS hFa fun g hg b hb => ⟨g,hg,hb⟩) ?_
 refine kQ ?_
 refine kOF 0 [0,1,2,3] ⟨[(0,.v (.int .i64 (off : Int))),(1,.v (.int .u8 x)),(2,.v (.pointer (some ⟨gh,0,none⟩))),(3,.v (.pointer (some ⟨gd,0,none⟩)))],[],[],[cellF B gh 78 [.slice (some ⟨bh,0,none⟩) W W],cellF B gd 59 [.slice (some ⟨bd,0,none⟩) W W],rowF B 4 1 (.slice (some ⟨bh,0,none⟩) W W) ((hvOf W sl).map boolRow),rowF B 5 1 (.slice (some ⟨bd,0,none⟩) W W) ((dtOf W sl).map byteRow),frF w (arrF B gh gd bh bd 78 59 4 5 W sl).blk]⟩ (.slice (some ⟨bh,0,none⟩) W W) rfl (fun _ _ _ ww hr => ldP_run (off := 0) (B := B) (g := gh) (T := 78) (cs := [.slice (some ⟨bh,0,none⟩) W W]) hr rfl (by kernel_rfl) (by simp) (by kernel_rfl)) ?_
 refine kOD 1 [0,1,2,3,6,7] [(7,.v (.int .i64 (off : Int)))] (.pointer (some ⟨bh,off * 1,none⟩)) rfl (fun _ _ _ ww hr => act_ix (kd := .i64) (T := 78) (e := 4) (K := 1) (g := bh) (N := W) (cap := W) off rfl hr.1 rfl rfl (by kernel_rfl) (by kernel_rfl) (by kernel_rfl) ho ww) ?_
 refine kOD 0 [0,1,2,3,8] [] (.bool (decide (0 ≤ z))) rfl (fun _ _ _ ww hr => ldR_run (po := 0) (j := off) (row := [.bool (decide (0 ≤ z))]) (rowF B 4 1 (.slice (some ⟨bh,0,none⟩) W W) ((hvOf W sl).map boolRow)) hr rfl (by kernel_rfl) (by simp) (by simp only [List.getElem?_map,hvOf_get ho hz]; rfl) (by kernel_rfl) rfl rfl rfl) ?_
 refine kED [0,1,2,3,10] [(10,.v (.bool (!(decide (0 ≤ z)))))] ?_
 refine kC (!(decide (0 ≤ z))) (fun h1 => ?_) (fun h1 => ?_)
 have h1n := not_t h1
 have hzz := of_decide_eq_false h1n
 refine kQ ?_
 refine kOD 0 [0,1,2,3] [] (.slice (some ⟨bh,0,none⟩) W W) rfl (fun _ _ _ ww hr => ldP_run (off := 0) (B := B) (g := gh) (T := 78) (cs := [.slice (some ⟨bh,0,none⟩) W W]) hr rfl (by kernel_rfl) (by simp) (by kernel_rfl)) ?_
 refine kOD 1 [0,1,3,11,12] [(12,.v (.int .i64 (off : Int)))] (.pointer (some ⟨bh,off * 1,none⟩)) rfl (fun _ _ _ ww hr => act_ix (kd := .i64) (T := 78) (e := 4) (K := 1) (g := bh) (N := W) (cap := W) off rfl hr.1 rfl rfl (by kernel_rfl) (by kernel_rfl) (by kernel_rfl) ho ww) ?_
 refine xl_hs 0 [0,1,3,13] ⟨[(0,.v (.int .i64 (off : Int))),(1,.v (.int .u8 x)),(3,.v (.pointer (some ⟨gd,0,none⟩))),(13,.v (.pointer (some ⟨bh,off * 1,none⟩)))],[],[],[cellF B gh 78 [.slice (some ⟨bh,0,none⟩) W W],cellF B gd 59 [.slice (some ⟨bd,0,none⟩) W W],rowF B 4 1 (.slice (some ⟨bh,0,none⟩) W W) ((hvOf W sl).map boolRow),rowF B 5 1 (.slice (some ⟨bd,0,none⟩) W W) ((dtOf W sl).map byteRow),frF w (arrF B gh gd bh bd 78 59 4 5 W sl).blk]⟩ (by kernel_rfl) rfl (by kernel_rfl) rfl (by kernel_rfl) (HSg.hs (hs_stR (g := bh) (B := B) (e := 4) (K := 1) (N := W) (cap := W) (rs := ((hvOf W sl).map boolRow)) (rs' := ((hvOf W sl).set off true).map boolRow) (v := (.bool true)) (i := 2) (off := off * 1) off 0 [.bool (decide (0 ≤ z))] (row' := [.bool true]) rfl rfl (by kernel_rfl) rfl (by kernel_rfl) (by kernel_rfl) (by kernel_rfl) (by kernel_rfl) (cutW_le w B) (by simp only [List.getElem?_map,hvOf_get ho hz]; rfl) (by kernel_rfl) rfl (by rw [List.map_set]; rfl))) ?_
 refine kED [0,1,3] [] ?_
 refine kG ?_
 refine kOD 0 [0,1,3] [] (.slice (some ⟨bd,0,none⟩) W W) rfl (fun _ _ _ ww hr => ldP_run (off := 0) (B := B) (g := gd) (T := 59) (cs := [.slice (some ⟨bd,0,none⟩) W W]) hr rfl (by kernel_rfl) (by simp) (by kernel_rfl)) ?_
 refine kOD 2 [14,15,16] [(15,.v (.int .i64 (off : Int))),(16,.v (.int .u8 x))] (.pointer (some ⟨bd,off * 1,none⟩)) rfl (fun _ _ _ ww hr => act_ix (kd := .i64) (T := 59) (e := 5) (K := 1) (g := bd) (N := W) (cap := W) off rfl hr.1 rfl rfl (by kernel_rfl) (by kernel_rfl) (by kernel_rfl) ho ww) ?_
 refine xl_hs 0 [16,17] ⟨[(16,.v (.int .u8 x)),(17,.v (.pointer (some ⟨bd,off * 1,none⟩)))],[],[],[rowF B 4 1 (.slice (some ⟨bh,0,none⟩) W W) (((hvOf W sl).set off true).map boolRow),cellF B gh 78 [.slice (some ⟨bh,0,none⟩) W W],cellF B gd 59 [.slice (some ⟨bd,0,none⟩) W W],rowF B 5 1 (.slice (some ⟨bd,0,none⟩) W W) ((dtOf W sl).map byteRow),frF w (arrF B gh gd bh bd 78 59 4 5 W sl).blk]⟩ (by kernel_rfl) rfl (by kernel_rfl) rfl (by kernel_rfl) (HSg.hs (hs_stR (g := bd) (B := B) (e := 5) (K := 1) (N := W) (cap := W) (rs := ((dtOf W sl).map byteRow)) (rs' := ((dtOf W sl).set off x).map byteRow) (v := (.int .u8 x)) (i := 3) (off := off * 1) off 0 [.int .u8 (max z 0)] (row' := [.int .u8 x]) rfl rfl (by kernel_rfl) rfl (by kernel_rfl) (by kernel_rfl) (by kernel_rfl) (by kernel_rfl) (cutW_le w B) (by simp only [List.getElem?_map,dtOf_get ho hz]; rfl) (by kernel_rfl) rfl (by rw [List.map_set]; rfl))) ?_
 refine kES [] [] ?_
 exact ⟨[],by kernel_rfl,fun w' hb hf ha => ⟨rfl,(by rw [stOne_free hz (by omega)]; unfold arrF; rw [← hvOf_set hx.1,← dtOf_set hx.1]; exact allF_pick [2,3,1,0] hf ha (by kernel_rfl) (by kernel_rfl)),frF_chgd (hf (frF w (arrF B gh gd bh bd 78 59 4 5 W sl).blk) (by simp)) hb rfl rfl rfl⟩⟩
 have h1n := not_f h1
 have hzz := of_decide_eq_true h1n
 refine kK ?_
 exact ⟨[],by kernel_rfl,fun w' hb hf ha => ⟨rfl,(by rw [stOne_full hz (by omega)]; exact allF_pick [0,1,2,3] hf ha (by kernel_rfl) (by kernel_rfl)),frF_chgd (hf (frF w (arrF B gh gd bh bd 78 59 4 5 W sl).blk) (by simp)) hb rfl rfl rfl⟩⟩
theorem yIndexB_c (l : List Bool) (lV : Value) (b : Bool) (w : World) (hl_lV : Sl w lV 1 (l.map boolRow))  : Calls Try.prog 82 #[lV, .bool b] w fun e w' => e = .returned (.int .i64 (idxL b l 0)) ∧ Below w.heap.size w w' := by
 obtain ⟨Al,Cl,hvl⟩ := hl_lV.form
 rw [List.length_map] at hvl; subst hvl
 have hnl := hl_lV.len; rw [List.length_map] at hnl
 have hql := Sl.capLe hl_lV
 refine x_calls (args := [.slice Al l.length Cl,.bool b]) (fn := Try.f82) [slF (.slice Al l.length Cl) 1 (l.map boolRow)] Try.func82 rfl Try.ntmps82 rfl (by simp only [List.mem_cons,List.not_mem_nil,or_false,forall_eq_or_imp,forall_eq]; exact ⟨rfl,hl_lV⟩) ?_
 refine kQ ?_
 refine kEF [0,1] ⟨[(0,.v (.slice Al l.length Cl)),(1,.v (.bool b))],[],[],[slF (.slice Al l.length Cl) 1 (l.map boolRow)]⟩ ?_
 refine kS ?_
 refine kQ ?_
 refine kED [0,1,7,8] [(7,.v (.int .i64 ((l.length : Nat) : Int))),(8,.v (.int .i64 0))] ?_
 refine xw_block ?_
 refine xw_loopW (α := {x : Nat // (fun (k : Nat) => k ≤ l.length ∧ idxL b l 0 = idxL b (l.drop k) k) x}) (fun x => (fun (k : Nat) => (⟨[(0,.v (.slice Al l.length Cl)),(1,.v (.bool b)),(7,.v (.int .i64 ((l.length : Nat) : Int))),(8,.v (.int .i64 (k : Int)))],[],[],[slF (.slice Al l.length Cl) 1 (l.map boolRow)]⟩ : St)) x.1) (fun x => l.length - x.1) ⟨(0),⟨Nat.zero_le _,rfl⟩⟩ (kF 0 0 [0,1,7,8]) ?_
 rintro ⟨k,hk,HK⟩
 try dsimp only
 try dsimp only at hk HK
 refine kQ ?_
 refine kED [0,1,7,8,9] [(9,.v (.bool (decide ((k : Int) < ((l.length : Nat) : Int)))))] ?_
 refine kS ?_
 refine kC (decide ((k : Int) < ((l.length : Nat) : Int))) (fun h1 => ?_) (fun h1 => ?_)
 have h1p := of_decide_eq_true h1
 have hlt : k < l.length := by simpa using h1
 obtain ⟨x,hx⟩ : ∃ x,l[k]? = some x := ⟨_,List.getElem?_eq_getElem hlt⟩
 refine kK ?_
 refine kS ?_
 refine xw_block ?_
 refine kQ ?_
 refine kED [0,1,5,7,8] [(5,.v (.int .i64 (k : Int)))] ?_
 refine kQ ?_
 refine xl_indexD (kd := .i64) (T := 78) (e := 4) (K := 1) 3 [0,1,5,7,8,11,12,13] [(11,.v (.bool b)),(12,.v (.slice Al l.length Cl)),(13,.v (.int .i64 (k : Int)))] k [.bool x] (slF (.slice Al l.length Cl) 1 (l.map boolRow)) (by kernel_rfl) rfl (by kernel_rfl) rfl rfl (by kernel_rfl) (by kernel_rfl) (by kernel_rfl) (by kernel_rfl) hlt (by simp) (fun w h => h) (fun b h => h) (by simp only [List.getElem?_map,hx]; rfl) ?_
 refine kED [0,1,5,7,8,16] [(16,.v (.bool (b == x)))] ?_
 refine kC (b == x) (fun h2 => ?_) (fun h2 => ?_)
 have h2p := eqT h2
 refine kQ ?_
 refine kES [4] [(4,.v (.int .i64 (k : Int)))] ?_
 refine kR ?_
 have hmod : idxL b l 0 = (k : Int) := by first | exact HK | (rw [HK,drop_cons_of hx,idxL,if_pos (by assumption)])
 exact ⟨[.int .i64 (k : Int)],by kernel_rfl,fun w' hb hf => by rw [hmod]; exact ⟨rfl,hb⟩⟩
 have h2p := eqF h2
 refine kK ?_
 refine kG ?_
 refine kRS 2 [0,1,7,8] [(0,.v (.slice Al l.length Cl)),(1,.v (.bool b)),(7,.v (.int .i64 ((l.length : Nat) : Int))),(8,.v (.int .i64 (IntKind.i64.wrap ((k : Int) + 1))))] ?_
 refine xl_eqS (t' := [(0,.v (.slice Al l.length Cl)),(1,.v (.bool b)),(7,.v (.int .i64 ((l.length : Nat) : Int))),(8,.v (.int .i64 ((k : Int) + 1)))]) (by rw [show (IntKind.i64.wrap ((k : Int) + 1)) = ((k : Int) + 1) from wrap_id (by omega) (by omega)]) ?_
 refine kED [0,1,7,8] [] ?_
 exact ⟨⟨(k + 1),⟨by omega,by rw [HK,drop_cons_of hx,idxL,if_neg (by assumption)]⟩⟩,kF 0 0 [0,1,7,8],by show l.length - (k + 1) < l.length - k; omega⟩
 have h1p := of_decide_eq_false h1
 have hge : k = l.length := by simp at h1; omega
 subst hge; rw [List.drop_length] at HK
 refine xw_exit ?_
 refine kQ ?_
 refine kES [4] [(4,.v (.int .i64 (-1)))] ?_
 refine kR ?_
 have hmod : idxL b l 0 = (-1) := by first | exact HK | (rw [HK,drop_cons_of hx,idxL,if_pos (by assumption)])
 exact ⟨[.int .i64 (-1)],by kernel_rfl,fun w' hb hf => by rw [hmod]; exact ⟨rfl,hb⟩⟩
theorem yContainsB_c (l : List Bool) (lV : Value) (b : Bool) (w : World) (hl_lV : Sl w lV 1 (l.map boolRow))  : Calls Try.prog 44 #[lV, .bool b] w fun e w' => e = .returned (.bool (hasB l b)) ∧ Below w.heap.size w w' := by
 obtain ⟨Al,Cl,hvl⟩ := hl_lV.form
 rw [List.length_map] at hvl; subst hvl
 have hnl := hl_lV.len; rw [List.length_map] at hnl
 have hql := Sl.capLe hl_lV
 refine x_calls (args := [.slice Al l.length Cl,.bool b]) (fn := Try.f44) [slF (.slice Al l.length Cl) 1 (l.map boolRow)] Try.func44 rfl Try.ntmps44 rfl (by simp only [List.mem_cons,List.not_mem_nil,or_false,forall_eq_or_imp,forall_eq]; exact ⟨rfl,hl_lV⟩) ?_
 refine kQ ?_
 refine kEF [0,1] ⟨[(0,.v (.slice Al l.length Cl)),(1,.v (.bool b))],[],[],[slF (.slice Al l.length Cl) 1 (l.map boolRow)]⟩ ?_
 refine kQ ?_
 refine kCS 2 [5,6] [(5,.v (.slice Al l.length Cl)),(6,.v (.bool b))] 82 [.slice Al l.length Cl,.bool b] (some 7) rfl (xc_b fun ww hf => yIndexB_c l (.slice Al l.length Cl) b ww (hf _ m0) ) ?_
 intro _
 refine kES [4] [(4,.v (.bool (decide ((idxL b l 0) ≥ 0))))] ?_
 refine kR ?_
 have hmod : hasB l b = (decide ((idxL b l 0) ≥ 0)) := by first | exact (idx_has _ _ _).symm
 exact ⟨[.bool (decide ((idxL b l 0) ≥ 0))],by kernel_rfl,fun w' hb hf => by rw [hmod]; exact ⟨rfl,hb⟩⟩
end Go.Proofs.Ytebgmdiejgcoiaa
