/- Contracts that this law needs, part 1. -/
import Derived.Test.YtnmmhbhdcplfmaaYW
import Derived.Test.YtnmmhbhdcplfmaaA5
import Derived.Test.YtnmmhbhdcplfmaaD0
import Derived.Test.YtnmmhbhdcplfmaaYD
import Derived.Test.YtnmmhbhdcplfmaaE
import Derived.Test.YtnmmhbhdcplfmaaSPiece
import Derived.Test.YtnmmhbhdcplfmaaC1
import Derived.Test.YtnmmhbhdcplfmaaME
import Derived.Test.YtnmmhbhdcplfmaaMA
import Derived.Test.YtnmmhbhdcplfmaaMF
import Derived.Test.YtnmmhbhdcplfmaaMG
import Derived.Test.YtnmmhbhdcplfmaaMP
import Derived.Test.YtnmmhbhdcplfmaaMC
import Derived.Test.YtnmmhbhdcplfmaaXM
import Derived.Test.YtnmmhbhdcplfmaaMH
import Derived.Test.YtnmmhbhdcplfmaaMI
import Derived.Test.YtnmmhbhdcplfmaaA2
import Derived.Test.YtnmmhbhdcplfmaaXQ
import Derived.Test.YtnmmhbhdcplfmaaXS
import Derived.Test.YtnmmhbhdcplfmaaMJ
namespace Go.Proofs.Ytnmmhbhdcplfmaa
open Go.RowKit
set_option linter.unusedVariables false
set_option linter.unusedSimpArgs false
set_option maxRecDepth 100000

theorem ysReceiverOk_c (r : Rcv) (r_heldV : Value) (w : World) (hl_r_heldV : Sl w r_heldV 2 (r.held.map pceCells)) (hm : ∀ p ∈ r.held, p.text.size ≤ 1048576) (hsz : r.data.size ≤ 4611686018427387904) : Calls Try.prog 13 #[.agg (rcvL r r_heldV).toArray] w fun e w' => e = .returned (.bool (receiverOk r)) ∧ Below w.heap.size w w' := by
  have hw := windowOf_bd r
  obtain ⟨Arh,Crh,hvrh⟩ := hl_r_heldV.form
  rw [List.length_map] at hvrh; subst hvrh
  have hnrh := hl_r_heldV.len; rw [List.length_map] at hnrh
  have hqrh := Sl.capLe hl_r_heldV
  refine x_calls (args := [.agg (rcvL r (.slice Arh r.held.length Crh)).toArray]) (fn := Try.f13) [slF (.slice Arh r.held.length Crh) 2 (r.held.map pceCells)] Try.func13 rfl Try.ntmps13 rfl (by simp only [List.mem_cons,List.not_mem_nil,or_false,forall_eq_or_imp,forall_eq]; exact ⟨rfl,hl_r_heldV⟩) ?_
  refine xw_seq ?_
  refine xw_region ?_
  refine xl_end [1] ⟨[(1,.p 0 0)],[⟨26,rcvL r (.slice Arh r.held.length Crh)⟩],[],[slF (.slice Arh r.held.length Crh) 2 (r.held.map pceCells)]⟩ (by kernel_rfl) ?_
  refine xw_seq ?_
  refine xw_region ?_
  refine xl_callS 1 [1,7] [(1,.p 0 0),(7,.v (.agg (rcvL r (.slice Arh r.held.length Crh)).toArray))] 25 [.agg (rcvL r (.slice Arh r.held.length Crh)).toArray] (some 8) (by kernel_rfl) rfl (by kernel_rfl) rfl (by kernel_rfl) (xc_b fun ww hf => sWindowOf_c r.next r.data r.held (.slice Arh r.held.length Crh) r.fin r.done ww (by omega)) ?_
  intro _
  refine xl_endS [1,3] [(1,.p 0 0),(3,.v (.int .i64 (windowOf r)))] (by kernel_rfl) ?_
  refine xw_seq ?_
  refine xw_seq ?_
  refine xw_region ?_
  refine xl_callS 2 [1,3,10] [(1,.p 0 0),(3,.v (.int .i64 (windowOf r))),(10,.v (.int .i64 r.next))] 40 [.int .i64 r.next,.int .i64 32] (some 11) (by kernel_rfl) rfl (by kernel_rfl) rfl (by kernel_rfl) (xc_s fun ww hf => sWordOk32_c r.next ww) ?_
  intro _
  refine xl_runS 2 [1,3,13] [(1,.p 0 0),(3,.v (.int .i64 (windowOf r))),(13,.v (.bool (!(wordOk r.next 32))))] (by kernel_rfl) ?_
  refine xl_split 13 (b := !(wordOk r.next 32)) (by kernel_rfl) (fun h1 => ?_) (fun h1 => ?_)
  have h1n := not_t h1
  refine xl_endS [1,3,36] [(1,.p 0 0),(3,.v (.int .i64 (windowOf r))),(36,.v (.bool true))] (by kernel_rfl) ?_
  refine xw_true (by kernel_rfl) ?_
  refine xw_seq ?_
  refine xw_region ?_
  refine xl_endS [2] [(2,.v (.bool false))] (by kernel_rfl) ?_
  refine xw_ret ?_
  exact ⟨[.bool false],by kernel_rfl,fun w' hb hf => ⟨ret_bool (show (false : Bool) = receiverOk r from by first | rfl | (rw [HR,HK]; simp [*]; done) | (rw [HR,HK]; simp [*]; omega) | (rw [HR,HK]; grind [rcvPost]) | (simp [receiverOk,rcvPre, *]; done) | (simp [receiverOk,rcvPre, *]; omega) | grind [receiverOk,rcvPre]),hb⟩⟩
  have h1n := not_f h1
  refine xl_runS 6 [1,3,19] [(1,.p 0 0),(3,.v (.int .i64 (windowOf r))),(19,.v (.bool (decide ((r.data.size : Int) > 32))))] (by kernel_rfl) ?_
  refine xl_split 19 (b := decide ((r.data.size : Int) > 32)) (by kernel_rfl) (fun h2 => ?_) (fun h2 => ?_)
  have h2p : ((r.data.size : Int) > 32) := of_decide_eq_true h2
  refine xl_endS [1,3,36] [(1,.p 0 0),(3,.v (.int .i64 (windowOf r))),(36,.v (.bool true))] (by kernel_rfl) ?_
  refine xw_true (by kernel_rfl) ?_
  refine xw_seq ?_
  refine xw_region ?_
  refine xl_endS [2] [(2,.v (.bool false))] (by kernel_rfl) ?_
  refine xw_ret ?_
  exact ⟨[.bool false],by kernel_rfl,fun w' hb hf => ⟨ret_bool (show (false : Bool) = receiverOk r from by first | rfl | (rw [HR,HK]; simp [*]; done) | (rw [HR,HK]; simp [*]; omega) | (rw [HR,HK]; grind [rcvPost]) | (simp [receiverOk,rcvPre, *]; done) | (simp [receiverOk,rcvPre, *]; omega) | grind [receiverOk,rcvPre]),hb⟩⟩
  have h2p : ¬ ((r.data.size : Int) > 32) := of_decide_eq_false h2
  refine xl_runS 6 [1,3,25] [(1,.p 0 0),(3,.v (.int .i64 (windowOf r))),(25,.v (.bool (decide (((r.held.length : Nat) : Int) > 3))))] (by kernel_rfl) ?_
  refine xl_split 25 (b := decide (((r.held.length : Nat) : Int) > 3)) (by kernel_rfl) (fun h3 => ?_) (fun h3 => ?_)
  have h3p : (((r.held.length : Nat) : Int) > 3) := of_decide_eq_true h3
  refine xl_endS [1,3,36] [(1,.p 0 0),(3,.v (.int .i64 (windowOf r))),(36,.v (.bool true))] (by kernel_rfl) ?_
  refine xw_true (by kernel_rfl) ?_
  refine xw_seq ?_
  refine xw_region ?_
  refine xl_endS [2] [(2,.v (.bool false))] (by kernel_rfl) ?_
  refine xw_ret ?_
  exact ⟨[.bool false],by kernel_rfl,fun w' hb hf => ⟨ret_bool (show (false : Bool) = receiverOk r from by first | rfl | (rw [HR,HK]; simp [*]; done) | (rw [HR,HK]; simp [*]; omega) | (rw [HR,HK]; grind [rcvPost]) | (simp [receiverOk,rcvPre, *]; done) | (simp [receiverOk,rcvPre, *]; omega) | grind [receiverOk,rcvPre]),hb⟩⟩
  have h3p : ¬ (((r.held.length : Nat) : Int) > 3) := of_decide_eq_false h3
  refine xl_callS 3 [1,3,25,27,28] [(1,.p 0 0),(3,.v (.int .i64 (windowOf r))),(25,.v (.bool false)),(27,.v (.int .i64 r.fin)),(28,.v (.int .i64 (windowOf r)))] 41 [.int .i64 r.fin,.int .i64 (-1),.int .i64 (windowOf r)] (some 29) (by kernel_rfl) rfl (by kernel_rfl) rfl (by kernel_rfl) (xc_s fun ww hf => l1In_c r.fin (-1) (windowOf r) ww ) ?_
  intro _
  refine xl_runS 3 [1,3,32] [(1,.p 0 0),(3,.v (.int .i64 (windowOf r))),(32,.v (.bool (!(inB r.fin (-1) (windowOf r)))))] (by kernel_rfl) ?_
  refine xl_split 32 (b := !(inB r.fin (-1) (windowOf r))) (by kernel_rfl) (fun h4 => ?_) (fun h4 => ?_)
  have h4n := not_t h4
  refine xl_endS [1,3,36] [(1,.p 0 0),(3,.v (.int .i64 (windowOf r))),(36,.v (.bool true))] (by kernel_rfl) ?_
  refine xw_true (by kernel_rfl) ?_
  refine xw_seq ?_
  refine xw_region ?_
  refine xl_endS [2] [(2,.v (.bool false))] (by kernel_rfl) ?_
  refine xw_ret ?_
  exact ⟨[.bool false],by kernel_rfl,fun w' hb hf => ⟨ret_bool (show (false : Bool) = receiverOk r from by first | rfl | (rw [HR,HK]; simp [*]; done) | (rw [HR,HK]; simp [*]; omega) | (rw [HR,HK]; grind [rcvPost]) | (simp [receiverOk,rcvPre, *]; done) | (simp [receiverOk,rcvPre, *]; omega) | grind [receiverOk,rcvPre]),hb⟩⟩
  have h4n := not_f h4
  refine xl_endS [1,3,36] [(1,.p 0 0),(3,.v (.int .i64 (windowOf r))),(36,.v (.bool (r.fin == 0)))] (by kernel_rfl) ?_
  refine xw_cond (b := r.fin == 0) (by kernel_rfl) (fun h5 => ?_) (fun h5 => ?_)
  have h5p := eqT h5
  refine xw_seq ?_
  refine xw_region ?_
  refine xl_endS [2] [(2,.v (.bool false))] (by kernel_rfl) ?_
  refine xw_ret ?_
  exact ⟨[.bool false],by kernel_rfl,fun w' hb hf => ⟨ret_bool (show (false : Bool) = receiverOk r from by first | rfl | (rw [HR,HK]; simp [*]; done) | (rw [HR,HK]; simp [*]; omega) | (rw [HR,HK]; grind [rcvPost]) | (simp [receiverOk,rcvPre, *]; done) | (simp [receiverOk,rcvPre, *]; omega) | grind [receiverOk,rcvPre]),hb⟩⟩
  have h5p := eqF h5
  refine xw_skip ?_
  refine xw_seq ?_
  refine xw_region ?_
  refine xl_endS [1,3,4] [(1,.p 0 0),(3,.v (.int .i64 (windowOf r))),(4,.v (.int .i64 0))] (by kernel_rfl) ?_
  refine xw_seq ?_
  refine xw_seq ?_
  refine xw_region ?_
  refine xl_endS [1,3,4,5] [(1,.p 0 0),(3,.v (.int .i64 (windowOf r))),(4,.v (.int .i64 0)),(5,.v (.int .i64 0))] (by kernel_rfl) ?_
  refine xw_block ?_
  have hp : rcvPre r = true := by first | (simp [rcvPre, *]; done) | (simp [rcvPre, *]; omega) | grind [rcvPre]
  have hin := inB_tt.1 (rcvPre_iff.1 hp).2.2.2.1
  have HR := receiverOkS r hp
  refine xw_loopW (α := {x : Nat × Int // (fun (k : Nat) (z : Int) => k ≤ r.held.length ∧ 0 ≤ z ∧ z ≤ 32 ∧ heldOkS (windowOf r) r.fin 0 r.held = heldOkS (windowOf r) r.fin z (r.held.drop k)) x.1 x.2}) (fun x => (fun (k : Nat) (z : Int) => (⟨[(1,.p 0 0),(3,.v (.int .i64 (windowOf r))),(4,.v (.int .i64 z)),(5,.v (.int .i64 (k : Int)))],[⟨26,rcvL r (.slice Arh r.held.length Crh)⟩],[],[slF (.slice Arh r.held.length Crh) 2 (r.held.map pceCells)]⟩ : St)) x.1.1 x.1.2) (fun x => r.held.length - x.1.1) ⟨(0,0),⟨Nat.zero_le _,by omega,by omega,rfl⟩⟩ (wk_forget 1 0 [1,3,4,5] (by kernel_rfl) (by kernel_rfl) (by kernel_rfl)) ?_
  rintro ⟨⟨k,z⟩,hk,hz0,hz1,HK⟩
  refine xw_wk (Wk.of_eq (s' := ⟨[(1,.p 0 0),(3,.v (.int .i64 (windowOf r))),(4,.v (.int .i64 z)),(5,.v (.int .i64 (k : Int)))],[⟨26,rcvL r (.slice Arh r.held.length Crh)⟩],[],[slF (.slice Arh r.held.length Crh) 2 (r.held.map pceCells)]⟩) rfl) ?_
  try dsimp only at hk hz0 hz1 HK
  refine xw_seq ?_
  refine xw_seq ?_
  refine xw_region ?_
  refine xl_endS [1,3,4,5,41] [(1,.p 0 0),(3,.v (.int .i64 (windowOf r))),(4,.v (.int .i64 z)),(5,.v (.int .i64 (k : Int))),(41,.v (.bool (decide ((k : Int) < ((r.held.length : Nat) : Int)))))] (by kernel_rfl) ?_
  refine xw_cond (b := decide ((k : Int) < ((r.held.length : Nat) : Int))) (by kernel_rfl) (fun h6 => ?_) (fun h6 => ?_)
  have h6p : ((k : Int) < ((r.held.length : Nat) : Int)) := of_decide_eq_true h6
  have hlt : k < r.held.length := by simpa using h6
  obtain ⟨x,hx⟩ : ∃ x,r.held[k]? = some x := ⟨_,List.getElem?_eq_getElem hlt⟩
  have hxm := hm x (List.mem_of_getElem? hx)
  rw [drop_cons_of hx] at HK; simp only [heldOkS,heldOk] at HK
  refine xw_skip ?_
  refine xw_seq ?_
  refine xw_block ?_
  refine xw_seq ?_
  refine xw_region ?_
  refine xl_indexS (kd := .i64) (T := 24) (e := 65) (K := 2) 3 [1,3,4,5,45,46] [(1,.p 0 0),(3,.v (.int .i64 (windowOf r))),(4,.v (.int .i64 z)),(5,.v (.int .i64 (k : Int))),(45,.v (.slice Arh r.held.length Crh)),(46,.v (.int .i64 (k : Int)))] k [.int .i64 x.off,.string x.text] (slF (.slice Arh r.held.length Crh) 2 (r.held.map pceCells)) (by kernel_rfl) rfl (by kernel_rfl) rfl rfl (by kernel_rfl) (by kernel_rfl) (by kernel_rfl) (by kernel_rfl) hlt (by simp) (fun w h => h) (fun b h => h) (by simp only [List.getElem?_map,hx]; rfl) ?_
  refine xl_end [1,3,4,5,6] ⟨[(1,.p 0 0),(3,.v (.int .i64 (windowOf r))),(4,.v (.int .i64 z)),(5,.v (.int .i64 (k : Int))),(6,.p 1 0)],[⟨26,rcvL r (.slice Arh r.held.length Crh)⟩,⟨65,pceL x⟩],[[.int .i64 x.off,.string x.text]],[slF (.slice Arh r.held.length Crh) 2 (r.held.map pceCells)]⟩ (by kernel_rfl) ?_
  refine xw_seq ?_
  refine xw_seq ?_
  refine xw_region ?_
  refine xl_runS 4 [1,3,4,5,6,52] [(1,.p 0 0),(3,.v (.int .i64 (windowOf r))),(4,.v (.int .i64 z)),(5,.v (.int .i64 (k : Int))),(6,.p 1 0),(52,.v (.bool (x.text.toList == (⟨#[]⟩ : ByteArray).toList)))] (by kernel_rfl) ?_
  refine xl_split 52 (b := x.text.toList == (⟨#[]⟩ : ByteArray).toList) (by kernel_rfl) (fun h7 => ?_) (fun h7 => ?_)
  have h7p := h7; simp only [beq_iff_eq,bne_iff_ne,beq_eq_false_iff_ne,bne_eq_false_iff_eq,ne_eq,toList_lit0] at h7p
  refine xl_endS [1,3,5,6,73] [(1,.p 0 0),(3,.v (.int .i64 (windowOf r))),(5,.v (.int .i64 (k : Int))),(6,.p 1 0),(73,.v (.bool true))] (by kernel_rfl) ?_
  refine xw_true (by kernel_rfl) ?_
  refine xw_seq ?_
  refine xw_region ?_
  refine xl_endS [2] [(2,.v (.bool false))] (by kernel_rfl) ?_
  refine xw_ret ?_
  exact ⟨[.bool false],by kernel_rfl,fun w' hb hf => ⟨ret_bool (show (false : Bool) = receiverOk r from by first | rfl | (rw [HR,HK]; simp [*]; done) | (rw [HR,HK]; simp [*]; omega) | (rw [HR,HK]; grind [rcvPost]) | (simp [receiverOk,rcvPre, *]; done) | (simp [receiverOk,rcvPre, *]; omega) | grind [receiverOk,rcvPre]),hb⟩⟩
  have h7p := h7; simp only [beq_iff_eq,bne_iff_ne,beq_eq_false_iff_ne,bne_eq_false_iff_eq,ne_eq,toList_lit0] at h7p
  refine xl_runS 6 [1,3,5,6,53,54,55,56,58] [(1,.p 0 0),(3,.v (.int .i64 (windowOf r))),(5,.v (.int .i64 (k : Int))),(6,.p 1 0),(53,.p 1 0),(54,.v (.int .i64 x.off)),(55,.v (.int .i64 z)),(56,.v (.bool (decide (x.off ≤ z)))),(58,.v (.bool (decide (x.off ≤ z))))] (by kernel_rfl) ?_
  refine xl_split 58 (b := decide (x.off ≤ z)) (by kernel_rfl) (fun h8 => ?_) (fun h8 => ?_)
  have h8p : (x.off ≤ z) := of_decide_eq_true h8
  refine xl_endS [1,3,5,6,53,54,55,56,73] [(1,.p 0 0),(3,.v (.int .i64 (windowOf r))),(5,.v (.int .i64 (k : Int))),(6,.p 1 0),(53,.p 1 0),(54,.v (.int .i64 x.off)),(55,.v (.int .i64 z)),(56,.v (.bool (decide (x.off ≤ z)))),(73,.v (.bool true))] (by kernel_rfl) ?_
  refine xw_true (by kernel_rfl) ?_
  refine xw_seq ?_
  refine xw_region ?_
  refine xl_endS [2] [(2,.v (.bool false))] (by kernel_rfl) ?_
  refine xw_ret ?_
  exact ⟨[.bool false],by kernel_rfl,fun w' hb hf => ⟨ret_bool (show (false : Bool) = receiverOk r from by first | rfl | (rw [HR,HK]; simp [*]; done) | (rw [HR,HK]; simp [*]; omega) | (rw [HR,HK]; grind [rcvPost]) | (simp [receiverOk,rcvPre, *]; done) | (simp [receiverOk,rcvPre, *]; omega) | grind [receiverOk,rcvPre]),hb⟩⟩
  have h8p : ¬ (x.off ≤ z) := of_decide_eq_false h8
  refine xl_runS 6 [1,3,5,6,53,54,55,56,59,60,61,62,64] [(1,.p 0 0),(3,.v (.int .i64 (windowOf r))),(5,.v (.int .i64 (k : Int))),(6,.p 1 0),(53,.p 1 0),(54,.v (.int .i64 x.off)),(55,.v (.int .i64 z)),(56,.v (.bool (decide (x.off ≤ z)))),(59,.p 1 0),(60,.v (.int .i64 x.off)),(61,.v (.int .i64 (windowOf r))),(62,.v (.bool (decide (x.off > (windowOf r))))),(64,.v (.bool (decide (x.off > (windowOf r)))))] (by kernel_rfl) ?_
  refine xl_split 64 (b := decide (x.off > (windowOf r))) (by kernel_rfl) (fun h9 => ?_) (fun h9 => ?_)
  have h9p : (x.off > (windowOf r)) := of_decide_eq_true h9
  refine xl_endS [1,3,5,6,53,54,55,56,59,60,61,62,73] [(1,.p 0 0),(3,.v (.int .i64 (windowOf r))),(5,.v (.int .i64 (k : Int))),(6,.p 1 0),(53,.p 1 0),(54,.v (.int .i64 x.off)),(55,.v (.int .i64 z)),(56,.v (.bool (decide (x.off ≤ z)))),(59,.p 1 0),(60,.v (.int .i64 x.off)),(61,.v (.int .i64 (windowOf r))),(62,.v (.bool (decide (x.off > (windowOf r))))),(73,.v (.bool true))] (by kernel_rfl) ?_
  refine xw_true (by kernel_rfl) ?_
  refine xw_seq ?_
  refine xw_region ?_
  refine xl_endS [2] [(2,.v (.bool false))] (by kernel_rfl) ?_
  refine xw_ret ?_
  exact ⟨[.bool false],by kernel_rfl,fun w' hb hf => ⟨ret_bool (show (false : Bool) = receiverOk r from by first | rfl | (rw [HR,HK]; simp [*]; done) | (rw [HR,HK]; simp [*]; omega) | (rw [HR,HK]; grind [rcvPost]) | (simp [receiverOk,rcvPre, *]; done) | (simp [receiverOk,rcvPre, *]; omega) | grind [receiverOk,rcvPre]),hb⟩⟩
  have h9p : ¬ (x.off > (windowOf r)) := of_decide_eq_false h9
  refine xl_runS 9 [1,3,5,6,53,54,55,56,59,60,61,62,65,66,67,68,69,70,71,72,73] [(1,.p 0 0),(3,.v (.int .i64 (windowOf r))),(5,.v (.int .i64 (k : Int))),(6,.p 1 0),(53,.p 1 0),(54,.v (.int .i64 x.off)),(55,.v (.int .i64 z)),(56,.v (.bool (decide (x.off ≤ z)))),(59,.p 1 0),(60,.v (.int .i64 x.off)),(61,.v (.int .i64 (windowOf r))),(62,.v (.bool (decide (x.off > (windowOf r))))),(65,.p 1 0),(66,.v (.int .i64 x.off)),(67,.p 1 1),(68,.v (.string x.text)),(69,.v (.int .i64 (x.text.size : Int))),(70,.v (.int .i64 (IntKind.i64.wrap (x.off + (x.text.size : Int))))),(71,.v (.int .i64 (windowOf r))),(72,.v (.bool (decide ((IntKind.i64.wrap (x.off + (x.text.size : Int))) > (windowOf r))))),(73,.v (.bool (decide ((IntKind.i64.wrap (x.off + (x.text.size : Int))) > (windowOf r)))))] (by kernel_rfl) ?_
  refine xl_eqS (t' := [(1,.p 0 0),(3,.v (.int .i64 (windowOf r))),(5,.v (.int .i64 (k : Int))),(6,.p 1 0),(53,.p 1 0),(54,.v (.int .i64 x.off)),(55,.v (.int .i64 z)),(56,.v (.bool (decide (x.off ≤ z)))),(59,.p 1 0),(60,.v (.int .i64 x.off)),(61,.v (.int .i64 (windowOf r))),(62,.v (.bool (decide (x.off > (windowOf r))))),(65,.p 1 0),(66,.v (.int .i64 x.off)),(67,.p 1 1),(68,.v (.string x.text)),(69,.v (.int .i64 (x.text.size : Int))),(70,.v (.int .i64 (x.off + (x.text.size : Int)))),(71,.v (.int .i64 (windowOf r))),(72,.v (.bool (decide ((x.off + (x.text.size : Int)) > (windowOf r))))),(73,.v (.bool (decide ((x.off + (x.text.size : Int)) > (windowOf r)))))]) (by rw [show (IntKind.i64.wrap (x.off + (x.text.size : Int))) = (x.off + (x.text.size : Int)) from wrap_id (by omega) (by omega)]) ?_
  refine xl_endS [1,3,5,6,53,54,55,56,59,60,61,62,65,66,67,68,69,70,71,72,73] [(1,.p 0 0),(3,.v (.int .i64 (windowOf r))),(5,.v (.int .i64 (k : Int))),(6,.p 1 0),(53,.p 1 0),(54,.v (.int .i64 x.off)),(55,.v (.int .i64 z)),(56,.v (.bool (decide (x.off ≤ z)))),(59,.p 1 0),(60,.v (.int .i64 x.off)),(61,.v (.int .i64 (windowOf r))),(62,.v (.bool (decide (x.off > (windowOf r))))),(65,.p 1 0),(66,.v (.int .i64 x.off)),(67,.p 1 1),(68,.v (.string x.text)),(69,.v (.int .i64 (x.text.size : Int))),(70,.v (.int .i64 (x.off + (x.text.size : Int)))),(71,.v (.int .i64 (windowOf r))),(72,.v (.bool (decide ((x.off + (x.text.size : Int)) > (windowOf r))))),(73,.v (.bool (decide ((x.off + (x.text.size : Int)) > (windowOf r)))))] (by kernel_rfl) ?_
  refine xw_cond (b := decide ((x.off + (x.text.size : Int)) > (windowOf r))) (by kernel_rfl) (fun h10 => ?_) (fun h10 => ?_)
  have h10p : ((x.off + (x.text.size : Int)) > (windowOf r)) := of_decide_eq_true h10
  refine xw_seq ?_
  refine xw_region ?_
  refine xl_endS [2] [(2,.v (.bool false))] (by kernel_rfl) ?_
  refine xw_ret ?_
  exact ⟨[.bool false],by kernel_rfl,fun w' hb hf => ⟨ret_bool (show (false : Bool) = receiverOk r from by first | rfl | (rw [HR,HK]; simp [*]; done) | (rw [HR,HK]; simp [*]; omega) | (rw [HR,HK]; grind [rcvPost]) | (simp [receiverOk,rcvPre, *]; done) | (simp [receiverOk,rcvPre, *]; omega) | grind [receiverOk,rcvPre]),hb⟩⟩
  have h10p : ¬ ((x.off + (x.text.size : Int)) > (windowOf r)) := of_decide_eq_false h10
  refine xw_skip ?_
  refine xw_region ?_
  refine xl_runS 7 [1,3,4,5,53,54,55,56,59,60,61,62,65,66,67,68,69,70,71,72] [(1,.p 0 0),(3,.v (.int .i64 (windowOf r))),(4,.v (.int .i64 (IntKind.i64.wrap (x.off + (x.text.size : Int))))),(5,.v (.int .i64 (k : Int))),(53,.p 1 0),(54,.v (.int .i64 x.off)),(55,.v (.int .i64 z)),(56,.v (.bool (decide (x.off ≤ z)))),(59,.p 1 0),(60,.v (.int .i64 x.off)),(61,.v (.int .i64 (windowOf r))),(62,.v (.bool (decide (x.off > (windowOf r))))),(65,.p 1 0),(66,.v (.int .i64 x.off)),(67,.p 1 1),(68,.v (.string x.text)),(69,.v (.int .i64 (x.text.size : Int))),(70,.v (.int .i64 (x.off + (x.text.size : Int)))),(71,.v (.int .i64 (windowOf r))),(72,.v (.bool (decide ((x.off + (x.text.size : Int)) > (windowOf r)))))] (by kernel_rfl) ?_
  refine xl_eqS (t' := [(1,.p 0 0),(3,.v (.int .i64 (windowOf r))),(4,.v (.int .i64 (x.off + (x.text.size : Int)))),(5,.v (.int .i64 (k : Int))),(53,.p 1 0),(54,.v (.int .i64 x.off)),(55,.v (.int .i64 z)),(56,.v (.bool (decide (x.off ≤ z)))),(59,.p 1 0),(60,.v (.int .i64 x.off)),(61,.v (.int .i64 (windowOf r))),(62,.v (.bool (decide (x.off > (windowOf r))))),(65,.p 1 0),(66,.v (.int .i64 x.off)),(67,.p 1 1),(68,.v (.string x.text)),(69,.v (.int .i64 (x.text.size : Int))),(70,.v (.int .i64 (x.off + (x.text.size : Int)))),(71,.v (.int .i64 (windowOf r))),(72,.v (.bool (decide ((x.off + (x.text.size : Int)) > (windowOf r)))))]) (by rw [show (IntKind.i64.wrap (x.off + (x.text.size : Int))) = (x.off + (x.text.size : Int)) from wrap_id (by omega) (by omega)]) ?_
  refine xl_endS [1,3,4,5,53,54,55,56,59,60,61,62,65,66,67,68,69,70,71,72] [(1,.p 0 0),(3,.v (.int .i64 (windowOf r))),(4,.v (.int .i64 (x.off + (x.text.size : Int)))),(5,.v (.int .i64 (k : Int))),(53,.p 1 0),(54,.v (.int .i64 x.off)),(55,.v (.int .i64 z)),(56,.v (.bool (decide (x.off ≤ z)))),(59,.p 1 0),(60,.v (.int .i64 x.off)),(61,.v (.int .i64 (windowOf r))),(62,.v (.bool (decide (x.off > (windowOf r))))),(65,.p 1 0),(66,.v (.int .i64 x.off)),(67,.p 1 1),(68,.v (.string x.text)),(69,.v (.int .i64 (x.text.size : Int))),(70,.v (.int .i64 (x.off + (x.text.size : Int)))),(71,.v (.int .i64 (windowOf r))),(72,.v (.bool (decide ((x.off + (x.text.size : Int)) > (windowOf r)))))] (by kernel_rfl) ?_
  refine xw_region ?_
  refine xl_runS 3 [1,3,4,5,53,54,55,56,59,60,61,62,65,66,67,68,69,70,71,72] [(1,.p 0 0),(3,.v (.int .i64 (windowOf r))),(4,.v (.int .i64 (x.off + (x.text.size : Int)))),(5,.v (.int .i64 (IntKind.i64.wrap ((k : Int) + 1)))),(53,.p 1 0),(54,.v (.int .i64 x.off)),(55,.v (.int .i64 z)),(56,.v (.bool (decide (x.off ≤ z)))),(59,.p 1 0),(60,.v (.int .i64 x.off)),(61,.v (.int .i64 (windowOf r))),(62,.v (.bool (decide (x.off > (windowOf r))))),(65,.p 1 0),(66,.v (.int .i64 x.off)),(67,.p 1 1),(68,.v (.string x.text)),(69,.v (.int .i64 (x.text.size : Int))),(70,.v (.int .i64 (x.off + (x.text.size : Int)))),(71,.v (.int .i64 (windowOf r))),(72,.v (.bool (decide ((x.off + (x.text.size : Int)) > (windowOf r)))))] (by kernel_rfl) ?_
  refine xl_eqS (t' := [(1,.p 0 0),(3,.v (.int .i64 (windowOf r))),(4,.v (.int .i64 (x.off + (x.text.size : Int)))),(5,.v (.int .i64 ((k : Int) + 1))),(53,.p 1 0),(54,.v (.int .i64 x.off)),(55,.v (.int .i64 z)),(56,.v (.bool (decide (x.off ≤ z)))),(59,.p 1 0),(60,.v (.int .i64 x.off)),(61,.v (.int .i64 (windowOf r))),(62,.v (.bool (decide (x.off > (windowOf r))))),(65,.p 1 0),(66,.v (.int .i64 x.off)),(67,.p 1 1),(68,.v (.string x.text)),(69,.v (.int .i64 (x.text.size : Int))),(70,.v (.int .i64 (x.off + (x.text.size : Int)))),(71,.v (.int .i64 (windowOf r))),(72,.v (.bool (decide ((x.off + (x.text.size : Int)) > (windowOf r)))))]) (by rw [show (IntKind.i64.wrap ((k : Int) + 1)) = ((k : Int) + 1) from wrap_id (by omega) (by omega)]) ?_
  refine xl_endS [1,3,4,5,53,54,55,56,59,60,61,62,65,66,67,68,69,70,71,72] [(1,.p 0 0),(3,.v (.int .i64 (windowOf r))),(4,.v (.int .i64 (x.off + (x.text.size : Int)))),(5,.v (.int .i64 ((k : Int) + 1))),(53,.p 1 0),(54,.v (.int .i64 x.off)),(55,.v (.int .i64 z)),(56,.v (.bool (decide (x.off ≤ z)))),(59,.p 1 0),(60,.v (.int .i64 x.off)),(61,.v (.int .i64 (windowOf r))),(62,.v (.bool (decide (x.off > (windowOf r))))),(65,.p 1 0),(66,.v (.int .i64 x.off)),(67,.p 1 1),(68,.v (.string x.text)),(69,.v (.int .i64 (x.text.size : Int))),(70,.v (.int .i64 (x.off + (x.text.size : Int)))),(71,.v (.int .i64 (windowOf r))),(72,.v (.bool (decide ((x.off + (x.text.size : Int)) > (windowOf r)))))] (by kernel_rfl) ?_
  exact ⟨⟨(k + 1,x.off + (x.text.size : Int)),⟨by omega,by omega,by omega,by rw [HK]; first | (simp [*]; done) | (simp [*]; omega) | grind⟩⟩,wk_forget 1 0 [1,3,4,5] (by kernel_rfl) (by kernel_rfl) (by kernel_rfl),by show r.held.length - (k + 1) < r.held.length - k; omega⟩
  have h6p : ¬ ((k : Int) < ((r.held.length : Nat) : Int)) := of_decide_eq_false h6
  have hge : k = r.held.length := by simp at h6; omega
  subst hge; simp only [List.drop_length,heldOkS,heldOk] at HK
  refine xw_exit ?_
  refine xw_seq ?_
  refine xw_region ?_
  refine xl_runS 4 [1,4,83] [(1,.p 0 0),(4,.v (.int .i64 z)),(83,.v (.bool (decide (r.fin < 0))))] (by kernel_rfl) ?_
  refine xl_split 83 (b := decide (r.fin < 0)) (by kernel_rfl) (fun h11 => ?_) (fun h11 => ?_)
  have h11p : (r.fin < 0) := of_decide_eq_true h11
  refine xl_runS 10 [1,89,93] [(1,.p 0 0),(89,.v (.bool true)),(93,.v (.bool (!r.done)))] (by kernel_rfl) ?_
  refine xl_split 93 (b := !r.done) (by kernel_rfl) (fun h12 => ?_) (fun h12 => ?_)
  have h12n := not_t h12
  refine xl_endS [2] [(2,.v (.bool true))] (by kernel_rfl) ?_
  refine xw_ret ?_
  exact ⟨[.bool true],by kernel_rfl,fun w' hb hf => ⟨ret_bool (show (true : Bool) = receiverOk r from by first | rfl | (rw [HR,HK]; simp [*]; done) | (rw [HR,HK]; simp [*]; omega) | (rw [HR,HK]; grind [rcvPost]) | (simp [receiverOk,rcvPre, *]; done) | (simp [receiverOk,rcvPre, *]; omega) | grind [receiverOk,rcvPre]),hb⟩⟩
  have h12n := not_f h12
  refine xl_runS 5 [1,89,93,98] [(1,.p 0 0),(89,.v (.bool true)),(93,.v (.bool false)),(98,.v (.bool (((r.held.length : Nat) : Int) == 0)))] (by kernel_rfl) ?_
  refine xl_split 98 (b := ((r.held.length : Nat) : Int) == 0) (by kernel_rfl) (fun h13 => ?_) (fun h13 => ?_)
  have h13p := eqT h13
  refine xl_endS [2] [(2,.v (.bool (r.fin == (-1))))] (by kernel_rfl) ?_
  refine xw_ret ?_
  exact ⟨[.bool (r.fin == (-1))],by kernel_rfl,fun w' hb hf => ⟨ret_bool (show (r.fin == (-1) : Bool) = receiverOk r from by first | rfl | (rw [HR,HK]; simp [*]; done) | (rw [HR,HK]; simp [*]; omega) | (rw [HR,HK]; grind [rcvPost]) | (simp [receiverOk,rcvPre, *]; done) | (simp [receiverOk,rcvPre, *]; omega) | grind [receiverOk,rcvPre]),hb⟩⟩
  have h13p := eqF h13
  refine xl_endS [2] [(2,.v (.bool false))] (by kernel_rfl) ?_
  refine xw_ret ?_
  exact ⟨[.bool false],by kernel_rfl,fun w' hb hf => ⟨ret_bool (show (false : Bool) = receiverOk r from by first | rfl | (rw [HR,HK]; simp [*]; done) | (rw [HR,HK]; simp [*]; omega) | (rw [HR,HK]; grind [rcvPost]) | (simp [receiverOk,rcvPre, *]; done) | (simp [receiverOk,rcvPre, *]; omega) | grind [receiverOk,rcvPre]),hb⟩⟩
  have h11p : ¬ (r.fin < 0) := of_decide_eq_false h11
  refine xl_runS 6 [1,89] [(1,.p 0 0),(89,.v (.bool (decide (z ≤ r.fin))))] (by kernel_rfl) ?_
  refine xl_split 89 (b := decide (z ≤ r.fin)) (by kernel_rfl) (fun h14 => ?_) (fun h14 => ?_)
  have h14p : (z ≤ r.fin) := of_decide_eq_true h14
  refine xl_runS 4 [1,89,93] [(1,.p 0 0),(89,.v (.bool true)),(93,.v (.bool (!r.done)))] (by kernel_rfl) ?_
  refine xl_split 93 (b := !r.done) (by kernel_rfl) (fun h15 => ?_) (fun h15 => ?_)
  have h15n := not_t h15
  refine xl_endS [2] [(2,.v (.bool true))] (by kernel_rfl) ?_
  refine xw_ret ?_
  exact ⟨[.bool true],by kernel_rfl,fun w' hb hf => ⟨ret_bool (show (true : Bool) = receiverOk r from by first | rfl | (rw [HR,HK]; simp [*]; done) | (rw [HR,HK]; simp [*]; omega) | (rw [HR,HK]; grind [rcvPost]) | (simp [receiverOk,rcvPre, *]; done) | (simp [receiverOk,rcvPre, *]; omega) | grind [receiverOk,rcvPre]),hb⟩⟩
  have h15n := not_f h15
  refine xl_runS 5 [1,89,93,98] [(1,.p 0 0),(89,.v (.bool true)),(93,.v (.bool false)),(98,.v (.bool (((r.held.length : Nat) : Int) == 0)))] (by kernel_rfl) ?_
  refine xl_split 98 (b := ((r.held.length : Nat) : Int) == 0) (by kernel_rfl) (fun h16 => ?_) (fun h16 => ?_)
  have h16p := eqT h16
  refine xl_endS [2] [(2,.v (.bool (r.fin == (-1))))] (by kernel_rfl) ?_
  refine xw_ret ?_
  exact ⟨[.bool (r.fin == (-1))],by kernel_rfl,fun w' hb hf => ⟨ret_bool (show (r.fin == (-1) : Bool) = receiverOk r from by first | rfl | (rw [HR,HK]; simp [*]; done) | (rw [HR,HK]; simp [*]; omega) | (rw [HR,HK]; grind [rcvPost]) | (simp [receiverOk,rcvPre, *]; done) | (simp [receiverOk,rcvPre, *]; omega) | grind [receiverOk,rcvPre]),hb⟩⟩
  have h16p := eqF h16
  refine xl_endS [2] [(2,.v (.bool false))] (by kernel_rfl) ?_
  refine xw_ret ?_
  exact ⟨[.bool false],by kernel_rfl,fun w' hb hf => ⟨ret_bool (show (false : Bool) = receiverOk r from by first | rfl | (rw [HR,HK]; simp [*]; done) | (rw [HR,HK]; simp [*]; omega) | (rw [HR,HK]; grind [rcvPost]) | (simp [receiverOk,rcvPre, *]; done) | (simp [receiverOk,rcvPre, *]; omega) | grind [receiverOk,rcvPre]),hb⟩⟩
  have h14p : ¬ (z ≤ r.fin) := of_decide_eq_false h14
  refine xl_endS [2] [(2,.v (.bool false))] (by kernel_rfl) ?_
  refine xw_ret ?_
  exact ⟨[.bool false],by kernel_rfl,fun w' hb hf => ⟨ret_bool (show (false : Bool) = receiverOk r from by first | rfl | (rw [HR,HK]; simp [*]; done) | (rw [HR,HK]; simp [*]; omega) | (rw [HR,HK]; grind [rcvPost]) | (simp [receiverOk,rcvPre, *]; done) | (simp [receiverOk,rcvPre, *]; omega) | grind [receiverOk,rcvPre]),hb⟩⟩
theorem yiReceiverOk_c (r : Rcv) (r_heldV : Value) (w : World) (hl_r_heldV : Sl w r_heldV 2 (r.held.map pceCells)) (hm : ∀ p ∈ r.held, p.text.size ≤ 1048576) (hsz : r.data.size ≤ 4611686018427387904) : Calls Try.prog 14 #[.agg (rcvL r r_heldV).toArray] w fun e w' => e = .returned (.bool (receiverOk r)) ∧ Below w.heap.size w w' := by
  have hw := windowOf_bd r
  obtain ⟨Arh,Crh,hvrh⟩ := hl_r_heldV.form
  rw [List.length_map] at hvrh; subst hvrh
  have hnrh := hl_r_heldV.len; rw [List.length_map] at hnrh
  have hqrh := Sl.capLe hl_r_heldV
  refine x_calls (args := [.agg (rcvL r (.slice Arh r.held.length Crh)).toArray]) (fn := Try.f14) [slF (.slice Arh r.held.length Crh) 2 (r.held.map pceCells)] Try.func14 rfl Try.ntmps14 rfl (by simp only [List.mem_cons,List.not_mem_nil,or_false,forall_eq_or_imp,forall_eq]; exact ⟨rfl,hl_r_heldV⟩) ?_
  refine xw_seq ?_
  refine xw_region ?_
  refine xl_end [1] ⟨[(1,.p 0 0)],[⟨26,rcvL r (.slice Arh r.held.length Crh)⟩],[],[slF (.slice Arh r.held.length Crh) 2 (r.held.map pceCells)]⟩ (by kernel_rfl) ?_
  refine xw_seq ?_
  refine xw_region ?_
  refine xl_callS 1 [1,8] [(1,.p 0 0),(8,.v (.agg (rcvL r (.slice Arh r.held.length Crh)).toArray))] 15 [.agg (rcvL r (.slice Arh r.held.length Crh)).toArray] (some 9) (by kernel_rfl) rfl (by kernel_rfl) rfl (by kernel_rfl) (xc_b fun ww hf => iWindowOf_c r.next r.data r.held (.slice Arh r.held.length Crh) r.fin r.done ww (by omega)) ?_
  intro _
  refine xl_endS [1,3] [(1,.p 0 0),(3,.v (.int .i64 (windowOf r)))] (by kernel_rfl) ?_
  refine xw_seq ?_
  refine xw_seq ?_
  refine xw_region ?_
  refine xl_callS 2 [1,3,11] [(1,.p 0 0),(3,.v (.int .i64 (windowOf r))),(11,.v (.int .i64 r.next))] 42 [.int .i64 r.next,.int .i64 32] (some 12) (by kernel_rfl) rfl (by kernel_rfl) rfl (by kernel_rfl) (xc_s fun ww hf => iWordOk32_c r.next ww) ?_
  intro _
  refine xl_runS 2 [1,3,14] [(1,.p 0 0),(3,.v (.int .i64 (windowOf r))),(14,.v (.bool (!(wordOk r.next 32))))] (by kernel_rfl) ?_
  refine xl_split 14 (b := !(wordOk r.next 32)) (by kernel_rfl) (fun h1 => ?_) (fun h1 => ?_)
  have h1n := not_t h1
  refine xl_endS [1,3,37] [(1,.p 0 0),(3,.v (.int .i64 (windowOf r))),(37,.v (.bool true))] (by kernel_rfl) ?_
  refine xw_true (by kernel_rfl) ?_
  refine xw_seq ?_
  refine xw_region ?_
  refine xl_endS [2] [(2,.v (.bool false))] (by kernel_rfl) ?_
  refine xw_ret ?_
  exact ⟨[.bool false],by kernel_rfl,fun w' hb hf => ⟨ret_bool (show (false : Bool) = receiverOk r from by first | rfl | (rw [HR,HK]; simp [*]; done) | (rw [HR,HK]; simp [*]; omega) | (rw [HR,HK]; grind [rcvPost]) | (simp [receiverOk,rcvPre, *]; done) | (simp [receiverOk,rcvPre, *]; omega) | grind [receiverOk,rcvPre]),hb⟩⟩
  have h1n := not_f h1
  refine xl_runS 6 [1,3,20] [(1,.p 0 0),(3,.v (.int .i64 (windowOf r))),(20,.v (.bool (decide ((r.data.size : Int) > 32))))] (by kernel_rfl) ?_
  refine xl_split 20 (b := decide ((r.data.size : Int) > 32)) (by kernel_rfl) (fun h2 => ?_) (fun h2 => ?_)
  have h2p : ((r.data.size : Int) > 32) := of_decide_eq_true h2
  refine xl_endS [1,3,37] [(1,.p 0 0),(3,.v (.int .i64 (windowOf r))),(37,.v (.bool true))] (by kernel_rfl) ?_
  refine xw_true (by kernel_rfl) ?_
  refine xw_seq ?_
  refine xw_region ?_
  refine xl_endS [2] [(2,.v (.bool false))] (by kernel_rfl) ?_
  refine xw_ret ?_
  exact ⟨[.bool false],by kernel_rfl,fun w' hb hf => ⟨ret_bool (show (false : Bool) = receiverOk r from by first | rfl | (rw [HR,HK]; simp [*]; done) | (rw [HR,HK]; simp [*]; omega) | (rw [HR,HK]; grind [rcvPost]) | (simp [receiverOk,rcvPre, *]; done) | (simp [receiverOk,rcvPre, *]; omega) | grind [receiverOk,rcvPre]),hb⟩⟩
  have h2p : ¬ ((r.data.size : Int) > 32) := of_decide_eq_false h2
  refine xl_runS 6 [1,3,26] [(1,.p 0 0),(3,.v (.int .i64 (windowOf r))),(26,.v (.bool (decide (((r.held.length : Nat) : Int) > 3))))] (by kernel_rfl) ?_
  refine xl_split 26 (b := decide (((r.held.length : Nat) : Int) > 3)) (by kernel_rfl) (fun h3 => ?_) (fun h3 => ?_)
  have h3p : (((r.held.length : Nat) : Int) > 3) := of_decide_eq_true h3
  refine xl_endS [1,3,37] [(1,.p 0 0),(3,.v (.int .i64 (windowOf r))),(37,.v (.bool true))] (by kernel_rfl) ?_
  refine xw_true (by kernel_rfl) ?_
  refine xw_seq ?_
  refine xw_region ?_
  refine xl_endS [2] [(2,.v (.bool false))] (by kernel_rfl) ?_
  refine xw_ret ?_
  exact ⟨[.bool false],by kernel_rfl,fun w' hb hf => ⟨ret_bool (show (false : Bool) = receiverOk r from by first | rfl | (rw [HR,HK]; simp [*]; done) | (rw [HR,HK]; simp [*]; omega) | (rw [HR,HK]; grind [rcvPost]) | (simp [receiverOk,rcvPre, *]; done) | (simp [receiverOk,rcvPre, *]; omega) | grind [receiverOk,rcvPre]),hb⟩⟩
  have h3p : ¬ (((r.held.length : Nat) : Int) > 3) := of_decide_eq_false h3
  refine xl_callS 3 [1,3,26,28,29] [(1,.p 0 0),(3,.v (.int .i64 (windowOf r))),(26,.v (.bool false)),(28,.v (.int .i64 r.fin)),(29,.v (.int .i64 (windowOf r)))] 43 [.int .i64 r.fin,.int .i64 (-1),.int .i64 (windowOf r)] (some 30) (by kernel_rfl) rfl (by kernel_rfl) rfl (by kernel_rfl) (xc_s fun ww hf => within_c r.fin (-1) (windowOf r) ww ) ?_
  intro _
  refine xl_runS 3 [1,3,33] [(1,.p 0 0),(3,.v (.int .i64 (windowOf r))),(33,.v (.bool (!(inB r.fin (-1) (windowOf r)))))] (by kernel_rfl) ?_
  refine xl_split 33 (b := !(inB r.fin (-1) (windowOf r))) (by kernel_rfl) (fun h4 => ?_) (fun h4 => ?_)
  have h4n := not_t h4
  refine xl_endS [1,3,37] [(1,.p 0 0),(3,.v (.int .i64 (windowOf r))),(37,.v (.bool true))] (by kernel_rfl) ?_
  refine xw_true (by kernel_rfl) ?_
  refine xw_seq ?_
  refine xw_region ?_
  refine xl_endS [2] [(2,.v (.bool false))] (by kernel_rfl) ?_
  refine xw_ret ?_
  exact ⟨[.bool false],by kernel_rfl,fun w' hb hf => ⟨ret_bool (show (false : Bool) = receiverOk r from by first | rfl | (rw [HR,HK]; simp [*]; done) | (rw [HR,HK]; simp [*]; omega) | (rw [HR,HK]; grind [rcvPost]) | (simp [receiverOk,rcvPre, *]; done) | (simp [receiverOk,rcvPre, *]; omega) | grind [receiverOk,rcvPre]),hb⟩⟩
  have h4n := not_f h4
  refine xl_endS [1,3,37] [(1,.p 0 0),(3,.v (.int .i64 (windowOf r))),(37,.v (.bool (r.fin == 0)))] (by kernel_rfl) ?_
  refine xw_cond (b := r.fin == 0) (by kernel_rfl) (fun h5 => ?_) (fun h5 => ?_)
  have h5p := eqT h5
  refine xw_seq ?_
  refine xw_region ?_
  refine xl_endS [2] [(2,.v (.bool false))] (by kernel_rfl) ?_
  refine xw_ret ?_
  exact ⟨[.bool false],by kernel_rfl,fun w' hb hf => ⟨ret_bool (show (false : Bool) = receiverOk r from by first | rfl | (rw [HR,HK]; simp [*]; done) | (rw [HR,HK]; simp [*]; omega) | (rw [HR,HK]; grind [rcvPost]) | (simp [receiverOk,rcvPre, *]; done) | (simp [receiverOk,rcvPre, *]; omega) | grind [receiverOk,rcvPre]),hb⟩⟩
  have h5p := eqF h5
  refine xw_skip ?_
  refine xw_seq ?_
  refine xw_region ?_
  refine xl_endS [1,4] [(1,.p 0 0),(4,.v (.int .i64 (windowOf r)))] (by kernel_rfl) ?_
  refine xw_seq ?_
  refine xw_seq ?_
  refine xw_region ?_
  refine xl_endS [1,4,41] [(1,.p 0 0),(4,.v (.int .i64 (windowOf r))),(41,.v (.bool (r.fin != (-1))))] (by kernel_rfl) ?_
  refine xw_cond (b := r.fin != (-1)) (by kernel_rfl) (fun h6 => ?_) (fun h6 => ?_)
  have h6p := neT h6
  refine xw_region ?_
  refine xl_endS [1,4] [(1,.p 0 0),(4,.v (.int .i64 r.fin))] (by kernel_rfl) ?_
  refine xw_seq ?_
  refine xw_region ?_
  refine xl_endS [1,4,5] [(1,.p 0 0),(4,.v (.int .i64 r.fin)),(5,.v (.int .i64 0))] (by kernel_rfl) ?_
  refine xw_seq ?_
  refine xw_seq ?_
  refine xw_region ?_
  refine xl_endS [1,4,5,45,46,47] [(1,.p 0 0),(4,.v (.int .i64 r.fin)),(5,.v (.int .i64 0)),(45,.v (.slice Arh r.held.length Crh)),(46,.v (.int .i64 ((r.held.length : Nat) : Int))),(47,.v (.int .i64 0))] (by kernel_rfl) ?_
  refine xw_block ?_
  have hp : rcvPre r = true := by first | (simp [rcvPre, *]; done) | (simp [rcvPre, *]; omega) | grind [rcvPre]
  have hin := inB_tt.1 (rcvPre_iff.1 hp).2.2.2.1
  have HR : receiverOk r = (heldOk (if r.fin = -1 then windowOf r else r.fin) 0 r.held && rcvPost r) := by unfold receiverOk; rw [hp]; rfl
  refine xw_loopW (α := {x : Nat × Int // (fun (k : Nat) (z : Int) => k ≤ r.held.length ∧ 0 ≤ z ∧ z ≤ 32 ∧ heldOk (if r.fin = -1 then windowOf r else r.fin) 0 r.held = heldOk (if r.fin = -1 then windowOf r else r.fin) z (r.held.drop k)) x.1 x.2}) (fun x => (fun (k : Nat) (z : Int) => (⟨[(1,.p 0 0),(4,.v (.int .i64 r.fin)),(5,.v (.int .i64 z)),(45,.v (.slice Arh r.held.length Crh)),(46,.v (.int .i64 ((r.held.length : Nat) : Int))),(47,.v (.int .i64 (k : Int)))],[⟨26,rcvL r (.slice Arh r.held.length Crh)⟩],[],[slF (.slice Arh r.held.length Crh) 2 (r.held.map pceCells)]⟩ : St)) x.1.1 x.1.2) (fun x => r.held.length - x.1.1) ⟨(0,0),⟨Nat.zero_le _,by omega,by omega,rfl⟩⟩ (wk_forget 1 0 [1,4,5,45,46,47] (by kernel_rfl) (by kernel_rfl) (by kernel_rfl)) ?_
  rintro ⟨⟨k,z⟩,hk,hz0,hz1,HK⟩
  refine xw_wk (Wk.of_eq (s' := ⟨[(1,.p 0 0),(4,.v (.int .i64 r.fin)),(5,.v (.int .i64 z)),(45,.v (.slice Arh r.held.length Crh)),(46,.v (.int .i64 ((r.held.length : Nat) : Int))),(47,.v (.int .i64 (k : Int)))],[⟨26,rcvL r (.slice Arh r.held.length Crh)⟩],[],[slF (.slice Arh r.held.length Crh) 2 (r.held.map pceCells)]⟩) rfl) ?_
  try dsimp only at hk hz0 hz1 HK
  refine xw_seq ?_
  refine xw_region ?_
  refine xl_endS [1,4,5,45,46,47,48] [(1,.p 0 0),(4,.v (.int .i64 r.fin)),(5,.v (.int .i64 z)),(45,.v (.slice Arh r.held.length Crh)),(46,.v (.int .i64 ((r.held.length : Nat) : Int))),(47,.v (.int .i64 (k : Int))),(48,.v (.bool (decide ((k : Int) < ((r.held.length : Nat) : Int)))))] (by kernel_rfl) ?_
  refine xw_seq ?_
  refine xw_cond (b := decide ((k : Int) < ((r.held.length : Nat) : Int))) (by kernel_rfl) (fun h7 => ?_) (fun h7 => ?_)
  have h7p : ((k : Int) < ((r.held.length : Nat) : Int)) := of_decide_eq_true h7
  have hlt : k < r.held.length := by simpa using h7
  obtain ⟨x,hx⟩ : ∃ x,r.held[k]? = some x := ⟨_,List.getElem?_eq_getElem hlt⟩
  have hxm := hm x (List.mem_of_getElem? hx)
  rw [drop_cons_of hx] at HK; simp only [heldOkS,heldOk] at HK
  refine xw_skip ?_
  refine xw_seq ?_
  refine xw_block ?_
  refine xw_seq ?_
  refine xw_region ?_
  refine xl_indexS (kd := .i64) (T := 24) (e := 65) (K := 2) 0 [1,4,5,45,46,47] [(1,.p 0 0),(4,.v (.int .i64 r.fin)),(5,.v (.int .i64 z)),(45,.v (.slice Arh r.held.length Crh)),(46,.v (.int .i64 ((r.held.length : Nat) : Int))),(47,.v (.int .i64 (k : Int)))] k [.int .i64 x.off,.string x.text] (slF (.slice Arh r.held.length Crh) 2 (r.held.map pceCells)) (by kernel_rfl) rfl (by kernel_rfl) rfl rfl (by kernel_rfl) (by kernel_rfl) (by kernel_rfl) (by kernel_rfl) hlt (by simp) (fun w h => h) (fun b h => h) (by simp only [List.getElem?_map,hx]; rfl) ?_
  refine xl_end [1,4,5,7,45,46,47] ⟨[(1,.p 0 0),(4,.v (.int .i64 r.fin)),(5,.v (.int .i64 z)),(7,.p 1 0),(45,.v (.slice Arh r.held.length Crh)),(46,.v (.int .i64 ((r.held.length : Nat) : Int))),(47,.v (.int .i64 (k : Int)))],[⟨26,rcvL r (.slice Arh r.held.length Crh)⟩,⟨65,pceL x⟩],[[.int .i64 x.off,.string x.text]],[slF (.slice Arh r.held.length Crh) 2 (r.held.map pceCells)]⟩ (by kernel_rfl) ?_
  refine xw_seq ?_
  refine xw_seq ?_
  refine xw_region ?_
  refine xl_runS 4 [1,4,5,7,45,46,47,54] [(1,.p 0 0),(4,.v (.int .i64 r.fin)),(5,.v (.int .i64 z)),(7,.p 1 0),(45,.v (.slice Arh r.held.length Crh)),(46,.v (.int .i64 ((r.held.length : Nat) : Int))),(47,.v (.int .i64 (k : Int))),(54,.v (.bool (x.text.toList == (⟨#[]⟩ : ByteArray).toList)))] (by kernel_rfl) ?_
  refine xl_split 54 (b := x.text.toList == (⟨#[]⟩ : ByteArray).toList) (by kernel_rfl) (fun h8 => ?_) (fun h8 => ?_)
  have h8p := h8; simp only [beq_iff_eq,bne_iff_ne,beq_eq_false_iff_ne,bne_eq_false_iff_eq,ne_eq,toList_lit0] at h8p
  refine xl_endS [1,4,7,45,46,47,69] [(1,.p 0 0),(4,.v (.int .i64 r.fin)),(7,.p 1 0),(45,.v (.slice Arh r.held.length Crh)),(46,.v (.int .i64 ((r.held.length : Nat) : Int))),(47,.v (.int .i64 (k : Int))),(69,.v (.bool true))] (by kernel_rfl) ?_
  refine xw_true (by kernel_rfl) ?_
  refine xw_seq ?_
  refine xw_region ?_
  refine xl_endS [2] [(2,.v (.bool false))] (by kernel_rfl) ?_
  refine xw_ret ?_
  exact ⟨[.bool false],by kernel_rfl,fun w' hb hf => ⟨ret_bool (show (false : Bool) = receiverOk r from by first | rfl | (rw [HR,HK]; simp [*]; done) | (rw [HR,HK]; simp [*]; omega) | (rw [HR,HK]; grind [rcvPost]) | (simp [receiverOk,rcvPre, *]; done) | (simp [receiverOk,rcvPre, *]; omega) | grind [receiverOk,rcvPre]),hb⟩⟩
  have h8p := h8; simp only [beq_iff_eq,bne_iff_ne,beq_eq_false_iff_ne,bne_eq_false_iff_eq,ne_eq,toList_lit0] at h8p
  refine xl_runS 6 [1,4,7,45,46,47,55,56,57,58,60] [(1,.p 0 0),(4,.v (.int .i64 r.fin)),(7,.p 1 0),(45,.v (.slice Arh r.held.length Crh)),(46,.v (.int .i64 ((r.held.length : Nat) : Int))),(47,.v (.int .i64 (k : Int))),(55,.p 1 0),(56,.v (.int .i64 x.off)),(57,.v (.int .i64 z)),(58,.v (.bool (decide (x.off ≤ z)))),(60,.v (.bool (decide (x.off ≤ z))))] (by kernel_rfl) ?_
  refine xl_split 60 (b := decide (x.off ≤ z)) (by kernel_rfl) (fun h9 => ?_) (fun h9 => ?_)
  have h9p : (x.off ≤ z) := of_decide_eq_true h9
  refine xl_endS [1,4,7,45,46,47,55,56,57,58,69] [(1,.p 0 0),(4,.v (.int .i64 r.fin)),(7,.p 1 0),(45,.v (.slice Arh r.held.length Crh)),(46,.v (.int .i64 ((r.held.length : Nat) : Int))),(47,.v (.int .i64 (k : Int))),(55,.p 1 0),(56,.v (.int .i64 x.off)),(57,.v (.int .i64 z)),(58,.v (.bool (decide (x.off ≤ z)))),(69,.v (.bool true))] (by kernel_rfl) ?_
  refine xw_true (by kernel_rfl) ?_
  refine xw_seq ?_
  refine xw_region ?_
  refine xl_endS [2] [(2,.v (.bool false))] (by kernel_rfl) ?_
  refine xw_ret ?_
  exact ⟨[.bool false],by kernel_rfl,fun w' hb hf => ⟨ret_bool (show (false : Bool) = receiverOk r from by first | rfl | (rw [HR,HK]; simp [*]; done) | (rw [HR,HK]; simp [*]; omega) | (rw [HR,HK]; grind [rcvPost]) | (simp [receiverOk,rcvPre, *]; done) | (simp [receiverOk,rcvPre, *]; omega) | grind [receiverOk,rcvPre]),hb⟩⟩
  have h9p : ¬ (x.off ≤ z) := of_decide_eq_false h9
  refine xl_runS 9 [1,4,7,45,46,47,55,56,57,58,61,62,63,64,65,66,67,68,69] [(1,.p 0 0),(4,.v (.int .i64 r.fin)),(7,.p 1 0),(45,.v (.slice Arh r.held.length Crh)),(46,.v (.int .i64 ((r.held.length : Nat) : Int))),(47,.v (.int .i64 (k : Int))),(55,.p 1 0),(56,.v (.int .i64 x.off)),(57,.v (.int .i64 z)),(58,.v (.bool (decide (x.off ≤ z)))),(61,.p 1 0),(62,.v (.int .i64 x.off)),(63,.v (.int .i64 r.fin)),(64,.p 1 1),(65,.v (.string x.text)),(66,.v (.int .i64 (x.text.size : Int))),(67,.v (.int .i64 (IntKind.i64.wrap (r.fin - (x.text.size : Int))))),(68,.v (.bool (decide (x.off > (IntKind.i64.wrap (r.fin - (x.text.size : Int))))))),(69,.v (.bool (decide (x.off > (IntKind.i64.wrap (r.fin - (x.text.size : Int)))))))] (by kernel_rfl) ?_
  refine xl_eqS (t' := [(1,.p 0 0),(4,.v (.int .i64 r.fin)),(7,.p 1 0),(45,.v (.slice Arh r.held.length Crh)),(46,.v (.int .i64 ((r.held.length : Nat) : Int))),(47,.v (.int .i64 (k : Int))),(55,.p 1 0),(56,.v (.int .i64 x.off)),(57,.v (.int .i64 z)),(58,.v (.bool (decide (x.off ≤ z)))),(61,.p 1 0),(62,.v (.int .i64 x.off)),(63,.v (.int .i64 r.fin)),(64,.p 1 1),(65,.v (.string x.text)),(66,.v (.int .i64 (x.text.size : Int))),(67,.v (.int .i64 (r.fin - (x.text.size : Int)))),(68,.v (.bool (decide (x.off > (r.fin - (x.text.size : Int)))))),(69,.v (.bool (decide (x.off > (r.fin - (x.text.size : Int))))))]) (by rw [show (IntKind.i64.wrap (r.fin - (x.text.size : Int))) = (r.fin - (x.text.size : Int)) from wrap_id (by omega) (by omega)]) ?_
  refine xl_endS [1,4,7,45,46,47,55,56,57,58,61,62,63,64,65,66,67,68,69] [(1,.p 0 0),(4,.v (.int .i64 r.fin)),(7,.p 1 0),(45,.v (.slice Arh r.held.length Crh)),(46,.v (.int .i64 ((r.held.length : Nat) : Int))),(47,.v (.int .i64 (k : Int))),(55,.p 1 0),(56,.v (.int .i64 x.off)),(57,.v (.int .i64 z)),(58,.v (.bool (decide (x.off ≤ z)))),(61,.p 1 0),(62,.v (.int .i64 x.off)),(63,.v (.int .i64 r.fin)),(64,.p 1 1),(65,.v (.string x.text)),(66,.v (.int .i64 (x.text.size : Int))),(67,.v (.int .i64 (r.fin - (x.text.size : Int)))),(68,.v (.bool (decide (x.off > (r.fin - (x.text.size : Int)))))),(69,.v (.bool (decide (x.off > (r.fin - (x.text.size : Int))))))] (by kernel_rfl) ?_
  refine xw_cond (b := decide (x.off > (r.fin - (x.text.size : Int)))) (by kernel_rfl) (fun h10 => ?_) (fun h10 => ?_)
  have h10p : (x.off > (r.fin - (x.text.size : Int))) := of_decide_eq_true h10
  refine xw_seq ?_
  refine xw_region ?_
  refine xl_endS [2] [(2,.v (.bool false))] (by kernel_rfl) ?_
  refine xw_ret ?_
  exact ⟨[.bool false],by kernel_rfl,fun w' hb hf => ⟨ret_bool (show (false : Bool) = receiverOk r from by first | rfl | (rw [HR,HK]; simp [*]; done) | (rw [HR,HK]; simp [*]; omega) | (rw [HR,HK]; grind [rcvPost]) | (simp [receiverOk,rcvPre, *]; done) | (simp [receiverOk,rcvPre, *]; omega) | grind [receiverOk,rcvPre]),hb⟩⟩
  have h10p : ¬ (x.off > (r.fin - (x.text.size : Int))) := of_decide_eq_false h10
  refine xw_skip ?_
  refine xw_region ?_
  refine xl_runS 7 [1,4,5,45,46,47,55,56,57,58,61,62,63,64,65,66,67,68] [(1,.p 0 0),(4,.v (.int .i64 r.fin)),(5,.v (.int .i64 (IntKind.i64.wrap (x.off + (x.text.size : Int))))),(45,.v (.slice Arh r.held.length Crh)),(46,.v (.int .i64 ((r.held.length : Nat) : Int))),(47,.v (.int .i64 (k : Int))),(55,.p 1 0),(56,.v (.int .i64 x.off)),(57,.v (.int .i64 z)),(58,.v (.bool (decide (x.off ≤ z)))),(61,.p 1 0),(62,.v (.int .i64 x.off)),(63,.v (.int .i64 r.fin)),(64,.p 1 1),(65,.v (.string x.text)),(66,.v (.int .i64 (x.text.size : Int))),(67,.v (.int .i64 (r.fin - (x.text.size : Int)))),(68,.v (.bool (decide (x.off > (r.fin - (x.text.size : Int))))))] (by kernel_rfl) ?_
  refine xl_eqS (t' := [(1,.p 0 0),(4,.v (.int .i64 r.fin)),(5,.v (.int .i64 (x.off + (x.text.size : Int)))),(45,.v (.slice Arh r.held.length Crh)),(46,.v (.int .i64 ((r.held.length : Nat) : Int))),(47,.v (.int .i64 (k : Int))),(55,.p 1 0),(56,.v (.int .i64 x.off)),(57,.v (.int .i64 z)),(58,.v (.bool (decide (x.off ≤ z)))),(61,.p 1 0),(62,.v (.int .i64 x.off)),(63,.v (.int .i64 r.fin)),(64,.p 1 1),(65,.v (.string x.text)),(66,.v (.int .i64 (x.text.size : Int))),(67,.v (.int .i64 (r.fin - (x.text.size : Int)))),(68,.v (.bool (decide (x.off > (r.fin - (x.text.size : Int))))))]) (by rw [show (IntKind.i64.wrap (x.off + (x.text.size : Int))) = (x.off + (x.text.size : Int)) from wrap_id (by omega) (by omega)]) ?_
  refine xl_endS [1,4,5,45,46,47,55,56,57,58,61,62,63,64,65,66,67,68] [(1,.p 0 0),(4,.v (.int .i64 r.fin)),(5,.v (.int .i64 (x.off + (x.text.size : Int)))),(45,.v (.slice Arh r.held.length Crh)),(46,.v (.int .i64 ((r.held.length : Nat) : Int))),(47,.v (.int .i64 (k : Int))),(55,.p 1 0),(56,.v (.int .i64 x.off)),(57,.v (.int .i64 z)),(58,.v (.bool (decide (x.off ≤ z)))),(61,.p 1 0),(62,.v (.int .i64 x.off)),(63,.v (.int .i64 r.fin)),(64,.p 1 1),(65,.v (.string x.text)),(66,.v (.int .i64 (x.text.size : Int))),(67,.v (.int .i64 (r.fin - (x.text.size : Int)))),(68,.v (.bool (decide (x.off > (r.fin - (x.text.size : Int))))))] (by kernel_rfl) ?_
  refine xw_region ?_
  refine xl_runS 2 [1,4,5,45,46,47,55,56,57,58,61,62,63,64,65,66,67,68] [(1,.p 0 0),(4,.v (.int .i64 r.fin)),(5,.v (.int .i64 (x.off + (x.text.size : Int)))),(45,.v (.slice Arh r.held.length Crh)),(46,.v (.int .i64 ((r.held.length : Nat) : Int))),(47,.v (.int .i64 (IntKind.i64.wrap ((k : Int) + 1)))),(55,.p 1 0),(56,.v (.int .i64 x.off)),(57,.v (.int .i64 z)),(58,.v (.bool (decide (x.off ≤ z)))),(61,.p 1 0),(62,.v (.int .i64 x.off)),(63,.v (.int .i64 r.fin)),(64,.p 1 1),(65,.v (.string x.text)),(66,.v (.int .i64 (x.text.size : Int))),(67,.v (.int .i64 (r.fin - (x.text.size : Int)))),(68,.v (.bool (decide (x.off > (r.fin - (x.text.size : Int))))))] (by kernel_rfl) ?_
  refine xl_eqS (t' := [(1,.p 0 0),(4,.v (.int .i64 r.fin)),(5,.v (.int .i64 (x.off + (x.text.size : Int)))),(45,.v (.slice Arh r.held.length Crh)),(46,.v (.int .i64 ((r.held.length : Nat) : Int))),(47,.v (.int .i64 ((k : Int) + 1))),(55,.p 1 0),(56,.v (.int .i64 x.off)),(57,.v (.int .i64 z)),(58,.v (.bool (decide (x.off ≤ z)))),(61,.p 1 0),(62,.v (.int .i64 x.off)),(63,.v (.int .i64 r.fin)),(64,.p 1 1),(65,.v (.string x.text)),(66,.v (.int .i64 (x.text.size : Int))),(67,.v (.int .i64 (r.fin - (x.text.size : Int)))),(68,.v (.bool (decide (x.off > (r.fin - (x.text.size : Int))))))]) (by rw [show (IntKind.i64.wrap ((k : Int) + 1)) = ((k : Int) + 1) from wrap_id (by omega) (by omega)]) ?_
  refine xl_endS [1,4,5,45,46,47,55,56,57,58,61,62,63,64,65,66,67,68] [(1,.p 0 0),(4,.v (.int .i64 r.fin)),(5,.v (.int .i64 (x.off + (x.text.size : Int)))),(45,.v (.slice Arh r.held.length Crh)),(46,.v (.int .i64 ((r.held.length : Nat) : Int))),(47,.v (.int .i64 ((k : Int) + 1))),(55,.p 1 0),(56,.v (.int .i64 x.off)),(57,.v (.int .i64 z)),(58,.v (.bool (decide (x.off ≤ z)))),(61,.p 1 0),(62,.v (.int .i64 x.off)),(63,.v (.int .i64 r.fin)),(64,.p 1 1),(65,.v (.string x.text)),(66,.v (.int .i64 (x.text.size : Int))),(67,.v (.int .i64 (r.fin - (x.text.size : Int)))),(68,.v (.bool (decide (x.off > (r.fin - (x.text.size : Int))))))] (by kernel_rfl) ?_
  exact ⟨⟨(k + 1,x.off + (x.text.size : Int)),⟨by omega,by omega,by omega,by rw [HK]; first | (simp [*]; done) | (simp [*]; omega) | grind⟩⟩,wk_forget 1 0 [1,4,5,45,46,47] (by kernel_rfl) (by kernel_rfl) (by kernel_rfl),by show r.held.length - (k + 1) < r.held.length - k; omega⟩
  have h7p : ¬ ((k : Int) < ((r.held.length : Nat) : Int)) := of_decide_eq_false h7
  have hge : k = r.held.length := by simp at h7; omega
  subst hge; simp only [List.drop_length,heldOkS,heldOk] at HK
  refine xw_exit ?_
  refine xw_seq ?_
  refine xw_region ?_
  refine xl_runS 4 [1,80] [(1,.p 0 0),(80,.v (.bool (!r.done)))] (by kernel_rfl) ?_
  refine xl_split 80 (b := !r.done) (by kernel_rfl) (fun h11 => ?_) (fun h11 => ?_)
  have h11n := not_t h11
  refine xl_endS [2] [(2,.v (.bool true))] (by kernel_rfl) ?_
  refine xw_ret ?_
  exact ⟨[.bool true],by kernel_rfl,fun w' hb hf => ⟨ret_bool (show (true : Bool) = receiverOk r from by first | rfl | (rw [HR,HK]; simp [*]; done) | (rw [HR,HK]; simp [*]; omega) | (rw [HR,HK]; grind [rcvPost]) | (simp [receiverOk,rcvPre, *]; done) | (simp [receiverOk,rcvPre, *]; omega) | grind [receiverOk,rcvPre]),hb⟩⟩
  have h11n := not_f h11
  refine xl_runS 5 [1,80,85] [(1,.p 0 0),(80,.v (.bool false)),(85,.v (.bool (((r.held.length : Nat) : Int) == 0)))] (by kernel_rfl) ?_
  refine xl_split 85 (b := ((r.held.length : Nat) : Int) == 0) (by kernel_rfl) (fun h12 => ?_) (fun h12 => ?_)
  have h12p := eqT h12
  refine xl_endS [2] [(2,.v (.bool (r.fin == (-1))))] (by kernel_rfl) ?_
  refine xw_ret ?_
  exact ⟨[.bool (r.fin == (-1))],by kernel_rfl,fun w' hb hf => ⟨ret_bool (show (r.fin == (-1) : Bool) = receiverOk r from by first | rfl | (rw [HR,HK]; simp [*]; done) | (rw [HR,HK]; simp [*]; omega) | (rw [HR,HK]; grind [rcvPost]) | (simp [receiverOk,rcvPre, *]; done) | (simp [receiverOk,rcvPre, *]; omega) | grind [receiverOk,rcvPre]),hb⟩⟩
  have h12p := eqF h12
  refine xl_endS [2] [(2,.v (.bool false))] (by kernel_rfl) ?_
  refine xw_ret ?_
  exact ⟨[.bool false],by kernel_rfl,fun w' hb hf => ⟨ret_bool (show (false : Bool) = receiverOk r from by first | rfl | (rw [HR,HK]; simp [*]; done) | (rw [HR,HK]; simp [*]; omega) | (rw [HR,HK]; grind [rcvPost]) | (simp [receiverOk,rcvPre, *]; done) | (simp [receiverOk,rcvPre, *]; omega) | grind [receiverOk,rcvPre]),hb⟩⟩
  have h6p := neF h6
  refine xw_skip ?_
  refine xw_seq ?_
  refine xw_region ?_
  refine xl_endS [1,4,5] [(1,.p 0 0),(4,.v (.int .i64 (windowOf r))),(5,.v (.int .i64 0))] (by kernel_rfl) ?_
  refine xw_seq ?_
  refine xw_seq ?_
  refine xw_region ?_
  refine xl_endS [1,4,5,45,46,47] [(1,.p 0 0),(4,.v (.int .i64 (windowOf r))),(5,.v (.int .i64 0)),(45,.v (.slice Arh r.held.length Crh)),(46,.v (.int .i64 ((r.held.length : Nat) : Int))),(47,.v (.int .i64 0))] (by kernel_rfl) ?_
  refine xw_block ?_
  have hp : rcvPre r = true := by first | (simp [rcvPre, *]; done) | (simp [rcvPre, *]; omega) | grind [rcvPre]
  have hin := inB_tt.1 (rcvPre_iff.1 hp).2.2.2.1
  have HR : receiverOk r = (heldOk (if r.fin = -1 then windowOf r else r.fin) 0 r.held && rcvPost r) := by unfold receiverOk; rw [hp]; rfl
  refine xw_loopW (α := {x : Nat × Int // (fun (k : Nat) (z : Int) => k ≤ r.held.length ∧ 0 ≤ z ∧ z ≤ 32 ∧ heldOk (if r.fin = -1 then windowOf r else r.fin) 0 r.held = heldOk (if r.fin = -1 then windowOf r else r.fin) z (r.held.drop k)) x.1 x.2}) (fun x => (fun (k : Nat) (z : Int) => (⟨[(1,.p 0 0),(4,.v (.int .i64 (windowOf r))),(5,.v (.int .i64 z)),(45,.v (.slice Arh r.held.length Crh)),(46,.v (.int .i64 ((r.held.length : Nat) : Int))),(47,.v (.int .i64 (k : Int)))],[⟨26,rcvL r (.slice Arh r.held.length Crh)⟩],[],[slF (.slice Arh r.held.length Crh) 2 (r.held.map pceCells)]⟩ : St)) x.1.1 x.1.2) (fun x => r.held.length - x.1.1) ⟨(0,0),⟨Nat.zero_le _,by omega,by omega,rfl⟩⟩ (wk_forget 1 0 [1,4,5,45,46,47] (by kernel_rfl) (by kernel_rfl) (by kernel_rfl)) ?_
  rintro ⟨⟨k,z⟩,hk,hz0,hz1,HK⟩
  refine xw_wk (Wk.of_eq (s' := ⟨[(1,.p 0 0),(4,.v (.int .i64 (windowOf r))),(5,.v (.int .i64 z)),(45,.v (.slice Arh r.held.length Crh)),(46,.v (.int .i64 ((r.held.length : Nat) : Int))),(47,.v (.int .i64 (k : Int)))],[⟨26,rcvL r (.slice Arh r.held.length Crh)⟩],[],[slF (.slice Arh r.held.length Crh) 2 (r.held.map pceCells)]⟩) rfl) ?_
  try dsimp only at hk hz0 hz1 HK
  refine xw_seq ?_
  refine xw_region ?_
  refine xl_endS [1,4,5,45,46,47,48] [(1,.p 0 0),(4,.v (.int .i64 (windowOf r))),(5,.v (.int .i64 z)),(45,.v (.slice Arh r.held.length Crh)),(46,.v (.int .i64 ((r.held.length : Nat) : Int))),(47,.v (.int .i64 (k : Int))),(48,.v (.bool (decide ((k : Int) < ((r.held.length : Nat) : Int)))))] (by kernel_rfl) ?_
  refine xw_seq ?_
  refine xw_cond (b := decide ((k : Int) < ((r.held.length : Nat) : Int))) (by kernel_rfl) (fun h13 => ?_) (fun h13 => ?_)
  have h13p : ((k : Int) < ((r.held.length : Nat) : Int)) := of_decide_eq_true h13
  have hlt : k < r.held.length := by simpa using h13
  obtain ⟨x,hx⟩ : ∃ x,r.held[k]? = some x := ⟨_,List.getElem?_eq_getElem hlt⟩
  have hxm := hm x (List.mem_of_getElem? hx)
  rw [drop_cons_of hx] at HK; simp only [heldOkS,heldOk] at HK
  refine xw_skip ?_
  refine xw_seq ?_
  refine xw_block ?_
  refine xw_seq ?_
  refine xw_region ?_
  refine xl_indexS (kd := .i64) (T := 24) (e := 65) (K := 2) 0 [1,4,5,45,46,47] [(1,.p 0 0),(4,.v (.int .i64 (windowOf r))),(5,.v (.int .i64 z)),(45,.v (.slice Arh r.held.length Crh)),(46,.v (.int .i64 ((r.held.length : Nat) : Int))),(47,.v (.int .i64 (k : Int)))] k [.int .i64 x.off,.string x.text] (slF (.slice Arh r.held.length Crh) 2 (r.held.map pceCells)) (by kernel_rfl) rfl (by kernel_rfl) rfl rfl (by kernel_rfl) (by kernel_rfl) (by kernel_rfl) (by kernel_rfl) hlt (by simp) (fun w h => h) (fun b h => h) (by simp only [List.getElem?_map,hx]; rfl) ?_
  refine xl_end [1,4,5,7,45,46,47] ⟨[(1,.p 0 0),(4,.v (.int .i64 (windowOf r))),(5,.v (.int .i64 z)),(7,.p 1 0),(45,.v (.slice Arh r.held.length Crh)),(46,.v (.int .i64 ((r.held.length : Nat) : Int))),(47,.v (.int .i64 (k : Int)))],[⟨26,rcvL r (.slice Arh r.held.length Crh)⟩,⟨65,pceL x⟩],[[.int .i64 x.off,.string x.text]],[slF (.slice Arh r.held.length Crh) 2 (r.held.map pceCells)]⟩ (by kernel_rfl) ?_
  refine xw_seq ?_
  refine xw_seq ?_
  refine xw_region ?_
  refine xl_runS 4 [1,4,5,7,45,46,47,54] [(1,.p 0 0),(4,.v (.int .i64 (windowOf r))),(5,.v (.int .i64 z)),(7,.p 1 0),(45,.v (.slice Arh r.held.length Crh)),(46,.v (.int .i64 ((r.held.length : Nat) : Int))),(47,.v (.int .i64 (k : Int))),(54,.v (.bool (x.text.toList == (⟨#[]⟩ : ByteArray).toList)))] (by kernel_rfl) ?_
  refine xl_split 54 (b := x.text.toList == (⟨#[]⟩ : ByteArray).toList) (by kernel_rfl) (fun h14 => ?_) (fun h14 => ?_)
  have h14p := h14; simp only [beq_iff_eq,bne_iff_ne,beq_eq_false_iff_ne,bne_eq_false_iff_eq,ne_eq,toList_lit0] at h14p
  refine xl_endS [1,4,7,45,46,47,69] [(1,.p 0 0),(4,.v (.int .i64 (windowOf r))),(7,.p 1 0),(45,.v (.slice Arh r.held.length Crh)),(46,.v (.int .i64 ((r.held.length : Nat) : Int))),(47,.v (.int .i64 (k : Int))),(69,.v (.bool true))] (by kernel_rfl) ?_
  refine xw_true (by kernel_rfl) ?_
  refine xw_seq ?_
  refine xw_region ?_
  refine xl_endS [2] [(2,.v (.bool false))] (by kernel_rfl) ?_
  refine xw_ret ?_
  exact ⟨[.bool false],by kernel_rfl,fun w' hb hf => ⟨ret_bool (show (false : Bool) = receiverOk r from by first | rfl | (rw [HR,HK]; simp [*]; done) | (rw [HR,HK]; simp [*]; omega) | (rw [HR,HK]; grind [rcvPost]) | (simp [receiverOk,rcvPre, *]; done) | (simp [receiverOk,rcvPre, *]; omega) | grind [receiverOk,rcvPre]),hb⟩⟩
  have h14p := h14; simp only [beq_iff_eq,bne_iff_ne,beq_eq_false_iff_ne,bne_eq_false_iff_eq,ne_eq,toList_lit0] at h14p
  refine xl_runS 6 [1,4,7,45,46,47,55,56,57,58,60] [(1,.p 0 0),(4,.v (.int .i64 (windowOf r))),(7,.p 1 0),(45,.v (.slice Arh r.held.length Crh)),(46,.v (.int .i64 ((r.held.length : Nat) : Int))),(47,.v (.int .i64 (k : Int))),(55,.p 1 0),(56,.v (.int .i64 x.off)),(57,.v (.int .i64 z)),(58,.v (.bool (decide (x.off ≤ z)))),(60,.v (.bool (decide (x.off ≤ z))))] (by kernel_rfl) ?_
  refine xl_split 60 (b := decide (x.off ≤ z)) (by kernel_rfl) (fun h15 => ?_) (fun h15 => ?_)
  have h15p : (x.off ≤ z) := of_decide_eq_true h15
  refine xl_endS [1,4,7,45,46,47,55,56,57,58,69] [(1,.p 0 0),(4,.v (.int .i64 (windowOf r))),(7,.p 1 0),(45,.v (.slice Arh r.held.length Crh)),(46,.v (.int .i64 ((r.held.length : Nat) : Int))),(47,.v (.int .i64 (k : Int))),(55,.p 1 0),(56,.v (.int .i64 x.off)),(57,.v (.int .i64 z)),(58,.v (.bool (decide (x.off ≤ z)))),(69,.v (.bool true))] (by kernel_rfl) ?_
  refine xw_true (by kernel_rfl) ?_
  refine xw_seq ?_
  refine xw_region ?_
  refine xl_endS [2] [(2,.v (.bool false))] (by kernel_rfl) ?_
  refine xw_ret ?_
  exact ⟨[.bool false],by kernel_rfl,fun w' hb hf => ⟨ret_bool (show (false : Bool) = receiverOk r from by first | rfl | (rw [HR,HK]; simp [*]; done) | (rw [HR,HK]; simp [*]; omega) | (rw [HR,HK]; grind [rcvPost]) | (simp [receiverOk,rcvPre, *]; done) | (simp [receiverOk,rcvPre, *]; omega) | grind [receiverOk,rcvPre]),hb⟩⟩
  have h15p : ¬ (x.off ≤ z) := of_decide_eq_false h15
  refine xl_runS 9 [1,4,7,45,46,47,55,56,57,58,61,62,63,64,65,66,67,68,69] [(1,.p 0 0),(4,.v (.int .i64 (windowOf r))),(7,.p 1 0),(45,.v (.slice Arh r.held.length Crh)),(46,.v (.int .i64 ((r.held.length : Nat) : Int))),(47,.v (.int .i64 (k : Int))),(55,.p 1 0),(56,.v (.int .i64 x.off)),(57,.v (.int .i64 z)),(58,.v (.bool (decide (x.off ≤ z)))),(61,.p 1 0),(62,.v (.int .i64 x.off)),(63,.v (.int .i64 (windowOf r))),(64,.p 1 1),(65,.v (.string x.text)),(66,.v (.int .i64 (x.text.size : Int))),(67,.v (.int .i64 (IntKind.i64.wrap ((windowOf r) - (x.text.size : Int))))),(68,.v (.bool (decide (x.off > (IntKind.i64.wrap ((windowOf r) - (x.text.size : Int))))))),(69,.v (.bool (decide (x.off > (IntKind.i64.wrap ((windowOf r) - (x.text.size : Int)))))))] (by kernel_rfl) ?_
  refine xl_eqS (t' := [(1,.p 0 0),(4,.v (.int .i64 (windowOf r))),(7,.p 1 0),(45,.v (.slice Arh r.held.length Crh)),(46,.v (.int .i64 ((r.held.length : Nat) : Int))),(47,.v (.int .i64 (k : Int))),(55,.p 1 0),(56,.v (.int .i64 x.off)),(57,.v (.int .i64 z)),(58,.v (.bool (decide (x.off ≤ z)))),(61,.p 1 0),(62,.v (.int .i64 x.off)),(63,.v (.int .i64 (windowOf r))),(64,.p 1 1),(65,.v (.string x.text)),(66,.v (.int .i64 (x.text.size : Int))),(67,.v (.int .i64 ((windowOf r) - (x.text.size : Int)))),(68,.v (.bool (decide (x.off > ((windowOf r) - (x.text.size : Int)))))),(69,.v (.bool (decide (x.off > ((windowOf r) - (x.text.size : Int))))))]) (by rw [show (IntKind.i64.wrap ((windowOf r) - (x.text.size : Int))) = ((windowOf r) - (x.text.size : Int)) from wrap_id (by omega) (by omega)]) ?_
  refine xl_endS [1,4,7,45,46,47,55,56,57,58,61,62,63,64,65,66,67,68,69] [(1,.p 0 0),(4,.v (.int .i64 (windowOf r))),(7,.p 1 0),(45,.v (.slice Arh r.held.length Crh)),(46,.v (.int .i64 ((r.held.length : Nat) : Int))),(47,.v (.int .i64 (k : Int))),(55,.p 1 0),(56,.v (.int .i64 x.off)),(57,.v (.int .i64 z)),(58,.v (.bool (decide (x.off ≤ z)))),(61,.p 1 0),(62,.v (.int .i64 x.off)),(63,.v (.int .i64 (windowOf r))),(64,.p 1 1),(65,.v (.string x.text)),(66,.v (.int .i64 (x.text.size : Int))),(67,.v (.int .i64 ((windowOf r) - (x.text.size : Int)))),(68,.v (.bool (decide (x.off > ((windowOf r) - (x.text.size : Int)))))),(69,.v (.bool (decide (x.off > ((windowOf r) - (x.text.size : Int))))))] (by kernel_rfl) ?_
  refine xw_cond (b := decide (x.off > ((windowOf r) - (x.text.size : Int)))) (by kernel_rfl) (fun h16 => ?_) (fun h16 => ?_)
  have h16p : (x.off > ((windowOf r) - (x.text.size : Int))) := of_decide_eq_true h16
  refine xw_seq ?_
  refine xw_region ?_
  refine xl_endS [2] [(2,.v (.bool false))] (by kernel_rfl) ?_
  refine xw_ret ?_
  exact ⟨[.bool false],by kernel_rfl,fun w' hb hf => ⟨ret_bool (show (false : Bool) = receiverOk r from by first | rfl | (rw [HR,HK]; simp [*]; done) | (rw [HR,HK]; simp [*]; omega) | (rw [HR,HK]; grind [rcvPost]) | (simp [receiverOk,rcvPre, *]; done) | (simp [receiverOk,rcvPre, *]; omega) | grind [receiverOk,rcvPre]),hb⟩⟩
  have h16p : ¬ (x.off > ((windowOf r) - (x.text.size : Int))) := of_decide_eq_false h16
  refine xw_skip ?_
  refine xw_region ?_
  refine xl_runS 7 [1,4,5,45,46,47,55,56,57,58,61,62,63,64,65,66,67,68] [(1,.p 0 0),(4,.v (.int .i64 (windowOf r))),(5,.v (.int .i64 (IntKind.i64.wrap (x.off + (x.text.size : Int))))),(45,.v (.slice Arh r.held.length Crh)),(46,.v (.int .i64 ((r.held.length : Nat) : Int))),(47,.v (.int .i64 (k : Int))),(55,.p 1 0),(56,.v (.int .i64 x.off)),(57,.v (.int .i64 z)),(58,.v (.bool (decide (x.off ≤ z)))),(61,.p 1 0),(62,.v (.int .i64 x.off)),(63,.v (.int .i64 (windowOf r))),(64,.p 1 1),(65,.v (.string x.text)),(66,.v (.int .i64 (x.text.size : Int))),(67,.v (.int .i64 ((windowOf r) - (x.text.size : Int)))),(68,.v (.bool (decide (x.off > ((windowOf r) - (x.text.size : Int))))))] (by kernel_rfl) ?_
  refine xl_eqS (t' := [(1,.p 0 0),(4,.v (.int .i64 (windowOf r))),(5,.v (.int .i64 (x.off + (x.text.size : Int)))),(45,.v (.slice Arh r.held.length Crh)),(46,.v (.int .i64 ((r.held.length : Nat) : Int))),(47,.v (.int .i64 (k : Int))),(55,.p 1 0),(56,.v (.int .i64 x.off)),(57,.v (.int .i64 z)),(58,.v (.bool (decide (x.off ≤ z)))),(61,.p 1 0),(62,.v (.int .i64 x.off)),(63,.v (.int .i64 (windowOf r))),(64,.p 1 1),(65,.v (.string x.text)),(66,.v (.int .i64 (x.text.size : Int))),(67,.v (.int .i64 ((windowOf r) - (x.text.size : Int)))),(68,.v (.bool (decide (x.off > ((windowOf r) - (x.text.size : Int))))))]) (by rw [show (IntKind.i64.wrap (x.off + (x.text.size : Int))) = (x.off + (x.text.size : Int)) from wrap_id (by omega) (by omega)]) ?_
  refine xl_endS [1,4,5,45,46,47,55,56,57,58,61,62,63,64,65,66,67,68] [(1,.p 0 0),(4,.v (.int .i64 (windowOf r))),(5,.v (.int .i64 (x.off + (x.text.size : Int)))),(45,.v (.slice Arh r.held.length Crh)),(46,.v (.int .i64 ((r.held.length : Nat) : Int))),(47,.v (.int .i64 (k : Int))),(55,.p 1 0),(56,.v (.int .i64 x.off)),(57,.v (.int .i64 z)),(58,.v (.bool (decide (x.off ≤ z)))),(61,.p 1 0),(62,.v (.int .i64 x.off)),(63,.v (.int .i64 (windowOf r))),(64,.p 1 1),(65,.v (.string x.text)),(66,.v (.int .i64 (x.text.size : Int))),(67,.v (.int .i64 ((windowOf r) - (x.text.size : Int)))),(68,.v (.bool (decide (x.off > ((windowOf r) - (x.text.size : Int))))))] (by kernel_rfl) ?_
  refine xw_region ?_
  refine xl_runS 2 [1,4,5,45,46,47,55,56,57,58,61,62,63,64,65,66,67,68] [(1,.p 0 0),(4,.v (.int .i64 (windowOf r))),(5,.v (.int .i64 (x.off + (x.text.size : Int)))),(45,.v (.slice Arh r.held.length Crh)),(46,.v (.int .i64 ((r.held.length : Nat) : Int))),(47,.v (.int .i64 (IntKind.i64.wrap ((k : Int) + 1)))),(55,.p 1 0),(56,.v (.int .i64 x.off)),(57,.v (.int .i64 z)),(58,.v (.bool (decide (x.off ≤ z)))),(61,.p 1 0),(62,.v (.int .i64 x.off)),(63,.v (.int .i64 (windowOf r))),(64,.p 1 1),(65,.v (.string x.text)),(66,.v (.int .i64 (x.text.size : Int))),(67,.v (.int .i64 ((windowOf r) - (x.text.size : Int)))),(68,.v (.bool (decide (x.off > ((windowOf r) - (x.text.size : Int))))))] (by kernel_rfl) ?_
  refine xl_eqS (t' := [(1,.p 0 0),(4,.v (.int .i64 (windowOf r))),(5,.v (.int .i64 (x.off + (x.text.size : Int)))),(45,.v (.slice Arh r.held.length Crh)),(46,.v (.int .i64 ((r.held.length : Nat) : Int))),(47,.v (.int .i64 ((k : Int) + 1))),(55,.p 1 0),(56,.v (.int .i64 x.off)),(57,.v (.int .i64 z)),(58,.v (.bool (decide (x.off ≤ z)))),(61,.p 1 0),(62,.v (.int .i64 x.off)),(63,.v (.int .i64 (windowOf r))),(64,.p 1 1),(65,.v (.string x.text)),(66,.v (.int .i64 (x.text.size : Int))),(67,.v (.int .i64 ((windowOf r) - (x.text.size : Int)))),(68,.v (.bool (decide (x.off > ((windowOf r) - (x.text.size : Int))))))]) (by rw [show (IntKind.i64.wrap ((k : Int) + 1)) = ((k : Int) + 1) from wrap_id (by omega) (by omega)]) ?_
  refine xl_endS [1,4,5,45,46,47,55,56,57,58,61,62,63,64,65,66,67,68] [(1,.p 0 0),(4,.v (.int .i64 (windowOf r))),(5,.v (.int .i64 (x.off + (x.text.size : Int)))),(45,.v (.slice Arh r.held.length Crh)),(46,.v (.int .i64 ((r.held.length : Nat) : Int))),(47,.v (.int .i64 ((k : Int) + 1))),(55,.p 1 0),(56,.v (.int .i64 x.off)),(57,.v (.int .i64 z)),(58,.v (.bool (decide (x.off ≤ z)))),(61,.p 1 0),(62,.v (.int .i64 x.off)),(63,.v (.int .i64 (windowOf r))),(64,.p 1 1),(65,.v (.string x.text)),(66,.v (.int .i64 (x.text.size : Int))),(67,.v (.int .i64 ((windowOf r) - (x.text.size : Int)))),(68,.v (.bool (decide (x.off > ((windowOf r) - (x.text.size : Int))))))] (by kernel_rfl) ?_
  exact ⟨⟨(k + 1,x.off + (x.text.size : Int)),⟨by omega,by omega,by omega,by rw [HK]; first | (simp [*]; done) | (simp [*]; omega) | grind⟩⟩,wk_forget 1 0 [1,4,5,45,46,47] (by kernel_rfl) (by kernel_rfl) (by kernel_rfl),by show r.held.length - (k + 1) < r.held.length - k; omega⟩
  have h13p : ¬ ((k : Int) < ((r.held.length : Nat) : Int)) := of_decide_eq_false h13
  have hge : k = r.held.length := by simp at h13; omega
  subst hge; simp only [List.drop_length,heldOkS,heldOk] at HK
  refine xw_exit ?_
  refine xw_seq ?_
  refine xw_region ?_
  refine xl_runS 4 [1,80] [(1,.p 0 0),(80,.v (.bool (!r.done)))] (by kernel_rfl) ?_
  refine xl_split 80 (b := !r.done) (by kernel_rfl) (fun h17 => ?_) (fun h17 => ?_)
  have h17n := not_t h17
  refine xl_endS [2] [(2,.v (.bool true))] (by kernel_rfl) ?_
  refine xw_ret ?_
  exact ⟨[.bool true],by kernel_rfl,fun w' hb hf => ⟨ret_bool (show (true : Bool) = receiverOk r from by first | rfl | (rw [HR,HK]; simp [*]; done) | (rw [HR,HK]; simp [*]; omega) | (rw [HR,HK]; grind [rcvPost]) | (simp [receiverOk,rcvPre, *]; done) | (simp [receiverOk,rcvPre, *]; omega) | grind [receiverOk,rcvPre]),hb⟩⟩
  have h17n := not_f h17
  refine xl_runS 5 [1,80,85] [(1,.p 0 0),(80,.v (.bool false)),(85,.v (.bool (((r.held.length : Nat) : Int) == 0)))] (by kernel_rfl) ?_
  refine xl_split 85 (b := ((r.held.length : Nat) : Int) == 0) (by kernel_rfl) (fun h18 => ?_) (fun h18 => ?_)
  have h18p := eqT h18
  refine xl_endS [2] [(2,.v (.bool (r.fin == (-1))))] (by kernel_rfl) ?_
  refine xw_ret ?_
  exact ⟨[.bool (r.fin == (-1))],by kernel_rfl,fun w' hb hf => ⟨ret_bool (show (r.fin == (-1) : Bool) = receiverOk r from by first | rfl | (rw [HR,HK]; simp [*]; done) | (rw [HR,HK]; simp [*]; omega) | (rw [HR,HK]; grind [rcvPost]) | (simp [receiverOk,rcvPre, *]; done) | (simp [receiverOk,rcvPre, *]; omega) | grind [receiverOk,rcvPre]),hb⟩⟩
  have h18p := eqF h18
  refine xl_endS [2] [(2,.v (.bool false))] (by kernel_rfl) ?_
  refine xw_ret ?_
  exact ⟨[.bool false],by kernel_rfl,fun w' hb hf => ⟨ret_bool (show (false : Bool) = receiverOk r from by first | rfl | (rw [HR,HK]; simp [*]; done) | (rw [HR,HK]; simp [*]; omega) | (rw [HR,HK]; grind [rcvPost]) | (simp [receiverOk,rcvPre, *]; done) | (simp [receiverOk,rcvPre, *]; omega) | grind [receiverOk,rcvPre]),hb⟩⟩
theorem ysSameReceiver_c (a : Rcv) (a_heldV : Value) (b : Rcv) (b_heldV : Value) (w : World) (hl_a_heldV : Sl w a_heldV 2 (a.held.map pceCells)) (hl_b_heldV : Sl w b_heldV 2 (b.held.map pceCells))  : Calls Try.prog 12 #[.agg (rcvL a a_heldV).toArray, .agg (rcvL b b_heldV).toArray] w fun e w' => e = .returned (.bool (sameReceiver a b)) ∧ Below w.heap.size w w' := by
  obtain ⟨Aah,Cah,hvah⟩ := hl_a_heldV.form
  rw [List.length_map] at hvah; subst hvah
  have hnah := hl_a_heldV.len; rw [List.length_map] at hnah
  have hqah := Sl.capLe hl_a_heldV
  obtain ⟨Abh,Cbh,hvbh⟩ := hl_b_heldV.form
  rw [List.length_map] at hvbh; subst hvbh
  have hnbh := hl_b_heldV.len; rw [List.length_map] at hnbh
  have hqbh := Sl.capLe hl_b_heldV
  refine x_calls (args := [.agg (rcvL a (.slice Aah a.held.length Cah)).toArray,.agg (rcvL b (.slice Abh b.held.length Cbh)).toArray]) (fn := Try.f12) [slF (.slice Aah a.held.length Cah) 2 (a.held.map pceCells),slF (.slice Abh b.held.length Cbh) 2 (b.held.map pceCells)] Try.func12 rfl Try.ntmps12 rfl (by simp only [List.mem_cons,List.not_mem_nil,or_false,forall_eq_or_imp,forall_eq]; exact ⟨⟨rfl,hl_a_heldV⟩,⟨rfl,hl_b_heldV⟩⟩) ?_
  refine xw_seq ?_
  refine xw_region ?_
  refine xl_end [2,3] ⟨[(2,.p 0 0),(3,.p 1 0)],[⟨26,rcvL a (.slice Aah a.held.length Cah)⟩,⟨26,rcvL b (.slice Abh b.held.length Cbh)⟩],[],[slF (.slice Aah a.held.length Cah) 2 (a.held.map pceCells),slF (.slice Abh b.held.length Cbh) 2 (b.held.map pceCells)]⟩ (by kernel_rfl) ?_
  refine xw_seq ?_
  refine xw_seq ?_
  refine xw_join ⟨[(2,.p 0 0),(3,.p 1 0),(40,.v (.bool ((a.next != b.next) || ((!(a.data.toList == b.data.toList)) || ((a.fin != b.fin) || ((!(a.done == b.done)) || (((a.held.length : Nat) : Int) != ((b.held.length : Nat) : Int))))))))],[⟨26,rcvL a (.slice Aah a.held.length Cah)⟩,⟨26,rcvL b (.slice Abh b.held.length Cbh)⟩],[],[slF (.slice Aah a.held.length Cah) 2 (a.held.map pceCells),slF (.slice Abh b.held.length Cbh) 2 (b.held.map pceCells)]⟩ ?_ ?_
  refine xw_region ?_
  refine xl_runS 6 [2,3,11] [(2,.p 0 0),(3,.p 1 0),(11,.v (.bool (a.next != b.next)))] (by kernel_rfl) ?_
  refine xl_split 11 (b := a.next != b.next) (by kernel_rfl) (fun h1 => ?_) (fun h1 => ?_)
  have h1p := neT h1
  refine xl_endS [2,3,40] [(2,.p 0 0),(3,.p 1 0),(40,.v (.bool true))] (by kernel_rfl) ?_
  show Wk _ _
  try rw [h1]
  exact wk_forget 2 0 [2,3,40] (by kernel_rfl) (by kernel_rfl) (by kernel_rfl)
  have h1p := neF h1
  refine xl_runS 7 [2,3,18] [(2,.p 0 0),(3,.p 1 0),(18,.v (.bool (!(a.data.toList == b.data.toList))))] (by kernel_rfl) ?_
  refine xl_split 18 (b := !(a.data.toList == b.data.toList)) (by kernel_rfl) (fun h2 => ?_) (fun h2 => ?_)
  have h2n := not_t h2
  have h2np := h2n; simp only [beq_iff_eq,bne_iff_ne,beq_eq_false_iff_ne,bne_eq_false_iff_eq,ne_eq,toList_lit0] at h2np
  refine xl_endS [2,3,40] [(2,.p 0 0),(3,.p 1 0),(40,.v (.bool true))] (by kernel_rfl) ?_
  show Wk _ _
  try rw [h1]
  try rw [h2]
  exact wk_forget 2 0 [2,3,40] (by kernel_rfl) (by kernel_rfl) (by kernel_rfl)
  have h2n := not_f h2
  have h2np := h2n; simp only [beq_iff_eq,bne_iff_ne,beq_eq_false_iff_ne,bne_eq_false_iff_eq,ne_eq,toList_lit0] at h2np
  refine xl_runS 7 [2,3,25] [(2,.p 0 0),(3,.p 1 0),(25,.v (.bool (a.fin != b.fin)))] (by kernel_rfl) ?_
  refine xl_split 25 (b := a.fin != b.fin) (by kernel_rfl) (fun h3 => ?_) (fun h3 => ?_)
  have h3p := neT h3
  refine xl_endS [2,3,40] [(2,.p 0 0),(3,.p 1 0),(40,.v (.bool true))] (by kernel_rfl) ?_
  show Wk _ _
  try rw [h1]
  try rw [h2]
  try rw [h3]
  exact wk_forget 2 0 [2,3,40] (by kernel_rfl) (by kernel_rfl) (by kernel_rfl)
  have h3p := neF h3
  refine xl_runS 7 [2,3,32] [(2,.p 0 0),(3,.p 1 0),(32,.v (.bool (!(a.done == b.done))))] (by kernel_rfl) ?_
  refine xl_split 32 (b := !(a.done == b.done)) (by kernel_rfl) (fun h4 => ?_) (fun h4 => ?_)
  have h4n := not_t h4
  have h4np := eqF h4n
  refine xl_endS [2,3,40] [(2,.p 0 0),(3,.p 1 0),(40,.v (.bool true))] (by kernel_rfl) ?_
  show Wk _ _
  try rw [h1]
  try rw [h2]
  try rw [h3]
  try rw [h4]
  exact wk_forget 2 0 [2,3,40] (by kernel_rfl) (by kernel_rfl) (by kernel_rfl)
  have h4n := not_f h4
  have h4np := eqT h4n
  refine xl_endS [2,3,40] [(2,.p 0 0),(3,.p 1 0),(40,.v (.bool (((a.held.length : Nat) : Int) != ((b.held.length : Nat) : Int))))] (by kernel_rfl) ?_
  show Wk _ _
  try rw [h1]
  try rw [h2]
  try rw [h3]
  try rw [h4]
  exact wk_forget 2 0 [2,3,40] (by kernel_rfl) (by kernel_rfl) (by kernel_rfl)
  refine xw_cond (b := (a.next != b.next) || ((!(a.data.toList == b.data.toList)) || ((a.fin != b.fin) || ((!(a.done == b.done)) || (((a.held.length : Nat) : Int) != ((b.held.length : Nat) : Int)))))) (by kernel_rfl) (fun h5 => ?_) (fun h5 => ?_)
  refine xw_seq ?_
  refine xw_region ?_
  refine xl_endS [4] [(4,.v (.bool false))] (by kernel_rfl) ?_
  refine xw_ret ?_
  exact ⟨[.bool false],by kernel_rfl,fun w' hb hf => ⟨ret_bool (show (false : Bool) = sameReceiver a b from by first | rfl | (simp [sameReceiver, *]; done) | grind [sameReceiver,sameL_len]),hb⟩⟩
  have h5l := or_l h5
  have h5lp := neF h5l
  have h5r := or_r h5
  have h5rl := or_l h5r
  have h5rln := not_f h5rl
  have h5rlnp := h5rln; simp only [beq_iff_eq,bne_iff_ne,beq_eq_false_iff_ne,bne_eq_false_iff_eq,ne_eq,toList_lit0] at h5rlnp
  have h5rr := or_r h5r
  have h5rrl := or_l h5rr
  have h5rrlp := neF h5rrl
  have h5rrr := or_r h5rr
  have h5rrrl := or_l h5rrr
  have h5rrrln := not_f h5rrrl
  have h5rrrlnp := eqT h5rrrln
  have h5rrrr := or_r h5rrr
  have h5rrrrp := neF h5rrrr
  refine xw_skip ?_
  refine xw_seq ?_
  refine xw_seq ?_
  refine xw_region ?_
  refine xl_endS [2,3,5] [(2,.p 0 0),(3,.p 1 0),(5,.v (.int .i64 0))] (by kernel_rfl) ?_
  refine xw_block ?_
  have hlen : a.held.length = b.held.length := by omega
  refine xw_loopW (α := {x : Nat // (fun (k : Nat) => k ≤ a.held.length ∧ ∀ (i : Nat) (x y : Pce),i < k → a.held[i]? = some x → b.held[i]? = some y → pceEq x y = true) x}) (fun x => (fun (k : Nat) => (⟨[(2,.p 0 0),(3,.p 1 0),(5,.v (.int .i64 (k : Int)))],[⟨26,rcvL a (.slice Aah a.held.length Cah)⟩,⟨26,rcvL b (.slice Abh b.held.length Cbh)⟩],[],[slF (.slice Aah a.held.length Cah) 2 (a.held.map pceCells),slF (.slice Abh b.held.length Cbh) 2 (b.held.map pceCells)]⟩ : St)) x.1) (fun x => a.held.length - x.1) ⟨(0),⟨Nat.zero_le _,fun i x y hi => by omega⟩⟩ (wk_forget 2 0 [2,3,5] (by kernel_rfl) (by kernel_rfl) (by kernel_rfl)) ?_
  rintro ⟨k,hk,HK⟩
  refine xw_wk (Wk.of_eq (s' := ⟨[(2,.p 0 0),(3,.p 1 0),(5,.v (.int .i64 (k : Int)))],[⟨26,rcvL a (.slice Aah a.held.length Cah)⟩,⟨26,rcvL b (.slice Abh b.held.length Cbh)⟩],[],[slF (.slice Aah a.held.length Cah) 2 (a.held.map pceCells),slF (.slice Abh b.held.length Cbh) 2 (b.held.map pceCells)]⟩) rfl) ?_
  try dsimp only at hk HK
  refine xw_seq ?_
  refine xw_seq ?_
  refine xw_region ?_
  refine xl_endS [2,3,5,45] [(2,.p 0 0),(3,.p 1 0),(5,.v (.int .i64 (k : Int))),(45,.v (.bool (decide ((k : Int) < ((a.held.length : Nat) : Int)))))] (by kernel_rfl) ?_
  refine xw_cond (b := decide ((k : Int) < ((a.held.length : Nat) : Int))) (by kernel_rfl) (fun h6 => ?_) (fun h6 => ?_)
  have h6p : ((k : Int) < ((a.held.length : Nat) : Int)) := of_decide_eq_true h6
  have hlt : k < a.held.length := by simpa using h6
  obtain ⟨x,hx⟩ : ∃ x,a.held[k]? = some x := ⟨_,List.getElem?_eq_getElem hlt⟩
  obtain ⟨y,hy⟩ : ∃ y,b.held[k]? = some y := ⟨_,List.getElem?_eq_getElem (by omega)⟩
  refine xw_skip ?_
  refine xw_seq ?_
  refine xw_block ?_
  refine xw_seq ?_
  refine xws_start ?_
  refine xws_row (K := 2) (j := k) [.int .i64 x.off,.string x.text] (slF (.slice Aah a.held.length Cah) 2 (a.held.map pceCells)) (fun _ _ h => h) (by simp) (fun w h => h) (fun b h => h) (by simp only [List.getElem?_map,hx]; rfl) (fun bq7 offq7 hAq7 => ?_)
  refine xws_row (K := 2) (j := k) [.int .i64 y.off,.string y.text] (slF (.slice Abh b.held.length Cbh) 2 (b.held.map pceCells)) (fun _ _ h => h) (by simp) (fun w h => h) (fun b h => h) (by simp only [List.getElem?_map,hy]; rfl) (fun bq8 offq8 hAq8 => ?_)
  refine xws_regionE [] (by kernel_rfl) (fun ρ σ hq9 => ?_)
  refine xe_tkS [0,1,2,5,6,7] [55,54,50,49,2,3,5] 5 [(55,.v (.int .i64 (k : Int))),(54,.v (.slice Abh b.held.length Cbh)),(50,.v (.int .i64 (k : Int))),(49,.v (.slice Aah a.held.length Cah)),(2,.p 0 0),(3,.p 1 0),(5,.v (.int .i64 (k : Int)))] (fun _ _ h => h) rfl (by kernel_rfl) ?_
  refine xe_takeI (kd := .i64) (T := 24) (e := 65) (K := 2) (j := k) (A := Aah) (len := a.held.length) (cap := Cah) 3 0 _ rfl (by kernel_rfl) (by kernel_rfl) (by kernel_rfl) (fun _ _ h => h) (by kernel_rfl) rfl rfl (by kernel_rfl) (by kernel_rfl) (by kernel_rfl) (by kernel_rfl) hlt hAq7 hq9.1.2 (by kernel_rfl) rfl ?_
  refine xe_tkS [4] [52,55,54,2,3,5] 3 [(52,.v (.agg (pceL x).toArray)),(55,.v (.int .i64 (k : Int))),(54,.v (.slice Abh b.held.length Cbh)),(2,.p 0 0),(3,.p 1 0),(5,.v (.int .i64 (k : Int)))] (fun _ _ h => h) rfl (by kernel_rfl) ?_
  refine xe_takeI (kd := .i64) (T := 24) (e := 65) (K := 2) (j := k) (A := Abh) (len := b.held.length) (cap := Cbh) 8 1 _ rfl (by kernel_rfl) (by kernel_rfl) (by kernel_rfl) (fun _ _ h => h) (by kernel_rfl) rfl rfl (by kernel_rfl) (by kernel_rfl) (by kernel_rfl) (by kernel_rfl) (by omega) hAq8 hq9.2 (by kernel_rfl) rfl ?_
  refine xe_tkS [9] [57,52,2,3,5] 1 [(57,.v (.agg (pceL y).toArray)),(52,.v (.agg (pceL x).toArray)),(2,.p 0 0),(3,.p 1 0),(5,.v (.int .i64 (k : Int)))] (fun _ _ h => h) rfl (by kernel_rfl) ?_
  refine xe_op 10 (.bool (!pceEq x y)) _ rfl (by kernel_rfl) (by kernel_rfl) (by kernel_rfl) (fun _ _ h => h) (by kernel_rfl) rfl (fun _ _ ww hA => act_bin hA rfl (by kernel_rfl) (by kernel_rfl) (agg_bin (by kernel_rfl) (run_neq_PCE x.off x.text y.off y.text ww))) rfl ?_
  refine xe_done (by kernel_rfl) ?_
  refine xw_cond (b := !pceEq x y) (by kernel_rfl) (fun h10 => ?_) (fun h10 => ?_)
  have hno := sameL_no hx hy (by simpa using h10)
  refine xw_seq ?_
  refine xw_region ?_
  refine xl_endS [4] [(4,.v (.bool false))] (by kernel_rfl) ?_
  refine xw_ret ?_
  exact ⟨[.bool false],by kernel_rfl,fun w' hb hf => ⟨ret_bool (show (false : Bool) = sameReceiver a b from by first | rfl | (simp [sameReceiver, *]; done) | grind [sameReceiver,sameL_len]),hb⟩⟩
  have hye : pceEq x y = true := by simpa using h10
  refine xw_skip ?_
  refine xw_region ?_
  refine xl_runS 3 [2,3,5] [(2,.p 0 0),(3,.p 1 0),(5,.v (.int .i64 (IntKind.i64.wrap ((k : Int) + 1))))] (by kernel_rfl) ?_
  refine xl_eqS (t' := [(2,.p 0 0),(3,.p 1 0),(5,.v (.int .i64 ((k : Int) + 1)))]) (by rw [show (IntKind.i64.wrap ((k : Int) + 1)) = ((k : Int) + 1) from wrap_id (by omega) (by omega)]) ?_
  refine xl_endS [2,3,5] [(2,.p 0 0),(3,.p 1 0),(5,.v (.int .i64 ((k : Int) + 1)))] (by kernel_rfl) ?_
  exact ⟨⟨(k + 1),⟨by omega,same_step hx hy hye HK⟩⟩,wk_forget 2 0 [2,3,5] (by kernel_rfl) (by kernel_rfl) (by kernel_rfl),by show a.held.length - (k + 1) < a.held.length - k; omega⟩
  have h6p : ¬ ((k : Int) < ((a.held.length : Nat) : Int)) := of_decide_eq_false h6
  have hge : k = a.held.length := by simp at h6; omega
  have hall := sameL_nil_of hge hlen HK
  refine xw_exit ?_
  refine xw_seq ?_
  refine xw_region ?_
  refine xl_endS [4] [(4,.v (.bool true))] (by kernel_rfl) ?_
  refine xw_ret ?_
  exact ⟨[.bool true],by kernel_rfl,fun w' hb hf => ⟨ret_bool (show (true : Bool) = sameReceiver a b from by first | rfl | (simp [sameReceiver, *]; done) | grind [sameReceiver,sameL_len]),hb⟩⟩
@[simp] theorem inB18_1 : inB 1 1 8 = true := rfl
@[simp] theorem inB18_2 : inB 2 1 8 = true := rfl
@[simp] theorem inB18_3 : inB 3 1 8 = true := rfl
@[simp] theorem inB18_4 : inB 4 1 8 = true := rfl
@[simp] theorem inB18_5 : inB 5 1 8 = true := rfl
@[simp] theorem inB18_6 : inB 6 1 8 = true := rfl
@[simp] theorem inB18_7 : inB 7 1 8 = true := rfl
@[simp] theorem inB18_8 : inB 8 1 8 = true := rfl
set_option maxHeartbeats 1000000 in
theorem yClonePiece_c (a : List Pce) (aV : Value) (w : World) (hl_aV : Sl w aV 2 (a.map pceCells)) (hkn : a.length ≤ 1048576) (B : Nat) (hB : B ≤ w.heap.size) : Calls Try.prog 76 #[aV] w fun e w' => XRs w w' e (α := Option Addr × Nat) (fun y => .slice y.1 a.length y.2) (fun y => [ownF B (.slice y.1 a.length y.2) 2 (a.map pceCells)]) := by
  obtain ⟨Aa,Ca,hva⟩ := hl_aV.form
  rw [List.length_map] at hva; subst hva
  have hna := hl_aV.len; rw [List.length_map] at hna
  have hqa := Sl.capLe hl_aV
  have hnil := fun h => Sl.nil_of h hl_aV
  refine x_callsA (args := [.slice Aa a.length Ca]) (fn := Try.f76) [slF (.slice Aa a.length Ca) 2 (a.map pceCells)] Try.func76 rfl Try.ntmps76 rfl (by simp only [List.mem_cons,List.not_mem_nil,or_false,forall_eq_or_imp,forall_eq]; exact ⟨rfl,hl_aV⟩) ?_
  refine xw_seq ?_
  refine xw_region ?_
  refine xl_end [0] ⟨[(0,.v (.slice Aa a.length Ca))],[],[],[slF (.slice Aa a.length Ca) 2 (a.map pceCells)]⟩ (by kernel_rfl) ?_
  refine xw_seq ?_
  refine xw_seq ?_
  refine xw_region ?_
  refine xl_opS 1 [0,3] [(0,.v (.slice Aa a.length Ca)),(3,.v (.slice Aa a.length Ca))] (.bool Aa.isNone) (by kernel_rfl) rfl (by kernel_rfl) rfl (fun _ _ _ ww hr => act_nilEq (e := 65) hr.1 rfl (by kernel_rfl) rfl rfl ww) ?_
  refine xl_endS [0,4] [(0,.v (.slice Aa a.length Ca)),(4,.v (.bool Aa.isNone))] (by kernel_rfl) ?_
  refine xw_cond (b := Aa.isNone) (by kernel_rfl) (fun h1 => ?_) (fun h1 => ?_)
  refine xw_seq ?_
  refine xw_region ?_
  refine xl_endS [2] [(2,.v (.slice none 0 0))] (by kernel_rfl) ?_
  refine xw_ret ?_
  have hmod : a = [] := by exact hnil (by assumption)
  exact ⟨[.slice none 0 0],by kernel_rfl,fun w' hb hf ha => by rw [hmod]; exact xr_one ((none,0)) rfl rfl (.inl ⟨rfl,_,rfl⟩) (fun b hb => (hb.1 rfl).elim) hb⟩
  refine xw_skip ?_
  refine xw_seq ?_
  refine xw_region ?_
  refine xl_hvS 0 [0] [(0,.v (.slice Aa a.length Ca))] (by kernel_rfl) rfl (by kernel_rfl) rfl (by kernel_rfl) (hv_build (e := 65) (K := 2) (bytes := 24) [] rfl (by kernel_rfl) (by kernel_rfl) (by kernel_rfl) (by kernel_rfl) (by kernel_rfl) (rs := ([] : List Pce).map pceCells) rfl) ?_
  intro g2
  refine xl_hvS 1 [5,6] [(5,.v (.slice (some ⟨g2,0,none⟩) 0 0)),(6,.v (.slice Aa a.length Ca))] (by kernel_rfl) rfl (by kernel_rfl) rfl (by kernel_rfl) (hv_append (e := 65) (K := 2) (bytes := 24) (i := 0) (q := a.length) (new := a.map pceCells) (rs' := a.map pceCells) rfl rfl rfl rfl (by kernel_rfl) (by kernel_rfl) (by kernel_rfl) rfl (by simp) rfl (by simp) (fun ww hf => (hf (slF (.slice Aa a.length Ca) 2 (a.map pceCells)) (by simp))) (by intro r hr; obtain ⟨x,hx,rfl⟩ := List.mem_map.1 hr; exact ⟨rfl,by simp [pceCells,Value.oneCell']⟩) (by (try simp only [List.length_map,List.length_append,List.length_cons,List.length_nil,List.length_take,List.length_drop,maxLen]); omega) (by (try simp only [List.length_map,List.length_append,List.length_cons,List.length_nil,List.length_take,List.length_drop,maxLen]); omega)) ?_
  rintro ⟨v3a,v3c⟩
  refine xl_endS [2] [(2,.v (.slice v3a a.length v3c))] (by kernel_rfl) ?_
  refine xw_ret ?_
  exact ⟨[.slice v3a a.length v3c],by kernel_rfl,fun w' hb hf ha => by exact xr_one ((v3a,v3c)) rfl rfl (rowF_ownF (hf (rowF w.heap.size 65 2 (.slice v3a a.length v3c) (a.map pceCells)) (by simp)) hB) (fun b hb => rowF_lo (hf (rowF w.heap.size 65 2 (.slice v3a a.length v3c) (a.map pceCells)) (by simp)) (rowF_blk hb)) hb⟩
set_option maxHeartbeats 1000000 in
theorem yl18Copy_c (r : Rcv) (r_heldV : Value) (w : World) (hl_r_heldV : Sl w r_heldV 2 (r.held.map pceCells)) (hkn : r.held.length ≤ 1048576) (B : Nat) (hB : B ≤ w.heap.size) : Calls Try.prog 37 #[.agg (rcvL r r_heldV).toArray] w fun e w' => XRs w w' e (α := Option Addr × Nat) (fun y => .agg (rcvL r (.slice y.1 r.held.length y.2)).toArray) (fun y => [ownF B (.slice y.1 r.held.length y.2) 2 (r.held.map pceCells)]) := by
  obtain ⟨Arh,Crh,hvrh⟩ := hl_r_heldV.form
  rw [List.length_map] at hvrh; subst hvrh
  have hnrh := hl_r_heldV.len; rw [List.length_map] at hnrh
  have hqrh := Sl.capLe hl_r_heldV
  refine x_callsA (args := [.agg (rcvL r (.slice Arh r.held.length Crh)).toArray]) (fn := Try.f37) [slF (.slice Arh r.held.length Crh) 2 (r.held.map pceCells)] Try.func37 rfl Try.ntmps37 rfl (by simp only [List.mem_cons,List.not_mem_nil,or_false,forall_eq_or_imp,forall_eq]; exact ⟨rfl,hl_r_heldV⟩) ?_
  refine xw_seq ?_
  refine xw_region ?_
  refine xl_end [1,2] ⟨[(1,.p 0 0),(2,.p 1 0)],[⟨26,rcvL r (.slice Arh r.held.length Crh)⟩,⟨26,rcvZ⟩],[],[slF (.slice Arh r.held.length Crh) 2 (r.held.map pceCells)]⟩ (by kernel_rfl) ?_
  refine xw_seq ?_
  refine xw_region ?_
  refine xl_hvS 0 [1,2] [(1,.p 0 0),(2,.p 1 0)] (by kernel_rfl) rfl (by kernel_rfl) rfl (by kernel_rfl) (hv_build (e := 65) (K := 2) (bytes := 24) [] rfl (by kernel_rfl) (by kernel_rfl) (by kernel_rfl) (by kernel_rfl) (by kernel_rfl) (rs := ([] : List Pce).map pceCells) rfl) ?_
  intro g1
  refine xl_hvS 2 [1,2,3,5] [(1,.p 0 0),(2,.p 1 0),(3,.v (.slice (some ⟨g1,0,none⟩) 0 0)),(5,.v (.slice Arh r.held.length Crh))] (by kernel_rfl) rfl (by kernel_rfl) rfl (by kernel_rfl) (hv_append (e := 65) (K := 2) (bytes := 24) (i := 0) (q := r.held.length) (new := r.held.map pceCells) (rs' := r.held.map pceCells) rfl rfl rfl rfl (by kernel_rfl) (by kernel_rfl) (by kernel_rfl) rfl (by simp) rfl (by simp) (fun ww hf => (hf (slF (.slice Arh r.held.length Crh) 2 (r.held.map pceCells)) (by simp))) (by intro r hr; obtain ⟨x,hx,rfl⟩ := List.mem_map.1 hr; exact ⟨rfl,by simp [pceCells,Value.oneCell']⟩) (by (try simp only [List.length_map,List.length_append,List.length_cons,List.length_nil,List.length_take,List.length_drop,maxLen]); omega) (by (try simp only [List.length_map,List.length_append,List.length_cons,List.length_nil,List.length_take,List.length_drop,maxLen]); omega)) ?_
  rintro ⟨v2a,v2c⟩
  refine xl_end [1,2] ⟨[(1,.p 0 0),(2,.p 1 0)],[⟨26,rcvL r (.slice v2a r.held.length v2c)⟩,⟨26,rcvZ⟩],[],[rowF w.heap.size 65 2 (.slice v2a r.held.length v2c) (r.held.map pceCells),slF (.slice Arh r.held.length Crh) 2 (r.held.map pceCells)]⟩ (by kernel_rfl) ?_
  refine xw_seq ?_
  refine xw_region ?_
  refine xl_end [2] ⟨[(2,.p 1 0)],[⟨26,rcvL r (.slice v2a r.held.length v2c)⟩,⟨26,rcvL r (.slice v2a r.held.length v2c)⟩],[],[rowF w.heap.size 65 2 (.slice v2a r.held.length v2c) (r.held.map pceCells),slF (.slice Arh r.held.length Crh) 2 (r.held.map pceCells)]⟩ (by kernel_rfl) ?_
  refine xw_ret ?_
  exact ⟨[.agg (rcvL r (.slice v2a r.held.length v2c)).toArray],by kernel_rfl,fun w' hb hf ha => by exact xr_one ((v2a,v2c)) rfl rfl (rowF_ownF (hf (rowF w.heap.size 65 2 (.slice v2a r.held.length v2c) (r.held.map pceCells)) (by simp)) hB) (fun b hb => rowF_lo (hf (rowF w.heap.size 65 2 (.slice v2a r.held.length v2c) (r.held.map pceCells)) (by simp)) (rowF_blk hb)) hb⟩
set_option maxHeartbeats 1000000 in
theorem ycloneReceiver_c (r : Rcv) (r_heldV : Value) (w : World) (hl_r_heldV : Sl w r_heldV 2 (r.held.map pceCells)) (hkn : r.held.length ≤ 1048576) (B : Nat) (hB : B ≤ w.heap.size) : Calls Try.prog 36 #[.agg (rcvL r r_heldV).toArray] w fun e w' => XRs w w' e (α := Option Addr × Nat) (fun y => .agg (rcvL r (.slice y.1 r.held.length y.2)).toArray) (fun y => [ownF B (.slice y.1 r.held.length y.2) 2 (r.held.map pceCells)]) := by
  obtain ⟨Arh,Crh,hvrh⟩ := hl_r_heldV.form
  rw [List.length_map] at hvrh; subst hvrh
  have hnrh := hl_r_heldV.len; rw [List.length_map] at hnrh
  have hqrh := Sl.capLe hl_r_heldV
  refine x_callsA (args := [.agg (rcvL r (.slice Arh r.held.length Crh)).toArray]) (fn := Try.f36) [slF (.slice Arh r.held.length Crh) 2 (r.held.map pceCells)] Try.func36 rfl Try.ntmps36 rfl (by simp only [List.mem_cons,List.not_mem_nil,or_false,forall_eq_or_imp,forall_eq]; exact ⟨rfl,hl_r_heldV⟩) ?_
  refine xw_seq ?_
  refine xw_region ?_
  refine xl_end [1,2] ⟨[(1,.p 0 0),(2,.p 1 0)],[⟨26,rcvL r (.slice Arh r.held.length Crh)⟩,⟨26,rcvZ⟩],[],[slF (.slice Arh r.held.length Crh) 2 (r.held.map pceCells)]⟩ (by kernel_rfl) ?_
  refine xw_seq ?_
  refine xw_region ?_
  refine xl_callS 2 [1,2,4] [(1,.p 0 0),(2,.p 1 0),(4,.v (.slice Arh r.held.length Crh))] 76 [.slice Arh r.held.length Crh] (some 5) (by kernel_rfl) rfl (by kernel_rfl) rfl (by kernel_rfl) (xc_r fun ww hw hf => yClonePiece_c r.held (.slice Arh r.held.length Crh) ww (hf (slF (.slice Arh r.held.length Crh) 2 (r.held.map pceCells)) (by simp)) (by assumption) w.heap.size hw) ?_
  rintro ⟨v1a,v1c⟩
  refine xl_end [1,2] ⟨[(1,.p 0 0),(2,.p 1 0)],[⟨26,rcvL r (.slice v1a r.held.length v1c)⟩,⟨26,rcvZ⟩],[],[ownF w.heap.size (.slice v1a r.held.length v1c) 2 (r.held.map pceCells),slF (.slice Arh r.held.length Crh) 2 (r.held.map pceCells)]⟩ (by kernel_rfl) ?_
  refine xw_seq ?_
  refine xw_region ?_
  refine xl_end [2] ⟨[(2,.p 1 0)],[⟨26,rcvL r (.slice v1a r.held.length v1c)⟩,⟨26,rcvL r (.slice v1a r.held.length v1c)⟩],[],[ownF w.heap.size (.slice v1a r.held.length v1c) 2 (r.held.map pceCells),slF (.slice Arh r.held.length Crh) 2 (r.held.map pceCells)]⟩ (by kernel_rfl) ?_
  refine xw_ret ?_
  exact ⟨[.agg (rcvL r (.slice v1a r.held.length v1c)).toArray],by kernel_rfl,fun w' hb hf ha => by exact xr_one ((v1a,v1c)) rfl rfl (ownF_ownF (hf (ownF w.heap.size (.slice v1a r.held.length v1c) 2 (r.held.map pceCells)) (by simp)) hB) (fun b hb => ownF_lo (hf (ownF w.heap.size (.slice v1a r.held.length v1c) 2 (r.held.map pceCells)) (by simp)) hb) hb⟩
set_option maxHeartbeats 1000000 in
theorem yl18Free_c (l : List Int) (lV : Value) (m : Nat) (w : World) (hl_lV : Sl w lV 1 (l.map intRow)) (hm : m ≤ l.length) : Calls Try.prog 70 #[lV, .int .i64 (m : Int)] w fun e w' => e = .returned (.bool (freeFrom l m)) ∧ Below w.heap.size w w' := by
  obtain ⟨Al,Cl,hvl⟩ := hl_lV.form
  rw [List.length_map] at hvl; subst hvl
  have hnl := hl_lV.len; rw [List.length_map] at hnl
  have hql := Sl.capLe hl_lV
  refine x_calls (args := [.slice Al l.length Cl,.int .i64 (m : Int)]) (fn := Try.f70) [slF (.slice Al l.length Cl) 1 (l.map intRow)] Try.func70 rfl Try.ntmps70 rfl (by simp only [List.mem_cons,List.not_mem_nil,or_false,forall_eq_or_imp,forall_eq]; exact ⟨rfl,hl_lV⟩) ?_
  refine xw_seq ?_
  refine xw_region ?_
  refine xl_end [0,1] ⟨[(0,.v (.slice Al l.length Cl)),(1,.v (.int .i64 (m : Int)))],[],[],[slF (.slice Al l.length Cl) 1 (l.map intRow)]⟩ (by kernel_rfl) ?_
  refine xw_seq ?_
  refine xw_seq ?_
  refine xw_region ?_
  refine xl_endS [0,5] [(0,.v (.slice Al l.length Cl)),(5,.v (.int .i64 (m : Int)))] (by kernel_rfl) ?_
  refine xw_block ?_
  refine xw_loopW (α := {x : Nat // (fun (k : Nat) => k ≤ l.length ∧ freeFrom l m = freeFrom l k) x}) (fun x => (fun (k : Nat) => (⟨[(0,.v (.slice Al l.length Cl)),(5,.v (.int .i64 (k : Int)))],[],[],[slF (.slice Al l.length Cl) 1 (l.map intRow)]⟩ : St)) x.1) (fun x => l.length - x.1) ⟨(m),⟨hm,rfl⟩⟩ (wk_forget 0 0 [0,5] (by kernel_rfl) (by kernel_rfl) (by kernel_rfl)) ?_
  rintro ⟨k,hk,HK⟩
  refine xw_wk (Wk.of_eq (s' := ⟨[(0,.v (.slice Al l.length Cl)),(5,.v (.int .i64 (k : Int)))],[],[],[slF (.slice Al l.length Cl) 1 (l.map intRow)]⟩) rfl) ?_
  try dsimp only at hk HK
  refine xw_seq ?_
  refine xw_seq ?_
  refine xw_region ?_
  refine xl_endS [0,5,10] [(0,.v (.slice Al l.length Cl)),(5,.v (.int .i64 (k : Int))),(10,.v (.bool (decide ((k : Int) < ((l.length : Nat) : Int)))))] (by kernel_rfl) ?_
  refine xw_cond (b := decide ((k : Int) < ((l.length : Nat) : Int))) (by kernel_rfl) (fun h1 => ?_) (fun h1 => ?_)
  have h1p : ((k : Int) < ((l.length : Nat) : Int)) := of_decide_eq_true h1
  have hlt : k < l.length := by simpa using h1
  obtain ⟨x,hx⟩ : ∃ x,l[k]? = some x := ⟨_,List.getElem?_eq_getElem hlt⟩
  have hfs := freeFrom_step hx
  refine xw_skip ?_
  refine xw_seq ?_
  refine xw_block ?_
  refine xw_seq ?_
  refine xw_region ?_
  refine xl_indexS (kd := .i64) (T := 62) (e := 3) (K := 1) 2 [0,5,13,14] [(0,.v (.slice Al l.length Cl)),(5,.v (.int .i64 (k : Int))),(13,.v (.slice Al l.length Cl)),(14,.v (.int .i64 (k : Int)))] k [.int .i64 x] (slF (.slice Al l.length Cl) 1 (l.map intRow)) (by kernel_rfl) rfl (by kernel_rfl) rfl rfl (by kernel_rfl) (by kernel_rfl) (by kernel_rfl) (by kernel_rfl) hlt (by simp) (fun w h => h) (fun b h => h) (by simp only [List.getElem?_map,hx]; rfl) ?_
  refine xl_endS [0,5,17] [(0,.v (.slice Al l.length Cl)),(5,.v (.int .i64 (k : Int))),(17,.v (.bool (decide (x ≥ 0))))] (by kernel_rfl) ?_
  refine xw_cond (b := decide (x ≥ 0)) (by kernel_rfl) (fun h2 => ?_) (fun h2 => ?_)
  have h2p : (x ≥ 0) := of_decide_eq_true h2
  refine xw_seq ?_
  refine xw_region ?_
  refine xl_endS [4] [(4,.v (.bool false))] (by kernel_rfl) ?_
  refine xw_ret ?_
  have hmod : freeFrom l m = false := by first | (rw [HK]; exact hfe) | (rw [HK,hfs]; simp; omega) | (rw [HK,hfs]; simp [*])
  exact ⟨[.bool false],by kernel_rfl,fun w' hb hf => by rw [hmod]; exact ⟨rfl,hb⟩⟩
  have h2p : ¬ (x ≥ 0) := of_decide_eq_false h2
  refine xw_skip ?_
  refine xw_region ?_
  refine xl_runS 3 [0,5] [(0,.v (.slice Al l.length Cl)),(5,.v (.int .i64 (IntKind.i64.wrap ((k : Int) + 1))))] (by kernel_rfl) ?_
  refine xl_eqS (t' := [(0,.v (.slice Al l.length Cl)),(5,.v (.int .i64 ((k : Int) + 1)))]) (by rw [show (IntKind.i64.wrap ((k : Int) + 1)) = ((k : Int) + 1) from wrap_id (by omega) (by omega)]) ?_
  refine xl_endS [0,5] [(0,.v (.slice Al l.length Cl)),(5,.v (.int .i64 ((k : Int) + 1)))] (by kernel_rfl) ?_
  exact ⟨⟨(k + 1),⟨by omega,by rw [HK,hfs]; simp; omega⟩⟩,wk_forget 0 0 [0,5] (by kernel_rfl) (by kernel_rfl) (by kernel_rfl),by show l.length - (k + 1) < l.length - k; omega⟩
  have h1p : ¬ ((k : Int) < ((l.length : Nat) : Int)) := of_decide_eq_false h1
  have hge : k = l.length := by simp at h1; omega
  have hfe := freeFrom_end l
  subst hge
  refine xw_exit ?_
  refine xw_seq ?_
  refine xw_region ?_
  refine xl_endS [4] [(4,.v (.bool true))] (by kernel_rfl) ?_
  refine xw_ret ?_
  have hmod : freeFrom l m = true := by first | (rw [HK]; exact hfe) | (rw [HK,hfs]; simp; omega) | (rw [HK,hfs]; simp [*])
  exact ⟨[.bool true],by kernel_rfl,fun w' hb hf => by rw [hmod]; exact ⟨rfl,hb⟩⟩
set_option maxHeartbeats 1000000 in
theorem yl18Slots_c (r : Rcv) (r_heldV : Value) (w : World) (hl_r_heldV : Sl w r_heldV 2 (r.held.map pceCells)) (hkn : r.held.length ≤ 1048576) (hheld : ∀ p ∈ r.held, 0 < p.off ∧ p.off + (p.text.size : Int) ≤ 32) (B : Nat) (hB : B ≤ w.heap.size) : Calls Try.prog 68 #[.agg (rcvL r r_heldV).toArray] w fun e w' => XRs w w' e (α := Option Addr × Nat) (fun y => .slice y.1 ((slotsOf r).length) y.2) (fun y => [rowF B 3 1 (.slice y.1 ((slotsOf r).length) y.2) ((slotsOf r).map intRow)]) := by
  obtain ⟨Arh,Crh,hvrh⟩ := hl_r_heldV.form
  rw [List.length_map] at hvrh; subst hvrh
  have hnrh := hl_r_heldV.len; rw [List.length_map] at hnrh
  have hqrh := Sl.capLe hl_r_heldV
  refine x_callsA (args := [.agg (rcvL r (.slice Arh r.held.length Crh)).toArray]) (fn := Try.f68) [slF (.slice Arh r.held.length Crh) 2 (r.held.map pceCells)] Try.func68 rfl Try.ntmps68 rfl (by simp only [List.mem_cons,List.not_mem_nil,or_false,forall_eq_or_imp,forall_eq]; exact ⟨rfl,hl_r_heldV⟩) ?_
  refine xw_seq ?_
  refine xw_region ?_
  refine xl_end [1] ⟨[(1,.p 0 0)],[⟨26,rcvL r (.slice Arh r.held.length Crh)⟩],[],[slF (.slice Arh r.held.length Crh) 2 (r.held.map pceCells)]⟩ (by kernel_rfl) ?_
  refine xw_seq ?_
  refine xw_region ?_
  refine xl_hvS 0 [1] [(1,.p 0 0)] (by kernel_rfl) rfl (by kernel_rfl) rfl (by kernel_rfl) (hv_make (kl := .i64) (kc := .i64) (e := 3) (K := 1) (bytes := 8) (m := 33) (z := .int .i64 0) (rs := (List.replicate 33 0).map intRow) rfl (by kernel_rfl) (by kernel_rfl) (by kernel_rfl) (by kernel_rfl) (by (try simp only [List.length_map,List.length_append,List.length_cons,List.length_nil,List.length_take,List.length_drop,maxLen]); omega) (by (try simp only [List.length_map,List.length_append,List.length_cons,List.length_nil,List.length_take,List.length_drop,maxLen]); omega) (by rw [List.map_replicate]; rfl)) ?_
  intro g1
  refine xl_endS [1,3] [(1,.p 0 0),(3,.v (.slice (some ⟨g1,0,none⟩) 33 33))] (by kernel_rfl) ?_
  refine xw_seq ?_
  refine xw_seq ?_
  refine xw_region ?_
  refine xl_endS [1,3,4] [(1,.p 0 0),(3,.v (.slice (some ⟨g1,0,none⟩) 33 33)),(4,.v (.int .i64 0))] (by kernel_rfl) ?_
  refine xw_block ?_
  refine xw_loopW (α := {x : Nat × List Int // (fun (k : Nat) (l : List Int) => k ≤ 33 ∧ l.length = 33 ∧ l.take k = List.replicate k (-1)) x.1 x.2}) (fun x => (fun (k : Nat) (l : List Int) => (⟨[(1,.p 0 0),(3,.v (.slice (some ⟨g1,0,none⟩) 33 33)),(4,.v (.int .i64 (k : Int)))],[⟨26,rcvL r (.slice Arh r.held.length Crh)⟩],[],[rowF w.heap.size 3 1 (.slice (some ⟨g1,0,none⟩) 33 33) (l.map intRow),slF (.slice Arh r.held.length Crh) 2 (r.held.map pceCells)]⟩ : St)) x.1.1 x.1.2) (fun x => (fun (k : Nat) (l : List Int) => 33 - k) x.1.1 x.1.2) ⟨(0,(List.replicate 33 0)),⟨Nat.zero_le _,by simp,rfl⟩⟩ ((wk_pick [0,1] [rowF w.heap.size 3 1 (.slice (some ⟨g1,0,none⟩) 33 33) ((List.replicate 33 0).map intRow),slF (.slice Arh r.held.length Crh) 2 (r.held.map pceCells)] (by kernel_rfl) (by kernel_rfl)).trans <| wk_forget 1 0 [1,3,4] (by kernel_rfl) (by kernel_rfl) (by kernel_rfl)) ?_
  rintro ⟨⟨k,l⟩,hk,hl,HK⟩
  refine xw_wk (Wk.of_eq (s' := ⟨[(1,.p 0 0),(3,.v (.slice (some ⟨g1,0,none⟩) 33 33)),(4,.v (.int .i64 (k : Int)))],[⟨26,rcvL r (.slice Arh r.held.length Crh)⟩],[],[rowF w.heap.size 3 1 (.slice (some ⟨g1,0,none⟩) 33 33) (l.map intRow),slF (.slice Arh r.held.length Crh) 2 (r.held.map pceCells)]⟩) rfl) ?_
  try dsimp only at hk hl HK
  refine xw_seq ?_
  refine xw_seq ?_
  refine xw_region ?_
  refine xl_endS [1,3,4,11] [(1,.p 0 0),(3,.v (.slice (some ⟨g1,0,none⟩) 33 33)),(4,.v (.int .i64 (k : Int))),(11,.v (.bool (decide ((k : Int) < 33))))] (by kernel_rfl) ?_
  refine xw_cond (b := decide ((k : Int) < 33)) (by kernel_rfl) (fun h2 => ?_) (fun h2 => ?_)
  have h2p : ((k : Int) < 33) := of_decide_eq_true h2
  have hlt : k < 33 := by simp at h2; omega
  obtain ⟨x0,hx0⟩ : ∃ x,l[k]? = some x := ⟨_,List.getElem?_eq_getElem (by omega)⟩
  refine xw_skip ?_
  refine xw_seq ?_
  refine xw_block ?_
  refine xw_region ?_
  refine xl_opS 2 [1,3,4,14,15] [(1,.p 0 0),(3,.v (.slice (some ⟨g1,0,none⟩) 33 33)),(4,.v (.int .i64 (k : Int))),(14,.v (.slice (some ⟨g1,0,none⟩) 33 33)),(15,.v (.int .i64 (k : Int)))] (.pointer (some ⟨g1,k * 1,none⟩)) (by kernel_rfl) rfl (by kernel_rfl) rfl (fun _ _ _ ww hr => act_ix (kd := .i64) (T := 62) (e := 3) (K := 1) (g := g1) (N := 33) (cap := 33) k rfl hr.1 rfl rfl (by kernel_rfl) (by kernel_rfl) (by kernel_rfl) hlt ww) ?_
  refine xl_hs 0 [1,3,4,16] ⟨[(1,.p 0 0),(3,.v (.slice (some ⟨g1,0,none⟩) 33 33)),(4,.v (.int .i64 (k : Int))),(16,.v (.pointer (some ⟨g1,k * 1,none⟩)))],[⟨26,rcvL r (.slice Arh r.held.length Crh)⟩],[],[rowF w.heap.size 3 1 (.slice (some ⟨g1,0,none⟩) 33 33) (l.map intRow),slF (.slice Arh r.held.length Crh) 2 (r.held.map pceCells)]⟩ (by kernel_rfl) rfl (by kernel_rfl) rfl (by kernel_rfl) (HSg.hs (hs_stR (g := g1) (B := w.heap.size) (e := 3) (K := 1) (N := 33) (cap := 33) (rs := (l.map intRow)) (rs' := (l.set k (-1)).map intRow) (v := (.int .i64 (-1))) (i := 0) (off := k * 1) k 0 [.int .i64 x0] (row' := [.int .i64 (-1)]) rfl rfl (by kernel_rfl) rfl (by kernel_rfl) (by kernel_rfl) (by kernel_rfl) (by kernel_rfl) (Nat.le_refl _) (by simp only [List.getElem?_map,hx0]; rfl) (by kernel_rfl) rfl (by rw [List.map_set]; rfl))) ?_
  refine xl_endS [1,3,4] [(1,.p 0 0),(3,.v (.slice (some ⟨g1,0,none⟩) 33 33)),(4,.v (.int .i64 (k : Int)))] (by kernel_rfl) ?_
  refine xw_region ?_
  refine xl_runS 3 [1,3,4] [(1,.p 0 0),(3,.v (.slice (some ⟨g1,0,none⟩) 33 33)),(4,.v (.int .i64 (IntKind.i64.wrap ((k : Int) + 1))))] (by kernel_rfl) ?_
  refine xl_eqS (t' := [(1,.p 0 0),(3,.v (.slice (some ⟨g1,0,none⟩) 33 33)),(4,.v (.int .i64 ((k : Int) + 1)))]) (by rw [show (IntKind.i64.wrap ((k : Int) + 1)) = ((k : Int) + 1) from wrap_id (by omega) (by omega)]) ?_
  refine xl_endS [1,3,4] [(1,.p 0 0),(3,.v (.slice (some ⟨g1,0,none⟩) 33 33)),(4,.v (.int .i64 ((k : Int) + 1)))] (by kernel_rfl) ?_
  exact ⟨⟨(k + 1,l.set k (-1)),⟨hlt,(by rw [List.length_set]; exact hl),init_step HK (by omega)⟩⟩,wk_forget 1 0 [1,3,4] (by kernel_rfl) (by kernel_rfl) (by kernel_rfl),by show (fun (k : Nat) (l : List Int) => 33 - k) (k + 1) (l.set k (-1)) < 33 - k; (dsimp only; omega)⟩
  have h2p : ¬ ((k : Int) < 33) := of_decide_eq_false h2
  have hk33 : k = 33 := by simp at h2; omega
  have hl1 : l = List.replicate 33 (-1) := by rw [hk33,← hl,List.take_length] at HK; rw [HK,hl]
  refine xw_exit ?_
  refine xw_seq ?_
  refine xw_seq ?_
  refine xw_region ?_
  refine xl_endS [1,3,5] [(1,.p 0 0),(3,.v (.slice (some ⟨g1,0,none⟩) 33 33)),(5,.v (.int .i64 0))] (by kernel_rfl) ?_
  refine xw_block ?_
  refine xw_loopW (α := {x : Nat × List Int // (fun (i : Nat) (l2 : List Int) => i ≤ r.held.length ∧ l2.length = 33 ∧ putHeld l r.held = putHeld l2 (r.held.drop i)) x.1 x.2}) (fun x => (fun (i : Nat) (l2 : List Int) => (⟨[(1,.p 0 0),(3,.v (.slice (some ⟨g1,0,none⟩) 33 33)),(5,.v (.int .i64 (i : Int)))],[⟨26,rcvL r (.slice Arh r.held.length Crh)⟩],[],[rowF w.heap.size 3 1 (.slice (some ⟨g1,0,none⟩) 33 33) (l2.map intRow),slF (.slice Arh r.held.length Crh) 2 (r.held.map pceCells)]⟩ : St)) x.1.1 x.1.2) (fun x => (fun (i : Nat) (l2 : List Int) => r.held.length - i) x.1.1 x.1.2) ⟨(0,l),⟨Nat.zero_le _,hl,rfl⟩⟩ ((wk_pick [0,1] [rowF w.heap.size 3 1 (.slice (some ⟨g1,0,none⟩) 33 33) (l.map intRow),slF (.slice Arh r.held.length Crh) 2 (r.held.map pceCells)] (by kernel_rfl) (by kernel_rfl)).trans <| wk_forget 1 0 [1,3,5] (by kernel_rfl) (by kernel_rfl) (by kernel_rfl)) ?_
  rintro ⟨⟨i,l2⟩,hi,hl2,H2⟩
  refine xw_wk (Wk.of_eq (s' := ⟨[(1,.p 0 0),(3,.v (.slice (some ⟨g1,0,none⟩) 33 33)),(5,.v (.int .i64 (i : Int)))],[⟨26,rcvL r (.slice Arh r.held.length Crh)⟩],[],[rowF w.heap.size 3 1 (.slice (some ⟨g1,0,none⟩) 33 33) (l2.map intRow),slF (.slice Arh r.held.length Crh) 2 (r.held.map pceCells)]⟩) rfl) ?_
  try dsimp only at hi hl2 H2
  refine xw_seq ?_
  refine xw_seq ?_
  refine xw_region ?_
  refine xl_endS [1,3,5,21] [(1,.p 0 0),(3,.v (.slice (some ⟨g1,0,none⟩) 33 33)),(5,.v (.int .i64 (i : Int))),(21,.v (.bool (decide ((i : Int) < ((r.held.length : Nat) : Int)))))] (by kernel_rfl) ?_
  refine xw_cond (b := decide ((i : Int) < ((r.held.length : Nat) : Int))) (by kernel_rfl) (fun h3 => ?_) (fun h3 => ?_)
  have h3p : ((i : Int) < ((r.held.length : Nat) : Int)) := of_decide_eq_true h3
  have hlt2 : i < r.held.length := by simpa using h3
  obtain ⟨pp,hx⟩ : ∃ p,r.held[i]? = some p := ⟨_,List.getElem?_eq_getElem hlt2⟩
  have hin := hheld pp (List.mem_of_getElem? hx)
  refine xw_skip ?_
  refine xw_seq ?_
  refine xw_block ?_
  refine xw_seq ?_
  refine xw_region ?_
  refine xl_endS [1,3,5,6] [(1,.p 0 0),(3,.v (.slice (some ⟨g1,0,none⟩) 33 33)),(5,.v (.int .i64 (i : Int))),(6,.v (.int .i64 0))] (by kernel_rfl) ?_
  refine xw_block ?_
  refine xw_loopW (α := {x : Nat × List Int // (fun (q : Nat) (l3 : List Int) => q ≤ pp.text.size ∧ l3.length = 33 ∧ l3 = putText l2 pp.off.toNat pp.text q) x.1 x.2}) (fun x => (fun (q : Nat) (l3 : List Int) => (⟨[(1,.p 0 0),(3,.v (.slice (some ⟨g1,0,none⟩) 33 33)),(5,.v (.int .i64 (i : Int))),(6,.v (.int .i64 (q : Int)))],[⟨26,rcvL r (.slice Arh r.held.length Crh)⟩],[],[rowF w.heap.size 3 1 (.slice (some ⟨g1,0,none⟩) 33 33) (l3.map intRow),slF (.slice Arh r.held.length Crh) 2 (r.held.map pceCells)]⟩ : St)) x.1.1 x.1.2) (fun x => (fun (q : Nat) (l3 : List Int) => pp.text.size - q) x.1.1 x.1.2) ⟨(0,l2),⟨Nat.zero_le _,hl2,rfl⟩⟩ ((wk_pick [0,1] [rowF w.heap.size 3 1 (.slice (some ⟨g1,0,none⟩) 33 33) (l2.map intRow),slF (.slice Arh r.held.length Crh) 2 (r.held.map pceCells)] (by kernel_rfl) (by kernel_rfl)).trans <| wk_forget 1 0 [1,3,5,6] (by kernel_rfl) (by kernel_rfl) (by kernel_rfl)) ?_
  rintro ⟨⟨q,l3⟩,hq,hl3,H3⟩
  refine xw_wk (Wk.of_eq (s' := ⟨[(1,.p 0 0),(3,.v (.slice (some ⟨g1,0,none⟩) 33 33)),(5,.v (.int .i64 (i : Int))),(6,.v (.int .i64 (q : Int)))],[⟨26,rcvL r (.slice Arh r.held.length Crh)⟩],[],[rowF w.heap.size 3 1 (.slice (some ⟨g1,0,none⟩) 33 33) (l3.map intRow),slF (.slice Arh r.held.length Crh) 2 (r.held.map pceCells)]⟩) rfl) ?_
  try dsimp only at hq hl3 H3
  refine xw_seq ?_
  refine xw_seq ?_
  refine xw_region ?_
  refine xl_indexS (kd := .i64) (T := 24) (e := 65) (K := 2) 4 [1,3,5,6,24,26,27] [(1,.p 0 0),(3,.v (.slice (some ⟨g1,0,none⟩) 33 33)),(5,.v (.int .i64 (i : Int))),(6,.v (.int .i64 (q : Int))),(24,.v (.int .i64 (q : Int))),(26,.v (.slice Arh r.held.length Crh)),(27,.v (.int .i64 (i : Int)))] i [.int .i64 pp.off,.string pp.text] (slF (.slice Arh r.held.length Crh) 2 (r.held.map pceCells)) (by kernel_rfl) rfl (by kernel_rfl) rfl rfl (by kernel_rfl) (by kernel_rfl) (by kernel_rfl) (by kernel_rfl) hlt2 (by simp) (fun w h => h) (fun b h => h) (by simp only [List.getElem?_map,hx]; rfl) ?_
  refine xl_endS [1,3,5,6,32] [(1,.p 0 0),(3,.v (.slice (some ⟨g1,0,none⟩) 33 33)),(5,.v (.int .i64 (i : Int))),(6,.v (.int .i64 (q : Int))),(32,.v (.bool (decide ((q : Int) < (pp.text.size : Int)))))] (by kernel_rfl) ?_
  refine xw_cond (b := decide ((q : Int) < (pp.text.size : Int))) (by kernel_rfl) (fun h4 => ?_) (fun h4 => ?_)
  have h4p : ((q : Int) < (pp.text.size : Int)) := of_decide_eq_true h4
  have hlt3 : q < pp.text.size := by simpa using h4
  have hbr := byteAt_rng pp.text q
  obtain ⟨x3,hx3⟩ : ∃ x,l3[pp.off.toNat + q]? = some x := ⟨_,List.getElem?_eq_getElem (by omega)⟩
  refine xw_skip ?_
  refine xw_seq ?_
  refine xw_block ?_
  refine xw_wk (wk_forget (s' := ⟨[(1,.p 0 0),(3,.v (.slice (some ⟨g1,0,none⟩) 33 33)),(5,.v (.int .i64 (i : Int))),(6,.v (.int .i64 (q : Int))),(32,.v (.bool (decide ((q : Int) < (pp.text.size : Int)))))],[⟨26,rcvL r (.slice Arh r.held.length Crh)⟩],[],[rowF w.heap.size 3 1 (.slice (some ⟨g1,0,none⟩) 33 33) (l3.map intRow),slF (.slice Arh r.held.length Crh) 2 (r.held.map pceCells)]⟩) 1 0 [1,3,5,6,32] (by kernel_rfl) (by kernel_rfl) (by kernel_rfl)) ?_
  refine xws_start ?_
  refine xws_row (K := 2) (j := i) [.int .i64 pp.off,.string pp.text] (slF (.slice Arh r.held.length Crh) 2 (r.held.map pceCells)) (fun _ _ h => h) (by simp) (fun w h => h) (fun b h => h) (by simp only [List.getElem?_map,hx]; rfl) (fun bq5 offq5 hAq5 => ?_)
  refine xws_know (ψ := bq5 ≠ g1) (fun _ _ _ _ hr => row_ne hr 0 1 rfl rfl rfl (by decide) hAq5 i [.int .i64 pp.off,.string pp.text] (by simp only [List.getElem?_map,hx]; rfl)) (fun hneq5g1 => ?_)
  refine xws_row (K := 2) (j := i) [.int .i64 pp.off,.string pp.text] (slF (.slice Arh r.held.length Crh) 2 (r.held.map pceCells)) (fun _ _ h => h) (by simp) (fun w h => h) (fun b h => h) (by simp only [List.getElem?_map,hx]; rfl) (fun bq6 offq6 hAq6 => ?_)
  refine xws_know (ψ := bq6 ≠ g1) (fun _ _ _ _ hr => row_ne hr 0 1 rfl rfl rfl (by decide) hAq6 i [.int .i64 pp.off,.string pp.text] (by simp only [List.getElem?_map,hx]; rfl)) (fun hneq6g1 => ?_)
  refine xws_regionE [] (by kernel_rfl) (fun ρ σ hq7 => ?_)
  refine xe_tkS [0,1,2,3,7,9,10,11,15] [50,46,45,42,38,37,35,1,3,5,6] 11 [(50,.v (.int .i64 (q : Int))),(46,.v (.int .i64 (i : Int))),(45,.v (.slice Arh r.held.length Crh)),(42,.v (.int .i64 (q : Int))),(38,.v (.int .i64 (i : Int))),(37,.v (.slice Arh r.held.length Crh)),(35,.v (.slice (some ⟨g1,0,none⟩) 33 33)),(1,.p 0 0),(3,.v (.slice (some ⟨g1,0,none⟩) 33 33)),(5,.v (.int .i64 (i : Int))),(6,.v (.int .i64 (q : Int)))] (fun _ _ h => h) rfl (by kernel_rfl) ?_
  refine xe_takeI (kd := .i64) (T := 24) (e := 65) (K := 2) (j := i) (A := Arh) (len := r.held.length) (cap := Crh) 4 0 _ rfl (by kernel_rfl) (by kernel_rfl) (by kernel_rfl) (fun _ _ h => h) (by kernel_rfl) rfl rfl (by kernel_rfl) (by kernel_rfl) (by kernel_rfl) (by kernel_rfl) hlt2 hAq5 hq7.1.2 (by kernel_rfl) rfl ?_
  refine xe_tkS [5,6,8] [43,50,46,45,35,1,3,5,6] 7 [(43,.v (.int .i64 (IntKind.i64.wrap (pp.off + (q : Int))))),(50,.v (.int .i64 (q : Int))),(46,.v (.int .i64 (i : Int))),(45,.v (.slice Arh r.held.length Crh)),(35,.v (.slice (some ⟨g1,0,none⟩) 33 33)),(1,.p 0 0),(3,.v (.slice (some ⟨g1,0,none⟩) 33 33)),(5,.v (.int .i64 (i : Int))),(6,.v (.int .i64 (q : Int)))] (fun _ _ h => h) rfl (by kernel_rfl) ?_
  refine xe_eqS (t := [(43,.v (.int .i64 (IntKind.i64.wrap (pp.off + (q : Int))))),(50,.v (.int .i64 (q : Int))),(46,.v (.int .i64 (i : Int))),(45,.v (.slice Arh r.held.length Crh)),(35,.v (.slice (some ⟨g1,0,none⟩) 33 33)),(1,.p 0 0),(3,.v (.slice (some ⟨g1,0,none⟩) 33 33)),(5,.v (.int .i64 (i : Int))),(6,.v (.int .i64 (q : Int)))]) (t' := [(43,.v (.int .i64 ((pp.off.toNat + q : Nat) : Int))),(50,.v (.int .i64 (q : Int))),(46,.v (.int .i64 (i : Int))),(45,.v (.slice Arh r.held.length Crh)),(35,.v (.slice (some ⟨g1,0,none⟩) 33 33)),(1,.p 0 0),(3,.v (.slice (some ⟨g1,0,none⟩) 33 33)),(5,.v (.int .i64 (i : Int))),(6,.v (.int .i64 (q : Int)))]) (by rw [show (IntKind.i64.wrap (pp.off + (q : Int))) = ((pp.off.toNat + q : Nat) : Int) from by rw [wrap_id (by omega) (by omega)]; omega]) ?_
  refine xe_takeI (kd := .i64) (T := 24) (e := 65) (K := 2) (j := i) (A := Arh) (len := r.held.length) (cap := Crh) 12 1 _ rfl (by kernel_rfl) (by kernel_rfl) (by kernel_rfl) (fun _ _ h => h) (by kernel_rfl) rfl rfl (by kernel_rfl) (by kernel_rfl) (by kernel_rfl) (by kernel_rfl) hlt2 hAq6 hq7.2 (by kernel_rfl) rfl ?_
  refine xe_tkS [13,14] [49,43,50,35,1,3,5,6] 4 [(49,.v (.string pp.text)),(43,.v (.int .i64 ((pp.off.toNat + q : Nat) : Int))),(50,.v (.int .i64 (q : Int))),(35,.v (.slice (some ⟨g1,0,none⟩) 33 33)),(1,.p 0 0),(3,.v (.slice (some ⟨g1,0,none⟩) 33 33)),(5,.v (.int .i64 (i : Int))),(6,.v (.int .i64 (q : Int)))] (fun _ _ h => h) rfl (by kernel_rfl) ?_
  refine xe_op 16 (.int .u8 (byteAt pp.text q)) _ rfl (by kernel_rfl) (by kernel_rfl) (by kernel_rfl) (fun _ _ h => h) (by kernel_rfl) rfl (fun _ _ ww hA => act_tix (kd := .i64) (t := pp.text) q hA rfl rfl (by kernel_rfl) (by kernel_rfl) hlt3 ww) rfl ?_
  refine xe_tkS [17] [52,43,35,1,3,5,6] 2 [(52,.v (.int .i64 (IntKind.i64.wrap (byteAt pp.text q)))),(43,.v (.int .i64 ((pp.off.toNat + q : Nat) : Int))),(35,.v (.slice (some ⟨g1,0,none⟩) 33 33)),(1,.p 0 0),(3,.v (.slice (some ⟨g1,0,none⟩) 33 33)),(5,.v (.int .i64 (i : Int))),(6,.v (.int .i64 (q : Int)))] (fun _ _ h => h) rfl (by kernel_rfl) ?_
  refine xe_eqS (t := [(52,.v (.int .i64 (IntKind.i64.wrap (byteAt pp.text q)))),(43,.v (.int .i64 ((pp.off.toNat + q : Nat) : Int))),(35,.v (.slice (some ⟨g1,0,none⟩) 33 33)),(1,.p 0 0),(3,.v (.slice (some ⟨g1,0,none⟩) 33 33)),(5,.v (.int .i64 (i : Int))),(6,.v (.int .i64 (q : Int)))]) (t' := [(52,.v (.int .i64 (byteAt pp.text q))),(43,.v (.int .i64 ((pp.off.toNat + q : Nat) : Int))),(35,.v (.slice (some ⟨g1,0,none⟩) 33 33)),(1,.p 0 0),(3,.v (.slice (some ⟨g1,0,none⟩) 33 33)),(5,.v (.int .i64 (i : Int))),(6,.v (.int .i64 (q : Int)))]) (by rw [show (IntKind.i64.wrap (byteAt pp.text q)) = (byteAt pp.text q) from wrap_id (by omega) (by omega)]) ?_
  refine xe_op 18 (.pointer (some ⟨g1,(pp.off.toNat + q) * 1,none⟩)) _ rfl (by kernel_rfl) (by kernel_rfl) (by kernel_rfl) (fun _ _ h => h) (by kernel_rfl) rfl (fun _ _ ww hA => act_ix (kd := .i64) (T := 62) (e := 3) (K := 1) (g := g1) (N := 33) (cap := 33) (pp.off.toNat + q) rfl hA rfl rfl (by kernel_rfl) (by kernel_rfl) (by kernel_rfl) (by omega) ww) rfl ?_
  refine xe_all [19] (by kernel_rfl) (by simp) ?_
  refine xs_hsG 19 g1 rfl (by kernel_rfl) (by kernel_rfl) (by kernel_rfl) (under_t under_nil) (fun kk rr hk => match kk,hk with | 0,_ => .inr (fun h => hneq5g1 ((congrArg Prod.fst hq7.1.2).symm.trans h)) | 1,_ => .inr (fun h => hneq6g1 ((congrArg Prod.fst hq7.2).symm.trans h)) | nn + 2,hk => (by simp [addRow] at hk)) (hs_stR (g := g1) (B := w.heap.size) (e := 3) (K := 1) (N := 33) (cap := 33) (rs := (l3.map intRow)) (rs' := (l3.set (pp.off.toNat + q) (byteAt pp.text q)).map intRow) (v := (.int .i64 (byteAt pp.text q))) (i := 0) (off := (pp.off.toNat + q) * 1) (pp.off.toNat + q) 0 [.int .i64 x3] (row' := [.int .i64 (byteAt pp.text q)]) rfl rfl (by kernel_rfl) rfl (by kernel_rfl) (by kernel_rfl) (by kernel_rfl) (by kernel_rfl) (Nat.le_refl _) (by simp only [List.getElem?_map,hx3]; rfl) (by kernel_rfl) rfl (by rw [List.map_set]; rfl)) ?_
  refine xe_done (by kernel_rfl) ?_
  refine xw_region ?_
  refine xl_runS 3 [1,3,5,6] [(1,.p 0 0),(3,.v (.slice (some ⟨g1,0,none⟩) 33 33)),(5,.v (.int .i64 (i : Int))),(6,.v (.int .i64 (IntKind.i64.wrap ((q : Int) + 1))))] (by kernel_rfl) ?_
  refine xl_eqS (t' := [(1,.p 0 0),(3,.v (.slice (some ⟨g1,0,none⟩) 33 33)),(5,.v (.int .i64 (i : Int))),(6,.v (.int .i64 ((q : Int) + 1)))]) (by rw [show (IntKind.i64.wrap ((q : Int) + 1)) = ((q : Int) + 1) from wrap_id (by omega) (by omega)]) ?_
  refine xl_endS [1,3,5,6] [(1,.p 0 0),(3,.v (.slice (some ⟨g1,0,none⟩) 33 33)),(5,.v (.int .i64 (i : Int))),(6,.v (.int .i64 ((q : Int) + 1)))] (by kernel_rfl) ?_
  exact ⟨⟨(q + 1,(l3.set (pp.off.toNat + q) (byteAt pp.text q))),⟨hlt3,(by rw [List.length_set]; exact hl3),(by rw [H3]; rfl)⟩⟩,wk_forget 1 0 [1,3,5,6] (by kernel_rfl) (by kernel_rfl) (by kernel_rfl),by show (fun (q : Nat) (l3 : List Int) => pp.text.size - q) (q + 1) (l3.set (pp.off.toNat + q) (byteAt pp.text q)) < pp.text.size - q; (dsimp only; omega)⟩
  have h4p : ¬ ((q : Int) < (pp.text.size : Int)) := of_decide_eq_false h4
  have hq3 : q = pp.text.size := by simp at h4; omega
  refine xw_exit ?_
  refine xw_region ?_
  refine xl_runS 3 [1,3,5] [(1,.p 0 0),(3,.v (.slice (some ⟨g1,0,none⟩) 33 33)),(5,.v (.int .i64 (IntKind.i64.wrap ((i : Int) + 1))))] (by kernel_rfl) ?_
  refine xl_eqS (t' := [(1,.p 0 0),(3,.v (.slice (some ⟨g1,0,none⟩) 33 33)),(5,.v (.int .i64 ((i : Int) + 1)))]) (by rw [show (IntKind.i64.wrap ((i : Int) + 1)) = ((i : Int) + 1) from wrap_id (by omega) (by omega)]) ?_
  refine xl_endS [1,3,5] [(1,.p 0 0),(3,.v (.slice (some ⟨g1,0,none⟩) 33 33)),(5,.v (.int .i64 ((i : Int) + 1)))] (by kernel_rfl) ?_
  exact ⟨⟨(i + 1,l3),⟨hlt2,hl3,(by rw [H2,drop_cons_of hx,putHeld,← hq3,← H3])⟩⟩,wk_forget 1 0 [1,3,5] (by kernel_rfl) (by kernel_rfl) (by kernel_rfl),by show (fun (i : Nat) (l2 : List Int) => r.held.length - i) (i + 1) l3 < r.held.length - i; (dsimp only; omega)⟩
  have h3p : ¬ ((i : Int) < ((r.held.length : Nat) : Int)) := of_decide_eq_false h3
  have hi2 : i = r.held.length := by simp at h3; omega
  rw [hi2,List.drop_length] at H2; simp only [putHeld] at H2
  refine xw_exit ?_
  refine xw_seq ?_
  refine xw_region ?_
  refine xl_endS [2] [(2,.v (.slice (some ⟨g1,0,none⟩) 33 33))] (by kernel_rfl) ?_
  refine xw_ret ?_
  have hmod : slotsOf r = l2 := by (unfold slotsOf; rw [← hl1]; exact H2)
  exact ⟨[.slice (some ⟨g1,0,none⟩) 33 33],by kernel_rfl,fun w' hb hf ha => by rw [hmod,hl2]; exact xr_one ((((some ⟨g1,0,none⟩) : Option Addr),33)) rfl rfl (rowF_lower (hf (rowF w.heap.size 3 1 (.slice (some ⟨g1,0,none⟩) 33 33) (l2.map intRow)) (by simp)) hB) (fun b hb => rowF_lo (hf (rowF w.heap.size 3 1 (.slice (some ⟨g1,0,none⟩) 33 33) (l2.map intRow)) (by simp)) hb) hb⟩
set_option maxHeartbeats 1000000 in
theorem ysTakenIn_c (r : Rcv) (r_heldV : Value) (n : Int) (w : World) (hl_r_heldV : Sl w r_heldV 2 (r.held.map pceCells)) (hkn : r.held.length ≤ 1048576) (hm : ∀ p ∈ r.held, p.text.size ≤ 1048576) (hsz : r.data.size ≤ 4611686018427387904) (B : Nat) (hB : B ≤ w.heap.size) : Calls Try.prog 11 #[.agg (rcvL r r_heldV).toArray, .int .i64 n] w fun e w' => XRs w w' e (α := Option Addr × Nat) (fun y => .tuple #[.agg (rcvL (takenIn r n).1 (.slice y.1 ((takenIn r n).1.held.length) y.2)).toArray, .string ((takenIn r n).2)]) (fun y => [ownF B (.slice y.1 ((takenIn r n).1.held.length) y.2) 2 ((takenIn r n).1.held.map pceCells)]) := by
  obtain ⟨Arh,Crh,hvrh⟩ := hl_r_heldV.form
  rw [List.length_map] at hvrh; subst hvrh
  have hnrh := hl_r_heldV.len; rw [List.length_map] at hnrh
  have hqrh := Sl.capLe hl_r_heldV
  refine x_callsA (args := [.agg (rcvL r (.slice Arh r.held.length Crh)).toArray,.int .i64 n]) (fn := Try.f11) [slF (.slice Arh r.held.length Crh) 2 (r.held.map pceCells)] Try.func11 rfl Try.ntmps11 rfl (by simp only [List.mem_cons,List.not_mem_nil,or_false,forall_eq_or_imp,forall_eq]; exact ⟨rfl,hl_r_heldV⟩) ?_
  refine xw_seq ?_
  refine xw_region ?_
  refine xl_end [1,2,4] ⟨[(1,.v (.int .i64 n)),(2,.p 0 0),(4,.p 1 0)],[⟨26,rcvL r (.slice Arh r.held.length Crh)⟩,⟨26,rcvZ⟩],[],[slF (.slice Arh r.held.length Crh) 2 (r.held.map pceCells)]⟩ (by kernel_rfl) ?_
  refine xw_seq ?_
  refine xw_region ?_
  refine xl_callS 1 [1,2,4,7] [(1,.v (.int .i64 n)),(2,.p 0 0),(4,.p 1 0),(7,.v (.agg (rcvL r (.slice Arh r.held.length Crh)).toArray))] 37 [.agg (rcvL r (.slice Arh r.held.length Crh)).toArray] (some 8) (by kernel_rfl) rfl (by kernel_rfl) rfl (by kernel_rfl) (xc_r fun ww hw hf => yl18Copy_c r (.slice Arh r.held.length Crh) ww (hf (slF (.slice Arh r.held.length Crh) 2 (r.held.map pceCells)) (by simp)) (by assumption) w.heap.size hw) ?_
  rintro ⟨v1a,v1c⟩
  refine xl_end [1,2,4,6] ⟨[(1,.v (.int .i64 n)),(2,.p 0 0),(4,.p 1 0),(6,.p 2 0)],[⟨26,rcvL r (.slice Arh r.held.length Crh)⟩,⟨26,rcvZ⟩,⟨26,rcvL r (.slice v1a r.held.length v1c)⟩],[],[ownF w.heap.size (.slice v1a r.held.length v1c) 2 (r.held.map pceCells),slF (.slice Arh r.held.length Crh) 2 (r.held.map pceCells)]⟩ (by kernel_rfl) ?_
  refine xw_seq ?_
  refine xw_seq ?_
  refine xw_region ?_
  refine xl_callS 1 [1,2,4,6,9] [(1,.v (.int .i64 n)),(2,.p 0 0),(4,.p 1 0),(6,.p 2 0),(9,.v (.agg (rcvL r (.slice Arh r.held.length Crh)).toArray))] 13 [.agg (rcvL r (.slice Arh r.held.length Crh)).toArray] (some 10) (by kernel_rfl) rfl (by kernel_rfl) rfl (by kernel_rfl) (xc_b fun ww hf => ysReceiverOk_c r (.slice Arh r.held.length Crh) ww (hf (slF (.slice Arh r.held.length Crh) 2 (r.held.map pceCells)) (by simp)) (by assumption) (by omega)) ?_
  intro _
  refine xl_endS [1,2,4,6,11] [(1,.v (.int .i64 n)),(2,.p 0 0),(4,.p 1 0),(6,.p 2 0),(11,.v (.bool (!(receiverOk r))))] (by kernel_rfl) ?_
  refine xw_cond (b := !(receiverOk r)) (by kernel_rfl) (fun h2 => ?_) (fun h2 => ?_)
  have h2n := not_t h2
  refine xw_seq ?_
  refine xw_region ?_
  refine xl_end [4,5] ⟨[(4,.p 1 0),(5,.v (.string (⟨#[]⟩ : ByteArray)))],[⟨26,rcvL r (.slice Arh r.held.length Crh)⟩,⟨26,rcvL r (.slice v1a r.held.length v1c)⟩,⟨26,rcvL r (.slice v1a r.held.length v1c)⟩],[],[ownF w.heap.size (.slice v1a r.held.length v1c) 2 (r.held.map pceCells),slF (.slice Arh r.held.length Crh) 2 (r.held.map pceCells)]⟩ (by kernel_rfl) ?_
  refine xw_ret ?_
  have hmod : takenIn r n = (r,(⟨#[]⟩ : ByteArray)) := by first | rfl | (simp [takenIn,cut, *]; done) | grind [takenIn,cut]
  exact ⟨[.agg (rcvL r (.slice v1a r.held.length v1c)).toArray,.string (⟨#[]⟩ : ByteArray)],by kernel_rfl,fun w' hb hf ha => by rw [hmod]; exact xr_one ((v1a,v1c)) rfl rfl (ownF_ownF (hf (ownF w.heap.size (.slice v1a r.held.length v1c) 2 (r.held.map pceCells)) (by simp)) hB) (fun b hb => ownF_lo (hf (ownF w.heap.size (.slice v1a r.held.length v1c) 2 (r.held.map pceCells)) (by simp)) hb) hb⟩
  have h2n := not_f h2
  refine xw_skip ?_
  refine xw_seq ?_
  refine xw_region ?_
  refine xl_callS 4 [1,2,4,6,13,16] [(1,.v (.int .i64 n)),(2,.p 0 0),(4,.p 1 0),(6,.p 2 0),(13,.v (.int .i64 n)),(16,.v (.int .i64 (r.data.size : Int)))] 39 [.int .i64 n,.int .i64 (r.data.size : Int)] (some 17) (by kernel_rfl) rfl (by kernel_rfl) rfl (by kernel_rfl) (xc_s fun ww hf => l1Min_c n (r.data.size : Int) ww ) ?_
  intro _
  refine xl_callS 0 [1,2,4,6,17] [(1,.v (.int .i64 n)),(2,.p 0 0),(4,.p 1 0),(6,.p 2 0),(17,.v (.int .i64 (min n (r.data.size : Int))))] 38 [.int .i64 0,.int .i64 (min n (r.data.size : Int))] (some 18) (by kernel_rfl) rfl (by kernel_rfl) rfl (by kernel_rfl) (xc_s fun ww hf => l1Max_c 0 (min n (r.data.size : Int)) ww ) ?_
  intro _
  refine xl_endS [1,2,4,6] [(1,.v (.int .i64 (max 0 (min n (r.data.size : Int))))),(2,.p 0 0),(4,.p 1 0),(6,.p 2 0)] (by kernel_rfl) ?_
  refine xw_seq ?_
  refine xw_region ?_
  refine xl_opS 3 [1,2,4,6,20,21] [(1,.v (.int .i64 (max 0 (min n (r.data.size : Int))))),(2,.p 0 0),(4,.p 1 0),(6,.p 2 0),(20,.v (.string r.data)),(21,.v (.int .i64 (max 0 (min n (r.data.size : Int)))))] (.string (r.data.extract (max 0 (min n (r.data.size : Int))).toNat r.data.size)) (by kernel_rfl) rfl (by kernel_rfl) rfl (fun _ _ _ ww hr => act_slSe (max 0 (min n (r.data.size : Int))) hr.1 rfl (by kernel_rfl) rfl rfl (by omega) (by omega) ww) ?_
  refine xl_end [1,2,4,6] ⟨[(1,.v (.int .i64 (max 0 (min n (r.data.size : Int))))),(2,.p 0 0),(4,.p 1 0),(6,.p 2 0)],[⟨26,rcvL r (.slice Arh r.held.length Crh)⟩,⟨26,rcvZ⟩,⟨26,rcvL { r with data := r.data.extract (max 0 (min n (r.data.size : Int))).toNat r.data.size } (.slice v1a r.held.length v1c)⟩],[],[ownF w.heap.size (.slice v1a r.held.length v1c) 2 (r.held.map pceCells),slF (.slice Arh r.held.length Crh) 2 (r.held.map pceCells)]⟩ (by kernel_rfl) ?_
  refine xw_seq ?_
  refine xe_region [true,false,true] (by kernel_rfl) (fun ρ σ => ?_)
  refine xe_tkS [0,1,2,3] [27,26,24,4] 3 [(27,.v (.int .i64 (max 0 (min n (r.data.size : Int))))),(26,.v (.string r.data)),(24,.v (.agg (rcvL { r with data := r.data.extract (max 0 (min n (r.data.size : Int))).toNat r.data.size } (.slice v1a r.held.length v1c)).toArray)),(4,.p 1 0)] (fun _ _ h => h) rfl (by kernel_rfl) ?_
  refine xe_op 4 (.string (r.data.extract 0 (max 0 (min n (r.data.size : Int))).toNat)) _ rfl (by kernel_rfl) (by kernel_rfl) (by kernel_rfl) (fun _ _ h => h) (by kernel_rfl) rfl (fun _ _ ww hA => act_slS0 (max 0 (min n (r.data.size : Int))) hA rfl (by kernel_rfl) rfl rfl (by omega) (by omega) ww) rfl ?_
  refine xe_all [5] (by kernel_rfl) (by simp) ?_
  refine xs_store 5 1 0 [.int .i64 r.next,.string (r.data.extract (max 0 (min n (r.data.size : Int))).toNat r.data.size),.slice v1a r.held.length v1c,.int .i64 r.fin,.bool r.done] _ rfl (by kernel_rfl) (by kernel_rfl) (by kernel_rfl) (by kernel_rfl) (by first | exact .inr rfl | exact .inl rfl) (by kernel_rfl) rfl ?_
  refine xe_tkS [6] [5,4] 0 [(5,.v (.string (r.data.extract 0 (max 0 (min n (r.data.size : Int))).toNat))),(4,.p 1 0)] (fun _ _ h => h) rfl (by kernel_rfl) ?_
  refine xe_done (by kernel_rfl) ?_
  refine xw_ret ?_
  have hmod : takenIn r n = (({ r with data := r.data.extract (max 0 (min n (r.data.size : Int))).toNat r.data.size }),(r.data.extract 0 (max 0 (min n (r.data.size : Int))).toNat)) := by first | rfl | (simp [takenIn,cut, *]; done) | grind [takenIn,cut]
  exact ⟨[.agg (rcvL { r with data := r.data.extract (max 0 (min n (r.data.size : Int))).toNat r.data.size } (.slice v1a r.held.length v1c)).toArray,.string (r.data.extract 0 (max 0 (min n (r.data.size : Int))).toNat)],by kernel_rfl,fun w' hb hf ha => by rw [hmod]; exact xr_one ((v1a,v1c)) rfl rfl (ownF_ownF (hf (ownF w.heap.size (.slice v1a r.held.length v1c) 2 (r.held.map pceCells)) (by simp)) hB) (fun b hb => ownF_lo (hf (ownF w.heap.size (.slice v1a r.held.length v1c) 2 (r.held.map pceCells)) (by simp)) hb) hb⟩
set_option maxHeartbeats 1000000 in
theorem yiTakenIn_c (r : Rcv) (r_heldV : Value) (n : Int) (w : World) (hl_r_heldV : Sl w r_heldV 2 (r.held.map pceCells)) (hkn : r.held.length ≤ 1048576) (hm : ∀ p ∈ r.held, p.text.size ≤ 1048576) (hsz : r.data.size ≤ 4611686018427387904) (B : Nat) (hB : B ≤ w.heap.size) : Calls Try.prog 10 #[.agg (rcvL r r_heldV).toArray, .int .i64 n] w fun e w' => XRs w w' e (α := Option Addr × Nat) (fun y => .tuple #[.agg (rcvL (takenIn r n).1 (.slice y.1 ((takenIn r n).1.held.length) y.2)).toArray, .string ((takenIn r n).2)]) (fun y => [ownF B (.slice y.1 ((takenIn r n).1.held.length) y.2) 2 ((takenIn r n).1.held.map pceCells)]) := by
  obtain ⟨Arh,Crh,hvrh⟩ := hl_r_heldV.form
  rw [List.length_map] at hvrh; subst hvrh
  have hnrh := hl_r_heldV.len; rw [List.length_map] at hnrh
  have hqrh := Sl.capLe hl_r_heldV
  refine x_callsA (args := [.agg (rcvL r (.slice Arh r.held.length Crh)).toArray,.int .i64 n]) (fn := Try.f10) [slF (.slice Arh r.held.length Crh) 2 (r.held.map pceCells)] Try.func10 rfl Try.ntmps10 rfl (by simp only [List.mem_cons,List.not_mem_nil,or_false,forall_eq_or_imp,forall_eq]; exact ⟨rfl,hl_r_heldV⟩) ?_
  refine xw_seq ?_
  refine xw_region ?_
  refine xl_end [1,2,4] ⟨[(1,.v (.int .i64 n)),(2,.p 0 0),(4,.p 1 0)],[⟨26,rcvL r (.slice Arh r.held.length Crh)⟩,⟨26,rcvZ⟩],[],[slF (.slice Arh r.held.length Crh) 2 (r.held.map pceCells)]⟩ (by kernel_rfl) ?_
  refine xw_seq ?_
  refine xw_region ?_
  refine xl_callS 1 [1,2,4,7] [(1,.v (.int .i64 n)),(2,.p 0 0),(4,.p 1 0),(7,.v (.agg (rcvL r (.slice Arh r.held.length Crh)).toArray))] 36 [.agg (rcvL r (.slice Arh r.held.length Crh)).toArray] (some 8) (by kernel_rfl) rfl (by kernel_rfl) rfl (by kernel_rfl) (xc_r fun ww hw hf => ycloneReceiver_c r (.slice Arh r.held.length Crh) ww (hf (slF (.slice Arh r.held.length Crh) 2 (r.held.map pceCells)) (by simp)) (by assumption) w.heap.size hw) ?_
  rintro ⟨v1a,v1c⟩
  refine xl_end [1,2,4,6] ⟨[(1,.v (.int .i64 n)),(2,.p 0 0),(4,.p 1 0),(6,.p 2 0)],[⟨26,rcvL r (.slice Arh r.held.length Crh)⟩,⟨26,rcvZ⟩,⟨26,rcvL r (.slice v1a r.held.length v1c)⟩],[],[ownF w.heap.size (.slice v1a r.held.length v1c) 2 (r.held.map pceCells),slF (.slice Arh r.held.length Crh) 2 (r.held.map pceCells)]⟩ (by kernel_rfl) ?_
  refine xw_seq ?_
  refine xw_seq ?_
  refine xw_region ?_
  refine xl_callS 1 [1,2,4,6,9] [(1,.v (.int .i64 n)),(2,.p 0 0),(4,.p 1 0),(6,.p 2 0),(9,.v (.agg (rcvL r (.slice Arh r.held.length Crh)).toArray))] 14 [.agg (rcvL r (.slice Arh r.held.length Crh)).toArray] (some 10) (by kernel_rfl) rfl (by kernel_rfl) rfl (by kernel_rfl) (xc_b fun ww hf => yiReceiverOk_c r (.slice Arh r.held.length Crh) ww (hf (slF (.slice Arh r.held.length Crh) 2 (r.held.map pceCells)) (by simp)) (by assumption) (by omega)) ?_
  intro _
  refine xl_endS [1,2,4,6,11] [(1,.v (.int .i64 n)),(2,.p 0 0),(4,.p 1 0),(6,.p 2 0),(11,.v (.bool (!(receiverOk r))))] (by kernel_rfl) ?_
  refine xw_cond (b := !(receiverOk r)) (by kernel_rfl) (fun h2 => ?_) (fun h2 => ?_)
  have h2n := not_t h2
  refine xw_seq ?_
  refine xw_region ?_
  refine xl_end [4,5] ⟨[(4,.p 1 0),(5,.v (.string (⟨#[]⟩ : ByteArray)))],[⟨26,rcvL r (.slice Arh r.held.length Crh)⟩,⟨26,rcvL r (.slice v1a r.held.length v1c)⟩,⟨26,rcvL r (.slice v1a r.held.length v1c)⟩],[],[ownF w.heap.size (.slice v1a r.held.length v1c) 2 (r.held.map pceCells),slF (.slice Arh r.held.length Crh) 2 (r.held.map pceCells)]⟩ (by kernel_rfl) ?_
  refine xw_ret ?_
  have hmod : takenIn r n = (r,(⟨#[]⟩ : ByteArray)) := by first | rfl | (simp [takenIn,cut, *]; done) | grind [takenIn,cut]
  exact ⟨[.agg (rcvL r (.slice v1a r.held.length v1c)).toArray,.string (⟨#[]⟩ : ByteArray)],by kernel_rfl,fun w' hb hf ha => by rw [hmod]; exact xr_one ((v1a,v1c)) rfl rfl (ownF_ownF (hf (ownF w.heap.size (.slice v1a r.held.length v1c) 2 (r.held.map pceCells)) (by simp)) hB) (fun b hb => ownF_lo (hf (ownF w.heap.size (.slice v1a r.held.length v1c) 2 (r.held.map pceCells)) (by simp)) hb) hb⟩
  have h2n := not_f h2
  refine xw_skip ?_
  refine xw_seq ?_
  refine xw_region ?_
  refine xl_endS [1,2,4,6] [(1,.v (.int .i64 (if 0 < (if (r.data.size : Int) < n then (r.data.size : Int) else n) then if (r.data.size : Int) < n then (r.data.size : Int) else n else 0))),(2,.p 0 0),(4,.p 1 0),(6,.p 2 0)] (by kernel_rfl) ?_
  refine xw_seq ?_
  refine xw_region ?_
  refine xl_opS 3 [1,2,4,6,20,21] [(1,.v (.int .i64 (if 0 < (if (r.data.size : Int) < n then (r.data.size : Int) else n) then if (r.data.size : Int) < n then (r.data.size : Int) else n else 0))),(2,.p 0 0),(4,.p 1 0),(6,.p 2 0),(20,.v (.string r.data)),(21,.v (.int .i64 (if 0 < (if (r.data.size : Int) < n then (r.data.size : Int) else n) then if (r.data.size : Int) < n then (r.data.size : Int) else n else 0)))] (.string (r.data.extract (if 0 < (if (r.data.size : Int) < n then (r.data.size : Int) else n) then if (r.data.size : Int) < n then (r.data.size : Int) else n else 0).toNat r.data.size)) (by kernel_rfl) rfl (by kernel_rfl) rfl (fun _ _ _ ww hr => act_slSe (if 0 < (if (r.data.size : Int) < n then (r.data.size : Int) else n) then if (r.data.size : Int) < n then (r.data.size : Int) else n else 0) hr.1 rfl (by kernel_rfl) rfl rfl (by omega) (by omega) ww) ?_
  refine xl_end [1,2,4,6] ⟨[(1,.v (.int .i64 (if 0 < (if (r.data.size : Int) < n then (r.data.size : Int) else n) then if (r.data.size : Int) < n then (r.data.size : Int) else n else 0))),(2,.p 0 0),(4,.p 1 0),(6,.p 2 0)],[⟨26,rcvL r (.slice Arh r.held.length Crh)⟩,⟨26,rcvZ⟩,⟨26,rcvL { r with data := r.data.extract (if 0 < (if (r.data.size : Int) < n then (r.data.size : Int) else n) then if (r.data.size : Int) < n then (r.data.size : Int) else n else 0).toNat r.data.size } (.slice v1a r.held.length v1c)⟩],[],[ownF w.heap.size (.slice v1a r.held.length v1c) 2 (r.held.map pceCells),slF (.slice Arh r.held.length Crh) 2 (r.held.map pceCells)]⟩ (by kernel_rfl) ?_
  refine xw_seq ?_
  refine xe_region [true,false,true] (by kernel_rfl) (fun ρ σ => ?_)
  refine xe_tkS [0,1,2,3] [27,26,24,4] 3 [(27,.v (.int .i64 (if 0 < (if (r.data.size : Int) < n then (r.data.size : Int) else n) then if (r.data.size : Int) < n then (r.data.size : Int) else n else 0))),(26,.v (.string r.data)),(24,.v (.agg (rcvL { r with data := r.data.extract (if 0 < (if (r.data.size : Int) < n then (r.data.size : Int) else n) then if (r.data.size : Int) < n then (r.data.size : Int) else n else 0).toNat r.data.size } (.slice v1a r.held.length v1c)).toArray)),(4,.p 1 0)] (fun _ _ h => h) rfl (by kernel_rfl) ?_
  refine xe_op 4 (.string (r.data.extract 0 (if 0 < (if (r.data.size : Int) < n then (r.data.size : Int) else n) then if (r.data.size : Int) < n then (r.data.size : Int) else n else 0).toNat)) _ rfl (by kernel_rfl) (by kernel_rfl) (by kernel_rfl) (fun _ _ h => h) (by kernel_rfl) rfl (fun _ _ ww hA => act_slS0 (if 0 < (if (r.data.size : Int) < n then (r.data.size : Int) else n) then if (r.data.size : Int) < n then (r.data.size : Int) else n else 0) hA rfl (by kernel_rfl) rfl rfl (by omega) (by omega) ww) rfl ?_
  refine xe_all [5] (by kernel_rfl) (by simp) ?_
  refine xs_store 5 1 0 [.int .i64 r.next,.string (r.data.extract (if 0 < (if (r.data.size : Int) < n then (r.data.size : Int) else n) then if (r.data.size : Int) < n then (r.data.size : Int) else n else 0).toNat r.data.size),.slice v1a r.held.length v1c,.int .i64 r.fin,.bool r.done] _ rfl (by kernel_rfl) (by kernel_rfl) (by kernel_rfl) (by kernel_rfl) (by first | exact .inr rfl | exact .inl rfl) (by kernel_rfl) rfl ?_
  refine xe_tkS [6] [5,4] 0 [(5,.v (.string (r.data.extract 0 (if 0 < (if (r.data.size : Int) < n then (r.data.size : Int) else n) then if (r.data.size : Int) < n then (r.data.size : Int) else n else 0).toNat))),(4,.p 1 0)] (fun _ _ h => h) rfl (by kernel_rfl) ?_
  refine xe_done (by kernel_rfl) ?_
  refine xw_ret ?_
  have hmod : takenIn r n = (({ r with data := r.data.extract (if 0 < (if (r.data.size : Int) < n then (r.data.size : Int) else n) then if (r.data.size : Int) < n then (r.data.size : Int) else n else 0).toNat r.data.size }),(r.data.extract 0 (if 0 < (if (r.data.size : Int) < n then (r.data.size : Int) else n) then if (r.data.size : Int) < n then (r.data.size : Int) else n else 0).toNat)) := by first | rfl | (simp [takenIn,cut, *]; done) | grind [takenIn,cut]
  exact ⟨[.agg (rcvL { r with data := r.data.extract (if 0 < (if (r.data.size : Int) < n then (r.data.size : Int) else n) then if (r.data.size : Int) < n then (r.data.size : Int) else n else 0).toNat r.data.size } (.slice v1a r.held.length v1c)).toArray,.string (r.data.extract 0 (if 0 < (if (r.data.size : Int) < n then (r.data.size : Int) else n) then if (r.data.size : Int) < n then (r.data.size : Int) else n else 0).toNat)],by kernel_rfl,fun w' hb hf ha => by rw [hmod]; exact xr_one ((v1a,v1c)) rfl rfl (ownF_ownF (hf (ownF w.heap.size (.slice v1a r.held.length v1c) 2 (r.held.map pceCells)) (by simp)) hB) (fun b hb => ownF_lo (hf (ownF w.heap.size (.slice v1a r.held.length v1c) 2 (r.held.map pceCells)) (by simp)) hb) hb⟩
theorem l1New_c (code : List Int) (A : Option Addr) (cap : Nat) (w : World) (hl : Sl w (.slice A code.length cap) 1 (code.map byteRow)) (hn : code.length ≤ 1048576) : Calls Try.prog 33 #[.slice A code.length cap] w fun e w' => ∃ y : {g : Nat // ¬ (slF (.slice A code.length cap) 1 (code.map byteRow)).blk g}, e = .returned (.pointer (some ⟨y.1, 0, none⟩)) ∧ (curF w.heap.size y.1 85 (.slice A code.length cap) code.length).p w' ∧ Below w.heap.size w w' := by
  have hq_code := Sl.capLe hl
  refine x_calls (args := [.slice A code.length cap]) (fn := Try.f33) [slF (.slice A code.length cap) 1 (code.map byteRow)] Try.func33 rfl Try.ntmps33 rfl (by simp only [List.mem_cons,List.not_mem_nil,or_false,forall_eq]; exact ⟨rfl,hl⟩) ?_
  refine xw_seq ?_
  refine xw_region ?_
  refine xl_end [0] ⟨[(0,.v (.slice A code.length cap))],[],[],[slF (.slice A code.length cap) 1 (code.map byteRow)]⟩ (by kernel_rfl) ?_
  refine xw_seq ?_
  refine xw_region ?_
  refine xl_endS [0,3] [(0,.v (.slice A code.length cap)),(3,.v (.int .i64 (IntKind.i64.wrap (28655 + ((code.length : Nat) : Int)))))] (by kernel_rfl) ?_
  refine xw_seq ?_
  refine xw_seq ?_
  refine xw_region ?_
  refine xl_endS [0,3,4] [(0,.v (.slice A code.length cap)),(3,.v (.int .i64 (IntKind.i64.wrap (28655 + ((code.length : Nat) : Int))))),(4,.v (.int .i64 0))] (by kernel_rfl) ?_
  refine xw_block ?_
  refine xw_loopW (α := {x : Nat × Int // (fun (i : Nat) (h : Int) => i ≤ code.length) x.1 x.2}) (fun x => (fun (i : Nat) (h : Int) => (⟨[(0,.v (.slice A code.length cap)),(3,.v (.int .i64 h)),(4,.v (.int .i64 (i : Int)))],[],[],[slF (.slice A code.length cap) 1 (code.map byteRow)]⟩ : St)) x.1.1 x.1.2) (fun x => (fun (i : Nat) (h : Int) => code.length - i) x.1.1 x.1.2) ⟨(0,IntKind.i64.wrap (28655 + ((code.length : Nat) : Int))),Nat.zero_le _⟩ (wk_forget 0 0 [0,3,4] (by kernel_rfl) (by kernel_rfl) (by kernel_rfl)) ?_
  rintro ⟨⟨i,h⟩,hi⟩
  refine xw_wk (Wk.of_eq (s' := ⟨[(0,.v (.slice A code.length cap)),(3,.v (.int .i64 h)),(4,.v (.int .i64 (i : Int)))],[],[],[slF (.slice A code.length cap) 1 (code.map byteRow)]⟩) rfl) ?_
  try dsimp only at hi
  refine xw_seq ?_
  refine xw_seq ?_
  refine xw_region ?_
  refine xl_runS 5 [0,3,4,12] [(0,.v (.slice A code.length cap)),(3,.v (.int .i64 h)),(4,.v (.int .i64 (i : Int))),(12,.v (.bool (decide ((i : Int) < ((code.length : Nat) : Int)))))] (by kernel_rfl) ?_
  refine xl_split 12 (b := decide ((i : Int) < ((code.length : Nat) : Int))) (by kernel_rfl) (fun h1 => ?_) (fun h1 => ?_)
  have h1p : ((i : Int) < ((code.length : Nat) : Int)) := of_decide_eq_true h1
  have hlt : i < code.length := by simpa using h1
  obtain ⟨z,hz⟩ : ∃ z,code[i]? = some z := ⟨_,List.getElem?_eq_getElem hlt⟩
  refine xl_endS [0,3,4,13,14,15] [(0,.v (.slice A code.length cap)),(3,.v (.int .i64 h)),(4,.v (.int .i64 (i : Int))),(13,.v (.int .i64 (i : Int))),(14,.v (.bool (decide ((i : Int) < 4000)))),(15,.v (.bool (decide ((i : Int) < 4000))))] (by kernel_rfl) ?_
  refine xw_cond (b := decide ((i : Int) < 4000)) (by kernel_rfl) (fun h2 => ?_) (fun h2 => ?_)
  have h2p : ((i : Int) < 4000) := of_decide_eq_true h2
  refine xw_skip ?_
  refine xw_seq ?_
  refine xw_block ?_
  refine xw_region ?_
  refine xl_indexS (kd := .i64) (T := 22) (e := 5) (K := 1) 4 [0,3,4,13,14,19,20,21] [(0,.v (.slice A code.length cap)),(3,.v (.int .i64 h)),(4,.v (.int .i64 (i : Int))),(13,.v (.int .i64 (i : Int))),(14,.v (.bool (decide ((i : Int) < 4000)))),(19,.v (.int .i64 (IntKind.i64.wrap (h * 131)))),(20,.v (.slice A code.length cap)),(21,.v (.int .i64 (i : Int)))] i [.int .u8 z] (slF (.slice A code.length cap) 1 (code.map byteRow)) (by kernel_rfl) rfl (by kernel_rfl) rfl rfl (by kernel_rfl) (by kernel_rfl) (by kernel_rfl) (by kernel_rfl) hlt (by simp) (fun w h => h) (fun b h => h) (by simp only [List.getElem?_map,hz]; rfl) ?_
  refine xl_endS [0,3,4,13,14] [(0,.v (.slice A code.length cap)),(3,.v (.int .i64 (IntKind.i64.wrap (BitVec.ofInt 64 (IntKind.i64.wrap ((IntKind.i64.wrap ((IntKind.i64.wrap (h * 131)) + (IntKind.i64.wrap z))) + 7)) &&& BitVec.ofInt 64 1073741823).toNat))),(4,.v (.int .i64 (i : Int))),(13,.v (.int .i64 (i : Int))),(14,.v (.bool (decide ((i : Int) < 4000))))] (by kernel_rfl) ?_
  refine xw_region ?_
  refine xl_runS 3 [0,3,4,13,14] [(0,.v (.slice A code.length cap)),(3,.v (.int .i64 (IntKind.i64.wrap (BitVec.ofInt 64 (IntKind.i64.wrap ((IntKind.i64.wrap ((IntKind.i64.wrap (h * 131)) + (IntKind.i64.wrap z))) + 7)) &&& BitVec.ofInt 64 1073741823).toNat))),(4,.v (.int .i64 (IntKind.i64.wrap ((i : Int) + 1)))),(13,.v (.int .i64 (i : Int))),(14,.v (.bool (decide ((i : Int) < 4000))))] (by kernel_rfl) ?_
  refine xl_eqS (t' := [(0,.v (.slice A code.length cap)),(3,.v (.int .i64 (IntKind.i64.wrap (BitVec.ofInt 64 (IntKind.i64.wrap ((IntKind.i64.wrap ((IntKind.i64.wrap (h * 131)) + (IntKind.i64.wrap z))) + 7)) &&& BitVec.ofInt 64 1073741823).toNat))),(4,.v (.int .i64 ((i : Int) + 1))),(13,.v (.int .i64 (i : Int))),(14,.v (.bool (decide ((i : Int) < 4000))))]) (by rw [show (IntKind.i64.wrap ((i : Int) + 1)) = ((i : Int) + 1) from wrap_id (by omega) (by omega)]) ?_
  refine xl_endS [0,3,4,13,14] [(0,.v (.slice A code.length cap)),(3,.v (.int .i64 (IntKind.i64.wrap (BitVec.ofInt 64 (IntKind.i64.wrap ((IntKind.i64.wrap ((IntKind.i64.wrap (h * 131)) + (IntKind.i64.wrap z))) + 7)) &&& BitVec.ofInt 64 1073741823).toNat))),(4,.v (.int .i64 ((i : Int) + 1))),(13,.v (.int .i64 (i : Int))),(14,.v (.bool (decide ((i : Int) < 4000))))] (by kernel_rfl) ?_
  exact ⟨⟨(i + 1,IntKind.i64.wrap (BitVec.ofInt 64 (IntKind.i64.wrap ((IntKind.i64.wrap ((IntKind.i64.wrap (h * 131)) + (IntKind.i64.wrap z))) + 7)) &&& BitVec.ofInt 64 1073741823).toNat),hlt⟩,wk_forget 0 0 [0,3,4] (by kernel_rfl) (by kernel_rfl) (by kernel_rfl),by show (fun (i : Nat) (h : Int) => code.length - i) (i + 1) (IntKind.i64.wrap (BitVec.ofInt 64 (IntKind.i64.wrap ((IntKind.i64.wrap ((IntKind.i64.wrap (h * 131)) + (IntKind.i64.wrap z))) + 7)) &&& BitVec.ofInt 64 1073741823).toNat) < code.length - i; (dsimp only; omega)⟩
  have h2p : ¬ ((i : Int) < 4000) := of_decide_eq_false h2
  refine xw_exit ?_
  refine xw_seq ?_
  refine xw_region ?_
  refine xl_opS 2 [28,29] [(28,.v (.slice A code.length cap)),(29,.v (.int .i64 h))] (.agg #[.slice A code.length cap,.int .i64 0,.int .i64 h]) (by kernel_rfl) rfl (by kernel_rfl) rfl (fun _ _ _ ww hr => act_build [(0,.slice A code.length cap),(2,.int .i64 h)] hr.1 rfl (by kernel_rfl) (by kernel_rfl) ww) ?_
  refine xl_end [2] ⟨[(2,.p 0 0)],[⟨85,[.slice A code.length cap,.int .i64 0,.int .i64 h]⟩],[],[slF (.slice A code.length cap) 1 (code.map byteRow)]⟩ (by kernel_rfl) ?_
  refine xw_pin ?_
  intro g hg hgn
  refine xw_ret ?_
  exact ⟨[.pointer (some ⟨g,0,none⟩)],by kernel_rfl,fun w' hb hf => ⟨⟨g,hgn _ (by simp)⟩,rfl,⟨hg,0,h,Nat.zero_le _,(hf (cellF w.heap.size g 85 [.slice A code.length cap,.int .i64 0,.int .i64 h]) (by simp)).2⟩,hb⟩⟩
  have h1p : ¬ ((i : Int) < ((code.length : Nat) : Int)) := of_decide_eq_false h1
  refine xl_endS [0,3,4,15] [(0,.v (.slice A code.length cap)),(3,.v (.int .i64 h)),(4,.v (.int .i64 (i : Int))),(15,.v (.bool false))] (by kernel_rfl) ?_
  refine xw_false (by kernel_rfl) ?_
  refine xw_exit ?_
  refine xw_seq ?_
  refine xw_region ?_
  refine xl_opS 2 [28,29] [(28,.v (.slice A code.length cap)),(29,.v (.int .i64 h))] (.agg #[.slice A code.length cap,.int .i64 0,.int .i64 h]) (by kernel_rfl) rfl (by kernel_rfl) rfl (fun _ _ _ ww hr => act_build [(0,.slice A code.length cap),(2,.int .i64 h)] hr.1 rfl (by kernel_rfl) (by kernel_rfl) ww) ?_
  refine xl_end [2] ⟨[(2,.p 0 0)],[⟨85,[.slice A code.length cap,.int .i64 0,.int .i64 h]⟩],[],[slF (.slice A code.length cap) 1 (code.map byteRow)]⟩ (by kernel_rfl) ?_
  refine xw_pin ?_
  intro g hg hgn
  refine xw_ret ?_
  exact ⟨[.pointer (some ⟨g,0,none⟩)],by kernel_rfl,fun w' hb hf => ⟨⟨g,hgn _ (by simp)⟩,rfl,⟨hg,0,h,Nat.zero_le _,(hf (cellF w.heap.size g 85 [.slice A code.length cap,.int .i64 0,.int .i64 h]) (by simp)).2⟩,hb⟩⟩
set_option maxHeartbeats 2000000 in
theorem l1Byte_c (g : Nat) (code : List Int) (A : Option Addr) (cap : Nat)  (w : World) (B : Nat) (hB : B ≤ w.heap.size) (hc : (curF B g 85 (.slice A code.length cap) code.length).p w) (hl : Sl w (.slice A code.length cap) 1 (code.map byteRow)) (hap : ¬ (slF (.slice A code.length cap) 1 (code.map byteRow)).blk g) (hn : code.length ≤ 1048576)  : Calls Try.prog 81 #[.pointer (some ⟨g, 0, none⟩)] w fun e w' => ∃ y : {y : Int // 0 ≤ y ∧ y ≤ 255}, e = .returned (.int .i64 y.1) ∧ (curF B g 85 (.slice A code.length cap) code.length).p w' ∧ Chgd (fun b => b = g) w w' := by
  have hq_code := Sl.capLe hl
  obtain ⟨hBg,i,h,hi,hg⟩ := hc
  refine x_callsM (args := [.pointer (some ⟨g,0,none⟩)]) (fn := Try.f81) [cellF B g 85 [.slice A code.length cap,.int .i64 (i : Int),.int .i64 h],slF (.slice A code.length cap) 1 (code.map byteRow),frF w (fun b => b = g)] B Try.func81 rfl Try.ntmps81 rfl hB (by simp only [List.mem_cons,List.not_mem_nil,or_false,forall_eq_or_imp,forall_eq]; exact ⟨⟨hBg,hg⟩,hl,frF_start w _⟩) (apart_cell hap rfl) ?_
  refine xw_seq ?_
  refine xw_region ?_
  refine xl_end [0] ⟨[(0,.v (.pointer (some ⟨g,0,none⟩)))],[],[],[cellF B g 85 [.slice A code.length cap,.int .i64 (i : Int),.int .i64 h],slF (.slice A code.length cap) 1 (code.map byteRow),frF w (fun b => b = g)]⟩ (by kernel_rfl) ?_
  refine xw_seq ?_
  refine xw_region ?_
  refine xl_opS 2 [0,4,5] [(0,.v (.pointer (some ⟨g,0,none⟩))),(4,.v (.pointer (some ⟨g,0,none⟩))),(5,.v (.pointer (some ⟨g,0,none⟩)))] (.pointer (some ⟨g,0,none⟩)) (by kernel_rfl) rfl (by kernel_rfl) rfl (fun _ _ _ ww hr => act_nil (b := g) (m := 0) hr.1 rfl (by kernel_rfl) ww) ?_
  refine xl_opS 0 [0,4,6] [(0,.v (.pointer (some ⟨g,0,none⟩))),(4,.v (.pointer (some ⟨g,0,none⟩))),(6,.v (.pointer (some ⟨g,0,none⟩)))] (.pointer (some ⟨g,2,none⟩)) (by kernel_rfl) rfl (by kernel_rfl) rfl (fun _ _ _ ww hr => act_fld (sz := 1) (b := g) (m := 0) hr.1 rfl Try.underlying85 rfl (by kernel_rfl) rfl (by kernel_rfl) rfl) ?_
  refine xl_opS 0 [0,4,7] [(0,.v (.pointer (some ⟨g,0,none⟩))),(4,.v (.pointer (some ⟨g,0,none⟩))),(7,.v (.pointer (some ⟨g,2,none⟩)))] (.int .i64 h) (by kernel_rfl) rfl (by kernel_rfl) rfl (fun _ _ _ ww hr => ldP_run (off := 2) (B := B) (g := g) (T := 85) (cs := [.slice A code.length cap,.int .i64 (i : Int),.int .i64 h]) hr rfl (by kernel_rfl) (by simp) (by kernel_rfl)) ?_
  refine xl_opS 2 [0,4,10] [(0,.v (.pointer (some ⟨g,0,none⟩))),(4,.v (.pointer (some ⟨g,0,none⟩))),(10,.v (.int .i64 (IntKind.i64.wrap ((IntKind.i64.wrap (h * 6364136223846793005)) + 1442695040888963407))))] (.pointer (some ⟨g,0,none⟩)) (by kernel_rfl) rfl (by kernel_rfl) rfl (fun _ _ _ ww hr => act_nil (b := g) (m := 0) hr.1 rfl (by kernel_rfl) ww) ?_
  refine xl_opS 0 [0,10,11] [(0,.v (.pointer (some ⟨g,0,none⟩))),(10,.v (.int .i64 (IntKind.i64.wrap ((IntKind.i64.wrap (h * 6364136223846793005)) + 1442695040888963407)))),(11,.v (.pointer (some ⟨g,0,none⟩)))] (.pointer (some ⟨g,2,none⟩)) (by kernel_rfl) rfl (by kernel_rfl) rfl (fun _ _ _ ww hr => act_fld (sz := 1) (b := g) (m := 0) hr.1 rfl Try.underlying85 rfl (by kernel_rfl) rfl (by kernel_rfl) rfl) ?_
  refine xl_hs 0 [0,10,12] ⟨[(0,.v (.pointer (some ⟨g,0,none⟩))),(10,.v (.int .i64 (IntKind.i64.wrap ((IntKind.i64.wrap (h * 6364136223846793005)) + 1442695040888963407)))),(12,.v (.pointer (some ⟨g,2,none⟩)))],[],[],[cellF B g 85 [.slice A code.length cap,.int .i64 (i : Int),.int .i64 h],slF (.slice A code.length cap) 1 (code.map byteRow),frF w (fun b => b = g)]⟩ (by kernel_rfl) rfl (by kernel_rfl) rfl (by kernel_rfl) (hs_stP (g := g) (T := 85) (off := 2) (v := (.int .i64 (IntKind.i64.wrap ((IntKind.i64.wrap (h * 6364136223846793005)) + 1442695040888963407)))) (i := 0) (B := B) (cs := [.slice A code.length cap,.int .i64 (i : Int),.int .i64 h]) [.int .i64 (IntKind.i64.wrap ((IntKind.i64.wrap (h * 6364136223846793005)) + 1442695040888963407))] (cs' := [.slice A code.length cap,.int .i64 (i : Int),.int .i64 (IntKind.i64.wrap ((IntKind.i64.wrap (h * 6364136223846793005)) + 1442695040888963407))]) rfl (by kernel_rfl) (by kernel_rfl) rfl (by kernel_rfl) rfl (by kernel_rfl) rfl rfl (cutW_le w B)) ?_
  refine xl_endS [0] [(0,.v (.pointer (some ⟨g,0,none⟩)))] (by kernel_rfl) ?_
  refine xw_seq ?_
  refine xws_start ?_
  refine xws_cell (B := B) (g := g) (T := 85) (cs := [.slice A code.length cap,.int .i64 (i : Int),.int .i64 (IntKind.i64.wrap ((IntKind.i64.wrap (h * 6364136223846793005)) + 1442695040888963407))]) (fun _ _ h => h) (by simp) ?_
  refine xws_regionE [] (by kernel_rfl) (fun ρ σ hq1 => ?_)
  refine xe_tkS [0,5] [18,13,0] 11 [(18,.v (.pointer (some ⟨g,0,none⟩))),(13,.v (.pointer (some ⟨g,0,none⟩))),(0,.v (.pointer (some ⟨g,0,none⟩)))] (fun _ _ h => h) rfl (by kernel_rfl) ?_
  refine xe_op 1 (.pointer (some ⟨g,0,none⟩)) _ rfl (by kernel_rfl) (by kernel_rfl) (by kernel_rfl) (fun _ _ h => h) (by kernel_rfl) rfl (fun _ _ ww hA => act_nil (b := g) (m := 0) hA rfl (by kernel_rfl) ww) rfl ?_
  refine xe_op 2 (.pointer (some ⟨g,2,none⟩)) _ rfl (by kernel_rfl) (by kernel_rfl) (by kernel_rfl) (fun _ _ h => h) (by kernel_rfl) rfl (fun _ _ ww hA => act_fld (sz := 1) (b := g) (m := 0) hA rfl Try.underlying85 rfl (by kernel_rfl) rfl (by kernel_rfl) rfl) rfl ?_
  refine xe_opH 3 (.int .i64 (IntKind.i64.wrap ((IntKind.i64.wrap (h * 6364136223846793005)) + 1442695040888963407))) _ rfl (by kernel_rfl) (by kernel_rfl) (by kernel_rfl) (fun _ _ h => h) (by kernel_rfl) rfl (fun _ _ ww hA hS => ld_range (g := g) (off := 2) (cs := [.slice A code.length cap,.int .i64 (i : Int),.int .i64 (IntKind.i64.wrap ((IntKind.i64.wrap (h * 6364136223846793005)) + 1442695040888963407))]) hA rfl (by kernel_rfl) (rd_row hS (h := 0) rfl hq1.2) (by kernel_rfl)) rfl ?_
  refine xe_op 4 (.int .i64 (Int.fdiv (IntKind.i64.wrap ((IntKind.i64.wrap (h * 6364136223846793005)) + 1442695040888963407)) (2 ^ (33 : Int).toNat))) _ rfl (by kernel_rfl) (by kernel_rfl) (by kernel_rfl) (fun _ _ h => h) (by kernel_rfl) rfl (fun _ _ ww hA => act_bin hA rfl (by kernel_rfl) (by kernel_rfl) (shr_run (k' := .u64) (by decide) (by decide) ww)) rfl ?_
  refine xe_op 6 (.pointer (some ⟨g,0,none⟩)) _ rfl (by kernel_rfl) (by kernel_rfl) (by kernel_rfl) (fun _ _ h => h) (by kernel_rfl) rfl (fun _ _ ww hA => act_nil (b := g) (m := 0) hA rfl (by kernel_rfl) ww) rfl ?_
  refine xe_op 7 (.pointer (some ⟨g,2,none⟩)) _ rfl (by kernel_rfl) (by kernel_rfl) (by kernel_rfl) (fun _ _ h => h) (by kernel_rfl) rfl (fun _ _ ww hA => act_fld (sz := 1) (b := g) (m := 0) hA rfl Try.underlying85 rfl (by kernel_rfl) rfl (by kernel_rfl) rfl) rfl ?_
  refine xe_opH 8 (.int .i64 (IntKind.i64.wrap ((IntKind.i64.wrap (h * 6364136223846793005)) + 1442695040888963407))) _ rfl (by kernel_rfl) (by kernel_rfl) (by kernel_rfl) (fun _ _ h => h) (by kernel_rfl) rfl (fun _ _ ww hA hS => ld_range (g := g) (off := 2) (cs := [.slice A code.length cap,.int .i64 (i : Int),.int .i64 (IntKind.i64.wrap ((IntKind.i64.wrap (h * 6364136223846793005)) + 1442695040888963407))]) hA rfl (by kernel_rfl) (rd_row hS (h := 0) rfl hq1.2) (by kernel_rfl)) rfl ?_
  refine xe_op 9 (.int .i64 (Int.fdiv (IntKind.i64.wrap ((IntKind.i64.wrap (h * 6364136223846793005)) + 1442695040888963407)) (2 ^ (45 : Int).toNat))) _ rfl (by kernel_rfl) (by kernel_rfl) (by kernel_rfl) (fun _ _ h => h) (by kernel_rfl) rfl (fun _ _ ww hA => act_bin hA rfl (by kernel_rfl) (by kernel_rfl) (shr_run (k' := .u64) (by decide) (by decide) ww)) rfl ?_
  refine xe_op 10 (.int .i64 (IntKind.i64.wrap (BitVec.ofInt 64 (Int.fdiv (IntKind.i64.wrap ((IntKind.i64.wrap (h * 6364136223846793005)) + 1442695040888963407)) (2 ^ (33 : Int).toNat)) ^^^ BitVec.ofInt 64 (Int.fdiv (IntKind.i64.wrap ((IntKind.i64.wrap (h * 6364136223846793005)) + 1442695040888963407)) (2 ^ (45 : Int).toNat))).toNat)) _ rfl (by kernel_rfl) (by kernel_rfl) (by kernel_rfl) (fun _ _ h => h) (by kernel_rfl) rfl (fun _ _ ww hA => act_bin hA rfl (by kernel_rfl) (by kernel_rfl) (xor_run ww)) rfl ?_
  refine xe_tkS [11,12] [3,0] 0 [(3,.v (.int .i64 (IntKind.i64.wrap (BitVec.ofInt 64 (IntKind.i64.wrap (BitVec.ofInt 64 (Int.fdiv (IntKind.i64.wrap ((IntKind.i64.wrap (h * 6364136223846793005)) + 1442695040888963407)) (2 ^ (33 : Int).toNat)) ^^^ BitVec.ofInt 64 (Int.fdiv (IntKind.i64.wrap ((IntKind.i64.wrap (h * 6364136223846793005)) + 1442695040888963407)) (2 ^ (45 : Int).toNat))).toNat) &&& BitVec.ofInt 64 255).toNat))),(0,.v (.pointer (some ⟨g,0,none⟩)))] (fun _ _ h => h) rfl (by kernel_rfl) ?_
  refine xe_done (by kernel_rfl) ?_
  refine xw_seq ?_
  refine xw_seq ?_
  refine xw_wk (wk_forget (s' := ⟨[(3,.v (.int .i64 (IntKind.i64.wrap (BitVec.ofInt 64 (IntKind.i64.wrap (BitVec.ofInt 64 (Int.fdiv (IntKind.i64.wrap ((IntKind.i64.wrap (h * 6364136223846793005)) + 1442695040888963407)) (2 ^ (33 : Int).toNat)) ^^^ BitVec.ofInt 64 (Int.fdiv (IntKind.i64.wrap ((IntKind.i64.wrap (h * 6364136223846793005)) + 1442695040888963407)) (2 ^ (45 : Int).toNat))).toNat) &&& BitVec.ofInt 64 255).toNat))),(0,.v (.pointer (some ⟨g,0,none⟩)))],[],[],[cellF B g 85 [.slice A code.length cap,.int .i64 (i : Int),.int .i64 (IntKind.i64.wrap ((IntKind.i64.wrap (h * 6364136223846793005)) + 1442695040888963407))],slF (.slice A code.length cap) 1 (code.map byteRow),frF w (fun b => b = g)]⟩) 0 0 [3,0] (by kernel_rfl) (by kernel_rfl) (by kernel_rfl)) ?_
  refine xws_start ?_
  refine xws_cell (B := B) (g := g) (T := 85) (cs := [.slice A code.length cap,.int .i64 (i : Int),.int .i64 (IntKind.i64.wrap ((IntKind.i64.wrap (h * 6364136223846793005)) + 1442695040888963407))]) (fun _ _ h => h) (by simp) ?_
  refine xws_regionE [] (by kernel_rfl) (fun ρ σ hq2 => ?_)
  refine xe_tkS [0,4] [29,25,3,0] 8 [(29,.v (.pointer (some ⟨g,0,none⟩))),(25,.v (.pointer (some ⟨g,0,none⟩))),(3,.v (.int .i64 (IntKind.i64.wrap (BitVec.ofInt 64 (IntKind.i64.wrap (BitVec.ofInt 64 (Int.fdiv (IntKind.i64.wrap ((IntKind.i64.wrap (h * 6364136223846793005)) + 1442695040888963407)) (2 ^ (33 : Int).toNat)) ^^^ BitVec.ofInt 64 (Int.fdiv (IntKind.i64.wrap ((IntKind.i64.wrap (h * 6364136223846793005)) + 1442695040888963407)) (2 ^ (45 : Int).toNat))).toNat) &&& BitVec.ofInt 64 255).toNat))),(0,.v (.pointer (some ⟨g,0,none⟩)))] (fun _ _ h => h) rfl (by kernel_rfl) ?_
  refine xe_op 1 (.pointer (some ⟨g,0,none⟩)) _ rfl (by kernel_rfl) (by kernel_rfl) (by kernel_rfl) (fun _ _ h => h) (by kernel_rfl) rfl (fun _ _ ww hA => act_nil (b := g) (m := 0) hA rfl (by kernel_rfl) ww) rfl ?_
  refine xe_op 2 (.pointer (some ⟨g,1,none⟩)) _ rfl (by kernel_rfl) (by kernel_rfl) (by kernel_rfl) (fun _ _ h => h) (by kernel_rfl) rfl (fun _ _ ww hA => act_fld (sz := 1) (b := g) (m := 0) hA rfl Try.underlying85 rfl (by kernel_rfl) rfl (by kernel_rfl) rfl) rfl ?_
  refine xe_opH 3 (.int .i64 (i : Int)) _ rfl (by kernel_rfl) (by kernel_rfl) (by kernel_rfl) (fun _ _ h => h) (by kernel_rfl) rfl (fun _ _ ww hA hS => ld_range (g := g) (off := 1) (cs := [.slice A code.length cap,.int .i64 (i : Int),.int .i64 (IntKind.i64.wrap ((IntKind.i64.wrap (h * 6364136223846793005)) + 1442695040888963407))]) hA rfl (by kernel_rfl) (rd_row hS (h := 0) rfl hq2.2) (by kernel_rfl)) rfl ?_
  refine xe_op 5 (.pointer (some ⟨g,0,none⟩)) _ rfl (by kernel_rfl) (by kernel_rfl) (by kernel_rfl) (fun _ _ h => h) (by kernel_rfl) rfl (fun _ _ ww hA => act_nil (b := g) (m := 0) hA rfl (by kernel_rfl) ww) rfl ?_
  refine xe_op 6 (.pointer (some ⟨g,0,none⟩)) _ rfl (by kernel_rfl) (by kernel_rfl) (by kernel_rfl) (fun _ _ h => h) (by kernel_rfl) rfl (fun _ _ ww hA => act_fld (sz := 1) (b := g) (m := 0) hA rfl Try.underlying85 rfl (by kernel_rfl) rfl (by kernel_rfl) rfl) rfl ?_
  refine xe_opH 7 (.slice A code.length cap) _ rfl (by kernel_rfl) (by kernel_rfl) (by kernel_rfl) (fun _ _ h => h) (by kernel_rfl) rfl (fun _ _ ww hA hS => ld_range (g := g) (off := 0) (cs := [.slice A code.length cap,.int .i64 (i : Int),.int .i64 (IntKind.i64.wrap ((IntKind.i64.wrap (h * 6364136223846793005)) + 1442695040888963407))]) hA rfl (by kernel_rfl) (rd_row hS (h := 0) rfl hq2.2) (by kernel_rfl)) rfl ?_
  refine xe_tkS [8,9] [34,3,0] 0 [(34,.v (.bool (decide ((i : Int) < ((code.length : Nat) : Int))))),(3,.v (.int .i64 (IntKind.i64.wrap (BitVec.ofInt 64 (IntKind.i64.wrap (BitVec.ofInt 64 (Int.fdiv (IntKind.i64.wrap ((IntKind.i64.wrap (h * 6364136223846793005)) + 1442695040888963407)) (2 ^ (33 : Int).toNat)) ^^^ BitVec.ofInt 64 (Int.fdiv (IntKind.i64.wrap ((IntKind.i64.wrap (h * 6364136223846793005)) + 1442695040888963407)) (2 ^ (45 : Int).toNat))).toNat) &&& BitVec.ofInt 64 255).toNat))),(0,.v (.pointer (some ⟨g,0,none⟩)))] (fun _ _ h => h) rfl (by kernel_rfl) ?_
  refine xe_done (by kernel_rfl) ?_
  refine xw_cond (b := decide ((i : Int) < ((code.length : Nat) : Int))) (by kernel_rfl) (fun h3 => ?_) (fun h3 => ?_)
  have h3p : ((i : Int) < ((code.length : Nat) : Int)) := of_decide_eq_true h3
  have hlt : i < code.length := by simpa using h3
  obtain ⟨z,hz⟩ : ∃ z,code[i]? = some z := ⟨_,List.getElem?_eq_getElem hlt⟩
  refine xw_seq ?_
  refine xw_wk (wk_forget (s' := ⟨[(34,.v (.bool (decide ((i : Int) < ((code.length : Nat) : Int))))),(3,.v (.int .i64 (IntKind.i64.wrap (BitVec.ofInt 64 (IntKind.i64.wrap (BitVec.ofInt 64 (Int.fdiv (IntKind.i64.wrap ((IntKind.i64.wrap (h * 6364136223846793005)) + 1442695040888963407)) (2 ^ (33 : Int).toNat)) ^^^ BitVec.ofInt 64 (Int.fdiv (IntKind.i64.wrap ((IntKind.i64.wrap (h * 6364136223846793005)) + 1442695040888963407)) (2 ^ (45 : Int).toNat))).toNat) &&& BitVec.ofInt 64 255).toNat))),(0,.v (.pointer (some ⟨g,0,none⟩)))],[],[],[cellF B g 85 [.slice A code.length cap,.int .i64 (i : Int),.int .i64 (IntKind.i64.wrap ((IntKind.i64.wrap (h * 6364136223846793005)) + 1442695040888963407))],slF (.slice A code.length cap) 1 (code.map byteRow),frF w (fun b => b = g)]⟩) 0 0 [34,3,0] (by kernel_rfl) (by kernel_rfl) (by kernel_rfl)) ?_
  refine xws_start ?_
  refine xws_row (K := 1) (j := i) [.int .u8 z] (slF (.slice A code.length cap) 1 (code.map byteRow)) (fun _ _ h => h) (by simp) (fun w h => h) (fun b h => h) (by simp only [List.getElem?_map,hz]; rfl) (fun bq4 offq4 hAq4 => ?_)
  refine xws_cell (B := B) (g := g) (T := 85) (cs := [.slice A code.length cap,.int .i64 (i : Int),.int .i64 (IntKind.i64.wrap ((IntKind.i64.wrap (h * 6364136223846793005)) + 1442695040888963407))]) (fun _ _ h => h) (by simp) ?_
  refine xws_regionE [] (by kernel_rfl) (fun ρ σ hq5 => ?_)
  refine xe_tkS [0,1,5] [40,36,35,3,0] 12 [(40,.v (.pointer (some ⟨g,0,none⟩))),(36,.v (.pointer (some ⟨g,0,none⟩))),(35,.v (.int .i64 (IntKind.i64.wrap (BitVec.ofInt 64 (IntKind.i64.wrap (BitVec.ofInt 64 (Int.fdiv (IntKind.i64.wrap ((IntKind.i64.wrap (h * 6364136223846793005)) + 1442695040888963407)) (2 ^ (33 : Int).toNat)) ^^^ BitVec.ofInt 64 (Int.fdiv (IntKind.i64.wrap ((IntKind.i64.wrap (h * 6364136223846793005)) + 1442695040888963407)) (2 ^ (45 : Int).toNat))).toNat) &&& BitVec.ofInt 64 255).toNat))),(3,.v (.int .i64 (IntKind.i64.wrap (BitVec.ofInt 64 (IntKind.i64.wrap (BitVec.ofInt 64 (Int.fdiv (IntKind.i64.wrap ((IntKind.i64.wrap (h * 6364136223846793005)) + 1442695040888963407)) (2 ^ (33 : Int).toNat)) ^^^ BitVec.ofInt 64 (Int.fdiv (IntKind.i64.wrap ((IntKind.i64.wrap (h * 6364136223846793005)) + 1442695040888963407)) (2 ^ (45 : Int).toNat))).toNat) &&& BitVec.ofInt 64 255).toNat))),(0,.v (.pointer (some ⟨g,0,none⟩)))] (fun _ _ h => h) rfl (by kernel_rfl) ?_
  refine xe_op 2 (.pointer (some ⟨g,0,none⟩)) _ rfl (by kernel_rfl) (by kernel_rfl) (by kernel_rfl) (fun _ _ h => h) (by kernel_rfl) rfl (fun _ _ ww hA => act_nil (b := g) (m := 0) hA rfl (by kernel_rfl) ww) rfl ?_
  refine xe_op 3 (.pointer (some ⟨g,0,none⟩)) _ rfl (by kernel_rfl) (by kernel_rfl) (by kernel_rfl) (fun _ _ h => h) (by kernel_rfl) rfl (fun _ _ ww hA => act_fld (sz := 1) (b := g) (m := 0) hA rfl Try.underlying85 rfl (by kernel_rfl) rfl (by kernel_rfl) rfl) rfl ?_
  refine xe_opH 4 (.slice A code.length cap) _ rfl (by kernel_rfl) (by kernel_rfl) (by kernel_rfl) (fun _ _ h => h) (by kernel_rfl) rfl (fun _ _ ww hA hS => ld_range (g := g) (off := 0) (cs := [.slice A code.length cap,.int .i64 (i : Int),.int .i64 (IntKind.i64.wrap ((IntKind.i64.wrap (h * 6364136223846793005)) + 1442695040888963407))]) hA rfl (by kernel_rfl) (rd_row hS (h := 1) rfl hq5.2) (by kernel_rfl)) rfl ?_
  refine xe_op 6 (.pointer (some ⟨g,0,none⟩)) _ rfl (by kernel_rfl) (by kernel_rfl) (by kernel_rfl) (fun _ _ h => h) (by kernel_rfl) rfl (fun _ _ ww hA => act_nil (b := g) (m := 0) hA rfl (by kernel_rfl) ww) rfl ?_
  refine xe_op 7 (.pointer (some ⟨g,1,none⟩)) _ rfl (by kernel_rfl) (by kernel_rfl) (by kernel_rfl) (fun _ _ h => h) (by kernel_rfl) rfl (fun _ _ ww hA => act_fld (sz := 1) (b := g) (m := 0) hA rfl Try.underlying85 rfl (by kernel_rfl) rfl (by kernel_rfl) rfl) rfl ?_
  refine xe_opH 8 (.int .i64 (i : Int)) _ rfl (by kernel_rfl) (by kernel_rfl) (by kernel_rfl) (fun _ _ h => h) (by kernel_rfl) rfl (fun _ _ ww hA hS => ld_range (g := g) (off := 1) (cs := [.slice A code.length cap,.int .i64 (i : Int),.int .i64 (IntKind.i64.wrap ((IntKind.i64.wrap (h * 6364136223846793005)) + 1442695040888963407))]) hA rfl (by kernel_rfl) (rd_row hS (h := 1) rfl hq5.2) (by kernel_rfl)) rfl ?_
  refine xe_takeI (kd := .i64) (T := 22) (e := 5) (K := 1) (j := i) (A := A) (len := code.length) (cap := cap) 9 0 _ rfl (by kernel_rfl) (by kernel_rfl) (by kernel_rfl) (fun _ _ h => h) (by kernel_rfl) rfl rfl (by kernel_rfl) (by kernel_rfl) (by kernel_rfl) (by kernel_rfl) hlt hAq4 hq5.1.2 (by kernel_rfl) rfl ?_
  refine xe_tkS [10,11,12,13,14] [3,0] 0 [(3,.v (.int .i64 (IntKind.i64.wrap (BitVec.ofInt 64 (IntKind.i64.wrap ((IntKind.i64.wrap (BitVec.ofInt 64 (IntKind.i64.wrap (BitVec.ofInt 64 (Int.fdiv (IntKind.i64.wrap ((IntKind.i64.wrap (h * 6364136223846793005)) + 1442695040888963407)) (2 ^ (33 : Int).toNat)) ^^^ BitVec.ofInt 64 (Int.fdiv (IntKind.i64.wrap ((IntKind.i64.wrap (h * 6364136223846793005)) + 1442695040888963407)) (2 ^ (45 : Int).toNat))).toNat) &&& BitVec.ofInt 64 255).toNat) + (IntKind.i64.wrap z))) &&& BitVec.ofInt 64 255).toNat))),(0,.v (.pointer (some ⟨g,0,none⟩)))] (fun _ _ h => h) rfl (by kernel_rfl) ?_
  refine xe_done (by kernel_rfl) ?_
  refine xw_region ?_
  refine xl_opS 2 [3,49,50] [(3,.v (.int .i64 (IntKind.i64.wrap (BitVec.ofInt 64 (IntKind.i64.wrap ((IntKind.i64.wrap (BitVec.ofInt 64 (IntKind.i64.wrap (BitVec.ofInt 64 (Int.fdiv (IntKind.i64.wrap ((IntKind.i64.wrap (h * 6364136223846793005)) + 1442695040888963407)) (2 ^ (33 : Int).toNat)) ^^^ BitVec.ofInt 64 (Int.fdiv (IntKind.i64.wrap ((IntKind.i64.wrap (h * 6364136223846793005)) + 1442695040888963407)) (2 ^ (45 : Int).toNat))).toNat) &&& BitVec.ofInt 64 255).toNat) + (IntKind.i64.wrap z))) &&& BitVec.ofInt 64 255).toNat))),(49,.v (.pointer (some ⟨g,0,none⟩))),(50,.v (.pointer (some ⟨g,0,none⟩)))] (.pointer (some ⟨g,0,none⟩)) (by kernel_rfl) rfl (by kernel_rfl) rfl (fun _ _ _ ww hr => act_nil (b := g) (m := 0) hr.1 rfl (by kernel_rfl) ww) ?_
  refine xl_opS 0 [3,49,51] [(3,.v (.int .i64 (IntKind.i64.wrap (BitVec.ofInt 64 (IntKind.i64.wrap ((IntKind.i64.wrap (BitVec.ofInt 64 (IntKind.i64.wrap (BitVec.ofInt 64 (Int.fdiv (IntKind.i64.wrap ((IntKind.i64.wrap (h * 6364136223846793005)) + 1442695040888963407)) (2 ^ (33 : Int).toNat)) ^^^ BitVec.ofInt 64 (Int.fdiv (IntKind.i64.wrap ((IntKind.i64.wrap (h * 6364136223846793005)) + 1442695040888963407)) (2 ^ (45 : Int).toNat))).toNat) &&& BitVec.ofInt 64 255).toNat) + (IntKind.i64.wrap z))) &&& BitVec.ofInt 64 255).toNat))),(49,.v (.pointer (some ⟨g,0,none⟩))),(51,.v (.pointer (some ⟨g,0,none⟩)))] (.pointer (some ⟨g,1,none⟩)) (by kernel_rfl) rfl (by kernel_rfl) rfl (fun _ _ _ ww hr => act_fld (sz := 1) (b := g) (m := 0) hr.1 rfl Try.underlying85 rfl (by kernel_rfl) rfl (by kernel_rfl) rfl) ?_
  refine xl_opS 0 [3,49,52] [(3,.v (.int .i64 (IntKind.i64.wrap (BitVec.ofInt 64 (IntKind.i64.wrap ((IntKind.i64.wrap (BitVec.ofInt 64 (IntKind.i64.wrap (BitVec.ofInt 64 (Int.fdiv (IntKind.i64.wrap ((IntKind.i64.wrap (h * 6364136223846793005)) + 1442695040888963407)) (2 ^ (33 : Int).toNat)) ^^^ BitVec.ofInt 64 (Int.fdiv (IntKind.i64.wrap ((IntKind.i64.wrap (h * 6364136223846793005)) + 1442695040888963407)) (2 ^ (45 : Int).toNat))).toNat) &&& BitVec.ofInt 64 255).toNat) + (IntKind.i64.wrap z))) &&& BitVec.ofInt 64 255).toNat))),(49,.v (.pointer (some ⟨g,0,none⟩))),(52,.v (.pointer (some ⟨g,1,none⟩)))] (.int .i64 (i : Int)) (by kernel_rfl) rfl (by kernel_rfl) rfl (fun _ _ _ ww hr => ldP_run (off := 1) (B := B) (g := g) (T := 85) (cs := [.slice A code.length cap,.int .i64 (i : Int),.int .i64 (IntKind.i64.wrap ((IntKind.i64.wrap (h * 6364136223846793005)) + 1442695040888963407))]) hr rfl (by kernel_rfl) (by simp) (by kernel_rfl)) ?_
  refine xl_opS 1 [3,49,54] [(3,.v (.int .i64 (IntKind.i64.wrap (BitVec.ofInt 64 (IntKind.i64.wrap ((IntKind.i64.wrap (BitVec.ofInt 64 (IntKind.i64.wrap (BitVec.ofInt 64 (Int.fdiv (IntKind.i64.wrap ((IntKind.i64.wrap (h * 6364136223846793005)) + 1442695040888963407)) (2 ^ (33 : Int).toNat)) ^^^ BitVec.ofInt 64 (Int.fdiv (IntKind.i64.wrap ((IntKind.i64.wrap (h * 6364136223846793005)) + 1442695040888963407)) (2 ^ (45 : Int).toNat))).toNat) &&& BitVec.ofInt 64 255).toNat) + (IntKind.i64.wrap z))) &&& BitVec.ofInt 64 255).toNat))),(49,.v (.pointer (some ⟨g,0,none⟩))),(54,.v (.int .i64 (IntKind.i64.wrap ((i : Int) + 1))))] (.pointer (some ⟨g,0,none⟩)) (by kernel_rfl) rfl (by kernel_rfl) rfl (fun _ _ _ ww hr => act_nil (b := g) (m := 0) hr.1 rfl (by kernel_rfl) ww) ?_
  refine xl_opS 0 [3,54,55] [(3,.v (.int .i64 (IntKind.i64.wrap (BitVec.ofInt 64 (IntKind.i64.wrap ((IntKind.i64.wrap (BitVec.ofInt 64 (IntKind.i64.wrap (BitVec.ofInt 64 (Int.fdiv (IntKind.i64.wrap ((IntKind.i64.wrap (h * 6364136223846793005)) + 1442695040888963407)) (2 ^ (33 : Int).toNat)) ^^^ BitVec.ofInt 64 (Int.fdiv (IntKind.i64.wrap ((IntKind.i64.wrap (h * 6364136223846793005)) + 1442695040888963407)) (2 ^ (45 : Int).toNat))).toNat) &&& BitVec.ofInt 64 255).toNat) + (IntKind.i64.wrap z))) &&& BitVec.ofInt 64 255).toNat))),(54,.v (.int .i64 (IntKind.i64.wrap ((i : Int) + 1)))),(55,.v (.pointer (some ⟨g,0,none⟩)))] (.pointer (some ⟨g,1,none⟩)) (by kernel_rfl) rfl (by kernel_rfl) rfl (fun _ _ _ ww hr => act_fld (sz := 1) (b := g) (m := 0) hr.1 rfl Try.underlying85 rfl (by kernel_rfl) rfl (by kernel_rfl) rfl) ?_
  refine xl_hs 0 [3,54,56] ⟨[(3,.v (.int .i64 (IntKind.i64.wrap (BitVec.ofInt 64 (IntKind.i64.wrap ((IntKind.i64.wrap (BitVec.ofInt 64 (IntKind.i64.wrap (BitVec.ofInt 64 (Int.fdiv (IntKind.i64.wrap ((IntKind.i64.wrap (h * 6364136223846793005)) + 1442695040888963407)) (2 ^ (33 : Int).toNat)) ^^^ BitVec.ofInt 64 (Int.fdiv (IntKind.i64.wrap ((IntKind.i64.wrap (h * 6364136223846793005)) + 1442695040888963407)) (2 ^ (45 : Int).toNat))).toNat) &&& BitVec.ofInt 64 255).toNat) + (IntKind.i64.wrap z))) &&& BitVec.ofInt 64 255).toNat))),(54,.v (.int .i64 (IntKind.i64.wrap ((i : Int) + 1)))),(56,.v (.pointer (some ⟨g,1,none⟩)))],[],[[.int .u8 z],[.slice A code.length cap,.int .i64 (i : Int),.int .i64 (IntKind.i64.wrap ((IntKind.i64.wrap (h * 6364136223846793005)) + 1442695040888963407))]],[cellF B g 85 [.slice A code.length cap,.int .i64 (i : Int),.int .i64 (IntKind.i64.wrap ((IntKind.i64.wrap (h * 6364136223846793005)) + 1442695040888963407))],slF (.slice A code.length cap) 1 (code.map byteRow),frF w (fun b => b = g)]⟩ (by kernel_rfl) rfl (by kernel_rfl) rfl (by kernel_rfl) (hs_stP (g := g) (T := 85) (off := 1) (v := (.int .i64 (IntKind.i64.wrap ((i : Int) + 1)))) (i := 0) (B := B) (cs := [.slice A code.length cap,.int .i64 (i : Int),.int .i64 (IntKind.i64.wrap ((IntKind.i64.wrap (h * 6364136223846793005)) + 1442695040888963407))]) [.int .i64 (IntKind.i64.wrap ((i : Int) + 1))] (cs' := [.slice A code.length cap,.int .i64 (IntKind.i64.wrap ((i : Int) + 1)),.int .i64 (IntKind.i64.wrap ((IntKind.i64.wrap (h * 6364136223846793005)) + 1442695040888963407))]) rfl (by kernel_rfl) (by kernel_rfl) rfl (by kernel_rfl) rfl (by kernel_rfl) rfl rfl (cutW_le w B)) ?_
  refine xl_endS [3] [(3,.v (.int .i64 (IntKind.i64.wrap (BitVec.ofInt 64 (IntKind.i64.wrap ((IntKind.i64.wrap (BitVec.ofInt 64 (IntKind.i64.wrap (BitVec.ofInt 64 (Int.fdiv (IntKind.i64.wrap ((IntKind.i64.wrap (h * 6364136223846793005)) + 1442695040888963407)) (2 ^ (33 : Int).toNat)) ^^^ BitVec.ofInt 64 (Int.fdiv (IntKind.i64.wrap ((IntKind.i64.wrap (h * 6364136223846793005)) + 1442695040888963407)) (2 ^ (45 : Int).toNat))).toNat) &&& BitVec.ofInt 64 255).toNat) + (IntKind.i64.wrap z))) &&& BitVec.ofInt 64 255).toNat)))] (by kernel_rfl) ?_
  refine xw_seq ?_
  refine xw_region ?_
  refine xl_endS [2] [(2,.v (.int .i64 (IntKind.i64.wrap (BitVec.ofInt 64 (IntKind.i64.wrap ((IntKind.i64.wrap (BitVec.ofInt 64 (IntKind.i64.wrap (BitVec.ofInt 64 (Int.fdiv (IntKind.i64.wrap ((IntKind.i64.wrap (h * 6364136223846793005)) + 1442695040888963407)) (2 ^ (33 : Int).toNat)) ^^^ BitVec.ofInt 64 (Int.fdiv (IntKind.i64.wrap ((IntKind.i64.wrap (h * 6364136223846793005)) + 1442695040888963407)) (2 ^ (45 : Int).toNat))).toNat) &&& BitVec.ofInt 64 255).toNat) + (IntKind.i64.wrap z))) &&& BitVec.ofInt 64 255).toNat)))] (by kernel_rfl) ?_
  refine xw_ret ?_
  exact ⟨[.int .i64 (IntKind.i64.wrap (BitVec.ofInt 64 (IntKind.i64.wrap ((IntKind.i64.wrap (BitVec.ofInt 64 (IntKind.i64.wrap (BitVec.ofInt 64 (Int.fdiv (IntKind.i64.wrap ((IntKind.i64.wrap (h * 6364136223846793005)) + 1442695040888963407)) (2 ^ (33 : Int).toNat)) ^^^ BitVec.ofInt 64 (Int.fdiv (IntKind.i64.wrap ((IntKind.i64.wrap (h * 6364136223846793005)) + 1442695040888963407)) (2 ^ (45 : Int).toNat))).toNat) &&& BitVec.ofInt 64 255).toNat) + (IntKind.i64.wrap z))) &&& BitVec.ofInt 64 255).toNat)],by kernel_rfl,fun w' hb hf => ⟨⟨IntKind.i64.wrap (BitVec.ofInt 64 (IntKind.i64.wrap ((IntKind.i64.wrap (BitVec.ofInt 64 (IntKind.i64.wrap (BitVec.ofInt 64 (Int.fdiv (IntKind.i64.wrap ((IntKind.i64.wrap (h * 6364136223846793005)) + 1442695040888963407)) (2 ^ (33 : Int).toNat)) ^^^ BitVec.ofInt 64 (Int.fdiv (IntKind.i64.wrap ((IntKind.i64.wrap (h * 6364136223846793005)) + 1442695040888963407)) (2 ^ (45 : Int).toNat))).toNat) &&& BitVec.ofInt 64 255).toNat) + (IntKind.i64.wrap z))) &&& BitVec.ofInt 64 255).toNat,and255 _⟩,rfl,⟨hBg,i + 1,IntKind.i64.wrap ((IntKind.i64.wrap (h * 6364136223846793005)) + 1442695040888963407),by omega,by have := (hf (cellF B g 85 [.slice A code.length cap,.int .i64 (IntKind.i64.wrap ((i : Int) + 1)),.int .i64 (IntKind.i64.wrap ((IntKind.i64.wrap (h * 6364136223846793005)) + 1442695040888963407))]) (by simp)).2; rw [show IntKind.i64.wrap ((i : Int) + 1) = ((i + 1 : Nat) : Int) from by rw [wrap_id (by omega) (by omega)]; omega] at this; exact this⟩,frF_chgd (hf (frF w (fun b => b = g)) (by simp)) hb rfl rfl rfl⟩⟩
  have h3p : ¬ ((i : Int) < ((code.length : Nat) : Int)) := of_decide_eq_false h3
  refine xw_skip ?_
  refine xw_seq ?_
  refine xw_region ?_
  refine xl_endS [2] [(2,.v (.int .i64 (IntKind.i64.wrap (BitVec.ofInt 64 (IntKind.i64.wrap (BitVec.ofInt 64 (Int.fdiv (IntKind.i64.wrap ((IntKind.i64.wrap (h * 6364136223846793005)) + 1442695040888963407)) (2 ^ (33 : Int).toNat)) ^^^ BitVec.ofInt 64 (Int.fdiv (IntKind.i64.wrap ((IntKind.i64.wrap (h * 6364136223846793005)) + 1442695040888963407)) (2 ^ (45 : Int).toNat))).toNat) &&& BitVec.ofInt 64 255).toNat)))] (by kernel_rfl) ?_
  refine xw_ret ?_
  exact ⟨[.int .i64 (IntKind.i64.wrap (BitVec.ofInt 64 (IntKind.i64.wrap (BitVec.ofInt 64 (Int.fdiv (IntKind.i64.wrap ((IntKind.i64.wrap (h * 6364136223846793005)) + 1442695040888963407)) (2 ^ (33 : Int).toNat)) ^^^ BitVec.ofInt 64 (Int.fdiv (IntKind.i64.wrap ((IntKind.i64.wrap (h * 6364136223846793005)) + 1442695040888963407)) (2 ^ (45 : Int).toNat))).toNat) &&& BitVec.ofInt 64 255).toNat)],by kernel_rfl,fun w' hb hf => ⟨⟨IntKind.i64.wrap (BitVec.ofInt 64 (IntKind.i64.wrap (BitVec.ofInt 64 (Int.fdiv (IntKind.i64.wrap ((IntKind.i64.wrap (h * 6364136223846793005)) + 1442695040888963407)) (2 ^ (33 : Int).toNat)) ^^^ BitVec.ofInt 64 (Int.fdiv (IntKind.i64.wrap ((IntKind.i64.wrap (h * 6364136223846793005)) + 1442695040888963407)) (2 ^ (45 : Int).toNat))).toNat) &&& BitVec.ofInt 64 255).toNat,and255 _⟩,rfl,⟨hBg,i,IntKind.i64.wrap ((IntKind.i64.wrap (h * 6364136223846793005)) + 1442695040888963407),hi,(hf (cellF B g 85 [.slice A code.length cap,.int .i64 (i : Int),.int .i64 (IntKind.i64.wrap ((IntKind.i64.wrap (h * 6364136223846793005)) + 1442695040888963407))]) (by simp)).2⟩,frF_chgd (hf (frF w (fun b => b = g)) (by simp)) hb rfl rfl rfl⟩⟩
set_option maxHeartbeats 2000000 in
theorem l1Below_c (g : Nat) (code : List Int) (A : Option Addr) (cap : Nat) (n : Int) (w : World) (B : Nat) (hB : B ≤ w.heap.size) (hc : (curF B g 85 (.slice A code.length cap) code.length).p w) (hl : Sl w (.slice A code.length cap) 1 (code.map byteRow)) (hap : ¬ (slF (.slice A code.length cap) 1 (code.map byteRow)).blk g) (hn : code.length ≤ 1048576)  : Calls Try.prog 45 #[.pointer (some ⟨g, 0, none⟩), .int .i64 n] w fun e w' => ∃ y : {y : Int // 0 ≤ y ∧ (0 < n → y < n)}, e = .returned (.int .i64 y.1) ∧ (curF B g 85 (.slice A code.length cap) code.length).p w' ∧ Chgd (fun b => b = g) w w' := by
  have hq_code := Sl.capLe hl
  refine x_callsM (args := [.pointer (some ⟨g,0,none⟩),.int .i64 n]) (fn := Try.f45) [curF B g 85 (.slice A code.length cap) code.length,slF (.slice A code.length cap) 1 (code.map byteRow),frF w (fun b => b = g)] B Try.func45 rfl Try.ntmps45 rfl hB (by simp only [List.mem_cons,List.not_mem_nil,or_false,forall_eq_or_imp,forall_eq]; exact ⟨hc,hl,frF_start w _⟩) (apart_cur hap rfl) ?_
  refine xw_seq ?_
  refine xw_region ?_
  refine xl_end [0,1] ⟨[(0,.v (.pointer (some ⟨g,0,none⟩))),(1,.v (.int .i64 n))],[],[],[curF B g 85 (.slice A code.length cap) code.length,slF (.slice A code.length cap) 1 (code.map byteRow),frF w (fun b => b = g)]⟩ (by kernel_rfl) ?_
  refine xw_seq ?_
  refine xw_seq ?_
  refine xw_region ?_
  refine xl_endS [0,1,10] [(0,.v (.pointer (some ⟨g,0,none⟩))),(1,.v (.int .i64 n)),(10,.v (.bool (decide (n ≤ 0))))] (by kernel_rfl) ?_
  refine xw_cond (b := decide (n ≤ 0)) (by kernel_rfl) (fun h1 => ?_) (fun h1 => ?_)
  have h1p : (n ≤ 0) := of_decide_eq_true h1
  refine xw_seq ?_
  refine xw_region ?_
  refine xl_endS [4] [(4,.v (.int .i64 0))] (by kernel_rfl) ?_
  refine xw_ret ?_
  exact ⟨[.int .i64 0],by kernel_rfl,fun w' hb hf => ⟨⟨0,(by first | (exact ⟨by omega,fun _ => by omega⟩) | (exact tmod_bd (by omega) (by omega)))⟩,rfl,hf (curF B g 85 (.slice A code.length cap) code.length) (by simp),frF_chgd (hf (frF w (fun b => b = g)) (by simp)) hb rfl rfl rfl⟩⟩
  have h1p : ¬ (n ≤ 0) := of_decide_eq_false h1
  refine xw_skip ?_
  refine xw_seq ?_
  refine xw_seq ?_
  refine xw_region ?_
  refine xl_endS [0,1,12] [(0,.v (.pointer (some ⟨g,0,none⟩))),(1,.v (.int .i64 n)),(12,.v (.bool (decide (n ≤ 256))))] (by kernel_rfl) ?_
  refine xw_cond (b := decide (n ≤ 256)) (by kernel_rfl) (fun h2 => ?_) (fun h2 => ?_)
  have h2p : (n ≤ 256) := of_decide_eq_true h2
  refine xw_seq ?_
  refine xw_region ?_
  refine xl_callWS 1 [1,13] [(1,.v (.int .i64 n)),(13,.v (.pointer (some ⟨g,0,none⟩)))] 81 [.pointer (some ⟨g,0,none⟩)] (some 14) 0 (curF B g 85 (.slice A code.length cap) code.length) (by kernel_rfl) rfl (by kernel_rfl) rfl (by kernel_rfl) rfl rfl (fun ww b h hb => Nat.le_trans (cutW_le w B) (cur_lo h hb)) (by kernel_rfl) (xcm_cur fun ww hw hf => l1Byte_c g code A cap  ww B (Nat.le_trans (by first | exact Nat.le_refl _ | exact Nat.le_of_eq (cutW_size hB).symm) hw) (hf (curF B g 85 (.slice A code.length cap) code.length) (by simp)) (hf (slF (.slice A code.length cap) 1 (code.map byteRow)) (by simp)) hap (by omega)  ) ?_
  rintro ⟨y3,hy3⟩
  refine xl_opS 1 [14,15] [(14,.v (.int .i64 y3)),(15,.v (.int .i64 n))] (.int .i64 (Int.tmod y3 n)) (by kernel_rfl) rfl (by kernel_rfl) rfl (fun _ _ _ ww hr => act_bin hr.1 rfl (by kernel_rfl) (by kernel_rfl) (rem_run (by first | decide | omega) ww)) ?_
  refine xl_endS [4] [(4,.v (.int .i64 (Int.tmod y3 n)))] (by kernel_rfl) ?_
  refine xw_ret ?_
  exact ⟨[.int .i64 (Int.tmod y3 n)],by kernel_rfl,fun w' hb hf => ⟨⟨Int.tmod y3 n,(by first | (exact ⟨by omega,fun _ => by omega⟩) | (exact tmod_bd (by omega) (by omega)))⟩,rfl,hf (curF B g 85 (.slice A code.length cap) code.length) (by simp),frF_chgd (hf (frF w (fun b => b = g)) (by simp)) hb rfl rfl rfl⟩⟩
  have h2p : ¬ (n ≤ 256) := of_decide_eq_false h2
  refine xw_skip ?_
  refine xw_seq ?_
  refine xw_region ?_
  refine xl_callWS 1 [0,1,17] [(0,.v (.pointer (some ⟨g,0,none⟩))),(1,.v (.int .i64 n)),(17,.v (.pointer (some ⟨g,0,none⟩)))] 81 [.pointer (some ⟨g,0,none⟩)] (some 18) 0 (curF B g 85 (.slice A code.length cap) code.length) (by kernel_rfl) rfl (by kernel_rfl) rfl (by kernel_rfl) rfl rfl (fun ww b h hb => Nat.le_trans (cutW_le w B) (cur_lo h hb)) (by kernel_rfl) (xcm_cur fun ww hw hf => l1Byte_c g code A cap  ww B (Nat.le_trans (by first | exact Nat.le_refl _ | exact Nat.le_of_eq (cutW_size hB).symm) hw) (hf (curF B g 85 (.slice A code.length cap) code.length) (by simp)) (hf (slF (.slice A code.length cap) 1 (code.map byteRow)) (by simp)) hap (by omega)  ) ?_
  rintro ⟨y4,hy4⟩
  refine xl_endS [0,1,5] [(0,.v (.pointer (some ⟨g,0,none⟩))),(1,.v (.int .i64 n)),(5,.v (.int .i64 y4))] (by kernel_rfl) ?_
  refine xw_seq ?_
  refine xw_region ?_
  refine xl_callWS 1 [0,1,5,19] [(0,.v (.pointer (some ⟨g,0,none⟩))),(1,.v (.int .i64 n)),(5,.v (.int .i64 y4)),(19,.v (.pointer (some ⟨g,0,none⟩)))] 81 [.pointer (some ⟨g,0,none⟩)] (some 20) 0 (curF B g 85 (.slice A code.length cap) code.length) (by kernel_rfl) rfl (by kernel_rfl) rfl (by kernel_rfl) rfl rfl (fun ww b h hb => Nat.le_trans (cutW_le w B) (cur_lo h hb)) (by kernel_rfl) (xcm_cur fun ww hw hf => l1Byte_c g code A cap  ww B (Nat.le_trans (by first | exact Nat.le_refl _ | exact Nat.le_of_eq (cutW_size hB).symm) hw) (hf (curF B g 85 (.slice A code.length cap) code.length) (by simp)) (hf (slF (.slice A code.length cap) 1 (code.map byteRow)) (by simp)) hap (by omega)  ) ?_
  rintro ⟨y5,hy5⟩
  refine xl_endS [0,1,5,6] [(0,.v (.pointer (some ⟨g,0,none⟩))),(1,.v (.int .i64 n)),(5,.v (.int .i64 y4)),(6,.v (.int .i64 y5))] (by kernel_rfl) ?_
  refine xw_seq ?_
  refine xw_region ?_
  refine xl_callWS 1 [0,1,5,6,21] [(0,.v (.pointer (some ⟨g,0,none⟩))),(1,.v (.int .i64 n)),(5,.v (.int .i64 y4)),(6,.v (.int .i64 y5)),(21,.v (.pointer (some ⟨g,0,none⟩)))] 81 [.pointer (some ⟨g,0,none⟩)] (some 22) 0 (curF B g 85 (.slice A code.length cap) code.length) (by kernel_rfl) rfl (by kernel_rfl) rfl (by kernel_rfl) rfl rfl (fun ww b h hb => Nat.le_trans (cutW_le w B) (cur_lo h hb)) (by kernel_rfl) (xcm_cur fun ww hw hf => l1Byte_c g code A cap  ww B (Nat.le_trans (by first | exact Nat.le_refl _ | exact Nat.le_of_eq (cutW_size hB).symm) hw) (hf (curF B g 85 (.slice A code.length cap) code.length) (by simp)) (hf (slF (.slice A code.length cap) 1 (code.map byteRow)) (by simp)) hap (by omega)  ) ?_
  rintro ⟨y6,hy6⟩
  refine xl_endS [0,1,5,6,7] [(0,.v (.pointer (some ⟨g,0,none⟩))),(1,.v (.int .i64 n)),(5,.v (.int .i64 y4)),(6,.v (.int .i64 y5)),(7,.v (.int .i64 y6))] (by kernel_rfl) ?_
  refine xw_seq ?_
  refine xw_region ?_
  refine xl_callWS 1 [1,5,6,7,23] [(1,.v (.int .i64 n)),(5,.v (.int .i64 y4)),(6,.v (.int .i64 y5)),(7,.v (.int .i64 y6)),(23,.v (.pointer (some ⟨g,0,none⟩)))] 81 [.pointer (some ⟨g,0,none⟩)] (some 24) 0 (curF B g 85 (.slice A code.length cap) code.length) (by kernel_rfl) rfl (by kernel_rfl) rfl (by kernel_rfl) rfl rfl (fun ww b h hb => Nat.le_trans (cutW_le w B) (cur_lo h hb)) (by kernel_rfl) (xcm_cur fun ww hw hf => l1Byte_c g code A cap  ww B (Nat.le_trans (by first | exact Nat.le_refl _ | exact Nat.le_of_eq (cutW_size hB).symm) hw) (hf (curF B g 85 (.slice A code.length cap) code.length) (by simp)) (hf (slF (.slice A code.length cap) 1 (code.map byteRow)) (by simp)) hap (by omega)  ) ?_
  rintro ⟨y7,hy7⟩
  refine xl_endS [1,5,6,7,8] [(1,.v (.int .i64 n)),(5,.v (.int .i64 y4)),(6,.v (.int .i64 y5)),(7,.v (.int .i64 y6)),(8,.v (.int .i64 y7))] (by kernel_rfl) ?_
  refine xw_seq ?_
  refine xw_region ?_
  refine xl_opS 11 [34,35] [(34,.v (.int .i64 (IntKind.i64.wrap ((IntKind.i64.wrap ((IntKind.i64.wrap ((IntKind.i64.wrap (y4 * 16777216)) + (IntKind.i64.wrap (y5 * 65536)))) + (IntKind.i64.wrap (y6 * 256)))) + y7)))),(35,.v (.int .i64 n))] (.int .i64 (Int.tmod (IntKind.i64.wrap ((IntKind.i64.wrap ((IntKind.i64.wrap ((IntKind.i64.wrap (y4 * 16777216)) + (IntKind.i64.wrap (y5 * 65536)))) + (IntKind.i64.wrap (y6 * 256)))) + y7)) n)) (by kernel_rfl) rfl (by kernel_rfl) rfl (fun _ _ _ ww hr => act_bin hr.1 rfl (by kernel_rfl) (by kernel_rfl) (rem_run (by first | decide | omega) ww)) ?_
  refine xl_runS 1 [4] [(4,.v (.int .i64 (Int.tmod (IntKind.i64.wrap ((IntKind.i64.wrap ((IntKind.i64.wrap ((IntKind.i64.wrap (y4 * 16777216)) + (IntKind.i64.wrap (y5 * 65536)))) + (IntKind.i64.wrap (y6 * 256)))) + y7)) n)))] (by kernel_rfl) ?_
  refine xl_eqS (t' := [(4,.v (.int .i64 (Int.tmod ((((y4 * 16777216) + (y5 * 65536)) + (y6 * 256)) + y7) n)))]) (by rw [show (IntKind.i64.wrap (y6 * 256)) = (y6 * 256) from wrap_id (by omega) (by omega),show (IntKind.i64.wrap (y5 * 65536)) = (y5 * 65536) from wrap_id (by omega) (by omega),show (IntKind.i64.wrap (y4 * 16777216)) = (y4 * 16777216) from wrap_id (by omega) (by omega),show (IntKind.i64.wrap ((y4 * 16777216) + (y5 * 65536))) = ((y4 * 16777216) + (y5 * 65536)) from wrap_id (by omega) (by omega),show (IntKind.i64.wrap (((y4 * 16777216) + (y5 * 65536)) + (y6 * 256))) = (((y4 * 16777216) + (y5 * 65536)) + (y6 * 256)) from wrap_id (by omega) (by omega),show (IntKind.i64.wrap ((((y4 * 16777216) + (y5 * 65536)) + (y6 * 256)) + y7)) = ((((y4 * 16777216) + (y5 * 65536)) + (y6 * 256)) + y7) from wrap_id (by omega) (by omega)]) ?_
  refine xl_endS [4] [(4,.v (.int .i64 (Int.tmod ((((y4 * 16777216) + (y5 * 65536)) + (y6 * 256)) + y7) n)))] (by kernel_rfl) ?_
  refine xw_ret ?_
  exact ⟨[.int .i64 (Int.tmod ((((y4 * 16777216) + (y5 * 65536)) + (y6 * 256)) + y7) n)],by kernel_rfl,fun w' hb hf => ⟨⟨Int.tmod ((((y4 * 16777216) + (y5 * 65536)) + (y6 * 256)) + y7) n,(by first | (exact ⟨by omega,fun _ => by omega⟩) | (exact tmod_bd (by omega) (by omega)))⟩,rfl,hf (curF B g 85 (.slice A code.length cap) code.length) (by simp),frF_chgd (hf (frF w (fun b => b = g)) (by simp)) hb rfl rfl rfl⟩⟩
set_option maxHeartbeats 2000000 in
theorem l1Once_c (g : Nat) (code : List Int) (A : Option Addr) (cap : Nat) (n : Int) (w : World) (B : Nat) (hB : B ≤ w.heap.size) (hc : (curF B g 85 (.slice A code.length cap) code.length).p w) (hl : Sl w (.slice A code.length cap) 1 (code.map byteRow)) (hap : ¬ (slF (.slice A code.length cap) 1 (code.map byteRow)).blk g) (hn : code.length ≤ 1048576)  : Calls Try.prog 63 #[.pointer (some ⟨g, 0, none⟩), .int .i64 n] w fun e w' => ∃ y : {y : Bool // True}, e = .returned (.bool y.1) ∧ (curF B g 85 (.slice A code.length cap) code.length).p w' ∧ Chgd (fun b => b = g) w w' := by
  have hq_code := Sl.capLe hl
  refine x_callsM (args := [.pointer (some ⟨g,0,none⟩),.int .i64 n]) (fn := Try.f63) [curF B g 85 (.slice A code.length cap) code.length,slF (.slice A code.length cap) 1 (code.map byteRow),frF w (fun b => b = g)] B Try.func63 rfl Try.ntmps63 rfl hB (by simp only [List.mem_cons,List.not_mem_nil,or_false,forall_eq_or_imp,forall_eq]; exact ⟨hc,hl,frF_start w _⟩) (apart_cur hap rfl) ?_
  refine xw_seq ?_
  refine xw_region ?_
  refine xl_end [0,1] ⟨[(0,.v (.pointer (some ⟨g,0,none⟩))),(1,.v (.int .i64 n))],[],[],[curF B g 85 (.slice A code.length cap) code.length,slF (.slice A code.length cap) 1 (code.map byteRow),frF w (fun b => b = g)]⟩ (by kernel_rfl) ?_
  refine xw_seq ?_
  refine xw_region ?_
  refine xl_callWS 2 [5,6] [(5,.v (.pointer (some ⟨g,0,none⟩))),(6,.v (.int .i64 n))] 45 [.pointer (some ⟨g,0,none⟩),.int .i64 n] (some 7) 0 (curF B g 85 (.slice A code.length cap) code.length) (by kernel_rfl) rfl (by kernel_rfl) rfl (by kernel_rfl) rfl rfl (fun ww b h hb => Nat.le_trans (cutW_le w B) (cur_lo h hb)) (by kernel_rfl) (xcm_cur fun ww hw hf => l1Below_c g code A cap n ww B (Nat.le_trans (by first | exact Nat.le_refl _ | exact Nat.le_of_eq (cutW_size hB).symm) hw) (hf (curF B g 85 (.slice A code.length cap) code.length) (by simp)) (hf (slF (.slice A code.length cap) 1 (code.map byteRow)) (by simp)) hap (by omega)  ) ?_
  rintro ⟨y1,hy1⟩
  obtain ⟨hy10,hy11⟩ := hy1
  refine xl_endS [4] [(4,.v (.bool (y1 == 0)))] (by kernel_rfl) ?_
  refine xw_ret ?_
  exact ⟨[.bool (y1 == 0)],by kernel_rfl,fun w' hb hf => ⟨⟨y1 == 0,trivial⟩,rfl,hf (curF B g 85 (.slice A code.length cap) code.length) (by simp),frF_chgd (hf (frF w (fun b => b = g)) (by simp)) hb rfl rfl rfl⟩⟩
set_option maxHeartbeats 2000000 in
theorem l1PickInt_c (g : Nat) (code : List Int) (A : Option Addr) (cap : Nat) (list : List Int) (listV : Value) (w : World) (B : Nat) (hB : B ≤ w.heap.size) (hc : (curF B g 85 (.slice A code.length cap) code.length).p w) (hl : Sl w (.slice A code.length cap) 1 (code.map byteRow)) (hap : ¬ (slF (.slice A code.length cap) 1 (code.map byteRow)).blk g) (hn : code.length ≤ 1048576) (hl_listV : Sl w listV 1 (list.map intRow)) (hap2 : ¬ (slF listV 1 (list.map intRow)).blk g) (hne : 0 < list.length) : Calls Try.prog 35 #[.pointer (some ⟨g, 0, none⟩), listV] w fun e w' => ∃ y : {y : Int // y ∈ list}, e = .returned (.int .i64 y.1) ∧ (curF B g 85 (.slice A code.length cap) code.length).p w' ∧ Chgd (fun b => b = g) w w' := by
  have hq_code := Sl.capLe hl
  obtain ⟨Al,Cl,hvl⟩ := hl_listV.form
  rw [List.length_map] at hvl; subst hvl
  have hnl := hl_listV.len; rw [List.length_map] at hnl
  have hql := Sl.capLe hl_listV
  refine x_callsM (args := [.pointer (some ⟨g,0,none⟩),.slice Al list.length Cl]) (fn := Try.f35) [curF B g 85 (.slice A code.length cap) code.length,slF (.slice A code.length cap) 1 (code.map byteRow),frF w (fun b => b = g),slF (.slice Al list.length Cl) 1 (list.map intRow)] B Try.func35 rfl Try.ntmps35 rfl hB (by simp only [List.mem_cons,List.not_mem_nil,or_false,forall_eq_or_imp,forall_eq]; exact ⟨hc,hl,frF_start w _,hl_listV⟩) (apart_cur2 hap rfl hap2 rfl) ?_
  refine xw_seq ?_
  refine xw_region ?_
  refine xl_end [0,1] ⟨[(0,.v (.pointer (some ⟨g,0,none⟩))),(1,.v (.slice Al list.length Cl))],[],[],[curF B g 85 (.slice A code.length cap) code.length,slF (.slice A code.length cap) 1 (code.map byteRow),frF w (fun b => b = g),slF (.slice Al list.length Cl) 1 (list.map intRow)]⟩ (by kernel_rfl) ?_
  refine xw_seq ?_
  refine xw_region ?_
  refine xl_callWS 4 [5,6,8] [(5,.v (.slice Al list.length Cl)),(6,.v (.pointer (some ⟨g,0,none⟩))),(8,.v (.int .i64 ((list.length : Nat) : Int)))] 45 [.pointer (some ⟨g,0,none⟩),.int .i64 ((list.length : Nat) : Int)] (some 9) 0 (curF B g 85 (.slice A code.length cap) code.length) (by kernel_rfl) rfl (by kernel_rfl) rfl (by kernel_rfl) rfl rfl (fun ww b h hb => Nat.le_trans (cutW_le w B) (cur_lo h hb)) (by kernel_rfl) (xcm_cur fun ww hw hf => l1Below_c g code A cap ((list.length : Nat) : Int) ww B (Nat.le_trans (by first | exact Nat.le_refl _ | exact Nat.le_of_eq (cutW_size hB).symm) hw) (hf (curF B g 85 (.slice A code.length cap) code.length) (by simp)) (hf (slF (.slice A code.length cap) 1 (code.map byteRow)) (by simp)) hap (by omega)  ) ?_
  rintro ⟨y1,hy1⟩
  obtain ⟨hy10,hy11⟩ := hy1
  obtain ⟨j2,hj2⟩ : ∃ j : Nat,y1 = (j : Int) := ⟨y1.toNat,by omega⟩
  subst hj2
  have hlt : j2 < list.length := by omega
  obtain ⟨z,hz⟩ : ∃ z,list[j2]? = some z := ⟨_,List.getElem?_eq_getElem hlt⟩
  refine xl_indexS (kd := .i64) (T := 62) (e := 3) (K := 1) 0 [5,9] [(5,.v (.slice Al list.length Cl)),(9,.v (.int .i64 (j2 : Int)))] j2 [.int .i64 z] (slF (.slice Al list.length Cl) 1 (list.map intRow)) (by kernel_rfl) rfl (by kernel_rfl) rfl rfl (by kernel_rfl) (by kernel_rfl) (by kernel_rfl) (by kernel_rfl) hlt (by simp) (fun w h => h) (fun b h => h) (by simp only [List.getElem?_map,hz]; rfl) ?_
  refine xl_endS [4] [(4,.v (.int .i64 z))] (by kernel_rfl) ?_
  refine xw_ret ?_
  exact ⟨[.int .i64 z],by kernel_rfl,fun w' hb hf => ⟨⟨z,List.mem_of_getElem? hz⟩,rfl,hf (curF B g 85 (.slice A code.length cap) code.length) (by simp),frF_chgd (hf (frF w (fun b => b = g)) (by simp)) hb rfl rfl rfl⟩⟩
set_option maxHeartbeats 2000000 in
theorem l1Whole_c (g : Nat) (code : List Int) (A : Option Addr) (cap : Nat)  (w : World) (B : Nat) (hB : B ≤ w.heap.size) (hc : (curF B g 85 (.slice A code.length cap) code.length).p w) (hl : Sl w (.slice A code.length cap) 1 (code.map byteRow)) (hap : ¬ (slF (.slice A code.length cap) 1 (code.map byteRow)).blk g) (hn : code.length ≤ 1048576)  : Calls Try.prog 93 #[.pointer (some ⟨g, 0, none⟩)] w fun e w' => ∃ y : {y : Int // True}, e = .returned (.int .i64 y.1) ∧ (curF B g 85 (.slice A code.length cap) code.length).p w' ∧ Chgd (fun b => b = g) w w' := by
  have hq_code := Sl.capLe hl
  refine x_callsM (args := [.pointer (some ⟨g,0,none⟩)]) (fn := Try.f93) [curF B g 85 (.slice A code.length cap) code.length,slF (.slice A code.length cap) 1 (code.map byteRow),frF w (fun b => b = g)] B Try.func93 rfl Try.ntmps93 rfl hB (by simp only [List.mem_cons,List.not_mem_nil,or_false,forall_eq_or_imp,forall_eq]; exact ⟨hc,hl,frF_start w _⟩) (apart_cur hap rfl) ?_
  refine xw_seq ?_
  refine xw_region ?_
  refine xl_end [0] ⟨[(0,.v (.pointer (some ⟨g,0,none⟩)))],[],[],[curF B g 85 (.slice A code.length cap) code.length,slF (.slice A code.length cap) 1 (code.map byteRow),frF w (fun b => b = g)]⟩ (by kernel_rfl) ?_
  refine xw_seq ?_
  refine xw_seq ?_
  refine xw_region ?_
  refine xl_callWS 1 [0,3] [(0,.v (.pointer (some ⟨g,0,none⟩))),(3,.v (.pointer (some ⟨g,0,none⟩)))] 45 [.pointer (some ⟨g,0,none⟩),.int .i64 3] (some 4) 0 (curF B g 85 (.slice A code.length cap) code.length) (by kernel_rfl) rfl (by kernel_rfl) rfl (by kernel_rfl) rfl rfl (fun ww b h hb => Nat.le_trans (cutW_le w B) (cur_lo h hb)) (by kernel_rfl) (xcm_cur fun ww hw hf => l1Below_c g code A cap 3 ww B (Nat.le_trans (by first | exact Nat.le_refl _ | exact Nat.le_of_eq (cutW_size hB).symm) hw) (hf (curF B g 85 (.slice A code.length cap) code.length) (by simp)) (hf (slF (.slice A code.length cap) 1 (code.map byteRow)) (by simp)) hap (by omega)  ) ?_
  rintro ⟨y1,hy1⟩
  obtain ⟨hy10,hy11⟩ := hy1
  refine xl_endS [0,4] [(0,.v (.pointer (some ⟨g,0,none⟩))),(4,.v (.int .i64 y1))] (by kernel_rfl) ?_
  refine xw_block ?_
  refine xw_seq ?_
  refine xw_region ?_
  refine xl_endS [0,4,5] [(0,.v (.pointer (some ⟨g,0,none⟩))),(4,.v (.int .i64 y1)),(5,.v (.bool (y1 == 0)))] (by kernel_rfl) ?_
  refine xw_cond (b := y1 == 0) (by kernel_rfl) (fun h2 => ?_) (fun h2 => ?_)
  have h2p := eqT h2
  refine xw_seq ?_
  refine xw_region ?_
  refine xl_hvS 1 [7] [(7,.v (.pointer (some ⟨g,0,none⟩)))] (by kernel_rfl) rfl (by kernel_rfl) rfl (by kernel_rfl) (hv_build (e := 3) (K := 1) (bytes := 8) [.int .i64 0,.int .i64 1,.int .i64 (-1),.int .i64 9,.int .i64 10,.int .i64 999999999999,.int .i64 1000000000000,.int .i64 9223372036854775807,.int .i64 4294967295,.int .i64 4294967296,.int .i64 65535,.int .i64 65536,.int .i64 (-9223372036854775808)] rfl (by kernel_rfl) (by kernel_rfl) (by kernel_rfl) (by kernel_rfl) (by kernel_rfl) (rs := ([0,1,(-1),9,10,999999999999,1000000000000,9223372036854775807,4294967295,4294967296,65535,65536,(-9223372036854775808)] : List Int).map intRow) rfl) ?_
  intro g3
  refine xl_know (φ := ¬ (slF (.slice (some ⟨g3,0,none⟩) 13 13) 1 (([0,1,(-1),9,10,999999999999,1000000000000,9223372036854775807,4294967295,4294967296,65535,65536,(-9223372036854775808)] : List Int).map intRow)).blk g) (fun _ _ _ _ hr => fun hb => hr.2.apart 0 1 (rowF (cutW w B).heap.size 3 1 (.slice (some ⟨g3,0,none⟩) 13 13) (([0,1,(-1),9,10,999999999999,1000000000000,9223372036854775807,4294967295,4294967296,65535,65536,(-9223372036854775808)] : List Int).map intRow)) (curF B g 85 (.slice A code.length cap) code.length) rfl rfl (by decide) rfl g (rowF_sblk hb) rfl) (fun hk4 => ?_)
  refine xl_callWS 0 [7,8] [(7,.v (.pointer (some ⟨g,0,none⟩))),(8,.v (.slice (some ⟨g3,0,none⟩) 13 13))] 35 [.pointer (some ⟨g,0,none⟩),.slice (some ⟨g3,0,none⟩) 13 13] (some 9) 1 (curF B g 85 (.slice A code.length cap) code.length) (by kernel_rfl) rfl (by kernel_rfl) rfl (by kernel_rfl) rfl rfl (fun ww b h hb => Nat.le_trans (cutW_le w B) (cur_lo h hb)) (by kernel_rfl) (xcm_cur fun ww hw hf => l1PickInt_c g code A cap ([0,1,(-1),9,10,999999999999,1000000000000,9223372036854775807,4294967295,4294967296,65535,65536,(-9223372036854775808)] : List Int) (.slice (some ⟨g3,0,none⟩) 13 13) ww B (Nat.le_trans (by first | exact Nat.le_refl _ | exact Nat.le_of_eq (cutW_size hB).symm) hw) (hf (curF B g 85 (.slice A code.length cap) code.length) (by simp)) (hf (slF (.slice A code.length cap) 1 (code.map byteRow)) (by simp)) hap (by omega) (rowF_sl (hf (rowF (cutW w B).heap.size 3 1 (.slice (some ⟨g3,0,none⟩) 13 13) (([0,1,(-1),9,10,999999999999,1000000000000,9223372036854775807,4294967295,4294967296,65535,65536,(-9223372036854775808)] : List Int).map intRow)) (by simp))) hk4 (by simp)) ?_
  rintro ⟨y5,hy5⟩
  refine xl_endS [2] [(2,.v (.int .i64 y5))] (by kernel_rfl) ?_
  refine xw_ret ?_
  exact ⟨[.int .i64 y5],by kernel_rfl,fun w' hb hf => ⟨⟨y5,trivial⟩,rfl,hf (curF B g 85 (.slice A code.length cap) code.length) (by simp),frF_chgd (hf (frF w (fun b => b = g)) (by simp)) hb rfl rfl rfl⟩⟩
  have h2p := eqF h2
  refine xw_seq ?_
  refine xw_region ?_
  refine xl_endS [0,10] [(0,.v (.pointer (some ⟨g,0,none⟩))),(10,.v (.bool (y1 == 1)))] (by kernel_rfl) ?_
  refine xw_cond (b := y1 == 1) (by kernel_rfl) (fun h6 => ?_) (fun h6 => ?_)
  have h6p := eqT h6
  refine xw_seq ?_
  refine xw_region ?_
  refine xl_callWS 1 [12] [(12,.v (.pointer (some ⟨g,0,none⟩)))] 45 [.pointer (some ⟨g,0,none⟩),.int .i64 1000000] (some 13) 0 (curF B g 85 (.slice A code.length cap) code.length) (by kernel_rfl) rfl (by kernel_rfl) rfl (by kernel_rfl) rfl rfl (fun ww b h hb => Nat.le_trans (cutW_le w B) (cur_lo h hb)) (by kernel_rfl) (xcm_cur fun ww hw hf => l1Below_c g code A cap 1000000 ww B (Nat.le_trans (by first | exact Nat.le_refl _ | exact Nat.le_of_eq (cutW_size hB).symm) hw) (hf (curF B g 85 (.slice A code.length cap) code.length) (by simp)) (hf (slF (.slice A code.length cap) 1 (code.map byteRow)) (by simp)) hap (by omega)  ) ?_
  rintro ⟨y7,hy7⟩
  obtain ⟨hy70,hy71⟩ := hy7
  refine xl_runS 2 [2] [(2,.v (.int .i64 (IntKind.i64.wrap (y7 - 500000))))] (by kernel_rfl) ?_
  refine xl_eqS (t' := [(2,.v (.int .i64 (y7 - 500000)))]) (by rw [show (IntKind.i64.wrap (y7 - 500000)) = (y7 - 500000) from wrap_id (by omega) (by omega)]) ?_
  refine xl_endS [2] [(2,.v (.int .i64 (y7 - 500000)))] (by kernel_rfl) ?_
  refine xw_ret ?_
  exact ⟨[.int .i64 (y7 - 500000)],by kernel_rfl,fun w' hb hf => ⟨⟨y7 - 500000,trivial⟩,rfl,hf (curF B g 85 (.slice A code.length cap) code.length) (by simp),frF_chgd (hf (frF w (fun b => b = g)) (by simp)) hb rfl rfl rfl⟩⟩
  have h6p := eqF h6
  refine xw_skip ?_
  refine xw_seq ?_
  refine xw_region ?_
  refine xl_callWS 1 [15] [(15,.v (.pointer (some ⟨g,0,none⟩)))] 45 [.pointer (some ⟨g,0,none⟩),.int .i64 20] (some 16) 0 (curF B g 85 (.slice A code.length cap) code.length) (by kernel_rfl) rfl (by kernel_rfl) rfl (by kernel_rfl) rfl rfl (fun ww b h hb => Nat.le_trans (cutW_le w B) (cur_lo h hb)) (by kernel_rfl) (xcm_cur fun ww hw hf => l1Below_c g code A cap 20 ww B (Nat.le_trans (by first | exact Nat.le_refl _ | exact Nat.le_of_eq (cutW_size hB).symm) hw) (hf (curF B g 85 (.slice A code.length cap) code.length) (by simp)) (hf (slF (.slice A code.length cap) 1 (code.map byteRow)) (by simp)) hap (by omega)  ) ?_
  rintro ⟨y8,hy8⟩
  obtain ⟨hy80,hy81⟩ := hy8
  refine xl_endS [2] [(2,.v (.int .i64 y8))] (by kernel_rfl) ?_
  refine xw_ret ?_
  exact ⟨[.int .i64 y8],by kernel_rfl,fun w' hb hf => ⟨⟨y8,trivial⟩,rfl,hf (curF B g 85 (.slice A code.length cap) code.length) (by simp),frF_chgd (hf (frF w (fun b => b = g)) (by simp)) hb rfl rfl rfl⟩⟩
set_option maxHeartbeats 2000000 in
theorem l2Word_c (g : Nat) (code : List Int) (A : Option Addr) (cap : Nat)  (w : World) (B : Nat) (hB : B ≤ w.heap.size) (hc : (curF B g 85 (.slice A code.length cap) code.length).p w) (hl : Sl w (.slice A code.length cap) 1 (code.map byteRow)) (hap : ¬ (slF (.slice A code.length cap) 1 (code.map byteRow)).blk g) (hn : code.length ≤ 1048576)  : Calls Try.prog 73 #[.pointer (some ⟨g, 0, none⟩)] w fun e w' => ∃ y : {y : Int // True}, e = .returned (.int .i64 y.1) ∧ (curF B g 85 (.slice A code.length cap) code.length).p w' ∧ Chgd (fun b => b = g) w w' := by
  have hq_code := Sl.capLe hl
  refine x_callsM (args := [.pointer (some ⟨g,0,none⟩)]) (fn := Try.f73) [curF B g 85 (.slice A code.length cap) code.length,slF (.slice A code.length cap) 1 (code.map byteRow),frF w (fun b => b = g)] B Try.func73 rfl Try.ntmps73 rfl hB (by simp only [List.mem_cons,List.not_mem_nil,or_false,forall_eq_or_imp,forall_eq]; exact ⟨hc,hl,frF_start w _⟩) (apart_cur hap rfl) ?_
  refine xw_seq ?_
  refine xw_region ?_
  refine xl_end [0] ⟨[(0,.v (.pointer (some ⟨g,0,none⟩)))],[],[],[curF B g 85 (.slice A code.length cap) code.length,slF (.slice A code.length cap) 1 (code.map byteRow),frF w (fun b => b = g)]⟩ (by kernel_rfl) ?_
  refine xw_seq ?_
  refine xw_seq ?_
  refine xw_region ?_
  refine xl_callWS 1 [0,3] [(0,.v (.pointer (some ⟨g,0,none⟩))),(3,.v (.pointer (some ⟨g,0,none⟩)))] 45 [.pointer (some ⟨g,0,none⟩),.int .i64 3] (some 4) 0 (curF B g 85 (.slice A code.length cap) code.length) (by kernel_rfl) rfl (by kernel_rfl) rfl (by kernel_rfl) rfl rfl (fun ww b h hb => Nat.le_trans (cutW_le w B) (cur_lo h hb)) (by kernel_rfl) (xcm_cur fun ww hw hf => l1Below_c g code A cap 3 ww B (Nat.le_trans (by first | exact Nat.le_refl _ | exact Nat.le_of_eq (cutW_size hB).symm) hw) (hf (curF B g 85 (.slice A code.length cap) code.length) (by simp)) (hf (slF (.slice A code.length cap) 1 (code.map byteRow)) (by simp)) hap (by omega)  ) ?_
  rintro ⟨y1,hy1⟩
  obtain ⟨hy10,hy11⟩ := hy1
  refine xl_endS [0,4] [(0,.v (.pointer (some ⟨g,0,none⟩))),(4,.v (.int .i64 y1))] (by kernel_rfl) ?_
  refine xw_block ?_
  refine xw_seq ?_
  refine xw_region ?_
  refine xl_endS [0,4,5] [(0,.v (.pointer (some ⟨g,0,none⟩))),(4,.v (.int .i64 y1)),(5,.v (.bool (y1 == 0)))] (by kernel_rfl) ?_
  refine xw_cond (b := y1 == 0) (by kernel_rfl) (fun h2 => ?_) (fun h2 => ?_)
  have h2p := eqT h2
  refine xw_seq ?_
  refine xw_region ?_
  refine xl_callWS 1 [7] [(7,.v (.pointer (some ⟨g,0,none⟩)))] 93 [.pointer (some ⟨g,0,none⟩)] (some 8) 0 (curF B g 85 (.slice A code.length cap) code.length) (by kernel_rfl) rfl (by kernel_rfl) rfl (by kernel_rfl) rfl rfl (fun ww b h hb => Nat.le_trans (cutW_le w B) (cur_lo h hb)) (by kernel_rfl) (xcm_cur fun ww hw hf => l1Whole_c g code A cap  ww B (Nat.le_trans (by first | exact Nat.le_refl _ | exact Nat.le_of_eq (cutW_size hB).symm) hw) (hf (curF B g 85 (.slice A code.length cap) code.length) (by simp)) (hf (slF (.slice A code.length cap) 1 (code.map byteRow)) (by simp)) hap (by omega)  ) ?_
  rintro ⟨y3,hy3⟩
  refine xl_endS [2] [(2,.v (.int .i64 y3))] (by kernel_rfl) ?_
  refine xw_ret ?_
  exact ⟨[.int .i64 y3],by kernel_rfl,fun w' hb hf => ⟨⟨y3,trivial⟩,rfl,hf (curF B g 85 (.slice A code.length cap) code.length) (by simp),frF_chgd (hf (frF w (fun b => b = g)) (by simp)) hb rfl rfl rfl⟩⟩
  have h2p := eqF h2
  refine xw_seq ?_
  refine xw_region ?_
  refine xl_endS [0,9] [(0,.v (.pointer (some ⟨g,0,none⟩))),(9,.v (.bool (y1 == 1)))] (by kernel_rfl) ?_
  refine xw_cond (b := y1 == 1) (by kernel_rfl) (fun h4 => ?_) (fun h4 => ?_)
  have h4p := eqT h4
  refine xw_seq ?_
  refine xw_region ?_
  refine xl_hvS 1 [11] [(11,.v (.pointer (some ⟨g,0,none⟩)))] (by kernel_rfl) rfl (by kernel_rfl) rfl (by kernel_rfl) (hv_build (e := 3) (K := 1) (bytes := 8) [.int .i64 0,.int .i64 1,.int .i64 255,.int .i64 256,.int .i64 65535,.int .i64 65536,.int .i64 16777215,.int .i64 4294967295,.int .i64 4294967296,.int .i64 281474976710655,.int .i64 281474976710656] rfl (by kernel_rfl) (by kernel_rfl) (by kernel_rfl) (by kernel_rfl) (by kernel_rfl) (rs := ([0,1,255,256,65535,65536,16777215,4294967295,4294967296,281474976710655,281474976710656] : List Int).map intRow) rfl) ?_
  intro g5
  refine xl_know (φ := ¬ (slF (.slice (some ⟨g5,0,none⟩) 11 11) 1 (([0,1,255,256,65535,65536,16777215,4294967295,4294967296,281474976710655,281474976710656] : List Int).map intRow)).blk g) (fun _ _ _ _ hr => fun hb => hr.2.apart 0 1 (rowF (cutW w B).heap.size 3 1 (.slice (some ⟨g5,0,none⟩) 11 11) (([0,1,255,256,65535,65536,16777215,4294967295,4294967296,281474976710655,281474976710656] : List Int).map intRow)) (curF B g 85 (.slice A code.length cap) code.length) rfl rfl (by decide) rfl g (rowF_sblk hb) rfl) (fun hk6 => ?_)
  refine xl_callWS 0 [11,12] [(11,.v (.pointer (some ⟨g,0,none⟩))),(12,.v (.slice (some ⟨g5,0,none⟩) 11 11))] 35 [.pointer (some ⟨g,0,none⟩),.slice (some ⟨g5,0,none⟩) 11 11] (some 13) 1 (curF B g 85 (.slice A code.length cap) code.length) (by kernel_rfl) rfl (by kernel_rfl) rfl (by kernel_rfl) rfl rfl (fun ww b h hb => Nat.le_trans (cutW_le w B) (cur_lo h hb)) (by kernel_rfl) (xcm_cur fun ww hw hf => l1PickInt_c g code A cap ([0,1,255,256,65535,65536,16777215,4294967295,4294967296,281474976710655,281474976710656] : List Int) (.slice (some ⟨g5,0,none⟩) 11 11) ww B (Nat.le_trans (by first | exact Nat.le_refl _ | exact Nat.le_of_eq (cutW_size hB).symm) hw) (hf (curF B g 85 (.slice A code.length cap) code.length) (by simp)) (hf (slF (.slice A code.length cap) 1 (code.map byteRow)) (by simp)) hap (by omega) (rowF_sl (hf (rowF (cutW w B).heap.size 3 1 (.slice (some ⟨g5,0,none⟩) 11 11) (([0,1,255,256,65535,65536,16777215,4294967295,4294967296,281474976710655,281474976710656] : List Int).map intRow)) (by simp))) hk6 (by simp)) ?_
  rintro ⟨y7,hy7⟩
  refine xl_endS [2] [(2,.v (.int .i64 y7))] (by kernel_rfl) ?_
  refine xw_ret ?_
  exact ⟨[.int .i64 y7],by kernel_rfl,fun w' hb hf => ⟨⟨y7,trivial⟩,rfl,hf (curF B g 85 (.slice A code.length cap) code.length) (by simp),frF_chgd (hf (frF w (fun b => b = g)) (by simp)) hb rfl rfl rfl⟩⟩
  have h4p := eqF h4
  refine xw_skip ?_
  refine xw_seq ?_
  refine xw_region ?_
  refine xl_callWS 1 [14] [(14,.v (.pointer (some ⟨g,0,none⟩)))] 45 [.pointer (some ⟨g,0,none⟩),.int .i64 65536] (some 15) 0 (curF B g 85 (.slice A code.length cap) code.length) (by kernel_rfl) rfl (by kernel_rfl) rfl (by kernel_rfl) rfl rfl (fun ww b h hb => Nat.le_trans (cutW_le w B) (cur_lo h hb)) (by kernel_rfl) (xcm_cur fun ww hw hf => l1Below_c g code A cap 65536 ww B (Nat.le_trans (by first | exact Nat.le_refl _ | exact Nat.le_of_eq (cutW_size hB).symm) hw) (hf (curF B g 85 (.slice A code.length cap) code.length) (by simp)) (hf (slF (.slice A code.length cap) 1 (code.map byteRow)) (by simp)) hap (by omega)  ) ?_
  rintro ⟨y8,hy8⟩
  obtain ⟨hy80,hy81⟩ := hy8
  refine xl_endS [2] [(2,.v (.int .i64 y8))] (by kernel_rfl) ?_
  refine xw_ret ?_
  exact ⟨[.int .i64 y8],by kernel_rfl,fun w' hb hf => ⟨⟨y8,trivial⟩,rfl,hf (curF B g 85 (.slice A code.length cap) code.length) (by simp),frF_chgd (hf (frF w (fun b => b = g)) (by simp)) hb rfl rfl rfl⟩⟩
set_option maxHeartbeats 2000000 in
theorem l2Deep_c (g : Nat) (code : List Int) (A : Option Addr) (cap : Nat)  (w : World) (B : Nat) (hB : B ≤ w.heap.size) (hc : (curF B g 85 (.slice A code.length cap) code.length).p w) (hl : Sl w (.slice A code.length cap) 1 (code.map byteRow)) (hap : ¬ (slF (.slice A code.length cap) 1 (code.map byteRow)).blk g) (hn : code.length ≤ 1048576)  : Calls Try.prog 94 #[.pointer (some ⟨g, 0, none⟩)] w fun e w' => ∃ y : {y : Int // True}, e = .returned (.int .i64 y.1) ∧ (curF B g 85 (.slice A code.length cap) code.length).p w' ∧ Chgd (fun b => b = g) w w' := by
  have hq_code := Sl.capLe hl
  refine x_callsM (args := [.pointer (some ⟨g,0,none⟩)]) (fn := Try.f94) [curF B g 85 (.slice A code.length cap) code.length,slF (.slice A code.length cap) 1 (code.map byteRow),frF w (fun b => b = g)] B Try.func94 rfl Try.ntmps94 rfl hB (by simp only [List.mem_cons,List.not_mem_nil,or_false,forall_eq_or_imp,forall_eq]; exact ⟨hc,hl,frF_start w _⟩) (apart_cur hap rfl) ?_
  refine xw_seq ?_
  refine xw_region ?_
  refine xl_end [0] ⟨[(0,.v (.pointer (some ⟨g,0,none⟩)))],[],[],[curF B g 85 (.slice A code.length cap) code.length,slF (.slice A code.length cap) 1 (code.map byteRow),frF w (fun b => b = g)]⟩ (by kernel_rfl) ?_
  refine xw_seq ?_
  refine xw_seq ?_
  refine xw_region ?_
  refine xl_callWS 1 [0,5] [(0,.v (.pointer (some ⟨g,0,none⟩))),(5,.v (.pointer (some ⟨g,0,none⟩)))] 63 [.pointer (some ⟨g,0,none⟩),.int .i64 3] (some 6) 0 (curF B g 85 (.slice A code.length cap) code.length) (by kernel_rfl) rfl (by kernel_rfl) rfl (by kernel_rfl) rfl rfl (fun ww b h hb => Nat.le_trans (cutW_le w B) (cur_lo h hb)) (by kernel_rfl) (xcm_cur fun ww hw hf => l1Once_c g code A cap 3 ww B (Nat.le_trans (by first | exact Nat.le_refl _ | exact Nat.le_of_eq (cutW_size hB).symm) hw) (hf (curF B g 85 (.slice A code.length cap) code.length) (by simp)) (hf (slF (.slice A code.length cap) 1 (code.map byteRow)) (by simp)) hap (by omega)  ) ?_
  rintro ⟨y1,hy1⟩
  refine xl_endS [0,6] [(0,.v (.pointer (some ⟨g,0,none⟩))),(6,.v (.bool y1))] (by kernel_rfl) ?_
  refine xw_cond (b := y1) (by kernel_rfl) (fun h2 => ?_) (fun h2 => ?_)
  refine xw_seq ?_
  refine xw_region ?_
  refine xl_hvS 1 [7] [(7,.v (.pointer (some ⟨g,0,none⟩)))] (by kernel_rfl) rfl (by kernel_rfl) rfl (by kernel_rfl) (hv_build (e := 3) (K := 1) (bytes := 8) [.int .i64 0,.int .i64 1,.int .i64 4294967295,.int .i64 2147483647,.int .i64 2147483648,.int .i64 4294967294] rfl (by kernel_rfl) (by kernel_rfl) (by kernel_rfl) (by kernel_rfl) (by kernel_rfl) (rs := ([0,1,4294967295,2147483647,2147483648,4294967294] : List Int).map intRow) rfl) ?_
  intro g3
  refine xl_know (φ := ¬ (slF (.slice (some ⟨g3,0,none⟩) 6 6) 1 (([0,1,4294967295,2147483647,2147483648,4294967294] : List Int).map intRow)).blk g) (fun _ _ _ _ hr => fun hb => hr.2.apart 0 1 (rowF (cutW w B).heap.size 3 1 (.slice (some ⟨g3,0,none⟩) 6 6) (([0,1,4294967295,2147483647,2147483648,4294967294] : List Int).map intRow)) (curF B g 85 (.slice A code.length cap) code.length) rfl rfl (by decide) rfl g (rowF_sblk hb) rfl) (fun hk4 => ?_)
  refine xl_callWS 0 [7,8] [(7,.v (.pointer (some ⟨g,0,none⟩))),(8,.v (.slice (some ⟨g3,0,none⟩) 6 6))] 35 [.pointer (some ⟨g,0,none⟩),.slice (some ⟨g3,0,none⟩) 6 6] (some 9) 1 (curF B g 85 (.slice A code.length cap) code.length) (by kernel_rfl) rfl (by kernel_rfl) rfl (by kernel_rfl) rfl rfl (fun ww b h hb => Nat.le_trans (cutW_le w B) (cur_lo h hb)) (by kernel_rfl) (xcm_cur fun ww hw hf => l1PickInt_c g code A cap ([0,1,4294967295,2147483647,2147483648,4294967294] : List Int) (.slice (some ⟨g3,0,none⟩) 6 6) ww B (Nat.le_trans (by first | exact Nat.le_refl _ | exact Nat.le_of_eq (cutW_size hB).symm) hw) (hf (curF B g 85 (.slice A code.length cap) code.length) (by simp)) (hf (slF (.slice A code.length cap) 1 (code.map byteRow)) (by simp)) hap (by omega) (rowF_sl (hf (rowF (cutW w B).heap.size 3 1 (.slice (some ⟨g3,0,none⟩) 6 6) (([0,1,4294967295,2147483647,2147483648,4294967294] : List Int).map intRow)) (by simp))) hk4 (by simp)) ?_
  rintro ⟨y5,hy5⟩
  refine xl_endS [2] [(2,.v (.int .i64 y5))] (by kernel_rfl) ?_
  refine xw_ret ?_
  exact ⟨[.int .i64 y5],by kernel_rfl,fun w' hb hf => ⟨⟨y5,trivial⟩,rfl,hf (curF B g 85 (.slice A code.length cap) code.length) (by simp),frF_chgd (hf (frF w (fun b => b = g)) (by simp)) hb rfl rfl rfl⟩⟩
  refine xw_skip ?_
  refine xw_seq ?_
  refine xw_region ?_
  refine xl_endS [0,3] [(0,.v (.pointer (some ⟨g,0,none⟩))),(3,.v (.int .i64 0))] (by kernel_rfl) ?_
  refine xw_seq ?_
  refine xw_seq ?_
  refine xw_region ?_
  refine xl_endS [0,3,4] [(0,.v (.pointer (some ⟨g,0,none⟩))),(3,.v (.int .i64 0)),(4,.v (.int .i64 0))] (by kernel_rfl) ?_
  refine xw_block ?_
  refine xw_loopW (α := {x : Nat × Int // (fun (i : Nat) (x : Int) => i ≤ 4) x.1 x.2}) (fun x => (fun (i : Nat) (x : Int) => (⟨[(0,.v (.pointer (some ⟨g,0,none⟩))),(3,.v (.int .i64 x)),(4,.v (.int .i64 (i : Int)))],[],[],[curF B g 85 (.slice A code.length cap) code.length,slF (.slice A code.length cap) 1 (code.map byteRow),frF w (fun b => b = g)]⟩ : St)) x.1.1 x.1.2) (fun x => (fun (i : Nat) (x : Int) => 4 - i) x.1.1 x.1.2) ⟨(0,0),Nat.zero_le _⟩ (wk_forget 0 0 [0,3,4] (by kernel_rfl) (by kernel_rfl) (by kernel_rfl)) ?_
  rintro ⟨⟨i,x⟩,hi⟩
  refine xw_wk (Wk.of_eq (s' := ⟨[(0,.v (.pointer (some ⟨g,0,none⟩))),(3,.v (.int .i64 x)),(4,.v (.int .i64 (i : Int)))],[],[],[curF B g 85 (.slice A code.length cap) code.length,slF (.slice A code.length cap) 1 (code.map byteRow),frF w (fun b => b = g)]⟩) rfl) ?_
  try dsimp only at hi
  refine xw_seq ?_
  refine xw_seq ?_
  refine xw_region ?_
  refine xl_endS [0,3,4,11] [(0,.v (.pointer (some ⟨g,0,none⟩))),(3,.v (.int .i64 x)),(4,.v (.int .i64 (i : Int))),(11,.v (.bool (decide ((i : Int) < 4))))] (by kernel_rfl) ?_
  refine xw_cond (b := decide ((i : Int) < 4)) (by kernel_rfl) (fun h6 => ?_) (fun h6 => ?_)
  have h6p : ((i : Int) < 4) := of_decide_eq_true h6
  have hlt : i < 4 := by simp at h6; omega
  refine xw_skip ?_
  refine xw_seq ?_
  refine xw_block ?_
  refine xw_region ?_
  refine xl_callWS 3 [0,3,4,15,16] [(0,.v (.pointer (some ⟨g,0,none⟩))),(3,.v (.int .i64 x)),(4,.v (.int .i64 (i : Int))),(15,.v (.int .i64 (IntKind.i64.wrap (256 * x)))),(16,.v (.pointer (some ⟨g,0,none⟩)))] 81 [.pointer (some ⟨g,0,none⟩)] (some 17) 0 (curF B g 85 (.slice A code.length cap) code.length) (by kernel_rfl) rfl (by kernel_rfl) rfl (by kernel_rfl) rfl rfl (fun ww b h hb => Nat.le_trans (cutW_le w B) (cur_lo h hb)) (by kernel_rfl) (xcm_cur fun ww hw hf => l1Byte_c g code A cap  ww B (Nat.le_trans (by first | exact Nat.le_refl _ | exact Nat.le_of_eq (cutW_size hB).symm) hw) (hf (curF B g 85 (.slice A code.length cap) code.length) (by simp)) (hf (slF (.slice A code.length cap) 1 (code.map byteRow)) (by simp)) hap (by omega)  ) ?_
  rintro ⟨y7,hy7⟩
  refine xl_endS [0,3,4] [(0,.v (.pointer (some ⟨g,0,none⟩))),(3,.v (.int .i64 (IntKind.i64.wrap ((IntKind.i64.wrap (256 * x)) + y7)))),(4,.v (.int .i64 (i : Int)))] (by kernel_rfl) ?_
  refine xw_region ?_
  refine xl_runS 3 [0,3,4] [(0,.v (.pointer (some ⟨g,0,none⟩))),(3,.v (.int .i64 (IntKind.i64.wrap ((IntKind.i64.wrap (256 * x)) + y7)))),(4,.v (.int .i64 (IntKind.i64.wrap ((i : Int) + 1))))] (by kernel_rfl) ?_
  refine xl_eqS (t' := [(0,.v (.pointer (some ⟨g,0,none⟩))),(3,.v (.int .i64 (IntKind.i64.wrap ((IntKind.i64.wrap (256 * x)) + y7)))),(4,.v (.int .i64 ((i : Int) + 1)))]) (by rw [show (IntKind.i64.wrap ((i : Int) + 1)) = ((i : Int) + 1) from wrap_id (by omega) (by omega)]) ?_
  refine xl_endS [0,3,4] [(0,.v (.pointer (some ⟨g,0,none⟩))),(3,.v (.int .i64 (IntKind.i64.wrap ((IntKind.i64.wrap (256 * x)) + y7)))),(4,.v (.int .i64 ((i : Int) + 1)))] (by kernel_rfl) ?_
  exact ⟨⟨(i + 1,IntKind.i64.wrap ((IntKind.i64.wrap (256 * x)) + y7)),hlt⟩,wk_forget 0 0 [0,3,4] (by kernel_rfl) (by kernel_rfl) (by kernel_rfl),by show (fun (i : Nat) (x : Int) => 4 - i) (i + 1) (IntKind.i64.wrap ((IntKind.i64.wrap (256 * x)) + y7)) < 4 - i; (dsimp only; omega)⟩
  have h6p : ¬ ((i : Int) < 4) := of_decide_eq_false h6
  refine xw_exit ?_
  refine xw_seq ?_
  refine xw_region ?_
  refine xl_endS [2] [(2,.v (.int .i64 x))] (by kernel_rfl) ?_
  refine xw_ret ?_
  exact ⟨[.int .i64 x],by kernel_rfl,fun w' hb hf => ⟨⟨x,trivial⟩,rfl,hf (curF B g 85 (.slice A code.length cap) code.length) (by simp),frF_chgd (hf (frF w (fun b => b = g)) (by simp)) hb rfl rfl rfl⟩⟩
theorem big_c (code : List Int) (A : Option Addr) (cap : Nat) (w : World) (hl : Sl w (.slice A code.length cap) 1 (code.map byteRow)) : Calls Try.prog 8 #[.slice A code.length cap] w fun e w' => e = .returned (.bool (decide (((code.length : Nat) : Int) > 1048576))) ∧ Below w.heap.size w w' := by
  refine x_calls (args := [.slice A code.length cap]) (fn := Try.f8) [slF (.slice A code.length cap) 1 (code.map byteRow)] Try.func8 rfl Try.ntmps8 rfl (by simp only [List.mem_cons,List.not_mem_nil,or_false,forall_eq]; exact ⟨rfl,hl⟩) ?_
  refine xw_seq ?_
  refine xw_region ?_
  refine xl_end [0] ⟨[(0,.v (.slice A code.length cap))],[],[],[slF (.slice A code.length cap) 1 (code.map byteRow)]⟩ (by kernel_rfl) ?_
  refine xw_seq ?_
  refine xw_region ?_
  refine xl_endS [2] [(2,.v (.bool (decide (((code.length : Nat) : Int) > 1048576))))] (by kernel_rfl) ?_
  refine xw_ret ?_
  exact ⟨[.bool (decide (((code.length : Nat) : Int) > 1048576))],by kernel_rfl,fun w' hb hf => ⟨rfl,hb⟩⟩
set_option maxHeartbeats 2000000 in
theorem l1Bytes_c (g : Nat) (code : List Int) (A : Option Addr) (cap : Nat) (n : Int) (w : World) (B : Nat) (hB : B ≤ w.heap.size) (hc : (curF B g 85 (.slice A code.length cap) code.length).p w) (hl : Sl w (.slice A code.length cap) 1 (code.map byteRow)) (hap : ¬ (slF (.slice A code.length cap) 1 (code.map byteRow)).blk g) (hn : code.length ≤ 1048576) (hn0 : 0 ≤ n ∧ n ≤ 4096) : Calls Try.prog 92 #[.pointer (some ⟨g, 0, none⟩), .int .i64 n] w fun e w' => ∃ y : {y : List Int × (Option Addr × Nat) // y.1.length ≤ 4096}, e = .returned (.slice y.1.2.1 y.1.1.length y.1.2.2) ∧ (curF B g 85 (.slice A code.length cap) code.length).p w' ∧ (rowF w.heap.size 5 1 (.slice y.1.2.1 y.1.1.length y.1.2.2) (y.1.1.map byteRow)).p w' ∧ g < w.heap.size ∧ Chgd (fun b => b = g) w w' := by
  have hq_code := Sl.capLe hl
  refine x_callsMA (args := [.pointer (some ⟨g,0,none⟩),.int .i64 n]) (fn := Try.f92) [curF B g 85 (.slice A code.length cap) code.length,slF (.slice A code.length cap) 1 (code.map byteRow),frF w (fun b => b = g)] B Try.func92 rfl Try.ntmps92 rfl hB (by simp only [List.mem_cons,List.not_mem_nil,or_false,forall_eq_or_imp,forall_eq]; exact ⟨hc,hl,frF_start w _⟩) (apart_cur hap rfl) ?_
  have hgl : g < w.heap.size := (curF B g 85 (.slice A code.length cap) code.length).lt w g hc rfl
  refine xw_seq ?_
  refine xw_region ?_
  refine xl_end [0,1] ⟨[(0,.v (.pointer (some ⟨g,0,none⟩))),(1,.v (.int .i64 n))],[],[],[curF B g 85 (.slice A code.length cap) code.length,slF (.slice A code.length cap) 1 (code.map byteRow),frF w (fun b => b = g)]⟩ (by kernel_rfl) ?_
  refine xw_seq ?_
  refine xw_region ?_
  refine xl_hvS 0 [0,1] [(0,.v (.pointer (some ⟨g,0,none⟩))),(1,.v (.int .i64 n))] (by kernel_rfl) rfl (by kernel_rfl) rfl (by kernel_rfl) (hv_build (e := 5) (K := 1) (bytes := 1) [] rfl (by kernel_rfl) (by kernel_rfl) (by kernel_rfl) (by kernel_rfl) (by kernel_rfl) (rs := ([] : List Int).map byteRow) rfl) ?_
  intro g1
  refine xl_endS [0,1,5] [(0,.v (.pointer (some ⟨g,0,none⟩))),(1,.v (.int .i64 n)),(5,.v (.slice (some ⟨g1,0,none⟩) 0 0))] (by kernel_rfl) ?_
  refine xw_seq ?_
  refine xw_seq ?_
  refine xw_region ?_
  refine xl_endS [0,1,5,6] [(0,.v (.pointer (some ⟨g,0,none⟩))),(1,.v (.int .i64 n)),(5,.v (.slice (some ⟨g1,0,none⟩) 0 0)),(6,.v (.int .i64 0))] (by kernel_rfl) ?_
  refine xw_block ?_
  refine xw_loopW (α := {x : Nat × List Int × Option Addr × Nat // (fun (i : Nat) (bs : List Int) (A1 : Option Addr) (c1 : Nat) => (i : Int) ≤ n ∧ bs.length = i) x.1 x.2.1 x.2.2.1 x.2.2.2}) (fun x => (fun (i : Nat) (bs : List Int) (A1 : Option Addr) (c1 : Nat) => (⟨[(0,.v (.pointer (some ⟨g,0,none⟩))),(1,.v (.int .i64 n)),(5,.v (.slice A1 bs.length c1)),(6,.v (.int .i64 (i : Int)))],[],[],[rowF (cutW w B).heap.size 5 1 (.slice A1 bs.length c1) (bs.map byteRow),curF B g 85 (.slice A code.length cap) code.length,slF (.slice A code.length cap) 1 (code.map byteRow),frF w (fun b => b = g)]⟩ : St)) x.1.1 x.1.2.1 x.1.2.2.1 x.1.2.2.2) (fun x => (fun (i : Nat) (bs : List Int) (A1 : Option Addr) (c1 : Nat) => n.toNat - i) x.1.1 x.1.2.1 x.1.2.2.1 x.1.2.2.2) ⟨(0,([] : List Int),(some ⟨g1,0,none⟩),0),⟨(by omega),rfl⟩⟩ ((wk_pick [0,1,2,3] [rowF (cutW w B).heap.size 5 1 (.slice (some ⟨g1,0,none⟩) 0 0) (([] : List Int).map byteRow),curF B g 85 (.slice A code.length cap) code.length,slF (.slice A code.length cap) 1 (code.map byteRow),frF w (fun b => b = g)] (by kernel_rfl) (by kernel_rfl)).trans <| wk_forget 0 0 [0,1,5,6] (by kernel_rfl) (by kernel_rfl) (by kernel_rfl)) ?_
  rintro ⟨⟨i,bs,A1,c1⟩,hi,hbl⟩
  refine xw_wk (Wk.of_eq (s' := ⟨[(0,.v (.pointer (some ⟨g,0,none⟩))),(1,.v (.int .i64 n)),(5,.v (.slice A1 bs.length c1)),(6,.v (.int .i64 (i : Int)))],[],[],[rowF (cutW w B).heap.size 5 1 (.slice A1 bs.length c1) (bs.map byteRow),curF B g 85 (.slice A code.length cap) code.length,slF (.slice A code.length cap) 1 (code.map byteRow),frF w (fun b => b = g)]⟩) rfl) ?_
  try dsimp only at hi hbl
  refine xw_seq ?_
  refine xw_seq ?_
  refine xw_region ?_
  refine xl_endS [0,1,5,6,10] [(0,.v (.pointer (some ⟨g,0,none⟩))),(1,.v (.int .i64 n)),(5,.v (.slice A1 bs.length c1)),(6,.v (.int .i64 (i : Int))),(10,.v (.bool (decide ((i : Int) < n))))] (by kernel_rfl) ?_
  refine xw_cond (b := decide ((i : Int) < n)) (by kernel_rfl) (fun h2 => ?_) (fun h2 => ?_)
  have h2p : ((i : Int) < n) := of_decide_eq_true h2
  have hlt : (i : Int) < n := of_decide_eq_true h2
  refine xw_skip ?_
  refine xw_seq ?_
  refine xw_block ?_
  refine xw_region ?_
  refine xl_callWS 2 [0,1,5,6,13,14] [(0,.v (.pointer (some ⟨g,0,none⟩))),(1,.v (.int .i64 n)),(5,.v (.slice A1 bs.length c1)),(6,.v (.int .i64 (i : Int))),(13,.v (.slice A1 bs.length c1)),(14,.v (.pointer (some ⟨g,0,none⟩)))] 81 [.pointer (some ⟨g,0,none⟩)] (some 15) 1 (curF B g 85 (.slice A code.length cap) code.length) (by kernel_rfl) rfl (by kernel_rfl) rfl (by kernel_rfl) rfl rfl (fun ww b h hb => Nat.le_trans (cutW_le w B) (cur_lo h hb)) (by kernel_rfl) (xcm_cur fun ww hw hf => l1Byte_c g code A cap  ww B (Nat.le_trans (by first | exact Nat.le_refl _ | exact Nat.le_of_eq (cutW_size hB).symm) hw) (hf (curF B g 85 (.slice A code.length cap) code.length) (by simp)) (hf (slF (.slice A code.length cap) 1 (code.map byteRow)) (by simp)) hap (by omega)  ) ?_
  rintro ⟨y3,hy3⟩
  refine xl_hvS 1 [0,1,5,6,13,16] [(0,.v (.pointer (some ⟨g,0,none⟩))),(1,.v (.int .i64 n)),(5,.v (.slice A1 bs.length c1)),(6,.v (.int .i64 (i : Int))),(13,.v (.slice A1 bs.length c1)),(16,.v (.int .u8 (IntKind.u8.wrap y3)))] (by kernel_rfl) rfl (by kernel_rfl) rfl (by kernel_rfl) (hv_build (e := 5) (K := 1) (bytes := 1) [.int .u8 (IntKind.u8.wrap y3)] rfl (by kernel_rfl) (by kernel_rfl) (by kernel_rfl) (by kernel_rfl) (by kernel_rfl) (rs := ([IntKind.u8.wrap y3] : List Int).map byteRow) rfl) ?_
  intro g4
  refine xl_hvS 0 [0,1,5,6,13,17] [(0,.v (.pointer (some ⟨g,0,none⟩))),(1,.v (.int .i64 n)),(5,.v (.slice A1 bs.length c1)),(6,.v (.int .i64 (i : Int))),(13,.v (.slice A1 bs.length c1)),(17,.v (.slice (some ⟨g4,0,none⟩) 1 1))] (by kernel_rfl) rfl (by kernel_rfl) rfl (by kernel_rfl) (hv_append (e := 5) (K := 1) (bytes := 1) (i := 2) (q := (bs ++ ([IntKind.u8.wrap y3] : List Int)).length) (new := ([IntKind.u8.wrap y3] : List Int).map byteRow) (rs' := (bs ++ ([IntKind.u8.wrap y3] : List Int)).map byteRow) rfl rfl rfl rfl (by kernel_rfl) (by kernel_rfl) (by kernel_rfl) rfl (by simp) (by rw [List.map_append]) (by simp) (fun ww hf => (rowF_sl (hf (rowF (cutW w B).heap.size 5 1 (.slice (some ⟨g4,0,none⟩) 1 1) (([IntKind.u8.wrap y3] : List Int).map byteRow)) (by simp)))) (by intro r hr; obtain ⟨x,hx,rfl⟩ := List.mem_map.1 hr; exact ⟨rfl,by simp [byteRow,Value.oneCell']⟩) (by (try simp only [List.length_map,List.length_append,List.length_cons,List.length_nil,List.length_take,List.length_drop,maxLen]); omega) (by (try simp only [List.length_map,List.length_append,List.length_cons,List.length_nil,List.length_take,List.length_drop,maxLen]); omega)) ?_
  rintro ⟨v5a,v5c⟩
  refine xl_endS [0,1,5,6] [(0,.v (.pointer (some ⟨g,0,none⟩))),(1,.v (.int .i64 n)),(5,.v (.slice v5a ((bs ++ ([IntKind.u8.wrap y3] : List Int)).length) v5c)),(6,.v (.int .i64 (i : Int)))] (by kernel_rfl) ?_
  refine xw_region ?_
  refine xl_runS 3 [0,1,5,6] [(0,.v (.pointer (some ⟨g,0,none⟩))),(1,.v (.int .i64 n)),(5,.v (.slice v5a ((bs ++ ([IntKind.u8.wrap y3] : List Int)).length) v5c)),(6,.v (.int .i64 (IntKind.i64.wrap ((i : Int) + 1))))] (by kernel_rfl) ?_
  refine xl_eqS (t' := [(0,.v (.pointer (some ⟨g,0,none⟩))),(1,.v (.int .i64 n)),(5,.v (.slice v5a ((bs ++ ([IntKind.u8.wrap y3] : List Int)).length) v5c)),(6,.v (.int .i64 ((i : Int) + 1)))]) (by rw [show (IntKind.i64.wrap ((i : Int) + 1)) = ((i : Int) + 1) from wrap_id (by omega) (by omega)]) ?_
  refine xl_endS [0,1,5,6] [(0,.v (.pointer (some ⟨g,0,none⟩))),(1,.v (.int .i64 n)),(5,.v (.slice v5a ((bs ++ ([IntKind.u8.wrap y3] : List Int)).length) v5c)),(6,.v (.int .i64 ((i : Int) + 1)))] (by kernel_rfl) ?_
  exact ⟨⟨(i + 1,(bs ++ ([IntKind.u8.wrap y3] : List Int)),v5a,v5c),⟨by omega,by simp [hbl]⟩⟩,(wk_pick [0,2,3,4] [rowF (cutW w B).heap.size 5 1 (.slice v5a ((bs ++ ([IntKind.u8.wrap y3] : List Int)).length) v5c) ((bs ++ ([IntKind.u8.wrap y3] : List Int)).map byteRow),curF B g 85 (.slice A code.length cap) code.length,slF (.slice A code.length cap) 1 (code.map byteRow),frF w (fun b => b = g)] (by kernel_rfl) (by kernel_rfl)).trans <| wk_forget 0 0 [0,1,5,6] (by kernel_rfl) (by kernel_rfl) (by kernel_rfl),by show (fun (i : Nat) (bs : List Int) (A1 : Option Addr) (c1 : Nat) => n.toNat - i) (i + 1) (bs ++ ([IntKind.u8.wrap y3] : List Int)) v5a v5c < n.toNat - i; (dsimp only; omega)⟩
  have h2p : ¬ ((i : Int) < n) := of_decide_eq_false h2
  have hge : ¬ (i : Int) < n := of_decide_eq_false h2
  refine xw_exit ?_
  refine xw_seq ?_
  refine xw_region ?_
  refine xl_endS [4] [(4,.v (.slice A1 bs.length c1))] (by kernel_rfl) ?_
  refine xw_ret ?_
  exact ⟨[.slice A1 bs.length c1],by kernel_rfl,fun w' hb hf ha => ⟨⟨(bs,A1,c1),by dsimp only; omega⟩,rfl,hf (curF B g 85 (.slice A code.length cap) code.length) (by simp),rowF_raise (hf (rowF (cutW w B).heap.size 5 1 (.slice A1 bs.length c1) (bs.map byteRow)) (by simp)) (row_new ha (i := 0) (j := 1) (k := 3) rfl rfl rfl (by decide) (by decide)),hgl,frF_chgd (hf (frF w (fun b => b = g)) (by simp)) hb rfl rfl rfl⟩⟩
theorem l5Long_c (n : Int) (w : World) (h0 : 0 ≤ n ∧ n ≤ 4096) : Calls Try.prog 75 #[.int .i64 n] w fun e w' => e = .returned (.string (bstr (List.replicate n.toNat 0))) ∧ Below w.heap.size w w' := by
  obtain ⟨m,rfl⟩ : ∃ m : Nat,n = (m : Int) := ⟨n.toNat,by omega⟩
  have hm : m ≤ 4096 := by omega
  refine x_calls (args := [.int .i64 (m : Int)]) (fn := Try.f75) [] Try.func75 rfl Try.ntmps75 rfl (by simp) ?_
  refine xw_seq ?_
  refine xw_region ?_
  refine xl_end [0] ⟨[(0,.v (.int .i64 (m : Int)))],[],[],[]⟩ (by kernel_rfl) ?_
  refine xw_seq ?_
  refine xw_region ?_
  refine xl_hvS 1 [4] [(4,.v (.int .i64 (m : Int)))] (by kernel_rfl) rfl (by kernel_rfl) rfl (by kernel_rfl) (hv_make (kl := .i64) (kc := .i64) (e := 5) (K := 1) (bytes := 1) (m := m) (z := .int .u8 0) (rs := (List.replicate m 0).map byteRow) rfl (by kernel_rfl) (by kernel_rfl) (by kernel_rfl) (by kernel_rfl) (by (try simp only [List.length_map,List.length_append,List.length_cons,List.length_nil,List.length_take,List.length_drop,maxLen]); omega) (by (try simp only [List.length_map,List.length_append,List.length_cons,List.length_nil,List.length_take,List.length_drop,maxLen]); omega) (by rw [List.map_replicate]; rfl)) ?_
  intro g1
  refine xl_endS [3] [(3,.v (.slice (some ⟨g1,0,none⟩) m m))] (by kernel_rfl) ?_
  refine xw_seq ?_
  refine xw_region ?_
  refine xl_opS 1 [6] [(6,.v (.slice (some ⟨g1,0,none⟩) m m))] (.string (bstr (List.replicate m 0))) (by kernel_rfl) rfl (by kernel_rfl) rfl (fun _ _ _ ww hr => act_b2s (e := 5) (List.replicate m 0) hr.1 rfl (by kernel_rfl) (by kernel_rfl) (by kernel_rfl) rfl (rowF_sl (hr.2.fact (rowF w.heap.size 5 1 (.slice (some ⟨g1,0,none⟩) m m) ((List.replicate m 0).map byteRow)) (by simp)).1)) ?_
  refine xl_endS [2] [(2,.v (.string (bstr (List.replicate m 0))))] (by kernel_rfl) ?_
  refine xw_ret ?_
  exact ⟨[.string (bstr (List.replicate m 0))],by kernel_rfl,fun w' hb hf => ⟨rfl,hb⟩⟩
set_option maxHeartbeats 1000000 in
theorem yl18CopyR_c (r : Rcv) (r_heldV : Value) (w : World) (hl_r_heldV : Sl w r_heldV 2 (r.held.map pceCells)) (hkn : r.held.length ≤ 1048576) (B : Nat) (hB : B ≤ w.heap.size) : Calls Try.prog 37 #[.agg (rcvL r r_heldV).toArray] w fun e w' => XRs w w' e (α := Option Addr × Nat) (fun y => .agg (rcvL r (.slice y.1 r.held.length y.2)).toArray) (fun y => [rowF B 65 2 (.slice y.1 r.held.length y.2) (r.held.map pceCells)]) := by
  obtain ⟨Arh,Crh,hvrh⟩ := hl_r_heldV.form
  rw [List.length_map] at hvrh; subst hvrh
  have hnrh := hl_r_heldV.len; rw [List.length_map] at hnrh
  have hqrh := Sl.capLe hl_r_heldV
  refine x_callsA (args := [.agg (rcvL r (.slice Arh r.held.length Crh)).toArray]) (fn := Try.f37) [slF (.slice Arh r.held.length Crh) 2 (r.held.map pceCells)] Try.func37 rfl Try.ntmps37 rfl (by simp only [List.mem_cons,List.not_mem_nil,or_false,forall_eq_or_imp,forall_eq]; exact ⟨rfl,hl_r_heldV⟩) ?_
  refine xw_seq ?_
  refine xw_region ?_
  refine xl_end [1,2] ⟨[(1,.p 0 0),(2,.p 1 0)],[⟨26,rcvL r (.slice Arh r.held.length Crh)⟩,⟨26,rcvZ⟩],[],[slF (.slice Arh r.held.length Crh) 2 (r.held.map pceCells)]⟩ (by kernel_rfl) ?_
  refine xw_seq ?_
  refine xw_region ?_
  refine xl_hvS 0 [1,2] [(1,.p 0 0),(2,.p 1 0)] (by kernel_rfl) rfl (by kernel_rfl) rfl (by kernel_rfl) (hv_build (e := 65) (K := 2) (bytes := 24) [] rfl (by kernel_rfl) (by kernel_rfl) (by kernel_rfl) (by kernel_rfl) (by kernel_rfl) (rs := ([] : List Pce).map pceCells) rfl) ?_
  intro g1
  refine xl_hvS 2 [1,2,3,5] [(1,.p 0 0),(2,.p 1 0),(3,.v (.slice (some ⟨g1,0,none⟩) 0 0)),(5,.v (.slice Arh r.held.length Crh))] (by kernel_rfl) rfl (by kernel_rfl) rfl (by kernel_rfl) (hv_append (e := 65) (K := 2) (bytes := 24) (i := 0) (q := r.held.length) (new := r.held.map pceCells) (rs' := r.held.map pceCells) rfl rfl rfl rfl (by kernel_rfl) (by kernel_rfl) (by kernel_rfl) rfl (by simp) rfl (by simp) (fun ww hf => (hf (slF (.slice Arh r.held.length Crh) 2 (r.held.map pceCells)) (by simp))) (by intro r hr; obtain ⟨x,hx,rfl⟩ := List.mem_map.1 hr; exact ⟨rfl,by simp [pceCells,Value.oneCell']⟩) (by (try simp only [List.length_map,List.length_append,List.length_cons,List.length_nil,List.length_take,List.length_drop,maxLen]); omega) (by (try simp only [List.length_map,List.length_append,List.length_cons,List.length_nil,List.length_take,List.length_drop,maxLen]); omega)) ?_
  rintro ⟨v2a,v2c⟩
  refine xl_end [1,2] ⟨[(1,.p 0 0),(2,.p 1 0)],[⟨26,rcvL r (.slice v2a r.held.length v2c)⟩,⟨26,rcvZ⟩],[],[rowF w.heap.size 65 2 (.slice v2a r.held.length v2c) (r.held.map pceCells),slF (.slice Arh r.held.length Crh) 2 (r.held.map pceCells)]⟩ (by kernel_rfl) ?_
  refine xw_seq ?_
  refine xw_region ?_
  refine xl_end [2] ⟨[(2,.p 1 0)],[⟨26,rcvL r (.slice v2a r.held.length v2c)⟩,⟨26,rcvL r (.slice v2a r.held.length v2c)⟩],[],[rowF w.heap.size 65 2 (.slice v2a r.held.length v2c) (r.held.map pceCells),slF (.slice Arh r.held.length Crh) 2 (r.held.map pceCells)]⟩ (by kernel_rfl) ?_
  refine xw_ret ?_
  exact ⟨[.agg (rcvL r (.slice v2a r.held.length v2c)).toArray],by kernel_rfl,fun w' hb hf ha => by exact xr_one ((v2a,v2c)) rfl rfl (rowF_lower (hf (rowF w.heap.size 65 2 (.slice v2a r.held.length v2c) (r.held.map pceCells)) (by simp)) hB) (fun b hb => rowF_lo (hf (rowF w.heap.size 65 2 (.slice v2a r.held.length v2c) (r.held.map pceCells)) (by simp)) hb) hb⟩
end Go.Proofs.Ytnmmhbhdcplfmaa
