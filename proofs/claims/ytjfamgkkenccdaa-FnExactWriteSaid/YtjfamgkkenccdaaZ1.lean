/- Contracts that this law needs, part 1. -/
import Derived.Test.YtjfamgkkenccdaaYW
import Derived.Test.YtjfamgkkenccdaaA5
import Derived.Test.YtjfamgkkenccdaaD0
import Derived.Test.YtjfamgkkenccdaaXN
import Derived.Test.YtjfamgkkenccdaaE
import Derived.Test.YtjfamgkkenccdaaSPiece
import Derived.Test.YtjfamgkkenccdaaC1
import Derived.Test.YtjfamgkkenccdaaME
import Derived.Test.YtjfamgkkenccdaaMF
import Derived.Test.YtjfamgkkenccdaaMG
import Derived.Test.YtjfamgkkenccdaaMP
import Derived.Test.YtjfamgkkenccdaaMC
namespace Go.Proofs.Ytjfamgkkenccdaa
open Go.RowKit
set_option linter.unusedVariables false
set_option linter.unusedSimpArgs false
set_option maxRecDepth 100000

theorem ysMssFor_c (c : Con) (c_r_heldV : Value) (w : World)  : Calls Try.prog 106 #[.agg (conL c c_r_heldV).toArray] w fun e w' => e = .returned (.int .i64 (mssFor c)) ∧ Below w.heap.size w w' := by
  refine x_calls (args := [.agg (conL c c_r_heldV).toArray]) (fn := Try.f106) [] Try.func106 rfl Try.ntmps106 rfl (by simp) ?_
  refine xw_seq ?_
  refine xw_region ?_
  refine xl_end [1] ⟨[(1,.p 0 0)],[⟨42,conL c c_r_heldV⟩],[],[]⟩ (by kernel_rfl) ?_
  refine xw_seq ?_
  refine xw_seq ?_
  refine xw_region ?_
  refine xl_endS [1,6] [(1,.p 0 0),(6,.v (.bool (c.o.mss == 0)))] (by kernel_rfl) ?_
  refine xw_cond (b := c.o.mss == 0) (by kernel_rfl) (fun h1 => ?_) (fun h1 => ?_)
  have h1p := eqT h1
  refine xw_seq ?_
  refine xw_region ?_
  refine xl_endS [2] [(2,.v (.int .i64 536))] (by kernel_rfl) ?_
  refine xw_ret ?_
  exact ⟨[.int .i64 536],by kernel_rfl,fun w' hb hf => ⟨ret_int (show (536 : Int) = mssFor c from by first | rfl | (simp [mssFor, *]; done) | (simp [mssFor, *]; omega) | grind [toList_lit0,mssFor]),hb⟩⟩
  have h1p := eqF h1
  refine xw_skip ?_
  refine xw_seq ?_
  refine xw_region ?_
  refine xl_callS 3 [9] [(9,.v (.int .i64 c.o.mss))] 119 [.int .i64 1460,.int .i64 c.o.mss] (some 10) (by kernel_rfl) rfl (by kernel_rfl) rfl (by kernel_rfl) (xc_s fun ww hf => l1Min_c 1460 c.o.mss ww ) ?_
  intro _
  refine xl_callS 0 [10] [(10,.v (.int .i64 (min 1460 c.o.mss)))] 115 [.int .i64 1,.int .i64 (min 1460 c.o.mss)] (some 11) (by kernel_rfl) rfl (by kernel_rfl) rfl (by kernel_rfl) (xc_s fun ww hf => l1Max_c 1 (min 1460 c.o.mss) ww ) ?_
  intro _
  refine xl_endS [2] [(2,.v (.int .i64 (max 1 (min 1460 c.o.mss))))] (by kernel_rfl) ?_
  refine xw_ret ?_
  exact ⟨[.int .i64 (max 1 (min 1460 c.o.mss))],by kernel_rfl,fun w' hb hf => ⟨ret_int (show (max 1 (min 1460 c.o.mss) : Int) = mssFor c from by first | rfl | (simp [mssFor, *]; done) | (simp [mssFor, *]; omega) | grind [toList_lit0,mssFor]),hb⟩⟩
theorem ysReceiverOk_c (r : Rcv) (r_heldV : Value) (w : World) (hl_r_heldV : Sl w r_heldV 2 (r.held.map pceCells)) (hm : ∀ p ∈ r.held, p.text.size ≤ 1048576) (hsz : r.data.size ≤ 4611686018427387904) : Calls Try.prog 130 #[.agg (rcvL r r_heldV).toArray] w fun e w' => e = .returned (.bool (receiverOk r)) ∧ Below w.heap.size w w' := by
  have hw := windowOf_bd r
  obtain ⟨Arh,Crh,hvrh⟩ := hl_r_heldV.form
  rw [List.length_map] at hvrh; subst hvrh
  have hnrh := hl_r_heldV.len; rw [List.length_map] at hnrh
  refine x_calls (args := [.agg (rcvL r (.slice Arh r.held.length Crh)).toArray]) (fn := Try.f130) [slF (.slice Arh r.held.length Crh) 2 (r.held.map pceCells)] Try.func130 rfl Try.ntmps130 rfl (by simp only [List.mem_cons,List.not_mem_nil,or_false,forall_eq_or_imp,forall_eq]; exact ⟨rfl,hl_r_heldV⟩) ?_
  refine xw_seq ?_
  refine xw_region ?_
  refine xl_end [1] ⟨[(1,.p 0 0)],[⟨39,rcvL r (.slice Arh r.held.length Crh)⟩],[],[slF (.slice Arh r.held.length Crh) 2 (r.held.map pceCells)]⟩ (by kernel_rfl) ?_
  refine xw_seq ?_
  refine xw_region ?_
  refine xl_callS 1 [1,7] [(1,.p 0 0),(7,.v (.agg (rcvL r (.slice Arh r.held.length Crh)).toArray))] 67 [.agg (rcvL r (.slice Arh r.held.length Crh)).toArray] (some 8) (by kernel_rfl) rfl (by kernel_rfl) rfl (by kernel_rfl) (xc_b fun ww hf => sWindowOf_c r.next r.data r.held (.slice Arh r.held.length Crh) r.fin r.done ww (by omega)) ?_
  intro _
  refine xl_endS [1,3] [(1,.p 0 0),(3,.v (.int .i64 (windowOf r)))] (by kernel_rfl) ?_
  refine xw_seq ?_
  refine xw_seq ?_
  refine xw_region ?_
  refine xl_callS 2 [1,3,10] [(1,.p 0 0),(3,.v (.int .i64 (windowOf r))),(10,.v (.int .i64 r.next))] 84 [.int .i64 r.next,.int .i64 32] (some 11) (by kernel_rfl) rfl (by kernel_rfl) rfl (by kernel_rfl) (xc_s fun ww hf => sWordOk32_c r.next ww) ?_
  intro _
  refine xl_runS 2 [1,3,13] [(1,.p 0 0),(3,.v (.int .i64 (windowOf r))),(13,.v (.bool (!(wordOk r.next 32))))] (by kernel_rfl) ?_
  refine xl_split 13 (b := !(wordOk r.next 32)) (by kernel_rfl) (fun h1 => ?_) (fun h1 => ?_)
  have h1n := not_t h1
  refine xl_endS [1,3,36] [(1,.p 0 0),(3,.v (.int .i64 (windowOf r))),(36,.v (.bool true))] (by kernel_rfl) ?_
  refine xw_true (by kernel_rfl) ?_
  refine xw_seq ?_
  refine xw_region ?_
  refine xl_endS [2] [(2,.v (.bool false))] (by kernel_rfl) ?_
  refine xw_ret ?_
  exact ⟨[.bool false],by kernel_rfl,fun w' hb hf => ⟨ret_bool (show (false : Bool) = receiverOk r from by first | rfl | (rw [HR,HK]; simp [*]; done) | (rw [HR,HK]; simp [*]; omega) | (rw [HR,HK]; grind [rcvPost]) | (simp [receiverOk,rcvPre, *]; done) | (simp [receiverOk,rcvPre, *]; omega) | grind [receiverOk,rcvPre]),hb⟩⟩
  have h1n := not_f h1
  refine xl_runS 6 [1,3,19] [(1,.p 0 0),(3,.v (.int .i64 (windowOf r))),(19,.v (.bool (decide ((r.data.size : Int) > 32))))] (by kernel_rfl) ?_
  refine xl_split 19 (b := decide ((r.data.size : Int) > 32)) (by kernel_rfl) (fun h2 => ?_) (fun h2 => ?_)
  have h2p : ((r.data.size : Int) > 32) := of_decide_eq_true h2
  refine xl_endS [1,3,36] [(1,.p 0 0),(3,.v (.int .i64 (windowOf r))),(36,.v (.bool true))] (by kernel_rfl) ?_
  refine xw_true (by kernel_rfl) ?_
  refine xw_seq ?_
  refine xw_region ?_
  refine xl_endS [2] [(2,.v (.bool false))] (by kernel_rfl) ?_
  refine xw_ret ?_
  exact ⟨[.bool false],by kernel_rfl,fun w' hb hf => ⟨ret_bool (show (false : Bool) = receiverOk r from by first | rfl | (rw [HR,HK]; simp [*]; done) | (rw [HR,HK]; simp [*]; omega) | (rw [HR,HK]; grind [rcvPost]) | (simp [receiverOk,rcvPre, *]; done) | (simp [receiverOk,rcvPre, *]; omega) | grind [receiverOk,rcvPre]),hb⟩⟩
  have h2p : ¬ ((r.data.size : Int) > 32) := of_decide_eq_false h2
  refine xl_runS 6 [1,3,25] [(1,.p 0 0),(3,.v (.int .i64 (windowOf r))),(25,.v (.bool (decide (((r.held.length : Nat) : Int) > 3))))] (by kernel_rfl) ?_
  refine xl_split 25 (b := decide (((r.held.length : Nat) : Int) > 3)) (by kernel_rfl) (fun h3 => ?_) (fun h3 => ?_)
  have h3p : (((r.held.length : Nat) : Int) > 3) := of_decide_eq_true h3
  refine xl_endS [1,3,36] [(1,.p 0 0),(3,.v (.int .i64 (windowOf r))),(36,.v (.bool true))] (by kernel_rfl) ?_
  refine xw_true (by kernel_rfl) ?_
  refine xw_seq ?_
  refine xw_region ?_
  refine xl_endS [2] [(2,.v (.bool false))] (by kernel_rfl) ?_
  refine xw_ret ?_
  exact ⟨[.bool false],by kernel_rfl,fun w' hb hf => ⟨ret_bool (show (false : Bool) = receiverOk r from by first | rfl | (rw [HR,HK]; simp [*]; done) | (rw [HR,HK]; simp [*]; omega) | (rw [HR,HK]; grind [rcvPost]) | (simp [receiverOk,rcvPre, *]; done) | (simp [receiverOk,rcvPre, *]; omega) | grind [receiverOk,rcvPre]),hb⟩⟩
  have h3p : ¬ (((r.held.length : Nat) : Int) > 3) := of_decide_eq_false h3
  refine xl_callS 3 [1,3,25,27,28] [(1,.p 0 0),(3,.v (.int .i64 (windowOf r))),(25,.v (.bool false)),(27,.v (.int .i64 r.fin)),(28,.v (.int .i64 (windowOf r)))] 86 [.int .i64 r.fin,.int .i64 (-1),.int .i64 (windowOf r)] (some 29) (by kernel_rfl) rfl (by kernel_rfl) rfl (by kernel_rfl) (xc_s fun ww hf => l1In_c r.fin (-1) (windowOf r) ww ) ?_
  intro _
  refine xl_runS 3 [1,3,32] [(1,.p 0 0),(3,.v (.int .i64 (windowOf r))),(32,.v (.bool (!(inB r.fin (-1) (windowOf r)))))] (by kernel_rfl) ?_
  refine xl_split 32 (b := !(inB r.fin (-1) (windowOf r))) (by kernel_rfl) (fun h4 => ?_) (fun h4 => ?_)
  have h4n := not_t h4
  refine xl_endS [1,3,36] [(1,.p 0 0),(3,.v (.int .i64 (windowOf r))),(36,.v (.bool true))] (by kernel_rfl) ?_
  refine xw_true (by kernel_rfl) ?_
  refine xw_seq ?_
  refine xw_region ?_
  refine xl_endS [2] [(2,.v (.bool false))] (by kernel_rfl) ?_
  refine xw_ret ?_
  exact ⟨[.bool false],by kernel_rfl,fun w' hb hf => ⟨ret_bool (show (false : Bool) = receiverOk r from by first | rfl | (rw [HR,HK]; simp [*]; done) | (rw [HR,HK]; simp [*]; omega) | (rw [HR,HK]; grind [rcvPost]) | (simp [receiverOk,rcvPre, *]; done) | (simp [receiverOk,rcvPre, *]; omega) | grind [receiverOk,rcvPre]),hb⟩⟩
  have h4n := not_f h4
  refine xl_endS [1,3,36] [(1,.p 0 0),(3,.v (.int .i64 (windowOf r))),(36,.v (.bool (r.fin == 0)))] (by kernel_rfl) ?_
  refine xw_cond (b := r.fin == 0) (by kernel_rfl) (fun h5 => ?_) (fun h5 => ?_)
  have h5p := eqT h5
  refine xw_seq ?_
  refine xw_region ?_
  refine xl_endS [2] [(2,.v (.bool false))] (by kernel_rfl) ?_
  refine xw_ret ?_
  exact ⟨[.bool false],by kernel_rfl,fun w' hb hf => ⟨ret_bool (show (false : Bool) = receiverOk r from by first | rfl | (rw [HR,HK]; simp [*]; done) | (rw [HR,HK]; simp [*]; omega) | (rw [HR,HK]; grind [rcvPost]) | (simp [receiverOk,rcvPre, *]; done) | (simp [receiverOk,rcvPre, *]; omega) | grind [receiverOk,rcvPre]),hb⟩⟩
  have h5p := eqF h5
  refine xw_skip ?_
  refine xw_seq ?_
  refine xw_region ?_
  refine xl_endS [1,3,4] [(1,.p 0 0),(3,.v (.int .i64 (windowOf r))),(4,.v (.int .i64 0))] (by kernel_rfl) ?_
  refine xw_seq ?_
  refine xw_seq ?_
  refine xw_region ?_
  refine xl_endS [1,3,4,5] [(1,.p 0 0),(3,.v (.int .i64 (windowOf r))),(4,.v (.int .i64 0)),(5,.v (.int .i64 0))] (by kernel_rfl) ?_
  refine xw_block ?_
  have hp : rcvPre r = true := by first | (simp [rcvPre, *]; done) | (simp [rcvPre, *]; omega) | grind [rcvPre]
  have hin := inB_tt.1 (rcvPre_iff.1 hp).2.2.2.1
  have HR := receiverOkS r hp
  refine xw_loopW (α := {x : Nat × Int // (fun (k : Nat) (z : Int) => k ≤ r.held.length ∧ 0 ≤ z ∧ z ≤ 32 ∧ heldOkS (windowOf r) r.fin 0 r.held = heldOkS (windowOf r) r.fin z (r.held.drop k)) x.1 x.2}) (fun x => (fun (k : Nat) (z : Int) => (⟨[(1,.p 0 0),(3,.v (.int .i64 (windowOf r))),(4,.v (.int .i64 z)),(5,.v (.int .i64 (k : Int)))],[⟨39,rcvL r (.slice Arh r.held.length Crh)⟩],[],[slF (.slice Arh r.held.length Crh) 2 (r.held.map pceCells)]⟩ : St)) x.1.1 x.1.2) (fun x => r.held.length - x.1.1) ⟨(0,0),⟨Nat.zero_le _,by omega,by omega,rfl⟩⟩ (wk_forget 1 0 [1,3,4,5] (by kernel_rfl) (by kernel_rfl) (by kernel_rfl)) ?_
  rintro ⟨⟨k,z⟩,hk,hz0,hz1,HK⟩
  refine xw_wk (Wk.of_eq (s' := ⟨[(1,.p 0 0),(3,.v (.int .i64 (windowOf r))),(4,.v (.int .i64 z)),(5,.v (.int .i64 (k : Int)))],[⟨39,rcvL r (.slice Arh r.held.length Crh)⟩],[],[slF (.slice Arh r.held.length Crh) 2 (r.held.map pceCells)]⟩) rfl) ?_
  try dsimp only at hk hz0 hz1 HK
  refine xw_seq ?_
  refine xw_seq ?_
  refine xw_region ?_
  refine xl_endS [1,3,4,5,41] [(1,.p 0 0),(3,.v (.int .i64 (windowOf r))),(4,.v (.int .i64 z)),(5,.v (.int .i64 (k : Int))),(41,.v (.bool (decide ((k : Int) < ((r.held.length : Nat) : Int)))))] (by kernel_rfl) ?_
  refine xw_cond (b := decide ((k : Int) < ((r.held.length : Nat) : Int))) (by kernel_rfl) (fun h6 => ?_) (fun h6 => ?_)
  have h6p : ((k : Int) < ((r.held.length : Nat) : Int)) := of_decide_eq_true h6
  have hlt : k < r.held.length := by simpa using h6
  obtain ⟨x,hx⟩ : ∃ x,r.held[k]? = some x := ⟨_,List.getElem?_eq_getElem hlt⟩
  have hxm := hm x (List.mem_of_getElem? hx)
  rw [drop_cons_of hx] at HK; simp only [heldOkS,heldOk] at HK
  refine xw_skip ?_
  refine xw_seq ?_
  refine xw_block ?_
  refine xw_seq ?_
  refine xw_region ?_
  refine xl_indexS (kd := .i64) (T := 37) (e := 149) (K := 2) 3 [1,3,4,5,45,46] [(1,.p 0 0),(3,.v (.int .i64 (windowOf r))),(4,.v (.int .i64 z)),(5,.v (.int .i64 (k : Int))),(45,.v (.slice Arh r.held.length Crh)),(46,.v (.int .i64 (k : Int)))] k [.int .i64 x.off,.string x.text] (slF (.slice Arh r.held.length Crh) 2 (r.held.map pceCells)) (by kernel_rfl) rfl (by kernel_rfl) rfl rfl (by kernel_rfl) (by kernel_rfl) (by kernel_rfl) (by kernel_rfl) hlt (by simp) (fun w h => h) (fun b h => h) (by simp only [List.getElem?_map,hx]; rfl) ?_
  refine xl_end [1,3,4,5,6] ⟨[(1,.p 0 0),(3,.v (.int .i64 (windowOf r))),(4,.v (.int .i64 z)),(5,.v (.int .i64 (k : Int))),(6,.p 1 0)],[⟨39,rcvL r (.slice Arh r.held.length Crh)⟩,⟨149,pceL x⟩],[[.int .i64 x.off,.string x.text]],[slF (.slice Arh r.held.length Crh) 2 (r.held.map pceCells)]⟩ (by kernel_rfl) ?_
  refine xw_seq ?_
  refine xw_seq ?_
  refine xw_region ?_
  refine xl_runS 4 [1,3,4,5,6,52] [(1,.p 0 0),(3,.v (.int .i64 (windowOf r))),(4,.v (.int .i64 z)),(5,.v (.int .i64 (k : Int))),(6,.p 1 0),(52,.v (.bool (x.text.toList == (⟨#[]⟩ : ByteArray).toList)))] (by kernel_rfl) ?_
  refine xl_split 52 (b := x.text.toList == (⟨#[]⟩ : ByteArray).toList) (by kernel_rfl) (fun h7 => ?_) (fun h7 => ?_)
  have h7p := h7; simp only [beq_iff_eq,bne_iff_ne,beq_eq_false_iff_ne,bne_eq_false_iff_eq,ne_eq,toList_lit0] at h7p
  refine xl_endS [1,3,5,6,73] [(1,.p 0 0),(3,.v (.int .i64 (windowOf r))),(5,.v (.int .i64 (k : Int))),(6,.p 1 0),(73,.v (.bool true))] (by kernel_rfl) ?_
  refine xw_true (by kernel_rfl) ?_
  refine xw_seq ?_
  refine xw_region ?_
  refine xl_endS [2] [(2,.v (.bool false))] (by kernel_rfl) ?_
  refine xw_ret ?_
  exact ⟨[.bool false],by kernel_rfl,fun w' hb hf => ⟨ret_bool (show (false : Bool) = receiverOk r from by first | rfl | (rw [HR,HK]; simp [*]; done) | (rw [HR,HK]; simp [*]; omega) | (rw [HR,HK]; grind [rcvPost]) | (simp [receiverOk,rcvPre, *]; done) | (simp [receiverOk,rcvPre, *]; omega) | grind [receiverOk,rcvPre]),hb⟩⟩
  have h7p := h7; simp only [beq_iff_eq,bne_iff_ne,beq_eq_false_iff_ne,bne_eq_false_iff_eq,ne_eq,toList_lit0] at h7p
  refine xl_runS 6 [1,3,5,6,53,54,55,56,58] [(1,.p 0 0),(3,.v (.int .i64 (windowOf r))),(5,.v (.int .i64 (k : Int))),(6,.p 1 0),(53,.p 1 0),(54,.v (.int .i64 x.off)),(55,.v (.int .i64 z)),(56,.v (.bool (decide (x.off ≤ z)))),(58,.v (.bool (decide (x.off ≤ z))))] (by kernel_rfl) ?_
  refine xl_split 58 (b := decide (x.off ≤ z)) (by kernel_rfl) (fun h8 => ?_) (fun h8 => ?_)
  have h8p : (x.off ≤ z) := of_decide_eq_true h8
  refine xl_endS [1,3,5,6,53,54,55,56,73] [(1,.p 0 0),(3,.v (.int .i64 (windowOf r))),(5,.v (.int .i64 (k : Int))),(6,.p 1 0),(53,.p 1 0),(54,.v (.int .i64 x.off)),(55,.v (.int .i64 z)),(56,.v (.bool (decide (x.off ≤ z)))),(73,.v (.bool true))] (by kernel_rfl) ?_
  refine xw_true (by kernel_rfl) ?_
  refine xw_seq ?_
  refine xw_region ?_
  refine xl_endS [2] [(2,.v (.bool false))] (by kernel_rfl) ?_
  refine xw_ret ?_
  exact ⟨[.bool false],by kernel_rfl,fun w' hb hf => ⟨ret_bool (show (false : Bool) = receiverOk r from by first | rfl | (rw [HR,HK]; simp [*]; done) | (rw [HR,HK]; simp [*]; omega) | (rw [HR,HK]; grind [rcvPost]) | (simp [receiverOk,rcvPre, *]; done) | (simp [receiverOk,rcvPre, *]; omega) | grind [receiverOk,rcvPre]),hb⟩⟩
  have h8p : ¬ (x.off ≤ z) := of_decide_eq_false h8
  refine xl_runS 6 [1,3,5,6,53,54,55,56,59,60,61,62,64] [(1,.p 0 0),(3,.v (.int .i64 (windowOf r))),(5,.v (.int .i64 (k : Int))),(6,.p 1 0),(53,.p 1 0),(54,.v (.int .i64 x.off)),(55,.v (.int .i64 z)),(56,.v (.bool (decide (x.off ≤ z)))),(59,.p 1 0),(60,.v (.int .i64 x.off)),(61,.v (.int .i64 (windowOf r))),(62,.v (.bool (decide (x.off > (windowOf r))))),(64,.v (.bool (decide (x.off > (windowOf r)))))] (by kernel_rfl) ?_
  refine xl_split 64 (b := decide (x.off > (windowOf r))) (by kernel_rfl) (fun h9 => ?_) (fun h9 => ?_)
  have h9p : (x.off > (windowOf r)) := of_decide_eq_true h9
  refine xl_endS [1,3,5,6,53,54,55,56,59,60,61,62,73] [(1,.p 0 0),(3,.v (.int .i64 (windowOf r))),(5,.v (.int .i64 (k : Int))),(6,.p 1 0),(53,.p 1 0),(54,.v (.int .i64 x.off)),(55,.v (.int .i64 z)),(56,.v (.bool (decide (x.off ≤ z)))),(59,.p 1 0),(60,.v (.int .i64 x.off)),(61,.v (.int .i64 (windowOf r))),(62,.v (.bool (decide (x.off > (windowOf r))))),(73,.v (.bool true))] (by kernel_rfl) ?_
  refine xw_true (by kernel_rfl) ?_
  refine xw_seq ?_
  refine xw_region ?_
  refine xl_endS [2] [(2,.v (.bool false))] (by kernel_rfl) ?_
  refine xw_ret ?_
  exact ⟨[.bool false],by kernel_rfl,fun w' hb hf => ⟨ret_bool (show (false : Bool) = receiverOk r from by first | rfl | (rw [HR,HK]; simp [*]; done) | (rw [HR,HK]; simp [*]; omega) | (rw [HR,HK]; grind [rcvPost]) | (simp [receiverOk,rcvPre, *]; done) | (simp [receiverOk,rcvPre, *]; omega) | grind [receiverOk,rcvPre]),hb⟩⟩
  have h9p : ¬ (x.off > (windowOf r)) := of_decide_eq_false h9
  refine xl_runS 9 [1,3,5,6,53,54,55,56,59,60,61,62,65,66,67,68,69,70,71,72,73] [(1,.p 0 0),(3,.v (.int .i64 (windowOf r))),(5,.v (.int .i64 (k : Int))),(6,.p 1 0),(53,.p 1 0),(54,.v (.int .i64 x.off)),(55,.v (.int .i64 z)),(56,.v (.bool (decide (x.off ≤ z)))),(59,.p 1 0),(60,.v (.int .i64 x.off)),(61,.v (.int .i64 (windowOf r))),(62,.v (.bool (decide (x.off > (windowOf r))))),(65,.p 1 0),(66,.v (.int .i64 x.off)),(67,.p 1 1),(68,.v (.string x.text)),(69,.v (.int .i64 (x.text.size : Int))),(70,.v (.int .i64 (IntKind.i64.wrap (x.off + (x.text.size : Int))))),(71,.v (.int .i64 (windowOf r))),(72,.v (.bool (decide ((IntKind.i64.wrap (x.off + (x.text.size : Int))) > (windowOf r))))),(73,.v (.bool (decide ((IntKind.i64.wrap (x.off + (x.text.size : Int))) > (windowOf r)))))] (by kernel_rfl) ?_
  refine xl_eqS (t' := [(1,.p 0 0),(3,.v (.int .i64 (windowOf r))),(5,.v (.int .i64 (k : Int))),(6,.p 1 0),(53,.p 1 0),(54,.v (.int .i64 x.off)),(55,.v (.int .i64 z)),(56,.v (.bool (decide (x.off ≤ z)))),(59,.p 1 0),(60,.v (.int .i64 x.off)),(61,.v (.int .i64 (windowOf r))),(62,.v (.bool (decide (x.off > (windowOf r))))),(65,.p 1 0),(66,.v (.int .i64 x.off)),(67,.p 1 1),(68,.v (.string x.text)),(69,.v (.int .i64 (x.text.size : Int))),(70,.v (.int .i64 (x.off + (x.text.size : Int)))),(71,.v (.int .i64 (windowOf r))),(72,.v (.bool (decide ((x.off + (x.text.size : Int)) > (windowOf r))))),(73,.v (.bool (decide ((x.off + (x.text.size : Int)) > (windowOf r)))))]) (by rw [show (IntKind.i64.wrap (x.off + (x.text.size : Int))) = (x.off + (x.text.size : Int)) from wrap_id (by omega) (by omega)]) ?_
  refine xl_endS [1,3,5,6,53,54,55,56,59,60,61,62,65,66,67,68,69,70,71,72,73] [(1,.p 0 0),(3,.v (.int .i64 (windowOf r))),(5,.v (.int .i64 (k : Int))),(6,.p 1 0),(53,.p 1 0),(54,.v (.int .i64 x.off)),(55,.v (.int .i64 z)),(56,.v (.bool (decide (x.off ≤ z)))),(59,.p 1 0),(60,.v (.int .i64 x.off)),(61,.v (.int .i64 (windowOf r))),(62,.v (.bool (decide (x.off > (windowOf r))))),(65,.p 1 0),(66,.v (.int .i64 x.off)),(67,.p 1 1),(68,.v (.string x.text)),(69,.v (.int .i64 (x.text.size : Int))),(70,.v (.int .i64 (x.off + (x.text.size : Int)))),(71,.v (.int .i64 (windowOf r))),(72,.v (.bool (decide ((x.off + (x.text.size : Int)) > (windowOf r))))),(73,.v (.bool (decide ((x.off + (x.text.size : Int)) > (windowOf r)))))] (by kernel_rfl) ?_
  refine xw_cond (b := decide ((x.off + (x.text.size : Int)) > (windowOf r))) (by kernel_rfl) (fun h10 => ?_) (fun h10 => ?_)
  have h10p : ((x.off + (x.text.size : Int)) > (windowOf r)) := of_decide_eq_true h10
  refine xw_seq ?_
  refine xw_region ?_
  refine xl_endS [2] [(2,.v (.bool false))] (by kernel_rfl) ?_
  refine xw_ret ?_
  exact ⟨[.bool false],by kernel_rfl,fun w' hb hf => ⟨ret_bool (show (false : Bool) = receiverOk r from by first | rfl | (rw [HR,HK]; simp [*]; done) | (rw [HR,HK]; simp [*]; omega) | (rw [HR,HK]; grind [rcvPost]) | (simp [receiverOk,rcvPre, *]; done) | (simp [receiverOk,rcvPre, *]; omega) | grind [receiverOk,rcvPre]),hb⟩⟩
  have h10p : ¬ ((x.off + (x.text.size : Int)) > (windowOf r)) := of_decide_eq_false h10
  refine xw_skip ?_
  refine xw_region ?_
  refine xl_runS 7 [1,3,4,5,53,54,55,56,59,60,61,62,65,66,67,68,69,70,71,72] [(1,.p 0 0),(3,.v (.int .i64 (windowOf r))),(4,.v (.int .i64 (IntKind.i64.wrap (x.off + (x.text.size : Int))))),(5,.v (.int .i64 (k : Int))),(53,.p 1 0),(54,.v (.int .i64 x.off)),(55,.v (.int .i64 z)),(56,.v (.bool (decide (x.off ≤ z)))),(59,.p 1 0),(60,.v (.int .i64 x.off)),(61,.v (.int .i64 (windowOf r))),(62,.v (.bool (decide (x.off > (windowOf r))))),(65,.p 1 0),(66,.v (.int .i64 x.off)),(67,.p 1 1),(68,.v (.string x.text)),(69,.v (.int .i64 (x.text.size : Int))),(70,.v (.int .i64 (x.off + (x.text.size : Int)))),(71,.v (.int .i64 (windowOf r))),(72,.v (.bool (decide ((x.off + (x.text.size : Int)) > (windowOf r)))))] (by kernel_rfl) ?_
  refine xl_eqS (t' := [(1,.p 0 0),(3,.v (.int .i64 (windowOf r))),(4,.v (.int .i64 (x.off + (x.text.size : Int)))),(5,.v (.int .i64 (k : Int))),(53,.p 1 0),(54,.v (.int .i64 x.off)),(55,.v (.int .i64 z)),(56,.v (.bool (decide (x.off ≤ z)))),(59,.p 1 0),(60,.v (.int .i64 x.off)),(61,.v (.int .i64 (windowOf r))),(62,.v (.bool (decide (x.off > (windowOf r))))),(65,.p 1 0),(66,.v (.int .i64 x.off)),(67,.p 1 1),(68,.v (.string x.text)),(69,.v (.int .i64 (x.text.size : Int))),(70,.v (.int .i64 (x.off + (x.text.size : Int)))),(71,.v (.int .i64 (windowOf r))),(72,.v (.bool (decide ((x.off + (x.text.size : Int)) > (windowOf r)))))]) (by rw [show (IntKind.i64.wrap (x.off + (x.text.size : Int))) = (x.off + (x.text.size : Int)) from wrap_id (by omega) (by omega)]) ?_
  refine xl_endS [1,3,4,5,53,54,55,56,59,60,61,62,65,66,67,68,69,70,71,72] [(1,.p 0 0),(3,.v (.int .i64 (windowOf r))),(4,.v (.int .i64 (x.off + (x.text.size : Int)))),(5,.v (.int .i64 (k : Int))),(53,.p 1 0),(54,.v (.int .i64 x.off)),(55,.v (.int .i64 z)),(56,.v (.bool (decide (x.off ≤ z)))),(59,.p 1 0),(60,.v (.int .i64 x.off)),(61,.v (.int .i64 (windowOf r))),(62,.v (.bool (decide (x.off > (windowOf r))))),(65,.p 1 0),(66,.v (.int .i64 x.off)),(67,.p 1 1),(68,.v (.string x.text)),(69,.v (.int .i64 (x.text.size : Int))),(70,.v (.int .i64 (x.off + (x.text.size : Int)))),(71,.v (.int .i64 (windowOf r))),(72,.v (.bool (decide ((x.off + (x.text.size : Int)) > (windowOf r)))))] (by kernel_rfl) ?_
  refine xw_region ?_
  refine xl_runS 3 [1,3,4,5,53,54,55,56,59,60,61,62,65,66,67,68,69,70,71,72] [(1,.p 0 0),(3,.v (.int .i64 (windowOf r))),(4,.v (.int .i64 (x.off + (x.text.size : Int)))),(5,.v (.int .i64 (IntKind.i64.wrap ((k : Int) + 1)))),(53,.p 1 0),(54,.v (.int .i64 x.off)),(55,.v (.int .i64 z)),(56,.v (.bool (decide (x.off ≤ z)))),(59,.p 1 0),(60,.v (.int .i64 x.off)),(61,.v (.int .i64 (windowOf r))),(62,.v (.bool (decide (x.off > (windowOf r))))),(65,.p 1 0),(66,.v (.int .i64 x.off)),(67,.p 1 1),(68,.v (.string x.text)),(69,.v (.int .i64 (x.text.size : Int))),(70,.v (.int .i64 (x.off + (x.text.size : Int)))),(71,.v (.int .i64 (windowOf r))),(72,.v (.bool (decide ((x.off + (x.text.size : Int)) > (windowOf r)))))] (by kernel_rfl) ?_
  refine xl_eqS (t' := [(1,.p 0 0),(3,.v (.int .i64 (windowOf r))),(4,.v (.int .i64 (x.off + (x.text.size : Int)))),(5,.v (.int .i64 ((k : Int) + 1))),(53,.p 1 0),(54,.v (.int .i64 x.off)),(55,.v (.int .i64 z)),(56,.v (.bool (decide (x.off ≤ z)))),(59,.p 1 0),(60,.v (.int .i64 x.off)),(61,.v (.int .i64 (windowOf r))),(62,.v (.bool (decide (x.off > (windowOf r))))),(65,.p 1 0),(66,.v (.int .i64 x.off)),(67,.p 1 1),(68,.v (.string x.text)),(69,.v (.int .i64 (x.text.size : Int))),(70,.v (.int .i64 (x.off + (x.text.size : Int)))),(71,.v (.int .i64 (windowOf r))),(72,.v (.bool (decide ((x.off + (x.text.size : Int)) > (windowOf r)))))]) (by rw [show (IntKind.i64.wrap ((k : Int) + 1)) = ((k : Int) + 1) from wrap_id (by omega) (by omega)]) ?_
  refine xl_endS [1,3,4,5,53,54,55,56,59,60,61,62,65,66,67,68,69,70,71,72] [(1,.p 0 0),(3,.v (.int .i64 (windowOf r))),(4,.v (.int .i64 (x.off + (x.text.size : Int)))),(5,.v (.int .i64 ((k : Int) + 1))),(53,.p 1 0),(54,.v (.int .i64 x.off)),(55,.v (.int .i64 z)),(56,.v (.bool (decide (x.off ≤ z)))),(59,.p 1 0),(60,.v (.int .i64 x.off)),(61,.v (.int .i64 (windowOf r))),(62,.v (.bool (decide (x.off > (windowOf r))))),(65,.p 1 0),(66,.v (.int .i64 x.off)),(67,.p 1 1),(68,.v (.string x.text)),(69,.v (.int .i64 (x.text.size : Int))),(70,.v (.int .i64 (x.off + (x.text.size : Int)))),(71,.v (.int .i64 (windowOf r))),(72,.v (.bool (decide ((x.off + (x.text.size : Int)) > (windowOf r)))))] (by kernel_rfl) ?_
  exact ⟨⟨(k + 1,x.off + (x.text.size : Int)),⟨by omega,by omega,by omega,by rw [HK]; first | (simp [*]; done) | (simp [*]; omega) | grind⟩⟩,wk_forget 1 0 [1,3,4,5] (by kernel_rfl) (by kernel_rfl) (by kernel_rfl),by show r.held.length - (k + 1) < r.held.length - k; omega⟩
  have h6p : ¬ ((k : Int) < ((r.held.length : Nat) : Int)) := of_decide_eq_false h6
  have hge : k = r.held.length := by simp at h6; omega
  subst hge; simp only [List.drop_length,heldOkS,heldOk] at HK
  refine xw_exit ?_
  refine xw_seq ?_
  refine xw_region ?_
  refine xl_runS 4 [1,4,83] [(1,.p 0 0),(4,.v (.int .i64 z)),(83,.v (.bool (decide (r.fin < 0))))] (by kernel_rfl) ?_
  refine xl_split 83 (b := decide (r.fin < 0)) (by kernel_rfl) (fun h11 => ?_) (fun h11 => ?_)
  have h11p : (r.fin < 0) := of_decide_eq_true h11
  refine xl_runS 10 [1,89,93] [(1,.p 0 0),(89,.v (.bool true)),(93,.v (.bool (!r.done)))] (by kernel_rfl) ?_
  refine xl_split 93 (b := !r.done) (by kernel_rfl) (fun h12 => ?_) (fun h12 => ?_)
  have h12n := not_t h12
  refine xl_endS [2] [(2,.v (.bool true))] (by kernel_rfl) ?_
  refine xw_ret ?_
  exact ⟨[.bool true],by kernel_rfl,fun w' hb hf => ⟨ret_bool (show (true : Bool) = receiverOk r from by first | rfl | (rw [HR,HK]; simp [*]; done) | (rw [HR,HK]; simp [*]; omega) | (rw [HR,HK]; grind [rcvPost]) | (simp [receiverOk,rcvPre, *]; done) | (simp [receiverOk,rcvPre, *]; omega) | grind [receiverOk,rcvPre]),hb⟩⟩
  have h12n := not_f h12
  refine xl_runS 5 [1,89,93,98] [(1,.p 0 0),(89,.v (.bool true)),(93,.v (.bool false)),(98,.v (.bool (((r.held.length : Nat) : Int) == 0)))] (by kernel_rfl) ?_
  refine xl_split 98 (b := ((r.held.length : Nat) : Int) == 0) (by kernel_rfl) (fun h13 => ?_) (fun h13 => ?_)
  have h13p := eqT h13
  refine xl_endS [2] [(2,.v (.bool (r.fin == (-1))))] (by kernel_rfl) ?_
  refine xw_ret ?_
  exact ⟨[.bool (r.fin == (-1))],by kernel_rfl,fun w' hb hf => ⟨ret_bool (show (r.fin == (-1) : Bool) = receiverOk r from by first | rfl | (rw [HR,HK]; simp [*]; done) | (rw [HR,HK]; simp [*]; omega) | (rw [HR,HK]; grind [rcvPost]) | (simp [receiverOk,rcvPre, *]; done) | (simp [receiverOk,rcvPre, *]; omega) | grind [receiverOk,rcvPre]),hb⟩⟩
  have h13p := eqF h13
  refine xl_endS [2] [(2,.v (.bool false))] (by kernel_rfl) ?_
  refine xw_ret ?_
  exact ⟨[.bool false],by kernel_rfl,fun w' hb hf => ⟨ret_bool (show (false : Bool) = receiverOk r from by first | rfl | (rw [HR,HK]; simp [*]; done) | (rw [HR,HK]; simp [*]; omega) | (rw [HR,HK]; grind [rcvPost]) | (simp [receiverOk,rcvPre, *]; done) | (simp [receiverOk,rcvPre, *]; omega) | grind [receiverOk,rcvPre]),hb⟩⟩
  have h11p : ¬ (r.fin < 0) := of_decide_eq_false h11
  refine xl_runS 6 [1,89] [(1,.p 0 0),(89,.v (.bool (decide (z ≤ r.fin))))] (by kernel_rfl) ?_
  refine xl_split 89 (b := decide (z ≤ r.fin)) (by kernel_rfl) (fun h14 => ?_) (fun h14 => ?_)
  have h14p : (z ≤ r.fin) := of_decide_eq_true h14
  refine xl_runS 4 [1,89,93] [(1,.p 0 0),(89,.v (.bool true)),(93,.v (.bool (!r.done)))] (by kernel_rfl) ?_
  refine xl_split 93 (b := !r.done) (by kernel_rfl) (fun h15 => ?_) (fun h15 => ?_)
  have h15n := not_t h15
  refine xl_endS [2] [(2,.v (.bool true))] (by kernel_rfl) ?_
  refine xw_ret ?_
  exact ⟨[.bool true],by kernel_rfl,fun w' hb hf => ⟨ret_bool (show (true : Bool) = receiverOk r from by first | rfl | (rw [HR,HK]; simp [*]; done) | (rw [HR,HK]; simp [*]; omega) | (rw [HR,HK]; grind [rcvPost]) | (simp [receiverOk,rcvPre, *]; done) | (simp [receiverOk,rcvPre, *]; omega) | grind [receiverOk,rcvPre]),hb⟩⟩
  have h15n := not_f h15
  refine xl_runS 5 [1,89,93,98] [(1,.p 0 0),(89,.v (.bool true)),(93,.v (.bool false)),(98,.v (.bool (((r.held.length : Nat) : Int) == 0)))] (by kernel_rfl) ?_
  refine xl_split 98 (b := ((r.held.length : Nat) : Int) == 0) (by kernel_rfl) (fun h16 => ?_) (fun h16 => ?_)
  have h16p := eqT h16
  refine xl_endS [2] [(2,.v (.bool (r.fin == (-1))))] (by kernel_rfl) ?_
  refine xw_ret ?_
  exact ⟨[.bool (r.fin == (-1))],by kernel_rfl,fun w' hb hf => ⟨ret_bool (show (r.fin == (-1) : Bool) = receiverOk r from by first | rfl | (rw [HR,HK]; simp [*]; done) | (rw [HR,HK]; simp [*]; omega) | (rw [HR,HK]; grind [rcvPost]) | (simp [receiverOk,rcvPre, *]; done) | (simp [receiverOk,rcvPre, *]; omega) | grind [receiverOk,rcvPre]),hb⟩⟩
  have h16p := eqF h16
  refine xl_endS [2] [(2,.v (.bool false))] (by kernel_rfl) ?_
  refine xw_ret ?_
  exact ⟨[.bool false],by kernel_rfl,fun w' hb hf => ⟨ret_bool (show (false : Bool) = receiverOk r from by first | rfl | (rw [HR,HK]; simp [*]; done) | (rw [HR,HK]; simp [*]; omega) | (rw [HR,HK]; grind [rcvPost]) | (simp [receiverOk,rcvPre, *]; done) | (simp [receiverOk,rcvPre, *]; omega) | grind [receiverOk,rcvPre]),hb⟩⟩
  have h14p : ¬ (z ≤ r.fin) := of_decide_eq_false h14
  refine xl_endS [2] [(2,.v (.bool false))] (by kernel_rfl) ?_
  refine xw_ret ?_
  exact ⟨[.bool false],by kernel_rfl,fun w' hb hf => ⟨ret_bool (show (false : Bool) = receiverOk r from by first | rfl | (rw [HR,HK]; simp [*]; done) | (rw [HR,HK]; simp [*]; omega) | (rw [HR,HK]; grind [rcvPost]) | (simp [receiverOk,rcvPre, *]; done) | (simp [receiverOk,rcvPre, *]; omega) | grind [receiverOk,rcvPre]),hb⟩⟩
theorem yiMssFor_c (c : Con) (c_r_heldV : Value) (w : World)  : Calls Try.prog 109 #[.agg (conL c c_r_heldV).toArray] w fun e w' => e = .returned (.int .i64 (mssFor c)) ∧ Below w.heap.size w w' := by
  refine x_calls (args := [.agg (conL c c_r_heldV).toArray]) (fn := Try.f109) [] Try.func109 rfl Try.ntmps109 rfl (by simp) ?_
  refine xw_seq ?_
  refine xw_region ?_
  refine xl_end [1] ⟨[(1,.p 0 0)],[⟨42,conL c c_r_heldV⟩],[],[]⟩ (by kernel_rfl) ?_
  refine xw_seq ?_
  refine xw_seq ?_
  refine xw_region ?_
  refine xl_endS [1,6] [(1,.p 0 0),(6,.v (.bool (c.o.mss == 0)))] (by kernel_rfl) ?_
  refine xw_cond (b := c.o.mss == 0) (by kernel_rfl) (fun h1 => ?_) (fun h1 => ?_)
  have h1p := eqT h1
  refine xw_seq ?_
  refine xw_region ?_
  refine xl_endS [2] [(2,.v (.int .i64 536))] (by kernel_rfl) ?_
  refine xw_ret ?_
  exact ⟨[.int .i64 536],by kernel_rfl,fun w' hb hf => ⟨ret_int (show (536 : Int) = mssFor c from by first | rfl | (simp [mssFor, *]; done) | (simp [mssFor, *]; omega) | grind [toList_lit0,mssFor]),hb⟩⟩
  have h1p := eqF h1
  refine xw_skip ?_
  refine xw_seq ?_
  refine xw_region ?_
  refine xl_endS [2] [(2,.v (.int .i64 (if 1 < (if 1460 < c.o.mss then 1460 else c.o.mss) then if 1460 < c.o.mss then 1460 else c.o.mss else 1)))] (by kernel_rfl) ?_
  refine xw_ret ?_
  exact ⟨[.int .i64 (if 1 < (if 1460 < c.o.mss then 1460 else c.o.mss) then if 1460 < c.o.mss then 1460 else c.o.mss else 1)],by kernel_rfl,fun w' hb hf => ⟨ret_int (show (if 1 < (if 1460 < c.o.mss then 1460 else c.o.mss) then if 1460 < c.o.mss then 1460 else c.o.mss else 1 : Int) = mssFor c from by first | rfl | (simp [mssFor, *]; done) | (simp [mssFor, *]; omega) | grind [toList_lit0,mssFor]),hb⟩⟩
theorem yiReceiverOk_c (r : Rcv) (r_heldV : Value) (w : World) (hl_r_heldV : Sl w r_heldV 2 (r.held.map pceCells)) (hm : ∀ p ∈ r.held, p.text.size ≤ 1048576) (hsz : r.data.size ≤ 4611686018427387904) : Calls Try.prog 136 #[.agg (rcvL r r_heldV).toArray] w fun e w' => e = .returned (.bool (receiverOk r)) ∧ Below w.heap.size w w' := by
  have hw := windowOf_bd r
  obtain ⟨Arh,Crh,hvrh⟩ := hl_r_heldV.form
  rw [List.length_map] at hvrh; subst hvrh
  have hnrh := hl_r_heldV.len; rw [List.length_map] at hnrh
  refine x_calls (args := [.agg (rcvL r (.slice Arh r.held.length Crh)).toArray]) (fn := Try.f136) [slF (.slice Arh r.held.length Crh) 2 (r.held.map pceCells)] Try.func136 rfl Try.ntmps136 rfl (by simp only [List.mem_cons,List.not_mem_nil,or_false,forall_eq_or_imp,forall_eq]; exact ⟨rfl,hl_r_heldV⟩) ?_
  refine xw_seq ?_
  refine xw_region ?_
  refine xl_end [1] ⟨[(1,.p 0 0)],[⟨39,rcvL r (.slice Arh r.held.length Crh)⟩],[],[slF (.slice Arh r.held.length Crh) 2 (r.held.map pceCells)]⟩ (by kernel_rfl) ?_
  refine xw_seq ?_
  refine xw_region ?_
  refine xl_callS 1 [1,8] [(1,.p 0 0),(8,.v (.agg (rcvL r (.slice Arh r.held.length Crh)).toArray))] 74 [.agg (rcvL r (.slice Arh r.held.length Crh)).toArray] (some 9) (by kernel_rfl) rfl (by kernel_rfl) rfl (by kernel_rfl) (xc_b fun ww hf => iWindowOf_c r.next r.data r.held (.slice Arh r.held.length Crh) r.fin r.done ww (by omega)) ?_
  intro _
  refine xl_endS [1,3] [(1,.p 0 0),(3,.v (.int .i64 (windowOf r)))] (by kernel_rfl) ?_
  refine xw_seq ?_
  refine xw_seq ?_
  refine xw_region ?_
  refine xl_callS 2 [1,3,11] [(1,.p 0 0),(3,.v (.int .i64 (windowOf r))),(11,.v (.int .i64 r.next))] 90 [.int .i64 r.next,.int .i64 32] (some 12) (by kernel_rfl) rfl (by kernel_rfl) rfl (by kernel_rfl) (xc_s fun ww hf => iWordOk32_c r.next ww) ?_
  intro _
  refine xl_runS 2 [1,3,14] [(1,.p 0 0),(3,.v (.int .i64 (windowOf r))),(14,.v (.bool (!(wordOk r.next 32))))] (by kernel_rfl) ?_
  refine xl_split 14 (b := !(wordOk r.next 32)) (by kernel_rfl) (fun h1 => ?_) (fun h1 => ?_)
  have h1n := not_t h1
  refine xl_endS [1,3,37] [(1,.p 0 0),(3,.v (.int .i64 (windowOf r))),(37,.v (.bool true))] (by kernel_rfl) ?_
  refine xw_true (by kernel_rfl) ?_
  refine xw_seq ?_
  refine xw_region ?_
  refine xl_endS [2] [(2,.v (.bool false))] (by kernel_rfl) ?_
  refine xw_ret ?_
  exact ⟨[.bool false],by kernel_rfl,fun w' hb hf => ⟨ret_bool (show (false : Bool) = receiverOk r from by first | rfl | (rw [HR,HK]; simp [*]; done) | (rw [HR,HK]; simp [*]; omega) | (rw [HR,HK]; grind [rcvPost]) | (simp [receiverOk,rcvPre, *]; done) | (simp [receiverOk,rcvPre, *]; omega) | grind [receiverOk,rcvPre]),hb⟩⟩
  have h1n := not_f h1
  refine xl_runS 6 [1,3,20] [(1,.p 0 0),(3,.v (.int .i64 (windowOf r))),(20,.v (.bool (decide ((r.data.size : Int) > 32))))] (by kernel_rfl) ?_
  refine xl_split 20 (b := decide ((r.data.size : Int) > 32)) (by kernel_rfl) (fun h2 => ?_) (fun h2 => ?_)
  have h2p : ((r.data.size : Int) > 32) := of_decide_eq_true h2
  refine xl_endS [1,3,37] [(1,.p 0 0),(3,.v (.int .i64 (windowOf r))),(37,.v (.bool true))] (by kernel_rfl) ?_
  refine xw_true (by kernel_rfl) ?_
  refine xw_seq ?_
  refine xw_region ?_
  refine xl_endS [2] [(2,.v (.bool false))] (by kernel_rfl) ?_
  refine xw_ret ?_
  exact ⟨[.bool false],by kernel_rfl,fun w' hb hf => ⟨ret_bool (show (false : Bool) = receiverOk r from by first | rfl | (rw [HR,HK]; simp [*]; done) | (rw [HR,HK]; simp [*]; omega) | (rw [HR,HK]; grind [rcvPost]) | (simp [receiverOk,rcvPre, *]; done) | (simp [receiverOk,rcvPre, *]; omega) | grind [receiverOk,rcvPre]),hb⟩⟩
  have h2p : ¬ ((r.data.size : Int) > 32) := of_decide_eq_false h2
  refine xl_runS 6 [1,3,26] [(1,.p 0 0),(3,.v (.int .i64 (windowOf r))),(26,.v (.bool (decide (((r.held.length : Nat) : Int) > 3))))] (by kernel_rfl) ?_
  refine xl_split 26 (b := decide (((r.held.length : Nat) : Int) > 3)) (by kernel_rfl) (fun h3 => ?_) (fun h3 => ?_)
  have h3p : (((r.held.length : Nat) : Int) > 3) := of_decide_eq_true h3
  refine xl_endS [1,3,37] [(1,.p 0 0),(3,.v (.int .i64 (windowOf r))),(37,.v (.bool true))] (by kernel_rfl) ?_
  refine xw_true (by kernel_rfl) ?_
  refine xw_seq ?_
  refine xw_region ?_
  refine xl_endS [2] [(2,.v (.bool false))] (by kernel_rfl) ?_
  refine xw_ret ?_
  exact ⟨[.bool false],by kernel_rfl,fun w' hb hf => ⟨ret_bool (show (false : Bool) = receiverOk r from by first | rfl | (rw [HR,HK]; simp [*]; done) | (rw [HR,HK]; simp [*]; omega) | (rw [HR,HK]; grind [rcvPost]) | (simp [receiverOk,rcvPre, *]; done) | (simp [receiverOk,rcvPre, *]; omega) | grind [receiverOk,rcvPre]),hb⟩⟩
  have h3p : ¬ (((r.held.length : Nat) : Int) > 3) := of_decide_eq_false h3
  refine xl_callS 3 [1,3,26,28,29] [(1,.p 0 0),(3,.v (.int .i64 (windowOf r))),(26,.v (.bool false)),(28,.v (.int .i64 r.fin)),(29,.v (.int .i64 (windowOf r)))] 92 [.int .i64 r.fin,.int .i64 (-1),.int .i64 (windowOf r)] (some 30) (by kernel_rfl) rfl (by kernel_rfl) rfl (by kernel_rfl) (xc_s fun ww hf => within_c r.fin (-1) (windowOf r) ww ) ?_
  intro _
  refine xl_runS 3 [1,3,33] [(1,.p 0 0),(3,.v (.int .i64 (windowOf r))),(33,.v (.bool (!(inB r.fin (-1) (windowOf r)))))] (by kernel_rfl) ?_
  refine xl_split 33 (b := !(inB r.fin (-1) (windowOf r))) (by kernel_rfl) (fun h4 => ?_) (fun h4 => ?_)
  have h4n := not_t h4
  refine xl_endS [1,3,37] [(1,.p 0 0),(3,.v (.int .i64 (windowOf r))),(37,.v (.bool true))] (by kernel_rfl) ?_
  refine xw_true (by kernel_rfl) ?_
  refine xw_seq ?_
  refine xw_region ?_
  refine xl_endS [2] [(2,.v (.bool false))] (by kernel_rfl) ?_
  refine xw_ret ?_
  exact ⟨[.bool false],by kernel_rfl,fun w' hb hf => ⟨ret_bool (show (false : Bool) = receiverOk r from by first | rfl | (rw [HR,HK]; simp [*]; done) | (rw [HR,HK]; simp [*]; omega) | (rw [HR,HK]; grind [rcvPost]) | (simp [receiverOk,rcvPre, *]; done) | (simp [receiverOk,rcvPre, *]; omega) | grind [receiverOk,rcvPre]),hb⟩⟩
  have h4n := not_f h4
  refine xl_endS [1,3,37] [(1,.p 0 0),(3,.v (.int .i64 (windowOf r))),(37,.v (.bool (r.fin == 0)))] (by kernel_rfl) ?_
  refine xw_cond (b := r.fin == 0) (by kernel_rfl) (fun h5 => ?_) (fun h5 => ?_)
  have h5p := eqT h5
  refine xw_seq ?_
  refine xw_region ?_
  refine xl_endS [2] [(2,.v (.bool false))] (by kernel_rfl) ?_
  refine xw_ret ?_
  exact ⟨[.bool false],by kernel_rfl,fun w' hb hf => ⟨ret_bool (show (false : Bool) = receiverOk r from by first | rfl | (rw [HR,HK]; simp [*]; done) | (rw [HR,HK]; simp [*]; omega) | (rw [HR,HK]; grind [rcvPost]) | (simp [receiverOk,rcvPre, *]; done) | (simp [receiverOk,rcvPre, *]; omega) | grind [receiverOk,rcvPre]),hb⟩⟩
  have h5p := eqF h5
  refine xw_skip ?_
  refine xw_seq ?_
  refine xw_region ?_
  refine xl_endS [1,4] [(1,.p 0 0),(4,.v (.int .i64 (windowOf r)))] (by kernel_rfl) ?_
  refine xw_seq ?_
  refine xw_seq ?_
  refine xw_region ?_
  refine xl_endS [1,4,41] [(1,.p 0 0),(4,.v (.int .i64 (windowOf r))),(41,.v (.bool (r.fin != (-1))))] (by kernel_rfl) ?_
  refine xw_cond (b := r.fin != (-1)) (by kernel_rfl) (fun h6 => ?_) (fun h6 => ?_)
  have h6p := neT h6
  refine xw_region ?_
  refine xl_endS [1,4] [(1,.p 0 0),(4,.v (.int .i64 r.fin))] (by kernel_rfl) ?_
  refine xw_seq ?_
  refine xw_region ?_
  refine xl_endS [1,4,5] [(1,.p 0 0),(4,.v (.int .i64 r.fin)),(5,.v (.int .i64 0))] (by kernel_rfl) ?_
  refine xw_seq ?_
  refine xw_seq ?_
  refine xw_region ?_
  refine xl_endS [1,4,5,45,46,47] [(1,.p 0 0),(4,.v (.int .i64 r.fin)),(5,.v (.int .i64 0)),(45,.v (.slice Arh r.held.length Crh)),(46,.v (.int .i64 ((r.held.length : Nat) : Int))),(47,.v (.int .i64 0))] (by kernel_rfl) ?_
  refine xw_block ?_
  have hp : rcvPre r = true := by first | (simp [rcvPre, *]; done) | (simp [rcvPre, *]; omega) | grind [rcvPre]
  have hin := inB_tt.1 (rcvPre_iff.1 hp).2.2.2.1
  have HR : receiverOk r = (heldOk (if r.fin = -1 then windowOf r else r.fin) 0 r.held && rcvPost r) := by unfold receiverOk; rw [hp]; rfl
  refine xw_loopW (α := {x : Nat × Int // (fun (k : Nat) (z : Int) => k ≤ r.held.length ∧ 0 ≤ z ∧ z ≤ 32 ∧ heldOk (if r.fin = -1 then windowOf r else r.fin) 0 r.held = heldOk (if r.fin = -1 then windowOf r else r.fin) z (r.held.drop k)) x.1 x.2}) (fun x => (fun (k : Nat) (z : Int) => (⟨[(1,.p 0 0),(4,.v (.int .i64 r.fin)),(5,.v (.int .i64 z)),(45,.v (.slice Arh r.held.length Crh)),(46,.v (.int .i64 ((r.held.length : Nat) : Int))),(47,.v (.int .i64 (k : Int)))],[⟨39,rcvL r (.slice Arh r.held.length Crh)⟩],[],[slF (.slice Arh r.held.length Crh) 2 (r.held.map pceCells)]⟩ : St)) x.1.1 x.1.2) (fun x => r.held.length - x.1.1) ⟨(0,0),⟨Nat.zero_le _,by omega,by omega,rfl⟩⟩ (wk_forget 1 0 [1,4,5,45,46,47] (by kernel_rfl) (by kernel_rfl) (by kernel_rfl)) ?_
  rintro ⟨⟨k,z⟩,hk,hz0,hz1,HK⟩
  refine xw_wk (Wk.of_eq (s' := ⟨[(1,.p 0 0),(4,.v (.int .i64 r.fin)),(5,.v (.int .i64 z)),(45,.v (.slice Arh r.held.length Crh)),(46,.v (.int .i64 ((r.held.length : Nat) : Int))),(47,.v (.int .i64 (k : Int)))],[⟨39,rcvL r (.slice Arh r.held.length Crh)⟩],[],[slF (.slice Arh r.held.length Crh) 2 (r.held.map pceCells)]⟩) rfl) ?_
  try dsimp only at hk hz0 hz1 HK
  refine xw_seq ?_
  refine xw_region ?_
  refine xl_endS [1,4,5,45,46,47,48] [(1,.p 0 0),(4,.v (.int .i64 r.fin)),(5,.v (.int .i64 z)),(45,.v (.slice Arh r.held.length Crh)),(46,.v (.int .i64 ((r.held.length : Nat) : Int))),(47,.v (.int .i64 (k : Int))),(48,.v (.bool (decide ((k : Int) < ((r.held.length : Nat) : Int)))))] (by kernel_rfl) ?_
  refine xw_seq ?_
  refine xw_cond (b := decide ((k : Int) < ((r.held.length : Nat) : Int))) (by kernel_rfl) (fun h7 => ?_) (fun h7 => ?_)
  have h7p : ((k : Int) < ((r.held.length : Nat) : Int)) := of_decide_eq_true h7
  have hlt : k < r.held.length := by simpa using h7
  obtain ⟨x,hx⟩ : ∃ x,r.held[k]? = some x := ⟨_,List.getElem?_eq_getElem hlt⟩
  have hxm := hm x (List.mem_of_getElem? hx)
  rw [drop_cons_of hx] at HK; simp only [heldOkS,heldOk] at HK
  refine xw_skip ?_
  refine xw_seq ?_
  refine xw_block ?_
  refine xw_seq ?_
  refine xw_region ?_
  refine xl_indexS (kd := .i64) (T := 37) (e := 149) (K := 2) 0 [1,4,5,45,46,47] [(1,.p 0 0),(4,.v (.int .i64 r.fin)),(5,.v (.int .i64 z)),(45,.v (.slice Arh r.held.length Crh)),(46,.v (.int .i64 ((r.held.length : Nat) : Int))),(47,.v (.int .i64 (k : Int)))] k [.int .i64 x.off,.string x.text] (slF (.slice Arh r.held.length Crh) 2 (r.held.map pceCells)) (by kernel_rfl) rfl (by kernel_rfl) rfl rfl (by kernel_rfl) (by kernel_rfl) (by kernel_rfl) (by kernel_rfl) hlt (by simp) (fun w h => h) (fun b h => h) (by simp only [List.getElem?_map,hx]; rfl) ?_
  refine xl_end [1,4,5,7,45,46,47] ⟨[(1,.p 0 0),(4,.v (.int .i64 r.fin)),(5,.v (.int .i64 z)),(7,.p 1 0),(45,.v (.slice Arh r.held.length Crh)),(46,.v (.int .i64 ((r.held.length : Nat) : Int))),(47,.v (.int .i64 (k : Int)))],[⟨39,rcvL r (.slice Arh r.held.length Crh)⟩,⟨149,pceL x⟩],[[.int .i64 x.off,.string x.text]],[slF (.slice Arh r.held.length Crh) 2 (r.held.map pceCells)]⟩ (by kernel_rfl) ?_
  refine xw_seq ?_
  refine xw_seq ?_
  refine xw_region ?_
  refine xl_runS 4 [1,4,5,7,45,46,47,54] [(1,.p 0 0),(4,.v (.int .i64 r.fin)),(5,.v (.int .i64 z)),(7,.p 1 0),(45,.v (.slice Arh r.held.length Crh)),(46,.v (.int .i64 ((r.held.length : Nat) : Int))),(47,.v (.int .i64 (k : Int))),(54,.v (.bool (x.text.toList == (⟨#[]⟩ : ByteArray).toList)))] (by kernel_rfl) ?_
  refine xl_split 54 (b := x.text.toList == (⟨#[]⟩ : ByteArray).toList) (by kernel_rfl) (fun h8 => ?_) (fun h8 => ?_)
  have h8p := h8; simp only [beq_iff_eq,bne_iff_ne,beq_eq_false_iff_ne,bne_eq_false_iff_eq,ne_eq,toList_lit0] at h8p
  refine xl_endS [1,4,7,45,46,47,69] [(1,.p 0 0),(4,.v (.int .i64 r.fin)),(7,.p 1 0),(45,.v (.slice Arh r.held.length Crh)),(46,.v (.int .i64 ((r.held.length : Nat) : Int))),(47,.v (.int .i64 (k : Int))),(69,.v (.bool true))] (by kernel_rfl) ?_
  refine xw_true (by kernel_rfl) ?_
  refine xw_seq ?_
  refine xw_region ?_
  refine xl_endS [2] [(2,.v (.bool false))] (by kernel_rfl) ?_
  refine xw_ret ?_
  exact ⟨[.bool false],by kernel_rfl,fun w' hb hf => ⟨ret_bool (show (false : Bool) = receiverOk r from by first | rfl | (rw [HR,HK]; simp [*]; done) | (rw [HR,HK]; simp [*]; omega) | (rw [HR,HK]; grind [rcvPost]) | (simp [receiverOk,rcvPre, *]; done) | (simp [receiverOk,rcvPre, *]; omega) | grind [receiverOk,rcvPre]),hb⟩⟩
  have h8p := h8; simp only [beq_iff_eq,bne_iff_ne,beq_eq_false_iff_ne,bne_eq_false_iff_eq,ne_eq,toList_lit0] at h8p
  refine xl_runS 6 [1,4,7,45,46,47,55,56,57,58,60] [(1,.p 0 0),(4,.v (.int .i64 r.fin)),(7,.p 1 0),(45,.v (.slice Arh r.held.length Crh)),(46,.v (.int .i64 ((r.held.length : Nat) : Int))),(47,.v (.int .i64 (k : Int))),(55,.p 1 0),(56,.v (.int .i64 x.off)),(57,.v (.int .i64 z)),(58,.v (.bool (decide (x.off ≤ z)))),(60,.v (.bool (decide (x.off ≤ z))))] (by kernel_rfl) ?_
  refine xl_split 60 (b := decide (x.off ≤ z)) (by kernel_rfl) (fun h9 => ?_) (fun h9 => ?_)
  have h9p : (x.off ≤ z) := of_decide_eq_true h9
  refine xl_endS [1,4,7,45,46,47,55,56,57,58,69] [(1,.p 0 0),(4,.v (.int .i64 r.fin)),(7,.p 1 0),(45,.v (.slice Arh r.held.length Crh)),(46,.v (.int .i64 ((r.held.length : Nat) : Int))),(47,.v (.int .i64 (k : Int))),(55,.p 1 0),(56,.v (.int .i64 x.off)),(57,.v (.int .i64 z)),(58,.v (.bool (decide (x.off ≤ z)))),(69,.v (.bool true))] (by kernel_rfl) ?_
  refine xw_true (by kernel_rfl) ?_
  refine xw_seq ?_
  refine xw_region ?_
  refine xl_endS [2] [(2,.v (.bool false))] (by kernel_rfl) ?_
  refine xw_ret ?_
  exact ⟨[.bool false],by kernel_rfl,fun w' hb hf => ⟨ret_bool (show (false : Bool) = receiverOk r from by first | rfl | (rw [HR,HK]; simp [*]; done) | (rw [HR,HK]; simp [*]; omega) | (rw [HR,HK]; grind [rcvPost]) | (simp [receiverOk,rcvPre, *]; done) | (simp [receiverOk,rcvPre, *]; omega) | grind [receiverOk,rcvPre]),hb⟩⟩
  have h9p : ¬ (x.off ≤ z) := of_decide_eq_false h9
  refine xl_runS 9 [1,4,7,45,46,47,55,56,57,58,61,62,63,64,65,66,67,68,69] [(1,.p 0 0),(4,.v (.int .i64 r.fin)),(7,.p 1 0),(45,.v (.slice Arh r.held.length Crh)),(46,.v (.int .i64 ((r.held.length : Nat) : Int))),(47,.v (.int .i64 (k : Int))),(55,.p 1 0),(56,.v (.int .i64 x.off)),(57,.v (.int .i64 z)),(58,.v (.bool (decide (x.off ≤ z)))),(61,.p 1 0),(62,.v (.int .i64 x.off)),(63,.v (.int .i64 r.fin)),(64,.p 1 1),(65,.v (.string x.text)),(66,.v (.int .i64 (x.text.size : Int))),(67,.v (.int .i64 (IntKind.i64.wrap (r.fin - (x.text.size : Int))))),(68,.v (.bool (decide (x.off > (IntKind.i64.wrap (r.fin - (x.text.size : Int))))))),(69,.v (.bool (decide (x.off > (IntKind.i64.wrap (r.fin - (x.text.size : Int)))))))] (by kernel_rfl) ?_
  refine xl_eqS (t' := [(1,.p 0 0),(4,.v (.int .i64 r.fin)),(7,.p 1 0),(45,.v (.slice Arh r.held.length Crh)),(46,.v (.int .i64 ((r.held.length : Nat) : Int))),(47,.v (.int .i64 (k : Int))),(55,.p 1 0),(56,.v (.int .i64 x.off)),(57,.v (.int .i64 z)),(58,.v (.bool (decide (x.off ≤ z)))),(61,.p 1 0),(62,.v (.int .i64 x.off)),(63,.v (.int .i64 r.fin)),(64,.p 1 1),(65,.v (.string x.text)),(66,.v (.int .i64 (x.text.size : Int))),(67,.v (.int .i64 (r.fin - (x.text.size : Int)))),(68,.v (.bool (decide (x.off > (r.fin - (x.text.size : Int)))))),(69,.v (.bool (decide (x.off > (r.fin - (x.text.size : Int))))))]) (by rw [show (IntKind.i64.wrap (r.fin - (x.text.size : Int))) = (r.fin - (x.text.size : Int)) from wrap_id (by omega) (by omega)]) ?_
  refine xl_endS [1,4,7,45,46,47,55,56,57,58,61,62,63,64,65,66,67,68,69] [(1,.p 0 0),(4,.v (.int .i64 r.fin)),(7,.p 1 0),(45,.v (.slice Arh r.held.length Crh)),(46,.v (.int .i64 ((r.held.length : Nat) : Int))),(47,.v (.int .i64 (k : Int))),(55,.p 1 0),(56,.v (.int .i64 x.off)),(57,.v (.int .i64 z)),(58,.v (.bool (decide (x.off ≤ z)))),(61,.p 1 0),(62,.v (.int .i64 x.off)),(63,.v (.int .i64 r.fin)),(64,.p 1 1),(65,.v (.string x.text)),(66,.v (.int .i64 (x.text.size : Int))),(67,.v (.int .i64 (r.fin - (x.text.size : Int)))),(68,.v (.bool (decide (x.off > (r.fin - (x.text.size : Int)))))),(69,.v (.bool (decide (x.off > (r.fin - (x.text.size : Int))))))] (by kernel_rfl) ?_
  refine xw_cond (b := decide (x.off > (r.fin - (x.text.size : Int)))) (by kernel_rfl) (fun h10 => ?_) (fun h10 => ?_)
  have h10p : (x.off > (r.fin - (x.text.size : Int))) := of_decide_eq_true h10
  refine xw_seq ?_
  refine xw_region ?_
  refine xl_endS [2] [(2,.v (.bool false))] (by kernel_rfl) ?_
  refine xw_ret ?_
  exact ⟨[.bool false],by kernel_rfl,fun w' hb hf => ⟨ret_bool (show (false : Bool) = receiverOk r from by first | rfl | (rw [HR,HK]; simp [*]; done) | (rw [HR,HK]; simp [*]; omega) | (rw [HR,HK]; grind [rcvPost]) | (simp [receiverOk,rcvPre, *]; done) | (simp [receiverOk,rcvPre, *]; omega) | grind [receiverOk,rcvPre]),hb⟩⟩
  have h10p : ¬ (x.off > (r.fin - (x.text.size : Int))) := of_decide_eq_false h10
  refine xw_skip ?_
  refine xw_region ?_
  refine xl_runS 7 [1,4,5,45,46,47,55,56,57,58,61,62,63,64,65,66,67,68] [(1,.p 0 0),(4,.v (.int .i64 r.fin)),(5,.v (.int .i64 (IntKind.i64.wrap (x.off + (x.text.size : Int))))),(45,.v (.slice Arh r.held.length Crh)),(46,.v (.int .i64 ((r.held.length : Nat) : Int))),(47,.v (.int .i64 (k : Int))),(55,.p 1 0),(56,.v (.int .i64 x.off)),(57,.v (.int .i64 z)),(58,.v (.bool (decide (x.off ≤ z)))),(61,.p 1 0),(62,.v (.int .i64 x.off)),(63,.v (.int .i64 r.fin)),(64,.p 1 1),(65,.v (.string x.text)),(66,.v (.int .i64 (x.text.size : Int))),(67,.v (.int .i64 (r.fin - (x.text.size : Int)))),(68,.v (.bool (decide (x.off > (r.fin - (x.text.size : Int))))))] (by kernel_rfl) ?_
  refine xl_eqS (t' := [(1,.p 0 0),(4,.v (.int .i64 r.fin)),(5,.v (.int .i64 (x.off + (x.text.size : Int)))),(45,.v (.slice Arh r.held.length Crh)),(46,.v (.int .i64 ((r.held.length : Nat) : Int))),(47,.v (.int .i64 (k : Int))),(55,.p 1 0),(56,.v (.int .i64 x.off)),(57,.v (.int .i64 z)),(58,.v (.bool (decide (x.off ≤ z)))),(61,.p 1 0),(62,.v (.int .i64 x.off)),(63,.v (.int .i64 r.fin)),(64,.p 1 1),(65,.v (.string x.text)),(66,.v (.int .i64 (x.text.size : Int))),(67,.v (.int .i64 (r.fin - (x.text.size : Int)))),(68,.v (.bool (decide (x.off > (r.fin - (x.text.size : Int))))))]) (by rw [show (IntKind.i64.wrap (x.off + (x.text.size : Int))) = (x.off + (x.text.size : Int)) from wrap_id (by omega) (by omega)]) ?_
  refine xl_endS [1,4,5,45,46,47,55,56,57,58,61,62,63,64,65,66,67,68] [(1,.p 0 0),(4,.v (.int .i64 r.fin)),(5,.v (.int .i64 (x.off + (x.text.size : Int)))),(45,.v (.slice Arh r.held.length Crh)),(46,.v (.int .i64 ((r.held.length : Nat) : Int))),(47,.v (.int .i64 (k : Int))),(55,.p 1 0),(56,.v (.int .i64 x.off)),(57,.v (.int .i64 z)),(58,.v (.bool (decide (x.off ≤ z)))),(61,.p 1 0),(62,.v (.int .i64 x.off)),(63,.v (.int .i64 r.fin)),(64,.p 1 1),(65,.v (.string x.text)),(66,.v (.int .i64 (x.text.size : Int))),(67,.v (.int .i64 (r.fin - (x.text.size : Int)))),(68,.v (.bool (decide (x.off > (r.fin - (x.text.size : Int))))))] (by kernel_rfl) ?_
  refine xw_region ?_
  refine xl_runS 2 [1,4,5,45,46,47,55,56,57,58,61,62,63,64,65,66,67,68] [(1,.p 0 0),(4,.v (.int .i64 r.fin)),(5,.v (.int .i64 (x.off + (x.text.size : Int)))),(45,.v (.slice Arh r.held.length Crh)),(46,.v (.int .i64 ((r.held.length : Nat) : Int))),(47,.v (.int .i64 (IntKind.i64.wrap ((k : Int) + 1)))),(55,.p 1 0),(56,.v (.int .i64 x.off)),(57,.v (.int .i64 z)),(58,.v (.bool (decide (x.off ≤ z)))),(61,.p 1 0),(62,.v (.int .i64 x.off)),(63,.v (.int .i64 r.fin)),(64,.p 1 1),(65,.v (.string x.text)),(66,.v (.int .i64 (x.text.size : Int))),(67,.v (.int .i64 (r.fin - (x.text.size : Int)))),(68,.v (.bool (decide (x.off > (r.fin - (x.text.size : Int))))))] (by kernel_rfl) ?_
  refine xl_eqS (t' := [(1,.p 0 0),(4,.v (.int .i64 r.fin)),(5,.v (.int .i64 (x.off + (x.text.size : Int)))),(45,.v (.slice Arh r.held.length Crh)),(46,.v (.int .i64 ((r.held.length : Nat) : Int))),(47,.v (.int .i64 ((k : Int) + 1))),(55,.p 1 0),(56,.v (.int .i64 x.off)),(57,.v (.int .i64 z)),(58,.v (.bool (decide (x.off ≤ z)))),(61,.p 1 0),(62,.v (.int .i64 x.off)),(63,.v (.int .i64 r.fin)),(64,.p 1 1),(65,.v (.string x.text)),(66,.v (.int .i64 (x.text.size : Int))),(67,.v (.int .i64 (r.fin - (x.text.size : Int)))),(68,.v (.bool (decide (x.off > (r.fin - (x.text.size : Int))))))]) (by rw [show (IntKind.i64.wrap ((k : Int) + 1)) = ((k : Int) + 1) from wrap_id (by omega) (by omega)]) ?_
  refine xl_endS [1,4,5,45,46,47,55,56,57,58,61,62,63,64,65,66,67,68] [(1,.p 0 0),(4,.v (.int .i64 r.fin)),(5,.v (.int .i64 (x.off + (x.text.size : Int)))),(45,.v (.slice Arh r.held.length Crh)),(46,.v (.int .i64 ((r.held.length : Nat) : Int))),(47,.v (.int .i64 ((k : Int) + 1))),(55,.p 1 0),(56,.v (.int .i64 x.off)),(57,.v (.int .i64 z)),(58,.v (.bool (decide (x.off ≤ z)))),(61,.p 1 0),(62,.v (.int .i64 x.off)),(63,.v (.int .i64 r.fin)),(64,.p 1 1),(65,.v (.string x.text)),(66,.v (.int .i64 (x.text.size : Int))),(67,.v (.int .i64 (r.fin - (x.text.size : Int)))),(68,.v (.bool (decide (x.off > (r.fin - (x.text.size : Int))))))] (by kernel_rfl) ?_
  exact ⟨⟨(k + 1,x.off + (x.text.size : Int)),⟨by omega,by omega,by omega,by rw [HK]; first | (simp [*]; done) | (simp [*]; omega) | grind⟩⟩,wk_forget 1 0 [1,4,5,45,46,47] (by kernel_rfl) (by kernel_rfl) (by kernel_rfl),by show r.held.length - (k + 1) < r.held.length - k; omega⟩
  have h7p : ¬ ((k : Int) < ((r.held.length : Nat) : Int)) := of_decide_eq_false h7
  have hge : k = r.held.length := by simp at h7; omega
  subst hge; simp only [List.drop_length,heldOkS,heldOk] at HK
  refine xw_exit ?_
  refine xw_seq ?_
  refine xw_region ?_
  refine xl_runS 4 [1,80] [(1,.p 0 0),(80,.v (.bool (!r.done)))] (by kernel_rfl) ?_
  refine xl_split 80 (b := !r.done) (by kernel_rfl) (fun h11 => ?_) (fun h11 => ?_)
  have h11n := not_t h11
  refine xl_endS [2] [(2,.v (.bool true))] (by kernel_rfl) ?_
  refine xw_ret ?_
  exact ⟨[.bool true],by kernel_rfl,fun w' hb hf => ⟨ret_bool (show (true : Bool) = receiverOk r from by first | rfl | (rw [HR,HK]; simp [*]; done) | (rw [HR,HK]; simp [*]; omega) | (rw [HR,HK]; grind [rcvPost]) | (simp [receiverOk,rcvPre, *]; done) | (simp [receiverOk,rcvPre, *]; omega) | grind [receiverOk,rcvPre]),hb⟩⟩
  have h11n := not_f h11
  refine xl_runS 5 [1,80,85] [(1,.p 0 0),(80,.v (.bool false)),(85,.v (.bool (((r.held.length : Nat) : Int) == 0)))] (by kernel_rfl) ?_
  refine xl_split 85 (b := ((r.held.length : Nat) : Int) == 0) (by kernel_rfl) (fun h12 => ?_) (fun h12 => ?_)
  have h12p := eqT h12
  refine xl_endS [2] [(2,.v (.bool (r.fin == (-1))))] (by kernel_rfl) ?_
  refine xw_ret ?_
  exact ⟨[.bool (r.fin == (-1))],by kernel_rfl,fun w' hb hf => ⟨ret_bool (show (r.fin == (-1) : Bool) = receiverOk r from by first | rfl | (rw [HR,HK]; simp [*]; done) | (rw [HR,HK]; simp [*]; omega) | (rw [HR,HK]; grind [rcvPost]) | (simp [receiverOk,rcvPre, *]; done) | (simp [receiverOk,rcvPre, *]; omega) | grind [receiverOk,rcvPre]),hb⟩⟩
  have h12p := eqF h12
  refine xl_endS [2] [(2,.v (.bool false))] (by kernel_rfl) ?_
  refine xw_ret ?_
  exact ⟨[.bool false],by kernel_rfl,fun w' hb hf => ⟨ret_bool (show (false : Bool) = receiverOk r from by first | rfl | (rw [HR,HK]; simp [*]; done) | (rw [HR,HK]; simp [*]; omega) | (rw [HR,HK]; grind [rcvPost]) | (simp [receiverOk,rcvPre, *]; done) | (simp [receiverOk,rcvPre, *]; omega) | grind [receiverOk,rcvPre]),hb⟩⟩
  have h6p := neF h6
  refine xw_skip ?_
  refine xw_seq ?_
  refine xw_region ?_
  refine xl_endS [1,4,5] [(1,.p 0 0),(4,.v (.int .i64 (windowOf r))),(5,.v (.int .i64 0))] (by kernel_rfl) ?_
  refine xw_seq ?_
  refine xw_seq ?_
  refine xw_region ?_
  refine xl_endS [1,4,5,45,46,47] [(1,.p 0 0),(4,.v (.int .i64 (windowOf r))),(5,.v (.int .i64 0)),(45,.v (.slice Arh r.held.length Crh)),(46,.v (.int .i64 ((r.held.length : Nat) : Int))),(47,.v (.int .i64 0))] (by kernel_rfl) ?_
  refine xw_block ?_
  have hp : rcvPre r = true := by first | (simp [rcvPre, *]; done) | (simp [rcvPre, *]; omega) | grind [rcvPre]
  have hin := inB_tt.1 (rcvPre_iff.1 hp).2.2.2.1
  have HR : receiverOk r = (heldOk (if r.fin = -1 then windowOf r else r.fin) 0 r.held && rcvPost r) := by unfold receiverOk; rw [hp]; rfl
  refine xw_loopW (α := {x : Nat × Int // (fun (k : Nat) (z : Int) => k ≤ r.held.length ∧ 0 ≤ z ∧ z ≤ 32 ∧ heldOk (if r.fin = -1 then windowOf r else r.fin) 0 r.held = heldOk (if r.fin = -1 then windowOf r else r.fin) z (r.held.drop k)) x.1 x.2}) (fun x => (fun (k : Nat) (z : Int) => (⟨[(1,.p 0 0),(4,.v (.int .i64 (windowOf r))),(5,.v (.int .i64 z)),(45,.v (.slice Arh r.held.length Crh)),(46,.v (.int .i64 ((r.held.length : Nat) : Int))),(47,.v (.int .i64 (k : Int)))],[⟨39,rcvL r (.slice Arh r.held.length Crh)⟩],[],[slF (.slice Arh r.held.length Crh) 2 (r.held.map pceCells)]⟩ : St)) x.1.1 x.1.2) (fun x => r.held.length - x.1.1) ⟨(0,0),⟨Nat.zero_le _,by omega,by omega,rfl⟩⟩ (wk_forget 1 0 [1,4,5,45,46,47] (by kernel_rfl) (by kernel_rfl) (by kernel_rfl)) ?_
  rintro ⟨⟨k,z⟩,hk,hz0,hz1,HK⟩
  refine xw_wk (Wk.of_eq (s' := ⟨[(1,.p 0 0),(4,.v (.int .i64 (windowOf r))),(5,.v (.int .i64 z)),(45,.v (.slice Arh r.held.length Crh)),(46,.v (.int .i64 ((r.held.length : Nat) : Int))),(47,.v (.int .i64 (k : Int)))],[⟨39,rcvL r (.slice Arh r.held.length Crh)⟩],[],[slF (.slice Arh r.held.length Crh) 2 (r.held.map pceCells)]⟩) rfl) ?_
  try dsimp only at hk hz0 hz1 HK
  refine xw_seq ?_
  refine xw_region ?_
  refine xl_endS [1,4,5,45,46,47,48] [(1,.p 0 0),(4,.v (.int .i64 (windowOf r))),(5,.v (.int .i64 z)),(45,.v (.slice Arh r.held.length Crh)),(46,.v (.int .i64 ((r.held.length : Nat) : Int))),(47,.v (.int .i64 (k : Int))),(48,.v (.bool (decide ((k : Int) < ((r.held.length : Nat) : Int)))))] (by kernel_rfl) ?_
  refine xw_seq ?_
  refine xw_cond (b := decide ((k : Int) < ((r.held.length : Nat) : Int))) (by kernel_rfl) (fun h13 => ?_) (fun h13 => ?_)
  have h13p : ((k : Int) < ((r.held.length : Nat) : Int)) := of_decide_eq_true h13
  have hlt : k < r.held.length := by simpa using h13
  obtain ⟨x,hx⟩ : ∃ x,r.held[k]? = some x := ⟨_,List.getElem?_eq_getElem hlt⟩
  have hxm := hm x (List.mem_of_getElem? hx)
  rw [drop_cons_of hx] at HK; simp only [heldOkS,heldOk] at HK
  refine xw_skip ?_
  refine xw_seq ?_
  refine xw_block ?_
  refine xw_seq ?_
  refine xw_region ?_
  refine xl_indexS (kd := .i64) (T := 37) (e := 149) (K := 2) 0 [1,4,5,45,46,47] [(1,.p 0 0),(4,.v (.int .i64 (windowOf r))),(5,.v (.int .i64 z)),(45,.v (.slice Arh r.held.length Crh)),(46,.v (.int .i64 ((r.held.length : Nat) : Int))),(47,.v (.int .i64 (k : Int)))] k [.int .i64 x.off,.string x.text] (slF (.slice Arh r.held.length Crh) 2 (r.held.map pceCells)) (by kernel_rfl) rfl (by kernel_rfl) rfl rfl (by kernel_rfl) (by kernel_rfl) (by kernel_rfl) (by kernel_rfl) hlt (by simp) (fun w h => h) (fun b h => h) (by simp only [List.getElem?_map,hx]; rfl) ?_
  refine xl_end [1,4,5,7,45,46,47] ⟨[(1,.p 0 0),(4,.v (.int .i64 (windowOf r))),(5,.v (.int .i64 z)),(7,.p 1 0),(45,.v (.slice Arh r.held.length Crh)),(46,.v (.int .i64 ((r.held.length : Nat) : Int))),(47,.v (.int .i64 (k : Int)))],[⟨39,rcvL r (.slice Arh r.held.length Crh)⟩,⟨149,pceL x⟩],[[.int .i64 x.off,.string x.text]],[slF (.slice Arh r.held.length Crh) 2 (r.held.map pceCells)]⟩ (by kernel_rfl) ?_
  refine xw_seq ?_
  refine xw_seq ?_
  refine xw_region ?_
  refine xl_runS 4 [1,4,5,7,45,46,47,54] [(1,.p 0 0),(4,.v (.int .i64 (windowOf r))),(5,.v (.int .i64 z)),(7,.p 1 0),(45,.v (.slice Arh r.held.length Crh)),(46,.v (.int .i64 ((r.held.length : Nat) : Int))),(47,.v (.int .i64 (k : Int))),(54,.v (.bool (x.text.toList == (⟨#[]⟩ : ByteArray).toList)))] (by kernel_rfl) ?_
  refine xl_split 54 (b := x.text.toList == (⟨#[]⟩ : ByteArray).toList) (by kernel_rfl) (fun h14 => ?_) (fun h14 => ?_)
  have h14p := h14; simp only [beq_iff_eq,bne_iff_ne,beq_eq_false_iff_ne,bne_eq_false_iff_eq,ne_eq,toList_lit0] at h14p
  refine xl_endS [1,4,7,45,46,47,69] [(1,.p 0 0),(4,.v (.int .i64 (windowOf r))),(7,.p 1 0),(45,.v (.slice Arh r.held.length Crh)),(46,.v (.int .i64 ((r.held.length : Nat) : Int))),(47,.v (.int .i64 (k : Int))),(69,.v (.bool true))] (by kernel_rfl) ?_
  refine xw_true (by kernel_rfl) ?_
  refine xw_seq ?_
  refine xw_region ?_
  refine xl_endS [2] [(2,.v (.bool false))] (by kernel_rfl) ?_
  refine xw_ret ?_
  exact ⟨[.bool false],by kernel_rfl,fun w' hb hf => ⟨ret_bool (show (false : Bool) = receiverOk r from by first | rfl | (rw [HR,HK]; simp [*]; done) | (rw [HR,HK]; simp [*]; omega) | (rw [HR,HK]; grind [rcvPost]) | (simp [receiverOk,rcvPre, *]; done) | (simp [receiverOk,rcvPre, *]; omega) | grind [receiverOk,rcvPre]),hb⟩⟩
  have h14p := h14; simp only [beq_iff_eq,bne_iff_ne,beq_eq_false_iff_ne,bne_eq_false_iff_eq,ne_eq,toList_lit0] at h14p
  refine xl_runS 6 [1,4,7,45,46,47,55,56,57,58,60] [(1,.p 0 0),(4,.v (.int .i64 (windowOf r))),(7,.p 1 0),(45,.v (.slice Arh r.held.length Crh)),(46,.v (.int .i64 ((r.held.length : Nat) : Int))),(47,.v (.int .i64 (k : Int))),(55,.p 1 0),(56,.v (.int .i64 x.off)),(57,.v (.int .i64 z)),(58,.v (.bool (decide (x.off ≤ z)))),(60,.v (.bool (decide (x.off ≤ z))))] (by kernel_rfl) ?_
  refine xl_split 60 (b := decide (x.off ≤ z)) (by kernel_rfl) (fun h15 => ?_) (fun h15 => ?_)
  have h15p : (x.off ≤ z) := of_decide_eq_true h15
  refine xl_endS [1,4,7,45,46,47,55,56,57,58,69] [(1,.p 0 0),(4,.v (.int .i64 (windowOf r))),(7,.p 1 0),(45,.v (.slice Arh r.held.length Crh)),(46,.v (.int .i64 ((r.held.length : Nat) : Int))),(47,.v (.int .i64 (k : Int))),(55,.p 1 0),(56,.v (.int .i64 x.off)),(57,.v (.int .i64 z)),(58,.v (.bool (decide (x.off ≤ z)))),(69,.v (.bool true))] (by kernel_rfl) ?_
  refine xw_true (by kernel_rfl) ?_
  refine xw_seq ?_
  refine xw_region ?_
  refine xl_endS [2] [(2,.v (.bool false))] (by kernel_rfl) ?_
  refine xw_ret ?_
  exact ⟨[.bool false],by kernel_rfl,fun w' hb hf => ⟨ret_bool (show (false : Bool) = receiverOk r from by first | rfl | (rw [HR,HK]; simp [*]; done) | (rw [HR,HK]; simp [*]; omega) | (rw [HR,HK]; grind [rcvPost]) | (simp [receiverOk,rcvPre, *]; done) | (simp [receiverOk,rcvPre, *]; omega) | grind [receiverOk,rcvPre]),hb⟩⟩
  have h15p : ¬ (x.off ≤ z) := of_decide_eq_false h15
  refine xl_runS 9 [1,4,7,45,46,47,55,56,57,58,61,62,63,64,65,66,67,68,69] [(1,.p 0 0),(4,.v (.int .i64 (windowOf r))),(7,.p 1 0),(45,.v (.slice Arh r.held.length Crh)),(46,.v (.int .i64 ((r.held.length : Nat) : Int))),(47,.v (.int .i64 (k : Int))),(55,.p 1 0),(56,.v (.int .i64 x.off)),(57,.v (.int .i64 z)),(58,.v (.bool (decide (x.off ≤ z)))),(61,.p 1 0),(62,.v (.int .i64 x.off)),(63,.v (.int .i64 (windowOf r))),(64,.p 1 1),(65,.v (.string x.text)),(66,.v (.int .i64 (x.text.size : Int))),(67,.v (.int .i64 (IntKind.i64.wrap ((windowOf r) - (x.text.size : Int))))),(68,.v (.bool (decide (x.off > (IntKind.i64.wrap ((windowOf r) - (x.text.size : Int))))))),(69,.v (.bool (decide (x.off > (IntKind.i64.wrap ((windowOf r) - (x.text.size : Int)))))))] (by kernel_rfl) ?_
  refine xl_eqS (t' := [(1,.p 0 0),(4,.v (.int .i64 (windowOf r))),(7,.p 1 0),(45,.v (.slice Arh r.held.length Crh)),(46,.v (.int .i64 ((r.held.length : Nat) : Int))),(47,.v (.int .i64 (k : Int))),(55,.p 1 0),(56,.v (.int .i64 x.off)),(57,.v (.int .i64 z)),(58,.v (.bool (decide (x.off ≤ z)))),(61,.p 1 0),(62,.v (.int .i64 x.off)),(63,.v (.int .i64 (windowOf r))),(64,.p 1 1),(65,.v (.string x.text)),(66,.v (.int .i64 (x.text.size : Int))),(67,.v (.int .i64 ((windowOf r) - (x.text.size : Int)))),(68,.v (.bool (decide (x.off > ((windowOf r) - (x.text.size : Int)))))),(69,.v (.bool (decide (x.off > ((windowOf r) - (x.text.size : Int))))))]) (by rw [show (IntKind.i64.wrap ((windowOf r) - (x.text.size : Int))) = ((windowOf r) - (x.text.size : Int)) from wrap_id (by omega) (by omega)]) ?_
  refine xl_endS [1,4,7,45,46,47,55,56,57,58,61,62,63,64,65,66,67,68,69] [(1,.p 0 0),(4,.v (.int .i64 (windowOf r))),(7,.p 1 0),(45,.v (.slice Arh r.held.length Crh)),(46,.v (.int .i64 ((r.held.length : Nat) : Int))),(47,.v (.int .i64 (k : Int))),(55,.p 1 0),(56,.v (.int .i64 x.off)),(57,.v (.int .i64 z)),(58,.v (.bool (decide (x.off ≤ z)))),(61,.p 1 0),(62,.v (.int .i64 x.off)),(63,.v (.int .i64 (windowOf r))),(64,.p 1 1),(65,.v (.string x.text)),(66,.v (.int .i64 (x.text.size : Int))),(67,.v (.int .i64 ((windowOf r) - (x.text.size : Int)))),(68,.v (.bool (decide (x.off > ((windowOf r) - (x.text.size : Int)))))),(69,.v (.bool (decide (x.off > ((windowOf r) - (x.text.size : Int))))))] (by kernel_rfl) ?_
  refine xw_cond (b := decide (x.off > ((windowOf r) - (x.text.size : Int)))) (by kernel_rfl) (fun h16 => ?_) (fun h16 => ?_)
  have h16p : (x.off > ((windowOf r) - (x.text.size : Int))) := of_decide_eq_true h16
  refine xw_seq ?_
  refine xw_region ?_
  refine xl_endS [2] [(2,.v (.bool false))] (by kernel_rfl) ?_
  refine xw_ret ?_
  exact ⟨[.bool false],by kernel_rfl,fun w' hb hf => ⟨ret_bool (show (false : Bool) = receiverOk r from by first | rfl | (rw [HR,HK]; simp [*]; done) | (rw [HR,HK]; simp [*]; omega) | (rw [HR,HK]; grind [rcvPost]) | (simp [receiverOk,rcvPre, *]; done) | (simp [receiverOk,rcvPre, *]; omega) | grind [receiverOk,rcvPre]),hb⟩⟩
  have h16p : ¬ (x.off > ((windowOf r) - (x.text.size : Int))) := of_decide_eq_false h16
  refine xw_skip ?_
  refine xw_region ?_
  refine xl_runS 7 [1,4,5,45,46,47,55,56,57,58,61,62,63,64,65,66,67,68] [(1,.p 0 0),(4,.v (.int .i64 (windowOf r))),(5,.v (.int .i64 (IntKind.i64.wrap (x.off + (x.text.size : Int))))),(45,.v (.slice Arh r.held.length Crh)),(46,.v (.int .i64 ((r.held.length : Nat) : Int))),(47,.v (.int .i64 (k : Int))),(55,.p 1 0),(56,.v (.int .i64 x.off)),(57,.v (.int .i64 z)),(58,.v (.bool (decide (x.off ≤ z)))),(61,.p 1 0),(62,.v (.int .i64 x.off)),(63,.v (.int .i64 (windowOf r))),(64,.p 1 1),(65,.v (.string x.text)),(66,.v (.int .i64 (x.text.size : Int))),(67,.v (.int .i64 ((windowOf r) - (x.text.size : Int)))),(68,.v (.bool (decide (x.off > ((windowOf r) - (x.text.size : Int))))))] (by kernel_rfl) ?_
  refine xl_eqS (t' := [(1,.p 0 0),(4,.v (.int .i64 (windowOf r))),(5,.v (.int .i64 (x.off + (x.text.size : Int)))),(45,.v (.slice Arh r.held.length Crh)),(46,.v (.int .i64 ((r.held.length : Nat) : Int))),(47,.v (.int .i64 (k : Int))),(55,.p 1 0),(56,.v (.int .i64 x.off)),(57,.v (.int .i64 z)),(58,.v (.bool (decide (x.off ≤ z)))),(61,.p 1 0),(62,.v (.int .i64 x.off)),(63,.v (.int .i64 (windowOf r))),(64,.p 1 1),(65,.v (.string x.text)),(66,.v (.int .i64 (x.text.size : Int))),(67,.v (.int .i64 ((windowOf r) - (x.text.size : Int)))),(68,.v (.bool (decide (x.off > ((windowOf r) - (x.text.size : Int))))))]) (by rw [show (IntKind.i64.wrap (x.off + (x.text.size : Int))) = (x.off + (x.text.size : Int)) from wrap_id (by omega) (by omega)]) ?_
  refine xl_endS [1,4,5,45,46,47,55,56,57,58,61,62,63,64,65,66,67,68] [(1,.p 0 0),(4,.v (.int .i64 (windowOf r))),(5,.v (.int .i64 (x.off + (x.text.size : Int)))),(45,.v (.slice Arh r.held.length Crh)),(46,.v (.int .i64 ((r.held.length : Nat) : Int))),(47,.v (.int .i64 (k : Int))),(55,.p 1 0),(56,.v (.int .i64 x.off)),(57,.v (.int .i64 z)),(58,.v (.bool (decide (x.off ≤ z)))),(61,.p 1 0),(62,.v (.int .i64 x.off)),(63,.v (.int .i64 (windowOf r))),(64,.p 1 1),(65,.v (.string x.text)),(66,.v (.int .i64 (x.text.size : Int))),(67,.v (.int .i64 ((windowOf r) - (x.text.size : Int)))),(68,.v (.bool (decide (x.off > ((windowOf r) - (x.text.size : Int))))))] (by kernel_rfl) ?_
  refine xw_region ?_
  refine xl_runS 2 [1,4,5,45,46,47,55,56,57,58,61,62,63,64,65,66,67,68] [(1,.p 0 0),(4,.v (.int .i64 (windowOf r))),(5,.v (.int .i64 (x.off + (x.text.size : Int)))),(45,.v (.slice Arh r.held.length Crh)),(46,.v (.int .i64 ((r.held.length : Nat) : Int))),(47,.v (.int .i64 (IntKind.i64.wrap ((k : Int) + 1)))),(55,.p 1 0),(56,.v (.int .i64 x.off)),(57,.v (.int .i64 z)),(58,.v (.bool (decide (x.off ≤ z)))),(61,.p 1 0),(62,.v (.int .i64 x.off)),(63,.v (.int .i64 (windowOf r))),(64,.p 1 1),(65,.v (.string x.text)),(66,.v (.int .i64 (x.text.size : Int))),(67,.v (.int .i64 ((windowOf r) - (x.text.size : Int)))),(68,.v (.bool (decide (x.off > ((windowOf r) - (x.text.size : Int))))))] (by kernel_rfl) ?_
  refine xl_eqS (t' := [(1,.p 0 0),(4,.v (.int .i64 (windowOf r))),(5,.v (.int .i64 (x.off + (x.text.size : Int)))),(45,.v (.slice Arh r.held.length Crh)),(46,.v (.int .i64 ((r.held.length : Nat) : Int))),(47,.v (.int .i64 ((k : Int) + 1))),(55,.p 1 0),(56,.v (.int .i64 x.off)),(57,.v (.int .i64 z)),(58,.v (.bool (decide (x.off ≤ z)))),(61,.p 1 0),(62,.v (.int .i64 x.off)),(63,.v (.int .i64 (windowOf r))),(64,.p 1 1),(65,.v (.string x.text)),(66,.v (.int .i64 (x.text.size : Int))),(67,.v (.int .i64 ((windowOf r) - (x.text.size : Int)))),(68,.v (.bool (decide (x.off > ((windowOf r) - (x.text.size : Int))))))]) (by rw [show (IntKind.i64.wrap ((k : Int) + 1)) = ((k : Int) + 1) from wrap_id (by omega) (by omega)]) ?_
  refine xl_endS [1,4,5,45,46,47,55,56,57,58,61,62,63,64,65,66,67,68] [(1,.p 0 0),(4,.v (.int .i64 (windowOf r))),(5,.v (.int .i64 (x.off + (x.text.size : Int)))),(45,.v (.slice Arh r.held.length Crh)),(46,.v (.int .i64 ((r.held.length : Nat) : Int))),(47,.v (.int .i64 ((k : Int) + 1))),(55,.p 1 0),(56,.v (.int .i64 x.off)),(57,.v (.int .i64 z)),(58,.v (.bool (decide (x.off ≤ z)))),(61,.p 1 0),(62,.v (.int .i64 x.off)),(63,.v (.int .i64 (windowOf r))),(64,.p 1 1),(65,.v (.string x.text)),(66,.v (.int .i64 (x.text.size : Int))),(67,.v (.int .i64 ((windowOf r) - (x.text.size : Int)))),(68,.v (.bool (decide (x.off > ((windowOf r) - (x.text.size : Int))))))] (by kernel_rfl) ?_
  exact ⟨⟨(k + 1,x.off + (x.text.size : Int)),⟨by omega,by omega,by omega,by rw [HK]; first | (simp [*]; done) | (simp [*]; omega) | grind⟩⟩,wk_forget 1 0 [1,4,5,45,46,47] (by kernel_rfl) (by kernel_rfl) (by kernel_rfl),by show r.held.length - (k + 1) < r.held.length - k; omega⟩
  have h13p : ¬ ((k : Int) < ((r.held.length : Nat) : Int)) := of_decide_eq_false h13
  have hge : k = r.held.length := by simp at h13; omega
  subst hge; simp only [List.drop_length,heldOkS,heldOk] at HK
  refine xw_exit ?_
  refine xw_seq ?_
  refine xw_region ?_
  refine xl_runS 4 [1,80] [(1,.p 0 0),(80,.v (.bool (!r.done)))] (by kernel_rfl) ?_
  refine xl_split 80 (b := !r.done) (by kernel_rfl) (fun h17 => ?_) (fun h17 => ?_)
  have h17n := not_t h17
  refine xl_endS [2] [(2,.v (.bool true))] (by kernel_rfl) ?_
  refine xw_ret ?_
  exact ⟨[.bool true],by kernel_rfl,fun w' hb hf => ⟨ret_bool (show (true : Bool) = receiverOk r from by first | rfl | (rw [HR,HK]; simp [*]; done) | (rw [HR,HK]; simp [*]; omega) | (rw [HR,HK]; grind [rcvPost]) | (simp [receiverOk,rcvPre, *]; done) | (simp [receiverOk,rcvPre, *]; omega) | grind [receiverOk,rcvPre]),hb⟩⟩
  have h17n := not_f h17
  refine xl_runS 5 [1,80,85] [(1,.p 0 0),(80,.v (.bool false)),(85,.v (.bool (((r.held.length : Nat) : Int) == 0)))] (by kernel_rfl) ?_
  refine xl_split 85 (b := ((r.held.length : Nat) : Int) == 0) (by kernel_rfl) (fun h18 => ?_) (fun h18 => ?_)
  have h18p := eqT h18
  refine xl_endS [2] [(2,.v (.bool (r.fin == (-1))))] (by kernel_rfl) ?_
  refine xw_ret ?_
  exact ⟨[.bool (r.fin == (-1))],by kernel_rfl,fun w' hb hf => ⟨ret_bool (show (r.fin == (-1) : Bool) = receiverOk r from by first | rfl | (rw [HR,HK]; simp [*]; done) | (rw [HR,HK]; simp [*]; omega) | (rw [HR,HK]; grind [rcvPost]) | (simp [receiverOk,rcvPre, *]; done) | (simp [receiverOk,rcvPre, *]; omega) | grind [receiverOk,rcvPre]),hb⟩⟩
  have h18p := eqF h18
  refine xl_endS [2] [(2,.v (.bool false))] (by kernel_rfl) ?_
  refine xw_ret ?_
  exact ⟨[.bool false],by kernel_rfl,fun w' hb hf => ⟨ret_bool (show (false : Bool) = receiverOk r from by first | rfl | (rw [HR,HK]; simp [*]; done) | (rw [HR,HK]; simp [*]; omega) | (rw [HR,HK]; grind [rcvPost]) | (simp [receiverOk,rcvPre, *]; done) | (simp [receiverOk,rcvPre, *]; omega) | grind [receiverOk,rcvPre]),hb⟩⟩
theorem l19Fin_c (k : Int) (w : World)  : Calls Try.prog 131 #[.int .i64 k] w fun e w' => e = .returned (.bool (decide (k ≠ 1 ∧ k ≠ 4))) ∧ Below w.heap.size w w' := by
  refine x_calls (args := [.int .i64 k]) (fn := Try.f131) [] Try.func131 rfl Try.ntmps131 rfl (by simp) ?_
  refine xw_seq ?_
  refine xw_region ?_
  refine xl_end [0] ⟨[(0,.v (.int .i64 k))],[],[],[]⟩ (by kernel_rfl) ?_
  refine xw_seq ?_
  refine xw_join ⟨[(2,.v (.bool ((k != 1) && (k != 4))))],[],[],[]⟩ ?_ ?_
  refine xw_region ?_
  refine xl_runS 3 [0,5] [(0,.v (.int .i64 k)),(5,.v (.bool (k != 1)))] (by kernel_rfl) ?_
  refine xl_split 5 (b := k != 1) (by kernel_rfl) (fun h1 => ?_) (fun h1 => ?_)
  have h1p := neT h1
  refine xl_endS [2] [(2,.v (.bool (k != 4)))] (by kernel_rfl) ?_
  show Wk _ _
  try rw [h1]
  exact wk_forget 0 0 [2] (by kernel_rfl) (by kernel_rfl) (by kernel_rfl)
  have h1p := neF h1
  refine xl_endS [2] [(2,.v (.bool false))] (by kernel_rfl) ?_
  show Wk _ _
  try rw [h1]
  exact wk_forget 0 0 [2] (by kernel_rfl) (by kernel_rfl) (by kernel_rfl)
  refine xw_ret ?_
  exact ⟨[.bool ((k != 1) && (k != 4))],by kernel_rfl,fun w' hb hf => ⟨ret_bool (show ((k != 1) && (k != 4) : Bool) = decide (k ≠ 1 ∧ k ≠ 4) from by first | rfl | (simp [*]; done) | (simp [*]; omega) | grind [toList_lit0]),hb⟩⟩
@[simp] theorem inB18_1 : inB 1 1 8 = true := rfl
@[simp] theorem inB18_2 : inB 2 1 8 = true := rfl
@[simp] theorem inB18_3 : inB 3 1 8 = true := rfl
@[simp] theorem inB18_4 : inB 4 1 8 = true := rfl
@[simp] theorem inB18_5 : inB 5 1 8 = true := rfl
@[simp] theorem inB18_6 : inB 6 1 8 = true := rfl
@[simp] theorem inB18_7 : inB 7 1 8 = true := rfl
@[simp] theorem inB18_8 : inB 8 1 8 = true := rfl
theorem ysConnOk_c (c : Con) (c_r_heldV : Value) (w : World) (hl_c_r_heldV : Sl w c_r_heldV 2 (c.r.held.map pceCells)) (hm : ∀ p ∈ c.r.held, p.text.size ≤ 1048576) (hsz : c.r.data.size ≤ 4611686018427387904) : Calls Try.prog 63 #[.agg (conL c c_r_heldV).toArray] w fun e w' => e = .returned (.bool (conOk c)) ∧ Below w.heap.size w w' := by
  obtain ⟨Acrh,Ccrh,hvcrh⟩ := hl_c_r_heldV.form
  rw [List.length_map] at hvcrh; subst hvcrh
  have hncrh := hl_c_r_heldV.len; rw [List.length_map] at hncrh
  refine x_calls (args := [.agg (conL c (.slice Acrh c.r.held.length Ccrh)).toArray]) (fn := Try.f63) [slF (.slice Acrh c.r.held.length Ccrh) 2 (c.r.held.map pceCells)] Try.func63 rfl Try.ntmps63 rfl (by simp only [List.mem_cons,List.not_mem_nil,or_false,forall_eq_or_imp,forall_eq]; exact ⟨rfl,hl_c_r_heldV⟩) ?_
  refine xw_seq ?_
  refine xw_region ?_
  refine xl_end [1] ⟨[(1,.p 0 0)],[⟨42,conL c (.slice Acrh c.r.held.length Ccrh)⟩],[],[slF (.slice Acrh c.r.held.length Ccrh) 2 (c.r.held.map pceCells)]⟩ (by kernel_rfl) ?_
  refine xw_seq ?_
  refine xw_seq ?_
  refine xw_join ⟨[(1,.p 0 0),(52,.v (.bool ((!(tupleOk c.t)) || ((!(senderOk c.s)) || ((!(receiverOk c.r)) || ((!(optionsOk c.o)) || ((!(inB c.state 1 8)) || ((!(inB c.window 0 c.most)) || ((decide (c.most > 1073725440)) || (!(inB c.tries 0 3)))))))))))],[⟨42,conL c (.slice Acrh c.r.held.length Ccrh)⟩],[],[slF (.slice Acrh c.r.held.length Ccrh) 2 (c.r.held.map pceCells)]⟩ ?_ ?_
  refine xw_region ?_
  refine xl_callS 2 [1,7] [(1,.p 0 0),(7,.v (.agg (tupL c.t).toArray))] 83 [.agg (tupL c.t).toArray] (some 8) (by kernel_rfl) rfl (by kernel_rfl) rfl (by kernel_rfl) (xc_b fun ww hf => sTupleOk_c c.t.ip c.t.port c.t.my ww ) ?_
  intro _
  refine xl_runS 2 [1,10] [(1,.p 0 0),(10,.v (.bool (!(tupleOk c.t))))] (by kernel_rfl) ?_
  refine xl_split 10 (b := !(tupleOk c.t)) (by kernel_rfl) (fun h1 => ?_) (fun h1 => ?_)
  have h1n := not_t h1
  refine xl_endS [1,52] [(1,.p 0 0),(52,.v (.bool true))] (by kernel_rfl) ?_
  show Wk _ _
  try rw [h1]
  exact wk_forget 1 0 [1,52] (by kernel_rfl) (by kernel_rfl) (by kernel_rfl)
  have h1n := not_f h1
  refine xl_callS 2 [1,10,12] [(1,.p 0 0),(10,.v (.bool false)),(12,.v (.agg (sndL c.s).toArray))] 129 [.agg (sndL c.s).toArray] (some 13) (by kernel_rfl) rfl (by kernel_rfl) rfl (by kernel_rfl) (xc_b fun ww hf => sSenderOk_c c.s.una c.s.data c.s.sent c.s.fin c.s.finSent c.s.done ww ) ?_
  intro _
  refine xl_runS 3 [1,16] [(1,.p 0 0),(16,.v (.bool (!(senderOk c.s))))] (by kernel_rfl) ?_
  refine xl_split 16 (b := !(senderOk c.s)) (by kernel_rfl) (fun h2 => ?_) (fun h2 => ?_)
  have h2n := not_t h2
  refine xl_endS [1,52] [(1,.p 0 0),(52,.v (.bool true))] (by kernel_rfl) ?_
  show Wk _ _
  try rw [h1]
  try rw [h2]
  exact wk_forget 1 0 [1,52] (by kernel_rfl) (by kernel_rfl) (by kernel_rfl)
  have h2n := not_f h2
  refine xl_callS 2 [1,16,18] [(1,.p 0 0),(16,.v (.bool false)),(18,.v (.agg (rcvL c.r (.slice Acrh c.r.held.length Ccrh)).toArray))] 130 [.agg (rcvL c.r (.slice Acrh c.r.held.length Ccrh)).toArray] (some 19) (by kernel_rfl) rfl (by kernel_rfl) rfl (by kernel_rfl) (xc_b fun ww hf => ysReceiverOk_c c.r (.slice Acrh c.r.held.length Ccrh) ww (hf (slF (.slice Acrh c.r.held.length Ccrh) 2 (c.r.held.map pceCells)) (by simp)) (by assumption) (by omega)) ?_
  intro _
  refine xl_runS 3 [1,22] [(1,.p 0 0),(22,.v (.bool (!(receiverOk c.r))))] (by kernel_rfl) ?_
  refine xl_split 22 (b := !(receiverOk c.r)) (by kernel_rfl) (fun h3 => ?_) (fun h3 => ?_)
  have h3n := not_t h3
  refine xl_endS [1,52] [(1,.p 0 0),(52,.v (.bool true))] (by kernel_rfl) ?_
  show Wk _ _
  try rw [h1]
  try rw [h2]
  try rw [h3]
  exact wk_forget 1 0 [1,52] (by kernel_rfl) (by kernel_rfl) (by kernel_rfl)
  have h3n := not_f h3
  refine xl_callS 2 [1,22,24] [(1,.p 0 0),(22,.v (.bool false)),(24,.v (.agg (optL c.o).toArray))] 85 [.agg (optL c.o).toArray] (some 25) (by kernel_rfl) rfl (by kernel_rfl) rfl (by kernel_rfl) (xc_b fun ww hf => sOptionsOk_c c.o.mss c.o.scale c.o.sack c.o.stamp c.o.val c.o.echo ww ) ?_
  intro _
  refine xl_runS 3 [1,28] [(1,.p 0 0),(28,.v (.bool (!(optionsOk c.o))))] (by kernel_rfl) ?_
  refine xl_split 28 (b := !(optionsOk c.o)) (by kernel_rfl) (fun h4 => ?_) (fun h4 => ?_)
  have h4n := not_t h4
  refine xl_endS [1,52] [(1,.p 0 0),(52,.v (.bool true))] (by kernel_rfl) ?_
  show Wk _ _
  try rw [h1]
  try rw [h2]
  try rw [h3]
  try rw [h4]
  exact wk_forget 1 0 [1,52] (by kernel_rfl) (by kernel_rfl) (by kernel_rfl)
  have h4n := not_f h4
  refine xl_callS 2 [1,28,30] [(1,.p 0 0),(28,.v (.bool false)),(30,.v (.int .i64 c.state))] 86 [.int .i64 c.state,.int .i64 1,.int .i64 8] (some 31) (by kernel_rfl) rfl (by kernel_rfl) rfl (by kernel_rfl) (xc_s fun ww hf => l1In_c c.state 1 8 ww ) ?_
  intro _
  refine xl_runS 3 [1,34] [(1,.p 0 0),(34,.v (.bool (!(inB c.state 1 8))))] (by kernel_rfl) ?_
  refine xl_split 34 (b := !(inB c.state 1 8)) (by kernel_rfl) (fun h5 => ?_) (fun h5 => ?_)
  have h5n := not_t h5
  refine xl_endS [1,52] [(1,.p 0 0),(52,.v (.bool true))] (by kernel_rfl) ?_
  show Wk _ _
  try rw [h1]
  try rw [h2]
  try rw [h3]
  try rw [h4]
  try rw [h5]
  exact wk_forget 1 0 [1,52] (by kernel_rfl) (by kernel_rfl) (by kernel_rfl)
  have h5n := not_f h5
  refine xl_callS 4 [1,34,36,38] [(1,.p 0 0),(34,.v (.bool false)),(36,.v (.int .i64 c.window)),(38,.v (.int .i64 c.most))] 86 [.int .i64 c.window,.int .i64 0,.int .i64 c.most] (some 39) (by kernel_rfl) rfl (by kernel_rfl) rfl (by kernel_rfl) (xc_s fun ww hf => l1In_c c.window 0 c.most ww ) ?_
  intro _
  refine xl_runS 3 [1,42] [(1,.p 0 0),(42,.v (.bool (!(inB c.window 0 c.most))))] (by kernel_rfl) ?_
  refine xl_split 42 (b := !(inB c.window 0 c.most)) (by kernel_rfl) (fun h6 => ?_) (fun h6 => ?_)
  have h6n := not_t h6
  refine xl_endS [1,52] [(1,.p 0 0),(52,.v (.bool true))] (by kernel_rfl) ?_
  show Wk _ _
  try rw [h1]
  try rw [h2]
  try rw [h3]
  try rw [h4]
  try rw [h5]
  try rw [h6]
  exact wk_forget 1 0 [1,52] (by kernel_rfl) (by kernel_rfl) (by kernel_rfl)
  have h6n := not_f h6
  refine xl_runS 5 [1,47] [(1,.p 0 0),(47,.v (.bool (decide (c.most > 1073725440))))] (by kernel_rfl) ?_
  refine xl_split 47 (b := decide (c.most > 1073725440)) (by kernel_rfl) (fun h7 => ?_) (fun h7 => ?_)
  have h7p : (c.most > 1073725440) := of_decide_eq_true h7
  refine xl_endS [1,52] [(1,.p 0 0),(52,.v (.bool true))] (by kernel_rfl) ?_
  show Wk _ _
  try rw [h1]
  try rw [h2]
  try rw [h3]
  try rw [h4]
  try rw [h5]
  try rw [h6]
  try rw [h7]
  exact wk_forget 1 0 [1,52] (by kernel_rfl) (by kernel_rfl) (by kernel_rfl)
  have h7p : ¬ (c.most > 1073725440) := of_decide_eq_false h7
  refine xl_callS 2 [1,47,49] [(1,.p 0 0),(47,.v (.bool false)),(49,.v (.int .i64 c.tries))] 86 [.int .i64 c.tries,.int .i64 0,.int .i64 3] (some 50) (by kernel_rfl) rfl (by kernel_rfl) rfl (by kernel_rfl) (xc_s fun ww hf => l1In_c c.tries 0 3 ww ) ?_
  intro _
  refine xl_endS [1,52] [(1,.p 0 0),(52,.v (.bool (!(inB c.tries 0 3))))] (by kernel_rfl) ?_
  show Wk _ _
  try rw [h1]
  try rw [h2]
  try rw [h3]
  try rw [h4]
  try rw [h5]
  try rw [h6]
  try rw [h7]
  exact wk_forget 1 0 [1,52] (by kernel_rfl) (by kernel_rfl) (by kernel_rfl)
  refine xw_cond (b := (!(tupleOk c.t)) || ((!(senderOk c.s)) || ((!(receiverOk c.r)) || ((!(optionsOk c.o)) || ((!(inB c.state 1 8)) || ((!(inB c.window 0 c.most)) || ((decide (c.most > 1073725440)) || (!(inB c.tries 0 3))))))))) (by kernel_rfl) (fun h8 => ?_) (fun h8 => ?_)
  refine xw_seq ?_
  refine xw_region ?_
  refine xl_endS [2] [(2,.v (.bool false))] (by kernel_rfl) ?_
  refine xw_ret ?_
  exact ⟨[.bool false],by kernel_rfl,fun w' hb hf => ⟨ret_bool (show (false : Bool) = conOk c from by first | rfl | (simp [conOk,conPre,conMid,stateFits, *]; done) | (clear hm hf hb; simp_all [conOk,conPre,conMid,stateFits]; done) | grind [conOk,conPre,conMid,stateFits,inB]),hb⟩⟩
  have h8l := or_l h8
  have h8ln := not_f h8l
  have h8r := or_r h8
  have h8rl := or_l h8r
  have h8rln := not_f h8rl
  have h8rr := or_r h8r
  have h8rrl := or_l h8rr
  have h8rrln := not_f h8rrl
  have h8rrr := or_r h8rr
  have h8rrrl := or_l h8rrr
  have h8rrrln := not_f h8rrrl
  have h8rrrr := or_r h8rrr
  have h8rrrrl := or_l h8rrrr
  have h8rrrrln := not_f h8rrrrl
  have h8rrrrr := or_r h8rrrr
  have h8rrrrrl := or_l h8rrrrr
  have h8rrrrrln := not_f h8rrrrrl
  have h8rrrrrr := or_r h8rrrrr
  have h8rrrrrrl := or_l h8rrrrrr
  have h8rrrrrrr := or_r h8rrrrrr
  have h8rrrrrrrn := not_f h8rrrrrrr
  refine xw_skip ?_
  refine xw_seq ?_
  refine xw_region ?_
  refine xl_endS [1,3] [(1,.p 0 0),(3,.v (.int .i64 3))] (by kernel_rfl) ?_
  refine xw_seq ?_
  refine xw_seq ?_
  refine xw_region ?_
  refine xl_endS [1,3,55] [(1,.p 0 0),(3,.v (.int .i64 3)),(55,.v (.bool (c.state == 7)))] (by kernel_rfl) ?_
  refine xw_join ⟨[(1,.p 0 0),(3,.v (.int .i64 (if (c.state == 7) = true then 4 else 3)))],[⟨42,conL c (.slice Acrh c.r.held.length Ccrh)⟩],[],[slF (.slice Acrh c.r.held.length Ccrh) 2 (c.r.held.map pceCells)]⟩ ?_ ?_
  refine xw_cond (b := c.state == 7) (by kernel_rfl) (fun h9 => ?_) (fun h9 => ?_)
  have h9p := eqT h9
  refine xw_region ?_
  refine xl_endS [1,3] [(1,.p 0 0),(3,.v (.int .i64 4))] (by kernel_rfl) ?_
  show Wk _ _; rw [h9]; exact wk_forget 1 0 [1,3] (by kernel_rfl) (by kernel_rfl) (by kernel_rfl)
  have h9p := eqF h9
  refine xw_skip ?_
  show Wk _ _; rw [h9]; exact wk_forget 1 0 [1,3] (by kernel_rfl) (by kernel_rfl) (by kernel_rfl)
  refine xw_seq ?_
  refine xw_seq ?_
  refine xw_region ?_
  refine xl_callS 3 [1,57,58] [(1,.p 0 0),(57,.v (.int .i64 c.timer)),(58,.v (.int .i64 (if (c.state == 7) = true then 4 else 3)))] 86 [.int .i64 c.timer,.int .i64 0,.int .i64 (if (c.state == 7) = true then 4 else 3)] (some 59) (by kernel_rfl) rfl (by kernel_rfl) rfl (by kernel_rfl) (xc_s fun ww hf => l1In_c c.timer 0 (if (c.state == 7) = true then 4 else 3) ww ) ?_
  intro _
  refine xl_endS [1,60] [(1,.p 0 0),(60,.v (.bool (!(inB c.timer 0 (if (c.state == 7) = true then 4 else 3)))))] (by kernel_rfl) ?_
  refine xw_cond (b := !(inB c.timer 0 (if (c.state == 7) = true then 4 else 3))) (by kernel_rfl) (fun h10 => ?_) (fun h10 => ?_)
  have h10n := not_t h10
  have h10np := h10n; simp only [beq_iff_eq,bne_iff_ne,beq_eq_false_iff_ne,bne_eq_false_iff_eq,ne_eq,toList_lit0] at h10np
  refine xw_seq ?_
  refine xw_region ?_
  refine xl_endS [2] [(2,.v (.bool false))] (by kernel_rfl) ?_
  refine xw_ret ?_
  exact ⟨[.bool false],by kernel_rfl,fun w' hb hf => ⟨ret_bool (show (false : Bool) = conOk c from by first | rfl | (simp [conOk,conPre,conMid,stateFits, *]; done) | (clear hm hf hb; simp_all [conOk,conPre,conMid,stateFits]; done) | grind [conOk,conPre,conMid,stateFits,inB]),hb⟩⟩
  have h10n := not_f h10
  have h10np := h10n; simp only [beq_iff_eq,bne_iff_ne,beq_eq_false_iff_ne,bne_eq_false_iff_eq,ne_eq,toList_lit0] at h10np
  refine xw_skip ?_
  refine xw_seq ?_
  refine xw_seq ?_
  refine xw_region ?_
  refine xl_endS [1,63] [(1,.p 0 0),(63,.v (.bool (c.state == 8)))] (by kernel_rfl) ?_
  refine xw_cond (b := c.state == 8) (by kernel_rfl) (fun h11 => ?_) (fun h11 => ?_)
  have h11p := eqT h11
  refine xw_seq ?_
  refine xw_region ?_
  refine xl_endS [2] [(2,.v (.bool true))] (by kernel_rfl) ?_
  refine xw_ret ?_
  exact ⟨[.bool true],by kernel_rfl,fun w' hb hf => ⟨ret_bool (show (true : Bool) = conOk c from by first | rfl | (simp [conOk,conPre,conMid,stateFits, *]; done) | (clear hm hf hb; simp_all [conOk,conPre,conMid,stateFits]; done) | grind [conOk,conPre,conMid,stateFits,inB]),hb⟩⟩
  have h11p := eqF h11
  refine xw_skip ?_
  refine xw_seq ?_
  refine xw_join ⟨[(1,.p 0 0),(4,.v (.bool ((c.state == 3) || (c.state == 7))))],[⟨42,conL c (.slice Acrh c.r.held.length Ccrh)⟩],[],[slF (.slice Acrh c.r.held.length Ccrh) 2 (c.r.held.map pceCells)]⟩ ?_ ?_
  refine xw_region ?_
  refine xl_runS 4 [1,67] [(1,.p 0 0),(67,.v (.bool (c.state == 3)))] (by kernel_rfl) ?_
  refine xl_split 67 (b := c.state == 3) (by kernel_rfl) (fun h12 => ?_) (fun h12 => ?_)
  have h12p := eqT h12
  refine xl_endS [1,4] [(1,.p 0 0),(4,.v (.bool true))] (by kernel_rfl) ?_
  show Wk _ _
  try rw [h12]
  exact wk_forget 1 0 [1,4] (by kernel_rfl) (by kernel_rfl) (by kernel_rfl)
  have h12p := eqF h12
  refine xl_endS [1,4] [(1,.p 0 0),(4,.v (.bool (c.state == 7)))] (by kernel_rfl) ?_
  show Wk _ _
  try rw [h12]
  exact wk_forget 1 0 [1,4] (by kernel_rfl) (by kernel_rfl) (by kernel_rfl)
  refine xw_seq ?_
  refine xw_join ⟨[(1,.p 0 0),(4,.v (.bool ((c.state == 3) || (c.state == 7)))),(5,.v (.bool ((c.state == 4) || (decide (c.state ≥ 5)))))],[⟨42,conL c (.slice Acrh c.r.held.length Ccrh)⟩],[],[slF (.slice Acrh c.r.held.length Ccrh) 2 (c.r.held.map pceCells)]⟩ ?_ ?_
  refine xw_region ?_
  refine xl_runS 4 [1,4,75] [(1,.p 0 0),(4,.v (.bool ((c.state == 3) || (c.state == 7)))),(75,.v (.bool (c.state == 4)))] (by kernel_rfl) ?_
  refine xl_split 75 (b := c.state == 4) (by kernel_rfl) (fun h13 => ?_) (fun h13 => ?_)
  have h13p := eqT h13
  refine xl_endS [1,4,5] [(1,.p 0 0),(4,.v (.bool ((c.state == 3) || (c.state == 7)))),(5,.v (.bool true))] (by kernel_rfl) ?_
  show Wk _ _
  try rw [h13]
  exact wk_forget 1 0 [1,4,5] (by kernel_rfl) (by kernel_rfl) (by kernel_rfl)
  have h13p := eqF h13
  refine xl_endS [1,4,5] [(1,.p 0 0),(4,.v (.bool ((c.state == 3) || (c.state == 7)))),(5,.v (.bool (decide (c.state ≥ 5))))] (by kernel_rfl) ?_
  show Wk _ _
  try rw [h13]
  exact wk_forget 1 0 [1,4,5] (by kernel_rfl) (by kernel_rfl) (by kernel_rfl)
  refine xw_seq ?_
  refine xw_join ⟨[(2,.v (.bool ((c.s.fin == (decide (c.state ≠ 1 ∧ c.state ≠ 4))) && ((c.s.done == ((c.state == 3) || (c.state == 7))) && (c.r.done == ((c.state == 4) || (decide (c.state ≥ 5))))))))],[⟨42,conL c (.slice Acrh c.r.held.length Ccrh)⟩],[],[slF (.slice Acrh c.r.held.length Ccrh) 2 (c.r.held.map pceCells)]⟩ ?_ ?_
  refine xe_region [] (by kernel_rfl) (fun ρ σ => ?_)
  refine xe_tkS [0,1,2,3,4] [84,82,1,4,5] 17 [(84,.v (.int .i64 c.state)),(82,.v (.bool c.s.fin)),(1,.p 0 0),(4,.v (.bool ((c.state == 3) || (c.state == 7)))),(5,.v (.bool ((c.state == 4) || (decide (c.state ≥ 5)))))] (fun _ _ h => h) rfl (by kernel_rfl) ?_
  refine xe_all [5] (by kernel_rfl) (by simp) ?_
  refine xs_call 5 131 [.int .i64 c.state] (some 85) rfl (by kernel_rfl) rfl (by kernel_rfl) (xc_b fun ww hf => l19Fin_c c.state ww ) ?_
  intro _
  refine xe_tkS [6,7] [87,1,4,5] 14 [(87,.v (.bool (c.s.fin == (decide (c.state ≠ 1 ∧ c.state ≠ 4))))),(1,.p 0 0),(4,.v (.bool ((c.state == 3) || (c.state == 7)))),(5,.v (.bool ((c.state == 4) || (decide (c.state ≥ 5)))))] (fun _ _ h => h) rfl (by kernel_rfl) ?_
  refine xe_split 87 (b := c.s.fin == (decide (c.state ≠ 1 ∧ c.state ≠ 4))) (by kernel_rfl) (fun h14 => ?_) (fun h14 => ?_)
  have h14p := eqT h14
  refine xe_tkS [8,9,10,11,12,13,14] [94,1,5] 7 [(94,.v (.bool (c.s.done == ((c.state == 3) || (c.state == 7))))),(1,.p 0 0),(5,.v (.bool ((c.state == 4) || (decide (c.state ≥ 5)))))] (fun _ _ h => h) rfl (by kernel_rfl) ?_
  refine xe_split 94 (b := c.s.done == ((c.state == 3) || (c.state == 7))) (by kernel_rfl) (fun h15 => ?_) (fun h15 => ?_)
  have h15p := eqT h15
  refine xe_tkS [15,16,17,18,19,20,21] [2] 0 [(2,.v (.bool (c.r.done == ((c.state == 4) || (decide (c.state ≥ 5))))))] (fun _ _ h => h) rfl (by kernel_rfl) ?_
  refine xe_done (by kernel_rfl) ?_
  show Wk _ _
  try rw [h14]
  try rw [h15]
  exact wk_forget 1 0 [2] (by kernel_rfl) (by kernel_rfl) (by kernel_rfl)
  have h15p := eqF h15
  refine xe_tkS [15,16,17,18,19,20,21] [2] 0 [(2,.v (.bool false))] (fun _ _ h => h) rfl (by kernel_rfl) ?_
  refine xe_done (by kernel_rfl) ?_
  show Wk _ _
  try rw [h14]
  try rw [h15]
  exact wk_forget 1 0 [2] (by kernel_rfl) (by kernel_rfl) (by kernel_rfl)
  have h14p := eqF h14
  refine xe_tkS [8,9,10,11,12,13,14,15,16,17,18,19,20,21] [2] 0 [(2,.v (.bool false))] (fun _ _ h => h) rfl (by kernel_rfl) ?_
  refine xe_done (by kernel_rfl) ?_
  show Wk _ _
  try rw [h14]
  exact wk_forget 1 0 [2] (by kernel_rfl) (by kernel_rfl) (by kernel_rfl)
  refine xw_ret ?_
  exact ⟨[.bool ((c.s.fin == (decide (c.state ≠ 1 ∧ c.state ≠ 4))) && ((c.s.done == ((c.state == 3) || (c.state == 7))) && (c.r.done == ((c.state == 4) || (decide (c.state ≥ 5))))))],by kernel_rfl,fun w' hb hf => ⟨ret_bool (show ((c.s.fin == (decide (c.state ≠ 1 ∧ c.state ≠ 4))) && ((c.s.done == ((c.state == 3) || (c.state == 7))) && (c.r.done == ((c.state == 4) || (decide (c.state ≥ 5))))) : Bool) = conOk c from by first | rfl | (simp [conOk,conPre,conMid,stateFits, *]; done) | (clear hm hf hb; simp_all [conOk,conPre,conMid,stateFits]; done) | grind [conOk,conPre,conMid,stateFits,inB]),hb⟩⟩
theorem yiConnOk_c (c : Con) (c_r_heldV : Value) (w : World) (hl_c_r_heldV : Sl w c_r_heldV 2 (c.r.held.map pceCells)) (hm : ∀ p ∈ c.r.held, p.text.size ≤ 1048576) (hsz : c.r.data.size ≤ 4611686018427387904) : Calls Try.prog 70 #[.agg (conL c c_r_heldV).toArray] w fun e w' => e = .returned (.bool (conOk c)) ∧ Below w.heap.size w w' := by
  obtain ⟨Acrh,Ccrh,hvcrh⟩ := hl_c_r_heldV.form
  rw [List.length_map] at hvcrh; subst hvcrh
  have hncrh := hl_c_r_heldV.len; rw [List.length_map] at hncrh
  refine x_calls (args := [.agg (conL c (.slice Acrh c.r.held.length Ccrh)).toArray]) (fn := Try.f70) [slF (.slice Acrh c.r.held.length Ccrh) 2 (c.r.held.map pceCells)] Try.func70 rfl Try.ntmps70 rfl (by simp only [List.mem_cons,List.not_mem_nil,or_false,forall_eq_or_imp,forall_eq]; exact ⟨rfl,hl_c_r_heldV⟩) ?_
  refine xw_seq ?_
  refine xw_region ?_
  refine xl_end [1] ⟨[(1,.p 0 0)],[⟨42,conL c (.slice Acrh c.r.held.length Ccrh)⟩],[],[slF (.slice Acrh c.r.held.length Ccrh) 2 (c.r.held.map pceCells)]⟩ (by kernel_rfl) ?_
  refine xw_seq ?_
  refine xw_seq ?_
  refine xw_join ⟨[(1,.p 0 0),(34,.v (.bool ((!(tupleOk c.t)) || ((!(senderOk c.s)) || ((!(receiverOk c.r)) || ((!(optionsOk c.o)) || (!(inB c.state 1 8))))))))],[⟨42,conL c (.slice Acrh c.r.held.length Ccrh)⟩],[],[slF (.slice Acrh c.r.held.length Ccrh) 2 (c.r.held.map pceCells)]⟩ ?_ ?_
  refine xw_region ?_
  refine xl_callS 2 [1,8] [(1,.p 0 0),(8,.v (.agg (tupL c.t).toArray))] 89 [.agg (tupL c.t).toArray] (some 9) (by kernel_rfl) rfl (by kernel_rfl) rfl (by kernel_rfl) (xc_b fun ww hf => iTupleOk_c c.t.ip c.t.port c.t.my ww ) ?_
  intro _
  refine xl_runS 2 [1,11] [(1,.p 0 0),(11,.v (.bool (!(tupleOk c.t))))] (by kernel_rfl) ?_
  refine xl_split 11 (b := !(tupleOk c.t)) (by kernel_rfl) (fun h1 => ?_) (fun h1 => ?_)
  have h1n := not_t h1
  refine xl_endS [1,34] [(1,.p 0 0),(34,.v (.bool true))] (by kernel_rfl) ?_
  show Wk _ _
  try rw [h1]
  exact wk_forget 1 0 [1,34] (by kernel_rfl) (by kernel_rfl) (by kernel_rfl)
  have h1n := not_f h1
  refine xl_callS 2 [1,11,13] [(1,.p 0 0),(11,.v (.bool false)),(13,.v (.agg (sndL c.s).toArray))] 135 [.agg (sndL c.s).toArray] (some 14) (by kernel_rfl) rfl (by kernel_rfl) rfl (by kernel_rfl) (xc_b fun ww hf => iSenderOk_c c.s.una c.s.data c.s.sent c.s.fin c.s.finSent c.s.done ww ) ?_
  intro _
  refine xl_runS 3 [1,17] [(1,.p 0 0),(17,.v (.bool (!(senderOk c.s))))] (by kernel_rfl) ?_
  refine xl_split 17 (b := !(senderOk c.s)) (by kernel_rfl) (fun h2 => ?_) (fun h2 => ?_)
  have h2n := not_t h2
  refine xl_endS [1,34] [(1,.p 0 0),(34,.v (.bool true))] (by kernel_rfl) ?_
  show Wk _ _
  try rw [h1]
  try rw [h2]
  exact wk_forget 1 0 [1,34] (by kernel_rfl) (by kernel_rfl) (by kernel_rfl)
  have h2n := not_f h2
  refine xl_callS 2 [1,17,19] [(1,.p 0 0),(17,.v (.bool false)),(19,.v (.agg (rcvL c.r (.slice Acrh c.r.held.length Ccrh)).toArray))] 136 [.agg (rcvL c.r (.slice Acrh c.r.held.length Ccrh)).toArray] (some 20) (by kernel_rfl) rfl (by kernel_rfl) rfl (by kernel_rfl) (xc_b fun ww hf => yiReceiverOk_c c.r (.slice Acrh c.r.held.length Ccrh) ww (hf (slF (.slice Acrh c.r.held.length Ccrh) 2 (c.r.held.map pceCells)) (by simp)) (by assumption) (by omega)) ?_
  intro _
  refine xl_runS 3 [1,23] [(1,.p 0 0),(23,.v (.bool (!(receiverOk c.r))))] (by kernel_rfl) ?_
  refine xl_split 23 (b := !(receiverOk c.r)) (by kernel_rfl) (fun h3 => ?_) (fun h3 => ?_)
  have h3n := not_t h3
  refine xl_endS [1,34] [(1,.p 0 0),(34,.v (.bool true))] (by kernel_rfl) ?_
  show Wk _ _
  try rw [h1]
  try rw [h2]
  try rw [h3]
  exact wk_forget 1 0 [1,34] (by kernel_rfl) (by kernel_rfl) (by kernel_rfl)
  have h3n := not_f h3
  refine xl_callS 2 [1,23,25] [(1,.p 0 0),(23,.v (.bool false)),(25,.v (.agg (optL c.o).toArray))] 91 [.agg (optL c.o).toArray] (some 26) (by kernel_rfl) rfl (by kernel_rfl) rfl (by kernel_rfl) (xc_b fun ww hf => iOptionsOk_c c.o.mss c.o.scale c.o.sack c.o.stamp c.o.val c.o.echo ww ) ?_
  intro _
  refine xl_runS 3 [1,29] [(1,.p 0 0),(29,.v (.bool (!(optionsOk c.o))))] (by kernel_rfl) ?_
  refine xl_split 29 (b := !(optionsOk c.o)) (by kernel_rfl) (fun h4 => ?_) (fun h4 => ?_)
  have h4n := not_t h4
  refine xl_endS [1,34] [(1,.p 0 0),(34,.v (.bool true))] (by kernel_rfl) ?_
  show Wk _ _
  try rw [h1]
  try rw [h2]
  try rw [h3]
  try rw [h4]
  exact wk_forget 1 0 [1,34] (by kernel_rfl) (by kernel_rfl) (by kernel_rfl)
  have h4n := not_f h4
  refine xl_callS 2 [1,29,31] [(1,.p 0 0),(29,.v (.bool false)),(31,.v (.int .i64 c.state))] 92 [.int .i64 c.state,.int .i64 1,.int .i64 8] (some 32) (by kernel_rfl) rfl (by kernel_rfl) rfl (by kernel_rfl) (xc_s fun ww hf => within_c c.state 1 8 ww ) ?_
  intro _
  refine xl_endS [1,34] [(1,.p 0 0),(34,.v (.bool (!(inB c.state 1 8))))] (by kernel_rfl) ?_
  show Wk _ _
  try rw [h1]
  try rw [h2]
  try rw [h3]
  try rw [h4]
  exact wk_forget 1 0 [1,34] (by kernel_rfl) (by kernel_rfl) (by kernel_rfl)
  refine xw_cond (b := (!(tupleOk c.t)) || ((!(senderOk c.s)) || ((!(receiverOk c.r)) || ((!(optionsOk c.o)) || (!(inB c.state 1 8)))))) (by kernel_rfl) (fun h5 => ?_) (fun h5 => ?_)
  refine xw_seq ?_
  refine xw_region ?_
  refine xl_endS [2] [(2,.v (.bool false))] (by kernel_rfl) ?_
  refine xw_ret ?_
  exact ⟨[.bool false],by kernel_rfl,fun w' hb hf => ⟨ret_bool (show (false : Bool) = conOk c from by first | rfl | (simp [conOk,conPre,conMid,stateFits, *]; done) | (clear hm hf hb; simp_all [conOk,conPre,conMid,stateFits]; done) | grind [conOk,conPre,conMid,stateFits,inB]),hb⟩⟩
  have h5l := or_l h5
  have h5ln := not_f h5l
  have h5r := or_r h5
  have h5rl := or_l h5r
  have h5rln := not_f h5rl
  have h5rr := or_r h5r
  have h5rrl := or_l h5rr
  have h5rrln := not_f h5rrl
  have h5rrr := or_r h5rr
  have h5rrrl := or_l h5rrr
  have h5rrrln := not_f h5rrrl
  have h5rrrr := or_r h5rrr
  have h5rrrrn := not_f h5rrrr
  refine xw_skip ?_
  refine xw_seq ?_
  refine xw_region ?_
  refine xl_endS [1,3] [(1,.p 0 0),(3,.v (.int .i64 3))] (by kernel_rfl) ?_
  refine xw_seq ?_
  refine xw_seq ?_
  refine xw_region ?_
  refine xl_endS [1,3,37] [(1,.p 0 0),(3,.v (.int .i64 3)),(37,.v (.bool (c.state == 7)))] (by kernel_rfl) ?_
  refine xw_join ⟨[(1,.p 0 0),(3,.v (.int .i64 (if (c.state == 7) = true then 4 else 3)))],[⟨42,conL c (.slice Acrh c.r.held.length Ccrh)⟩],[],[slF (.slice Acrh c.r.held.length Ccrh) 2 (c.r.held.map pceCells)]⟩ ?_ ?_
  refine xw_cond (b := c.state == 7) (by kernel_rfl) (fun h6 => ?_) (fun h6 => ?_)
  have h6p := eqT h6
  refine xw_region ?_
  refine xl_endS [1,3] [(1,.p 0 0),(3,.v (.int .i64 4))] (by kernel_rfl) ?_
  show Wk _ _; rw [h6]; exact wk_forget 1 0 [1,3] (by kernel_rfl) (by kernel_rfl) (by kernel_rfl)
  have h6p := eqF h6
  refine xw_skip ?_
  show Wk _ _; rw [h6]; exact wk_forget 1 0 [1,3] (by kernel_rfl) (by kernel_rfl) (by kernel_rfl)
  refine xw_seq ?_
  refine xw_seq ?_
  refine xw_join ⟨[(1,.p 0 0),(62,.v (.bool ((!(inB c.most 0 1073725440)) || ((!(inB c.window 0 c.most)) || ((!(inB c.timer 0 (if (c.state == 7) = true then 4 else 3))) || (!(inB c.tries 0 3)))))))],[⟨42,conL c (.slice Acrh c.r.held.length Ccrh)⟩],[],[slF (.slice Acrh c.r.held.length Ccrh) 2 (c.r.held.map pceCells)]⟩ ?_ ?_
  refine xw_region ?_
  refine xl_callS 2 [1,3,39] [(1,.p 0 0),(3,.v (.int .i64 (if (c.state == 7) = true then 4 else 3))),(39,.v (.int .i64 c.most))] 92 [.int .i64 c.most,.int .i64 0,.int .i64 1073725440] (some 40) (by kernel_rfl) rfl (by kernel_rfl) rfl (by kernel_rfl) (xc_s fun ww hf => within_c c.most 0 1073725440 ww ) ?_
  intro _
  refine xl_runS 2 [1,3,42] [(1,.p 0 0),(3,.v (.int .i64 (if (c.state == 7) = true then 4 else 3))),(42,.v (.bool (!(inB c.most 0 1073725440))))] (by kernel_rfl) ?_
  refine xl_split 42 (b := !(inB c.most 0 1073725440)) (by kernel_rfl) (fun h7 => ?_) (fun h7 => ?_)
  have h7n := not_t h7
  refine xl_endS [1,62] [(1,.p 0 0),(62,.v (.bool true))] (by kernel_rfl) ?_
  show Wk _ _
  try rw [h7]
  exact wk_forget 1 0 [1,62] (by kernel_rfl) (by kernel_rfl) (by kernel_rfl)
  have h7n := not_f h7
  refine xl_callS 4 [1,3,42,44,46] [(1,.p 0 0),(3,.v (.int .i64 (if (c.state == 7) = true then 4 else 3))),(42,.v (.bool false)),(44,.v (.int .i64 c.window)),(46,.v (.int .i64 c.most))] 92 [.int .i64 c.window,.int .i64 0,.int .i64 c.most] (some 47) (by kernel_rfl) rfl (by kernel_rfl) rfl (by kernel_rfl) (xc_s fun ww hf => within_c c.window 0 c.most ww ) ?_
  intro _
  refine xl_runS 3 [1,3,50] [(1,.p 0 0),(3,.v (.int .i64 (if (c.state == 7) = true then 4 else 3))),(50,.v (.bool (!(inB c.window 0 c.most))))] (by kernel_rfl) ?_
  refine xl_split 50 (b := !(inB c.window 0 c.most)) (by kernel_rfl) (fun h8 => ?_) (fun h8 => ?_)
  have h8n := not_t h8
  refine xl_endS [1,62] [(1,.p 0 0),(62,.v (.bool true))] (by kernel_rfl) ?_
  show Wk _ _
  try rw [h7]
  try rw [h8]
  exact wk_forget 1 0 [1,62] (by kernel_rfl) (by kernel_rfl) (by kernel_rfl)
  have h8n := not_f h8
  refine xl_callS 3 [1,50,52,53] [(1,.p 0 0),(50,.v (.bool false)),(52,.v (.int .i64 c.timer)),(53,.v (.int .i64 (if (c.state == 7) = true then 4 else 3)))] 92 [.int .i64 c.timer,.int .i64 0,.int .i64 (if (c.state == 7) = true then 4 else 3)] (some 54) (by kernel_rfl) rfl (by kernel_rfl) rfl (by kernel_rfl) (xc_s fun ww hf => within_c c.timer 0 (if (c.state == 7) = true then 4 else 3) ww ) ?_
  intro _
  refine xl_runS 3 [1,57] [(1,.p 0 0),(57,.v (.bool (!(inB c.timer 0 (if (c.state == 7) = true then 4 else 3)))))] (by kernel_rfl) ?_
  refine xl_split 57 (b := !(inB c.timer 0 (if (c.state == 7) = true then 4 else 3))) (by kernel_rfl) (fun h9 => ?_) (fun h9 => ?_)
  have h9n := not_t h9
  have h9np := h9n; simp only [beq_iff_eq,bne_iff_ne,beq_eq_false_iff_ne,bne_eq_false_iff_eq,ne_eq,toList_lit0] at h9np
  refine xl_endS [1,62] [(1,.p 0 0),(62,.v (.bool true))] (by kernel_rfl) ?_
  show Wk _ _
  try rw [h7]
  try rw [h8]
  try rw [h9]
  exact wk_forget 1 0 [1,62] (by kernel_rfl) (by kernel_rfl) (by kernel_rfl)
  have h9n := not_f h9
  have h9np := h9n; simp only [beq_iff_eq,bne_iff_ne,beq_eq_false_iff_ne,bne_eq_false_iff_eq,ne_eq,toList_lit0] at h9np
  refine xl_callS 2 [1,57,59] [(1,.p 0 0),(57,.v (.bool false)),(59,.v (.int .i64 c.tries))] 92 [.int .i64 c.tries,.int .i64 0,.int .i64 3] (some 60) (by kernel_rfl) rfl (by kernel_rfl) rfl (by kernel_rfl) (xc_s fun ww hf => within_c c.tries 0 3 ww ) ?_
  intro _
  refine xl_endS [1,62] [(1,.p 0 0),(62,.v (.bool (!(inB c.tries 0 3))))] (by kernel_rfl) ?_
  show Wk _ _
  try rw [h7]
  try rw [h8]
  try rw [h9]
  exact wk_forget 1 0 [1,62] (by kernel_rfl) (by kernel_rfl) (by kernel_rfl)
  refine xw_cond (b := (!(inB c.most 0 1073725440)) || ((!(inB c.window 0 c.most)) || ((!(inB c.timer 0 (if (c.state == 7) = true then 4 else 3))) || (!(inB c.tries 0 3))))) (by kernel_rfl) (fun h10 => ?_) (fun h10 => ?_)
  refine xw_seq ?_
  refine xw_region ?_
  refine xl_endS [2] [(2,.v (.bool false))] (by kernel_rfl) ?_
  refine xw_ret ?_
  exact ⟨[.bool false],by kernel_rfl,fun w' hb hf => ⟨ret_bool (show (false : Bool) = conOk c from by first | rfl | (simp [conOk,conPre,conMid,stateFits, *]; done) | (clear hm hf hb; simp_all [conOk,conPre,conMid,stateFits]; done) | grind [conOk,conPre,conMid,stateFits,inB]),hb⟩⟩
  have h10l := or_l h10
  have h10ln := not_f h10l
  have h10r := or_r h10
  have h10rl := or_l h10r
  have h10rln := not_f h10rl
  have h10rr := or_r h10r
  have h10rrl := or_l h10rr
  have h10rrln := not_f h10rrl
  have h10rrlnp := h10rrln; simp only [beq_iff_eq,bne_iff_ne,beq_eq_false_iff_ne,bne_eq_false_iff_eq,ne_eq,toList_lit0] at h10rrlnp
  have h10rrr := or_r h10rr
  have h10rrrn := not_f h10rrr
  refine xw_skip ?_
  refine xw_seq ?_
  refine xe_region [] (by kernel_rfl) (fun ρ σ => ?_)
  refine xe_tkS [0,1,2,3,4,5,6,7,8,9,10,11] [6,5,4,1] 0 [(6,.v (.bool c.r.done)),(5,.v (.bool c.s.done)),(4,.v (.bool c.s.fin)),(1,.p 0 0)] (fun _ _ h => h) rfl (by kernel_rfl) ?_
  refine xe_done (by kernel_rfl) ?_
  refine xw_seq ?_
  refine xw_seq ?_
  refine xw_region ?_
  refine xl_endS [4,5,6,73] [(4,.v (.bool c.s.fin)),(5,.v (.bool c.s.done)),(6,.v (.bool c.r.done)),(73,.v (.int .i64 c.state))] (by kernel_rfl) ?_
  refine xw_block ?_
  refine xw_seq ?_
  refine xw_region ?_
  refine xl_endS [4,5,6,73,74] [(4,.v (.bool c.s.fin)),(5,.v (.bool c.s.done)),(6,.v (.bool c.r.done)),(73,.v (.int .i64 c.state)),(74,.v (.bool (c.state == 1)))] (by kernel_rfl) ?_
  refine xw_cond (b := c.state == 1) (by kernel_rfl) (fun h11 => ?_) (fun h11 => ?_)
  have h11p := eqT h11
  refine xw_seq ?_
  refine xw_join ⟨[(2,.v (.bool ((!c.s.fin) && ((!c.s.done) && (!c.r.done)))))],[⟨42,conL c (.slice Acrh c.r.held.length Ccrh)⟩],[],[slF (.slice Acrh c.r.held.length Ccrh) 2 (c.r.held.map pceCells)]⟩ ?_ ?_
  refine xw_region ?_
  refine xl_runS 3 [5,6,78] [(5,.v (.bool c.s.done)),(6,.v (.bool c.r.done)),(78,.v (.bool (!c.s.fin)))] (by kernel_rfl) ?_
  refine xl_split 78 (b := !c.s.fin) (by kernel_rfl) (fun h12 => ?_) (fun h12 => ?_)
  have h12n := not_t h12
  refine xl_runS 4 [6,82] [(6,.v (.bool c.r.done)),(82,.v (.bool (!c.s.done)))] (by kernel_rfl) ?_
  refine xl_split 82 (b := !c.s.done) (by kernel_rfl) (fun h13 => ?_) (fun h13 => ?_)
  have h13n := not_t h13
  refine xl_endS [2] [(2,.v (.bool (!c.r.done)))] (by kernel_rfl) ?_
  show Wk _ _
  try rw [h12]
  try rw [h13]
  exact wk_forget 1 0 [2] (by kernel_rfl) (by kernel_rfl) (by kernel_rfl)
  have h13n := not_f h13
  refine xl_endS [2] [(2,.v (.bool false))] (by kernel_rfl) ?_
  show Wk _ _
  try rw [h12]
  try rw [h13]
  exact wk_forget 1 0 [2] (by kernel_rfl) (by kernel_rfl) (by kernel_rfl)
  have h12n := not_f h12
  refine xl_endS [2] [(2,.v (.bool false))] (by kernel_rfl) ?_
  show Wk _ _
  try rw [h12]
  exact wk_forget 1 0 [2] (by kernel_rfl) (by kernel_rfl) (by kernel_rfl)
  refine xw_ret ?_
  exact ⟨[.bool ((!c.s.fin) && ((!c.s.done) && (!c.r.done)))],by kernel_rfl,fun w' hb hf => ⟨ret_bool (show ((!c.s.fin) && ((!c.s.done) && (!c.r.done)) : Bool) = conOk c from by first | rfl | (simp [conOk,conPre,conMid,stateFits, *]; done) | (clear hm hf hb; simp_all [conOk,conPre,conMid,stateFits]; done) | grind [conOk,conPre,conMid,stateFits,inB]),hb⟩⟩
  have h11p := eqF h11
  refine xw_seq ?_
  refine xw_region ?_
  refine xl_endS [4,5,6,73,86] [(4,.v (.bool c.s.fin)),(5,.v (.bool c.s.done)),(6,.v (.bool c.r.done)),(73,.v (.int .i64 c.state)),(86,.v (.bool (c.state == 2)))] (by kernel_rfl) ?_
  refine xw_cond (b := c.state == 2) (by kernel_rfl) (fun h14 => ?_) (fun h14 => ?_)
  have h14p := eqT h14
  refine xw_seq ?_
  refine xw_join ⟨[(2,.v (.bool (c.s.fin && ((!c.s.done) && (!c.r.done)))))],[⟨42,conL c (.slice Acrh c.r.held.length Ccrh)⟩],[],[slF (.slice Acrh c.r.held.length Ccrh) 2 (c.r.held.map pceCells)]⟩ ?_ ?_
  refine xw_region ?_
  refine xl_runS 2 [5,6,89] [(5,.v (.bool c.s.done)),(6,.v (.bool c.r.done)),(89,.v (.bool c.s.fin))] (by kernel_rfl) ?_
  refine xl_split 89 (b := c.s.fin) (by kernel_rfl) (fun h15 => ?_) (fun h15 => ?_)
  refine xl_runS 4 [6,93] [(6,.v (.bool c.r.done)),(93,.v (.bool (!c.s.done)))] (by kernel_rfl) ?_
  refine xl_split 93 (b := !c.s.done) (by kernel_rfl) (fun h16 => ?_) (fun h16 => ?_)
  have h16n := not_t h16
  refine xl_endS [2] [(2,.v (.bool (!c.r.done)))] (by kernel_rfl) ?_
  show Wk _ _
  try rw [h15]
  try rw [h16]
  exact wk_forget 1 0 [2] (by kernel_rfl) (by kernel_rfl) (by kernel_rfl)
  have h16n := not_f h16
  refine xl_endS [2] [(2,.v (.bool false))] (by kernel_rfl) ?_
  show Wk _ _
  try rw [h15]
  try rw [h16]
  exact wk_forget 1 0 [2] (by kernel_rfl) (by kernel_rfl) (by kernel_rfl)
  refine xl_endS [2] [(2,.v (.bool false))] (by kernel_rfl) ?_
  show Wk _ _
  try rw [h15]
  exact wk_forget 1 0 [2] (by kernel_rfl) (by kernel_rfl) (by kernel_rfl)
  refine xw_ret ?_
  exact ⟨[.bool (c.s.fin && ((!c.s.done) && (!c.r.done)))],by kernel_rfl,fun w' hb hf => ⟨ret_bool (show (c.s.fin && ((!c.s.done) && (!c.r.done)) : Bool) = conOk c from by first | rfl | (simp [conOk,conPre,conMid,stateFits, *]; done) | (clear hm hf hb; simp_all [conOk,conPre,conMid,stateFits]; done) | grind [conOk,conPre,conMid,stateFits,inB]),hb⟩⟩
  have h14p := eqF h14
  refine xw_seq ?_
  refine xw_region ?_
  refine xl_endS [4,5,6,73,97] [(4,.v (.bool c.s.fin)),(5,.v (.bool c.s.done)),(6,.v (.bool c.r.done)),(73,.v (.int .i64 c.state)),(97,.v (.bool (c.state == 3)))] (by kernel_rfl) ?_
  refine xw_cond (b := c.state == 3) (by kernel_rfl) (fun h17 => ?_) (fun h17 => ?_)
  have h17p := eqT h17
  refine xw_seq ?_
  refine xw_join ⟨[(2,.v (.bool (c.s.fin && (c.s.done && (!c.r.done)))))],[⟨42,conL c (.slice Acrh c.r.held.length Ccrh)⟩],[],[slF (.slice Acrh c.r.held.length Ccrh) 2 (c.r.held.map pceCells)]⟩ ?_ ?_
  refine xw_region ?_
  refine xl_runS 2 [5,6,100] [(5,.v (.bool c.s.done)),(6,.v (.bool c.r.done)),(100,.v (.bool c.s.fin))] (by kernel_rfl) ?_
  refine xl_split 100 (b := c.s.fin) (by kernel_rfl) (fun h18 => ?_) (fun h18 => ?_)
  refine xl_runS 3 [6,103] [(6,.v (.bool c.r.done)),(103,.v (.bool c.s.done))] (by kernel_rfl) ?_
  refine xl_split 103 (b := c.s.done) (by kernel_rfl) (fun h19 => ?_) (fun h19 => ?_)
  refine xl_endS [2] [(2,.v (.bool (!c.r.done)))] (by kernel_rfl) ?_
  show Wk _ _
  try rw [h18]
  try rw [h19]
  exact wk_forget 1 0 [2] (by kernel_rfl) (by kernel_rfl) (by kernel_rfl)
  refine xl_endS [2] [(2,.v (.bool false))] (by kernel_rfl) ?_
  show Wk _ _
  try rw [h18]
  try rw [h19]
  exact wk_forget 1 0 [2] (by kernel_rfl) (by kernel_rfl) (by kernel_rfl)
  refine xl_endS [2] [(2,.v (.bool false))] (by kernel_rfl) ?_
  show Wk _ _
  try rw [h18]
  exact wk_forget 1 0 [2] (by kernel_rfl) (by kernel_rfl) (by kernel_rfl)
  refine xw_ret ?_
  exact ⟨[.bool (c.s.fin && (c.s.done && (!c.r.done)))],by kernel_rfl,fun w' hb hf => ⟨ret_bool (show (c.s.fin && (c.s.done && (!c.r.done)) : Bool) = conOk c from by first | rfl | (simp [conOk,conPre,conMid,stateFits, *]; done) | (clear hm hf hb; simp_all [conOk,conPre,conMid,stateFits]; done) | grind [conOk,conPre,conMid,stateFits,inB]),hb⟩⟩
  have h17p := eqF h17
  refine xw_seq ?_
  refine xw_region ?_
  refine xl_endS [4,5,6,73,107] [(4,.v (.bool c.s.fin)),(5,.v (.bool c.s.done)),(6,.v (.bool c.r.done)),(73,.v (.int .i64 c.state)),(107,.v (.bool (c.state == 4)))] (by kernel_rfl) ?_
  refine xw_cond (b := c.state == 4) (by kernel_rfl) (fun h20 => ?_) (fun h20 => ?_)
  have h20p := eqT h20
  refine xw_seq ?_
  refine xw_join ⟨[(2,.v (.bool ((!c.s.fin) && ((!c.s.done) && c.r.done))))],[⟨42,conL c (.slice Acrh c.r.held.length Ccrh)⟩],[],[slF (.slice Acrh c.r.held.length Ccrh) 2 (c.r.held.map pceCells)]⟩ ?_ ?_
  refine xw_region ?_
  refine xl_runS 3 [5,6,111] [(5,.v (.bool c.s.done)),(6,.v (.bool c.r.done)),(111,.v (.bool (!c.s.fin)))] (by kernel_rfl) ?_
  refine xl_split 111 (b := !c.s.fin) (by kernel_rfl) (fun h21 => ?_) (fun h21 => ?_)
  have h21n := not_t h21
  refine xl_runS 4 [6,115] [(6,.v (.bool c.r.done)),(115,.v (.bool (!c.s.done)))] (by kernel_rfl) ?_
  refine xl_split 115 (b := !c.s.done) (by kernel_rfl) (fun h22 => ?_) (fun h22 => ?_)
  have h22n := not_t h22
  refine xl_endS [2] [(2,.v (.bool c.r.done))] (by kernel_rfl) ?_
  show Wk _ _
  try rw [h21]
  try rw [h22]
  exact wk_forget 1 0 [2] (by kernel_rfl) (by kernel_rfl) (by kernel_rfl)
  have h22n := not_f h22
  refine xl_endS [2] [(2,.v (.bool false))] (by kernel_rfl) ?_
  show Wk _ _
  try rw [h21]
  try rw [h22]
  exact wk_forget 1 0 [2] (by kernel_rfl) (by kernel_rfl) (by kernel_rfl)
  have h21n := not_f h21
  refine xl_endS [2] [(2,.v (.bool false))] (by kernel_rfl) ?_
  show Wk _ _
  try rw [h21]
  exact wk_forget 1 0 [2] (by kernel_rfl) (by kernel_rfl) (by kernel_rfl)
  refine xw_ret ?_
  exact ⟨[.bool ((!c.s.fin) && ((!c.s.done) && c.r.done))],by kernel_rfl,fun w' hb hf => ⟨ret_bool (show ((!c.s.fin) && ((!c.s.done) && c.r.done) : Bool) = conOk c from by first | rfl | (simp [conOk,conPre,conMid,stateFits, *]; done) | (clear hm hf hb; simp_all [conOk,conPre,conMid,stateFits]; done) | grind [conOk,conPre,conMid,stateFits,inB]),hb⟩⟩
  have h20p := eqF h20
  refine xw_seq ?_
  refine xw_seq ?_
  refine xw_region ?_
  refine xl_endS [4,5,6,73,118] [(4,.v (.bool c.s.fin)),(5,.v (.bool c.s.done)),(6,.v (.bool c.r.done)),(73,.v (.int .i64 c.state)),(118,.v (.bool (c.state == 5)))] (by kernel_rfl) ?_
  refine xw_join ⟨[(4,.v (.bool c.s.fin)),(5,.v (.bool c.s.done)),(6,.v (.bool c.r.done)),(73,.v (.int .i64 c.state)),(118,.v (.bool (if (c.state == 5) = true then c.state == 5 else c.state == 6)))],[⟨42,conL c (.slice Acrh c.r.held.length Ccrh)⟩],[],[slF (.slice Acrh c.r.held.length Ccrh) 2 (c.r.held.map pceCells)]⟩ ?_ ?_
  refine xw_cond (b := c.state == 5) (by kernel_rfl) (fun h23 => ?_) (fun h23 => ?_)
  have h23p := eqT h23
  refine xw_skip ?_
  show Wk _ _; rw [h23]; exact wk_forget 1 0 [4,5,6,73,118] (by kernel_rfl) (by kernel_rfl) (by kernel_rfl)
  have h23p := eqF h23
  refine xw_region ?_
  refine xl_endS [4,5,6,73,118] [(4,.v (.bool c.s.fin)),(5,.v (.bool c.s.done)),(6,.v (.bool c.r.done)),(73,.v (.int .i64 c.state)),(118,.v (.bool (c.state == 6)))] (by kernel_rfl) ?_
  show Wk _ _; rw [h23]; exact wk_forget 1 0 [4,5,6,73,118] (by kernel_rfl) (by kernel_rfl) (by kernel_rfl)
  refine xw_cond (b := if (c.state == 5) = true then c.state == 5 else c.state == 6) (by kernel_rfl) (fun h24 => ?_) (fun h24 => ?_)
  have h24p := h24; simp only [beq_iff_eq,bne_iff_ne,beq_eq_false_iff_ne,bne_eq_false_iff_eq,ne_eq,toList_lit0] at h24p
  refine xw_seq ?_
  refine xw_join ⟨[(2,.v (.bool (c.s.fin && ((!c.s.done) && c.r.done))))],[⟨42,conL c (.slice Acrh c.r.held.length Ccrh)⟩],[],[slF (.slice Acrh c.r.held.length Ccrh) 2 (c.r.held.map pceCells)]⟩ ?_ ?_
  refine xw_region ?_
  refine xl_runS 2 [5,6,122] [(5,.v (.bool c.s.done)),(6,.v (.bool c.r.done)),(122,.v (.bool c.s.fin))] (by kernel_rfl) ?_
  refine xl_split 122 (b := c.s.fin) (by kernel_rfl) (fun h25 => ?_) (fun h25 => ?_)
  refine xl_runS 4 [6,126] [(6,.v (.bool c.r.done)),(126,.v (.bool (!c.s.done)))] (by kernel_rfl) ?_
  refine xl_split 126 (b := !c.s.done) (by kernel_rfl) (fun h26 => ?_) (fun h26 => ?_)
  have h26n := not_t h26
  refine xl_endS [2] [(2,.v (.bool c.r.done))] (by kernel_rfl) ?_
  show Wk _ _
  try rw [h25]
  try rw [h26]
  exact wk_forget 1 0 [2] (by kernel_rfl) (by kernel_rfl) (by kernel_rfl)
  have h26n := not_f h26
  refine xl_endS [2] [(2,.v (.bool false))] (by kernel_rfl) ?_
  show Wk _ _
  try rw [h25]
  try rw [h26]
  exact wk_forget 1 0 [2] (by kernel_rfl) (by kernel_rfl) (by kernel_rfl)
  refine xl_endS [2] [(2,.v (.bool false))] (by kernel_rfl) ?_
  show Wk _ _
  try rw [h25]
  exact wk_forget 1 0 [2] (by kernel_rfl) (by kernel_rfl) (by kernel_rfl)
  refine xw_ret ?_
  exact ⟨[.bool (c.s.fin && ((!c.s.done) && c.r.done))],by kernel_rfl,fun w' hb hf => ⟨ret_bool (show (c.s.fin && ((!c.s.done) && c.r.done) : Bool) = conOk c from by first | rfl | (simp [conOk,conPre,conMid,stateFits, *]; done) | (clear hm hf hb; simp_all [conOk,conPre,conMid,stateFits]; done) | grind [conOk,conPre,conMid,stateFits,inB]),hb⟩⟩
  have h24p := h24; simp only [beq_iff_eq,bne_iff_ne,beq_eq_false_iff_ne,bne_eq_false_iff_eq,ne_eq,toList_lit0] at h24p
  refine xw_seq ?_
  refine xw_region ?_
  refine xl_endS [4,5,6,129] [(4,.v (.bool c.s.fin)),(5,.v (.bool c.s.done)),(6,.v (.bool c.r.done)),(129,.v (.bool (c.state == 7)))] (by kernel_rfl) ?_
  refine xw_cond (b := c.state == 7) (by kernel_rfl) (fun h27 => ?_) (fun h27 => ?_)
  have h27p := eqT h27
  refine xw_seq ?_
  refine xw_join ⟨[(2,.v (.bool (c.s.fin && (c.s.done && c.r.done))))],[⟨42,conL c (.slice Acrh c.r.held.length Ccrh)⟩],[],[slF (.slice Acrh c.r.held.length Ccrh) 2 (c.r.held.map pceCells)]⟩ ?_ ?_
  refine xw_region ?_
  refine xl_runS 2 [5,6,132] [(5,.v (.bool c.s.done)),(6,.v (.bool c.r.done)),(132,.v (.bool c.s.fin))] (by kernel_rfl) ?_
  refine xl_split 132 (b := c.s.fin) (by kernel_rfl) (fun h28 => ?_) (fun h28 => ?_)
  refine xl_runS 3 [6,135] [(6,.v (.bool c.r.done)),(135,.v (.bool c.s.done))] (by kernel_rfl) ?_
  refine xl_split 135 (b := c.s.done) (by kernel_rfl) (fun h29 => ?_) (fun h29 => ?_)
  refine xl_endS [2] [(2,.v (.bool c.r.done))] (by kernel_rfl) ?_
  show Wk _ _
  try rw [h28]
  try rw [h29]
  exact wk_forget 1 0 [2] (by kernel_rfl) (by kernel_rfl) (by kernel_rfl)
  refine xl_endS [2] [(2,.v (.bool false))] (by kernel_rfl) ?_
  show Wk _ _
  try rw [h28]
  try rw [h29]
  exact wk_forget 1 0 [2] (by kernel_rfl) (by kernel_rfl) (by kernel_rfl)
  refine xl_endS [2] [(2,.v (.bool false))] (by kernel_rfl) ?_
  show Wk _ _
  try rw [h28]
  exact wk_forget 1 0 [2] (by kernel_rfl) (by kernel_rfl) (by kernel_rfl)
  refine xw_ret ?_
  exact ⟨[.bool (c.s.fin && (c.s.done && c.r.done))],by kernel_rfl,fun w' hb hf => ⟨ret_bool (show (c.s.fin && (c.s.done && c.r.done) : Bool) = conOk c from by first | rfl | (simp [conOk,conPre,conMid,stateFits, *]; done) | (clear hm hf hb; simp_all [conOk,conPre,conMid,stateFits]; done) | grind [conOk,conPre,conMid,stateFits,inB]),hb⟩⟩
  have h27p := eqF h27
  refine xw_skip ?_
  refine xw_seq ?_
  refine xw_region ?_
  refine xl_endS [2] [(2,.v (.bool true))] (by kernel_rfl) ?_
  refine xw_ret ?_
  exact ⟨[.bool true],by kernel_rfl,fun w' hb hf => ⟨ret_bool (show (true : Bool) = conOk c from by first | rfl | (simp [conOk,conPre,conMid,stateFits, *]; done) | (clear hm hf hb; simp_all [conOk,conPre,conMid,stateFits]; done) | grind [conOk,conPre,conMid,stateFits,inB]),hb⟩⟩
set_option maxHeartbeats 1000000 in
theorem yClonePiece_c (a : List Pce) (aV : Value) (w : World) (hl_aV : Sl w aV 2 (a.map pceCells)) (hkn : a.length ≤ 1048576) (B : Nat) (hB : B ≤ w.heap.size) : Calls Try.prog 156 #[aV] w fun e w' => XRs w w' e (α := Option Addr × Nat) (fun y => .slice y.1 a.length y.2) (fun y => [ownF B (.slice y.1 a.length y.2) 2 (a.map pceCells)]) := by
  obtain ⟨Aa,Ca,hva⟩ := hl_aV.form
  rw [List.length_map] at hva; subst hva
  have hna := hl_aV.len; rw [List.length_map] at hna
  have hnil := fun h => Sl.nil_of h hl_aV
  refine x_callsA (args := [.slice Aa a.length Ca]) (fn := Try.f156) [slF (.slice Aa a.length Ca) 2 (a.map pceCells)] Try.func156 rfl Try.ntmps156 rfl (by simp only [List.mem_cons,List.not_mem_nil,or_false,forall_eq_or_imp,forall_eq]; exact ⟨rfl,hl_aV⟩) ?_
  refine xw_seq ?_
  refine xw_region ?_
  refine xl_end [0] ⟨[(0,.v (.slice Aa a.length Ca))],[],[],[slF (.slice Aa a.length Ca) 2 (a.map pceCells)]⟩ (by kernel_rfl) ?_
  refine xw_seq ?_
  refine xw_seq ?_
  refine xw_region ?_
  refine xl_opS 1 [0,3] [(0,.v (.slice Aa a.length Ca)),(3,.v (.slice Aa a.length Ca))] (.bool Aa.isNone) (by kernel_rfl) rfl (by kernel_rfl) rfl (fun _ _ _ ww hr => act_nilEq (e := 149) hr.1 rfl (by kernel_rfl) rfl rfl ww) ?_
  refine xl_endS [0,4] [(0,.v (.slice Aa a.length Ca)),(4,.v (.bool Aa.isNone))] (by kernel_rfl) ?_
  refine xw_cond (b := Aa.isNone) (by kernel_rfl) (fun h1 => ?_) (fun h1 => ?_)
  refine xw_seq ?_
  refine xw_region ?_
  refine xl_endS [2] [(2,.v (.slice none 0 0))] (by kernel_rfl) ?_
  refine xw_ret ?_
  have hmod : a = [] := by exact hnil (by assumption)
  exact ⟨[.slice none 0 0],by kernel_rfl,fun w' hb hf ha => by rw [hmod]; exact xr_one ((none,0)) rfl rfl (.inl ⟨rfl,_,rfl⟩) (fun b hb => (hb.1 rfl).elim) hb⟩
  refine xw_skip ?_
  refine xw_seq ?_
  refine xw_region ?_
  refine xl_hvS 0 [0] [(0,.v (.slice Aa a.length Ca))] (by kernel_rfl) rfl (by kernel_rfl) rfl (by kernel_rfl) (hv_build (e := 149) (K := 2) (bytes := 24) [] rfl (by kernel_rfl) (by kernel_rfl) (by kernel_rfl) (by kernel_rfl) (by kernel_rfl) (rs := ([] : List Pce).map pceCells) rfl) ?_
  intro g2
  refine xl_hvS 1 [5,6] [(5,.v (.slice (some ⟨g2,0,none⟩) 0 0)),(6,.v (.slice Aa a.length Ca))] (by kernel_rfl) rfl (by kernel_rfl) rfl (by kernel_rfl) (hv_append (e := 149) (K := 2) (bytes := 24) (i := 0) (q := a.length) (new := a.map pceCells) (rs' := a.map pceCells) rfl rfl rfl rfl (by kernel_rfl) (by kernel_rfl) (by kernel_rfl) rfl (by simp) rfl (by simp) (fun ww hf => (hf (slF (.slice Aa a.length Ca) 2 (a.map pceCells)) (by simp))) (by intro r hr; obtain ⟨x,hx,rfl⟩ := List.mem_map.1 hr; exact ⟨rfl,by simp [pceCells,Value.oneCell']⟩) (by simp only [List.length_map,List.length_append,List.length_cons,List.length_nil,maxLen]; omega) (by simp only [List.length_map,List.length_append,List.length_cons,List.length_nil,maxLen]; omega)) ?_
  rintro ⟨v3a,v3c⟩
  refine xl_endS [2] [(2,.v (.slice v3a a.length v3c))] (by kernel_rfl) ?_
  refine xw_ret ?_
  exact ⟨[.slice v3a a.length v3c],by kernel_rfl,fun w' hb hf ha => by exact xr_one ((v3a,v3c)) rfl rfl (rowF_ownF (hf (rowF w.heap.size 149 2 (.slice v3a a.length v3c) (a.map pceCells)) (by simp)) hB) (fun b hb => rowF_lo (hf (rowF w.heap.size 149 2 (.slice v3a a.length v3c) (a.map pceCells)) (by simp)) (rowF_blk hb)) hb⟩
set_option maxHeartbeats 1000000 in
theorem yl18Copy_c (r : Rcv) (r_heldV : Value) (w : World) (hl_r_heldV : Sl w r_heldV 2 (r.held.map pceCells)) (hkn : r.held.length ≤ 1048576) (B : Nat) (hB : B ≤ w.heap.size) : Calls Try.prog 142 #[.agg (rcvL r r_heldV).toArray] w fun e w' => XRs w w' e (α := Option Addr × Nat) (fun y => .agg (rcvL r (.slice y.1 r.held.length y.2)).toArray) (fun y => [ownF B (.slice y.1 r.held.length y.2) 2 (r.held.map pceCells)]) := by
  obtain ⟨Arh,Crh,hvrh⟩ := hl_r_heldV.form
  rw [List.length_map] at hvrh; subst hvrh
  have hnrh := hl_r_heldV.len; rw [List.length_map] at hnrh
  refine x_callsA (args := [.agg (rcvL r (.slice Arh r.held.length Crh)).toArray]) (fn := Try.f142) [slF (.slice Arh r.held.length Crh) 2 (r.held.map pceCells)] Try.func142 rfl Try.ntmps142 rfl (by simp only [List.mem_cons,List.not_mem_nil,or_false,forall_eq_or_imp,forall_eq]; exact ⟨rfl,hl_r_heldV⟩) ?_
  refine xw_seq ?_
  refine xw_region ?_
  refine xl_end [1,2] ⟨[(1,.p 0 0),(2,.p 1 0)],[⟨39,rcvL r (.slice Arh r.held.length Crh)⟩,⟨39,rcvZ⟩],[],[slF (.slice Arh r.held.length Crh) 2 (r.held.map pceCells)]⟩ (by kernel_rfl) ?_
  refine xw_seq ?_
  refine xw_region ?_
  refine xl_hvS 0 [1,2] [(1,.p 0 0),(2,.p 1 0)] (by kernel_rfl) rfl (by kernel_rfl) rfl (by kernel_rfl) (hv_build (e := 149) (K := 2) (bytes := 24) [] rfl (by kernel_rfl) (by kernel_rfl) (by kernel_rfl) (by kernel_rfl) (by kernel_rfl) (rs := ([] : List Pce).map pceCells) rfl) ?_
  intro g1
  refine xl_hvS 2 [1,2,3,5] [(1,.p 0 0),(2,.p 1 0),(3,.v (.slice (some ⟨g1,0,none⟩) 0 0)),(5,.v (.slice Arh r.held.length Crh))] (by kernel_rfl) rfl (by kernel_rfl) rfl (by kernel_rfl) (hv_append (e := 149) (K := 2) (bytes := 24) (i := 0) (q := r.held.length) (new := r.held.map pceCells) (rs' := r.held.map pceCells) rfl rfl rfl rfl (by kernel_rfl) (by kernel_rfl) (by kernel_rfl) rfl (by simp) rfl (by simp) (fun ww hf => (hf (slF (.slice Arh r.held.length Crh) 2 (r.held.map pceCells)) (by simp))) (by intro r hr; obtain ⟨x,hx,rfl⟩ := List.mem_map.1 hr; exact ⟨rfl,by simp [pceCells,Value.oneCell']⟩) (by simp only [List.length_map,List.length_append,List.length_cons,List.length_nil,maxLen]; omega) (by simp only [List.length_map,List.length_append,List.length_cons,List.length_nil,maxLen]; omega)) ?_
  rintro ⟨v2a,v2c⟩
  refine xl_end [1,2] ⟨[(1,.p 0 0),(2,.p 1 0)],[⟨39,rcvL r (.slice v2a r.held.length v2c)⟩,⟨39,rcvZ⟩],[],[rowF w.heap.size 149 2 (.slice v2a r.held.length v2c) (r.held.map pceCells),slF (.slice Arh r.held.length Crh) 2 (r.held.map pceCells)]⟩ (by kernel_rfl) ?_
  refine xw_seq ?_
  refine xw_region ?_
  refine xl_end [2] ⟨[(2,.p 1 0)],[⟨39,rcvL r (.slice v2a r.held.length v2c)⟩,⟨39,rcvL r (.slice v2a r.held.length v2c)⟩],[],[rowF w.heap.size 149 2 (.slice v2a r.held.length v2c) (r.held.map pceCells),slF (.slice Arh r.held.length Crh) 2 (r.held.map pceCells)]⟩ (by kernel_rfl) ?_
  refine xw_ret ?_
  exact ⟨[.agg (rcvL r (.slice v2a r.held.length v2c)).toArray],by kernel_rfl,fun w' hb hf ha => by exact xr_one ((v2a,v2c)) rfl rfl (rowF_ownF (hf (rowF w.heap.size 149 2 (.slice v2a r.held.length v2c) (r.held.map pceCells)) (by simp)) hB) (fun b hb => rowF_lo (hf (rowF w.heap.size 149 2 (.slice v2a r.held.length v2c) (r.held.map pceCells)) (by simp)) (rowF_blk hb)) hb⟩
set_option maxHeartbeats 1000000 in
theorem ycloneReceiver_c (r : Rcv) (r_heldV : Value) (w : World) (hl_r_heldV : Sl w r_heldV 2 (r.held.map pceCells)) (hkn : r.held.length ≤ 1048576) (B : Nat) (hB : B ≤ w.heap.size) : Calls Try.prog 143 #[.agg (rcvL r r_heldV).toArray] w fun e w' => XRs w w' e (α := Option Addr × Nat) (fun y => .agg (rcvL r (.slice y.1 r.held.length y.2)).toArray) (fun y => [ownF B (.slice y.1 r.held.length y.2) 2 (r.held.map pceCells)]) := by
  obtain ⟨Arh,Crh,hvrh⟩ := hl_r_heldV.form
  rw [List.length_map] at hvrh; subst hvrh
  have hnrh := hl_r_heldV.len; rw [List.length_map] at hnrh
  refine x_callsA (args := [.agg (rcvL r (.slice Arh r.held.length Crh)).toArray]) (fn := Try.f143) [slF (.slice Arh r.held.length Crh) 2 (r.held.map pceCells)] Try.func143 rfl Try.ntmps143 rfl (by simp only [List.mem_cons,List.not_mem_nil,or_false,forall_eq_or_imp,forall_eq]; exact ⟨rfl,hl_r_heldV⟩) ?_
  refine xw_seq ?_
  refine xw_region ?_
  refine xl_end [1,2] ⟨[(1,.p 0 0),(2,.p 1 0)],[⟨39,rcvL r (.slice Arh r.held.length Crh)⟩,⟨39,rcvZ⟩],[],[slF (.slice Arh r.held.length Crh) 2 (r.held.map pceCells)]⟩ (by kernel_rfl) ?_
  refine xw_seq ?_
  refine xw_region ?_
  refine xl_callS 2 [1,2,4] [(1,.p 0 0),(2,.p 1 0),(4,.v (.slice Arh r.held.length Crh))] 156 [.slice Arh r.held.length Crh] (some 5) (by kernel_rfl) rfl (by kernel_rfl) rfl (by kernel_rfl) (xc_r fun ww hw hf => yClonePiece_c r.held (.slice Arh r.held.length Crh) ww (hf (slF (.slice Arh r.held.length Crh) 2 (r.held.map pceCells)) (by simp)) (by assumption) w.heap.size hw) ?_
  rintro ⟨v1a,v1c⟩
  refine xl_end [1,2] ⟨[(1,.p 0 0),(2,.p 1 0)],[⟨39,rcvL r (.slice v1a r.held.length v1c)⟩,⟨39,rcvZ⟩],[],[ownF w.heap.size (.slice v1a r.held.length v1c) 2 (r.held.map pceCells),slF (.slice Arh r.held.length Crh) 2 (r.held.map pceCells)]⟩ (by kernel_rfl) ?_
  refine xw_seq ?_
  refine xw_region ?_
  refine xl_end [2] ⟨[(2,.p 1 0)],[⟨39,rcvL r (.slice v1a r.held.length v1c)⟩,⟨39,rcvL r (.slice v1a r.held.length v1c)⟩],[],[ownF w.heap.size (.slice v1a r.held.length v1c) 2 (r.held.map pceCells),slF (.slice Arh r.held.length Crh) 2 (r.held.map pceCells)]⟩ (by kernel_rfl) ?_
  refine xw_ret ?_
  exact ⟨[.agg (rcvL r (.slice v1a r.held.length v1c)).toArray],by kernel_rfl,fun w' hb hf ha => by exact xr_one ((v1a,v1c)) rfl rfl (ownF_ownF (hf (ownF w.heap.size (.slice v1a r.held.length v1c) 2 (r.held.map pceCells)) (by simp)) hB) (fun b hb => ownF_lo (hf (ownF w.heap.size (.slice v1a r.held.length v1c) 2 (r.held.map pceCells)) (by simp)) hb) hb⟩
set_option maxHeartbeats 1000000 in
theorem yl19Copy_c (c : Con) (c_r_heldV : Value) (w : World) (hl_c_r_heldV : Sl w c_r_heldV 2 (c.r.held.map pceCells)) (hkn : c.r.held.length ≤ 1048576) (B : Nat) (hB : B ≤ w.heap.size) : Calls Try.prog 95 #[.agg (conL c c_r_heldV).toArray] w fun e w' => XRs w w' e (α := Option Addr × Nat) (fun y => .agg (conL c (.slice y.1 c.r.held.length y.2)).toArray) (fun y => [ownF B (.slice y.1 c.r.held.length y.2) 2 (c.r.held.map pceCells)]) := by
  obtain ⟨Acrh,Ccrh,hvcrh⟩ := hl_c_r_heldV.form
  rw [List.length_map] at hvcrh; subst hvcrh
  have hncrh := hl_c_r_heldV.len; rw [List.length_map] at hncrh
  refine x_callsA (args := [.agg (conL c (.slice Acrh c.r.held.length Ccrh)).toArray]) (fn := Try.f95) [slF (.slice Acrh c.r.held.length Ccrh) 2 (c.r.held.map pceCells)] Try.func95 rfl Try.ntmps95 rfl (by simp only [List.mem_cons,List.not_mem_nil,or_false,forall_eq_or_imp,forall_eq]; exact ⟨rfl,hl_c_r_heldV⟩) ?_
  refine xw_seq ?_
  refine xw_region ?_
  refine xl_end [1,2] ⟨[(1,.p 0 0),(2,.p 1 0)],[⟨42,conL c (.slice Acrh c.r.held.length Ccrh)⟩,⟨42,conZ⟩],[],[slF (.slice Acrh c.r.held.length Ccrh) 2 (c.r.held.map pceCells)]⟩ (by kernel_rfl) ?_
  refine xw_seq ?_
  refine xw_region ?_
  refine xl_callS 2 [1,2,4] [(1,.p 0 0),(2,.p 1 0),(4,.v (.agg (rcvL c.r (.slice Acrh c.r.held.length Ccrh)).toArray))] 142 [.agg (rcvL c.r (.slice Acrh c.r.held.length Ccrh)).toArray] (some 5) (by kernel_rfl) rfl (by kernel_rfl) rfl (by kernel_rfl) (xc_r fun ww hw hf => yl18Copy_c c.r (.slice Acrh c.r.held.length Ccrh) ww (hf (slF (.slice Acrh c.r.held.length Ccrh) 2 (c.r.held.map pceCells)) (by simp)) (by assumption) w.heap.size hw) ?_
  rintro ⟨v1a,v1c⟩
  refine xl_end [1,2] ⟨[(1,.p 0 0),(2,.p 1 0)],[⟨42,conL c (.slice v1a c.r.held.length v1c)⟩,⟨42,conZ⟩],[],[ownF w.heap.size (.slice v1a c.r.held.length v1c) 2 (c.r.held.map pceCells),slF (.slice Acrh c.r.held.length Ccrh) 2 (c.r.held.map pceCells)]⟩ (by kernel_rfl) ?_
  refine xw_seq ?_
  refine xw_region ?_
  refine xl_end [2] ⟨[(2,.p 1 0)],[⟨42,conL c (.slice v1a c.r.held.length v1c)⟩,⟨42,conL c (.slice v1a c.r.held.length v1c)⟩],[],[ownF w.heap.size (.slice v1a c.r.held.length v1c) 2 (c.r.held.map pceCells),slF (.slice Acrh c.r.held.length Ccrh) 2 (c.r.held.map pceCells)]⟩ (by kernel_rfl) ?_
  refine xw_ret ?_
  exact ⟨[.agg (conL c (.slice v1a c.r.held.length v1c)).toArray],by kernel_rfl,fun w' hb hf ha => by exact xr_one ((v1a,v1c)) rfl rfl (ownF_ownF (hf (ownF w.heap.size (.slice v1a c.r.held.length v1c) 2 (c.r.held.map pceCells)) (by simp)) hB) (fun b hb => ownF_lo (hf (ownF w.heap.size (.slice v1a c.r.held.length v1c) 2 (c.r.held.map pceCells)) (by simp)) hb) hb⟩
set_option maxHeartbeats 1000000 in
theorem ycloneConn_c (c : Con) (c_r_heldV : Value) (w : World) (hl_c_r_heldV : Sl w c_r_heldV 2 (c.r.held.map pceCells)) (hkn : c.r.held.length ≤ 1048576) (B : Nat) (hB : B ≤ w.heap.size) : Calls Try.prog 97 #[.agg (conL c c_r_heldV).toArray] w fun e w' => XRs w w' e (α := Option Addr × Nat) (fun y => .agg (conL c (.slice y.1 c.r.held.length y.2)).toArray) (fun y => [ownF B (.slice y.1 c.r.held.length y.2) 2 (c.r.held.map pceCells)]) := by
  obtain ⟨Acrh,Ccrh,hvcrh⟩ := hl_c_r_heldV.form
  rw [List.length_map] at hvcrh; subst hvcrh
  have hncrh := hl_c_r_heldV.len; rw [List.length_map] at hncrh
  refine x_callsA (args := [.agg (conL c (.slice Acrh c.r.held.length Ccrh)).toArray]) (fn := Try.f97) [slF (.slice Acrh c.r.held.length Ccrh) 2 (c.r.held.map pceCells)] Try.func97 rfl Try.ntmps97 rfl (by simp only [List.mem_cons,List.not_mem_nil,or_false,forall_eq_or_imp,forall_eq]; exact ⟨rfl,hl_c_r_heldV⟩) ?_
  refine xw_seq ?_
  refine xw_region ?_
  refine xl_end [1,2] ⟨[(1,.p 0 0),(2,.p 1 0)],[⟨42,conL c (.slice Acrh c.r.held.length Ccrh)⟩,⟨42,conZ⟩],[],[slF (.slice Acrh c.r.held.length Ccrh) 2 (c.r.held.map pceCells)]⟩ (by kernel_rfl) ?_
  refine xw_seq ?_
  refine xw_region ?_
  refine xl_callS 2 [1,2,4] [(1,.p 0 0),(2,.p 1 0),(4,.v (.agg (rcvL c.r (.slice Acrh c.r.held.length Ccrh)).toArray))] 143 [.agg (rcvL c.r (.slice Acrh c.r.held.length Ccrh)).toArray] (some 5) (by kernel_rfl) rfl (by kernel_rfl) rfl (by kernel_rfl) (xc_r fun ww hw hf => ycloneReceiver_c c.r (.slice Acrh c.r.held.length Ccrh) ww (hf (slF (.slice Acrh c.r.held.length Ccrh) 2 (c.r.held.map pceCells)) (by simp)) (by assumption) w.heap.size hw) ?_
  rintro ⟨v1a,v1c⟩
  refine xl_end [1,2] ⟨[(1,.p 0 0),(2,.p 1 0)],[⟨42,conL c (.slice v1a c.r.held.length v1c)⟩,⟨42,conZ⟩],[],[ownF w.heap.size (.slice v1a c.r.held.length v1c) 2 (c.r.held.map pceCells),slF (.slice Acrh c.r.held.length Ccrh) 2 (c.r.held.map pceCells)]⟩ (by kernel_rfl) ?_
  refine xw_seq ?_
  refine xw_region ?_
  refine xl_end [2] ⟨[(2,.p 1 0)],[⟨42,conL c (.slice v1a c.r.held.length v1c)⟩,⟨42,conL c (.slice v1a c.r.held.length v1c)⟩],[],[ownF w.heap.size (.slice v1a c.r.held.length v1c) 2 (c.r.held.map pceCells),slF (.slice Acrh c.r.held.length Ccrh) 2 (c.r.held.map pceCells)]⟩ (by kernel_rfl) ?_
  refine xw_ret ?_
  exact ⟨[.agg (conL c (.slice v1a c.r.held.length v1c)).toArray],by kernel_rfl,fun w' hb hf ha => by exact xr_one ((v1a,v1c)) rfl rfl (ownF_ownF (hf (ownF w.heap.size (.slice v1a c.r.held.length v1c) 2 (c.r.held.map pceCells)) (by simp)) hB) (fun b hb => ownF_lo (hf (ownF w.heap.size (.slice v1a c.r.held.length v1c) 2 (c.r.held.map pceCells)) (by simp)) hb) hb⟩
set_option maxHeartbeats 1000000 in
theorem ymarkText_c (k : Int) (w : World) (hk : k ≤ 4611686018427387904) : Calls Try.prog 102 #[.int .i64 k] w fun e w' => e = .returned (.string (markText k)) ∧ Below w.heap.size w w' := by
  refine x_calls (args := [.int .i64 k]) (fn := Try.f102) [] Try.func102 rfl Try.ntmps102 rfl (by simp) ?_
  refine xw_seq ?_
  refine xw_region ?_
  refine xl_end [0] ⟨[(0,.v (.int .i64 k))],[],[],[]⟩ (by kernel_rfl) ?_
  refine xw_seq ?_
  refine xw_seq ?_
  refine xw_region ?_
  refine xl_endS [0,5] [(0,.v (.int .i64 k)),(5,.v (.bool (decide (k ≤ 0))))] (by kernel_rfl) ?_
  refine xw_cond (b := decide (k ≤ 0)) (by kernel_rfl) (fun h1 => ?_) (fun h1 => ?_)
  have h1p : (k ≤ 0) := of_decide_eq_true h1
  refine xw_seq ?_
  refine xw_region ?_
  refine xl_endS [2] [(2,.v (.string (⟨#[109,48]⟩ : ByteArray)))] (by kernel_rfl) ?_
  refine xw_ret ?_
  have hmod : markText k = (⟨#[109,48]⟩ : ByteArray) := by first | rfl | (simp [markText, *]; done) | (rw [markText,if_neg (by omega),hE])
  exact ⟨[.string (⟨#[109,48]⟩ : ByteArray)],by kernel_rfl,fun w' hb hf => by rw [hmod]; exact ⟨rfl,hb⟩⟩
  have h1p : ¬ (k ≤ 0) := of_decide_eq_false h1
  refine xw_skip ?_
  refine xw_seq ?_
  refine xw_region ?_
  refine xl_endS [0,3] [(0,.v (.int .i64 k)),(3,.v (.string (⟨#[]⟩ : ByteArray)))] (by kernel_rfl) ?_
  refine xw_seq ?_
  refine xw_block ?_
  refine xw_loopW (α := {x : Int × ByteArray // (fun (z : Int) (out : ByteArray) => markLoop k (⟨#[]⟩ : ByteArray) = markLoop z out ∧ out.size + z.toNat ≤ k.toNat) x.1 x.2}) (fun x => (fun (z : Int) (out : ByteArray) => (⟨[(0,.v (.int .i64 z)),(3,.v (.string out))],[],[],[]⟩ : St)) x.1.1 x.1.2) (fun x => (fun (z : Int) (out : ByteArray) => z.toNat) x.1.1 x.1.2) ⟨(k,(⟨#[]⟩ : ByteArray)),⟨rfl,Nat.le_of_eq (Nat.zero_add _)⟩⟩ (wk_forget 0 0 [0,3] (by kernel_rfl) (by kernel_rfl) (by kernel_rfl)) ?_
  rintro ⟨⟨z,out⟩,HK,hR⟩
  refine xw_wk (Wk.of_eq (s' := ⟨[(0,.v (.int .i64 z)),(3,.v (.string out))],[],[],[]⟩) rfl) ?_
  try dsimp only at HK hR
  refine xw_seq ?_
  refine xw_seq ?_
  refine xw_region ?_
  refine xl_endS [0,3,7] [(0,.v (.int .i64 z)),(3,.v (.string out)),(7,.v (.bool (decide (z > 0))))] (by kernel_rfl) ?_
  refine xw_cond (b := decide (z > 0)) (by kernel_rfl) (fun h2 => ?_) (fun h2 => ?_)
  have h2p : (z > 0) := of_decide_eq_true h2
  have hz : 0 < z := by simpa using h2
  refine xw_skip ?_
  refine xw_block ?_
  refine xw_seq ?_
  refine xw_region ?_
  refine xl_opS 1 [0,3,8] [(0,.v (.int .i64 z)),(3,.v (.string out)),(8,.v (.int .i64 z))] (.int .i64 (Int.tmod z 10)) (by kernel_rfl) rfl (by kernel_rfl) rfl (fun _ _ _ ww hr => act_bin hr.1 rfl (by kernel_rfl) (by kernel_rfl) (rem_run (by decide) ww)) ?_
  refine xl_hvS 2 [0,3,11] [(0,.v (.int .i64 z)),(3,.v (.string out)),(11,.v (.int .u8 (IntKind.u8.wrap (IntKind.i64.wrap (48 + (Int.tmod z 10))))))] (by kernel_rfl) rfl (by kernel_rfl) rfl (by kernel_rfl) (hv_build (e := 5) (K := 1) (bytes := 1) [.int .u8 (IntKind.u8.wrap (IntKind.i64.wrap (48 + (Int.tmod z 10))))] rfl (by kernel_rfl) (by kernel_rfl) (by kernel_rfl) (by kernel_rfl) (by kernel_rfl) (rs := ([IntKind.u8.wrap (IntKind.i64.wrap (48 + (Int.tmod z 10)))] : List Int).map byteRow) rfl) ?_
  intro g3
  refine xl_opS 0 [0,3,12] [(0,.v (.int .i64 z)),(3,.v (.string out)),(12,.v (.slice (some ⟨g3,0,none⟩) 1 1))] (.string (bstr ([IntKind.u8.wrap (IntKind.i64.wrap (48 + (Int.tmod z 10)))] : List Int))) (by kernel_rfl) rfl (by kernel_rfl) rfl (fun _ _ _ ww hr => act_b2s (e := 5) ([IntKind.u8.wrap (IntKind.i64.wrap (48 + (Int.tmod z 10)))] : List Int) hr.1 rfl (by kernel_rfl) (by kernel_rfl) (by kernel_rfl) rfl (rowF_sl (hr.2.fact (rowF w.heap.size 5 1 (.slice (some ⟨g3,0,none⟩) 1 1) (([IntKind.u8.wrap (IntKind.i64.wrap (48 + (Int.tmod z 10)))] : List Int).map byteRow)) (by simp)).1)) ?_
  refine xl_opS 1 [0,3,13,14] [(0,.v (.int .i64 z)),(3,.v (.string out)),(13,.v (.string (bstr ([IntKind.u8.wrap (IntKind.i64.wrap (48 + (Int.tmod z 10)))] : List Int)))),(14,.v (.string out))] (.string ((bstr ([IntKind.u8.wrap (IntKind.i64.wrap (48 + (Int.tmod z 10)))] : List Int)) ++ out)) (by kernel_rfl) rfl (by kernel_rfl) rfl (fun _ _ _ ww hr => act_bin hr.1 rfl (by kernel_rfl) (by kernel_rfl) (str_add (mark_sz hz hR hk) ww)) ?_
  refine xl_runS 1 [0,3] [(0,.v (.int .i64 z)),(3,.v (.string ((bstr ([IntKind.u8.wrap (IntKind.i64.wrap (48 + (Int.tmod z 10)))] : List Int)) ++ out)))] (by kernel_rfl) ?_
  refine xl_eq (st' := ⟨[(0,.v (.int .i64 z)),(3,.v (.string ((bstr ([IntKind.u8.wrap (48 + z.tmod 10)] : List Int)) ++ out)))],[],[],[rowF w.heap.size 5 1 (.slice (some ⟨g3,0,none⟩) 1 1) (([IntKind.u8.wrap (48 + z.tmod 10)] : List Int).map byteRow)]⟩) (by rw [show (IntKind.i64.wrap (48 + (Int.tmod z 10))) = (48 + z.tmod 10) from wrap_tmod hz]) ?_
  refine xl_endS [0,3] [(0,.v (.int .i64 z)),(3,.v (.string ((bstr ([IntKind.u8.wrap (48 + z.tmod 10)] : List Int)) ++ out)))] (by kernel_rfl) ?_
  refine xw_region ?_
  refine xl_opS 1 [0,3,16] [(0,.v (.int .i64 z)),(3,.v (.string ((bstr ([IntKind.u8.wrap (48 + z.tmod 10)] : List Int)) ++ out))),(16,.v (.int .i64 z))] (.int .i64 (IntKind.i64.wrap (Int.tdiv z 10))) (by kernel_rfl) rfl (by kernel_rfl) rfl (fun _ _ _ ww hr => act_bin hr.1 rfl (by kernel_rfl) (by kernel_rfl) (quo_run (by decide) ww)) ?_
  refine xl_runS 1 [0,3] [(0,.v (.int .i64 (IntKind.i64.wrap (Int.tdiv z 10)))),(3,.v (.string ((bstr ([IntKind.u8.wrap (48 + z.tmod 10)] : List Int)) ++ out)))] (by kernel_rfl) ?_
  refine xl_eqS (t' := [(0,.v (.int .i64 (z.tdiv 10))),(3,.v (.string ((bstr ([IntKind.u8.wrap (48 + z.tmod 10)] : List Int)) ++ out)))]) (by rw [show (IntKind.i64.wrap (Int.tdiv z 10)) = (z.tdiv 10) from wrap_tdiv hz hR hk]) ?_
  refine xl_endS [0,3] [(0,.v (.int .i64 (z.tdiv 10))),(3,.v (.string ((bstr ([IntKind.u8.wrap (48 + z.tmod 10)] : List Int)) ++ out)))] (by kernel_rfl) ?_
  exact ⟨⟨(z.tdiv 10,bstr [IntKind.u8.wrap (48 + z.tmod 10)] ++ out),⟨markLoop_step hz HK,mark_room hz hR⟩⟩,(wk_pick [] [] (by kernel_rfl) (by kernel_rfl)).trans <| wk_forget 0 0 [0,3] (by kernel_rfl) (by kernel_rfl) (by kernel_rfl),by show (fun (z : Int) (out : ByteArray) => z.toNat) (z.tdiv 10) (bstr [IntKind.u8.wrap (48 + z.tmod 10)] ++ out) < z.toNat; exact mark_dec hz⟩
  have h2p : ¬ (z > 0) := of_decide_eq_false h2
  have hz : ¬ 0 < z := by simpa using h2
  have hE := markLoop_end hz HK
  refine xw_exit ?_
  refine xw_seq ?_
  refine xw_region ?_
  refine xl_opS 1 [18] [(18,.v (.string out))] (.string ((⟨#[109]⟩ : ByteArray) ++ out)) (by kernel_rfl) rfl (by kernel_rfl) rfl (fun _ _ _ ww hr => act_bin hr.1 rfl (by kernel_rfl) (by kernel_rfl) (str_add (mark_sz0 hR hk) ww)) ?_
  refine xl_endS [2] [(2,.v (.string ((⟨#[109]⟩ : ByteArray) ++ out)))] (by kernel_rfl) ?_
  refine xw_ret ?_
  have hmod : markText k = ((⟨#[109]⟩ : ByteArray) ++ out) := by first | rfl | (simp [markText, *]; done) | (rw [markText,if_neg (by omega),hE])
  exact ⟨[.string ((⟨#[109]⟩ : ByteArray) ++ out)],by kernel_rfl,fun w' hb hf => by rw [hmod]; exact ⟨rfl,hb⟩⟩
set_option maxHeartbeats 2000000 in
theorem ymarkPieceS_c (v : Value) (l : List Pce) (k : Int) (w : World) (B : Nat) (hB : B ≤ w.heap.size) (h : Own w B v 2 (l.map pceCells)) (hk0 : 0 ≤ k) (hk : k ≤ 4503599627370496) (hl : l.length ≤ 1048576) : Calls Try.prog 144 #[v, .int .i64 k] w fun e w' => e = .returned (.int .i64 (k + 2 * (l.length : Int))) ∧ Own w' B v 2 ((marks mkP 2 k l.length).map pceCells) ∧ Chgd (ownF B v 2 (l.map pceCells)).blk w w' := by
  obtain ⟨A,cap,hv⟩ := h.form
  rw [List.length_map] at hv; subst hv
  refine x_callsM (args := [.slice A l.length cap,.int .i64 k]) (fn := Try.f144) [ownF B (.slice A l.length cap) 2 (l.map pceCells),frF w (ownF B (.slice A l.length cap) 2 (l.map pceCells)).blk] B Try.func144 rfl Try.ntmps144 rfl hB (by simp only [List.mem_cons,List.not_mem_nil,or_false,forall_eq_or_imp,forall_eq]; exact ⟨h,frF_start w _⟩) apart_fr ?_
  refine xw_seq ?_
  refine xw_region ?_
  refine xl_end [0,1] ⟨[(0,.v (.slice A l.length cap)),(1,.v (.int .i64 k))],[],[],[ownF B (.slice A l.length cap) 2 (l.map pceCells),frF w (ownF B (.slice A l.length cap) 2 (l.map pceCells)).blk]⟩ (by kernel_rfl) ?_
  refine xw_seq ?_
  refine xw_seq ?_
  refine xw_region ?_
  refine xl_endS [0,1,5] [(0,.v (.slice A l.length cap)),(1,.v (.int .i64 k)),(5,.v (.int .i64 0))] (by kernel_rfl) ?_
  refine xw_block ?_
  have e0 : k + 2 * ((0 : Nat) : Int) = k := by omega
  refine xw_eq (st' := ⟨[(0,.v (.slice A l.length cap)),(1,.v (.int .i64 (k + 2 * ((0 : Nat) : Int)))),(5,.v (.int .i64 0))],[],[],[ownF B (.slice A l.length cap) 2 (l.map pceCells),frF w (ownF B (.slice A l.length cap) 2 (l.map pceCells)).blk]⟩) (by rw [e0]) ?_
  refine xw_loopW (α := {x : Nat // (fun (i : Nat) => i ≤ l.length) x}) (fun x => (fun (i : Nat) => (⟨[(0,.v (.slice A l.length cap)),(1,.v (.int .i64 (k + 2 * (i : Int)))),(5,.v (.int .i64 (i : Int)))],[],[],[ownF B (.slice A l.length cap) 2 ((marks mkP 2 k i ++ l.drop i).map pceCells),frF w (ownF B (.slice A l.length cap) 2 (l.map pceCells)).blk]⟩ : St)) x.1) (fun x => (fun (i : Nat) => l.length - i) x.1) ⟨(0),Nat.zero_le _⟩ (wk_forget 0 0 [0,1,5] (by kernel_rfl) (by kernel_rfl) (by kernel_rfl)) ?_
  rintro ⟨i,hi⟩
  refine xw_wk (Wk.of_eq (s' := ⟨[(0,.v (.slice A l.length cap)),(1,.v (.int .i64 (k + 2 * (i : Int)))),(5,.v (.int .i64 (i : Int)))],[],[],[ownF B (.slice A l.length cap) 2 ((marks mkP 2 k i ++ l.drop i).map pceCells),frF w (ownF B (.slice A l.length cap) 2 (l.map pceCells)).blk]⟩) rfl) ?_
  try dsimp only at hi
  refine xw_seq ?_
  refine xw_seq ?_
  refine xw_region ?_
  refine xl_endS [0,1,5,9] [(0,.v (.slice A l.length cap)),(1,.v (.int .i64 (k + 2 * (i : Int)))),(5,.v (.int .i64 (i : Int))),(9,.v (.bool (decide ((i : Int) < ((l.length : Nat) : Int)))))] (by kernel_rfl) ?_
  refine xw_cond (b := decide ((i : Int) < ((l.length : Nat) : Int))) (by kernel_rfl) (fun h1 => ?_) (fun h1 => ?_)
  have h1p : ((i : Int) < ((l.length : Nat) : Int)) := of_decide_eq_true h1
  have hlt : i < l.length := by simpa using h1
  obtain ⟨b,hb⟩ : ∃ b,b = k + 2 * (i : Int) := ⟨_,rfl⟩
  rw [← hb]
  obtain ⟨x,hx⟩ : ∃ x,l[i]? = some x := ⟨_,List.getElem?_eq_getElem hlt⟩
  refine xw_fact0 (g := ownF B (.slice A l.length cap) 2 (((marks mkP 2 k i ++ l.drop i).map pceCells).set i [.int .i64 x.off,.string x.text])) (congrArg (fun z => ownF B (.slice A l.length cap) 2 z) (mark_same (f := pceCells) (mk := mkP) (c := 2) (k := k) hx)) ?_
  refine xw_skip ?_
  refine xw_seq ?_
  refine xw_block ?_
  refine xw_seq ?_
  refine xw_region ?_
  refine xl_elem (kd := .i64) (T := 37) (e := 149) (K := 2) (A := A) (len := l.length) (cap := cap) (rs := (((marks mkP 2 k i ++ l.drop i).map pceCells).set i [.int .i64 x.off,.string x.text])) 3 [0,1,5,12,13,14] ⟨[(0,.v (.slice A l.length cap)),(1,.v (.int .i64 b)),(5,.v (.int .i64 (i : Int))),(12,.v (.slice A l.length cap)),(13,.v (.int .i64 (i : Int))),(14,.v (.int .i64 b))],[],[],[ownF B (.slice A l.length cap) 2 (((marks mkP 2 k i ++ l.drop i).map pceCells).set i [.int .i64 x.off,.string x.text]),frF w (ownF B (.slice A l.length cap) 2 (l.map pceCells)).blk]⟩ i (ownF B (.slice A l.length cap) 2 (((marks mkP 2 k i ++ l.drop i).map pceCells).set i [.int .i64 x.off,.string x.text])) (by kernel_rfl) rfl (by kernel_rfl) (by kernel_rfl) rfl (by kernel_rfl) (by kernel_rfl) (by kernel_rfl) (by kernel_rfl) hlt (by simp) (fun ww h => Own.sl h) (by rw [List.length_set,mark_ln hi]; exact hlt) ?_
  intro b2 o3 hA4
  refine xl_op 0 [0,1,5,14,15] ⟨[(0,.v (.slice A l.length cap)),(1,.v (.int .i64 b)),(5,.v (.int .i64 (i : Int))),(14,.v (.int .i64 b)),(15,.v (.pointer (some ⟨b2,o3 + i * 2,none⟩)))],[],[],[ownF B (.slice A l.length cap) 2 (((marks mkP 2 k i ++ l.drop i).map pceCells).set i [.int .i64 x.off,.string x.text]),frF w (ownF B (.slice A l.length cap) 2 (l.map pceCells)).blk]⟩ (.pointer (some ⟨b2,o3 + i * 2 + 0,none⟩)) (by kernel_rfl) rfl (by kernel_rfl) rfl (fun _ _ _ ww hr => fld_run (sz := 1) hr rfl Try.underlying149 rfl (by kernel_rfl) rfl rfl (by first | rfl | omega)) ?_
  refine xl_stE (K := 2) (po := 0) (B := B) (rs := ((marks mkP 2 k i ++ l.drop i).map pceCells)) (row' := [.int .i64 b,.string x.text]) 0 [0,1,5,14,16] ⟨[(0,.v (.slice A l.length cap)),(1,.v (.int .i64 b)),(5,.v (.int .i64 (i : Int))),(14,.v (.int .i64 b)),(16,.v (.pointer (some ⟨b2,o3 + i * 2 + 0,none⟩)))],[],[],[ownF B (.slice A l.length cap) 2 (((marks mkP 2 k i ++ l.drop i).map pceCells).set i [.int .i64 x.off,.string x.text]),frF w (ownF B (.slice A l.length cap) 2 (l.map pceCells)).blk]⟩ i [.int .i64 x.off,.string x.text] 0 (by kernel_rfl) rfl (by kernel_rfl) rfl rfl rfl rfl (by kernel_rfl) (by kernel_rfl) rfl (cutW_le w B) hA4 (by rw [mark_ln hi]; exact hlt) (fun r hr => by obtain ⟨y,_,rfl⟩ := List.mem_map.1 hr; rfl) (by kernel_rfl) (by kernel_rfl) rfl rfl ?_
  refine xl_end [0,1,5] ⟨[(0,.v (.slice A l.length cap)),(1,.v (.int .i64 b)),(5,.v (.int .i64 (i : Int)))],[],[],[ownF B (.slice A l.length cap) 2 (((marks mkP 2 k i ++ l.drop i).map pceCells).set i [.int .i64 b,.string x.text]),frF w (ownF B (.slice A l.length cap) 2 (l.map pceCells)).blk]⟩ (by kernel_rfl) ?_
  refine xw_seq ?_
  refine xw_region ?_
  refine xl_runS 3 [0,1,5] [(0,.v (.slice A l.length cap)),(1,.v (.int .i64 (IntKind.i64.wrap (b + 1)))),(5,.v (.int .i64 (i : Int)))] (by kernel_rfl) ?_
  refine xl_eqS (t' := [(0,.v (.slice A l.length cap)),(1,.v (.int .i64 (b + 1))),(5,.v (.int .i64 (i : Int)))]) (by rw [show (IntKind.i64.wrap (b + 1)) = (b + 1) from wrap_id (by omega) (by omega)]) ?_
  refine xl_endS [0,1,5] [(0,.v (.slice A l.length cap)),(1,.v (.int .i64 (b + 1))),(5,.v (.int .i64 (i : Int)))] (by kernel_rfl) ?_
  refine xw_seq ?_
  refine xw_region ?_
  refine xl_callS 3 [0,1,5,19,20,21] [(0,.v (.slice A l.length cap)),(1,.v (.int .i64 (b + 1))),(5,.v (.int .i64 (i : Int))),(19,.v (.slice A l.length cap)),(20,.v (.int .i64 (i : Int))),(21,.v (.int .i64 (b + 1)))] 102 [.int .i64 (b + 1)] (some 22) (by kernel_rfl) rfl (by kernel_rfl) rfl (by kernel_rfl) (xc_b fun ww hf => ymarkText_c (b + 1) ww  (by omega)) ?_
  intro _
  refine xl_elem (kd := .i64) (T := 37) (e := 149) (K := 2) (A := A) (len := l.length) (cap := cap) (rs := (((marks mkP 2 k i ++ l.drop i).map pceCells).set i [.int .i64 b,.string x.text])) 0 [0,1,5,19,20,22] ⟨[(0,.v (.slice A l.length cap)),(1,.v (.int .i64 (b + 1))),(5,.v (.int .i64 (i : Int))),(19,.v (.slice A l.length cap)),(20,.v (.int .i64 (i : Int))),(22,.v (.string (markText (b + 1))))],[],[],[ownF B (.slice A l.length cap) 2 (((marks mkP 2 k i ++ l.drop i).map pceCells).set i [.int .i64 b,.string x.text]),frF w (ownF B (.slice A l.length cap) 2 (l.map pceCells)).blk]⟩ i (ownF B (.slice A l.length cap) 2 (((marks mkP 2 k i ++ l.drop i).map pceCells).set i [.int .i64 b,.string x.text])) (by kernel_rfl) rfl (by kernel_rfl) (by kernel_rfl) rfl (by kernel_rfl) (by kernel_rfl) (by kernel_rfl) (by kernel_rfl) hlt (by simp) (fun ww h => Own.sl h) (by rw [List.length_set,mark_ln hi]; exact hlt) ?_
  intro b5 o6 hA7
  refine xl_op 0 [0,1,5,22,23] ⟨[(0,.v (.slice A l.length cap)),(1,.v (.int .i64 (b + 1))),(5,.v (.int .i64 (i : Int))),(22,.v (.string (markText (b + 1)))),(23,.v (.pointer (some ⟨b5,o6 + i * 2,none⟩)))],[],[],[ownF B (.slice A l.length cap) 2 (((marks mkP 2 k i ++ l.drop i).map pceCells).set i [.int .i64 b,.string x.text]),frF w (ownF B (.slice A l.length cap) 2 (l.map pceCells)).blk]⟩ (.pointer (some ⟨b5,o6 + i * 2 + 1,none⟩)) (by kernel_rfl) rfl (by kernel_rfl) rfl (fun _ _ _ ww hr => fld_run (sz := 1) hr rfl Try.underlying149 rfl (by kernel_rfl) rfl rfl (by first | rfl | omega)) ?_
  refine xl_stE (K := 2) (po := 1) (B := B) (rs := ((marks mkP 2 k i ++ l.drop i).map pceCells)) (row' := [.int .i64 b,.string (markText (b + 1))]) 0 [0,1,5,22,24] ⟨[(0,.v (.slice A l.length cap)),(1,.v (.int .i64 (b + 1))),(5,.v (.int .i64 (i : Int))),(22,.v (.string (markText (b + 1)))),(24,.v (.pointer (some ⟨b5,o6 + i * 2 + 1,none⟩)))],[],[],[ownF B (.slice A l.length cap) 2 (((marks mkP 2 k i ++ l.drop i).map pceCells).set i [.int .i64 b,.string x.text]),frF w (ownF B (.slice A l.length cap) 2 (l.map pceCells)).blk]⟩ i [.int .i64 b,.string x.text] 0 (by kernel_rfl) rfl (by kernel_rfl) rfl rfl rfl rfl (by kernel_rfl) (by kernel_rfl) rfl (cutW_le w B) hA7 (by rw [mark_ln hi]; exact hlt) (fun r hr => by obtain ⟨y,_,rfl⟩ := List.mem_map.1 hr; rfl) (by kernel_rfl) (by kernel_rfl) rfl rfl ?_
  refine xl_end [0,1,5] ⟨[(0,.v (.slice A l.length cap)),(1,.v (.int .i64 (b + 1))),(5,.v (.int .i64 (i : Int)))],[],[],[ownF B (.slice A l.length cap) 2 (((marks mkP 2 k i ++ l.drop i).map pceCells).set i [.int .i64 b,.string (markText (b + 1))]),frF w (ownF B (.slice A l.length cap) 2 (l.map pceCells)).blk]⟩ (by kernel_rfl) ?_
  refine xw_region ?_
  refine xl_runS 3 [0,1,5] [(0,.v (.slice A l.length cap)),(1,.v (.int .i64 (IntKind.i64.wrap (b + 1 + 1)))),(5,.v (.int .i64 (i : Int)))] (by kernel_rfl) ?_
  refine xl_eqS (t' := [(0,.v (.slice A l.length cap)),(1,.v (.int .i64 (b + 2))),(5,.v (.int .i64 (i : Int)))]) (by rw [show (IntKind.i64.wrap (b + 1 + 1)) = (b + 2) from wrap_to (by omega) (by omega) (by omega)]) ?_
  refine xl_endS [0,1,5] [(0,.v (.slice A l.length cap)),(1,.v (.int .i64 (b + 2))),(5,.v (.int .i64 (i : Int)))] (by kernel_rfl) ?_
  refine xw_region ?_
  refine xl_runS 3 [0,1,5] [(0,.v (.slice A l.length cap)),(1,.v (.int .i64 (b + 2))),(5,.v (.int .i64 (IntKind.i64.wrap ((i : Int) + 1))))] (by kernel_rfl) ?_
  refine xl_eqS (t' := [(0,.v (.slice A l.length cap)),(1,.v (.int .i64 (b + 2))),(5,.v (.int .i64 ((i : Int) + 1)))]) (by rw [show (IntKind.i64.wrap ((i : Int) + 1)) = ((i : Int) + 1) from wrap_id (by omega) (by omega)]) ?_
  refine xl_endS [0,1,5] [(0,.v (.slice A l.length cap)),(1,.v (.int .i64 (b + 2))),(5,.v (.int .i64 ((i : Int) + 1)))] (by kernel_rfl) ?_
  have e : b + 2 = k + 2 * ((i + 1 : Nat) : Int) := by omega
  rw [e]
  subst hb
  exact ⟨⟨(i + 1),hlt⟩,(wk_fact0 (congrArg (fun z => ownF B (.slice A l.length cap) 2 z) (mark_next (f := pceCells) (mk := mkP) (c := 2) (k := k) hlt))).trans <| wk_forget 0 0 [0,1,5] (by kernel_rfl) (by kernel_rfl) (by kernel_rfl),by show (fun (i : Nat) => l.length - i) (i + 1) < l.length - i; (dsimp only; omega)⟩
  have h1p : ¬ ((i : Int) < ((l.length : Nat) : Int)) := of_decide_eq_false h1
  have hge : i = l.length := by simp at h1; omega
  refine xw_exit ?_
  refine xw_seq ?_
  refine xw_region ?_
  refine xl_endS [4] [(4,.v (.int .i64 (k + 2 * (i : Int))))] (by kernel_rfl) ?_
  refine xw_ret ?_
  subst hge
  exact ⟨[.int .i64 (k + 2 * (l.length : Int))],by kernel_rfl,fun w' hb hf => ⟨ret_int (by simp),by have := hf (ownF B (.slice A l.length cap) 2 ((marks mkP 2 k l.length ++ l.drop l.length).map pceCells)) (by simp); rw [List.drop_length,List.append_nil] at this; exact this,frF_chgd (hf (frF w (ownF B (.slice A l.length cap) 2 (l.map pceCells)).blk) (by simp)) hb rfl rfl rfl⟩⟩
set_option maxHeartbeats 2000000 in
theorem ymarkSegmentS_c (v : Value) (l : List Seg) (k : Int) (w : World) (B : Nat) (hB : B ≤ w.heap.size) (h : Own w B v 13 (l.map segCells)) (hk0 : 0 ≤ k) (hk : k ≤ 4503599627370496) (hl : l.length ≤ 1048576) : Calls Try.prog 39 #[v, .int .i64 k] w fun e w' => e = .returned (.int .i64 (k + 13 * (l.length : Int))) ∧ Own w' B v 13 ((marks mkS 13 k l.length).map segCells) ∧ Chgd (ownF B v 13 (l.map segCells)).blk w w' := by
  obtain ⟨A,cap,hv⟩ := h.form
  rw [List.length_map] at hv; subst hv
  refine x_callsM (args := [.slice A l.length cap,.int .i64 k]) (fn := Try.f39) [ownF B (.slice A l.length cap) 13 (l.map segCells),frF w (ownF B (.slice A l.length cap) 13 (l.map segCells)).blk] B Try.func39 rfl Try.ntmps39 rfl hB (by simp only [List.mem_cons,List.not_mem_nil,or_false,forall_eq_or_imp,forall_eq]; exact ⟨h,frF_start w _⟩) apart_fr ?_
  refine xw_seq ?_
  refine xw_region ?_
  refine xl_end [0,1] ⟨[(0,.v (.slice A l.length cap)),(1,.v (.int .i64 k))],[],[],[ownF B (.slice A l.length cap) 13 (l.map segCells),frF w (ownF B (.slice A l.length cap) 13 (l.map segCells)).blk]⟩ (by kernel_rfl) ?_
  refine xw_seq ?_
  refine xw_seq ?_
  refine xw_region ?_
  refine xl_endS [0,1,5] [(0,.v (.slice A l.length cap)),(1,.v (.int .i64 k)),(5,.v (.int .i64 0))] (by kernel_rfl) ?_
  refine xw_block ?_
  have e0 : k + 13 * ((0 : Nat) : Int) = k := by omega
  refine xw_eq (st' := ⟨[(0,.v (.slice A l.length cap)),(1,.v (.int .i64 (k + 13 * ((0 : Nat) : Int)))),(5,.v (.int .i64 0))],[],[],[ownF B (.slice A l.length cap) 13 (l.map segCells),frF w (ownF B (.slice A l.length cap) 13 (l.map segCells)).blk]⟩) (by rw [e0]) ?_
  refine xw_loopW (α := {x : Nat // (fun (i : Nat) => i ≤ l.length) x}) (fun x => (fun (i : Nat) => (⟨[(0,.v (.slice A l.length cap)),(1,.v (.int .i64 (k + 13 * (i : Int)))),(5,.v (.int .i64 (i : Int)))],[],[],[ownF B (.slice A l.length cap) 13 ((marks mkS 13 k i ++ l.drop i).map segCells),frF w (ownF B (.slice A l.length cap) 13 (l.map segCells)).blk]⟩ : St)) x.1) (fun x => (fun (i : Nat) => l.length - i) x.1) ⟨(0),Nat.zero_le _⟩ (wk_forget 0 0 [0,1,5] (by kernel_rfl) (by kernel_rfl) (by kernel_rfl)) ?_
  rintro ⟨i,hi⟩
  refine xw_wk (Wk.of_eq (s' := ⟨[(0,.v (.slice A l.length cap)),(1,.v (.int .i64 (k + 13 * (i : Int)))),(5,.v (.int .i64 (i : Int)))],[],[],[ownF B (.slice A l.length cap) 13 ((marks mkS 13 k i ++ l.drop i).map segCells),frF w (ownF B (.slice A l.length cap) 13 (l.map segCells)).blk]⟩) rfl) ?_
  try dsimp only at hi
  refine xw_seq ?_
  refine xw_seq ?_
  refine xw_region ?_
  refine xl_endS [0,1,5,9] [(0,.v (.slice A l.length cap)),(1,.v (.int .i64 (k + 13 * (i : Int)))),(5,.v (.int .i64 (i : Int))),(9,.v (.bool (decide ((i : Int) < ((l.length : Nat) : Int)))))] (by kernel_rfl) ?_
  refine xw_cond (b := decide ((i : Int) < ((l.length : Nat) : Int))) (by kernel_rfl) (fun h1 => ?_) (fun h1 => ?_)
  have h1p : ((i : Int) < ((l.length : Nat) : Int)) := of_decide_eq_true h1
  have hlt : i < l.length := by simpa using h1
  obtain ⟨b,hb⟩ : ∃ b,b = k + 13 * (i : Int) := ⟨_,rfl⟩
  rw [← hb]
  obtain ⟨x,hx⟩ : ∃ x,l[i]? = some x := ⟨_,List.getElem?_eq_getElem hlt⟩
  refine xw_fact0 (g := ownF B (.slice A l.length cap) 13 (((marks mkS 13 k i ++ l.drop i).map segCells).set i [.int .i64 x.src,.int .i64 x.dst,.int .i64 x.seq,.int .i64 x.ack,.int .i64 x.flags,.int .i64 x.window,.int .i64 x.o.mss,.int .i64 x.o.scale,.bool x.o.sack,.bool x.o.stamp,.int .i64 x.o.val,.int .i64 x.o.echo,.string x.body])) (congrArg (fun z => ownF B (.slice A l.length cap) 13 z) (mark_same (f := segCells) (mk := mkS) (c := 13) (k := k) hx)) ?_
  refine xw_skip ?_
  refine xw_seq ?_
  refine xw_block ?_
  refine xw_seq ?_
  refine xw_region ?_
  refine xl_elem (kd := .i64) (T := 67) (e := 51) (K := 13) (A := A) (len := l.length) (cap := cap) (rs := (((marks mkS 13 k i ++ l.drop i).map segCells).set i [.int .i64 x.src,.int .i64 x.dst,.int .i64 x.seq,.int .i64 x.ack,.int .i64 x.flags,.int .i64 x.window,.int .i64 x.o.mss,.int .i64 x.o.scale,.bool x.o.sack,.bool x.o.stamp,.int .i64 x.o.val,.int .i64 x.o.echo,.string x.body])) 3 [0,1,5,12,13,14] ⟨[(0,.v (.slice A l.length cap)),(1,.v (.int .i64 b)),(5,.v (.int .i64 (i : Int))),(12,.v (.slice A l.length cap)),(13,.v (.int .i64 (i : Int))),(14,.v (.int .i64 b))],[],[],[ownF B (.slice A l.length cap) 13 (((marks mkS 13 k i ++ l.drop i).map segCells).set i [.int .i64 x.src,.int .i64 x.dst,.int .i64 x.seq,.int .i64 x.ack,.int .i64 x.flags,.int .i64 x.window,.int .i64 x.o.mss,.int .i64 x.o.scale,.bool x.o.sack,.bool x.o.stamp,.int .i64 x.o.val,.int .i64 x.o.echo,.string x.body]),frF w (ownF B (.slice A l.length cap) 13 (l.map segCells)).blk]⟩ i (ownF B (.slice A l.length cap) 13 (((marks mkS 13 k i ++ l.drop i).map segCells).set i [.int .i64 x.src,.int .i64 x.dst,.int .i64 x.seq,.int .i64 x.ack,.int .i64 x.flags,.int .i64 x.window,.int .i64 x.o.mss,.int .i64 x.o.scale,.bool x.o.sack,.bool x.o.stamp,.int .i64 x.o.val,.int .i64 x.o.echo,.string x.body])) (by kernel_rfl) rfl (by kernel_rfl) (by kernel_rfl) rfl (by kernel_rfl) (by kernel_rfl) (by kernel_rfl) (by kernel_rfl) hlt (by simp) (fun ww h => Own.sl h) (by rw [List.length_set,mark_ln hi]; exact hlt) ?_
  intro b2 o3 hA4
  refine xl_op 0 [0,1,5,14,15] ⟨[(0,.v (.slice A l.length cap)),(1,.v (.int .i64 b)),(5,.v (.int .i64 (i : Int))),(14,.v (.int .i64 b)),(15,.v (.pointer (some ⟨b2,o3 + i * 13,none⟩)))],[],[],[ownF B (.slice A l.length cap) 13 (((marks mkS 13 k i ++ l.drop i).map segCells).set i [.int .i64 x.src,.int .i64 x.dst,.int .i64 x.seq,.int .i64 x.ack,.int .i64 x.flags,.int .i64 x.window,.int .i64 x.o.mss,.int .i64 x.o.scale,.bool x.o.sack,.bool x.o.stamp,.int .i64 x.o.val,.int .i64 x.o.echo,.string x.body]),frF w (ownF B (.slice A l.length cap) 13 (l.map segCells)).blk]⟩ (.pointer (some ⟨b2,o3 + i * 13 + 0,none⟩)) (by kernel_rfl) rfl (by kernel_rfl) rfl (fun _ _ _ ww hr => fld_run (sz := 1) hr rfl Try.underlying51 rfl (by kernel_rfl) rfl rfl (by first | rfl | omega)) ?_
  refine xl_stE (K := 13) (po := 0) (B := B) (rs := ((marks mkS 13 k i ++ l.drop i).map segCells)) (row' := [.int .i64 b,.int .i64 x.dst,.int .i64 x.seq,.int .i64 x.ack,.int .i64 x.flags,.int .i64 x.window,.int .i64 x.o.mss,.int .i64 x.o.scale,.bool x.o.sack,.bool x.o.stamp,.int .i64 x.o.val,.int .i64 x.o.echo,.string x.body]) 0 [0,1,5,14,16] ⟨[(0,.v (.slice A l.length cap)),(1,.v (.int .i64 b)),(5,.v (.int .i64 (i : Int))),(14,.v (.int .i64 b)),(16,.v (.pointer (some ⟨b2,o3 + i * 13 + 0,none⟩)))],[],[],[ownF B (.slice A l.length cap) 13 (((marks mkS 13 k i ++ l.drop i).map segCells).set i [.int .i64 x.src,.int .i64 x.dst,.int .i64 x.seq,.int .i64 x.ack,.int .i64 x.flags,.int .i64 x.window,.int .i64 x.o.mss,.int .i64 x.o.scale,.bool x.o.sack,.bool x.o.stamp,.int .i64 x.o.val,.int .i64 x.o.echo,.string x.body]),frF w (ownF B (.slice A l.length cap) 13 (l.map segCells)).blk]⟩ i [.int .i64 x.src,.int .i64 x.dst,.int .i64 x.seq,.int .i64 x.ack,.int .i64 x.flags,.int .i64 x.window,.int .i64 x.o.mss,.int .i64 x.o.scale,.bool x.o.sack,.bool x.o.stamp,.int .i64 x.o.val,.int .i64 x.o.echo,.string x.body] 0 (by kernel_rfl) rfl (by kernel_rfl) rfl rfl rfl rfl (by kernel_rfl) (by kernel_rfl) rfl (cutW_le w B) hA4 (by rw [mark_ln hi]; exact hlt) (fun r hr => by obtain ⟨y,_,rfl⟩ := List.mem_map.1 hr; rfl) (by kernel_rfl) (by kernel_rfl) rfl rfl ?_
  refine xl_end [0,1,5] ⟨[(0,.v (.slice A l.length cap)),(1,.v (.int .i64 b)),(5,.v (.int .i64 (i : Int)))],[],[],[ownF B (.slice A l.length cap) 13 (((marks mkS 13 k i ++ l.drop i).map segCells).set i [.int .i64 b,.int .i64 x.dst,.int .i64 x.seq,.int .i64 x.ack,.int .i64 x.flags,.int .i64 x.window,.int .i64 x.o.mss,.int .i64 x.o.scale,.bool x.o.sack,.bool x.o.stamp,.int .i64 x.o.val,.int .i64 x.o.echo,.string x.body]),frF w (ownF B (.slice A l.length cap) 13 (l.map segCells)).blk]⟩ (by kernel_rfl) ?_
  refine xw_seq ?_
  refine xw_region ?_
  refine xl_runS 3 [0,1,5] [(0,.v (.slice A l.length cap)),(1,.v (.int .i64 (IntKind.i64.wrap (b + 1)))),(5,.v (.int .i64 (i : Int)))] (by kernel_rfl) ?_
  refine xl_eqS (t' := [(0,.v (.slice A l.length cap)),(1,.v (.int .i64 (b + 1))),(5,.v (.int .i64 (i : Int)))]) (by rw [show (IntKind.i64.wrap (b + 1)) = (b + 1) from wrap_id (by omega) (by omega)]) ?_
  refine xl_endS [0,1,5] [(0,.v (.slice A l.length cap)),(1,.v (.int .i64 (b + 1))),(5,.v (.int .i64 (i : Int)))] (by kernel_rfl) ?_
  refine xw_seq ?_
  refine xw_region ?_
  refine xl_elem (kd := .i64) (T := 67) (e := 51) (K := 13) (A := A) (len := l.length) (cap := cap) (rs := (((marks mkS 13 k i ++ l.drop i).map segCells).set i [.int .i64 b,.int .i64 x.dst,.int .i64 x.seq,.int .i64 x.ack,.int .i64 x.flags,.int .i64 x.window,.int .i64 x.o.mss,.int .i64 x.o.scale,.bool x.o.sack,.bool x.o.stamp,.int .i64 x.o.val,.int .i64 x.o.echo,.string x.body])) 3 [0,1,5,19,20,21] ⟨[(0,.v (.slice A l.length cap)),(1,.v (.int .i64 (b + 1))),(5,.v (.int .i64 (i : Int))),(19,.v (.slice A l.length cap)),(20,.v (.int .i64 (i : Int))),(21,.v (.int .i64 (b + 1)))],[],[],[ownF B (.slice A l.length cap) 13 (((marks mkS 13 k i ++ l.drop i).map segCells).set i [.int .i64 b,.int .i64 x.dst,.int .i64 x.seq,.int .i64 x.ack,.int .i64 x.flags,.int .i64 x.window,.int .i64 x.o.mss,.int .i64 x.o.scale,.bool x.o.sack,.bool x.o.stamp,.int .i64 x.o.val,.int .i64 x.o.echo,.string x.body]),frF w (ownF B (.slice A l.length cap) 13 (l.map segCells)).blk]⟩ i (ownF B (.slice A l.length cap) 13 (((marks mkS 13 k i ++ l.drop i).map segCells).set i [.int .i64 b,.int .i64 x.dst,.int .i64 x.seq,.int .i64 x.ack,.int .i64 x.flags,.int .i64 x.window,.int .i64 x.o.mss,.int .i64 x.o.scale,.bool x.o.sack,.bool x.o.stamp,.int .i64 x.o.val,.int .i64 x.o.echo,.string x.body])) (by kernel_rfl) rfl (by kernel_rfl) (by kernel_rfl) rfl (by kernel_rfl) (by kernel_rfl) (by kernel_rfl) (by kernel_rfl) hlt (by simp) (fun ww h => Own.sl h) (by rw [List.length_set,mark_ln hi]; exact hlt) ?_
  intro b5 o6 hA7
  refine xl_op 0 [0,1,5,21,22] ⟨[(0,.v (.slice A l.length cap)),(1,.v (.int .i64 (b + 1))),(5,.v (.int .i64 (i : Int))),(21,.v (.int .i64 (b + 1))),(22,.v (.pointer (some ⟨b5,o6 + i * 13,none⟩)))],[],[],[ownF B (.slice A l.length cap) 13 (((marks mkS 13 k i ++ l.drop i).map segCells).set i [.int .i64 b,.int .i64 x.dst,.int .i64 x.seq,.int .i64 x.ack,.int .i64 x.flags,.int .i64 x.window,.int .i64 x.o.mss,.int .i64 x.o.scale,.bool x.o.sack,.bool x.o.stamp,.int .i64 x.o.val,.int .i64 x.o.echo,.string x.body]),frF w (ownF B (.slice A l.length cap) 13 (l.map segCells)).blk]⟩ (.pointer (some ⟨b5,o6 + i * 13 + 1,none⟩)) (by kernel_rfl) rfl (by kernel_rfl) rfl (fun _ _ _ ww hr => fld_run (sz := 1) hr rfl Try.underlying51 rfl (by kernel_rfl) rfl rfl (by first | rfl | omega)) ?_
  refine xl_stE (K := 13) (po := 1) (B := B) (rs := ((marks mkS 13 k i ++ l.drop i).map segCells)) (row' := [.int .i64 b,.int .i64 (b + 1),.int .i64 x.seq,.int .i64 x.ack,.int .i64 x.flags,.int .i64 x.window,.int .i64 x.o.mss,.int .i64 x.o.scale,.bool x.o.sack,.bool x.o.stamp,.int .i64 x.o.val,.int .i64 x.o.echo,.string x.body]) 0 [0,1,5,21,23] ⟨[(0,.v (.slice A l.length cap)),(1,.v (.int .i64 (b + 1))),(5,.v (.int .i64 (i : Int))),(21,.v (.int .i64 (b + 1))),(23,.v (.pointer (some ⟨b5,o6 + i * 13 + 1,none⟩)))],[],[],[ownF B (.slice A l.length cap) 13 (((marks mkS 13 k i ++ l.drop i).map segCells).set i [.int .i64 b,.int .i64 x.dst,.int .i64 x.seq,.int .i64 x.ack,.int .i64 x.flags,.int .i64 x.window,.int .i64 x.o.mss,.int .i64 x.o.scale,.bool x.o.sack,.bool x.o.stamp,.int .i64 x.o.val,.int .i64 x.o.echo,.string x.body]),frF w (ownF B (.slice A l.length cap) 13 (l.map segCells)).blk]⟩ i [.int .i64 b,.int .i64 x.dst,.int .i64 x.seq,.int .i64 x.ack,.int .i64 x.flags,.int .i64 x.window,.int .i64 x.o.mss,.int .i64 x.o.scale,.bool x.o.sack,.bool x.o.stamp,.int .i64 x.o.val,.int .i64 x.o.echo,.string x.body] 0 (by kernel_rfl) rfl (by kernel_rfl) rfl rfl rfl rfl (by kernel_rfl) (by kernel_rfl) rfl (cutW_le w B) hA7 (by rw [mark_ln hi]; exact hlt) (fun r hr => by obtain ⟨y,_,rfl⟩ := List.mem_map.1 hr; rfl) (by kernel_rfl) (by kernel_rfl) rfl rfl ?_
  refine xl_end [0,1,5] ⟨[(0,.v (.slice A l.length cap)),(1,.v (.int .i64 (b + 1))),(5,.v (.int .i64 (i : Int)))],[],[],[ownF B (.slice A l.length cap) 13 (((marks mkS 13 k i ++ l.drop i).map segCells).set i [.int .i64 b,.int .i64 (b + 1),.int .i64 x.seq,.int .i64 x.ack,.int .i64 x.flags,.int .i64 x.window,.int .i64 x.o.mss,.int .i64 x.o.scale,.bool x.o.sack,.bool x.o.stamp,.int .i64 x.o.val,.int .i64 x.o.echo,.string x.body]),frF w (ownF B (.slice A l.length cap) 13 (l.map segCells)).blk]⟩ (by kernel_rfl) ?_
  refine xw_seq ?_
  refine xw_region ?_
  refine xl_runS 3 [0,1,5] [(0,.v (.slice A l.length cap)),(1,.v (.int .i64 (IntKind.i64.wrap (b + 1 + 1)))),(5,.v (.int .i64 (i : Int)))] (by kernel_rfl) ?_
  refine xl_eqS (t' := [(0,.v (.slice A l.length cap)),(1,.v (.int .i64 (b + 2))),(5,.v (.int .i64 (i : Int)))]) (by rw [show (IntKind.i64.wrap (b + 1 + 1)) = (b + 2) from wrap_to (by omega) (by omega) (by omega)]) ?_
  refine xl_endS [0,1,5] [(0,.v (.slice A l.length cap)),(1,.v (.int .i64 (b + 2))),(5,.v (.int .i64 (i : Int)))] (by kernel_rfl) ?_
  refine xw_seq ?_
  refine xw_region ?_
  refine xl_elem (kd := .i64) (T := 67) (e := 51) (K := 13) (A := A) (len := l.length) (cap := cap) (rs := (((marks mkS 13 k i ++ l.drop i).map segCells).set i [.int .i64 b,.int .i64 (b + 1),.int .i64 x.seq,.int .i64 x.ack,.int .i64 x.flags,.int .i64 x.window,.int .i64 x.o.mss,.int .i64 x.o.scale,.bool x.o.sack,.bool x.o.stamp,.int .i64 x.o.val,.int .i64 x.o.echo,.string x.body])) 3 [0,1,5,26,27,28] ⟨[(0,.v (.slice A l.length cap)),(1,.v (.int .i64 (b + 2))),(5,.v (.int .i64 (i : Int))),(26,.v (.slice A l.length cap)),(27,.v (.int .i64 (i : Int))),(28,.v (.int .i64 (b + 2)))],[],[],[ownF B (.slice A l.length cap) 13 (((marks mkS 13 k i ++ l.drop i).map segCells).set i [.int .i64 b,.int .i64 (b + 1),.int .i64 x.seq,.int .i64 x.ack,.int .i64 x.flags,.int .i64 x.window,.int .i64 x.o.mss,.int .i64 x.o.scale,.bool x.o.sack,.bool x.o.stamp,.int .i64 x.o.val,.int .i64 x.o.echo,.string x.body]),frF w (ownF B (.slice A l.length cap) 13 (l.map segCells)).blk]⟩ i (ownF B (.slice A l.length cap) 13 (((marks mkS 13 k i ++ l.drop i).map segCells).set i [.int .i64 b,.int .i64 (b + 1),.int .i64 x.seq,.int .i64 x.ack,.int .i64 x.flags,.int .i64 x.window,.int .i64 x.o.mss,.int .i64 x.o.scale,.bool x.o.sack,.bool x.o.stamp,.int .i64 x.o.val,.int .i64 x.o.echo,.string x.body])) (by kernel_rfl) rfl (by kernel_rfl) (by kernel_rfl) rfl (by kernel_rfl) (by kernel_rfl) (by kernel_rfl) (by kernel_rfl) hlt (by simp) (fun ww h => Own.sl h) (by rw [List.length_set,mark_ln hi]; exact hlt) ?_
  intro b8 o9 hA10
  refine xl_op 0 [0,1,5,28,29] ⟨[(0,.v (.slice A l.length cap)),(1,.v (.int .i64 (b + 2))),(5,.v (.int .i64 (i : Int))),(28,.v (.int .i64 (b + 2))),(29,.v (.pointer (some ⟨b8,o9 + i * 13,none⟩)))],[],[],[ownF B (.slice A l.length cap) 13 (((marks mkS 13 k i ++ l.drop i).map segCells).set i [.int .i64 b,.int .i64 (b + 1),.int .i64 x.seq,.int .i64 x.ack,.int .i64 x.flags,.int .i64 x.window,.int .i64 x.o.mss,.int .i64 x.o.scale,.bool x.o.sack,.bool x.o.stamp,.int .i64 x.o.val,.int .i64 x.o.echo,.string x.body]),frF w (ownF B (.slice A l.length cap) 13 (l.map segCells)).blk]⟩ (.pointer (some ⟨b8,o9 + i * 13 + 2,none⟩)) (by kernel_rfl) rfl (by kernel_rfl) rfl (fun _ _ _ ww hr => fld_run (sz := 1) hr rfl Try.underlying51 rfl (by kernel_rfl) rfl rfl (by first | rfl | omega)) ?_
  refine xl_stE (K := 13) (po := 2) (B := B) (rs := ((marks mkS 13 k i ++ l.drop i).map segCells)) (row' := [.int .i64 b,.int .i64 (b + 1),.int .i64 (b + 2),.int .i64 x.ack,.int .i64 x.flags,.int .i64 x.window,.int .i64 x.o.mss,.int .i64 x.o.scale,.bool x.o.sack,.bool x.o.stamp,.int .i64 x.o.val,.int .i64 x.o.echo,.string x.body]) 0 [0,1,5,28,30] ⟨[(0,.v (.slice A l.length cap)),(1,.v (.int .i64 (b + 2))),(5,.v (.int .i64 (i : Int))),(28,.v (.int .i64 (b + 2))),(30,.v (.pointer (some ⟨b8,o9 + i * 13 + 2,none⟩)))],[],[],[ownF B (.slice A l.length cap) 13 (((marks mkS 13 k i ++ l.drop i).map segCells).set i [.int .i64 b,.int .i64 (b + 1),.int .i64 x.seq,.int .i64 x.ack,.int .i64 x.flags,.int .i64 x.window,.int .i64 x.o.mss,.int .i64 x.o.scale,.bool x.o.sack,.bool x.o.stamp,.int .i64 x.o.val,.int .i64 x.o.echo,.string x.body]),frF w (ownF B (.slice A l.length cap) 13 (l.map segCells)).blk]⟩ i [.int .i64 b,.int .i64 (b + 1),.int .i64 x.seq,.int .i64 x.ack,.int .i64 x.flags,.int .i64 x.window,.int .i64 x.o.mss,.int .i64 x.o.scale,.bool x.o.sack,.bool x.o.stamp,.int .i64 x.o.val,.int .i64 x.o.echo,.string x.body] 0 (by kernel_rfl) rfl (by kernel_rfl) rfl rfl rfl rfl (by kernel_rfl) (by kernel_rfl) rfl (cutW_le w B) hA10 (by rw [mark_ln hi]; exact hlt) (fun r hr => by obtain ⟨y,_,rfl⟩ := List.mem_map.1 hr; rfl) (by kernel_rfl) (by kernel_rfl) rfl rfl ?_
  refine xl_end [0,1,5] ⟨[(0,.v (.slice A l.length cap)),(1,.v (.int .i64 (b + 2))),(5,.v (.int .i64 (i : Int)))],[],[],[ownF B (.slice A l.length cap) 13 (((marks mkS 13 k i ++ l.drop i).map segCells).set i [.int .i64 b,.int .i64 (b + 1),.int .i64 (b + 2),.int .i64 x.ack,.int .i64 x.flags,.int .i64 x.window,.int .i64 x.o.mss,.int .i64 x.o.scale,.bool x.o.sack,.bool x.o.stamp,.int .i64 x.o.val,.int .i64 x.o.echo,.string x.body]),frF w (ownF B (.slice A l.length cap) 13 (l.map segCells)).blk]⟩ (by kernel_rfl) ?_
  refine xw_seq ?_
  refine xw_region ?_
  refine xl_runS 3 [0,1,5] [(0,.v (.slice A l.length cap)),(1,.v (.int .i64 (IntKind.i64.wrap (b + 2 + 1)))),(5,.v (.int .i64 (i : Int)))] (by kernel_rfl) ?_
  refine xl_eqS (t' := [(0,.v (.slice A l.length cap)),(1,.v (.int .i64 (b + 3))),(5,.v (.int .i64 (i : Int)))]) (by rw [show (IntKind.i64.wrap (b + 2 + 1)) = (b + 3) from wrap_to (by omega) (by omega) (by omega)]) ?_
  refine xl_endS [0,1,5] [(0,.v (.slice A l.length cap)),(1,.v (.int .i64 (b + 3))),(5,.v (.int .i64 (i : Int)))] (by kernel_rfl) ?_
  refine xw_seq ?_
  refine xw_region ?_
  refine xl_elem (kd := .i64) (T := 67) (e := 51) (K := 13) (A := A) (len := l.length) (cap := cap) (rs := (((marks mkS 13 k i ++ l.drop i).map segCells).set i [.int .i64 b,.int .i64 (b + 1),.int .i64 (b + 2),.int .i64 x.ack,.int .i64 x.flags,.int .i64 x.window,.int .i64 x.o.mss,.int .i64 x.o.scale,.bool x.o.sack,.bool x.o.stamp,.int .i64 x.o.val,.int .i64 x.o.echo,.string x.body])) 3 [0,1,5,33,34,35] ⟨[(0,.v (.slice A l.length cap)),(1,.v (.int .i64 (b + 3))),(5,.v (.int .i64 (i : Int))),(33,.v (.slice A l.length cap)),(34,.v (.int .i64 (i : Int))),(35,.v (.int .i64 (b + 3)))],[],[],[ownF B (.slice A l.length cap) 13 (((marks mkS 13 k i ++ l.drop i).map segCells).set i [.int .i64 b,.int .i64 (b + 1),.int .i64 (b + 2),.int .i64 x.ack,.int .i64 x.flags,.int .i64 x.window,.int .i64 x.o.mss,.int .i64 x.o.scale,.bool x.o.sack,.bool x.o.stamp,.int .i64 x.o.val,.int .i64 x.o.echo,.string x.body]),frF w (ownF B (.slice A l.length cap) 13 (l.map segCells)).blk]⟩ i (ownF B (.slice A l.length cap) 13 (((marks mkS 13 k i ++ l.drop i).map segCells).set i [.int .i64 b,.int .i64 (b + 1),.int .i64 (b + 2),.int .i64 x.ack,.int .i64 x.flags,.int .i64 x.window,.int .i64 x.o.mss,.int .i64 x.o.scale,.bool x.o.sack,.bool x.o.stamp,.int .i64 x.o.val,.int .i64 x.o.echo,.string x.body])) (by kernel_rfl) rfl (by kernel_rfl) (by kernel_rfl) rfl (by kernel_rfl) (by kernel_rfl) (by kernel_rfl) (by kernel_rfl) hlt (by simp) (fun ww h => Own.sl h) (by rw [List.length_set,mark_ln hi]; exact hlt) ?_
  intro b11 o12 hA13
  refine xl_op 0 [0,1,5,35,36] ⟨[(0,.v (.slice A l.length cap)),(1,.v (.int .i64 (b + 3))),(5,.v (.int .i64 (i : Int))),(35,.v (.int .i64 (b + 3))),(36,.v (.pointer (some ⟨b11,o12 + i * 13,none⟩)))],[],[],[ownF B (.slice A l.length cap) 13 (((marks mkS 13 k i ++ l.drop i).map segCells).set i [.int .i64 b,.int .i64 (b + 1),.int .i64 (b + 2),.int .i64 x.ack,.int .i64 x.flags,.int .i64 x.window,.int .i64 x.o.mss,.int .i64 x.o.scale,.bool x.o.sack,.bool x.o.stamp,.int .i64 x.o.val,.int .i64 x.o.echo,.string x.body]),frF w (ownF B (.slice A l.length cap) 13 (l.map segCells)).blk]⟩ (.pointer (some ⟨b11,o12 + i * 13 + 3,none⟩)) (by kernel_rfl) rfl (by kernel_rfl) rfl (fun _ _ _ ww hr => fld_run (sz := 1) hr rfl Try.underlying51 rfl (by kernel_rfl) rfl rfl (by first | rfl | omega)) ?_
  refine xl_stE (K := 13) (po := 3) (B := B) (rs := ((marks mkS 13 k i ++ l.drop i).map segCells)) (row' := [.int .i64 b,.int .i64 (b + 1),.int .i64 (b + 2),.int .i64 (b + 3),.int .i64 x.flags,.int .i64 x.window,.int .i64 x.o.mss,.int .i64 x.o.scale,.bool x.o.sack,.bool x.o.stamp,.int .i64 x.o.val,.int .i64 x.o.echo,.string x.body]) 0 [0,1,5,35,37] ⟨[(0,.v (.slice A l.length cap)),(1,.v (.int .i64 (b + 3))),(5,.v (.int .i64 (i : Int))),(35,.v (.int .i64 (b + 3))),(37,.v (.pointer (some ⟨b11,o12 + i * 13 + 3,none⟩)))],[],[],[ownF B (.slice A l.length cap) 13 (((marks mkS 13 k i ++ l.drop i).map segCells).set i [.int .i64 b,.int .i64 (b + 1),.int .i64 (b + 2),.int .i64 x.ack,.int .i64 x.flags,.int .i64 x.window,.int .i64 x.o.mss,.int .i64 x.o.scale,.bool x.o.sack,.bool x.o.stamp,.int .i64 x.o.val,.int .i64 x.o.echo,.string x.body]),frF w (ownF B (.slice A l.length cap) 13 (l.map segCells)).blk]⟩ i [.int .i64 b,.int .i64 (b + 1),.int .i64 (b + 2),.int .i64 x.ack,.int .i64 x.flags,.int .i64 x.window,.int .i64 x.o.mss,.int .i64 x.o.scale,.bool x.o.sack,.bool x.o.stamp,.int .i64 x.o.val,.int .i64 x.o.echo,.string x.body] 0 (by kernel_rfl) rfl (by kernel_rfl) rfl rfl rfl rfl (by kernel_rfl) (by kernel_rfl) rfl (cutW_le w B) hA13 (by rw [mark_ln hi]; exact hlt) (fun r hr => by obtain ⟨y,_,rfl⟩ := List.mem_map.1 hr; rfl) (by kernel_rfl) (by kernel_rfl) rfl rfl ?_
  refine xl_end [0,1,5] ⟨[(0,.v (.slice A l.length cap)),(1,.v (.int .i64 (b + 3))),(5,.v (.int .i64 (i : Int)))],[],[],[ownF B (.slice A l.length cap) 13 (((marks mkS 13 k i ++ l.drop i).map segCells).set i [.int .i64 b,.int .i64 (b + 1),.int .i64 (b + 2),.int .i64 (b + 3),.int .i64 x.flags,.int .i64 x.window,.int .i64 x.o.mss,.int .i64 x.o.scale,.bool x.o.sack,.bool x.o.stamp,.int .i64 x.o.val,.int .i64 x.o.echo,.string x.body]),frF w (ownF B (.slice A l.length cap) 13 (l.map segCells)).blk]⟩ (by kernel_rfl) ?_
  refine xw_seq ?_
  refine xw_region ?_
  refine xl_runS 3 [0,1,5] [(0,.v (.slice A l.length cap)),(1,.v (.int .i64 (IntKind.i64.wrap (b + 3 + 1)))),(5,.v (.int .i64 (i : Int)))] (by kernel_rfl) ?_
  refine xl_eqS (t' := [(0,.v (.slice A l.length cap)),(1,.v (.int .i64 (b + 4))),(5,.v (.int .i64 (i : Int)))]) (by rw [show (IntKind.i64.wrap (b + 3 + 1)) = (b + 4) from wrap_to (by omega) (by omega) (by omega)]) ?_
  refine xl_endS [0,1,5] [(0,.v (.slice A l.length cap)),(1,.v (.int .i64 (b + 4))),(5,.v (.int .i64 (i : Int)))] (by kernel_rfl) ?_
  refine xw_seq ?_
  refine xw_region ?_
  refine xl_elem (kd := .i64) (T := 67) (e := 51) (K := 13) (A := A) (len := l.length) (cap := cap) (rs := (((marks mkS 13 k i ++ l.drop i).map segCells).set i [.int .i64 b,.int .i64 (b + 1),.int .i64 (b + 2),.int .i64 (b + 3),.int .i64 x.flags,.int .i64 x.window,.int .i64 x.o.mss,.int .i64 x.o.scale,.bool x.o.sack,.bool x.o.stamp,.int .i64 x.o.val,.int .i64 x.o.echo,.string x.body])) 3 [0,1,5,40,41,42] ⟨[(0,.v (.slice A l.length cap)),(1,.v (.int .i64 (b + 4))),(5,.v (.int .i64 (i : Int))),(40,.v (.slice A l.length cap)),(41,.v (.int .i64 (i : Int))),(42,.v (.int .i64 (b + 4)))],[],[],[ownF B (.slice A l.length cap) 13 (((marks mkS 13 k i ++ l.drop i).map segCells).set i [.int .i64 b,.int .i64 (b + 1),.int .i64 (b + 2),.int .i64 (b + 3),.int .i64 x.flags,.int .i64 x.window,.int .i64 x.o.mss,.int .i64 x.o.scale,.bool x.o.sack,.bool x.o.stamp,.int .i64 x.o.val,.int .i64 x.o.echo,.string x.body]),frF w (ownF B (.slice A l.length cap) 13 (l.map segCells)).blk]⟩ i (ownF B (.slice A l.length cap) 13 (((marks mkS 13 k i ++ l.drop i).map segCells).set i [.int .i64 b,.int .i64 (b + 1),.int .i64 (b + 2),.int .i64 (b + 3),.int .i64 x.flags,.int .i64 x.window,.int .i64 x.o.mss,.int .i64 x.o.scale,.bool x.o.sack,.bool x.o.stamp,.int .i64 x.o.val,.int .i64 x.o.echo,.string x.body])) (by kernel_rfl) rfl (by kernel_rfl) (by kernel_rfl) rfl (by kernel_rfl) (by kernel_rfl) (by kernel_rfl) (by kernel_rfl) hlt (by simp) (fun ww h => Own.sl h) (by rw [List.length_set,mark_ln hi]; exact hlt) ?_
  intro b14 o15 hA16
  refine xl_op 0 [0,1,5,42,43] ⟨[(0,.v (.slice A l.length cap)),(1,.v (.int .i64 (b + 4))),(5,.v (.int .i64 (i : Int))),(42,.v (.int .i64 (b + 4))),(43,.v (.pointer (some ⟨b14,o15 + i * 13,none⟩)))],[],[],[ownF B (.slice A l.length cap) 13 (((marks mkS 13 k i ++ l.drop i).map segCells).set i [.int .i64 b,.int .i64 (b + 1),.int .i64 (b + 2),.int .i64 (b + 3),.int .i64 x.flags,.int .i64 x.window,.int .i64 x.o.mss,.int .i64 x.o.scale,.bool x.o.sack,.bool x.o.stamp,.int .i64 x.o.val,.int .i64 x.o.echo,.string x.body]),frF w (ownF B (.slice A l.length cap) 13 (l.map segCells)).blk]⟩ (.pointer (some ⟨b14,o15 + i * 13 + 4,none⟩)) (by kernel_rfl) rfl (by kernel_rfl) rfl (fun _ _ _ ww hr => fld_run (sz := 1) hr rfl Try.underlying51 rfl (by kernel_rfl) rfl rfl (by first | rfl | omega)) ?_
  refine xl_stE (K := 13) (po := 4) (B := B) (rs := ((marks mkS 13 k i ++ l.drop i).map segCells)) (row' := [.int .i64 b,.int .i64 (b + 1),.int .i64 (b + 2),.int .i64 (b + 3),.int .i64 (b + 4),.int .i64 x.window,.int .i64 x.o.mss,.int .i64 x.o.scale,.bool x.o.sack,.bool x.o.stamp,.int .i64 x.o.val,.int .i64 x.o.echo,.string x.body]) 0 [0,1,5,42,44] ⟨[(0,.v (.slice A l.length cap)),(1,.v (.int .i64 (b + 4))),(5,.v (.int .i64 (i : Int))),(42,.v (.int .i64 (b + 4))),(44,.v (.pointer (some ⟨b14,o15 + i * 13 + 4,none⟩)))],[],[],[ownF B (.slice A l.length cap) 13 (((marks mkS 13 k i ++ l.drop i).map segCells).set i [.int .i64 b,.int .i64 (b + 1),.int .i64 (b + 2),.int .i64 (b + 3),.int .i64 x.flags,.int .i64 x.window,.int .i64 x.o.mss,.int .i64 x.o.scale,.bool x.o.sack,.bool x.o.stamp,.int .i64 x.o.val,.int .i64 x.o.echo,.string x.body]),frF w (ownF B (.slice A l.length cap) 13 (l.map segCells)).blk]⟩ i [.int .i64 b,.int .i64 (b + 1),.int .i64 (b + 2),.int .i64 (b + 3),.int .i64 x.flags,.int .i64 x.window,.int .i64 x.o.mss,.int .i64 x.o.scale,.bool x.o.sack,.bool x.o.stamp,.int .i64 x.o.val,.int .i64 x.o.echo,.string x.body] 0 (by kernel_rfl) rfl (by kernel_rfl) rfl rfl rfl rfl (by kernel_rfl) (by kernel_rfl) rfl (cutW_le w B) hA16 (by rw [mark_ln hi]; exact hlt) (fun r hr => by obtain ⟨y,_,rfl⟩ := List.mem_map.1 hr; rfl) (by kernel_rfl) (by kernel_rfl) rfl rfl ?_
  refine xl_end [0,1,5] ⟨[(0,.v (.slice A l.length cap)),(1,.v (.int .i64 (b + 4))),(5,.v (.int .i64 (i : Int)))],[],[],[ownF B (.slice A l.length cap) 13 (((marks mkS 13 k i ++ l.drop i).map segCells).set i [.int .i64 b,.int .i64 (b + 1),.int .i64 (b + 2),.int .i64 (b + 3),.int .i64 (b + 4),.int .i64 x.window,.int .i64 x.o.mss,.int .i64 x.o.scale,.bool x.o.sack,.bool x.o.stamp,.int .i64 x.o.val,.int .i64 x.o.echo,.string x.body]),frF w (ownF B (.slice A l.length cap) 13 (l.map segCells)).blk]⟩ (by kernel_rfl) ?_
  refine xw_seq ?_
  refine xw_region ?_
  refine xl_runS 3 [0,1,5] [(0,.v (.slice A l.length cap)),(1,.v (.int .i64 (IntKind.i64.wrap (b + 4 + 1)))),(5,.v (.int .i64 (i : Int)))] (by kernel_rfl) ?_
  refine xl_eqS (t' := [(0,.v (.slice A l.length cap)),(1,.v (.int .i64 (b + 5))),(5,.v (.int .i64 (i : Int)))]) (by rw [show (IntKind.i64.wrap (b + 4 + 1)) = (b + 5) from wrap_to (by omega) (by omega) (by omega)]) ?_
  refine xl_endS [0,1,5] [(0,.v (.slice A l.length cap)),(1,.v (.int .i64 (b + 5))),(5,.v (.int .i64 (i : Int)))] (by kernel_rfl) ?_
  refine xw_seq ?_
  refine xw_region ?_
  refine xl_elem (kd := .i64) (T := 67) (e := 51) (K := 13) (A := A) (len := l.length) (cap := cap) (rs := (((marks mkS 13 k i ++ l.drop i).map segCells).set i [.int .i64 b,.int .i64 (b + 1),.int .i64 (b + 2),.int .i64 (b + 3),.int .i64 (b + 4),.int .i64 x.window,.int .i64 x.o.mss,.int .i64 x.o.scale,.bool x.o.sack,.bool x.o.stamp,.int .i64 x.o.val,.int .i64 x.o.echo,.string x.body])) 3 [0,1,5,47,48,49] ⟨[(0,.v (.slice A l.length cap)),(1,.v (.int .i64 (b + 5))),(5,.v (.int .i64 (i : Int))),(47,.v (.slice A l.length cap)),(48,.v (.int .i64 (i : Int))),(49,.v (.int .i64 (b + 5)))],[],[],[ownF B (.slice A l.length cap) 13 (((marks mkS 13 k i ++ l.drop i).map segCells).set i [.int .i64 b,.int .i64 (b + 1),.int .i64 (b + 2),.int .i64 (b + 3),.int .i64 (b + 4),.int .i64 x.window,.int .i64 x.o.mss,.int .i64 x.o.scale,.bool x.o.sack,.bool x.o.stamp,.int .i64 x.o.val,.int .i64 x.o.echo,.string x.body]),frF w (ownF B (.slice A l.length cap) 13 (l.map segCells)).blk]⟩ i (ownF B (.slice A l.length cap) 13 (((marks mkS 13 k i ++ l.drop i).map segCells).set i [.int .i64 b,.int .i64 (b + 1),.int .i64 (b + 2),.int .i64 (b + 3),.int .i64 (b + 4),.int .i64 x.window,.int .i64 x.o.mss,.int .i64 x.o.scale,.bool x.o.sack,.bool x.o.stamp,.int .i64 x.o.val,.int .i64 x.o.echo,.string x.body])) (by kernel_rfl) rfl (by kernel_rfl) (by kernel_rfl) rfl (by kernel_rfl) (by kernel_rfl) (by kernel_rfl) (by kernel_rfl) hlt (by simp) (fun ww h => Own.sl h) (by rw [List.length_set,mark_ln hi]; exact hlt) ?_
  intro b17 o18 hA19
  refine xl_op 0 [0,1,5,49,50] ⟨[(0,.v (.slice A l.length cap)),(1,.v (.int .i64 (b + 5))),(5,.v (.int .i64 (i : Int))),(49,.v (.int .i64 (b + 5))),(50,.v (.pointer (some ⟨b17,o18 + i * 13,none⟩)))],[],[],[ownF B (.slice A l.length cap) 13 (((marks mkS 13 k i ++ l.drop i).map segCells).set i [.int .i64 b,.int .i64 (b + 1),.int .i64 (b + 2),.int .i64 (b + 3),.int .i64 (b + 4),.int .i64 x.window,.int .i64 x.o.mss,.int .i64 x.o.scale,.bool x.o.sack,.bool x.o.stamp,.int .i64 x.o.val,.int .i64 x.o.echo,.string x.body]),frF w (ownF B (.slice A l.length cap) 13 (l.map segCells)).blk]⟩ (.pointer (some ⟨b17,o18 + i * 13 + 5,none⟩)) (by kernel_rfl) rfl (by kernel_rfl) rfl (fun _ _ _ ww hr => fld_run (sz := 1) hr rfl Try.underlying51 rfl (by kernel_rfl) rfl rfl (by first | rfl | omega)) ?_
  refine xl_stE (K := 13) (po := 5) (B := B) (rs := ((marks mkS 13 k i ++ l.drop i).map segCells)) (row' := [.int .i64 b,.int .i64 (b + 1),.int .i64 (b + 2),.int .i64 (b + 3),.int .i64 (b + 4),.int .i64 (b + 5),.int .i64 x.o.mss,.int .i64 x.o.scale,.bool x.o.sack,.bool x.o.stamp,.int .i64 x.o.val,.int .i64 x.o.echo,.string x.body]) 0 [0,1,5,49,51] ⟨[(0,.v (.slice A l.length cap)),(1,.v (.int .i64 (b + 5))),(5,.v (.int .i64 (i : Int))),(49,.v (.int .i64 (b + 5))),(51,.v (.pointer (some ⟨b17,o18 + i * 13 + 5,none⟩)))],[],[],[ownF B (.slice A l.length cap) 13 (((marks mkS 13 k i ++ l.drop i).map segCells).set i [.int .i64 b,.int .i64 (b + 1),.int .i64 (b + 2),.int .i64 (b + 3),.int .i64 (b + 4),.int .i64 x.window,.int .i64 x.o.mss,.int .i64 x.o.scale,.bool x.o.sack,.bool x.o.stamp,.int .i64 x.o.val,.int .i64 x.o.echo,.string x.body]),frF w (ownF B (.slice A l.length cap) 13 (l.map segCells)).blk]⟩ i [.int .i64 b,.int .i64 (b + 1),.int .i64 (b + 2),.int .i64 (b + 3),.int .i64 (b + 4),.int .i64 x.window,.int .i64 x.o.mss,.int .i64 x.o.scale,.bool x.o.sack,.bool x.o.stamp,.int .i64 x.o.val,.int .i64 x.o.echo,.string x.body] 0 (by kernel_rfl) rfl (by kernel_rfl) rfl rfl rfl rfl (by kernel_rfl) (by kernel_rfl) rfl (cutW_le w B) hA19 (by rw [mark_ln hi]; exact hlt) (fun r hr => by obtain ⟨y,_,rfl⟩ := List.mem_map.1 hr; rfl) (by kernel_rfl) (by kernel_rfl) rfl rfl ?_
  refine xl_end [0,1,5] ⟨[(0,.v (.slice A l.length cap)),(1,.v (.int .i64 (b + 5))),(5,.v (.int .i64 (i : Int)))],[],[],[ownF B (.slice A l.length cap) 13 (((marks mkS 13 k i ++ l.drop i).map segCells).set i [.int .i64 b,.int .i64 (b + 1),.int .i64 (b + 2),.int .i64 (b + 3),.int .i64 (b + 4),.int .i64 (b + 5),.int .i64 x.o.mss,.int .i64 x.o.scale,.bool x.o.sack,.bool x.o.stamp,.int .i64 x.o.val,.int .i64 x.o.echo,.string x.body]),frF w (ownF B (.slice A l.length cap) 13 (l.map segCells)).blk]⟩ (by kernel_rfl) ?_
  refine xw_seq ?_
  refine xw_region ?_
  refine xl_runS 3 [0,1,5] [(0,.v (.slice A l.length cap)),(1,.v (.int .i64 (IntKind.i64.wrap (b + 5 + 1)))),(5,.v (.int .i64 (i : Int)))] (by kernel_rfl) ?_
  refine xl_eqS (t' := [(0,.v (.slice A l.length cap)),(1,.v (.int .i64 (b + 6))),(5,.v (.int .i64 (i : Int)))]) (by rw [show (IntKind.i64.wrap (b + 5 + 1)) = (b + 6) from wrap_to (by omega) (by omega) (by omega)]) ?_
  refine xl_endS [0,1,5] [(0,.v (.slice A l.length cap)),(1,.v (.int .i64 (b + 6))),(5,.v (.int .i64 (i : Int)))] (by kernel_rfl) ?_
  refine xw_seq ?_
  refine xw_region ?_
  refine xl_elem (kd := .i64) (T := 67) (e := 51) (K := 13) (A := A) (len := l.length) (cap := cap) (rs := (((marks mkS 13 k i ++ l.drop i).map segCells).set i [.int .i64 b,.int .i64 (b + 1),.int .i64 (b + 2),.int .i64 (b + 3),.int .i64 (b + 4),.int .i64 (b + 5),.int .i64 x.o.mss,.int .i64 x.o.scale,.bool x.o.sack,.bool x.o.stamp,.int .i64 x.o.val,.int .i64 x.o.echo,.string x.body])) 3 [0,1,5,54,55,56] ⟨[(0,.v (.slice A l.length cap)),(1,.v (.int .i64 (b + 6))),(5,.v (.int .i64 (i : Int))),(54,.v (.slice A l.length cap)),(55,.v (.int .i64 (i : Int))),(56,.v (.int .i64 (b + 6)))],[],[],[ownF B (.slice A l.length cap) 13 (((marks mkS 13 k i ++ l.drop i).map segCells).set i [.int .i64 b,.int .i64 (b + 1),.int .i64 (b + 2),.int .i64 (b + 3),.int .i64 (b + 4),.int .i64 (b + 5),.int .i64 x.o.mss,.int .i64 x.o.scale,.bool x.o.sack,.bool x.o.stamp,.int .i64 x.o.val,.int .i64 x.o.echo,.string x.body]),frF w (ownF B (.slice A l.length cap) 13 (l.map segCells)).blk]⟩ i (ownF B (.slice A l.length cap) 13 (((marks mkS 13 k i ++ l.drop i).map segCells).set i [.int .i64 b,.int .i64 (b + 1),.int .i64 (b + 2),.int .i64 (b + 3),.int .i64 (b + 4),.int .i64 (b + 5),.int .i64 x.o.mss,.int .i64 x.o.scale,.bool x.o.sack,.bool x.o.stamp,.int .i64 x.o.val,.int .i64 x.o.echo,.string x.body])) (by kernel_rfl) rfl (by kernel_rfl) (by kernel_rfl) rfl (by kernel_rfl) (by kernel_rfl) (by kernel_rfl) (by kernel_rfl) hlt (by simp) (fun ww h => Own.sl h) (by rw [List.length_set,mark_ln hi]; exact hlt) ?_
  intro b20 o21 hA22
  refine xl_op 0 [0,1,5,56,57] ⟨[(0,.v (.slice A l.length cap)),(1,.v (.int .i64 (b + 6))),(5,.v (.int .i64 (i : Int))),(56,.v (.int .i64 (b + 6))),(57,.v (.pointer (some ⟨b20,o21 + i * 13,none⟩)))],[],[],[ownF B (.slice A l.length cap) 13 (((marks mkS 13 k i ++ l.drop i).map segCells).set i [.int .i64 b,.int .i64 (b + 1),.int .i64 (b + 2),.int .i64 (b + 3),.int .i64 (b + 4),.int .i64 (b + 5),.int .i64 x.o.mss,.int .i64 x.o.scale,.bool x.o.sack,.bool x.o.stamp,.int .i64 x.o.val,.int .i64 x.o.echo,.string x.body]),frF w (ownF B (.slice A l.length cap) 13 (l.map segCells)).blk]⟩ (.pointer (some ⟨b20,o21 + i * 13 + 6,none⟩)) (by kernel_rfl) rfl (by kernel_rfl) rfl (fun _ _ _ ww hr => fld_run (sz := 6) hr rfl Try.underlying51 rfl (by kernel_rfl) rfl rfl (by first | rfl | omega)) ?_
  refine xl_op 0 [0,1,5,56,58] ⟨[(0,.v (.slice A l.length cap)),(1,.v (.int .i64 (b + 6))),(5,.v (.int .i64 (i : Int))),(56,.v (.int .i64 (b + 6))),(58,.v (.pointer (some ⟨b20,o21 + i * 13 + 6,none⟩)))],[],[],[ownF B (.slice A l.length cap) 13 (((marks mkS 13 k i ++ l.drop i).map segCells).set i [.int .i64 b,.int .i64 (b + 1),.int .i64 (b + 2),.int .i64 (b + 3),.int .i64 (b + 4),.int .i64 (b + 5),.int .i64 x.o.mss,.int .i64 x.o.scale,.bool x.o.sack,.bool x.o.stamp,.int .i64 x.o.val,.int .i64 x.o.echo,.string x.body]),frF w (ownF B (.slice A l.length cap) 13 (l.map segCells)).blk]⟩ (.pointer (some ⟨b20,o21 + i * 13 + 6,none⟩)) (by kernel_rfl) rfl (by kernel_rfl) rfl (fun _ _ _ ww hr => fld_run (sz := 1) hr rfl Try.underlying40 rfl (by kernel_rfl) rfl rfl (by first | rfl | omega)) ?_
  refine xl_stE (K := 13) (po := 6) (B := B) (rs := ((marks mkS 13 k i ++ l.drop i).map segCells)) (row' := [.int .i64 b,.int .i64 (b + 1),.int .i64 (b + 2),.int .i64 (b + 3),.int .i64 (b + 4),.int .i64 (b + 5),.int .i64 (b + 6),.int .i64 x.o.scale,.bool x.o.sack,.bool x.o.stamp,.int .i64 x.o.val,.int .i64 x.o.echo,.string x.body]) 0 [0,1,5,56,59] ⟨[(0,.v (.slice A l.length cap)),(1,.v (.int .i64 (b + 6))),(5,.v (.int .i64 (i : Int))),(56,.v (.int .i64 (b + 6))),(59,.v (.pointer (some ⟨b20,o21 + i * 13 + 6,none⟩)))],[],[],[ownF B (.slice A l.length cap) 13 (((marks mkS 13 k i ++ l.drop i).map segCells).set i [.int .i64 b,.int .i64 (b + 1),.int .i64 (b + 2),.int .i64 (b + 3),.int .i64 (b + 4),.int .i64 (b + 5),.int .i64 x.o.mss,.int .i64 x.o.scale,.bool x.o.sack,.bool x.o.stamp,.int .i64 x.o.val,.int .i64 x.o.echo,.string x.body]),frF w (ownF B (.slice A l.length cap) 13 (l.map segCells)).blk]⟩ i [.int .i64 b,.int .i64 (b + 1),.int .i64 (b + 2),.int .i64 (b + 3),.int .i64 (b + 4),.int .i64 (b + 5),.int .i64 x.o.mss,.int .i64 x.o.scale,.bool x.o.sack,.bool x.o.stamp,.int .i64 x.o.val,.int .i64 x.o.echo,.string x.body] 0 (by kernel_rfl) rfl (by kernel_rfl) rfl rfl rfl rfl (by kernel_rfl) (by kernel_rfl) rfl (cutW_le w B) hA22 (by rw [mark_ln hi]; exact hlt) (fun r hr => by obtain ⟨y,_,rfl⟩ := List.mem_map.1 hr; rfl) (by kernel_rfl) (by kernel_rfl) rfl rfl ?_
  refine xl_end [0,1,5] ⟨[(0,.v (.slice A l.length cap)),(1,.v (.int .i64 (b + 6))),(5,.v (.int .i64 (i : Int)))],[],[],[ownF B (.slice A l.length cap) 13 (((marks mkS 13 k i ++ l.drop i).map segCells).set i [.int .i64 b,.int .i64 (b + 1),.int .i64 (b + 2),.int .i64 (b + 3),.int .i64 (b + 4),.int .i64 (b + 5),.int .i64 (b + 6),.int .i64 x.o.scale,.bool x.o.sack,.bool x.o.stamp,.int .i64 x.o.val,.int .i64 x.o.echo,.string x.body]),frF w (ownF B (.slice A l.length cap) 13 (l.map segCells)).blk]⟩ (by kernel_rfl) ?_
  refine xw_seq ?_
  refine xw_region ?_
  refine xl_runS 3 [0,1,5] [(0,.v (.slice A l.length cap)),(1,.v (.int .i64 (IntKind.i64.wrap (b + 6 + 1)))),(5,.v (.int .i64 (i : Int)))] (by kernel_rfl) ?_
  refine xl_eqS (t' := [(0,.v (.slice A l.length cap)),(1,.v (.int .i64 (b + 7))),(5,.v (.int .i64 (i : Int)))]) (by rw [show (IntKind.i64.wrap (b + 6 + 1)) = (b + 7) from wrap_to (by omega) (by omega) (by omega)]) ?_
  refine xl_endS [0,1,5] [(0,.v (.slice A l.length cap)),(1,.v (.int .i64 (b + 7))),(5,.v (.int .i64 (i : Int)))] (by kernel_rfl) ?_
  refine xw_seq ?_
  refine xw_region ?_
  refine xl_elem (kd := .i64) (T := 67) (e := 51) (K := 13) (A := A) (len := l.length) (cap := cap) (rs := (((marks mkS 13 k i ++ l.drop i).map segCells).set i [.int .i64 b,.int .i64 (b + 1),.int .i64 (b + 2),.int .i64 (b + 3),.int .i64 (b + 4),.int .i64 (b + 5),.int .i64 (b + 6),.int .i64 x.o.scale,.bool x.o.sack,.bool x.o.stamp,.int .i64 x.o.val,.int .i64 x.o.echo,.string x.body])) 3 [0,1,5,62,63,64] ⟨[(0,.v (.slice A l.length cap)),(1,.v (.int .i64 (b + 7))),(5,.v (.int .i64 (i : Int))),(62,.v (.slice A l.length cap)),(63,.v (.int .i64 (i : Int))),(64,.v (.int .i64 (b + 7)))],[],[],[ownF B (.slice A l.length cap) 13 (((marks mkS 13 k i ++ l.drop i).map segCells).set i [.int .i64 b,.int .i64 (b + 1),.int .i64 (b + 2),.int .i64 (b + 3),.int .i64 (b + 4),.int .i64 (b + 5),.int .i64 (b + 6),.int .i64 x.o.scale,.bool x.o.sack,.bool x.o.stamp,.int .i64 x.o.val,.int .i64 x.o.echo,.string x.body]),frF w (ownF B (.slice A l.length cap) 13 (l.map segCells)).blk]⟩ i (ownF B (.slice A l.length cap) 13 (((marks mkS 13 k i ++ l.drop i).map segCells).set i [.int .i64 b,.int .i64 (b + 1),.int .i64 (b + 2),.int .i64 (b + 3),.int .i64 (b + 4),.int .i64 (b + 5),.int .i64 (b + 6),.int .i64 x.o.scale,.bool x.o.sack,.bool x.o.stamp,.int .i64 x.o.val,.int .i64 x.o.echo,.string x.body])) (by kernel_rfl) rfl (by kernel_rfl) (by kernel_rfl) rfl (by kernel_rfl) (by kernel_rfl) (by kernel_rfl) (by kernel_rfl) hlt (by simp) (fun ww h => Own.sl h) (by rw [List.length_set,mark_ln hi]; exact hlt) ?_
  intro b23 o24 hA25
  refine xl_op 0 [0,1,5,64,65] ⟨[(0,.v (.slice A l.length cap)),(1,.v (.int .i64 (b + 7))),(5,.v (.int .i64 (i : Int))),(64,.v (.int .i64 (b + 7))),(65,.v (.pointer (some ⟨b23,o24 + i * 13,none⟩)))],[],[],[ownF B (.slice A l.length cap) 13 (((marks mkS 13 k i ++ l.drop i).map segCells).set i [.int .i64 b,.int .i64 (b + 1),.int .i64 (b + 2),.int .i64 (b + 3),.int .i64 (b + 4),.int .i64 (b + 5),.int .i64 (b + 6),.int .i64 x.o.scale,.bool x.o.sack,.bool x.o.stamp,.int .i64 x.o.val,.int .i64 x.o.echo,.string x.body]),frF w (ownF B (.slice A l.length cap) 13 (l.map segCells)).blk]⟩ (.pointer (some ⟨b23,o24 + i * 13 + 6,none⟩)) (by kernel_rfl) rfl (by kernel_rfl) rfl (fun _ _ _ ww hr => fld_run (sz := 6) hr rfl Try.underlying51 rfl (by kernel_rfl) rfl rfl (by first | rfl | omega)) ?_
  refine xl_op 0 [0,1,5,64,66] ⟨[(0,.v (.slice A l.length cap)),(1,.v (.int .i64 (b + 7))),(5,.v (.int .i64 (i : Int))),(64,.v (.int .i64 (b + 7))),(66,.v (.pointer (some ⟨b23,o24 + i * 13 + 6,none⟩)))],[],[],[ownF B (.slice A l.length cap) 13 (((marks mkS 13 k i ++ l.drop i).map segCells).set i [.int .i64 b,.int .i64 (b + 1),.int .i64 (b + 2),.int .i64 (b + 3),.int .i64 (b + 4),.int .i64 (b + 5),.int .i64 (b + 6),.int .i64 x.o.scale,.bool x.o.sack,.bool x.o.stamp,.int .i64 x.o.val,.int .i64 x.o.echo,.string x.body]),frF w (ownF B (.slice A l.length cap) 13 (l.map segCells)).blk]⟩ (.pointer (some ⟨b23,o24 + i * 13 + 7,none⟩)) (by kernel_rfl) rfl (by kernel_rfl) rfl (fun _ _ _ ww hr => fld_run (sz := 1) hr rfl Try.underlying40 rfl (by kernel_rfl) rfl rfl (by first | rfl | omega)) ?_
  refine xl_stE (K := 13) (po := 7) (B := B) (rs := ((marks mkS 13 k i ++ l.drop i).map segCells)) (row' := [.int .i64 b,.int .i64 (b + 1),.int .i64 (b + 2),.int .i64 (b + 3),.int .i64 (b + 4),.int .i64 (b + 5),.int .i64 (b + 6),.int .i64 (b + 7),.bool x.o.sack,.bool x.o.stamp,.int .i64 x.o.val,.int .i64 x.o.echo,.string x.body]) 0 [0,1,5,64,67] ⟨[(0,.v (.slice A l.length cap)),(1,.v (.int .i64 (b + 7))),(5,.v (.int .i64 (i : Int))),(64,.v (.int .i64 (b + 7))),(67,.v (.pointer (some ⟨b23,o24 + i * 13 + 7,none⟩)))],[],[],[ownF B (.slice A l.length cap) 13 (((marks mkS 13 k i ++ l.drop i).map segCells).set i [.int .i64 b,.int .i64 (b + 1),.int .i64 (b + 2),.int .i64 (b + 3),.int .i64 (b + 4),.int .i64 (b + 5),.int .i64 (b + 6),.int .i64 x.o.scale,.bool x.o.sack,.bool x.o.stamp,.int .i64 x.o.val,.int .i64 x.o.echo,.string x.body]),frF w (ownF B (.slice A l.length cap) 13 (l.map segCells)).blk]⟩ i [.int .i64 b,.int .i64 (b + 1),.int .i64 (b + 2),.int .i64 (b + 3),.int .i64 (b + 4),.int .i64 (b + 5),.int .i64 (b + 6),.int .i64 x.o.scale,.bool x.o.sack,.bool x.o.stamp,.int .i64 x.o.val,.int .i64 x.o.echo,.string x.body] 0 (by kernel_rfl) rfl (by kernel_rfl) rfl rfl rfl rfl (by kernel_rfl) (by kernel_rfl) rfl (cutW_le w B) hA25 (by rw [mark_ln hi]; exact hlt) (fun r hr => by obtain ⟨y,_,rfl⟩ := List.mem_map.1 hr; rfl) (by kernel_rfl) (by kernel_rfl) rfl rfl ?_
  refine xl_end [0,1,5] ⟨[(0,.v (.slice A l.length cap)),(1,.v (.int .i64 (b + 7))),(5,.v (.int .i64 (i : Int)))],[],[],[ownF B (.slice A l.length cap) 13 (((marks mkS 13 k i ++ l.drop i).map segCells).set i [.int .i64 b,.int .i64 (b + 1),.int .i64 (b + 2),.int .i64 (b + 3),.int .i64 (b + 4),.int .i64 (b + 5),.int .i64 (b + 6),.int .i64 (b + 7),.bool x.o.sack,.bool x.o.stamp,.int .i64 x.o.val,.int .i64 x.o.echo,.string x.body]),frF w (ownF B (.slice A l.length cap) 13 (l.map segCells)).blk]⟩ (by kernel_rfl) ?_
  refine xw_seq ?_
  refine xw_region ?_
  refine xl_runS 3 [0,1,5] [(0,.v (.slice A l.length cap)),(1,.v (.int .i64 (IntKind.i64.wrap (b + 7 + 1)))),(5,.v (.int .i64 (i : Int)))] (by kernel_rfl) ?_
  refine xl_eqS (t' := [(0,.v (.slice A l.length cap)),(1,.v (.int .i64 (b + 8))),(5,.v (.int .i64 (i : Int)))]) (by rw [show (IntKind.i64.wrap (b + 7 + 1)) = (b + 8) from wrap_to (by omega) (by omega) (by omega)]) ?_
  refine xl_endS [0,1,5] [(0,.v (.slice A l.length cap)),(1,.v (.int .i64 (b + 8))),(5,.v (.int .i64 (i : Int)))] (by kernel_rfl) ?_
  refine xw_seq ?_
  refine xw_region ?_
  refine xl_opS 3 [0,1,5,70,71,72] [(0,.v (.slice A l.length cap)),(1,.v (.int .i64 (b + 8))),(5,.v (.int .i64 (i : Int))),(70,.v (.slice A l.length cap)),(71,.v (.int .i64 (i : Int))),(72,.v (.int .i64 (b + 8)))] (.int .i64 (Int.tmod (b + 8) 3)) (by kernel_rfl) rfl (by kernel_rfl) rfl (fun _ _ _ ww hr => act_bin hr.1 rfl (by kernel_rfl) (by kernel_rfl) (rem_run (by decide) ww)) ?_
  refine xl_elem (kd := .i64) (T := 67) (e := 51) (K := 13) (A := A) (len := l.length) (cap := cap) (rs := (((marks mkS 13 k i ++ l.drop i).map segCells).set i [.int .i64 b,.int .i64 (b + 1),.int .i64 (b + 2),.int .i64 (b + 3),.int .i64 (b + 4),.int .i64 (b + 5),.int .i64 (b + 6),.int .i64 (b + 7),.bool x.o.sack,.bool x.o.stamp,.int .i64 x.o.val,.int .i64 x.o.echo,.string x.body])) 1 [0,1,5,70,71,74] ⟨[(0,.v (.slice A l.length cap)),(1,.v (.int .i64 (b + 8))),(5,.v (.int .i64 (i : Int))),(70,.v (.slice A l.length cap)),(71,.v (.int .i64 (i : Int))),(74,.v (.bool ((Int.tmod (b + 8) 3) == 0)))],[],[],[ownF B (.slice A l.length cap) 13 (((marks mkS 13 k i ++ l.drop i).map segCells).set i [.int .i64 b,.int .i64 (b + 1),.int .i64 (b + 2),.int .i64 (b + 3),.int .i64 (b + 4),.int .i64 (b + 5),.int .i64 (b + 6),.int .i64 (b + 7),.bool x.o.sack,.bool x.o.stamp,.int .i64 x.o.val,.int .i64 x.o.echo,.string x.body]),frF w (ownF B (.slice A l.length cap) 13 (l.map segCells)).blk]⟩ i (ownF B (.slice A l.length cap) 13 (((marks mkS 13 k i ++ l.drop i).map segCells).set i [.int .i64 b,.int .i64 (b + 1),.int .i64 (b + 2),.int .i64 (b + 3),.int .i64 (b + 4),.int .i64 (b + 5),.int .i64 (b + 6),.int .i64 (b + 7),.bool x.o.sack,.bool x.o.stamp,.int .i64 x.o.val,.int .i64 x.o.echo,.string x.body])) (by kernel_rfl) rfl (by kernel_rfl) (by kernel_rfl) rfl (by kernel_rfl) (by kernel_rfl) (by kernel_rfl) (by kernel_rfl) hlt (by simp) (fun ww h => Own.sl h) (by rw [List.length_set,mark_ln hi]; exact hlt) ?_
  intro b26 o27 hA28
  refine xl_op 0 [0,1,5,74,75] ⟨[(0,.v (.slice A l.length cap)),(1,.v (.int .i64 (b + 8))),(5,.v (.int .i64 (i : Int))),(74,.v (.bool ((Int.tmod (b + 8) 3) == 0))),(75,.v (.pointer (some ⟨b26,o27 + i * 13,none⟩)))],[],[],[ownF B (.slice A l.length cap) 13 (((marks mkS 13 k i ++ l.drop i).map segCells).set i [.int .i64 b,.int .i64 (b + 1),.int .i64 (b + 2),.int .i64 (b + 3),.int .i64 (b + 4),.int .i64 (b + 5),.int .i64 (b + 6),.int .i64 (b + 7),.bool x.o.sack,.bool x.o.stamp,.int .i64 x.o.val,.int .i64 x.o.echo,.string x.body]),frF w (ownF B (.slice A l.length cap) 13 (l.map segCells)).blk]⟩ (.pointer (some ⟨b26,o27 + i * 13 + 6,none⟩)) (by kernel_rfl) rfl (by kernel_rfl) rfl (fun _ _ _ ww hr => fld_run (sz := 6) hr rfl Try.underlying51 rfl (by kernel_rfl) rfl rfl (by first | rfl | omega)) ?_
  refine xl_op 0 [0,1,5,74,76] ⟨[(0,.v (.slice A l.length cap)),(1,.v (.int .i64 (b + 8))),(5,.v (.int .i64 (i : Int))),(74,.v (.bool ((Int.tmod (b + 8) 3) == 0))),(76,.v (.pointer (some ⟨b26,o27 + i * 13 + 6,none⟩)))],[],[],[ownF B (.slice A l.length cap) 13 (((marks mkS 13 k i ++ l.drop i).map segCells).set i [.int .i64 b,.int .i64 (b + 1),.int .i64 (b + 2),.int .i64 (b + 3),.int .i64 (b + 4),.int .i64 (b + 5),.int .i64 (b + 6),.int .i64 (b + 7),.bool x.o.sack,.bool x.o.stamp,.int .i64 x.o.val,.int .i64 x.o.echo,.string x.body]),frF w (ownF B (.slice A l.length cap) 13 (l.map segCells)).blk]⟩ (.pointer (some ⟨b26,o27 + i * 13 + 8,none⟩)) (by kernel_rfl) rfl (by kernel_rfl) rfl (fun _ _ _ ww hr => fld_run (sz := 1) hr rfl Try.underlying40 rfl (by kernel_rfl) rfl rfl (by first | rfl | omega)) ?_
  refine xl_stE (K := 13) (po := 8) (B := B) (rs := ((marks mkS 13 k i ++ l.drop i).map segCells)) (row' := [.int .i64 b,.int .i64 (b + 1),.int .i64 (b + 2),.int .i64 (b + 3),.int .i64 (b + 4),.int .i64 (b + 5),.int .i64 (b + 6),.int .i64 (b + 7),.bool ((Int.tmod (b + 8) 3) == 0),.bool x.o.stamp,.int .i64 x.o.val,.int .i64 x.o.echo,.string x.body]) 0 [0,1,5,74,77] ⟨[(0,.v (.slice A l.length cap)),(1,.v (.int .i64 (b + 8))),(5,.v (.int .i64 (i : Int))),(74,.v (.bool ((Int.tmod (b + 8) 3) == 0))),(77,.v (.pointer (some ⟨b26,o27 + i * 13 + 8,none⟩)))],[],[],[ownF B (.slice A l.length cap) 13 (((marks mkS 13 k i ++ l.drop i).map segCells).set i [.int .i64 b,.int .i64 (b + 1),.int .i64 (b + 2),.int .i64 (b + 3),.int .i64 (b + 4),.int .i64 (b + 5),.int .i64 (b + 6),.int .i64 (b + 7),.bool x.o.sack,.bool x.o.stamp,.int .i64 x.o.val,.int .i64 x.o.echo,.string x.body]),frF w (ownF B (.slice A l.length cap) 13 (l.map segCells)).blk]⟩ i [.int .i64 b,.int .i64 (b + 1),.int .i64 (b + 2),.int .i64 (b + 3),.int .i64 (b + 4),.int .i64 (b + 5),.int .i64 (b + 6),.int .i64 (b + 7),.bool x.o.sack,.bool x.o.stamp,.int .i64 x.o.val,.int .i64 x.o.echo,.string x.body] 0 (by kernel_rfl) rfl (by kernel_rfl) rfl rfl rfl rfl (by kernel_rfl) (by kernel_rfl) rfl (cutW_le w B) hA28 (by rw [mark_ln hi]; exact hlt) (fun r hr => by obtain ⟨y,_,rfl⟩ := List.mem_map.1 hr; rfl) (by kernel_rfl) (by kernel_rfl) rfl rfl ?_
  refine xl_end [0,1,5] ⟨[(0,.v (.slice A l.length cap)),(1,.v (.int .i64 (b + 8))),(5,.v (.int .i64 (i : Int)))],[],[],[ownF B (.slice A l.length cap) 13 (((marks mkS 13 k i ++ l.drop i).map segCells).set i [.int .i64 b,.int .i64 (b + 1),.int .i64 (b + 2),.int .i64 (b + 3),.int .i64 (b + 4),.int .i64 (b + 5),.int .i64 (b + 6),.int .i64 (b + 7),.bool ((Int.tmod (b + 8) 3) == 0),.bool x.o.stamp,.int .i64 x.o.val,.int .i64 x.o.echo,.string x.body]),frF w (ownF B (.slice A l.length cap) 13 (l.map segCells)).blk]⟩ (by kernel_rfl) ?_
  refine xw_seq ?_
  refine xw_region ?_
  refine xl_runS 3 [0,1,5] [(0,.v (.slice A l.length cap)),(1,.v (.int .i64 (IntKind.i64.wrap (b + 8 + 1)))),(5,.v (.int .i64 (i : Int)))] (by kernel_rfl) ?_
  refine xl_eqS (t' := [(0,.v (.slice A l.length cap)),(1,.v (.int .i64 (b + 9))),(5,.v (.int .i64 (i : Int)))]) (by rw [show (IntKind.i64.wrap (b + 8 + 1)) = (b + 9) from wrap_to (by omega) (by omega) (by omega)]) ?_
  refine xl_endS [0,1,5] [(0,.v (.slice A l.length cap)),(1,.v (.int .i64 (b + 9))),(5,.v (.int .i64 (i : Int)))] (by kernel_rfl) ?_
  refine xw_seq ?_
  refine xw_region ?_
  refine xl_opS 3 [0,1,5,80,81,82] [(0,.v (.slice A l.length cap)),(1,.v (.int .i64 (b + 9))),(5,.v (.int .i64 (i : Int))),(80,.v (.slice A l.length cap)),(81,.v (.int .i64 (i : Int))),(82,.v (.int .i64 (b + 9)))] (.int .i64 (Int.tmod (b + 9) 3)) (by kernel_rfl) rfl (by kernel_rfl) rfl (fun _ _ _ ww hr => act_bin hr.1 rfl (by kernel_rfl) (by kernel_rfl) (rem_run (by decide) ww)) ?_
  refine xl_elem (kd := .i64) (T := 67) (e := 51) (K := 13) (A := A) (len := l.length) (cap := cap) (rs := (((marks mkS 13 k i ++ l.drop i).map segCells).set i [.int .i64 b,.int .i64 (b + 1),.int .i64 (b + 2),.int .i64 (b + 3),.int .i64 (b + 4),.int .i64 (b + 5),.int .i64 (b + 6),.int .i64 (b + 7),.bool ((Int.tmod (b + 8) 3) == 0),.bool x.o.stamp,.int .i64 x.o.val,.int .i64 x.o.echo,.string x.body])) 1 [0,1,5,80,81,84] ⟨[(0,.v (.slice A l.length cap)),(1,.v (.int .i64 (b + 9))),(5,.v (.int .i64 (i : Int))),(80,.v (.slice A l.length cap)),(81,.v (.int .i64 (i : Int))),(84,.v (.bool ((Int.tmod (b + 9) 3) == 0)))],[],[],[ownF B (.slice A l.length cap) 13 (((marks mkS 13 k i ++ l.drop i).map segCells).set i [.int .i64 b,.int .i64 (b + 1),.int .i64 (b + 2),.int .i64 (b + 3),.int .i64 (b + 4),.int .i64 (b + 5),.int .i64 (b + 6),.int .i64 (b + 7),.bool ((Int.tmod (b + 8) 3) == 0),.bool x.o.stamp,.int .i64 x.o.val,.int .i64 x.o.echo,.string x.body]),frF w (ownF B (.slice A l.length cap) 13 (l.map segCells)).blk]⟩ i (ownF B (.slice A l.length cap) 13 (((marks mkS 13 k i ++ l.drop i).map segCells).set i [.int .i64 b,.int .i64 (b + 1),.int .i64 (b + 2),.int .i64 (b + 3),.int .i64 (b + 4),.int .i64 (b + 5),.int .i64 (b + 6),.int .i64 (b + 7),.bool ((Int.tmod (b + 8) 3) == 0),.bool x.o.stamp,.int .i64 x.o.val,.int .i64 x.o.echo,.string x.body])) (by kernel_rfl) rfl (by kernel_rfl) (by kernel_rfl) rfl (by kernel_rfl) (by kernel_rfl) (by kernel_rfl) (by kernel_rfl) hlt (by simp) (fun ww h => Own.sl h) (by rw [List.length_set,mark_ln hi]; exact hlt) ?_
  intro b29 o30 hA31
  refine xl_op 0 [0,1,5,84,85] ⟨[(0,.v (.slice A l.length cap)),(1,.v (.int .i64 (b + 9))),(5,.v (.int .i64 (i : Int))),(84,.v (.bool ((Int.tmod (b + 9) 3) == 0))),(85,.v (.pointer (some ⟨b29,o30 + i * 13,none⟩)))],[],[],[ownF B (.slice A l.length cap) 13 (((marks mkS 13 k i ++ l.drop i).map segCells).set i [.int .i64 b,.int .i64 (b + 1),.int .i64 (b + 2),.int .i64 (b + 3),.int .i64 (b + 4),.int .i64 (b + 5),.int .i64 (b + 6),.int .i64 (b + 7),.bool ((Int.tmod (b + 8) 3) == 0),.bool x.o.stamp,.int .i64 x.o.val,.int .i64 x.o.echo,.string x.body]),frF w (ownF B (.slice A l.length cap) 13 (l.map segCells)).blk]⟩ (.pointer (some ⟨b29,o30 + i * 13 + 6,none⟩)) (by kernel_rfl) rfl (by kernel_rfl) rfl (fun _ _ _ ww hr => fld_run (sz := 6) hr rfl Try.underlying51 rfl (by kernel_rfl) rfl rfl (by first | rfl | omega)) ?_
  refine xl_op 0 [0,1,5,84,86] ⟨[(0,.v (.slice A l.length cap)),(1,.v (.int .i64 (b + 9))),(5,.v (.int .i64 (i : Int))),(84,.v (.bool ((Int.tmod (b + 9) 3) == 0))),(86,.v (.pointer (some ⟨b29,o30 + i * 13 + 6,none⟩)))],[],[],[ownF B (.slice A l.length cap) 13 (((marks mkS 13 k i ++ l.drop i).map segCells).set i [.int .i64 b,.int .i64 (b + 1),.int .i64 (b + 2),.int .i64 (b + 3),.int .i64 (b + 4),.int .i64 (b + 5),.int .i64 (b + 6),.int .i64 (b + 7),.bool ((Int.tmod (b + 8) 3) == 0),.bool x.o.stamp,.int .i64 x.o.val,.int .i64 x.o.echo,.string x.body]),frF w (ownF B (.slice A l.length cap) 13 (l.map segCells)).blk]⟩ (.pointer (some ⟨b29,o30 + i * 13 + 9,none⟩)) (by kernel_rfl) rfl (by kernel_rfl) rfl (fun _ _ _ ww hr => fld_run (sz := 1) hr rfl Try.underlying40 rfl (by kernel_rfl) rfl rfl (by first | rfl | omega)) ?_
  refine xl_stE (K := 13) (po := 9) (B := B) (rs := ((marks mkS 13 k i ++ l.drop i).map segCells)) (row' := [.int .i64 b,.int .i64 (b + 1),.int .i64 (b + 2),.int .i64 (b + 3),.int .i64 (b + 4),.int .i64 (b + 5),.int .i64 (b + 6),.int .i64 (b + 7),.bool ((Int.tmod (b + 8) 3) == 0),.bool ((Int.tmod (b + 9) 3) == 0),.int .i64 x.o.val,.int .i64 x.o.echo,.string x.body]) 0 [0,1,5,84,87] ⟨[(0,.v (.slice A l.length cap)),(1,.v (.int .i64 (b + 9))),(5,.v (.int .i64 (i : Int))),(84,.v (.bool ((Int.tmod (b + 9) 3) == 0))),(87,.v (.pointer (some ⟨b29,o30 + i * 13 + 9,none⟩)))],[],[],[ownF B (.slice A l.length cap) 13 (((marks mkS 13 k i ++ l.drop i).map segCells).set i [.int .i64 b,.int .i64 (b + 1),.int .i64 (b + 2),.int .i64 (b + 3),.int .i64 (b + 4),.int .i64 (b + 5),.int .i64 (b + 6),.int .i64 (b + 7),.bool ((Int.tmod (b + 8) 3) == 0),.bool x.o.stamp,.int .i64 x.o.val,.int .i64 x.o.echo,.string x.body]),frF w (ownF B (.slice A l.length cap) 13 (l.map segCells)).blk]⟩ i [.int .i64 b,.int .i64 (b + 1),.int .i64 (b + 2),.int .i64 (b + 3),.int .i64 (b + 4),.int .i64 (b + 5),.int .i64 (b + 6),.int .i64 (b + 7),.bool ((Int.tmod (b + 8) 3) == 0),.bool x.o.stamp,.int .i64 x.o.val,.int .i64 x.o.echo,.string x.body] 0 (by kernel_rfl) rfl (by kernel_rfl) rfl rfl rfl rfl (by kernel_rfl) (by kernel_rfl) rfl (cutW_le w B) hA31 (by rw [mark_ln hi]; exact hlt) (fun r hr => by obtain ⟨y,_,rfl⟩ := List.mem_map.1 hr; rfl) (by kernel_rfl) (by kernel_rfl) rfl rfl ?_
  refine xl_end [0,1,5] ⟨[(0,.v (.slice A l.length cap)),(1,.v (.int .i64 (b + 9))),(5,.v (.int .i64 (i : Int)))],[],[],[ownF B (.slice A l.length cap) 13 (((marks mkS 13 k i ++ l.drop i).map segCells).set i [.int .i64 b,.int .i64 (b + 1),.int .i64 (b + 2),.int .i64 (b + 3),.int .i64 (b + 4),.int .i64 (b + 5),.int .i64 (b + 6),.int .i64 (b + 7),.bool ((Int.tmod (b + 8) 3) == 0),.bool ((Int.tmod (b + 9) 3) == 0),.int .i64 x.o.val,.int .i64 x.o.echo,.string x.body]),frF w (ownF B (.slice A l.length cap) 13 (l.map segCells)).blk]⟩ (by kernel_rfl) ?_
  refine xw_seq ?_
  refine xw_region ?_
  refine xl_runS 3 [0,1,5] [(0,.v (.slice A l.length cap)),(1,.v (.int .i64 (IntKind.i64.wrap (b + 9 + 1)))),(5,.v (.int .i64 (i : Int)))] (by kernel_rfl) ?_
  refine xl_eqS (t' := [(0,.v (.slice A l.length cap)),(1,.v (.int .i64 (b + 10))),(5,.v (.int .i64 (i : Int)))]) (by rw [show (IntKind.i64.wrap (b + 9 + 1)) = (b + 10) from wrap_to (by omega) (by omega) (by omega)]) ?_
  refine xl_endS [0,1,5] [(0,.v (.slice A l.length cap)),(1,.v (.int .i64 (b + 10))),(5,.v (.int .i64 (i : Int)))] (by kernel_rfl) ?_
  refine xw_seq ?_
  refine xw_region ?_
  refine xl_elem (kd := .i64) (T := 67) (e := 51) (K := 13) (A := A) (len := l.length) (cap := cap) (rs := (((marks mkS 13 k i ++ l.drop i).map segCells).set i [.int .i64 b,.int .i64 (b + 1),.int .i64 (b + 2),.int .i64 (b + 3),.int .i64 (b + 4),.int .i64 (b + 5),.int .i64 (b + 6),.int .i64 (b + 7),.bool ((Int.tmod (b + 8) 3) == 0),.bool ((Int.tmod (b + 9) 3) == 0),.int .i64 x.o.val,.int .i64 x.o.echo,.string x.body])) 3 [0,1,5,90,91,92] ⟨[(0,.v (.slice A l.length cap)),(1,.v (.int .i64 (b + 10))),(5,.v (.int .i64 (i : Int))),(90,.v (.slice A l.length cap)),(91,.v (.int .i64 (i : Int))),(92,.v (.int .i64 (b + 10)))],[],[],[ownF B (.slice A l.length cap) 13 (((marks mkS 13 k i ++ l.drop i).map segCells).set i [.int .i64 b,.int .i64 (b + 1),.int .i64 (b + 2),.int .i64 (b + 3),.int .i64 (b + 4),.int .i64 (b + 5),.int .i64 (b + 6),.int .i64 (b + 7),.bool ((Int.tmod (b + 8) 3) == 0),.bool ((Int.tmod (b + 9) 3) == 0),.int .i64 x.o.val,.int .i64 x.o.echo,.string x.body]),frF w (ownF B (.slice A l.length cap) 13 (l.map segCells)).blk]⟩ i (ownF B (.slice A l.length cap) 13 (((marks mkS 13 k i ++ l.drop i).map segCells).set i [.int .i64 b,.int .i64 (b + 1),.int .i64 (b + 2),.int .i64 (b + 3),.int .i64 (b + 4),.int .i64 (b + 5),.int .i64 (b + 6),.int .i64 (b + 7),.bool ((Int.tmod (b + 8) 3) == 0),.bool ((Int.tmod (b + 9) 3) == 0),.int .i64 x.o.val,.int .i64 x.o.echo,.string x.body])) (by kernel_rfl) rfl (by kernel_rfl) (by kernel_rfl) rfl (by kernel_rfl) (by kernel_rfl) (by kernel_rfl) (by kernel_rfl) hlt (by simp) (fun ww h => Own.sl h) (by rw [List.length_set,mark_ln hi]; exact hlt) ?_
  intro b32 o33 hA34
  refine xl_op 0 [0,1,5,92,93] ⟨[(0,.v (.slice A l.length cap)),(1,.v (.int .i64 (b + 10))),(5,.v (.int .i64 (i : Int))),(92,.v (.int .i64 (b + 10))),(93,.v (.pointer (some ⟨b32,o33 + i * 13,none⟩)))],[],[],[ownF B (.slice A l.length cap) 13 (((marks mkS 13 k i ++ l.drop i).map segCells).set i [.int .i64 b,.int .i64 (b + 1),.int .i64 (b + 2),.int .i64 (b + 3),.int .i64 (b + 4),.int .i64 (b + 5),.int .i64 (b + 6),.int .i64 (b + 7),.bool ((Int.tmod (b + 8) 3) == 0),.bool ((Int.tmod (b + 9) 3) == 0),.int .i64 x.o.val,.int .i64 x.o.echo,.string x.body]),frF w (ownF B (.slice A l.length cap) 13 (l.map segCells)).blk]⟩ (.pointer (some ⟨b32,o33 + i * 13 + 6,none⟩)) (by kernel_rfl) rfl (by kernel_rfl) rfl (fun _ _ _ ww hr => fld_run (sz := 6) hr rfl Try.underlying51 rfl (by kernel_rfl) rfl rfl (by first | rfl | omega)) ?_
  refine xl_op 0 [0,1,5,92,94] ⟨[(0,.v (.slice A l.length cap)),(1,.v (.int .i64 (b + 10))),(5,.v (.int .i64 (i : Int))),(92,.v (.int .i64 (b + 10))),(94,.v (.pointer (some ⟨b32,o33 + i * 13 + 6,none⟩)))],[],[],[ownF B (.slice A l.length cap) 13 (((marks mkS 13 k i ++ l.drop i).map segCells).set i [.int .i64 b,.int .i64 (b + 1),.int .i64 (b + 2),.int .i64 (b + 3),.int .i64 (b + 4),.int .i64 (b + 5),.int .i64 (b + 6),.int .i64 (b + 7),.bool ((Int.tmod (b + 8) 3) == 0),.bool ((Int.tmod (b + 9) 3) == 0),.int .i64 x.o.val,.int .i64 x.o.echo,.string x.body]),frF w (ownF B (.slice A l.length cap) 13 (l.map segCells)).blk]⟩ (.pointer (some ⟨b32,o33 + i * 13 + 10,none⟩)) (by kernel_rfl) rfl (by kernel_rfl) rfl (fun _ _ _ ww hr => fld_run (sz := 1) hr rfl Try.underlying40 rfl (by kernel_rfl) rfl rfl (by first | rfl | omega)) ?_
  refine xl_stE (K := 13) (po := 10) (B := B) (rs := ((marks mkS 13 k i ++ l.drop i).map segCells)) (row' := [.int .i64 b,.int .i64 (b + 1),.int .i64 (b + 2),.int .i64 (b + 3),.int .i64 (b + 4),.int .i64 (b + 5),.int .i64 (b + 6),.int .i64 (b + 7),.bool ((Int.tmod (b + 8) 3) == 0),.bool ((Int.tmod (b + 9) 3) == 0),.int .i64 (b + 10),.int .i64 x.o.echo,.string x.body]) 0 [0,1,5,92,95] ⟨[(0,.v (.slice A l.length cap)),(1,.v (.int .i64 (b + 10))),(5,.v (.int .i64 (i : Int))),(92,.v (.int .i64 (b + 10))),(95,.v (.pointer (some ⟨b32,o33 + i * 13 + 10,none⟩)))],[],[],[ownF B (.slice A l.length cap) 13 (((marks mkS 13 k i ++ l.drop i).map segCells).set i [.int .i64 b,.int .i64 (b + 1),.int .i64 (b + 2),.int .i64 (b + 3),.int .i64 (b + 4),.int .i64 (b + 5),.int .i64 (b + 6),.int .i64 (b + 7),.bool ((Int.tmod (b + 8) 3) == 0),.bool ((Int.tmod (b + 9) 3) == 0),.int .i64 x.o.val,.int .i64 x.o.echo,.string x.body]),frF w (ownF B (.slice A l.length cap) 13 (l.map segCells)).blk]⟩ i [.int .i64 b,.int .i64 (b + 1),.int .i64 (b + 2),.int .i64 (b + 3),.int .i64 (b + 4),.int .i64 (b + 5),.int .i64 (b + 6),.int .i64 (b + 7),.bool ((Int.tmod (b + 8) 3) == 0),.bool ((Int.tmod (b + 9) 3) == 0),.int .i64 x.o.val,.int .i64 x.o.echo,.string x.body] 0 (by kernel_rfl) rfl (by kernel_rfl) rfl rfl rfl rfl (by kernel_rfl) (by kernel_rfl) rfl (cutW_le w B) hA34 (by rw [mark_ln hi]; exact hlt) (fun r hr => by obtain ⟨y,_,rfl⟩ := List.mem_map.1 hr; rfl) (by kernel_rfl) (by kernel_rfl) rfl rfl ?_
  refine xl_end [0,1,5] ⟨[(0,.v (.slice A l.length cap)),(1,.v (.int .i64 (b + 10))),(5,.v (.int .i64 (i : Int)))],[],[],[ownF B (.slice A l.length cap) 13 (((marks mkS 13 k i ++ l.drop i).map segCells).set i [.int .i64 b,.int .i64 (b + 1),.int .i64 (b + 2),.int .i64 (b + 3),.int .i64 (b + 4),.int .i64 (b + 5),.int .i64 (b + 6),.int .i64 (b + 7),.bool ((Int.tmod (b + 8) 3) == 0),.bool ((Int.tmod (b + 9) 3) == 0),.int .i64 (b + 10),.int .i64 x.o.echo,.string x.body]),frF w (ownF B (.slice A l.length cap) 13 (l.map segCells)).blk]⟩ (by kernel_rfl) ?_
  refine xw_seq ?_
  refine xw_region ?_
  refine xl_runS 3 [0,1,5] [(0,.v (.slice A l.length cap)),(1,.v (.int .i64 (IntKind.i64.wrap (b + 10 + 1)))),(5,.v (.int .i64 (i : Int)))] (by kernel_rfl) ?_
  refine xl_eqS (t' := [(0,.v (.slice A l.length cap)),(1,.v (.int .i64 (b + 11))),(5,.v (.int .i64 (i : Int)))]) (by rw [show (IntKind.i64.wrap (b + 10 + 1)) = (b + 11) from wrap_to (by omega) (by omega) (by omega)]) ?_
  refine xl_endS [0,1,5] [(0,.v (.slice A l.length cap)),(1,.v (.int .i64 (b + 11))),(5,.v (.int .i64 (i : Int)))] (by kernel_rfl) ?_
  refine xw_seq ?_
  refine xw_region ?_
  refine xl_elem (kd := .i64) (T := 67) (e := 51) (K := 13) (A := A) (len := l.length) (cap := cap) (rs := (((marks mkS 13 k i ++ l.drop i).map segCells).set i [.int .i64 b,.int .i64 (b + 1),.int .i64 (b + 2),.int .i64 (b + 3),.int .i64 (b + 4),.int .i64 (b + 5),.int .i64 (b + 6),.int .i64 (b + 7),.bool ((Int.tmod (b + 8) 3) == 0),.bool ((Int.tmod (b + 9) 3) == 0),.int .i64 (b + 10),.int .i64 x.o.echo,.string x.body])) 3 [0,1,5,98,99,100] ⟨[(0,.v (.slice A l.length cap)),(1,.v (.int .i64 (b + 11))),(5,.v (.int .i64 (i : Int))),(98,.v (.slice A l.length cap)),(99,.v (.int .i64 (i : Int))),(100,.v (.int .i64 (b + 11)))],[],[],[ownF B (.slice A l.length cap) 13 (((marks mkS 13 k i ++ l.drop i).map segCells).set i [.int .i64 b,.int .i64 (b + 1),.int .i64 (b + 2),.int .i64 (b + 3),.int .i64 (b + 4),.int .i64 (b + 5),.int .i64 (b + 6),.int .i64 (b + 7),.bool ((Int.tmod (b + 8) 3) == 0),.bool ((Int.tmod (b + 9) 3) == 0),.int .i64 (b + 10),.int .i64 x.o.echo,.string x.body]),frF w (ownF B (.slice A l.length cap) 13 (l.map segCells)).blk]⟩ i (ownF B (.slice A l.length cap) 13 (((marks mkS 13 k i ++ l.drop i).map segCells).set i [.int .i64 b,.int .i64 (b + 1),.int .i64 (b + 2),.int .i64 (b + 3),.int .i64 (b + 4),.int .i64 (b + 5),.int .i64 (b + 6),.int .i64 (b + 7),.bool ((Int.tmod (b + 8) 3) == 0),.bool ((Int.tmod (b + 9) 3) == 0),.int .i64 (b + 10),.int .i64 x.o.echo,.string x.body])) (by kernel_rfl) rfl (by kernel_rfl) (by kernel_rfl) rfl (by kernel_rfl) (by kernel_rfl) (by kernel_rfl) (by kernel_rfl) hlt (by simp) (fun ww h => Own.sl h) (by rw [List.length_set,mark_ln hi]; exact hlt) ?_
  intro b35 o36 hA37
  refine xl_op 0 [0,1,5,100,101] ⟨[(0,.v (.slice A l.length cap)),(1,.v (.int .i64 (b + 11))),(5,.v (.int .i64 (i : Int))),(100,.v (.int .i64 (b + 11))),(101,.v (.pointer (some ⟨b35,o36 + i * 13,none⟩)))],[],[],[ownF B (.slice A l.length cap) 13 (((marks mkS 13 k i ++ l.drop i).map segCells).set i [.int .i64 b,.int .i64 (b + 1),.int .i64 (b + 2),.int .i64 (b + 3),.int .i64 (b + 4),.int .i64 (b + 5),.int .i64 (b + 6),.int .i64 (b + 7),.bool ((Int.tmod (b + 8) 3) == 0),.bool ((Int.tmod (b + 9) 3) == 0),.int .i64 (b + 10),.int .i64 x.o.echo,.string x.body]),frF w (ownF B (.slice A l.length cap) 13 (l.map segCells)).blk]⟩ (.pointer (some ⟨b35,o36 + i * 13 + 6,none⟩)) (by kernel_rfl) rfl (by kernel_rfl) rfl (fun _ _ _ ww hr => fld_run (sz := 6) hr rfl Try.underlying51 rfl (by kernel_rfl) rfl rfl (by first | rfl | omega)) ?_
  refine xl_op 0 [0,1,5,100,102] ⟨[(0,.v (.slice A l.length cap)),(1,.v (.int .i64 (b + 11))),(5,.v (.int .i64 (i : Int))),(100,.v (.int .i64 (b + 11))),(102,.v (.pointer (some ⟨b35,o36 + i * 13 + 6,none⟩)))],[],[],[ownF B (.slice A l.length cap) 13 (((marks mkS 13 k i ++ l.drop i).map segCells).set i [.int .i64 b,.int .i64 (b + 1),.int .i64 (b + 2),.int .i64 (b + 3),.int .i64 (b + 4),.int .i64 (b + 5),.int .i64 (b + 6),.int .i64 (b + 7),.bool ((Int.tmod (b + 8) 3) == 0),.bool ((Int.tmod (b + 9) 3) == 0),.int .i64 (b + 10),.int .i64 x.o.echo,.string x.body]),frF w (ownF B (.slice A l.length cap) 13 (l.map segCells)).blk]⟩ (.pointer (some ⟨b35,o36 + i * 13 + 11,none⟩)) (by kernel_rfl) rfl (by kernel_rfl) rfl (fun _ _ _ ww hr => fld_run (sz := 1) hr rfl Try.underlying40 rfl (by kernel_rfl) rfl rfl (by first | rfl | omega)) ?_
  refine xl_stE (K := 13) (po := 11) (B := B) (rs := ((marks mkS 13 k i ++ l.drop i).map segCells)) (row' := [.int .i64 b,.int .i64 (b + 1),.int .i64 (b + 2),.int .i64 (b + 3),.int .i64 (b + 4),.int .i64 (b + 5),.int .i64 (b + 6),.int .i64 (b + 7),.bool ((Int.tmod (b + 8) 3) == 0),.bool ((Int.tmod (b + 9) 3) == 0),.int .i64 (b + 10),.int .i64 (b + 11),.string x.body]) 0 [0,1,5,100,103] ⟨[(0,.v (.slice A l.length cap)),(1,.v (.int .i64 (b + 11))),(5,.v (.int .i64 (i : Int))),(100,.v (.int .i64 (b + 11))),(103,.v (.pointer (some ⟨b35,o36 + i * 13 + 11,none⟩)))],[],[],[ownF B (.slice A l.length cap) 13 (((marks mkS 13 k i ++ l.drop i).map segCells).set i [.int .i64 b,.int .i64 (b + 1),.int .i64 (b + 2),.int .i64 (b + 3),.int .i64 (b + 4),.int .i64 (b + 5),.int .i64 (b + 6),.int .i64 (b + 7),.bool ((Int.tmod (b + 8) 3) == 0),.bool ((Int.tmod (b + 9) 3) == 0),.int .i64 (b + 10),.int .i64 x.o.echo,.string x.body]),frF w (ownF B (.slice A l.length cap) 13 (l.map segCells)).blk]⟩ i [.int .i64 b,.int .i64 (b + 1),.int .i64 (b + 2),.int .i64 (b + 3),.int .i64 (b + 4),.int .i64 (b + 5),.int .i64 (b + 6),.int .i64 (b + 7),.bool ((Int.tmod (b + 8) 3) == 0),.bool ((Int.tmod (b + 9) 3) == 0),.int .i64 (b + 10),.int .i64 x.o.echo,.string x.body] 0 (by kernel_rfl) rfl (by kernel_rfl) rfl rfl rfl rfl (by kernel_rfl) (by kernel_rfl) rfl (cutW_le w B) hA37 (by rw [mark_ln hi]; exact hlt) (fun r hr => by obtain ⟨y,_,rfl⟩ := List.mem_map.1 hr; rfl) (by kernel_rfl) (by kernel_rfl) rfl rfl ?_
  refine xl_end [0,1,5] ⟨[(0,.v (.slice A l.length cap)),(1,.v (.int .i64 (b + 11))),(5,.v (.int .i64 (i : Int)))],[],[],[ownF B (.slice A l.length cap) 13 (((marks mkS 13 k i ++ l.drop i).map segCells).set i [.int .i64 b,.int .i64 (b + 1),.int .i64 (b + 2),.int .i64 (b + 3),.int .i64 (b + 4),.int .i64 (b + 5),.int .i64 (b + 6),.int .i64 (b + 7),.bool ((Int.tmod (b + 8) 3) == 0),.bool ((Int.tmod (b + 9) 3) == 0),.int .i64 (b + 10),.int .i64 (b + 11),.string x.body]),frF w (ownF B (.slice A l.length cap) 13 (l.map segCells)).blk]⟩ (by kernel_rfl) ?_
  refine xw_seq ?_
  refine xw_region ?_
  refine xl_runS 3 [0,1,5] [(0,.v (.slice A l.length cap)),(1,.v (.int .i64 (IntKind.i64.wrap (b + 11 + 1)))),(5,.v (.int .i64 (i : Int)))] (by kernel_rfl) ?_
  refine xl_eqS (t' := [(0,.v (.slice A l.length cap)),(1,.v (.int .i64 (b + 12))),(5,.v (.int .i64 (i : Int)))]) (by rw [show (IntKind.i64.wrap (b + 11 + 1)) = (b + 12) from wrap_to (by omega) (by omega) (by omega)]) ?_
  refine xl_endS [0,1,5] [(0,.v (.slice A l.length cap)),(1,.v (.int .i64 (b + 12))),(5,.v (.int .i64 (i : Int)))] (by kernel_rfl) ?_
  refine xw_seq ?_
  refine xw_region ?_
  refine xl_callS 3 [0,1,5,106,107,108] [(0,.v (.slice A l.length cap)),(1,.v (.int .i64 (b + 12))),(5,.v (.int .i64 (i : Int))),(106,.v (.slice A l.length cap)),(107,.v (.int .i64 (i : Int))),(108,.v (.int .i64 (b + 12)))] 102 [.int .i64 (b + 12)] (some 109) (by kernel_rfl) rfl (by kernel_rfl) rfl (by kernel_rfl) (xc_b fun ww hf => ymarkText_c (b + 12) ww  (by omega)) ?_
  intro _
  refine xl_elem (kd := .i64) (T := 67) (e := 51) (K := 13) (A := A) (len := l.length) (cap := cap) (rs := (((marks mkS 13 k i ++ l.drop i).map segCells).set i [.int .i64 b,.int .i64 (b + 1),.int .i64 (b + 2),.int .i64 (b + 3),.int .i64 (b + 4),.int .i64 (b + 5),.int .i64 (b + 6),.int .i64 (b + 7),.bool ((Int.tmod (b + 8) 3) == 0),.bool ((Int.tmod (b + 9) 3) == 0),.int .i64 (b + 10),.int .i64 (b + 11),.string x.body])) 0 [0,1,5,106,107,109] ⟨[(0,.v (.slice A l.length cap)),(1,.v (.int .i64 (b + 12))),(5,.v (.int .i64 (i : Int))),(106,.v (.slice A l.length cap)),(107,.v (.int .i64 (i : Int))),(109,.v (.string (markText (b + 12))))],[],[],[ownF B (.slice A l.length cap) 13 (((marks mkS 13 k i ++ l.drop i).map segCells).set i [.int .i64 b,.int .i64 (b + 1),.int .i64 (b + 2),.int .i64 (b + 3),.int .i64 (b + 4),.int .i64 (b + 5),.int .i64 (b + 6),.int .i64 (b + 7),.bool ((Int.tmod (b + 8) 3) == 0),.bool ((Int.tmod (b + 9) 3) == 0),.int .i64 (b + 10),.int .i64 (b + 11),.string x.body]),frF w (ownF B (.slice A l.length cap) 13 (l.map segCells)).blk]⟩ i (ownF B (.slice A l.length cap) 13 (((marks mkS 13 k i ++ l.drop i).map segCells).set i [.int .i64 b,.int .i64 (b + 1),.int .i64 (b + 2),.int .i64 (b + 3),.int .i64 (b + 4),.int .i64 (b + 5),.int .i64 (b + 6),.int .i64 (b + 7),.bool ((Int.tmod (b + 8) 3) == 0),.bool ((Int.tmod (b + 9) 3) == 0),.int .i64 (b + 10),.int .i64 (b + 11),.string x.body])) (by kernel_rfl) rfl (by kernel_rfl) (by kernel_rfl) rfl (by kernel_rfl) (by kernel_rfl) (by kernel_rfl) (by kernel_rfl) hlt (by simp) (fun ww h => Own.sl h) (by rw [List.length_set,mark_ln hi]; exact hlt) ?_
  intro b38 o39 hA40
  refine xl_op 0 [0,1,5,109,110] ⟨[(0,.v (.slice A l.length cap)),(1,.v (.int .i64 (b + 12))),(5,.v (.int .i64 (i : Int))),(109,.v (.string (markText (b + 12)))),(110,.v (.pointer (some ⟨b38,o39 + i * 13,none⟩)))],[],[],[ownF B (.slice A l.length cap) 13 (((marks mkS 13 k i ++ l.drop i).map segCells).set i [.int .i64 b,.int .i64 (b + 1),.int .i64 (b + 2),.int .i64 (b + 3),.int .i64 (b + 4),.int .i64 (b + 5),.int .i64 (b + 6),.int .i64 (b + 7),.bool ((Int.tmod (b + 8) 3) == 0),.bool ((Int.tmod (b + 9) 3) == 0),.int .i64 (b + 10),.int .i64 (b + 11),.string x.body]),frF w (ownF B (.slice A l.length cap) 13 (l.map segCells)).blk]⟩ (.pointer (some ⟨b38,o39 + i * 13 + 12,none⟩)) (by kernel_rfl) rfl (by kernel_rfl) rfl (fun _ _ _ ww hr => fld_run (sz := 1) hr rfl Try.underlying51 rfl (by kernel_rfl) rfl rfl (by first | rfl | omega)) ?_
  refine xl_stE (K := 13) (po := 12) (B := B) (rs := ((marks mkS 13 k i ++ l.drop i).map segCells)) (row' := [.int .i64 b,.int .i64 (b + 1),.int .i64 (b + 2),.int .i64 (b + 3),.int .i64 (b + 4),.int .i64 (b + 5),.int .i64 (b + 6),.int .i64 (b + 7),.bool ((Int.tmod (b + 8) 3) == 0),.bool ((Int.tmod (b + 9) 3) == 0),.int .i64 (b + 10),.int .i64 (b + 11),.string (markText (b + 12))]) 0 [0,1,5,109,111] ⟨[(0,.v (.slice A l.length cap)),(1,.v (.int .i64 (b + 12))),(5,.v (.int .i64 (i : Int))),(109,.v (.string (markText (b + 12)))),(111,.v (.pointer (some ⟨b38,o39 + i * 13 + 12,none⟩)))],[],[],[ownF B (.slice A l.length cap) 13 (((marks mkS 13 k i ++ l.drop i).map segCells).set i [.int .i64 b,.int .i64 (b + 1),.int .i64 (b + 2),.int .i64 (b + 3),.int .i64 (b + 4),.int .i64 (b + 5),.int .i64 (b + 6),.int .i64 (b + 7),.bool ((Int.tmod (b + 8) 3) == 0),.bool ((Int.tmod (b + 9) 3) == 0),.int .i64 (b + 10),.int .i64 (b + 11),.string x.body]),frF w (ownF B (.slice A l.length cap) 13 (l.map segCells)).blk]⟩ i [.int .i64 b,.int .i64 (b + 1),.int .i64 (b + 2),.int .i64 (b + 3),.int .i64 (b + 4),.int .i64 (b + 5),.int .i64 (b + 6),.int .i64 (b + 7),.bool ((Int.tmod (b + 8) 3) == 0),.bool ((Int.tmod (b + 9) 3) == 0),.int .i64 (b + 10),.int .i64 (b + 11),.string x.body] 0 (by kernel_rfl) rfl (by kernel_rfl) rfl rfl rfl rfl (by kernel_rfl) (by kernel_rfl) rfl (cutW_le w B) hA40 (by rw [mark_ln hi]; exact hlt) (fun r hr => by obtain ⟨y,_,rfl⟩ := List.mem_map.1 hr; rfl) (by kernel_rfl) (by kernel_rfl) rfl rfl ?_
  refine xl_end [0,1,5] ⟨[(0,.v (.slice A l.length cap)),(1,.v (.int .i64 (b + 12))),(5,.v (.int .i64 (i : Int)))],[],[],[ownF B (.slice A l.length cap) 13 (((marks mkS 13 k i ++ l.drop i).map segCells).set i [.int .i64 b,.int .i64 (b + 1),.int .i64 (b + 2),.int .i64 (b + 3),.int .i64 (b + 4),.int .i64 (b + 5),.int .i64 (b + 6),.int .i64 (b + 7),.bool ((Int.tmod (b + 8) 3) == 0),.bool ((Int.tmod (b + 9) 3) == 0),.int .i64 (b + 10),.int .i64 (b + 11),.string (markText (b + 12))]),frF w (ownF B (.slice A l.length cap) 13 (l.map segCells)).blk]⟩ (by kernel_rfl) ?_
  refine xw_region ?_
  refine xl_runS 3 [0,1,5] [(0,.v (.slice A l.length cap)),(1,.v (.int .i64 (IntKind.i64.wrap (b + 12 + 1)))),(5,.v (.int .i64 (i : Int)))] (by kernel_rfl) ?_
  refine xl_eqS (t' := [(0,.v (.slice A l.length cap)),(1,.v (.int .i64 (b + 13))),(5,.v (.int .i64 (i : Int)))]) (by rw [show (IntKind.i64.wrap (b + 12 + 1)) = (b + 13) from wrap_to (by omega) (by omega) (by omega)]) ?_
  refine xl_endS [0,1,5] [(0,.v (.slice A l.length cap)),(1,.v (.int .i64 (b + 13))),(5,.v (.int .i64 (i : Int)))] (by kernel_rfl) ?_
  refine xw_region ?_
  refine xl_runS 3 [0,1,5] [(0,.v (.slice A l.length cap)),(1,.v (.int .i64 (b + 13))),(5,.v (.int .i64 (IntKind.i64.wrap ((i : Int) + 1))))] (by kernel_rfl) ?_
  refine xl_eqS (t' := [(0,.v (.slice A l.length cap)),(1,.v (.int .i64 (b + 13))),(5,.v (.int .i64 ((i : Int) + 1)))]) (by rw [show (IntKind.i64.wrap ((i : Int) + 1)) = ((i : Int) + 1) from wrap_id (by omega) (by omega)]) ?_
  refine xl_endS [0,1,5] [(0,.v (.slice A l.length cap)),(1,.v (.int .i64 (b + 13))),(5,.v (.int .i64 ((i : Int) + 1)))] (by kernel_rfl) ?_
  have e : b + 13 = k + 13 * ((i + 1 : Nat) : Int) := by omega
  rw [e]
  subst hb
  exact ⟨⟨(i + 1),hlt⟩,(wk_fact0 (congrArg (fun z => ownF B (.slice A l.length cap) 13 z) (mark_next (f := segCells) (mk := mkS) (c := 13) (k := k) hlt))).trans <| wk_forget 0 0 [0,1,5] (by kernel_rfl) (by kernel_rfl) (by kernel_rfl),by show (fun (i : Nat) => l.length - i) (i + 1) < l.length - i; (dsimp only; omega)⟩
  have h1p : ¬ ((i : Int) < ((l.length : Nat) : Int)) := of_decide_eq_false h1
  have hge : i = l.length := by simp at h1; omega
  refine xw_exit ?_
  refine xw_seq ?_
  refine xw_region ?_
  refine xl_endS [4] [(4,.v (.int .i64 (k + 13 * (i : Int))))] (by kernel_rfl) ?_
  refine xw_ret ?_
  subst hge
  exact ⟨[.int .i64 (k + 13 * (l.length : Int))],by kernel_rfl,fun w' hb hf => ⟨ret_int (by simp),by have := hf (ownF B (.slice A l.length cap) 13 ((marks mkS 13 k l.length ++ l.drop l.length).map segCells)) (by simp); rw [List.drop_length,List.append_nil] at this; exact this,frF_chgd (hf (frF w (ownF B (.slice A l.length cap) 13 (l.map segCells)).blk) (by simp)) hb rfl rfl rfl⟩⟩
theorem ymarkReceiver_c (x : Rcv) (x_heldV : Value) (k : Int) (w : World) (B : Nat) (hB : B ≤ w.heap.size) (h : Own w B x_heldV 2 (x.held.map pceCells)) (hk0 : 0 ≤ k) (hk : k ≤ 4503599627370496) (hl : x.held.length ≤ 1048576) : Calls Try.prog 98 #[.agg #[.int .i64 x.next, .string x.data, x_heldV, .int .i64 x.fin, .bool x.done], .int .i64 k] w fun e w' => e = .returned (.int .i64 (k + 2 * (x.held.length : Int))) ∧ Own w' B x_heldV 2 ((marks mkP 2 k x.held.length).map pceCells) ∧ Chgd (ownF B x_heldV 2 (x.held.map pceCells)).blk w w' := by
  obtain ⟨A,cap,hv⟩ := h.form
  rw [List.length_map] at hv; subst hv
  refine x_callsM (args := [.agg (rcvL x (.slice A x.held.length cap)).toArray,.int .i64 k]) (fn := Try.f98) [ownF B (.slice A x.held.length cap) 2 (x.held.map pceCells),frF w (ownF B (.slice A x.held.length cap) 2 (x.held.map pceCells)).blk] B Try.func98 rfl Try.ntmps98 rfl hB (by simp only [List.mem_cons,List.not_mem_nil,or_false,forall_eq_or_imp,forall_eq]; exact ⟨h,frF_start w _⟩) apart_fr ?_
  refine xw_seq ?_
  refine xw_region ?_
  refine xl_end [1,2] ⟨[(1,.v (.int .i64 k)),(2,.p 0 0)],[⟨39,rcvL x (.slice A x.held.length cap)⟩],[],[ownF B (.slice A x.held.length cap) 2 (x.held.map pceCells),frF w (ownF B (.slice A x.held.length cap) 2 (x.held.map pceCells)).blk]⟩ (by kernel_rfl) ?_
  refine xw_seq ?_
  refine xw_region ?_
  refine xl_callWS 3 [1,6,7] [(1,.v (.int .i64 k)),(6,.v (.slice A x.held.length cap)),(7,.v (.int .i64 k))] 144 [.slice A x.held.length cap,.int .i64 k] (some 8) 0 (ownF B (.slice A x.held.length cap) 2 (x.held.map pceCells)) (by kernel_rfl) rfl (by kernel_rfl) rfl (by kernel_rfl) rfl rfl (fun ww b h hb => Nat.le_trans (cutW_le w B) (vblk_lo h hb)) (by kernel_rfl) (xcm_own marks_ne fun ww hw hf => ymarkPieceS_c (.slice A x.held.length cap) x.held k ww B (Nat.le_trans (by first | exact Nat.le_refl _ | exact Nat.le_of_eq (cutW_size hB).symm) hw) (hf (ownF B (.slice A x.held.length cap) 2 (x.held.map pceCells)) (by simp)) (by omega) (by omega) (by omega)) ?_
  intro _
  refine xl_endS [1] [(1,.v (.int .i64 (k + 2 * (x.held.length : Int))))] (by kernel_rfl) ?_
  refine xw_seq ?_
  refine xw_region ?_
  refine xl_endS [4] [(4,.v (.int .i64 (k + 2 * (x.held.length : Int))))] (by kernel_rfl) ?_
  refine xw_ret ?_
  exact ⟨[.int .i64 (k + 2 * (x.held.length : Int))],by kernel_rfl,fun w' hb hf => ⟨rfl,hf (ownF B (.slice A x.held.length cap) 2 ((marks mkP 2 k x.held.length).map pceCells)) (by simp),frF_chgd (hf (frF w (ownF B (.slice A x.held.length cap) 2 (x.held.map pceCells)).blk) (by simp)) hb rfl rfl rfl⟩⟩
theorem ymarkConn_c (x : Con) (x_r_heldV : Value) (k : Int) (w : World) (B : Nat) (hB : B ≤ w.heap.size) (h : Own w B x_r_heldV 2 (x.r.held.map pceCells)) (hk0 : 0 ≤ k) (hk : k ≤ 4503599627370496) (hl : x.r.held.length ≤ 1048576) : Calls Try.prog 34 #[.agg #[.int .i64 x.t.ip, .int .i64 x.t.port, .int .i64 x.t.my, .int .i64 x.state, .int .i64 x.s.una, .string x.s.data, .int .i64 x.s.sent, .bool x.s.fin, .bool x.s.finSent, .bool x.s.done, .int .i64 x.r.next, .string x.r.data, x_r_heldV, .int .i64 x.r.fin, .bool x.r.done, .int .i64 x.window, .int .i64 x.most, .int .i64 x.o.mss, .int .i64 x.o.scale, .bool x.o.sack, .bool x.o.stamp, .int .i64 x.o.val, .int .i64 x.o.echo, .int .i64 x.timer, .int .i64 x.tries], .int .i64 k] w fun e w' => e = .returned (.int .i64 (k + 2 * (x.r.held.length : Int))) ∧ Own w' B x_r_heldV 2 ((marks mkP 2 k x.r.held.length).map pceCells) ∧ Chgd (ownF B x_r_heldV 2 (x.r.held.map pceCells)).blk w w' := by
  obtain ⟨A,cap,hv⟩ := h.form
  rw [List.length_map] at hv; subst hv
  refine x_callsM (args := [.agg (conL x (.slice A x.r.held.length cap)).toArray,.int .i64 k]) (fn := Try.f34) [ownF B (.slice A x.r.held.length cap) 2 (x.r.held.map pceCells),frF w (ownF B (.slice A x.r.held.length cap) 2 (x.r.held.map pceCells)).blk] B Try.func34 rfl Try.ntmps34 rfl hB (by simp only [List.mem_cons,List.not_mem_nil,or_false,forall_eq_or_imp,forall_eq]; exact ⟨h,frF_start w _⟩) apart_fr ?_
  refine xw_seq ?_
  refine xw_region ?_
  refine xl_end [1,2] ⟨[(1,.v (.int .i64 k)),(2,.p 0 0)],[⟨42,conL x (.slice A x.r.held.length cap)⟩],[],[ownF B (.slice A x.r.held.length cap) 2 (x.r.held.map pceCells),frF w (ownF B (.slice A x.r.held.length cap) 2 (x.r.held.map pceCells)).blk]⟩ (by kernel_rfl) ?_
  refine xw_seq ?_
  refine xw_region ?_
  refine xl_callWS 3 [1,6,7] [(1,.v (.int .i64 k)),(6,.v (.agg (rcvL x.r (.slice A x.r.held.length cap)).toArray)),(7,.v (.int .i64 k))] 98 [.agg (rcvL x.r (.slice A x.r.held.length cap)).toArray,.int .i64 k] (some 8) 0 (ownF B (.slice A x.r.held.length cap) 2 (x.r.held.map pceCells)) (by kernel_rfl) rfl (by kernel_rfl) rfl (by kernel_rfl) rfl rfl (fun ww b h hb => Nat.le_trans (cutW_le w B) (vblk_lo h hb)) (by kernel_rfl) (xcm_own marks_ne fun ww hw hf => ymarkReceiver_c x.r (.slice A x.r.held.length cap) k ww B (Nat.le_trans (by first | exact Nat.le_refl _ | exact Nat.le_of_eq (cutW_size hB).symm) hw) (hf (ownF B (.slice A x.r.held.length cap) 2 (x.r.held.map pceCells)) (by simp)) (by omega) (by omega) (by omega)) ?_
  intro _
  refine xl_endS [1] [(1,.v (.int .i64 (k + 2 * (x.r.held.length : Int))))] (by kernel_rfl) ?_
  refine xw_seq ?_
  refine xw_region ?_
  refine xl_endS [4] [(4,.v (.int .i64 (k + 2 * (x.r.held.length : Int))))] (by kernel_rfl) ?_
  refine xw_ret ?_
  exact ⟨[.int .i64 (k + 2 * (x.r.held.length : Int))],by kernel_rfl,fun w' hb hf => ⟨rfl,hf (ownF B (.slice A x.r.held.length cap) 2 ((marks mkP 2 k x.r.held.length).map pceCells)) (by simp),frF_chgd (hf (frF w (ownF B (.slice A x.r.held.length cap) 2 (x.r.held.map pceCells)).blk) (by simp)) hb rfl rfl rfl⟩⟩
set_option maxHeartbeats 1000000 in
theorem yheldPieceS_c (a : List Pce) (aV : Value) (k : Int) (w : World) (hl_aV : Sl w aV 2 (a.map pceCells)) (ha : a = marks mkP 2 k a.length) (hk0 : 0 ≤ k) (hk : k ≤ 4503599627370496) (hl : a.length ≤ 1048576) : Calls Try.prog 145 #[aV, .int .i64 k] w fun e w' => e = .returned (.int .i64 (k + 2 * (a.length : Int))) ∧ Below w.heap.size w w' := by
  obtain ⟨Aa,Ca,hva⟩ := hl_aV.form
  rw [List.length_map] at hva; subst hva
  have hna := hl_aV.len; rw [List.length_map] at hna
  refine x_calls (args := [.slice Aa a.length Ca,.int .i64 k]) (fn := Try.f145) [slF (.slice Aa a.length Ca) 2 (a.map pceCells)] Try.func145 rfl Try.ntmps145 rfl (by simp only [List.mem_cons,List.not_mem_nil,or_false,forall_eq_or_imp,forall_eq]; exact ⟨rfl,hl_aV⟩) ?_
  refine xw_seq ?_
  refine xw_region ?_
  refine xl_end [0,1] ⟨[(0,.v (.slice Aa a.length Ca)),(1,.v (.int .i64 k))],[],[],[slF (.slice Aa a.length Ca) 2 (a.map pceCells)]⟩ (by kernel_rfl) ?_
  refine xw_seq ?_
  refine xw_seq ?_
  refine xw_region ?_
  refine xl_endS [0,1,5] [(0,.v (.slice Aa a.length Ca)),(1,.v (.int .i64 k)),(5,.v (.int .i64 0))] (by kernel_rfl) ?_
  refine xw_block ?_
  have e0 : k + 2 * ((0 : Nat) : Int) = k := by omega
  refine xw_eq (st' := ⟨[(0,.v (.slice Aa a.length Ca)),(1,.v (.int .i64 (k + 2 * ((0 : Nat) : Int)))),(5,.v (.int .i64 0))],[],[],[slF (.slice Aa a.length Ca) 2 (a.map pceCells)]⟩) (by rw [e0]) ?_
  refine xw_loopW (α := {x : Nat // (fun (i : Nat) => i ≤ a.length) x}) (fun x => (fun (i : Nat) => (⟨[(0,.v (.slice Aa a.length Ca)),(1,.v (.int .i64 (k + 2 * (i : Int)))),(5,.v (.int .i64 (i : Int)))],[],[],[slF (.slice Aa a.length Ca) 2 (a.map pceCells)]⟩ : St)) x.1) (fun x => (fun (i : Nat) => a.length - i) x.1) ⟨(0),Nat.zero_le _⟩ (wk_forget 0 0 [0,1,5] (by kernel_rfl) (by kernel_rfl) (by kernel_rfl)) ?_
  rintro ⟨i,hi⟩
  refine xw_wk (Wk.of_eq (s' := ⟨[(0,.v (.slice Aa a.length Ca)),(1,.v (.int .i64 (k + 2 * (i : Int)))),(5,.v (.int .i64 (i : Int)))],[],[],[slF (.slice Aa a.length Ca) 2 (a.map pceCells)]⟩) rfl) ?_
  try dsimp only at hi
  refine xw_seq ?_
  refine xw_seq ?_
  refine xw_region ?_
  refine xl_endS [0,1,5,9] [(0,.v (.slice Aa a.length Ca)),(1,.v (.int .i64 (k + 2 * (i : Int)))),(5,.v (.int .i64 (i : Int))),(9,.v (.bool (decide ((i : Int) < ((a.length : Nat) : Int)))))] (by kernel_rfl) ?_
  refine xw_cond (b := decide ((i : Int) < ((a.length : Nat) : Int))) (by kernel_rfl) (fun h1 => ?_) (fun h1 => ?_)
  have h1p : ((i : Int) < ((a.length : Nat) : Int)) := of_decide_eq_true h1
  have hlt : i < a.length := by simpa using h1
  obtain ⟨x,hx⟩ : ∃ x,a[i]? = some x := ⟨_,List.getElem?_eq_getElem hlt⟩
  have hxe := marks_get (mk := mkP) (c := 2) (k := k) (n := a.length) (show _ = some x by rw [← ha]; exact hx)
  obtain ⟨b,hb⟩ : ∃ b,b = k + 2 * (i : Int) := ⟨_,rfl⟩
  rw [← hb] at hxe ⊢
  refine xw_skip ?_
  refine xw_seq ?_
  refine xw_block ?_
  refine xw_seq ?_
  refine xw_seq ?_
  refine xw_region ?_
  refine xl_index (kd := .i64) (T := 37) (e := 149) (K := 2) 2 [0,1,5,12,13] ⟨[(0,.v (.slice Aa a.length Ca)),(1,.v (.int .i64 b)),(5,.v (.int .i64 (i : Int))),(12,.v (.slice Aa a.length Ca)),(13,.v (.int .i64 (i : Int)))],[],[],[slF (.slice Aa a.length Ca) 2 (a.map pceCells)]⟩ i [.int .i64 b,.string (markText (b + 1))] (slF (.slice Aa a.length Ca) 2 (a.map pceCells)) (by kernel_rfl) rfl (by kernel_rfl) rfl rfl (by kernel_rfl) (by kernel_rfl) (by kernel_rfl) (by kernel_rfl) hlt (by simp) (fun w h => h) (fun b h => h) (by simp only [List.getElem?_map,hx,hxe]; rfl) ?_
  refine xl_endS [0,1,5,18] [(0,.v (.slice Aa a.length Ca)),(1,.v (.int .i64 b)),(5,.v (.int .i64 (i : Int))),(18,.v (.bool (b != b)))] (by kernel_rfl) ?_
  refine xw_cond (b := b != b) (by kernel_rfl) (fun h2 => ?_) (fun h2 => ?_)
  simp at h2
  have h2p := neF h2
  refine xw_skip ?_
  refine xw_seq ?_
  refine xw_region ?_
  refine xl_runS 3 [0,1,5] [(0,.v (.slice Aa a.length Ca)),(1,.v (.int .i64 (IntKind.i64.wrap (b + 1)))),(5,.v (.int .i64 (i : Int)))] (by kernel_rfl) ?_
  refine xl_eqS (t' := [(0,.v (.slice Aa a.length Ca)),(1,.v (.int .i64 (b + 1))),(5,.v (.int .i64 (i : Int)))]) (by rw [show (IntKind.i64.wrap (b + 1)) = (b + 1) from wrap_id (by omega) (by omega)]) ?_
  refine xl_endS [0,1,5] [(0,.v (.slice Aa a.length Ca)),(1,.v (.int .i64 (b + 1))),(5,.v (.int .i64 (i : Int)))] (by kernel_rfl) ?_
  refine xw_seq ?_
  refine xw_seq ?_
  refine xws_start ?_
  refine xws_row (K := 2) (j := i) [.int .i64 b,.string (markText (b + 1))] (slF (.slice Aa a.length Ca) 2 (a.map pceCells)) (fun _ _ h => h) (by simp) (fun w h => h) (fun b h => h) (by simp only [List.getElem?_map,hx,hxe]; rfl) (fun bq3 offq3 hAq3 => ?_)
  refine xws_regionE [] (by kernel_rfl) (fun ρ σ hq4 => ?_)
  refine xe_tkS [0,1,5] [26,22,21,0,1,5] 5 [(26,.v (.int .i64 (b + 1))),(22,.v (.int .i64 (i : Int))),(21,.v (.slice Aa a.length Ca)),(0,.v (.slice Aa a.length Ca)),(1,.v (.int .i64 (b + 1))),(5,.v (.int .i64 (i : Int)))] (fun _ _ h => h) rfl (by kernel_rfl) ?_
  refine xe_takeI (kd := .i64) (T := 37) (e := 149) (K := 2) (j := i) (A := Aa) (len := a.length) (cap := Ca) 2 1 _ rfl (by kernel_rfl) (by kernel_rfl) (by kernel_rfl) (fun _ _ h => h) (by kernel_rfl) rfl rfl (by kernel_rfl) (by kernel_rfl) (by kernel_rfl) (by kernel_rfl) hlt hAq3 hq4.2 (by kernel_rfl) rfl ?_
  refine xe_tkS [3,4] [25,26,0,1,5] 2 [(25,.v (.string (markText (b + 1)))),(26,.v (.int .i64 (b + 1))),(0,.v (.slice Aa a.length Ca)),(1,.v (.int .i64 (b + 1))),(5,.v (.int .i64 (i : Int)))] (fun _ _ h => h) rfl (by kernel_rfl) ?_
  refine xe_all [6] (by kernel_rfl) (by simp) ?_
  refine xs_call 6 102 [.int .i64 (b + 1)] (some 27) rfl (by kernel_rfl) rfl (by kernel_rfl) (xc_b fun ww hf => ymarkText_c (b + 1) ww  (by omega)) ?_
  intro _
  refine xe_tkS [7] [28,0,1,5] 0 [(28,.v (.bool (!((markText (b + 1)).toList == (markText (b + 1)).toList)))),(0,.v (.slice Aa a.length Ca)),(1,.v (.int .i64 (b + 1))),(5,.v (.int .i64 (i : Int)))] (fun _ _ h => h) rfl (by kernel_rfl) ?_
  refine xe_done (by kernel_rfl) ?_
  refine xw_cond (b := !((markText (b + 1)).toList == (markText (b + 1)).toList)) (by kernel_rfl) (fun h5 => ?_) (fun h5 => ?_)
  have h5n := not_t h5
  simp at h5n
  have h5n := not_f h5
  have h5np := h5n; simp only [beq_iff_eq,bne_iff_ne,beq_eq_false_iff_ne,bne_eq_false_iff_eq,ne_eq,toList_lit0] at h5np
  refine xw_skip ?_
  refine xw_region ?_
  refine xl_runS 3 [0,1,5] [(0,.v (.slice Aa a.length Ca)),(1,.v (.int .i64 (IntKind.i64.wrap (b + 1 + 1)))),(5,.v (.int .i64 (i : Int)))] (by kernel_rfl) ?_
  refine xl_eqS (t' := [(0,.v (.slice Aa a.length Ca)),(1,.v (.int .i64 (b + 2))),(5,.v (.int .i64 (i : Int)))]) (by rw [show (IntKind.i64.wrap (b + 1 + 1)) = (b + 2) from wrap_to (by omega) (by omega) (by omega)]) ?_
  refine xl_endS [0,1,5] [(0,.v (.slice Aa a.length Ca)),(1,.v (.int .i64 (b + 2))),(5,.v (.int .i64 (i : Int)))] (by kernel_rfl) ?_
  refine xw_region ?_
  refine xl_runS 3 [0,1,5] [(0,.v (.slice Aa a.length Ca)),(1,.v (.int .i64 (b + 2))),(5,.v (.int .i64 (IntKind.i64.wrap ((i : Int) + 1))))] (by kernel_rfl) ?_
  refine xl_eqS (t' := [(0,.v (.slice Aa a.length Ca)),(1,.v (.int .i64 (b + 2))),(5,.v (.int .i64 ((i : Int) + 1)))]) (by rw [show (IntKind.i64.wrap ((i : Int) + 1)) = ((i : Int) + 1) from wrap_id (by omega) (by omega)]) ?_
  refine xl_endS [0,1,5] [(0,.v (.slice Aa a.length Ca)),(1,.v (.int .i64 (b + 2))),(5,.v (.int .i64 ((i : Int) + 1)))] (by kernel_rfl) ?_
  have e : b + 2 = k + 2 * ((i + 1 : Nat) : Int) := by omega
  rw [e]
  exact ⟨⟨(i + 1),hlt⟩,wk_forget 0 0 [0,1,5] (by kernel_rfl) (by kernel_rfl) (by kernel_rfl),by show (fun (i : Nat) => a.length - i) (i + 1) < a.length - i; (dsimp only; omega)⟩
  have h1p : ¬ ((i : Int) < ((a.length : Nat) : Int)) := of_decide_eq_false h1
  have hge : i = a.length := by simp at h1; omega
  refine xw_exit ?_
  refine xw_seq ?_
  refine xw_region ?_
  refine xl_endS [4] [(4,.v (.int .i64 (k + 2 * (i : Int))))] (by kernel_rfl) ?_
  refine xw_ret ?_
  have hmod : k + 2 * (a.length : Int) = (k + 2 * (i : Int)) := by first | rfl | (rw [hge])
  exact ⟨[.int .i64 (k + 2 * (i : Int))],by kernel_rfl,fun w' hb hf => by rw [hmod]; exact ⟨rfl,hb⟩⟩
theorem yheldPieceS_m (n : Nat) (v : Value) (k : Int) (w : World) (hs : Sl w v 2 ((marks mkP 2 k n).map pceCells)) (hk0 : 0 ≤ k) (hk : k ≤ 4503599627370496) (hl : n ≤ 1048576) : Calls Try.prog 145 #[v, .int .i64 k] w fun e w' => e = .returned (.int .i64 (k + 2 * (n : Int))) ∧ Below w.heap.size w w' := by
  have := yheldPieceS_c (marks mkP 2 k n) v k w hs (by rw [marks_len]) hk0 hk (by rw [marks_len]; exact hl)
  rw [marks_len] at this; exact this
set_option maxHeartbeats 1000000 in
theorem yheldSegmentS_c (a : List Seg) (aV : Value) (k : Int) (w : World) (hl_aV : Sl w aV 13 (a.map segCells)) (ha : a = marks mkS 13 k a.length) (hk0 : 0 ≤ k) (hk : k ≤ 4503599627370496) (hl : a.length ≤ 1048576) : Calls Try.prog 40 #[aV, .int .i64 k] w fun e w' => e = .returned (.int .i64 (k + 13 * (a.length : Int))) ∧ Below w.heap.size w w' := by
  obtain ⟨Aa,Ca,hva⟩ := hl_aV.form
  rw [List.length_map] at hva; subst hva
  have hna := hl_aV.len; rw [List.length_map] at hna
  refine x_calls (args := [.slice Aa a.length Ca,.int .i64 k]) (fn := Try.f40) [slF (.slice Aa a.length Ca) 13 (a.map segCells)] Try.func40 rfl Try.ntmps40 rfl (by simp only [List.mem_cons,List.not_mem_nil,or_false,forall_eq_or_imp,forall_eq]; exact ⟨rfl,hl_aV⟩) ?_
  refine xw_seq ?_
  refine xw_region ?_
  refine xl_end [0,1] ⟨[(0,.v (.slice Aa a.length Ca)),(1,.v (.int .i64 k))],[],[],[slF (.slice Aa a.length Ca) 13 (a.map segCells)]⟩ (by kernel_rfl) ?_
  refine xw_seq ?_
  refine xw_seq ?_
  refine xw_region ?_
  refine xl_endS [0,1,5] [(0,.v (.slice Aa a.length Ca)),(1,.v (.int .i64 k)),(5,.v (.int .i64 0))] (by kernel_rfl) ?_
  refine xw_block ?_
  have e0 : k + 13 * ((0 : Nat) : Int) = k := by omega
  refine xw_eq (st' := ⟨[(0,.v (.slice Aa a.length Ca)),(1,.v (.int .i64 (k + 13 * ((0 : Nat) : Int)))),(5,.v (.int .i64 0))],[],[],[slF (.slice Aa a.length Ca) 13 (a.map segCells)]⟩) (by rw [e0]) ?_
  refine xw_loopW (α := {x : Nat // (fun (i : Nat) => i ≤ a.length) x}) (fun x => (fun (i : Nat) => (⟨[(0,.v (.slice Aa a.length Ca)),(1,.v (.int .i64 (k + 13 * (i : Int)))),(5,.v (.int .i64 (i : Int)))],[],[],[slF (.slice Aa a.length Ca) 13 (a.map segCells)]⟩ : St)) x.1) (fun x => (fun (i : Nat) => a.length - i) x.1) ⟨(0),Nat.zero_le _⟩ (wk_forget 0 0 [0,1,5] (by kernel_rfl) (by kernel_rfl) (by kernel_rfl)) ?_
  rintro ⟨i,hi⟩
  refine xw_wk (Wk.of_eq (s' := ⟨[(0,.v (.slice Aa a.length Ca)),(1,.v (.int .i64 (k + 13 * (i : Int)))),(5,.v (.int .i64 (i : Int)))],[],[],[slF (.slice Aa a.length Ca) 13 (a.map segCells)]⟩) rfl) ?_
  try dsimp only at hi
  refine xw_seq ?_
  refine xw_seq ?_
  refine xw_region ?_
  refine xl_endS [0,1,5,9] [(0,.v (.slice Aa a.length Ca)),(1,.v (.int .i64 (k + 13 * (i : Int)))),(5,.v (.int .i64 (i : Int))),(9,.v (.bool (decide ((i : Int) < ((a.length : Nat) : Int)))))] (by kernel_rfl) ?_
  refine xw_cond (b := decide ((i : Int) < ((a.length : Nat) : Int))) (by kernel_rfl) (fun h1 => ?_) (fun h1 => ?_)
  have h1p : ((i : Int) < ((a.length : Nat) : Int)) := of_decide_eq_true h1
  have hlt : i < a.length := by simpa using h1
  obtain ⟨x,hx⟩ : ∃ x,a[i]? = some x := ⟨_,List.getElem?_eq_getElem hlt⟩
  have hxe := marks_get (mk := mkS) (c := 13) (k := k) (n := a.length) (show _ = some x by rw [← ha]; exact hx)
  obtain ⟨b,hb⟩ : ∃ b,b = k + 13 * (i : Int) := ⟨_,rfl⟩
  rw [← hb] at hxe ⊢
  refine xw_skip ?_
  refine xw_seq ?_
  refine xw_block ?_
  refine xw_seq ?_
  refine xw_seq ?_
  refine xw_region ?_
  refine xl_index (kd := .i64) (T := 67) (e := 51) (K := 13) 2 [0,1,5,12,13] ⟨[(0,.v (.slice Aa a.length Ca)),(1,.v (.int .i64 b)),(5,.v (.int .i64 (i : Int))),(12,.v (.slice Aa a.length Ca)),(13,.v (.int .i64 (i : Int)))],[],[],[slF (.slice Aa a.length Ca) 13 (a.map segCells)]⟩ i [.int .i64 b,.int .i64 (b + 1),.int .i64 (b + 2),.int .i64 (b + 3),.int .i64 (b + 4),.int .i64 (b + 5),.int .i64 (b + 6),.int .i64 (b + 7),.bool ((Int.tmod (b + 8) 3) == 0),.bool ((Int.tmod (b + 9) 3) == 0),.int .i64 (b + 10),.int .i64 (b + 11),.string (markText (b + 12))] (slF (.slice Aa a.length Ca) 13 (a.map segCells)) (by kernel_rfl) rfl (by kernel_rfl) rfl rfl (by kernel_rfl) (by kernel_rfl) (by kernel_rfl) (by kernel_rfl) hlt (by simp) (fun w h => h) (fun b h => h) (by simp only [List.getElem?_map,hx,hxe]; rfl) ?_
  refine xl_endS [0,1,5,18] [(0,.v (.slice Aa a.length Ca)),(1,.v (.int .i64 b)),(5,.v (.int .i64 (i : Int))),(18,.v (.bool (b != b)))] (by kernel_rfl) ?_
  refine xw_cond (b := b != b) (by kernel_rfl) (fun h2 => ?_) (fun h2 => ?_)
  simp at h2
  have h2p := neF h2
  refine xw_skip ?_
  refine xw_seq ?_
  refine xw_region ?_
  refine xl_runS 3 [0,1,5] [(0,.v (.slice Aa a.length Ca)),(1,.v (.int .i64 (IntKind.i64.wrap (b + 1)))),(5,.v (.int .i64 (i : Int)))] (by kernel_rfl) ?_
  refine xl_eqS (t' := [(0,.v (.slice Aa a.length Ca)),(1,.v (.int .i64 (b + 1))),(5,.v (.int .i64 (i : Int)))]) (by rw [show (IntKind.i64.wrap (b + 1)) = (b + 1) from wrap_id (by omega) (by omega)]) ?_
  refine xl_endS [0,1,5] [(0,.v (.slice Aa a.length Ca)),(1,.v (.int .i64 (b + 1))),(5,.v (.int .i64 (i : Int)))] (by kernel_rfl) ?_
  refine xw_seq ?_
  refine xw_seq ?_
  refine xw_region ?_
  refine xl_indexS (kd := .i64) (T := 67) (e := 51) (K := 13) 2 [0,1,5,21,22] [(0,.v (.slice Aa a.length Ca)),(1,.v (.int .i64 (b + 1))),(5,.v (.int .i64 (i : Int))),(21,.v (.slice Aa a.length Ca)),(22,.v (.int .i64 (i : Int)))] i [.int .i64 b,.int .i64 (b + 1),.int .i64 (b + 2),.int .i64 (b + 3),.int .i64 (b + 4),.int .i64 (b + 5),.int .i64 (b + 6),.int .i64 (b + 7),.bool ((Int.tmod (b + 8) 3) == 0),.bool ((Int.tmod (b + 9) 3) == 0),.int .i64 (b + 10),.int .i64 (b + 11),.string (markText (b + 12))] (slF (.slice Aa a.length Ca) 13 (a.map segCells)) (by kernel_rfl) rfl (by kernel_rfl) rfl rfl (by kernel_rfl) (by kernel_rfl) (by kernel_rfl) (by kernel_rfl) hlt (by simp) (fun w h => h) (fun b h => h) (by simp only [List.getElem?_map,hx,hxe]; rfl) ?_
  refine xl_endS [0,1,5,27] [(0,.v (.slice Aa a.length Ca)),(1,.v (.int .i64 (b + 1))),(5,.v (.int .i64 (i : Int))),(27,.v (.bool ((b + 1) != (b + 1))))] (by kernel_rfl) ?_
  refine xw_cond (b := (b + 1) != (b + 1)) (by kernel_rfl) (fun h3 => ?_) (fun h3 => ?_)
  simp at h3
  have h3p := neF h3
  refine xw_skip ?_
  refine xw_seq ?_
  refine xw_region ?_
  refine xl_runS 3 [0,1,5] [(0,.v (.slice Aa a.length Ca)),(1,.v (.int .i64 (IntKind.i64.wrap (b + 1 + 1)))),(5,.v (.int .i64 (i : Int)))] (by kernel_rfl) ?_
  refine xl_eqS (t' := [(0,.v (.slice Aa a.length Ca)),(1,.v (.int .i64 (b + 2))),(5,.v (.int .i64 (i : Int)))]) (by rw [show (IntKind.i64.wrap (b + 1 + 1)) = (b + 2) from wrap_to (by omega) (by omega) (by omega)]) ?_
  refine xl_endS [0,1,5] [(0,.v (.slice Aa a.length Ca)),(1,.v (.int .i64 (b + 2))),(5,.v (.int .i64 (i : Int)))] (by kernel_rfl) ?_
  refine xw_seq ?_
  refine xw_seq ?_
  refine xw_region ?_
  refine xl_indexS (kd := .i64) (T := 67) (e := 51) (K := 13) 2 [0,1,5,30,31] [(0,.v (.slice Aa a.length Ca)),(1,.v (.int .i64 (b + 2))),(5,.v (.int .i64 (i : Int))),(30,.v (.slice Aa a.length Ca)),(31,.v (.int .i64 (i : Int)))] i [.int .i64 b,.int .i64 (b + 1),.int .i64 (b + 2),.int .i64 (b + 3),.int .i64 (b + 4),.int .i64 (b + 5),.int .i64 (b + 6),.int .i64 (b + 7),.bool ((Int.tmod (b + 8) 3) == 0),.bool ((Int.tmod (b + 9) 3) == 0),.int .i64 (b + 10),.int .i64 (b + 11),.string (markText (b + 12))] (slF (.slice Aa a.length Ca) 13 (a.map segCells)) (by kernel_rfl) rfl (by kernel_rfl) rfl rfl (by kernel_rfl) (by kernel_rfl) (by kernel_rfl) (by kernel_rfl) hlt (by simp) (fun w h => h) (fun b h => h) (by simp only [List.getElem?_map,hx,hxe]; rfl) ?_
  refine xl_endS [0,1,5,36] [(0,.v (.slice Aa a.length Ca)),(1,.v (.int .i64 (b + 2))),(5,.v (.int .i64 (i : Int))),(36,.v (.bool ((b + 2) != (b + 2))))] (by kernel_rfl) ?_
  refine xw_cond (b := (b + 2) != (b + 2)) (by kernel_rfl) (fun h4 => ?_) (fun h4 => ?_)
  simp at h4
  have h4p := neF h4
  refine xw_skip ?_
  refine xw_seq ?_
  refine xw_region ?_
  refine xl_runS 3 [0,1,5] [(0,.v (.slice Aa a.length Ca)),(1,.v (.int .i64 (IntKind.i64.wrap (b + 2 + 1)))),(5,.v (.int .i64 (i : Int)))] (by kernel_rfl) ?_
  refine xl_eqS (t' := [(0,.v (.slice Aa a.length Ca)),(1,.v (.int .i64 (b + 3))),(5,.v (.int .i64 (i : Int)))]) (by rw [show (IntKind.i64.wrap (b + 2 + 1)) = (b + 3) from wrap_to (by omega) (by omega) (by omega)]) ?_
  refine xl_endS [0,1,5] [(0,.v (.slice Aa a.length Ca)),(1,.v (.int .i64 (b + 3))),(5,.v (.int .i64 (i : Int)))] (by kernel_rfl) ?_
  refine xw_seq ?_
  refine xw_seq ?_
  refine xw_region ?_
  refine xl_indexS (kd := .i64) (T := 67) (e := 51) (K := 13) 2 [0,1,5,39,40] [(0,.v (.slice Aa a.length Ca)),(1,.v (.int .i64 (b + 3))),(5,.v (.int .i64 (i : Int))),(39,.v (.slice Aa a.length Ca)),(40,.v (.int .i64 (i : Int)))] i [.int .i64 b,.int .i64 (b + 1),.int .i64 (b + 2),.int .i64 (b + 3),.int .i64 (b + 4),.int .i64 (b + 5),.int .i64 (b + 6),.int .i64 (b + 7),.bool ((Int.tmod (b + 8) 3) == 0),.bool ((Int.tmod (b + 9) 3) == 0),.int .i64 (b + 10),.int .i64 (b + 11),.string (markText (b + 12))] (slF (.slice Aa a.length Ca) 13 (a.map segCells)) (by kernel_rfl) rfl (by kernel_rfl) rfl rfl (by kernel_rfl) (by kernel_rfl) (by kernel_rfl) (by kernel_rfl) hlt (by simp) (fun w h => h) (fun b h => h) (by simp only [List.getElem?_map,hx,hxe]; rfl) ?_
  refine xl_endS [0,1,5,45] [(0,.v (.slice Aa a.length Ca)),(1,.v (.int .i64 (b + 3))),(5,.v (.int .i64 (i : Int))),(45,.v (.bool ((b + 3) != (b + 3))))] (by kernel_rfl) ?_
  refine xw_cond (b := (b + 3) != (b + 3)) (by kernel_rfl) (fun h5 => ?_) (fun h5 => ?_)
  simp at h5
  have h5p := neF h5
  refine xw_skip ?_
  refine xw_seq ?_
  refine xw_region ?_
  refine xl_runS 3 [0,1,5] [(0,.v (.slice Aa a.length Ca)),(1,.v (.int .i64 (IntKind.i64.wrap (b + 3 + 1)))),(5,.v (.int .i64 (i : Int)))] (by kernel_rfl) ?_
  refine xl_eqS (t' := [(0,.v (.slice Aa a.length Ca)),(1,.v (.int .i64 (b + 4))),(5,.v (.int .i64 (i : Int)))]) (by rw [show (IntKind.i64.wrap (b + 3 + 1)) = (b + 4) from wrap_to (by omega) (by omega) (by omega)]) ?_
  refine xl_endS [0,1,5] [(0,.v (.slice Aa a.length Ca)),(1,.v (.int .i64 (b + 4))),(5,.v (.int .i64 (i : Int)))] (by kernel_rfl) ?_
  refine xw_seq ?_
  refine xw_seq ?_
  refine xw_region ?_
  refine xl_indexS (kd := .i64) (T := 67) (e := 51) (K := 13) 2 [0,1,5,48,49] [(0,.v (.slice Aa a.length Ca)),(1,.v (.int .i64 (b + 4))),(5,.v (.int .i64 (i : Int))),(48,.v (.slice Aa a.length Ca)),(49,.v (.int .i64 (i : Int)))] i [.int .i64 b,.int .i64 (b + 1),.int .i64 (b + 2),.int .i64 (b + 3),.int .i64 (b + 4),.int .i64 (b + 5),.int .i64 (b + 6),.int .i64 (b + 7),.bool ((Int.tmod (b + 8) 3) == 0),.bool ((Int.tmod (b + 9) 3) == 0),.int .i64 (b + 10),.int .i64 (b + 11),.string (markText (b + 12))] (slF (.slice Aa a.length Ca) 13 (a.map segCells)) (by kernel_rfl) rfl (by kernel_rfl) rfl rfl (by kernel_rfl) (by kernel_rfl) (by kernel_rfl) (by kernel_rfl) hlt (by simp) (fun w h => h) (fun b h => h) (by simp only [List.getElem?_map,hx,hxe]; rfl) ?_
  refine xl_endS [0,1,5,54] [(0,.v (.slice Aa a.length Ca)),(1,.v (.int .i64 (b + 4))),(5,.v (.int .i64 (i : Int))),(54,.v (.bool ((b + 4) != (b + 4))))] (by kernel_rfl) ?_
  refine xw_cond (b := (b + 4) != (b + 4)) (by kernel_rfl) (fun h6 => ?_) (fun h6 => ?_)
  simp at h6
  have h6p := neF h6
  refine xw_skip ?_
  refine xw_seq ?_
  refine xw_region ?_
  refine xl_runS 3 [0,1,5] [(0,.v (.slice Aa a.length Ca)),(1,.v (.int .i64 (IntKind.i64.wrap (b + 4 + 1)))),(5,.v (.int .i64 (i : Int)))] (by kernel_rfl) ?_
  refine xl_eqS (t' := [(0,.v (.slice Aa a.length Ca)),(1,.v (.int .i64 (b + 5))),(5,.v (.int .i64 (i : Int)))]) (by rw [show (IntKind.i64.wrap (b + 4 + 1)) = (b + 5) from wrap_to (by omega) (by omega) (by omega)]) ?_
  refine xl_endS [0,1,5] [(0,.v (.slice Aa a.length Ca)),(1,.v (.int .i64 (b + 5))),(5,.v (.int .i64 (i : Int)))] (by kernel_rfl) ?_
  refine xw_seq ?_
  refine xw_seq ?_
  refine xw_region ?_
  refine xl_indexS (kd := .i64) (T := 67) (e := 51) (K := 13) 2 [0,1,5,57,58] [(0,.v (.slice Aa a.length Ca)),(1,.v (.int .i64 (b + 5))),(5,.v (.int .i64 (i : Int))),(57,.v (.slice Aa a.length Ca)),(58,.v (.int .i64 (i : Int)))] i [.int .i64 b,.int .i64 (b + 1),.int .i64 (b + 2),.int .i64 (b + 3),.int .i64 (b + 4),.int .i64 (b + 5),.int .i64 (b + 6),.int .i64 (b + 7),.bool ((Int.tmod (b + 8) 3) == 0),.bool ((Int.tmod (b + 9) 3) == 0),.int .i64 (b + 10),.int .i64 (b + 11),.string (markText (b + 12))] (slF (.slice Aa a.length Ca) 13 (a.map segCells)) (by kernel_rfl) rfl (by kernel_rfl) rfl rfl (by kernel_rfl) (by kernel_rfl) (by kernel_rfl) (by kernel_rfl) hlt (by simp) (fun w h => h) (fun b h => h) (by simp only [List.getElem?_map,hx,hxe]; rfl) ?_
  refine xl_endS [0,1,5,63] [(0,.v (.slice Aa a.length Ca)),(1,.v (.int .i64 (b + 5))),(5,.v (.int .i64 (i : Int))),(63,.v (.bool ((b + 5) != (b + 5))))] (by kernel_rfl) ?_
  refine xw_cond (b := (b + 5) != (b + 5)) (by kernel_rfl) (fun h7 => ?_) (fun h7 => ?_)
  simp at h7
  have h7p := neF h7
  refine xw_skip ?_
  refine xw_seq ?_
  refine xw_region ?_
  refine xl_runS 3 [0,1,5] [(0,.v (.slice Aa a.length Ca)),(1,.v (.int .i64 (IntKind.i64.wrap (b + 5 + 1)))),(5,.v (.int .i64 (i : Int)))] (by kernel_rfl) ?_
  refine xl_eqS (t' := [(0,.v (.slice Aa a.length Ca)),(1,.v (.int .i64 (b + 6))),(5,.v (.int .i64 (i : Int)))]) (by rw [show (IntKind.i64.wrap (b + 5 + 1)) = (b + 6) from wrap_to (by omega) (by omega) (by omega)]) ?_
  refine xl_endS [0,1,5] [(0,.v (.slice Aa a.length Ca)),(1,.v (.int .i64 (b + 6))),(5,.v (.int .i64 (i : Int)))] (by kernel_rfl) ?_
  refine xw_seq ?_
  refine xw_seq ?_
  refine xw_region ?_
  refine xl_indexS (kd := .i64) (T := 67) (e := 51) (K := 13) 2 [0,1,5,66,67] [(0,.v (.slice Aa a.length Ca)),(1,.v (.int .i64 (b + 6))),(5,.v (.int .i64 (i : Int))),(66,.v (.slice Aa a.length Ca)),(67,.v (.int .i64 (i : Int)))] i [.int .i64 b,.int .i64 (b + 1),.int .i64 (b + 2),.int .i64 (b + 3),.int .i64 (b + 4),.int .i64 (b + 5),.int .i64 (b + 6),.int .i64 (b + 7),.bool ((Int.tmod (b + 8) 3) == 0),.bool ((Int.tmod (b + 9) 3) == 0),.int .i64 (b + 10),.int .i64 (b + 11),.string (markText (b + 12))] (slF (.slice Aa a.length Ca) 13 (a.map segCells)) (by kernel_rfl) rfl (by kernel_rfl) rfl rfl (by kernel_rfl) (by kernel_rfl) (by kernel_rfl) (by kernel_rfl) hlt (by simp) (fun w h => h) (fun b h => h) (by simp only [List.getElem?_map,hx,hxe]; rfl) ?_
  refine xl_endS [0,1,5,73] [(0,.v (.slice Aa a.length Ca)),(1,.v (.int .i64 (b + 6))),(5,.v (.int .i64 (i : Int))),(73,.v (.bool ((b + 6) != (b + 6))))] (by kernel_rfl) ?_
  refine xw_cond (b := (b + 6) != (b + 6)) (by kernel_rfl) (fun h8 => ?_) (fun h8 => ?_)
  simp at h8
  have h8p := neF h8
  refine xw_skip ?_
  refine xw_seq ?_
  refine xw_region ?_
  refine xl_runS 3 [0,1,5] [(0,.v (.slice Aa a.length Ca)),(1,.v (.int .i64 (IntKind.i64.wrap (b + 6 + 1)))),(5,.v (.int .i64 (i : Int)))] (by kernel_rfl) ?_
  refine xl_eqS (t' := [(0,.v (.slice Aa a.length Ca)),(1,.v (.int .i64 (b + 7))),(5,.v (.int .i64 (i : Int)))]) (by rw [show (IntKind.i64.wrap (b + 6 + 1)) = (b + 7) from wrap_to (by omega) (by omega) (by omega)]) ?_
  refine xl_endS [0,1,5] [(0,.v (.slice Aa a.length Ca)),(1,.v (.int .i64 (b + 7))),(5,.v (.int .i64 (i : Int)))] (by kernel_rfl) ?_
  refine xw_seq ?_
  refine xw_seq ?_
  refine xw_region ?_
  refine xl_indexS (kd := .i64) (T := 67) (e := 51) (K := 13) 2 [0,1,5,76,77] [(0,.v (.slice Aa a.length Ca)),(1,.v (.int .i64 (b + 7))),(5,.v (.int .i64 (i : Int))),(76,.v (.slice Aa a.length Ca)),(77,.v (.int .i64 (i : Int)))] i [.int .i64 b,.int .i64 (b + 1),.int .i64 (b + 2),.int .i64 (b + 3),.int .i64 (b + 4),.int .i64 (b + 5),.int .i64 (b + 6),.int .i64 (b + 7),.bool ((Int.tmod (b + 8) 3) == 0),.bool ((Int.tmod (b + 9) 3) == 0),.int .i64 (b + 10),.int .i64 (b + 11),.string (markText (b + 12))] (slF (.slice Aa a.length Ca) 13 (a.map segCells)) (by kernel_rfl) rfl (by kernel_rfl) rfl rfl (by kernel_rfl) (by kernel_rfl) (by kernel_rfl) (by kernel_rfl) hlt (by simp) (fun w h => h) (fun b h => h) (by simp only [List.getElem?_map,hx,hxe]; rfl) ?_
  refine xl_endS [0,1,5,83] [(0,.v (.slice Aa a.length Ca)),(1,.v (.int .i64 (b + 7))),(5,.v (.int .i64 (i : Int))),(83,.v (.bool ((b + 7) != (b + 7))))] (by kernel_rfl) ?_
  refine xw_cond (b := (b + 7) != (b + 7)) (by kernel_rfl) (fun h9 => ?_) (fun h9 => ?_)
  simp at h9
  have h9p := neF h9
  refine xw_skip ?_
  refine xw_seq ?_
  refine xw_region ?_
  refine xl_runS 3 [0,1,5] [(0,.v (.slice Aa a.length Ca)),(1,.v (.int .i64 (IntKind.i64.wrap (b + 7 + 1)))),(5,.v (.int .i64 (i : Int)))] (by kernel_rfl) ?_
  refine xl_eqS (t' := [(0,.v (.slice Aa a.length Ca)),(1,.v (.int .i64 (b + 8))),(5,.v (.int .i64 (i : Int)))]) (by rw [show (IntKind.i64.wrap (b + 7 + 1)) = (b + 8) from wrap_to (by omega) (by omega) (by omega)]) ?_
  refine xl_endS [0,1,5] [(0,.v (.slice Aa a.length Ca)),(1,.v (.int .i64 (b + 8))),(5,.v (.int .i64 (i : Int)))] (by kernel_rfl) ?_
  refine xw_seq ?_
  refine xw_seq ?_
  refine xw_region ?_
  refine xl_indexS (kd := .i64) (T := 67) (e := 51) (K := 13) 2 [0,1,5,86,87] [(0,.v (.slice Aa a.length Ca)),(1,.v (.int .i64 (b + 8))),(5,.v (.int .i64 (i : Int))),(86,.v (.slice Aa a.length Ca)),(87,.v (.int .i64 (i : Int)))] i [.int .i64 b,.int .i64 (b + 1),.int .i64 (b + 2),.int .i64 (b + 3),.int .i64 (b + 4),.int .i64 (b + 5),.int .i64 (b + 6),.int .i64 (b + 7),.bool ((Int.tmod (b + 8) 3) == 0),.bool ((Int.tmod (b + 9) 3) == 0),.int .i64 (b + 10),.int .i64 (b + 11),.string (markText (b + 12))] (slF (.slice Aa a.length Ca) 13 (a.map segCells)) (by kernel_rfl) rfl (by kernel_rfl) rfl rfl (by kernel_rfl) (by kernel_rfl) (by kernel_rfl) (by kernel_rfl) hlt (by simp) (fun w h => h) (fun b h => h) (by simp only [List.getElem?_map,hx,hxe]; rfl) ?_
  refine xl_opS 4 [0,1,5,91,92] [(0,.v (.slice Aa a.length Ca)),(1,.v (.int .i64 (b + 8))),(5,.v (.int .i64 (i : Int))),(91,.v (.bool ((Int.tmod (b + 8) 3) == 0))),(92,.v (.int .i64 (b + 8)))] (.int .i64 (Int.tmod (b + 8) 3)) (by kernel_rfl) rfl (by kernel_rfl) rfl (fun _ _ _ ww hr => act_bin hr.1 rfl (by kernel_rfl) (by kernel_rfl) (rem_run (by decide) ww)) ?_
  refine xl_endS [0,1,5,95] [(0,.v (.slice Aa a.length Ca)),(1,.v (.int .i64 (b + 8))),(5,.v (.int .i64 (i : Int))),(95,.v (.bool (!(((Int.tmod (b + 8) 3) == 0) == ((Int.tmod (b + 8) 3) == 0)))))] (by kernel_rfl) ?_
  refine xw_cond (b := !(((Int.tmod (b + 8) 3) == 0) == ((Int.tmod (b + 8) 3) == 0))) (by kernel_rfl) (fun h10 => ?_) (fun h10 => ?_)
  have h10n := not_t h10
  simp at h10n
  have h10n := not_f h10
  have h10np := eqT h10n
  refine xw_skip ?_
  refine xw_seq ?_
  refine xw_region ?_
  refine xl_runS 3 [0,1,5] [(0,.v (.slice Aa a.length Ca)),(1,.v (.int .i64 (IntKind.i64.wrap (b + 8 + 1)))),(5,.v (.int .i64 (i : Int)))] (by kernel_rfl) ?_
  refine xl_eqS (t' := [(0,.v (.slice Aa a.length Ca)),(1,.v (.int .i64 (b + 9))),(5,.v (.int .i64 (i : Int)))]) (by rw [show (IntKind.i64.wrap (b + 8 + 1)) = (b + 9) from wrap_to (by omega) (by omega) (by omega)]) ?_
  refine xl_endS [0,1,5] [(0,.v (.slice Aa a.length Ca)),(1,.v (.int .i64 (b + 9))),(5,.v (.int .i64 (i : Int)))] (by kernel_rfl) ?_
  refine xw_seq ?_
  refine xw_seq ?_
  refine xw_region ?_
  refine xl_indexS (kd := .i64) (T := 67) (e := 51) (K := 13) 2 [0,1,5,98,99] [(0,.v (.slice Aa a.length Ca)),(1,.v (.int .i64 (b + 9))),(5,.v (.int .i64 (i : Int))),(98,.v (.slice Aa a.length Ca)),(99,.v (.int .i64 (i : Int)))] i [.int .i64 b,.int .i64 (b + 1),.int .i64 (b + 2),.int .i64 (b + 3),.int .i64 (b + 4),.int .i64 (b + 5),.int .i64 (b + 6),.int .i64 (b + 7),.bool ((Int.tmod (b + 8) 3) == 0),.bool ((Int.tmod (b + 9) 3) == 0),.int .i64 (b + 10),.int .i64 (b + 11),.string (markText (b + 12))] (slF (.slice Aa a.length Ca) 13 (a.map segCells)) (by kernel_rfl) rfl (by kernel_rfl) rfl rfl (by kernel_rfl) (by kernel_rfl) (by kernel_rfl) (by kernel_rfl) hlt (by simp) (fun w h => h) (fun b h => h) (by simp only [List.getElem?_map,hx,hxe]; rfl) ?_
  refine xl_opS 4 [0,1,5,103,104] [(0,.v (.slice Aa a.length Ca)),(1,.v (.int .i64 (b + 9))),(5,.v (.int .i64 (i : Int))),(103,.v (.bool ((Int.tmod (b + 9) 3) == 0))),(104,.v (.int .i64 (b + 9)))] (.int .i64 (Int.tmod (b + 9) 3)) (by kernel_rfl) rfl (by kernel_rfl) rfl (fun _ _ _ ww hr => act_bin hr.1 rfl (by kernel_rfl) (by kernel_rfl) (rem_run (by decide) ww)) ?_
  refine xl_endS [0,1,5,107] [(0,.v (.slice Aa a.length Ca)),(1,.v (.int .i64 (b + 9))),(5,.v (.int .i64 (i : Int))),(107,.v (.bool (!(((Int.tmod (b + 9) 3) == 0) == ((Int.tmod (b + 9) 3) == 0)))))] (by kernel_rfl) ?_
  refine xw_cond (b := !(((Int.tmod (b + 9) 3) == 0) == ((Int.tmod (b + 9) 3) == 0))) (by kernel_rfl) (fun h11 => ?_) (fun h11 => ?_)
  have h11n := not_t h11
  simp at h11n
  have h11n := not_f h11
  have h11np := eqT h11n
  refine xw_skip ?_
  refine xw_seq ?_
  refine xw_region ?_
  refine xl_runS 3 [0,1,5] [(0,.v (.slice Aa a.length Ca)),(1,.v (.int .i64 (IntKind.i64.wrap (b + 9 + 1)))),(5,.v (.int .i64 (i : Int)))] (by kernel_rfl) ?_
  refine xl_eqS (t' := [(0,.v (.slice Aa a.length Ca)),(1,.v (.int .i64 (b + 10))),(5,.v (.int .i64 (i : Int)))]) (by rw [show (IntKind.i64.wrap (b + 9 + 1)) = (b + 10) from wrap_to (by omega) (by omega) (by omega)]) ?_
  refine xl_endS [0,1,5] [(0,.v (.slice Aa a.length Ca)),(1,.v (.int .i64 (b + 10))),(5,.v (.int .i64 (i : Int)))] (by kernel_rfl) ?_
  refine xw_seq ?_
  refine xw_seq ?_
  refine xw_region ?_
  refine xl_indexS (kd := .i64) (T := 67) (e := 51) (K := 13) 2 [0,1,5,110,111] [(0,.v (.slice Aa a.length Ca)),(1,.v (.int .i64 (b + 10))),(5,.v (.int .i64 (i : Int))),(110,.v (.slice Aa a.length Ca)),(111,.v (.int .i64 (i : Int)))] i [.int .i64 b,.int .i64 (b + 1),.int .i64 (b + 2),.int .i64 (b + 3),.int .i64 (b + 4),.int .i64 (b + 5),.int .i64 (b + 6),.int .i64 (b + 7),.bool ((Int.tmod (b + 8) 3) == 0),.bool ((Int.tmod (b + 9) 3) == 0),.int .i64 (b + 10),.int .i64 (b + 11),.string (markText (b + 12))] (slF (.slice Aa a.length Ca) 13 (a.map segCells)) (by kernel_rfl) rfl (by kernel_rfl) rfl rfl (by kernel_rfl) (by kernel_rfl) (by kernel_rfl) (by kernel_rfl) hlt (by simp) (fun w h => h) (fun b h => h) (by simp only [List.getElem?_map,hx,hxe]; rfl) ?_
  refine xl_endS [0,1,5,117] [(0,.v (.slice Aa a.length Ca)),(1,.v (.int .i64 (b + 10))),(5,.v (.int .i64 (i : Int))),(117,.v (.bool ((b + 10) != (b + 10))))] (by kernel_rfl) ?_
  refine xw_cond (b := (b + 10) != (b + 10)) (by kernel_rfl) (fun h12 => ?_) (fun h12 => ?_)
  simp at h12
  have h12p := neF h12
  refine xw_skip ?_
  refine xw_seq ?_
  refine xw_region ?_
  refine xl_runS 3 [0,1,5] [(0,.v (.slice Aa a.length Ca)),(1,.v (.int .i64 (IntKind.i64.wrap (b + 10 + 1)))),(5,.v (.int .i64 (i : Int)))] (by kernel_rfl) ?_
  refine xl_eqS (t' := [(0,.v (.slice Aa a.length Ca)),(1,.v (.int .i64 (b + 11))),(5,.v (.int .i64 (i : Int)))]) (by rw [show (IntKind.i64.wrap (b + 10 + 1)) = (b + 11) from wrap_to (by omega) (by omega) (by omega)]) ?_
  refine xl_endS [0,1,5] [(0,.v (.slice Aa a.length Ca)),(1,.v (.int .i64 (b + 11))),(5,.v (.int .i64 (i : Int)))] (by kernel_rfl) ?_
  refine xw_seq ?_
  refine xw_seq ?_
  refine xw_region ?_
  refine xl_indexS (kd := .i64) (T := 67) (e := 51) (K := 13) 2 [0,1,5,120,121] [(0,.v (.slice Aa a.length Ca)),(1,.v (.int .i64 (b + 11))),(5,.v (.int .i64 (i : Int))),(120,.v (.slice Aa a.length Ca)),(121,.v (.int .i64 (i : Int)))] i [.int .i64 b,.int .i64 (b + 1),.int .i64 (b + 2),.int .i64 (b + 3),.int .i64 (b + 4),.int .i64 (b + 5),.int .i64 (b + 6),.int .i64 (b + 7),.bool ((Int.tmod (b + 8) 3) == 0),.bool ((Int.tmod (b + 9) 3) == 0),.int .i64 (b + 10),.int .i64 (b + 11),.string (markText (b + 12))] (slF (.slice Aa a.length Ca) 13 (a.map segCells)) (by kernel_rfl) rfl (by kernel_rfl) rfl rfl (by kernel_rfl) (by kernel_rfl) (by kernel_rfl) (by kernel_rfl) hlt (by simp) (fun w h => h) (fun b h => h) (by simp only [List.getElem?_map,hx,hxe]; rfl) ?_
  refine xl_endS [0,1,5,127] [(0,.v (.slice Aa a.length Ca)),(1,.v (.int .i64 (b + 11))),(5,.v (.int .i64 (i : Int))),(127,.v (.bool ((b + 11) != (b + 11))))] (by kernel_rfl) ?_
  refine xw_cond (b := (b + 11) != (b + 11)) (by kernel_rfl) (fun h13 => ?_) (fun h13 => ?_)
  simp at h13
  have h13p := neF h13
  refine xw_skip ?_
  refine xw_seq ?_
  refine xw_region ?_
  refine xl_runS 3 [0,1,5] [(0,.v (.slice Aa a.length Ca)),(1,.v (.int .i64 (IntKind.i64.wrap (b + 11 + 1)))),(5,.v (.int .i64 (i : Int)))] (by kernel_rfl) ?_
  refine xl_eqS (t' := [(0,.v (.slice Aa a.length Ca)),(1,.v (.int .i64 (b + 12))),(5,.v (.int .i64 (i : Int)))]) (by rw [show (IntKind.i64.wrap (b + 11 + 1)) = (b + 12) from wrap_to (by omega) (by omega) (by omega)]) ?_
  refine xl_endS [0,1,5] [(0,.v (.slice Aa a.length Ca)),(1,.v (.int .i64 (b + 12))),(5,.v (.int .i64 (i : Int)))] (by kernel_rfl) ?_
  refine xw_seq ?_
  refine xw_seq ?_
  refine xws_start ?_
  refine xws_row (K := 13) (j := i) [.int .i64 b,.int .i64 (b + 1),.int .i64 (b + 2),.int .i64 (b + 3),.int .i64 (b + 4),.int .i64 (b + 5),.int .i64 (b + 6),.int .i64 (b + 7),.bool ((Int.tmod (b + 8) 3) == 0),.bool ((Int.tmod (b + 9) 3) == 0),.int .i64 (b + 10),.int .i64 (b + 11),.string (markText (b + 12))] (slF (.slice Aa a.length Ca) 13 (a.map segCells)) (fun _ _ h => h) (by simp) (fun w h => h) (fun b h => h) (by simp only [List.getElem?_map,hx,hxe]; rfl) (fun bq14 offq14 hAq14 => ?_)
  refine xws_regionE [] (by kernel_rfl) (fun ρ σ hq15 => ?_)
  refine xe_tkS [0,1,5] [135,131,130,0,1,5] 5 [(135,.v (.int .i64 (b + 12))),(131,.v (.int .i64 (i : Int))),(130,.v (.slice Aa a.length Ca)),(0,.v (.slice Aa a.length Ca)),(1,.v (.int .i64 (b + 12))),(5,.v (.int .i64 (i : Int)))] (fun _ _ h => h) rfl (by kernel_rfl) ?_
  refine xe_takeI (kd := .i64) (T := 67) (e := 51) (K := 13) (j := i) (A := Aa) (len := a.length) (cap := Ca) 2 12 _ rfl (by kernel_rfl) (by kernel_rfl) (by kernel_rfl) (fun _ _ h => h) (by kernel_rfl) rfl rfl (by kernel_rfl) (by kernel_rfl) (by kernel_rfl) (by kernel_rfl) hlt hAq14 hq15.2 (by kernel_rfl) rfl ?_
  refine xe_tkS [3,4] [134,135,0,1,5] 2 [(134,.v (.string (markText (b + 12)))),(135,.v (.int .i64 (b + 12))),(0,.v (.slice Aa a.length Ca)),(1,.v (.int .i64 (b + 12))),(5,.v (.int .i64 (i : Int)))] (fun _ _ h => h) rfl (by kernel_rfl) ?_
  refine xe_all [6] (by kernel_rfl) (by simp) ?_
  refine xs_call 6 102 [.int .i64 (b + 12)] (some 136) rfl (by kernel_rfl) rfl (by kernel_rfl) (xc_b fun ww hf => ymarkText_c (b + 12) ww  (by omega)) ?_
  intro _
  refine xe_tkS [7] [137,0,1,5] 0 [(137,.v (.bool (!((markText (b + 12)).toList == (markText (b + 12)).toList)))),(0,.v (.slice Aa a.length Ca)),(1,.v (.int .i64 (b + 12))),(5,.v (.int .i64 (i : Int)))] (fun _ _ h => h) rfl (by kernel_rfl) ?_
  refine xe_done (by kernel_rfl) ?_
  refine xw_cond (b := !((markText (b + 12)).toList == (markText (b + 12)).toList)) (by kernel_rfl) (fun h16 => ?_) (fun h16 => ?_)
  have h16n := not_t h16
  simp at h16n
  have h16n := not_f h16
  have h16np := h16n; simp only [beq_iff_eq,bne_iff_ne,beq_eq_false_iff_ne,bne_eq_false_iff_eq,ne_eq,toList_lit0] at h16np
  refine xw_skip ?_
  refine xw_region ?_
  refine xl_runS 3 [0,1,5] [(0,.v (.slice Aa a.length Ca)),(1,.v (.int .i64 (IntKind.i64.wrap (b + 12 + 1)))),(5,.v (.int .i64 (i : Int)))] (by kernel_rfl) ?_
  refine xl_eqS (t' := [(0,.v (.slice Aa a.length Ca)),(1,.v (.int .i64 (b + 13))),(5,.v (.int .i64 (i : Int)))]) (by rw [show (IntKind.i64.wrap (b + 12 + 1)) = (b + 13) from wrap_to (by omega) (by omega) (by omega)]) ?_
  refine xl_endS [0,1,5] [(0,.v (.slice Aa a.length Ca)),(1,.v (.int .i64 (b + 13))),(5,.v (.int .i64 (i : Int)))] (by kernel_rfl) ?_
  refine xw_region ?_
  refine xl_runS 3 [0,1,5] [(0,.v (.slice Aa a.length Ca)),(1,.v (.int .i64 (b + 13))),(5,.v (.int .i64 (IntKind.i64.wrap ((i : Int) + 1))))] (by kernel_rfl) ?_
  refine xl_eqS (t' := [(0,.v (.slice Aa a.length Ca)),(1,.v (.int .i64 (b + 13))),(5,.v (.int .i64 ((i : Int) + 1)))]) (by rw [show (IntKind.i64.wrap ((i : Int) + 1)) = ((i : Int) + 1) from wrap_id (by omega) (by omega)]) ?_
  refine xl_endS [0,1,5] [(0,.v (.slice Aa a.length Ca)),(1,.v (.int .i64 (b + 13))),(5,.v (.int .i64 ((i : Int) + 1)))] (by kernel_rfl) ?_
  have e : b + 13 = k + 13 * ((i + 1 : Nat) : Int) := by omega
  rw [e]
  exact ⟨⟨(i + 1),hlt⟩,wk_forget 0 0 [0,1,5] (by kernel_rfl) (by kernel_rfl) (by kernel_rfl),by show (fun (i : Nat) => a.length - i) (i + 1) < a.length - i; (dsimp only; omega)⟩
  have h1p : ¬ ((i : Int) < ((a.length : Nat) : Int)) := of_decide_eq_false h1
  have hge : i = a.length := by simp at h1; omega
  refine xw_exit ?_
  refine xw_seq ?_
  refine xw_region ?_
  refine xl_endS [4] [(4,.v (.int .i64 (k + 13 * (i : Int))))] (by kernel_rfl) ?_
  refine xw_ret ?_
  have hmod : k + 13 * (a.length : Int) = (k + 13 * (i : Int)) := by first | rfl | (rw [hge])
  exact ⟨[.int .i64 (k + 13 * (i : Int))],by kernel_rfl,fun w' hb hf => by rw [hmod]; exact ⟨rfl,hb⟩⟩
theorem yheldSegmentS_m (n : Nat) (v : Value) (k : Int) (w : World) (hs : Sl w v 13 ((marks mkS 13 k n).map segCells)) (hk0 : 0 ≤ k) (hk : k ≤ 4503599627370496) (hl : n ≤ 1048576) : Calls Try.prog 40 #[v, .int .i64 k] w fun e w' => e = .returned (.int .i64 (k + 13 * (n : Int))) ∧ Below w.heap.size w w' := by
  have := yheldSegmentS_c (marks mkS 13 k n) v k w hs (by rw [marks_len]) hk0 hk (by rw [marks_len]; exact hl)
  rw [marks_len] at this; exact this
theorem yheldReceiver_m (n : Nat) (x_next : Int) (x_data : ByteArray) (x_fin : Int) (x_done : Bool) (v : Value) (k : Int) (w : World) (hs : Sl w v 2 ((marks mkP 2 k n).map pceCells)) (hk0 : 0 ≤ k) (hk : k ≤ 4503599627370496) (hl : n ≤ 1048576) : Calls Try.prog 99 #[.agg #[.int .i64 x_next, .string x_data, v, .int .i64 x_fin, .bool x_done], .int .i64 k] w fun e w' => e = .returned (.int .i64 (k + 2 * (n : Int))) ∧ Below w.heap.size w w' := by
  obtain ⟨A,cap,hv⟩ := hs.form
  rw [List.length_map,marks_len] at hv; subst hv
  refine x_calls (args := [.agg #[.int .i64 x_next,.string x_data,.slice A n cap,.int .i64 x_fin,.bool x_done],.int .i64 k]) (fn := Try.f99) [slF (.slice A n cap) 2 ((marks mkP 2 k n).map pceCells)] Try.func99 rfl Try.ntmps99 rfl (by simp only [List.mem_cons,List.not_mem_nil,or_false,forall_eq_or_imp,forall_eq]; exact ⟨rfl,hs⟩) ?_
  refine xw_seq ?_
  refine xw_region ?_
  refine xl_end [1,2] ⟨[(1,.v (.int .i64 k)),(2,.p 0 0)],[⟨39,[.int .i64 x_next,.string x_data,.slice A n cap,.int .i64 x_fin,.bool x_done]⟩],[],[slF (.slice A n cap) 2 ((marks mkP 2 k n).map pceCells)]⟩ (by kernel_rfl) ?_
  refine xw_seq ?_
  refine xw_region ?_
  refine xl_callS 3 [1,6,7] [(1,.v (.int .i64 k)),(6,.v (.slice A n cap)),(7,.v (.int .i64 k))] 145 [.slice A n cap,.int .i64 k] (some 8) (by kernel_rfl) rfl (by kernel_rfl) rfl (by kernel_rfl) (xc_b fun ww hf => yheldPieceS_m n  (.slice A n cap) k ww (hf (slF (.slice A n cap) 2 ((marks mkP 2 k n).map pceCells)) (by simp)) (by omega) (by omega) (by omega)) ?_
  intro _
  refine xl_endS [1] [(1,.v (.int .i64 (k + 2 * (n : Int))))] (by kernel_rfl) ?_
  refine xw_seq ?_
  refine xw_seq ?_
  refine xw_region ?_
  refine xl_endS [1,10] [(1,.v (.int .i64 (k + 2 * (n : Int)))),(10,.v (.bool (decide ((k + 2 * (n : Int)) < 0))))] (by kernel_rfl) ?_
  refine xw_cond (b := decide ((k + 2 * (n : Int)) < 0)) (by kernel_rfl) (fun h1 => ?_) (fun h1 => ?_)
  have h1p : ((k + 2 * (n : Int)) < 0) := of_decide_eq_true h1
  exfalso; have := of_decide_eq_true h1; omega
  have h1p : ¬ ((k + 2 * (n : Int)) < 0) := of_decide_eq_false h1
  refine xw_skip ?_
  refine xw_seq ?_
  refine xw_region ?_
  refine xl_endS [4] [(4,.v (.int .i64 (k + 2 * (n : Int))))] (by kernel_rfl) ?_
  refine xw_ret ?_
  exact ⟨[.int .i64 (k + 2 * (n : Int))],by kernel_rfl,fun w' hb hf => ⟨rfl,hb⟩⟩
end Go.Proofs.Ytjfamgkkenccdaa
