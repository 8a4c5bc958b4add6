/- Contracts that this law needs, part 1. -/
import Derived.Test.YtnhpmgcllclhfaaYW
import Derived.Test.YtnhpmgcllclhfaaA5
import Derived.Test.YtnhpmgcllclhfaaG1
import Derived.Test.YtnhpmgcllclhfaaYD
import Derived.Test.YtnhpmgcllclhfaaG2
import Derived.Test.YtnhpmgcllclhfaaA2
namespace Go.Proofs.Ytnhpmgcllclhfaa
open Go.RowKit
set_option linter.unusedVariables false
set_option linter.unusedSimpArgs false
set_option maxRecDepth 100000
set_option maxHeartbeats 2000000

theorem ysSameReceiver_c (a : Rcv) (a_heldV : Value) (b : Rcv) (b_heldV : Value) (w : World) (hl_a_heldV : Sl w a_heldV 2 (a.held.map pceCells)) (hl_b_heldV : Sl w b_heldV 2 (b.held.map pceCells))  : Calls Try.prog 76 #[.agg (rcvL a a_heldV).toArray, .agg (rcvL b b_heldV).toArray] w fun e w' => e = .returned (.bool (sameReceiver a b)) ∧ Below w.heap.size w w' := by
 obtain ⟨Aah,Cah,hvah⟩ := hl_a_heldV.form
 rw [List.length_map] at hvah; subst hvah
 have hnah := hl_a_heldV.len; rw [List.length_map] at hnah
 have hqah := Sl.capLe hl_a_heldV
 obtain ⟨Abh,Cbh,hvbh⟩ := hl_b_heldV.form
 rw [List.length_map] at hvbh; subst hvbh
 have hnbh := hl_b_heldV.len; rw [List.length_map] at hnbh
 have hqbh := Sl.capLe hl_b_heldV
 refine x_calls (args := [.agg (rcvL a (.slice Aah a.held.length Cah)).toArray,.agg (rcvL b (.slice Abh b.held.length Cbh)).toArray]) (fn := Try.f76) [slF (.slice Aah a.held.length Cah) 2 (a.held.map pceCells),slF (.slice Abh b.held.length Cbh) 2 (b.held.map pceCells)] Try.func76 rfl Try.ntmps76 rfl (by simp only [List.mem_cons,List.not_mem_nil,or_false,forall_eq_or_imp,forall_eq]; exact ⟨⟨rfl,hl_a_heldV⟩,⟨rfl,hl_b_heldV⟩⟩) ?_
 refine kQ ?_
 refine kEF [2,3] ⟨[(2,.p 0 0),(3,.p 1 0)],[⟨65,rcvL a (.slice Aah a.held.length Cah)⟩,⟨65,rcvL b (.slice Abh b.held.length Cbh)⟩],[],[slF (.slice Aah a.held.length Cah) 2 (a.held.map pceCells),slF (.slice Abh b.held.length Cbh) 2 (b.held.map pceCells)]⟩ ?_
 refine kS ?_
 refine kS ?_
 refine xw_join ⟨[(2,.p 0 0),(3,.p 1 0),(40,.v (.bool ((a.next != b.next) || ((!(a.data.toList == b.data.toList)) || ((a.fin != b.fin) || ((!(a.done == b.done)) || (((a.held.length : Nat) : Int) != ((b.held.length : Nat) : Int))))))))],[⟨65,rcvL a (.slice Aah a.held.length Cah)⟩,⟨65,rcvL b (.slice Abh b.held.length Cbh)⟩],[],[slF (.slice Aah a.held.length Cah) 2 (a.held.map pceCells),slF (.slice Abh b.held.length Cbh) 2 (b.held.map pceCells)]⟩ ?_ ?_
 refine kG ?_
 refine kRS 6 [2,3,11] [(2,.p 0 0),(3,.p 1 0),(11,.v (.bool (a.next != b.next)))] ?_
 refine kP 11 (a.next != b.next) (fun h1 => ?_) (fun h1 => ?_)
 have h1p := neT h1
 refine kES [2,3,40] [(2,.p 0 0),(3,.p 1 0),(40,.v (.bool true))] ?_
 show Wk _ _
 try rw [h1]
 exact kF 2 0 [2,3,40]
 have h1p := neF h1
 refine kRS 7 [2,3,18] [(2,.p 0 0),(3,.p 1 0),(18,.v (.bool (!(a.data.toList == b.data.toList))))] ?_
 refine kP 18 (!(a.data.toList == b.data.toList)) (fun h2 => ?_) (fun h2 => ?_)
 have h2n := not_t h2
 have h2np := h2n; simp only [beq_iff_eq,bne_iff_ne,beq_eq_false_iff_ne,bne_eq_false_iff_eq,ne_eq,toList_lit0] at h2np
 refine kES [2,3,40] [(2,.p 0 0),(3,.p 1 0),(40,.v (.bool true))] ?_
 show Wk _ _
 try rw [h1]
 try rw [h2]
 exact kF 2 0 [2,3,40]
 have h2n := not_f h2
 have h2np := h2n; simp only [beq_iff_eq,bne_iff_ne,beq_eq_false_iff_ne,bne_eq_false_iff_eq,ne_eq,toList_lit0] at h2np
 refine kRS 7 [2,3,25] [(2,.p 0 0),(3,.p 1 0),(25,.v (.bool (a.fin != b.fin)))] ?_
 refine kP 25 (a.fin != b.fin) (fun h3 => ?_) (fun h3 => ?_)
 have h3p := neT h3
 refine kES [2,3,40] [(2,.p 0 0),(3,.p 1 0),(40,.v (.bool true))] ?_
 show Wk _ _
 try rw [h1]
 try rw [h2]
 try rw [h3]
 exact kF 2 0 [2,3,40]
 have h3p := neF h3
 refine kRS 7 [2,3,32] [(2,.p 0 0),(3,.p 1 0),(32,.v (.bool (!(a.done == b.done))))] ?_
 refine kP 32 (!(a.done == b.done)) (fun h4 => ?_) (fun h4 => ?_)
 have h4n := not_t h4
 have h4np := eqF h4n
 refine kES [2,3,40] [(2,.p 0 0),(3,.p 1 0),(40,.v (.bool true))] ?_
 show Wk _ _
 try rw [h1]
 try rw [h2]
 try rw [h3]
 try rw [h4]
 exact kF 2 0 [2,3,40]
 have h4n := not_f h4
 have h4np := eqT h4n
 refine kES [2,3,40] [(2,.p 0 0),(3,.p 1 0),(40,.v (.bool (((a.held.length : Nat) : Int) != ((b.held.length : Nat) : Int))))] ?_
 show Wk _ _
 try rw [h1]
 try rw [h2]
 try rw [h3]
 try rw [h4]
 exact kF 2 0 [2,3,40]
 refine kC ((a.next != b.next) || ((!(a.data.toList == b.data.toList)) || ((a.fin != b.fin) || ((!(a.done == b.done)) || (((a.held.length : Nat) : Int) != ((b.held.length : Nat) : Int)))))) (fun h5 => ?_) (fun h5 => ?_)
 refine kQ ?_
 refine kES [4] [(4,.v (.bool false))] ?_
 refine kR ?_
 exact ⟨[.bool false],by kernel_rfl,fun w' hb hf => ⟨ret_bool (show (false : Bool) = sameReceiver a b from by first | rfl | (simp [sameReceiver, *]; done) | grind [sameReceiver,sameL_len]),hb⟩⟩
 have h5l := or_l h5
 have h5lp := neF h5l
 have h5r := or_r h5
 have h5rl := or_l h5r
 have h5rln := not_f h5rl
 have h5rlnp := h5rln; simp only [beq_iff_eq,bne_iff_ne,beq_eq_false_iff_ne,bne_eq_false_iff_eq,ne_eq,toList_lit0] at h5rlnp
 have h5rr := or_r h5r
 have h5rrl := or_l h5rr
 have h5rrlp := neF h5rrl
 have h5rrr := or_r h5rr
 have h5rrrl := or_l h5rrr
 have h5rrrln := not_f h5rrrl
 have h5rrrlnp := eqT h5rrrln
 have h5rrrr := or_r h5rrr
 have h5rrrrp := neF h5rrrr
 refine kK ?_
 refine kS ?_
 refine kQ ?_
 refine kES [2,3,5] [(2,.p 0 0),(3,.p 1 0),(5,.v (.int .i64 0))] ?_
 refine xw_block ?_
 have hlen : a.held.length = b.held.length := by omega
 refine xw_loopW (α := {x : Nat // (fun (k : Nat) => k ≤ a.held.length ∧ ∀ (i : Nat) (x y : Pce),i < k → a.held[i]? = some x → b.held[i]? = some y → pceEq x y = true) x}) (fun x => (fun (k : Nat) => (⟨[(2,.p 0 0),(3,.p 1 0),(5,.v (.int .i64 (k : Int)))],[⟨65,rcvL a (.slice Aah a.held.length Cah)⟩,⟨65,rcvL b (.slice Abh b.held.length Cbh)⟩],[],[slF (.slice Aah a.held.length Cah) 2 (a.held.map pceCells),slF (.slice Abh b.held.length Cbh) 2 (b.held.map pceCells)]⟩ : St)) x.1) (fun x => a.held.length - x.1) ⟨(0),⟨Nat.zero_le _,fun i x y hi => by omega⟩⟩ (kF 2 0 [2,3,5]) ?_
 rintro ⟨k,hk,HK⟩
 try dsimp only
 try dsimp only at hk HK
 refine kS ?_
 refine kQ ?_
 refine kES [2,3,5,45] [(2,.p 0 0),(3,.p 1 0),(5,.v (.int .i64 (k : Int))),(45,.v (.bool (decide ((k : Int) < ((a.held.length : Nat) : Int)))))] ?_
 refine kC (decide ((k : Int) < ((a.held.length : Nat) : Int))) (fun h6 => ?_) (fun h6 => ?_)
 have h6p := of_decide_eq_true h6
 have hlt : k < a.held.length := by simpa using h6
 obtain ⟨x,hx⟩ : ∃ x,a.held[k]? = some x := ⟨_,List.getElem?_eq_getElem hlt⟩
 obtain ⟨y,hy⟩ : ∃ y,b.held[k]? = some y := ⟨_,List.getElem?_eq_getElem (by omega)⟩
 refine kK ?_
 refine kS ?_
 refine xw_block ?_
 refine kS ?_
 refine xws_start ?_
 refine xws_row (K := 2) (j := k) [.int .i64 x.off,.string x.text] (slF (.slice Aah a.held.length Cah) 2 (a.held.map pceCells)) (fun _ _ h => h) (by simp) (fun w h => h) (fun b h => h) (by simp only [List.getElem?_map,hx]; rfl) (fun bq7 offq7 hAq7 => ?_)
 refine xws_row (K := 2) (j := k) [.int .i64 y.off,.string y.text] (slF (.slice Abh b.held.length Cbh) 2 (b.held.map pceCells)) (fun _ _ h => h) (by simp) (fun w h => h) (fun b h => h) (by simp only [List.getElem?_map,hy]; rfl) (fun bq8 offq8 hAq8 => ?_)
 refine xws_regionE [] (by kernel_rfl) (fun ρ σ hq9 => ?_)
 refine kTS [0,1,2,5,6,7] [55,54,50,49,2,3,5] 5 [(55,.v (.int .i64 (k : Int))),(54,.v (.slice Abh b.held.length Cbh)),(50,.v (.int .i64 (k : Int))),(49,.v (.slice Aah a.held.length Cah)),(2,.p 0 0),(3,.p 1 0),(5,.v (.int .i64 (k : Int)))] ?_
 refine xe_takeI (kd := .i64) (T := 63) (e := 118) (K := 2) (j := k) (A := Aah) (len := a.held.length) (cap := Cah) 3 0 _ rfl (by kernel_rfl) (by kernel_rfl) (by kernel_rfl) (fun _ _ h => h) (by kernel_rfl) rfl rfl (by kernel_rfl) (by kernel_rfl) (by kernel_rfl) (by kernel_rfl) hlt hAq7 hq9.1.2 (by kernel_rfl) rfl ?_
 refine kTS [4] [52,55,54,2,3,5] 3 [(52,.v (.agg (pceL x).toArray)),(55,.v (.int .i64 (k : Int))),(54,.v (.slice Abh b.held.length Cbh)),(2,.p 0 0),(3,.p 1 0),(5,.v (.int .i64 (k : Int)))] ?_
 refine xe_takeI (kd := .i64) (T := 63) (e := 118) (K := 2) (j := k) (A := Abh) (len := b.held.length) (cap := Cbh) 8 1 _ rfl (by kernel_rfl) (by kernel_rfl) (by kernel_rfl) (fun _ _ h => h) (by kernel_rfl) rfl rfl (by kernel_rfl) (by kernel_rfl) (by kernel_rfl) (by kernel_rfl) (by omega) hAq8 hq9.2 (by kernel_rfl) rfl ?_
 refine kTS [9] [57,52,2,3,5] 1 [(57,.v (.agg (pceL y).toArray)),(52,.v (.agg (pceL x).toArray)),(2,.p 0 0),(3,.p 1 0),(5,.v (.int .i64 (k : Int)))] ?_
 refine kX 10 (.bool (!pceEq x y)) rfl (fun _ _ ww hA => act_bin hA rfl (by kernel_rfl) (by kernel_rfl) (agg_bin (by kernel_rfl) (run_neq_PCE x.off x.text y.off y.text ww))) ?_
 refine kZ ?_
 refine kC (!pceEq x y) (fun h10 => ?_) (fun h10 => ?_)
 have hno := sameL_no hx hy (by simpa using h10)
 refine kQ ?_
 refine kES [4] [(4,.v (.bool false))] ?_
 refine kR ?_
 exact ⟨[.bool false],by kernel_rfl,fun w' hb hf => ⟨ret_bool (show (false : Bool) = sameReceiver a b from by first | rfl | (simp [sameReceiver, *]; done) | grind [sameReceiver,sameL_len]),hb⟩⟩
 have hye : pceEq x y = true := by simpa using h10
 refine kK ?_
 refine kG ?_
 refine kRS 3 [2,3,5] [(2,.p 0 0),(3,.p 1 0),(5,.v (.int .i64 (IntKind.i64.wrap ((k : Int) + 1))))] ?_
 refine xl_eqS (t' := [(2,.p 0 0),(3,.p 1 0),(5,.v (.int .i64 ((k : Int) + 1)))]) (by rw [show (IntKind.i64.wrap ((k : Int) + 1)) = ((k : Int) + 1) from wrap_id (by omega) (by omega)]) ?_
 refine kES [2,3,5] [(2,.p 0 0),(3,.p 1 0),(5,.v (.int .i64 ((k : Int) + 1)))] ?_
 exact ⟨⟨(k + 1),⟨by omega,same_step hx hy hye HK⟩⟩,kF 2 0 [2,3,5],by show a.held.length - (k + 1) < a.held.length - k; omega⟩
 have h6p := of_decide_eq_false h6
 have hge : k = a.held.length := by simp at h6; omega
 have hall := sameL_nil_of hge hlen HK
 refine xw_exit ?_
 refine kQ ?_
 refine kES [4] [(4,.v (.bool true))] ?_
 refine kR ?_
 exact ⟨[.bool true],by kernel_rfl,fun w' hb hf => ⟨ret_bool (show (true : Bool) = sameReceiver a b from by first | rfl | (simp [sameReceiver, *]; done) | grind [sameReceiver,sameL_len]),hb⟩⟩
theorem yEqualPiece_c (a : List Pce) (aV : Value) (b : List Pce) (bV : Value) (w : World) (hl_aV : Sl w aV 2 (a.map pceCells)) (hl_bV : Sl w bV 2 (b.map pceCells))  : Calls Try.prog 99 #[aV, bV] w fun e w' => e = .returned (.bool (sameL pceEq a b)) ∧ Below w.heap.size w w' := by
 obtain ⟨Aa,Ca,hva⟩ := hl_aV.form
 rw [List.length_map] at hva; subst hva
 have hna := hl_aV.len; rw [List.length_map] at hna
 have hqa := Sl.capLe hl_aV
 obtain ⟨Ab,Cb,hvb⟩ := hl_bV.form
 rw [List.length_map] at hvb; subst hvb
 have hnb := hl_bV.len; rw [List.length_map] at hnb
 have hqb := Sl.capLe hl_bV
 refine x_calls (args := [.slice Aa a.length Ca,.slice Ab b.length Cb]) (fn := Try.f99) [slF (.slice Aa a.length Ca) 2 (a.map pceCells),slF (.slice Ab b.length Cb) 2 (b.map pceCells)] Try.func99 rfl Try.ntmps99 rfl (by simp only [List.mem_cons,List.not_mem_nil,or_false,forall_eq_or_imp,forall_eq]; exact ⟨⟨rfl,hl_aV⟩,⟨rfl,hl_bV⟩⟩) ?_
 refine kQ ?_
 refine kEF [0,1] ⟨[(0,.v (.slice Aa a.length Ca)),(1,.v (.slice Ab b.length Cb))],[],[],[slF (.slice Aa a.length Ca) 2 (a.map pceCells),slF (.slice Ab b.length Cb) 2 (b.map pceCells)]⟩ ?_
 refine kS ?_
 refine kQ ?_
 refine kES [0,1,10] [(0,.v (.slice Aa a.length Ca)),(1,.v (.slice Ab b.length Cb)),(10,.v (.bool (((a.length : Nat) : Int) != ((b.length : Nat) : Int))))] ?_
 refine kC (((a.length : Nat) : Int) != ((b.length : Nat) : Int)) (fun h1 => ?_) (fun h1 => ?_)
 have h1p := neT h1
 refine kQ ?_
 refine kES [4] [(4,.v (.bool false))] ?_
 refine kR ?_
 exact ⟨[.bool false],by kernel_rfl,fun w' hb hf => ⟨ret_bool (show (false : Bool) = sameL pceEq a b from by first | rfl | (simp [sameL_len, *]; done) | grind [sameL_len,sameL_len]),hb⟩⟩
 have h1p := neF h1
 refine kK ?_
 refine kS ?_
 refine kQ ?_
 refine kES [0,1,12,13] [(0,.v (.slice Aa a.length Ca)),(1,.v (.slice Ab b.length Cb)),(12,.v (.int .i64 ((a.length : Nat) : Int))),(13,.v (.int .i64 0))] ?_
 refine xw_block ?_
 have hlen : a.length = b.length := by omega
 refine xw_loopW (α := {x : Nat // (fun (k : Nat) => k ≤ a.length ∧ ∀ (i : Nat) (x y : Pce),i < k → a[i]? = some x → b[i]? = some y → pceEq x y = true) x}) (fun x => (fun (k : Nat) => (⟨[(0,.v (.slice Aa a.length Ca)),(1,.v (.slice Ab b.length Cb)),(12,.v (.int .i64 ((a.length : Nat) : Int))),(13,.v (.int .i64 (k : Int)))],[],[],[slF (.slice Aa a.length Ca) 2 (a.map pceCells),slF (.slice Ab b.length Cb) 2 (b.map pceCells)]⟩ : St)) x.1) (fun x => a.length - x.1) ⟨(0),⟨Nat.zero_le _,fun i x y hi => by omega⟩⟩ (kF 0 0 [0,1,12,13]) ?_
 rintro ⟨k,hk,HK⟩
 try dsimp only
 try dsimp only at hk HK
 refine kQ ?_
 refine kES [0,1,12,13,14] [(0,.v (.slice Aa a.length Ca)),(1,.v (.slice Ab b.length Cb)),(12,.v (.int .i64 ((a.length : Nat) : Int))),(13,.v (.int .i64 (k : Int))),(14,.v (.bool (decide ((k : Int) < ((a.length : Nat) : Int)))))] ?_
 refine kS ?_
 refine kC (decide ((k : Int) < ((a.length : Nat) : Int))) (fun h2 => ?_) (fun h2 => ?_)
 have h2p := of_decide_eq_true h2
 have hlt : k < a.length := by simpa using h2
 obtain ⟨x,hx⟩ : ∃ x,a[k]? = some x := ⟨_,List.getElem?_eq_getElem hlt⟩
 obtain ⟨y,hy⟩ : ∃ y,b[k]? = some y := ⟨_,List.getElem?_eq_getElem (by omega)⟩
 refine kK ?_
 refine kS ?_
 refine xw_block ?_
 refine kQ ?_
 refine kES [0,1,5,12,13] [(0,.v (.slice Aa a.length Ca)),(1,.v (.slice Ab b.length Cb)),(5,.v (.int .i64 (k : Int))),(12,.v (.int .i64 ((a.length : Nat) : Int))),(13,.v (.int .i64 (k : Int)))] ?_
 refine kS ?_
 refine xws_start ?_
 refine xws_row (K := 2) (j := k) [.int .i64 x.off,.string x.text] (slF (.slice Aa a.length Ca) 2 (a.map pceCells)) (fun _ _ h => h) (by simp) (fun w h => h) (fun b h => h) (by simp only [List.getElem?_map,hx]; rfl) (fun bq3 offq3 hAq3 => ?_)
 refine xws_row (K := 2) (j := k) [.int .i64 y.off,.string y.text] (slF (.slice Ab b.length Cb) 2 (b.map pceCells)) (fun _ _ h => h) (by simp) (fun w h => h) (fun b h => h) (by simp only [List.getElem?_map,hy]; rfl) (fun bq4 offq4 hAq4 => ?_)
 refine xws_regionE [] (by kernel_rfl) (fun ρ σ hq5 => ?_)
 refine kTS [0,1,4,5] [21,20,17,16,0,1,12,13] 5 [(21,.v (.int .i64 (k : Int))),(20,.v (.slice Ab b.length Cb)),(17,.v (.int .i64 (k : Int))),(16,.v (.slice Aa a.length Ca)),(0,.v (.slice Aa a.length Ca)),(1,.v (.slice Ab b.length Cb)),(12,.v (.int .i64 ((a.length : Nat) : Int))),(13,.v (.int .i64 (k : Int)))] ?_
 refine xe_takeI (kd := .i64) (T := 63) (e := 118) (K := 2) (j := k) (A := Aa) (len := a.length) (cap := Ca) 2 0 _ rfl (by kernel_rfl) (by kernel_rfl) (by kernel_rfl) (fun _ _ h => h) (by kernel_rfl) rfl rfl (by kernel_rfl) (by kernel_rfl) (by kernel_rfl) (by kernel_rfl) hlt hAq3 hq5.1.2 (by kernel_rfl) rfl ?_
 refine kTS [3] [19,21,20,0,1,12,13] 3 [(19,.v (.agg (pceL x).toArray)),(21,.v (.int .i64 (k : Int))),(20,.v (.slice Ab b.length Cb)),(0,.v (.slice Aa a.length Ca)),(1,.v (.slice Ab b.length Cb)),(12,.v (.int .i64 ((a.length : Nat) : Int))),(13,.v (.int .i64 (k : Int)))] ?_
 refine xe_takeI (kd := .i64) (T := 63) (e := 118) (K := 2) (j := k) (A := Ab) (len := b.length) (cap := Cb) 6 1 _ rfl (by kernel_rfl) (by kernel_rfl) (by kernel_rfl) (fun _ _ h => h) (by kernel_rfl) rfl rfl (by kernel_rfl) (by kernel_rfl) (by kernel_rfl) (by kernel_rfl) (by omega) hAq4 hq5.2 (by kernel_rfl) rfl ?_
 refine kTS [7] [23,19,0,1,12,13] 1 [(23,.v (.agg (pceL y).toArray)),(19,.v (.agg (pceL x).toArray)),(0,.v (.slice Aa a.length Ca)),(1,.v (.slice Ab b.length Cb)),(12,.v (.int .i64 ((a.length : Nat) : Int))),(13,.v (.int .i64 (k : Int)))] ?_
 refine kX 8 (.bool (!pceEq x y)) rfl (fun _ _ ww hA => act_bin hA rfl (by kernel_rfl) (by kernel_rfl) (agg_bin (by kernel_rfl) (run_neq_PCE x.off x.text y.off y.text ww))) ?_
 refine kZ ?_
 refine kC (!pceEq x y) (fun h6 => ?_) (fun h6 => ?_)
 have hno := sameL_no hx hy (by simpa using h6)
 refine kQ ?_
 refine kES [4] [(4,.v (.bool false))] ?_
 refine kR ?_
 exact ⟨[.bool false],by kernel_rfl,fun w' hb hf => ⟨ret_bool (show (false : Bool) = sameL pceEq a b from by first | rfl | (simp [sameL_len, *]; done) | grind [sameL_len,sameL_len]),hb⟩⟩
 have hye : pceEq x y = true := by simpa using h6
 refine kK ?_
 refine kG ?_
 refine kRS 2 [0,1,12,13] [(0,.v (.slice Aa a.length Ca)),(1,.v (.slice Ab b.length Cb)),(12,.v (.int .i64 ((a.length : Nat) : Int))),(13,.v (.int .i64 (IntKind.i64.wrap ((k : Int) + 1))))] ?_
 refine xl_eqS (t' := [(0,.v (.slice Aa a.length Ca)),(1,.v (.slice Ab b.length Cb)),(12,.v (.int .i64 ((a.length : Nat) : Int))),(13,.v (.int .i64 ((k : Int) + 1)))]) (by rw [show (IntKind.i64.wrap ((k : Int) + 1)) = ((k : Int) + 1) from wrap_id (by omega) (by omega)]) ?_
 refine kES [0,1,12,13] [(0,.v (.slice Aa a.length Ca)),(1,.v (.slice Ab b.length Cb)),(12,.v (.int .i64 ((a.length : Nat) : Int))),(13,.v (.int .i64 ((k : Int) + 1)))] ?_
 exact ⟨⟨(k + 1),⟨by omega,same_step hx hy hye HK⟩⟩,kF 0 0 [0,1,12,13],by show a.length - (k + 1) < a.length - k; omega⟩
 have h2p := of_decide_eq_false h2
 have hge : k = a.length := by simp at h2; omega
 have hall := sameL_nil_of hge hlen HK
 refine xw_exit ?_
 refine kQ ?_
 refine kES [4] [(4,.v (.bool true))] ?_
 refine kR ?_
 exact ⟨[.bool true],by kernel_rfl,fun w' hb hf => ⟨ret_bool (show (true : Bool) = sameL pceEq a b from by first | rfl | (simp [sameL_len, *]; done) | grind [sameL_len,sameL_len]),hb⟩⟩
theorem yiSameReceiver_c (a : Rcv) (a_heldV : Value) (b : Rcv) (b_heldV : Value) (w : World) (hl_a_heldV : Sl w a_heldV 2 (a.held.map pceCells)) (hl_b_heldV : Sl w b_heldV 2 (b.held.map pceCells))  : Calls Try.prog 77 #[.agg (rcvL a a_heldV).toArray, .agg (rcvL b b_heldV).toArray] w fun e w' => e = .returned (.bool (sameReceiver a b)) ∧ Below w.heap.size w w' := by
 obtain ⟨Aah,Cah,hvah⟩ := hl_a_heldV.form
 rw [List.length_map] at hvah; subst hvah
 have hnah := hl_a_heldV.len; rw [List.length_map] at hnah
 have hqah := Sl.capLe hl_a_heldV
 obtain ⟨Abh,Cbh,hvbh⟩ := hl_b_heldV.form
 rw [List.length_map] at hvbh; subst hvbh
 have hnbh := hl_b_heldV.len; rw [List.length_map] at hnbh
 have hqbh := Sl.capLe hl_b_heldV
 refine x_calls (args := [.agg (rcvL a (.slice Aah a.held.length Cah)).toArray,.agg (rcvL b (.slice Abh b.held.length Cbh)).toArray]) (fn := Try.f77) [slF (.slice Aah a.held.length Cah) 2 (a.held.map pceCells),slF (.slice Abh b.held.length Cbh) 2 (b.held.map pceCells)] Try.func77 rfl Try.ntmps77 rfl (by simp only [List.mem_cons,List.not_mem_nil,or_false,forall_eq_or_imp,forall_eq]; exact ⟨⟨rfl,hl_a_heldV⟩,⟨rfl,hl_b_heldV⟩⟩) ?_
 refine kQ ?_
 refine kEF [2,3] ⟨[(2,.p 0 0),(3,.p 1 0)],[⟨65,rcvL a (.slice Aah a.held.length Cah)⟩,⟨65,rcvL b (.slice Abh b.held.length Cbh)⟩],[],[slF (.slice Aah a.held.length Cah) 2 (a.held.map pceCells),slF (.slice Abh b.held.length Cbh) 2 (b.held.map pceCells)]⟩ ?_
 refine kS ?_
 refine xw_join ⟨[(4,.v (.bool ((a.next == b.next) && ((a.data.toList == b.data.toList) && ((sameL pceEq a.held b.held) && ((a.fin == b.fin) && (a.done == b.done)))))))],[⟨65,rcvL a (.slice Aah a.held.length Cah)⟩,⟨65,rcvL b (.slice Abh b.held.length Cbh)⟩],[],[slF (.slice Aah a.held.length Cah) 2 (a.held.map pceCells),slF (.slice Abh b.held.length Cbh) 2 (b.held.map pceCells)]⟩ ?_ ?_
 refine kG ?_
 refine kRS 6 [2,3,10] [(2,.p 0 0),(3,.p 1 0),(10,.v (.bool (a.next == b.next)))] ?_
 refine kP 10 (a.next == b.next) (fun h1 => ?_) (fun h1 => ?_)
 have h1p := eqT h1
 refine kRS 7 [2,3,17] [(2,.p 0 0),(3,.p 1 0),(17,.v (.bool (a.data.toList == b.data.toList)))] ?_
 refine kP 17 (a.data.toList == b.data.toList) (fun h2 => ?_) (fun h2 => ?_)
 have h2p := h2; simp only [beq_iff_eq,bne_iff_ne,beq_eq_false_iff_ne,bne_eq_false_iff_eq,ne_eq,toList_lit0] at h2p
 refine kCS 4 [2,3,17,19,21] [(2,.p 0 0),(3,.p 1 0),(17,.v (.bool true)),(19,.v (.slice Aah a.held.length Cah)),(21,.v (.slice Abh b.held.length Cbh))] 99 [.slice Aah a.held.length Cah,.slice Abh b.held.length Cbh] (some 22) rfl (xc_b fun ww hf => yEqualPiece_c a.held (.slice Aah a.held.length Cah) b.held (.slice Abh b.held.length Cbh) ww (hf _ m0) (hf _ m1) ) ?_
 intro _
 refine kRS 2 [2,3,24] [(2,.p 0 0),(3,.p 1 0),(24,.v (.bool (sameL pceEq a.held b.held)))] ?_
 refine kP 24 (sameL pceEq a.held b.held) (fun h3 => ?_) (fun h3 => ?_)
 refine kRS 7 [2,3,31] [(2,.p 0 0),(3,.p 1 0),(31,.v (.bool (a.fin == b.fin)))] ?_
 refine kP 31 (a.fin == b.fin) (fun h4 => ?_) (fun h4 => ?_)
 have h4p := eqT h4
 refine kES [4] [(4,.v (.bool (a.done == b.done)))] ?_
 show Wk _ _
 try rw [h1]
 try rw [h2]
 try rw [h3]
 try rw [h4]
 exact kF 2 0 [4]
 have h4p := eqF h4
 refine kES [4] [(4,.v (.bool false))] ?_
 show Wk _ _
 try rw [h1]
 try rw [h2]
 try rw [h3]
 try rw [h4]
 exact kF 2 0 [4]
 refine kES [4] [(4,.v (.bool false))] ?_
 show Wk _ _
 try rw [h1]
 try rw [h2]
 try rw [h3]
 exact kF 2 0 [4]
 have h2p := h2; simp only [beq_iff_eq,bne_iff_ne,beq_eq_false_iff_ne,bne_eq_false_iff_eq,ne_eq,toList_lit0] at h2p
 refine kES [4] [(4,.v (.bool false))] ?_
 show Wk _ _
 try rw [h1]
 try rw [h2]
 exact kF 2 0 [4]
 have h1p := eqF h1
 refine kES [4] [(4,.v (.bool false))] ?_
 show Wk _ _
 try rw [h1]
 exact kF 2 0 [4]
 refine kR ?_
 exact ⟨[.bool ((a.next == b.next) && ((a.data.toList == b.data.toList) && ((sameL pceEq a.held b.held) && ((a.fin == b.fin) && (a.done == b.done)))))],by kernel_rfl,fun w' hb hf => ⟨ret_bool (show ((a.next == b.next) && ((a.data.toList == b.data.toList) && ((sameL pceEq a.held b.held) && ((a.fin == b.fin) && (a.done == b.done)))) : Bool) = sameReceiver a b from by first | rfl | (simp [sameReceiver, *]; done) | grind [sameReceiver,sameL_len]),hb⟩⟩
theorem ysSameConn_c (a : Con) (a_r_heldV : Value) (b : Con) (b_r_heldV : Value) (w : World) (hl_a_r_heldV : Sl w a_r_heldV 2 (a.r.held.map pceCells)) (hl_b_r_heldV : Sl w b_r_heldV 2 (b.r.held.map pceCells))  : Calls Try.prog 44 #[.agg (conL a a_r_heldV).toArray, .agg (conL b b_r_heldV).toArray] w fun e w' => e = .returned (.bool (sameConn a b)) ∧ Below w.heap.size w w' := by
 obtain ⟨Aarh,Carh,hvarh⟩ := hl_a_r_heldV.form
 rw [List.length_map] at hvarh; subst hvarh
 have hnarh := hl_a_r_heldV.len; rw [List.length_map] at hnarh
 have hqarh := Sl.capLe hl_a_r_heldV
 obtain ⟨Abrh,Cbrh,hvbrh⟩ := hl_b_r_heldV.form
 rw [List.length_map] at hvbrh; subst hvbrh
 have hnbrh := hl_b_r_heldV.len; rw [List.length_map] at hnbrh
 have hqbrh := Sl.capLe hl_b_r_heldV
 refine x_calls (args := [.agg (conL a (.slice Aarh a.r.held.length Carh)).toArray,.agg (conL b (.slice Abrh b.r.held.length Cbrh)).toArray]) (fn := Try.f44) [slF (.slice Aarh a.r.held.length Carh) 2 (a.r.held.map pceCells),slF (.slice Abrh b.r.held.length Cbrh) 2 (b.r.held.map pceCells)] Try.func44 rfl Try.ntmps44 rfl (by simp only [List.mem_cons,List.not_mem_nil,or_false,forall_eq_or_imp,forall_eq]; exact ⟨⟨rfl,hl_a_r_heldV⟩,⟨rfl,hl_b_r_heldV⟩⟩) ?_
 refine kQ ?_
 refine kEF [2,3] ⟨[(2,.p 0 0),(3,.p 1 0)],[⟨68,conL a (.slice Aarh a.r.held.length Carh)⟩,⟨68,conL b (.slice Abrh b.r.held.length Cbrh)⟩],[],[slF (.slice Aarh a.r.held.length Carh) 2 (a.r.held.map pceCells),slF (.slice Abrh b.r.held.length Cbrh) 2 (b.r.held.map pceCells)]⟩ ?_
 refine kS ?_
 refine xw_join ⟨[(4,.v (.bool ((tupEq a.t b.t) && ((a.state == b.state) && ((sndEq a.s b.s) && ((sameReceiver a.r b.r) && ((a.window == b.window) && ((a.most == b.most) && ((optEq a.o b.o) && ((a.timer == b.timer) && (a.tries == b.tries)))))))))))],[⟨68,conL a (.slice Aarh a.r.held.length Carh)⟩,⟨68,conL b (.slice Abrh b.r.held.length Cbrh)⟩],[],[slF (.slice Aarh a.r.held.length Carh) 2 (a.r.held.map pceCells),slF (.slice Abrh b.r.held.length Cbrh) 2 (b.r.held.map pceCells)]⟩ ?_ ?_
 refine kG ?_
 refine kOS 4 [2,3,6,8] [(2,.p 0 0),(3,.p 1 0),(6,.v (.agg (tupL a.t).toArray)),(8,.v (.agg (tupL b.t).toArray))] (.bool (tupEq a.t b.t)) rfl (fun _ _ _ ww hr => act_bin hr.1 rfl (by kernel_rfl) (by kernel_rfl) (agg_bin (by kernel_rfl) (run_eql_TUP a.t.ip a.t.port a.t.my b.t.ip b.t.port b.t.my ww))) ?_
 refine kRS 1 [2,3,10] [(2,.p 0 0),(3,.p 1 0),(10,.v (.bool (tupEq a.t b.t)))] ?_
 refine kP 10 (tupEq a.t b.t) (fun h1 => ?_) (fun h1 => ?_)
 refine kRS 7 [2,3,17] [(2,.p 0 0),(3,.p 1 0),(17,.v (.bool (a.state == b.state)))] ?_
 refine kP 17 (a.state == b.state) (fun h2 => ?_) (fun h2 => ?_)
 have h2p := eqT h2
 refine kOS 4 [2,3,17,19,21] [(2,.p 0 0),(3,.p 1 0),(17,.v (.bool true)),(19,.v (.agg (sndL a.s).toArray)),(21,.v (.agg (sndL b.s).toArray))] (.bool (sndEq a.s b.s)) rfl (fun _ _ _ ww hr => act_bin hr.1 rfl (by kernel_rfl) (by kernel_rfl) (agg_bin (by kernel_rfl) (run_eql_SND a.s.una a.s.data a.s.sent a.s.fin a.s.finSent a.s.done b.s.una b.s.data b.s.sent b.s.fin b.s.finSent b.s.done ww))) ?_
 refine kRS 2 [2,3,24] [(2,.p 0 0),(3,.p 1 0),(24,.v (.bool (sndEq a.s b.s)))] ?_
 refine kP 24 (sndEq a.s b.s) (fun h3 => ?_) (fun h3 => ?_)
 refine kCS 4 [2,3,24,26,28] [(2,.p 0 0),(3,.p 1 0),(24,.v (.bool true)),(26,.v (.agg (rcvL a.r (.slice Aarh a.r.held.length Carh)).toArray)),(28,.v (.agg (rcvL b.r (.slice Abrh b.r.held.length Cbrh)).toArray))] 76 [.agg (rcvL a.r (.slice Aarh a.r.held.length Carh)).toArray,.agg (rcvL b.r (.slice Abrh b.r.held.length Cbrh)).toArray] (some 29) rfl (xc_b fun ww hf => ysSameReceiver_c a.r (.slice Aarh a.r.held.length Carh) b.r (.slice Abrh b.r.held.length Cbrh) ww (hf _ m0) (hf _ m1) ) ?_
 intro _
 refine kRS 2 [2,3,31] [(2,.p 0 0),(3,.p 1 0),(31,.v (.bool (sameReceiver a.r b.r)))] ?_
 refine kP 31 (sameReceiver a.r b.r) (fun h4 => ?_) (fun h4 => ?_)
 refine kRS 7 [2,3,38] [(2,.p 0 0),(3,.p 1 0),(38,.v (.bool (a.window == b.window)))] ?_
 refine kP 38 (a.window == b.window) (fun h5 => ?_) (fun h5 => ?_)
 have h5p := eqT h5
 refine kRS 7 [2,3,45] [(2,.p 0 0),(3,.p 1 0),(45,.v (.bool (a.most == b.most)))] ?_
 refine kP 45 (a.most == b.most) (fun h6 => ?_) (fun h6 => ?_)
 have h6p := eqT h6
 refine kOS 4 [2,3,45,47,49] [(2,.p 0 0),(3,.p 1 0),(45,.v (.bool true)),(47,.v (.agg (optL a.o).toArray)),(49,.v (.agg (optL b.o).toArray))] (.bool (optEq a.o b.o)) rfl (fun _ _ _ ww hr => act_bin hr.1 rfl (by kernel_rfl) (by kernel_rfl) (agg_bin (by kernel_rfl) (run_eql_OPT a.o.mss a.o.scale a.o.sack a.o.stamp a.o.val a.o.echo b.o.mss b.o.scale b.o.sack b.o.stamp b.o.val b.o.echo ww))) ?_
 refine kRS 2 [2,3,52] [(2,.p 0 0),(3,.p 1 0),(52,.v (.bool (optEq a.o b.o)))] ?_
 refine kP 52 (optEq a.o b.o) (fun h7 => ?_) (fun h7 => ?_)
 refine kRS 7 [2,3,59] [(2,.p 0 0),(3,.p 1 0),(59,.v (.bool (a.timer == b.timer)))] ?_
 refine kP 59 (a.timer == b.timer) (fun h8 => ?_) (fun h8 => ?_)
 have h8p := eqT h8
 refine kES [4] [(4,.v (.bool (a.tries == b.tries)))] ?_
 show Wk _ _
 try rw [h1]
 try rw [h2]
 try rw [h3]
 try rw [h4]
 try rw [h5]
 try rw [h6]
 try rw [h7]
 try rw [h8]
 exact kF 2 0 [4]
 have h8p := eqF h8
 refine kES [4] [(4,.v (.bool false))] ?_
 show Wk _ _
 try rw [h1]
 try rw [h2]
 try rw [h3]
 try rw [h4]
 try rw [h5]
 try rw [h6]
 try rw [h7]
 try rw [h8]
 exact kF 2 0 [4]
 refine kES [4] [(4,.v (.bool false))] ?_
 show Wk _ _
 try rw [h1]
 try rw [h2]
 try rw [h3]
 try rw [h4]
 try rw [h5]
 try rw [h6]
 try rw [h7]
 exact kF 2 0 [4]
 have h6p := eqF h6
 refine kES [4] [(4,.v (.bool false))] ?_
 show Wk _ _
 try rw [h1]
 try rw [h2]
 try rw [h3]
 try rw [h4]
 try rw [h5]
 try rw [h6]
 exact kF 2 0 [4]
 have h5p := eqF h5
 refine kES [4] [(4,.v (.bool false))] ?_
 show Wk _ _
 try rw [h1]
 try rw [h2]
 try rw [h3]
 try rw [h4]
 try rw [h5]
 exact kF 2 0 [4]
 refine kES [4] [(4,.v (.bool false))] ?_
 show Wk _ _
 try rw [h1]
 try rw [h2]
 try rw [h3]
 try rw [h4]
 exact kF 2 0 [4]
 refine kES [4] [(4,.v (.bool false))] ?_
 show Wk _ _
 try rw [h1]
 try rw [h2]
 try rw [h3]
 exact kF 2 0 [4]
 have h2p := eqF h2
 refine kES [4] [(4,.v (.bool false))] ?_
 show Wk _ _
 try rw [h1]
 try rw [h2]
 exact kF 2 0 [4]
 refine kES [4] [(4,.v (.bool false))] ?_
 show Wk _ _
 try rw [h1]
 exact kF 2 0 [4]
 refine kR ?_
 exact ⟨[.bool ((tupEq a.t b.t) && ((a.state == b.state) && ((sndEq a.s b.s) && ((sameReceiver a.r b.r) && ((a.window == b.window) && ((a.most == b.most) && ((optEq a.o b.o) && ((a.timer == b.timer) && (a.tries == b.tries)))))))))],by kernel_rfl,fun w' hb hf => ⟨ret_bool (show ((tupEq a.t b.t) && ((a.state == b.state) && ((sndEq a.s b.s) && ((sameReceiver a.r b.r) && ((a.window == b.window) && ((a.most == b.most) && ((optEq a.o b.o) && ((a.timer == b.timer) && (a.tries == b.tries)))))))) : Bool) = sameConn a b from by first | rfl | (simp [sameConn, *]; done) | grind [sameConn,sameL_len]),hb⟩⟩
theorem yiSameConn_c (a : Con) (a_r_heldV : Value) (b : Con) (b_r_heldV : Value) (w : World) (hl_a_r_heldV : Sl w a_r_heldV 2 (a.r.held.map pceCells)) (hl_b_r_heldV : Sl w b_r_heldV 2 (b.r.held.map pceCells))  : Calls Try.prog 46 #[.agg (conL a a_r_heldV).toArray, .agg (conL b b_r_heldV).toArray] w fun e w' => e = .returned (.bool (sameConn a b)) ∧ Below w.heap.size w w' := by
 obtain ⟨Aarh,Carh,hvarh⟩ := hl_a_r_heldV.form
 rw [List.length_map] at hvarh; subst hvarh
 have hnarh := hl_a_r_heldV.len; rw [List.length_map] at hnarh
 have hqarh := Sl.capLe hl_a_r_heldV
 obtain ⟨Abrh,Cbrh,hvbrh⟩ := hl_b_r_heldV.form
 rw [List.length_map] at hvbrh; subst hvbrh
 have hnbrh := hl_b_r_heldV.len; rw [List.length_map] at hnbrh
 have hqbrh := Sl.capLe hl_b_r_heldV
 refine x_calls (args := [.agg (conL a (.slice Aarh a.r.held.length Carh)).toArray,.agg (conL b (.slice Abrh b.r.held.length Cbrh)).toArray]) (fn := Try.f46) [slF (.slice Aarh a.r.held.length Carh) 2 (a.r.held.map pceCells),slF (.slice Abrh b.r.held.length Cbrh) 2 (b.r.held.map pceCells)] Try.func46 rfl Try.ntmps46 rfl (by simp only [List.mem_cons,List.not_mem_nil,or_false,forall_eq_or_imp,forall_eq]; exact ⟨⟨rfl,hl_a_r_heldV⟩,⟨rfl,hl_b_r_heldV⟩⟩) ?_
 refine kQ ?_
 refine kEF [2,3] ⟨[(2,.p 0 0),(3,.p 1 0)],[⟨68,conL a (.slice Aarh a.r.held.length Carh)⟩,⟨68,conL b (.slice Abrh b.r.held.length Cbrh)⟩],[],[slF (.slice Aarh a.r.held.length Carh) 2 (a.r.held.map pceCells),slF (.slice Abrh b.r.held.length Cbrh) 2 (b.r.held.map pceCells)]⟩ ?_
 refine kS ?_
 refine xw_join ⟨[(4,.v (.bool ((tupEq a.t b.t) && ((a.state == b.state) && ((sndEq a.s b.s) && ((sameReceiver a.r b.r) && ((a.window == b.window) && ((a.most == b.most) && ((optEq a.o b.o) && ((a.timer == b.timer) && (a.tries == b.tries)))))))))))],[⟨68,conL a (.slice Aarh a.r.held.length Carh)⟩,⟨68,conL b (.slice Abrh b.r.held.length Cbrh)⟩],[],[slF (.slice Aarh a.r.held.length Carh) 2 (a.r.held.map pceCells),slF (.slice Abrh b.r.held.length Cbrh) 2 (b.r.held.map pceCells)]⟩ ?_ ?_
 refine kG ?_
 refine kOS 4 [2,3,6,8] [(2,.p 0 0),(3,.p 1 0),(6,.v (.agg (tupL a.t).toArray)),(8,.v (.agg (tupL b.t).toArray))] (.bool (tupEq a.t b.t)) rfl (fun _ _ _ ww hr => act_bin hr.1 rfl (by kernel_rfl) (by kernel_rfl) (agg_bin (by kernel_rfl) (run_eql_TUP a.t.ip a.t.port a.t.my b.t.ip b.t.port b.t.my ww))) ?_
 refine kRS 1 [2,3,10] [(2,.p 0 0),(3,.p 1 0),(10,.v (.bool (tupEq a.t b.t)))] ?_
 refine kP 10 (tupEq a.t b.t) (fun h1 => ?_) (fun h1 => ?_)
 refine kRS 7 [2,3,17] [(2,.p 0 0),(3,.p 1 0),(17,.v (.bool (a.state == b.state)))] ?_
 refine kP 17 (a.state == b.state) (fun h2 => ?_) (fun h2 => ?_)
 have h2p := eqT h2
 refine kOS 4 [2,3,17,19,21] [(2,.p 0 0),(3,.p 1 0),(17,.v (.bool true)),(19,.v (.agg (sndL a.s).toArray)),(21,.v (.agg (sndL b.s).toArray))] (.bool (sndEq a.s b.s)) rfl (fun _ _ _ ww hr => act_bin hr.1 rfl (by kernel_rfl) (by kernel_rfl) (agg_bin (by kernel_rfl) (run_eql_SND a.s.una a.s.data a.s.sent a.s.fin a.s.finSent a.s.done b.s.una b.s.data b.s.sent b.s.fin b.s.finSent b.s.done ww))) ?_
 refine kRS 2 [2,3,24] [(2,.p 0 0),(3,.p 1 0),(24,.v (.bool (sndEq a.s b.s)))] ?_
 refine kP 24 (sndEq a.s b.s) (fun h3 => ?_) (fun h3 => ?_)
 refine kCS 4 [2,3,24,26,28] [(2,.p 0 0),(3,.p 1 0),(24,.v (.bool true)),(26,.v (.agg (rcvL a.r (.slice Aarh a.r.held.length Carh)).toArray)),(28,.v (.agg (rcvL b.r (.slice Abrh b.r.held.length Cbrh)).toArray))] 77 [.agg (rcvL a.r (.slice Aarh a.r.held.length Carh)).toArray,.agg (rcvL b.r (.slice Abrh b.r.held.length Cbrh)).toArray] (some 29) rfl (xc_b fun ww hf => yiSameReceiver_c a.r (.slice Aarh a.r.held.length Carh) b.r (.slice Abrh b.r.held.length Cbrh) ww (hf _ m0) (hf _ m1) ) ?_
 intro _
 refine kRS 2 [2,3,31] [(2,.p 0 0),(3,.p 1 0),(31,.v (.bool (sameReceiver a.r b.r)))] ?_
 refine kP 31 (sameReceiver a.r b.r) (fun h4 => ?_) (fun h4 => ?_)
 refine kRS 7 [2,3,38] [(2,.p 0 0),(3,.p 1 0),(38,.v (.bool (a.window == b.window)))] ?_
 refine kP 38 (a.window == b.window) (fun h5 => ?_) (fun h5 => ?_)
 have h5p := eqT h5
 refine kRS 7 [2,3,45] [(2,.p 0 0),(3,.p 1 0),(45,.v (.bool (a.most == b.most)))] ?_
 refine kP 45 (a.most == b.most) (fun h6 => ?_) (fun h6 => ?_)
 have h6p := eqT h6
 refine kOS 4 [2,3,45,47,49] [(2,.p 0 0),(3,.p 1 0),(45,.v (.bool true)),(47,.v (.agg (optL a.o).toArray)),(49,.v (.agg (optL b.o).toArray))] (.bool (optEq a.o b.o)) rfl (fun _ _ _ ww hr => act_bin hr.1 rfl (by kernel_rfl) (by kernel_rfl) (agg_bin (by kernel_rfl) (run_eql_OPT a.o.mss a.o.scale a.o.sack a.o.stamp a.o.val a.o.echo b.o.mss b.o.scale b.o.sack b.o.stamp b.o.val b.o.echo ww))) ?_
 refine kRS 2 [2,3,52] [(2,.p 0 0),(3,.p 1 0),(52,.v (.bool (optEq a.o b.o)))] ?_
 refine kP 52 (optEq a.o b.o) (fun h7 => ?_) (fun h7 => ?_)
 refine kRS 7 [2,3,59] [(2,.p 0 0),(3,.p 1 0),(59,.v (.bool (a.timer == b.timer)))] ?_
 refine kP 59 (a.timer == b.timer) (fun h8 => ?_) (fun h8 => ?_)
 have h8p := eqT h8
 refine kES [4] [(4,.v (.bool (a.tries == b.tries)))] ?_
 show Wk _ _
 try rw [h1]
 try rw [h2]
 try rw [h3]
 try rw [h4]
 try rw [h5]
 try rw [h6]
 try rw [h7]
 try rw [h8]
 exact kF 2 0 [4]
 have h8p := eqF h8
 refine kES [4] [(4,.v (.bool false))] ?_
 show Wk _ _
 try rw [h1]
 try rw [h2]
 try rw [h3]
 try rw [h4]
 try rw [h5]
 try rw [h6]
 try rw [h7]
 try rw [h8]
 exact kF 2 0 [4]
 refine kES [4] [(4,.v (.bool false))] ?_
 show Wk _ _
 try rw [h1]
 try rw [h2]
 try rw [h3]
 try rw [h4]
 try rw [h5]
 try rw [h6]
 try rw [h7]
 exact kF 2 0 [4]
 have h6p := eqF h6
 refine kES [4] [(4,.v (.bool false))] ?_
 show Wk _ _
 try rw [h1]
 try rw [h2]
 try rw [h3]
 try rw [h4]
 try rw [h5]
 try rw [h6]
 exact kF 2 0 [4]
 have h5p := eqF h5
 refine kES [4] [(4,.v (.bool false))] ?_
 show Wk _ _
 try rw [h1]
 try rw [h2]
 try rw [h3]
 try rw [h4]
 try rw [h5]
 exact kF 2 0 [4]
 refine kES [4] [(4,.v (.bool false))] ?_
 show Wk _ _
 try rw [h1]
 try rw [h2]
 try rw [h3]
 try rw [h4]
 exact kF 2 0 [4]
 refine kES [4] [(4,.v (.bool false))] ?_
 show Wk _ _
 try rw [h1]
 try rw [h2]
 try rw [h3]
 exact kF 2 0 [4]
 have h2p := eqF h2
 refine kES [4] [(4,.v (.bool false))] ?_
 show Wk _ _
 try rw [h1]
 try rw [h2]
 exact kF 2 0 [4]
 refine kES [4] [(4,.v (.bool false))] ?_
 show Wk _ _
 try rw [h1]
 exact kF 2 0 [4]
 refine kR ?_
 exact ⟨[.bool ((tupEq a.t b.t) && ((a.state == b.state) && ((sndEq a.s b.s) && ((sameReceiver a.r b.r) && ((a.window == b.window) && ((a.most == b.most) && ((optEq a.o b.o) && ((a.timer == b.timer) && (a.tries == b.tries)))))))))],by kernel_rfl,fun w' hb hf => ⟨ret_bool (show ((tupEq a.t b.t) && ((a.state == b.state) && ((sndEq a.s b.s) && ((sameReceiver a.r b.r) && ((a.window == b.window) && ((a.most == b.most) && ((optEq a.o b.o) && ((a.timer == b.timer) && (a.tries == b.tries)))))))) : Bool) = sameConn a b from by first | rfl | (simp [sameConn, *]; done) | grind [sameConn,sameL_len]),hb⟩⟩
@[simp] theorem inB18_1 : inB 1 1 8 = true := rfl
@[simp] theorem inB18_2 : inB 2 1 8 = true := rfl
@[simp] theorem inB18_3 : inB 3 1 8 = true := rfl
@[simp] theorem inB18_4 : inB 4 1 8 = true := rfl
@[simp] theorem inB18_5 : inB 5 1 8 = true := rfl
@[simp] theorem inB18_6 : inB 6 1 8 = true := rfl
@[simp] theorem inB18_7 : inB 7 1 8 = true := rfl
@[simp] theorem inB18_8 : inB 8 1 8 = true := rfl
def tabL (x : Tab) (x_connsV : Value) (x_waitingV : Value) : List Value := [x_connsV, x_waitingV]
def sameTable (a b : Tab) : Bool := sameL (fun x y : CV => sameConn x.1 y.1) a.conns b.conns && sameL tupEq a.waiting b.waiting
theorem sameTable_pl {a a' b b' : Tab} (h : pl a.conns = pl a'.conns) (hw : a.waiting = a'.waiting) (h2 : pl b.conns = pl b'.conns) (hw2 : b.waiting = b'.waiting) : sameTable a b = sameTable a' b' := by
 unfold sameTable; rw [sameL_pl,sameL_pl,h,h2,hw,hw2]
theorem yEqualTuple_c (a : List Tup) (aV : Value) (b : List Tup) (bV : Value) (w : World) (hl_aV : Sl w aV 3 (a.map tupCells)) (hl_bV : Sl w bV 3 (b.map tupCells))  : Calls Try.prog 47 #[aV, bV] w fun e w' => e = .returned (.bool (sameL tupEq a b)) ∧ Below w.heap.size w w' := by
 obtain ⟨Aa,Ca,hva⟩ := hl_aV.form
 rw [List.length_map] at hva; subst hva
 have hna := hl_aV.len; rw [List.length_map] at hna
 have hqa := Sl.capLe hl_aV
 obtain ⟨Ab,Cb,hvb⟩ := hl_bV.form
 rw [List.length_map] at hvb; subst hvb
 have hnb := hl_bV.len; rw [List.length_map] at hnb
 have hqb := Sl.capLe hl_bV
 refine x_calls (args := [.slice Aa a.length Ca,.slice Ab b.length Cb]) (fn := Try.f47) [slF (.slice Aa a.length Ca) 3 (a.map tupCells),slF (.slice Ab b.length Cb) 3 (b.map tupCells)] Try.func47 rfl Try.ntmps47 rfl (by simp only [List.mem_cons,List.not_mem_nil,or_false,forall_eq_or_imp,forall_eq]; exact ⟨⟨rfl,hl_aV⟩,⟨rfl,hl_bV⟩⟩) ?_
 refine kQ ?_
 refine kEF [0,1] ⟨[(0,.v (.slice Aa a.length Ca)),(1,.v (.slice Ab b.length Cb))],[],[],[slF (.slice Aa a.length Ca) 3 (a.map tupCells),slF (.slice Ab b.length Cb) 3 (b.map tupCells)]⟩ ?_
 refine kS ?_
 refine kQ ?_
 refine kED [0,1,10] [(10,.v (.bool (((a.length : Nat) : Int) != ((b.length : Nat) : Int))))] ?_
 refine kC (((a.length : Nat) : Int) != ((b.length : Nat) : Int)) (fun h1 => ?_) (fun h1 => ?_)
 have h1p := neT h1
 refine kQ ?_
 refine kES [4] [(4,.v (.bool false))] ?_
 refine kR ?_
 exact ⟨[.bool false],by kernel_rfl,fun w' hb hf => ⟨ret_bool (show (false : Bool) = sameL tupEq a b from by first | exact hnow.symm | exact hallw.symm | exact (sameL_len (by omega)).symm),hb⟩⟩
 have h1p := neF h1
 refine kK ?_
 refine kS ?_
 refine kQ ?_
 refine kED [0,1,12,13] [(12,.v (.int .i64 ((a.length : Nat) : Int))),(13,.v (.int .i64 0))] ?_
 refine xw_block ?_
 have hlenw : a.length = b.length := by omega
 refine xw_loopW (α := {x : Nat // (fun (kw : Nat) => kw ≤ a.length ∧ ∀ (i : Nat) (x y : Tup),i < kw → a[i]? = some x → b[i]? = some y → tupEq x y = true) x}) (fun x => (fun (kw : Nat) => (⟨[(0,.v (.slice Aa a.length Ca)),(1,.v (.slice Ab b.length Cb)),(12,.v (.int .i64 ((a.length : Nat) : Int))),(13,.v (.int .i64 (kw : Int)))],[],[],[slF (.slice Aa a.length Ca) 3 (a.map tupCells),slF (.slice Ab b.length Cb) 3 (b.map tupCells)]⟩ : St)) x.1) (fun x => a.length - x.1) ⟨(0),⟨Nat.zero_le _,fun i x y hi => by omega⟩⟩ (kF 0 0 [0,1,12,13]) ?_
 rintro ⟨kw,hkw,HKw⟩
 try dsimp only
 try dsimp only at hkw HKw
 refine kQ ?_
 refine kED [0,1,12,13,14] [(14,.v (.bool (decide ((kw : Int) < ((a.length : Nat) : Int)))))] ?_
 refine kS ?_
 refine kC (decide ((kw : Int) < ((a.length : Nat) : Int))) (fun h2 => ?_) (fun h2 => ?_)
 have h2p := of_decide_eq_true h2
 have hltw : kw < a.length := by simpa using h2
 obtain ⟨xw,hxw⟩ : ∃ x,a[kw]? = some x := ⟨_,List.getElem?_eq_getElem hltw⟩
 obtain ⟨yw,hyw⟩ : ∃ y,b[kw]? = some y := ⟨_,List.getElem?_eq_getElem (by omega)⟩
 refine kK ?_
 refine kS ?_
 refine xw_block ?_
 refine kQ ?_
 refine kED [0,1,5,12,13] [(5,.v (.int .i64 (kw : Int)))] ?_
 refine kS ?_
 refine xws_start ?_
 refine xws_row (K := 3) (j := kw) [.int .i64 xw.ip,.int .i64 xw.port,.int .i64 xw.my] (slF (.slice Aa a.length Ca) 3 (a.map tupCells)) (fun _ _ h => h) (by simp) (fun w h => h) (fun b h => h) (by simp only [List.getElem?_map,hxw]; rfl) (fun bq3 offq3 hAq3 => ?_)
 refine xws_row (K := 3) (j := kw) [.int .i64 yw.ip,.int .i64 yw.port,.int .i64 yw.my] (slF (.slice Ab b.length Cb) 3 (b.map tupCells)) (fun _ _ h => h) (by simp) (fun w h => h) (fun b h => h) (by simp only [List.getElem?_map,hyw]; rfl) (fun bq4 offq4 hAq4 => ?_)
 refine xws_regionE [] (by kernel_rfl) (fun ρ σ hq5 => ?_)
 refine kTD [0,1,4,5] [21,20,17,16,0,1,12,13] 5 [(21,.v (.int .i64 (kw : Int))),(20,.v (.slice Ab b.length Cb)),(17,.v (.int .i64 (kw : Int))),(16,.v (.slice Aa a.length Ca))] ?_
 refine xe_takeI (kd := .i64) (T := 31) (e := 35) (K := 3) (j := kw) (A := Aa) (len := a.length) (cap := Ca) 2 0 _ rfl (by kernel_rfl) (by kernel_rfl) (by kernel_rfl) (fun _ _ h => h) (by kernel_rfl) rfl rfl (by kernel_rfl) (by kernel_rfl) (by kernel_rfl) (by kernel_rfl) hltw hAq3 hq5.1.2 (by kernel_rfl) rfl ?_
 refine kTD [3] [19,21,20,0,1,12,13] 3 [(19,.v (.agg (tupL xw).toArray))] ?_
 refine xe_takeI (kd := .i64) (T := 31) (e := 35) (K := 3) (j := kw) (A := Ab) (len := b.length) (cap := Cb) 6 1 _ rfl (by kernel_rfl) (by kernel_rfl) (by kernel_rfl) (fun _ _ h => h) (by kernel_rfl) rfl rfl (by kernel_rfl) (by kernel_rfl) (by kernel_rfl) (by kernel_rfl) (by omega) hAq4 hq5.2 (by kernel_rfl) rfl ?_
 refine kTD [7] [23,19,0,1,12,13] 1 [(23,.v (.agg (tupL yw).toArray))] ?_
 refine kX 8 (.bool (!tupEq xw yw)) rfl (fun _ _ ww hA => act_bin hA rfl (by kernel_rfl) (by kernel_rfl) (agg_bin (by kernel_rfl) (run_neq_TUP xw.ip xw.port xw.my yw.ip yw.port yw.my ww))) ?_
 refine kZ ?_
 refine kC (!tupEq xw yw) (fun h6 => ?_) (fun h6 => ?_)
 have hnow := sameL_no hxw hyw (by simpa using h6)
 refine kQ ?_
 refine kES [4] [(4,.v (.bool false))] ?_
 refine kR ?_
 exact ⟨[.bool false],by kernel_rfl,fun w' hb hf => ⟨ret_bool (show (false : Bool) = sameL tupEq a b from by first | exact hnow.symm | exact hallw.symm | exact (sameL_len (by omega)).symm),hb⟩⟩
 have hyew : tupEq xw yw = true := by simpa using h6
 refine kK ?_
 refine kG ?_
 refine kRD 2 [0,1,12,13] [(13,.v (.int .i64 (IntKind.i64.wrap ((kw : Int) + 1))))] ?_
 refine xl_nv [0,1,12,13] [(13,.v (.int .i64 (IntKind.i64.wrap ((kw : Int) + 1))))] [(13,.v (.int .i64 ((kw : Int) + 1)))] (by rw [show (IntKind.i64.wrap ((kw : Int) + 1)) = ((kw : Int) + 1) from wrap_id (by omega) (by omega)]) (by kernel_rfl) ?_
 refine kED [0,1,12,13] [] ?_
 exact ⟨⟨(kw + 1),⟨by omega,same_step hxw hyw hyew HKw⟩⟩,kF 0 0 [0,1,12,13],by show a.length - (kw + 1) < a.length - kw; omega⟩
 have h2p := of_decide_eq_false h2
 have hgew : kw = a.length := by simp at h2; omega
 have hallw := sameL_nil_of hgew hlenw HKw
 refine xw_exit ?_
 refine kQ ?_
 refine kES [4] [(4,.v (.bool true))] ?_
 refine kR ?_
 exact ⟨[.bool true],by kernel_rfl,fun w' hb hf => ⟨ret_bool (show (true : Bool) = sameL tupEq a b from by first | exact hnow.symm | exact hallw.symm | exact (sameL_len (by omega)).symm),hb⟩⟩
theorem ysSameTable_c (a : Tab) (a_connsV : Value) (a_waitingV : Value) (b : Tab) (b_connsV : Value) (b_waitingV : Value) (w : World) (hl_a_connsV : Sl w a_connsV 25 (a.conns.map conR)) (hh_a_connsV : ∀ x ∈ a.conns, Sl w x.2 2 (x.1.r.held.map pceCells)) (hl_a_waitingV : Sl w a_waitingV 3 (a.waiting.map tupCells)) (hl_b_connsV : Sl w b_connsV 25 (b.conns.map conR)) (hh_b_connsV : ∀ x ∈ b.conns, Sl w x.2 2 (x.1.r.held.map pceCells)) (hl_b_waitingV : Sl w b_waitingV 3 (b.waiting.map tupCells))  : Calls Try.prog 16 #[.agg (tabL a a_connsV a_waitingV).toArray, .agg (tabL b b_connsV b_waitingV).toArray] w fun e w' => e = .returned (.bool (sameTable a b)) ∧ Below w.heap.size w w' := by
 obtain ⟨Aac,Cac,hvac⟩ := hl_a_connsV.form
 rw [List.length_map] at hvac; subst hvac
 have hnac := hl_a_connsV.len; rw [List.length_map] at hnac
 have hqac := Sl.capLe hl_a_connsV
 obtain ⟨Aaw,Caw,hvaw⟩ := hl_a_waitingV.form
 rw [List.length_map] at hvaw; subst hvaw
 have hnaw := hl_a_waitingV.len; rw [List.length_map] at hnaw
 have hqaw := Sl.capLe hl_a_waitingV
 obtain ⟨Abc,Cbc,hvbc⟩ := hl_b_connsV.form
 rw [List.length_map] at hvbc; subst hvbc
 have hnbc := hl_b_connsV.len; rw [List.length_map] at hnbc
 have hqbc := Sl.capLe hl_b_connsV
 obtain ⟨Abw,Cbw,hvbw⟩ := hl_b_waitingV.form
 rw [List.length_map] at hvbw; subst hvbw
 have hnbw := hl_b_waitingV.len; rw [List.length_map] at hnbw
 have hqbw := Sl.capLe hl_b_waitingV
 refine x_calls (args := [.agg (tabL a (.slice Aac a.conns.length Cac) (.slice Aaw a.waiting.length Caw)).toArray,.agg (tabL b (.slice Abc b.conns.length Cbc) (.slice Abw b.waiting.length Cbw)).toArray]) (fn := Try.f16) [slF (.slice Aac a.conns.length Cac) 25 (a.conns.map conR),hldF a.conns,slF (.slice Aaw a.waiting.length Caw) 3 (a.waiting.map tupCells),slF (.slice Abc b.conns.length Cbc) 25 (b.conns.map conR),hldF b.conns,slF (.slice Abw b.waiting.length Cbw) 3 (b.waiting.map tupCells)] Try.func16 rfl Try.ntmps16 rfl (by simp only [List.mem_cons,List.not_mem_nil,or_false,forall_eq_or_imp,forall_eq]; exact ⟨⟨rfl,hl_a_connsV⟩,⟨rfl,hh_a_connsV⟩,⟨rfl,hl_a_waitingV⟩,⟨rfl,hl_b_connsV⟩,⟨rfl,hh_b_connsV⟩,⟨rfl,hl_b_waitingV⟩⟩) ?_
 refine kQ ?_
 refine kEF [2,3] ⟨[(2,.p 0 0),(3,.p 1 0)],[⟨33,tabL a (.slice Aac a.conns.length Cac) (.slice Aaw a.waiting.length Caw)⟩,⟨33,tabL b (.slice Abc b.conns.length Cbc) (.slice Abw b.waiting.length Cbw)⟩],[],[slF (.slice Aac a.conns.length Cac) 25 (a.conns.map conR),hldF a.conns,slF (.slice Aaw a.waiting.length Caw) 3 (a.waiting.map tupCells),slF (.slice Abc b.conns.length Cbc) 25 (b.conns.map conR),hldF b.conns,slF (.slice Abw b.waiting.length Cbw) 3 (b.waiting.map tupCells)]⟩ ?_
 refine kS ?_
 refine kQ ?_
 refine kRD 8 [2,3,14] [(14,.v (.bool (((a.conns.length : Nat) : Int) != ((b.conns.length : Nat) : Int))))] ?_
 refine kP 14 (((a.conns.length : Nat) : Int) != ((b.conns.length : Nat) : Int)) (fun h1 => ?_) (fun h1 => ?_)
 have h1p := neT h1
 refine kED [2,3,22] [(22,.v (.bool true))] ?_
 refine kT ?_
 refine kQ ?_
 refine kES [4] [(4,.v (.bool false))] ?_
 refine kR ?_
 exact ⟨[.bool false],by kernel_rfl,fun w' hb hf => ⟨ret_bool (show (false : Bool) = sameTable a b from by first | (unfold sameTable; rw [hno]; rfl) | (unfold sameTable; rw [hnow]; simp) | (unfold sameTable; rw [hall,hallw]; rfl) | (unfold sameTable; rw [sameL_len (a := a.conns) (by omega)]; rfl) | (unfold sameTable; rw [sameL_len (a := a.waiting) (by omega)]; simp)),hb⟩⟩
 have h1p := neF h1
 refine kED [2,3,22] [(22,.v (.bool (((a.waiting.length : Nat) : Int) != ((b.waiting.length : Nat) : Int))))] ?_
 refine kC (((a.waiting.length : Nat) : Int) != ((b.waiting.length : Nat) : Int)) (fun h2 => ?_) (fun h2 => ?_)
 have h2p := neT h2
 refine kQ ?_
 refine kES [4] [(4,.v (.bool false))] ?_
 refine kR ?_
 exact ⟨[.bool false],by kernel_rfl,fun w' hb hf => ⟨ret_bool (show (false : Bool) = sameTable a b from by first | (unfold sameTable; rw [hno]; rfl) | (unfold sameTable; rw [hnow]; simp) | (unfold sameTable; rw [hall,hallw]; rfl) | (unfold sameTable; rw [sameL_len (a := a.conns) (by omega)]; rfl) | (unfold sameTable; rw [sameL_len (a := a.waiting) (by omega)]; simp)),hb⟩⟩
 have h2p := neF h2
 refine kK ?_
 refine kS ?_
 refine kQ ?_
 refine kED [2,3,5] [(5,.v (.int .i64 0))] ?_
 refine xw_block ?_
 have hlen : a.conns.length = b.conns.length := by omega
 refine xw_loopW (α := {x : Nat // (fun (k : Nat) => k ≤ a.conns.length ∧ ∀ (i : Nat) (x y : CV),i < k → a.conns[i]? = some x → b.conns[i]? = some y → sameConn x.1 y.1 = true) x}) (fun x => (fun (k : Nat) => (⟨[(2,.p 0 0),(3,.p 1 0),(5,.v (.int .i64 (k : Int)))],[⟨33,tabL a (.slice Aac a.conns.length Cac) (.slice Aaw a.waiting.length Caw)⟩,⟨33,tabL b (.slice Abc b.conns.length Cbc) (.slice Abw b.waiting.length Cbw)⟩],[],[slF (.slice Aac a.conns.length Cac) 25 (a.conns.map conR),hldF a.conns,slF (.slice Aaw a.waiting.length Caw) 3 (a.waiting.map tupCells),slF (.slice Abc b.conns.length Cbc) 25 (b.conns.map conR),hldF b.conns,slF (.slice Abw b.waiting.length Cbw) 3 (b.waiting.map tupCells)]⟩ : St)) x.1) (fun x => a.conns.length - x.1) ⟨(0),⟨Nat.zero_le _,fun i x y hi => by omega⟩⟩ (kF 2 0 [2,3,5]) ?_
 rintro ⟨k,hk,HK⟩
 try dsimp only
 try dsimp only at hk HK
 refine kS ?_
 refine kQ ?_
 refine kED [2,3,5,27] [(27,.v (.bool (decide ((k : Int) < ((a.conns.length : Nat) : Int)))))] ?_
 refine kC (decide ((k : Int) < ((a.conns.length : Nat) : Int))) (fun h3 => ?_) (fun h3 => ?_)
 have h3p := of_decide_eq_true h3
 have hlt : k < a.conns.length := by simpa using h3
 obtain ⟨x0,hx⟩ : ∃ x,a.conns[k]? = some x := ⟨_,List.getElem?_eq_getElem hlt⟩
 obtain ⟨x,xa,xc,rfl⟩ := cv_form (hh_a_connsV x0 (List.mem_of_getElem? hx))
 obtain ⟨y0,hy⟩ : ∃ y,b.conns[k]? = some y := ⟨_,List.getElem?_eq_getElem (by omega)⟩
 obtain ⟨y,ya,yc,rfl⟩ := cv_form (hh_b_connsV y0 (List.mem_of_getElem? hy))
 refine kK ?_
 refine kS ?_
 refine xw_block ?_
 refine kS ?_
 refine xws_start ?_
 refine xws_row (K := 25) (j := k) [.int .i64 x.t.ip,.int .i64 x.t.port,.int .i64 x.t.my,.int .i64 x.state,.int .i64 x.s.una,.string x.s.data,.int .i64 x.s.sent,.bool x.s.fin,.bool x.s.finSent,.bool x.s.done,.int .i64 x.r.next,.string x.r.data,.slice xa x.r.held.length xc,.int .i64 x.r.fin,.bool x.r.done,.int .i64 x.window,.int .i64 x.most,.int .i64 x.o.mss,.int .i64 x.o.scale,.bool x.o.sack,.bool x.o.stamp,.int .i64 x.o.val,.int .i64 x.o.echo,.int .i64 x.timer,.int .i64 x.tries] (slF (.slice Aac a.conns.length Cac) 25 (a.conns.map conR)) (fun _ _ h => h) (by simp) (fun w h => h) (fun b h => h) (by simp only [List.getElem?_map,hx]; rfl) (fun bq4 offq4 hAq4 => ?_)
 refine xws_row (K := 25) (j := k) [.int .i64 y.t.ip,.int .i64 y.t.port,.int .i64 y.t.my,.int .i64 y.state,.int .i64 y.s.una,.string y.s.data,.int .i64 y.s.sent,.bool y.s.fin,.bool y.s.finSent,.bool y.s.done,.int .i64 y.r.next,.string y.r.data,.slice ya y.r.held.length yc,.int .i64 y.r.fin,.bool y.r.done,.int .i64 y.window,.int .i64 y.most,.int .i64 y.o.mss,.int .i64 y.o.scale,.bool y.o.sack,.bool y.o.stamp,.int .i64 y.o.val,.int .i64 y.o.echo,.int .i64 y.timer,.int .i64 y.tries] (slF (.slice Abc b.conns.length Cbc) 25 (b.conns.map conR)) (fun _ _ h => h) (by simp) (fun w h => h) (fun b h => h) (by simp only [List.getElem?_map,hy]; rfl) (fun bq5 offq5 hAq5 => ?_)
 refine xws_regionE [] (by kernel_rfl) (fun ρ σ hq6 => ?_)
 refine kTD [0,1,2,5,6,7] [37,36,32,31,2,3,5] 6 [(37,.v (.int .i64 (k : Int))),(36,.v (.slice Abc b.conns.length Cbc)),(32,.v (.int .i64 (k : Int))),(31,.v (.slice Aac a.conns.length Cac))] ?_
 refine xe_takeI (kd := .i64) (T := 30) (e := 68) (K := 25) (j := k) (A := Aac) (len := a.conns.length) (cap := Cac) 3 0 _ rfl (by kernel_rfl) (by kernel_rfl) (by kernel_rfl) (fun _ _ h => h) (by kernel_rfl) rfl rfl (by kernel_rfl) (by kernel_rfl) (by kernel_rfl) (by kernel_rfl) hlt hAq4 hq6.1.2 (by kernel_rfl) rfl ?_
 refine kTD [4] [34,37,36,2,3,5] 4 [(34,.v (.agg (conL x (.slice xa x.r.held.length xc)).toArray))] ?_
 refine xe_takeI (kd := .i64) (T := 30) (e := 68) (K := 25) (j := k) (A := Abc) (len := b.conns.length) (cap := Cbc) 8 1 _ rfl (by kernel_rfl) (by kernel_rfl) (by kernel_rfl) (fun _ _ h => h) (by kernel_rfl) rfl rfl (by kernel_rfl) (by kernel_rfl) (by kernel_rfl) (by kernel_rfl) (by omega) hAq5 hq6.2 (by kernel_rfl) rfl ?_
 refine kTD [9] [39,34,2,3,5] 2 [(39,.v (.agg (conL y (.slice ya y.r.held.length yc)).toArray))] ?_
 refine kA [10] ?_
 refine kSC 10 44 [.agg (conL x (.slice xa x.r.held.length xc)).toArray,.agg (conL y (.slice ya y.r.held.length yc)).toArray] (some 40) rfl (xc_b fun ww hf => ysSameConn_c x (.slice xa x.r.held.length xc) y (.slice ya y.r.held.length yc) ww ((hf _ m1) (x,.slice xa x.r.held.length xc) (List.mem_of_getElem? hx)) ((hf _ m4) (y,.slice ya y.r.held.length yc) (List.mem_of_getElem? hy)) ) ?_
 intro _
 refine kTD [11] [41,2,3,5] 0 [(41,.v (.bool (!(sameConn x y))))] ?_
 refine kZ ?_
 refine kC (!(sameConn x y)) (fun h7 => ?_) (fun h7 => ?_)
 have hno := sameL_no (eq := fun x y : CV => sameConn x.1 y.1) hx hy (by simpa using h7)
 refine kQ ?_
 refine kES [4] [(4,.v (.bool false))] ?_
 refine kR ?_
 exact ⟨[.bool false],by kernel_rfl,fun w' hb hf => ⟨ret_bool (show (false : Bool) = sameTable a b from by first | (unfold sameTable; rw [hno]; rfl) | (unfold sameTable; rw [hnow]; simp) | (unfold sameTable; rw [hall,hallw]; rfl) | (unfold sameTable; rw [sameL_len (a := a.conns) (by omega)]; rfl) | (unfold sameTable; rw [sameL_len (a := a.waiting) (by omega)]; simp)),hb⟩⟩
 have hye : sameConn x y = true := by simpa using h7
 refine kK ?_
 refine kG ?_
 refine kRD 3 [2,3,5] [(5,.v (.int .i64 (IntKind.i64.wrap ((k : Int) + 1))))] ?_
 refine xl_nv [2,3,5] [(5,.v (.int .i64 (IntKind.i64.wrap ((k : Int) + 1))))] [(5,.v (.int .i64 ((k : Int) + 1)))] (by rw [show (IntKind.i64.wrap ((k : Int) + 1)) = ((k : Int) + 1) from wrap_id (by omega) (by omega)]) (by kernel_rfl) ?_
 refine kES [2,3,5] [(2,.p 0 0),(3,.p 1 0),(5,.v (.int .i64 ((k : Int) + 1)))] ?_
 exact ⟨⟨(k + 1),⟨by omega,same_step (eq := fun x y : CV => sameConn x.1 y.1) hx hy hye HK⟩⟩,kF 2 0 [2,3,5],by show a.conns.length - (k + 1) < a.conns.length - k; omega⟩
 have h3p := of_decide_eq_false h3
 have hge : k = a.conns.length := by simp at h3; omega
 have hall := sameL_nil_of (eq := fun x y : CV => sameConn x.1 y.1) hge hlen HK
 refine xw_exit ?_
 refine kS ?_
 refine kQ ?_
 refine kED [2,3,6] [(6,.v (.int .i64 0))] ?_
 refine xw_block ?_
 have hlenw : a.waiting.length = b.waiting.length := by omega
 refine xw_loopW (α := {x : Nat // (fun (kw : Nat) => kw ≤ a.waiting.length ∧ ∀ (i : Nat) (x y : Tup),i < kw → a.waiting[i]? = some x → b.waiting[i]? = some y → tupEq x y = true) x}) (fun x => (fun (kw : Nat) => (⟨[(2,.p 0 0),(3,.p 1 0),(6,.v (.int .i64 (kw : Int)))],[⟨33,tabL a (.slice Aac a.conns.length Cac) (.slice Aaw a.waiting.length Caw)⟩,⟨33,tabL b (.slice Abc b.conns.length Cbc) (.slice Abw b.waiting.length Cbw)⟩],[],[slF (.slice Aac a.conns.length Cac) 25 (a.conns.map conR),hldF a.conns,slF (.slice Aaw a.waiting.length Caw) 3 (a.waiting.map tupCells),slF (.slice Abc b.conns.length Cbc) 25 (b.conns.map conR),hldF b.conns,slF (.slice Abw b.waiting.length Cbw) 3 (b.waiting.map tupCells)]⟩ : St)) x.1) (fun x => a.waiting.length - x.1) ⟨(0),⟨Nat.zero_le _,fun i x y hi => by omega⟩⟩ (kF 2 0 [2,3,6]) ?_
 rintro ⟨kw,hkw,HKw⟩
 try dsimp only
 try dsimp only at hkw HKw
 refine kS ?_
 refine kQ ?_
 refine kED [2,3,6,46] [(46,.v (.bool (decide ((kw : Int) < ((a.waiting.length : Nat) : Int)))))] ?_
 refine kC (decide ((kw : Int) < ((a.waiting.length : Nat) : Int))) (fun h8 => ?_) (fun h8 => ?_)
 have h8p := of_decide_eq_true h8
 have hltw : kw < a.waiting.length := by simpa using h8
 obtain ⟨xw,hxw⟩ : ∃ x,a.waiting[kw]? = some x := ⟨_,List.getElem?_eq_getElem hltw⟩
 obtain ⟨yw,hyw⟩ : ∃ y,b.waiting[kw]? = some y := ⟨_,List.getElem?_eq_getElem (by omega)⟩
 refine kK ?_
 refine kS ?_
 refine xw_block ?_
 refine kS ?_
 refine xws_start ?_
 refine xws_row (K := 3) (j := kw) [.int .i64 xw.ip,.int .i64 xw.port,.int .i64 xw.my] (slF (.slice Aaw a.waiting.length Caw) 3 (a.waiting.map tupCells)) (fun _ _ h => h) (by simp) (fun w h => h) (fun b h => h) (by simp only [List.getElem?_map,hxw]; rfl) (fun bq9 offq9 hAq9 => ?_)
 refine xws_row (K := 3) (j := kw) [.int .i64 yw.ip,.int .i64 yw.port,.int .i64 yw.my] (slF (.slice Abw b.waiting.length Cbw) 3 (b.waiting.map tupCells)) (fun _ _ h => h) (by simp) (fun w h => h) (fun b h => h) (by simp only [List.getElem?_map,hyw]; rfl) (fun bq10 offq10 hAq10 => ?_)
 refine xws_regionE [] (by kernel_rfl) (fun ρ σ hq11 => ?_)
 refine kTD [0,1,2,5,6,7] [56,55,51,50,2,3,6] 5 [(56,.v (.int .i64 (kw : Int))),(55,.v (.slice Abw b.waiting.length Cbw)),(51,.v (.int .i64 (kw : Int))),(50,.v (.slice Aaw a.waiting.length Caw))] ?_
 refine xe_takeI (kd := .i64) (T := 31) (e := 35) (K := 3) (j := kw) (A := Aaw) (len := a.waiting.length) (cap := Caw) 3 0 _ rfl (by kernel_rfl) (by kernel_rfl) (by kernel_rfl) (fun _ _ h => h) (by kernel_rfl) rfl rfl (by kernel_rfl) (by kernel_rfl) (by kernel_rfl) (by kernel_rfl) hltw hAq9 hq11.1.2 (by kernel_rfl) rfl ?_
 refine kTD [4] [53,56,55,2,3,6] 3 [(53,.v (.agg (tupL xw).toArray))] ?_
 refine xe_takeI (kd := .i64) (T := 31) (e := 35) (K := 3) (j := kw) (A := Abw) (len := b.waiting.length) (cap := Cbw) 8 1 _ rfl (by kernel_rfl) (by kernel_rfl) (by kernel_rfl) (fun _ _ h => h) (by kernel_rfl) rfl rfl (by kernel_rfl) (by kernel_rfl) (by kernel_rfl) (by kernel_rfl) (by omega) hAq10 hq11.2 (by kernel_rfl) rfl ?_
 refine kTD [9] [58,53,2,3,6] 1 [(58,.v (.agg (tupL yw).toArray))] ?_
 refine kX 10 (.bool (!tupEq xw yw)) rfl (fun _ _ ww hA => act_bin hA rfl (by kernel_rfl) (by kernel_rfl) (agg_bin (by kernel_rfl) (run_neq_TUP xw.ip xw.port xw.my yw.ip yw.port yw.my ww))) ?_
 refine kZ ?_
 refine kC (!tupEq xw yw) (fun h12 => ?_) (fun h12 => ?_)
 have hnow := sameL_no hxw hyw (by simpa using h12)
 refine kQ ?_
 refine kES [4] [(4,.v (.bool false))] ?_
 refine kR ?_
 exact ⟨[.bool false],by kernel_rfl,fun w' hb hf => ⟨ret_bool (show (false : Bool) = sameTable a b from by first | (unfold sameTable; rw [hno]; rfl) | (unfold sameTable; rw [hnow]; simp) | (unfold sameTable; rw [hall,hallw]; rfl) | (unfold sameTable; rw [sameL_len (a := a.conns) (by omega)]; rfl) | (unfold sameTable; rw [sameL_len (a := a.waiting) (by omega)]; simp)),hb⟩⟩
 have hyew : tupEq xw yw = true := by simpa using h12
 refine kK ?_
 refine kG ?_
 refine kRS 3 [2,3,6] [(2,.p 0 0),(3,.p 1 0),(6,.v (.int .i64 (IntKind.i64.wrap ((kw : Int) + 1))))] ?_
 refine xl_eqS (t' := [(2,.p 0 0),(3,.p 1 0),(6,.v (.int .i64 ((kw : Int) + 1)))]) (by rw [show (IntKind.i64.wrap ((kw : Int) + 1)) = ((kw : Int) + 1) from wrap_id (by omega) (by omega)]) ?_
 refine kED [2,3,6] [] ?_
 exact ⟨⟨(kw + 1),⟨by omega,same_step hxw hyw hyew HKw⟩⟩,kF 2 0 [2,3,6],by show a.waiting.length - (kw + 1) < a.waiting.length - kw; omega⟩
 have h8p := of_decide_eq_false h8
 have hgew : kw = a.waiting.length := by simp at h8; omega
 have hallw := sameL_nil_of hgew hlenw HKw
 refine xw_exit ?_
 refine kQ ?_
 refine kES [4] [(4,.v (.bool true))] ?_
 refine kR ?_
 exact ⟨[.bool true],by kernel_rfl,fun w' hb hf => ⟨ret_bool (show (true : Bool) = sameTable a b from by first | (unfold sameTable; rw [hno]; rfl) | (unfold sameTable; rw [hnow]; simp) | (unfold sameTable; rw [hall,hallw]; rfl) | (unfold sameTable; rw [sameL_len (a := a.conns) (by omega)]; rfl) | (unfold sameTable; rw [sameL_len (a := a.waiting) (by omega)]; simp)),hb⟩⟩
theorem yEqualFConn_c (a : List CV) (aV : Value) (b : List CV) (bV : Value) (w : World) (hl_aV : Sl w aV 25 (a.map conR)) (hh_aV : ∀ x ∈ a, Sl w x.2 2 (x.1.r.held.map pceCells)) (hl_bV : Sl w bV 25 (b.map conR)) (hh_bV : ∀ x ∈ b, Sl w x.2 2 (x.1.r.held.map pceCells))  : Calls Try.prog 45 #[aV, bV, .func (.func 46) #[] #[]] w fun e w' => e = .returned (.bool (sameL (fun x y : CV => sameConn x.1 y.1) a b)) ∧ Below w.heap.size w w' := by
 obtain ⟨Aa,Ca,hva⟩ := hl_aV.form
 rw [List.length_map] at hva; subst hva
 have hna := hl_aV.len; rw [List.length_map] at hna
 have hqa := Sl.capLe hl_aV
 obtain ⟨Ab,Cb,hvb⟩ := hl_bV.form
 rw [List.length_map] at hvb; subst hvb
 have hnb := hl_bV.len; rw [List.length_map] at hnb
 have hqb := Sl.capLe hl_bV
 refine x_calls (args := [.slice Aa a.length Ca,.slice Ab b.length Cb,.func (.func 46) #[] #[]]) (fn := Try.f45) [slF (.slice Aa a.length Ca) 25 (a.map conR),hldF a,slF (.slice Ab b.length Cb) 25 (b.map conR),hldF b] Try.func45 rfl Try.ntmps45 rfl (by simp only [List.mem_cons,List.not_mem_nil,or_false,forall_eq_or_imp,forall_eq]; exact ⟨⟨rfl,hl_aV⟩,⟨rfl,hh_aV⟩,⟨rfl,hl_bV⟩,⟨rfl,hh_bV⟩⟩) ?_
 refine kQ ?_
 refine kEF [0,1,2] ⟨[(0,.v (.slice Aa a.length Ca)),(1,.v (.slice Ab b.length Cb)),(2,.v (.func (.func 46) #[] #[]))],[],[],[slF (.slice Aa a.length Ca) 25 (a.map conR),hldF a,slF (.slice Ab b.length Cb) 25 (b.map conR),hldF b]⟩ ?_
 refine kS ?_
 refine kQ ?_
 refine kED [0,1,2,14] [(14,.v (.bool (((a.length : Nat) : Int) != ((b.length : Nat) : Int))))] ?_
 refine kC (((a.length : Nat) : Int) != ((b.length : Nat) : Int)) (fun h1 => ?_) (fun h1 => ?_)
 have h1p := neT h1
 refine kQ ?_
 refine kES [6] [(6,.v (.bool false))] ?_
 refine kR ?_
 exact ⟨[.bool false],by kernel_rfl,fun w' hb hf => ⟨ret_bool (by first | exact hno.symm | exact hall.symm | exact (sameL_len (by omega)).symm),hb⟩⟩
 have h1p := neF h1
 refine kK ?_
 refine kS ?_
 refine kQ ?_
 refine kED [1,2,15,16,17] [(15,.v (.slice Aa a.length Ca)),(16,.v (.int .i64 ((a.length : Nat) : Int))),(17,.v (.int .i64 0))] ?_
 refine xw_block ?_
 have hlen : a.length = b.length := by omega
 refine xw_loopW (α := {x : Nat // (fun (k : Nat) => k ≤ a.length ∧ ∀ (i : Nat) (x y : CV),i < k → a[i]? = some x → b[i]? = some y → sameConn x.1 y.1 = true) x}) (fun x => (fun (k : Nat) => (⟨[(1,.v (.slice Ab b.length Cb)),(2,.v (.func (.func 46) #[] #[])),(15,.v (.slice Aa a.length Ca)),(16,.v (.int .i64 ((a.length : Nat) : Int))),(17,.v (.int .i64 (k : Int)))],[],[],[slF (.slice Aa a.length Ca) 25 (a.map conR),hldF a,slF (.slice Ab b.length Cb) 25 (b.map conR),hldF b]⟩ : St)) x.1) (fun x => a.length - x.1) ⟨(0),⟨Nat.zero_le _,fun i x y hi => by omega⟩⟩ (kF 0 0 [1,2,15,16,17]) ?_
 rintro ⟨k,hk,HK⟩
 try dsimp only
 try dsimp only at hk HK
 refine kQ ?_
 refine kED [1,2,15,16,17,18] [(18,.v (.bool (decide ((k : Int) < ((a.length : Nat) : Int)))))] ?_
 refine kS ?_
 refine kC (decide ((k : Int) < ((a.length : Nat) : Int))) (fun h2 => ?_) (fun h2 => ?_)
 have h2p := of_decide_eq_true h2
 have hlt : k < a.length := by simpa using h2
 obtain ⟨x0,hx⟩ : ∃ x,a[k]? = some x := ⟨_,List.getElem?_eq_getElem hlt⟩
 obtain ⟨x,xa,xc,rfl⟩ := cv_form (hh_aV x0 (List.mem_of_getElem? hx))
 obtain ⟨y0,hy⟩ : ∃ y,b[k]? = some y := ⟨_,List.getElem?_eq_getElem (by omega)⟩
 obtain ⟨y,ya,yc,rfl⟩ := cv_form (hh_bV y0 (List.mem_of_getElem? hy))
 refine kK ?_
 refine kS ?_
 refine xw_block ?_
 refine kQ ?_
 refine xl_indexD (kd := .i64) (T := 30) (e := 68) (K := 25) 1 [1,2,15,16,17,19] [(19,.v (.int .i64 (k : Int)))] k [.int .i64 x.t.ip,.int .i64 x.t.port,.int .i64 x.t.my,.int .i64 x.state,.int .i64 x.s.una,.string x.s.data,.int .i64 x.s.sent,.bool x.s.fin,.bool x.s.finSent,.bool x.s.done,.int .i64 x.r.next,.string x.r.data,.slice xa x.r.held.length xc,.int .i64 x.r.fin,.bool x.r.done,.int .i64 x.window,.int .i64 x.most,.int .i64 x.o.mss,.int .i64 x.o.scale,.bool x.o.sack,.bool x.o.stamp,.int .i64 x.o.val,.int .i64 x.o.echo,.int .i64 x.timer,.int .i64 x.tries] (slF (.slice Aa a.length Ca) 25 (a.map conR)) (by kernel_rfl) rfl (by kernel_rfl) rfl rfl (by kernel_rfl) (by kernel_rfl) (by kernel_rfl) (by kernel_rfl) hlt (by simp) (fun w h => h) (fun b h => h) (by simp only [List.getElem?_map,hx]; rfl) ?_
 refine kEA [1,2,7,8,15,16,17] [(7,.v (.int .i64 (k : Int))),(8,.p 0 0)] [⟨68,conL x (.slice xa x.r.held.length xc)⟩] ?_
 refine kQ ?_
 refine xl_indexD (kd := .i64) (T := 30) (e := 68) (K := 25) 2 [1,2,8,15,16,17,22,23] [(22,.v (.slice Ab b.length Cb)),(23,.v (.int .i64 (k : Int)))] k [.int .i64 y.t.ip,.int .i64 y.t.port,.int .i64 y.t.my,.int .i64 y.state,.int .i64 y.s.una,.string y.s.data,.int .i64 y.s.sent,.bool y.s.fin,.bool y.s.finSent,.bool y.s.done,.int .i64 y.r.next,.string y.r.data,.slice ya y.r.held.length yc,.int .i64 y.r.fin,.bool y.r.done,.int .i64 y.window,.int .i64 y.most,.int .i64 y.o.mss,.int .i64 y.o.scale,.bool y.o.sack,.bool y.o.stamp,.int .i64 y.o.val,.int .i64 y.o.echo,.int .i64 y.timer,.int .i64 y.tries] (slF (.slice Ab b.length Cb) 25 (b.map conR)) (by kernel_rfl) rfl (by kernel_rfl) rfl rfl (by kernel_rfl) (by kernel_rfl) (by kernel_rfl) (by kernel_rfl) (by omega) (by simp) (fun w h => h) (fun b h => h) (by simp only [List.getElem?_map,hy]; rfl) ?_
 refine kEA [1,2,8,9,15,16,17] [(9,.p 1 0)] [⟨68,conL y (.slice ya y.r.held.length yc)⟩] ?_
 refine kQ ?_
 refine kCD 3 [1,2,15,16,17,26,27,28] [(26,.v (.func (.func 46) #[] #[])),(27,.v (.agg (conL x (.slice xa x.r.held.length xc)).toArray)),(28,.v (.agg (conL y (.slice ya y.r.held.length yc)).toArray))] 46 [.agg (conL x (.slice xa x.r.held.length xc)).toArray,.agg (conL y (.slice ya y.r.held.length yc)).toArray] (some 29) rfl (xc_b fun ww hf => yiSameConn_c x (.slice xa x.r.held.length xc) y (.slice ya y.r.held.length yc) ww ((hf _ m1) (x,.slice xa x.r.held.length xc) (List.mem_of_getElem? hx)) ((hf _ m3) (y,.slice ya y.r.held.length yc) (List.mem_of_getElem? hy)) ) ?_
 intro _
 refine kED [1,2,15,16,17,30] [(30,.v (.bool (!(sameConn x y))))] ?_
 refine kC (!(sameConn x y)) (fun h3 => ?_) (fun h3 => ?_)
 have hno := sameL_no (eq := fun x y : CV => sameConn x.1 y.1) hx hy (by simpa using h3)
 refine kQ ?_
 refine kES [6] [(6,.v (.bool false))] ?_
 refine kR ?_
 exact ⟨[.bool false],by kernel_rfl,fun w' hb hf => ⟨ret_bool (by first | exact hno.symm | exact hall.symm | exact (sameL_len (by omega)).symm),hb⟩⟩
 have hye : sameConn x y = true := by simpa using h3
 refine kK ?_
 refine kG ?_
 refine kRS 2 [1,2,15,16,17] [(1,.v (.slice Ab b.length Cb)),(2,.v (.func (.func 46) #[] #[])),(15,.v (.slice Aa a.length Ca)),(16,.v (.int .i64 ((a.length : Nat) : Int))),(17,.v (.int .i64 (IntKind.i64.wrap ((k : Int) + 1))))] ?_
 refine xl_eqS (t' := [(1,.v (.slice Ab b.length Cb)),(2,.v (.func (.func 46) #[] #[])),(15,.v (.slice Aa a.length Ca)),(16,.v (.int .i64 ((a.length : Nat) : Int))),(17,.v (.int .i64 ((k : Int) + 1)))]) (by rw [show (IntKind.i64.wrap ((k : Int) + 1)) = ((k : Int) + 1) from wrap_id (by omega) (by omega)]) ?_
 refine kED [1,2,15,16,17] [] ?_
 exact ⟨⟨(k + 1),⟨by omega,same_step (eq := fun x y : CV => sameConn x.1 y.1) hx hy hye HK⟩⟩,kF 0 0 [1,2,15,16,17],by show a.length - (k + 1) < a.length - k; omega⟩
 have h2p := of_decide_eq_false h2
 have hge : k = a.length := by simp at h2; omega
 have hall := sameL_nil_of (eq := fun x y : CV => sameConn x.1 y.1) hge hlen HK
 refine xw_exit ?_
 refine kQ ?_
 refine kES [6] [(6,.v (.bool true))] ?_
 refine kR ?_
 exact ⟨[.bool true],by kernel_rfl,fun w' hb hf => ⟨ret_bool (by first | exact hno.symm | exact hall.symm | exact (sameL_len (by omega)).symm),hb⟩⟩
theorem yiSameTable_c (a : Tab) (a_connsV : Value) (a_waitingV : Value) (b : Tab) (b_connsV : Value) (b_waitingV : Value) (w : World) (hl_a_connsV : Sl w a_connsV 25 (a.conns.map conR)) (hh_a_connsV : ∀ x ∈ a.conns, Sl w x.2 2 (x.1.r.held.map pceCells)) (hl_a_waitingV : Sl w a_waitingV 3 (a.waiting.map tupCells)) (hl_b_connsV : Sl w b_connsV 25 (b.conns.map conR)) (hh_b_connsV : ∀ x ∈ b.conns, Sl w x.2 2 (x.1.r.held.map pceCells)) (hl_b_waitingV : Sl w b_waitingV 3 (b.waiting.map tupCells))  : Calls Try.prog 17 #[.agg (tabL a a_connsV a_waitingV).toArray, .agg (tabL b b_connsV b_waitingV).toArray] w fun e w' => e = .returned (.bool (sameTable a b)) ∧ Below w.heap.size w w' := by
 obtain ⟨Aac,Cac,hvac⟩ := hl_a_connsV.form
 rw [List.length_map] at hvac; subst hvac
 have hnac := hl_a_connsV.len; rw [List.length_map] at hnac
 have hqac := Sl.capLe hl_a_connsV
 obtain ⟨Aaw,Caw,hvaw⟩ := hl_a_waitingV.form
 rw [List.length_map] at hvaw; subst hvaw
 have hnaw := hl_a_waitingV.len; rw [List.length_map] at hnaw
 have hqaw := Sl.capLe hl_a_waitingV
 obtain ⟨Abc,Cbc,hvbc⟩ := hl_b_connsV.form
 rw [List.length_map] at hvbc; subst hvbc
 have hnbc := hl_b_connsV.len; rw [List.length_map] at hnbc
 have hqbc := Sl.capLe hl_b_connsV
 obtain ⟨Abw,Cbw,hvbw⟩ := hl_b_waitingV.form
 rw [List.length_map] at hvbw; subst hvbw
 have hnbw := hl_b_waitingV.len; rw [List.length_map] at hnbw
 have hqbw := Sl.capLe hl_b_waitingV
 refine x_calls (args := [.agg (tabL a (.slice Aac a.conns.length Cac) (.slice Aaw a.waiting.length Caw)).toArray,.agg (tabL b (.slice Abc b.conns.length Cbc) (.slice Abw b.waiting.length Cbw)).toArray]) (fn := Try.f17) [slF (.slice Aac a.conns.length Cac) 25 (a.conns.map conR),hldF a.conns,slF (.slice Aaw a.waiting.length Caw) 3 (a.waiting.map tupCells),slF (.slice Abc b.conns.length Cbc) 25 (b.conns.map conR),hldF b.conns,slF (.slice Abw b.waiting.length Cbw) 3 (b.waiting.map tupCells)] Try.func17 rfl Try.ntmps17 rfl (by simp only [List.mem_cons,List.not_mem_nil,or_false,forall_eq_or_imp,forall_eq]; exact ⟨⟨rfl,hl_a_connsV⟩,⟨rfl,hh_a_connsV⟩,⟨rfl,hl_a_waitingV⟩,⟨rfl,hl_b_connsV⟩,⟨rfl,hh_b_connsV⟩,⟨rfl,hl_b_waitingV⟩⟩) ?_
 refine kQ ?_
 refine kEF [2,3] ⟨[(2,.p 0 0),(3,.p 1 0)],[⟨33,tabL a (.slice Aac a.conns.length Cac) (.slice Aaw a.waiting.length Caw)⟩,⟨33,tabL b (.slice Abc b.conns.length Cbc) (.slice Abw b.waiting.length Cbw)⟩],[],[slF (.slice Aac a.conns.length Cac) 25 (a.conns.map conR),hldF a.conns,slF (.slice Aaw a.waiting.length Caw) 3 (a.waiting.map tupCells),slF (.slice Abc b.conns.length Cbc) 25 (b.conns.map conR),hldF b.conns,slF (.slice Abw b.waiting.length Cbw) 3 (b.waiting.map tupCells)]⟩ ?_
 refine kS ?_
 refine xw_join ⟨[(4,.v (.bool ((sameL (fun x y : CV => sameConn x.1 y.1) a.conns b.conns) && (sameL tupEq a.waiting b.waiting))))],[⟨33,tabL a (.slice Aac a.conns.length Cac) (.slice Aaw a.waiting.length Caw)⟩,⟨33,tabL b (.slice Abc b.conns.length Cbc) (.slice Abw b.waiting.length Cbw)⟩],[],[slF (.slice Aac a.conns.length Cac) 25 (a.conns.map conR),hldF a.conns,slF (.slice Aaw a.waiting.length Caw) 3 (a.waiting.map tupCells),slF (.slice Abc b.conns.length Cbc) 25 (b.conns.map conR),hldF b.conns,slF (.slice Abw b.waiting.length Cbw) 3 (b.waiting.map tupCells)]⟩ ?_ ?_
 refine kG ?_
 refine kCS 4 [2,3,6,8] [(2,.p 0 0),(3,.p 1 0),(6,.v (.slice Aac a.conns.length Cac)),(8,.v (.slice Abc b.conns.length Cbc))] 45 [.slice Aac a.conns.length Cac,.slice Abc b.conns.length Cbc,.func (.func 46) #[] #[]] (some 9) rfl (xc_b fun ww hf => yEqualFConn_c a.conns (.slice Aac a.conns.length Cac) b.conns (.slice Abc b.conns.length Cbc) ww (hf _ m0) (hf _ m1) (hf _ m3) (hf _ m4)) ?_
 intro _
 refine kRS 1 [2,3,10] [(2,.p 0 0),(3,.p 1 0),(10,.v (.bool (sameL (fun x y : CV => sameConn x.1 y.1) a.conns b.conns)))] ?_
 refine kP 10 (sameL (fun x y : CV => sameConn x.1 y.1) a.conns b.conns) (fun h1 => ?_) (fun h1 => ?_)
 refine kCS 4 [10,12,14] [(10,.v (.bool true)),(12,.v (.slice Aaw a.waiting.length Caw)),(14,.v (.slice Abw b.waiting.length Cbw))] 47 [.slice Aaw a.waiting.length Caw,.slice Abw b.waiting.length Cbw] (some 15) rfl (xc_b fun ww hf => yEqualTuple_c a.waiting (.slice Aaw a.waiting.length Caw) b.waiting (.slice Abw b.waiting.length Cbw) ww (hf _ m2) (hf _ m5) ) ?_
 intro _
 refine kES [4] [(4,.v (.bool (sameL tupEq a.waiting b.waiting)))] ?_
 show Wk _ _
 try rw [h1]
 exact kF 2 0 [4]
 refine kES [4] [(4,.v (.bool false))] ?_
 show Wk _ _
 try rw [h1]
 exact kF 2 0 [4]
 refine kR ?_
 exact ⟨[.bool ((sameL (fun x y : CV => sameConn x.1 y.1) a.conns b.conns) && (sameL tupEq a.waiting b.waiting))],by kernel_rfl,fun w' hb hf => ⟨ret_bool (show ((sameL (fun x y : CV => sameConn x.1 y.1) a.conns b.conns) && (sameL tupEq a.waiting b.waiting) : Bool) = sameTable a b from by first | rfl | (simp [sameTable, *]; done)),hb⟩⟩
theorem yszConnS_c (a : List CV) (aV : Value) (left : Int) (w : World) (hl_aV : Sl w aV 25 (a.map conR)) (hh_aV : ∀ x ∈ a, Sl w x.2 2 (x.1.r.held.map pceCells)) (h0 : 0 ≤ left) (h1 : left ≤ 1048576) (hm : ∀ x ∈ a, conMax x.1) : Calls Try.prog 36 #[aV, .int .i64 left] w fun e w' => ∃ r : Int, e = .returned (.int .i64 r) ∧ szP left r a ∧ Below w.heap.size w w' := by
 obtain ⟨Aa,Ca,hva⟩ := hl_aV.form
 rw [List.length_map] at hva; subst hva
 have hna := hl_aV.len; rw [List.length_map] at hna
 have hqa := Sl.capLe hl_aV
 refine x_calls (args := [.slice Aa a.length Ca,.int .i64 left]) (fn := Try.f36) [slF (.slice Aa a.length Ca) 25 (a.map conR),hldF a] Try.func36 rfl Try.ntmps36 rfl (by simp only [List.mem_cons,List.not_mem_nil,or_false,forall_eq_or_imp,forall_eq]; exact ⟨⟨rfl,hl_aV⟩,⟨rfl,hh_aV⟩⟩) ?_
 refine kQ ?_
 refine kEF [0,1] ⟨[(0,.v (.slice Aa a.length Ca)),(1,.v (.int .i64 left))],[],[],[slF (.slice Aa a.length Ca) 25 (a.map conR),hldF a]⟩ ?_
 refine kQ ?_
 refine kRD 5 [0,1] [(1,.v (.int .i64 (IntKind.i64.wrap (left - ((a.length : Nat) : Int)))))] ?_
 refine xl_nv [0,1] [(1,.v (.int .i64 (IntKind.i64.wrap (left - ((a.length : Nat) : Int)))))] [(1,.v (.int .i64 (left - ((a.length : Nat) : Int))))] (by rw [show (IntKind.i64.wrap (left - ((a.length : Nat) : Int))) = (left - ((a.length : Nat) : Int)) from wrap_id (by omega) (by omega)]) (by kernel_rfl) ?_
 refine kED [0,1] [] ?_
 refine kS ?_
 refine kQ ?_
 refine kED [0,1,11] [(11,.v (.bool (decide ((left - ((a.length : Nat) : Int)) < 0))))] ?_
 refine kC (decide ((left - ((a.length : Nat) : Int)) < 0)) (fun h1 => ?_) (fun h1 => ?_)
 have h1p := of_decide_eq_true h1
 refine kQ ?_
 refine kES [4] [(4,.v (.int .i64 (-1)))] ?_
 refine kR ?_
 exact ⟨[.int .i64 (-1)],by kernel_rfl,fun w' hb hf => ⟨_,rfl,.inl rfl,hb⟩⟩
 have h1p := of_decide_eq_false h1
 refine kK ?_
 refine kS ?_
 refine kQ ?_
 refine kED [0,1,5] [(5,.v (.int .i64 0))] ?_
 refine xw_block ?_
 refine xw_loopW (α := {x : Nat × Int // (fun (i : Nat) (z : Int) => i ≤ a.length ∧ 0 ≤ z ∧ z ≤ left - (a.length : Int) ∧ ∀ (j : Nat) (x : CV),j < i → a[j]? = some x → ConFit left x.1) x.1 x.2}) (fun x => (fun (i : Nat) (z : Int) => (⟨[(0,.v (.slice Aa a.length Ca)),(1,.v (.int .i64 z)),(5,.v (.int .i64 (i : Int)))],[],[],[slF (.slice Aa a.length Ca) 25 (a.map conR),hldF a]⟩ : St)) x.1.1 x.1.2) (fun x => (fun (i : Nat) (z : Int) => a.length - i) x.1.1 x.1.2) ⟨(0,left - ((a.length : Nat) : Int)),⟨Nat.zero_le _,(by first | omega | (simp at *; omega)),(by omega),(fun j x hj => by omega)⟩⟩ (kF 0 0 [0,1,5]) ?_
 rintro ⟨⟨i,z⟩,hi,hz0,hz1,HK⟩
 try dsimp only
 try dsimp only at hi hz0 hz1 HK
 refine kS ?_
 refine kQ ?_
 refine kED [0,1,5,15] [(15,.v (.bool (decide ((i : Int) < ((a.length : Nat) : Int)))))] ?_
 refine kC (decide ((i : Int) < ((a.length : Nat) : Int))) (fun h2 => ?_) (fun h2 => ?_)
 have h2p := of_decide_eq_true h2
 have hlt : i < a.length := by simpa using h2
 obtain ⟨x0,hx⟩ : ∃ x,a[i]? = some x := ⟨_,List.getElem?_eq_getElem hlt⟩
 obtain ⟨x,xa,xc,rfl⟩ := cv_form (hh_aV x0 (List.mem_of_getElem? hx))
 have hmx : conMax x := hm _ (List.mem_of_getElem? hx)
 refine kK ?_
 refine kS ?_
 refine xw_block ?_
 refine kQ ?_
 refine xl_indexD (kd := .i64) (T := 22) (e := 59) (K := 25) 2 [0,1,5,18,19] [(18,.v (.slice Aa a.length Ca)),(19,.v (.int .i64 (i : Int)))] i [.int .i64 x.t.ip,.int .i64 x.t.port,.int .i64 x.t.my,.int .i64 x.state,.int .i64 x.s.una,.string x.s.data,.int .i64 x.s.sent,.bool x.s.fin,.bool x.s.finSent,.bool x.s.done,.int .i64 x.r.next,.string x.r.data,.slice xa x.r.held.length xc,.int .i64 x.r.fin,.bool x.r.done,.int .i64 x.window,.int .i64 x.most,.int .i64 x.o.mss,.int .i64 x.o.scale,.bool x.o.sack,.bool x.o.stamp,.int .i64 x.o.val,.int .i64 x.o.echo,.int .i64 x.timer,.int .i64 x.tries] (slF (.slice Aa a.length Ca) 25 (a.map conR)) (by kernel_rfl) rfl (by kernel_rfl) rfl rfl (by kernel_rfl) (by kernel_rfl) (by kernel_rfl) (by kernel_rfl) hlt (by simp) (fun w h => h) (fun b h => h) (by simp only [List.getElem?_map,hx]; rfl) ?_
 refine kCD 2 [0,1,5,21,22] [(21,.v (.agg (conL x (.slice xa x.r.held.length xc)).toArray)),(22,.v (.int .i64 z))] 26 [.agg (conL x (.slice xa x.r.held.length xc)).toArray,.int .i64 z] (some 23) rfl (xc_e (α := Int) (F := fun y => .int .i64 y) (p := fun r => r = -1 ∨ (0 ≤ r ∧ r ≤ z ∧ ConFit z x)) fun ww hf => szConn_c x.t.ip x.t.port x.t.my x.state x.s.una x.s.data x.s.sent x.s.fin x.s.finSent x.s.done x.r.next x.r.data x.r.held (.slice xa x.r.held.length xc) x.r.fin x.r.done x.window x.most x.o.mss x.o.scale x.o.sack x.o.stamp x.o.val x.o.echo x.timer x.tries z ww ((hf _ m1) (x,.slice xa x.r.held.length xc) (List.mem_of_getElem? hx)) hmx.2.2 (by omega) (by omega) hmx.2.1 hmx.1) ?_
 rintro ⟨r3,hr3⟩
 refine kED [0,1,5] [(1,.v (.int .i64 r3))] ?_
 refine kQ ?_
 refine kED [0,1,5,25] [(25,.v (.bool (decide (r3 < 0))))] ?_
 refine kC (decide (r3 < 0)) (fun h4 => ?_) (fun h4 => ?_)
 have h4p := of_decide_eq_true h4
 refine kQ ?_
 refine kES [4] [(4,.v (.int .i64 (-1)))] ?_
 refine kR ?_
 exact ⟨[.int .i64 (-1)],by kernel_rfl,fun w' hb hf => ⟨_,rfl,.inl rfl,hb⟩⟩
 have h4p := of_decide_eq_false h4
 rcases hr3 with hr3 | ⟨hr3a,hr3b,hr3c⟩
 · omega
 refine kK ?_
 refine kG ?_
 refine kRS 3 [0,1,5] [(0,.v (.slice Aa a.length Ca)),(1,.v (.int .i64 r3)),(5,.v (.int .i64 (IntKind.i64.wrap ((i : Int) + 1))))] ?_
 refine xl_eqS (t' := [(0,.v (.slice Aa a.length Ca)),(1,.v (.int .i64 r3)),(5,.v (.int .i64 ((i : Int) + 1)))]) (by rw [show (IntKind.i64.wrap ((i : Int) + 1)) = ((i : Int) + 1) from wrap_id (by omega) (by omega)]) ?_
 refine kED [0,1,5] [] ?_
 exact ⟨⟨(i + 1,r3),⟨hlt,by omega,by omega,sz_step hx (hr3c.mono (by omega)) HK⟩⟩,kF 0 0 [0,1,5],by show (fun (i : Nat) (z : Int) => a.length - i) (i + 1) r3 < a.length - i; (dsimp only; omega)⟩
 have h2p := of_decide_eq_false h2
 have hge : i = a.length := by simp at h2; omega
 refine xw_exit ?_
 refine kQ ?_
 refine kES [4] [(4,.v (.int .i64 z))] ?_
 refine kR ?_
 exact ⟨[.int .i64 z],by kernel_rfl,fun w' hb hf => ⟨_,rfl,.inr ⟨by omega,by omega,by omega,sz_all hge HK⟩,hb⟩⟩
theorem yszTable_c (c : List CV) (wt : List Tup) (tc : Value) (tw : Value) (left : Int) (w : World) (hl_tc : Sl w tc 25 (c.map conR)) (hh_tc : ∀ x ∈ c, Sl w x.2 2 (x.1.r.held.map pceCells)) (hl_tw : Sl w tw 3 (wt.map tupCells)) (h0 : 0 ≤ left) (h1 : left ≤ 1048576) (hm : ∀ x ∈ c, conMax x.1) : Calls Try.prog 10 #[.agg #[tc, tw], .int .i64 left] w fun e w' => ∃ r : Int, e = .returned (.int .i64 r) ∧ (r = -1 ∨ (0 ≤ r ∧ r ≤ left ∧ (c.length : Int) ≤ left ∧ (∀ x ∈ c, ConFit left x.1) ∧ (wt.length : Int) ≤ left)) ∧ Below w.heap.size w w' := by
 obtain ⟨ra_tc,rc_tc,hv_tc⟩ := hl_tc.form
 rw [List.length_map] at hv_tc; subst hv_tc
 have hn_tc := hl_tc.len; rw [List.length_map] at hn_tc
 have hq_tc := Sl.capLe hl_tc
 obtain ⟨ra_tw,rc_tw,hv_tw⟩ := hl_tw.form
 rw [List.length_map] at hv_tw; subst hv_tw
 have hn_tw := hl_tw.len; rw [List.length_map] at hn_tw
 have hq_tw := Sl.capLe hl_tw
 refine x_calls (args := [.agg #[.slice ra_tc c.length rc_tc,.slice ra_tw wt.length rc_tw],.int .i64 left]) (fn := Try.f10) [slF (.slice ra_tc c.length rc_tc) 25 (c.map conR),hldF c,slF (.slice ra_tw wt.length rc_tw) 3 (wt.map tupCells)] Try.func10 rfl Try.ntmps10 rfl (by simp only [List.mem_cons,List.not_mem_nil,or_false,forall_eq_or_imp,forall_eq]; exact ⟨⟨rfl,hl_tc⟩,⟨rfl,hh_tc⟩,⟨rfl,hl_tw⟩⟩) ?_
 refine kQ ?_
 refine kEF [1,2] ⟨[(1,.v (.int .i64 left)),(2,.p 0 0)],[⟨25,[.slice ra_tc c.length rc_tc,.slice ra_tw wt.length rc_tw]⟩],[],[slF (.slice ra_tc c.length rc_tc) 25 (c.map conR),hldF c,slF (.slice ra_tw wt.length rc_tw) 3 (wt.map tupCells)]⟩ ?_
 refine kQ ?_
 refine kCD 3 [1,2,6,7] [(6,.v (.slice ra_tc c.length rc_tc)),(7,.v (.int .i64 left))] 36 [.slice ra_tc c.length rc_tc,.int .i64 left] (some 8) rfl (xc_e (α := Int) (F := fun y => .int .i64 y) (p := fun r => szP left r c) fun ww hf => yszConnS_c c (.slice ra_tc c.length rc_tc) left ww (hf _ m0) (hf _ m1) (by omega) (by omega) hm) ?_
 rintro ⟨r1,hr1⟩
 refine kED [1,2] [(1,.v (.int .i64 r1))] ?_
 refine kS ?_
 refine kQ ?_
 refine kED [1,2,10] [(10,.v (.bool (decide (r1 < 0))))] ?_
 refine kC (decide (r1 < 0)) (fun h2 => ?_) (fun h2 => ?_)
 have h2p := of_decide_eq_true h2
 refine kQ ?_
 refine kES [4] [(4,.v (.int .i64 (-1)))] ?_
 refine kR ?_
 exact ⟨[.int .i64 (-1)],by kernel_rfl,fun w' hb hf => ⟨_,rfl,.inl rfl,hb⟩⟩
 have h2p := of_decide_eq_false h2
 rcases hr1 with hr1 | ⟨hr1a,hr1b,hr1n,hr1c⟩
 · omega
 refine kK ?_
 refine kQ ?_
 refine kCD 3 [1,12,13] [(12,.v (.slice ra_tw wt.length rc_tw)),(13,.v (.int .i64 r1))] 37 [.slice ra_tw wt.length rc_tw,.int .i64 r1] (some 14) rfl (xc_s fun ww hf => szTupleS_c (.slice ra_tw wt.length rc_tw) wt r1 ww (hf _ m2) (by omega) (by omega)) ?_
 intro _
 refine kES [1] [(1,.v (.int .i64 (if (r1 : Int) < wt.length then -1 else (r1 : Int) - wt.length)))] ?_
 refine kS ?_
 refine kQ ?_
 refine kED [1,16] [(16,.v (.bool (decide ((if (r1 : Int) < wt.length then -1 else (r1 : Int) - wt.length) < 0))))] ?_
 refine kC (decide ((if (r1 : Int) < wt.length then -1 else (r1 : Int) - wt.length) < 0)) (fun h3 => ?_) (fun h3 => ?_)
 have h3p := of_decide_eq_true h3
 refine kQ ?_
 refine kES [4] [(4,.v (.int .i64 (-1)))] ?_
 refine kR ?_
 exact ⟨[.int .i64 (-1)],by kernel_rfl,fun w' hb hf => ⟨_,rfl,.inl rfl,hb⟩⟩
 have h3p := of_decide_eq_false h3
 have hsz_wt : wt.length ≤ 1048576 := by by_cases hh : (r1 : Int) < (wt.length : Int) <;> simp [hh] at h3; omega
 refine kK ?_
 refine kQ ?_
 refine kES [4] [(4,.v (.int .i64 (if (r1 : Int) < wt.length then -1 else (r1 : Int) - wt.length)))] ?_
 refine kR ?_
 exact ⟨[.int .i64 (if (r1 : Int) < wt.length then -1 else (r1 : Int) - wt.length)],by kernel_rfl,fun w' hb hf => ⟨_,rfl,.inr ⟨by split <;> omega,by split <;> omega,by omega,by assumption,by omega⟩,hb⟩⟩
theorem ytoConnS_c (a : List CV) (aV : Value) (w : World) (hl_aV : Sl w aV 25 (a.map conR)) (hh_aV : ∀ x ∈ a, Sl w x.2 2 (x.1.r.held.map pceCells)) (hfit : ∀ x ∈ a, conFit x.1) (hln : a.length ≤ 1048576) (B : Nat) (hB : B ≤ w.heap.size) : Calls Try.prog 38 #[aV] w fun e w' => XRs w w' e (α := {cs : List CV // pl cs = pl a} × (Option Addr × Nat)) (fun y => .slice y.2.1 y.1.1.length y.2.2) (fun y => [rowF B 68 25 (.slice y.2.1 y.1.1.length y.2.2) (y.1.1.map conR), hownF B y.1.1]) := by
 obtain ⟨Aa,Ca,hva⟩ := hl_aV.form
 rw [List.length_map] at hva; subst hva
 have hna := hl_aV.len; rw [List.length_map] at hna
 have hqa := Sl.capLe hl_aV
 refine x_callsA (args := [.slice Aa a.length Ca]) (fn := Try.f38) [slF (.slice Aa a.length Ca) 25 (a.map conR),hldF a] Try.func38 rfl Try.ntmps38 rfl (by simp only [List.mem_cons,List.not_mem_nil,or_false,forall_eq_or_imp,forall_eq]; exact ⟨⟨rfl,hl_aV⟩,⟨rfl,hh_aV⟩⟩) ?_
 refine kQ ?_
 refine kEF [0] ⟨[(0,.v (.slice Aa a.length Ca))],[],[],[slF (.slice Aa a.length Ca) 25 (a.map conR),hldF a]⟩ ?_
 refine kQ ?_
 refine kHD 2 [0,6] [(6,.v (.int .i64 ((a.length : Nat) : Int)))] rfl (hv_make (kl := .i64) (kc := .i64) (e := 68) (K := 25) (bytes := 208) (m := a.length) (z := .agg (conZ).toArray) (rs := (List.replicate a.length ((⟨⟨0,0,0⟩,0,⟨0,(⟨#[]⟩ : ByteArray),0,false,false,false⟩,⟨0,(⟨#[]⟩ : ByteArray),[],0,false⟩,0,0,⟨0,0,false,false,0,0⟩,0,0⟩,.slice none 0 0) : CV)).map conR) rfl (by kernel_rfl) (by kernel_rfl) (by kernel_rfl) (by kernel_rfl) (by (try simp only [List.length_map,List.length_append,List.length_cons,List.length_nil,List.length_take,List.length_drop,maxLen]); omega) (by (try simp only [List.length_map,List.length_append,List.length_cons,List.length_nil,List.length_take,List.length_drop,maxLen]); omega) (by rw [List.map_replicate]; rfl)) ?_
 intro g1
 refine kED [0,3] [(3,.v (.slice (some ⟨g1,0,none⟩) a.length a.length))] ?_
 refine kS ?_
 refine kQ ?_
 refine kED [0,3,4] [(4,.v (.int .i64 0))] ?_
 refine xw_block ?_
 refine xw_free (hownF w.heap.size (List.replicate a.length ((⟨⟨0,0,0⟩,0,⟨0,(⟨#[]⟩ : ByteArray),0,false,false,false⟩,⟨0,(⟨#[]⟩ : ByteArray),[],0,false⟩,0,0,⟨0,0,false,false,0,0⟩,0,0⟩,.slice none 0 0) : CV))) (fun ww _ => hownF_rep ww _ _) (fun b => hownF_repb) ?_
 refine xw_loopW (α := {x : Nat × List CV // (fun (i : Nat) (l : List CV) => i ≤ a.length ∧ l.length = a.length ∧ (pl l).take i = (pl a).take i) x.1 x.2}) (fun x => (fun (i : Nat) (l : List CV) => (⟨[(0,.v (.slice Aa a.length Ca)),(3,.v (.slice (some ⟨g1,0,none⟩) a.length a.length)),(4,.v (.int .i64 (i : Int)))],[],[],[hownF w.heap.size l,rowF w.heap.size 68 25 (.slice (some ⟨g1,0,none⟩) a.length a.length) (l.map conR),slF (.slice Aa a.length Ca) 25 (a.map conR),hldF a]⟩ : St)) x.1.1 x.1.2) (fun x => (fun (i : Nat) (l : List CV) => a.length - i) x.1.1 x.1.2) ⟨(0,(List.replicate a.length ((⟨⟨0,0,0⟩,0,⟨0,(⟨#[]⟩ : ByteArray),0,false,false,false⟩,⟨0,(⟨#[]⟩ : ByteArray),[],0,false⟩,0,0,⟨0,0,false,false,0,0⟩,0,0⟩,.slice none 0 0) : CV))),⟨Nat.zero_le _,List.length_replicate,rfl⟩⟩ (kPk [0,1,2,3] <| kF 0 0 [0,3,4]) ?_
 rintro ⟨⟨i,l⟩,hi,hll,HK⟩
 try dsimp only
 try dsimp only at hi hll HK
 refine kS ?_
 refine kQ ?_
 refine kED [0,3,4,11] [(11,.v (.bool (decide ((i : Int) < ((a.length : Nat) : Int)))))] ?_
 refine kC (decide ((i : Int) < ((a.length : Nat) : Int))) (fun h2 => ?_) (fun h2 => ?_)
 have h2p := of_decide_eq_true h2
 have hlt : i < a.length := by simpa using h2
 obtain ⟨x0,hx⟩ : ∃ x,a[i]? = some x := ⟨_,List.getElem?_eq_getElem hlt⟩
 obtain ⟨x,xa,xc,rfl⟩ := cv_form (hh_aV x0 (List.mem_of_getElem? hx))
 have hft_x : conFit x := hfit _ (List.mem_of_getElem? hx)
 obtain ⟨hfs_x,hfr_x,hfh_x,hfp_x⟩ := hft_x
 obtain ⟨z,hz⟩ : ∃ z,l[i]? = some z := ⟨_,List.getElem?_eq_getElem (by omega)⟩
 refine kK ?_
 refine kS ?_
 refine xw_block ?_
 refine kG ?_
 refine xl_indexD (kd := .i64) (T := 22) (e := 59) (K := 25) 4 [0,3,4,14,15,16,17] [(14,.v (.slice (some ⟨g1,0,none⟩) a.length a.length)),(15,.v (.int .i64 (i : Int))),(16,.v (.slice Aa a.length Ca)),(17,.v (.int .i64 (i : Int)))] i [.int .i64 x.t.ip,.int .i64 x.t.port,.int .i64 x.t.my,.int .i64 x.state,.int .i64 x.s.una,.string x.s.data,.int .i64 x.s.sent,.bool x.s.fin,.bool x.s.finSent,.bool x.s.done,.int .i64 x.r.next,.string x.r.data,.slice xa x.r.held.length xc,.int .i64 x.r.fin,.bool x.r.done,.int .i64 x.window,.int .i64 x.most,.int .i64 x.o.mss,.int .i64 x.o.scale,.bool x.o.sack,.bool x.o.stamp,.int .i64 x.o.val,.int .i64 x.o.echo,.int .i64 x.timer,.int .i64 x.tries] (slF (.slice Aa a.length Ca) 25 (a.map conR)) (by kernel_rfl) rfl (by kernel_rfl) rfl rfl (by kernel_rfl) (by kernel_rfl) (by kernel_rfl) (by kernel_rfl) hlt (by simp) (fun w h => h) (fun b h => h) (by simp only [List.getElem?_map,hx]; rfl) ?_
 refine kCD 1 [0,3,4,14,15,19] [(19,.v (.agg (conL x (.slice xa x.r.held.length xc)).toArray))] 28 [.agg (conL x (.slice xa x.r.held.length xc)).toArray] (some 20) rfl (xc_on (m := x.r.held.length) (F := fun v' => .agg (conL x v').toArray) (List.length_map ..) fun ww hf => toConn_c x.t.ip x.t.port x.t.my x.state x.s.una x.s.data x.s.sent x.s.fin x.s.finSent x.s.done x.r.next x.r.data x.r.held (.slice xa x.r.held.length xc) x.r.fin x.r.done x.window x.most x.o.mss x.o.scale x.o.sack x.o.stamp x.o.val x.o.echo x.timer x.tries ww ((hf _ m3) (x,.slice xa x.r.held.length xc) (List.mem_of_getElem? hx)) (by omega)) ?_
 rintro ⟨v3a,v3c⟩
 refine kOD 0 [0,3,4,14,15,20] [] (.pointer (some ⟨g1,i * 25,none⟩)) rfl (fun _ _ _ ww hr => act_ix (kd := .i64) (T := 30) (e := 68) (K := 25) (g := g1) (N := a.length) (cap := a.length) i rfl hr.1 rfl rfl (by kernel_rfl) (by kernel_rfl) (by kernel_rfl) (by omega) ww) ?_
 refine xl_hs 0 [0,3,4,20,21] ⟨[(0,.v (.slice Aa a.length Ca)),(3,.v (.slice (some ⟨g1,0,none⟩) a.length a.length)),(4,.v (.int .i64 (i : Int))),(20,.v (.agg (conL x (.slice v3a x.r.held.length v3c)).toArray)),(21,.v (.pointer (some ⟨g1,i * 25,none⟩)))],[],[[.int .i64 x.t.ip,.int .i64 x.t.port,.int .i64 x.t.my,.int .i64 x.state,.int .i64 x.s.una,.string x.s.data,.int .i64 x.s.sent,.bool x.s.fin,.bool x.s.finSent,.bool x.s.done,.int .i64 x.r.next,.string x.r.data,.slice xa x.r.held.length xc,.int .i64 x.r.fin,.bool x.r.done,.int .i64 x.window,.int .i64 x.most,.int .i64 x.o.mss,.int .i64 x.o.scale,.bool x.o.sack,.bool x.o.stamp,.int .i64 x.o.val,.int .i64 x.o.echo,.int .i64 x.timer,.int .i64 x.tries]],[ownF w.heap.size (.slice v3a x.r.held.length v3c) 2 (x.r.held.map pceCells),hownF w.heap.size l,rowF w.heap.size 68 25 (.slice (some ⟨g1,0,none⟩) a.length a.length) (l.map conR),slF (.slice Aa a.length Ca) 25 (a.map conR),hldF a]⟩ (by kernel_rfl) rfl (by kernel_rfl) rfl (by kernel_rfl) (HSg.hs (hs_stR (g := g1) (B := w.heap.size) (e := 68) (K := 25) (N := a.length) (cap := a.length) (rs := (l.map conR)) (rs' := (l.set i (((x,.slice v3a x.r.held.length v3c) : CV))).map conR) (v := (.agg (conL x (.slice v3a x.r.held.length v3c)).toArray)) (i := 2) (off := i * 25) i 0 [.int .i64 z.1.t.ip,.int .i64 z.1.t.port,.int .i64 z.1.t.my,.int .i64 z.1.state,.int .i64 z.1.s.una,.string z.1.s.data,.int .i64 z.1.s.sent,.bool z.1.s.fin,.bool z.1.s.finSent,.bool z.1.s.done,.int .i64 z.1.r.next,.string z.1.r.data,z.2,.int .i64 z.1.r.fin,.bool z.1.r.done,.int .i64 z.1.window,.int .i64 z.1.most,.int .i64 z.1.o.mss,.int .i64 z.1.o.scale,.bool z.1.o.sack,.bool z.1.o.stamp,.int .i64 z.1.o.val,.int .i64 z.1.o.echo,.int .i64 z.1.timer,.int .i64 z.1.tries] (row' := [.int .i64 x.t.ip,.int .i64 x.t.port,.int .i64 x.t.my,.int .i64 x.state,.int .i64 x.s.una,.string x.s.data,.int .i64 x.s.sent,.bool x.s.fin,.bool x.s.finSent,.bool x.s.done,.int .i64 x.r.next,.string x.r.data,.slice v3a x.r.held.length v3c,.int .i64 x.r.fin,.bool x.r.done,.int .i64 x.window,.int .i64 x.most,.int .i64 x.o.mss,.int .i64 x.o.scale,.bool x.o.sack,.bool x.o.stamp,.int .i64 x.o.val,.int .i64 x.o.echo,.int .i64 x.timer,.int .i64 x.tries]) rfl rfl (by kernel_rfl) rfl (by kernel_rfl) (by kernel_rfl) (by kernel_rfl) (by kernel_rfl) (Nat.le_refl _) (by simp only [List.getElem?_map,hz]; rfl) (by kernel_rfl) rfl (by rw [List.map_set]; rfl))) ?_
 refine kED [0,3,4] [] ?_
 refine kG ?_
 refine kRD 3 [0,3,4] [(4,.v (.int .i64 (IntKind.i64.wrap ((i : Int) + 1))))] ?_
 refine xl_nv [0,3,4] [(4,.v (.int .i64 (IntKind.i64.wrap ((i : Int) + 1))))] [(4,.v (.int .i64 ((i : Int) + 1)))] (by rw [show (IntKind.i64.wrap ((i : Int) + 1)) = ((i : Int) + 1) from wrap_id (by omega) (by omega)]) (by kernel_rfl) ?_
 refine kES [0,3,4] [(0,.v (.slice Aa a.length Ca)),(3,.v (.slice (some ⟨g1,0,none⟩) a.length a.length)),(4,.v (.int .i64 ((i : Int) + 1)))] ?_
 exact ⟨⟨(i + 1,(l.set i (((x,.slice v3a x.r.held.length v3c) : CV)))),⟨hlt,(by rw [List.length_set]; exact hll),pl_set (x := (x,_)) HK hx (by omega)⟩⟩,kPk [1,2,0,3,4] <| (wk_turn (fun _ _ _ _ h => hown_set (cs := l) (i := i) (x := (((x,.slice v3a x.r.held.length v3c) : CV))) (by omega) h)).trans <| kF 0 0 [0,3,4],by show (fun (i : Nat) (l : List CV) => a.length - i) (i + 1) (l.set i (((x,.slice v3a x.r.held.length v3c) : CV))) < a.length - i; (dsimp only; omega)⟩
 have h2p := of_decide_eq_false h2
 have hge : i = a.length := by simp at h2; omega
 refine xw_exit ?_
 refine kQ ?_
 refine kES [2] [(2,.v (.slice (some ⟨g1,0,none⟩) a.length a.length))] ?_
 refine kR ?_
 have hmc : pl l = pl a := by subst hge; have h1 := HK; rw [← hll] at h1; unfold pl at h1 ⊢; rw [List.take_of_length_le (by simp)] at h1; rw [h1,List.take_of_length_le (by simp; omega)]
 exact ⟨[.slice (some ⟨g1,0,none⟩) a.length a.length],by kernel_rfl,fun w' hb hf ha => xo2 (⟨l,hmc⟩,(((some ⟨g1,0,none⟩) : Option Addr),l.length)) (by show Value.slice _ _ _ = Value.slice _ _ _; rw [hll]) rfl (pW (by have h := hf (rowF w.heap.size 68 25 (.slice (some ⟨g1,0,none⟩) a.length a.length) (l.map conR)) (by simp); rw [← hll] at h; exact h) hB) (pH (hf (hownF w.heap.size l) (by simp)) hB) (Apart.sub2 ha (i := 1) (j := 0) rfl rfl (by decide) rfl (fun b h => h) (fun b h => hownF_blk h)) hb⟩
theorem ytoTable_c (t : Tab) (t_connsV : Value) (t_waitingV : Value) (w : World) (hl_t_connsV : Sl w t_connsV 25 (t.conns.map conR)) (hh_t_connsV : ∀ x ∈ t.conns, Sl w x.2 2 (x.1.r.held.map pceCells)) (hl_t_waitingV : Sl w t_waitingV 3 (t.waiting.map tupCells)) (hfit : ∀ x ∈ t.conns, conFit x.1) (hln : t.conns.length ≤ 1048576) (hlw : t.waiting.length ≤ 1048576) (B : Nat) (hB : B ≤ w.heap.size) : Calls Try.prog 12 #[.agg (tabL t t_connsV t_waitingV).toArray] w fun e w' => XRs w w' e (α := {cs : List CV // pl cs = pl t.conns} × (Option Addr × Nat) × (Option Addr × Nat)) (fun y => .agg #[.slice y.2.1.1 y.1.1.length y.2.1.2, .slice y.2.2.1 t.waiting.length y.2.2.2]) (fun y => [rowF B 68 25 (.slice y.2.1.1 y.1.1.length y.2.1.2) (y.1.1.map conR), hownF B y.1.1, ownF B (.slice y.2.2.1 t.waiting.length y.2.2.2) 3 (t.waiting.map tupCells)]) := by
 obtain ⟨Atc,Ctc,hvtc⟩ := hl_t_connsV.form
 rw [List.length_map] at hvtc; subst hvtc
 have hntc := hl_t_connsV.len; rw [List.length_map] at hntc
 have hqtc := Sl.capLe hl_t_connsV
 obtain ⟨Atw,Ctw,hvtw⟩ := hl_t_waitingV.form
 rw [List.length_map] at hvtw; subst hvtw
 have hntw := hl_t_waitingV.len; rw [List.length_map] at hntw
 have hqtw := Sl.capLe hl_t_waitingV
 refine x_callsA (args := [.agg (tabL t (.slice Atc t.conns.length Ctc) (.slice Atw t.waiting.length Ctw)).toArray]) (fn := Try.f12) [slF (.slice Atc t.conns.length Ctc) 25 (t.conns.map conR),hldF t.conns,slF (.slice Atw t.waiting.length Ctw) 3 (t.waiting.map tupCells)] Try.func12 rfl Try.ntmps12 rfl (by simp only [List.mem_cons,List.not_mem_nil,or_false,forall_eq_or_imp,forall_eq]; exact ⟨⟨rfl,hl_t_connsV⟩,⟨rfl,hh_t_connsV⟩,⟨rfl,hl_t_waitingV⟩⟩) ?_
 refine kQ ?_
 refine kEF [1,2] ⟨[(1,.p 0 0),(2,.p 1 0)],[⟨25,tabL t (.slice Atc t.conns.length Ctc) (.slice Atw t.waiting.length Ctw)⟩,⟨33,[.slice none 0 0,.slice none 0 0]⟩],[],[slF (.slice Atc t.conns.length Ctc) 25 (t.conns.map conR),hldF t.conns,slF (.slice Atw t.waiting.length Ctw) 3 (t.waiting.map tupCells)]⟩ ?_
 refine kQ ?_
 refine kEA [1,2,3] [(3,.p 2 0)] [⟨33,[.slice none 0 0,.slice none 0 0]⟩] ?_
 refine kQ ?_
 refine kCD 2 [1,2,3,5] [(5,.v (.slice Atc t.conns.length Ctc))] 38 [.slice Atc t.conns.length Ctc] (some 6) rfl (xc_r fun ww hw hf => ytoConnS_c t.conns (.slice Atc t.conns.length Ctc) ww (hf _ m0) (hf _ m1) (by assumption) (by omega) w.heap.size hw) ?_
 rintro ⟨⟨t1l,ht1l⟩,⟨t1a,t1c⟩⟩
 dsimp only
 refine kEU [1,2,3] [] 2 ⟨33,[.slice t1a t1l.length t1c,.slice none 0 0]⟩ ?_
 refine kQ ?_
 refine kCD 2 [2,3,9] [(9,.v (.slice Atw t.waiting.length Ctw))] 39 [.slice Atw t.waiting.length Ctw] (some 10) rfl (xc_on (m := t.waiting.length) (F := fun v' => v') (List.length_map ..) fun ww hf => toTupleS_c (.slice Atw t.waiting.length Ctw) t.waiting ww (hf _ m4) (by omega)) ?_
 rintro ⟨v2a,v2c⟩
 refine kEU [2,3] [] 2 ⟨33,tabL { t with conns := t1l } (.slice t1a t1l.length t1c) (.slice v2a t.waiting.length v2c)⟩ ?_
 refine kQ ?_
 refine kEU [2] [(2,.p 1 0)] 1 ⟨33,tabL { t with conns := t1l } (.slice t1a t1l.length t1c) (.slice v2a t.waiting.length v2c)⟩ ?_
 refine kR ?_
 have hmc : pl t1l = pl t.conns := by assumption
 exact ⟨[.agg (tabL { t with conns := t1l } (.slice t1a t1l.length t1c) (.slice v2a t.waiting.length v2c)).toArray],by kernel_rfl,fun w' hb hf ha => by exact xo3 (⟨t1l,hmc⟩,(t1a,t1c),(v2a,v2c)) rfl rfl (pW (hf _ m1) hB) (pH (hf _ m2) hB) (pO (hf _ m0) hB) (Apart.sub3 ha [1,2,0] rfl (by decide) rfl rfl rfl (by exact fun b h => h) (fun b h => hownF_blk h) (fun b h => h)) hb⟩
theorem yeqConnS_c (a : List CV) (aV : Value) (b : List CV) (bV : Value) (w : World) (hl_aV : Sl w aV 25 (a.map conR)) (hh_aV : ∀ x ∈ a, Sl w x.2 2 (x.1.r.held.map pceCells)) (hl_bV : Sl w bV 25 (b.map conR)) (hh_bV : ∀ x ∈ b, Sl w x.2 2 (x.1.r.held.map pceCells)) (hpl : pl a = pl b) : Calls Try.prog 42 #[aV, bV] w fun e w' => e = .returned (.bool true) ∧ Below w.heap.size w w' := by
 obtain ⟨Aa,Ca,hva⟩ := hl_aV.form
 rw [List.length_map] at hva; subst hva
 have hna := hl_aV.len; rw [List.length_map] at hna
 have hqa := Sl.capLe hl_aV
 obtain ⟨Ab,Cb,hvb⟩ := hl_bV.form
 rw [List.length_map] at hvb; subst hvb
 have hnb := hl_bV.len; rw [List.length_map] at hnb
 have hqb := Sl.capLe hl_bV
 have hlab := pl_len hpl
 refine x_calls (args := [.slice Aa a.length Ca,.slice Ab b.length Cb]) (fn := Try.f42) [slF (.slice Aa a.length Ca) 25 (a.map conR),hldF a,slF (.slice Ab b.length Cb) 25 (b.map conR),hldF b] Try.func42 rfl Try.ntmps42 rfl (by simp only [List.mem_cons,List.not_mem_nil,or_false,forall_eq_or_imp,forall_eq]; exact ⟨⟨rfl,hl_aV⟩,⟨rfl,hh_aV⟩,⟨rfl,hl_bV⟩,⟨rfl,hh_bV⟩⟩) ?_
 refine kQ ?_
 refine kEF [0,1] ⟨[(0,.v (.slice Aa a.length Ca)),(1,.v (.slice Ab b.length Cb))],[],[],[slF (.slice Aa a.length Ca) 25 (a.map conR),hldF a,slF (.slice Ab b.length Cb) 25 (b.map conR),hldF b]⟩ ?_
 refine kS ?_
 refine kQ ?_
 refine kED [0,1,10] [(10,.v (.bool (((a.length : Nat) : Int) != ((b.length : Nat) : Int))))] ?_
 refine kC (((a.length : Nat) : Int) != ((b.length : Nat) : Int)) (fun h1 => ?_) (fun h1 => ?_)
 have h1p := neT h1
 exfalso; simp at h1; omega
 have h1p := neF h1
 refine kK ?_
 refine kS ?_
 refine kQ ?_
 refine kED [0,1,5] [(5,.v (.int .i64 0))] ?_
 refine xw_block ?_
 refine xw_loopW (α := {x : Nat // (fun (i : Nat) => i ≤ a.length) x}) (fun x => (fun (i : Nat) => (⟨[(0,.v (.slice Aa a.length Ca)),(1,.v (.slice Ab b.length Cb)),(5,.v (.int .i64 (i : Int)))],[],[],[slF (.slice Aa a.length Ca) 25 (a.map conR),hldF a,slF (.slice Ab b.length Cb) 25 (b.map conR),hldF b]⟩ : St)) x.1) (fun x => (fun (i : Nat) => a.length - i) x.1) ⟨(0),Nat.zero_le _⟩ (kF 0 0 [0,1,5]) ?_
 rintro ⟨i,hi⟩
 try dsimp only
 try dsimp only at hi
 refine kS ?_
 refine kQ ?_
 refine kED [0,1,5,14] [(14,.v (.bool (decide ((i : Int) < ((a.length : Nat) : Int)))))] ?_
 refine kC (decide ((i : Int) < ((a.length : Nat) : Int))) (fun h2 => ?_) (fun h2 => ?_)
 have h2p := of_decide_eq_true h2
 have hlt : i < a.length := by simpa using h2
 obtain ⟨x0,hx⟩ : ∃ x,a[i]? = some x := ⟨_,List.getElem?_eq_getElem hlt⟩
 obtain ⟨x,xa,xc,rfl⟩ := cv_form (hh_aV x0 (List.mem_of_getElem? hx))
 obtain ⟨u,hu⟩ := pl_get hpl hx
 refine kK ?_
 refine kS ?_
 refine xw_block ?_
 refine kS ?_
 refine xws_start ?_
 refine xws_row (K := 25) (j := i) [.int .i64 x.t.ip,.int .i64 x.t.port,.int .i64 x.t.my,.int .i64 x.state,.int .i64 x.s.una,.string x.s.data,.int .i64 x.s.sent,.bool x.s.fin,.bool x.s.finSent,.bool x.s.done,.int .i64 x.r.next,.string x.r.data,.slice xa x.r.held.length xc,.int .i64 x.r.fin,.bool x.r.done,.int .i64 x.window,.int .i64 x.most,.int .i64 x.o.mss,.int .i64 x.o.scale,.bool x.o.sack,.bool x.o.stamp,.int .i64 x.o.val,.int .i64 x.o.echo,.int .i64 x.timer,.int .i64 x.tries] (slF (.slice Aa a.length Ca) 25 (a.map conR)) (fun _ _ h => h) (by simp) (fun w h => h) (fun b h => h) (by simp only [List.getElem?_map,hx]; rfl) (fun bq3 offq3 hAq3 => ?_)
 refine xws_row (K := 25) (j := i) [.int .i64 x.t.ip,.int .i64 x.t.port,.int .i64 x.t.my,.int .i64 x.state,.int .i64 x.s.una,.string x.s.data,.int .i64 x.s.sent,.bool x.s.fin,.bool x.s.finSent,.bool x.s.done,.int .i64 x.r.next,.string x.r.data,u,.int .i64 x.r.fin,.bool x.r.done,.int .i64 x.window,.int .i64 x.most,.int .i64 x.o.mss,.int .i64 x.o.scale,.bool x.o.sack,.bool x.o.stamp,.int .i64 x.o.val,.int .i64 x.o.echo,.int .i64 x.timer,.int .i64 x.tries] (slF (.slice Ab b.length Cb) 25 (b.map conR)) (fun _ _ h => h) (by simp) (fun w h => h) (fun b h => h) (by simp only [List.getElem?_map,hu]; rfl) (fun bq4 offq4 hAq4 => ?_)
 refine xws_regionE [] (by kernel_rfl) (fun ρ σ hq5 => ?_)
 refine kTD [0,1,4,5] [22,21,18,17,0,1,5] 6 [(22,.v (.int .i64 (i : Int))),(21,.v (.slice Ab b.length Cb)),(18,.v (.int .i64 (i : Int))),(17,.v (.slice Aa a.length Ca))] ?_
 refine xe_takeI (kd := .i64) (T := 30) (e := 68) (K := 25) (j := i) (A := Aa) (len := a.length) (cap := Ca) 2 0 _ rfl (by kernel_rfl) (by kernel_rfl) (by kernel_rfl) (fun _ _ h => h) (by kernel_rfl) rfl rfl (by kernel_rfl) (by kernel_rfl) (by kernel_rfl) (by kernel_rfl) hlt hAq3 hq5.1.2 (by kernel_rfl) rfl ?_
 refine kTD [3] [20,22,21,0,1,5] 4 [(20,.v (.agg (conL x (.slice xa x.r.held.length xc)).toArray))] ?_
 refine xe_takeI (kd := .i64) (T := 30) (e := 68) (K := 25) (j := i) (A := Ab) (len := b.length) (cap := Cb) 6 1 _ rfl (by kernel_rfl) (by kernel_rfl) (by kernel_rfl) (fun _ _ h => h) (by kernel_rfl) rfl rfl (by kernel_rfl) (by kernel_rfl) (by kernel_rfl) (by kernel_rfl) (by omega) hAq4 hq5.2 (by kernel_rfl) rfl ?_
 refine kTD [7] [24,20,0,1,5] 2 [(24,.v (.agg (conL x u).toArray))] ?_
 refine kA [8] ?_
 refine kSC 8 30 [.agg (conL x (.slice xa x.r.held.length xc)).toArray,.agg (conL x u).toArray] (some 25) rfl (xc_b fun ww hf => eqConn_c x.t.ip x.t.port x.t.my x.state x.s.una x.s.data x.s.sent x.s.fin x.s.finSent x.s.done x.r.next x.r.data x.r.held (.slice xa x.r.held.length xc) x.r.fin x.r.done x.window x.most x.o.mss x.o.scale x.o.sack x.o.stamp x.o.val x.o.echo x.timer x.tries u ww ((hf _ m1) (x,.slice xa x.r.held.length xc) (List.mem_of_getElem? hx)) ((hf _ m3) (x,u) (List.mem_of_getElem? hu))) ?_
 intro _
 refine kTD [9] [26,0,1,5] 0 [(26,.v (.bool false))] ?_
 refine kZ ?_
 refine kN ?_
 refine kK ?_
 refine kG ?_
 refine kRD 3 [0,1,5] [(5,.v (.int .i64 (IntKind.i64.wrap ((i : Int) + 1))))] ?_
 refine xl_nv [0,1,5] [(5,.v (.int .i64 (IntKind.i64.wrap ((i : Int) + 1))))] [(5,.v (.int .i64 ((i : Int) + 1)))] (by rw [show (IntKind.i64.wrap ((i : Int) + 1)) = ((i : Int) + 1) from wrap_id (by omega) (by omega)]) (by kernel_rfl) ?_
 refine kED [0,1,5] [] ?_
 exact ⟨⟨(i + 1),hlt⟩,kF 0 0 [0,1,5],by show (fun (i : Nat) => a.length - i) (i + 1) < a.length - i; (dsimp only; omega)⟩
 have h2p := of_decide_eq_false h2
 have hge : i = a.length := by simp at h2; omega
 refine xw_exit ?_
 refine kQ ?_
 refine kES [4] [(4,.v (.bool true))] ?_
 refine kR ?_
 exact ⟨[.bool true],by kernel_rfl,fun w' hb hf => ⟨rfl,hb⟩⟩
theorem yeqTable_c (a : List CV) (wt : List Tup) (pc : Value) (pw : Value) (b : List CV) (qc : Value) (qw : Value) (w : World) (hl_pc : Sl w pc 25 (a.map conR)) (hh_pc : ∀ x ∈ a, Sl w x.2 2 (x.1.r.held.map pceCells)) (hl_pw : Sl w pw 3 (wt.map tupCells)) (hl_qc : Sl w qc 25 (b.map conR)) (hh_qc : ∀ x ∈ b, Sl w x.2 2 (x.1.r.held.map pceCells)) (hl_qw : Sl w qw 3 (wt.map tupCells)) (hpl : pl a = pl b) : Calls Try.prog 15 #[.agg #[pc, pw], .agg #[qc, qw]] w fun e w' => e = .returned (.bool true) ∧ Below w.heap.size w w' := by
 obtain ⟨ra_pc,rc_pc,hv_pc⟩ := hl_pc.form
 rw [List.length_map] at hv_pc; subst hv_pc
 have hn_pc := hl_pc.len; rw [List.length_map] at hn_pc
 have hq_pc := Sl.capLe hl_pc
 obtain ⟨ra_pw,rc_pw,hv_pw⟩ := hl_pw.form
 rw [List.length_map] at hv_pw; subst hv_pw
 have hn_pw := hl_pw.len; rw [List.length_map] at hn_pw
 have hq_pw := Sl.capLe hl_pw
 obtain ⟨ra_qc,rc_qc,hv_qc⟩ := hl_qc.form
 rw [List.length_map] at hv_qc; subst hv_qc
 have hn_qc := hl_qc.len; rw [List.length_map] at hn_qc
 have hq_qc := Sl.capLe hl_qc
 obtain ⟨ra_qw,rc_qw,hv_qw⟩ := hl_qw.form
 rw [List.length_map] at hv_qw; subst hv_qw
 have hn_qw := hl_qw.len; rw [List.length_map] at hn_qw
 have hq_qw := Sl.capLe hl_qw
 refine x_calls (args := [.agg #[.slice ra_pc a.length rc_pc,.slice ra_pw wt.length rc_pw],.agg #[.slice ra_qc b.length rc_qc,.slice ra_qw wt.length rc_qw]]) (fn := Try.f15) [slF (.slice ra_pc a.length rc_pc) 25 (a.map conR),hldF a,slF (.slice ra_pw wt.length rc_pw) 3 (wt.map tupCells),slF (.slice ra_qc b.length rc_qc) 25 (b.map conR),hldF b,slF (.slice ra_qw wt.length rc_qw) 3 (wt.map tupCells)] Try.func15 rfl Try.ntmps15 rfl (by simp only [List.mem_cons,List.not_mem_nil,or_false,forall_eq_or_imp,forall_eq]; exact ⟨⟨rfl,hl_pc⟩,⟨rfl,hh_pc⟩,⟨rfl,hl_pw⟩,⟨rfl,hl_qc⟩,⟨rfl,hh_qc⟩,⟨rfl,hl_qw⟩⟩) ?_
 refine kQ ?_
 refine kEF [2,3] ⟨[(2,.p 0 0),(3,.p 1 0)],[⟨33,[.slice ra_pc a.length rc_pc,.slice ra_pw wt.length rc_pw]⟩,⟨33,[.slice ra_qc b.length rc_qc,.slice ra_qw wt.length rc_qw]⟩],[],[slF (.slice ra_pc a.length rc_pc) 25 (a.map conR),hldF a,slF (.slice ra_pw wt.length rc_pw) 3 (wt.map tupCells),slF (.slice ra_qc b.length rc_qc) 25 (b.map conR),hldF b,slF (.slice ra_qw wt.length rc_qw) 3 (wt.map tupCells)]⟩ ?_
 refine kS ?_
 refine kQ ?_
 refine kCD 4 [2,3,6,8] [(6,.v (.slice ra_pc a.length rc_pc)),(8,.v (.slice ra_qc b.length rc_qc))] 42 [.slice ra_pc a.length rc_pc,.slice ra_qc b.length rc_qc] (some 9) rfl (xc_b fun ww hf => yeqConnS_c a (.slice ra_pc a.length rc_pc) b (.slice ra_qc b.length rc_qc) ww (hf _ m0) (hf _ m1) (hf _ m3) (hf _ m4) (by first | assumption | (simp only [*]; done))) ?_
 intro _
 refine kED [2,3,10] [(10,.v (.bool false))] ?_
 refine kN ?_
 refine kK ?_
 refine kS ?_
 refine kQ ?_
 refine kCS 4 [12,14] [(12,.v (.slice ra_pw wt.length rc_pw)),(14,.v (.slice ra_qw wt.length rc_qw))] 43 [.slice ra_pw wt.length rc_pw,.slice ra_qw wt.length rc_qw] (some 15) rfl (xc_b fun ww hf => eqTupleS_c (.slice ra_pw wt.length rc_pw) (.slice ra_qw wt.length rc_qw) wt ww (hf _ m2) (hf _ m5)) ?_
 intro _
 refine kES [16] [(16,.v (.bool false))] ?_
 refine kN ?_
 refine kK ?_
 refine kQ ?_
 refine kES [4] [(4,.v (.bool true))] ?_
 refine kR ?_
 exact ⟨[.bool true],by kernel_rfl,fun w' hb hf => ⟨rfl,hb⟩⟩
end Go.Proofs.Ytnhpmgcllclhfaa
