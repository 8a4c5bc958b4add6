/- Contracts that this law needs, part 1. -/
import Derived.Test.YtjfamgkkenccdaaYW
import Derived.Test.YtjfamgkkenccdaaA5
import Derived.Test.YtjfamgkkenccdaaD0
import Derived.Test.YtjfamgkkenccdaaXN
import Derived.Test.YtjfamgkkenccdaaE
import Derived.Test.YtjfamgkkenccdaaSPiece
import Derived.Test.YtjfamgkkenccdaaC1
import Derived.Test.YtjfamgkkenccdaaME
import Derived.Test.YtjfamgkkenccdaaXM
import Derived.Test.YtjfamgkkenccdaaMH
import Derived.Test.YtjfamgkkenccdaaH2
import Derived.Test.YtjfamgkkenccdaaSHalf
import Derived.Test.YtjfamgkkenccdaaMF
import Derived.Test.YtjfamgkkenccdaaMG
namespace Go.Proofs.Ytjfamgkkenccdaa
open Go.RowKit
set_option linter.unusedVariables false
set_option linter.unusedSimpArgs false
set_option maxRecDepth 100000

@[simp] theorem inB18_1 : inB 1 1 8 = true := rfl
@[simp] theorem inB18_2 : inB 2 1 8 = true := rfl
@[simp] theorem inB18_3 : inB 3 1 8 = true := rfl
@[simp] theorem inB18_4 : inB 4 1 8 = true := rfl
@[simp] theorem inB18_5 : inB 5 1 8 = true := rfl
@[simp] theorem inB18_6 : inB 6 1 8 = true := rfl
@[simp] theorem inB18_7 : inB 7 1 8 = true := rfl
@[simp] theorem inB18_8 : inB 8 1 8 = true := rfl
theorem ysHalvesOk_c (l : List Hlf) (lV : Value) (w : World) (hl_lV : Sl w lV 13 (l.map hlfCells))  : Calls Try.prog 28 #[lV] w fun e w' => e = .returned (.bool (halvesOk l)) ∧ Below w.heap.size w w' := by
  obtain ⟨Al,Cl,hvl⟩ := hl_lV.form
  rw [List.length_map] at hvl; subst hvl
  have hnl := hl_lV.len; rw [List.length_map] at hnl
  refine x_calls (args := [.slice Al l.length Cl]) (fn := Try.f28) [slF (.slice Al l.length Cl) 13 (l.map hlfCells)] Try.func28 rfl Try.ntmps28 rfl (by simp only [List.mem_cons,List.not_mem_nil,or_false,forall_eq_or_imp,forall_eq]; exact ⟨rfl,hl_lV⟩) ?_
  refine xw_seq ?_
  refine xw_region ?_
  refine xl_end [0] ⟨[(0,.v (.slice Al l.length Cl))],[],[],[slF (.slice Al l.length Cl) 13 (l.map hlfCells)]⟩ (by kernel_rfl) ?_
  refine xw_seq ?_
  refine xw_seq ?_
  refine xw_region ?_
  refine xl_endS [0,3] [(0,.v (.slice Al l.length Cl)),(3,.v (.int .i64 0))] (by kernel_rfl) ?_
  refine xw_block ?_
  refine xw_loopW (α := {x : Nat // (fun (k : Nat) => k ≤ l.length ∧ ∀ (i : Nat) (x : Hlf),i < k → l[i]? = some x → hOne l i x = true) x}) (fun x => (fun (k : Nat) => (⟨[(0,.v (.slice Al l.length Cl)),(3,.v (.int .i64 (k : Int)))],[],[],[slF (.slice Al l.length Cl) 13 (l.map hlfCells)]⟩ : St)) x.1) (fun x => l.length - x.1) ⟨(0),⟨Nat.zero_le _,fun i x hi => by omega⟩⟩ (wk_forget 0 0 [0,3] (by kernel_rfl) (by kernel_rfl) (by kernel_rfl)) ?_
  rintro ⟨k,hk,HK⟩
  refine xw_wk (Wk.of_eq (s' := ⟨[(0,.v (.slice Al l.length Cl)),(3,.v (.int .i64 (k : Int)))],[],[],[slF (.slice Al l.length Cl) 13 (l.map hlfCells)]⟩) rfl) ?_
  try dsimp only at hk HK
  refine xw_seq ?_
  refine xw_seq ?_
  refine xw_region ?_
  refine xl_endS [0,3,8] [(0,.v (.slice Al l.length Cl)),(3,.v (.int .i64 (k : Int))),(8,.v (.bool (decide ((k : Int) < ((l.length : Nat) : Int)))))] (by kernel_rfl) ?_
  refine xw_cond (b := decide ((k : Int) < ((l.length : Nat) : Int))) (by kernel_rfl) (fun h1 => ?_) (fun h1 => ?_)
  have h1p : ((k : Int) < ((l.length : Nat) : Int)) := of_decide_eq_true h1
  have hlt : k < l.length := by simpa using h1
  obtain ⟨x,hx⟩ : ∃ x,l[k]? = some x := ⟨_,List.getElem?_eq_getElem hlt⟩
  have hft := findHalf_pre hx
  have hno := fun h => halvesOk_no hx h
  refine xw_skip ?_
  refine xw_seq ?_
  refine xw_block ?_
  refine xw_seq ?_
  refine xw_region ?_
  refine xl_indexS (kd := .i64) (T := 61) (e := 100) (K := 13) 2 [0,3,11,12] [(0,.v (.slice Al l.length Cl)),(3,.v (.int .i64 (k : Int))),(11,.v (.slice Al l.length Cl)),(12,.v (.int .i64 (k : Int)))] k [.int .i64 x.t.ip,.int .i64 x.t.port,.int .i64 x.t.my,.int .i64 x.iss,.int .i64 x.irs,.int .i64 x.o.mss,.int .i64 x.o.scale,.bool x.o.sack,.bool x.o.stamp,.int .i64 x.o.val,.int .i64 x.o.echo,.int .i64 x.age,.int .i64 x.window] (slF (.slice Al l.length Cl) 13 (l.map hlfCells)) (by kernel_rfl) rfl (by kernel_rfl) rfl rfl (by kernel_rfl) (by kernel_rfl) (by kernel_rfl) (by kernel_rfl) hlt (by simp) (fun w h => h) (fun b h => h) (by simp only [List.getElem?_map,hx]; rfl) ?_
  refine xl_end [0,3,4] ⟨[(0,.v (.slice Al l.length Cl)),(3,.v (.int .i64 (k : Int))),(4,.p 0 0)],[⟨100,hlfL x⟩],[[.int .i64 x.t.ip,.int .i64 x.t.port,.int .i64 x.t.my,.int .i64 x.iss,.int .i64 x.irs,.int .i64 x.o.mss,.int .i64 x.o.scale,.bool x.o.sack,.bool x.o.stamp,.int .i64 x.o.val,.int .i64 x.o.echo,.int .i64 x.age,.int .i64 x.window]],[slF (.slice Al l.length Cl) 13 (l.map hlfCells)]⟩ (by kernel_rfl) ?_
  refine xw_seq ?_
  refine xe_region [] (by kernel_rfl) (fun ρ σ => ?_)
  refine xe_tkS [0,1] [16,0,3,4] 41 [(16,.v (.agg (tupL x.t).toArray)),(0,.v (.slice Al l.length Cl)),(3,.v (.int .i64 (k : Int))),(4,.p 0 0)] (fun _ _ h => h) rfl (by kernel_rfl) ?_
  refine xe_all [2] (by kernel_rfl) (by simp) ?_
  refine xs_call 2 83 [.agg (tupL x.t).toArray] (some 17) rfl (by kernel_rfl) rfl (by kernel_rfl) (xc_b fun ww hf => sTupleOk_c x.t.ip x.t.port x.t.my ww ) ?_
  intro _
  refine xe_tkS [3,4] [19,0,3,4] 38 [(19,.v (.bool (!(tupleOk x.t)))),(0,.v (.slice Al l.length Cl)),(3,.v (.int .i64 (k : Int))),(4,.p 0 0)] (fun _ _ h => h) rfl (by kernel_rfl) ?_
  refine xe_split 19 (b := !(tupleOk x.t)) (by kernel_rfl) (fun h2 => ?_) (fun h2 => ?_)
  have h2n := not_t h2
  refine xe_tkS [5,6,7,8,9,10,11,12,13,14,15,16,17,18,19,20,21,22,23,24,25,26,27,28,29,30,31,32,33,34,35,36,37,38,39,40,41,42] [57,0,3] 0 [(57,.v (.bool true)),(0,.v (.slice Al l.length Cl)),(3,.v (.int .i64 (k : Int)))] (fun _ _ h => h) rfl (by kernel_rfl) ?_
  refine xe_done (by kernel_rfl) ?_
  refine xw_true (by kernel_rfl) ?_
  refine xw_seq ?_
  refine xw_region ?_
  refine xl_endS [2] [(2,.v (.bool false))] (by kernel_rfl) ?_
  refine xw_ret ?_
  exact ⟨[.bool false],by kernel_rfl,fun w' hb hf => ⟨ret_bool (show (false : Bool) = halvesOk l from by first | (exact (hno (by simp only [hOne]; clear HK hno; simp_all)).symm) | (exact hall.symm) | (rw [hall]; symm; simp; omega) | (exact (halvesOk_long (by omega)).symm)),hb⟩⟩
  have h2n := not_f h2
  refine xe_tkS [5,6] [21,20,19,0,3,4] 36 [(21,.v (.int .i64 x.iss)),(20,.p 0 3),(19,.v (.bool false)),(0,.v (.slice Al l.length Cl)),(3,.v (.int .i64 (k : Int))),(4,.p 0 0)] (fun _ _ h => h) rfl (by kernel_rfl) ?_
  refine xe_all [7] (by kernel_rfl) (by simp) ?_
  refine xs_call 7 84 [.int .i64 x.iss,.int .i64 32] (some 22) rfl (by kernel_rfl) rfl (by kernel_rfl) (xc_s fun ww hf => sWordOk32_c x.iss ww) ?_
  intro _
  refine xe_tkS [8,9,10] [25,23,22,21,20,0,3,4] 32 [(25,.v (.bool (!(wordOk x.iss 32)))),(23,.v (.bool (!(wordOk x.iss 32)))),(22,.v (.bool (wordOk x.iss 32))),(21,.v (.int .i64 x.iss)),(20,.p 0 3),(0,.v (.slice Al l.length Cl)),(3,.v (.int .i64 (k : Int))),(4,.p 0 0)] (fun _ _ h => h) rfl (by kernel_rfl) ?_
  refine xe_split 25 (b := !(wordOk x.iss 32)) (by kernel_rfl) (fun h3 => ?_) (fun h3 => ?_)
  have h3n := not_t h3
  refine xe_tkS [11,12,13,14,15,16,17,18,19,20,21,22,23,24,25,26,27,28,29,30,31,32,33,34,35,36,37,38,39,40,41,42] [57,23,22,21,20,0,3] 0 [(57,.v (.bool true)),(23,.v (.bool (!(wordOk x.iss 32)))),(22,.v (.bool (wordOk x.iss 32))),(21,.v (.int .i64 x.iss)),(20,.p 0 3),(0,.v (.slice Al l.length Cl)),(3,.v (.int .i64 (k : Int)))] (fun _ _ h => h) rfl (by kernel_rfl) ?_
  refine xe_done (by kernel_rfl) ?_
  refine xw_true (by kernel_rfl) ?_
  refine xw_seq ?_
  refine xw_region ?_
  refine xl_endS [2] [(2,.v (.bool false))] (by kernel_rfl) ?_
  refine xw_ret ?_
  exact ⟨[.bool false],by kernel_rfl,fun w' hb hf => ⟨ret_bool (show (false : Bool) = halvesOk l from by first | (exact (hno (by simp only [hOne]; clear HK hno; simp_all)).symm) | (exact hall.symm) | (rw [hall]; symm; simp; omega) | (exact (halvesOk_long (by omega)).symm)),hb⟩⟩
  have h3n := not_f h3
  refine xe_tkS [11,12] [27,26,25,23,22,21,20,0,3,4] 30 [(27,.v (.int .i64 x.irs)),(26,.p 0 4),(25,.v (.bool false)),(23,.v (.bool (!(wordOk x.iss 32)))),(22,.v (.bool (wordOk x.iss 32))),(21,.v (.int .i64 x.iss)),(20,.p 0 3),(0,.v (.slice Al l.length Cl)),(3,.v (.int .i64 (k : Int))),(4,.p 0 0)] (fun _ _ h => h) rfl (by kernel_rfl) ?_
  refine xe_all [13] (by kernel_rfl) (by simp) ?_
  refine xs_call 13 84 [.int .i64 x.irs,.int .i64 32] (some 28) rfl (by kernel_rfl) rfl (by kernel_rfl) (xc_s fun ww hf => sWordOk32_c x.irs ww) ?_
  intro _
  refine xe_tkS [14,15,16] [31,29,28,27,26,23,22,21,20,0,3,4] 26 [(31,.v (.bool (!(wordOk x.irs 32)))),(29,.v (.bool (!(wordOk x.irs 32)))),(28,.v (.bool (wordOk x.irs 32))),(27,.v (.int .i64 x.irs)),(26,.p 0 4),(23,.v (.bool (!(wordOk x.iss 32)))),(22,.v (.bool (wordOk x.iss 32))),(21,.v (.int .i64 x.iss)),(20,.p 0 3),(0,.v (.slice Al l.length Cl)),(3,.v (.int .i64 (k : Int))),(4,.p 0 0)] (fun _ _ h => h) rfl (by kernel_rfl) ?_
  refine xe_split 31 (b := !(wordOk x.irs 32)) (by kernel_rfl) (fun h4 => ?_) (fun h4 => ?_)
  have h4n := not_t h4
  refine xe_tkS [17,18,19,20,21,22,23,24,25,26,27,28,29,30,31,32,33,34,35,36,37,38,39,40,41,42] [57,29,28,27,26,23,22,21,20,0,3] 0 [(57,.v (.bool true)),(29,.v (.bool (!(wordOk x.irs 32)))),(28,.v (.bool (wordOk x.irs 32))),(27,.v (.int .i64 x.irs)),(26,.p 0 4),(23,.v (.bool (!(wordOk x.iss 32)))),(22,.v (.bool (wordOk x.iss 32))),(21,.v (.int .i64 x.iss)),(20,.p 0 3),(0,.v (.slice Al l.length Cl)),(3,.v (.int .i64 (k : Int)))] (fun _ _ h => h) rfl (by kernel_rfl) ?_
  refine xe_done (by kernel_rfl) ?_
  refine xw_true (by kernel_rfl) ?_
  refine xw_seq ?_
  refine xw_region ?_
  refine xl_endS [2] [(2,.v (.bool false))] (by kernel_rfl) ?_
  refine xw_ret ?_
  exact ⟨[.bool false],by kernel_rfl,fun w' hb hf => ⟨ret_bool (show (false : Bool) = halvesOk l from by first | (exact (hno (by simp only [hOne]; clear HK hno; simp_all)).symm) | (exact hall.symm) | (rw [hall]; symm; simp; omega) | (exact (halvesOk_long (by omega)).symm)),hb⟩⟩
  have h4n := not_f h4
  refine xe_tkS [17,18] [33,32,31,29,28,27,26,23,22,21,20,0,3,4] 24 [(33,.v (.int .i64 x.window)),(32,.p 0 12),(31,.v (.bool false)),(29,.v (.bool (!(wordOk x.irs 32)))),(28,.v (.bool (wordOk x.irs 32))),(27,.v (.int .i64 x.irs)),(26,.p 0 4),(23,.v (.bool (!(wordOk x.iss 32)))),(22,.v (.bool (wordOk x.iss 32))),(21,.v (.int .i64 x.iss)),(20,.p 0 3),(0,.v (.slice Al l.length Cl)),(3,.v (.int .i64 (k : Int))),(4,.p 0 0)] (fun _ _ h => h) rfl (by kernel_rfl) ?_
  refine xe_all [19] (by kernel_rfl) (by simp) ?_
  refine xs_call 19 84 [.int .i64 x.window,.int .i64 16] (some 34) rfl (by kernel_rfl) rfl (by kernel_rfl) (xc_s fun ww hf => sWordOk16_c x.window ww) ?_
  intro _
  refine xe_tkS [20,21,22] [37,35,34,33,32,29,28,27,26,23,22,21,20,0,3,4] 20 [(37,.v (.bool (!(wordOk x.window 16)))),(35,.v (.bool (!(wordOk x.window 16)))),(34,.v (.bool (wordOk x.window 16))),(33,.v (.int .i64 x.window)),(32,.p 0 12),(29,.v (.bool (!(wordOk x.irs 32)))),(28,.v (.bool (wordOk x.irs 32))),(27,.v (.int .i64 x.irs)),(26,.p 0 4),(23,.v (.bool (!(wordOk x.iss 32)))),(22,.v (.bool (wordOk x.iss 32))),(21,.v (.int .i64 x.iss)),(20,.p 0 3),(0,.v (.slice Al l.length Cl)),(3,.v (.int .i64 (k : Int))),(4,.p 0 0)] (fun _ _ h => h) rfl (by kernel_rfl) ?_
  refine xe_split 37 (b := !(wordOk x.window 16)) (by kernel_rfl) (fun h5 => ?_) (fun h5 => ?_)
  have h5n := not_t h5
  refine xe_tkS [23,24,25,26,27,28,29,30,31,32,33,34,35,36,37,38,39,40,41,42] [57,35,34,33,32,29,28,27,26,23,22,21,20,0,3] 0 [(57,.v (.bool true)),(35,.v (.bool (!(wordOk x.window 16)))),(34,.v (.bool (wordOk x.window 16))),(33,.v (.int .i64 x.window)),(32,.p 0 12),(29,.v (.bool (!(wordOk x.irs 32)))),(28,.v (.bool (wordOk x.irs 32))),(27,.v (.int .i64 x.irs)),(26,.p 0 4),(23,.v (.bool (!(wordOk x.iss 32)))),(22,.v (.bool (wordOk x.iss 32))),(21,.v (.int .i64 x.iss)),(20,.p 0 3),(0,.v (.slice Al l.length Cl)),(3,.v (.int .i64 (k : Int)))] (fun _ _ h => h) rfl (by kernel_rfl) ?_
  refine xe_done (by kernel_rfl) ?_
  refine xw_true (by kernel_rfl) ?_
  refine xw_seq ?_
  refine xw_region ?_
  refine xl_endS [2] [(2,.v (.bool false))] (by kernel_rfl) ?_
  refine xw_ret ?_
  exact ⟨[.bool false],by kernel_rfl,fun w' hb hf => ⟨ret_bool (show (false : Bool) = halvesOk l from by first | (exact (hno (by simp only [hOne]; clear HK hno; simp_all)).symm) | (exact hall.symm) | (rw [hall]; symm; simp; omega) | (exact (halvesOk_long (by omega)).symm)),hb⟩⟩
  have h5n := not_f h5
  have h5nw := wordOk16_bd (by simpa using h5n)
  obtain ⟨h5nw0,h5nw1⟩ := h5nw
  refine xe_tkS [23,24] [39,38,37,35,34,33,32,29,28,27,26,23,22,21,20,0,3,4] 18 [(39,.v (.agg (optL x.o).toArray)),(38,.p 0 5),(37,.v (.bool false)),(35,.v (.bool (!(wordOk x.window 16)))),(34,.v (.bool (wordOk x.window 16))),(33,.v (.int .i64 x.window)),(32,.p 0 12),(29,.v (.bool (!(wordOk x.irs 32)))),(28,.v (.bool (wordOk x.irs 32))),(27,.v (.int .i64 x.irs)),(26,.p 0 4),(23,.v (.bool (!(wordOk x.iss 32)))),(22,.v (.bool (wordOk x.iss 32))),(21,.v (.int .i64 x.iss)),(20,.p 0 3),(0,.v (.slice Al l.length Cl)),(3,.v (.int .i64 (k : Int))),(4,.p 0 0)] (fun _ _ h => h) rfl (by kernel_rfl) ?_
  refine xe_all [25] (by kernel_rfl) (by simp) ?_
  refine xs_call 25 85 [.agg (optL x.o).toArray] (some 40) rfl (by kernel_rfl) rfl (by kernel_rfl) (xc_b fun ww hf => sOptionsOk_c x.o.mss x.o.scale x.o.sack x.o.stamp x.o.val x.o.echo ww ) ?_
  intro _
  refine xe_tkS [26,27,28] [43,41,40,39,38,35,34,33,32,29,28,27,26,23,22,21,20,0,3,4] 14 [(43,.v (.bool (!(optionsOk x.o)))),(41,.v (.bool (!(optionsOk x.o)))),(40,.v (.bool (optionsOk x.o))),(39,.v (.agg (optL x.o).toArray)),(38,.p 0 5),(35,.v (.bool (!(wordOk x.window 16)))),(34,.v (.bool (wordOk x.window 16))),(33,.v (.int .i64 x.window)),(32,.p 0 12),(29,.v (.bool (!(wordOk x.irs 32)))),(28,.v (.bool (wordOk x.irs 32))),(27,.v (.int .i64 x.irs)),(26,.p 0 4),(23,.v (.bool (!(wordOk x.iss 32)))),(22,.v (.bool (wordOk x.iss 32))),(21,.v (.int .i64 x.iss)),(20,.p 0 3),(0,.v (.slice Al l.length Cl)),(3,.v (.int .i64 (k : Int))),(4,.p 0 0)] (fun _ _ h => h) rfl (by kernel_rfl) ?_
  refine xe_split 43 (b := !(optionsOk x.o)) (by kernel_rfl) (fun h6 => ?_) (fun h6 => ?_)
  have h6n := not_t h6
  refine xe_tkS [29,30,31,32,33,34,35,36,37,38,39,40,41,42] [57,41,40,39,38,35,34,33,32,29,28,27,26,23,22,21,20,0,3] 0 [(57,.v (.bool true)),(41,.v (.bool (!(optionsOk x.o)))),(40,.v (.bool (optionsOk x.o))),(39,.v (.agg (optL x.o).toArray)),(38,.p 0 5),(35,.v (.bool (!(wordOk x.window 16)))),(34,.v (.bool (wordOk x.window 16))),(33,.v (.int .i64 x.window)),(32,.p 0 12),(29,.v (.bool (!(wordOk x.irs 32)))),(28,.v (.bool (wordOk x.irs 32))),(27,.v (.int .i64 x.irs)),(26,.p 0 4),(23,.v (.bool (!(wordOk x.iss 32)))),(22,.v (.bool (wordOk x.iss 32))),(21,.v (.int .i64 x.iss)),(20,.p 0 3),(0,.v (.slice Al l.length Cl)),(3,.v (.int .i64 (k : Int)))] (fun _ _ h => h) rfl (by kernel_rfl) ?_
  refine xe_done (by kernel_rfl) ?_
  refine xw_true (by kernel_rfl) ?_
  refine xw_seq ?_
  refine xw_region ?_
  refine xl_endS [2] [(2,.v (.bool false))] (by kernel_rfl) ?_
  refine xw_ret ?_
  exact ⟨[.bool false],by kernel_rfl,fun w' hb hf => ⟨ret_bool (show (false : Bool) = halvesOk l from by first | (exact (hno (by simp only [hOne]; clear HK hno; simp_all)).symm) | (exact hall.symm) | (rw [hall]; symm; simp; omega) | (exact (halvesOk_long (by omega)).symm)),hb⟩⟩
  have h6n := not_f h6
  have h6nw := optionsOk_bd (by simpa using h6n)
  obtain ⟨h6nw0,h6nw1⟩ := h6nw
  refine xe_tkS [29,30] [45,44,43,41,40,39,38,35,34,33,32,29,28,27,26,23,22,21,20,0,3,4] 12 [(45,.v (.int .i64 x.age)),(44,.p 0 11),(43,.v (.bool false)),(41,.v (.bool (!(optionsOk x.o)))),(40,.v (.bool (optionsOk x.o))),(39,.v (.agg (optL x.o).toArray)),(38,.p 0 5),(35,.v (.bool (!(wordOk x.window 16)))),(34,.v (.bool (wordOk x.window 16))),(33,.v (.int .i64 x.window)),(32,.p 0 12),(29,.v (.bool (!(wordOk x.irs 32)))),(28,.v (.bool (wordOk x.irs 32))),(27,.v (.int .i64 x.irs)),(26,.p 0 4),(23,.v (.bool (!(wordOk x.iss 32)))),(22,.v (.bool (wordOk x.iss 32))),(21,.v (.int .i64 x.iss)),(20,.p 0 3),(0,.v (.slice Al l.length Cl)),(3,.v (.int .i64 (k : Int))),(4,.p 0 0)] (fun _ _ h => h) rfl (by kernel_rfl) ?_
  refine xe_all [31] (by kernel_rfl) (by simp) ?_
  refine xs_call 31 86 [.int .i64 x.age,.int .i64 0,.int .i64 6] (some 46) rfl (by kernel_rfl) rfl (by kernel_rfl) (xc_s fun ww hf => l1In_c x.age 0 6 ww ) ?_
  intro _
  refine xe_tkS [32,33,34] [49,47,46,45,44,41,40,39,38,35,34,33,32,29,28,27,26,23,22,21,20,0,3,4] 8 [(49,.v (.bool (!(inB x.age 0 6)))),(47,.v (.bool (!(inB x.age 0 6)))),(46,.v (.bool (inB x.age 0 6))),(45,.v (.int .i64 x.age)),(44,.p 0 11),(41,.v (.bool (!(optionsOk x.o)))),(40,.v (.bool (optionsOk x.o))),(39,.v (.agg (optL x.o).toArray)),(38,.p 0 5),(35,.v (.bool (!(wordOk x.window 16)))),(34,.v (.bool (wordOk x.window 16))),(33,.v (.int .i64 x.window)),(32,.p 0 12),(29,.v (.bool (!(wordOk x.irs 32)))),(28,.v (.bool (wordOk x.irs 32))),(27,.v (.int .i64 x.irs)),(26,.p 0 4),(23,.v (.bool (!(wordOk x.iss 32)))),(22,.v (.bool (wordOk x.iss 32))),(21,.v (.int .i64 x.iss)),(20,.p 0 3),(0,.v (.slice Al l.length Cl)),(3,.v (.int .i64 (k : Int))),(4,.p 0 0)] (fun _ _ h => h) rfl (by kernel_rfl) ?_
  refine xe_split 49 (b := !(inB x.age 0 6)) (by kernel_rfl) (fun h7 => ?_) (fun h7 => ?_)
  have h7n := not_t h7
  have h7ni := inB_ff.1 (show inB x.age 0 6 = false from by simpa using h7n)
  refine xe_tkS [35,36,37,38,39,40,41,42] [57,47,46,45,44,41,40,39,38,35,34,33,32,29,28,27,26,23,22,21,20,0,3] 0 [(57,.v (.bool true)),(47,.v (.bool (!(inB x.age 0 6)))),(46,.v (.bool (inB x.age 0 6))),(45,.v (.int .i64 x.age)),(44,.p 0 11),(41,.v (.bool (!(optionsOk x.o)))),(40,.v (.bool (optionsOk x.o))),(39,.v (.agg (optL x.o).toArray)),(38,.p 0 5),(35,.v (.bool (!(wordOk x.window 16)))),(34,.v (.bool (wordOk x.window 16))),(33,.v (.int .i64 x.window)),(32,.p 0 12),(29,.v (.bool (!(wordOk x.irs 32)))),(28,.v (.bool (wordOk x.irs 32))),(27,.v (.int .i64 x.irs)),(26,.p 0 4),(23,.v (.bool (!(wordOk x.iss 32)))),(22,.v (.bool (wordOk x.iss 32))),(21,.v (.int .i64 x.iss)),(20,.p 0 3),(0,.v (.slice Al l.length Cl)),(3,.v (.int .i64 (k : Int)))] (fun _ _ h => h) rfl (by kernel_rfl) ?_
  refine xe_done (by kernel_rfl) ?_
  refine xw_true (by kernel_rfl) ?_
  refine xw_seq ?_
  refine xw_region ?_
  refine xl_endS [2] [(2,.v (.bool false))] (by kernel_rfl) ?_
  refine xw_ret ?_
  exact ⟨[.bool false],by kernel_rfl,fun w' hb hf => ⟨ret_bool (show (false : Bool) = halvesOk l from by first | (exact (hno (by simp only [hOne]; clear HK hno; simp_all)).symm) | (exact hall.symm) | (rw [hall]; symm; simp; omega) | (exact (halvesOk_long (by omega)).symm)),hb⟩⟩
  have h7n := not_f h7
  have h7ni := inB_tt.1 (show inB x.age 0 6 = true from by simpa using h7n)
  refine xe_tkS [35,36,38,39] [54,53,51,50,49,47,46,45,44,41,40,39,38,35,34,33,32,29,28,27,26,23,22,21,20,0,3] 4 [(54,.v (.agg (tupL x.t).toArray)),(53,.p 0 0),(51,.v (.int .i64 (k : Int))),(50,.v (.slice Al l.length Cl)),(49,.v (.bool false)),(47,.v (.bool (!(inB x.age 0 6)))),(46,.v (.bool (inB x.age 0 6))),(45,.v (.int .i64 x.age)),(44,.p 0 11),(41,.v (.bool (!(optionsOk x.o)))),(40,.v (.bool (optionsOk x.o))),(39,.v (.agg (optL x.o).toArray)),(38,.p 0 5),(35,.v (.bool (!(wordOk x.window 16)))),(34,.v (.bool (wordOk x.window 16))),(33,.v (.int .i64 x.window)),(32,.p 0 12),(29,.v (.bool (!(wordOk x.irs 32)))),(28,.v (.bool (wordOk x.irs 32))),(27,.v (.int .i64 x.irs)),(26,.p 0 4),(23,.v (.bool (!(wordOk x.iss 32)))),(22,.v (.bool (wordOk x.iss 32))),(21,.v (.int .i64 x.iss)),(20,.p 0 3),(0,.v (.slice Al l.length Cl)),(3,.v (.int .i64 (k : Int)))] (fun _ _ h => h) rfl (by kernel_rfl) ?_
  refine xe_all [37] (by kernel_rfl) (by simp) ?_
  refine xs_opR 37 (.slice (if Cl = 0 then Al else Al.map (·.add (0 * 13))) (k - 0) (Cl - 0)) _ rfl (by kernel_rfl) (by kernel_rfl) (fun _ _ ww hr => act_slV0 (e := 100) k hr.1 rfl (by kernel_rfl) (by kernel_rfl) rfl rfl rfl (Nat.le_trans (show k ≤ l.length by omega) (Sl.capLe (hr.2.fact (slF (.slice Al l.length Cl) 13 (l.map hlfCells)) (by simp)).1)) ww) rfl ?_
  refine xe_all [40] (by kernel_rfl) (by simp) ?_
  refine xs_call 40 87 [.slice (if Cl = 0 then Al else Al.map (·.add (0 * 13))) (k - 0) (Cl - 0),.agg (tupL x.t).toArray] (some 55) rfl (by kernel_rfl) rfl (by kernel_rfl) (xc_b fun ww hf => sFindHalf_c (.slice (if Cl = 0 then Al else Al.map (·.add (0 * 13))) (k - 0) (Cl - 0)) ((l.drop 0).take (k - 0)) x.t.ip x.t.port x.t.my ww (Sl.partM (hf (slF (.slice Al l.length Cl) 13 (l.map hlfCells)) (by simp)) 0 k (by omega) (by omega)) ) ?_
  intro _
  refine xe_tkS [41,42] [57,56,55,52,54,53,51,50,47,46,45,44,41,40,39,38,35,34,33,32,29,28,27,26,23,22,21,20,0,3] 0 [(57,.v (.bool (decide ((findHalf ((l.drop 0).take (k - 0)) x.t) ≥ 0)))),(56,.v (.bool (decide ((findHalf ((l.drop 0).take (k - 0)) x.t) ≥ 0)))),(55,.v (.int .i64 (findHalf ((l.drop 0).take (k - 0)) x.t))),(52,.v (.slice (if Cl = 0 then Al else Al.map (·.add (0 * 13))) (k - 0) (Cl - 0))),(54,.v (.agg (tupL x.t).toArray)),(53,.p 0 0),(51,.v (.int .i64 (k : Int))),(50,.v (.slice Al l.length Cl)),(47,.v (.bool (!(inB x.age 0 6)))),(46,.v (.bool (inB x.age 0 6))),(45,.v (.int .i64 x.age)),(44,.p 0 11),(41,.v (.bool (!(optionsOk x.o)))),(40,.v (.bool (optionsOk x.o))),(39,.v (.agg (optL x.o).toArray)),(38,.p 0 5),(35,.v (.bool (!(wordOk x.window 16)))),(34,.v (.bool (wordOk x.window 16))),(33,.v (.int .i64 x.window)),(32,.p 0 12),(29,.v (.bool (!(wordOk x.irs 32)))),(28,.v (.bool (wordOk x.irs 32))),(27,.v (.int .i64 x.irs)),(26,.p 0 4),(23,.v (.bool (!(wordOk x.iss 32)))),(22,.v (.bool (wordOk x.iss 32))),(21,.v (.int .i64 x.iss)),(20,.p 0 3),(0,.v (.slice Al l.length Cl)),(3,.v (.int .i64 (k : Int)))] (fun _ _ h => h) rfl (by kernel_rfl) ?_
  refine xe_done (by kernel_rfl) ?_
  refine xw_cond (b := decide ((findHalf ((l.drop 0).take (k - 0)) x.t) ≥ 0)) (by kernel_rfl) (fun h8 => ?_) (fun h8 => ?_)
  have h8p : ((findHalf ((l.drop 0).take (k - 0)) x.t) ≥ 0) := of_decide_eq_true h8
  refine xw_seq ?_
  refine xw_region ?_
  refine xl_endS [2] [(2,.v (.bool false))] (by kernel_rfl) ?_
  refine xw_ret ?_
  exact ⟨[.bool false],by kernel_rfl,fun w' hb hf => ⟨ret_bool (show (false : Bool) = halvesOk l from by first | (exact (hno (by simp only [hOne]; clear HK hno; simp_all)).symm) | (exact hall.symm) | (rw [hall]; symm; simp; omega) | (exact (halvesOk_long (by omega)).symm)),hb⟩⟩
  have h8p : ¬ ((findHalf ((l.drop 0).take (k - 0)) x.t) ≥ 0) := of_decide_eq_false h8
  refine xw_skip ?_
  refine xw_region ?_
  refine xl_runS 3 [0,3,20,21,22,23,26,27,28,29,32,33,34,35,38,39,40,41,44,45,46,47,50,51,52,53,54,55,56] [(0,.v (.slice Al l.length Cl)),(3,.v (.int .i64 (IntKind.i64.wrap ((k : Int) + 1)))),(20,.p 0 3),(21,.v (.int .i64 x.iss)),(22,.v (.bool (wordOk x.iss 32))),(23,.v (.bool (!(wordOk x.iss 32)))),(26,.p 0 4),(27,.v (.int .i64 x.irs)),(28,.v (.bool (wordOk x.irs 32))),(29,.v (.bool (!(wordOk x.irs 32)))),(32,.p 0 12),(33,.v (.int .i64 x.window)),(34,.v (.bool (wordOk x.window 16))),(35,.v (.bool (!(wordOk x.window 16)))),(38,.p 0 5),(39,.v (.agg (optL x.o).toArray)),(40,.v (.bool (optionsOk x.o))),(41,.v (.bool (!(optionsOk x.o)))),(44,.p 0 11),(45,.v (.int .i64 x.age)),(46,.v (.bool (inB x.age 0 6))),(47,.v (.bool (!(inB x.age 0 6)))),(50,.v (.slice Al l.length Cl)),(51,.v (.int .i64 (k : Int))),(52,.v (.slice (if Cl = 0 then Al else Al.map (·.add (0 * 13))) (k - 0) (Cl - 0))),(53,.p 0 0),(54,.v (.agg (tupL x.t).toArray)),(55,.v (.int .i64 (findHalf ((l.drop 0).take (k - 0)) x.t))),(56,.v (.bool (decide ((findHalf ((l.drop 0).take (k - 0)) x.t) ≥ 0))))] (by kernel_rfl) ?_
  refine xl_eqS (t' := [(0,.v (.slice Al l.length Cl)),(3,.v (.int .i64 ((k : Int) + 1))),(20,.p 0 3),(21,.v (.int .i64 x.iss)),(22,.v (.bool (wordOk x.iss 32))),(23,.v (.bool (!(wordOk x.iss 32)))),(26,.p 0 4),(27,.v (.int .i64 x.irs)),(28,.v (.bool (wordOk x.irs 32))),(29,.v (.bool (!(wordOk x.irs 32)))),(32,.p 0 12),(33,.v (.int .i64 x.window)),(34,.v (.bool (wordOk x.window 16))),(35,.v (.bool (!(wordOk x.window 16)))),(38,.p 0 5),(39,.v (.agg (optL x.o).toArray)),(40,.v (.bool (optionsOk x.o))),(41,.v (.bool (!(optionsOk x.o)))),(44,.p 0 11),(45,.v (.int .i64 x.age)),(46,.v (.bool (inB x.age 0 6))),(47,.v (.bool (!(inB x.age 0 6)))),(50,.v (.slice Al l.length Cl)),(51,.v (.int .i64 (k : Int))),(52,.v (.slice (if Cl = 0 then Al else Al.map (·.add (0 * 13))) (k - 0) (Cl - 0))),(53,.p 0 0),(54,.v (.agg (tupL x.t).toArray)),(55,.v (.int .i64 (findHalf ((l.drop 0).take (k - 0)) x.t))),(56,.v (.bool (decide ((findHalf ((l.drop 0).take (k - 0)) x.t) ≥ 0))))]) (by rw [show (IntKind.i64.wrap ((k : Int) + 1)) = ((k : Int) + 1) from wrap_id (by omega) (by omega)]) ?_
  refine xl_endS [0,3,20,21,22,23,26,27,28,29,32,33,34,35,38,39,40,41,44,45,46,47,50,51,52,53,54,55,56] [(0,.v (.slice Al l.length Cl)),(3,.v (.int .i64 ((k : Int) + 1))),(20,.p 0 3),(21,.v (.int .i64 x.iss)),(22,.v (.bool (wordOk x.iss 32))),(23,.v (.bool (!(wordOk x.iss 32)))),(26,.p 0 4),(27,.v (.int .i64 x.irs)),(28,.v (.bool (wordOk x.irs 32))),(29,.v (.bool (!(wordOk x.irs 32)))),(32,.p 0 12),(33,.v (.int .i64 x.window)),(34,.v (.bool (wordOk x.window 16))),(35,.v (.bool (!(wordOk x.window 16)))),(38,.p 0 5),(39,.v (.agg (optL x.o).toArray)),(40,.v (.bool (optionsOk x.o))),(41,.v (.bool (!(optionsOk x.o)))),(44,.p 0 11),(45,.v (.int .i64 x.age)),(46,.v (.bool (inB x.age 0 6))),(47,.v (.bool (!(inB x.age 0 6)))),(50,.v (.slice Al l.length Cl)),(51,.v (.int .i64 (k : Int))),(52,.v (.slice (if Cl = 0 then Al else Al.map (·.add (0 * 13))) (k - 0) (Cl - 0))),(53,.p 0 0),(54,.v (.agg (tupL x.t).toArray)),(55,.v (.int .i64 (findHalf ((l.drop 0).take (k - 0)) x.t))),(56,.v (.bool (decide ((findHalf ((l.drop 0).take (k - 0)) x.t) ≥ 0))))] (by kernel_rfl) ?_
  exact ⟨⟨(k + 1),⟨by omega,half_step hx (by simp only [hOne]; clear HK; simp_all) HK⟩⟩,wk_forget 0 0 [0,3] (by kernel_rfl) (by kernel_rfl) (by kernel_rfl),by show l.length - (k + 1) < l.length - k; omega⟩
  have h1p : ¬ ((k : Int) < ((l.length : Nat) : Int)) := of_decide_eq_false h1
  have hge : k = l.length := by simp at h1; omega
  have hall := halvesOk_all hge HK
  refine xw_exit ?_
  refine xw_seq ?_
  refine xw_region ?_
  refine xl_endS [2] [(2,.v (.bool (decide (((l.length : Nat) : Int) ≤ 64))))] (by kernel_rfl) ?_
  refine xw_ret ?_
  exact ⟨[.bool (decide (((l.length : Nat) : Int) ≤ 64))],by kernel_rfl,fun w' hb hf => ⟨ret_bool (show (decide (((l.length : Nat) : Int) ≤ 64) : Bool) = halvesOk l from by first | (exact (hno (by simp only [hOne]; clear HK hno; simp_all)).symm) | (exact hall.symm) | (rw [hall]; symm; simp; omega) | (exact (halvesOk_long (by omega)).symm)),hb⟩⟩
theorem yiHalvesOk_c (l : List Hlf) (lV : Value) (w : World) (hl_lV : Sl w lV 13 (l.map hlfCells))  : Calls Try.prog 30 #[lV] w fun e w' => e = .returned (.bool (halvesOk l)) ∧ Below w.heap.size w w' := by
  obtain ⟨Al,Cl,hvl⟩ := hl_lV.form
  rw [List.length_map] at hvl; subst hvl
  have hnl := hl_lV.len; rw [List.length_map] at hnl
  refine x_calls (args := [.slice Al l.length Cl]) (fn := Try.f30) [slF (.slice Al l.length Cl) 13 (l.map hlfCells)] Try.func30 rfl Try.ntmps30 rfl (by simp only [List.mem_cons,List.not_mem_nil,or_false,forall_eq_or_imp,forall_eq]; exact ⟨rfl,hl_lV⟩) ?_
  refine xw_seq ?_
  refine xw_region ?_
  refine xl_end [0] ⟨[(0,.v (.slice Al l.length Cl))],[],[],[slF (.slice Al l.length Cl) 13 (l.map hlfCells)]⟩ (by kernel_rfl) ?_
  refine xw_seq ?_
  refine xw_seq ?_
  refine xw_region ?_
  refine xl_endS [0,7] [(0,.v (.slice Al l.length Cl)),(7,.v (.bool (decide (((l.length : Nat) : Int) > 64))))] (by kernel_rfl) ?_
  refine xw_cond (b := decide (((l.length : Nat) : Int) > 64)) (by kernel_rfl) (fun h1 => ?_) (fun h1 => ?_)
  have h1p : (((l.length : Nat) : Int) > 64) := of_decide_eq_true h1
  refine xw_seq ?_
  refine xw_region ?_
  refine xl_endS [2] [(2,.v (.bool false))] (by kernel_rfl) ?_
  refine xw_ret ?_
  exact ⟨[.bool false],by kernel_rfl,fun w' hb hf => ⟨ret_bool (show (false : Bool) = halvesOk l from by first | (exact (hno (by simp only [hOne]; clear HK hno; simp_all)).symm) | (exact hall.symm) | (rw [hall]; symm; simp; omega) | (exact (halvesOk_long (by omega)).symm)),hb⟩⟩
  have h1p : ¬ (((l.length : Nat) : Int) > 64) := of_decide_eq_false h1
  refine xw_skip ?_
  refine xw_seq ?_
  refine xw_seq ?_
  refine xw_region ?_
  refine xl_endS [0,8,9,10] [(0,.v (.slice Al l.length Cl)),(8,.v (.slice Al l.length Cl)),(9,.v (.int .i64 ((l.length : Nat) : Int))),(10,.v (.int .i64 0))] (by kernel_rfl) ?_
  refine xw_block ?_
  refine xw_loopW (α := {x : Nat // (fun (k : Nat) => k ≤ l.length ∧ ∀ (i : Nat) (x : Hlf),i < k → l[i]? = some x → hOne l i x = true) x}) (fun x => (fun (k : Nat) => (⟨[(0,.v (.slice Al l.length Cl)),(8,.v (.slice Al l.length Cl)),(9,.v (.int .i64 ((l.length : Nat) : Int))),(10,.v (.int .i64 (k : Int)))],[],[],[slF (.slice Al l.length Cl) 13 (l.map hlfCells)]⟩ : St)) x.1) (fun x => l.length - x.1) ⟨(0),⟨Nat.zero_le _,fun i x hi => by omega⟩⟩ (wk_forget 0 0 [0,8,9,10] (by kernel_rfl) (by kernel_rfl) (by kernel_rfl)) ?_
  rintro ⟨k,hk,HK⟩
  refine xw_wk (Wk.of_eq (s' := ⟨[(0,.v (.slice Al l.length Cl)),(8,.v (.slice Al l.length Cl)),(9,.v (.int .i64 ((l.length : Nat) : Int))),(10,.v (.int .i64 (k : Int)))],[],[],[slF (.slice Al l.length Cl) 13 (l.map hlfCells)]⟩) rfl) ?_
  try dsimp only at hk HK
  refine xw_seq ?_
  refine xw_region ?_
  refine xl_endS [0,8,9,10,11] [(0,.v (.slice Al l.length Cl)),(8,.v (.slice Al l.length Cl)),(9,.v (.int .i64 ((l.length : Nat) : Int))),(10,.v (.int .i64 (k : Int))),(11,.v (.bool (decide ((k : Int) < ((l.length : Nat) : Int)))))] (by kernel_rfl) ?_
  refine xw_seq ?_
  refine xw_cond (b := decide ((k : Int) < ((l.length : Nat) : Int))) (by kernel_rfl) (fun h2 => ?_) (fun h2 => ?_)
  have h2p : ((k : Int) < ((l.length : Nat) : Int)) := of_decide_eq_true h2
  have hlt : k < l.length := by simpa using h2
  obtain ⟨x,hx⟩ : ∃ x,l[k]? = some x := ⟨_,List.getElem?_eq_getElem hlt⟩
  have hft := findHalf_pre hx
  have hno := fun h => halvesOk_no hx h
  refine xw_skip ?_
  refine xw_seq ?_
  refine xw_block ?_
  refine xw_seq ?_
  refine xw_region ?_
  refine xl_indexS (kd := .i64) (T := 61) (e := 100) (K := 13) 1 [0,8,9,10,12] [(0,.v (.slice Al l.length Cl)),(8,.v (.slice Al l.length Cl)),(9,.v (.int .i64 ((l.length : Nat) : Int))),(10,.v (.int .i64 (k : Int))),(12,.v (.int .i64 (k : Int)))] k [.int .i64 x.t.ip,.int .i64 x.t.port,.int .i64 x.t.my,.int .i64 x.iss,.int .i64 x.irs,.int .i64 x.o.mss,.int .i64 x.o.scale,.bool x.o.sack,.bool x.o.stamp,.int .i64 x.o.val,.int .i64 x.o.echo,.int .i64 x.age,.int .i64 x.window] (slF (.slice Al l.length Cl) 13 (l.map hlfCells)) (by kernel_rfl) rfl (by kernel_rfl) rfl rfl (by kernel_rfl) (by kernel_rfl) (by kernel_rfl) (by kernel_rfl) hlt (by simp) (fun w h => h) (fun b h => h) (by simp only [List.getElem?_map,hx]; rfl) ?_
  refine xl_end [0,3,4,8,9,10] ⟨[(0,.v (.slice Al l.length Cl)),(3,.v (.int .i64 (k : Int))),(4,.p 0 0),(8,.v (.slice Al l.length Cl)),(9,.v (.int .i64 ((l.length : Nat) : Int))),(10,.v (.int .i64 (k : Int)))],[⟨100,hlfL x⟩],[[.int .i64 x.t.ip,.int .i64 x.t.port,.int .i64 x.t.my,.int .i64 x.iss,.int .i64 x.irs,.int .i64 x.o.mss,.int .i64 x.o.scale,.bool x.o.sack,.bool x.o.stamp,.int .i64 x.o.val,.int .i64 x.o.echo,.int .i64 x.age,.int .i64 x.window]],[slF (.slice Al l.length Cl) 13 (l.map hlfCells)]⟩ (by kernel_rfl) ?_
  refine xw_seq ?_
  refine xw_region ?_
  refine xl_callS 2 [0,3,4,8,9,10,16] [(0,.v (.slice Al l.length Cl)),(3,.v (.int .i64 (k : Int))),(4,.p 0 0),(8,.v (.slice Al l.length Cl)),(9,.v (.int .i64 ((l.length : Nat) : Int))),(10,.v (.int .i64 (k : Int))),(16,.v (.agg (tupL x.t).toArray))] 89 [.agg (tupL x.t).toArray] (some 17) (by kernel_rfl) rfl (by kernel_rfl) rfl (by kernel_rfl) (xc_b fun ww hf => iTupleOk_c x.t.ip x.t.port x.t.my ww ) ?_
  intro _
  refine xl_runS 2 [0,3,4,8,9,10,19] [(0,.v (.slice Al l.length Cl)),(3,.v (.int .i64 (k : Int))),(4,.p 0 0),(8,.v (.slice Al l.length Cl)),(9,.v (.int .i64 ((l.length : Nat) : Int))),(10,.v (.int .i64 (k : Int))),(19,.v (.bool (!(tupleOk x.t))))] (by kernel_rfl) ?_
  refine xl_split 19 (b := !(tupleOk x.t)) (by kernel_rfl) (fun h3 => ?_) (fun h3 => ?_)
  have h3n := not_t h3
  refine xl_endS [0,8,9,10,56] [(0,.v (.slice Al l.length Cl)),(8,.v (.slice Al l.length Cl)),(9,.v (.int .i64 ((l.length : Nat) : Int))),(10,.v (.int .i64 (k : Int))),(56,.v (.bool true))] (by kernel_rfl) ?_
  refine xw_true (by kernel_rfl) ?_
  refine xw_seq ?_
  refine xw_region ?_
  refine xl_endS [2] [(2,.v (.bool false))] (by kernel_rfl) ?_
  refine xw_ret ?_
  exact ⟨[.bool false],by kernel_rfl,fun w' hb hf => ⟨ret_bool (show (false : Bool) = halvesOk l from by first | (exact (hno (by simp only [hOne]; clear HK hno; simp_all)).symm) | (exact hall.symm) | (rw [hall]; symm; simp; omega) | (exact (halvesOk_long (by omega)).symm)),hb⟩⟩
  have h3n := not_f h3
  refine xl_callS 2 [0,3,4,8,9,10,19,20,21] [(0,.v (.slice Al l.length Cl)),(3,.v (.int .i64 (k : Int))),(4,.p 0 0),(8,.v (.slice Al l.length Cl)),(9,.v (.int .i64 ((l.length : Nat) : Int))),(10,.v (.int .i64 (k : Int))),(19,.v (.bool false)),(20,.p 0 3),(21,.v (.int .i64 x.iss))] 90 [.int .i64 x.iss,.int .i64 32] (some 22) (by kernel_rfl) rfl (by kernel_rfl) rfl (by kernel_rfl) (xc_s fun ww hf => iWordOk32_c x.iss ww) ?_
  intro _
  refine xl_runS 3 [0,3,4,8,9,10,20,21,22,23,25] [(0,.v (.slice Al l.length Cl)),(3,.v (.int .i64 (k : Int))),(4,.p 0 0),(8,.v (.slice Al l.length Cl)),(9,.v (.int .i64 ((l.length : Nat) : Int))),(10,.v (.int .i64 (k : Int))),(20,.p 0 3),(21,.v (.int .i64 x.iss)),(22,.v (.bool (wordOk x.iss 32))),(23,.v (.bool (!(wordOk x.iss 32)))),(25,.v (.bool (!(wordOk x.iss 32))))] (by kernel_rfl) ?_
  refine xl_split 25 (b := !(wordOk x.iss 32)) (by kernel_rfl) (fun h4 => ?_) (fun h4 => ?_)
  have h4n := not_t h4
  refine xl_endS [0,8,9,10,20,21,22,23,56] [(0,.v (.slice Al l.length Cl)),(8,.v (.slice Al l.length Cl)),(9,.v (.int .i64 ((l.length : Nat) : Int))),(10,.v (.int .i64 (k : Int))),(20,.p 0 3),(21,.v (.int .i64 x.iss)),(22,.v (.bool (wordOk x.iss 32))),(23,.v (.bool (!(wordOk x.iss 32)))),(56,.v (.bool true))] (by kernel_rfl) ?_
  refine xw_true (by kernel_rfl) ?_
  refine xw_seq ?_
  refine xw_region ?_
  refine xl_endS [2] [(2,.v (.bool false))] (by kernel_rfl) ?_
  refine xw_ret ?_
  exact ⟨[.bool false],by kernel_rfl,fun w' hb hf => ⟨ret_bool (show (false : Bool) = halvesOk l from by first | (exact (hno (by simp only [hOne]; clear HK hno; simp_all)).symm) | (exact hall.symm) | (rw [hall]; symm; simp; omega) | (exact (halvesOk_long (by omega)).symm)),hb⟩⟩
  have h4n := not_f h4
  refine xl_callS 2 [0,3,4,8,9,10,20,21,22,23,25,26,27] [(0,.v (.slice Al l.length Cl)),(3,.v (.int .i64 (k : Int))),(4,.p 0 0),(8,.v (.slice Al l.length Cl)),(9,.v (.int .i64 ((l.length : Nat) : Int))),(10,.v (.int .i64 (k : Int))),(20,.p 0 3),(21,.v (.int .i64 x.iss)),(22,.v (.bool (wordOk x.iss 32))),(23,.v (.bool (!(wordOk x.iss 32)))),(25,.v (.bool false)),(26,.p 0 4),(27,.v (.int .i64 x.irs))] 90 [.int .i64 x.irs,.int .i64 32] (some 28) (by kernel_rfl) rfl (by kernel_rfl) rfl (by kernel_rfl) (xc_s fun ww hf => iWordOk32_c x.irs ww) ?_
  intro _
  refine xl_runS 3 [0,3,4,8,9,10,20,21,22,23,26,27,28,29,31] [(0,.v (.slice Al l.length Cl)),(3,.v (.int .i64 (k : Int))),(4,.p 0 0),(8,.v (.slice Al l.length Cl)),(9,.v (.int .i64 ((l.length : Nat) : Int))),(10,.v (.int .i64 (k : Int))),(20,.p 0 3),(21,.v (.int .i64 x.iss)),(22,.v (.bool (wordOk x.iss 32))),(23,.v (.bool (!(wordOk x.iss 32)))),(26,.p 0 4),(27,.v (.int .i64 x.irs)),(28,.v (.bool (wordOk x.irs 32))),(29,.v (.bool (!(wordOk x.irs 32)))),(31,.v (.bool (!(wordOk x.irs 32))))] (by kernel_rfl) ?_
  refine xl_split 31 (b := !(wordOk x.irs 32)) (by kernel_rfl) (fun h5 => ?_) (fun h5 => ?_)
  have h5n := not_t h5
  refine xl_endS [0,8,9,10,20,21,22,23,26,27,28,29,56] [(0,.v (.slice Al l.length Cl)),(8,.v (.slice Al l.length Cl)),(9,.v (.int .i64 ((l.length : Nat) : Int))),(10,.v (.int .i64 (k : Int))),(20,.p 0 3),(21,.v (.int .i64 x.iss)),(22,.v (.bool (wordOk x.iss 32))),(23,.v (.bool (!(wordOk x.iss 32)))),(26,.p 0 4),(27,.v (.int .i64 x.irs)),(28,.v (.bool (wordOk x.irs 32))),(29,.v (.bool (!(wordOk x.irs 32)))),(56,.v (.bool true))] (by kernel_rfl) ?_
  refine xw_true (by kernel_rfl) ?_
  refine xw_seq ?_
  refine xw_region ?_
  refine xl_endS [2] [(2,.v (.bool false))] (by kernel_rfl) ?_
  refine xw_ret ?_
  exact ⟨[.bool false],by kernel_rfl,fun w' hb hf => ⟨ret_bool (show (false : Bool) = halvesOk l from by first | (exact (hno (by simp only [hOne]; clear HK hno; simp_all)).symm) | (exact hall.symm) | (rw [hall]; symm; simp; omega) | (exact (halvesOk_long (by omega)).symm)),hb⟩⟩
  have h5n := not_f h5
  refine xl_callS 2 [0,3,4,8,9,10,20,21,22,23,26,27,28,29,31,32,33] [(0,.v (.slice Al l.length Cl)),(3,.v (.int .i64 (k : Int))),(4,.p 0 0),(8,.v (.slice Al l.length Cl)),(9,.v (.int .i64 ((l.length : Nat) : Int))),(10,.v (.int .i64 (k : Int))),(20,.p 0 3),(21,.v (.int .i64 x.iss)),(22,.v (.bool (wordOk x.iss 32))),(23,.v (.bool (!(wordOk x.iss 32)))),(26,.p 0 4),(27,.v (.int .i64 x.irs)),(28,.v (.bool (wordOk x.irs 32))),(29,.v (.bool (!(wordOk x.irs 32)))),(31,.v (.bool false)),(32,.p 0 12),(33,.v (.int .i64 x.window))] 90 [.int .i64 x.window,.int .i64 16] (some 34) (by kernel_rfl) rfl (by kernel_rfl) rfl (by kernel_rfl) (xc_s fun ww hf => iWordOk16_c x.window ww) ?_
  intro _
  refine xl_runS 3 [0,3,4,8,9,10,20,21,22,23,26,27,28,29,32,33,34,35,37] [(0,.v (.slice Al l.length Cl)),(3,.v (.int .i64 (k : Int))),(4,.p 0 0),(8,.v (.slice Al l.length Cl)),(9,.v (.int .i64 ((l.length : Nat) : Int))),(10,.v (.int .i64 (k : Int))),(20,.p 0 3),(21,.v (.int .i64 x.iss)),(22,.v (.bool (wordOk x.iss 32))),(23,.v (.bool (!(wordOk x.iss 32)))),(26,.p 0 4),(27,.v (.int .i64 x.irs)),(28,.v (.bool (wordOk x.irs 32))),(29,.v (.bool (!(wordOk x.irs 32)))),(32,.p 0 12),(33,.v (.int .i64 x.window)),(34,.v (.bool (wordOk x.window 16))),(35,.v (.bool (!(wordOk x.window 16)))),(37,.v (.bool (!(wordOk x.window 16))))] (by kernel_rfl) ?_
  refine xl_split 37 (b := !(wordOk x.window 16)) (by kernel_rfl) (fun h6 => ?_) (fun h6 => ?_)
  have h6n := not_t h6
  refine xl_endS [0,8,9,10,20,21,22,23,26,27,28,29,32,33,34,35,56] [(0,.v (.slice Al l.length Cl)),(8,.v (.slice Al l.length Cl)),(9,.v (.int .i64 ((l.length : Nat) : Int))),(10,.v (.int .i64 (k : Int))),(20,.p 0 3),(21,.v (.int .i64 x.iss)),(22,.v (.bool (wordOk x.iss 32))),(23,.v (.bool (!(wordOk x.iss 32)))),(26,.p 0 4),(27,.v (.int .i64 x.irs)),(28,.v (.bool (wordOk x.irs 32))),(29,.v (.bool (!(wordOk x.irs 32)))),(32,.p 0 12),(33,.v (.int .i64 x.window)),(34,.v (.bool (wordOk x.window 16))),(35,.v (.bool (!(wordOk x.window 16)))),(56,.v (.bool true))] (by kernel_rfl) ?_
  refine xw_true (by kernel_rfl) ?_
  refine xw_seq ?_
  refine xw_region ?_
  refine xl_endS [2] [(2,.v (.bool false))] (by kernel_rfl) ?_
  refine xw_ret ?_
  exact ⟨[.bool false],by kernel_rfl,fun w' hb hf => ⟨ret_bool (show (false : Bool) = halvesOk l from by first | (exact (hno (by simp only [hOne]; clear HK hno; simp_all)).symm) | (exact hall.symm) | (rw [hall]; symm; simp; omega) | (exact (halvesOk_long (by omega)).symm)),hb⟩⟩
  have h6n := not_f h6
  have h6nw := wordOk16_bd (by simpa using h6n)
  obtain ⟨h6nw0,h6nw1⟩ := h6nw
  refine xl_callS 2 [0,3,4,8,9,10,20,21,22,23,26,27,28,29,32,33,34,35,37,38,39] [(0,.v (.slice Al l.length Cl)),(3,.v (.int .i64 (k : Int))),(4,.p 0 0),(8,.v (.slice Al l.length Cl)),(9,.v (.int .i64 ((l.length : Nat) : Int))),(10,.v (.int .i64 (k : Int))),(20,.p 0 3),(21,.v (.int .i64 x.iss)),(22,.v (.bool (wordOk x.iss 32))),(23,.v (.bool (!(wordOk x.iss 32)))),(26,.p 0 4),(27,.v (.int .i64 x.irs)),(28,.v (.bool (wordOk x.irs 32))),(29,.v (.bool (!(wordOk x.irs 32)))),(32,.p 0 12),(33,.v (.int .i64 x.window)),(34,.v (.bool (wordOk x.window 16))),(35,.v (.bool (!(wordOk x.window 16)))),(37,.v (.bool false)),(38,.p 0 5),(39,.v (.agg (optL x.o).toArray))] 91 [.agg (optL x.o).toArray] (some 40) (by kernel_rfl) rfl (by kernel_rfl) rfl (by kernel_rfl) (xc_b fun ww hf => iOptionsOk_c x.o.mss x.o.scale x.o.sack x.o.stamp x.o.val x.o.echo ww ) ?_
  intro _
  refine xl_runS 3 [0,3,4,8,9,10,20,21,22,23,26,27,28,29,32,33,34,35,38,39,40,41,43] [(0,.v (.slice Al l.length Cl)),(3,.v (.int .i64 (k : Int))),(4,.p 0 0),(8,.v (.slice Al l.length Cl)),(9,.v (.int .i64 ((l.length : Nat) : Int))),(10,.v (.int .i64 (k : Int))),(20,.p 0 3),(21,.v (.int .i64 x.iss)),(22,.v (.bool (wordOk x.iss 32))),(23,.v (.bool (!(wordOk x.iss 32)))),(26,.p 0 4),(27,.v (.int .i64 x.irs)),(28,.v (.bool (wordOk x.irs 32))),(29,.v (.bool (!(wordOk x.irs 32)))),(32,.p 0 12),(33,.v (.int .i64 x.window)),(34,.v (.bool (wordOk x.window 16))),(35,.v (.bool (!(wordOk x.window 16)))),(38,.p 0 5),(39,.v (.agg (optL x.o).toArray)),(40,.v (.bool (optionsOk x.o))),(41,.v (.bool (!(optionsOk x.o)))),(43,.v (.bool (!(optionsOk x.o))))] (by kernel_rfl) ?_
  refine xl_split 43 (b := !(optionsOk x.o)) (by kernel_rfl) (fun h7 => ?_) (fun h7 => ?_)
  have h7n := not_t h7
  refine xl_endS [0,8,9,10,20,21,22,23,26,27,28,29,32,33,34,35,38,39,40,41,56] [(0,.v (.slice Al l.length Cl)),(8,.v (.slice Al l.length Cl)),(9,.v (.int .i64 ((l.length : Nat) : Int))),(10,.v (.int .i64 (k : Int))),(20,.p 0 3),(21,.v (.int .i64 x.iss)),(22,.v (.bool (wordOk x.iss 32))),(23,.v (.bool (!(wordOk x.iss 32)))),(26,.p 0 4),(27,.v (.int .i64 x.irs)),(28,.v (.bool (wordOk x.irs 32))),(29,.v (.bool (!(wordOk x.irs 32)))),(32,.p 0 12),(33,.v (.int .i64 x.window)),(34,.v (.bool (wordOk x.window 16))),(35,.v (.bool (!(wordOk x.window 16)))),(38,.p 0 5),(39,.v (.agg (optL x.o).toArray)),(40,.v (.bool (optionsOk x.o))),(41,.v (.bool (!(optionsOk x.o)))),(56,.v (.bool true))] (by kernel_rfl) ?_
  refine xw_true (by kernel_rfl) ?_
  refine xw_seq ?_
  refine xw_region ?_
  refine xl_endS [2] [(2,.v (.bool false))] (by kernel_rfl) ?_
  refine xw_ret ?_
  exact ⟨[.bool false],by kernel_rfl,fun w' hb hf => ⟨ret_bool (show (false : Bool) = halvesOk l from by first | (exact (hno (by simp only [hOne]; clear HK hno; simp_all)).symm) | (exact hall.symm) | (rw [hall]; symm; simp; omega) | (exact (halvesOk_long (by omega)).symm)),hb⟩⟩
  have h7n := not_f h7
  have h7nw := optionsOk_bd (by simpa using h7n)
  obtain ⟨h7nw0,h7nw1⟩ := h7nw
  refine xl_callS 2 [0,3,4,8,9,10,20,21,22,23,26,27,28,29,32,33,34,35,38,39,40,41,43,44,45] [(0,.v (.slice Al l.length Cl)),(3,.v (.int .i64 (k : Int))),(4,.p 0 0),(8,.v (.slice Al l.length Cl)),(9,.v (.int .i64 ((l.length : Nat) : Int))),(10,.v (.int .i64 (k : Int))),(20,.p 0 3),(21,.v (.int .i64 x.iss)),(22,.v (.bool (wordOk x.iss 32))),(23,.v (.bool (!(wordOk x.iss 32)))),(26,.p 0 4),(27,.v (.int .i64 x.irs)),(28,.v (.bool (wordOk x.irs 32))),(29,.v (.bool (!(wordOk x.irs 32)))),(32,.p 0 12),(33,.v (.int .i64 x.window)),(34,.v (.bool (wordOk x.window 16))),(35,.v (.bool (!(wordOk x.window 16)))),(38,.p 0 5),(39,.v (.agg (optL x.o).toArray)),(40,.v (.bool (optionsOk x.o))),(41,.v (.bool (!(optionsOk x.o)))),(43,.v (.bool false)),(44,.p 0 11),(45,.v (.int .i64 x.age))] 92 [.int .i64 x.age,.int .i64 0,.int .i64 6] (some 46) (by kernel_rfl) rfl (by kernel_rfl) rfl (by kernel_rfl) (xc_s fun ww hf => within_c x.age 0 6 ww ) ?_
  intro _
  refine xl_runS 3 [0,3,4,8,9,10,20,21,22,23,26,27,28,29,32,33,34,35,38,39,40,41,44,45,46,47,49] [(0,.v (.slice Al l.length Cl)),(3,.v (.int .i64 (k : Int))),(4,.p 0 0),(8,.v (.slice Al l.length Cl)),(9,.v (.int .i64 ((l.length : Nat) : Int))),(10,.v (.int .i64 (k : Int))),(20,.p 0 3),(21,.v (.int .i64 x.iss)),(22,.v (.bool (wordOk x.iss 32))),(23,.v (.bool (!(wordOk x.iss 32)))),(26,.p 0 4),(27,.v (.int .i64 x.irs)),(28,.v (.bool (wordOk x.irs 32))),(29,.v (.bool (!(wordOk x.irs 32)))),(32,.p 0 12),(33,.v (.int .i64 x.window)),(34,.v (.bool (wordOk x.window 16))),(35,.v (.bool (!(wordOk x.window 16)))),(38,.p 0 5),(39,.v (.agg (optL x.o).toArray)),(40,.v (.bool (optionsOk x.o))),(41,.v (.bool (!(optionsOk x.o)))),(44,.p 0 11),(45,.v (.int .i64 x.age)),(46,.v (.bool (inB x.age 0 6))),(47,.v (.bool (!(inB x.age 0 6)))),(49,.v (.bool (!(inB x.age 0 6))))] (by kernel_rfl) ?_
  refine xl_split 49 (b := !(inB x.age 0 6)) (by kernel_rfl) (fun h8 => ?_) (fun h8 => ?_)
  have h8n := not_t h8
  have h8ni := inB_ff.1 (show inB x.age 0 6 = false from by simpa using h8n)
  refine xl_endS [0,8,9,10,20,21,22,23,26,27,28,29,32,33,34,35,38,39,40,41,44,45,46,47,56] [(0,.v (.slice Al l.length Cl)),(8,.v (.slice Al l.length Cl)),(9,.v (.int .i64 ((l.length : Nat) : Int))),(10,.v (.int .i64 (k : Int))),(20,.p 0 3),(21,.v (.int .i64 x.iss)),(22,.v (.bool (wordOk x.iss 32))),(23,.v (.bool (!(wordOk x.iss 32)))),(26,.p 0 4),(27,.v (.int .i64 x.irs)),(28,.v (.bool (wordOk x.irs 32))),(29,.v (.bool (!(wordOk x.irs 32)))),(32,.p 0 12),(33,.v (.int .i64 x.window)),(34,.v (.bool (wordOk x.window 16))),(35,.v (.bool (!(wordOk x.window 16)))),(38,.p 0 5),(39,.v (.agg (optL x.o).toArray)),(40,.v (.bool (optionsOk x.o))),(41,.v (.bool (!(optionsOk x.o)))),(44,.p 0 11),(45,.v (.int .i64 x.age)),(46,.v (.bool (inB x.age 0 6))),(47,.v (.bool (!(inB x.age 0 6)))),(56,.v (.bool true))] (by kernel_rfl) ?_
  refine xw_true (by kernel_rfl) ?_
  refine xw_seq ?_
  refine xw_region ?_
  refine xl_endS [2] [(2,.v (.bool false))] (by kernel_rfl) ?_
  refine xw_ret ?_
  exact ⟨[.bool false],by kernel_rfl,fun w' hb hf => ⟨ret_bool (show (false : Bool) = halvesOk l from by first | (exact (hno (by simp only [hOne]; clear HK hno; simp_all)).symm) | (exact hall.symm) | (rw [hall]; symm; simp; omega) | (exact (halvesOk_long (by omega)).symm)),hb⟩⟩
  have h8n := not_f h8
  have h8ni := inB_tt.1 (show inB x.age 0 6 = true from by simpa using h8n)
  refine xl_callS 3 [0,3,8,9,10,20,21,22,23,26,27,28,29,32,33,34,35,38,39,40,41,44,45,46,47,49,50,51,52] [(0,.v (.slice Al l.length Cl)),(3,.v (.int .i64 (k : Int))),(8,.v (.slice Al l.length Cl)),(9,.v (.int .i64 ((l.length : Nat) : Int))),(10,.v (.int .i64 (k : Int))),(20,.p 0 3),(21,.v (.int .i64 x.iss)),(22,.v (.bool (wordOk x.iss 32))),(23,.v (.bool (!(wordOk x.iss 32)))),(26,.p 0 4),(27,.v (.int .i64 x.irs)),(28,.v (.bool (wordOk x.irs 32))),(29,.v (.bool (!(wordOk x.irs 32)))),(32,.p 0 12),(33,.v (.int .i64 x.window)),(34,.v (.bool (wordOk x.window 16))),(35,.v (.bool (!(wordOk x.window 16)))),(38,.p 0 5),(39,.v (.agg (optL x.o).toArray)),(40,.v (.bool (optionsOk x.o))),(41,.v (.bool (!(optionsOk x.o)))),(44,.p 0 11),(45,.v (.int .i64 x.age)),(46,.v (.bool (inB x.age 0 6))),(47,.v (.bool (!(inB x.age 0 6)))),(49,.v (.bool false)),(50,.v (.slice Al l.length Cl)),(51,.p 0 0),(52,.v (.agg (tupL x.t).toArray))] 93 [.slice Al l.length Cl,.agg (tupL x.t).toArray] (some 53) (by kernel_rfl) rfl (by kernel_rfl) rfl (by kernel_rfl) (xc_b fun ww hf => iFindHalf_c (.slice Al l.length Cl) l x.t.ip x.t.port x.t.my ww (hf (slF (.slice Al l.length Cl) 13 (l.map hlfCells)) (by simp)) ) ?_
  intro _
  refine xl_endS [0,8,9,10,20,21,22,23,26,27,28,29,32,33,34,35,38,39,40,41,44,45,46,47,50,51,52,53,54,55,56] [(0,.v (.slice Al l.length Cl)),(8,.v (.slice Al l.length Cl)),(9,.v (.int .i64 ((l.length : Nat) : Int))),(10,.v (.int .i64 (k : Int))),(20,.p 0 3),(21,.v (.int .i64 x.iss)),(22,.v (.bool (wordOk x.iss 32))),(23,.v (.bool (!(wordOk x.iss 32)))),(26,.p 0 4),(27,.v (.int .i64 x.irs)),(28,.v (.bool (wordOk x.irs 32))),(29,.v (.bool (!(wordOk x.irs 32)))),(32,.p 0 12),(33,.v (.int .i64 x.window)),(34,.v (.bool (wordOk x.window 16))),(35,.v (.bool (!(wordOk x.window 16)))),(38,.p 0 5),(39,.v (.agg (optL x.o).toArray)),(40,.v (.bool (optionsOk x.o))),(41,.v (.bool (!(optionsOk x.o)))),(44,.p 0 11),(45,.v (.int .i64 x.age)),(46,.v (.bool (inB x.age 0 6))),(47,.v (.bool (!(inB x.age 0 6)))),(50,.v (.slice Al l.length Cl)),(51,.p 0 0),(52,.v (.agg (tupL x.t).toArray)),(53,.v (.int .i64 (findHalf l x.t))),(54,.v (.int .i64 (k : Int))),(55,.v (.bool ((findHalf l x.t) != (k : Int)))),(56,.v (.bool ((findHalf l x.t) != (k : Int))))] (by kernel_rfl) ?_
  refine xw_cond (b := (findHalf l x.t) != (k : Int)) (by kernel_rfl) (fun h9 => ?_) (fun h9 => ?_)
  have h9p := neT h9
  refine xw_seq ?_
  refine xw_region ?_
  refine xl_endS [2] [(2,.v (.bool false))] (by kernel_rfl) ?_
  refine xw_ret ?_
  exact ⟨[.bool false],by kernel_rfl,fun w' hb hf => ⟨ret_bool (show (false : Bool) = halvesOk l from by first | (exact (hno (by simp only [hOne]; clear HK hno; simp_all)).symm) | (exact hall.symm) | (rw [hall]; symm; simp; omega) | (exact (halvesOk_long (by omega)).symm)),hb⟩⟩
  have h9p := neF h9
  refine xw_skip ?_
  refine xw_region ?_
  refine xl_runS 2 [0,8,9,10,20,21,22,23,26,27,28,29,32,33,34,35,38,39,40,41,44,45,46,47,50,51,52,53,54,55] [(0,.v (.slice Al l.length Cl)),(8,.v (.slice Al l.length Cl)),(9,.v (.int .i64 ((l.length : Nat) : Int))),(10,.v (.int .i64 (IntKind.i64.wrap ((k : Int) + 1)))),(20,.p 0 3),(21,.v (.int .i64 x.iss)),(22,.v (.bool (wordOk x.iss 32))),(23,.v (.bool (!(wordOk x.iss 32)))),(26,.p 0 4),(27,.v (.int .i64 x.irs)),(28,.v (.bool (wordOk x.irs 32))),(29,.v (.bool (!(wordOk x.irs 32)))),(32,.p 0 12),(33,.v (.int .i64 x.window)),(34,.v (.bool (wordOk x.window 16))),(35,.v (.bool (!(wordOk x.window 16)))),(38,.p 0 5),(39,.v (.agg (optL x.o).toArray)),(40,.v (.bool (optionsOk x.o))),(41,.v (.bool (!(optionsOk x.o)))),(44,.p 0 11),(45,.v (.int .i64 x.age)),(46,.v (.bool (inB x.age 0 6))),(47,.v (.bool (!(inB x.age 0 6)))),(50,.v (.slice Al l.length Cl)),(51,.p 0 0),(52,.v (.agg (tupL x.t).toArray)),(53,.v (.int .i64 (findHalf l x.t))),(54,.v (.int .i64 (k : Int))),(55,.v (.bool ((findHalf l x.t) != (k : Int))))] (by kernel_rfl) ?_
  refine xl_eqS (t' := [(0,.v (.slice Al l.length Cl)),(8,.v (.slice Al l.length Cl)),(9,.v (.int .i64 ((l.length : Nat) : Int))),(10,.v (.int .i64 ((k : Int) + 1))),(20,.p 0 3),(21,.v (.int .i64 x.iss)),(22,.v (.bool (wordOk x.iss 32))),(23,.v (.bool (!(wordOk x.iss 32)))),(26,.p 0 4),(27,.v (.int .i64 x.irs)),(28,.v (.bool (wordOk x.irs 32))),(29,.v (.bool (!(wordOk x.irs 32)))),(32,.p 0 12),(33,.v (.int .i64 x.window)),(34,.v (.bool (wordOk x.window 16))),(35,.v (.bool (!(wordOk x.window 16)))),(38,.p 0 5),(39,.v (.agg (optL x.o).toArray)),(40,.v (.bool (optionsOk x.o))),(41,.v (.bool (!(optionsOk x.o)))),(44,.p 0 11),(45,.v (.int .i64 x.age)),(46,.v (.bool (inB x.age 0 6))),(47,.v (.bool (!(inB x.age 0 6)))),(50,.v (.slice Al l.length Cl)),(51,.p 0 0),(52,.v (.agg (tupL x.t).toArray)),(53,.v (.int .i64 (findHalf l x.t))),(54,.v (.int .i64 (k : Int))),(55,.v (.bool ((findHalf l x.t) != (k : Int))))]) (by rw [show (IntKind.i64.wrap ((k : Int) + 1)) = ((k : Int) + 1) from wrap_id (by omega) (by omega)]) ?_
  refine xl_endS [0,8,9,10,20,21,22,23,26,27,28,29,32,33,34,35,38,39,40,41,44,45,46,47,50,51,52,53,54,55] [(0,.v (.slice Al l.length Cl)),(8,.v (.slice Al l.length Cl)),(9,.v (.int .i64 ((l.length : Nat) : Int))),(10,.v (.int .i64 ((k : Int) + 1))),(20,.p 0 3),(21,.v (.int .i64 x.iss)),(22,.v (.bool (wordOk x.iss 32))),(23,.v (.bool (!(wordOk x.iss 32)))),(26,.p 0 4),(27,.v (.int .i64 x.irs)),(28,.v (.bool (wordOk x.irs 32))),(29,.v (.bool (!(wordOk x.irs 32)))),(32,.p 0 12),(33,.v (.int .i64 x.window)),(34,.v (.bool (wordOk x.window 16))),(35,.v (.bool (!(wordOk x.window 16)))),(38,.p 0 5),(39,.v (.agg (optL x.o).toArray)),(40,.v (.bool (optionsOk x.o))),(41,.v (.bool (!(optionsOk x.o)))),(44,.p 0 11),(45,.v (.int .i64 x.age)),(46,.v (.bool (inB x.age 0 6))),(47,.v (.bool (!(inB x.age 0 6)))),(50,.v (.slice Al l.length Cl)),(51,.p 0 0),(52,.v (.agg (tupL x.t).toArray)),(53,.v (.int .i64 (findHalf l x.t))),(54,.v (.int .i64 (k : Int))),(55,.v (.bool ((findHalf l x.t) != (k : Int))))] (by kernel_rfl) ?_
  exact ⟨⟨(k + 1),⟨by omega,half_step hx (by simp only [hOne]; clear HK; simp_all) HK⟩⟩,wk_forget 0 0 [0,8,9,10] (by kernel_rfl) (by kernel_rfl) (by kernel_rfl),by show l.length - (k + 1) < l.length - k; omega⟩
  have h2p : ¬ ((k : Int) < ((l.length : Nat) : Int)) := of_decide_eq_false h2
  have hge : k = l.length := by simp at h2; omega
  have hall := halvesOk_all hge HK
  refine xw_exit ?_
  refine xw_seq ?_
  refine xw_region ?_
  refine xl_endS [2] [(2,.v (.bool true))] (by kernel_rfl) ?_
  refine xw_ret ?_
  exact ⟨[.bool true],by kernel_rfl,fun w' hb hf => ⟨ret_bool (show (true : Bool) = halvesOk l from by first | (exact (hno (by simp only [hOne]; clear HK hno; simp_all)).symm) | (exact hall.symm) | (rw [hall]; symm; simp; omega) | (exact (halvesOk_long (by omega)).symm)),hb⟩⟩
end Go.Proofs.Ytjfamgkkenccdaa
