/- Contracts that this law needs, part 1. -/
import Derived.Test.YteoipoenbofemaaYW
import Derived.Test.YteoipoenbofemaaA5
import Derived.Test.YteoipoenbofemaaD0
import Derived.Test.YteoipoenbofemaaXN
import Derived.Test.YteoipoenbofemaaE
import Derived.Test.YteoipoenbofemaaSPiece
import Derived.Test.YteoipoenbofemaaC1
import Derived.Test.YteoipoenbofemaaME
import Derived.Test.YteoipoenbofemaaXM
import Derived.Test.YteoipoenbofemaaMH
import Derived.Test.YteoipoenbofemaaH2
import Derived.Test.YteoipoenbofemaaSHalf
import Derived.Test.YteoipoenbofemaaMF
import Derived.Test.YteoipoenbofemaaMG
namespace Go.Proofs.Yteoipoenbofemaa
open Go.RowKit
set_option linter.unusedVariables false
set_option linter.unusedSimpArgs false
set_option maxRecDepth 100000

@[simp] theorem inB18_1 : inB 1 1 8 = true := rfl
@[simp] theorem inB18_2 : inB 2 1 8 = true := rfl
@[simp] theorem inB18_3 : inB 3 1 8 = true := rfl
@[simp] theorem inB18_4 : inB 4 1 8 = true := rfl
@[simp] theorem inB18_5 : inB 5 1 8 = true := rfl
@[simp] theorem inB18_6 : inB 6 1 8 = true := rfl
@[simp] theorem inB18_7 : inB 7 1 8 = true := rfl
@[simp] theorem inB18_8 : inB 8 1 8 = true := rfl
set_option maxHeartbeats 1000000 in
theorem yCloneHalf_c (a : List Hlf) (aV : Value) (w : World) (hl_aV : Sl w aV 13 (a.map hlfCells)) (hkn : a.length ≤ 1048576) (B : Nat) (hB : B ≤ w.heap.size) : Calls Try.prog 62 #[aV] w fun e w' => XRs w w' e (α := Option Addr × Nat) (fun y => .slice y.1 a.length y.2) (fun y => [rowF B 42 13 (.slice y.1 a.length y.2) (a.map hlfCells)]) := by
  obtain ⟨Aa,Ca,hva⟩ := hl_aV.form
  rw [List.length_map] at hva; subst hva
  have hna := hl_aV.len; rw [List.length_map] at hna
  have hnil := fun h => Sl.nil_of h hl_aV
  refine x_callsA (args := [.slice Aa a.length Ca]) (fn := Try.f62) [slF (.slice Aa a.length Ca) 13 (a.map hlfCells)] Try.func62 rfl Try.ntmps62 rfl (by simp only [List.mem_cons,List.not_mem_nil,or_false,forall_eq_or_imp,forall_eq]; exact ⟨rfl,hl_aV⟩) ?_
  refine xw_seq ?_
  refine xw_region ?_
  refine xl_end [0] ⟨[(0,.v (.slice Aa a.length Ca))],[],[],[slF (.slice Aa a.length Ca) 13 (a.map hlfCells)]⟩ (by kernel_rfl) ?_
  refine xw_seq ?_
  refine xw_seq ?_
  refine xw_region ?_
  refine xl_opS 1 [0,3] [(0,.v (.slice Aa a.length Ca)),(3,.v (.slice Aa a.length Ca))] (.bool Aa.isNone) (by kernel_rfl) rfl (by kernel_rfl) rfl (fun _ _ _ ww hr => act_nilEq (e := 42) hr.1 rfl (by kernel_rfl) rfl rfl ww) ?_
  refine xl_endS [0,4] [(0,.v (.slice Aa a.length Ca)),(4,.v (.bool Aa.isNone))] (by kernel_rfl) ?_
  refine xw_cond (b := Aa.isNone) (by kernel_rfl) (fun h1 => ?_) (fun h1 => ?_)
  refine xw_seq ?_
  refine xw_region ?_
  refine xl_endS [2] [(2,.v (.slice none 0 0))] (by kernel_rfl) ?_
  refine xw_ret ?_
  have hmod : a = [] := by exact hnil (by assumption)
  exact ⟨[.slice none 0 0],by kernel_rfl,fun w' hb hf ha => by rw [hmod]; exact xr_one ((none,0)) rfl rfl (rowF_nil _ _ _ _) (fun b hb => (nilF_b _ _ _ _ hb).elim) hb⟩
  refine xw_skip ?_
  refine xw_seq ?_
  refine xw_region ?_
  refine xl_hvS 0 [0] [(0,.v (.slice Aa a.length Ca))] (by kernel_rfl) rfl (by kernel_rfl) rfl (by kernel_rfl) (hv_build (e := 42) (K := 13) (bytes := 96) [] rfl (by kernel_rfl) (by kernel_rfl) (by kernel_rfl) (by kernel_rfl) (by kernel_rfl) (rs := ([] : List Hlf).map hlfCells) rfl) ?_
  intro g2
  refine xl_hvS 1 [5,6] [(5,.v (.slice (some ⟨g2,0,none⟩) 0 0)),(6,.v (.slice Aa a.length Ca))] (by kernel_rfl) rfl (by kernel_rfl) rfl (by kernel_rfl) (hv_append (e := 42) (K := 13) (bytes := 96) (i := 0) (q := a.length) (new := a.map hlfCells) (rs' := a.map hlfCells) rfl rfl rfl rfl (by kernel_rfl) (by kernel_rfl) (by kernel_rfl) rfl (by simp) rfl (by simp) (fun ww hf => (hf (slF (.slice Aa a.length Ca) 13 (a.map hlfCells)) (by simp))) (by intro r hr; obtain ⟨x,hx,rfl⟩ := List.mem_map.1 hr; exact ⟨rfl,by simp [hlfCells,Value.oneCell']⟩) (by simp only [List.length_map,List.length_append,List.length_cons,List.length_nil,maxLen]; omega) (by simp only [List.length_map,List.length_append,List.length_cons,List.length_nil,maxLen]; omega)) ?_
  rintro ⟨v3a,v3c⟩
  refine xl_endS [2] [(2,.v (.slice v3a a.length v3c))] (by kernel_rfl) ?_
  refine xw_ret ?_
  exact ⟨[.slice v3a a.length v3c],by kernel_rfl,fun w' hb hf ha => by exact xr_one ((v3a,v3c)) rfl rfl (rowF_lower (hf (rowF w.heap.size 42 13 (.slice v3a a.length v3c) (a.map hlfCells)) (by simp)) hB) (fun b hb => rowF_lo (hf (rowF w.heap.size 42 13 (.slice v3a a.length v3c) (a.map hlfCells)) (by simp)) hb) hb⟩
theorem ysHalvesOk_c (l : List Hlf) (lV : Value) (w : World) (hl_lV : Sl w lV 13 (l.map hlfCells))  : Calls Try.prog 66 #[lV] w fun e w' => e = .returned (.bool (halvesOk l)) ∧ Below w.heap.size w w' := by
  obtain ⟨Al,Cl,hvl⟩ := hl_lV.form
  rw [List.length_map] at hvl; subst hvl
  have hnl := hl_lV.len; rw [List.length_map] at hnl
  refine x_calls (args := [.slice Al l.length Cl]) (fn := Try.f66) [slF (.slice Al l.length Cl) 13 (l.map hlfCells)] Try.func66 rfl Try.ntmps66 rfl (by simp only [List.mem_cons,List.not_mem_nil,or_false,forall_eq_or_imp,forall_eq]; exact ⟨rfl,hl_lV⟩) ?_
  refine xw_seq ?_
  refine xw_region ?_
  refine xl_end [0] ⟨[(0,.v (.slice Al l.length Cl))],[],[],[slF (.slice Al l.length Cl) 13 (l.map hlfCells)]⟩ (by kernel_rfl) ?_
  refine xw_seq ?_
  refine xw_seq ?_
  refine xw_region ?_
  refine xl_endS [0,3] [(0,.v (.slice Al l.length Cl)),(3,.v (.int .i64 0))] (by kernel_rfl) ?_
  refine xw_block ?_
  refine xw_loopW (α := {x : Nat // (fun (k : Nat) => k ≤ l.length ∧ ∀ (i : Nat) (x : Hlf),i < k → l[i]? = some x → hOne l i x = true) x}) (fun x => (fun (k : Nat) => (⟨[(0,.v (.slice Al l.length Cl)),(3,.v (.int .i64 (k : Int)))],[],[],[slF (.slice Al l.length Cl) 13 (l.map hlfCells)]⟩ : St)) x.1) (fun x => l.length - x.1) ⟨(0),⟨Nat.zero_le _,fun i x hi => by omega⟩⟩ (wk_forget 0 0 [0,3] (by kernel_rfl) (by kernel_rfl) (by kernel_rfl)) ?_
  rintro ⟨k,hk,HK⟩
  refine xw_wk (Wk.of_eq (s' := ⟨[(0,.v (.slice Al l.length Cl)),(3,.v (.int .i64 (k : Int)))],[],[],[slF (.slice Al l.length Cl) 13 (l.map hlfCells)]⟩) rfl) ?_
  try dsimp only at hk HK
  refine xw_seq ?_
  refine xw_seq ?_
  refine xw_region ?_
  refine xl_endS [0,3,8] [(0,.v (.slice Al l.length Cl)),(3,.v (.int .i64 (k : Int))),(8,.v (.bool (decide ((k : Int) < ((l.length : Nat) : Int)))))] (by kernel_rfl) ?_
  refine xw_cond (b := decide ((k : Int) < ((l.length : Nat) : Int))) (by kernel_rfl) (fun h1 => ?_) (fun h1 => ?_)
  have h1p : ((k : Int) < ((l.length : Nat) : Int)) := of_decide_eq_true h1
  have hlt : k < l.length := by simpa using h1
  obtain ⟨x,hx⟩ : ∃ x,l[k]? = some x := ⟨_,List.getElem?_eq_getElem hlt⟩
  have hft := findHalf_pre hx
  have hno := fun h => halvesOk_no hx h
  refine xw_skip ?_
  refine xw_seq ?_
  refine xw_block ?_
  refine xw_seq ?_
  refine xw_region ?_
  refine xl_indexS (kd := .i64) (T := 26) (e := 42) (K := 13) 2 [0,3,11,12] [(0,.v (.slice Al l.length Cl)),(3,.v (.int .i64 (k : Int))),(11,.v (.slice Al l.length Cl)),(12,.v (.int .i64 (k : Int)))] k [.int .i64 x.t.ip,.int .i64 x.t.port,.int .i64 x.t.my,.int .i64 x.iss,.int .i64 x.irs,.int .i64 x.o.mss,.int .i64 x.o.scale,.bool x.o.sack,.bool x.o.stamp,.int .i64 x.o.val,.int .i64 x.o.echo,.int .i64 x.age,.int .i64 x.window] (slF (.slice Al l.length Cl) 13 (l.map hlfCells)) (by kernel_rfl) rfl (by kernel_rfl) rfl rfl (by kernel_rfl) (by kernel_rfl) (by kernel_rfl) (by kernel_rfl) hlt (by simp) (fun w h => h) (fun b h => h) (by simp only [List.getElem?_map,hx]; rfl) ?_
  refine xl_end [0,3,4] ⟨[(0,.v (.slice Al l.length Cl)),(3,.v (.int .i64 (k : Int))),(4,.p 0 0)],[⟨42,hlfL x⟩],[[.int .i64 x.t.ip,.int .i64 x.t.port,.int .i64 x.t.my,.int .i64 x.iss,.int .i64 x.irs,.int .i64 x.o.mss,.int .i64 x.o.scale,.bool x.o.sack,.bool x.o.stamp,.int .i64 x.o.val,.int .i64 x.o.echo,.int .i64 x.age,.int .i64 x.window]],[slF (.slice Al l.length Cl) 13 (l.map hlfCells)]⟩ (by kernel_rfl) ?_
  refine xw_seq ?_
  refine xe_region [] (by kernel_rfl) (fun ρ σ => ?_)
  refine xe_tkS [0,1] [16,0,3,4] 41 [(16,.v (.agg (tupL x.t).toArray)),(0,.v (.slice Al l.length Cl)),(3,.v (.int .i64 (k : Int))),(4,.p 0 0)] (fun _ _ h => h) rfl (by kernel_rfl) ?_
  refine xe_all [2] (by kernel_rfl) (by simp) ?_
  refine xs_call 2 135 [.agg (tupL x.t).toArray] (some 17) rfl (by kernel_rfl) rfl (by kernel_rfl) (xc_b fun ww hf => sTupleOk_c x.t.ip x.t.port x.t.my ww ) ?_
  intro _
  refine xe_tkS [3,4] [19,0,3,4] 38 [(19,.v (.bool (!(tupleOk x.t)))),(0,.v (.slice Al l.length Cl)),(3,.v (.int .i64 (k : Int))),(4,.p 0 0)] (fun _ _ h => h) rfl (by kernel_rfl) ?_
  refine xe_split 19 (b := !(tupleOk x.t)) (by kernel_rfl) (fun h2 => ?_) (fun h2 => ?_)
  have h2n := not_t h2
  refine xe_tkS [5,6,7,8,9,10,11,12,13,14,15,16,17,18,19,20,21,22,23,24,25,26,27,28,29,30,31,32,33,34,35,36,37,38,39,40,41,42] [57,0,3] 0 [(57,.v (.bool true)),(0,.v (.slice Al l.length Cl)),(3,.v (.int .i64 (k : Int)))] (fun _ _ h => h) rfl (by kernel_rfl) ?_
  refine xe_done (by kernel_rfl) ?_
  refine xw_true (by kernel_rfl) ?_
  refine xw_seq ?_
  refine xw_region ?_
  refine xl_endS [2] [(2,.v (.bool false))] (by kernel_rfl) ?_
  refine xw_ret ?_
  exact ⟨[.bool false],by kernel_rfl,fun w' hb hf => ⟨ret_bool (show (false : Bool) = halvesOk l from by first | (exact (hno (by simp only [hOne]; clear HK hno; simp_all)).symm) | (exact hall.symm) | (rw [hall]; symm; simp; omega) | (exact (halvesOk_long (by omega)).symm)),hb⟩⟩
  have h2n := not_f h2
  refine xe_tkS [5,6] [21,20,19,0,3,4] 36 [(21,.v (.int .i64 x.iss)),(20,.p 0 3),(19,.v (.bool false)),(0,.v (.slice Al l.length Cl)),(3,.v (.int .i64 (k : Int))),(4,.p 0 0)] (fun _ _ h => h) rfl (by kernel_rfl) ?_
  refine xe_all [7] (by kernel_rfl) (by simp) ?_
  refine xs_call 7 70 [.int .i64 x.iss,.int .i64 32] (some 22) rfl (by kernel_rfl) rfl (by kernel_rfl) (xc_s fun ww hf => sWordOk32_c x.iss ww) ?_
  intro _
  refine xe_tkS [8,9,10] [25,23,22,21,20,0,3,4] 32 [(25,.v (.bool (!(wordOk x.iss 32)))),(23,.v (.bool (!(wordOk x.iss 32)))),(22,.v (.bool (wordOk x.iss 32))),(21,.v (.int .i64 x.iss)),(20,.p 0 3),(0,.v (.slice Al l.length Cl)),(3,.v (.int .i64 (k : Int))),(4,.p 0 0)] (fun _ _ h => h) rfl (by kernel_rfl) ?_
  refine xe_split 25 (b := !(wordOk x.iss 32)) (by kernel_rfl) (fun h3 => ?_) (fun h3 => ?_)
  have h3n := not_t h3
  refine xe_tkS [11,12,13,14,15,16,17,18,19,20,21,22,23,24,25,26,27,28,29,30,31,32,33,34,35,36,37,38,39,40,41,42] [57,23,22,21,20,0,3] 0 [(57,.v (.bool true)),(23,.v (.bool (!(wordOk x.iss 32)))),(22,.v (.bool (wordOk x.iss 32))),(21,.v (.int .i64 x.iss)),(20,.p 0 3),(0,.v (.slice Al l.length Cl)),(3,.v (.int .i64 (k : Int)))] (fun _ _ h => h) rfl (by kernel_rfl) ?_
  refine xe_done (by kernel_rfl) ?_
  refine xw_true (by kernel_rfl) ?_
  refine xw_seq ?_
  refine xw_region ?_
  refine xl_endS [2] [(2,.v (.bool false))] (by kernel_rfl) ?_
  refine xw_ret ?_
  exact ⟨[.bool false],by kernel_rfl,fun w' hb hf => ⟨ret_bool (show (false : Bool) = halvesOk l from by first | (exact (hno (by simp only [hOne]; clear HK hno; simp_all)).symm) | (exact hall.symm) | (rw [hall]; symm; simp; omega) | (exact (halvesOk_long (by omega)).symm)),hb⟩⟩
  have h3n := not_f h3
  refine xe_tkS [11,12] [27,26,25,23,22,21,20,0,3,4] 30 [(27,.v (.int .i64 x.irs)),(26,.p 0 4),(25,.v (.bool false)),(23,.v (.bool (!(wordOk x.iss 32)))),(22,.v (.bool (wordOk x.iss 32))),(21,.v (.int .i64 x.iss)),(20,.p 0 3),(0,.v (.slice Al l.length Cl)),(3,.v (.int .i64 (k : Int))),(4,.p 0 0)] (fun _ _ h => h) rfl (by kernel_rfl) ?_
  refine xe_all [13] (by kernel_rfl) (by simp) ?_
  refine xs_call 13 70 [.int .i64 x.irs,.int .i64 32] (some 28) rfl (by kernel_rfl) rfl (by kernel_rfl) (xc_s fun ww hf => sWordOk32_c x.irs ww) ?_
  intro _
  refine xe_tkS [14,15,16] [31,29,28,27,26,23,22,21,20,0,3,4] 26 [(31,.v (.bool (!(wordOk x.irs 32)))),(29,.v (.bool (!(wordOk x.irs 32)))),(28,.v (.bool (wordOk x.irs 32))),(27,.v (.int .i64 x.irs)),(26,.p 0 4),(23,.v (.bool (!(wordOk x.iss 32)))),(22,.v (.bool (wordOk x.iss 32))),(21,.v (.int .i64 x.iss)),(20,.p 0 3),(0,.v (.slice Al l.length Cl)),(3,.v (.int .i64 (k : Int))),(4,.p 0 0)] (fun _ _ h => h) rfl (by kernel_rfl) ?_
  refine xe_split 31 (b := !(wordOk x.irs 32)) (by kernel_rfl) (fun h4 => ?_) (fun h4 => ?_)
  have h4n := not_t h4
  refine xe_tkS [17,18,19,20,21,22,23,24,25,26,27,28,29,30,31,32,33,34,35,36,37,38,39,40,41,42] [57,29,28,27,26,23,22,21,20,0,3] 0 [(57,.v (.bool true)),(29,.v (.bool (!(wordOk x.irs 32)))),(28,.v (.bool (wordOk x.irs 32))),(27,.v (.int .i64 x.irs)),(26,.p 0 4),(23,.v (.bool (!(wordOk x.iss 32)))),(22,.v (.bool (wordOk x.iss 32))),(21,.v (.int .i64 x.iss)),(20,.p 0 3),(0,.v (.slice Al l.length Cl)),(3,.v (.int .i64 (k : Int)))] (fun _ _ h => h) rfl (by kernel_rfl) ?_
  refine xe_done (by kernel_rfl) ?_
  refine xw_true (by kernel_rfl) ?_
  refine xw_seq ?_
  refine xw_region ?_
  refine xl_endS [2] [(2,.v (.bool false))] (by kernel_rfl) ?_
  refine xw_ret ?_
  exact ⟨[.bool false],by kernel_rfl,fun w' hb hf => ⟨ret_bool (show (false : Bool) = halvesOk l from by first | (exact (hno (by simp only [hOne]; clear HK hno; simp_all)).symm) | (exact hall.symm) | (rw [hall]; symm; simp; omega) | (exact (halvesOk_long (by omega)).symm)),hb⟩⟩
  have h4n := not_f h4
  refine xe_tkS [17,18] [33,32,31,29,28,27,26,23,22,21,20,0,3,4] 24 [(33,.v (.int .i64 x.window)),(32,.p 0 12),(31,.v (.bool false)),(29,.v (.bool (!(wordOk x.irs 32)))),(28,.v (.bool (wordOk x.irs 32))),(27,.v (.int .i64 x.irs)),(26,.p 0 4),(23,.v (.bool (!(wordOk x.iss 32)))),(22,.v (.bool (wordOk x.iss 32))),(21,.v (.int .i64 x.iss)),(20,.p 0 3),(0,.v (.slice Al l.length Cl)),(3,.v (.int .i64 (k : Int))),(4,.p 0 0)] (fun _ _ h => h) rfl (by kernel_rfl) ?_
  refine xe_all [19] (by kernel_rfl) (by simp) ?_
  refine xs_call 19 70 [.int .i64 x.window,.int .i64 16] (some 34) rfl (by kernel_rfl) rfl (by kernel_rfl) (xc_s fun ww hf => sWordOk16_c x.window ww) ?_
  intro _
  refine xe_tkS [20,21,22] [37,35,34,33,32,29,28,27,26,23,22,21,20,0,3,4] 20 [(37,.v (.bool (!(wordOk x.window 16)))),(35,.v (.bool (!(wordOk x.window 16)))),(34,.v (.bool (wordOk x.window 16))),(33,.v (.int .i64 x.window)),(32,.p 0 12),(29,.v (.bool (!(wordOk x.irs 32)))),(28,.v (.bool (wordOk x.irs 32))),(27,.v (.int .i64 x.irs)),(26,.p 0 4),(23,.v (.bool (!(wordOk x.iss 32)))),(22,.v (.bool (wordOk x.iss 32))),(21,.v (.int .i64 x.iss)),(20,.p 0 3),(0,.v (.slice Al l.length Cl)),(3,.v (.int .i64 (k : Int))),(4,.p 0 0)] (fun _ _ h => h) rfl (by kernel_rfl) ?_
  refine xe_split 37 (b := !(wordOk x.window 16)) (by kernel_rfl) (fun h5 => ?_) (fun h5 => ?_)
  have h5n := not_t h5
  refine xe_tkS [23,24,25,26,27,28,29,30,31,32,33,34,35,36,37,38,39,40,41,42] [57,35,34,33,32,29,28,27,26,23,22,21,20,0,3] 0 [(57,.v (.bool true)),(35,.v (.bool (!(wordOk x.window 16)))),(34,.v (.bool (wordOk x.window 16))),(33,.v (.int .i64 x.window)),(32,.p 0 12),(29,.v (.bool (!(wordOk x.irs 32)))),(28,.v (.bool (wordOk x.irs 32))),(27,.v (.int .i64 x.irs)),(26,.p 0 4),(23,.v (.bool (!(wordOk x.iss 32)))),(22,.v (.bool (wordOk x.iss 32))),(21,.v (.int .i64 x.iss)),(20,.p 0 3),(0,.v (.slice Al l.length Cl)),(3,.v (.int .i64 (k : Int)))] (fun _ _ h => h) rfl (by kernel_rfl) ?_
  refine xe_done (by kernel_rfl) ?_
  refine xw_true (by kernel_rfl) ?_
  refine xw_seq ?_
  refine xw_region ?_
  refine xl_endS [2] [(2,.v (.bool false))] (by kernel_rfl) ?_
  refine xw_ret ?_
  exact ⟨[.bool false],by kernel_rfl,fun w' hb hf => ⟨ret_bool (show (false : Bool) = halvesOk l from by first | (exact (hno (by simp only [hOne]; clear HK hno; simp_all)).symm) | (exact hall.symm) | (rw [hall]; symm; simp; omega) | (exact (halvesOk_long (by omega)).symm)),hb⟩⟩
  have h5n := not_f h5
  have h5nw := wordOk16_bd (by simpa using h5n)
  obtain ⟨h5nw0,h5nw1⟩ := h5nw
  refine xe_tkS [23,24] [39,38,37,35,34,33,32,29,28,27,26,23,22,21,20,0,3,4] 18 [(39,.v (.agg (optL x.o).toArray)),(38,.p 0 5),(37,.v (.bool false)),(35,.v (.bool (!(wordOk x.window 16)))),(34,.v (.bool (wordOk x.window 16))),(33,.v (.int .i64 x.window)),(32,.p 0 12),(29,.v (.bool (!(wordOk x.irs 32)))),(28,.v (.bool (wordOk x.irs 32))),(27,.v (.int .i64 x.irs)),(26,.p 0 4),(23,.v (.bool (!(wordOk x.iss 32)))),(22,.v (.bool (wordOk x.iss 32))),(21,.v (.int .i64 x.iss)),(20,.p 0 3),(0,.v (.slice Al l.length Cl)),(3,.v (.int .i64 (k : Int))),(4,.p 0 0)] (fun _ _ h => h) rfl (by kernel_rfl) ?_
  refine xe_all [25] (by kernel_rfl) (by simp) ?_
  refine xs_call 25 68 [.agg (optL x.o).toArray] (some 40) rfl (by kernel_rfl) rfl (by kernel_rfl) (xc_b fun ww hf => sOptionsOk_c x.o.mss x.o.scale x.o.sack x.o.stamp x.o.val x.o.echo ww ) ?_
  intro _
  refine xe_tkS [26,27,28] [43,41,40,39,38,35,34,33,32,29,28,27,26,23,22,21,20,0,3,4] 14 [(43,.v (.bool (!(optionsOk x.o)))),(41,.v (.bool (!(optionsOk x.o)))),(40,.v (.bool (optionsOk x.o))),(39,.v (.agg (optL x.o).toArray)),(38,.p 0 5),(35,.v (.bool (!(wordOk x.window 16)))),(34,.v (.bool (wordOk x.window 16))),(33,.v (.int .i64 x.window)),(32,.p 0 12),(29,.v (.bool (!(wordOk x.irs 32)))),(28,.v (.bool (wordOk x.irs 32))),(27,.v (.int .i64 x.irs)),(26,.p 0 4),(23,.v (.bool (!(wordOk x.iss 32)))),(22,.v (.bool (wordOk x.iss 32))),(21,.v (.int .i64 x.iss)),(20,.p 0 3),(0,.v (.slice Al l.length Cl)),(3,.v (.int .i64 (k : Int))),(4,.p 0 0)] (fun _ _ h => h) rfl (by kernel_rfl) ?_
  refine xe_split 43 (b := !(optionsOk x.o)) (by kernel_rfl) (fun h6 => ?_) (fun h6 => ?_)
  have h6n := not_t h6
  refine xe_tkS [29,30,31,32,33,34,35,36,37,38,39,40,41,42] [57,41,40,39,38,35,34,33,32,29,28,27,26,23,22,21,20,0,3] 0 [(57,.v (.bool true)),(41,.v (.bool (!(optionsOk x.o)))),(40,.v (.bool (optionsOk x.o))),(39,.v (.agg (optL x.o).toArray)),(38,.p 0 5),(35,.v (.bool (!(wordOk x.window 16)))),(34,.v (.bool (wordOk x.window 16))),(33,.v (.int .i64 x.window)),(32,.p 0 12),(29,.v (.bool (!(wordOk x.irs 32)))),(28,.v (.bool (wordOk x.irs 32))),(27,.v (.int .i64 x.irs)),(26,.p 0 4),(23,.v (.bool (!(wordOk x.iss 32)))),(22,.v (.bool (wordOk x.iss 32))),(21,.v (.int .i64 x.iss)),(20,.p 0 3),(0,.v (.slice Al l.length Cl)),(3,.v (.int .i64 (k : Int)))] (fun _ _ h => h) rfl (by kernel_rfl) ?_
  refine xe_done (by kernel_rfl) ?_
  refine xw_true (by kernel_rfl) ?_
  refine xw_seq ?_
  refine xw_region ?_
  refine xl_endS [2] [(2,.v (.bool false))] (by kernel_rfl) ?_
  refine xw_ret ?_
  exact ⟨[.bool false],by kernel_rfl,fun w' hb hf => ⟨ret_bool (show (false : Bool) = halvesOk l from by first | (exact (hno (by simp only [hOne]; clear HK hno; simp_all)).symm) | (exact hall.symm) | (rw [hall]; symm; simp; omega) | (exact (halvesOk_long (by omega)).symm)),hb⟩⟩
  have h6n := not_f h6
  have h6nw := optionsOk_bd (by simpa using h6n)
  obtain ⟨h6nw0,h6nw1⟩ := h6nw
  refine xe_tkS [29,30] [45,44,43,41,40,39,38,35,34,33,32,29,28,27,26,23,22,21,20,0,3,4] 12 [(45,.v (.int .i64 x.age)),(44,.p 0 11),(43,.v (.bool false)),(41,.v (.bool (!(optionsOk x.o)))),(40,.v (.bool (optionsOk x.o))),(39,.v (.agg (optL x.o).toArray)),(38,.p 0 5),(35,.v (.bool (!(wordOk x.window 16)))),(34,.v (.bool (wordOk x.window 16))),(33,.v (.int .i64 x.window)),(32,.p 0 12),(29,.v (.bool (!(wordOk x.irs 32)))),(28,.v (.bool (wordOk x.irs 32))),(27,.v (.int .i64 x.irs)),(26,.p 0 4),(23,.v (.bool (!(wordOk x.iss 32)))),(22,.v (.bool (wordOk x.iss 32))),(21,.v (.int .i64 x.iss)),(20,.p 0 3),(0,.v (.slice Al l.length Cl)),(3,.v (.int .i64 (k : Int))),(4,.p 0 0)] (fun _ _ h => h) rfl (by kernel_rfl) ?_
  refine xe_all [31] (by kernel_rfl) (by simp) ?_
  refine xs_call 31 136 [.int .i64 x.age,.int .i64 0,.int .i64 6] (some 46) rfl (by kernel_rfl) rfl (by kernel_rfl) (xc_s fun ww hf => l1In_c x.age 0 6 ww ) ?_
  intro _
  refine xe_tkS [32,33,34] [49,47,46,45,44,41,40,39,38,35,34,33,32,29,28,27,26,23,22,21,20,0,3,4] 8 [(49,.v (.bool (!(inB x.age 0 6)))),(47,.v (.bool (!(inB x.age 0 6)))),(46,.v (.bool (inB x.age 0 6))),(45,.v (.int .i64 x.age)),(44,.p 0 11),(41,.v (.bool (!(optionsOk x.o)))),(40,.v (.bool (optionsOk x.o))),(39,.v (.agg (optL x.o).toArray)),(38,.p 0 5),(35,.v (.bool (!(wordOk x.window 16)))),(34,.v (.bool (wordOk x.window 16))),(33,.v (.int .i64 x.window)),(32,.p 0 12),(29,.v (.bool (!(wordOk x.irs 32)))),(28,.v (.bool (wordOk x.irs 32))),(27,.v (.int .i64 x.irs)),(26,.p 0 4),(23,.v (.bool (!(wordOk x.iss 32)))),(22,.v (.bool (wordOk x.iss 32))),(21,.v (.int .i64 x.iss)),(20,.p 0 3),(0,.v (.slice Al l.length Cl)),(3,.v (.int .i64 (k : Int))),(4,.p 0 0)] (fun _ _ h => h) rfl (by kernel_rfl) ?_
  refine xe_split 49 (b := !(inB x.age 0 6)) (by kernel_rfl) (fun h7 => ?_) (fun h7 => ?_)
  have h7n := not_t h7
  have h7ni := inB_ff.1 (show inB x.age 0 6 = false from by simpa using h7n)
  refine xe_tkS [35,36,37,38,39,40,41,42] [57,47,46,45,44,41,40,39,38,35,34,33,32,29,28,27,26,23,22,21,20,0,3] 0 [(57,.v (.bool true)),(47,.v (.bool (!(inB x.age 0 6)))),(46,.v (.bool (inB x.age 0 6))),(45,.v (.int .i64 x.age)),(44,.p 0 11),(41,.v (.bool (!(optionsOk x.o)))),(40,.v (.bool (optionsOk x.o))),(39,.v (.agg (optL x.o).toArray)),(38,.p 0 5),(35,.v (.bool (!(wordOk x.window 16)))),(34,.v (.bool (wordOk x.window 16))),(33,.v (.int .i64 x.window)),(32,.p 0 12),(29,.v (.bool (!(wordOk x.irs 32)))),(28,.v (.bool (wordOk x.irs 32))),(27,.v (.int .i64 x.irs)),(26,.p 0 4),(23,.v (.bool (!(wordOk x.iss 32)))),(22,.v (.bool (wordOk x.iss 32))),(21,.v (.int .i64 x.iss)),(20,.p 0 3),(0,.v (.slice Al l.length Cl)),(3,.v (.int .i64 (k : Int)))] (fun _ _ h => h) rfl (by kernel_rfl) ?_
  refine xe_done (by kernel_rfl) ?_
  refine xw_true (by kernel_rfl) ?_
  refine xw_seq ?_
  refine xw_region ?_
  refine xl_endS [2] [(2,.v (.bool false))] (by kernel_rfl) ?_
  refine xw_ret ?_
  exact ⟨[.bool false],by kernel_rfl,fun w' hb hf => ⟨ret_bool (show (false : Bool) = halvesOk l from by first | (exact (hno (by simp only [hOne]; clear HK hno; simp_all)).symm) | (exact hall.symm) | (rw [hall]; symm; simp; omega) | (exact (halvesOk_long (by omega)).symm)),hb⟩⟩
  have h7n := not_f h7
  have h7ni := inB_tt.1 (show inB x.age 0 6 = true from by simpa using h7n)
  refine xe_tkS [35,36,38,39] [54,53,51,50,49,47,46,45,44,41,40,39,38,35,34,33,32,29,28,27,26,23,22,21,20,0,3] 4 [(54,.v (.agg (tupL x.t).toArray)),(53,.p 0 0),(51,.v (.int .i64 (k : Int))),(50,.v (.slice Al l.length Cl)),(49,.v (.bool false)),(47,.v (.bool (!(inB x.age 0 6)))),(46,.v (.bool (inB x.age 0 6))),(45,.v (.int .i64 x.age)),(44,.p 0 11),(41,.v (.bool (!(optionsOk x.o)))),(40,.v (.bool (optionsOk x.o))),(39,.v (.agg (optL x.o).toArray)),(38,.p 0 5),(35,.v (.bool (!(wordOk x.window 16)))),(34,.v (.bool (wordOk x.window 16))),(33,.v (.int .i64 x.window)),(32,.p 0 12),(29,.v (.bool (!(wordOk x.irs 32)))),(28,.v (.bool (wordOk x.irs 32))),(27,.v (.int .i64 x.irs)),(26,.p 0 4),(23,.v (.bool (!(wordOk x.iss 32)))),(22,.v (.bool (wordOk x.iss 32))),(21,.v (.int .i64 x.iss)),(20,.p 0 3),(0,.v (.slice Al l.length Cl)),(3,.v (.int .i64 (k : Int)))] (fun _ _ h => h) rfl (by kernel_rfl) ?_
  refine xe_all [37] (by kernel_rfl) (by simp) ?_
  refine xs_opR 37 (.slice (if Cl = 0 then Al else Al.map (·.add (0 * 13))) (k - 0) (Cl - 0)) _ rfl (by kernel_rfl) (by kernel_rfl) (fun _ _ ww hr => act_slV0 (e := 42) k hr.1 rfl (by kernel_rfl) (by kernel_rfl) rfl rfl rfl (Nat.le_trans (show k ≤ l.length by omega) (Sl.capLe (hr.2.fact (slF (.slice Al l.length Cl) 13 (l.map hlfCells)) (by simp)).1)) ww) rfl ?_
  refine xe_all [40] (by kernel_rfl) (by simp) ?_
  refine xs_call 40 61 [.slice (if Cl = 0 then Al else Al.map (·.add (0 * 13))) (k - 0) (Cl - 0),.agg (tupL x.t).toArray] (some 55) rfl (by kernel_rfl) rfl (by kernel_rfl) (xc_b fun ww hf => sFindHalf_c (.slice (if Cl = 0 then Al else Al.map (·.add (0 * 13))) (k - 0) (Cl - 0)) ((l.drop 0).take (k - 0)) x.t.ip x.t.port x.t.my ww (Sl.partM (hf (slF (.slice Al l.length Cl) 13 (l.map hlfCells)) (by simp)) 0 k (by omega) (by omega)) ) ?_
  intro _
  refine xe_tkS [41,42] [57,56,55,52,54,53,51,50,47,46,45,44,41,40,39,38,35,34,33,32,29,28,27,26,23,22,21,20,0,3] 0 [(57,.v (.bool (decide ((findHalf ((l.drop 0).take (k - 0)) x.t) ≥ 0)))),(56,.v (.bool (decide ((findHalf ((l.drop 0).take (k - 0)) x.t) ≥ 0)))),(55,.v (.int .i64 (findHalf ((l.drop 0).take (k - 0)) x.t))),(52,.v (.slice (if Cl = 0 then Al else Al.map (·.add (0 * 13))) (k - 0) (Cl - 0))),(54,.v (.agg (tupL x.t).toArray)),(53,.p 0 0),(51,.v (.int .i64 (k : Int))),(50,.v (.slice Al l.length Cl)),(47,.v (.bool (!(inB x.age 0 6)))),(46,.v (.bool (inB x.age 0 6))),(45,.v (.int .i64 x.age)),(44,.p 0 11),(41,.v (.bool (!(optionsOk x.o)))),(40,.v (.bool (optionsOk x.o))),(39,.v (.agg (optL x.o).toArray)),(38,.p 0 5),(35,.v (.bool (!(wordOk x.window 16)))),(34,.v (.bool (wordOk x.window 16))),(33,.v (.int .i64 x.window)),(32,.p 0 12),(29,.v (.bool (!(wordOk x.irs 32)))),(28,.v (.bool (wordOk x.irs 32))),(27,.v (.int .i64 x.irs)),(26,.p 0 4),(23,.v (.bool (!(wordOk x.iss 32)))),(22,.v (.bool (wordOk x.iss 32))),(21,.v (.int .i64 x.iss)),(20,.p 0 3),(0,.v (.slice Al l.length Cl)),(3,.v (.int .i64 (k : Int)))] (fun _ _ h => h) rfl (by kernel_rfl) ?_
  refine xe_done (by kernel_rfl) ?_
  refine xw_cond (b := decide ((findHalf ((l.drop 0).take (k - 0)) x.t) ≥ 0)) (by kernel_rfl) (fun h8 => ?_) (fun h8 => ?_)
  have h8p : ((findHalf ((l.drop 0).take (k - 0)) x.t) ≥ 0) := of_decide_eq_true h8
  refine xw_seq ?_
  refine xw_region ?_
  refine xl_endS [2] [(2,.v (.bool false))] (by kernel_rfl) ?_
  refine xw_ret ?_
  exact ⟨[.bool false],by kernel_rfl,fun w' hb hf => ⟨ret_bool (show (false : Bool) = halvesOk l from by first | (exact (hno (by simp only [hOne]; clear HK hno; simp_all)).symm) | (exact hall.symm) | (rw [hall]; symm; simp; omega) | (exact (halvesOk_long (by omega)).symm)),hb⟩⟩
  have h8p : ¬ ((findHalf ((l.drop 0).take (k - 0)) x.t) ≥ 0) := of_decide_eq_false h8
  refine xw_skip ?_
  refine xw_region ?_
  refine xl_runS 3 [0,3,20,21,22,23,26,27,28,29,32,33,34,35,38,39,40,41,44,45,46,47,50,51,52,53,54,55,56] [(0,.v (.slice Al l.length Cl)),(3,.v (.int .i64 (IntKind.i64.wrap ((k : Int) + 1)))),(20,.p 0 3),(21,.v (.int .i64 x.iss)),(22,.v (.bool (wordOk x.iss 32))),(23,.v (.bool (!(wordOk x.iss 32)))),(26,.p 0 4),(27,.v (.int .i64 x.irs)),(28,.v (.bool (wordOk x.irs 32))),(29,.v (.bool (!(wordOk x.irs 32)))),(32,.p 0 12),(33,.v (.int .i64 x.window)),(34,.v (.bool (wordOk x.window 16))),(35,.v (.bool (!(wordOk x.window 16)))),(38,.p 0 5),(39,.v (.agg (optL x.o).toArray)),(40,.v (.bool (optionsOk x.o))),(41,.v (.bool (!(optionsOk x.o)))),(44,.p 0 11),(45,.v (.int .i64 x.age)),(46,.v (.bool (inB x.age 0 6))),(47,.v (.bool (!(inB x.age 0 6)))),(50,.v (.slice Al l.length Cl)),(51,.v (.int .i64 (k : Int))),(52,.v (.slice (if Cl = 0 then Al else Al.map (·.add (0 * 13))) (k - 0) (Cl - 0))),(53,.p 0 0),(54,.v (.agg (tupL x.t).toArray)),(55,.v (.int .i64 (findHalf ((l.drop 0).take (k - 0)) x.t))),(56,.v (.bool (decide ((findHalf ((l.drop 0).take (k - 0)) x.t) ≥ 0))))] (by kernel_rfl) ?_
  refine xl_eqS (t' := [(0,.v (.slice Al l.length Cl)),(3,.v (.int .i64 ((k : Int) + 1))),(20,.p 0 3),(21,.v (.int .i64 x.iss)),(22,.v (.bool (wordOk x.iss 32))),(23,.v (.bool (!(wordOk x.iss 32)))),(26,.p 0 4),(27,.v (.int .i64 x.irs)),(28,.v (.bool (wordOk x.irs 32))),(29,.v (.bool (!(wordOk x.irs 32)))),(32,.p 0 12),(33,.v (.int .i64 x.window)),(34,.v (.bool (wordOk x.window 16))),(35,.v (.bool (!(wordOk x.window 16)))),(38,.p 0 5),(39,.v (.agg (optL x.o).toArray)),(40,.v (.bool (optionsOk x.o))),(41,.v (.bool (!(optionsOk x.o)))),(44,.p 0 11),(45,.v (.int .i64 x.age)),(46,.v (.bool (inB x.age 0 6))),(47,.v (.bool (!(inB x.age 0 6)))),(50,.v (.slice Al l.length Cl)),(51,.v (.int .i64 (k : Int))),(52,.v (.slice (if Cl = 0 then Al else Al.map (·.add (0 * 13))) (k - 0) (Cl - 0))),(53,.p 0 0),(54,.v (.agg (tupL x.t).toArray)),(55,.v (.int .i64 (findHalf ((l.drop 0).take (k - 0)) x.t))),(56,.v (.bool (decide ((findHalf ((l.drop 0).take (k - 0)) x.t) ≥ 0))))]) (by rw [show (IntKind.i64.wrap ((k : Int) + 1)) = ((k : Int) + 1) from wrap_id (by omega) (by omega)]) ?_
  refine xl_endS [0,3,20,21,22,23,26,27,28,29,32,33,34,35,38,39,40,41,44,45,46,47,50,51,52,53,54,55,56] [(0,.v (.slice Al l.length Cl)),(3,.v (.int .i64 ((k : Int) + 1))),(20,.p 0 3),(21,.v (.int .i64 x.iss)),(22,.v (.bool (wordOk x.iss 32))),(23,.v (.bool (!(wordOk x.iss 32)))),(26,.p 0 4),(27,.v (.int .i64 x.irs)),(28,.v (.bool (wordOk x.irs 32))),(29,.v (.bool (!(wordOk x.irs 32)))),(32,.p 0 12),(33,.v (.int .i64 x.window)),(34,.v (.bool (wordOk x.window 16))),(35,.v (.bool (!(wordOk x.window 16)))),(38,.p 0 5),(39,.v (.agg (optL x.o).toArray)),(40,.v (.bool (optionsOk x.o))),(41,.v (.bool (!(optionsOk x.o)))),(44,.p 0 11),(45,.v (.int .i64 x.age)),(46,.v (.bool (inB x.age 0 6))),(47,.v (.bool (!(inB x.age 0 6)))),(50,.v (.slice Al l.length Cl)),(51,.v (.int .i64 (k : Int))),(52,.v (.slice (if Cl = 0 then Al else Al.map (·.add (0 * 13))) (k - 0) (Cl - 0))),(53,.p 0 0),(54,.v (.agg (tupL x.t).toArray)),(55,.v (.int .i64 (findHalf ((l.drop 0).take (k - 0)) x.t))),(56,.v (.bool (decide ((findHalf ((l.drop 0).take (k - 0)) x.t) ≥ 0))))] (by kernel_rfl) ?_
  exact ⟨⟨(k + 1),⟨by omega,half_step hx (by simp only [hOne]; clear HK; simp_all) HK⟩⟩,wk_forget 0 0 [0,3] (by kernel_rfl) (by kernel_rfl) (by kernel_rfl),by show l.length - (k + 1) < l.length - k; omega⟩
  have h1p : ¬ ((k : Int) < ((l.length : Nat) : Int)) := of_decide_eq_false h1
  have hge : k = l.length := by simp at h1; omega
  have hall := halvesOk_all hge HK
  refine xw_exit ?_
  refine xw_seq ?_
  refine xw_region ?_
  refine xl_endS [2] [(2,.v (.bool (decide (((l.length : Nat) : Int) ≤ 64))))] (by kernel_rfl) ?_
  refine xw_ret ?_
  exact ⟨[.bool (decide (((l.length : Nat) : Int) ≤ 64))],by kernel_rfl,fun w' hb hf => ⟨ret_bool (show (decide (((l.length : Nat) : Int) ≤ 64) : Bool) = halvesOk l from by first | (exact (hno (by simp only [hOne]; clear HK hno; simp_all)).symm) | (exact hall.symm) | (rw [hall]; symm; simp; omega) | (exact (halvesOk_long (by omega)).symm)),hb⟩⟩
set_option maxHeartbeats 1000000 in
theorem ysPutHalf_c (l : List Hlf) (lV : Value) (h : Hlf) (most : Int) (w : World) (hl_lV : Sl w lV 13 (l.map hlfCells)) (hkn : l.length ≤ 1048576) (B : Nat) (hB : B ≤ w.heap.size) : Calls Try.prog 22 #[lV, .agg (hlfL h).toArray, .int .i64 most] w fun e w' => XRs w w' e (α := Option Addr × Nat) (fun y => .tuple #[.slice y.1 ((putHalf l h most).1.length) y.2, .bool ((putHalf l h most).2)]) (fun y => [ownF B (.slice y.1 ((putHalf l h most).1.length) y.2) 13 ((putHalf l h most).1.map hlfCells)]) := by
  obtain ⟨Al,Cl,hvl⟩ := hl_lV.form
  rw [List.length_map] at hvl; subst hvl
  have hnl := hl_lV.len; rw [List.length_map] at hnl
  refine x_callsA (args := [.slice Al l.length Cl,.agg (hlfL h).toArray,.int .i64 most]) (fn := Try.f22) [slF (.slice Al l.length Cl) 13 (l.map hlfCells)] Try.func22 rfl Try.ntmps22 rfl (by simp only [List.mem_cons,List.not_mem_nil,or_false,forall_eq_or_imp,forall_eq]; exact ⟨rfl,hl_lV⟩) ?_
  refine xw_seq ?_
  refine xw_region ?_
  refine xl_end [0,2,4] ⟨[(0,.v (.slice Al l.length Cl)),(2,.v (.int .i64 most)),(4,.p 0 0)],[⟨42,hlfL h⟩],[],[slF (.slice Al l.length Cl) 13 (l.map hlfCells)]⟩ (by kernel_rfl) ?_
  refine xw_seq ?_
  refine xw_region ?_
  refine xl_hvS 0 [0,2,4] [(0,.v (.slice Al l.length Cl)),(2,.v (.int .i64 most)),(4,.p 0 0)] (by kernel_rfl) rfl (by kernel_rfl) rfl (by kernel_rfl) (hv_build (e := 42) (K := 13) (bytes := 96) [] rfl (by kernel_rfl) (by kernel_rfl) (by kernel_rfl) (by kernel_rfl) (by kernel_rfl) (rs := ([] : List Hlf).map hlfCells) rfl) ?_
  intro g1
  refine xl_hvS 1 [0,2,4,10,11] [(0,.v (.slice Al l.length Cl)),(2,.v (.int .i64 most)),(4,.p 0 0),(10,.v (.slice (some ⟨g1,0,none⟩) 0 0)),(11,.v (.slice Al l.length Cl))] (by kernel_rfl) rfl (by kernel_rfl) rfl (by kernel_rfl) (hv_append (e := 42) (K := 13) (bytes := 96) (i := 0) (q := l.length) (new := l.map hlfCells) (rs' := l.map hlfCells) rfl rfl rfl rfl (by kernel_rfl) (by kernel_rfl) (by kernel_rfl) rfl (by simp) rfl (by simp) (fun ww hf => (hf (slF (.slice Al l.length Cl) 13 (l.map hlfCells)) (by simp))) (by intro r hr; obtain ⟨x,hx,rfl⟩ := List.mem_map.1 hr; exact ⟨rfl,by simp [hlfCells,Value.oneCell']⟩) (by simp only [List.length_map,List.length_append,List.length_cons,List.length_nil,maxLen]; omega) (by simp only [List.length_map,List.length_append,List.length_cons,List.length_nil,maxLen]; omega)) ?_
  rintro ⟨v2a,v2c⟩
  refine xl_endS [0,2,4,8] [(0,.v (.slice Al l.length Cl)),(2,.v (.int .i64 most)),(4,.p 0 0),(8,.v (.slice v2a l.length v2c))] (by kernel_rfl) ?_
  refine xw_seq ?_
  refine xw_joinE (α := Option Addr × Nat × Nat) (fun y => (fun (v12a : Option Addr) (v12c : Nat) (g10 : Nat) => (⟨[(0,.v (.slice Al l.length Cl)),(2,.v (.int .i64 most)),(8,.v (.slice v2a l.length v2c)),(9,.v (.slice v12a ((l ++ ([h] : List Hlf)).length) v12c))],[⟨42,hlfL h⟩],[],[rowF w.heap.size 42 13 (.slice v12a ((l ++ ([h] : List Hlf)).length) v12c) ((l ++ ([h] : List Hlf)).map hlfCells),rowF w.heap.size 42 13 (.slice (some ⟨g10,0,none⟩) 1 1) (([h] : List Hlf).map hlfCells),rowF w.heap.size 42 13 (.slice v2a l.length v2c) (l.map hlfCells),slF (.slice Al l.length Cl) 13 (l.map hlfCells)]⟩ : St)) y.1 y.2.1 y.2.2) ?_ ?_
  refine xe_region0 [] (by kernel_rfl) (fun ρ σ => ?_)
  refine xe_tkS [1,3] [16,14,0,2,8] 5 [(16,.v (.agg (hlfL h).toArray)),(14,.v (.slice Al l.length Cl)),(0,.v (.slice Al l.length Cl)),(2,.v (.int .i64 most)),(8,.v (.slice v2a l.length v2c))] (fun _ _ h => h) rfl (by kernel_rfl) ?_
  refine xe_all [0,4] (by kernel_rfl) (by simp) ⟨?_,?_⟩
  refine xs_hv 0 rfl (by kernel_rfl) (by kernel_rfl) (by kernel_rfl) (under_t under_nil) rfl (hv_build (e := 42) (K := 13) (bytes := 96) [] rfl (by kernel_rfl) (by kernel_rfl) (by kernel_rfl) (by kernel_rfl) (by kernel_rfl) (rs := ([] : List Hlf).map hlfCells) rfl) ?_
  intro g5
  refine xe_all [2,4] (by kernel_rfl) (by simp) ⟨?_,?_⟩
  refine xs_hv 2 rfl (by kernel_rfl) (by kernel_rfl) (by kernel_rfl) (under_t under_nil) rfl (hv_append (e := 42) (K := 13) (bytes := 96) (i := 0) (q := l.length) (new := l.map hlfCells) (rs' := l.map hlfCells) rfl rfl rfl rfl (by kernel_rfl) (by kernel_rfl) (by kernel_rfl) rfl (by simp) rfl (by simp) (fun ww hf => (hf (slF (.slice Al l.length Cl) 13 (l.map hlfCells)) (by simp))) (by intro r hr; obtain ⟨x,hx,rfl⟩ := List.mem_map.1 hr; exact ⟨rfl,by simp [hlfCells,Value.oneCell']⟩) (by simp only [List.length_map,List.length_append,List.length_cons,List.length_nil,maxLen]; omega) (by simp only [List.length_map,List.length_append,List.length_cons,List.length_nil,maxLen]; omega)) ?_
  rintro ⟨v8a,v8c⟩
  refine xe_all [4] (by kernel_rfl) (by simp) ?_
  refine xs_hv 4 rfl (by kernel_rfl) (by kernel_rfl) (by kernel_rfl) (under_t under_nil) rfl (hv_build (e := 42) (K := 13) (bytes := 96) [.agg (hlfL h).toArray] rfl (by kernel_rfl) (by kernel_rfl) (by kernel_rfl) (by kernel_rfl) (by kernel_rfl) (rs := ([h] : List Hlf).map hlfCells) rfl) ?_
  intro g10
  refine xe_all [5] (by kernel_rfl) (by simp) ?_
  refine xs_hv 5 rfl (by kernel_rfl) (by kernel_rfl) (by kernel_rfl) (under_t under_nil) rfl (hv_append (e := 42) (K := 13) (bytes := 96) (i := 1) (q := (l ++ ([h] : List Hlf)).length) (new := ([h] : List Hlf).map hlfCells) (rs' := (l ++ ([h] : List Hlf)).map hlfCells) rfl rfl rfl rfl (by kernel_rfl) (by kernel_rfl) (by kernel_rfl) rfl (by simp) (by rw [List.map_append]) (by simp) (fun ww hf => rowF_sl (hf (rowF w.heap.size 42 13 (.slice (some ⟨g10,0,none⟩) 1 1) (([h] : List Hlf).map hlfCells)) (by simp))) (by intro r hr; obtain ⟨x,hx,rfl⟩ := List.mem_map.1 hr; exact ⟨rfl,by simp [hlfCells,Value.oneCell']⟩) (by simp only [List.length_map,List.length_append,List.length_cons,List.length_nil,maxLen]; omega) (by simp only [List.length_map,List.length_append,List.length_cons,List.length_nil,maxLen]; omega)) ?_
  rintro ⟨v12a,v12c⟩
  refine xe_tkS [6] [9,0,2,8] 0 [(9,.v (.slice v12a ((l ++ ([h] : List Hlf)).length) v12c)),(0,.v (.slice Al l.length Cl)),(2,.v (.int .i64 most)),(8,.v (.slice v2a l.length v2c))] (fun _ _ h => h) rfl (by kernel_rfl) ?_
  refine xe_done (by kernel_rfl) ?_
  exact ⟨(v12a,v12c,g10),wk_forget 1 0 [0,2,8,9] (by kernel_rfl) (by kernel_rfl) (by kernel_rfl)⟩
  refine xs_hv 4 rfl (by kernel_rfl) (by kernel_rfl) (by kernel_rfl) (under_t under_nil) rfl (hv_build (e := 42) (K := 13) (bytes := 96) [.agg (hlfL h).toArray] rfl (by kernel_rfl) (by kernel_rfl) (by kernel_rfl) (by kernel_rfl) (by kernel_rfl) (rs := ([h] : List Hlf).map hlfCells) rfl) ?_
  intro g13
  refine xe_all [2] (by kernel_rfl) (by simp) ?_
  refine xs_hv 2 rfl (by kernel_rfl) (by kernel_rfl) (by kernel_rfl) (under_t under_nil) rfl (hv_append (e := 42) (K := 13) (bytes := 96) (i := 1) (q := l.length) (new := l.map hlfCells) (rs' := l.map hlfCells) rfl rfl rfl rfl (by kernel_rfl) (by kernel_rfl) (by kernel_rfl) rfl (by simp) rfl (by simp) (fun ww hf => (hf (slF (.slice Al l.length Cl) 13 (l.map hlfCells)) (by simp))) (by intro r hr; obtain ⟨x,hx,rfl⟩ := List.mem_map.1 hr; exact ⟨rfl,by simp [hlfCells,Value.oneCell']⟩) (by simp only [List.length_map,List.length_append,List.length_cons,List.length_nil,maxLen]; omega) (by simp only [List.length_map,List.length_append,List.length_cons,List.length_nil,maxLen]; omega)) ?_
  rintro ⟨v15a,v15c⟩
  refine xe_all [5] (by kernel_rfl) (by simp) ?_
  refine xs_hv 5 rfl (by kernel_rfl) (by kernel_rfl) (by kernel_rfl) (under_t under_nil) rfl (hv_append (e := 42) (K := 13) (bytes := 96) (i := 0) (q := (l ++ ([h] : List Hlf)).length) (new := ([h] : List Hlf).map hlfCells) (rs' := (l ++ ([h] : List Hlf)).map hlfCells) rfl rfl rfl rfl (by kernel_rfl) (by kernel_rfl) (by kernel_rfl) rfl (by simp) (by rw [List.map_append]) (by simp) (fun ww hf => rowF_sl (hf (rowF w.heap.size 42 13 (.slice (some ⟨g13,0,none⟩) 1 1) (([h] : List Hlf).map hlfCells)) (by simp))) (by intro r hr; obtain ⟨x,hx,rfl⟩ := List.mem_map.1 hr; exact ⟨rfl,by simp [hlfCells,Value.oneCell']⟩) (by simp only [List.length_map,List.length_append,List.length_cons,List.length_nil,maxLen]; omega) (by simp only [List.length_map,List.length_append,List.length_cons,List.length_nil,maxLen]; omega)) ?_
  rintro ⟨v17a,v17c⟩
  refine xe_tkS [6] [9,0,2,8] 0 [(9,.v (.slice v17a ((l ++ ([h] : List Hlf)).length) v17c)),(0,.v (.slice Al l.length Cl)),(2,.v (.int .i64 most)),(8,.v (.slice v2a l.length v2c))] (fun _ _ h => h) rfl (by kernel_rfl) ?_
  refine xe_done (by kernel_rfl) ?_
  exact ⟨(v17a,v17c,g13),wk_forget 1 0 [0,2,8,9] (by kernel_rfl) (by kernel_rfl) (by kernel_rfl)⟩
  refine xs_hv 4 rfl (by kernel_rfl) (by kernel_rfl) (by kernel_rfl) (under_t under_nil) rfl (hv_build (e := 42) (K := 13) (bytes := 96) [.agg (hlfL h).toArray] rfl (by kernel_rfl) (by kernel_rfl) (by kernel_rfl) (by kernel_rfl) (by kernel_rfl) (rs := ([h] : List Hlf).map hlfCells) rfl) ?_
  intro g18
  refine xe_all [0] (by kernel_rfl) (by simp) ?_
  refine xs_hv 0 rfl (by kernel_rfl) (by kernel_rfl) (by kernel_rfl) (under_t under_nil) rfl (hv_build (e := 42) (K := 13) (bytes := 96) [] rfl (by kernel_rfl) (by kernel_rfl) (by kernel_rfl) (by kernel_rfl) (by kernel_rfl) (rs := ([] : List Hlf).map hlfCells) rfl) ?_
  intro g20
  refine xe_all [2] (by kernel_rfl) (by simp) ?_
  refine xs_hv 2 rfl (by kernel_rfl) (by kernel_rfl) (by kernel_rfl) (under_t under_nil) rfl (hv_append (e := 42) (K := 13) (bytes := 96) (i := 0) (q := l.length) (new := l.map hlfCells) (rs' := l.map hlfCells) rfl rfl rfl rfl (by kernel_rfl) (by kernel_rfl) (by kernel_rfl) rfl (by simp) rfl (by simp) (fun ww hf => (hf (slF (.slice Al l.length Cl) 13 (l.map hlfCells)) (by simp))) (by intro r hr; obtain ⟨x,hx,rfl⟩ := List.mem_map.1 hr; exact ⟨rfl,by simp [hlfCells,Value.oneCell']⟩) (by simp only [List.length_map,List.length_append,List.length_cons,List.length_nil,maxLen]; omega) (by simp only [List.length_map,List.length_append,List.length_cons,List.length_nil,maxLen]; omega)) ?_
  rintro ⟨v22a,v22c⟩
  refine xe_all [5] (by kernel_rfl) (by simp) ?_
  refine xs_hv 5 rfl (by kernel_rfl) (by kernel_rfl) (by kernel_rfl) (under_t under_nil) rfl (hv_append (e := 42) (K := 13) (bytes := 96) (i := 0) (q := (l ++ ([h] : List Hlf)).length) (new := ([h] : List Hlf).map hlfCells) (rs' := (l ++ ([h] : List Hlf)).map hlfCells) rfl rfl rfl rfl (by kernel_rfl) (by kernel_rfl) (by kernel_rfl) rfl (by simp) (by rw [List.map_append]) (by simp) (fun ww hf => rowF_sl (hf (rowF w.heap.size 42 13 (.slice (some ⟨g18,0,none⟩) 1 1) (([h] : List Hlf).map hlfCells)) (by simp))) (by intro r hr; obtain ⟨x,hx,rfl⟩ := List.mem_map.1 hr; exact ⟨rfl,by simp [hlfCells,Value.oneCell']⟩) (by simp only [List.length_map,List.length_append,List.length_cons,List.length_nil,maxLen]; omega) (by simp only [List.length_map,List.length_append,List.length_cons,List.length_nil,maxLen]; omega)) ?_
  rintro ⟨v24a,v24c⟩
  refine xe_tkS [6] [9,0,2,8] 0 [(9,.v (.slice v24a ((l ++ ([h] : List Hlf)).length) v24c)),(0,.v (.slice Al l.length Cl)),(2,.v (.int .i64 most)),(8,.v (.slice v2a l.length v2c))] (fun _ _ h => h) rfl (by kernel_rfl) ?_
  refine xe_done (by kernel_rfl) ?_
  exact ⟨(v24a,v24c,g18),wk_forget 1 0 [0,2,8,9] (by kernel_rfl) (by kernel_rfl) (by kernel_rfl)⟩
  rintro ⟨v12a,v12c,g10⟩
  refine xw_seq ?_
  refine xw_seq ?_
  refine xw_join ⟨[(8,.v (.slice v2a l.length v2c)),(9,.v (.slice v12a ((l ++ ([h] : List Hlf)).length) v12c)),(27,.v (.bool ((decide (((l.length : Nat) : Int) ≥ most)) || (!(halvesOk (l ++ ([h] : List Hlf)))))))],[⟨42,hlfL h⟩],[],[rowF w.heap.size 42 13 (.slice v12a ((l ++ ([h] : List Hlf)).length) v12c) ((l ++ ([h] : List Hlf)).map hlfCells),rowF w.heap.size 42 13 (.slice (some ⟨g10,0,none⟩) 1 1) (([h] : List Hlf).map hlfCells),rowF w.heap.size 42 13 (.slice v2a l.length v2c) (l.map hlfCells),slF (.slice Al l.length Cl) 13 (l.map hlfCells)]⟩ ?_ ?_
  refine xw_region ?_
  refine xl_run 5 [8,9,23] ⟨[(8,.v (.slice v2a l.length v2c)),(9,.v (.slice v12a ((l ++ ([h] : List Hlf)).length) v12c)),(23,.v (.bool (decide (((l.length : Nat) : Int) ≥ most))))],[⟨42,hlfL h⟩],[],[rowF w.heap.size 42 13 (.slice v12a ((l ++ ([h] : List Hlf)).length) v12c) ((l ++ ([h] : List Hlf)).map hlfCells),rowF w.heap.size 42 13 (.slice (some ⟨g10,0,none⟩) 1 1) (([h] : List Hlf).map hlfCells),rowF w.heap.size 42 13 (.slice v2a l.length v2c) (l.map hlfCells),slF (.slice Al l.length Cl) 13 (l.map hlfCells)]⟩ (by kernel_rfl) ?_
  refine xl_split 23 (b := decide (((l.length : Nat) : Int) ≥ most)) (by kernel_rfl) (fun h25 => ?_) (fun h25 => ?_)
  have h25p : (((l.length : Nat) : Int) ≥ most) := of_decide_eq_true h25
  refine xl_endS [8,9,27] [(8,.v (.slice v2a l.length v2c)),(9,.v (.slice v12a ((l ++ ([h] : List Hlf)).length) v12c)),(27,.v (.bool true))] (by kernel_rfl) ?_
  show Wk _ _
  try rw [h25]
  exact wk_forget 1 0 [8,9,27] (by kernel_rfl) (by kernel_rfl) (by kernel_rfl)
  have h25p : ¬ (((l.length : Nat) : Int) ≥ most) := of_decide_eq_false h25
  refine xl_callS 1 [8,9,23,24] [(8,.v (.slice v2a l.length v2c)),(9,.v (.slice v12a ((l ++ ([h] : List Hlf)).length) v12c)),(23,.v (.bool false)),(24,.v (.slice v12a ((l ++ ([h] : List Hlf)).length) v12c))] 66 [.slice v12a ((l ++ ([h] : List Hlf)).length) v12c] (some 25) (by kernel_rfl) rfl (by kernel_rfl) rfl (by kernel_rfl) (xc_b fun ww hf => ysHalvesOk_c (l ++ ([h] : List Hlf)) (.slice v12a ((l ++ ([h] : List Hlf)).length) v12c) ww (rowF_sl (hf (rowF w.heap.size 42 13 (.slice v12a ((l ++ ([h] : List Hlf)).length) v12c) ((l ++ ([h] : List Hlf)).map hlfCells)) (by simp))) ) ?_
  intro _
  refine xl_endS [8,9,27] [(8,.v (.slice v2a l.length v2c)),(9,.v (.slice v12a ((l ++ ([h] : List Hlf)).length) v12c)),(27,.v (.bool (!(halvesOk (l ++ ([h] : List Hlf))))))] (by kernel_rfl) ?_
  show Wk _ _
  try rw [h25]
  exact wk_forget 1 0 [8,9,27] (by kernel_rfl) (by kernel_rfl) (by kernel_rfl)
  refine xw_cond (b := (decide (((l.length : Nat) : Int) ≥ most)) || (!(halvesOk (l ++ ([h] : List Hlf))))) (by kernel_rfl) (fun h26 => ?_) (fun h26 => ?_)
  refine xw_seq ?_
  refine xw_region ?_
  refine xl_endS [6,7] [(6,.v (.slice v2a l.length v2c)),(7,.v (.bool false))] (by kernel_rfl) ?_
  refine xw_ret ?_
  have hmod : putHalf l h most = (l,false) := by first | rfl | (simp [putHalf, *]; done) | grind [putHalf]
  exact ⟨[.slice v2a l.length v2c,.bool false],by kernel_rfl,fun w' hb hf ha => by rw [hmod]; exact xr_one ((v2a,v2c)) rfl rfl (rowF_ownF (hf (rowF w.heap.size 42 13 (.slice v2a l.length v2c) (l.map hlfCells)) (by simp)) hB) (fun b hb => rowF_lo (hf (rowF w.heap.size 42 13 (.slice v2a l.length v2c) (l.map hlfCells)) (by simp)) (rowF_blk hb)) hb⟩
  have h26l := or_l h26
  have h26r := or_r h26
  have h26rn := not_f h26r
  refine xw_skip ?_
  refine xw_seq ?_
  refine xw_region ?_
  refine xl_endS [6,7] [(6,.v (.slice v12a ((l ++ ([h] : List Hlf)).length) v12c)),(7,.v (.bool true))] (by kernel_rfl) ?_
  refine xw_ret ?_
  have hmod : putHalf l h most = ((l ++ ([h] : List Hlf)),true) := by first | rfl | (simp [putHalf, *]; done) | grind [putHalf]
  exact ⟨[.slice v12a ((l ++ ([h] : List Hlf)).length) v12c,.bool true],by kernel_rfl,fun w' hb hf ha => by rw [hmod]; exact xr_one ((v12a,v12c)) rfl rfl (rowF_ownF (hf (rowF w.heap.size 42 13 (.slice v12a ((l ++ ([h] : List Hlf)).length) v12c) ((l ++ ([h] : List Hlf)).map hlfCells)) (by simp)) hB) (fun b hb => rowF_lo (hf (rowF w.heap.size 42 13 (.slice v12a ((l ++ ([h] : List Hlf)).length) v12c) ((l ++ ([h] : List Hlf)).map hlfCells)) (by simp)) (rowF_blk hb)) hb⟩
theorem yiHalvesOk_c (l : List Hlf) (lV : Value) (w : World) (hl_lV : Sl w lV 13 (l.map hlfCells))  : Calls Try.prog 67 #[lV] w fun e w' => e = .returned (.bool (halvesOk l)) ∧ Below w.heap.size w w' := by
  obtain ⟨Al,Cl,hvl⟩ := hl_lV.form
  rw [List.length_map] at hvl; subst hvl
  have hnl := hl_lV.len; rw [List.length_map] at hnl
  refine x_calls (args := [.slice Al l.length Cl]) (fn := Try.f67) [slF (.slice Al l.length Cl) 13 (l.map hlfCells)] Try.func67 rfl Try.ntmps67 rfl (by simp only [List.mem_cons,List.not_mem_nil,or_false,forall_eq_or_imp,forall_eq]; exact ⟨rfl,hl_lV⟩) ?_
  refine xw_seq ?_
  refine xw_region ?_
  refine xl_end [0] ⟨[(0,.v (.slice Al l.length Cl))],[],[],[slF (.slice Al l.length Cl) 13 (l.map hlfCells)]⟩ (by kernel_rfl) ?_
  refine xw_seq ?_
  refine xw_seq ?_
  refine xw_region ?_
  refine xl_endS [0,7] [(0,.v (.slice Al l.length Cl)),(7,.v (.bool (decide (((l.length : Nat) : Int) > 64))))] (by kernel_rfl) ?_
  refine xw_cond (b := decide (((l.length : Nat) : Int) > 64)) (by kernel_rfl) (fun h1 => ?_) (fun h1 => ?_)
  have h1p : (((l.length : Nat) : Int) > 64) := of_decide_eq_true h1
  refine xw_seq ?_
  refine xw_region ?_
  refine xl_endS [2] [(2,.v (.bool false))] (by kernel_rfl) ?_
  refine xw_ret ?_
  exact ⟨[.bool false],by kernel_rfl,fun w' hb hf => ⟨ret_bool (show (false : Bool) = halvesOk l from by first | (exact (hno (by simp only [hOne]; clear HK hno; simp_all)).symm) | (exact hall.symm) | (rw [hall]; symm; simp; omega) | (exact (halvesOk_long (by omega)).symm)),hb⟩⟩
  have h1p : ¬ (((l.length : Nat) : Int) > 64) := of_decide_eq_false h1
  refine xw_skip ?_
  refine xw_seq ?_
  refine xw_seq ?_
  refine xw_region ?_
  refine xl_endS [0,8,9,10] [(0,.v (.slice Al l.length Cl)),(8,.v (.slice Al l.length Cl)),(9,.v (.int .i64 ((l.length : Nat) : Int))),(10,.v (.int .i64 0))] (by kernel_rfl) ?_
  refine xw_block ?_
  refine xw_loopW (α := {x : Nat // (fun (k : Nat) => k ≤ l.length ∧ ∀ (i : Nat) (x : Hlf),i < k → l[i]? = some x → hOne l i x = true) x}) (fun x => (fun (k : Nat) => (⟨[(0,.v (.slice Al l.length Cl)),(8,.v (.slice Al l.length Cl)),(9,.v (.int .i64 ((l.length : Nat) : Int))),(10,.v (.int .i64 (k : Int)))],[],[],[slF (.slice Al l.length Cl) 13 (l.map hlfCells)]⟩ : St)) x.1) (fun x => l.length - x.1) ⟨(0),⟨Nat.zero_le _,fun i x hi => by omega⟩⟩ (wk_forget 0 0 [0,8,9,10] (by kernel_rfl) (by kernel_rfl) (by kernel_rfl)) ?_
  rintro ⟨k,hk,HK⟩
  refine xw_wk (Wk.of_eq (s' := ⟨[(0,.v (.slice Al l.length Cl)),(8,.v (.slice Al l.length Cl)),(9,.v (.int .i64 ((l.length : Nat) : Int))),(10,.v (.int .i64 (k : Int)))],[],[],[slF (.slice Al l.length Cl) 13 (l.map hlfCells)]⟩) rfl) ?_
  try dsimp only at hk HK
  refine xw_seq ?_
  refine xw_region ?_
  refine xl_endS [0,8,9,10,11] [(0,.v (.slice Al l.length Cl)),(8,.v (.slice Al l.length Cl)),(9,.v (.int .i64 ((l.length : Nat) : Int))),(10,.v (.int .i64 (k : Int))),(11,.v (.bool (decide ((k : Int) < ((l.length : Nat) : Int)))))] (by kernel_rfl) ?_
  refine xw_seq ?_
  refine xw_cond (b := decide ((k : Int) < ((l.length : Nat) : Int))) (by kernel_rfl) (fun h2 => ?_) (fun h2 => ?_)
  have h2p : ((k : Int) < ((l.length : Nat) : Int)) := of_decide_eq_true h2
  have hlt : k < l.length := by simpa using h2
  obtain ⟨x,hx⟩ : ∃ x,l[k]? = some x := ⟨_,List.getElem?_eq_getElem hlt⟩
  have hft := findHalf_pre hx
  have hno := fun h => halvesOk_no hx h
  refine xw_skip ?_
  refine xw_seq ?_
  refine xw_block ?_
  refine xw_seq ?_
  refine xw_region ?_
  refine xl_indexS (kd := .i64) (T := 26) (e := 42) (K := 13) 1 [0,8,9,10,12] [(0,.v (.slice Al l.length Cl)),(8,.v (.slice Al l.length Cl)),(9,.v (.int .i64 ((l.length : Nat) : Int))),(10,.v (.int .i64 (k : Int))),(12,.v (.int .i64 (k : Int)))] k [.int .i64 x.t.ip,.int .i64 x.t.port,.int .i64 x.t.my,.int .i64 x.iss,.int .i64 x.irs,.int .i64 x.o.mss,.int .i64 x.o.scale,.bool x.o.sack,.bool x.o.stamp,.int .i64 x.o.val,.int .i64 x.o.echo,.int .i64 x.age,.int .i64 x.window] (slF (.slice Al l.length Cl) 13 (l.map hlfCells)) (by kernel_rfl) rfl (by kernel_rfl) rfl rfl (by kernel_rfl) (by kernel_rfl) (by kernel_rfl) (by kernel_rfl) hlt (by simp) (fun w h => h) (fun b h => h) (by simp only [List.getElem?_map,hx]; rfl) ?_
  refine xl_end [0,3,4,8,9,10] ⟨[(0,.v (.slice Al l.length Cl)),(3,.v (.int .i64 (k : Int))),(4,.p 0 0),(8,.v (.slice Al l.length Cl)),(9,.v (.int .i64 ((l.length : Nat) : Int))),(10,.v (.int .i64 (k : Int)))],[⟨42,hlfL x⟩],[[.int .i64 x.t.ip,.int .i64 x.t.port,.int .i64 x.t.my,.int .i64 x.iss,.int .i64 x.irs,.int .i64 x.o.mss,.int .i64 x.o.scale,.bool x.o.sack,.bool x.o.stamp,.int .i64 x.o.val,.int .i64 x.o.echo,.int .i64 x.age,.int .i64 x.window]],[slF (.slice Al l.length Cl) 13 (l.map hlfCells)]⟩ (by kernel_rfl) ?_
  refine xw_seq ?_
  refine xw_region ?_
  refine xl_callS 2 [0,3,4,8,9,10,16] [(0,.v (.slice Al l.length Cl)),(3,.v (.int .i64 (k : Int))),(4,.p 0 0),(8,.v (.slice Al l.length Cl)),(9,.v (.int .i64 ((l.length : Nat) : Int))),(10,.v (.int .i64 (k : Int))),(16,.v (.agg (tupL x.t).toArray))] 137 [.agg (tupL x.t).toArray] (some 17) (by kernel_rfl) rfl (by kernel_rfl) rfl (by kernel_rfl) (xc_b fun ww hf => iTupleOk_c x.t.ip x.t.port x.t.my ww ) ?_
  intro _
  refine xl_runS 2 [0,3,4,8,9,10,19] [(0,.v (.slice Al l.length Cl)),(3,.v (.int .i64 (k : Int))),(4,.p 0 0),(8,.v (.slice Al l.length Cl)),(9,.v (.int .i64 ((l.length : Nat) : Int))),(10,.v (.int .i64 (k : Int))),(19,.v (.bool (!(tupleOk x.t))))] (by kernel_rfl) ?_
  refine xl_split 19 (b := !(tupleOk x.t)) (by kernel_rfl) (fun h3 => ?_) (fun h3 => ?_)
  have h3n := not_t h3
  refine xl_endS [0,8,9,10,56] [(0,.v (.slice Al l.length Cl)),(8,.v (.slice Al l.length Cl)),(9,.v (.int .i64 ((l.length : Nat) : Int))),(10,.v (.int .i64 (k : Int))),(56,.v (.bool true))] (by kernel_rfl) ?_
  refine xw_true (by kernel_rfl) ?_
  refine xw_seq ?_
  refine xw_region ?_
  refine xl_endS [2] [(2,.v (.bool false))] (by kernel_rfl) ?_
  refine xw_ret ?_
  exact ⟨[.bool false],by kernel_rfl,fun w' hb hf => ⟨ret_bool (show (false : Bool) = halvesOk l from by first | (exact (hno (by simp only [hOne]; clear HK hno; simp_all)).symm) | (exact hall.symm) | (rw [hall]; symm; simp; omega) | (exact (halvesOk_long (by omega)).symm)),hb⟩⟩
  have h3n := not_f h3
  refine xl_callS 2 [0,3,4,8,9,10,19,20,21] [(0,.v (.slice Al l.length Cl)),(3,.v (.int .i64 (k : Int))),(4,.p 0 0),(8,.v (.slice Al l.length Cl)),(9,.v (.int .i64 ((l.length : Nat) : Int))),(10,.v (.int .i64 (k : Int))),(19,.v (.bool false)),(20,.p 0 3),(21,.v (.int .i64 x.iss))] 76 [.int .i64 x.iss,.int .i64 32] (some 22) (by kernel_rfl) rfl (by kernel_rfl) rfl (by kernel_rfl) (xc_s fun ww hf => iWordOk32_c x.iss ww) ?_
  intro _
  refine xl_runS 3 [0,3,4,8,9,10,20,21,22,23,25] [(0,.v (.slice Al l.length Cl)),(3,.v (.int .i64 (k : Int))),(4,.p 0 0),(8,.v (.slice Al l.length Cl)),(9,.v (.int .i64 ((l.length : Nat) : Int))),(10,.v (.int .i64 (k : Int))),(20,.p 0 3),(21,.v (.int .i64 x.iss)),(22,.v (.bool (wordOk x.iss 32))),(23,.v (.bool (!(wordOk x.iss 32)))),(25,.v (.bool (!(wordOk x.iss 32))))] (by kernel_rfl) ?_
  refine xl_split 25 (b := !(wordOk x.iss 32)) (by kernel_rfl) (fun h4 => ?_) (fun h4 => ?_)
  have h4n := not_t h4
  refine xl_endS [0,8,9,10,20,21,22,23,56] [(0,.v (.slice Al l.length Cl)),(8,.v (.slice Al l.length Cl)),(9,.v (.int .i64 ((l.length : Nat) : Int))),(10,.v (.int .i64 (k : Int))),(20,.p 0 3),(21,.v (.int .i64 x.iss)),(22,.v (.bool (wordOk x.iss 32))),(23,.v (.bool (!(wordOk x.iss 32)))),(56,.v (.bool true))] (by kernel_rfl) ?_
  refine xw_true (by kernel_rfl) ?_
  refine xw_seq ?_
  refine xw_region ?_
  refine xl_endS [2] [(2,.v (.bool false))] (by kernel_rfl) ?_
  refine xw_ret ?_
  exact ⟨[.bool false],by kernel_rfl,fun w' hb hf => ⟨ret_bool (show (false : Bool) = halvesOk l from by first | (exact (hno (by simp only [hOne]; clear HK hno; simp_all)).symm) | (exact hall.symm) | (rw [hall]; symm; simp; omega) | (exact (halvesOk_long (by omega)).symm)),hb⟩⟩
  have h4n := not_f h4
  refine xl_callS 2 [0,3,4,8,9,10,20,21,22,23,25,26,27] [(0,.v (.slice Al l.length Cl)),(3,.v (.int .i64 (k : Int))),(4,.p 0 0),(8,.v (.slice Al l.length Cl)),(9,.v (.int .i64 ((l.length : Nat) : Int))),(10,.v (.int .i64 (k : Int))),(20,.p 0 3),(21,.v (.int .i64 x.iss)),(22,.v (.bool (wordOk x.iss 32))),(23,.v (.bool (!(wordOk x.iss 32)))),(25,.v (.bool false)),(26,.p 0 4),(27,.v (.int .i64 x.irs))] 76 [.int .i64 x.irs,.int .i64 32] (some 28) (by kernel_rfl) rfl (by kernel_rfl) rfl (by kernel_rfl) (xc_s fun ww hf => iWordOk32_c x.irs ww) ?_
  intro _
  refine xl_runS 3 [0,3,4,8,9,10,20,21,22,23,26,27,28,29,31] [(0,.v (.slice Al l.length Cl)),(3,.v (.int .i64 (k : Int))),(4,.p 0 0),(8,.v (.slice Al l.length Cl)),(9,.v (.int .i64 ((l.length : Nat) : Int))),(10,.v (.int .i64 (k : Int))),(20,.p 0 3),(21,.v (.int .i64 x.iss)),(22,.v (.bool (wordOk x.iss 32))),(23,.v (.bool (!(wordOk x.iss 32)))),(26,.p 0 4),(27,.v (.int .i64 x.irs)),(28,.v (.bool (wordOk x.irs 32))),(29,.v (.bool (!(wordOk x.irs 32)))),(31,.v (.bool (!(wordOk x.irs 32))))] (by kernel_rfl) ?_
  refine xl_split 31 (b := !(wordOk x.irs 32)) (by kernel_rfl) (fun h5 => ?_) (fun h5 => ?_)
  have h5n := not_t h5
  refine xl_endS [0,8,9,10,20,21,22,23,26,27,28,29,56] [(0,.v (.slice Al l.length Cl)),(8,.v (.slice Al l.length Cl)),(9,.v (.int .i64 ((l.length : Nat) : Int))),(10,.v (.int .i64 (k : Int))),(20,.p 0 3),(21,.v (.int .i64 x.iss)),(22,.v (.bool (wordOk x.iss 32))),(23,.v (.bool (!(wordOk x.iss 32)))),(26,.p 0 4),(27,.v (.int .i64 x.irs)),(28,.v (.bool (wordOk x.irs 32))),(29,.v (.bool (!(wordOk x.irs 32)))),(56,.v (.bool true))] (by kernel_rfl) ?_
  refine xw_true (by kernel_rfl) ?_
  refine xw_seq ?_
  refine xw_region ?_
  refine xl_endS [2] [(2,.v (.bool false))] (by kernel_rfl) ?_
  refine xw_ret ?_
  exact ⟨[.bool false],by kernel_rfl,fun w' hb hf => ⟨ret_bool (show (false : Bool) = halvesOk l from by first | (exact (hno (by simp only [hOne]; clear HK hno; simp_all)).symm) | (exact hall.symm) | (rw [hall]; symm; simp; omega) | (exact (halvesOk_long (by omega)).symm)),hb⟩⟩
  have h5n := not_f h5
  refine xl_callS 2 [0,3,4,8,9,10,20,21,22,23,26,27,28,29,31,32,33] [(0,.v (.slice Al l.length Cl)),(3,.v (.int .i64 (k : Int))),(4,.p 0 0),(8,.v (.slice Al l.length Cl)),(9,.v (.int .i64 ((l.length : Nat) : Int))),(10,.v (.int .i64 (k : Int))),(20,.p 0 3),(21,.v (.int .i64 x.iss)),(22,.v (.bool (wordOk x.iss 32))),(23,.v (.bool (!(wordOk x.iss 32)))),(26,.p 0 4),(27,.v (.int .i64 x.irs)),(28,.v (.bool (wordOk x.irs 32))),(29,.v (.bool (!(wordOk x.irs 32)))),(31,.v (.bool false)),(32,.p 0 12),(33,.v (.int .i64 x.window))] 76 [.int .i64 x.window,.int .i64 16] (some 34) (by kernel_rfl) rfl (by kernel_rfl) rfl (by kernel_rfl) (xc_s fun ww hf => iWordOk16_c x.window ww) ?_
  intro _
  refine xl_runS 3 [0,3,4,8,9,10,20,21,22,23,26,27,28,29,32,33,34,35,37] [(0,.v (.slice Al l.length Cl)),(3,.v (.int .i64 (k : Int))),(4,.p 0 0),(8,.v (.slice Al l.length Cl)),(9,.v (.int .i64 ((l.length : Nat) : Int))),(10,.v (.int .i64 (k : Int))),(20,.p 0 3),(21,.v (.int .i64 x.iss)),(22,.v (.bool (wordOk x.iss 32))),(23,.v (.bool (!(wordOk x.iss 32)))),(26,.p 0 4),(27,.v (.int .i64 x.irs)),(28,.v (.bool (wordOk x.irs 32))),(29,.v (.bool (!(wordOk x.irs 32)))),(32,.p 0 12),(33,.v (.int .i64 x.window)),(34,.v (.bool (wordOk x.window 16))),(35,.v (.bool (!(wordOk x.window 16)))),(37,.v (.bool (!(wordOk x.window 16))))] (by kernel_rfl) ?_
  refine xl_split 37 (b := !(wordOk x.window 16)) (by kernel_rfl) (fun h6 => ?_) (fun h6 => ?_)
  have h6n := not_t h6
  refine xl_endS [0,8,9,10,20,21,22,23,26,27,28,29,32,33,34,35,56] [(0,.v (.slice Al l.length Cl)),(8,.v (.slice Al l.length Cl)),(9,.v (.int .i64 ((l.length : Nat) : Int))),(10,.v (.int .i64 (k : Int))),(20,.p 0 3),(21,.v (.int .i64 x.iss)),(22,.v (.bool (wordOk x.iss 32))),(23,.v (.bool (!(wordOk x.iss 32)))),(26,.p 0 4),(27,.v (.int .i64 x.irs)),(28,.v (.bool (wordOk x.irs 32))),(29,.v (.bool (!(wordOk x.irs 32)))),(32,.p 0 12),(33,.v (.int .i64 x.window)),(34,.v (.bool (wordOk x.window 16))),(35,.v (.bool (!(wordOk x.window 16)))),(56,.v (.bool true))] (by kernel_rfl) ?_
  refine xw_true (by kernel_rfl) ?_
  refine xw_seq ?_
  refine xw_region ?_
  refine xl_endS [2] [(2,.v (.bool false))] (by kernel_rfl) ?_
  refine xw_ret ?_
  exact ⟨[.bool false],by kernel_rfl,fun w' hb hf => ⟨ret_bool (show (false : Bool) = halvesOk l from by first | (exact (hno (by simp only [hOne]; clear HK hno; simp_all)).symm) | (exact hall.symm) | (rw [hall]; symm; simp; omega) | (exact (halvesOk_long (by omega)).symm)),hb⟩⟩
  have h6n := not_f h6
  have h6nw := wordOk16_bd (by simpa using h6n)
  obtain ⟨h6nw0,h6nw1⟩ := h6nw
  refine xl_callS 2 [0,3,4,8,9,10,20,21,22,23,26,27,28,29,32,33,34,35,37,38,39] [(0,.v (.slice Al l.length Cl)),(3,.v (.int .i64 (k : Int))),(4,.p 0 0),(8,.v (.slice Al l.length Cl)),(9,.v (.int .i64 ((l.length : Nat) : Int))),(10,.v (.int .i64 (k : Int))),(20,.p 0 3),(21,.v (.int .i64 x.iss)),(22,.v (.bool (wordOk x.iss 32))),(23,.v (.bool (!(wordOk x.iss 32)))),(26,.p 0 4),(27,.v (.int .i64 x.irs)),(28,.v (.bool (wordOk x.irs 32))),(29,.v (.bool (!(wordOk x.irs 32)))),(32,.p 0 12),(33,.v (.int .i64 x.window)),(34,.v (.bool (wordOk x.window 16))),(35,.v (.bool (!(wordOk x.window 16)))),(37,.v (.bool false)),(38,.p 0 5),(39,.v (.agg (optL x.o).toArray))] 74 [.agg (optL x.o).toArray] (some 40) (by kernel_rfl) rfl (by kernel_rfl) rfl (by kernel_rfl) (xc_b fun ww hf => iOptionsOk_c x.o.mss x.o.scale x.o.sack x.o.stamp x.o.val x.o.echo ww ) ?_
  intro _
  refine xl_runS 3 [0,3,4,8,9,10,20,21,22,23,26,27,28,29,32,33,34,35,38,39,40,41,43] [(0,.v (.slice Al l.length Cl)),(3,.v (.int .i64 (k : Int))),(4,.p 0 0),(8,.v (.slice Al l.length Cl)),(9,.v (.int .i64 ((l.length : Nat) : Int))),(10,.v (.int .i64 (k : Int))),(20,.p 0 3),(21,.v (.int .i64 x.iss)),(22,.v (.bool (wordOk x.iss 32))),(23,.v (.bool (!(wordOk x.iss 32)))),(26,.p 0 4),(27,.v (.int .i64 x.irs)),(28,.v (.bool (wordOk x.irs 32))),(29,.v (.bool (!(wordOk x.irs 32)))),(32,.p 0 12),(33,.v (.int .i64 x.window)),(34,.v (.bool (wordOk x.window 16))),(35,.v (.bool (!(wordOk x.window 16)))),(38,.p 0 5),(39,.v (.agg (optL x.o).toArray)),(40,.v (.bool (optionsOk x.o))),(41,.v (.bool (!(optionsOk x.o)))),(43,.v (.bool (!(optionsOk x.o))))] (by kernel_rfl) ?_
  refine xl_split 43 (b := !(optionsOk x.o)) (by kernel_rfl) (fun h7 => ?_) (fun h7 => ?_)
  have h7n := not_t h7
  refine xl_endS [0,8,9,10,20,21,22,23,26,27,28,29,32,33,34,35,38,39,40,41,56] [(0,.v (.slice Al l.length Cl)),(8,.v (.slice Al l.length Cl)),(9,.v (.int .i64 ((l.length : Nat) : Int))),(10,.v (.int .i64 (k : Int))),(20,.p 0 3),(21,.v (.int .i64 x.iss)),(22,.v (.bool (wordOk x.iss 32))),(23,.v (.bool (!(wordOk x.iss 32)))),(26,.p 0 4),(27,.v (.int .i64 x.irs)),(28,.v (.bool (wordOk x.irs 32))),(29,.v (.bool (!(wordOk x.irs 32)))),(32,.p 0 12),(33,.v (.int .i64 x.window)),(34,.v (.bool (wordOk x.window 16))),(35,.v (.bool (!(wordOk x.window 16)))),(38,.p 0 5),(39,.v (.agg (optL x.o).toArray)),(40,.v (.bool (optionsOk x.o))),(41,.v (.bool (!(optionsOk x.o)))),(56,.v (.bool true))] (by kernel_rfl) ?_
  refine xw_true (by kernel_rfl) ?_
  refine xw_seq ?_
  refine xw_region ?_
  refine xl_endS [2] [(2,.v (.bool false))] (by kernel_rfl) ?_
  refine xw_ret ?_
  exact ⟨[.bool false],by kernel_rfl,fun w' hb hf => ⟨ret_bool (show (false : Bool) = halvesOk l from by first | (exact (hno (by simp only [hOne]; clear HK hno; simp_all)).symm) | (exact hall.symm) | (rw [hall]; symm; simp; omega) | (exact (halvesOk_long (by omega)).symm)),hb⟩⟩
  have h7n := not_f h7
  have h7nw := optionsOk_bd (by simpa using h7n)
  obtain ⟨h7nw0,h7nw1⟩ := h7nw
  refine xl_callS 2 [0,3,4,8,9,10,20,21,22,23,26,27,28,29,32,33,34,35,38,39,40,41,43,44,45] [(0,.v (.slice Al l.length Cl)),(3,.v (.int .i64 (k : Int))),(4,.p 0 0),(8,.v (.slice Al l.length Cl)),(9,.v (.int .i64 ((l.length : Nat) : Int))),(10,.v (.int .i64 (k : Int))),(20,.p 0 3),(21,.v (.int .i64 x.iss)),(22,.v (.bool (wordOk x.iss 32))),(23,.v (.bool (!(wordOk x.iss 32)))),(26,.p 0 4),(27,.v (.int .i64 x.irs)),(28,.v (.bool (wordOk x.irs 32))),(29,.v (.bool (!(wordOk x.irs 32)))),(32,.p 0 12),(33,.v (.int .i64 x.window)),(34,.v (.bool (wordOk x.window 16))),(35,.v (.bool (!(wordOk x.window 16)))),(38,.p 0 5),(39,.v (.agg (optL x.o).toArray)),(40,.v (.bool (optionsOk x.o))),(41,.v (.bool (!(optionsOk x.o)))),(43,.v (.bool false)),(44,.p 0 11),(45,.v (.int .i64 x.age))] 138 [.int .i64 x.age,.int .i64 0,.int .i64 6] (some 46) (by kernel_rfl) rfl (by kernel_rfl) rfl (by kernel_rfl) (xc_s fun ww hf => within_c x.age 0 6 ww ) ?_
  intro _
  refine xl_runS 3 [0,3,4,8,9,10,20,21,22,23,26,27,28,29,32,33,34,35,38,39,40,41,44,45,46,47,49] [(0,.v (.slice Al l.length Cl)),(3,.v (.int .i64 (k : Int))),(4,.p 0 0),(8,.v (.slice Al l.length Cl)),(9,.v (.int .i64 ((l.length : Nat) : Int))),(10,.v (.int .i64 (k : Int))),(20,.p 0 3),(21,.v (.int .i64 x.iss)),(22,.v (.bool (wordOk x.iss 32))),(23,.v (.bool (!(wordOk x.iss 32)))),(26,.p 0 4),(27,.v (.int .i64 x.irs)),(28,.v (.bool (wordOk x.irs 32))),(29,.v (.bool (!(wordOk x.irs 32)))),(32,.p 0 12),(33,.v (.int .i64 x.window)),(34,.v (.bool (wordOk x.window 16))),(35,.v (.bool (!(wordOk x.window 16)))),(38,.p 0 5),(39,.v (.agg (optL x.o).toArray)),(40,.v (.bool (optionsOk x.o))),(41,.v (.bool (!(optionsOk x.o)))),(44,.p 0 11),(45,.v (.int .i64 x.age)),(46,.v (.bool (inB x.age 0 6))),(47,.v (.bool (!(inB x.age 0 6)))),(49,.v (.bool (!(inB x.age 0 6))))] (by kernel_rfl) ?_
  refine xl_split 49 (b := !(inB x.age 0 6)) (by kernel_rfl) (fun h8 => ?_) (fun h8 => ?_)
  have h8n := not_t h8
  have h8ni := inB_ff.1 (show inB x.age 0 6 = false from by simpa using h8n)
  refine xl_endS [0,8,9,10,20,21,22,23,26,27,28,29,32,33,34,35,38,39,40,41,44,45,46,47,56] [(0,.v (.slice Al l.length Cl)),(8,.v (.slice Al l.length Cl)),(9,.v (.int .i64 ((l.length : Nat) : Int))),(10,.v (.int .i64 (k : Int))),(20,.p 0 3),(21,.v (.int .i64 x.iss)),(22,.v (.bool (wordOk x.iss 32))),(23,.v (.bool (!(wordOk x.iss 32)))),(26,.p 0 4),(27,.v (.int .i64 x.irs)),(28,.v (.bool (wordOk x.irs 32))),(29,.v (.bool (!(wordOk x.irs 32)))),(32,.p 0 12),(33,.v (.int .i64 x.window)),(34,.v (.bool (wordOk x.window 16))),(35,.v (.bool (!(wordOk x.window 16)))),(38,.p 0 5),(39,.v (.agg (optL x.o).toArray)),(40,.v (.bool (optionsOk x.o))),(41,.v (.bool (!(optionsOk x.o)))),(44,.p 0 11),(45,.v (.int .i64 x.age)),(46,.v (.bool (inB x.age 0 6))),(47,.v (.bool (!(inB x.age 0 6)))),(56,.v (.bool true))] (by kernel_rfl) ?_
  refine xw_true (by kernel_rfl) ?_
  refine xw_seq ?_
  refine xw_region ?_
  refine xl_endS [2] [(2,.v (.bool false))] (by kernel_rfl) ?_
  refine xw_ret ?_
  exact ⟨[.bool false],by kernel_rfl,fun w' hb hf => ⟨ret_bool (show (false : Bool) = halvesOk l from by first | (exact (hno (by simp only [hOne]; clear HK hno; simp_all)).symm) | (exact hall.symm) | (rw [hall]; symm; simp; omega) | (exact (halvesOk_long (by omega)).symm)),hb⟩⟩
  have h8n := not_f h8
  have h8ni := inB_tt.1 (show inB x.age 0 6 = true from by simpa using h8n)
  refine xl_callS 3 [0,3,8,9,10,20,21,22,23,26,27,28,29,32,33,34,35,38,39,40,41,44,45,46,47,49,50,51,52] [(0,.v (.slice Al l.length Cl)),(3,.v (.int .i64 (k : Int))),(8,.v (.slice Al l.length Cl)),(9,.v (.int .i64 ((l.length : Nat) : Int))),(10,.v (.int .i64 (k : Int))),(20,.p 0 3),(21,.v (.int .i64 x.iss)),(22,.v (.bool (wordOk x.iss 32))),(23,.v (.bool (!(wordOk x.iss 32)))),(26,.p 0 4),(27,.v (.int .i64 x.irs)),(28,.v (.bool (wordOk x.irs 32))),(29,.v (.bool (!(wordOk x.irs 32)))),(32,.p 0 12),(33,.v (.int .i64 x.window)),(34,.v (.bool (wordOk x.window 16))),(35,.v (.bool (!(wordOk x.window 16)))),(38,.p 0 5),(39,.v (.agg (optL x.o).toArray)),(40,.v (.bool (optionsOk x.o))),(41,.v (.bool (!(optionsOk x.o)))),(44,.p 0 11),(45,.v (.int .i64 x.age)),(46,.v (.bool (inB x.age 0 6))),(47,.v (.bool (!(inB x.age 0 6)))),(49,.v (.bool false)),(50,.v (.slice Al l.length Cl)),(51,.p 0 0),(52,.v (.agg (tupL x.t).toArray))] 63 [.slice Al l.length Cl,.agg (tupL x.t).toArray] (some 53) (by kernel_rfl) rfl (by kernel_rfl) rfl (by kernel_rfl) (xc_b fun ww hf => iFindHalf_c (.slice Al l.length Cl) l x.t.ip x.t.port x.t.my ww (hf (slF (.slice Al l.length Cl) 13 (l.map hlfCells)) (by simp)) ) ?_
  intro _
  refine xl_endS [0,8,9,10,20,21,22,23,26,27,28,29,32,33,34,35,38,39,40,41,44,45,46,47,50,51,52,53,54,55,56] [(0,.v (.slice Al l.length Cl)),(8,.v (.slice Al l.length Cl)),(9,.v (.int .i64 ((l.length : Nat) : Int))),(10,.v (.int .i64 (k : Int))),(20,.p 0 3),(21,.v (.int .i64 x.iss)),(22,.v (.bool (wordOk x.iss 32))),(23,.v (.bool (!(wordOk x.iss 32)))),(26,.p 0 4),(27,.v (.int .i64 x.irs)),(28,.v (.bool (wordOk x.irs 32))),(29,.v (.bool (!(wordOk x.irs 32)))),(32,.p 0 12),(33,.v (.int .i64 x.window)),(34,.v (.bool (wordOk x.window 16))),(35,.v (.bool (!(wordOk x.window 16)))),(38,.p 0 5),(39,.v (.agg (optL x.o).toArray)),(40,.v (.bool (optionsOk x.o))),(41,.v (.bool (!(optionsOk x.o)))),(44,.p 0 11),(45,.v (.int .i64 x.age)),(46,.v (.bool (inB x.age 0 6))),(47,.v (.bool (!(inB x.age 0 6)))),(50,.v (.slice Al l.length Cl)),(51,.p 0 0),(52,.v (.agg (tupL x.t).toArray)),(53,.v (.int .i64 (findHalf l x.t))),(54,.v (.int .i64 (k : Int))),(55,.v (.bool ((findHalf l x.t) != (k : Int)))),(56,.v (.bool ((findHalf l x.t) != (k : Int))))] (by kernel_rfl) ?_
  refine xw_cond (b := (findHalf l x.t) != (k : Int)) (by kernel_rfl) (fun h9 => ?_) (fun h9 => ?_)
  have h9p := neT h9
  refine xw_seq ?_
  refine xw_region ?_
  refine xl_endS [2] [(2,.v (.bool false))] (by kernel_rfl) ?_
  refine xw_ret ?_
  exact ⟨[.bool false],by kernel_rfl,fun w' hb hf => ⟨ret_bool (show (false : Bool) = halvesOk l from by first | (exact (hno (by simp only [hOne]; clear HK hno; simp_all)).symm) | (exact hall.symm) | (rw [hall]; symm; simp; omega) | (exact (halvesOk_long (by omega)).symm)),hb⟩⟩
  have h9p := neF h9
  refine xw_skip ?_
  refine xw_region ?_
  refine xl_runS 2 [0,8,9,10,20,21,22,23,26,27,28,29,32,33,34,35,38,39,40,41,44,45,46,47,50,51,52,53,54,55] [(0,.v (.slice Al l.length Cl)),(8,.v (.slice Al l.length Cl)),(9,.v (.int .i64 ((l.length : Nat) : Int))),(10,.v (.int .i64 (IntKind.i64.wrap ((k : Int) + 1)))),(20,.p 0 3),(21,.v (.int .i64 x.iss)),(22,.v (.bool (wordOk x.iss 32))),(23,.v (.bool (!(wordOk x.iss 32)))),(26,.p 0 4),(27,.v (.int .i64 x.irs)),(28,.v (.bool (wordOk x.irs 32))),(29,.v (.bool (!(wordOk x.irs 32)))),(32,.p 0 12),(33,.v (.int .i64 x.window)),(34,.v (.bool (wordOk x.window 16))),(35,.v (.bool (!(wordOk x.window 16)))),(38,.p 0 5),(39,.v (.agg (optL x.o).toArray)),(40,.v (.bool (optionsOk x.o))),(41,.v (.bool (!(optionsOk x.o)))),(44,.p 0 11),(45,.v (.int .i64 x.age)),(46,.v (.bool (inB x.age 0 6))),(47,.v (.bool (!(inB x.age 0 6)))),(50,.v (.slice Al l.length Cl)),(51,.p 0 0),(52,.v (.agg (tupL x.t).toArray)),(53,.v (.int .i64 (findHalf l x.t))),(54,.v (.int .i64 (k : Int))),(55,.v (.bool ((findHalf l x.t) != (k : Int))))] (by kernel_rfl) ?_
  refine xl_eqS (t' := [(0,.v (.slice Al l.length Cl)),(8,.v (.slice Al l.length Cl)),(9,.v (.int .i64 ((l.length : Nat) : Int))),(10,.v (.int .i64 ((k : Int) + 1))),(20,.p 0 3),(21,.v (.int .i64 x.iss)),(22,.v (.bool (wordOk x.iss 32))),(23,.v (.bool (!(wordOk x.iss 32)))),(26,.p 0 4),(27,.v (.int .i64 x.irs)),(28,.v (.bool (wordOk x.irs 32))),(29,.v (.bool (!(wordOk x.irs 32)))),(32,.p 0 12),(33,.v (.int .i64 x.window)),(34,.v (.bool (wordOk x.window 16))),(35,.v (.bool (!(wordOk x.window 16)))),(38,.p 0 5),(39,.v (.agg (optL x.o).toArray)),(40,.v (.bool (optionsOk x.o))),(41,.v (.bool (!(optionsOk x.o)))),(44,.p 0 11),(45,.v (.int .i64 x.age)),(46,.v (.bool (inB x.age 0 6))),(47,.v (.bool (!(inB x.age 0 6)))),(50,.v (.slice Al l.length Cl)),(51,.p 0 0),(52,.v (.agg (tupL x.t).toArray)),(53,.v (.int .i64 (findHalf l x.t))),(54,.v (.int .i64 (k : Int))),(55,.v (.bool ((findHalf l x.t) != (k : Int))))]) (by rw [show (IntKind.i64.wrap ((k : Int) + 1)) = ((k : Int) + 1) from wrap_id (by omega) (by omega)]) ?_
  refine xl_endS [0,8,9,10,20,21,22,23,26,27,28,29,32,33,34,35,38,39,40,41,44,45,46,47,50,51,52,53,54,55] [(0,.v (.slice Al l.length Cl)),(8,.v (.slice Al l.length Cl)),(9,.v (.int .i64 ((l.length : Nat) : Int))),(10,.v (.int .i64 ((k : Int) + 1))),(20,.p 0 3),(21,.v (.int .i64 x.iss)),(22,.v (.bool (wordOk x.iss 32))),(23,.v (.bool (!(wordOk x.iss 32)))),(26,.p 0 4),(27,.v (.int .i64 x.irs)),(28,.v (.bool (wordOk x.irs 32))),(29,.v (.bool (!(wordOk x.irs 32)))),(32,.p 0 12),(33,.v (.int .i64 x.window)),(34,.v (.bool (wordOk x.window 16))),(35,.v (.bool (!(wordOk x.window 16)))),(38,.p 0 5),(39,.v (.agg (optL x.o).toArray)),(40,.v (.bool (optionsOk x.o))),(41,.v (.bool (!(optionsOk x.o)))),(44,.p 0 11),(45,.v (.int .i64 x.age)),(46,.v (.bool (inB x.age 0 6))),(47,.v (.bool (!(inB x.age 0 6)))),(50,.v (.slice Al l.length Cl)),(51,.p 0 0),(52,.v (.agg (tupL x.t).toArray)),(53,.v (.int .i64 (findHalf l x.t))),(54,.v (.int .i64 (k : Int))),(55,.v (.bool ((findHalf l x.t) != (k : Int))))] (by kernel_rfl) ?_
  exact ⟨⟨(k + 1),⟨by omega,half_step hx (by simp only [hOne]; clear HK; simp_all) HK⟩⟩,wk_forget 0 0 [0,8,9,10] (by kernel_rfl) (by kernel_rfl) (by kernel_rfl),by show l.length - (k + 1) < l.length - k; omega⟩
  have h2p : ¬ ((k : Int) < ((l.length : Nat) : Int)) := of_decide_eq_false h2
  have hge : k = l.length := by simp at h2; omega
  have hall := halvesOk_all hge HK
  refine xw_exit ?_
  refine xw_seq ?_
  refine xw_region ?_
  refine xl_endS [2] [(2,.v (.bool true))] (by kernel_rfl) ?_
  refine xw_ret ?_
  exact ⟨[.bool true],by kernel_rfl,fun w' hb hf => ⟨ret_bool (show (true : Bool) = halvesOk l from by first | (exact (hno (by simp only [hOne]; clear HK hno; simp_all)).symm) | (exact hall.symm) | (rw [hall]; symm; simp; omega) | (exact (halvesOk_long (by omega)).symm)),hb⟩⟩
set_option maxHeartbeats 1000000 in
theorem yiPutHalf_c (l : List Hlf) (lV : Value) (h : Hlf) (most : Int) (w : World) (hl_lV : Sl w lV 13 (l.map hlfCells)) (hkn : l.length ≤ 1048576) (B : Nat) (hB : B ≤ w.heap.size) : Calls Try.prog 24 #[lV, .agg (hlfL h).toArray, .int .i64 most] w fun e w' => XRs w w' e (α := Option Addr × Nat) (fun y => .tuple #[.slice y.1 ((putHalf l h most).1.length) y.2, .bool ((putHalf l h most).2)]) (fun y => [ownF B (.slice y.1 ((putHalf l h most).1.length) y.2) 13 ((putHalf l h most).1.map hlfCells)]) := by
  obtain ⟨Al,Cl,hvl⟩ := hl_lV.form
  rw [List.length_map] at hvl; subst hvl
  have hnl := hl_lV.len; rw [List.length_map] at hnl
  refine x_callsA (args := [.slice Al l.length Cl,.agg (hlfL h).toArray,.int .i64 most]) (fn := Try.f24) [slF (.slice Al l.length Cl) 13 (l.map hlfCells)] Try.func24 rfl Try.ntmps24 rfl (by simp only [List.mem_cons,List.not_mem_nil,or_false,forall_eq_or_imp,forall_eq]; exact ⟨rfl,hl_lV⟩) ?_
  refine xw_seq ?_
  refine xw_region ?_
  refine xl_end [0,2,4] ⟨[(0,.v (.slice Al l.length Cl)),(2,.v (.int .i64 most)),(4,.p 0 0)],[⟨42,hlfL h⟩],[],[slF (.slice Al l.length Cl) 13 (l.map hlfCells)]⟩ (by kernel_rfl) ?_
  refine xw_seq ?_
  refine xw_joinE (α := Option Addr × Nat × Nat) (fun y => (fun (v6a : Option Addr) (v6c : Nat) (g4 : Nat) => (⟨[(0,.v (.slice Al l.length Cl)),(2,.v (.int .i64 most)),(8,.v (.slice v6a ((l ++ ([h] : List Hlf)).length) v6c))],[⟨42,hlfL h⟩],[],[rowF w.heap.size 42 13 (.slice v6a ((l ++ ([h] : List Hlf)).length) v6c) ((l ++ ([h] : List Hlf)).map hlfCells),rowF w.heap.size 42 13 (.slice (some ⟨g4,0,none⟩) 1 1) (([h] : List Hlf).map hlfCells),slF (.slice Al l.length Cl) 13 (l.map hlfCells)]⟩ : St)) y.1 y.2.1 y.2.2) ?_ ?_
  refine xe_region0 [] (by kernel_rfl) (fun ρ σ => ?_)
  refine xe_tkS [0,2] [11,9,0,2] 4 [(11,.v (.agg (hlfL h).toArray)),(9,.v (.slice Al l.length Cl)),(0,.v (.slice Al l.length Cl)),(2,.v (.int .i64 most))] (fun _ _ h => h) rfl (by kernel_rfl) ?_
  refine xe_all [1,3] (by kernel_rfl) (by simp) ⟨?_,?_⟩
  refine xs_call 1 62 [.slice Al l.length Cl] (some 10) rfl (by kernel_rfl) rfl (by kernel_rfl) (xc_r fun ww hw hf => yCloneHalf_c l (.slice Al l.length Cl) ww (hf (slF (.slice Al l.length Cl) 13 (l.map hlfCells)) (by simp)) (by assumption) w.heap.size hw) ?_
  rintro ⟨v2a,v2c⟩
  refine xe_all [3] (by kernel_rfl) (by simp) ?_
  refine xs_hv 3 rfl (by kernel_rfl) (by kernel_rfl) (by kernel_rfl) (under_t under_nil) rfl (hv_build (e := 42) (K := 13) (bytes := 96) [.agg (hlfL h).toArray] rfl (by kernel_rfl) (by kernel_rfl) (by kernel_rfl) (by kernel_rfl) (by kernel_rfl) (rs := ([h] : List Hlf).map hlfCells) rfl) ?_
  intro g4
  refine xe_all [4] (by kernel_rfl) (by simp) ?_
  refine xs_hv 4 rfl (by kernel_rfl) (by kernel_rfl) (by kernel_rfl) (under_t under_nil) rfl (hv_append (e := 42) (K := 13) (bytes := 96) (i := 1) (q := (l ++ ([h] : List Hlf)).length) (new := ([h] : List Hlf).map hlfCells) (rs' := (l ++ ([h] : List Hlf)).map hlfCells) rfl rfl rfl rfl (by kernel_rfl) (by kernel_rfl) (by kernel_rfl) rfl (by simp) (by rw [List.map_append]) (by simp) (fun ww hf => rowF_sl (hf (rowF w.heap.size 42 13 (.slice (some ⟨g4,0,none⟩) 1 1) (([h] : List Hlf).map hlfCells)) (by simp))) (by intro r hr; obtain ⟨x,hx,rfl⟩ := List.mem_map.1 hr; exact ⟨rfl,by simp [hlfCells,Value.oneCell']⟩) (by simp only [List.length_map,List.length_append,List.length_cons,List.length_nil,maxLen]; omega) (by simp only [List.length_map,List.length_append,List.length_cons,List.length_nil,maxLen]; omega)) ?_
  rintro ⟨v6a,v6c⟩
  refine xe_tkS [5] [8,0,2] 0 [(8,.v (.slice v6a ((l ++ ([h] : List Hlf)).length) v6c)),(0,.v (.slice Al l.length Cl)),(2,.v (.int .i64 most))] (fun _ _ h => h) rfl (by kernel_rfl) ?_
  refine xe_done (by kernel_rfl) ?_
  exact ⟨(v6a,v6c,g4),wk_forget 1 0 [0,2,8] (by kernel_rfl) (by kernel_rfl) (by kernel_rfl)⟩
  refine xs_hv 3 rfl (by kernel_rfl) (by kernel_rfl) (by kernel_rfl) (under_t under_nil) rfl (hv_build (e := 42) (K := 13) (bytes := 96) [.agg (hlfL h).toArray] rfl (by kernel_rfl) (by kernel_rfl) (by kernel_rfl) (by kernel_rfl) (by kernel_rfl) (rs := ([h] : List Hlf).map hlfCells) rfl) ?_
  intro g7
  refine xe_all [1] (by kernel_rfl) (by simp) ?_
  refine xs_call 1 62 [.slice Al l.length Cl] (some 10) rfl (by kernel_rfl) rfl (by kernel_rfl) (xc_r fun ww hw hf => yCloneHalf_c l (.slice Al l.length Cl) ww (hf (slF (.slice Al l.length Cl) 13 (l.map hlfCells)) (by simp)) (by assumption) w.heap.size hw) ?_
  rintro ⟨v8a,v8c⟩
  refine xe_all [4] (by kernel_rfl) (by simp) ?_
  refine xs_hv 4 rfl (by kernel_rfl) (by kernel_rfl) (by kernel_rfl) (under_t under_nil) rfl (hv_append (e := 42) (K := 13) (bytes := 96) (i := 0) (q := (l ++ ([h] : List Hlf)).length) (new := ([h] : List Hlf).map hlfCells) (rs' := (l ++ ([h] : List Hlf)).map hlfCells) rfl rfl rfl rfl (by kernel_rfl) (by kernel_rfl) (by kernel_rfl) rfl (by simp) (by rw [List.map_append]) (by simp) (fun ww hf => rowF_sl (hf (rowF w.heap.size 42 13 (.slice (some ⟨g7,0,none⟩) 1 1) (([h] : List Hlf).map hlfCells)) (by simp))) (by intro r hr; obtain ⟨x,hx,rfl⟩ := List.mem_map.1 hr; exact ⟨rfl,by simp [hlfCells,Value.oneCell']⟩) (by simp only [List.length_map,List.length_append,List.length_cons,List.length_nil,maxLen]; omega) (by simp only [List.length_map,List.length_append,List.length_cons,List.length_nil,maxLen]; omega)) ?_
  rintro ⟨v10a,v10c⟩
  refine xe_tkS [5] [8,0,2] 0 [(8,.v (.slice v10a ((l ++ ([h] : List Hlf)).length) v10c)),(0,.v (.slice Al l.length Cl)),(2,.v (.int .i64 most))] (fun _ _ h => h) rfl (by kernel_rfl) ?_
  refine xe_done (by kernel_rfl) ?_
  exact ⟨(v10a,v10c,g7),wk_forget 1 0 [0,2,8] (by kernel_rfl) (by kernel_rfl) (by kernel_rfl)⟩
  rintro ⟨v6a,v6c,g4⟩
  refine xw_seq ?_
  refine xw_seq ?_
  refine xw_join ⟨[(0,.v (.slice Al l.length Cl)),(8,.v (.slice v6a ((l ++ ([h] : List Hlf)).length) v6c)),(22,.v (.bool ((decide (((l.length : Nat) : Int) ≥ most)) || (!(halvesOk (l ++ ([h] : List Hlf)))))))],[⟨42,hlfL h⟩],[],[rowF w.heap.size 42 13 (.slice v6a ((l ++ ([h] : List Hlf)).length) v6c) ((l ++ ([h] : List Hlf)).map hlfCells),rowF w.heap.size 42 13 (.slice (some ⟨g4,0,none⟩) 1 1) (([h] : List Hlf).map hlfCells),slF (.slice Al l.length Cl) 13 (l.map hlfCells)]⟩ ?_ ?_
  refine xw_region ?_
  refine xl_run 5 [0,8,18] ⟨[(0,.v (.slice Al l.length Cl)),(8,.v (.slice v6a ((l ++ ([h] : List Hlf)).length) v6c)),(18,.v (.bool (decide (((l.length : Nat) : Int) ≥ most))))],[⟨42,hlfL h⟩],[],[rowF w.heap.size 42 13 (.slice v6a ((l ++ ([h] : List Hlf)).length) v6c) ((l ++ ([h] : List Hlf)).map hlfCells),rowF w.heap.size 42 13 (.slice (some ⟨g4,0,none⟩) 1 1) (([h] : List Hlf).map hlfCells),slF (.slice Al l.length Cl) 13 (l.map hlfCells)]⟩ (by kernel_rfl) ?_
  refine xl_split 18 (b := decide (((l.length : Nat) : Int) ≥ most)) (by kernel_rfl) (fun h11 => ?_) (fun h11 => ?_)
  have h11p : (((l.length : Nat) : Int) ≥ most) := of_decide_eq_true h11
  refine xl_endS [0,8,22] [(0,.v (.slice Al l.length Cl)),(8,.v (.slice v6a ((l ++ ([h] : List Hlf)).length) v6c)),(22,.v (.bool true))] (by kernel_rfl) ?_
  show Wk _ _
  try rw [h11]
  exact wk_forget 1 0 [0,8,22] (by kernel_rfl) (by kernel_rfl) (by kernel_rfl)
  have h11p : ¬ (((l.length : Nat) : Int) ≥ most) := of_decide_eq_false h11
  refine xl_callS 1 [0,8,18,19] [(0,.v (.slice Al l.length Cl)),(8,.v (.slice v6a ((l ++ ([h] : List Hlf)).length) v6c)),(18,.v (.bool false)),(19,.v (.slice v6a ((l ++ ([h] : List Hlf)).length) v6c))] 67 [.slice v6a ((l ++ ([h] : List Hlf)).length) v6c] (some 20) (by kernel_rfl) rfl (by kernel_rfl) rfl (by kernel_rfl) (xc_b fun ww hf => yiHalvesOk_c (l ++ ([h] : List Hlf)) (.slice v6a ((l ++ ([h] : List Hlf)).length) v6c) ww (rowF_sl (hf (rowF w.heap.size 42 13 (.slice v6a ((l ++ ([h] : List Hlf)).length) v6c) ((l ++ ([h] : List Hlf)).map hlfCells)) (by simp))) ) ?_
  intro _
  refine xl_endS [0,8,22] [(0,.v (.slice Al l.length Cl)),(8,.v (.slice v6a ((l ++ ([h] : List Hlf)).length) v6c)),(22,.v (.bool (!(halvesOk (l ++ ([h] : List Hlf))))))] (by kernel_rfl) ?_
  show Wk _ _
  try rw [h11]
  exact wk_forget 1 0 [0,8,22] (by kernel_rfl) (by kernel_rfl) (by kernel_rfl)
  refine xw_cond (b := (decide (((l.length : Nat) : Int) ≥ most)) || (!(halvesOk (l ++ ([h] : List Hlf))))) (by kernel_rfl) (fun h12 => ?_) (fun h12 => ?_)
  refine xw_seq ?_
  refine xw_region ?_
  refine xl_callS 1 [23] [(23,.v (.slice Al l.length Cl))] 62 [.slice Al l.length Cl] (some 24) (by kernel_rfl) rfl (by kernel_rfl) rfl (by kernel_rfl) (xc_r fun ww hw hf => yCloneHalf_c l (.slice Al l.length Cl) ww (hf (slF (.slice Al l.length Cl) 13 (l.map hlfCells)) (by simp)) (by assumption) w.heap.size hw) ?_
  rintro ⟨v13a,v13c⟩
  refine xl_endS [6,7] [(6,.v (.slice v13a l.length v13c)),(7,.v (.bool false))] (by kernel_rfl) ?_
  refine xw_ret ?_
  have hmod : putHalf l h most = (l,false) := by first | rfl | (simp [putHalf, *]; done) | grind [putHalf]
  exact ⟨[.slice v13a l.length v13c,.bool false],by kernel_rfl,fun w' hb hf ha => by rw [hmod]; exact xr_one ((v13a,v13c)) rfl rfl (rowF_ownF (hf (rowF w.heap.size 42 13 (.slice v13a l.length v13c) (l.map hlfCells)) (by simp)) hB) (fun b hb => rowF_lo (hf (rowF w.heap.size 42 13 (.slice v13a l.length v13c) (l.map hlfCells)) (by simp)) (rowF_blk hb)) hb⟩
  have h12l := or_l h12
  have h12r := or_r h12
  have h12rn := not_f h12r
  refine xw_skip ?_
  refine xw_seq ?_
  refine xw_region ?_
  refine xl_endS [6,7] [(6,.v (.slice v6a ((l ++ ([h] : List Hlf)).length) v6c)),(7,.v (.bool true))] (by kernel_rfl) ?_
  refine xw_ret ?_
  have hmod : putHalf l h most = ((l ++ ([h] : List Hlf)),true) := by first | rfl | (simp [putHalf, *]; done) | grind [putHalf]
  exact ⟨[.slice v6a ((l ++ ([h] : List Hlf)).length) v6c,.bool true],by kernel_rfl,fun w' hb hf ha => by rw [hmod]; exact xr_one ((v6a,v6c)) rfl rfl (rowF_ownF (hf (rowF w.heap.size 42 13 (.slice v6a ((l ++ ([h] : List Hlf)).length) v6c) ((l ++ ([h] : List Hlf)).map hlfCells)) (by simp)) hB) (fun b hb => rowF_lo (hf (rowF w.heap.size 42 13 (.slice v6a ((l ++ ([h] : List Hlf)).length) v6c) ((l ++ ([h] : List Hlf)).map hlfCells)) (by simp)) (rowF_blk hb)) hb⟩
set_option maxHeartbeats 2000000 in
theorem ymarkHalfS_c (v : Value) (l : List Hlf) (k : Int) (w : World) (B : Nat) (hB : B ≤ w.heap.size) (h : Own w B v 13 (l.map hlfCells)) (hk0 : 0 ≤ k) (hk : k ≤ 4503599627370496) (hl : l.length ≤ 1048576) : Calls Try.prog 20 #[v, .int .i64 k] w fun e w' => e = .returned (.int .i64 (k + 13 * (l.length : Int))) ∧ Own w' B v 13 ((marks mkH 13 k l.length).map hlfCells) ∧ Chgd (ownF B v 13 (l.map hlfCells)).blk w w' := by
  obtain ⟨A,cap,hv⟩ := h.form
  rw [List.length_map] at hv; subst hv
  refine x_callsM (args := [.slice A l.length cap,.int .i64 k]) (fn := Try.f20) [ownF B (.slice A l.length cap) 13 (l.map hlfCells),frF w (ownF B (.slice A l.length cap) 13 (l.map hlfCells)).blk] B Try.func20 rfl Try.ntmps20 rfl hB (by simp only [List.mem_cons,List.not_mem_nil,or_false,forall_eq_or_imp,forall_eq]; exact ⟨h,frF_start w _⟩) apart_fr ?_
  refine xw_seq ?_
  refine xw_region ?_
  refine xl_end [0,1] ⟨[(0,.v (.slice A l.length cap)),(1,.v (.int .i64 k))],[],[],[ownF B (.slice A l.length cap) 13 (l.map hlfCells),frF w (ownF B (.slice A l.length cap) 13 (l.map hlfCells)).blk]⟩ (by kernel_rfl) ?_
  refine xw_seq ?_
  refine xw_seq ?_
  refine xw_region ?_
  refine xl_endS [0,1,5] [(0,.v (.slice A l.length cap)),(1,.v (.int .i64 k)),(5,.v (.int .i64 0))] (by kernel_rfl) ?_
  refine xw_block ?_
  have e0 : k + 13 * ((0 : Nat) : Int) = k := by omega
  refine xw_eq (st' := ⟨[(0,.v (.slice A l.length cap)),(1,.v (.int .i64 (k + 13 * ((0 : Nat) : Int)))),(5,.v (.int .i64 0))],[],[],[ownF B (.slice A l.length cap) 13 (l.map hlfCells),frF w (ownF B (.slice A l.length cap) 13 (l.map hlfCells)).blk]⟩) (by rw [e0]) ?_
  refine xw_loopW (α := {x : Nat // (fun (i : Nat) => i ≤ l.length) x}) (fun x => (fun (i : Nat) => (⟨[(0,.v (.slice A l.length cap)),(1,.v (.int .i64 (k + 13 * (i : Int)))),(5,.v (.int .i64 (i : Int)))],[],[],[ownF B (.slice A l.length cap) 13 ((marks mkH 13 k i ++ l.drop i).map hlfCells),frF w (ownF B (.slice A l.length cap) 13 (l.map hlfCells)).blk]⟩ : St)) x.1) (fun x => (fun (i : Nat) => l.length - i) x.1) ⟨(0),Nat.zero_le _⟩ (wk_forget 0 0 [0,1,5] (by kernel_rfl) (by kernel_rfl) (by kernel_rfl)) ?_
  rintro ⟨i,hi⟩
  refine xw_wk (Wk.of_eq (s' := ⟨[(0,.v (.slice A l.length cap)),(1,.v (.int .i64 (k + 13 * (i : Int)))),(5,.v (.int .i64 (i : Int)))],[],[],[ownF B (.slice A l.length cap) 13 ((marks mkH 13 k i ++ l.drop i).map hlfCells),frF w (ownF B (.slice A l.length cap) 13 (l.map hlfCells)).blk]⟩) rfl) ?_
  try dsimp only at hi
  refine xw_seq ?_
  refine xw_seq ?_
  refine xw_region ?_
  refine xl_endS [0,1,5,9] [(0,.v (.slice A l.length cap)),(1,.v (.int .i64 (k + 13 * (i : Int)))),(5,.v (.int .i64 (i : Int))),(9,.v (.bool (decide ((i : Int) < ((l.length : Nat) : Int)))))] (by kernel_rfl) ?_
  refine xw_cond (b := decide ((i : Int) < ((l.length : Nat) : Int))) (by kernel_rfl) (fun h1 => ?_) (fun h1 => ?_)
  have h1p : ((i : Int) < ((l.length : Nat) : Int)) := of_decide_eq_true h1
  have hlt : i < l.length := by simpa using h1
  obtain ⟨b,hb⟩ : ∃ b,b = k + 13 * (i : Int) := ⟨_,rfl⟩
  rw [← hb]
  obtain ⟨x,hx⟩ : ∃ x,l[i]? = some x := ⟨_,List.getElem?_eq_getElem hlt⟩
  refine xw_fact0 (g := ownF B (.slice A l.length cap) 13 (((marks mkH 13 k i ++ l.drop i).map hlfCells).set i [.int .i64 x.t.ip,.int .i64 x.t.port,.int .i64 x.t.my,.int .i64 x.iss,.int .i64 x.irs,.int .i64 x.o.mss,.int .i64 x.o.scale,.bool x.o.sack,.bool x.o.stamp,.int .i64 x.o.val,.int .i64 x.o.echo,.int .i64 x.age,.int .i64 x.window])) (congrArg (fun z => ownF B (.slice A l.length cap) 13 z) (mark_same (f := hlfCells) (mk := mkH) (c := 13) (k := k) hx)) ?_
  refine xw_skip ?_
  refine xw_seq ?_
  refine xw_block ?_
  refine xw_seq ?_
  refine xw_region ?_
  refine xl_elem (kd := .i64) (T := 26) (e := 42) (K := 13) (A := A) (len := l.length) (cap := cap) (rs := (((marks mkH 13 k i ++ l.drop i).map hlfCells).set i [.int .i64 x.t.ip,.int .i64 x.t.port,.int .i64 x.t.my,.int .i64 x.iss,.int .i64 x.irs,.int .i64 x.o.mss,.int .i64 x.o.scale,.bool x.o.sack,.bool x.o.stamp,.int .i64 x.o.val,.int .i64 x.o.echo,.int .i64 x.age,.int .i64 x.window])) 3 [0,1,5,12,13,14] ⟨[(0,.v (.slice A l.length cap)),(1,.v (.int .i64 b)),(5,.v (.int .i64 (i : Int))),(12,.v (.slice A l.length cap)),(13,.v (.int .i64 (i : Int))),(14,.v (.int .i64 b))],[],[],[ownF B (.slice A l.length cap) 13 (((marks mkH 13 k i ++ l.drop i).map hlfCells).set i [.int .i64 x.t.ip,.int .i64 x.t.port,.int .i64 x.t.my,.int .i64 x.iss,.int .i64 x.irs,.int .i64 x.o.mss,.int .i64 x.o.scale,.bool x.o.sack,.bool x.o.stamp,.int .i64 x.o.val,.int .i64 x.o.echo,.int .i64 x.age,.int .i64 x.window]),frF w (ownF B (.slice A l.length cap) 13 (l.map hlfCells)).blk]⟩ i (ownF B (.slice A l.length cap) 13 (((marks mkH 13 k i ++ l.drop i).map hlfCells).set i [.int .i64 x.t.ip,.int .i64 x.t.port,.int .i64 x.t.my,.int .i64 x.iss,.int .i64 x.irs,.int .i64 x.o.mss,.int .i64 x.o.scale,.bool x.o.sack,.bool x.o.stamp,.int .i64 x.o.val,.int .i64 x.o.echo,.int .i64 x.age,.int .i64 x.window])) (by kernel_rfl) rfl (by kernel_rfl) (by kernel_rfl) rfl (by kernel_rfl) (by kernel_rfl) (by kernel_rfl) (by kernel_rfl) hlt (by simp) (fun ww h => Own.sl h) (by rw [List.length_set,mark_ln hi]; exact hlt) ?_
  intro b2 o3 hA4
  refine xl_op 0 [0,1,5,14,15] ⟨[(0,.v (.slice A l.length cap)),(1,.v (.int .i64 b)),(5,.v (.int .i64 (i : Int))),(14,.v (.int .i64 b)),(15,.v (.pointer (some ⟨b2,o3 + i * 13,none⟩)))],[],[],[ownF B (.slice A l.length cap) 13 (((marks mkH 13 k i ++ l.drop i).map hlfCells).set i [.int .i64 x.t.ip,.int .i64 x.t.port,.int .i64 x.t.my,.int .i64 x.iss,.int .i64 x.irs,.int .i64 x.o.mss,.int .i64 x.o.scale,.bool x.o.sack,.bool x.o.stamp,.int .i64 x.o.val,.int .i64 x.o.echo,.int .i64 x.age,.int .i64 x.window]),frF w (ownF B (.slice A l.length cap) 13 (l.map hlfCells)).blk]⟩ (.pointer (some ⟨b2,o3 + i * 13 + 0,none⟩)) (by kernel_rfl) rfl (by kernel_rfl) rfl (fun _ _ _ ww hr => fld_run (sz := 3) hr rfl Try.underlying42 rfl (by kernel_rfl) rfl rfl (by first | rfl | omega)) ?_
  refine xl_op 0 [0,1,5,14,16] ⟨[(0,.v (.slice A l.length cap)),(1,.v (.int .i64 b)),(5,.v (.int .i64 (i : Int))),(14,.v (.int .i64 b)),(16,.v (.pointer (some ⟨b2,o3 + i * 13 + 0,none⟩)))],[],[],[ownF B (.slice A l.length cap) 13 (((marks mkH 13 k i ++ l.drop i).map hlfCells).set i [.int .i64 x.t.ip,.int .i64 x.t.port,.int .i64 x.t.my,.int .i64 x.iss,.int .i64 x.irs,.int .i64 x.o.mss,.int .i64 x.o.scale,.bool x.o.sack,.bool x.o.stamp,.int .i64 x.o.val,.int .i64 x.o.echo,.int .i64 x.age,.int .i64 x.window]),frF w (ownF B (.slice A l.length cap) 13 (l.map hlfCells)).blk]⟩ (.pointer (some ⟨b2,o3 + i * 13 + 0,none⟩)) (by kernel_rfl) rfl (by kernel_rfl) rfl (fun _ _ _ ww hr => fld_run (sz := 1) hr rfl Try.underlying29 rfl (by kernel_rfl) rfl rfl (by first | rfl | omega)) ?_
  refine xl_stE (K := 13) (po := 0) (B := B) (rs := ((marks mkH 13 k i ++ l.drop i).map hlfCells)) (row' := [.int .i64 b,.int .i64 x.t.port,.int .i64 x.t.my,.int .i64 x.iss,.int .i64 x.irs,.int .i64 x.o.mss,.int .i64 x.o.scale,.bool x.o.sack,.bool x.o.stamp,.int .i64 x.o.val,.int .i64 x.o.echo,.int .i64 x.age,.int .i64 x.window]) 0 [0,1,5,14,17] ⟨[(0,.v (.slice A l.length cap)),(1,.v (.int .i64 b)),(5,.v (.int .i64 (i : Int))),(14,.v (.int .i64 b)),(17,.v (.pointer (some ⟨b2,o3 + i * 13 + 0,none⟩)))],[],[],[ownF B (.slice A l.length cap) 13 (((marks mkH 13 k i ++ l.drop i).map hlfCells).set i [.int .i64 x.t.ip,.int .i64 x.t.port,.int .i64 x.t.my,.int .i64 x.iss,.int .i64 x.irs,.int .i64 x.o.mss,.int .i64 x.o.scale,.bool x.o.sack,.bool x.o.stamp,.int .i64 x.o.val,.int .i64 x.o.echo,.int .i64 x.age,.int .i64 x.window]),frF w (ownF B (.slice A l.length cap) 13 (l.map hlfCells)).blk]⟩ i [.int .i64 x.t.ip,.int .i64 x.t.port,.int .i64 x.t.my,.int .i64 x.iss,.int .i64 x.irs,.int .i64 x.o.mss,.int .i64 x.o.scale,.bool x.o.sack,.bool x.o.stamp,.int .i64 x.o.val,.int .i64 x.o.echo,.int .i64 x.age,.int .i64 x.window] 0 (by kernel_rfl) rfl (by kernel_rfl) rfl rfl rfl rfl (by kernel_rfl) (by kernel_rfl) rfl (cutW_le w B) hA4 (by rw [mark_ln hi]; exact hlt) (fun r hr => by obtain ⟨y,_,rfl⟩ := List.mem_map.1 hr; rfl) (by kernel_rfl) (by kernel_rfl) rfl rfl ?_
  refine xl_end [0,1,5] ⟨[(0,.v (.slice A l.length cap)),(1,.v (.int .i64 b)),(5,.v (.int .i64 (i : Int)))],[],[],[ownF B (.slice A l.length cap) 13 (((marks mkH 13 k i ++ l.drop i).map hlfCells).set i [.int .i64 b,.int .i64 x.t.port,.int .i64 x.t.my,.int .i64 x.iss,.int .i64 x.irs,.int .i64 x.o.mss,.int .i64 x.o.scale,.bool x.o.sack,.bool x.o.stamp,.int .i64 x.o.val,.int .i64 x.o.echo,.int .i64 x.age,.int .i64 x.window]),frF w (ownF B (.slice A l.length cap) 13 (l.map hlfCells)).blk]⟩ (by kernel_rfl) ?_
  refine xw_seq ?_
  refine xw_region ?_
  refine xl_runS 3 [0,1,5] [(0,.v (.slice A l.length cap)),(1,.v (.int .i64 (IntKind.i64.wrap (b + 1)))),(5,.v (.int .i64 (i : Int)))] (by kernel_rfl) ?_
  refine xl_eqS (t' := [(0,.v (.slice A l.length cap)),(1,.v (.int .i64 (b + 1))),(5,.v (.int .i64 (i : Int)))]) (by rw [show (IntKind.i64.wrap (b + 1)) = (b + 1) from wrap_id (by omega) (by omega)]) ?_
  refine xl_endS [0,1,5] [(0,.v (.slice A l.length cap)),(1,.v (.int .i64 (b + 1))),(5,.v (.int .i64 (i : Int)))] (by kernel_rfl) ?_
  refine xw_seq ?_
  refine xw_region ?_
  refine xl_elem (kd := .i64) (T := 26) (e := 42) (K := 13) (A := A) (len := l.length) (cap := cap) (rs := (((marks mkH 13 k i ++ l.drop i).map hlfCells).set i [.int .i64 b,.int .i64 x.t.port,.int .i64 x.t.my,.int .i64 x.iss,.int .i64 x.irs,.int .i64 x.o.mss,.int .i64 x.o.scale,.bool x.o.sack,.bool x.o.stamp,.int .i64 x.o.val,.int .i64 x.o.echo,.int .i64 x.age,.int .i64 x.window])) 3 [0,1,5,20,21,22] ⟨[(0,.v (.slice A l.length cap)),(1,.v (.int .i64 (b + 1))),(5,.v (.int .i64 (i : Int))),(20,.v (.slice A l.length cap)),(21,.v (.int .i64 (i : Int))),(22,.v (.int .i64 (b + 1)))],[],[],[ownF B (.slice A l.length cap) 13 (((marks mkH 13 k i ++ l.drop i).map hlfCells).set i [.int .i64 b,.int .i64 x.t.port,.int .i64 x.t.my,.int .i64 x.iss,.int .i64 x.irs,.int .i64 x.o.mss,.int .i64 x.o.scale,.bool x.o.sack,.bool x.o.stamp,.int .i64 x.o.val,.int .i64 x.o.echo,.int .i64 x.age,.int .i64 x.window]),frF w (ownF B (.slice A l.length cap) 13 (l.map hlfCells)).blk]⟩ i (ownF B (.slice A l.length cap) 13 (((marks mkH 13 k i ++ l.drop i).map hlfCells).set i [.int .i64 b,.int .i64 x.t.port,.int .i64 x.t.my,.int .i64 x.iss,.int .i64 x.irs,.int .i64 x.o.mss,.int .i64 x.o.scale,.bool x.o.sack,.bool x.o.stamp,.int .i64 x.o.val,.int .i64 x.o.echo,.int .i64 x.age,.int .i64 x.window])) (by kernel_rfl) rfl (by kernel_rfl) (by kernel_rfl) rfl (by kernel_rfl) (by kernel_rfl) (by kernel_rfl) (by kernel_rfl) hlt (by simp) (fun ww h => Own.sl h) (by rw [List.length_set,mark_ln hi]; exact hlt) ?_
  intro b5 o6 hA7
  refine xl_op 0 [0,1,5,22,23] ⟨[(0,.v (.slice A l.length cap)),(1,.v (.int .i64 (b + 1))),(5,.v (.int .i64 (i : Int))),(22,.v (.int .i64 (b + 1))),(23,.v (.pointer (some ⟨b5,o6 + i * 13,none⟩)))],[],[],[ownF B (.slice A l.length cap) 13 (((marks mkH 13 k i ++ l.drop i).map hlfCells).set i [.int .i64 b,.int .i64 x.t.port,.int .i64 x.t.my,.int .i64 x.iss,.int .i64 x.irs,.int .i64 x.o.mss,.int .i64 x.o.scale,.bool x.o.sack,.bool x.o.stamp,.int .i64 x.o.val,.int .i64 x.o.echo,.int .i64 x.age,.int .i64 x.window]),frF w (ownF B (.slice A l.length cap) 13 (l.map hlfCells)).blk]⟩ (.pointer (some ⟨b5,o6 + i * 13 + 0,none⟩)) (by kernel_rfl) rfl (by kernel_rfl) rfl (fun _ _ _ ww hr => fld_run (sz := 3) hr rfl Try.underlying42 rfl (by kernel_rfl) rfl rfl (by first | rfl | omega)) ?_
  refine xl_op 0 [0,1,5,22,24] ⟨[(0,.v (.slice A l.length cap)),(1,.v (.int .i64 (b + 1))),(5,.v (.int .i64 (i : Int))),(22,.v (.int .i64 (b + 1))),(24,.v (.pointer (some ⟨b5,o6 + i * 13 + 0,none⟩)))],[],[],[ownF B (.slice A l.length cap) 13 (((marks mkH 13 k i ++ l.drop i).map hlfCells).set i [.int .i64 b,.int .i64 x.t.port,.int .i64 x.t.my,.int .i64 x.iss,.int .i64 x.irs,.int .i64 x.o.mss,.int .i64 x.o.scale,.bool x.o.sack,.bool x.o.stamp,.int .i64 x.o.val,.int .i64 x.o.echo,.int .i64 x.age,.int .i64 x.window]),frF w (ownF B (.slice A l.length cap) 13 (l.map hlfCells)).blk]⟩ (.pointer (some ⟨b5,o6 + i * 13 + 1,none⟩)) (by kernel_rfl) rfl (by kernel_rfl) rfl (fun _ _ _ ww hr => fld_run (sz := 1) hr rfl Try.underlying29 rfl (by kernel_rfl) rfl rfl (by first | rfl | omega)) ?_
  refine xl_stE (K := 13) (po := 1) (B := B) (rs := ((marks mkH 13 k i ++ l.drop i).map hlfCells)) (row' := [.int .i64 b,.int .i64 (b + 1),.int .i64 x.t.my,.int .i64 x.iss,.int .i64 x.irs,.int .i64 x.o.mss,.int .i64 x.o.scale,.bool x.o.sack,.bool x.o.stamp,.int .i64 x.o.val,.int .i64 x.o.echo,.int .i64 x.age,.int .i64 x.window]) 0 [0,1,5,22,25] ⟨[(0,.v (.slice A l.length cap)),(1,.v (.int .i64 (b + 1))),(5,.v (.int .i64 (i : Int))),(22,.v (.int .i64 (b + 1))),(25,.v (.pointer (some ⟨b5,o6 + i * 13 + 1,none⟩)))],[],[],[ownF B (.slice A l.length cap) 13 (((marks mkH 13 k i ++ l.drop i).map hlfCells).set i [.int .i64 b,.int .i64 x.t.port,.int .i64 x.t.my,.int .i64 x.iss,.int .i64 x.irs,.int .i64 x.o.mss,.int .i64 x.o.scale,.bool x.o.sack,.bool x.o.stamp,.int .i64 x.o.val,.int .i64 x.o.echo,.int .i64 x.age,.int .i64 x.window]),frF w (ownF B (.slice A l.length cap) 13 (l.map hlfCells)).blk]⟩ i [.int .i64 b,.int .i64 x.t.port,.int .i64 x.t.my,.int .i64 x.iss,.int .i64 x.irs,.int .i64 x.o.mss,.int .i64 x.o.scale,.bool x.o.sack,.bool x.o.stamp,.int .i64 x.o.val,.int .i64 x.o.echo,.int .i64 x.age,.int .i64 x.window] 0 (by kernel_rfl) rfl (by kernel_rfl) rfl rfl rfl rfl (by kernel_rfl) (by kernel_rfl) rfl (cutW_le w B) hA7 (by rw [mark_ln hi]; exact hlt) (fun r hr => by obtain ⟨y,_,rfl⟩ := List.mem_map.1 hr; rfl) (by kernel_rfl) (by kernel_rfl) rfl rfl ?_
  refine xl_end [0,1,5] ⟨[(0,.v (.slice A l.length cap)),(1,.v (.int .i64 (b + 1))),(5,.v (.int .i64 (i : Int)))],[],[],[ownF B (.slice A l.length cap) 13 (((marks mkH 13 k i ++ l.drop i).map hlfCells).set i [.int .i64 b,.int .i64 (b + 1),.int .i64 x.t.my,.int .i64 x.iss,.int .i64 x.irs,.int .i64 x.o.mss,.int .i64 x.o.scale,.bool x.o.sack,.bool x.o.stamp,.int .i64 x.o.val,.int .i64 x.o.echo,.int .i64 x.age,.int .i64 x.window]),frF w (ownF B (.slice A l.length cap) 13 (l.map hlfCells)).blk]⟩ (by kernel_rfl) ?_
  refine xw_seq ?_
  refine xw_region ?_
  refine xl_runS 3 [0,1,5] [(0,.v (.slice A l.length cap)),(1,.v (.int .i64 (IntKind.i64.wrap (b + 1 + 1)))),(5,.v (.int .i64 (i : Int)))] (by kernel_rfl) ?_
  refine xl_eqS (t' := [(0,.v (.slice A l.length cap)),(1,.v (.int .i64 (b + 2))),(5,.v (.int .i64 (i : Int)))]) (by rw [show (IntKind.i64.wrap (b + 1 + 1)) = (b + 2) from wrap_to (by omega) (by omega) (by omega)]) ?_
  refine xl_endS [0,1,5] [(0,.v (.slice A l.length cap)),(1,.v (.int .i64 (b + 2))),(5,.v (.int .i64 (i : Int)))] (by kernel_rfl) ?_
  refine xw_seq ?_
  refine xw_region ?_
  refine xl_elem (kd := .i64) (T := 26) (e := 42) (K := 13) (A := A) (len := l.length) (cap := cap) (rs := (((marks mkH 13 k i ++ l.drop i).map hlfCells).set i [.int .i64 b,.int .i64 (b + 1),.int .i64 x.t.my,.int .i64 x.iss,.int .i64 x.irs,.int .i64 x.o.mss,.int .i64 x.o.scale,.bool x.o.sack,.bool x.o.stamp,.int .i64 x.o.val,.int .i64 x.o.echo,.int .i64 x.age,.int .i64 x.window])) 3 [0,1,5,28,29,30] ⟨[(0,.v (.slice A l.length cap)),(1,.v (.int .i64 (b + 2))),(5,.v (.int .i64 (i : Int))),(28,.v (.slice A l.length cap)),(29,.v (.int .i64 (i : Int))),(30,.v (.int .i64 (b + 2)))],[],[],[ownF B (.slice A l.length cap) 13 (((marks mkH 13 k i ++ l.drop i).map hlfCells).set i [.int .i64 b,.int .i64 (b + 1),.int .i64 x.t.my,.int .i64 x.iss,.int .i64 x.irs,.int .i64 x.o.mss,.int .i64 x.o.scale,.bool x.o.sack,.bool x.o.stamp,.int .i64 x.o.val,.int .i64 x.o.echo,.int .i64 x.age,.int .i64 x.window]),frF w (ownF B (.slice A l.length cap) 13 (l.map hlfCells)).blk]⟩ i (ownF B (.slice A l.length cap) 13 (((marks mkH 13 k i ++ l.drop i).map hlfCells).set i [.int .i64 b,.int .i64 (b + 1),.int .i64 x.t.my,.int .i64 x.iss,.int .i64 x.irs,.int .i64 x.o.mss,.int .i64 x.o.scale,.bool x.o.sack,.bool x.o.stamp,.int .i64 x.o.val,.int .i64 x.o.echo,.int .i64 x.age,.int .i64 x.window])) (by kernel_rfl) rfl (by kernel_rfl) (by kernel_rfl) rfl (by kernel_rfl) (by kernel_rfl) (by kernel_rfl) (by kernel_rfl) hlt (by simp) (fun ww h => Own.sl h) (by rw [List.length_set,mark_ln hi]; exact hlt) ?_
  intro b8 o9 hA10
  refine xl_op 0 [0,1,5,30,31] ⟨[(0,.v (.slice A l.length cap)),(1,.v (.int .i64 (b + 2))),(5,.v (.int .i64 (i : Int))),(30,.v (.int .i64 (b + 2))),(31,.v (.pointer (some ⟨b8,o9 + i * 13,none⟩)))],[],[],[ownF B (.slice A l.length cap) 13 (((marks mkH 13 k i ++ l.drop i).map hlfCells).set i [.int .i64 b,.int .i64 (b + 1),.int .i64 x.t.my,.int .i64 x.iss,.int .i64 x.irs,.int .i64 x.o.mss,.int .i64 x.o.scale,.bool x.o.sack,.bool x.o.stamp,.int .i64 x.o.val,.int .i64 x.o.echo,.int .i64 x.age,.int .i64 x.window]),frF w (ownF B (.slice A l.length cap) 13 (l.map hlfCells)).blk]⟩ (.pointer (some ⟨b8,o9 + i * 13 + 0,none⟩)) (by kernel_rfl) rfl (by kernel_rfl) rfl (fun _ _ _ ww hr => fld_run (sz := 3) hr rfl Try.underlying42 rfl (by kernel_rfl) rfl rfl (by first | rfl | omega)) ?_
  refine xl_op 0 [0,1,5,30,32] ⟨[(0,.v (.slice A l.length cap)),(1,.v (.int .i64 (b + 2))),(5,.v (.int .i64 (i : Int))),(30,.v (.int .i64 (b + 2))),(32,.v (.pointer (some ⟨b8,o9 + i * 13 + 0,none⟩)))],[],[],[ownF B (.slice A l.length cap) 13 (((marks mkH 13 k i ++ l.drop i).map hlfCells).set i [.int .i64 b,.int .i64 (b + 1),.int .i64 x.t.my,.int .i64 x.iss,.int .i64 x.irs,.int .i64 x.o.mss,.int .i64 x.o.scale,.bool x.o.sack,.bool x.o.stamp,.int .i64 x.o.val,.int .i64 x.o.echo,.int .i64 x.age,.int .i64 x.window]),frF w (ownF B (.slice A l.length cap) 13 (l.map hlfCells)).blk]⟩ (.pointer (some ⟨b8,o9 + i * 13 + 2,none⟩)) (by kernel_rfl) rfl (by kernel_rfl) rfl (fun _ _ _ ww hr => fld_run (sz := 1) hr rfl Try.underlying29 rfl (by kernel_rfl) rfl rfl (by first | rfl | omega)) ?_
  refine xl_stE (K := 13) (po := 2) (B := B) (rs := ((marks mkH 13 k i ++ l.drop i).map hlfCells)) (row' := [.int .i64 b,.int .i64 (b + 1),.int .i64 (b + 2),.int .i64 x.iss,.int .i64 x.irs,.int .i64 x.o.mss,.int .i64 x.o.scale,.bool x.o.sack,.bool x.o.stamp,.int .i64 x.o.val,.int .i64 x.o.echo,.int .i64 x.age,.int .i64 x.window]) 0 [0,1,5,30,33] ⟨[(0,.v (.slice A l.length cap)),(1,.v (.int .i64 (b + 2))),(5,.v (.int .i64 (i : Int))),(30,.v (.int .i64 (b + 2))),(33,.v (.pointer (some ⟨b8,o9 + i * 13 + 2,none⟩)))],[],[],[ownF B (.slice A l.length cap) 13 (((marks mkH 13 k i ++ l.drop i).map hlfCells).set i [.int .i64 b,.int .i64 (b + 1),.int .i64 x.t.my,.int .i64 x.iss,.int .i64 x.irs,.int .i64 x.o.mss,.int .i64 x.o.scale,.bool x.o.sack,.bool x.o.stamp,.int .i64 x.o.val,.int .i64 x.o.echo,.int .i64 x.age,.int .i64 x.window]),frF w (ownF B (.slice A l.length cap) 13 (l.map hlfCells)).blk]⟩ i [.int .i64 b,.int .i64 (b + 1),.int .i64 x.t.my,.int .i64 x.iss,.int .i64 x.irs,.int .i64 x.o.mss,.int .i64 x.o.scale,.bool x.o.sack,.bool x.o.stamp,.int .i64 x.o.val,.int .i64 x.o.echo,.int .i64 x.age,.int .i64 x.window] 0 (by kernel_rfl) rfl (by kernel_rfl) rfl rfl rfl rfl (by kernel_rfl) (by kernel_rfl) rfl (cutW_le w B) hA10 (by rw [mark_ln hi]; exact hlt) (fun r hr => by obtain ⟨y,_,rfl⟩ := List.mem_map.1 hr; rfl) (by kernel_rfl) (by kernel_rfl) rfl rfl ?_
  refine xl_end [0,1,5] ⟨[(0,.v (.slice A l.length cap)),(1,.v (.int .i64 (b + 2))),(5,.v (.int .i64 (i : Int)))],[],[],[ownF B (.slice A l.length cap) 13 (((marks mkH 13 k i ++ l.drop i).map hlfCells).set i [.int .i64 b,.int .i64 (b + 1),.int .i64 (b + 2),.int .i64 x.iss,.int .i64 x.irs,.int .i64 x.o.mss,.int .i64 x.o.scale,.bool x.o.sack,.bool x.o.stamp,.int .i64 x.o.val,.int .i64 x.o.echo,.int .i64 x.age,.int .i64 x.window]),frF w (ownF B (.slice A l.length cap) 13 (l.map hlfCells)).blk]⟩ (by kernel_rfl) ?_
  refine xw_seq ?_
  refine xw_region ?_
  refine xl_runS 3 [0,1,5] [(0,.v (.slice A l.length cap)),(1,.v (.int .i64 (IntKind.i64.wrap (b + 2 + 1)))),(5,.v (.int .i64 (i : Int)))] (by kernel_rfl) ?_
  refine xl_eqS (t' := [(0,.v (.slice A l.length cap)),(1,.v (.int .i64 (b + 3))),(5,.v (.int .i64 (i : Int)))]) (by rw [show (IntKind.i64.wrap (b + 2 + 1)) = (b + 3) from wrap_to (by omega) (by omega) (by omega)]) ?_
  refine xl_endS [0,1,5] [(0,.v (.slice A l.length cap)),(1,.v (.int .i64 (b + 3))),(5,.v (.int .i64 (i : Int)))] (by kernel_rfl) ?_
  refine xw_seq ?_
  refine xw_region ?_
  refine xl_elem (kd := .i64) (T := 26) (e := 42) (K := 13) (A := A) (len := l.length) (cap := cap) (rs := (((marks mkH 13 k i ++ l.drop i).map hlfCells).set i [.int .i64 b,.int .i64 (b + 1),.int .i64 (b + 2),.int .i64 x.iss,.int .i64 x.irs,.int .i64 x.o.mss,.int .i64 x.o.scale,.bool x.o.sack,.bool x.o.stamp,.int .i64 x.o.val,.int .i64 x.o.echo,.int .i64 x.age,.int .i64 x.window])) 3 [0,1,5,36,37,38] ⟨[(0,.v (.slice A l.length cap)),(1,.v (.int .i64 (b + 3))),(5,.v (.int .i64 (i : Int))),(36,.v (.slice A l.length cap)),(37,.v (.int .i64 (i : Int))),(38,.v (.int .i64 (b + 3)))],[],[],[ownF B (.slice A l.length cap) 13 (((marks mkH 13 k i ++ l.drop i).map hlfCells).set i [.int .i64 b,.int .i64 (b + 1),.int .i64 (b + 2),.int .i64 x.iss,.int .i64 x.irs,.int .i64 x.o.mss,.int .i64 x.o.scale,.bool x.o.sack,.bool x.o.stamp,.int .i64 x.o.val,.int .i64 x.o.echo,.int .i64 x.age,.int .i64 x.window]),frF w (ownF B (.slice A l.length cap) 13 (l.map hlfCells)).blk]⟩ i (ownF B (.slice A l.length cap) 13 (((marks mkH 13 k i ++ l.drop i).map hlfCells).set i [.int .i64 b,.int .i64 (b + 1),.int .i64 (b + 2),.int .i64 x.iss,.int .i64 x.irs,.int .i64 x.o.mss,.int .i64 x.o.scale,.bool x.o.sack,.bool x.o.stamp,.int .i64 x.o.val,.int .i64 x.o.echo,.int .i64 x.age,.int .i64 x.window])) (by kernel_rfl) rfl (by kernel_rfl) (by kernel_rfl) rfl (by kernel_rfl) (by kernel_rfl) (by kernel_rfl) (by kernel_rfl) hlt (by simp) (fun ww h => Own.sl h) (by rw [List.length_set,mark_ln hi]; exact hlt) ?_
  intro b11 o12 hA13
  refine xl_op 0 [0,1,5,38,39] ⟨[(0,.v (.slice A l.length cap)),(1,.v (.int .i64 (b + 3))),(5,.v (.int .i64 (i : Int))),(38,.v (.int .i64 (b + 3))),(39,.v (.pointer (some ⟨b11,o12 + i * 13,none⟩)))],[],[],[ownF B (.slice A l.length cap) 13 (((marks mkH 13 k i ++ l.drop i).map hlfCells).set i [.int .i64 b,.int .i64 (b + 1),.int .i64 (b + 2),.int .i64 x.iss,.int .i64 x.irs,.int .i64 x.o.mss,.int .i64 x.o.scale,.bool x.o.sack,.bool x.o.stamp,.int .i64 x.o.val,.int .i64 x.o.echo,.int .i64 x.age,.int .i64 x.window]),frF w (ownF B (.slice A l.length cap) 13 (l.map hlfCells)).blk]⟩ (.pointer (some ⟨b11,o12 + i * 13 + 3,none⟩)) (by kernel_rfl) rfl (by kernel_rfl) rfl (fun _ _ _ ww hr => fld_run (sz := 1) hr rfl Try.underlying42 rfl (by kernel_rfl) rfl rfl (by first | rfl | omega)) ?_
  refine xl_stE (K := 13) (po := 3) (B := B) (rs := ((marks mkH 13 k i ++ l.drop i).map hlfCells)) (row' := [.int .i64 b,.int .i64 (b + 1),.int .i64 (b + 2),.int .i64 (b + 3),.int .i64 x.irs,.int .i64 x.o.mss,.int .i64 x.o.scale,.bool x.o.sack,.bool x.o.stamp,.int .i64 x.o.val,.int .i64 x.o.echo,.int .i64 x.age,.int .i64 x.window]) 0 [0,1,5,38,40] ⟨[(0,.v (.slice A l.length cap)),(1,.v (.int .i64 (b + 3))),(5,.v (.int .i64 (i : Int))),(38,.v (.int .i64 (b + 3))),(40,.v (.pointer (some ⟨b11,o12 + i * 13 + 3,none⟩)))],[],[],[ownF B (.slice A l.length cap) 13 (((marks mkH 13 k i ++ l.drop i).map hlfCells).set i [.int .i64 b,.int .i64 (b + 1),.int .i64 (b + 2),.int .i64 x.iss,.int .i64 x.irs,.int .i64 x.o.mss,.int .i64 x.o.scale,.bool x.o.sack,.bool x.o.stamp,.int .i64 x.o.val,.int .i64 x.o.echo,.int .i64 x.age,.int .i64 x.window]),frF w (ownF B (.slice A l.length cap) 13 (l.map hlfCells)).blk]⟩ i [.int .i64 b,.int .i64 (b + 1),.int .i64 (b + 2),.int .i64 x.iss,.int .i64 x.irs,.int .i64 x.o.mss,.int .i64 x.o.scale,.bool x.o.sack,.bool x.o.stamp,.int .i64 x.o.val,.int .i64 x.o.echo,.int .i64 x.age,.int .i64 x.window] 0 (by kernel_rfl) rfl (by kernel_rfl) rfl rfl rfl rfl (by kernel_rfl) (by kernel_rfl) rfl (cutW_le w B) hA13 (by rw [mark_ln hi]; exact hlt) (fun r hr => by obtain ⟨y,_,rfl⟩ := List.mem_map.1 hr; rfl) (by kernel_rfl) (by kernel_rfl) rfl rfl ?_
  refine xl_end [0,1,5] ⟨[(0,.v (.slice A l.length cap)),(1,.v (.int .i64 (b + 3))),(5,.v (.int .i64 (i : Int)))],[],[],[ownF B (.slice A l.length cap) 13 (((marks mkH 13 k i ++ l.drop i).map hlfCells).set i [.int .i64 b,.int .i64 (b + 1),.int .i64 (b + 2),.int .i64 (b + 3),.int .i64 x.irs,.int .i64 x.o.mss,.int .i64 x.o.scale,.bool x.o.sack,.bool x.o.stamp,.int .i64 x.o.val,.int .i64 x.o.echo,.int .i64 x.age,.int .i64 x.window]),frF w (ownF B (.slice A l.length cap) 13 (l.map hlfCells)).blk]⟩ (by kernel_rfl) ?_
  refine xw_seq ?_
  refine xw_region ?_
  refine xl_runS 3 [0,1,5] [(0,.v (.slice A l.length cap)),(1,.v (.int .i64 (IntKind.i64.wrap (b + 3 + 1)))),(5,.v (.int .i64 (i : Int)))] (by kernel_rfl) ?_
  refine xl_eqS (t' := [(0,.v (.slice A l.length cap)),(1,.v (.int .i64 (b + 4))),(5,.v (.int .i64 (i : Int)))]) (by rw [show (IntKind.i64.wrap (b + 3 + 1)) = (b + 4) from wrap_to (by omega) (by omega) (by omega)]) ?_
  refine xl_endS [0,1,5] [(0,.v (.slice A l.length cap)),(1,.v (.int .i64 (b + 4))),(5,.v (.int .i64 (i : Int)))] (by kernel_rfl) ?_
  refine xw_seq ?_
  refine xw_region ?_
  refine xl_elem (kd := .i64) (T := 26) (e := 42) (K := 13) (A := A) (len := l.length) (cap := cap) (rs := (((marks mkH 13 k i ++ l.drop i).map hlfCells).set i [.int .i64 b,.int .i64 (b + 1),.int .i64 (b + 2),.int .i64 (b + 3),.int .i64 x.irs,.int .i64 x.o.mss,.int .i64 x.o.scale,.bool x.o.sack,.bool x.o.stamp,.int .i64 x.o.val,.int .i64 x.o.echo,.int .i64 x.age,.int .i64 x.window])) 3 [0,1,5,43,44,45] ⟨[(0,.v (.slice A l.length cap)),(1,.v (.int .i64 (b + 4))),(5,.v (.int .i64 (i : Int))),(43,.v (.slice A l.length cap)),(44,.v (.int .i64 (i : Int))),(45,.v (.int .i64 (b + 4)))],[],[],[ownF B (.slice A l.length cap) 13 (((marks mkH 13 k i ++ l.drop i).map hlfCells).set i [.int .i64 b,.int .i64 (b + 1),.int .i64 (b + 2),.int .i64 (b + 3),.int .i64 x.irs,.int .i64 x.o.mss,.int .i64 x.o.scale,.bool x.o.sack,.bool x.o.stamp,.int .i64 x.o.val,.int .i64 x.o.echo,.int .i64 x.age,.int .i64 x.window]),frF w (ownF B (.slice A l.length cap) 13 (l.map hlfCells)).blk]⟩ i (ownF B (.slice A l.length cap) 13 (((marks mkH 13 k i ++ l.drop i).map hlfCells).set i [.int .i64 b,.int .i64 (b + 1),.int .i64 (b + 2),.int .i64 (b + 3),.int .i64 x.irs,.int .i64 x.o.mss,.int .i64 x.o.scale,.bool x.o.sack,.bool x.o.stamp,.int .i64 x.o.val,.int .i64 x.o.echo,.int .i64 x.age,.int .i64 x.window])) (by kernel_rfl) rfl (by kernel_rfl) (by kernel_rfl) rfl (by kernel_rfl) (by kernel_rfl) (by kernel_rfl) (by kernel_rfl) hlt (by simp) (fun ww h => Own.sl h) (by rw [List.length_set,mark_ln hi]; exact hlt) ?_
  intro b14 o15 hA16
  refine xl_op 0 [0,1,5,45,46] ⟨[(0,.v (.slice A l.length cap)),(1,.v (.int .i64 (b + 4))),(5,.v (.int .i64 (i : Int))),(45,.v (.int .i64 (b + 4))),(46,.v (.pointer (some ⟨b14,o15 + i * 13,none⟩)))],[],[],[ownF B (.slice A l.length cap) 13 (((marks mkH 13 k i ++ l.drop i).map hlfCells).set i [.int .i64 b,.int .i64 (b + 1),.int .i64 (b + 2),.int .i64 (b + 3),.int .i64 x.irs,.int .i64 x.o.mss,.int .i64 x.o.scale,.bool x.o.sack,.bool x.o.stamp,.int .i64 x.o.val,.int .i64 x.o.echo,.int .i64 x.age,.int .i64 x.window]),frF w (ownF B (.slice A l.length cap) 13 (l.map hlfCells)).blk]⟩ (.pointer (some ⟨b14,o15 + i * 13 + 4,none⟩)) (by kernel_rfl) rfl (by kernel_rfl) rfl (fun _ _ _ ww hr => fld_run (sz := 1) hr rfl Try.underlying42 rfl (by kernel_rfl) rfl rfl (by first | rfl | omega)) ?_
  refine xl_stE (K := 13) (po := 4) (B := B) (rs := ((marks mkH 13 k i ++ l.drop i).map hlfCells)) (row' := [.int .i64 b,.int .i64 (b + 1),.int .i64 (b + 2),.int .i64 (b + 3),.int .i64 (b + 4),.int .i64 x.o.mss,.int .i64 x.o.scale,.bool x.o.sack,.bool x.o.stamp,.int .i64 x.o.val,.int .i64 x.o.echo,.int .i64 x.age,.int .i64 x.window]) 0 [0,1,5,45,47] ⟨[(0,.v (.slice A l.length cap)),(1,.v (.int .i64 (b + 4))),(5,.v (.int .i64 (i : Int))),(45,.v (.int .i64 (b + 4))),(47,.v (.pointer (some ⟨b14,o15 + i * 13 + 4,none⟩)))],[],[],[ownF B (.slice A l.length cap) 13 (((marks mkH 13 k i ++ l.drop i).map hlfCells).set i [.int .i64 b,.int .i64 (b + 1),.int .i64 (b + 2),.int .i64 (b + 3),.int .i64 x.irs,.int .i64 x.o.mss,.int .i64 x.o.scale,.bool x.o.sack,.bool x.o.stamp,.int .i64 x.o.val,.int .i64 x.o.echo,.int .i64 x.age,.int .i64 x.window]),frF w (ownF B (.slice A l.length cap) 13 (l.map hlfCells)).blk]⟩ i [.int .i64 b,.int .i64 (b + 1),.int .i64 (b + 2),.int .i64 (b + 3),.int .i64 x.irs,.int .i64 x.o.mss,.int .i64 x.o.scale,.bool x.o.sack,.bool x.o.stamp,.int .i64 x.o.val,.int .i64 x.o.echo,.int .i64 x.age,.int .i64 x.window] 0 (by kernel_rfl) rfl (by kernel_rfl) rfl rfl rfl rfl (by kernel_rfl) (by kernel_rfl) rfl (cutW_le w B) hA16 (by rw [mark_ln hi]; exact hlt) (fun r hr => by obtain ⟨y,_,rfl⟩ := List.mem_map.1 hr; rfl) (by kernel_rfl) (by kernel_rfl) rfl rfl ?_
  refine xl_end [0,1,5] ⟨[(0,.v (.slice A l.length cap)),(1,.v (.int .i64 (b + 4))),(5,.v (.int .i64 (i : Int)))],[],[],[ownF B (.slice A l.length cap) 13 (((marks mkH 13 k i ++ l.drop i).map hlfCells).set i [.int .i64 b,.int .i64 (b + 1),.int .i64 (b + 2),.int .i64 (b + 3),.int .i64 (b + 4),.int .i64 x.o.mss,.int .i64 x.o.scale,.bool x.o.sack,.bool x.o.stamp,.int .i64 x.o.val,.int .i64 x.o.echo,.int .i64 x.age,.int .i64 x.window]),frF w (ownF B (.slice A l.length cap) 13 (l.map hlfCells)).blk]⟩ (by kernel_rfl) ?_
  refine xw_seq ?_
  refine xw_region ?_
  refine xl_runS 3 [0,1,5] [(0,.v (.slice A l.length cap)),(1,.v (.int .i64 (IntKind.i64.wrap (b + 4 + 1)))),(5,.v (.int .i64 (i : Int)))] (by kernel_rfl) ?_
  refine xl_eqS (t' := [(0,.v (.slice A l.length cap)),(1,.v (.int .i64 (b + 5))),(5,.v (.int .i64 (i : Int)))]) (by rw [show (IntKind.i64.wrap (b + 4 + 1)) = (b + 5) from wrap_to (by omega) (by omega) (by omega)]) ?_
  refine xl_endS [0,1,5] [(0,.v (.slice A l.length cap)),(1,.v (.int .i64 (b + 5))),(5,.v (.int .i64 (i : Int)))] (by kernel_rfl) ?_
  refine xw_seq ?_
  refine xw_region ?_
  refine xl_elem (kd := .i64) (T := 26) (e := 42) (K := 13) (A := A) (len := l.length) (cap := cap) (rs := (((marks mkH 13 k i ++ l.drop i).map hlfCells).set i [.int .i64 b,.int .i64 (b + 1),.int .i64 (b + 2),.int .i64 (b + 3),.int .i64 (b + 4),.int .i64 x.o.mss,.int .i64 x.o.scale,.bool x.o.sack,.bool x.o.stamp,.int .i64 x.o.val,.int .i64 x.o.echo,.int .i64 x.age,.int .i64 x.window])) 3 [0,1,5,50,51,52] ⟨[(0,.v (.slice A l.length cap)),(1,.v (.int .i64 (b + 5))),(5,.v (.int .i64 (i : Int))),(50,.v (.slice A l.length cap)),(51,.v (.int .i64 (i : Int))),(52,.v (.int .i64 (b + 5)))],[],[],[ownF B (.slice A l.length cap) 13 (((marks mkH 13 k i ++ l.drop i).map hlfCells).set i [.int .i64 b,.int .i64 (b + 1),.int .i64 (b + 2),.int .i64 (b + 3),.int .i64 (b + 4),.int .i64 x.o.mss,.int .i64 x.o.scale,.bool x.o.sack,.bool x.o.stamp,.int .i64 x.o.val,.int .i64 x.o.echo,.int .i64 x.age,.int .i64 x.window]),frF w (ownF B (.slice A l.length cap) 13 (l.map hlfCells)).blk]⟩ i (ownF B (.slice A l.length cap) 13 (((marks mkH 13 k i ++ l.drop i).map hlfCells).set i [.int .i64 b,.int .i64 (b + 1),.int .i64 (b + 2),.int .i64 (b + 3),.int .i64 (b + 4),.int .i64 x.o.mss,.int .i64 x.o.scale,.bool x.o.sack,.bool x.o.stamp,.int .i64 x.o.val,.int .i64 x.o.echo,.int .i64 x.age,.int .i64 x.window])) (by kernel_rfl) rfl (by kernel_rfl) (by kernel_rfl) rfl (by kernel_rfl) (by kernel_rfl) (by kernel_rfl) (by kernel_rfl) hlt (by simp) (fun ww h => Own.sl h) (by rw [List.length_set,mark_ln hi]; exact hlt) ?_
  intro b17 o18 hA19
  refine xl_op 0 [0,1,5,52,53] ⟨[(0,.v (.slice A l.length cap)),(1,.v (.int .i64 (b + 5))),(5,.v (.int .i64 (i : Int))),(52,.v (.int .i64 (b + 5))),(53,.v (.pointer (some ⟨b17,o18 + i * 13,none⟩)))],[],[],[ownF B (.slice A l.length cap) 13 (((marks mkH 13 k i ++ l.drop i).map hlfCells).set i [.int .i64 b,.int .i64 (b + 1),.int .i64 (b + 2),.int .i64 (b + 3),.int .i64 (b + 4),.int .i64 x.o.mss,.int .i64 x.o.scale,.bool x.o.sack,.bool x.o.stamp,.int .i64 x.o.val,.int .i64 x.o.echo,.int .i64 x.age,.int .i64 x.window]),frF w (ownF B (.slice A l.length cap) 13 (l.map hlfCells)).blk]⟩ (.pointer (some ⟨b17,o18 + i * 13 + 5,none⟩)) (by kernel_rfl) rfl (by kernel_rfl) rfl (fun _ _ _ ww hr => fld_run (sz := 6) hr rfl Try.underlying42 rfl (by kernel_rfl) rfl rfl (by first | rfl | omega)) ?_
  refine xl_op 0 [0,1,5,52,54] ⟨[(0,.v (.slice A l.length cap)),(1,.v (.int .i64 (b + 5))),(5,.v (.int .i64 (i : Int))),(52,.v (.int .i64 (b + 5))),(54,.v (.pointer (some ⟨b17,o18 + i * 13 + 5,none⟩)))],[],[],[ownF B (.slice A l.length cap) 13 (((marks mkH 13 k i ++ l.drop i).map hlfCells).set i [.int .i64 b,.int .i64 (b + 1),.int .i64 (b + 2),.int .i64 (b + 3),.int .i64 (b + 4),.int .i64 x.o.mss,.int .i64 x.o.scale,.bool x.o.sack,.bool x.o.stamp,.int .i64 x.o.val,.int .i64 x.o.echo,.int .i64 x.age,.int .i64 x.window]),frF w (ownF B (.slice A l.length cap) 13 (l.map hlfCells)).blk]⟩ (.pointer (some ⟨b17,o18 + i * 13 + 5,none⟩)) (by kernel_rfl) rfl (by kernel_rfl) rfl (fun _ _ _ ww hr => fld_run (sz := 1) hr rfl Try.underlying40 rfl (by kernel_rfl) rfl rfl (by first | rfl | omega)) ?_
  refine xl_stE (K := 13) (po := 5) (B := B) (rs := ((marks mkH 13 k i ++ l.drop i).map hlfCells)) (row' := [.int .i64 b,.int .i64 (b + 1),.int .i64 (b + 2),.int .i64 (b + 3),.int .i64 (b + 4),.int .i64 (b + 5),.int .i64 x.o.scale,.bool x.o.sack,.bool x.o.stamp,.int .i64 x.o.val,.int .i64 x.o.echo,.int .i64 x.age,.int .i64 x.window]) 0 [0,1,5,52,55] ⟨[(0,.v (.slice A l.length cap)),(1,.v (.int .i64 (b + 5))),(5,.v (.int .i64 (i : Int))),(52,.v (.int .i64 (b + 5))),(55,.v (.pointer (some ⟨b17,o18 + i * 13 + 5,none⟩)))],[],[],[ownF B (.slice A l.length cap) 13 (((marks mkH 13 k i ++ l.drop i).map hlfCells).set i [.int .i64 b,.int .i64 (b + 1),.int .i64 (b + 2),.int .i64 (b + 3),.int .i64 (b + 4),.int .i64 x.o.mss,.int .i64 x.o.scale,.bool x.o.sack,.bool x.o.stamp,.int .i64 x.o.val,.int .i64 x.o.echo,.int .i64 x.age,.int .i64 x.window]),frF w (ownF B (.slice A l.length cap) 13 (l.map hlfCells)).blk]⟩ i [.int .i64 b,.int .i64 (b + 1),.int .i64 (b + 2),.int .i64 (b + 3),.int .i64 (b + 4),.int .i64 x.o.mss,.int .i64 x.o.scale,.bool x.o.sack,.bool x.o.stamp,.int .i64 x.o.val,.int .i64 x.o.echo,.int .i64 x.age,.int .i64 x.window] 0 (by kernel_rfl) rfl (by kernel_rfl) rfl rfl rfl rfl (by kernel_rfl) (by kernel_rfl) rfl (cutW_le w B) hA19 (by rw [mark_ln hi]; exact hlt) (fun r hr => by obtain ⟨y,_,rfl⟩ := List.mem_map.1 hr; rfl) (by kernel_rfl) (by kernel_rfl) rfl rfl ?_
  refine xl_end [0,1,5] ⟨[(0,.v (.slice A l.length cap)),(1,.v (.int .i64 (b + 5))),(5,.v (.int .i64 (i : Int)))],[],[],[ownF B (.slice A l.length cap) 13 (((marks mkH 13 k i ++ l.drop i).map hlfCells).set i [.int .i64 b,.int .i64 (b + 1),.int .i64 (b + 2),.int .i64 (b + 3),.int .i64 (b + 4),.int .i64 (b + 5),.int .i64 x.o.scale,.bool x.o.sack,.bool x.o.stamp,.int .i64 x.o.val,.int .i64 x.o.echo,.int .i64 x.age,.int .i64 x.window]),frF w (ownF B (.slice A l.length cap) 13 (l.map hlfCells)).blk]⟩ (by kernel_rfl) ?_
  refine xw_seq ?_
  refine xw_region ?_
  refine xl_runS 3 [0,1,5] [(0,.v (.slice A l.length cap)),(1,.v (.int .i64 (IntKind.i64.wrap (b + 5 + 1)))),(5,.v (.int .i64 (i : Int)))] (by kernel_rfl) ?_
  refine xl_eqS (t' := [(0,.v (.slice A l.length cap)),(1,.v (.int .i64 (b + 6))),(5,.v (.int .i64 (i : Int)))]) (by rw [show (IntKind.i64.wrap (b + 5 + 1)) = (b + 6) from wrap_to (by omega) (by omega) (by omega)]) ?_
  refine xl_endS [0,1,5] [(0,.v (.slice A l.length cap)),(1,.v (.int .i64 (b + 6))),(5,.v (.int .i64 (i : Int)))] (by kernel_rfl) ?_
  refine xw_seq ?_
  refine xw_region ?_
  refine xl_elem (kd := .i64) (T := 26) (e := 42) (K := 13) (A := A) (len := l.length) (cap := cap) (rs := (((marks mkH 13 k i ++ l.drop i).map hlfCells).set i [.int .i64 b,.int .i64 (b + 1),.int .i64 (b + 2),.int .i64 (b + 3),.int .i64 (b + 4),.int .i64 (b + 5),.int .i64 x.o.scale,.bool x.o.sack,.bool x.o.stamp,.int .i64 x.o.val,.int .i64 x.o.echo,.int .i64 x.age,.int .i64 x.window])) 3 [0,1,5,58,59,60] ⟨[(0,.v (.slice A l.length cap)),(1,.v (.int .i64 (b + 6))),(5,.v (.int .i64 (i : Int))),(58,.v (.slice A l.length cap)),(59,.v (.int .i64 (i : Int))),(60,.v (.int .i64 (b + 6)))],[],[],[ownF B (.slice A l.length cap) 13 (((marks mkH 13 k i ++ l.drop i).map hlfCells).set i [.int .i64 b,.int .i64 (b + 1),.int .i64 (b + 2),.int .i64 (b + 3),.int .i64 (b + 4),.int .i64 (b + 5),.int .i64 x.o.scale,.bool x.o.sack,.bool x.o.stamp,.int .i64 x.o.val,.int .i64 x.o.echo,.int .i64 x.age,.int .i64 x.window]),frF w (ownF B (.slice A l.length cap) 13 (l.map hlfCells)).blk]⟩ i (ownF B (.slice A l.length cap) 13 (((marks mkH 13 k i ++ l.drop i).map hlfCells).set i [.int .i64 b,.int .i64 (b + 1),.int .i64 (b + 2),.int .i64 (b + 3),.int .i64 (b + 4),.int .i64 (b + 5),.int .i64 x.o.scale,.bool x.o.sack,.bool x.o.stamp,.int .i64 x.o.val,.int .i64 x.o.echo,.int .i64 x.age,.int .i64 x.window])) (by kernel_rfl) rfl (by kernel_rfl) (by kernel_rfl) rfl (by kernel_rfl) (by kernel_rfl) (by kernel_rfl) (by kernel_rfl) hlt (by simp) (fun ww h => Own.sl h) (by rw [List.length_set,mark_ln hi]; exact hlt) ?_
  intro b20 o21 hA22
  refine xl_op 0 [0,1,5,60,61] ⟨[(0,.v (.slice A l.length cap)),(1,.v (.int .i64 (b + 6))),(5,.v (.int .i64 (i : Int))),(60,.v (.int .i64 (b + 6))),(61,.v (.pointer (some ⟨b20,o21 + i * 13,none⟩)))],[],[],[ownF B (.slice A l.length cap) 13 (((marks mkH 13 k i ++ l.drop i).map hlfCells).set i [.int .i64 b,.int .i64 (b + 1),.int .i64 (b + 2),.int .i64 (b + 3),.int .i64 (b + 4),.int .i64 (b + 5),.int .i64 x.o.scale,.bool x.o.sack,.bool x.o.stamp,.int .i64 x.o.val,.int .i64 x.o.echo,.int .i64 x.age,.int .i64 x.window]),frF w (ownF B (.slice A l.length cap) 13 (l.map hlfCells)).blk]⟩ (.pointer (some ⟨b20,o21 + i * 13 + 5,none⟩)) (by kernel_rfl) rfl (by kernel_rfl) rfl (fun _ _ _ ww hr => fld_run (sz := 6) hr rfl Try.underlying42 rfl (by kernel_rfl) rfl rfl (by first | rfl | omega)) ?_
  refine xl_op 0 [0,1,5,60,62] ⟨[(0,.v (.slice A l.length cap)),(1,.v (.int .i64 (b + 6))),(5,.v (.int .i64 (i : Int))),(60,.v (.int .i64 (b + 6))),(62,.v (.pointer (some ⟨b20,o21 + i * 13 + 5,none⟩)))],[],[],[ownF B (.slice A l.length cap) 13 (((marks mkH 13 k i ++ l.drop i).map hlfCells).set i [.int .i64 b,.int .i64 (b + 1),.int .i64 (b + 2),.int .i64 (b + 3),.int .i64 (b + 4),.int .i64 (b + 5),.int .i64 x.o.scale,.bool x.o.sack,.bool x.o.stamp,.int .i64 x.o.val,.int .i64 x.o.echo,.int .i64 x.age,.int .i64 x.window]),frF w (ownF B (.slice A l.length cap) 13 (l.map hlfCells)).blk]⟩ (.pointer (some ⟨b20,o21 + i * 13 + 6,none⟩)) (by kernel_rfl) rfl (by kernel_rfl) rfl (fun _ _ _ ww hr => fld_run (sz := 1) hr rfl Try.underlying40 rfl (by kernel_rfl) rfl rfl (by first | rfl | omega)) ?_
  refine xl_stE (K := 13) (po := 6) (B := B) (rs := ((marks mkH 13 k i ++ l.drop i).map hlfCells)) (row' := [.int .i64 b,.int .i64 (b + 1),.int .i64 (b + 2),.int .i64 (b + 3),.int .i64 (b + 4),.int .i64 (b + 5),.int .i64 (b + 6),.bool x.o.sack,.bool x.o.stamp,.int .i64 x.o.val,.int .i64 x.o.echo,.int .i64 x.age,.int .i64 x.window]) 0 [0,1,5,60,63] ⟨[(0,.v (.slice A l.length cap)),(1,.v (.int .i64 (b + 6))),(5,.v (.int .i64 (i : Int))),(60,.v (.int .i64 (b + 6))),(63,.v (.pointer (some ⟨b20,o21 + i * 13 + 6,none⟩)))],[],[],[ownF B (.slice A l.length cap) 13 (((marks mkH 13 k i ++ l.drop i).map hlfCells).set i [.int .i64 b,.int .i64 (b + 1),.int .i64 (b + 2),.int .i64 (b + 3),.int .i64 (b + 4),.int .i64 (b + 5),.int .i64 x.o.scale,.bool x.o.sack,.bool x.o.stamp,.int .i64 x.o.val,.int .i64 x.o.echo,.int .i64 x.age,.int .i64 x.window]),frF w (ownF B (.slice A l.length cap) 13 (l.map hlfCells)).blk]⟩ i [.int .i64 b,.int .i64 (b + 1),.int .i64 (b + 2),.int .i64 (b + 3),.int .i64 (b + 4),.int .i64 (b + 5),.int .i64 x.o.scale,.bool x.o.sack,.bool x.o.stamp,.int .i64 x.o.val,.int .i64 x.o.echo,.int .i64 x.age,.int .i64 x.window] 0 (by kernel_rfl) rfl (by kernel_rfl) rfl rfl rfl rfl (by kernel_rfl) (by kernel_rfl) rfl (cutW_le w B) hA22 (by rw [mark_ln hi]; exact hlt) (fun r hr => by obtain ⟨y,_,rfl⟩ := List.mem_map.1 hr; rfl) (by kernel_rfl) (by kernel_rfl) rfl rfl ?_
  refine xl_end [0,1,5] ⟨[(0,.v (.slice A l.length cap)),(1,.v (.int .i64 (b + 6))),(5,.v (.int .i64 (i : Int)))],[],[],[ownF B (.slice A l.length cap) 13 (((marks mkH 13 k i ++ l.drop i).map hlfCells).set i [.int .i64 b,.int .i64 (b + 1),.int .i64 (b + 2),.int .i64 (b + 3),.int .i64 (b + 4),.int .i64 (b + 5),.int .i64 (b + 6),.bool x.o.sack,.bool x.o.stamp,.int .i64 x.o.val,.int .i64 x.o.echo,.int .i64 x.age,.int .i64 x.window]),frF w (ownF B (.slice A l.length cap) 13 (l.map hlfCells)).blk]⟩ (by kernel_rfl) ?_
  refine xw_seq ?_
  refine xw_region ?_
  refine xl_runS 3 [0,1,5] [(0,.v (.slice A l.length cap)),(1,.v (.int .i64 (IntKind.i64.wrap (b + 6 + 1)))),(5,.v (.int .i64 (i : Int)))] (by kernel_rfl) ?_
  refine xl_eqS (t' := [(0,.v (.slice A l.length cap)),(1,.v (.int .i64 (b + 7))),(5,.v (.int .i64 (i : Int)))]) (by rw [show (IntKind.i64.wrap (b + 6 + 1)) = (b + 7) from wrap_to (by omega) (by omega) (by omega)]) ?_
  refine xl_endS [0,1,5] [(0,.v (.slice A l.length cap)),(1,.v (.int .i64 (b + 7))),(5,.v (.int .i64 (i : Int)))] (by kernel_rfl) ?_
  refine xw_seq ?_
  refine xw_region ?_
  refine xl_opS 3 [0,1,5,66,67,68] [(0,.v (.slice A l.length cap)),(1,.v (.int .i64 (b + 7))),(5,.v (.int .i64 (i : Int))),(66,.v (.slice A l.length cap)),(67,.v (.int .i64 (i : Int))),(68,.v (.int .i64 (b + 7)))] (.int .i64 (Int.tmod (b + 7) 3)) (by kernel_rfl) rfl (by kernel_rfl) rfl (fun _ _ _ ww hr => act_bin hr.1 rfl (by kernel_rfl) (by kernel_rfl) (rem_run (by decide) ww)) ?_
  refine xl_elem (kd := .i64) (T := 26) (e := 42) (K := 13) (A := A) (len := l.length) (cap := cap) (rs := (((marks mkH 13 k i ++ l.drop i).map hlfCells).set i [.int .i64 b,.int .i64 (b + 1),.int .i64 (b + 2),.int .i64 (b + 3),.int .i64 (b + 4),.int .i64 (b + 5),.int .i64 (b + 6),.bool x.o.sack,.bool x.o.stamp,.int .i64 x.o.val,.int .i64 x.o.echo,.int .i64 x.age,.int .i64 x.window])) 1 [0,1,5,66,67,70] ⟨[(0,.v (.slice A l.length cap)),(1,.v (.int .i64 (b + 7))),(5,.v (.int .i64 (i : Int))),(66,.v (.slice A l.length cap)),(67,.v (.int .i64 (i : Int))),(70,.v (.bool ((Int.tmod (b + 7) 3) == 0)))],[],[],[ownF B (.slice A l.length cap) 13 (((marks mkH 13 k i ++ l.drop i).map hlfCells).set i [.int .i64 b,.int .i64 (b + 1),.int .i64 (b + 2),.int .i64 (b + 3),.int .i64 (b + 4),.int .i64 (b + 5),.int .i64 (b + 6),.bool x.o.sack,.bool x.o.stamp,.int .i64 x.o.val,.int .i64 x.o.echo,.int .i64 x.age,.int .i64 x.window]),frF w (ownF B (.slice A l.length cap) 13 (l.map hlfCells)).blk]⟩ i (ownF B (.slice A l.length cap) 13 (((marks mkH 13 k i ++ l.drop i).map hlfCells).set i [.int .i64 b,.int .i64 (b + 1),.int .i64 (b + 2),.int .i64 (b + 3),.int .i64 (b + 4),.int .i64 (b + 5),.int .i64 (b + 6),.bool x.o.sack,.bool x.o.stamp,.int .i64 x.o.val,.int .i64 x.o.echo,.int .i64 x.age,.int .i64 x.window])) (by kernel_rfl) rfl (by kernel_rfl) (by kernel_rfl) rfl (by kernel_rfl) (by kernel_rfl) (by kernel_rfl) (by kernel_rfl) hlt (by simp) (fun ww h => Own.sl h) (by rw [List.length_set,mark_ln hi]; exact hlt) ?_
  intro b23 o24 hA25
  refine xl_op 0 [0,1,5,70,71] ⟨[(0,.v (.slice A l.length cap)),(1,.v (.int .i64 (b + 7))),(5,.v (.int .i64 (i : Int))),(70,.v (.bool ((Int.tmod (b + 7) 3) == 0))),(71,.v (.pointer (some ⟨b23,o24 + i * 13,none⟩)))],[],[],[ownF B (.slice A l.length cap) 13 (((marks mkH 13 k i ++ l.drop i).map hlfCells).set i [.int .i64 b,.int .i64 (b + 1),.int .i64 (b + 2),.int .i64 (b + 3),.int .i64 (b + 4),.int .i64 (b + 5),.int .i64 (b + 6),.bool x.o.sack,.bool x.o.stamp,.int .i64 x.o.val,.int .i64 x.o.echo,.int .i64 x.age,.int .i64 x.window]),frF w (ownF B (.slice A l.length cap) 13 (l.map hlfCells)).blk]⟩ (.pointer (some ⟨b23,o24 + i * 13 + 5,none⟩)) (by kernel_rfl) rfl (by kernel_rfl) rfl (fun _ _ _ ww hr => fld_run (sz := 6) hr rfl Try.underlying42 rfl (by kernel_rfl) rfl rfl (by first | rfl | omega)) ?_
  refine xl_op 0 [0,1,5,70,72] ⟨[(0,.v (.slice A l.length cap)),(1,.v (.int .i64 (b + 7))),(5,.v (.int .i64 (i : Int))),(70,.v (.bool ((Int.tmod (b + 7) 3) == 0))),(72,.v (.pointer (some ⟨b23,o24 + i * 13 + 5,none⟩)))],[],[],[ownF B (.slice A l.length cap) 13 (((marks mkH 13 k i ++ l.drop i).map hlfCells).set i [.int .i64 b,.int .i64 (b + 1),.int .i64 (b + 2),.int .i64 (b + 3),.int .i64 (b + 4),.int .i64 (b + 5),.int .i64 (b + 6),.bool x.o.sack,.bool x.o.stamp,.int .i64 x.o.val,.int .i64 x.o.echo,.int .i64 x.age,.int .i64 x.window]),frF w (ownF B (.slice A l.length cap) 13 (l.map hlfCells)).blk]⟩ (.pointer (some ⟨b23,o24 + i * 13 + 7,none⟩)) (by kernel_rfl) rfl (by kernel_rfl) rfl (fun _ _ _ ww hr => fld_run (sz := 1) hr rfl Try.underlying40 rfl (by kernel_rfl) rfl rfl (by first | rfl | omega)) ?_
  refine xl_stE (K := 13) (po := 7) (B := B) (rs := ((marks mkH 13 k i ++ l.drop i).map hlfCells)) (row' := [.int .i64 b,.int .i64 (b + 1),.int .i64 (b + 2),.int .i64 (b + 3),.int .i64 (b + 4),.int .i64 (b + 5),.int .i64 (b + 6),.bool ((Int.tmod (b + 7) 3) == 0),.bool x.o.stamp,.int .i64 x.o.val,.int .i64 x.o.echo,.int .i64 x.age,.int .i64 x.window]) 0 [0,1,5,70,73] ⟨[(0,.v (.slice A l.length cap)),(1,.v (.int .i64 (b + 7))),(5,.v (.int .i64 (i : Int))),(70,.v (.bool ((Int.tmod (b + 7) 3) == 0))),(73,.v (.pointer (some ⟨b23,o24 + i * 13 + 7,none⟩)))],[],[],[ownF B (.slice A l.length cap) 13 (((marks mkH 13 k i ++ l.drop i).map hlfCells).set i [.int .i64 b,.int .i64 (b + 1),.int .i64 (b + 2),.int .i64 (b + 3),.int .i64 (b + 4),.int .i64 (b + 5),.int .i64 (b + 6),.bool x.o.sack,.bool x.o.stamp,.int .i64 x.o.val,.int .i64 x.o.echo,.int .i64 x.age,.int .i64 x.window]),frF w (ownF B (.slice A l.length cap) 13 (l.map hlfCells)).blk]⟩ i [.int .i64 b,.int .i64 (b + 1),.int .i64 (b + 2),.int .i64 (b + 3),.int .i64 (b + 4),.int .i64 (b + 5),.int .i64 (b + 6),.bool x.o.sack,.bool x.o.stamp,.int .i64 x.o.val,.int .i64 x.o.echo,.int .i64 x.age,.int .i64 x.window] 0 (by kernel_rfl) rfl (by kernel_rfl) rfl rfl rfl rfl (by kernel_rfl) (by kernel_rfl) rfl (cutW_le w B) hA25 (by rw [mark_ln hi]; exact hlt) (fun r hr => by obtain ⟨y,_,rfl⟩ := List.mem_map.1 hr; rfl) (by kernel_rfl) (by kernel_rfl) rfl rfl ?_
  refine xl_end [0,1,5] ⟨[(0,.v (.slice A l.length cap)),(1,.v (.int .i64 (b + 7))),(5,.v (.int .i64 (i : Int)))],[],[],[ownF B (.slice A l.length cap) 13 (((marks mkH 13 k i ++ l.drop i).map hlfCells).set i [.int .i64 b,.int .i64 (b + 1),.int .i64 (b + 2),.int .i64 (b + 3),.int .i64 (b + 4),.int .i64 (b + 5),.int .i64 (b + 6),.bool ((Int.tmod (b + 7) 3) == 0),.bool x.o.stamp,.int .i64 x.o.val,.int .i64 x.o.echo,.int .i64 x.age,.int .i64 x.window]),frF w (ownF B (.slice A l.length cap) 13 (l.map hlfCells)).blk]⟩ (by kernel_rfl) ?_
  refine xw_seq ?_
  refine xw_region ?_
  refine xl_runS 3 [0,1,5] [(0,.v (.slice A l.length cap)),(1,.v (.int .i64 (IntKind.i64.wrap (b + 7 + 1)))),(5,.v (.int .i64 (i : Int)))] (by kernel_rfl) ?_
  refine xl_eqS (t' := [(0,.v (.slice A l.length cap)),(1,.v (.int .i64 (b + 8))),(5,.v (.int .i64 (i : Int)))]) (by rw [show (IntKind.i64.wrap (b + 7 + 1)) = (b + 8) from wrap_to (by omega) (by omega) (by omega)]) ?_
  refine xl_endS [0,1,5] [(0,.v (.slice A l.length cap)),(1,.v (.int .i64 (b + 8))),(5,.v (.int .i64 (i : Int)))] (by kernel_rfl) ?_
  refine xw_seq ?_
  refine xw_region ?_
  refine xl_opS 3 [0,1,5,76,77,78] [(0,.v (.slice A l.length cap)),(1,.v (.int .i64 (b + 8))),(5,.v (.int .i64 (i : Int))),(76,.v (.slice A l.length cap)),(77,.v (.int .i64 (i : Int))),(78,.v (.int .i64 (b + 8)))] (.int .i64 (Int.tmod (b + 8) 3)) (by kernel_rfl) rfl (by kernel_rfl) rfl (fun _ _ _ ww hr => act_bin hr.1 rfl (by kernel_rfl) (by kernel_rfl) (rem_run (by decide) ww)) ?_
  refine xl_elem (kd := .i64) (T := 26) (e := 42) (K := 13) (A := A) (len := l.length) (cap := cap) (rs := (((marks mkH 13 k i ++ l.drop i).map hlfCells).set i [.int .i64 b,.int .i64 (b + 1),.int .i64 (b + 2),.int .i64 (b + 3),.int .i64 (b + 4),.int .i64 (b + 5),.int .i64 (b + 6),.bool ((Int.tmod (b + 7) 3) == 0),.bool x.o.stamp,.int .i64 x.o.val,.int .i64 x.o.echo,.int .i64 x.age,.int .i64 x.window])) 1 [0,1,5,76,77,80] ⟨[(0,.v (.slice A l.length cap)),(1,.v (.int .i64 (b + 8))),(5,.v (.int .i64 (i : Int))),(76,.v (.slice A l.length cap)),(77,.v (.int .i64 (i : Int))),(80,.v (.bool ((Int.tmod (b + 8) 3) == 0)))],[],[],[ownF B (.slice A l.length cap) 13 (((marks mkH 13 k i ++ l.drop i).map hlfCells).set i [.int .i64 b,.int .i64 (b + 1),.int .i64 (b + 2),.int .i64 (b + 3),.int .i64 (b + 4),.int .i64 (b + 5),.int .i64 (b + 6),.bool ((Int.tmod (b + 7) 3) == 0),.bool x.o.stamp,.int .i64 x.o.val,.int .i64 x.o.echo,.int .i64 x.age,.int .i64 x.window]),frF w (ownF B (.slice A l.length cap) 13 (l.map hlfCells)).blk]⟩ i (ownF B (.slice A l.length cap) 13 (((marks mkH 13 k i ++ l.drop i).map hlfCells).set i [.int .i64 b,.int .i64 (b + 1),.int .i64 (b + 2),.int .i64 (b + 3),.int .i64 (b + 4),.int .i64 (b + 5),.int .i64 (b + 6),.bool ((Int.tmod (b + 7) 3) == 0),.bool x.o.stamp,.int .i64 x.o.val,.int .i64 x.o.echo,.int .i64 x.age,.int .i64 x.window])) (by kernel_rfl) rfl (by kernel_rfl) (by kernel_rfl) rfl (by kernel_rfl) (by kernel_rfl) (by kernel_rfl) (by kernel_rfl) hlt (by simp) (fun ww h => Own.sl h) (by rw [List.length_set,mark_ln hi]; exact hlt) ?_
  intro b26 o27 hA28
  refine xl_op 0 [0,1,5,80,81] ⟨[(0,.v (.slice A l.length cap)),(1,.v (.int .i64 (b + 8))),(5,.v (.int .i64 (i : Int))),(80,.v (.bool ((Int.tmod (b + 8) 3) == 0))),(81,.v (.pointer (some ⟨b26,o27 + i * 13,none⟩)))],[],[],[ownF B (.slice A l.length cap) 13 (((marks mkH 13 k i ++ l.drop i).map hlfCells).set i [.int .i64 b,.int .i64 (b + 1),.int .i64 (b + 2),.int .i64 (b + 3),.int .i64 (b + 4),.int .i64 (b + 5),.int .i64 (b + 6),.bool ((Int.tmod (b + 7) 3) == 0),.bool x.o.stamp,.int .i64 x.o.val,.int .i64 x.o.echo,.int .i64 x.age,.int .i64 x.window]),frF w (ownF B (.slice A l.length cap) 13 (l.map hlfCells)).blk]⟩ (.pointer (some ⟨b26,o27 + i * 13 + 5,none⟩)) (by kernel_rfl) rfl (by kernel_rfl) rfl (fun _ _ _ ww hr => fld_run (sz := 6) hr rfl Try.underlying42 rfl (by kernel_rfl) rfl rfl (by first | rfl | omega)) ?_
  refine xl_op 0 [0,1,5,80,82] ⟨[(0,.v (.slice A l.length cap)),(1,.v (.int .i64 (b + 8))),(5,.v (.int .i64 (i : Int))),(80,.v (.bool ((Int.tmod (b + 8) 3) == 0))),(82,.v (.pointer (some ⟨b26,o27 + i * 13 + 5,none⟩)))],[],[],[ownF B (.slice A l.length cap) 13 (((marks mkH 13 k i ++ l.drop i).map hlfCells).set i [.int .i64 b,.int .i64 (b + 1),.int .i64 (b + 2),.int .i64 (b + 3),.int .i64 (b + 4),.int .i64 (b + 5),.int .i64 (b + 6),.bool ((Int.tmod (b + 7) 3) == 0),.bool x.o.stamp,.int .i64 x.o.val,.int .i64 x.o.echo,.int .i64 x.age,.int .i64 x.window]),frF w (ownF B (.slice A l.length cap) 13 (l.map hlfCells)).blk]⟩ (.pointer (some ⟨b26,o27 + i * 13 + 8,none⟩)) (by kernel_rfl) rfl (by kernel_rfl) rfl (fun _ _ _ ww hr => fld_run (sz := 1) hr rfl Try.underlying40 rfl (by kernel_rfl) rfl rfl (by first | rfl | omega)) ?_
  refine xl_stE (K := 13) (po := 8) (B := B) (rs := ((marks mkH 13 k i ++ l.drop i).map hlfCells)) (row' := [.int .i64 b,.int .i64 (b + 1),.int .i64 (b + 2),.int .i64 (b + 3),.int .i64 (b + 4),.int .i64 (b + 5),.int .i64 (b + 6),.bool ((Int.tmod (b + 7) 3) == 0),.bool ((Int.tmod (b + 8) 3) == 0),.int .i64 x.o.val,.int .i64 x.o.echo,.int .i64 x.age,.int .i64 x.window]) 0 [0,1,5,80,83] ⟨[(0,.v (.slice A l.length cap)),(1,.v (.int .i64 (b + 8))),(5,.v (.int .i64 (i : Int))),(80,.v (.bool ((Int.tmod (b + 8) 3) == 0))),(83,.v (.pointer (some ⟨b26,o27 + i * 13 + 8,none⟩)))],[],[],[ownF B (.slice A l.length cap) 13 (((marks mkH 13 k i ++ l.drop i).map hlfCells).set i [.int .i64 b,.int .i64 (b + 1),.int .i64 (b + 2),.int .i64 (b + 3),.int .i64 (b + 4),.int .i64 (b + 5),.int .i64 (b + 6),.bool ((Int.tmod (b + 7) 3) == 0),.bool x.o.stamp,.int .i64 x.o.val,.int .i64 x.o.echo,.int .i64 x.age,.int .i64 x.window]),frF w (ownF B (.slice A l.length cap) 13 (l.map hlfCells)).blk]⟩ i [.int .i64 b,.int .i64 (b + 1),.int .i64 (b + 2),.int .i64 (b + 3),.int .i64 (b + 4),.int .i64 (b + 5),.int .i64 (b + 6),.bool ((Int.tmod (b + 7) 3) == 0),.bool x.o.stamp,.int .i64 x.o.val,.int .i64 x.o.echo,.int .i64 x.age,.int .i64 x.window] 0 (by kernel_rfl) rfl (by kernel_rfl) rfl rfl rfl rfl (by kernel_rfl) (by kernel_rfl) rfl (cutW_le w B) hA28 (by rw [mark_ln hi]; exact hlt) (fun r hr => by obtain ⟨y,_,rfl⟩ := List.mem_map.1 hr; rfl) (by kernel_rfl) (by kernel_rfl) rfl rfl ?_
  refine xl_end [0,1,5] ⟨[(0,.v (.slice A l.length cap)),(1,.v (.int .i64 (b + 8))),(5,.v (.int .i64 (i : Int)))],[],[],[ownF B (.slice A l.length cap) 13 (((marks mkH 13 k i ++ l.drop i).map hlfCells).set i [.int .i64 b,.int .i64 (b + 1),.int .i64 (b + 2),.int .i64 (b + 3),.int .i64 (b + 4),.int .i64 (b + 5),.int .i64 (b + 6),.bool ((Int.tmod (b + 7) 3) == 0),.bool ((Int.tmod (b + 8) 3) == 0),.int .i64 x.o.val,.int .i64 x.o.echo,.int .i64 x.age,.int .i64 x.window]),frF w (ownF B (.slice A l.length cap) 13 (l.map hlfCells)).blk]⟩ (by kernel_rfl) ?_
  refine xw_seq ?_
  refine xw_region ?_
  refine xl_runS 3 [0,1,5] [(0,.v (.slice A l.length cap)),(1,.v (.int .i64 (IntKind.i64.wrap (b + 8 + 1)))),(5,.v (.int .i64 (i : Int)))] (by kernel_rfl) ?_
  refine xl_eqS (t' := [(0,.v (.slice A l.length cap)),(1,.v (.int .i64 (b + 9))),(5,.v (.int .i64 (i : Int)))]) (by rw [show (IntKind.i64.wrap (b + 8 + 1)) = (b + 9) from wrap_to (by omega) (by omega) (by omega)]) ?_
  refine xl_endS [0,1,5] [(0,.v (.slice A l.length cap)),(1,.v (.int .i64 (b + 9))),(5,.v (.int .i64 (i : Int)))] (by kernel_rfl) ?_
  refine xw_seq ?_
  refine xw_region ?_
  refine xl_elem (kd := .i64) (T := 26) (e := 42) (K := 13) (A := A) (len := l.length) (cap := cap) (rs := (((marks mkH 13 k i ++ l.drop i).map hlfCells).set i [.int .i64 b,.int .i64 (b + 1),.int .i64 (b + 2),.int .i64 (b + 3),.int .i64 (b + 4),.int .i64 (b + 5),.int .i64 (b + 6),.bool ((Int.tmod (b + 7) 3) == 0),.bool ((Int.tmod (b + 8) 3) == 0),.int .i64 x.o.val,.int .i64 x.o.echo,.int .i64 x.age,.int .i64 x.window])) 3 [0,1,5,86,87,88] ⟨[(0,.v (.slice A l.length cap)),(1,.v (.int .i64 (b + 9))),(5,.v (.int .i64 (i : Int))),(86,.v (.slice A l.length cap)),(87,.v (.int .i64 (i : Int))),(88,.v (.int .i64 (b + 9)))],[],[],[ownF B (.slice A l.length cap) 13 (((marks mkH 13 k i ++ l.drop i).map hlfCells).set i [.int .i64 b,.int .i64 (b + 1),.int .i64 (b + 2),.int .i64 (b + 3),.int .i64 (b + 4),.int .i64 (b + 5),.int .i64 (b + 6),.bool ((Int.tmod (b + 7) 3) == 0),.bool ((Int.tmod (b + 8) 3) == 0),.int .i64 x.o.val,.int .i64 x.o.echo,.int .i64 x.age,.int .i64 x.window]),frF w (ownF B (.slice A l.length cap) 13 (l.map hlfCells)).blk]⟩ i (ownF B (.slice A l.length cap) 13 (((marks mkH 13 k i ++ l.drop i).map hlfCells).set i [.int .i64 b,.int .i64 (b + 1),.int .i64 (b + 2),.int .i64 (b + 3),.int .i64 (b + 4),.int .i64 (b + 5),.int .i64 (b + 6),.bool ((Int.tmod (b + 7) 3) == 0),.bool ((Int.tmod (b + 8) 3) == 0),.int .i64 x.o.val,.int .i64 x.o.echo,.int .i64 x.age,.int .i64 x.window])) (by kernel_rfl) rfl (by kernel_rfl) (by kernel_rfl) rfl (by kernel_rfl) (by kernel_rfl) (by kernel_rfl) (by kernel_rfl) hlt (by simp) (fun ww h => Own.sl h) (by rw [List.length_set,mark_ln hi]; exact hlt) ?_
  intro b29 o30 hA31
  refine xl_op 0 [0,1,5,88,89] ⟨[(0,.v (.slice A l.length cap)),(1,.v (.int .i64 (b + 9))),(5,.v (.int .i64 (i : Int))),(88,.v (.int .i64 (b + 9))),(89,.v (.pointer (some ⟨b29,o30 + i * 13,none⟩)))],[],[],[ownF B (.slice A l.length cap) 13 (((marks mkH 13 k i ++ l.drop i).map hlfCells).set i [.int .i64 b,.int .i64 (b + 1),.int .i64 (b + 2),.int .i64 (b + 3),.int .i64 (b + 4),.int .i64 (b + 5),.int .i64 (b + 6),.bool ((Int.tmod (b + 7) 3) == 0),.bool ((Int.tmod (b + 8) 3) == 0),.int .i64 x.o.val,.int .i64 x.o.echo,.int .i64 x.age,.int .i64 x.window]),frF w (ownF B (.slice A l.length cap) 13 (l.map hlfCells)).blk]⟩ (.pointer (some ⟨b29,o30 + i * 13 + 5,none⟩)) (by kernel_rfl) rfl (by kernel_rfl) rfl (fun _ _ _ ww hr => fld_run (sz := 6) hr rfl Try.underlying42 rfl (by kernel_rfl) rfl rfl (by first | rfl | omega)) ?_
  refine xl_op 0 [0,1,5,88,90] ⟨[(0,.v (.slice A l.length cap)),(1,.v (.int .i64 (b + 9))),(5,.v (.int .i64 (i : Int))),(88,.v (.int .i64 (b + 9))),(90,.v (.pointer (some ⟨b29,o30 + i * 13 + 5,none⟩)))],[],[],[ownF B (.slice A l.length cap) 13 (((marks mkH 13 k i ++ l.drop i).map hlfCells).set i [.int .i64 b,.int .i64 (b + 1),.int .i64 (b + 2),.int .i64 (b + 3),.int .i64 (b + 4),.int .i64 (b + 5),.int .i64 (b + 6),.bool ((Int.tmod (b + 7) 3) == 0),.bool ((Int.tmod (b + 8) 3) == 0),.int .i64 x.o.val,.int .i64 x.o.echo,.int .i64 x.age,.int .i64 x.window]),frF w (ownF B (.slice A l.length cap) 13 (l.map hlfCells)).blk]⟩ (.pointer (some ⟨b29,o30 + i * 13 + 9,none⟩)) (by kernel_rfl) rfl (by kernel_rfl) rfl (fun _ _ _ ww hr => fld_run (sz := 1) hr rfl Try.underlying40 rfl (by kernel_rfl) rfl rfl (by first | rfl | omega)) ?_
  refine xl_stE (K := 13) (po := 9) (B := B) (rs := ((marks mkH 13 k i ++ l.drop i).map hlfCells)) (row' := [.int .i64 b,.int .i64 (b + 1),.int .i64 (b + 2),.int .i64 (b + 3),.int .i64 (b + 4),.int .i64 (b + 5),.int .i64 (b + 6),.bool ((Int.tmod (b + 7) 3) == 0),.bool ((Int.tmod (b + 8) 3) == 0),.int .i64 (b + 9),.int .i64 x.o.echo,.int .i64 x.age,.int .i64 x.window]) 0 [0,1,5,88,91] ⟨[(0,.v (.slice A l.length cap)),(1,.v (.int .i64 (b + 9))),(5,.v (.int .i64 (i : Int))),(88,.v (.int .i64 (b + 9))),(91,.v (.pointer (some ⟨b29,o30 + i * 13 + 9,none⟩)))],[],[],[ownF B (.slice A l.length cap) 13 (((marks mkH 13 k i ++ l.drop i).map hlfCells).set i [.int .i64 b,.int .i64 (b + 1),.int .i64 (b + 2),.int .i64 (b + 3),.int .i64 (b + 4),.int .i64 (b + 5),.int .i64 (b + 6),.bool ((Int.tmod (b + 7) 3) == 0),.bool ((Int.tmod (b + 8) 3) == 0),.int .i64 x.o.val,.int .i64 x.o.echo,.int .i64 x.age,.int .i64 x.window]),frF w (ownF B (.slice A l.length cap) 13 (l.map hlfCells)).blk]⟩ i [.int .i64 b,.int .i64 (b + 1),.int .i64 (b + 2),.int .i64 (b + 3),.int .i64 (b + 4),.int .i64 (b + 5),.int .i64 (b + 6),.bool ((Int.tmod (b + 7) 3) == 0),.bool ((Int.tmod (b + 8) 3) == 0),.int .i64 x.o.val,.int .i64 x.o.echo,.int .i64 x.age,.int .i64 x.window] 0 (by kernel_rfl) rfl (by kernel_rfl) rfl rfl rfl rfl (by kernel_rfl) (by kernel_rfl) rfl (cutW_le w B) hA31 (by rw [mark_ln hi]; exact hlt) (fun r hr => by obtain ⟨y,_,rfl⟩ := List.mem_map.1 hr; rfl) (by kernel_rfl) (by kernel_rfl) rfl rfl ?_
  refine xl_end [0,1,5] ⟨[(0,.v (.slice A l.length cap)),(1,.v (.int .i64 (b + 9))),(5,.v (.int .i64 (i : Int)))],[],[],[ownF B (.slice A l.length cap) 13 (((marks mkH 13 k i ++ l.drop i).map hlfCells).set i [.int .i64 b,.int .i64 (b + 1),.int .i64 (b + 2),.int .i64 (b + 3),.int .i64 (b + 4),.int .i64 (b + 5),.int .i64 (b + 6),.bool ((Int.tmod (b + 7) 3) == 0),.bool ((Int.tmod (b + 8) 3) == 0),.int .i64 (b + 9),.int .i64 x.o.echo,.int .i64 x.age,.int .i64 x.window]),frF w (ownF B (.slice A l.length cap) 13 (l.map hlfCells)).blk]⟩ (by kernel_rfl) ?_
  refine xw_seq ?_
  refine xw_region ?_
  refine xl_runS 3 [0,1,5] [(0,.v (.slice A l.length cap)),(1,.v (.int .i64 (IntKind.i64.wrap (b + 9 + 1)))),(5,.v (.int .i64 (i : Int)))] (by kernel_rfl) ?_
  refine xl_eqS (t' := [(0,.v (.slice A l.length cap)),(1,.v (.int .i64 (b + 10))),(5,.v (.int .i64 (i : Int)))]) (by rw [show (IntKind.i64.wrap (b + 9 + 1)) = (b + 10) from wrap_to (by omega) (by omega) (by omega)]) ?_
  refine xl_endS [0,1,5] [(0,.v (.slice A l.length cap)),(1,.v (.int .i64 (b + 10))),(5,.v (.int .i64 (i : Int)))] (by kernel_rfl) ?_
  refine xw_seq ?_
  refine xw_region ?_
  refine xl_elem (kd := .i64) (T := 26) (e := 42) (K := 13) (A := A) (len := l.length) (cap := cap) (rs := (((marks mkH 13 k i ++ l.drop i).map hlfCells).set i [.int .i64 b,.int .i64 (b + 1),.int .i64 (b + 2),.int .i64 (b + 3),.int .i64 (b + 4),.int .i64 (b + 5),.int .i64 (b + 6),.bool ((Int.tmod (b + 7) 3) == 0),.bool ((Int.tmod (b + 8) 3) == 0),.int .i64 (b + 9),.int .i64 x.o.echo,.int .i64 x.age,.int .i64 x.window])) 3 [0,1,5,94,95,96] ⟨[(0,.v (.slice A l.length cap)),(1,.v (.int .i64 (b + 10))),(5,.v (.int .i64 (i : Int))),(94,.v (.slice A l.length cap)),(95,.v (.int .i64 (i : Int))),(96,.v (.int .i64 (b + 10)))],[],[],[ownF B (.slice A l.length cap) 13 (((marks mkH 13 k i ++ l.drop i).map hlfCells).set i [.int .i64 b,.int .i64 (b + 1),.int .i64 (b + 2),.int .i64 (b + 3),.int .i64 (b + 4),.int .i64 (b + 5),.int .i64 (b + 6),.bool ((Int.tmod (b + 7) 3) == 0),.bool ((Int.tmod (b + 8) 3) == 0),.int .i64 (b + 9),.int .i64 x.o.echo,.int .i64 x.age,.int .i64 x.window]),frF w (ownF B (.slice A l.length cap) 13 (l.map hlfCells)).blk]⟩ i (ownF B (.slice A l.length cap) 13 (((marks mkH 13 k i ++ l.drop i).map hlfCells).set i [.int .i64 b,.int .i64 (b + 1),.int .i64 (b + 2),.int .i64 (b + 3),.int .i64 (b + 4),.int .i64 (b + 5),.int .i64 (b + 6),.bool ((Int.tmod (b + 7) 3) == 0),.bool ((Int.tmod (b + 8) 3) == 0),.int .i64 (b + 9),.int .i64 x.o.echo,.int .i64 x.age,.int .i64 x.window])) (by kernel_rfl) rfl (by kernel_rfl) (by kernel_rfl) rfl (by kernel_rfl) (by kernel_rfl) (by kernel_rfl) (by kernel_rfl) hlt (by simp) (fun ww h => Own.sl h) (by rw [List.length_set,mark_ln hi]; exact hlt) ?_
  intro b32 o33 hA34
  refine xl_op 0 [0,1,5,96,97] ⟨[(0,.v (.slice A l.length cap)),(1,.v (.int .i64 (b + 10))),(5,.v (.int .i64 (i : Int))),(96,.v (.int .i64 (b + 10))),(97,.v (.pointer (some ⟨b32,o33 + i * 13,none⟩)))],[],[],[ownF B (.slice A l.length cap) 13 (((marks mkH 13 k i ++ l.drop i).map hlfCells).set i [.int .i64 b,.int .i64 (b + 1),.int .i64 (b + 2),.int .i64 (b + 3),.int .i64 (b + 4),.int .i64 (b + 5),.int .i64 (b + 6),.bool ((Int.tmod (b + 7) 3) == 0),.bool ((Int.tmod (b + 8) 3) == 0),.int .i64 (b + 9),.int .i64 x.o.echo,.int .i64 x.age,.int .i64 x.window]),frF w (ownF B (.slice A l.length cap) 13 (l.map hlfCells)).blk]⟩ (.pointer (some ⟨b32,o33 + i * 13 + 5,none⟩)) (by kernel_rfl) rfl (by kernel_rfl) rfl (fun _ _ _ ww hr => fld_run (sz := 6) hr rfl Try.underlying42 rfl (by kernel_rfl) rfl rfl (by first | rfl | omega)) ?_
  refine xl_op 0 [0,1,5,96,98] ⟨[(0,.v (.slice A l.length cap)),(1,.v (.int .i64 (b + 10))),(5,.v (.int .i64 (i : Int))),(96,.v (.int .i64 (b + 10))),(98,.v (.pointer (some ⟨b32,o33 + i * 13 + 5,none⟩)))],[],[],[ownF B (.slice A l.length cap) 13 (((marks mkH 13 k i ++ l.drop i).map hlfCells).set i [.int .i64 b,.int .i64 (b + 1),.int .i64 (b + 2),.int .i64 (b + 3),.int .i64 (b + 4),.int .i64 (b + 5),.int .i64 (b + 6),.bool ((Int.tmod (b + 7) 3) == 0),.bool ((Int.tmod (b + 8) 3) == 0),.int .i64 (b + 9),.int .i64 x.o.echo,.int .i64 x.age,.int .i64 x.window]),frF w (ownF B (.slice A l.length cap) 13 (l.map hlfCells)).blk]⟩ (.pointer (some ⟨b32,o33 + i * 13 + 10,none⟩)) (by kernel_rfl) rfl (by kernel_rfl) rfl (fun _ _ _ ww hr => fld_run (sz := 1) hr rfl Try.underlying40 rfl (by kernel_rfl) rfl rfl (by first | rfl | omega)) ?_
  refine xl_stE (K := 13) (po := 10) (B := B) (rs := ((marks mkH 13 k i ++ l.drop i).map hlfCells)) (row' := [.int .i64 b,.int .i64 (b + 1),.int .i64 (b + 2),.int .i64 (b + 3),.int .i64 (b + 4),.int .i64 (b + 5),.int .i64 (b + 6),.bool ((Int.tmod (b + 7) 3) == 0),.bool ((Int.tmod (b + 8) 3) == 0),.int .i64 (b + 9),.int .i64 (b + 10),.int .i64 x.age,.int .i64 x.window]) 0 [0,1,5,96,99] ⟨[(0,.v (.slice A l.length cap)),(1,.v (.int .i64 (b + 10))),(5,.v (.int .i64 (i : Int))),(96,.v (.int .i64 (b + 10))),(99,.v (.pointer (some ⟨b32,o33 + i * 13 + 10,none⟩)))],[],[],[ownF B (.slice A l.length cap) 13 (((marks mkH 13 k i ++ l.drop i).map hlfCells).set i [.int .i64 b,.int .i64 (b + 1),.int .i64 (b + 2),.int .i64 (b + 3),.int .i64 (b + 4),.int .i64 (b + 5),.int .i64 (b + 6),.bool ((Int.tmod (b + 7) 3) == 0),.bool ((Int.tmod (b + 8) 3) == 0),.int .i64 (b + 9),.int .i64 x.o.echo,.int .i64 x.age,.int .i64 x.window]),frF w (ownF B (.slice A l.length cap) 13 (l.map hlfCells)).blk]⟩ i [.int .i64 b,.int .i64 (b + 1),.int .i64 (b + 2),.int .i64 (b + 3),.int .i64 (b + 4),.int .i64 (b + 5),.int .i64 (b + 6),.bool ((Int.tmod (b + 7) 3) == 0),.bool ((Int.tmod (b + 8) 3) == 0),.int .i64 (b + 9),.int .i64 x.o.echo,.int .i64 x.age,.int .i64 x.window] 0 (by kernel_rfl) rfl (by kernel_rfl) rfl rfl rfl rfl (by kernel_rfl) (by kernel_rfl) rfl (cutW_le w B) hA34 (by rw [mark_ln hi]; exact hlt) (fun r hr => by obtain ⟨y,_,rfl⟩ := List.mem_map.1 hr; rfl) (by kernel_rfl) (by kernel_rfl) rfl rfl ?_
  refine xl_end [0,1,5] ⟨[(0,.v (.slice A l.length cap)),(1,.v (.int .i64 (b + 10))),(5,.v (.int .i64 (i : Int)))],[],[],[ownF B (.slice A l.length cap) 13 (((marks mkH 13 k i ++ l.drop i).map hlfCells).set i [.int .i64 b,.int .i64 (b + 1),.int .i64 (b + 2),.int .i64 (b + 3),.int .i64 (b + 4),.int .i64 (b + 5),.int .i64 (b + 6),.bool ((Int.tmod (b + 7) 3) == 0),.bool ((Int.tmod (b + 8) 3) == 0),.int .i64 (b + 9),.int .i64 (b + 10),.int .i64 x.age,.int .i64 x.window]),frF w (ownF B (.slice A l.length cap) 13 (l.map hlfCells)).blk]⟩ (by kernel_rfl) ?_
  refine xw_seq ?_
  refine xw_region ?_
  refine xl_runS 3 [0,1,5] [(0,.v (.slice A l.length cap)),(1,.v (.int .i64 (IntKind.i64.wrap (b + 10 + 1)))),(5,.v (.int .i64 (i : Int)))] (by kernel_rfl) ?_
  refine xl_eqS (t' := [(0,.v (.slice A l.length cap)),(1,.v (.int .i64 (b + 11))),(5,.v (.int .i64 (i : Int)))]) (by rw [show (IntKind.i64.wrap (b + 10 + 1)) = (b + 11) from wrap_to (by omega) (by omega) (by omega)]) ?_
  refine xl_endS [0,1,5] [(0,.v (.slice A l.length cap)),(1,.v (.int .i64 (b + 11))),(5,.v (.int .i64 (i : Int)))] (by kernel_rfl) ?_
  refine xw_seq ?_
  refine xw_region ?_
  refine xl_elem (kd := .i64) (T := 26) (e := 42) (K := 13) (A := A) (len := l.length) (cap := cap) (rs := (((marks mkH 13 k i ++ l.drop i).map hlfCells).set i [.int .i64 b,.int .i64 (b + 1),.int .i64 (b + 2),.int .i64 (b + 3),.int .i64 (b + 4),.int .i64 (b + 5),.int .i64 (b + 6),.bool ((Int.tmod (b + 7) 3) == 0),.bool ((Int.tmod (b + 8) 3) == 0),.int .i64 (b + 9),.int .i64 (b + 10),.int .i64 x.age,.int .i64 x.window])) 3 [0,1,5,102,103,104] ⟨[(0,.v (.slice A l.length cap)),(1,.v (.int .i64 (b + 11))),(5,.v (.int .i64 (i : Int))),(102,.v (.slice A l.length cap)),(103,.v (.int .i64 (i : Int))),(104,.v (.int .i64 (b + 11)))],[],[],[ownF B (.slice A l.length cap) 13 (((marks mkH 13 k i ++ l.drop i).map hlfCells).set i [.int .i64 b,.int .i64 (b + 1),.int .i64 (b + 2),.int .i64 (b + 3),.int .i64 (b + 4),.int .i64 (b + 5),.int .i64 (b + 6),.bool ((Int.tmod (b + 7) 3) == 0),.bool ((Int.tmod (b + 8) 3) == 0),.int .i64 (b + 9),.int .i64 (b + 10),.int .i64 x.age,.int .i64 x.window]),frF w (ownF B (.slice A l.length cap) 13 (l.map hlfCells)).blk]⟩ i (ownF B (.slice A l.length cap) 13 (((marks mkH 13 k i ++ l.drop i).map hlfCells).set i [.int .i64 b,.int .i64 (b + 1),.int .i64 (b + 2),.int .i64 (b + 3),.int .i64 (b + 4),.int .i64 (b + 5),.int .i64 (b + 6),.bool ((Int.tmod (b + 7) 3) == 0),.bool ((Int.tmod (b + 8) 3) == 0),.int .i64 (b + 9),.int .i64 (b + 10),.int .i64 x.age,.int .i64 x.window])) (by kernel_rfl) rfl (by kernel_rfl) (by kernel_rfl) rfl (by kernel_rfl) (by kernel_rfl) (by kernel_rfl) (by kernel_rfl) hlt (by simp) (fun ww h => Own.sl h) (by rw [List.length_set,mark_ln hi]; exact hlt) ?_
  intro b35 o36 hA37
  refine xl_op 0 [0,1,5,104,105] ⟨[(0,.v (.slice A l.length cap)),(1,.v (.int .i64 (b + 11))),(5,.v (.int .i64 (i : Int))),(104,.v (.int .i64 (b + 11))),(105,.v (.pointer (some ⟨b35,o36 + i * 13,none⟩)))],[],[],[ownF B (.slice A l.length cap) 13 (((marks mkH 13 k i ++ l.drop i).map hlfCells).set i [.int .i64 b,.int .i64 (b + 1),.int .i64 (b + 2),.int .i64 (b + 3),.int .i64 (b + 4),.int .i64 (b + 5),.int .i64 (b + 6),.bool ((Int.tmod (b + 7) 3) == 0),.bool ((Int.tmod (b + 8) 3) == 0),.int .i64 (b + 9),.int .i64 (b + 10),.int .i64 x.age,.int .i64 x.window]),frF w (ownF B (.slice A l.length cap) 13 (l.map hlfCells)).blk]⟩ (.pointer (some ⟨b35,o36 + i * 13 + 11,none⟩)) (by kernel_rfl) rfl (by kernel_rfl) rfl (fun _ _ _ ww hr => fld_run (sz := 1) hr rfl Try.underlying42 rfl (by kernel_rfl) rfl rfl (by first | rfl | omega)) ?_
  refine xl_stE (K := 13) (po := 11) (B := B) (rs := ((marks mkH 13 k i ++ l.drop i).map hlfCells)) (row' := [.int .i64 b,.int .i64 (b + 1),.int .i64 (b + 2),.int .i64 (b + 3),.int .i64 (b + 4),.int .i64 (b + 5),.int .i64 (b + 6),.bool ((Int.tmod (b + 7) 3) == 0),.bool ((Int.tmod (b + 8) 3) == 0),.int .i64 (b + 9),.int .i64 (b + 10),.int .i64 (b + 11),.int .i64 x.window]) 0 [0,1,5,104,106] ⟨[(0,.v (.slice A l.length cap)),(1,.v (.int .i64 (b + 11))),(5,.v (.int .i64 (i : Int))),(104,.v (.int .i64 (b + 11))),(106,.v (.pointer (some ⟨b35,o36 + i * 13 + 11,none⟩)))],[],[],[ownF B (.slice A l.length cap) 13 (((marks mkH 13 k i ++ l.drop i).map hlfCells).set i [.int .i64 b,.int .i64 (b + 1),.int .i64 (b + 2),.int .i64 (b + 3),.int .i64 (b + 4),.int .i64 (b + 5),.int .i64 (b + 6),.bool ((Int.tmod (b + 7) 3) == 0),.bool ((Int.tmod (b + 8) 3) == 0),.int .i64 (b + 9),.int .i64 (b + 10),.int .i64 x.age,.int .i64 x.window]),frF w (ownF B (.slice A l.length cap) 13 (l.map hlfCells)).blk]⟩ i [.int .i64 b,.int .i64 (b + 1),.int .i64 (b + 2),.int .i64 (b + 3),.int .i64 (b + 4),.int .i64 (b + 5),.int .i64 (b + 6),.bool ((Int.tmod (b + 7) 3) == 0),.bool ((Int.tmod (b + 8) 3) == 0),.int .i64 (b + 9),.int .i64 (b + 10),.int .i64 x.age,.int .i64 x.window] 0 (by kernel_rfl) rfl (by kernel_rfl) rfl rfl rfl rfl (by kernel_rfl) (by kernel_rfl) rfl (cutW_le w B) hA37 (by rw [mark_ln hi]; exact hlt) (fun r hr => by obtain ⟨y,_,rfl⟩ := List.mem_map.1 hr; rfl) (by kernel_rfl) (by kernel_rfl) rfl rfl ?_
  refine xl_end [0,1,5] ⟨[(0,.v (.slice A l.length cap)),(1,.v (.int .i64 (b + 11))),(5,.v (.int .i64 (i : Int)))],[],[],[ownF B (.slice A l.length cap) 13 (((marks mkH 13 k i ++ l.drop i).map hlfCells).set i [.int .i64 b,.int .i64 (b + 1),.int .i64 (b + 2),.int .i64 (b + 3),.int .i64 (b + 4),.int .i64 (b + 5),.int .i64 (b + 6),.bool ((Int.tmod (b + 7) 3) == 0),.bool ((Int.tmod (b + 8) 3) == 0),.int .i64 (b + 9),.int .i64 (b + 10),.int .i64 (b + 11),.int .i64 x.window]),frF w (ownF B (.slice A l.length cap) 13 (l.map hlfCells)).blk]⟩ (by kernel_rfl) ?_
  refine xw_seq ?_
  refine xw_region ?_
  refine xl_runS 3 [0,1,5] [(0,.v (.slice A l.length cap)),(1,.v (.int .i64 (IntKind.i64.wrap (b + 11 + 1)))),(5,.v (.int .i64 (i : Int)))] (by kernel_rfl) ?_
  refine xl_eqS (t' := [(0,.v (.slice A l.length cap)),(1,.v (.int .i64 (b + 12))),(5,.v (.int .i64 (i : Int)))]) (by rw [show (IntKind.i64.wrap (b + 11 + 1)) = (b + 12) from wrap_to (by omega) (by omega) (by omega)]) ?_
  refine xl_endS [0,1,5] [(0,.v (.slice A l.length cap)),(1,.v (.int .i64 (b + 12))),(5,.v (.int .i64 (i : Int)))] (by kernel_rfl) ?_
  refine xw_seq ?_
  refine xw_region ?_
  refine xl_elem (kd := .i64) (T := 26) (e := 42) (K := 13) (A := A) (len := l.length) (cap := cap) (rs := (((marks mkH 13 k i ++ l.drop i).map hlfCells).set i [.int .i64 b,.int .i64 (b + 1),.int .i64 (b + 2),.int .i64 (b + 3),.int .i64 (b + 4),.int .i64 (b + 5),.int .i64 (b + 6),.bool ((Int.tmod (b + 7) 3) == 0),.bool ((Int.tmod (b + 8) 3) == 0),.int .i64 (b + 9),.int .i64 (b + 10),.int .i64 (b + 11),.int .i64 x.window])) 3 [0,1,5,109,110,111] ⟨[(0,.v (.slice A l.length cap)),(1,.v (.int .i64 (b + 12))),(5,.v (.int .i64 (i : Int))),(109,.v (.slice A l.length cap)),(110,.v (.int .i64 (i : Int))),(111,.v (.int .i64 (b + 12)))],[],[],[ownF B (.slice A l.length cap) 13 (((marks mkH 13 k i ++ l.drop i).map hlfCells).set i [.int .i64 b,.int .i64 (b + 1),.int .i64 (b + 2),.int .i64 (b + 3),.int .i64 (b + 4),.int .i64 (b + 5),.int .i64 (b + 6),.bool ((Int.tmod (b + 7) 3) == 0),.bool ((Int.tmod (b + 8) 3) == 0),.int .i64 (b + 9),.int .i64 (b + 10),.int .i64 (b + 11),.int .i64 x.window]),frF w (ownF B (.slice A l.length cap) 13 (l.map hlfCells)).blk]⟩ i (ownF B (.slice A l.length cap) 13 (((marks mkH 13 k i ++ l.drop i).map hlfCells).set i [.int .i64 b,.int .i64 (b + 1),.int .i64 (b + 2),.int .i64 (b + 3),.int .i64 (b + 4),.int .i64 (b + 5),.int .i64 (b + 6),.bool ((Int.tmod (b + 7) 3) == 0),.bool ((Int.tmod (b + 8) 3) == 0),.int .i64 (b + 9),.int .i64 (b + 10),.int .i64 (b + 11),.int .i64 x.window])) (by kernel_rfl) rfl (by kernel_rfl) (by kernel_rfl) rfl (by kernel_rfl) (by kernel_rfl) (by kernel_rfl) (by kernel_rfl) hlt (by simp) (fun ww h => Own.sl h) (by rw [List.length_set,mark_ln hi]; exact hlt) ?_
  intro b38 o39 hA40
  refine xl_op 0 [0,1,5,111,112] ⟨[(0,.v (.slice A l.length cap)),(1,.v (.int .i64 (b + 12))),(5,.v (.int .i64 (i : Int))),(111,.v (.int .i64 (b + 12))),(112,.v (.pointer (some ⟨b38,o39 + i * 13,none⟩)))],[],[],[ownF B (.slice A l.length cap) 13 (((marks mkH 13 k i ++ l.drop i).map hlfCells).set i [.int .i64 b,.int .i64 (b + 1),.int .i64 (b + 2),.int .i64 (b + 3),.int .i64 (b + 4),.int .i64 (b + 5),.int .i64 (b + 6),.bool ((Int.tmod (b + 7) 3) == 0),.bool ((Int.tmod (b + 8) 3) == 0),.int .i64 (b + 9),.int .i64 (b + 10),.int .i64 (b + 11),.int .i64 x.window]),frF w (ownF B (.slice A l.length cap) 13 (l.map hlfCells)).blk]⟩ (.pointer (some ⟨b38,o39 + i * 13 + 12,none⟩)) (by kernel_rfl) rfl (by kernel_rfl) rfl (fun _ _ _ ww hr => fld_run (sz := 1) hr rfl Try.underlying42 rfl (by kernel_rfl) rfl rfl (by first | rfl | omega)) ?_
  refine xl_stE (K := 13) (po := 12) (B := B) (rs := ((marks mkH 13 k i ++ l.drop i).map hlfCells)) (row' := [.int .i64 b,.int .i64 (b + 1),.int .i64 (b + 2),.int .i64 (b + 3),.int .i64 (b + 4),.int .i64 (b + 5),.int .i64 (b + 6),.bool ((Int.tmod (b + 7) 3) == 0),.bool ((Int.tmod (b + 8) 3) == 0),.int .i64 (b + 9),.int .i64 (b + 10),.int .i64 (b + 11),.int .i64 (b + 12)]) 0 [0,1,5,111,113] ⟨[(0,.v (.slice A l.length cap)),(1,.v (.int .i64 (b + 12))),(5,.v (.int .i64 (i : Int))),(111,.v (.int .i64 (b + 12))),(113,.v (.pointer (some ⟨b38,o39 + i * 13 + 12,none⟩)))],[],[],[ownF B (.slice A l.length cap) 13 (((marks mkH 13 k i ++ l.drop i).map hlfCells).set i [.int .i64 b,.int .i64 (b + 1),.int .i64 (b + 2),.int .i64 (b + 3),.int .i64 (b + 4),.int .i64 (b + 5),.int .i64 (b + 6),.bool ((Int.tmod (b + 7) 3) == 0),.bool ((Int.tmod (b + 8) 3) == 0),.int .i64 (b + 9),.int .i64 (b + 10),.int .i64 (b + 11),.int .i64 x.window]),frF w (ownF B (.slice A l.length cap) 13 (l.map hlfCells)).blk]⟩ i [.int .i64 b,.int .i64 (b + 1),.int .i64 (b + 2),.int .i64 (b + 3),.int .i64 (b + 4),.int .i64 (b + 5),.int .i64 (b + 6),.bool ((Int.tmod (b + 7) 3) == 0),.bool ((Int.tmod (b + 8) 3) == 0),.int .i64 (b + 9),.int .i64 (b + 10),.int .i64 (b + 11),.int .i64 x.window] 0 (by kernel_rfl) rfl (by kernel_rfl) rfl rfl rfl rfl (by kernel_rfl) (by kernel_rfl) rfl (cutW_le w B) hA40 (by rw [mark_ln hi]; exact hlt) (fun r hr => by obtain ⟨y,_,rfl⟩ := List.mem_map.1 hr; rfl) (by kernel_rfl) (by kernel_rfl) rfl rfl ?_
  refine xl_end [0,1,5] ⟨[(0,.v (.slice A l.length cap)),(1,.v (.int .i64 (b + 12))),(5,.v (.int .i64 (i : Int)))],[],[],[ownF B (.slice A l.length cap) 13 (((marks mkH 13 k i ++ l.drop i).map hlfCells).set i [.int .i64 b,.int .i64 (b + 1),.int .i64 (b + 2),.int .i64 (b + 3),.int .i64 (b + 4),.int .i64 (b + 5),.int .i64 (b + 6),.bool ((Int.tmod (b + 7) 3) == 0),.bool ((Int.tmod (b + 8) 3) == 0),.int .i64 (b + 9),.int .i64 (b + 10),.int .i64 (b + 11),.int .i64 (b + 12)]),frF w (ownF B (.slice A l.length cap) 13 (l.map hlfCells)).blk]⟩ (by kernel_rfl) ?_
  refine xw_region ?_
  refine xl_runS 3 [0,1,5] [(0,.v (.slice A l.length cap)),(1,.v (.int .i64 (IntKind.i64.wrap (b + 12 + 1)))),(5,.v (.int .i64 (i : Int)))] (by kernel_rfl) ?_
  refine xl_eqS (t' := [(0,.v (.slice A l.length cap)),(1,.v (.int .i64 (b + 13))),(5,.v (.int .i64 (i : Int)))]) (by rw [show (IntKind.i64.wrap (b + 12 + 1)) = (b + 13) from wrap_to (by omega) (by omega) (by omega)]) ?_
  refine xl_endS [0,1,5] [(0,.v (.slice A l.length cap)),(1,.v (.int .i64 (b + 13))),(5,.v (.int .i64 (i : Int)))] (by kernel_rfl) ?_
  refine xw_region ?_
  refine xl_runS 3 [0,1,5] [(0,.v (.slice A l.length cap)),(1,.v (.int .i64 (b + 13))),(5,.v (.int .i64 (IntKind.i64.wrap ((i : Int) + 1))))] (by kernel_rfl) ?_
  refine xl_eqS (t' := [(0,.v (.slice A l.length cap)),(1,.v (.int .i64 (b + 13))),(5,.v (.int .i64 ((i : Int) + 1)))]) (by rw [show (IntKind.i64.wrap ((i : Int) + 1)) = ((i : Int) + 1) from wrap_id (by omega) (by omega)]) ?_
  refine xl_endS [0,1,5] [(0,.v (.slice A l.length cap)),(1,.v (.int .i64 (b + 13))),(5,.v (.int .i64 ((i : Int) + 1)))] (by kernel_rfl) ?_
  have e : b + 13 = k + 13 * ((i + 1 : Nat) : Int) := by omega
  rw [e]
  subst hb
  exact ⟨⟨(i + 1),hlt⟩,(wk_fact0 (congrArg (fun z => ownF B (.slice A l.length cap) 13 z) (mark_next (f := hlfCells) (mk := mkH) (c := 13) (k := k) hlt))).trans <| wk_forget 0 0 [0,1,5] (by kernel_rfl) (by kernel_rfl) (by kernel_rfl),by show (fun (i : Nat) => l.length - i) (i + 1) < l.length - i; (dsimp only; omega)⟩
  have h1p : ¬ ((i : Int) < ((l.length : Nat) : Int)) := of_decide_eq_false h1
  have hge : i = l.length := by simp at h1; omega
  refine xw_exit ?_
  refine xw_seq ?_
  refine xw_region ?_
  refine xl_endS [4] [(4,.v (.int .i64 (k + 13 * (i : Int))))] (by kernel_rfl) ?_
  refine xw_ret ?_
  subst hge
  exact ⟨[.int .i64 (k + 13 * (l.length : Int))],by kernel_rfl,fun w' hb hf => ⟨ret_int (by simp),by have := hf (ownF B (.slice A l.length cap) 13 ((marks mkH 13 k l.length ++ l.drop l.length).map hlfCells)) (by simp); rw [List.drop_length,List.append_nil] at this; exact this,frF_chgd (hf (frF w (ownF B (.slice A l.length cap) 13 (l.map hlfCells)).blk) (by simp)) hb rfl rfl rfl⟩⟩
set_option maxHeartbeats 1000000 in
theorem yheldHalfS_c (a : List Hlf) (aV : Value) (k : Int) (w : World) (hl_aV : Sl w aV 13 (a.map hlfCells)) (ha : a = marks mkH 13 k a.length) (hk0 : 0 ≤ k) (hk : k ≤ 4503599627370496) (hl : a.length ≤ 1048576) : Calls Try.prog 21 #[aV, .int .i64 k] w fun e w' => e = .returned (.int .i64 (k + 13 * (a.length : Int))) ∧ Below w.heap.size w w' := by
  obtain ⟨Aa,Ca,hva⟩ := hl_aV.form
  rw [List.length_map] at hva; subst hva
  have hna := hl_aV.len; rw [List.length_map] at hna
  refine x_calls (args := [.slice Aa a.length Ca,.int .i64 k]) (fn := Try.f21) [slF (.slice Aa a.length Ca) 13 (a.map hlfCells)] Try.func21 rfl Try.ntmps21 rfl (by simp only [List.mem_cons,List.not_mem_nil,or_false,forall_eq_or_imp,forall_eq]; exact ⟨rfl,hl_aV⟩) ?_
  refine xw_seq ?_
  refine xw_region ?_
  refine xl_end [0,1] ⟨[(0,.v (.slice Aa a.length Ca)),(1,.v (.int .i64 k))],[],[],[slF (.slice Aa a.length Ca) 13 (a.map hlfCells)]⟩ (by kernel_rfl) ?_
  refine xw_seq ?_
  refine xw_seq ?_
  refine xw_region ?_
  refine xl_endS [0,1,5] [(0,.v (.slice Aa a.length Ca)),(1,.v (.int .i64 k)),(5,.v (.int .i64 0))] (by kernel_rfl) ?_
  refine xw_block ?_
  have e0 : k + 13 * ((0 : Nat) : Int) = k := by omega
  refine xw_eq (st' := ⟨[(0,.v (.slice Aa a.length Ca)),(1,.v (.int .i64 (k + 13 * ((0 : Nat) : Int)))),(5,.v (.int .i64 0))],[],[],[slF (.slice Aa a.length Ca) 13 (a.map hlfCells)]⟩) (by rw [e0]) ?_
  refine xw_loopW (α := {x : Nat // (fun (i : Nat) => i ≤ a.length) x}) (fun x => (fun (i : Nat) => (⟨[(0,.v (.slice Aa a.length Ca)),(1,.v (.int .i64 (k + 13 * (i : Int)))),(5,.v (.int .i64 (i : Int)))],[],[],[slF (.slice Aa a.length Ca) 13 (a.map hlfCells)]⟩ : St)) x.1) (fun x => (fun (i : Nat) => a.length - i) x.1) ⟨(0),Nat.zero_le _⟩ (wk_forget 0 0 [0,1,5] (by kernel_rfl) (by kernel_rfl) (by kernel_rfl)) ?_
  rintro ⟨i,hi⟩
  refine xw_wk (Wk.of_eq (s' := ⟨[(0,.v (.slice Aa a.length Ca)),(1,.v (.int .i64 (k + 13 * (i : Int)))),(5,.v (.int .i64 (i : Int)))],[],[],[slF (.slice Aa a.length Ca) 13 (a.map hlfCells)]⟩) rfl) ?_
  try dsimp only at hi
  refine xw_seq ?_
  refine xw_seq ?_
  refine xw_region ?_
  refine xl_endS [0,1,5,9] [(0,.v (.slice Aa a.length Ca)),(1,.v (.int .i64 (k + 13 * (i : Int)))),(5,.v (.int .i64 (i : Int))),(9,.v (.bool (decide ((i : Int) < ((a.length : Nat) : Int)))))] (by kernel_rfl) ?_
  refine xw_cond (b := decide ((i : Int) < ((a.length : Nat) : Int))) (by kernel_rfl) (fun h1 => ?_) (fun h1 => ?_)
  have h1p : ((i : Int) < ((a.length : Nat) : Int)) := of_decide_eq_true h1
  have hlt : i < a.length := by simpa using h1
  obtain ⟨x,hx⟩ : ∃ x,a[i]? = some x := ⟨_,List.getElem?_eq_getElem hlt⟩
  have hxe := marks_get (mk := mkH) (c := 13) (k := k) (n := a.length) (show _ = some x by rw [← ha]; exact hx)
  obtain ⟨b,hb⟩ : ∃ b,b = k + 13 * (i : Int) := ⟨_,rfl⟩
  rw [← hb] at hxe ⊢
  refine xw_skip ?_
  refine xw_seq ?_
  refine xw_block ?_
  refine xw_seq ?_
  refine xw_seq ?_
  refine xw_region ?_
  refine xl_index (kd := .i64) (T := 26) (e := 42) (K := 13) 2 [0,1,5,12,13] ⟨[(0,.v (.slice Aa a.length Ca)),(1,.v (.int .i64 b)),(5,.v (.int .i64 (i : Int))),(12,.v (.slice Aa a.length Ca)),(13,.v (.int .i64 (i : Int)))],[],[],[slF (.slice Aa a.length Ca) 13 (a.map hlfCells)]⟩ i [.int .i64 b,.int .i64 (b + 1),.int .i64 (b + 2),.int .i64 (b + 3),.int .i64 (b + 4),.int .i64 (b + 5),.int .i64 (b + 6),.bool ((Int.tmod (b + 7) 3) == 0),.bool ((Int.tmod (b + 8) 3) == 0),.int .i64 (b + 9),.int .i64 (b + 10),.int .i64 (b + 11),.int .i64 (b + 12)] (slF (.slice Aa a.length Ca) 13 (a.map hlfCells)) (by kernel_rfl) rfl (by kernel_rfl) rfl rfl (by kernel_rfl) (by kernel_rfl) (by kernel_rfl) (by kernel_rfl) hlt (by simp) (fun w h => h) (fun b h => h) (by simp only [List.getElem?_map,hx,hxe]; rfl) ?_
  refine xl_endS [0,1,5,19] [(0,.v (.slice Aa a.length Ca)),(1,.v (.int .i64 b)),(5,.v (.int .i64 (i : Int))),(19,.v (.bool (b != b)))] (by kernel_rfl) ?_
  refine xw_cond (b := b != b) (by kernel_rfl) (fun h2 => ?_) (fun h2 => ?_)
  simp at h2
  have h2p := neF h2
  refine xw_skip ?_
  refine xw_seq ?_
  refine xw_region ?_
  refine xl_runS 3 [0,1,5] [(0,.v (.slice Aa a.length Ca)),(1,.v (.int .i64 (IntKind.i64.wrap (b + 1)))),(5,.v (.int .i64 (i : Int)))] (by kernel_rfl) ?_
  refine xl_eqS (t' := [(0,.v (.slice Aa a.length Ca)),(1,.v (.int .i64 (b + 1))),(5,.v (.int .i64 (i : Int)))]) (by rw [show (IntKind.i64.wrap (b + 1)) = (b + 1) from wrap_id (by omega) (by omega)]) ?_
  refine xl_endS [0,1,5] [(0,.v (.slice Aa a.length Ca)),(1,.v (.int .i64 (b + 1))),(5,.v (.int .i64 (i : Int)))] (by kernel_rfl) ?_
  refine xw_seq ?_
  refine xw_seq ?_
  refine xw_region ?_
  refine xl_indexS (kd := .i64) (T := 26) (e := 42) (K := 13) 2 [0,1,5,22,23] [(0,.v (.slice Aa a.length Ca)),(1,.v (.int .i64 (b + 1))),(5,.v (.int .i64 (i : Int))),(22,.v (.slice Aa a.length Ca)),(23,.v (.int .i64 (i : Int)))] i [.int .i64 b,.int .i64 (b + 1),.int .i64 (b + 2),.int .i64 (b + 3),.int .i64 (b + 4),.int .i64 (b + 5),.int .i64 (b + 6),.bool ((Int.tmod (b + 7) 3) == 0),.bool ((Int.tmod (b + 8) 3) == 0),.int .i64 (b + 9),.int .i64 (b + 10),.int .i64 (b + 11),.int .i64 (b + 12)] (slF (.slice Aa a.length Ca) 13 (a.map hlfCells)) (by kernel_rfl) rfl (by kernel_rfl) rfl rfl (by kernel_rfl) (by kernel_rfl) (by kernel_rfl) (by kernel_rfl) hlt (by simp) (fun w h => h) (fun b h => h) (by simp only [List.getElem?_map,hx,hxe]; rfl) ?_
  refine xl_endS [0,1,5,29] [(0,.v (.slice Aa a.length Ca)),(1,.v (.int .i64 (b + 1))),(5,.v (.int .i64 (i : Int))),(29,.v (.bool ((b + 1) != (b + 1))))] (by kernel_rfl) ?_
  refine xw_cond (b := (b + 1) != (b + 1)) (by kernel_rfl) (fun h3 => ?_) (fun h3 => ?_)
  simp at h3
  have h3p := neF h3
  refine xw_skip ?_
  refine xw_seq ?_
  refine xw_region ?_
  refine xl_runS 3 [0,1,5] [(0,.v (.slice Aa a.length Ca)),(1,.v (.int .i64 (IntKind.i64.wrap (b + 1 + 1)))),(5,.v (.int .i64 (i : Int)))] (by kernel_rfl) ?_
  refine xl_eqS (t' := [(0,.v (.slice Aa a.length Ca)),(1,.v (.int .i64 (b + 2))),(5,.v (.int .i64 (i : Int)))]) (by rw [show (IntKind.i64.wrap (b + 1 + 1)) = (b + 2) from wrap_to (by omega) (by omega) (by omega)]) ?_
  refine xl_endS [0,1,5] [(0,.v (.slice Aa a.length Ca)),(1,.v (.int .i64 (b + 2))),(5,.v (.int .i64 (i : Int)))] (by kernel_rfl) ?_
  refine xw_seq ?_
  refine xw_seq ?_
  refine xw_region ?_
  refine xl_indexS (kd := .i64) (T := 26) (e := 42) (K := 13) 2 [0,1,5,32,33] [(0,.v (.slice Aa a.length Ca)),(1,.v (.int .i64 (b + 2))),(5,.v (.int .i64 (i : Int))),(32,.v (.slice Aa a.length Ca)),(33,.v (.int .i64 (i : Int)))] i [.int .i64 b,.int .i64 (b + 1),.int .i64 (b + 2),.int .i64 (b + 3),.int .i64 (b + 4),.int .i64 (b + 5),.int .i64 (b + 6),.bool ((Int.tmod (b + 7) 3) == 0),.bool ((Int.tmod (b + 8) 3) == 0),.int .i64 (b + 9),.int .i64 (b + 10),.int .i64 (b + 11),.int .i64 (b + 12)] (slF (.slice Aa a.length Ca) 13 (a.map hlfCells)) (by kernel_rfl) rfl (by kernel_rfl) rfl rfl (by kernel_rfl) (by kernel_rfl) (by kernel_rfl) (by kernel_rfl) hlt (by simp) (fun w h => h) (fun b h => h) (by simp only [List.getElem?_map,hx,hxe]; rfl) ?_
  refine xl_endS [0,1,5,39] [(0,.v (.slice Aa a.length Ca)),(1,.v (.int .i64 (b + 2))),(5,.v (.int .i64 (i : Int))),(39,.v (.bool ((b + 2) != (b + 2))))] (by kernel_rfl) ?_
  refine xw_cond (b := (b + 2) != (b + 2)) (by kernel_rfl) (fun h4 => ?_) (fun h4 => ?_)
  simp at h4
  have h4p := neF h4
  refine xw_skip ?_
  refine xw_seq ?_
  refine xw_region ?_
  refine xl_runS 3 [0,1,5] [(0,.v (.slice Aa a.length Ca)),(1,.v (.int .i64 (IntKind.i64.wrap (b + 2 + 1)))),(5,.v (.int .i64 (i : Int)))] (by kernel_rfl) ?_
  refine xl_eqS (t' := [(0,.v (.slice Aa a.length Ca)),(1,.v (.int .i64 (b + 3))),(5,.v (.int .i64 (i : Int)))]) (by rw [show (IntKind.i64.wrap (b + 2 + 1)) = (b + 3) from wrap_to (by omega) (by omega) (by omega)]) ?_
  refine xl_endS [0,1,5] [(0,.v (.slice Aa a.length Ca)),(1,.v (.int .i64 (b + 3))),(5,.v (.int .i64 (i : Int)))] (by kernel_rfl) ?_
  refine xw_seq ?_
  refine xw_seq ?_
  refine xw_region ?_
  refine xl_indexS (kd := .i64) (T := 26) (e := 42) (K := 13) 2 [0,1,5,42,43] [(0,.v (.slice Aa a.length Ca)),(1,.v (.int .i64 (b + 3))),(5,.v (.int .i64 (i : Int))),(42,.v (.slice Aa a.length Ca)),(43,.v (.int .i64 (i : Int)))] i [.int .i64 b,.int .i64 (b + 1),.int .i64 (b + 2),.int .i64 (b + 3),.int .i64 (b + 4),.int .i64 (b + 5),.int .i64 (b + 6),.bool ((Int.tmod (b + 7) 3) == 0),.bool ((Int.tmod (b + 8) 3) == 0),.int .i64 (b + 9),.int .i64 (b + 10),.int .i64 (b + 11),.int .i64 (b + 12)] (slF (.slice Aa a.length Ca) 13 (a.map hlfCells)) (by kernel_rfl) rfl (by kernel_rfl) rfl rfl (by kernel_rfl) (by kernel_rfl) (by kernel_rfl) (by kernel_rfl) hlt (by simp) (fun w h => h) (fun b h => h) (by simp only [List.getElem?_map,hx,hxe]; rfl) ?_
  refine xl_endS [0,1,5,48] [(0,.v (.slice Aa a.length Ca)),(1,.v (.int .i64 (b + 3))),(5,.v (.int .i64 (i : Int))),(48,.v (.bool ((b + 3) != (b + 3))))] (by kernel_rfl) ?_
  refine xw_cond (b := (b + 3) != (b + 3)) (by kernel_rfl) (fun h5 => ?_) (fun h5 => ?_)
  simp at h5
  have h5p := neF h5
  refine xw_skip ?_
  refine xw_seq ?_
  refine xw_region ?_
  refine xl_runS 3 [0,1,5] [(0,.v (.slice Aa a.length Ca)),(1,.v (.int .i64 (IntKind.i64.wrap (b + 3 + 1)))),(5,.v (.int .i64 (i : Int)))] (by kernel_rfl) ?_
  refine xl_eqS (t' := [(0,.v (.slice Aa a.length Ca)),(1,.v (.int .i64 (b + 4))),(5,.v (.int .i64 (i : Int)))]) (by rw [show (IntKind.i64.wrap (b + 3 + 1)) = (b + 4) from wrap_to (by omega) (by omega) (by omega)]) ?_
  refine xl_endS [0,1,5] [(0,.v (.slice Aa a.length Ca)),(1,.v (.int .i64 (b + 4))),(5,.v (.int .i64 (i : Int)))] (by kernel_rfl) ?_
  refine xw_seq ?_
  refine xw_seq ?_
  refine xw_region ?_
  refine xl_indexS (kd := .i64) (T := 26) (e := 42) (K := 13) 2 [0,1,5,51,52] [(0,.v (.slice Aa a.length Ca)),(1,.v (.int .i64 (b + 4))),(5,.v (.int .i64 (i : Int))),(51,.v (.slice Aa a.length Ca)),(52,.v (.int .i64 (i : Int)))] i [.int .i64 b,.int .i64 (b + 1),.int .i64 (b + 2),.int .i64 (b + 3),.int .i64 (b + 4),.int .i64 (b + 5),.int .i64 (b + 6),.bool ((Int.tmod (b + 7) 3) == 0),.bool ((Int.tmod (b + 8) 3) == 0),.int .i64 (b + 9),.int .i64 (b + 10),.int .i64 (b + 11),.int .i64 (b + 12)] (slF (.slice Aa a.length Ca) 13 (a.map hlfCells)) (by kernel_rfl) rfl (by kernel_rfl) rfl rfl (by kernel_rfl) (by kernel_rfl) (by kernel_rfl) (by kernel_rfl) hlt (by simp) (fun w h => h) (fun b h => h) (by simp only [List.getElem?_map,hx,hxe]; rfl) ?_
  refine xl_endS [0,1,5,57] [(0,.v (.slice Aa a.length Ca)),(1,.v (.int .i64 (b + 4))),(5,.v (.int .i64 (i : Int))),(57,.v (.bool ((b + 4) != (b + 4))))] (by kernel_rfl) ?_
  refine xw_cond (b := (b + 4) != (b + 4)) (by kernel_rfl) (fun h6 => ?_) (fun h6 => ?_)
  simp at h6
  have h6p := neF h6
  refine xw_skip ?_
  refine xw_seq ?_
  refine xw_region ?_
  refine xl_runS 3 [0,1,5] [(0,.v (.slice Aa a.length Ca)),(1,.v (.int .i64 (IntKind.i64.wrap (b + 4 + 1)))),(5,.v (.int .i64 (i : Int)))] (by kernel_rfl) ?_
  refine xl_eqS (t' := [(0,.v (.slice Aa a.length Ca)),(1,.v (.int .i64 (b + 5))),(5,.v (.int .i64 (i : Int)))]) (by rw [show (IntKind.i64.wrap (b + 4 + 1)) = (b + 5) from wrap_to (by omega) (by omega) (by omega)]) ?_
  refine xl_endS [0,1,5] [(0,.v (.slice Aa a.length Ca)),(1,.v (.int .i64 (b + 5))),(5,.v (.int .i64 (i : Int)))] (by kernel_rfl) ?_
  refine xw_seq ?_
  refine xw_seq ?_
  refine xw_region ?_
  refine xl_indexS (kd := .i64) (T := 26) (e := 42) (K := 13) 2 [0,1,5,60,61] [(0,.v (.slice Aa a.length Ca)),(1,.v (.int .i64 (b + 5))),(5,.v (.int .i64 (i : Int))),(60,.v (.slice Aa a.length Ca)),(61,.v (.int .i64 (i : Int)))] i [.int .i64 b,.int .i64 (b + 1),.int .i64 (b + 2),.int .i64 (b + 3),.int .i64 (b + 4),.int .i64 (b + 5),.int .i64 (b + 6),.bool ((Int.tmod (b + 7) 3) == 0),.bool ((Int.tmod (b + 8) 3) == 0),.int .i64 (b + 9),.int .i64 (b + 10),.int .i64 (b + 11),.int .i64 (b + 12)] (slF (.slice Aa a.length Ca) 13 (a.map hlfCells)) (by kernel_rfl) rfl (by kernel_rfl) rfl rfl (by kernel_rfl) (by kernel_rfl) (by kernel_rfl) (by kernel_rfl) hlt (by simp) (fun w h => h) (fun b h => h) (by simp only [List.getElem?_map,hx,hxe]; rfl) ?_
  refine xl_endS [0,1,5,67] [(0,.v (.slice Aa a.length Ca)),(1,.v (.int .i64 (b + 5))),(5,.v (.int .i64 (i : Int))),(67,.v (.bool ((b + 5) != (b + 5))))] (by kernel_rfl) ?_
  refine xw_cond (b := (b + 5) != (b + 5)) (by kernel_rfl) (fun h7 => ?_) (fun h7 => ?_)
  simp at h7
  have h7p := neF h7
  refine xw_skip ?_
  refine xw_seq ?_
  refine xw_region ?_
  refine xl_runS 3 [0,1,5] [(0,.v (.slice Aa a.length Ca)),(1,.v (.int .i64 (IntKind.i64.wrap (b + 5 + 1)))),(5,.v (.int .i64 (i : Int)))] (by kernel_rfl) ?_
  refine xl_eqS (t' := [(0,.v (.slice Aa a.length Ca)),(1,.v (.int .i64 (b + 6))),(5,.v (.int .i64 (i : Int)))]) (by rw [show (IntKind.i64.wrap (b + 5 + 1)) = (b + 6) from wrap_to (by omega) (by omega) (by omega)]) ?_
  refine xl_endS [0,1,5] [(0,.v (.slice Aa a.length Ca)),(1,.v (.int .i64 (b + 6))),(5,.v (.int .i64 (i : Int)))] (by kernel_rfl) ?_
  refine xw_seq ?_
  refine xw_seq ?_
  refine xw_region ?_
  refine xl_indexS (kd := .i64) (T := 26) (e := 42) (K := 13) 2 [0,1,5,70,71] [(0,.v (.slice Aa a.length Ca)),(1,.v (.int .i64 (b + 6))),(5,.v (.int .i64 (i : Int))),(70,.v (.slice Aa a.length Ca)),(71,.v (.int .i64 (i : Int)))] i [.int .i64 b,.int .i64 (b + 1),.int .i64 (b + 2),.int .i64 (b + 3),.int .i64 (b + 4),.int .i64 (b + 5),.int .i64 (b + 6),.bool ((Int.tmod (b + 7) 3) == 0),.bool ((Int.tmod (b + 8) 3) == 0),.int .i64 (b + 9),.int .i64 (b + 10),.int .i64 (b + 11),.int .i64 (b + 12)] (slF (.slice Aa a.length Ca) 13 (a.map hlfCells)) (by kernel_rfl) rfl (by kernel_rfl) rfl rfl (by kernel_rfl) (by kernel_rfl) (by kernel_rfl) (by kernel_rfl) hlt (by simp) (fun w h => h) (fun b h => h) (by simp only [List.getElem?_map,hx,hxe]; rfl) ?_
  refine xl_endS [0,1,5,77] [(0,.v (.slice Aa a.length Ca)),(1,.v (.int .i64 (b + 6))),(5,.v (.int .i64 (i : Int))),(77,.v (.bool ((b + 6) != (b + 6))))] (by kernel_rfl) ?_
  refine xw_cond (b := (b + 6) != (b + 6)) (by kernel_rfl) (fun h8 => ?_) (fun h8 => ?_)
  simp at h8
  have h8p := neF h8
  refine xw_skip ?_
  refine xw_seq ?_
  refine xw_region ?_
  refine xl_runS 3 [0,1,5] [(0,.v (.slice Aa a.length Ca)),(1,.v (.int .i64 (IntKind.i64.wrap (b + 6 + 1)))),(5,.v (.int .i64 (i : Int)))] (by kernel_rfl) ?_
  refine xl_eqS (t' := [(0,.v (.slice Aa a.length Ca)),(1,.v (.int .i64 (b + 7))),(5,.v (.int .i64 (i : Int)))]) (by rw [show (IntKind.i64.wrap (b + 6 + 1)) = (b + 7) from wrap_to (by omega) (by omega) (by omega)]) ?_
  refine xl_endS [0,1,5] [(0,.v (.slice Aa a.length Ca)),(1,.v (.int .i64 (b + 7))),(5,.v (.int .i64 (i : Int)))] (by kernel_rfl) ?_
  refine xw_seq ?_
  refine xw_seq ?_
  refine xw_region ?_
  refine xl_indexS (kd := .i64) (T := 26) (e := 42) (K := 13) 2 [0,1,5,80,81] [(0,.v (.slice Aa a.length Ca)),(1,.v (.int .i64 (b + 7))),(5,.v (.int .i64 (i : Int))),(80,.v (.slice Aa a.length Ca)),(81,.v (.int .i64 (i : Int)))] i [.int .i64 b,.int .i64 (b + 1),.int .i64 (b + 2),.int .i64 (b + 3),.int .i64 (b + 4),.int .i64 (b + 5),.int .i64 (b + 6),.bool ((Int.tmod (b + 7) 3) == 0),.bool ((Int.tmod (b + 8) 3) == 0),.int .i64 (b + 9),.int .i64 (b + 10),.int .i64 (b + 11),.int .i64 (b + 12)] (slF (.slice Aa a.length Ca) 13 (a.map hlfCells)) (by kernel_rfl) rfl (by kernel_rfl) rfl rfl (by kernel_rfl) (by kernel_rfl) (by kernel_rfl) (by kernel_rfl) hlt (by simp) (fun w h => h) (fun b h => h) (by simp only [List.getElem?_map,hx,hxe]; rfl) ?_
  refine xl_opS 4 [0,1,5,85,86] [(0,.v (.slice Aa a.length Ca)),(1,.v (.int .i64 (b + 7))),(5,.v (.int .i64 (i : Int))),(85,.v (.bool ((Int.tmod (b + 7) 3) == 0))),(86,.v (.int .i64 (b + 7)))] (.int .i64 (Int.tmod (b + 7) 3)) (by kernel_rfl) rfl (by kernel_rfl) rfl (fun _ _ _ ww hr => act_bin hr.1 rfl (by kernel_rfl) (by kernel_rfl) (rem_run (by decide) ww)) ?_
  refine xl_endS [0,1,5,89] [(0,.v (.slice Aa a.length Ca)),(1,.v (.int .i64 (b + 7))),(5,.v (.int .i64 (i : Int))),(89,.v (.bool (!(((Int.tmod (b + 7) 3) == 0) == ((Int.tmod (b + 7) 3) == 0)))))] (by kernel_rfl) ?_
  refine xw_cond (b := !(((Int.tmod (b + 7) 3) == 0) == ((Int.tmod (b + 7) 3) == 0))) (by kernel_rfl) (fun h9 => ?_) (fun h9 => ?_)
  have h9n := not_t h9
  simp at h9n
  have h9n := not_f h9
  have h9np := eqT h9n
  refine xw_skip ?_
  refine xw_seq ?_
  refine xw_region ?_
  refine xl_runS 3 [0,1,5] [(0,.v (.slice Aa a.length Ca)),(1,.v (.int .i64 (IntKind.i64.wrap (b + 7 + 1)))),(5,.v (.int .i64 (i : Int)))] (by kernel_rfl) ?_
  refine xl_eqS (t' := [(0,.v (.slice Aa a.length Ca)),(1,.v (.int .i64 (b + 8))),(5,.v (.int .i64 (i : Int)))]) (by rw [show (IntKind.i64.wrap (b + 7 + 1)) = (b + 8) from wrap_to (by omega) (by omega) (by omega)]) ?_
  refine xl_endS [0,1,5] [(0,.v (.slice Aa a.length Ca)),(1,.v (.int .i64 (b + 8))),(5,.v (.int .i64 (i : Int)))] (by kernel_rfl) ?_
  refine xw_seq ?_
  refine xw_seq ?_
  refine xw_region ?_
  refine xl_indexS (kd := .i64) (T := 26) (e := 42) (K := 13) 2 [0,1,5,92,93] [(0,.v (.slice Aa a.length Ca)),(1,.v (.int .i64 (b + 8))),(5,.v (.int .i64 (i : Int))),(92,.v (.slice Aa a.length Ca)),(93,.v (.int .i64 (i : Int)))] i [.int .i64 b,.int .i64 (b + 1),.int .i64 (b + 2),.int .i64 (b + 3),.int .i64 (b + 4),.int .i64 (b + 5),.int .i64 (b + 6),.bool ((Int.tmod (b + 7) 3) == 0),.bool ((Int.tmod (b + 8) 3) == 0),.int .i64 (b + 9),.int .i64 (b + 10),.int .i64 (b + 11),.int .i64 (b + 12)] (slF (.slice Aa a.length Ca) 13 (a.map hlfCells)) (by kernel_rfl) rfl (by kernel_rfl) rfl rfl (by kernel_rfl) (by kernel_rfl) (by kernel_rfl) (by kernel_rfl) hlt (by simp) (fun w h => h) (fun b h => h) (by simp only [List.getElem?_map,hx,hxe]; rfl) ?_
  refine xl_opS 4 [0,1,5,97,98] [(0,.v (.slice Aa a.length Ca)),(1,.v (.int .i64 (b + 8))),(5,.v (.int .i64 (i : Int))),(97,.v (.bool ((Int.tmod (b + 8) 3) == 0))),(98,.v (.int .i64 (b + 8)))] (.int .i64 (Int.tmod (b + 8) 3)) (by kernel_rfl) rfl (by kernel_rfl) rfl (fun _ _ _ ww hr => act_bin hr.1 rfl (by kernel_rfl) (by kernel_rfl) (rem_run (by decide) ww)) ?_
  refine xl_endS [0,1,5,101] [(0,.v (.slice Aa a.length Ca)),(1,.v (.int .i64 (b + 8))),(5,.v (.int .i64 (i : Int))),(101,.v (.bool (!(((Int.tmod (b + 8) 3) == 0) == ((Int.tmod (b + 8) 3) == 0)))))] (by kernel_rfl) ?_
  refine xw_cond (b := !(((Int.tmod (b + 8) 3) == 0) == ((Int.tmod (b + 8) 3) == 0))) (by kernel_rfl) (fun h10 => ?_) (fun h10 => ?_)
  have h10n := not_t h10
  simp at h10n
  have h10n := not_f h10
  have h10np := eqT h10n
  refine xw_skip ?_
  refine xw_seq ?_
  refine xw_region ?_
  refine xl_runS 3 [0,1,5] [(0,.v (.slice Aa a.length Ca)),(1,.v (.int .i64 (IntKind.i64.wrap (b + 8 + 1)))),(5,.v (.int .i64 (i : Int)))] (by kernel_rfl) ?_
  refine xl_eqS (t' := [(0,.v (.slice Aa a.length Ca)),(1,.v (.int .i64 (b + 9))),(5,.v (.int .i64 (i : Int)))]) (by rw [show (IntKind.i64.wrap (b + 8 + 1)) = (b + 9) from wrap_to (by omega) (by omega) (by omega)]) ?_
  refine xl_endS [0,1,5] [(0,.v (.slice Aa a.length Ca)),(1,.v (.int .i64 (b + 9))),(5,.v (.int .i64 (i : Int)))] (by kernel_rfl) ?_
  refine xw_seq ?_
  refine xw_seq ?_
  refine xw_region ?_
  refine xl_indexS (kd := .i64) (T := 26) (e := 42) (K := 13) 2 [0,1,5,104,105] [(0,.v (.slice Aa a.length Ca)),(1,.v (.int .i64 (b + 9))),(5,.v (.int .i64 (i : Int))),(104,.v (.slice Aa a.length Ca)),(105,.v (.int .i64 (i : Int)))] i [.int .i64 b,.int .i64 (b + 1),.int .i64 (b + 2),.int .i64 (b + 3),.int .i64 (b + 4),.int .i64 (b + 5),.int .i64 (b + 6),.bool ((Int.tmod (b + 7) 3) == 0),.bool ((Int.tmod (b + 8) 3) == 0),.int .i64 (b + 9),.int .i64 (b + 10),.int .i64 (b + 11),.int .i64 (b + 12)] (slF (.slice Aa a.length Ca) 13 (a.map hlfCells)) (by kernel_rfl) rfl (by kernel_rfl) rfl rfl (by kernel_rfl) (by kernel_rfl) (by kernel_rfl) (by kernel_rfl) hlt (by simp) (fun w h => h) (fun b h => h) (by simp only [List.getElem?_map,hx,hxe]; rfl) ?_
  refine xl_endS [0,1,5,111] [(0,.v (.slice Aa a.length Ca)),(1,.v (.int .i64 (b + 9))),(5,.v (.int .i64 (i : Int))),(111,.v (.bool ((b + 9) != (b + 9))))] (by kernel_rfl) ?_
  refine xw_cond (b := (b + 9) != (b + 9)) (by kernel_rfl) (fun h11 => ?_) (fun h11 => ?_)
  simp at h11
  have h11p := neF h11
  refine xw_skip ?_
  refine xw_seq ?_
  refine xw_region ?_
  refine xl_runS 3 [0,1,5] [(0,.v (.slice Aa a.length Ca)),(1,.v (.int .i64 (IntKind.i64.wrap (b + 9 + 1)))),(5,.v (.int .i64 (i : Int)))] (by kernel_rfl) ?_
  refine xl_eqS (t' := [(0,.v (.slice Aa a.length Ca)),(1,.v (.int .i64 (b + 10))),(5,.v (.int .i64 (i : Int)))]) (by rw [show (IntKind.i64.wrap (b + 9 + 1)) = (b + 10) from wrap_to (by omega) (by omega) (by omega)]) ?_
  refine xl_endS [0,1,5] [(0,.v (.slice Aa a.length Ca)),(1,.v (.int .i64 (b + 10))),(5,.v (.int .i64 (i : Int)))] (by kernel_rfl) ?_
  refine xw_seq ?_
  refine xw_seq ?_
  refine xw_region ?_
  refine xl_indexS (kd := .i64) (T := 26) (e := 42) (K := 13) 2 [0,1,5,114,115] [(0,.v (.slice Aa a.length Ca)),(1,.v (.int .i64 (b + 10))),(5,.v (.int .i64 (i : Int))),(114,.v (.slice Aa a.length Ca)),(115,.v (.int .i64 (i : Int)))] i [.int .i64 b,.int .i64 (b + 1),.int .i64 (b + 2),.int .i64 (b + 3),.int .i64 (b + 4),.int .i64 (b + 5),.int .i64 (b + 6),.bool ((Int.tmod (b + 7) 3) == 0),.bool ((Int.tmod (b + 8) 3) == 0),.int .i64 (b + 9),.int .i64 (b + 10),.int .i64 (b + 11),.int .i64 (b + 12)] (slF (.slice Aa a.length Ca) 13 (a.map hlfCells)) (by kernel_rfl) rfl (by kernel_rfl) rfl rfl (by kernel_rfl) (by kernel_rfl) (by kernel_rfl) (by kernel_rfl) hlt (by simp) (fun w h => h) (fun b h => h) (by simp only [List.getElem?_map,hx,hxe]; rfl) ?_
  refine xl_endS [0,1,5,121] [(0,.v (.slice Aa a.length Ca)),(1,.v (.int .i64 (b + 10))),(5,.v (.int .i64 (i : Int))),(121,.v (.bool ((b + 10) != (b + 10))))] (by kernel_rfl) ?_
  refine xw_cond (b := (b + 10) != (b + 10)) (by kernel_rfl) (fun h12 => ?_) (fun h12 => ?_)
  simp at h12
  have h12p := neF h12
  refine xw_skip ?_
  refine xw_seq ?_
  refine xw_region ?_
  refine xl_runS 3 [0,1,5] [(0,.v (.slice Aa a.length Ca)),(1,.v (.int .i64 (IntKind.i64.wrap (b + 10 + 1)))),(5,.v (.int .i64 (i : Int)))] (by kernel_rfl) ?_
  refine xl_eqS (t' := [(0,.v (.slice Aa a.length Ca)),(1,.v (.int .i64 (b + 11))),(5,.v (.int .i64 (i : Int)))]) (by rw [show (IntKind.i64.wrap (b + 10 + 1)) = (b + 11) from wrap_to (by omega) (by omega) (by omega)]) ?_
  refine xl_endS [0,1,5] [(0,.v (.slice Aa a.length Ca)),(1,.v (.int .i64 (b + 11))),(5,.v (.int .i64 (i : Int)))] (by kernel_rfl) ?_
  refine xw_seq ?_
  refine xw_seq ?_
  refine xw_region ?_
  refine xl_indexS (kd := .i64) (T := 26) (e := 42) (K := 13) 2 [0,1,5,124,125] [(0,.v (.slice Aa a.length Ca)),(1,.v (.int .i64 (b + 11))),(5,.v (.int .i64 (i : Int))),(124,.v (.slice Aa a.length Ca)),(125,.v (.int .i64 (i : Int)))] i [.int .i64 b,.int .i64 (b + 1),.int .i64 (b + 2),.int .i64 (b + 3),.int .i64 (b + 4),.int .i64 (b + 5),.int .i64 (b + 6),.bool ((Int.tmod (b + 7) 3) == 0),.bool ((Int.tmod (b + 8) 3) == 0),.int .i64 (b + 9),.int .i64 (b + 10),.int .i64 (b + 11),.int .i64 (b + 12)] (slF (.slice Aa a.length Ca) 13 (a.map hlfCells)) (by kernel_rfl) rfl (by kernel_rfl) rfl rfl (by kernel_rfl) (by kernel_rfl) (by kernel_rfl) (by kernel_rfl) hlt (by simp) (fun w h => h) (fun b h => h) (by simp only [List.getElem?_map,hx,hxe]; rfl) ?_
  refine xl_endS [0,1,5,130] [(0,.v (.slice Aa a.length Ca)),(1,.v (.int .i64 (b + 11))),(5,.v (.int .i64 (i : Int))),(130,.v (.bool ((b + 11) != (b + 11))))] (by kernel_rfl) ?_
  refine xw_cond (b := (b + 11) != (b + 11)) (by kernel_rfl) (fun h13 => ?_) (fun h13 => ?_)
  simp at h13
  have h13p := neF h13
  refine xw_skip ?_
  refine xw_seq ?_
  refine xw_region ?_
  refine xl_runS 3 [0,1,5] [(0,.v (.slice Aa a.length Ca)),(1,.v (.int .i64 (IntKind.i64.wrap (b + 11 + 1)))),(5,.v (.int .i64 (i : Int)))] (by kernel_rfl) ?_
  refine xl_eqS (t' := [(0,.v (.slice Aa a.length Ca)),(1,.v (.int .i64 (b + 12))),(5,.v (.int .i64 (i : Int)))]) (by rw [show (IntKind.i64.wrap (b + 11 + 1)) = (b + 12) from wrap_to (by omega) (by omega) (by omega)]) ?_
  refine xl_endS [0,1,5] [(0,.v (.slice Aa a.length Ca)),(1,.v (.int .i64 (b + 12))),(5,.v (.int .i64 (i : Int)))] (by kernel_rfl) ?_
  refine xw_seq ?_
  refine xw_seq ?_
  refine xw_region ?_
  refine xl_indexS (kd := .i64) (T := 26) (e := 42) (K := 13) 2 [0,1,5,133,134] [(0,.v (.slice Aa a.length Ca)),(1,.v (.int .i64 (b + 12))),(5,.v (.int .i64 (i : Int))),(133,.v (.slice Aa a.length Ca)),(134,.v (.int .i64 (i : Int)))] i [.int .i64 b,.int .i64 (b + 1),.int .i64 (b + 2),.int .i64 (b + 3),.int .i64 (b + 4),.int .i64 (b + 5),.int .i64 (b + 6),.bool ((Int.tmod (b + 7) 3) == 0),.bool ((Int.tmod (b + 8) 3) == 0),.int .i64 (b + 9),.int .i64 (b + 10),.int .i64 (b + 11),.int .i64 (b + 12)] (slF (.slice Aa a.length Ca) 13 (a.map hlfCells)) (by kernel_rfl) rfl (by kernel_rfl) rfl rfl (by kernel_rfl) (by kernel_rfl) (by kernel_rfl) (by kernel_rfl) hlt (by simp) (fun w h => h) (fun b h => h) (by simp only [List.getElem?_map,hx,hxe]; rfl) ?_
  refine xl_endS [0,1,5,139] [(0,.v (.slice Aa a.length Ca)),(1,.v (.int .i64 (b + 12))),(5,.v (.int .i64 (i : Int))),(139,.v (.bool ((b + 12) != (b + 12))))] (by kernel_rfl) ?_
  refine xw_cond (b := (b + 12) != (b + 12)) (by kernel_rfl) (fun h14 => ?_) (fun h14 => ?_)
  simp at h14
  have h14p := neF h14
  refine xw_skip ?_
  refine xw_region ?_
  refine xl_runS 3 [0,1,5] [(0,.v (.slice Aa a.length Ca)),(1,.v (.int .i64 (IntKind.i64.wrap (b + 12 + 1)))),(5,.v (.int .i64 (i : Int)))] (by kernel_rfl) ?_
  refine xl_eqS (t' := [(0,.v (.slice Aa a.length Ca)),(1,.v (.int .i64 (b + 13))),(5,.v (.int .i64 (i : Int)))]) (by rw [show (IntKind.i64.wrap (b + 12 + 1)) = (b + 13) from wrap_to (by omega) (by omega) (by omega)]) ?_
  refine xl_endS [0,1,5] [(0,.v (.slice Aa a.length Ca)),(1,.v (.int .i64 (b + 13))),(5,.v (.int .i64 (i : Int)))] (by kernel_rfl) ?_
  refine xw_region ?_
  refine xl_runS 3 [0,1,5] [(0,.v (.slice Aa a.length Ca)),(1,.v (.int .i64 (b + 13))),(5,.v (.int .i64 (IntKind.i64.wrap ((i : Int) + 1))))] (by kernel_rfl) ?_
  refine xl_eqS (t' := [(0,.v (.slice Aa a.length Ca)),(1,.v (.int .i64 (b + 13))),(5,.v (.int .i64 ((i : Int) + 1)))]) (by rw [show (IntKind.i64.wrap ((i : Int) + 1)) = ((i : Int) + 1) from wrap_id (by omega) (by omega)]) ?_
  refine xl_endS [0,1,5] [(0,.v (.slice Aa a.length Ca)),(1,.v (.int .i64 (b + 13))),(5,.v (.int .i64 ((i : Int) + 1)))] (by kernel_rfl) ?_
  have e : b + 13 = k + 13 * ((i + 1 : Nat) : Int) := by omega
  rw [e]
  exact ⟨⟨(i + 1),hlt⟩,wk_forget 0 0 [0,1,5] (by kernel_rfl) (by kernel_rfl) (by kernel_rfl),by show (fun (i : Nat) => a.length - i) (i + 1) < a.length - i; (dsimp only; omega)⟩
  have h1p : ¬ ((i : Int) < ((a.length : Nat) : Int)) := of_decide_eq_false h1
  have hge : i = a.length := by simp at h1; omega
  refine xw_exit ?_
  refine xw_seq ?_
  refine xw_region ?_
  refine xl_endS [4] [(4,.v (.int .i64 (k + 13 * (i : Int))))] (by kernel_rfl) ?_
  refine xw_ret ?_
  have hmod : k + 13 * (a.length : Int) = (k + 13 * (i : Int)) := by first | rfl | (rw [hge])
  exact ⟨[.int .i64 (k + 13 * (i : Int))],by kernel_rfl,fun w' hb hf => by rw [hmod]; exact ⟨rfl,hb⟩⟩
theorem yheldHalfS_m (n : Nat) (v : Value) (k : Int) (w : World) (hs : Sl w v 13 ((marks mkH 13 k n).map hlfCells)) (hk0 : 0 ≤ k) (hk : k ≤ 4503599627370496) (hl : n ≤ 1048576) : Calls Try.prog 21 #[v, .int .i64 k] w fun e w' => e = .returned (.int .i64 (k + 13 * (n : Int))) ∧ Below w.heap.size w w' := by
  have := yheldHalfS_c (marks mkH 13 k n) v k w hs (by rw [marks_len]) hk0 hk (by rw [marks_len]; exact hl)
  rw [marks_len] at this; exact this
end Go.Proofs.Yteoipoenbofemaa
