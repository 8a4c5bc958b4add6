/- Contracts that this law needs, part 1. -/
import Derived.Test.YteoipoenbofemaaYW
import Derived.Test.YteoipoenbofemaaA5
import Derived.Test.YteoipoenbofemaaD0
import Derived.Test.YteoipoenbofemaaXN
import Derived.Test.YteoipoenbofemaaE
import Derived.Test.YteoipoenbofemaaSPiece
import Derived.Test.YteoipoenbofemaaC1
import Derived.Test.YteoipoenbofemaaME
import Derived.Test.YteoipoenbofemaaXM
import Derived.Test.YteoipoenbofemaaMH
import Derived.Test.YteoipoenbofemaaH2
import Derived.Test.YteoipoenbofemaaSHalf
import Derived.Test.YteoipoenbofemaaMF
import Derived.Test.YteoipoenbofemaaMG
import Derived.Test.YteoipoenbofemaaXO
namespace Go.Proofs.Yteoipoenbofemaa
open Go.RowKit
set_option linter.unusedVariables false
set_option linter.unusedSimpArgs false
set_option maxRecDepth 100000

@[simp] theorem inB18_1 : inB 1 1 8 = true := rfl
@[simp] theorem inB18_2 : inB 2 1 8 = true := rfl
@[simp] theorem inB18_3 : inB 3 1 8 = true := rfl
@[simp] theorem inB18_4 : inB 4 1 8 = true := rfl
@[simp] theorem inB18_5 : inB 5 1 8 = true := rfl
@[simp] theorem inB18_6 : inB 6 1 8 = true := rfl
@[simp] theorem inB18_7 : inB 7 1 8 = true := rfl
@[simp] theorem inB18_8 : inB 8 1 8 = true := rfl
set_option maxHeartbeats 1000000 in
theorem yCloneHalf_c (a : List Hlf) (aV : Value) (w : World) (hl_aV : Sl w aV 13 (a.map hlfCells)) (hkn : a.length ≤ 1048576) (B : Nat) (hB : B ≤ w.heap.size) : Calls Try.prog 62 #[aV] w fun e w' => XRs w w' e (α := Option Addr × Nat) (fun y => .slice y.1 a.length y.2) (fun y => [rowF B 42 13 (.slice y.1 a.length y.2) (a.map hlfCells)]) := by
  obtain ⟨Aa,Ca,hva⟩ := hl_aV.form
  rw [List.length_map] at hva; subst hva
  have hna := hl_aV.len; rw [List.length_map] at hna
  have hqa := Sl.capLe hl_aV
  have hnil := fun h => Sl.nil_of h hl_aV
  refine x_callsA (args := [.slice Aa a.length Ca]) (fn := Try.f62) [slF (.slice Aa a.length Ca) 13 (a.map hlfCells)] Try.func62 rfl Try.ntmps62 rfl (by simp only [List.mem_cons,List.not_mem_nil,or_false,forall_eq_or_imp,forall_eq]; exact ⟨rfl,hl_aV⟩) ?_
  refine xw_seq ?_
  refine xw_region ?_
  refine xl_end [0] ⟨[(0,.v (.slice Aa a.length Ca))],[],[],[slF (.slice Aa a.length Ca) 13 (a.map hlfCells)]⟩ (by kernel_rfl) ?_
  refine xw_seq ?_
  refine xw_seq ?_
  refine xw_region ?_
  refine xl_opS 1 [0,3] [(0,.v (.slice Aa a.length Ca)),(3,.v (.slice Aa a.length Ca))] (.bool Aa.isNone) (by kernel_rfl) rfl (by kernel_rfl) rfl (fun _ _ _ ww hr => act_nilEq (e := 42) hr.1 rfl (by kernel_rfl) rfl rfl ww) ?_
  refine xl_endS [0,4] [(0,.v (.slice Aa a.length Ca)),(4,.v (.bool Aa.isNone))] (by kernel_rfl) ?_
  refine xw_cond (b := Aa.isNone) (by kernel_rfl) (fun h1 => ?_) (fun h1 => ?_)
  refine xw_seq ?_
  refine xw_region ?_
  refine xl_endS [2] [(2,.v (.slice none 0 0))] (by kernel_rfl) ?_
  refine xw_ret ?_
  have hmod : a = [] := by exact hnil (by assumption)
  exact ⟨[.slice none 0 0],by kernel_rfl,fun w' hb hf ha => by rw [hmod]; exact xr_one ((none,0)) rfl rfl (rowF_nil _ _ _ _) (fun b hb => (nilF_b _ _ _ _ hb).elim) hb⟩
  refine xw_skip ?_
  refine xw_seq ?_
  refine xw_region ?_
  refine xl_hvS 0 [0] [(0,.v (.slice Aa a.length Ca))] (by kernel_rfl) rfl (by kernel_rfl) rfl (by kernel_rfl) (hv_build (e := 42) (K := 13) (bytes := 96) [] rfl (by kernel_rfl) (by kernel_rfl) (by kernel_rfl) (by kernel_rfl) (by kernel_rfl) (rs := ([] : List Hlf).map hlfCells) rfl) ?_
  intro g2
  refine xl_hvS 1 [5,6] [(5,.v (.slice (some ⟨g2,0,none⟩) 0 0)),(6,.v (.slice Aa a.length Ca))] (by kernel_rfl) rfl (by kernel_rfl) rfl (by kernel_rfl) (hv_append (e := 42) (K := 13) (bytes := 96) (i := 0) (q := a.length) (new := a.map hlfCells) (rs' := a.map hlfCells) rfl rfl rfl rfl (by kernel_rfl) (by kernel_rfl) (by kernel_rfl) rfl (by simp) rfl (by simp) (fun ww hf => (hf (slF (.slice Aa a.length Ca) 13 (a.map hlfCells)) (by simp))) (by intro r hr; obtain ⟨x,hx,rfl⟩ := List.mem_map.1 hr; exact ⟨rfl,by simp [hlfCells,Value.oneCell']⟩) (by simp only [List.length_map,List.length_append,List.length_cons,List.length_nil,List.length_take,List.length_drop,maxLen]; omega) (by simp only [List.length_map,List.length_append,List.length_cons,List.length_nil,List.length_take,List.length_drop,maxLen]; omega)) ?_
  rintro ⟨v3a,v3c⟩
  refine xl_endS [2] [(2,.v (.slice v3a a.length v3c))] (by kernel_rfl) ?_
  refine xw_ret ?_
  exact ⟨[.slice v3a a.length v3c],by kernel_rfl,fun w' hb hf ha => by exact xr_one ((v3a,v3c)) rfl rfl (rowF_lower (hf (rowF w.heap.size 42 13 (.slice v3a a.length v3c) (a.map hlfCells)) (by simp)) hB) (fun b hb => rowF_lo (hf (rowF w.heap.size 42 13 (.slice v3a a.length v3c) (a.map hlfCells)) (by simp)) hb) hb⟩
set_option maxHeartbeats 2000000 in
theorem ymarkHalfS_c (v : Value) (l : List Hlf) (k : Int) (w : World) (B : Nat) (hB : B ≤ w.heap.size) (h : Own w B v 13 (l.map hlfCells)) (hk0 : 0 ≤ k) (hk : k ≤ 4503599627370496) (hl : l.length ≤ 1048576) : Calls Try.prog 20 #[v, .int .i64 k] w fun e w' => e = .returned (.int .i64 (k + 13 * (l.length : Int))) ∧ Own w' B v 13 ((marks mkH 13 k l.length).map hlfCells) ∧ Chgd (ownF B v 13 (l.map hlfCells)).blk w w' := by
  obtain ⟨A,cap,hv⟩ := h.form
  rw [List.length_map] at hv; subst hv
  refine x_callsM (args := [.slice A l.length cap,.int .i64 k]) (fn := Try.f20) [ownF B (.slice A l.length cap) 13 (l.map hlfCells),frF w (ownF B (.slice A l.length cap) 13 (l.map hlfCells)).blk] B Try.func20 rfl Try.ntmps20 rfl hB (by simp only [List.mem_cons,List.not_mem_nil,or_false,forall_eq_or_imp,forall_eq]; exact ⟨h,frF_start w _⟩) apart_fr ?_
  refine xw_seq ?_
  refine xw_region ?_
  refine xl_end [0,1] ⟨[(0,.v (.slice A l.length cap)),(1,.v (.int .i64 k))],[],[],[ownF B (.slice A l.length cap) 13 (l.map hlfCells),frF w (ownF B (.slice A l.length cap) 13 (l.map hlfCells)).blk]⟩ (by kernel_rfl) ?_
  refine xw_seq ?_
  refine xw_seq ?_
  refine xw_region ?_
  refine xl_endS [0,1,5] [(0,.v (.slice A l.length cap)),(1,.v (.int .i64 k)),(5,.v (.int .i64 0))] (by kernel_rfl) ?_
  refine xw_block ?_
  have e0 : k + 13 * ((0 : Nat) : Int) = k := by omega
  refine xw_eq (st' := ⟨[(0,.v (.slice A l.length cap)),(1,.v (.int .i64 (k + 13 * ((0 : Nat) : Int)))),(5,.v (.int .i64 0))],[],[],[ownF B (.slice A l.length cap) 13 (l.map hlfCells),frF w (ownF B (.slice A l.length cap) 13 (l.map hlfCells)).blk]⟩) (by rw [e0]) ?_
  refine xw_loopW (α := {x : Nat // (fun (i : Nat) => i ≤ l.length) x}) (fun x => (fun (i : Nat) => (⟨[(0,.v (.slice A l.length cap)),(1,.v (.int .i64 (k + 13 * (i : Int)))),(5,.v (.int .i64 (i : Int)))],[],[],[ownF B (.slice A l.length cap) 13 ((marks mkH 13 k i ++ l.drop i).map hlfCells),frF w (ownF B (.slice A l.length cap) 13 (l.map hlfCells)).blk]⟩ : St)) x.1) (fun x => (fun (i : Nat) => l.length - i) x.1) ⟨(0),Nat.zero_le _⟩ (wk_forget 0 0 [0,1,5] (by kernel_rfl) (by kernel_rfl) (by kernel_rfl)) ?_
  rintro ⟨i,hi⟩
  refine xw_wk (Wk.of_eq (s' := ⟨[(0,.v (.slice A l.length cap)),(1,.v (.int .i64 (k + 13 * (i : Int)))),(5,.v (.int .i64 (i : Int)))],[],[],[ownF B (.slice A l.length cap) 13 ((marks mkH 13 k i ++ l.drop i).map hlfCells),frF w (ownF B (.slice A l.length cap) 13 (l.map hlfCells)).blk]⟩) rfl) ?_
  try dsimp only at hi
  refine xw_seq ?_
  refine xw_seq ?_
  refine xw_region ?_
  refine xl_endS [0,1,5,9] [(0,.v (.slice A l.length cap)),(1,.v (.int .i64 (k + 13 * (i : Int)))),(5,.v (.int .i64 (i : Int))),(9,.v (.bool (decide ((i : Int) < ((l.length : Nat) : Int)))))] (by kernel_rfl) ?_
  refine xw_cond (b := decide ((i : Int) < ((l.length : Nat) : Int))) (by kernel_rfl) (fun h1 => ?_) (fun h1 => ?_)
  have h1p : ((i : Int) < ((l.length : Nat) : Int)) := of_decide_eq_true h1
  have hlt : i < l.length := by simpa using h1
  obtain ⟨b,hb⟩ : ∃ b,b = k + 13 * (i : Int) := ⟨_,rfl⟩
  rw [← hb]
  obtain ⟨x,hx⟩ : ∃ x,l[i]? = some x := ⟨_,List.getElem?_eq_getElem hlt⟩
  refine xw_fact0 (g := ownF B (.slice A l.length cap) 13 (((marks mkH 13 k i ++ l.drop i).map hlfCells).set i [.int .i64 x.t.ip,.int .i64 x.t.port,.int .i64 x.t.my,.int .i64 x.iss,.int .i64 x.irs,.int .i64 x.o.mss,.int .i64 x.o.scale,.bool x.o.sack,.bool x.o.stamp,.int .i64 x.o.val,.int .i64 x.o.echo,.int .i64 x.age,.int .i64 x.window])) (congrArg (fun z => ownF B (.slice A l.length cap) 13 z) (mark_same (f := hlfCells) (mk := mkH) (c := 13) (k := k) hx)) ?_
  refine xw_skip ?_
  refine xw_seq ?_
  refine xw_block ?_
  refine xw_seq ?_
  refine xw_region ?_
  refine xl_elem (kd := .i64) (T := 26) (e := 42) (K := 13) (A := A) (len := l.length) (cap := cap) (rs := (((marks mkH 13 k i ++ l.drop i).map hlfCells).set i [.int .i64 x.t.ip,.int .i64 x.t.port,.int .i64 x.t.my,.int .i64 x.iss,.int .i64 x.irs,.int .i64 x.o.mss,.int .i64 x.o.scale,.bool x.o.sack,.bool x.o.stamp,.int .i64 x.o.val,.int .i64 x.o.echo,.int .i64 x.age,.int .i64 x.window])) 3 [0,1,5,12,13,14] ⟨[(0,.v (.slice A l.length cap)),(1,.v (.int .i64 b)),(5,.v (.int .i64 (i : Int))),(12,.v (.slice A l.length cap)),(13,.v (.int .i64 (i : Int))),(14,.v (.int .i64 b))],[],[],[ownF B (.slice A l.length cap) 13 (((marks mkH 13 k i ++ l.drop i).map hlfCells).set i [.int .i64 x.t.ip,.int .i64 x.t.port,.int .i64 x.t.my,.int .i64 x.iss,.int .i64 x.irs,.int .i64 x.o.mss,.int .i64 x.o.scale,.bool x.o.sack,.bool x.o.stamp,.int .i64 x.o.val,.int .i64 x.o.echo,.int .i64 x.age,.int .i64 x.window]),frF w (ownF B (.slice A l.length cap) 13 (l.map hlfCells)).blk]⟩ i (ownF B (.slice A l.length cap) 13 (((marks mkH 13 k i ++ l.drop i).map hlfCells).set i [.int .i64 x.t.ip,.int .i64 x.t.port,.int .i64 x.t.my,.int .i64 x.iss,.int .i64 x.irs,.int .i64 x.o.mss,.int .i64 x.o.scale,.bool x.o.sack,.bool x.o.stamp,.int .i64 x.o.val,.int .i64 x.o.echo,.int .i64 x.age,.int .i64 x.window])) (by kernel_rfl) rfl (by kernel_rfl) (by kernel_rfl) rfl (by kernel_rfl) (by kernel_rfl) (by kernel_rfl) (by kernel_rfl) hlt (by simp) (fun ww h => Own.sl h) (by rw [List.length_set,mark_ln hi]; exact hlt) ?_
  intro b2 o3 hA4
  refine xl_op 0 [0,1,5,14,15] ⟨[(0,.v (.slice A l.length cap)),(1,.v (.int .i64 b)),(5,.v (.int .i64 (i : Int))),(14,.v (.int .i64 b)),(15,.v (.pointer (some ⟨b2,o3 + i * 13,none⟩)))],[],[],[ownF B (.slice A l.length cap) 13 (((marks mkH 13 k i ++ l.drop i).map hlfCells).set i [.int .i64 x.t.ip,.int .i64 x.t.port,.int .i64 x.t.my,.int .i64 x.iss,.int .i64 x.irs,.int .i64 x.o.mss,.int .i64 x.o.scale,.bool x.o.sack,.bool x.o.stamp,.int .i64 x.o.val,.int .i64 x.o.echo,.int .i64 x.age,.int .i64 x.window]),frF w (ownF B (.slice A l.length cap) 13 (l.map hlfCells)).blk]⟩ (.pointer (some ⟨b2,o3 + i * 13 + 0,none⟩)) (by kernel_rfl) rfl (by kernel_rfl) rfl (fun _ _ _ ww hr => fld_run (sz := 3) hr rfl Try.underlying42 rfl (by kernel_rfl) rfl rfl (by first | rfl | omega)) ?_
  refine xl_op 0 [0,1,5,14,16] ⟨[(0,.v (.slice A l.length cap)),(1,.v (.int .i64 b)),(5,.v (.int .i64 (i : Int))),(14,.v (.int .i64 b)),(16,.v (.pointer (some ⟨b2,o3 + i * 13 + 0,none⟩)))],[],[],[ownF B (.slice A l.length cap) 13 (((marks mkH 13 k i ++ l.drop i).map hlfCells).set i [.int .i64 x.t.ip,.int .i64 x.t.port,.int .i64 x.t.my,.int .i64 x.iss,.int .i64 x.irs,.int .i64 x.o.mss,.int .i64 x.o.scale,.bool x.o.sack,.bool x.o.stamp,.int .i64 x.o.val,.int .i64 x.o.echo,.int .i64 x.age,.int .i64 x.window]),frF w (ownF B (.slice A l.length cap) 13 (l.map hlfCells)).blk]⟩ (.pointer (some ⟨b2,o3 + i * 13 + 0,none⟩)) (by kernel_rfl) rfl (by kernel_rfl) rfl (fun _ _ _ ww hr => fld_run (sz := 1) hr rfl Try.underlying29 rfl (by kernel_rfl) rfl rfl (by first | rfl | omega)) ?_
  refine xl_stE (K := 13) (po := 0) (B := B) (rs := ((marks mkH 13 k i ++ l.drop i).map hlfCells)) (row' := [.int .i64 b,.int .i64 x.t.port,.int .i64 x.t.my,.int .i64 x.iss,.int .i64 x.irs,.int .i64 x.o.mss,.int .i64 x.o.scale,.bool x.o.sack,.bool x.o.stamp,.int .i64 x.o.val,.int .i64 x.o.echo,.int .i64 x.age,.int .i64 x.window]) 0 [0,1,5,14,17] ⟨[(0,.v (.slice A l.length cap)),(1,.v (.int .i64 b)),(5,.v (.int .i64 (i : Int))),(14,.v (.int .i64 b)),(17,.v (.pointer (some ⟨b2,o3 + i * 13 + 0,none⟩)))],[],[],[ownF B (.slice A l.length cap) 13 (((marks mkH 13 k i ++ l.drop i).map hlfCells).set i [.int .i64 x.t.ip,.int .i64 x.t.port,.int .i64 x.t.my,.int .i64 x.iss,.int .i64 x.irs,.int .i64 x.o.mss,.int .i64 x.o.scale,.bool x.o.sack,.bool x.o.stamp,.int .i64 x.o.val,.int .i64 x.o.echo,.int .i64 x.age,.int .i64 x.window]),frF w (ownF B (.slice A l.length cap) 13 (l.map hlfCells)).blk]⟩ i [.int .i64 x.t.ip,.int .i64 x.t.port,.int .i64 x.t.my,.int .i64 x.iss,.int .i64 x.irs,.int .i64 x.o.mss,.int .i64 x.o.scale,.bool x.o.sack,.bool x.o.stamp,.int .i64 x.o.val,.int .i64 x.o.echo,.int .i64 x.age,.int .i64 x.window] 0 (by kernel_rfl) rfl (by kernel_rfl) rfl rfl rfl rfl (by kernel_rfl) (by kernel_rfl) rfl (cutW_le w B) hA4 (by rw [mark_ln hi]; exact hlt) (fun r hr => by obtain ⟨y,_,rfl⟩ := List.mem_map.1 hr; rfl) (by kernel_rfl) (by kernel_rfl) rfl rfl ?_
  refine xl_end [0,1,5] ⟨[(0,.v (.slice A l.length cap)),(1,.v (.int .i64 b)),(5,.v (.int .i64 (i : Int)))],[],[],[ownF B (.slice A l.length cap) 13 (((marks mkH 13 k i ++ l.drop i).map hlfCells).set i [.int .i64 b,.int .i64 x.t.port,.int .i64 x.t.my,.int .i64 x.iss,.int .i64 x.irs,.int .i64 x.o.mss,.int .i64 x.o.scale,.bool x.o.sack,.bool x.o.stamp,.int .i64 x.o.val,.int .i64 x.o.echo,.int .i64 x.age,.int .i64 x.window]),frF w (ownF B (.slice A l.length cap) 13 (l.map hlfCells)).blk]⟩ (by kernel_rfl) ?_
  refine xw_seq ?_
  refine xw_region ?_
  refine xl_runS 3 [0,1,5] [(0,.v (.slice A l.length cap)),(1,.v (.int .i64 (IntKind.i64.wrap (b + 1)))),(5,.v (.int .i64 (i : Int)))] (by kernel_rfl) ?_
  refine xl_eqS (t' := [(0,.v (.slice A l.length cap)),(1,.v (.int .i64 (b + 1))),(5,.v (.int .i64 (i : Int)))]) (by rw [show (IntKind.i64.wrap (b + 1)) = (b + 1) from wrap_id (by omega) (by omega)]) ?_
  refine xl_endS [0,1,5] [(0,.v (.slice A l.length cap)),(1,.v (.int .i64 (b + 1))),(5,.v (.int .i64 (i : Int)))] (by kernel_rfl) ?_
  refine xw_seq ?_
  refine xw_region ?_
  refine xl_elem (kd := .i64) (T := 26) (e := 42) (K := 13) (A := A) (len := l.length) (cap := cap) (rs := (((marks mkH 13 k i ++ l.drop i).map hlfCells).set i [.int .i64 b,.int .i64 x.t.port,.int .i64 x.t.my,.int .i64 x.iss,.int .i64 x.irs,.int .i64 x.o.mss,.int .i64 x.o.scale,.bool x.o.sack,.bool x.o.stamp,.int .i64 x.o.val,.int .i64 x.o.echo,.int .i64 x.age,.int .i64 x.window])) 3 [0,1,5,20,21,22] ⟨[(0,.v (.slice A l.length cap)),(1,.v (.int .i64 (b + 1))),(5,.v (.int .i64 (i : Int))),(20,.v (.slice A l.length cap)),(21,.v (.int .i64 (i : Int))),(22,.v (.int .i64 (b + 1)))],[],[],[ownF B (.slice A l.length cap) 13 (((marks mkH 13 k i ++ l.drop i).map hlfCells).set i [.int .i64 b,.int .i64 x.t.port,.int .i64 x.t.my,.int .i64 x.iss,.int .i64 x.irs,.int .i64 x.o.mss,.int .i64 x.o.scale,.bool x.o.sack,.bool x.o.stamp,.int .i64 x.o.val,.int .i64 x.o.echo,.int .i64 x.age,.int .i64 x.window]),frF w (ownF B (.slice A l.length cap) 13 (l.map hlfCells)).blk]⟩ i (ownF B (.slice A l.length cap) 13 (((marks mkH 13 k i ++ l.drop i).map hlfCells).set i [.int .i64 b,.int .i64 x.t.port,.int .i64 x.t.my,.int .i64 x.iss,.int .i64 x.irs,.int .i64 x.o.mss,.int .i64 x.o.scale,.bool x.o.sack,.bool x.o.stamp,.int .i64 x.o.val,.int .i64 x.o.echo,.int .i64 x.age,.int .i64 x.window])) (by kernel_rfl) rfl (by kernel_rfl) (by kernel_rfl) rfl (by kernel_rfl) (by kernel_rfl) (by kernel_rfl) (by kernel_rfl) hlt (by simp) (fun ww h => Own.sl h) (by rw [List.length_set,mark_ln hi]; exact hlt) ?_
  intro b5 o6 hA7
  refine xl_op 0 [0,1,5,22,23] ⟨[(0,.v (.slice A l.length cap)),(1,.v (.int .i64 (b + 1))),(5,.v (.int .i64 (i : Int))),(22,.v (.int .i64 (b + 1))),(23,.v (.pointer (some ⟨b5,o6 + i * 13,none⟩)))],[],[],[ownF B (.slice A l.length cap) 13 (((marks mkH 13 k i ++ l.drop i).map hlfCells).set i [.int .i64 b,.int .i64 x.t.port,.int .i64 x.t.my,.int .i64 x.iss,.int .i64 x.irs,.int .i64 x.o.mss,.int .i64 x.o.scale,.bool x.o.sack,.bool x.o.stamp,.int .i64 x.o.val,.int .i64 x.o.echo,.int .i64 x.age,.int .i64 x.window]),frF w (ownF B (.slice A l.length cap) 13 (l.map hlfCells)).blk]⟩ (.pointer (some ⟨b5,o6 + i * 13 + 0,none⟩)) (by kernel_rfl) rfl (by kernel_rfl) rfl (fun _ _ _ ww hr => fld_run (sz := 3) hr rfl Try.underlying42 rfl (by kernel_rfl) rfl rfl (by first | rfl | omega)) ?_
  refine xl_op 0 [0,1,5,22,24] ⟨[(0,.v (.slice A l.length cap)),(1,.v (.int .i64 (b + 1))),(5,.v (.int .i64 (i : Int))),(22,.v (.int .i64 (b + 1))),(24,.v (.pointer (some ⟨b5,o6 + i * 13 + 0,none⟩)))],[],[],[ownF B (.slice A l.length cap) 13 (((marks mkH 13 k i ++ l.drop i).map hlfCells).set i [.int .i64 b,.int .i64 x.t.port,.int .i64 x.t.my,.int .i64 x.iss,.int .i64 x.irs,.int .i64 x.o.mss,.int .i64 x.o.scale,.bool x.o.sack,.bool x.o.stamp,.int .i64 x.o.val,.int .i64 x.o.echo,.int .i64 x.age,.int .i64 x.window]),frF w (ownF B (.slice A l.length cap) 13 (l.map hlfCells)).blk]⟩ (.pointer (some ⟨b5,o6 + i * 13 + 1,none⟩)) (by kernel_rfl) rfl (by kernel_rfl) rfl (fun _ _ _ ww hr => fld_run (sz := 1) hr rfl Try.underlying29 rfl (by kernel_rfl) rfl rfl (by first | rfl | omega)) ?_
  refine xl_stE (K := 13) (po := 1) (B := B) (rs := ((marks mkH 13 k i ++ l.drop i).map hlfCells)) (row' := [.int .i64 b,.int .i64 (b + 1),.int .i64 x.t.my,.int .i64 x.iss,.int .i64 x.irs,.int .i64 x.o.mss,.int .i64 x.o.scale,.bool x.o.sack,.bool x.o.stamp,.int .i64 x.o.val,.int .i64 x.o.echo,.int .i64 x.age,.int .i64 x.window]) 0 [0,1,5,22,25] ⟨[(0,.v (.slice A l.length cap)),(1,.v (.int .i64 (b + 1))),(5,.v (.int .i64 (i : Int))),(22,.v (.int .i64 (b + 1))),(25,.v (.pointer (some ⟨b5,o6 + i * 13 + 1,none⟩)))],[],[],[ownF B (.slice A l.length cap) 13 (((marks mkH 13 k i ++ l.drop i).map hlfCells).set i [.int .i64 b,.int .i64 x.t.port,.int .i64 x.t.my,.int .i64 x.iss,.int .i64 x.irs,.int .i64 x.o.mss,.int .i64 x.o.scale,.bool x.o.sack,.bool x.o.stamp,.int .i64 x.o.val,.int .i64 x.o.echo,.int .i64 x.age,.int .i64 x.window]),frF w (ownF B (.slice A l.length cap) 13 (l.map hlfCells)).blk]⟩ i [.int .i64 b,.int .i64 x.t.port,.int .i64 x.t.my,.int .i64 x.iss,.int .i64 x.irs,.int .i64 x.o.mss,.int .i64 x.o.scale,.bool x.o.sack,.bool x.o.stamp,.int .i64 x.o.val,.int .i64 x.o.echo,.int .i64 x.age,.int .i64 x.window] 0 (by kernel_rfl) rfl (by kernel_rfl) rfl rfl rfl rfl (by kernel_rfl) (by kernel_rfl) rfl (cutW_le w B) hA7 (by rw [mark_ln hi]; exact hlt) (fun r hr => by obtain ⟨y,_,rfl⟩ := List.mem_map.1 hr; rfl) (by kernel_rfl) (by kernel_rfl) rfl rfl ?_
  refine xl_end [0,1,5] ⟨[(0,.v (.slice A l.length cap)),(1,.v (.int .i64 (b + 1))),(5,.v (.int .i64 (i : Int)))],[],[],[ownF B (.slice A l.length cap) 13 (((marks mkH 13 k i ++ l.drop i).map hlfCells).set i [.int .i64 b,.int .i64 (b + 1),.int .i64 x.t.my,.int .i64 x.iss,.int .i64 x.irs,.int .i64 x.o.mss,.int .i64 x.o.scale,.bool x.o.sack,.bool x.o.stamp,.int .i64 x.o.val,.int .i64 x.o.echo,.int .i64 x.age,.int .i64 x.window]),frF w (ownF B (.slice A l.length cap) 13 (l.map hlfCells)).blk]⟩ (by kernel_rfl) ?_
  refine xw_seq ?_
  refine xw_region ?_
  refine xl_runS 3 [0,1,5] [(0,.v (.slice A l.length cap)),(1,.v (.int .i64 (IntKind.i64.wrap (b + 1 + 1)))),(5,.v (.int .i64 (i : Int)))] (by kernel_rfl) ?_
  refine xl_eqS (t' := [(0,.v (.slice A l.length cap)),(1,.v (.int .i64 (b + 2))),(5,.v (.int .i64 (i : Int)))]) (by rw [show (IntKind.i64.wrap (b + 1 + 1)) = (b + 2) from wrap_to (by omega) (by omega) (by omega)]) ?_
  refine xl_endS [0,1,5] [(0,.v (.slice A l.length cap)),(1,.v (.int .i64 (b + 2))),(5,.v (.int .i64 (i : Int)))] (by kernel_rfl) ?_
  refine xw_seq ?_
  refine xw_region ?_
  refine xl_elem (kd := .i64) (T := 26) (e := 42) (K := 13) (A := A) (len := l.length) (cap := cap) (rs := (((marks mkH 13 k i ++ l.drop i).map hlfCells).set i [.int .i64 b,.int .i64 (b + 1),.int .i64 x.t.my,.int .i64 x.iss,.int .i64 x.irs,.int .i64 x.o.mss,.int .i64 x.o.scale,.bool x.o.sack,.bool x.o.stamp,.int .i64 x.o.val,.int .i64 x.o.echo,.int .i64 x.age,.int .i64 x.window])) 3 [0,1,5,28,29,30] ⟨[(0,.v (.slice A l.length cap)),(1,.v (.int .i64 (b + 2))),(5,.v (.int .i64 (i : Int))),(28,.v (.slice A l.length cap)),(29,.v (.int .i64 (i : Int))),(30,.v (.int .i64 (b + 2)))],[],[],[ownF B (.slice A l.length cap) 13 (((marks mkH 13 k i ++ l.drop i).map hlfCells).set i [.int .i64 b,.int .i64 (b + 1),.int .i64 x.t.my,.int .i64 x.iss,.int .i64 x.irs,.int .i64 x.o.mss,.int .i64 x.o.scale,.bool x.o.sack,.bool x.o.stamp,.int .i64 x.o.val,.int .i64 x.o.echo,.int .i64 x.age,.int .i64 x.window]),frF w (ownF B (.slice A l.length cap) 13 (l.map hlfCells)).blk]⟩ i (ownF B (.slice A l.length cap) 13 (((marks mkH 13 k i ++ l.drop i).map hlfCells).set i [.int .i64 b,.int .i64 (b + 1),.int .i64 x.t.my,.int .i64 x.iss,.int .i64 x.irs,.int .i64 x.o.mss,.int .i64 x.o.scale,.bool x.o.sack,.bool x.o.stamp,.int .i64 x.o.val,.int .i64 x.o.echo,.int .i64 x.age,.int .i64 x.window])) (by kernel_rfl) rfl (by kernel_rfl) (by kernel_rfl) rfl (by kernel_rfl) (by kernel_rfl) (by kernel_rfl) (by kernel_rfl) hlt (by simp) (fun ww h => Own.sl h) (by rw [List.length_set,mark_ln hi]; exact hlt) ?_
  intro b8 o9 hA10
  refine xl_op 0 [0,1,5,30,31] ⟨[(0,.v (.slice A l.length cap)),(1,.v (.int .i64 (b + 2))),(5,.v (.int .i64 (i : Int))),(30,.v (.int .i64 (b + 2))),(31,.v (.pointer (some ⟨b8,o9 + i * 13,none⟩)))],[],[],[ownF B (.slice A l.length cap) 13 (((marks mkH 13 k i ++ l.drop i).map hlfCells).set i [.int .i64 b,.int .i64 (b + 1),.int .i64 x.t.my,.int .i64 x.iss,.int .i64 x.irs,.int .i64 x.o.mss,.int .i64 x.o.scale,.bool x.o.sack,.bool x.o.stamp,.int .i64 x.o.val,.int .i64 x.o.echo,.int .i64 x.age,.int .i64 x.window]),frF w (ownF B (.slice A l.length cap) 13 (l.map hlfCells)).blk]⟩ (.pointer (some ⟨b8,o9 + i * 13 + 0,none⟩)) (by kernel_rfl) rfl (by kernel_rfl) rfl (fun _ _ _ ww hr => fld_run (sz := 3) hr rfl Try.underlying42 rfl (by kernel_rfl) rfl rfl (by first | rfl | omega)) ?_
  refine xl_op 0 [0,1,5,30,32] ⟨[(0,.v (.slice A l.length cap)),(1,.v (.int .i64 (b + 2))),(5,.v (.int .i64 (i : Int))),(30,.v (.int .i64 (b + 2))),(32,.v (.pointer (some ⟨b8,o9 + i * 13 + 0,none⟩)))],[],[],[ownF B (.slice A l.length cap) 13 (((marks mkH 13 k i ++ l.drop i).map hlfCells).set i [.int .i64 b,.int .i64 (b + 1),.int .i64 x.t.my,.int .i64 x.iss,.int .i64 x.irs,.int .i64 x.o.mss,.int .i64 x.o.scale,.bool x.o.sack,.bool x.o.stamp,.int .i64 x.o.val,.int .i64 x.o.echo,.int .i64 x.age,.int .i64 x.window]),frF w (ownF B (.slice A l.length cap) 13 (l.map hlfCells)).blk]⟩ (.pointer (some ⟨b8,o9 + i * 13 + 2,none⟩)) (by kernel_rfl) rfl (by kernel_rfl) rfl (fun _ _ _ ww hr => fld_run (sz := 1) hr rfl Try.underlying29 rfl (by kernel_rfl) rfl rfl (by first | rfl | omega)) ?_
  refine xl_stE (K := 13) (po := 2) (B := B) (rs := ((marks mkH 13 k i ++ l.drop i).map hlfCells)) (row' := [.int .i64 b,.int .i64 (b + 1),.int .i64 (b + 2),.int .i64 x.iss,.int .i64 x.irs,.int .i64 x.o.mss,.int .i64 x.o.scale,.bool x.o.sack,.bool x.o.stamp,.int .i64 x.o.val,.int .i64 x.o.echo,.int .i64 x.age,.int .i64 x.window]) 0 [0,1,5,30,33] ⟨[(0,.v (.slice A l.length cap)),(1,.v (.int .i64 (b + 2))),(5,.v (.int .i64 (i : Int))),(30,.v (.int .i64 (b + 2))),(33,.v (.pointer (some ⟨b8,o9 + i * 13 + 2,none⟩)))],[],[],[ownF B (.slice A l.length cap) 13 (((marks mkH 13 k i ++ l.drop i).map hlfCells).set i [.int .i64 b,.int .i64 (b + 1),.int .i64 x.t.my,.int .i64 x.iss,.int .i64 x.irs,.int .i64 x.o.mss,.int .i64 x.o.scale,.bool x.o.sack,.bool x.o.stamp,.int .i64 x.o.val,.int .i64 x.o.echo,.int .i64 x.age,.int .i64 x.window]),frF w (ownF B (.slice A l.length cap) 13 (l.map hlfCells)).blk]⟩ i [.int .i64 b,.int .i64 (b + 1),.int .i64 x.t.my,.int .i64 x.iss,.int .i64 x.irs,.int .i64 x.o.mss,.int .i64 x.o.scale,.bool x.o.sack,.bool x.o.stamp,.int .i64 x.o.val,.int .i64 x.o.echo,.int .i64 x.age,.int .i64 x.window] 0 (by kernel_rfl) rfl (by kernel_rfl) rfl rfl rfl rfl (by kernel_rfl) (by kernel_rfl) rfl (cutW_le w B) hA10 (by rw [mark_ln hi]; exact hlt) (fun r hr => by obtain ⟨y,_,rfl⟩ := List.mem_map.1 hr; rfl) (by kernel_rfl) (by kernel_rfl) rfl rfl ?_
  refine xl_end [0,1,5] ⟨[(0,.v (.slice A l.length cap)),(1,.v (.int .i64 (b + 2))),(5,.v (.int .i64 (i : Int)))],[],[],[ownF B (.slice A l.length cap) 13 (((marks mkH 13 k i ++ l.drop i).map hlfCells).set i [.int .i64 b,.int .i64 (b + 1),.int .i64 (b + 2),.int .i64 x.iss,.int .i64 x.irs,.int .i64 x.o.mss,.int .i64 x.o.scale,.bool x.o.sack,.bool x.o.stamp,.int .i64 x.o.val,.int .i64 x.o.echo,.int .i64 x.age,.int .i64 x.window]),frF w (ownF B (.slice A l.length cap) 13 (l.map hlfCells)).blk]⟩ (by kernel_rfl) ?_
  refine xw_seq ?_
  refine xw_region ?_
  refine xl_runS 3 [0,1,5] [(0,.v (.slice A l.length cap)),(1,.v (.int .i64 (IntKind.i64.wrap (b + 2 + 1)))),(5,.v (.int .i64 (i : Int)))] (by kernel_rfl) ?_
  refine xl_eqS (t' := [(0,.v (.slice A l.length cap)),(1,.v (.int .i64 (b + 3))),(5,.v (.int .i64 (i : Int)))]) (by rw [show (IntKind.i64.wrap (b + 2 + 1)) = (b + 3) from wrap_to (by omega) (by omega) (by omega)]) ?_
  refine xl_endS [0,1,5] [(0,.v (.slice A l.length cap)),(1,.v (.int .i64 (b + 3))),(5,.v (.int .i64 (i : Int)))] (by kernel_rfl) ?_
  refine xw_seq ?_
  refine xw_region ?_
  refine xl_elem (kd := .i64) (T := 26) (e := 42) (K := 13) (A := A) (len := l.length) (cap := cap) (rs := (((marks mkH 13 k i ++ l.drop i).map hlfCells).set i [.int .i64 b,.int .i64 (b + 1),.int .i64 (b + 2),.int .i64 x.iss,.int .i64 x.irs,.int .i64 x.o.mss,.int .i64 x.o.scale,.bool x.o.sack,.bool x.o.stamp,.int .i64 x.o.val,.int .i64 x.o.echo,.int .i64 x.age,.int .i64 x.window])) 3 [0,1,5,36,37,38] ⟨[(0,.v (.slice A l.length cap)),(1,.v (.int .i64 (b + 3))),(5,.v (.int .i64 (i : Int))),(36,.v (.slice A l.length cap)),(37,.v (.int .i64 (i : Int))),(38,.v (.int .i64 (b + 3)))],[],[],[ownF B (.slice A l.length cap) 13 (((marks mkH 13 k i ++ l.drop i).map hlfCells).set i [.int .i64 b,.int .i64 (b + 1),.int .i64 (b + 2),.int .i64 x.iss,.int .i64 x.irs,.int .i64 x.o.mss,.int .i64 x.o.scale,.bool x.o.sack,.bool x.o.stamp,.int .i64 x.o.val,.int .i64 x.o.echo,.int .i64 x.age,.int .i64 x.window]),frF w (ownF B (.slice A l.length cap) 13 (l.map hlfCells)).blk]⟩ i (ownF B (.slice A l.length cap) 13 (((marks mkH 13 k i ++ l.drop i).map hlfCells).set i [.int .i64 b,.int .i64 (b + 1),.int .i64 (b + 2),.int .i64 x.iss,.int .i64 x.irs,.int .i64 x.o.mss,.int .i64 x.o.scale,.bool x.o.sack,.bool x.o.stamp,.int .i64 x.o.val,.int .i64 x.o.echo,.int .i64 x.age,.int .i64 x.window])) (by kernel_rfl) rfl (by kernel_rfl) (by kernel_rfl) rfl (by kernel_rfl) (by kernel_rfl) (by kernel_rfl) (by kernel_rfl) hlt (by simp) (fun ww h => Own.sl h) (by rw [List.length_set,mark_ln hi]; exact hlt) ?_
  intro b11 o12 hA13
  refine xl_op 0 [0,1,5,38,39] ⟨[(0,.v (.slice A l.length cap)),(1,.v (.int .i64 (b + 3))),(5,.v (.int .i64 (i : Int))),(38,.v (.int .i64 (b + 3))),(39,.v (.pointer (some ⟨b11,o12 + i * 13,none⟩)))],[],[],[ownF B (.slice A l.length cap) 13 (((marks mkH 13 k i ++ l.drop i).map hlfCells).set i [.int .i64 b,.int .i64 (b + 1),.int .i64 (b + 2),.int .i64 x.iss,.int .i64 x.irs,.int .i64 x.o.mss,.int .i64 x.o.scale,.bool x.o.sack,.bool x.o.stamp,.int .i64 x.o.val,.int .i64 x.o.echo,.int .i64 x.age,.int .i64 x.window]),frF w (ownF B (.slice A l.length cap) 13 (l.map hlfCells)).blk]⟩ (.pointer (some ⟨b11,o12 + i * 13 + 3,none⟩)) (by kernel_rfl) rfl (by kernel_rfl) rfl (fun _ _ _ ww hr => fld_run (sz := 1) hr rfl Try.underlying42 rfl (by kernel_rfl) rfl rfl (by first | rfl | omega)) ?_
  refine xl_stE (K := 13) (po := 3) (B := B) (rs := ((marks mkH 13 k i ++ l.drop i).map hlfCells)) (row' := [.int .i64 b,.int .i64 (b + 1),.int .i64 (b + 2),.int .i64 (b + 3),.int .i64 x.irs,.int .i64 x.o.mss,.int .i64 x.o.scale,.bool x.o.sack,.bool x.o.stamp,.int .i64 x.o.val,.int .i64 x.o.echo,.int .i64 x.age,.int .i64 x.window]) 0 [0,1,5,38,40] ⟨[(0,.v (.slice A l.length cap)),(1,.v (.int .i64 (b + 3))),(5,.v (.int .i64 (i : Int))),(38,.v (.int .i64 (b + 3))),(40,.v (.pointer (some ⟨b11,o12 + i * 13 + 3,none⟩)))],[],[],[ownF B (.slice A l.length cap) 13 (((marks mkH 13 k i ++ l.drop i).map hlfCells).set i [.int .i64 b,.int .i64 (b + 1),.int .i64 (b + 2),.int .i64 x.iss,.int .i64 x.irs,.int .i64 x.o.mss,.int .i64 x.o.scale,.bool x.o.sack,.bool x.o.stamp,.int .i64 x.o.val,.int .i64 x.o.echo,.int .i64 x.age,.int .i64 x.window]),frF w (ownF B (.slice A l.length cap) 13 (l.map hlfCells)).blk]⟩ i [.int .i64 b,.int .i64 (b + 1),.int .i64 (b + 2),.int .i64 x.iss,.int .i64 x.irs,.int .i64 x.o.mss,.int .i64 x.o.scale,.bool x.o.sack,.bool x.o.stamp,.int .i64 x.o.val,.int .i64 x.o.echo,.int .i64 x.age,.int .i64 x.window] 0 (by kernel_rfl) rfl (by kernel_rfl) rfl rfl rfl rfl (by kernel_rfl) (by kernel_rfl) rfl (cutW_le w B) hA13 (by rw [mark_ln hi]; exact hlt) (fun r hr => by obtain ⟨y,_,rfl⟩ := List.mem_map.1 hr; rfl) (by kernel_rfl) (by kernel_rfl) rfl rfl ?_
  refine xl_end [0,1,5] ⟨[(0,.v (.slice A l.length cap)),(1,.v (.int .i64 (b + 3))),(5,.v (.int .i64 (i : Int)))],[],[],[ownF B (.slice A l.length cap) 13 (((marks mkH 13 k i ++ l.drop i).map hlfCells).set i [.int .i64 b,.int .i64 (b + 1),.int .i64 (b + 2),.int .i64 (b + 3),.int .i64 x.irs,.int .i64 x.o.mss,.int .i64 x.o.scale,.bool x.o.sack,.bool x.o.stamp,.int .i64 x.o.val,.int .i64 x.o.echo,.int .i64 x.age,.int .i64 x.window]),frF w (ownF B (.slice A l.length cap) 13 (l.map hlfCells)).blk]⟩ (by kernel_rfl) ?_
  refine xw_seq ?_
  refine xw_region ?_
  refine xl_runS 3 [0,1,5] [(0,.v (.slice A l.length cap)),(1,.v (.int .i64 (IntKind.i64.wrap (b + 3 + 1)))),(5,.v (.int .i64 (i : Int)))] (by kernel_rfl) ?_
  refine xl_eqS (t' := [(0,.v (.slice A l.length cap)),(1,.v (.int .i64 (b + 4))),(5,.v (.int .i64 (i : Int)))]) (by rw [show (IntKind.i64.wrap (b + 3 + 1)) = (b + 4) from wrap_to (by omega) (by omega) (by omega)]) ?_
  refine xl_endS [0,1,5] [(0,.v (.slice A l.length cap)),(1,.v (.int .i64 (b + 4))),(5,.v (.int .i64 (i : Int)))] (by kernel_rfl) ?_
  refine xw_seq ?_
  refine xw_region ?_
  refine xl_elem (kd := .i64) (T := 26) (e := 42) (K := 13) (A := A) (len := l.length) (cap := cap) (rs := (((marks mkH 13 k i ++ l.drop i).map hlfCells).set i [.int .i64 b,.int .i64 (b + 1),.int .i64 (b + 2),.int .i64 (b + 3),.int .i64 x.irs,.int .i64 x.o.mss,.int .i64 x.o.scale,.bool x.o.sack,.bool x.o.stamp,.int .i64 x.o.val,.int .i64 x.o.echo,.int .i64 x.age,.int .i64 x.window])) 3 [0,1,5,43,44,45] ⟨[(0,.v (.slice A l.length cap)),(1,.v (.int .i64 (b + 4))),(5,.v (.int .i64 (i : Int))),(43,.v (.slice A l.length cap)),(44,.v (.int .i64 (i : Int))),(45,.v (.int .i64 (b + 4)))],[],[],[ownF B (.slice A l.length cap) 13 (((marks mkH 13 k i ++ l.drop i).map hlfCells).set i [.int .i64 b,.int .i64 (b + 1),.int .i64 (b + 2),.int .i64 (b + 3),.int .i64 x.irs,.int .i64 x.o.mss,.int .i64 x.o.scale,.bool x.o.sack,.bool x.o.stamp,.int .i64 x.o.val,.int .i64 x.o.echo,.int .i64 x.age,.int .i64 x.window]),frF w (ownF B (.slice A l.length cap) 13 (l.map hlfCells)).blk]⟩ i (ownF B (.slice A l.length cap) 13 (((marks mkH 13 k i ++ l.drop i).map hlfCells).set i [.int .i64 b,.int .i64 (b + 1),.int .i64 (b + 2),.int .i64 (b + 3),.int .i64 x.irs,.int .i64 x.o.mss,.int .i64 x.o.scale,.bool x.o.sack,.bool x.o.stamp,.int .i64 x.o.val,.int .i64 x.o.echo,.int .i64 x.age,.int .i64 x.window])) (by kernel_rfl) rfl (by kernel_rfl) (by kernel_rfl) rfl (by kernel_rfl) (by kernel_rfl) (by kernel_rfl) (by kernel_rfl) hlt (by simp) (fun ww h => Own.sl h) (by rw [List.length_set,mark_ln hi]; exact hlt) ?_
  intro b14 o15 hA16
  refine xl_op 0 [0,1,5,45,46] ⟨[(0,.v (.slice A l.length cap)),(1,.v (.int .i64 (b + 4))),(5,.v (.int .i64 (i : Int))),(45,.v (.int .i64 (b + 4))),(46,.v (.pointer (some ⟨b14,o15 + i * 13,none⟩)))],[],[],[ownF B (.slice A l.length cap) 13 (((marks mkH 13 k i ++ l.drop i).map hlfCells).set i [.int .i64 b,.int .i64 (b + 1),.int .i64 (b + 2),.int .i64 (b + 3),.int .i64 x.irs,.int .i64 x.o.mss,.int .i64 x.o.scale,.bool x.o.sack,.bool x.o.stamp,.int .i64 x.o.val,.int .i64 x.o.echo,.int .i64 x.age,.int .i64 x.window]),frF w (ownF B (.slice A l.length cap) 13 (l.map hlfCells)).blk]⟩ (.pointer (some ⟨b14,o15 + i * 13 + 4,none⟩)) (by kernel_rfl) rfl (by kernel_rfl) rfl (fun _ _ _ ww hr => fld_run (sz := 1) hr rfl Try.underlying42 rfl (by kernel_rfl) rfl rfl (by first | rfl | omega)) ?_
  refine xl_stE (K := 13) (po := 4) (B := B) (rs := ((marks mkH 13 k i ++ l.drop i).map hlfCells)) (row' := [.int .i64 b,.int .i64 (b + 1),.int .i64 (b + 2),.int .i64 (b + 3),.int .i64 (b + 4),.int .i64 x.o.mss,.int .i64 x.o.scale,.bool x.o.sack,.bool x.o.stamp,.int .i64 x.o.val,.int .i64 x.o.echo,.int .i64 x.age,.int .i64 x.window]) 0 [0,1,5,45,47] ⟨[(0,.v (.slice A l.length cap)),(1,.v (.int .i64 (b + 4))),(5,.v (.int .i64 (i : Int))),(45,.v (.int .i64 (b + 4))),(47,.v (.pointer (some ⟨b14,o15 + i * 13 + 4,none⟩)))],[],[],[ownF B (.slice A l.length cap) 13 (((marks mkH 13 k i ++ l.drop i).map hlfCells).set i [.int .i64 b,.int .i64 (b + 1),.int .i64 (b + 2),.int .i64 (b + 3),.int .i64 x.irs,.int .i64 x.o.mss,.int .i64 x.o.scale,.bool x.o.sack,.bool x.o.stamp,.int .i64 x.o.val,.int .i64 x.o.echo,.int .i64 x.age,.int .i64 x.window]),frF w (ownF B (.slice A l.length cap) 13 (l.map hlfCells)).blk]⟩ i [.int .i64 b,.int .i64 (b + 1),.int .i64 (b + 2),.int .i64 (b + 3),.int .i64 x.irs,.int .i64 x.o.mss,.int .i64 x.o.scale,.bool x.o.sack,.bool x.o.stamp,.int .i64 x.o.val,.int .i64 x.o.echo,.int .i64 x.age,.int .i64 x.window] 0 (by kernel_rfl) rfl (by kernel_rfl) rfl rfl rfl rfl (by kernel_rfl) (by kernel_rfl) rfl (cutW_le w B) hA16 (by rw [mark_ln hi]; exact hlt) (fun r hr => by obtain ⟨y,_,rfl⟩ := List.mem_map.1 hr; rfl) (by kernel_rfl) (by kernel_rfl) rfl rfl ?_
  refine xl_end [0,1,5] ⟨[(0,.v (.slice A l.length cap)),(1,.v (.int .i64 (b + 4))),(5,.v (.int .i64 (i : Int)))],[],[],[ownF B (.slice A l.length cap) 13 (((marks mkH 13 k i ++ l.drop i).map hlfCells).set i [.int .i64 b,.int .i64 (b + 1),.int .i64 (b + 2),.int .i64 (b + 3),.int .i64 (b + 4),.int .i64 x.o.mss,.int .i64 x.o.scale,.bool x.o.sack,.bool x.o.stamp,.int .i64 x.o.val,.int .i64 x.o.echo,.int .i64 x.age,.int .i64 x.window]),frF w (ownF B (.slice A l.length cap) 13 (l.map hlfCells)).blk]⟩ (by kernel_rfl) ?_
  refine xw_seq ?_
  refine xw_region ?_
  refine xl_runS 3 [0,1,5] [(0,.v (.slice A l.length cap)),(1,.v (.int .i64 (IntKind.i64.wrap (b + 4 + 1)))),(5,.v (.int .i64 (i : Int)))] (by kernel_rfl) ?_
  refine xl_eqS (t' := [(0,.v (.slice A l.length cap)),(1,.v (.int .i64 (b + 5))),(5,.v (.int .i64 (i : Int)))]) (by rw [show (IntKind.i64.wrap (b + 4 + 1)) = (b + 5) from wrap_to (by omega) (by omega) (by omega)]) ?_
  refine xl_endS [0,1,5] [(0,.v (.slice A l.length cap)),(1,.v (.int .i64 (b + 5))),(5,.v (.int .i64 (i : Int)))] (by kernel_rfl) ?_
  refine xw_seq ?_
  refine xw_region ?_
  refine xl_elem (kd := .i64) (T := 26) (e := 42) (K := 13) (A := A) (len := l.length) (cap := cap) (rs := (((marks mkH 13 k i ++ l.drop i).map hlfCells).set i [.int .i64 b,.int .i64 (b + 1),.int .i64 (b + 2),.int .i64 (b + 3),.int .i64 (b + 4),.int .i64 x.o.mss,.int .i64 x.o.scale,.bool x.o.sack,.bool x.o.stamp,.int .i64 x.o.val,.int .i64 x.o.echo,.int .i64 x.age,.int .i64 x.window])) 3 [0,1,5,50,51,52] ⟨[(0,.v (.slice A l.length cap)),(1,.v (.int .i64 (b + 5))),(5,.v (.int .i64 (i : Int))),(50,.v (.slice A l.length cap)),(51,.v (.int .i64 (i : Int))),(52,.v (.int .i64 (b + 5)))],[],[],[ownF B (.slice A l.length cap) 13 (((marks mkH 13 k i ++ l.drop i).map hlfCells).set i [.int .i64 b,.int .i64 (b + 1),.int .i64 (b + 2),.int .i64 (b + 3),.int .i64 (b + 4),.int .i64 x.o.mss,.int .i64 x.o.scale,.bool x.o.sack,.bool x.o.stamp,.int .i64 x.o.val,.int .i64 x.o.echo,.int .i64 x.age,.int .i64 x.window]),frF w (ownF B (.slice A l.length cap) 13 (l.map hlfCells)).blk]⟩ i (ownF B (.slice A l.length cap) 13 (((marks mkH 13 k i ++ l.drop i).map hlfCells).set i [.int .i64 b,.int .i64 (b + 1),.int .i64 (b + 2),.int .i64 (b + 3),.int .i64 (b + 4),.int .i64 x.o.mss,.int .i64 x.o.scale,.bool x.o.sack,.bool x.o.stamp,.int .i64 x.o.val,.int .i64 x.o.echo,.int .i64 x.age,.int .i64 x.window])) (by kernel_rfl) rfl (by kernel_rfl) (by kernel_rfl) rfl (by kernel_rfl) (by kernel_rfl) (by kernel_rfl) (by kernel_rfl) hlt (by simp) (fun ww h => Own.sl h) (by rw [List.length_set,mark_ln hi]; exact hlt) ?_
  intro b17 o18 hA19
  refine xl_op 0 [0,1,5,52,53] ⟨[(0,.v (.slice A l.length cap)),(1,.v (.int .i64 (b + 5))),(5,.v (.int .i64 (i : Int))),(52,.v (.int .i64 (b + 5))),(53,.v (.pointer (some ⟨b17,o18 + i * 13,none⟩)))],[],[],[ownF B (.slice A l.length cap) 13 (((marks mkH 13 k i ++ l.drop i).map hlfCells).set i [.int .i64 b,.int .i64 (b + 1),.int .i64 (b + 2),.int .i64 (b + 3),.int .i64 (b + 4),.int .i64 x.o.mss,.int .i64 x.o.scale,.bool x.o.sack,.bool x.o.stamp,.int .i64 x.o.val,.int .i64 x.o.echo,.int .i64 x.age,.int .i64 x.window]),frF w (ownF B (.slice A l.length cap) 13 (l.map hlfCells)).blk]⟩ (.pointer (some ⟨b17,o18 + i * 13 + 5,none⟩)) (by kernel_rfl) rfl (by kernel_rfl) rfl (fun _ _ _ ww hr => fld_run (sz := 6) hr rfl Try.underlying42 rfl (by kernel_rfl) rfl rfl (by first | rfl | omega)) ?_
  refine xl_op 0 [0,1,5,52,54] ⟨[(0,.v (.slice A l.length cap)),(1,.v (.int .i64 (b + 5))),(5,.v (.int .i64 (i : Int))),(52,.v (.int .i64 (b + 5))),(54,.v (.pointer (some ⟨b17,o18 + i * 13 + 5,none⟩)))],[],[],[ownF B (.slice A l.length cap) 13 (((marks mkH 13 k i ++ l.drop i).map hlfCells).set i [.int .i64 b,.int .i64 (b + 1),.int .i64 (b + 2),.int .i64 (b + 3),.int .i64 (b + 4),.int .i64 x.o.mss,.int .i64 x.o.scale,.bool x.o.sack,.bool x.o.stamp,.int .i64 x.o.val,.int .i64 x.o.echo,.int .i64 x.age,.int .i64 x.window]),frF w (ownF B (.slice A l.length cap) 13 (l.map hlfCells)).blk]⟩ (.pointer (some ⟨b17,o18 + i * 13 + 5,none⟩)) (by kernel_rfl) rfl (by kernel_rfl) rfl (fun _ _ _ ww hr => fld_run (sz := 1) hr rfl Try.underlying40 rfl (by kernel_rfl) rfl rfl (by first | rfl | omega)) ?_
  refine xl_stE (K := 13) (po := 5) (B := B) (rs := ((marks mkH 13 k i ++ l.drop i).map hlfCells)) (row' := [.int .i64 b,.int .i64 (b + 1),.int .i64 (b + 2),.int .i64 (b + 3),.int .i64 (b + 4),.int .i64 (b + 5),.int .i64 x.o.scale,.bool x.o.sack,.bool x.o.stamp,.int .i64 x.o.val,.int .i64 x.o.echo,.int .i64 x.age,.int .i64 x.window]) 0 [0,1,5,52,55] ⟨[(0,.v (.slice A l.length cap)),(1,.v (.int .i64 (b + 5))),(5,.v (.int .i64 (i : Int))),(52,.v (.int .i64 (b + 5))),(55,.v (.pointer (some ⟨b17,o18 + i * 13 + 5,none⟩)))],[],[],[ownF B (.slice A l.length cap) 13 (((marks mkH 13 k i ++ l.drop i).map hlfCells).set i [.int .i64 b,.int .i64 (b + 1),.int .i64 (b + 2),.int .i64 (b + 3),.int .i64 (b + 4),.int .i64 x.o.mss,.int .i64 x.o.scale,.bool x.o.sack,.bool x.o.stamp,.int .i64 x.o.val,.int .i64 x.o.echo,.int .i64 x.age,.int .i64 x.window]),frF w (ownF B (.slice A l.length cap) 13 (l.map hlfCells)).blk]⟩ i [.int .i64 b,.int .i64 (b + 1),.int .i64 (b + 2),.int .i64 (b + 3),.int .i64 (b + 4),.int .i64 x.o.mss,.int .i64 x.o.scale,.bool x.o.sack,.bool x.o.stamp,.int .i64 x.o.val,.int .i64 x.o.echo,.int .i64 x.age,.int .i64 x.window] 0 (by kernel_rfl) rfl (by kernel_rfl) rfl rfl rfl rfl (by kernel_rfl) (by kernel_rfl) rfl (cutW_le w B) hA19 (by rw [mark_ln hi]; exact hlt) (fun r hr => by obtain ⟨y,_,rfl⟩ := List.mem_map.1 hr; rfl) (by kernel_rfl) (by kernel_rfl) rfl rfl ?_
  refine xl_end [0,1,5] ⟨[(0,.v (.slice A l.length cap)),(1,.v (.int .i64 (b + 5))),(5,.v (.int .i64 (i : Int)))],[],[],[ownF B (.slice A l.length cap) 13 (((marks mkH 13 k i ++ l.drop i).map hlfCells).set i [.int .i64 b,.int .i64 (b + 1),.int .i64 (b + 2),.int .i64 (b + 3),.int .i64 (b + 4),.int .i64 (b + 5),.int .i64 x.o.scale,.bool x.o.sack,.bool x.o.stamp,.int .i64 x.o.val,.int .i64 x.o.echo,.int .i64 x.age,.int .i64 x.window]),frF w (ownF B (.slice A l.length cap) 13 (l.map hlfCells)).blk]⟩ (by kernel_rfl) ?_
  refine xw_seq ?_
  refine xw_region ?_
  refine xl_runS 3 [0,1,5] [(0,.v (.slice A l.length cap)),(1,.v (.int .i64 (IntKind.i64.wrap (b + 5 + 1)))),(5,.v (.int .i64 (i : Int)))] (by kernel_rfl) ?_
  refine xl_eqS (t' := [(0,.v (.slice A l.length cap)),(1,.v (.int .i64 (b + 6))),(5,.v (.int .i64 (i : Int)))]) (by rw [show (IntKind.i64.wrap (b + 5 + 1)) = (b + 6) from wrap_to (by omega) (by omega) (by omega)]) ?_
  refine xl_endS [0,1,5] [(0,.v (.slice A l.length cap)),(1,.v (.int .i64 (b + 6))),(5,.v (.int .i64 (i : Int)))] (by kernel_rfl) ?_
  refine xw_seq ?_
  refine xw_region ?_
  refine xl_elem (kd := .i64) (T := 26) (e := 42) (K := 13) (A := A) (len := l.length) (cap := cap) (rs := (((marks mkH 13 k i ++ l.drop i).map hlfCells).set i [.int .i64 b,.int .i64 (b + 1),.int .i64 (b + 2),.int .i64 (b + 3),.int .i64 (b + 4),.int .i64 (b + 5),.int .i64 x.o.scale,.bool x.o.sack,.bool x.o.stamp,.int .i64 x.o.val,.int .i64 x.o.echo,.int .i64 x.age,.int .i64 x.window])) 3 [0,1,5,58,59,60] ⟨[(0,.v (.slice A l.length cap)),(1,.v (.int .i64 (b + 6))),(5,.v (.int .i64 (i : Int))),(58,.v (.slice A l.length cap)),(59,.v (.int .i64 (i : Int))),(60,.v (.int .i64 (b + 6)))],[],[],[ownF B (.slice A l.length cap) 13 (((marks mkH 13 k i ++ l.drop i).map hlfCells).set i [.int .i64 b,.int .i64 (b + 1),.int .i64 (b + 2),.int .i64 (b + 3),.int .i64 (b + 4),.int .i64 (b + 5),.int .i64 x.o.scale,.bool x.o.sack,.bool x.o.stamp,.int .i64 x.o.val,.int .i64 x.o.echo,.int .i64 x.age,.int .i64 x.window]),frF w (ownF B (.slice A l.length cap) 13 (l.map hlfCells)).blk]⟩ i (ownF B (.slice A l.length cap) 13 (((marks mkH 13 k i ++ l.drop i).map hlfCells).set i [.int .i64 b,.int .i64 (b + 1),.int .i64 (b + 2),.int .i64 (b + 3),.int .i64 (b + 4),.int .i64 (b + 5),.int .i64 x.o.scale,.bool x.o.sack,.bool x.o.stamp,.int .i64 x.o.val,.int .i64 x.o.echo,.int .i64 x.age,.int .i64 x.window])) (by kernel_rfl) rfl (by kernel_rfl) (by kernel_rfl) rfl (by kernel_rfl) (by kernel_rfl) (by kernel_rfl) (by kernel_rfl) hlt (by simp) (fun ww h => Own.sl h) (by rw [List.length_set,mark_ln hi]; exact hlt) ?_
  intro b20 o21 hA22
  refine xl_op 0 [0,1,5,60,61] ⟨[(0,.v (.slice A l.length cap)),(1,.v (.int .i64 (b + 6))),(5,.v (.int .i64 (i : Int))),(60,.v (.int .i64 (b + 6))),(61,.v (.pointer (some ⟨b20,o21 + i * 13,none⟩)))],[],[],[ownF B (.slice A l.length cap) 13 (((marks mkH 13 k i ++ l.drop i).map hlfCells).set i [.int .i64 b,.int .i64 (b + 1),.int .i64 (b + 2),.int .i64 (b + 3),.int .i64 (b + 4),.int .i64 (b + 5),.int .i64 x.o.scale,.bool x.o.sack,.bool x.o.stamp,.int .i64 x.o.val,.int .i64 x.o.echo,.int .i64 x.age,.int .i64 x.window]),frF w (ownF B (.slice A l.length cap) 13 (l.map hlfCells)).blk]⟩ (.pointer (some ⟨b20,o21 + i * 13 + 5,none⟩)) (by kernel_rfl) rfl (by kernel_rfl) rfl (fun _ _ _ ww hr => fld_run (sz := 6) hr rfl Try.underlying42 rfl (by kernel_rfl) rfl rfl (by first | rfl | omega)) ?_
  refine xl_op 0 [0,1,5,60,62] ⟨[(0,.v (.slice A l.length cap)),(1,.v (.int .i64 (b + 6))),(5,.v (.int .i64 (i : Int))),(60,.v (.int .i64 (b + 6))),(62,.v (.pointer (some ⟨b20,o21 + i * 13 + 5,none⟩)))],[],[],[ownF B (.slice A l.length cap) 13 (((marks mkH 13 k i ++ l.drop i).map hlfCells).set i [.int .i64 b,.int .i64 (b + 1),.int .i64 (b + 2),.int .i64 (b + 3),.int .i64 (b + 4),.int .i64 (b + 5),.int .i64 x.o.scale,.bool x.o.sack,.bool x.o.stamp,.int .i64 x.o.val,.int .i64 x.o.echo,.int .i64 x.age,.int .i64 x.window]),frF w (ownF B (.slice A l.length cap) 13 (l.map hlfCells)).blk]⟩ (.pointer (some ⟨b20,o21 + i * 13 + 6,none⟩)) (by kernel_rfl) rfl (by kernel_rfl) rfl (fun _ _ _ ww hr => fld_run (sz := 1) hr rfl Try.underlying40 rfl (by kernel_rfl) rfl rfl (by first | rfl | omega)) ?_
  refine xl_stE (K := 13) (po := 6) (B := B) (rs := ((marks mkH 13 k i ++ l.drop i).map hlfCells)) (row' := [.int .i64 b,.int .i64 (b + 1),.int .i64 (b + 2),.int .i64 (b + 3),.int .i64 (b + 4),.int .i64 (b + 5),.int .i64 (b + 6),.bool x.o.sack,.bool x.o.stamp,.int .i64 x.o.val,.int .i64 x.o.echo,.int .i64 x.age,.int .i64 x.window]) 0 [0,1,5,60,63] ⟨[(0,.v (.slice A l.length cap)),(1,.v (.int .i64 (b + 6))),(5,.v (.int .i64 (i : Int))),(60,.v (.int .i64 (b + 6))),(63,.v (.pointer (some ⟨b20,o21 + i * 13 + 6,none⟩)))],[],[],[ownF B (.slice A l.length cap) 13 (((marks mkH 13 k i ++ l.drop i).map hlfCells).set i [.int .i64 b,.int .i64 (b + 1),.int .i64 (b + 2),.int .i64 (b + 3),.int .i64 (b + 4),.int .i64 (b + 5),.int .i64 x.o.scale,.bool x.o.sack,.bool x.o.stamp,.int .i64 x.o.val,.int .i64 x.o.echo,.int .i64 x.age,.int .i64 x.window]),frF w (ownF B (.slice A l.length cap) 13 (l.map hlfCells)).blk]⟩ i [.int .i64 b,.int .i64 (b + 1),.int .i64 (b + 2),.int .i64 (b + 3),.int .i64 (b + 4),.int .i64 (b + 5),.int .i64 x.o.scale,.bool x.o.sack,.bool x.o.stamp,.int .i64 x.o.val,.int .i64 x.o.echo,.int .i64 x.age,.int .i64 x.window] 0 (by kernel_rfl) rfl (by kernel_rfl) rfl rfl rfl rfl (by kernel_rfl) (by kernel_rfl) rfl (cutW_le w B) hA22 (by rw [mark_ln hi]; exact hlt) (fun r hr => by obtain ⟨y,_,rfl⟩ := List.mem_map.1 hr; rfl) (by kernel_rfl) (by kernel_rfl) rfl rfl ?_
  refine xl_end [0,1,5] ⟨[(0,.v (.slice A l.length cap)),(1,.v (.int .i64 (b + 6))),(5,.v (.int .i64 (i : Int)))],[],[],[ownF B (.slice A l.length cap) 13 (((marks mkH 13 k i ++ l.drop i).map hlfCells).set i [.int .i64 b,.int .i64 (b + 1),.int .i64 (b + 2),.int .i64 (b + 3),.int .i64 (b + 4),.int .i64 (b + 5),.int .i64 (b + 6),.bool x.o.sack,.bool x.o.stamp,.int .i64 x.o.val,.int .i64 x.o.echo,.int .i64 x.age,.int .i64 x.window]),frF w (ownF B (.slice A l.length cap) 13 (l.map hlfCells)).blk]⟩ (by kernel_rfl) ?_
  refine xw_seq ?_
  refine xw_region ?_
  refine xl_runS 3 [0,1,5] [(0,.v (.slice A l.length cap)),(1,.v (.int .i64 (IntKind.i64.wrap (b + 6 + 1)))),(5,.v (.int .i64 (i : Int)))] (by kernel_rfl) ?_
  refine xl_eqS (t' := [(0,.v (.slice A l.length cap)),(1,.v (.int .i64 (b + 7))),(5,.v (.int .i64 (i : Int)))]) (by rw [show (IntKind.i64.wrap (b + 6 + 1)) = (b + 7) from wrap_to (by omega) (by omega) (by omega)]) ?_
  refine xl_endS [0,1,5] [(0,.v (.slice A l.length cap)),(1,.v (.int .i64 (b + 7))),(5,.v (.int .i64 (i : Int)))] (by kernel_rfl) ?_
  refine xw_seq ?_
  refine xw_region ?_
  refine xl_opS 3 [0,1,5,66,67,68] [(0,.v (.slice A l.length cap)),(1,.v (.int .i64 (b + 7))),(5,.v (.int .i64 (i : Int))),(66,.v (.slice A l.length cap)),(67,.v (.int .i64 (i : Int))),(68,.v (.int .i64 (b + 7)))] (.int .i64 (Int.tmod (b + 7) 3)) (by kernel_rfl) rfl (by kernel_rfl) rfl (fun _ _ _ ww hr => act_bin hr.1 rfl (by kernel_rfl) (by kernel_rfl) (rem_run (by decide) ww)) ?_
  refine xl_elem (kd := .i64) (T := 26) (e := 42) (K := 13) (A := A) (len := l.length) (cap := cap) (rs := (((marks mkH 13 k i ++ l.drop i).map hlfCells).set i [.int .i64 b,.int .i64 (b + 1),.int .i64 (b + 2),.int .i64 (b + 3),.int .i64 (b + 4),.int .i64 (b + 5),.int .i64 (b + 6),.bool x.o.sack,.bool x.o.stamp,.int .i64 x.o.val,.int .i64 x.o.echo,.int .i64 x.age,.int .i64 x.window])) 1 [0,1,5,66,67,70] ⟨[(0,.v (.slice A l.length cap)),(1,.v (.int .i64 (b + 7))),(5,.v (.int .i64 (i : Int))),(66,.v (.slice A l.length cap)),(67,.v (.int .i64 (i : Int))),(70,.v (.bool ((Int.tmod (b + 7) 3) == 0)))],[],[],[ownF B (.slice A l.length cap) 13 (((marks mkH 13 k i ++ l.drop i).map hlfCells).set i [.int .i64 b,.int .i64 (b + 1),.int .i64 (b + 2),.int .i64 (b + 3),.int .i64 (b + 4),.int .i64 (b + 5),.int .i64 (b + 6),.bool x.o.sack,.bool x.o.stamp,.int .i64 x.o.val,.int .i64 x.o.echo,.int .i64 x.age,.int .i64 x.window]),frF w (ownF B (.slice A l.length cap) 13 (l.map hlfCells)).blk]⟩ i (ownF B (.slice A l.length cap) 13 (((marks mkH 13 k i ++ l.drop i).map hlfCells).set i [.int .i64 b,.int .i64 (b + 1),.int .i64 (b + 2),.int .i64 (b + 3),.int .i64 (b + 4),.int .i64 (b + 5),.int .i64 (b + 6),.bool x.o.sack,.bool x.o.stamp,.int .i64 x.o.val,.int .i64 x.o.echo,.int .i64 x.age,.int .i64 x.window])) (by kernel_rfl) rfl (by kernel_rfl) (by kernel_rfl) rfl (by kernel_rfl) (by kernel_rfl) (by kernel_rfl) (by kernel_rfl) hlt (by simp) (fun ww h => Own.sl h) (by rw [List.length_set,mark_ln hi]; exact hlt) ?_
  intro b23 o24 hA25
  refine xl_op 0 [0,1,5,70,71] ⟨[(0,.v (.slice A l.length cap)),(1,.v (.int .i64 (b + 7))),(5,.v (.int .i64 (i : Int))),(70,.v (.bool ((Int.tmod (b + 7) 3) == 0))),(71,.v (.pointer (some ⟨b23,o24 + i * 13,none⟩)))],[],[],[ownF B (.slice A l.length cap) 13 (((marks mkH 13 k i ++ l.drop i).map hlfCells).set i [.int .i64 b,.int .i64 (b + 1),.int .i64 (b + 2),.int .i64 (b + 3),.int .i64 (b + 4),.int .i64 (b + 5),.int .i64 (b + 6),.bool x.o.sack,.bool x.o.stamp,.int .i64 x.o.val,.int .i64 x.o.echo,.int .i64 x.age,.int .i64 x.window]),frF w (ownF B (.slice A l.length cap) 13 (l.map hlfCells)).blk]⟩ (.pointer (some ⟨b23,o24 + i * 13 + 5,none⟩)) (by kernel_rfl) rfl (by kernel_rfl) rfl (fun _ _ _ ww hr => fld_run (sz := 6) hr rfl Try.underlying42 rfl (by kernel_rfl) rfl rfl (by first | rfl | omega)) ?_
  refine xl_op 0 [0,1,5,70,72] ⟨[(0,.v (.slice A l.length cap)),(1,.v (.int .i64 (b + 7))),(5,.v (.int .i64 (i : Int))),(70,.v (.bool ((Int.tmod (b + 7) 3) == 0))),(72,.v (.pointer (some ⟨b23,o24 + i * 13 + 5,none⟩)))],[],[],[ownF B (.slice A l.length cap) 13 (((marks mkH 13 k i ++ l.drop i).map hlfCells).set i [.int .i64 b,.int .i64 (b + 1),.int .i64 (b + 2),.int .i64 (b + 3),.int .i64 (b + 4),.int .i64 (b + 5),.int .i64 (b + 6),.bool x.o.sack,.bool x.o.stamp,.int .i64 x.o.val,.int .i64 x.o.echo,.int .i64 x.age,.int .i64 x.window]),frF w (ownF B (.slice A l.length cap) 13 (l.map hlfCells)).blk]⟩ (.pointer (some ⟨b23,o24 + i * 13 + 7,none⟩)) (by kernel_rfl) rfl (by kernel_rfl) rfl (fun _ _ _ ww hr => fld_run (sz := 1) hr rfl Try.underlying40 rfl (by kernel_rfl) rfl rfl (by first | rfl | omega)) ?_
  refine xl_stE (K := 13) (po := 7) (B := B) (rs := ((marks mkH 13 k i ++ l.drop i).map hlfCells)) (row' := [.int .i64 b,.int .i64 (b + 1),.int .i64 (b + 2),.int .i64 (b + 3),.int .i64 (b + 4),.int .i64 (b + 5),.int .i64 (b + 6),.bool ((Int.tmod (b + 7) 3) == 0),.bool x.o.stamp,.int .i64 x.o.val,.int .i64 x.o.echo,.int .i64 x.age,.int .i64 x.window]) 0 [0,1,5,70,73] ⟨[(0,.v (.slice A l.length cap)),(1,.v (.int .i64 (b + 7))),(5,.v (.int .i64 (i : Int))),(70,.v (.bool ((Int.tmod (b + 7) 3) == 0))),(73,.v (.pointer (some ⟨b23,o24 + i * 13 + 7,none⟩)))],[],[],[ownF B (.slice A l.length cap) 13 (((marks mkH 13 k i ++ l.drop i).map hlfCells).set i [.int .i64 b,.int .i64 (b + 1),.int .i64 (b + 2),.int .i64 (b + 3),.int .i64 (b + 4),.int .i64 (b + 5),.int .i64 (b + 6),.bool x.o.sack,.bool x.o.stamp,.int .i64 x.o.val,.int .i64 x.o.echo,.int .i64 x.age,.int .i64 x.window]),frF w (ownF B (.slice A l.length cap) 13 (l.map hlfCells)).blk]⟩ i [.int .i64 b,.int .i64 (b + 1),.int .i64 (b + 2),.int .i64 (b + 3),.int .i64 (b + 4),.int .i64 (b + 5),.int .i64 (b + 6),.bool x.o.sack,.bool x.o.stamp,.int .i64 x.o.val,.int .i64 x.o.echo,.int .i64 x.age,.int .i64 x.window] 0 (by kernel_rfl) rfl (by kernel_rfl) rfl rfl rfl rfl (by kernel_rfl) (by kernel_rfl) rfl (cutW_le w B) hA25 (by rw [mark_ln hi]; exact hlt) (fun r hr => by obtain ⟨y,_,rfl⟩ := List.mem_map.1 hr; rfl) (by kernel_rfl) (by kernel_rfl) rfl rfl ?_
  refine xl_end [0,1,5] ⟨[(0,.v (.slice A l.length cap)),(1,.v (.int .i64 (b + 7))),(5,.v (.int .i64 (i : Int)))],[],[],[ownF B (.slice A l.length cap) 13 (((marks mkH 13 k i ++ l.drop i).map hlfCells).set i [.int .i64 b,.int .i64 (b + 1),.int .i64 (b + 2),.int .i64 (b + 3),.int .i64 (b + 4),.int .i64 (b + 5),.int .i64 (b + 6),.bool ((Int.tmod (b + 7) 3) == 0),.bool x.o.stamp,.int .i64 x.o.val,.int .i64 x.o.echo,.int .i64 x.age,.int .i64 x.window]),frF w (ownF B (.slice A l.length cap) 13 (l.map hlfCells)).blk]⟩ (by kernel_rfl) ?_
  refine xw_seq ?_
  refine xw_region ?_
  refine xl_runS 3 [0,1,5] [(0,.v (.slice A l.length cap)),(1,.v (.int .i64 (IntKind.i64.wrap (b + 7 + 1)))),(5,.v (.int .i64 (i : Int)))] (by kernel_rfl) ?_
  refine xl_eqS (t' := [(0,.v (.slice A l.length cap)),(1,.v (.int .i64 (b + 8))),(5,.v (.int .i64 (i : Int)))]) (by rw [show (IntKind.i64.wrap (b + 7 + 1)) = (b + 8) from wrap_to (by omega) (by omega) (by omega)]) ?_
  refine xl_endS [0,1,5] [(0,.v (.slice A l.length cap)),(1,.v (.int .i64 (b + 8))),(5,.v (.int .i64 (i : Int)))] (by kernel_rfl) ?_
  refine xw_seq ?_
  refine xw_region ?_
  refine xl_opS 3 [0,1,5,76,77,78] [(0,.v (.slice A l.length cap)),(1,.v (.int .i64 (b + 8))),(5,.v (.int .i64 (i : Int))),(76,.v (.slice A l.length cap)),(77,.v (.int .i64 (i : Int))),(78,.v (.int .i64 (b + 8)))] (.int .i64 (Int.tmod (b + 8) 3)) (by kernel_rfl) rfl (by kernel_rfl) rfl (fun _ _ _ ww hr => act_bin hr.1 rfl (by kernel_rfl) (by kernel_rfl) (rem_run (by decide) ww)) ?_
  refine xl_elem (kd := .i64) (T := 26) (e := 42) (K := 13) (A := A) (len := l.length) (cap := cap) (rs := (((marks mkH 13 k i ++ l.drop i).map hlfCells).set i [.int .i64 b,.int .i64 (b + 1),.int .i64 (b + 2),.int .i64 (b + 3),.int .i64 (b + 4),.int .i64 (b + 5),.int .i64 (b + 6),.bool ((Int.tmod (b + 7) 3) == 0),.bool x.o.stamp,.int .i64 x.o.val,.int .i64 x.o.echo,.int .i64 x.age,.int .i64 x.window])) 1 [0,1,5,76,77,80] ⟨[(0,.v (.slice A l.length cap)),(1,.v (.int .i64 (b + 8))),(5,.v (.int .i64 (i : Int))),(76,.v (.slice A l.length cap)),(77,.v (.int .i64 (i : Int))),(80,.v (.bool ((Int.tmod (b + 8) 3) == 0)))],[],[],[ownF B (.slice A l.length cap) 13 (((marks mkH 13 k i ++ l.drop i).map hlfCells).set i [.int .i64 b,.int .i64 (b + 1),.int .i64 (b + 2),.int .i64 (b + 3),.int .i64 (b + 4),.int .i64 (b + 5),.int .i64 (b + 6),.bool ((Int.tmod (b + 7) 3) == 0),.bool x.o.stamp,.int .i64 x.o.val,.int .i64 x.o.echo,.int .i64 x.age,.int .i64 x.window]),frF w (ownF B (.slice A l.length cap) 13 (l.map hlfCells)).blk]⟩ i (ownF B (.slice A l.length cap) 13 (((marks mkH 13 k i ++ l.drop i).map hlfCells).set i [.int .i64 b,.int .i64 (b + 1),.int .i64 (b + 2),.int .i64 (b + 3),.int .i64 (b + 4),.int .i64 (b + 5),.int .i64 (b + 6),.bool ((Int.tmod (b + 7) 3) == 0),.bool x.o.stamp,.int .i64 x.o.val,.int .i64 x.o.echo,.int .i64 x.age,.int .i64 x.window])) (by kernel_rfl) rfl (by kernel_rfl) (by kernel_rfl) rfl (by kernel_rfl) (by kernel_rfl) (by kernel_rfl) (by kernel_rfl) hlt (by simp) (fun ww h => Own.sl h) (by rw [List.length_set,mark_ln hi]; exact hlt) ?_
  intro b26 o27 hA28
  refine xl_op 0 [0,1,5,80,81] ⟨[(0,.v (.slice A l.length cap)),(1,.v (.int .i64 (b + 8))),(5,.v (.int .i64 (i : Int))),(80,.v (.bool ((Int.tmod (b + 8) 3) == 0))),(81,.v (.pointer (some ⟨b26,o27 + i * 13,none⟩)))],[],[],[ownF B (.slice A l.length cap) 13 (((marks mkH 13 k i ++ l.drop i).map hlfCells).set i [.int .i64 b,.int .i64 (b + 1),.int .i64 (b + 2),.int .i64 (b + 3),.int .i64 (b + 4),.int .i64 (b + 5),.int .i64 (b + 6),.bool ((Int.tmod (b + 7) 3) == 0),.bool x.o.stamp,.int .i64 x.o.val,.int .i64 x.o.echo,.int .i64 x.age,.int .i64 x.window]),frF w (ownF B (.slice A l.length cap) 13 (l.map hlfCells)).blk]⟩ (.pointer (some ⟨b26,o27 + i * 13 + 5,none⟩)) (by kernel_rfl) rfl (by kernel_rfl) rfl (fun _ _ _ ww hr => fld_run (sz := 6) hr rfl Try.underlying42 rfl (by kernel_rfl) rfl rfl (by first | rfl | omega)) ?_
  refine xl_op 0 [0,1,5,80,82] ⟨[(0,.v (.slice A l.length cap)),(1,.v (.int .i64 (b + 8))),(5,.v (.int .i64 (i : Int))),(80,.v (.bool ((Int.tmod (b + 8) 3) == 0))),(82,.v (.pointer (some ⟨b26,o27 + i * 13 + 5,none⟩)))],[],[],[ownF B (.slice A l.length cap) 13 (((marks mkH 13 k i ++ l.drop i).map hlfCells).set i [.int .i64 b,.int .i64 (b + 1),.int .i64 (b + 2),.int .i64 (b + 3),.int .i64 (b + 4),.int .i64 (b + 5),.int .i64 (b + 6),.bool ((Int.tmod (b + 7) 3) == 0),.bool x.o.stamp,.int .i64 x.o.val,.int .i64 x.o.echo,.int .i64 x.age,.int .i64 x.window]),frF w (ownF B (.slice A l.length cap) 13 (l.map hlfCells)).blk]⟩ (.pointer (some ⟨b26,o27 + i * 13 + 8,none⟩)) (by kernel_rfl) rfl (by kernel_rfl) rfl (fun _ _ _ ww hr => fld_run (sz := 1) hr rfl Try.underlying40 rfl (by kernel_rfl) rfl rfl (by first | rfl | omega)) ?_
  refine xl_stE (K := 13) (po := 8) (B := B) (rs := ((marks mkH 13 k i ++ l.drop i).map hlfCells)) (row' := [.int .i64 b,.int .i64 (b + 1),.int .i64 (b + 2),.int .i64 (b + 3),.int .i64 (b + 4),.int .i64 (b + 5),.int .i64 (b + 6),.bool ((Int.tmod (b + 7) 3) == 0),.bool ((Int.tmod (b + 8) 3) == 0),.int .i64 x.o.val,.int .i64 x.o.echo,.int .i64 x.age,.int .i64 x.window]) 0 [0,1,5,80,83] ⟨[(0,.v (.slice A l.length cap)),(1,.v (.int .i64 (b + 8))),(5,.v (.int .i64 (i : Int))),(80,.v (.bool ((Int.tmod (b + 8) 3) == 0))),(83,.v (.pointer (some ⟨b26,o27 + i * 13 + 8,none⟩)))],[],[],[ownF B (.slice A l.length cap) 13 (((marks mkH 13 k i ++ l.drop i).map hlfCells).set i [.int .i64 b,.int .i64 (b + 1),.int .i64 (b + 2),.int .i64 (b + 3),.int .i64 (b + 4),.int .i64 (b + 5),.int .i64 (b + 6),.bool ((Int.tmod (b + 7) 3) == 0),.bool x.o.stamp,.int .i64 x.o.val,.int .i64 x.o.echo,.int .i64 x.age,.int .i64 x.window]),frF w (ownF B (.slice A l.length cap) 13 (l.map hlfCells)).blk]⟩ i [.int .i64 b,.int .i64 (b + 1),.int .i64 (b + 2),.int .i64 (b + 3),.int .i64 (b + 4),.int .i64 (b + 5),.int .i64 (b + 6),.bool ((Int.tmod (b + 7) 3) == 0),.bool x.o.stamp,.int .i64 x.o.val,.int .i64 x.o.echo,.int .i64 x.age,.int .i64 x.window] 0 (by kernel_rfl) rfl (by kernel_rfl) rfl rfl rfl rfl (by kernel_rfl) (by kernel_rfl) rfl (cutW_le w B) hA28 (by rw [mark_ln hi]; exact hlt) (fun r hr => by obtain ⟨y,_,rfl⟩ := List.mem_map.1 hr; rfl) (by kernel_rfl) (by kernel_rfl) rfl rfl ?_
  refine xl_end [0,1,5] ⟨[(0,.v (.slice A l.length cap)),(1,.v (.int .i64 (b + 8))),(5,.v (.int .i64 (i : Int)))],[],[],[ownF B (.slice A l.length cap) 13 (((marks mkH 13 k i ++ l.drop i).map hlfCells).set i [.int .i64 b,.int .i64 (b + 1),.int .i64 (b + 2),.int .i64 (b + 3),.int .i64 (b + 4),.int .i64 (b + 5),.int .i64 (b + 6),.bool ((Int.tmod (b + 7) 3) == 0),.bool ((Int.tmod (b + 8) 3) == 0),.int .i64 x.o.val,.int .i64 x.o.echo,.int .i64 x.age,.int .i64 x.window]),frF w (ownF B (.slice A l.length cap) 13 (l.map hlfCells)).blk]⟩ (by kernel_rfl) ?_
  refine xw_seq ?_
  refine xw_region ?_
  refine xl_runS 3 [0,1,5] [(0,.v (.slice A l.length cap)),(1,.v (.int .i64 (IntKind.i64.wrap (b + 8 + 1)))),(5,.v (.int .i64 (i : Int)))] (by kernel_rfl) ?_
  refine xl_eqS (t' := [(0,.v (.slice A l.length cap)),(1,.v (.int .i64 (b + 9))),(5,.v (.int .i64 (i : Int)))]) (by rw [show (IntKind.i64.wrap (b + 8 + 1)) = (b + 9) from wrap_to (by omega) (by omega) (by omega)]) ?_
  refine xl_endS [0,1,5] [(0,.v (.slice A l.length cap)),(1,.v (.int .i64 (b + 9))),(5,.v (.int .i64 (i : Int)))] (by kernel_rfl) ?_
  refine xw_seq ?_
  refine xw_region ?_
  refine xl_elem (kd := .i64) (T := 26) (e := 42) (K := 13) (A := A) (len := l.length) (cap := cap) (rs := (((marks mkH 13 k i ++ l.drop i).map hlfCells).set i [.int .i64 b,.int .i64 (b + 1),.int .i64 (b + 2),.int .i64 (b + 3),.int .i64 (b + 4),.int .i64 (b + 5),.int .i64 (b + 6),.bool ((Int.tmod (b + 7) 3) == 0),.bool ((Int.tmod (b + 8) 3) == 0),.int .i64 x.o.val,.int .i64 x.o.echo,.int .i64 x.age,.int .i64 x.window])) 3 [0,1,5,86,87,88] ⟨[(0,.v (.slice A l.length cap)),(1,.v (.int .i64 (b + 9))),(5,.v (.int .i64 (i : Int))),(86,.v (.slice A l.length cap)),(87,.v (.int .i64 (i : Int))),(88,.v (.int .i64 (b + 9)))],[],[],[ownF B (.slice A l.length cap) 13 (((marks mkH 13 k i ++ l.drop i).map hlfCells).set i [.int .i64 b,.int .i64 (b + 1),.int .i64 (b + 2),.int .i64 (b + 3),.int .i64 (b + 4),.int .i64 (b + 5),.int .i64 (b + 6),.bool ((Int.tmod (b + 7) 3) == 0),.bool ((Int.tmod (b + 8) 3) == 0),.int .i64 x.o.val,.int .i64 x.o.echo,.int .i64 x.age,.int .i64 x.window]),frF w (ownF B (.slice A l.length cap) 13 (l.map hlfCells)).blk]⟩ i (ownF B (.slice A l.length cap) 13 (((marks mkH 13 k i ++ l.drop i).map hlfCells).set i [.int .i64 b,.int .i64 (b + 1),.int .i64 (b + 2),.int .i64 (b + 3),.int .i64 (b + 4),.int .i64 (b + 5),.int .i64 (b + 6),.bool ((Int.tmod (b + 7) 3) == 0),.bool ((Int.tmod (b + 8) 3) == 0),.int .i64 x.o.val,.int .i64 x.o.echo,.int .i64 x.age,.int .i64 x.window])) (by kernel_rfl) rfl (by kernel_rfl) (by kernel_rfl) rfl (by kernel_rfl) (by kernel_rfl) (by kernel_rfl) (by kernel_rfl) hlt (by simp) (fun ww h => Own.sl h) (by rw [List.length_set,mark_ln hi]; exact hlt) ?_
  intro b29 o30 hA31
  refine xl_op 0 [0,1,5,88,89] ⟨[(0,.v (.slice A l.length cap)),(1,.v (.int .i64 (b + 9))),(5,.v (.int .i64 (i : Int))),(88,.v (.int .i64 (b + 9))),(89,.v (.pointer (some ⟨b29,o30 + i * 13,none⟩)))],[],[],[ownF B (.slice A l.length cap) 13 (((marks mkH 13 k i ++ l.drop i).map hlfCells).set i [.int .i64 b,.int .i64 (b + 1),.int .i64 (b + 2),.int .i64 (b + 3),.int .i64 (b + 4),.int .i64 (b + 5),.int .i64 (b + 6),.bool ((Int.tmod (b + 7) 3) == 0),.bool ((Int.tmod (b + 8) 3) == 0),.int .i64 x.o.val,.int .i64 x.o.echo,.int .i64 x.age,.int .i64 x.window]),frF w (ownF B (.slice A l.length cap) 13 (l.map hlfCells)).blk]⟩ (.pointer (some ⟨b29,o30 + i * 13 + 5,none⟩)) (by kernel_rfl) rfl (by kernel_rfl) rfl (fun _ _ _ ww hr => fld_run (sz := 6) hr rfl Try.underlying42 rfl (by kernel_rfl) rfl rfl (by first | rfl | omega)) ?_
  refine xl_op 0 [0,1,5,88,90] ⟨[(0,.v (.slice A l.length cap)),(1,.v (.int .i64 (b + 9))),(5,.v (.int .i64 (i : Int))),(88,.v (.int .i64 (b + 9))),(90,.v (.pointer (some ⟨b29,o30 + i * 13 + 5,none⟩)))],[],[],[ownF B (.slice A l.length cap) 13 (((marks mkH 13 k i ++ l.drop i).map hlfCells).set i [.int .i64 b,.int .i64 (b + 1),.int .i64 (b + 2),.int .i64 (b + 3),.int .i64 (b + 4),.int .i64 (b + 5),.int .i64 (b + 6),.bool ((Int.tmod (b + 7) 3) == 0),.bool ((Int.tmod (b + 8) 3) == 0),.int .i64 x.o.val,.int .i64 x.o.echo,.int .i64 x.age,.int .i64 x.window]),frF w (ownF B (.slice A l.length cap) 13 (l.map hlfCells)).blk]⟩ (.pointer (some ⟨b29,o30 + i * 13 + 9,none⟩)) (by kernel_rfl) rfl (by kernel_rfl) rfl (fun _ _ _ ww hr => fld_run (sz := 1) hr rfl Try.underlying40 rfl (by kernel_rfl) rfl rfl (by first | rfl | omega)) ?_
  refine xl_stE (K := 13) (po := 9) (B := B) (rs := ((marks mkH 13 k i ++ l.drop i).map hlfCells)) (row' := [.int .i64 b,.int .i64 (b + 1),.int .i64 (b + 2),.int .i64 (b + 3),.int .i64 (b + 4),.int .i64 (b + 5),.int .i64 (b + 6),.bool ((Int.tmod (b + 7) 3) == 0),.bool ((Int.tmod (b + 8) 3) == 0),.int .i64 (b + 9),.int .i64 x.o.echo,.int .i64 x.age,.int .i64 x.window]) 0 [0,1,5,88,91] ⟨[(0,.v (.slice A l.length cap)),(1,.v (.int .i64 (b + 9))),(5,.v (.int .i64 (i : Int))),(88,.v (.int .i64 (b + 9))),(91,.v (.pointer (some ⟨b29,o30 + i * 13 + 9,none⟩)))],[],[],[ownF B (.slice A l.length cap) 13 (((marks mkH 13 k i ++ l.drop i).map hlfCells).set i [.int .i64 b,.int .i64 (b + 1),.int .i64 (b + 2),.int .i64 (b + 3),.int .i64 (b + 4),.int .i64 (b + 5),.int .i64 (b + 6),.bool ((Int.tmod (b + 7) 3) == 0),.bool ((Int.tmod (b + 8) 3) == 0),.int .i64 x.o.val,.int .i64 x.o.echo,.int .i64 x.age,.int .i64 x.window]),frF w (ownF B (.slice A l.length cap) 13 (l.map hlfCells)).blk]⟩ i [.int .i64 b,.int .i64 (b + 1),.int .i64 (b + 2),.int .i64 (b + 3),.int .i64 (b + 4),.int .i64 (b + 5),.int .i64 (b + 6),.bool ((Int.tmod (b + 7) 3) == 0),.bool ((Int.tmod (b + 8) 3) == 0),.int .i64 x.o.val,.int .i64 x.o.echo,.int .i64 x.age,.int .i64 x.window] 0 (by kernel_rfl) rfl (by kernel_rfl) rfl rfl rfl rfl (by kernel_rfl) (by kernel_rfl) rfl (cutW_le w B) hA31 (by rw [mark_ln hi]; exact hlt) (fun r hr => by obtain ⟨y,_,rfl⟩ := List.mem_map.1 hr; rfl) (by kernel_rfl) (by kernel_rfl) rfl rfl ?_
  refine xl_end [0,1,5] ⟨[(0,.v (.slice A l.length cap)),(1,.v (.int .i64 (b + 9))),(5,.v (.int .i64 (i : Int)))],[],[],[ownF B (.slice A l.length cap) 13 (((marks mkH 13 k i ++ l.drop i).map hlfCells).set i [.int .i64 b,.int .i64 (b + 1),.int .i64 (b + 2),.int .i64 (b + 3),.int .i64 (b + 4),.int .i64 (b + 5),.int .i64 (b + 6),.bool ((Int.tmod (b + 7) 3) == 0),.bool ((Int.tmod (b + 8) 3) == 0),.int .i64 (b + 9),.int .i64 x.o.echo,.int .i64 x.age,.int .i64 x.window]),frF w (ownF B (.slice A l.length cap) 13 (l.map hlfCells)).blk]⟩ (by kernel_rfl) ?_
  refine xw_seq ?_
  refine xw_region ?_
  refine xl_runS 3 [0,1,5] [(0,.v (.slice A l.length cap)),(1,.v (.int .i64 (IntKind.i64.wrap (b + 9 + 1)))),(5,.v (.int .i64 (i : Int)))] (by kernel_rfl) ?_
  refine xl_eqS (t' := [(0,.v (.slice A l.length cap)),(1,.v (.int .i64 (b + 10))),(5,.v (.int .i64 (i : Int)))]) (by rw [show (IntKind.i64.wrap (b + 9 + 1)) = (b + 10) from wrap_to (by omega) (by omega) (by omega)]) ?_
  refine xl_endS [0,1,5] [(0,.v (.slice A l.length cap)),(1,.v (.int .i64 (b + 10))),(5,.v (.int .i64 (i : Int)))] (by kernel_rfl) ?_
  refine xw_seq ?_
  refine xw_region ?_
  refine xl_elem (kd := .i64) (T := 26) (e := 42) (K := 13) (A := A) (len := l.length) (cap := cap) (rs := (((marks mkH 13 k i ++ l.drop i).map hlfCells).set i [.int .i64 b,.int .i64 (b + 1),.int .i64 (b + 2),.int .i64 (b + 3),.int .i64 (b + 4),.int .i64 (b + 5),.int .i64 (b + 6),.bool ((Int.tmod (b + 7) 3) == 0),.bool ((Int.tmod (b + 8) 3) == 0),.int .i64 (b + 9),.int .i64 x.o.echo,.int .i64 x.age,.int .i64 x.window])) 3 [0,1,5,94,95,96] ⟨[(0,.v (.slice A l.length cap)),(1,.v (.int .i64 (b + 10))),(5,.v (.int .i64 (i : Int))),(94,.v (.slice A l.length cap)),(95,.v (.int .i64 (i : Int))),(96,.v (.int .i64 (b + 10)))],[],[],[ownF B (.slice A l.length cap) 13 (((marks mkH 13 k i ++ l.drop i).map hlfCells).set i [.int .i64 b,.int .i64 (b + 1),.int .i64 (b + 2),.int .i64 (b + 3),.int .i64 (b + 4),.int .i64 (b + 5),.int .i64 (b + 6),.bool ((Int.tmod (b + 7) 3) == 0),.bool ((Int.tmod (b + 8) 3) == 0),.int .i64 (b + 9),.int .i64 x.o.echo,.int .i64 x.age,.int .i64 x.window]),frF w (ownF B (.slice A l.length cap) 13 (l.map hlfCells)).blk]⟩ i (ownF B (.slice A l.length cap) 13 (((marks mkH 13 k i ++ l.drop i).map hlfCells).set i [.int .i64 b,.int .i64 (b + 1),.int .i64 (b + 2),.int .i64 (b + 3),.int .i64 (b + 4),.int .i64 (b + 5),.int .i64 (b + 6),.bool ((Int.tmod (b + 7) 3) == 0),.bool ((Int.tmod (b + 8) 3) == 0),.int .i64 (b + 9),.int .i64 x.o.echo,.int .i64 x.age,.int .i64 x.window])) (by kernel_rfl) rfl (by kernel_rfl) (by kernel_rfl) rfl (by kernel_rfl) (by kernel_rfl) (by kernel_rfl) (by kernel_rfl) hlt (by simp) (fun ww h => Own.sl h) (by rw [List.length_set,mark_ln hi]; exact hlt) ?_
  intro b32 o33 hA34
  refine xl_op 0 [0,1,5,96,97] ⟨[(0,.v (.slice A l.length cap)),(1,.v (.int .i64 (b + 10))),(5,.v (.int .i64 (i : Int))),(96,.v (.int .i64 (b + 10))),(97,.v (.pointer (some ⟨b32,o33 + i * 13,none⟩)))],[],[],[ownF B (.slice A l.length cap) 13 (((marks mkH 13 k i ++ l.drop i).map hlfCells).set i [.int .i64 b,.int .i64 (b + 1),.int .i64 (b + 2),.int .i64 (b + 3),.int .i64 (b + 4),.int .i64 (b + 5),.int .i64 (b + 6),.bool ((Int.tmod (b + 7) 3) == 0),.bool ((Int.tmod (b + 8) 3) == 0),.int .i64 (b + 9),.int .i64 x.o.echo,.int .i64 x.age,.int .i64 x.window]),frF w (ownF B (.slice A l.length cap) 13 (l.map hlfCells)).blk]⟩ (.pointer (some ⟨b32,o33 + i * 13 + 5,none⟩)) (by kernel_rfl) rfl (by kernel_rfl) rfl (fun _ _ _ ww hr => fld_run (sz := 6) hr rfl Try.underlying42 rfl (by kernel_rfl) rfl rfl (by first | rfl | omega)) ?_
  refine xl_op 0 [0,1,5,96,98] ⟨[(0,.v (.slice A l.length cap)),(1,.v (.int .i64 (b + 10))),(5,.v (.int .i64 (i : Int))),(96,.v (.int .i64 (b + 10))),(98,.v (.pointer (some ⟨b32,o33 + i * 13 + 5,none⟩)))],[],[],[ownF B (.slice A l.length cap) 13 (((marks mkH 13 k i ++ l.drop i).map hlfCells).set i [.int .i64 b,.int .i64 (b + 1),.int .i64 (b + 2),.int .i64 (b + 3),.int .i64 (b + 4),.int .i64 (b + 5),.int .i64 (b + 6),.bool ((Int.tmod (b + 7) 3) == 0),.bool ((Int.tmod (b + 8) 3) == 0),.int .i64 (b + 9),.int .i64 x.o.echo,.int .i64 x.age,.int .i64 x.window]),frF w (ownF B (.slice A l.length cap) 13 (l.map hlfCells)).blk]⟩ (.pointer (some ⟨b32,o33 + i * 13 + 10,none⟩)) (by kernel_rfl) rfl (by kernel_rfl) rfl (fun _ _ _ ww hr => fld_run (sz := 1) hr rfl Try.underlying40 rfl (by kernel_rfl) rfl rfl (by first | rfl | omega)) ?_
  refine xl_stE (K := 13) (po := 10) (B := B) (rs := ((marks mkH 13 k i ++ l.drop i).map hlfCells)) (row' := [.int .i64 b,.int .i64 (b + 1),.int .i64 (b + 2),.int .i64 (b + 3),.int .i64 (b + 4),.int .i64 (b + 5),.int .i64 (b + 6),.bool ((Int.tmod (b + 7) 3) == 0),.bool ((Int.tmod (b + 8) 3) == 0),.int .i64 (b + 9),.int .i64 (b + 10),.int .i64 x.age,.int .i64 x.window]) 0 [0,1,5,96,99] ⟨[(0,.v (.slice A l.length cap)),(1,.v (.int .i64 (b + 10))),(5,.v (.int .i64 (i : Int))),(96,.v (.int .i64 (b + 10))),(99,.v (.pointer (some ⟨b32,o33 + i * 13 + 10,none⟩)))],[],[],[ownF B (.slice A l.length cap) 13 (((marks mkH 13 k i ++ l.drop i).map hlfCells).set i [.int .i64 b,.int .i64 (b + 1),.int .i64 (b + 2),.int .i64 (b + 3),.int .i64 (b + 4),.int .i64 (b + 5),.int .i64 (b + 6),.bool ((Int.tmod (b + 7) 3) == 0),.bool ((Int.tmod (b + 8) 3) == 0),.int .i64 (b + 9),.int .i64 x.o.echo,.int .i64 x.age,.int .i64 x.window]),frF w (ownF B (.slice A l.length cap) 13 (l.map hlfCells)).blk]⟩ i [.int .i64 b,.int .i64 (b + 1),.int .i64 (b + 2),.int .i64 (b + 3),.int .i64 (b + 4),.int .i64 (b + 5),.int .i64 (b + 6),.bool ((Int.tmod (b + 7) 3) == 0),.bool ((Int.tmod (b + 8) 3) == 0),.int .i64 (b + 9),.int .i64 x.o.echo,.int .i64 x.age,.int .i64 x.window] 0 (by kernel_rfl) rfl (by kernel_rfl) rfl rfl rfl rfl (by kernel_rfl) (by kernel_rfl) rfl (cutW_le w B) hA34 (by rw [mark_ln hi]; exact hlt) (fun r hr => by obtain ⟨y,_,rfl⟩ := List.mem_map.1 hr; rfl) (by kernel_rfl) (by kernel_rfl) rfl rfl ?_
  refine xl_end [0,1,5] ⟨[(0,.v (.slice A l.length cap)),(1,.v (.int .i64 (b + 10))),(5,.v (.int .i64 (i : Int)))],[],[],[ownF B (.slice A l.length cap) 13 (((marks mkH 13 k i ++ l.drop i).map hlfCells).set i [.int .i64 b,.int .i64 (b + 1),.int .i64 (b + 2),.int .i64 (b + 3),.int .i64 (b + 4),.int .i64 (b + 5),.int .i64 (b + 6),.bool ((Int.tmod (b + 7) 3) == 0),.bool ((Int.tmod (b + 8) 3) == 0),.int .i64 (b + 9),.int .i64 (b + 10),.int .i64 x.age,.int .i64 x.window]),frF w (ownF B (.slice A l.length cap) 13 (l.map hlfCells)).blk]⟩ (by kernel_rfl) ?_
  refine xw_seq ?_
  refine xw_region ?_
  refine xl_runS 3 [0,1,5] [(0,.v (.slice A l.length cap)),(1,.v (.int .i64 (IntKind.i64.wrap (b + 10 + 1)))),(5,.v (.int .i64 (i : Int)))] (by kernel_rfl) ?_
  refine xl_eqS (t' := [(0,.v (.slice A l.length cap)),(1,.v (.int .i64 (b + 11))),(5,.v (.int .i64 (i : Int)))]) (by rw [show (IntKind.i64.wrap (b + 10 + 1)) = (b + 11) from wrap_to (by omega) (by omega) (by omega)]) ?_
  refine xl_endS [0,1,5] [(0,.v (.slice A l.length cap)),(1,.v (.int .i64 (b + 11))),(5,.v (.int .i64 (i : Int)))] (by kernel_rfl) ?_
  refine xw_seq ?_
  refine xw_region ?_
  refine xl_elem (kd := .i64) (T := 26) (e := 42) (K := 13) (A := A) (len := l.length) (cap := cap) (rs := (((marks mkH 13 k i ++ l.drop i).map hlfCells).set i [.int .i64 b,.int .i64 (b + 1),.int .i64 (b + 2),.int .i64 (b + 3),.int .i64 (b + 4),.int .i64 (b + 5),.int .i64 (b + 6),.bool ((Int.tmod (b + 7) 3) == 0),.bool ((Int.tmod (b + 8) 3) == 0),.int .i64 (b + 9),.int .i64 (b + 10),.int .i64 x.age,.int .i64 x.window])) 3 [0,1,5,102,103,104] ⟨[(0,.v (.slice A l.length cap)),(1,.v (.int .i64 (b + 11))),(5,.v (.int .i64 (i : Int))),(102,.v (.slice A l.length cap)),(103,.v (.int .i64 (i : Int))),(104,.v (.int .i64 (b + 11)))],[],[],[ownF B (.slice A l.length cap) 13 (((marks mkH 13 k i ++ l.drop i).map hlfCells).set i [.int .i64 b,.int .i64 (b + 1),.int .i64 (b + 2),.int .i64 (b + 3),.int .i64 (b + 4),.int .i64 (b + 5),.int .i64 (b + 6),.bool ((Int.tmod (b + 7) 3) == 0),.bool ((Int.tmod (b + 8) 3) == 0),.int .i64 (b + 9),.int .i64 (b + 10),.int .i64 x.age,.int .i64 x.window]),frF w (ownF B (.slice A l.length cap) 13 (l.map hlfCells)).blk]⟩ i (ownF B (.slice A l.length cap) 13 (((marks mkH 13 k i ++ l.drop i).map hlfCells).set i [.int .i64 b,.int .i64 (b + 1),.int .i64 (b + 2),.int .i64 (b + 3),.int .i64 (b + 4),.int .i64 (b + 5),.int .i64 (b + 6),.bool ((Int.tmod (b + 7) 3) == 0),.bool ((Int.tmod (b + 8) 3) == 0),.int .i64 (b + 9),.int .i64 (b + 10),.int .i64 x.age,.int .i64 x.window])) (by kernel_rfl) rfl (by kernel_rfl) (by kernel_rfl) rfl (by kernel_rfl) (by kernel_rfl) (by kernel_rfl) (by kernel_rfl) hlt (by simp) (fun ww h => Own.sl h) (by rw [List.length_set,mark_ln hi]; exact hlt) ?_
  intro b35 o36 hA37
  refine xl_op 0 [0,1,5,104,105] ⟨[(0,.v (.slice A l.length cap)),(1,.v (.int .i64 (b + 11))),(5,.v (.int .i64 (i : Int))),(104,.v (.int .i64 (b + 11))),(105,.v (.pointer (some ⟨b35,o36 + i * 13,none⟩)))],[],[],[ownF B (.slice A l.length cap) 13 (((marks mkH 13 k i ++ l.drop i).map hlfCells).set i [.int .i64 b,.int .i64 (b + 1),.int .i64 (b + 2),.int .i64 (b + 3),.int .i64 (b + 4),.int .i64 (b + 5),.int .i64 (b + 6),.bool ((Int.tmod (b + 7) 3) == 0),.bool ((Int.tmod (b + 8) 3) == 0),.int .i64 (b + 9),.int .i64 (b + 10),.int .i64 x.age,.int .i64 x.window]),frF w (ownF B (.slice A l.length cap) 13 (l.map hlfCells)).blk]⟩ (.pointer (some ⟨b35,o36 + i * 13 + 11,none⟩)) (by kernel_rfl) rfl (by kernel_rfl) rfl (fun _ _ _ ww hr => fld_run (sz := 1) hr rfl Try.underlying42 rfl (by kernel_rfl) rfl rfl (by first | rfl | omega)) ?_
  refine xl_stE (K := 13) (po := 11) (B := B) (rs := ((marks mkH 13 k i ++ l.drop i).map hlfCells)) (row' := [.int .i64 b,.int .i64 (b + 1),.int .i64 (b + 2),.int .i64 (b + 3),.int .i64 (b + 4),.int .i64 (b + 5),.int .i64 (b + 6),.bool ((Int.tmod (b + 7) 3) == 0),.bool ((Int.tmod (b + 8) 3) == 0),.int .i64 (b + 9),.int .i64 (b + 10),.int .i64 (b + 11),.int .i64 x.window]) 0 [0,1,5,104,106] ⟨[(0,.v (.slice A l.length cap)),(1,.v (.int .i64 (b + 11))),(5,.v (.int .i64 (i : Int))),(104,.v (.int .i64 (b + 11))),(106,.v (.pointer (some ⟨b35,o36 + i * 13 + 11,none⟩)))],[],[],[ownF B (.slice A l.length cap) 13 (((marks mkH 13 k i ++ l.drop i).map hlfCells).set i [.int .i64 b,.int .i64 (b + 1),.int .i64 (b + 2),.int .i64 (b + 3),.int .i64 (b + 4),.int .i64 (b + 5),.int .i64 (b + 6),.bool ((Int.tmod (b + 7) 3) == 0),.bool ((Int.tmod (b + 8) 3) == 0),.int .i64 (b + 9),.int .i64 (b + 10),.int .i64 x.age,.int .i64 x.window]),frF w (ownF B (.slice A l.length cap) 13 (l.map hlfCells)).blk]⟩ i [.int .i64 b,.int .i64 (b + 1),.int .i64 (b + 2),.int .i64 (b + 3),.int .i64 (b + 4),.int .i64 (b + 5),.int .i64 (b + 6),.bool ((Int.tmod (b + 7) 3) == 0),.bool ((Int.tmod (b + 8) 3) == 0),.int .i64 (b + 9),.int .i64 (b + 10),.int .i64 x.age,.int .i64 x.window] 0 (by kernel_rfl) rfl (by kernel_rfl) rfl rfl rfl rfl (by kernel_rfl) (by kernel_rfl) rfl (cutW_le w B) hA37 (by rw [mark_ln hi]; exact hlt) (fun r hr => by obtain ⟨y,_,rfl⟩ := List.mem_map.1 hr; rfl) (by kernel_rfl) (by kernel_rfl) rfl rfl ?_
  refine xl_end [0,1,5] ⟨[(0,.v (.slice A l.length cap)),(1,.v (.int .i64 (b + 11))),(5,.v (.int .i64 (i : Int)))],[],[],[ownF B (.slice A l.length cap) 13 (((marks mkH 13 k i ++ l.drop i).map hlfCells).set i [.int .i64 b,.int .i64 (b + 1),.int .i64 (b + 2),.int .i64 (b + 3),.int .i64 (b + 4),.int .i64 (b + 5),.int .i64 (b + 6),.bool ((Int.tmod (b + 7) 3) == 0),.bool ((Int.tmod (b + 8) 3) == 0),.int .i64 (b + 9),.int .i64 (b + 10),.int .i64 (b + 11),.int .i64 x.window]),frF w (ownF B (.slice A l.length cap) 13 (l.map hlfCells)).blk]⟩ (by kernel_rfl) ?_
  refine xw_seq ?_
  refine xw_region ?_
  refine xl_runS 3 [0,1,5] [(0,.v (.slice A l.length cap)),(1,.v (.int .i64 (IntKind.i64.wrap (b + 11 + 1)))),(5,.v (.int .i64 (i : Int)))] (by kernel_rfl) ?_
  refine xl_eqS (t' := [(0,.v (.slice A l.length cap)),(1,.v (.int .i64 (b + 12))),(5,.v (.int .i64 (i : Int)))]) (by rw [show (IntKind.i64.wrap (b + 11 + 1)) = (b + 12) from wrap_to (by omega) (by omega) (by omega)]) ?_
  refine xl_endS [0,1,5] [(0,.v (.slice A l.length cap)),(1,.v (.int .i64 (b + 12))),(5,.v (.int .i64 (i : Int)))] (by kernel_rfl) ?_
  refine xw_seq ?_
  refine xw_region ?_
  refine xl_elem (kd := .i64) (T := 26) (e := 42) (K := 13) (A := A) (len := l.length) (cap := cap) (rs := (((marks mkH 13 k i ++ l.drop i).map hlfCells).set i [.int .i64 b,.int .i64 (b + 1),.int .i64 (b + 2),.int .i64 (b + 3),.int .i64 (b + 4),.int .i64 (b + 5),.int .i64 (b + 6),.bool ((Int.tmod (b + 7) 3) == 0),.bool ((Int.tmod (b + 8) 3) == 0),.int .i64 (b + 9),.int .i64 (b + 10),.int .i64 (b + 11),.int .i64 x.window])) 3 [0,1,5,109,110,111] ⟨[(0,.v (.slice A l.length cap)),(1,.v (.int .i64 (b + 12))),(5,.v (.int .i64 (i : Int))),(109,.v (.slice A l.length cap)),(110,.v (.int .i64 (i : Int))),(111,.v (.int .i64 (b + 12)))],[],[],[ownF B (.slice A l.length cap) 13 (((marks mkH 13 k i ++ l.drop i).map hlfCells).set i [.int .i64 b,.int .i64 (b + 1),.int .i64 (b + 2),.int .i64 (b + 3),.int .i64 (b + 4),.int .i64 (b + 5),.int .i64 (b + 6),.bool ((Int.tmod (b + 7) 3) == 0),.bool ((Int.tmod (b + 8) 3) == 0),.int .i64 (b + 9),.int .i64 (b + 10),.int .i64 (b + 11),.int .i64 x.window]),frF w (ownF B (.slice A l.length cap) 13 (l.map hlfCells)).blk]⟩ i (ownF B (.slice A l.length cap) 13 (((marks mkH 13 k i ++ l.drop i).map hlfCells).set i [.int .i64 b,.int .i64 (b + 1),.int .i64 (b + 2),.int .i64 (b + 3),.int .i64 (b + 4),.int .i64 (b + 5),.int .i64 (b + 6),.bool ((Int.tmod (b + 7) 3) == 0),.bool ((Int.tmod (b + 8) 3) == 0),.int .i64 (b + 9),.int .i64 (b + 10),.int .i64 (b + 11),.int .i64 x.window])) (by kernel_rfl) rfl (by kernel_rfl) (by kernel_rfl) rfl (by kernel_rfl) (by kernel_rfl) (by kernel_rfl) (by kernel_rfl) hlt (by simp) (fun ww h => Own.sl h) (by rw [List.length_set,mark_ln hi]; exact hlt) ?_
  intro b38 o39 hA40
  refine xl_op 0 [0,1,5,111,112] ⟨[(0,.v (.slice A l.length cap)),(1,.v (.int .i64 (b + 12))),(5,.v (.int .i64 (i : Int))),(111,.v (.int .i64 (b + 12))),(112,.v (.pointer (some ⟨b38,o39 + i * 13,none⟩)))],[],[],[ownF B (.slice A l.length cap) 13 (((marks mkH 13 k i ++ l.drop i).map hlfCells).set i [.int .i64 b,.int .i64 (b + 1),.int .i64 (b + 2),.int .i64 (b + 3),.int .i64 (b + 4),.int .i64 (b + 5),.int .i64 (b + 6),.bool ((Int.tmod (b + 7) 3) == 0),.bool ((Int.tmod (b + 8) 3) == 0),.int .i64 (b + 9),.int .i64 (b + 10),.int .i64 (b + 11),.int .i64 x.window]),frF w (ownF B (.slice A l.length cap) 13 (l.map hlfCells)).blk]⟩ (.pointer (some ⟨b38,o39 + i * 13 + 12,none⟩)) (by kernel_rfl) rfl (by kernel_rfl) rfl (fun _ _ _ ww hr => fld_run (sz := 1) hr rfl Try.underlying42 rfl (by kernel_rfl) rfl rfl (by first | rfl | omega)) ?_
  refine xl_stE (K := 13) (po := 12) (B := B) (rs := ((marks mkH 13 k i ++ l.drop i).map hlfCells)) (row' := [.int .i64 b,.int .i64 (b + 1),.int .i64 (b + 2),.int .i64 (b + 3),.int .i64 (b + 4),.int .i64 (b + 5),.int .i64 (b + 6),.bool ((Int.tmod (b + 7) 3) == 0),.bool ((Int.tmod (b + 8) 3) == 0),.int .i64 (b + 9),.int .i64 (b + 10),.int .i64 (b + 11),.int .i64 (b + 12)]) 0 [0,1,5,111,113] ⟨[(0,.v (.slice A l.length cap)),(1,.v (.int .i64 (b + 12))),(5,.v (.int .i64 (i : Int))),(111,.v (.int .i64 (b + 12))),(113,.v (.pointer (some ⟨b38,o39 + i * 13 + 12,none⟩)))],[],[],[ownF B (.slice A l.length cap) 13 (((marks mkH 13 k i ++ l.drop i).map hlfCells).set i [.int .i64 b,.int .i64 (b + 1),.int .i64 (b + 2),.int .i64 (b + 3),.int .i64 (b + 4),.int .i64 (b + 5),.int .i64 (b + 6),.bool ((Int.tmod (b + 7) 3) == 0),.bool ((Int.tmod (b + 8) 3) == 0),.int .i64 (b + 9),.int .i64 (b + 10),.int .i64 (b + 11),.int .i64 x.window]),frF w (ownF B (.slice A l.length cap) 13 (l.map hlfCells)).blk]⟩ i [.int .i64 b,.int .i64 (b + 1),.int .i64 (b + 2),.int .i64 (b + 3),.int .i64 (b + 4),.int .i64 (b + 5),.int .i64 (b + 6),.bool ((Int.tmod (b + 7) 3) == 0),.bool ((Int.tmod (b + 8) 3) == 0),.int .i64 (b + 9),.int .i64 (b + 10),.int .i64 (b + 11),.int .i64 x.window] 0 (by kernel_rfl) rfl (by kernel_rfl) rfl rfl rfl rfl (by kernel_rfl) (by kernel_rfl) rfl (cutW_le w B) hA40 (by rw [mark_ln hi]; exact hlt) (fun r hr => by obtain ⟨y,_,rfl⟩ := List.mem_map.1 hr; rfl) (by kernel_rfl) (by kernel_rfl) rfl rfl ?_
  refine xl_end [0,1,5] ⟨[(0,.v (.slice A l.length cap)),(1,.v (.int .i64 (b + 12))),(5,.v (.int .i64 (i : Int)))],[],[],[ownF B (.slice A l.length cap) 13 (((marks mkH 13 k i ++ l.drop i).map hlfCells).set i [.int .i64 b,.int .i64 (b + 1),.int .i64 (b + 2),.int .i64 (b + 3),.int .i64 (b + 4),.int .i64 (b + 5),.int .i64 (b + 6),.bool ((Int.tmod (b + 7) 3) == 0),.bool ((Int.tmod (b + 8) 3) == 0),.int .i64 (b + 9),.int .i64 (b + 10),.int .i64 (b + 11),.int .i64 (b + 12)]),frF w (ownF B (.slice A l.length cap) 13 (l.map hlfCells)).blk]⟩ (by kernel_rfl) ?_
  refine xw_region ?_
  refine xl_runS 3 [0,1,5] [(0,.v (.slice A l.length cap)),(1,.v (.int .i64 (IntKind.i64.wrap (b + 12 + 1)))),(5,.v (.int .i64 (i : Int)))] (by kernel_rfl) ?_
  refine xl_eqS (t' := [(0,.v (.slice A l.length cap)),(1,.v (.int .i64 (b + 13))),(5,.v (.int .i64 (i : Int)))]) (by rw [show (IntKind.i64.wrap (b + 12 + 1)) = (b + 13) from wrap_to (by omega) (by omega) (by omega)]) ?_
  refine xl_endS [0,1,5] [(0,.v (.slice A l.length cap)),(1,.v (.int .i64 (b + 13))),(5,.v (.int .i64 (i : Int)))] (by kernel_rfl) ?_
  refine xw_region ?_
  refine xl_runS 3 [0,1,5] [(0,.v (.slice A l.length cap)),(1,.v (.int .i64 (b + 13))),(5,.v (.int .i64 (IntKind.i64.wrap ((i : Int) + 1))))] (by kernel_rfl) ?_
  refine xl_eqS (t' := [(0,.v (.slice A l.length cap)),(1,.v (.int .i64 (b + 13))),(5,.v (.int .i64 ((i : Int) + 1)))]) (by rw [show (IntKind.i64.wrap ((i : Int) + 1)) = ((i : Int) + 1) from wrap_id (by omega) (by omega)]) ?_
  refine xl_endS [0,1,5] [(0,.v (.slice A l.length cap)),(1,.v (.int .i64 (b + 13))),(5,.v (.int .i64 ((i : Int) + 1)))] (by kernel_rfl) ?_
  have e : b + 13 = k + 13 * ((i + 1 : Nat) : Int) := by omega
  rw [e]
  subst hb
  exact ⟨⟨(i + 1),hlt⟩,(wk_fact0 (congrArg (fun z => ownF B (.slice A l.length cap) 13 z) (mark_next (f := hlfCells) (mk := mkH) (c := 13) (k := k) hlt))).trans <| wk_forget 0 0 [0,1,5] (by kernel_rfl) (by kernel_rfl) (by kernel_rfl),by show (fun (i : Nat) => l.length - i) (i + 1) < l.length - i; (dsimp only; omega)⟩
  have h1p : ¬ ((i : Int) < ((l.length : Nat) : Int)) := of_decide_eq_false h1
  have hge : i = l.length := by simp at h1; omega
  refine xw_exit ?_
  refine xw_seq ?_
  refine xw_region ?_
  refine xl_endS [4] [(4,.v (.int .i64 (k + 13 * (i : Int))))] (by kernel_rfl) ?_
  refine xw_ret ?_
  subst hge
  exact ⟨[.int .i64 (k + 13 * (l.length : Int))],by kernel_rfl,fun w' hb hf => ⟨ret_int (by simp),by have := hf (ownF B (.slice A l.length cap) 13 ((marks mkH 13 k l.length ++ l.drop l.length).map hlfCells)) (by simp); rw [List.drop_length,List.append_nil] at this; exact this,frF_chgd (hf (frF w (ownF B (.slice A l.length cap) 13 (l.map hlfCells)).blk) (by simp)) hb rfl rfl rfl⟩⟩
set_option maxHeartbeats 1000000 in
theorem yheldHalfS_c (a : List Hlf) (aV : Value) (k : Int) (w : World) (hl_aV : Sl w aV 13 (a.map hlfCells)) (ha : a = marks mkH 13 k a.length) (hk0 : 0 ≤ k) (hk : k ≤ 4503599627370496) (hl : a.length ≤ 1048576) : Calls Try.prog 21 #[aV, .int .i64 k] w fun e w' => e = .returned (.int .i64 (k + 13 * (a.length : Int))) ∧ Below w.heap.size w w' := by
  obtain ⟨Aa,Ca,hva⟩ := hl_aV.form
  rw [List.length_map] at hva; subst hva
  have hna := hl_aV.len; rw [List.length_map] at hna
  have hqa := Sl.capLe hl_aV
  refine x_calls (args := [.slice Aa a.length Ca,.int .i64 k]) (fn := Try.f21) [slF (.slice Aa a.length Ca) 13 (a.map hlfCells)] Try.func21 rfl Try.ntmps21 rfl (by simp only [List.mem_cons,List.not_mem_nil,or_false,forall_eq_or_imp,forall_eq]; exact ⟨rfl,hl_aV⟩) ?_
  refine xw_seq ?_
  refine xw_region ?_
  refine xl_end [0,1] ⟨[(0,.v (.slice Aa a.length Ca)),(1,.v (.int .i64 k))],[],[],[slF (.slice Aa a.length Ca) 13 (a.map hlfCells)]⟩ (by kernel_rfl) ?_
  refine xw_seq ?_
  refine xw_seq ?_
  refine xw_region ?_
  refine xl_endS [0,1,5] [(0,.v (.slice Aa a.length Ca)),(1,.v (.int .i64 k)),(5,.v (.int .i64 0))] (by kernel_rfl) ?_
  refine xw_block ?_
  have e0 : k + 13 * ((0 : Nat) : Int) = k := by omega
  refine xw_eq (st' := ⟨[(0,.v (.slice Aa a.length Ca)),(1,.v (.int .i64 (k + 13 * ((0 : Nat) : Int)))),(5,.v (.int .i64 0))],[],[],[slF (.slice Aa a.length Ca) 13 (a.map hlfCells)]⟩) (by rw [e0]) ?_
  refine xw_loopW (α := {x : Nat // (fun (i : Nat) => i ≤ a.length) x}) (fun x => (fun (i : Nat) => (⟨[(0,.v (.slice Aa a.length Ca)),(1,.v (.int .i64 (k + 13 * (i : Int)))),(5,.v (.int .i64 (i : Int)))],[],[],[slF (.slice Aa a.length Ca) 13 (a.map hlfCells)]⟩ : St)) x.1) (fun x => (fun (i : Nat) => a.length - i) x.1) ⟨(0),Nat.zero_le _⟩ (wk_forget 0 0 [0,1,5] (by kernel_rfl) (by kernel_rfl) (by kernel_rfl)) ?_
  rintro ⟨i,hi⟩
  refine xw_wk (Wk.of_eq (s' := ⟨[(0,.v (.slice Aa a.length Ca)),(1,.v (.int .i64 (k + 13 * (i : Int)))),(5,.v (.int .i64 (i : Int)))],[],[],[slF (.slice Aa a.length Ca) 13 (a.map hlfCells)]⟩) rfl) ?_
  try dsimp only at hi
  refine xw_seq ?_
  refine xw_seq ?_
  refine xw_region ?_
  refine xl_endS [0,1,5,9] [(0,.v (.slice Aa a.length Ca)),(1,.v (.int .i64 (k + 13 * (i : Int)))),(5,.v (.int .i64 (i : Int))),(9,.v (.bool (decide ((i : Int) < ((a.length : Nat) : Int)))))] (by kernel_rfl) ?_
  refine xw_cond (b := decide ((i : Int) < ((a.length : Nat) : Int))) (by kernel_rfl) (fun h1 => ?_) (fun h1 => ?_)
  have h1p : ((i : Int) < ((a.length : Nat) : Int)) := of_decide_eq_true h1
  have hlt : i < a.length := by simpa using h1
  obtain ⟨x,hx⟩ : ∃ x,a[i]? = some x := ⟨_,List.getElem?_eq_getElem hlt⟩
  have hxe := marks_get (mk := mkH) (c := 13) (k := k) (n := a.length) (show _ = some x by rw [← ha]; exact hx)
  obtain ⟨b,hb⟩ : ∃ b,b = k + 13 * (i : Int) := ⟨_,rfl⟩
  rw [← hb] at hxe ⊢
  refine xw_skip ?_
  refine xw_seq ?_
  refine xw_block ?_
  refine xw_seq ?_
  refine xw_seq ?_
  refine xw_region ?_
  refine xl_index (kd := .i64) (T := 26) (e := 42) (K := 13) 2 [0,1,5,12,13] ⟨[(0,.v (.slice Aa a.length Ca)),(1,.v (.int .i64 b)),(5,.v (.int .i64 (i : Int))),(12,.v (.slice Aa a.length Ca)),(13,.v (.int .i64 (i : Int)))],[],[],[slF (.slice Aa a.length Ca) 13 (a.map hlfCells)]⟩ i [.int .i64 b,.int .i64 (b + 1),.int .i64 (b + 2),.int .i64 (b + 3),.int .i64 (b + 4),.int .i64 (b + 5),.int .i64 (b + 6),.bool ((Int.tmod (b + 7) 3) == 0),.bool ((Int.tmod (b + 8) 3) == 0),.int .i64 (b + 9),.int .i64 (b + 10),.int .i64 (b + 11),.int .i64 (b + 12)] (slF (.slice Aa a.length Ca) 13 (a.map hlfCells)) (by kernel_rfl) rfl (by kernel_rfl) rfl rfl (by kernel_rfl) (by kernel_rfl) (by kernel_rfl) (by kernel_rfl) hlt (by simp) (fun w h => h) (fun b h => h) (by simp only [List.getElem?_map,hx,hxe]; rfl) ?_
  refine xl_endS [0,1,5,19] [(0,.v (.slice Aa a.length Ca)),(1,.v (.int .i64 b)),(5,.v (.int .i64 (i : Int))),(19,.v (.bool (b != b)))] (by kernel_rfl) ?_
  refine xw_cond (b := b != b) (by kernel_rfl) (fun h2 => ?_) (fun h2 => ?_)
  simp at h2
  have h2p := neF h2
  refine xw_skip ?_
  refine xw_seq ?_
  refine xw_region ?_
  refine xl_runS 3 [0,1,5] [(0,.v (.slice Aa a.length Ca)),(1,.v (.int .i64 (IntKind.i64.wrap (b + 1)))),(5,.v (.int .i64 (i : Int)))] (by kernel_rfl) ?_
  refine xl_eqS (t' := [(0,.v (.slice Aa a.length Ca)),(1,.v (.int .i64 (b + 1))),(5,.v (.int .i64 (i : Int)))]) (by rw [show (IntKind.i64.wrap (b + 1)) = (b + 1) from wrap_id (by omega) (by omega)]) ?_
  refine xl_endS [0,1,5] [(0,.v (.slice Aa a.length Ca)),(1,.v (.int .i64 (b + 1))),(5,.v (.int .i64 (i : Int)))] (by kernel_rfl) ?_
  refine xw_seq ?_
  refine xw_seq ?_
  refine xw_region ?_
  refine xl_indexS (kd := .i64) (T := 26) (e := 42) (K := 13) 2 [0,1,5,22,23] [(0,.v (.slice Aa a.length Ca)),(1,.v (.int .i64 (b + 1))),(5,.v (.int .i64 (i : Int))),(22,.v (.slice Aa a.length Ca)),(23,.v (.int .i64 (i : Int)))] i [.int .i64 b,.int .i64 (b + 1),.int .i64 (b + 2),.int .i64 (b + 3),.int .i64 (b + 4),.int .i64 (b + 5),.int .i64 (b + 6),.bool ((Int.tmod (b + 7) 3) == 0),.bool ((Int.tmod (b + 8) 3) == 0),.int .i64 (b + 9),.int .i64 (b + 10),.int .i64 (b + 11),.int .i64 (b + 12)] (slF (.slice Aa a.length Ca) 13 (a.map hlfCells)) (by kernel_rfl) rfl (by kernel_rfl) rfl rfl (by kernel_rfl) (by kernel_rfl) (by kernel_rfl) (by kernel_rfl) hlt (by simp) (fun w h => h) (fun b h => h) (by simp only [List.getElem?_map,hx,hxe]; rfl) ?_
  refine xl_endS [0,1,5,29] [(0,.v (.slice Aa a.length Ca)),(1,.v (.int .i64 (b + 1))),(5,.v (.int .i64 (i : Int))),(29,.v (.bool ((b + 1) != (b + 1))))] (by kernel_rfl) ?_
  refine xw_cond (b := (b + 1) != (b + 1)) (by kernel_rfl) (fun h3 => ?_) (fun h3 => ?_)
  simp at h3
  have h3p := neF h3
  refine xw_skip ?_
  refine xw_seq ?_
  refine xw_region ?_
  refine xl_runS 3 [0,1,5] [(0,.v (.slice Aa a.length Ca)),(1,.v (.int .i64 (IntKind.i64.wrap (b + 1 + 1)))),(5,.v (.int .i64 (i : Int)))] (by kernel_rfl) ?_
  refine xl_eqS (t' := [(0,.v (.slice Aa a.length Ca)),(1,.v (.int .i64 (b + 2))),(5,.v (.int .i64 (i : Int)))]) (by rw [show (IntKind.i64.wrap (b + 1 + 1)) = (b + 2) from wrap_to (by omega) (by omega) (by omega)]) ?_
  refine xl_endS [0,1,5] [(0,.v (.slice Aa a.length Ca)),(1,.v (.int .i64 (b + 2))),(5,.v (.int .i64 (i : Int)))] (by kernel_rfl) ?_
  refine xw_seq ?_
  refine xw_seq ?_
  refine xw_region ?_
  refine xl_indexS (kd := .i64) (T := 26) (e := 42) (K := 13) 2 [0,1,5,32,33] [(0,.v (.slice Aa a.length Ca)),(1,.v (.int .i64 (b + 2))),(5,.v (.int .i64 (i : Int))),(32,.v (.slice Aa a.length Ca)),(33,.v (.int .i64 (i : Int)))] i [.int .i64 b,.int .i64 (b + 1),.int .i64 (b + 2),.int .i64 (b + 3),.int .i64 (b + 4),.int .i64 (b + 5),.int .i64 (b + 6),.bool ((Int.tmod (b + 7) 3) == 0),.bool ((Int.tmod (b + 8) 3) == 0),.int .i64 (b + 9),.int .i64 (b + 10),.int .i64 (b + 11),.int .i64 (b + 12)] (slF (.slice Aa a.length Ca) 13 (a.map hlfCells)) (by kernel_rfl) rfl (by kernel_rfl) rfl rfl (by kernel_rfl) (by kernel_rfl) (by kernel_rfl) (by kernel_rfl) hlt (by simp) (fun w h => h) (fun b h => h) (by simp only [List.getElem?_map,hx,hxe]; rfl) ?_
  refine xl_endS [0,1,5,39] [(0,.v (.slice Aa a.length Ca)),(1,.v (.int .i64 (b + 2))),(5,.v (.int .i64 (i : Int))),(39,.v (.bool ((b + 2) != (b + 2))))] (by kernel_rfl) ?_
  refine xw_cond (b := (b + 2) != (b + 2)) (by kernel_rfl) (fun h4 => ?_) (fun h4 => ?_)
  simp at h4
  have h4p := neF h4
  refine xw_skip ?_
  refine xw_seq ?_
  refine xw_region ?_
  refine xl_runS 3 [0,1,5] [(0,.v (.slice Aa a.length Ca)),(1,.v (.int .i64 (IntKind.i64.wrap (b + 2 + 1)))),(5,.v (.int .i64 (i : Int)))] (by kernel_rfl) ?_
  refine xl_eqS (t' := [(0,.v (.slice Aa a.length Ca)),(1,.v (.int .i64 (b + 3))),(5,.v (.int .i64 (i : Int)))]) (by rw [show (IntKind.i64.wrap (b + 2 + 1)) = (b + 3) from wrap_to (by omega) (by omega) (by omega)]) ?_
  refine xl_endS [0,1,5] [(0,.v (.slice Aa a.length Ca)),(1,.v (.int .i64 (b + 3))),(5,.v (.int .i64 (i : Int)))] (by kernel_rfl) ?_
  refine xw_seq ?_
  refine xw_seq ?_
  refine xw_region ?_
  refine xl_indexS (kd := .i64) (T := 26) (e := 42) (K := 13) 2 [0,1,5,42,43] [(0,.v (.slice Aa a.length Ca)),(1,.v (.int .i64 (b + 3))),(5,.v (.int .i64 (i : Int))),(42,.v (.slice Aa a.length Ca)),(43,.v (.int .i64 (i : Int)))] i [.int .i64 b,.int .i64 (b + 1),.int .i64 (b + 2),.int .i64 (b + 3),.int .i64 (b + 4),.int .i64 (b + 5),.int .i64 (b + 6),.bool ((Int.tmod (b + 7) 3) == 0),.bool ((Int.tmod (b + 8) 3) == 0),.int .i64 (b + 9),.int .i64 (b + 10),.int .i64 (b + 11),.int .i64 (b + 12)] (slF (.slice Aa a.length Ca) 13 (a.map hlfCells)) (by kernel_rfl) rfl (by kernel_rfl) rfl rfl (by kernel_rfl) (by kernel_rfl) (by kernel_rfl) (by kernel_rfl) hlt (by simp) (fun w h => h) (fun b h => h) (by simp only [List.getElem?_map,hx,hxe]; rfl) ?_
  refine xl_endS [0,1,5,48] [(0,.v (.slice Aa a.length Ca)),(1,.v (.int .i64 (b + 3))),(5,.v (.int .i64 (i : Int))),(48,.v (.bool ((b + 3) != (b + 3))))] (by kernel_rfl) ?_
  refine xw_cond (b := (b + 3) != (b + 3)) (by kernel_rfl) (fun h5 => ?_) (fun h5 => ?_)
  simp at h5
  have h5p := neF h5
  refine xw_skip ?_
  refine xw_seq ?_
  refine xw_region ?_
  refine xl_runS 3 [0,1,5] [(0,.v (.slice Aa a.length Ca)),(1,.v (.int .i64 (IntKind.i64.wrap (b + 3 + 1)))),(5,.v (.int .i64 (i : Int)))] (by kernel_rfl) ?_
  refine xl_eqS (t' := [(0,.v (.slice Aa a.length Ca)),(1,.v (.int .i64 (b + 4))),(5,.v (.int .i64 (i : Int)))]) (by rw [show (IntKind.i64.wrap (b + 3 + 1)) = (b + 4) from wrap_to (by omega) (by omega) (by omega)]) ?_
  refine xl_endS [0,1,5] [(0,.v (.slice Aa a.length Ca)),(1,.v (.int .i64 (b + 4))),(5,.v (.int .i64 (i : Int)))] (by kernel_rfl) ?_
  refine xw_seq ?_
  refine xw_seq ?_
  refine xw_region ?_
  refine xl_indexS (kd := .i64) (T := 26) (e := 42) (K := 13) 2 [0,1,5,51,52] [(0,.v (.slice Aa a.length Ca)),(1,.v (.int .i64 (b + 4))),(5,.v (.int .i64 (i : Int))),(51,.v (.slice Aa a.length Ca)),(52,.v (.int .i64 (i : Int)))] i [.int .i64 b,.int .i64 (b + 1),.int .i64 (b + 2),.int .i64 (b + 3),.int .i64 (b + 4),.int .i64 (b + 5),.int .i64 (b + 6),.bool ((Int.tmod (b + 7) 3) == 0),.bool ((Int.tmod (b + 8) 3) == 0),.int .i64 (b + 9),.int .i64 (b + 10),.int .i64 (b + 11),.int .i64 (b + 12)] (slF (.slice Aa a.length Ca) 13 (a.map hlfCells)) (by kernel_rfl) rfl (by kernel_rfl) rfl rfl (by kernel_rfl) (by kernel_rfl) (by kernel_rfl) (by kernel_rfl) hlt (by simp) (fun w h => h) (fun b h => h) (by simp only [List.getElem?_map,hx,hxe]; rfl) ?_
  refine xl_endS [0,1,5,57] [(0,.v (.slice Aa a.length Ca)),(1,.v (.int .i64 (b + 4))),(5,.v (.int .i64 (i : Int))),(57,.v (.bool ((b + 4) != (b + 4))))] (by kernel_rfl) ?_
  refine xw_cond (b := (b + 4) != (b + 4)) (by kernel_rfl) (fun h6 => ?_) (fun h6 => ?_)
  simp at h6
  have h6p := neF h6
  refine xw_skip ?_
  refine xw_seq ?_
  refine xw_region ?_
  refine xl_runS 3 [0,1,5] [(0,.v (.slice Aa a.length Ca)),(1,.v (.int .i64 (IntKind.i64.wrap (b + 4 + 1)))),(5,.v (.int .i64 (i : Int)))] (by kernel_rfl) ?_
  refine xl_eqS (t' := [(0,.v (.slice Aa a.length Ca)),(1,.v (.int .i64 (b + 5))),(5,.v (.int .i64 (i : Int)))]) (by rw [show (IntKind.i64.wrap (b + 4 + 1)) = (b + 5) from wrap_to (by omega) (by omega) (by omega)]) ?_
  refine xl_endS [0,1,5] [(0,.v (.slice Aa a.length Ca)),(1,.v (.int .i64 (b + 5))),(5,.v (.int .i64 (i : Int)))] (by kernel_rfl) ?_
  refine xw_seq ?_
  refine xw_seq ?_
  refine xw_region ?_
  refine xl_indexS (kd := .i64) (T := 26) (e := 42) (K := 13) 2 [0,1,5,60,61] [(0,.v (.slice Aa a.length Ca)),(1,.v (.int .i64 (b + 5))),(5,.v (.int .i64 (i : Int))),(60,.v (.slice Aa a.length Ca)),(61,.v (.int .i64 (i : Int)))] i [.int .i64 b,.int .i64 (b + 1),.int .i64 (b + 2),.int .i64 (b + 3),.int .i64 (b + 4),.int .i64 (b + 5),.int .i64 (b + 6),.bool ((Int.tmod (b + 7) 3) == 0),.bool ((Int.tmod (b + 8) 3) == 0),.int .i64 (b + 9),.int .i64 (b + 10),.int .i64 (b + 11),.int .i64 (b + 12)] (slF (.slice Aa a.length Ca) 13 (a.map hlfCells)) (by kernel_rfl) rfl (by kernel_rfl) rfl rfl (by kernel_rfl) (by kernel_rfl) (by kernel_rfl) (by kernel_rfl) hlt (by simp) (fun w h => h) (fun b h => h) (by simp only [List.getElem?_map,hx,hxe]; rfl) ?_
  refine xl_endS [0,1,5,67] [(0,.v (.slice Aa a.length Ca)),(1,.v (.int .i64 (b + 5))),(5,.v (.int .i64 (i : Int))),(67,.v (.bool ((b + 5) != (b + 5))))] (by kernel_rfl) ?_
  refine xw_cond (b := (b + 5) != (b + 5)) (by kernel_rfl) (fun h7 => ?_) (fun h7 => ?_)
  simp at h7
  have h7p := neF h7
  refine xw_skip ?_
  refine xw_seq ?_
  refine xw_region ?_
  refine xl_runS 3 [0,1,5] [(0,.v (.slice Aa a.length Ca)),(1,.v (.int .i64 (IntKind.i64.wrap (b + 5 + 1)))),(5,.v (.int .i64 (i : Int)))] (by kernel_rfl) ?_
  refine xl_eqS (t' := [(0,.v (.slice Aa a.length Ca)),(1,.v (.int .i64 (b + 6))),(5,.v (.int .i64 (i : Int)))]) (by rw [show (IntKind.i64.wrap (b + 5 + 1)) = (b + 6) from wrap_to (by omega) (by omega) (by omega)]) ?_
  refine xl_endS [0,1,5] [(0,.v (.slice Aa a.length Ca)),(1,.v (.int .i64 (b + 6))),(5,.v (.int .i64 (i : Int)))] (by kernel_rfl) ?_
  refine xw_seq ?_
  refine xw_seq ?_
  refine xw_region ?_
  refine xl_indexS (kd := .i64) (T := 26) (e := 42) (K := 13) 2 [0,1,5,70,71] [(0,.v (.slice Aa a.length Ca)),(1,.v (.int .i64 (b + 6))),(5,.v (.int .i64 (i : Int))),(70,.v (.slice Aa a.length Ca)),(71,.v (.int .i64 (i : Int)))] i [.int .i64 b,.int .i64 (b + 1),.int .i64 (b + 2),.int .i64 (b + 3),.int .i64 (b + 4),.int .i64 (b + 5),.int .i64 (b + 6),.bool ((Int.tmod (b + 7) 3) == 0),.bool ((Int.tmod (b + 8) 3) == 0),.int .i64 (b + 9),.int .i64 (b + 10),.int .i64 (b + 11),.int .i64 (b + 12)] (slF (.slice Aa a.length Ca) 13 (a.map hlfCells)) (by kernel_rfl) rfl (by kernel_rfl) rfl rfl (by kernel_rfl) (by kernel_rfl) (by kernel_rfl) (by kernel_rfl) hlt (by simp) (fun w h => h) (fun b h => h) (by simp only [List.getElem?_map,hx,hxe]; rfl) ?_
  refine xl_endS [0,1,5,77] [(0,.v (.slice Aa a.length Ca)),(1,.v (.int .i64 (b + 6))),(5,.v (.int .i64 (i : Int))),(77,.v (.bool ((b + 6) != (b + 6))))] (by kernel_rfl) ?_
  refine xw_cond (b := (b + 6) != (b + 6)) (by kernel_rfl) (fun h8 => ?_) (fun h8 => ?_)
  simp at h8
  have h8p := neF h8
  refine xw_skip ?_
  refine xw_seq ?_
  refine xw_region ?_
  refine xl_runS 3 [0,1,5] [(0,.v (.slice Aa a.length Ca)),(1,.v (.int .i64 (IntKind.i64.wrap (b + 6 + 1)))),(5,.v (.int .i64 (i : Int)))] (by kernel_rfl) ?_
  refine xl_eqS (t' := [(0,.v (.slice Aa a.length Ca)),(1,.v (.int .i64 (b + 7))),(5,.v (.int .i64 (i : Int)))]) (by rw [show (IntKind.i64.wrap (b + 6 + 1)) = (b + 7) from wrap_to (by omega) (by omega) (by omega)]) ?_
  refine xl_endS [0,1,5] [(0,.v (.slice Aa a.length Ca)),(1,.v (.int .i64 (b + 7))),(5,.v (.int .i64 (i : Int)))] (by kernel_rfl) ?_
  refine xw_seq ?_
  refine xw_seq ?_
  refine xw_region ?_
  refine xl_indexS (kd := .i64) (T := 26) (e := 42) (K := 13) 2 [0,1,5,80,81] [(0,.v (.slice Aa a.length Ca)),(1,.v (.int .i64 (b + 7))),(5,.v (.int .i64 (i : Int))),(80,.v (.slice Aa a.length Ca)),(81,.v (.int .i64 (i : Int)))] i [.int .i64 b,.int .i64 (b + 1),.int .i64 (b + 2),.int .i64 (b + 3),.int .i64 (b + 4),.int .i64 (b + 5),.int .i64 (b + 6),.bool ((Int.tmod (b + 7) 3) == 0),.bool ((Int.tmod (b + 8) 3) == 0),.int .i64 (b + 9),.int .i64 (b + 10),.int .i64 (b + 11),.int .i64 (b + 12)] (slF (.slice Aa a.length Ca) 13 (a.map hlfCells)) (by kernel_rfl) rfl (by kernel_rfl) rfl rfl (by kernel_rfl) (by kernel_rfl) (by kernel_rfl) (by kernel_rfl) hlt (by simp) (fun w h => h) (fun b h => h) (by simp only [List.getElem?_map,hx,hxe]; rfl) ?_
  refine xl_opS 4 [0,1,5,85,86] [(0,.v (.slice Aa a.length Ca)),(1,.v (.int .i64 (b + 7))),(5,.v (.int .i64 (i : Int))),(85,.v (.bool ((Int.tmod (b + 7) 3) == 0))),(86,.v (.int .i64 (b + 7)))] (.int .i64 (Int.tmod (b + 7) 3)) (by kernel_rfl) rfl (by kernel_rfl) rfl (fun _ _ _ ww hr => act_bin hr.1 rfl (by kernel_rfl) (by kernel_rfl) (rem_run (by decide) ww)) ?_
  refine xl_endS [0,1,5,89] [(0,.v (.slice Aa a.length Ca)),(1,.v (.int .i64 (b + 7))),(5,.v (.int .i64 (i : Int))),(89,.v (.bool (!(((Int.tmod (b + 7) 3) == 0) == ((Int.tmod (b + 7) 3) == 0)))))] (by kernel_rfl) ?_
  refine xw_cond (b := !(((Int.tmod (b + 7) 3) == 0) == ((Int.tmod (b + 7) 3) == 0))) (by kernel_rfl) (fun h9 => ?_) (fun h9 => ?_)
  have h9n := not_t h9
  simp at h9n
  have h9n := not_f h9
  have h9np := eqT h9n
  refine xw_skip ?_
  refine xw_seq ?_
  refine xw_region ?_
  refine xl_runS 3 [0,1,5] [(0,.v (.slice Aa a.length Ca)),(1,.v (.int .i64 (IntKind.i64.wrap (b + 7 + 1)))),(5,.v (.int .i64 (i : Int)))] (by kernel_rfl) ?_
  refine xl_eqS (t' := [(0,.v (.slice Aa a.length Ca)),(1,.v (.int .i64 (b + 8))),(5,.v (.int .i64 (i : Int)))]) (by rw [show (IntKind.i64.wrap (b + 7 + 1)) = (b + 8) from wrap_to (by omega) (by omega) (by omega)]) ?_
  refine xl_endS [0,1,5] [(0,.v (.slice Aa a.length Ca)),(1,.v (.int .i64 (b + 8))),(5,.v (.int .i64 (i : Int)))] (by kernel_rfl) ?_
  refine xw_seq ?_
  refine xw_seq ?_
  refine xw_region ?_
  refine xl_indexS (kd := .i64) (T := 26) (e := 42) (K := 13) 2 [0,1,5,92,93] [(0,.v (.slice Aa a.length Ca)),(1,.v (.int .i64 (b + 8))),(5,.v (.int .i64 (i : Int))),(92,.v (.slice Aa a.length Ca)),(93,.v (.int .i64 (i : Int)))] i [.int .i64 b,.int .i64 (b + 1),.int .i64 (b + 2),.int .i64 (b + 3),.int .i64 (b + 4),.int .i64 (b + 5),.int .i64 (b + 6),.bool ((Int.tmod (b + 7) 3) == 0),.bool ((Int.tmod (b + 8) 3) == 0),.int .i64 (b + 9),.int .i64 (b + 10),.int .i64 (b + 11),.int .i64 (b + 12)] (slF (.slice Aa a.length Ca) 13 (a.map hlfCells)) (by kernel_rfl) rfl (by kernel_rfl) rfl rfl (by kernel_rfl) (by kernel_rfl) (by kernel_rfl) (by kernel_rfl) hlt (by simp) (fun w h => h) (fun b h => h) (by simp only [List.getElem?_map,hx,hxe]; rfl) ?_
  refine xl_opS 4 [0,1,5,97,98] [(0,.v (.slice Aa a.length Ca)),(1,.v (.int .i64 (b + 8))),(5,.v (.int .i64 (i : Int))),(97,.v (.bool ((Int.tmod (b + 8) 3) == 0))),(98,.v (.int .i64 (b + 8)))] (.int .i64 (Int.tmod (b + 8) 3)) (by kernel_rfl) rfl (by kernel_rfl) rfl (fun _ _ _ ww hr => act_bin hr.1 rfl (by kernel_rfl) (by kernel_rfl) (rem_run (by decide) ww)) ?_
  refine xl_endS [0,1,5,101] [(0,.v (.slice Aa a.length Ca)),(1,.v (.int .i64 (b + 8))),(5,.v (.int .i64 (i : Int))),(101,.v (.bool (!(((Int.tmod (b + 8) 3) == 0) == ((Int.tmod (b + 8) 3) == 0)))))] (by kernel_rfl) ?_
  refine xw_cond (b := !(((Int.tmod (b + 8) 3) == 0) == ((Int.tmod (b + 8) 3) == 0))) (by kernel_rfl) (fun h10 => ?_) (fun h10 => ?_)
  have h10n := not_t h10
  simp at h10n
  have h10n := not_f h10
  have h10np := eqT h10n
  refine xw_skip ?_
  refine xw_seq ?_
  refine xw_region ?_
  refine xl_runS 3 [0,1,5] [(0,.v (.slice Aa a.length Ca)),(1,.v (.int .i64 (IntKind.i64.wrap (b + 8 + 1)))),(5,.v (.int .i64 (i : Int)))] (by kernel_rfl) ?_
  refine xl_eqS (t' := [(0,.v (.slice Aa a.length Ca)),(1,.v (.int .i64 (b + 9))),(5,.v (.int .i64 (i : Int)))]) (by rw [show (IntKind.i64.wrap (b + 8 + 1)) = (b + 9) from wrap_to (by omega) (by omega) (by omega)]) ?_
  refine xl_endS [0,1,5] [(0,.v (.slice Aa a.length Ca)),(1,.v (.int .i64 (b + 9))),(5,.v (.int .i64 (i : Int)))] (by kernel_rfl) ?_
  refine xw_seq ?_
  refine xw_seq ?_
  refine xw_region ?_
  refine xl_indexS (kd := .i64) (T := 26) (e := 42) (K := 13) 2 [0,1,5,104,105] [(0,.v (.slice Aa a.length Ca)),(1,.v (.int .i64 (b + 9))),(5,.v (.int .i64 (i : Int))),(104,.v (.slice Aa a.length Ca)),(105,.v (.int .i64 (i : Int)))] i [.int .i64 b,.int .i64 (b + 1),.int .i64 (b + 2),.int .i64 (b + 3),.int .i64 (b + 4),.int .i64 (b + 5),.int .i64 (b + 6),.bool ((Int.tmod (b + 7) 3) == 0),.bool ((Int.tmod (b + 8) 3) == 0),.int .i64 (b + 9),.int .i64 (b + 10),.int .i64 (b + 11),.int .i64 (b + 12)] (slF (.slice Aa a.length Ca) 13 (a.map hlfCells)) (by kernel_rfl) rfl (by kernel_rfl) rfl rfl (by kernel_rfl) (by kernel_rfl) (by kernel_rfl) (by kernel_rfl) hlt (by simp) (fun w h => h) (fun b h => h) (by simp only [List.getElem?_map,hx,hxe]; rfl) ?_
  refine xl_endS [0,1,5,111] [(0,.v (.slice Aa a.length Ca)),(1,.v (.int .i64 (b + 9))),(5,.v (.int .i64 (i : Int))),(111,.v (.bool ((b + 9) != (b + 9))))] (by kernel_rfl) ?_
  refine xw_cond (b := (b + 9) != (b + 9)) (by kernel_rfl) (fun h11 => ?_) (fun h11 => ?_)
  simp at h11
  have h11p := neF h11
  refine xw_skip ?_
  refine xw_seq ?_
  refine xw_region ?_
  refine xl_runS 3 [0,1,5] [(0,.v (.slice Aa a.length Ca)),(1,.v (.int .i64 (IntKind.i64.wrap (b + 9 + 1)))),(5,.v (.int .i64 (i : Int)))] (by kernel_rfl) ?_
  refine xl_eqS (t' := [(0,.v (.slice Aa a.length Ca)),(1,.v (.int .i64 (b + 10))),(5,.v (.int .i64 (i : Int)))]) (by rw [show (IntKind.i64.wrap (b + 9 + 1)) = (b + 10) from wrap_to (by omega) (by omega) (by omega)]) ?_
  refine xl_endS [0,1,5] [(0,.v (.slice Aa a.length Ca)),(1,.v (.int .i64 (b + 10))),(5,.v (.int .i64 (i : Int)))] (by kernel_rfl) ?_
  refine xw_seq ?_
  refine xw_seq ?_
  refine xw_region ?_
  refine xl_indexS (kd := .i64) (T := 26) (e := 42) (K := 13) 2 [0,1,5,114,115] [(0,.v (.slice Aa a.length Ca)),(1,.v (.int .i64 (b + 10))),(5,.v (.int .i64 (i : Int))),(114,.v (.slice Aa a.length Ca)),(115,.v (.int .i64 (i : Int)))] i [.int .i64 b,.int .i64 (b + 1),.int .i64 (b + 2),.int .i64 (b + 3),.int .i64 (b + 4),.int .i64 (b + 5),.int .i64 (b + 6),.bool ((Int.tmod (b + 7) 3) == 0),.bool ((Int.tmod (b + 8) 3) == 0),.int .i64 (b + 9),.int .i64 (b + 10),.int .i64 (b + 11),.int .i64 (b + 12)] (slF (.slice Aa a.length Ca) 13 (a.map hlfCells)) (by kernel_rfl) rfl (by kernel_rfl) rfl rfl (by kernel_rfl) (by kernel_rfl) (by kernel_rfl) (by kernel_rfl) hlt (by simp) (fun w h => h) (fun b h => h) (by simp only [List.getElem?_map,hx,hxe]; rfl) ?_
  refine xl_endS [0,1,5,121] [(0,.v (.slice Aa a.length Ca)),(1,.v (.int .i64 (b + 10))),(5,.v (.int .i64 (i : Int))),(121,.v (.bool ((b + 10) != (b + 10))))] (by kernel_rfl) ?_
  refine xw_cond (b := (b + 10) != (b + 10)) (by kernel_rfl) (fun h12 => ?_) (fun h12 => ?_)
  simp at h12
  have h12p := neF h12
  refine xw_skip ?_
  refine xw_seq ?_
  refine xw_region ?_
  refine xl_runS 3 [0,1,5] [(0,.v (.slice Aa a.length Ca)),(1,.v (.int .i64 (IntKind.i64.wrap (b + 10 + 1)))),(5,.v (.int .i64 (i : Int)))] (by kernel_rfl) ?_
  refine xl_eqS (t' := [(0,.v (.slice Aa a.length Ca)),(1,.v (.int .i64 (b + 11))),(5,.v (.int .i64 (i : Int)))]) (by rw [show (IntKind.i64.wrap (b + 10 + 1)) = (b + 11) from wrap_to (by omega) (by omega) (by omega)]) ?_
  refine xl_endS [0,1,5] [(0,.v (.slice Aa a.length Ca)),(1,.v (.int .i64 (b + 11))),(5,.v (.int .i64 (i : Int)))] (by kernel_rfl) ?_
  refine xw_seq ?_
  refine xw_seq ?_
  refine xw_region ?_
  refine xl_indexS (kd := .i64) (T := 26) (e := 42) (K := 13) 2 [0,1,5,124,125] [(0,.v (.slice Aa a.length Ca)),(1,.v (.int .i64 (b + 11))),(5,.v (.int .i64 (i : Int))),(124,.v (.slice Aa a.length Ca)),(125,.v (.int .i64 (i : Int)))] i [.int .i64 b,.int .i64 (b + 1),.int .i64 (b + 2),.int .i64 (b + 3),.int .i64 (b + 4),.int .i64 (b + 5),.int .i64 (b + 6),.bool ((Int.tmod (b + 7) 3) == 0),.bool ((Int.tmod (b + 8) 3) == 0),.int .i64 (b + 9),.int .i64 (b + 10),.int .i64 (b + 11),.int .i64 (b + 12)] (slF (.slice Aa a.length Ca) 13 (a.map hlfCells)) (by kernel_rfl) rfl (by kernel_rfl) rfl rfl (by kernel_rfl) (by kernel_rfl) (by kernel_rfl) (by kernel_rfl) hlt (by simp) (fun w h => h) (fun b h => h) (by simp only [List.getElem?_map,hx,hxe]; rfl) ?_
  refine xl_endS [0,1,5,130] [(0,.v (.slice Aa a.length Ca)),(1,.v (.int .i64 (b + 11))),(5,.v (.int .i64 (i : Int))),(130,.v (.bool ((b + 11) != (b + 11))))] (by kernel_rfl) ?_
  refine xw_cond (b := (b + 11) != (b + 11)) (by kernel_rfl) (fun h13 => ?_) (fun h13 => ?_)
  simp at h13
  have h13p := neF h13
  refine xw_skip ?_
  refine xw_seq ?_
  refine xw_region ?_
  refine xl_runS 3 [0,1,5] [(0,.v (.slice Aa a.length Ca)),(1,.v (.int .i64 (IntKind.i64.wrap (b + 11 + 1)))),(5,.v (.int .i64 (i : Int)))] (by kernel_rfl) ?_
  refine xl_eqS (t' := [(0,.v (.slice Aa a.length Ca)),(1,.v (.int .i64 (b + 12))),(5,.v (.int .i64 (i : Int)))]) (by rw [show (IntKind.i64.wrap (b + 11 + 1)) = (b + 12) from wrap_to (by omega) (by omega) (by omega)]) ?_
  refine xl_endS [0,1,5] [(0,.v (.slice Aa a.length Ca)),(1,.v (.int .i64 (b + 12))),(5,.v (.int .i64 (i : Int)))] (by kernel_rfl) ?_
  refine xw_seq ?_
  refine xw_seq ?_
  refine xw_region ?_
  refine xl_indexS (kd := .i64) (T := 26) (e := 42) (K := 13) 2 [0,1,5,133,134] [(0,.v (.slice Aa a.length Ca)),(1,.v (.int .i64 (b + 12))),(5,.v (.int .i64 (i : Int))),(133,.v (.slice Aa a.length Ca)),(134,.v (.int .i64 (i : Int)))] i [.int .i64 b,.int .i64 (b + 1),.int .i64 (b + 2),.int .i64 (b + 3),.int .i64 (b + 4),.int .i64 (b + 5),.int .i64 (b + 6),.bool ((Int.tmod (b + 7) 3) == 0),.bool ((Int.tmod (b + 8) 3) == 0),.int .i64 (b + 9),.int .i64 (b + 10),.int .i64 (b + 11),.int .i64 (b + 12)] (slF (.slice Aa a.length Ca) 13 (a.map hlfCells)) (by kernel_rfl) rfl (by kernel_rfl) rfl rfl (by kernel_rfl) (by kernel_rfl) (by kernel_rfl) (by kernel_rfl) hlt (by simp) (fun w h => h) (fun b h => h) (by simp only [List.getElem?_map,hx,hxe]; rfl) ?_
  refine xl_endS [0,1,5,139] [(0,.v (.slice Aa a.length Ca)),(1,.v (.int .i64 (b + 12))),(5,.v (.int .i64 (i : Int))),(139,.v (.bool ((b + 12) != (b + 12))))] (by kernel_rfl) ?_
  refine xw_cond (b := (b + 12) != (b + 12)) (by kernel_rfl) (fun h14 => ?_) (fun h14 => ?_)
  simp at h14
  have h14p := neF h14
  refine xw_skip ?_
  refine xw_region ?_
  refine xl_runS 3 [0,1,5] [(0,.v (.slice Aa a.length Ca)),(1,.v (.int .i64 (IntKind.i64.wrap (b + 12 + 1)))),(5,.v (.int .i64 (i : Int)))] (by kernel_rfl) ?_
  refine xl_eqS (t' := [(0,.v (.slice Aa a.length Ca)),(1,.v (.int .i64 (b + 13))),(5,.v (.int .i64 (i : Int)))]) (by rw [show (IntKind.i64.wrap (b + 12 + 1)) = (b + 13) from wrap_to (by omega) (by omega) (by omega)]) ?_
  refine xl_endS [0,1,5] [(0,.v (.slice Aa a.length Ca)),(1,.v (.int .i64 (b + 13))),(5,.v (.int .i64 (i : Int)))] (by kernel_rfl) ?_
  refine xw_region ?_
  refine xl_runS 3 [0,1,5] [(0,.v (.slice Aa a.length Ca)),(1,.v (.int .i64 (b + 13))),(5,.v (.int .i64 (IntKind.i64.wrap ((i : Int) + 1))))] (by kernel_rfl) ?_
  refine xl_eqS (t' := [(0,.v (.slice Aa a.length Ca)),(1,.v (.int .i64 (b + 13))),(5,.v (.int .i64 ((i : Int) + 1)))]) (by rw [show (IntKind.i64.wrap ((i : Int) + 1)) = ((i : Int) + 1) from wrap_id (by omega) (by omega)]) ?_
  refine xl_endS [0,1,5] [(0,.v (.slice Aa a.length Ca)),(1,.v (.int .i64 (b + 13))),(5,.v (.int .i64 ((i : Int) + 1)))] (by kernel_rfl) ?_
  have e : b + 13 = k + 13 * ((i + 1 : Nat) : Int) := by omega
  rw [e]
  exact ⟨⟨(i + 1),hlt⟩,wk_forget 0 0 [0,1,5] (by kernel_rfl) (by kernel_rfl) (by kernel_rfl),by show (fun (i : Nat) => a.length - i) (i + 1) < a.length - i; (dsimp only; omega)⟩
  have h1p : ¬ ((i : Int) < ((a.length : Nat) : Int)) := of_decide_eq_false h1
  have hge : i = a.length := by simp at h1; omega
  refine xw_exit ?_
  refine xw_seq ?_
  refine xw_region ?_
  refine xl_endS [4] [(4,.v (.int .i64 (k + 13 * (i : Int))))] (by kernel_rfl) ?_
  refine xw_ret ?_
  have hmod : k + 13 * (a.length : Int) = (k + 13 * (i : Int)) := by first | rfl | (rw [hge])
  exact ⟨[.int .i64 (k + 13 * (i : Int))],by kernel_rfl,fun w' hb hf => by rw [hmod]; exact ⟨rfl,hb⟩⟩
theorem yheldHalfS_m (n : Nat) (v : Value) (k : Int) (w : World) (hs : Sl w v 13 ((marks mkH 13 k n).map hlfCells)) (hk0 : 0 ≤ k) (hk : k ≤ 4503599627370496) (hl : n ≤ 1048576) : Calls Try.prog 21 #[v, .int .i64 k] w fun e w' => e = .returned (.int .i64 (k + 13 * (n : Int))) ∧ Below w.heap.size w w' := by
  have := yheldHalfS_c (marks mkH 13 k n) v k w hs (by rw [marks_len]) hk0 hk (by rw [marks_len]; exact hl)
  rw [marks_len] at this; exact this
theorem apart_frR {W : World} {B e K : Nat} {v : Value} {rs : List (List Value)} : Apart [rowF B e K v rs, frF W (rowF B e K v rs).blk] := (Apart.one _).cons fun x hx b hb hxb => by
  have e : x = frF W (rowF B e K v rs).blk := (by simpa using hx)
  subst e; exact hxb.2 hb
set_option maxHeartbeats 2000000 in
theorem yDeleteHalf_c (v : Value) (l : List Hlf) (i : Nat) (w : World) (B : Nat) (hB : B ≤ w.heap.size) (h : (rowF B 42 13 v (l.map hlfCells)).p w) (hi : i < l.length) : Calls Try.prog 64 #[v, .int .i64 (i : Int), .int .i64 ((i + 1 : Nat) : Int)] w fun e w' => ∃ y : Option Addr × Nat, e = .returned (.slice y.1 (l.take i ++ l.drop (i + 1)).length y.2) ∧ (rowF B 42 13 (.slice y.1 (l.take i ++ l.drop (i + 1)).length y.2) ((l.take i ++ l.drop (i + 1)).map hlfCells)).p w' ∧ (∀ b, (rowF B 42 13 (.slice y.1 (l.take i ++ l.drop (i + 1)).length y.2) ((l.take i ++ l.drop (i + 1)).map hlfCells)).blk b → (rowF B 42 13 v (l.map hlfCells)).blk b) ∧ Chgd (rowF B 42 13 v (l.map hlfCells)).blk w w' := by
  obtain ⟨A,cap,hv⟩ := (rowF_sl h).form
  rw [List.length_map] at hv; subst hv
  have hcap := rowF_cap h
  have hl' : (l.take i ++ l.drop (i + 1)).length = l.length - 1 := by simp; omega
  have hn := (rowF_sl h).len; rw [List.length_map] at hn
  refine x_callsM (args := [.slice A l.length cap,.int .i64 (i : Int),.int .i64 ((i + 1 : Nat) : Int)]) (fn := Try.f64) [rowF B 42 13 (.slice A l.length cap) (l.map hlfCells),frF w (rowF B 42 13 (.slice A l.length cap) (l.map hlfCells)).blk] B Try.func64 rfl Try.ntmps64 rfl hB (by simp only [List.mem_cons,List.not_mem_nil,or_false,forall_eq_or_imp,forall_eq]; exact ⟨h,frF_start w _⟩) apart_frR ?_
  refine xw_seq ?_
  refine xw_region ?_
  refine xl_end [0,1,2] ⟨[(0,.v (.slice A l.length cap)),(1,.v (.int .i64 (i : Int))),(2,.v (.int .i64 ((i + 1 : Nat) : Int)))],[],[],[rowF B 42 13 (.slice A l.length cap) (l.map hlfCells),frF w (rowF B 42 13 (.slice A l.length cap) (l.map hlfCells)).blk]⟩ (by kernel_rfl) ?_
  refine xw_seq ?_
  refine xw_region ?_
  refine xl_opS 5 [0,1,2,8,9,10,12] [(0,.v (.slice A l.length cap)),(1,.v (.int .i64 (i : Int))),(2,.v (.int .i64 ((i + 1 : Nat) : Int))),(8,.v (.slice A l.length cap)),(9,.v (.int .i64 (i : Int))),(10,.v (.int .i64 ((i + 1 : Nat) : Int))),(12,.v (.int .i64 ((l.length : Nat) : Int)))] (.slice (if l.length = i then A else A.map (·.add (i * 13))) ((i + 1) - i) (l.length - i)) (by kernel_rfl) rfl (by kernel_rfl) rfl (fun _ _ _ ww hr => act_slV3 (e := 42) i (i + 1) l.length hr.1 rfl (by kernel_rfl) (by kernel_rfl) rfl rfl rfl rfl rfl rfl rfl (by omega) (by omega) (by omega) ww) ?_
  refine xl_endS [0,1,2] [(0,.v (.slice A l.length cap)),(1,.v (.int .i64 (i : Int))),(2,.v (.int .i64 ((i + 1 : Nat) : Int)))] (by kernel_rfl) ?_
  refine xw_seq ?_
  refine xw_seq ?_
  refine xw_region ?_
  refine xl_endS [0,1,2,16] [(0,.v (.slice A l.length cap)),(1,.v (.int .i64 (i : Int))),(2,.v (.int .i64 ((i + 1 : Nat) : Int))),(16,.v (.bool ((i : Int) == ((i + 1 : Nat) : Int))))] (by kernel_rfl) ?_
  refine xw_cond (b := (i : Int) == ((i + 1 : Nat) : Int)) (by kernel_rfl) (fun h1 => ?_) (fun h1 => ?_)
  have h1p := eqT h1
  exfalso; have := eqT h1; omega
  have h1p := eqF h1
  refine xw_skip ?_
  refine xw_seq ?_
  refine xw_region ?_
  refine xl_endS [0,1,2,7] [(0,.v (.slice A l.length cap)),(1,.v (.int .i64 (i : Int))),(2,.v (.int .i64 ((i + 1 : Nat) : Int))),(7,.v (.int .i64 ((l.length : Nat) : Int)))] (by kernel_rfl) ?_
  refine xw_seq ?_
  refine xe_region0 [] (by kernel_rfl) (fun ρ σ => ?_)
  refine xe_tkS [0,1,3,4] [24,23,21,20,0,7] 4 [(24,.v (.int .i64 ((i + 1 : Nat) : Int))),(23,.v (.slice A l.length cap)),(21,.v (.int .i64 (i : Int))),(20,.v (.slice A l.length cap)),(0,.v (.slice A l.length cap)),(7,.v (.int .i64 ((l.length : Nat) : Int)))] (fun _ _ h => h) rfl (by kernel_rfl) ?_
  refine xe_op 2 (.slice (if cap = 0 then A else A.map (·.add (0 * 13))) (i - 0) (cap - 0)) _ rfl (by kernel_rfl) (by kernel_rfl) (by kernel_rfl) (fun _ _ h => h) (by kernel_rfl) rfl (fun _ _ ww hA => act_slV0 (e := 42) i hA rfl (by kernel_rfl) (by kernel_rfl) rfl rfl rfl (by omega) ww) rfl ?_
  refine xe_op 5 (.slice (if cap = i + 1 then A else A.map (·.add ((i + 1) * 13))) (l.length - (i + 1)) (cap - (i + 1))) _ rfl (by kernel_rfl) (by kernel_rfl) (by kernel_rfl) (fun _ _ h => h) (by kernel_rfl) rfl (fun _ _ ww hA => act_slVe (e := 42) (i + 1) hA rfl (by kernel_rfl) (by kernel_rfl) rfl rfl rfl (by omega) ww) rfl ?_
  refine xe_all [6] (by kernel_rfl) (by simp) ?_
  refine xs_hv 6 rfl (by kernel_rfl) (by kernel_rfl) (by kernel_rfl) under_nil rfl (hv_appP (i := 0) (e := 42) (K := 13) (bytes := 96) (B := B) (A := A) (N := l.length) (cap := cap) (p := i) (j := i + 1) (m := (l.take i ++ l.drop (i + 1)).length) (rs := l.map hlfCells) (rs' := (l.take i ++ l.drop (i + 1)).map hlfCells) rfl rfl rfl rfl (by kernel_rfl) (by kernel_rfl) (by kernel_rfl) rfl (List.length_map ..) (by omega) (by omega) (by rw [List.map_append,List.map_take,List.map_drop]) (by omega) (by intro r hr; obtain ⟨x,hx,rfl⟩ := List.mem_map.1 hr; simp [hlfCells,Value.oneCell']) (cutW_le w B)) ?_
  intro _
  refine xe_tkS [7] [0,7] 0 [(0,.v (.slice A ((l.take i ++ l.drop (i + 1)).length) cap)),(7,.v (.int .i64 ((l.length : Nat) : Int)))] (fun _ _ h => h) rfl (by kernel_rfl) ?_
  refine xe_done (by kernel_rfl) ?_
  refine xw_seq ?_
  refine xw_region ?_
  refine xl_opS 4 [0,27,29,30] [(0,.v (.slice A ((l.take i ++ l.drop (i + 1)).length) cap)),(27,.v (.slice A ((l.take i ++ l.drop (i + 1)).length) cap)),(29,.v (.int .i64 (((l.take i ++ l.drop (i + 1)).length : Nat) : Int))),(30,.v (.int .i64 ((l.length : Nat) : Int)))] (.slice (if cap = (l.take i ++ l.drop (i + 1)).length then A else A.map (·.add (((l.take i ++ l.drop (i + 1)).length) * 13))) (l.length - ((l.take i ++ l.drop (i + 1)).length)) (cap - ((l.take i ++ l.drop (i + 1)).length))) (by kernel_rfl) rfl (by kernel_rfl) rfl (fun _ _ _ ww hr => act_slV (e := 42) ((l.take i ++ l.drop (i + 1)).length) l.length hr.1 rfl (by kernel_rfl) (by kernel_rfl) rfl rfl rfl rfl rfl (by omega) (by omega) ww) ?_
  refine xl_hvS 0 [0,31] [(0,.v (.slice A ((l.take i ++ l.drop (i + 1)).length) cap)),(31,.v (.slice (if cap = (l.take i ++ l.drop (i + 1)).length then A else A.map (·.add (((l.take i ++ l.drop (i + 1)).length) * 13))) (l.length - ((l.take i ++ l.drop (i + 1)).length)) (cap - ((l.take i ++ l.drop (i + 1)).length))))] (by kernel_rfl) rfl (by kernel_rfl) rfl (by kernel_rfl) (hv_clear (e := 42) (K := 13) (bytes := 96) (B := B) (A := A) (N := (l.take i ++ l.drop (i + 1)).length) (cap := cap) (q := l.length) (i := 0) (rs := (l.take i ++ l.drop (i + 1)).map hlfCells) [.int .i64 0,.int .i64 0,.int .i64 0,.int .i64 0,.int .i64 0,.int .i64 0,.int .i64 0,.bool false,.bool false,.int .i64 0,.int .i64 0,.int .i64 0,.int .i64 0] rfl rfl rfl rfl (by kernel_rfl) (by kernel_rfl) (by simp [Value.oneCell']) (by kernel_rfl) rfl (List.length_map ..) (by omega) hcap (cutW_le w B) rfl) ?_
  intro _
  refine xl_endS [0] [(0,.v (.slice A ((l.take i ++ l.drop (i + 1)).length) cap))] (by kernel_rfl) ?_
  refine xw_seq ?_
  refine xw_region ?_
  refine xl_endS [6] [(6,.v (.slice A ((l.take i ++ l.drop (i + 1)).length) cap))] (by kernel_rfl) ?_
  refine xw_ret ?_
  exact ⟨[.slice A ((l.take i ++ l.drop (i + 1)).length) cap],by kernel_rfl,fun w' hb hf => ⟨(A,cap),rfl,hf (rowF B 42 13 (.slice A ((l.take i ++ l.drop (i + 1)).length) cap) ((l.take i ++ l.drop (i + 1)).map hlfCells)) (by simp),fun b hb => by cases A with | none => exact hb | some a => exact hb,frF_chgd (hf (frF w (rowF B 42 13 (.slice A l.length cap) (l.map hlfCells)).blk) (by simp)) hb rfl rfl rfl⟩⟩
theorem yDeleteHalf_c' (v : Value) (l : List Hlf) (ii jj : Int) (i : Nat) (h1 : ii = i) (h2 : jj = i + 1) {w0 : World} {fs : List Fact} (hB : ∀ w, w0.heap.size ≤ w.heap.size → (∀ g ∈ fs, g.p w) → (rowF w0.heap.size 42 13 v (l.map hlfCells)).p w) (hi : i < l.length) : XCM Try.prog w0 fs (rowF w0.heap.size 42 13 v (l.map hlfCells)).blk 64 [v, .int .i64 ii, .int .i64 jj] (α := Option Addr × Nat) (fun y => .slice y.1 (l.take i ++ l.drop (i + 1)).length y.2) (fun y => [rowF w0.heap.size 42 13 (.slice y.1 (l.take i ++ l.drop (i + 1)).length y.2) ((l.take i ++ l.drop (i + 1)).map hlfCells)]) := fun w hw hf => by
  subst h1; obtain rfl : jj = ((i + 1 : Nat) : Int) := by omega
  exact (yDeleteHalf_c v l i w w0.heap.size hw (hB w hw hf) hi).mono fun e w' ⟨y,he,hp,hb,hc⟩ => ⟨y,he,fun g hg => by
    have e1 : g = rowF w0.heap.size 42 13 (.slice y.1 (l.take i ++ l.drop (i + 1)).length y.2) ((l.take i ++ l.drop (i + 1)).map hlfCells) := (by simpa using hg)
    subst e1; exact ⟨hp,fun b hbk => .inl (hb b hbk)⟩,Apart.one _,hc⟩
set_option maxHeartbeats 1000000 in
theorem ysDropHalf_c (l : List Hlf) (lV : Value) (t : Tup) (w : World) (hl_lV : Sl w lV 13 (l.map hlfCells)) (hkn : l.length ≤ 1048576) (B : Nat) (hB : B ≤ w.heap.size) : Calls Try.prog 15 #[lV, .agg (tupL t).toArray] w fun e w' => XRs w w' e (α := Option Addr × Nat) (fun y => .slice y.1 ((dropHalf l t).length) y.2) (fun y => [ownF B (.slice y.1 ((dropHalf l t).length) y.2) 13 ((dropHalf l t).map hlfCells)]) := by
  obtain ⟨Al,Cl,hvl⟩ := hl_lV.form
  rw [List.length_map] at hvl; subst hvl
  have hnl := hl_lV.len; rw [List.length_map] at hnl
  have hql := Sl.capLe hl_lV
  have hfb := findHalf_bd l t
  obtain ⟨hfb0,hfb1⟩ := hfb
  refine x_callsA (args := [.slice Al l.length Cl,.agg (tupL t).toArray]) (fn := Try.f15) [slF (.slice Al l.length Cl) 13 (l.map hlfCells)] Try.func15 rfl Try.ntmps15 rfl (by simp only [List.mem_cons,List.not_mem_nil,or_false,forall_eq_or_imp,forall_eq]; exact ⟨rfl,hl_lV⟩) ?_
  refine xw_seq ?_
  refine xw_region ?_
  refine xl_end [0,3] ⟨[(0,.v (.slice Al l.length Cl)),(3,.p 0 0)],[⟨29,tupL t⟩],[],[slF (.slice Al l.length Cl) 13 (l.map hlfCells)]⟩ (by kernel_rfl) ?_
  refine xw_seq ?_
  refine xw_region ?_
  refine xl_callS 2 [0,6,7] [(0,.v (.slice Al l.length Cl)),(6,.v (.slice Al l.length Cl)),(7,.v (.agg (tupL t).toArray))] 61 [.slice Al l.length Cl,.agg (tupL t).toArray] (some 8) (by kernel_rfl) rfl (by kernel_rfl) rfl (by kernel_rfl) (xc_b fun ww hf => sFindHalf_c (.slice Al l.length Cl) l t.ip t.port t.my ww (hf (slF (.slice Al l.length Cl) 13 (l.map hlfCells)) (by simp)) ) ?_
  intro _
  refine xl_endS [0,5] [(0,.v (.slice Al l.length Cl)),(5,.v (.int .i64 (findHalf l t)))] (by kernel_rfl) ?_
  refine xw_seq ?_
  refine xw_seq ?_
  refine xw_region ?_
  refine xl_endS [0,5,10] [(0,.v (.slice Al l.length Cl)),(5,.v (.int .i64 (findHalf l t))),(10,.v (.bool (decide ((findHalf l t) < 0))))] (by kernel_rfl) ?_
  refine xw_cond (b := decide ((findHalf l t) < 0)) (by kernel_rfl) (fun h1 => ?_) (fun h1 => ?_)
  have h1p : ((findHalf l t) < 0) := of_decide_eq_true h1
  refine xw_seq ?_
  refine xw_region ?_
  refine xl_hvS 0 [0] [(0,.v (.slice Al l.length Cl))] (by kernel_rfl) rfl (by kernel_rfl) rfl (by kernel_rfl) (hv_build (e := 42) (K := 13) (bytes := 96) [] rfl (by kernel_rfl) (by kernel_rfl) (by kernel_rfl) (by kernel_rfl) (by kernel_rfl) (rs := ([] : List Hlf).map hlfCells) rfl) ?_
  intro g2
  refine xl_hvS 1 [11,12] [(11,.v (.slice (some ⟨g2,0,none⟩) 0 0)),(12,.v (.slice Al l.length Cl))] (by kernel_rfl) rfl (by kernel_rfl) rfl (by kernel_rfl) (hv_append (e := 42) (K := 13) (bytes := 96) (i := 0) (q := l.length) (new := l.map hlfCells) (rs' := l.map hlfCells) rfl rfl rfl rfl (by kernel_rfl) (by kernel_rfl) (by kernel_rfl) rfl (by simp) rfl (by simp) (fun ww hf => (hf (slF (.slice Al l.length Cl) 13 (l.map hlfCells)) (by simp))) (by intro r hr; obtain ⟨x,hx,rfl⟩ := List.mem_map.1 hr; exact ⟨rfl,by simp [hlfCells,Value.oneCell']⟩) (by simp only [List.length_map,List.length_append,List.length_cons,List.length_nil,List.length_take,List.length_drop,maxLen]; omega) (by simp only [List.length_map,List.length_append,List.length_cons,List.length_nil,List.length_take,List.length_drop,maxLen]; omega)) ?_
  rintro ⟨v3a,v3c⟩
  refine xl_endS [4] [(4,.v (.slice v3a l.length v3c))] (by kernel_rfl) ?_
  refine xw_ret ?_
  have hmod : dropHalf l t = l := by first | (simp [dropHalf, *]; done) | (exact dropHalf_parts (by omega)) | (exact dropHalf_yes (by omega)) | (exact dropHalf_no (by omega))
  exact ⟨[.slice v3a l.length v3c],by kernel_rfl,fun w' hb hf ha => by rw [hmod]; exact xr_one ((v3a,v3c)) rfl rfl (rowF_ownF (hf (rowF w.heap.size 42 13 (.slice v3a l.length v3c) (l.map hlfCells)) (by simp)) hB) (fun b hb => rowF_lo (hf (rowF w.heap.size 42 13 (.slice v3a l.length v3c) (l.map hlfCells)) (by simp)) (rowF_blk hb)) hb⟩
  have h1p : ¬ ((findHalf l t) < 0) := of_decide_eq_false h1
  refine xw_skip ?_
  refine xw_seq ?_
  refine xe_region0 [] (by kernel_rfl) (fun ρ σ => ?_)
  refine xe_tkS [1,2,5,6,7] [21,19,16,15] 6 [(21,.v (.int .i64 (IntKind.i64.wrap ((findHalf l t) + 1)))),(19,.v (.slice Al l.length Cl)),(16,.v (.int .i64 (findHalf l t))),(15,.v (.slice Al l.length Cl))] (fun _ _ h => h) rfl (by kernel_rfl) ?_
  refine xe_eqS (t := [(21,.v (.int .i64 (IntKind.i64.wrap ((findHalf l t) + 1)))),(19,.v (.slice Al l.length Cl)),(16,.v (.int .i64 (findHalf l t))),(15,.v (.slice Al l.length Cl))]) (t' := [(21,.v (.int .i64 ((findHalf l t) + 1))),(19,.v (.slice Al l.length Cl)),(16,.v (.int .i64 (findHalf l t))),(15,.v (.slice Al l.length Cl))]) (by rw [show (IntKind.i64.wrap ((findHalf l t) + 1)) = ((findHalf l t) + 1) from wrap_id (by omega) (by omega)]) ?_
  refine xe_op 3 (.slice (if Cl = 0 then Al else Al.map (·.add (0 * 13))) (((findHalf l t).toNat) - 0) (Cl - 0)) _ rfl (by kernel_rfl) (by kernel_rfl) (by kernel_rfl) (fun _ _ h => h) (by kernel_rfl) rfl (fun _ _ ww hA => act_slV0 (e := 42) ((findHalf l t).toNat) hA rfl (by kernel_rfl) (by kernel_rfl) rfl rfl (by omega) (by omega) ww) rfl ?_
  refine xe_op 8 (.slice (if Cl = ((findHalf l t) + 1).toNat then Al else Al.map (·.add ((((findHalf l t) + 1).toNat) * 13))) (l.length - (((findHalf l t) + 1).toNat)) (Cl - (((findHalf l t) + 1).toNat))) _ rfl (by kernel_rfl) (by kernel_rfl) (by kernel_rfl) (fun _ _ h => h) (by kernel_rfl) rfl (fun _ _ ww hA => act_slVe (e := 42) (((findHalf l t) + 1).toNat) hA rfl (by kernel_rfl) (by kernel_rfl) rfl rfl (by omega) (by omega) ww) rfl ?_
  refine xe_all [0] (by kernel_rfl) (by simp) ?_
  refine xs_hv 0 rfl (by kernel_rfl) (by kernel_rfl) (by kernel_rfl) (under_t under_nil) rfl (hv_build (e := 42) (K := 13) (bytes := 96) [] rfl (by kernel_rfl) (by kernel_rfl) (by kernel_rfl) (by kernel_rfl) (by kernel_rfl) (rs := ([] : List Hlf).map hlfCells) rfl) ?_
  intro g5
  refine xe_all [4] (by kernel_rfl) (by simp) ?_
  refine xs_hv 4 rfl (by kernel_rfl) (by kernel_rfl) (by kernel_rfl) (under_t under_nil) rfl (hv_append (e := 42) (K := 13) (bytes := 96) (i := 0) (q := ((l.drop 0).take (((findHalf l t).toNat) - 0)).length) (new := ((l.drop 0).take (((findHalf l t).toNat) - 0)).map hlfCells) (rs' := ((l.drop 0).take (((findHalf l t).toNat) - 0)).map hlfCells) rfl rfl rfl rfl (by kernel_rfl) (by kernel_rfl) (by kernel_rfl) rfl (by first | (simp; done) | (simp; omega)) rfl (by first | (simp; done) | (simp; omega)) (fun ww hf => (Sl.partM (hf (slF (.slice Al l.length Cl) 13 (l.map hlfCells)) (by simp)) 0 ((findHalf l t).toNat) (by omega) (by omega))) (by intro r hr; obtain ⟨x,hx,rfl⟩ := List.mem_map.1 hr; exact ⟨rfl,by simp [hlfCells,Value.oneCell']⟩) (by simp only [List.length_map,List.length_append,List.length_cons,List.length_nil,List.length_take,List.length_drop,maxLen]; omega) (by simp only [List.length_map,List.length_append,List.length_cons,List.length_nil,List.length_take,List.length_drop,maxLen]; omega)) ?_
  rintro ⟨v7a,v7c⟩
  refine xe_all [9] (by kernel_rfl) (by simp) ?_
  refine xs_hv 9 rfl (by kernel_rfl) (by kernel_rfl) (by kernel_rfl) (under_t under_nil) rfl (hv_append (e := 42) (K := 13) (bytes := 96) (i := 0) (q := (((l.drop 0).take (((findHalf l t).toNat) - 0)) ++ ((l.drop (((findHalf l t) + 1).toNat)).take (l.length - (((findHalf l t) + 1).toNat)))).length) (new := ((l.drop (((findHalf l t) + 1).toNat)).take (l.length - (((findHalf l t) + 1).toNat))).map hlfCells) (rs' := (((l.drop 0).take (((findHalf l t).toNat) - 0)) ++ ((l.drop (((findHalf l t) + 1).toNat)).take (l.length - (((findHalf l t) + 1).toNat)))).map hlfCells) rfl rfl rfl rfl (by kernel_rfl) (by kernel_rfl) (by kernel_rfl) rfl (by first | (simp; done) | (simp; omega)) (by rw [List.map_append]) (by first | (simp; done) | (simp; omega)) (fun ww hf => (Sl.partM (hf (slF (.slice Al l.length Cl) 13 (l.map hlfCells)) (by simp)) (((findHalf l t) + 1).toNat) l.length (by omega) (by omega))) (by intro r hr; obtain ⟨x,hx,rfl⟩ := List.mem_map.1 hr; exact ⟨rfl,by simp [hlfCells,Value.oneCell']⟩) (by simp only [List.length_map,List.length_append,List.length_cons,List.length_nil,List.length_take,List.length_drop,maxLen]; omega) (by simp only [List.length_map,List.length_append,List.length_cons,List.length_nil,List.length_take,List.length_drop,maxLen]; omega)) ?_
  rintro ⟨v9a,v9c⟩
  refine xe_tkS [10] [4] 0 [(4,.v (.slice v9a ((((l.drop 0).take (((findHalf l t).toNat) - 0)) ++ ((l.drop (((findHalf l t) + 1).toNat)).take (l.length - (((findHalf l t) + 1).toNat)))).length) v9c))] (fun _ _ h => h) rfl (by kernel_rfl) ?_
  refine xe_done (by kernel_rfl) ?_
  refine xw_ret ?_
  have hmod : dropHalf l t = (((l.drop 0).take (((findHalf l t).toNat) - 0)) ++ ((l.drop (((findHalf l t) + 1).toNat)).take (l.length - (((findHalf l t) + 1).toNat)))) := by first | (simp [dropHalf, *]; done) | (exact dropHalf_parts (by omega)) | (exact dropHalf_yes (by omega)) | (exact dropHalf_no (by omega))
  exact ⟨[.slice v9a ((((l.drop 0).take (((findHalf l t).toNat) - 0)) ++ ((l.drop (((findHalf l t) + 1).toNat)).take (l.length - (((findHalf l t) + 1).toNat)))).length) v9c],by kernel_rfl,fun w' hb hf ha => by rw [hmod]; exact xr_one ((v9a,v9c)) rfl rfl (rowF_ownF (hf (rowF w.heap.size 42 13 (.slice v9a ((((l.drop 0).take (((findHalf l t).toNat) - 0)) ++ ((l.drop (((findHalf l t) + 1).toNat)).take (l.length - (((findHalf l t) + 1).toNat)))).length) v9c) ((((l.drop 0).take (((findHalf l t).toNat) - 0)) ++ ((l.drop (((findHalf l t) + 1).toNat)).take (l.length - (((findHalf l t) + 1).toNat)))).map hlfCells)) (by simp)) hB) (fun b hb => rowF_lo (hf (rowF w.heap.size 42 13 (.slice v9a ((((l.drop 0).take (((findHalf l t).toNat) - 0)) ++ ((l.drop (((findHalf l t) + 1).toNat)).take (l.length - (((findHalf l t) + 1).toNat)))).length) v9c) ((((l.drop 0).take (((findHalf l t).toNat) - 0)) ++ ((l.drop (((findHalf l t) + 1).toNat)).take (l.length - (((findHalf l t) + 1).toNat)))).map hlfCells)) (by simp)) (rowF_blk hb)) hb⟩
set_option maxHeartbeats 1000000 in
theorem yiDropHalf_c (l : List Hlf) (lV : Value) (t : Tup) (w : World) (hl_lV : Sl w lV 13 (l.map hlfCells)) (hkn : l.length ≤ 1048576) (B : Nat) (hB : B ≤ w.heap.size) : Calls Try.prog 18 #[lV, .agg (tupL t).toArray] w fun e w' => XRs w w' e (α := Option Addr × Nat) (fun y => .slice y.1 ((dropHalf l t).length) y.2) (fun y => [ownF B (.slice y.1 ((dropHalf l t).length) y.2) 13 ((dropHalf l t).map hlfCells)]) := by
  obtain ⟨Al,Cl,hvl⟩ := hl_lV.form
  rw [List.length_map] at hvl; subst hvl
  have hnl := hl_lV.len; rw [List.length_map] at hnl
  have hql := Sl.capLe hl_lV
  have hfb := findHalf_bd l t
  obtain ⟨hfb0,hfb1⟩ := hfb
  refine x_callsA (args := [.slice Al l.length Cl,.agg (tupL t).toArray]) (fn := Try.f18) [slF (.slice Al l.length Cl) 13 (l.map hlfCells)] Try.func18 rfl Try.ntmps18 rfl (by simp only [List.mem_cons,List.not_mem_nil,or_false,forall_eq_or_imp,forall_eq]; exact ⟨rfl,hl_lV⟩) ?_
  refine xw_seq ?_
  refine xw_region ?_
  refine xl_end [0,3] ⟨[(0,.v (.slice Al l.length Cl)),(3,.p 0 0)],[⟨29,tupL t⟩],[],[slF (.slice Al l.length Cl) 13 (l.map hlfCells)]⟩ (by kernel_rfl) ?_
  refine xw_seq ?_
  refine xw_region ?_
  refine xl_callS 1 [0,3,7] [(0,.v (.slice Al l.length Cl)),(3,.p 0 0),(7,.v (.slice Al l.length Cl))] 62 [.slice Al l.length Cl] (some 8) (by kernel_rfl) rfl (by kernel_rfl) rfl (by kernel_rfl) (xc_r fun ww hw hf => yCloneHalf_c l (.slice Al l.length Cl) ww (hf (slF (.slice Al l.length Cl) 13 (l.map hlfCells)) (by simp)) (by assumption) w.heap.size hw) ?_
  rintro ⟨v1a,v1c⟩
  refine xl_endS [0,3,5] [(0,.v (.slice Al l.length Cl)),(3,.p 0 0),(5,.v (.slice v1a l.length v1c))] (by kernel_rfl) ?_
  refine xw_seq ?_
  refine xw_seq ?_
  refine xw_region ?_
  refine xl_callS 2 [5,9,10] [(5,.v (.slice v1a l.length v1c)),(9,.v (.slice Al l.length Cl)),(10,.v (.agg (tupL t).toArray))] 63 [.slice Al l.length Cl,.agg (tupL t).toArray] (some 11) (by kernel_rfl) rfl (by kernel_rfl) rfl (by kernel_rfl) (xc_b fun ww hf => iFindHalf_c (.slice Al l.length Cl) l t.ip t.port t.my ww (hf (slF (.slice Al l.length Cl) 13 (l.map hlfCells)) (by simp)) ) ?_
  intro _
  refine xl_endS [5,6] [(5,.v (.slice v1a l.length v1c)),(6,.v (.int .i64 (findHalf l t)))] (by kernel_rfl) ?_
  refine xw_seq ?_
  refine xw_region ?_
  refine xl_endS [5,6,13] [(5,.v (.slice v1a l.length v1c)),(6,.v (.int .i64 (findHalf l t))),(13,.v (.bool (decide ((findHalf l t) ≥ 0))))] (by kernel_rfl) ?_
  refine xw_cond (b := decide ((findHalf l t) ≥ 0)) (by kernel_rfl) (fun h2 => ?_) (fun h2 => ?_)
  have h2p : ((findHalf l t) ≥ 0) := of_decide_eq_true h2
  refine xw_region ?_
  refine xl_callWS 4 [5,14,15,17] [(5,.v (.slice v1a l.length v1c)),(14,.v (.slice v1a l.length v1c)),(15,.v (.int .i64 (findHalf l t))),(17,.v (.int .i64 (IntKind.i64.wrap ((findHalf l t) + 1))))] 64 [.slice v1a l.length v1c,.int .i64 (findHalf l t),.int .i64 (IntKind.i64.wrap ((findHalf l t) + 1))] (some 18) 0 (rowF w.heap.size 42 13 (.slice v1a l.length v1c) (l.map hlfCells)) (by kernel_rfl) rfl (by kernel_rfl) rfl (by kernel_rfl) rfl rfl (fun ww b h hb => rowF_lo h hb) (by kernel_rfl) (yDeleteHalf_c' (.slice v1a l.length v1c) l (findHalf l t) (IntKind.i64.wrap ((findHalf l t) + 1)) ((findHalf l t).toNat) (by omega) (by first | omega | (rw [wrap_id (by omega) (by omega)]; omega)) (fun ww hw hf => hf (rowF w.heap.size 42 13 (.slice v1a l.length v1c) (l.map hlfCells)) (by simp)) (by omega)) ?_
  rintro ⟨v3a,v3c⟩
  refine xl_endS [5] [(5,.v (.slice v3a ((l.take ((findHalf l t).toNat) ++ l.drop ((findHalf l t).toNat + 1)).length) v3c))] (by kernel_rfl) ?_
  refine xw_seq ?_
  refine xw_region ?_
  refine xl_endS [4] [(4,.v (.slice v3a ((l.take ((findHalf l t).toNat) ++ l.drop ((findHalf l t).toNat + 1)).length) v3c))] (by kernel_rfl) ?_
  refine xw_ret ?_
  have hmod : dropHalf l t = (l.take ((findHalf l t).toNat) ++ l.drop ((findHalf l t).toNat + 1)) := by first | (simp [dropHalf, *]; done) | (exact dropHalf_parts (by omega)) | (exact dropHalf_yes (by omega)) | (exact dropHalf_no (by omega))
  exact ⟨[.slice v3a ((l.take ((findHalf l t).toNat) ++ l.drop ((findHalf l t).toNat + 1)).length) v3c],by kernel_rfl,fun w' hb hf ha => by rw [hmod]; exact xr_one ((v3a,v3c)) rfl rfl (rowF_ownF (hf (rowF w.heap.size 42 13 (.slice v3a ((l.take ((findHalf l t).toNat) ++ l.drop ((findHalf l t).toNat + 1)).length) v3c) ((l.take ((findHalf l t).toNat) ++ l.drop ((findHalf l t).toNat + 1)).map hlfCells)) (by simp)) hB) (fun b hb => rowF_lo (hf (rowF w.heap.size 42 13 (.slice v3a ((l.take ((findHalf l t).toNat) ++ l.drop ((findHalf l t).toNat + 1)).length) v3c) ((l.take ((findHalf l t).toNat) ++ l.drop ((findHalf l t).toNat + 1)).map hlfCells)) (by simp)) (rowF_blk hb)) hb⟩
  have h2p : ¬ ((findHalf l t) ≥ 0) := of_decide_eq_false h2
  refine xw_skip ?_
  refine xw_seq ?_
  refine xw_region ?_
  refine xl_endS [4] [(4,.v (.slice v1a l.length v1c))] (by kernel_rfl) ?_
  refine xw_ret ?_
  have hmod : dropHalf l t = l := by first | (simp [dropHalf, *]; done) | (exact dropHalf_parts (by omega)) | (exact dropHalf_yes (by omega)) | (exact dropHalf_no (by omega))
  exact ⟨[.slice v1a l.length v1c],by kernel_rfl,fun w' hb hf ha => by rw [hmod]; exact xr_one ((v1a,v1c)) rfl rfl (rowF_ownF (hf (rowF w.heap.size 42 13 (.slice v1a l.length v1c) (l.map hlfCells)) (by simp)) hB) (fun b hb => rowF_lo (hf (rowF w.heap.size 42 13 (.slice v1a l.length v1c) (l.map hlfCells)) (by simp)) (rowF_blk hb)) hb⟩
end Go.Proofs.Yteoipoenbofemaa
