/- Contracts that this law needs, part 1. -/
import Derived.Test.YtnhpmgcllclhfaaYW
import Derived.Test.YtnhpmgcllclhfaaA5
import Derived.Test.YtnhpmgcllclhfaaG1
import Derived.Test.YtnhpmgcllclhfaaYD
import Derived.Test.YtnhpmgcllclhfaaG3
import Derived.Test.YtnhpmgcllclhfaaA2
import Derived.Test.YtnhpmgcllclhfaaG2
namespace Go.Proofs.Ytnhpmgcllclhfaa
open Go.RowKit
set_option linter.unusedVariables false
set_option linter.unusedSimpArgs false
set_option maxRecDepth 100000
set_option maxHeartbeats 2000000

@[simp] theorem inB18_1 : inB 1 1 8 = true := rfl
@[simp] theorem inB18_2 : inB 2 1 8 = true := rfl
@[simp] theorem inB18_3 : inB 3 1 8 = true := rfl
@[simp] theorem inB18_4 : inB 4 1 8 = true := rfl
@[simp] theorem inB18_5 : inB 5 1 8 = true := rfl
@[simp] theorem inB18_6 : inB 6 1 8 = true := rfl
@[simp] theorem inB18_7 : inB 7 1 8 = true := rfl
@[simp] theorem inB18_8 : inB 8 1 8 = true := rfl
def tabL (x : Tab) (x_connsV : Value) (x_waitingV : Value) : List Value := [x_connsV, x_waitingV]
theorem ysFindConn_c (t : Tab) (t_connsV : Value) (t_waitingV : Value) (u : Tup) (w : World) (hl_t_connsV : Sl w t_connsV 25 (t.conns.map conR)) (hh_t_connsV : ∀ x ∈ t.conns, Sl w x.2 2 (x.1.r.held.map pceCells)) (hl_t_waitingV : Sl w t_waitingV 3 (t.waiting.map tupCells))  : Calls Try.prog 11 #[.agg (tabL t t_connsV t_waitingV).toArray, .agg (tupL u).toArray] w fun e w' => e = .returned (.int .i64 (findConn t u)) ∧ Below w.heap.size w w' := by
 obtain ⟨Atc,Ctc,hvtc⟩ := hl_t_connsV.form
 rw [List.length_map] at hvtc; subst hvtc
 have hntc := hl_t_connsV.len; rw [List.length_map] at hntc
 have hqtc := Sl.capLe hl_t_connsV
 obtain ⟨Atw,Ctw,hvtw⟩ := hl_t_waitingV.form
 rw [List.length_map] at hvtw; subst hvtw
 have hntw := hl_t_waitingV.len; rw [List.length_map] at hntw
 have hqtw := Sl.capLe hl_t_waitingV
 refine x_calls (args := [.agg (tabL t (.slice Atc t.conns.length Ctc) (.slice Atw t.waiting.length Ctw)).toArray,.agg (tupL u).toArray]) (fn := Try.f11) [slF (.slice Atc t.conns.length Ctc) 25 (t.conns.map conR),hldF t.conns,slF (.slice Atw t.waiting.length Ctw) 3 (t.waiting.map tupCells)] Try.func11 rfl Try.ntmps11 rfl (by simp only [List.mem_cons,List.not_mem_nil,or_false,forall_eq_or_imp,forall_eq]; exact ⟨⟨rfl,hl_t_connsV⟩,⟨rfl,hh_t_connsV⟩,⟨rfl,hl_t_waitingV⟩⟩) ?_
 refine kQ ?_
 refine kEF [2,3] ⟨[(2,.p 0 0),(3,.p 1 0)],[⟨33,tabL t (.slice Atc t.conns.length Ctc) (.slice Atw t.waiting.length Ctw)⟩,⟨35,tupL u⟩],[],[slF (.slice Atc t.conns.length Ctc) 25 (t.conns.map conR),hldF t.conns,slF (.slice Atw t.waiting.length Ctw) 3 (t.waiting.map tupCells)]⟩ ?_
 refine kS ?_
 refine kQ ?_
 refine kED [2,3,5] [(5,.v (.int .i64 0))] ?_
 refine xw_block ?_
 refine xw_loopW (α := {x : Nat // (fun (k : Nat) => k ≤ t.conns.length ∧ ∀ (i : Nat) (h' : CV),i < k → t.conns[i]? = some h' → tupEq h'.1.t u = false) x}) (fun x => (fun (k : Nat) => (⟨[(2,.p 0 0),(3,.p 1 0),(5,.v (.int .i64 (k : Int)))],[⟨33,tabL t (.slice Atc t.conns.length Ctc) (.slice Atw t.waiting.length Ctw)⟩,⟨35,tupL u⟩],[],[slF (.slice Atc t.conns.length Ctc) 25 (t.conns.map conR),hldF t.conns,slF (.slice Atw t.waiting.length Ctw) 3 (t.waiting.map tupCells)]⟩ : St)) x.1) (fun x => t.conns.length - x.1) ⟨(0),⟨Nat.zero_le _,fun i x hi => by omega⟩⟩ (kF 2 0 [2,3,5]) ?_
 rintro ⟨k,hk,HK⟩
 try dsimp only
 try dsimp only at hk HK
 refine kS ?_
 refine kQ ?_
 refine kED [2,3,5,10] [(10,.v (.bool (decide ((k : Int) < ((t.conns.length : Nat) : Int)))))] ?_
 refine kC (decide ((k : Int) < ((t.conns.length : Nat) : Int))) (fun h1 => ?_) (fun h1 => ?_)
 have h1p := of_decide_eq_true h1
 have hlt : k < t.conns.length := by simpa using h1
 obtain ⟨x0,hx⟩ : ∃ x,t.conns[k]? = some x := ⟨_,List.getElem?_eq_getElem hlt⟩
 obtain ⟨x,xa,xc,rfl⟩ := cv_form (hh_t_connsV x0 (List.mem_of_getElem? hx))
 refine kK ?_
 refine kS ?_
 refine xw_block ?_
 refine kS ?_
 refine xws_start ?_
 refine xws_row (K := 25) (j := k) [.int .i64 x.t.ip,.int .i64 x.t.port,.int .i64 x.t.my,.int .i64 x.state,.int .i64 x.s.una,.string x.s.data,.int .i64 x.s.sent,.bool x.s.fin,.bool x.s.finSent,.bool x.s.done,.int .i64 x.r.next,.string x.r.data,.slice xa x.r.held.length xc,.int .i64 x.r.fin,.bool x.r.done,.int .i64 x.window,.int .i64 x.most,.int .i64 x.o.mss,.int .i64 x.o.scale,.bool x.o.sack,.bool x.o.stamp,.int .i64 x.o.val,.int .i64 x.o.echo,.int .i64 x.timer,.int .i64 x.tries] (slF (.slice Atc t.conns.length Ctc) 25 (t.conns.map conR)) (fun _ _ h => h) (by simp) (fun w h => h) (fun b h => h) (by simp only [List.getElem?_map,hx]; rfl) (fun bq2 offq2 hAq2 => ?_)
 refine xws_regionE [] (by kernel_rfl) (fun ρ σ hq3 => ?_)
 refine kTD [0,1,2,6] [19,15,14,2,3,5] 4 [(19,.v (.agg (tupL u).toArray)),(15,.v (.int .i64 (k : Int))),(14,.v (.slice Atc t.conns.length Ctc))] ?_
 refine xe_takeI (kd := .i64) (T := 30) (e := 68) (K := 25) (j := k) (A := Atc) (len := t.conns.length) (cap := Ctc) 3 0 _ rfl (by kernel_rfl) (by kernel_rfl) (by kernel_rfl) (fun _ _ h => h) (by kernel_rfl) rfl rfl (by kernel_rfl) (by kernel_rfl) (by kernel_rfl) (by kernel_rfl) hlt hAq2 hq3.2 (by kernel_rfl) rfl ?_
 refine kTD [4,5] [18,19,2,3,5] 1 [(18,.v (.agg (tupL x.t).toArray))] ?_
 refine kX 7 (.bool (tupEq x.t u)) rfl (fun _ _ ww hA => act_bin hA rfl (by kernel_rfl) (by kernel_rfl) (agg_bin (by kernel_rfl) (run_eql_TUP x.t.ip x.t.port x.t.my u.ip u.port u.my ww))) ?_
 refine kZ ?_
 refine kC (tupEq x.t u) (fun h4 => ?_) (fun h4 => ?_)
 have hfd := findConn_eq hx (by exact h4) HK
 refine kQ ?_
 refine kES [4] [(4,.v (.int .i64 (k : Int)))] ?_
 refine kR ?_
 exact ⟨[.int .i64 (k : Int)],by kernel_rfl,fun w' hb hf => ⟨ret_int (show ((k : Int) : Int) = findConn t u from by first | exact hfd.symm | exact hfn.symm),hb⟩⟩
 have hq : tupEq x.t u = false := by exact h4
 refine kK ?_
 refine kG ?_
 refine kRD 3 [2,3,5] [(5,.v (.int .i64 (IntKind.i64.wrap ((k : Int) + 1))))] ?_
 refine xl_nv [2,3,5] [(5,.v (.int .i64 (IntKind.i64.wrap ((k : Int) + 1))))] [(5,.v (.int .i64 ((k : Int) + 1)))] (by rw [show (IntKind.i64.wrap ((k : Int) + 1)) = ((k : Int) + 1) from wrap_id (by omega) (by omega)]) (by kernel_rfl) ?_
 refine kED [2,3,5] [] ?_
 exact ⟨⟨(k + 1),⟨by omega,no_step (p := fun c : CV => tupEq c.1.t u) hx hq HK⟩⟩,kF 2 0 [2,3,5],by show t.conns.length - (k + 1) < t.conns.length - k; omega⟩
 have h1p := of_decide_eq_false h1
 have hge : k = t.conns.length := by simp at h1; omega
 have hfn := findConn_no hge HK
 refine xw_exit ?_
 refine kQ ?_
 refine kES [4] [(4,.v (.int .i64 (-1)))] ?_
 refine kR ?_
 exact ⟨[.int .i64 (-1)],by kernel_rfl,fun w' hb hf => ⟨ret_int (show ((-1) : Int) = findConn t u from by first | exact hfd.symm | exact hfn.symm),hb⟩⟩
theorem yFindConn1_c (c : Con) (V : Value) (u : Tup) (g : Nat) (w : World) (hcell : (cellP g 35 [.int .i64 u.ip, .int .i64 u.port, .int .i64 u.my]).p w) : Calls Try.prog 41 #[.agg #[.int .i64 c.t.ip, .int .i64 c.t.port, .int .i64 c.t.my, .int .i64 c.state, .int .i64 c.s.una, .string c.s.data, .int .i64 c.s.sent, .bool c.s.fin, .bool c.s.finSent, .bool c.s.done, .int .i64 c.r.next, .string c.r.data, V, .int .i64 c.r.fin, .bool c.r.done, .int .i64 c.window, .int .i64 c.most, .int .i64 c.o.mss, .int .i64 c.o.scale, .bool c.o.sack, .bool c.o.stamp, .int .i64 c.o.val, .int .i64 c.o.echo, .int .i64 c.timer, .int .i64 c.tries], .pointer (some ⟨g, 0, none⟩)] w fun e w' => e = .returned (.bool (tupEq c.t u)) ∧ Below w.heap.size w w' := by
 refine x_calls (args := [.agg #[.int .i64 c.t.ip,.int .i64 c.t.port,.int .i64 c.t.my,.int .i64 c.state,.int .i64 c.s.una,.string c.s.data,.int .i64 c.s.sent,.bool c.s.fin,.bool c.s.finSent,.bool c.s.done,.int .i64 c.r.next,.string c.r.data,V,.int .i64 c.r.fin,.bool c.r.done,.int .i64 c.window,.int .i64 c.most,.int .i64 c.o.mss,.int .i64 c.o.scale,.bool c.o.sack,.bool c.o.stamp,.int .i64 c.o.val,.int .i64 c.o.echo,.int .i64 c.timer,.int .i64 c.tries],.pointer (some ⟨g,0,none⟩)]) (fn := Try.f41) [cellP g 35 [.int .i64 u.ip,.int .i64 u.port,.int .i64 u.my]] Try.func41 rfl Try.ntmps41 rfl (by simp only [List.mem_cons,List.not_mem_nil,or_false,forall_eq_or_imp,forall_eq]; exact ⟨rfl,hcell⟩) ?_
 refine kQ ?_
 refine kEF [1,2] ⟨[(1,.v (.pointer (some ⟨g,0,none⟩))),(2,.p 0 0)],[⟨68,[.int .i64 c.t.ip,.int .i64 c.t.port,.int .i64 c.t.my,.int .i64 c.state,.int .i64 c.s.una,.string c.s.data,.int .i64 c.s.sent,.bool c.s.fin,.bool c.s.finSent,.bool c.s.done,.int .i64 c.r.next,.string c.r.data,V,.int .i64 c.r.fin,.bool c.r.done,.int .i64 c.window,.int .i64 c.most,.int .i64 c.o.mss,.int .i64 c.o.scale,.bool c.o.sack,.bool c.o.stamp,.int .i64 c.o.val,.int .i64 c.o.echo,.int .i64 c.timer,.int .i64 c.tries]⟩],[],[cellP g 35 [.int .i64 u.ip,.int .i64 u.port,.int .i64 u.my]]⟩ ?_
 refine kQ ?_
 refine kOD 2 [1,5] [(5,.v (.agg (tupL c.t).toArray))] (.agg (tupL u).toArray) rfl (fun _ _ _ ww hr => ldK_run (off := 0) (g := g) (T := 35) (cs := [.int .i64 u.ip,.int .i64 u.port,.int .i64 u.my]) hr rfl (by kernel_rfl) (by simp) (by kernel_rfl)) ?_
 refine kOD 0 [5,6] [] (.bool (tupEq c.t u)) rfl (fun _ _ _ ww hr => act_bin hr.1 rfl (by kernel_rfl) (by kernel_rfl) (agg_bin (by kernel_rfl) (run_eql_TUP c.t.ip c.t.port c.t.my u.ip u.port u.my ww))) ?_
 refine kES [3] [(3,.v (.bool (tupEq c.t u)))] ?_
 refine kR ?_
 exact ⟨[.bool (tupEq c.t u)],by kernel_rfl,fun w' hb hf => ⟨rfl,hb⟩⟩
theorem yIndexFConn_c (l : List CV) (lV : Value) (u : Tup) (g : Nat) (w : World) (hl_lV : Sl w lV 25 (l.map conR)) (hh_lV : ∀ x ∈ l, Sl w x.2 2 (x.1.r.held.map pceCells)) (hcell : (cellP g 35 [.int .i64 u.ip, .int .i64 u.port, .int .i64 u.my]).p w) : Calls Try.prog 40 #[lV, .func (.func 41) #[] #[.pointer (some ⟨g, 0, none⟩)]] w fun e w' => e = .returned (.int .i64 (findConn ⟨l, []⟩ u)) ∧ Below w.heap.size w w' := by
 obtain ⟨Al,Cl,hvl⟩ := hl_lV.form
 rw [List.length_map] at hvl; subst hvl
 have hnl := hl_lV.len; rw [List.length_map] at hnl
 have hql := Sl.capLe hl_lV
 refine x_calls (args := [.slice Al l.length Cl,.func (.func 41) #[] #[.pointer (some ⟨g,0,none⟩)]]) (fn := Try.f40) [slF (.slice Al l.length Cl) 25 (l.map conR),hldF l,cellP g 35 [.int .i64 u.ip,.int .i64 u.port,.int .i64 u.my]] Try.func40 rfl Try.ntmps40 rfl (by simp only [List.mem_cons,List.not_mem_nil,or_false,forall_eq_or_imp,forall_eq]; exact ⟨⟨rfl,hl_lV⟩,⟨rfl,hh_lV⟩,⟨rfl,hcell⟩⟩) ?_
 refine kQ ?_
 refine kEF [0,1] ⟨[(0,.v (.slice Al l.length Cl)),(1,.v (.func (.func 41) #[] #[.pointer (some ⟨g,0,none⟩)]))],[],[],[slF (.slice Al l.length Cl) 25 (l.map conR),hldF l,cellP g 35 [.int .i64 u.ip,.int .i64 u.port,.int .i64 u.my]]⟩ ?_
 refine kS ?_
 refine kQ ?_
 refine kED [0,1,7,8] [(7,.v (.int .i64 ((l.length : Nat) : Int))),(8,.v (.int .i64 0))] ?_
 refine xw_block ?_
 refine xw_loopW (α := {x : Nat // (fun (k : Nat) => k ≤ l.length ∧ ∀ (i : Nat) (h' : CV),i < k → l[i]? = some h' → tupEq h'.1.t u = false) x}) (fun x => (fun (k : Nat) => (⟨[(0,.v (.slice Al l.length Cl)),(1,.v (.func (.func 41) #[] #[.pointer (some ⟨g,0,none⟩)])),(7,.v (.int .i64 ((l.length : Nat) : Int))),(8,.v (.int .i64 (k : Int)))],[],[],[slF (.slice Al l.length Cl) 25 (l.map conR),hldF l,cellP g 35 [.int .i64 u.ip,.int .i64 u.port,.int .i64 u.my]]⟩ : St)) x.1) (fun x => l.length - x.1) ⟨(0),⟨Nat.zero_le _,fun i x hi => by omega⟩⟩ (kF 0 0 [0,1,7,8]) ?_
 rintro ⟨k,hk,HK⟩
 try dsimp only
 try dsimp only at hk HK
 refine kQ ?_
 refine kED [0,1,7,8,9] [(9,.v (.bool (decide ((k : Int) < ((l.length : Nat) : Int)))))] ?_
 refine kS ?_
 refine kC (decide ((k : Int) < ((l.length : Nat) : Int))) (fun h1 => ?_) (fun h1 => ?_)
 have h1p := of_decide_eq_true h1
 have hlt : k < l.length := by simpa using h1
 obtain ⟨x0,hx⟩ : ∃ x,l[k]? = some x := ⟨_,List.getElem?_eq_getElem hlt⟩
 obtain ⟨x,xa,xc,rfl⟩ := cv_form (hh_lV x0 (List.mem_of_getElem? hx))
 refine kK ?_
 refine kS ?_
 refine xw_block ?_
 refine kQ ?_
 refine kED [0,1,5,7,8] [(5,.v (.int .i64 (k : Int)))] ?_
 refine kQ ?_
 refine xl_indexD (kd := .i64) (T := 30) (e := 68) (K := 25) 3 [0,1,5,7,8,11,12,13] [(11,.v (.func (.func 41) #[] #[.pointer (some ⟨g,0,none⟩)])),(12,.v (.slice Al l.length Cl)),(13,.v (.int .i64 (k : Int)))] k [.int .i64 x.t.ip,.int .i64 x.t.port,.int .i64 x.t.my,.int .i64 x.state,.int .i64 x.s.una,.string x.s.data,.int .i64 x.s.sent,.bool x.s.fin,.bool x.s.finSent,.bool x.s.done,.int .i64 x.r.next,.string x.r.data,.slice xa x.r.held.length xc,.int .i64 x.r.fin,.bool x.r.done,.int .i64 x.window,.int .i64 x.most,.int .i64 x.o.mss,.int .i64 x.o.scale,.bool x.o.sack,.bool x.o.stamp,.int .i64 x.o.val,.int .i64 x.o.echo,.int .i64 x.timer,.int .i64 x.tries] (slF (.slice Al l.length Cl) 25 (l.map conR)) (by kernel_rfl) rfl (by kernel_rfl) rfl rfl (by kernel_rfl) (by kernel_rfl) (by kernel_rfl) (by kernel_rfl) hlt (by simp) (fun w h => h) (fun b h => h) (by simp only [List.getElem?_map,hx]; rfl) ?_
 refine xl_callC 1 [0,1,5,7,8,11,15] ⟨[(0,.v (.slice Al l.length Cl)),(1,.v (.func (.func 41) #[] #[.pointer (some ⟨g,0,none⟩)])),(5,.v (.int .i64 (k : Int))),(7,.v (.int .i64 ((l.length : Nat) : Int))),(8,.v (.int .i64 (k : Int))),(11,.v (.func (.func 41) #[] #[.pointer (some ⟨g,0,none⟩)])),(15,.v (.agg (conL x (.slice xa x.r.held.length xc)).toArray))],[],[[.int .i64 x.t.ip,.int .i64 x.t.port,.int .i64 x.t.my,.int .i64 x.state,.int .i64 x.s.una,.string x.s.data,.int .i64 x.s.sent,.bool x.s.fin,.bool x.s.finSent,.bool x.s.done,.int .i64 x.r.next,.string x.r.data,.slice xa x.r.held.length xc,.int .i64 x.r.fin,.bool x.r.done,.int .i64 x.window,.int .i64 x.most,.int .i64 x.o.mss,.int .i64 x.o.scale,.bool x.o.sack,.bool x.o.stamp,.int .i64 x.o.val,.int .i64 x.o.echo,.int .i64 x.timer,.int .i64 x.tries]],[slF (.slice Al l.length Cl) 25 (l.map conR),hldF l,cellP g 35 [.int .i64 u.ip,.int .i64 u.port,.int .i64 u.my]]⟩ 41 [.agg (conL x (.slice xa x.r.held.length xc)).toArray,.pointer (some ⟨g,0,none⟩)] (some 16) (by kernel_rfl) rfl (by kernel_rfl) rfl (by kernel_rfl) (xc_b fun ww hf => yFindConn1_c x (.slice xa x.r.held.length xc) u g ww (hf (cellP g 35 [.int .i64 u.ip,.int .i64 u.port,.int .i64 u.my]) (by simp))) ?_
 intro _
 refine kED [0,1,5,7,8,16] [] ?_
 refine kC (tupEq x.t u) (fun h2 => ?_) (fun h2 => ?_)
 have hfd := findConn_eq (t := ⟨l,[]⟩) hx (by exact h2) HK
 refine kQ ?_
 refine kES [4] [(4,.v (.int .i64 (k : Int)))] ?_
 refine kR ?_
 exact ⟨[.int .i64 (k : Int)],by kernel_rfl,fun w' hb hf => ⟨ret_int (by first | exact hfd.symm | exact hfn.symm),hb⟩⟩
 have hq : tupEq x.t u = false := by exact h2
 refine kK ?_
 refine kG ?_
 refine kRD 2 [0,1,7,8] [(8,.v (.int .i64 (IntKind.i64.wrap ((k : Int) + 1))))] ?_
 refine xl_nv [0,1,7,8] [(8,.v (.int .i64 (IntKind.i64.wrap ((k : Int) + 1))))] [(8,.v (.int .i64 ((k : Int) + 1)))] (by rw [show (IntKind.i64.wrap ((k : Int) + 1)) = ((k : Int) + 1) from wrap_id (by omega) (by omega)]) (by kernel_rfl) ?_
 refine kED [0,1,7,8] [] ?_
 exact ⟨⟨(k + 1),⟨by omega,no_step (p := fun c : CV => tupEq c.1.t u) hx hq HK⟩⟩,kF 0 0 [0,1,7,8],by show l.length - (k + 1) < l.length - k; omega⟩
 have h1p := of_decide_eq_false h1
 have hge : k = l.length := by simp at h1; omega
 have hfn := findConn_no (t := ⟨l,[]⟩) hge HK
 refine xw_exit ?_
 refine kQ ?_
 refine kES [4] [(4,.v (.int .i64 (-1)))] ?_
 refine kR ?_
 exact ⟨[.int .i64 (-1)],by kernel_rfl,fun w' hb hf => ⟨ret_int (by first | exact hfd.symm | exact hfn.symm),hb⟩⟩
theorem yiFindConn_c (t : Tab) (t_connsV : Value) (t_waitingV : Value) (u : Tup) (w : World) (hl_t_connsV : Sl w t_connsV 25 (t.conns.map conR)) (hh_t_connsV : ∀ x ∈ t.conns, Sl w x.2 2 (x.1.r.held.map pceCells)) (hl_t_waitingV : Sl w t_waitingV 3 (t.waiting.map tupCells))  : Calls Try.prog 14 #[.agg (tabL t t_connsV t_waitingV).toArray, .agg (tupL u).toArray] w fun e w' => e = .returned (.int .i64 (findConn t u)) ∧ Below w.heap.size w w' := by
 obtain ⟨Atc,Ctc,hvtc⟩ := hl_t_connsV.form
 rw [List.length_map] at hvtc; subst hvtc
 have hntc := hl_t_connsV.len; rw [List.length_map] at hntc
 have hqtc := Sl.capLe hl_t_connsV
 obtain ⟨Atw,Ctw,hvtw⟩ := hl_t_waitingV.form
 rw [List.length_map] at hvtw; subst hvtw
 have hntw := hl_t_waitingV.len; rw [List.length_map] at hntw
 have hqtw := Sl.capLe hl_t_waitingV
 refine x_calls (args := [.agg (tabL t (.slice Atc t.conns.length Ctc) (.slice Atw t.waiting.length Ctw)).toArray,.agg (tupL u).toArray]) (fn := Try.f14) [slF (.slice Atc t.conns.length Ctc) 25 (t.conns.map conR),hldF t.conns,slF (.slice Atw t.waiting.length Ctw) 3 (t.waiting.map tupCells)] Try.func14 rfl Try.ntmps14 rfl (by simp only [List.mem_cons,List.not_mem_nil,or_false,forall_eq_or_imp,forall_eq]; exact ⟨⟨rfl,hl_t_connsV⟩,⟨rfl,hh_t_connsV⟩,⟨rfl,hl_t_waitingV⟩⟩) ?_
 refine kQ ?_
 refine kEF [2,3] ⟨[(2,.p 0 0),(3,.p 1 0)],[⟨33,tabL t (.slice Atc t.conns.length Ctc) (.slice Atw t.waiting.length Ctw)⟩,⟨35,tupL u⟩],[],[slF (.slice Atc t.conns.length Ctc) 25 (t.conns.map conR),hldF t.conns,slF (.slice Atw t.waiting.length Ctw) 3 (t.waiting.map tupCells)]⟩ ?_
 refine kS ?_
 refine xw_pinB 3 35 [.int .i64 u.ip,.int .i64 u.port,.int .i64 u.my] [⟨33,tabL t (.slice Atc t.conns.length Ctc) (.slice Atw t.waiting.length Ctw)⟩] rfl (by kernel_rfl) (by kernel_rfl) ?_
 intro g hg hgn
 refine kG ?_
 refine kOF 2 [3,6] ⟨[(3,.v (.pointer (some ⟨g,0,none⟩))),(6,.v (.slice Atc t.conns.length Ctc))],[⟨33,tabL t (.slice Atc t.conns.length Ctc) (.slice Atw t.waiting.length Ctw)⟩],[],[cellF w.heap.size g 35 [.int .i64 u.ip,.int .i64 u.port,.int .i64 u.my],slF (.slice Atc t.conns.length Ctc) 25 (t.conns.map conR),hldF t.conns,slF (.slice Atw t.waiting.length Ctw) 3 (t.waiting.map tupCells)]⟩ (.func (.func 41) #[] #[.pointer (some ⟨g,0,none⟩)]) rfl (fun _ _ _ ww hr => act_mkf [.pointer (some ⟨g,0,none⟩)] hr.1 rfl (by kernel_rfl) ww) ?_
 refine kCD 0 [6,7] [] 40 [.slice Atc t.conns.length Ctc,.func (.func 41) #[] #[.pointer (some ⟨g,0,none⟩)]] (some 8) rfl (xc_b fun ww hf => yIndexFConn_c t.conns (.slice Atc t.conns.length Ctc) u g ww (hf _ m1) (hf _ m2) (hf (cellF w.heap.size g 35 [.int .i64 u.ip,.int .i64 u.port,.int .i64 u.my]) (by simp)).2) ?_
 intro _
 refine kES [4] [(4,.v (.int .i64 (findConn ⟨t.conns,[]⟩ u)))] ?_
 refine kR ?_
 exact ⟨[.int .i64 (findConn ⟨t.conns,[]⟩ u)],by kernel_rfl,fun w' hb hf => ⟨ret_int (show (findConn ⟨t.conns,[]⟩ u : Int) = findConn t u from by rfl),hb⟩⟩
theorem yszConnS_c (a : List CV) (aV : Value) (left : Int) (w : World) (hl_aV : Sl w aV 25 (a.map conR)) (hh_aV : ∀ x ∈ a, Sl w x.2 2 (x.1.r.held.map pceCells)) (h0 : 0 ≤ left) (h1 : left ≤ 1048576) (hm : ∀ x ∈ a, conMax x.1) : Calls Try.prog 36 #[aV, .int .i64 left] w fun e w' => ∃ r : Int, e = .returned (.int .i64 r) ∧ szP left r a ∧ Below w.heap.size w w' := by
 obtain ⟨Aa,Ca,hva⟩ := hl_aV.form
 rw [List.length_map] at hva; subst hva
 have hna := hl_aV.len; rw [List.length_map] at hna
 have hqa := Sl.capLe hl_aV
 refine x_calls (args := [.slice Aa a.length Ca,.int .i64 left]) (fn := Try.f36) [slF (.slice Aa a.length Ca) 25 (a.map conR),hldF a] Try.func36 rfl Try.ntmps36 rfl (by simp only [List.mem_cons,List.not_mem_nil,or_false,forall_eq_or_imp,forall_eq]; exact ⟨⟨rfl,hl_aV⟩,⟨rfl,hh_aV⟩⟩) ?_
 refine kQ ?_
 refine kEF [0,1] ⟨[(0,.v (.slice Aa a.length Ca)),(1,.v (.int .i64 left))],[],[],[slF (.slice Aa a.length Ca) 25 (a.map conR),hldF a]⟩ ?_
 refine kQ ?_
 refine kRD 5 [0,1] [(1,.v (.int .i64 (IntKind.i64.wrap (left - ((a.length : Nat) : Int)))))] ?_
 refine xl_nv [0,1] [(1,.v (.int .i64 (IntKind.i64.wrap (left - ((a.length : Nat) : Int)))))] [(1,.v (.int .i64 (left - ((a.length : Nat) : Int))))] (by rw [show (IntKind.i64.wrap (left - ((a.length : Nat) : Int))) = (left - ((a.length : Nat) : Int)) from wrap_id (by omega) (by omega)]) (by kernel_rfl) ?_
 refine kED [0,1] [] ?_
 refine kS ?_
 refine kQ ?_
 refine kED [0,1,11] [(11,.v (.bool (decide ((left - ((a.length : Nat) : Int)) < 0))))] ?_
 refine kC (decide ((left - ((a.length : Nat) : Int)) < 0)) (fun h1 => ?_) (fun h1 => ?_)
 have h1p := of_decide_eq_true h1
 refine kQ ?_
 refine kES [4] [(4,.v (.int .i64 (-1)))] ?_
 refine kR ?_
 exact ⟨[.int .i64 (-1)],by kernel_rfl,fun w' hb hf => ⟨_,rfl,.inl rfl,hb⟩⟩
 have h1p := of_decide_eq_false h1
 refine kK ?_
 refine kS ?_
 refine kQ ?_
 refine kED [0,1,5] [(5,.v (.int .i64 0))] ?_
 refine xw_block ?_
 refine xw_loopW (α := {x : Nat × Int // (fun (i : Nat) (z : Int) => i ≤ a.length ∧ 0 ≤ z ∧ z ≤ left - (a.length : Int) ∧ ∀ (j : Nat) (x : CV),j < i → a[j]? = some x → ConFit left x.1) x.1 x.2}) (fun x => (fun (i : Nat) (z : Int) => (⟨[(0,.v (.slice Aa a.length Ca)),(1,.v (.int .i64 z)),(5,.v (.int .i64 (i : Int)))],[],[],[slF (.slice Aa a.length Ca) 25 (a.map conR),hldF a]⟩ : St)) x.1.1 x.1.2) (fun x => (fun (i : Nat) (z : Int) => a.length - i) x.1.1 x.1.2) ⟨(0,left - ((a.length : Nat) : Int)),⟨Nat.zero_le _,(by first | omega | (simp at *; omega)),(by omega),(fun j x hj => by omega)⟩⟩ (kF 0 0 [0,1,5]) ?_
 rintro ⟨⟨i,z⟩,hi,hz0,hz1,HK⟩
 try dsimp only
 try dsimp only at hi hz0 hz1 HK
 refine kS ?_
 refine kQ ?_
 refine kED [0,1,5,15] [(15,.v (.bool (decide ((i : Int) < ((a.length : Nat) : Int)))))] ?_
 refine kC (decide ((i : Int) < ((a.length : Nat) : Int))) (fun h2 => ?_) (fun h2 => ?_)
 have h2p := of_decide_eq_true h2
 have hlt : i < a.length := by simpa using h2
 obtain ⟨x0,hx⟩ : ∃ x,a[i]? = some x := ⟨_,List.getElem?_eq_getElem hlt⟩
 obtain ⟨x,xa,xc,rfl⟩ := cv_form (hh_aV x0 (List.mem_of_getElem? hx))
 have hmx : conMax x := hm _ (List.mem_of_getElem? hx)
 refine kK ?_
 refine kS ?_
 refine xw_block ?_
 refine kQ ?_
 refine xl_indexD (kd := .i64) (T := 22) (e := 59) (K := 25) 2 [0,1,5,18,19] [(18,.v (.slice Aa a.length Ca)),(19,.v (.int .i64 (i : Int)))] i [.int .i64 x.t.ip,.int .i64 x.t.port,.int .i64 x.t.my,.int .i64 x.state,.int .i64 x.s.una,.string x.s.data,.int .i64 x.s.sent,.bool x.s.fin,.bool x.s.finSent,.bool x.s.done,.int .i64 x.r.next,.string x.r.data,.slice xa x.r.held.length xc,.int .i64 x.r.fin,.bool x.r.done,.int .i64 x.window,.int .i64 x.most,.int .i64 x.o.mss,.int .i64 x.o.scale,.bool x.o.sack,.bool x.o.stamp,.int .i64 x.o.val,.int .i64 x.o.echo,.int .i64 x.timer,.int .i64 x.tries] (slF (.slice Aa a.length Ca) 25 (a.map conR)) (by kernel_rfl) rfl (by kernel_rfl) rfl rfl (by kernel_rfl) (by kernel_rfl) (by kernel_rfl) (by kernel_rfl) hlt (by simp) (fun w h => h) (fun b h => h) (by simp only [List.getElem?_map,hx]; rfl) ?_
 refine kCD 2 [0,1,5,21,22] [(21,.v (.agg (conL x (.slice xa x.r.held.length xc)).toArray)),(22,.v (.int .i64 z))] 26 [.agg (conL x (.slice xa x.r.held.length xc)).toArray,.int .i64 z] (some 23) rfl (xc_e (α := Int) (F := fun y => .int .i64 y) (p := fun r => r = -1 ∨ (0 ≤ r ∧ r ≤ z ∧ ConFit z x)) fun ww hf => szConn_c x.t.ip x.t.port x.t.my x.state x.s.una x.s.data x.s.sent x.s.fin x.s.finSent x.s.done x.r.next x.r.data x.r.held (.slice xa x.r.held.length xc) x.r.fin x.r.done x.window x.most x.o.mss x.o.scale x.o.sack x.o.stamp x.o.val x.o.echo x.timer x.tries z ww ((hf _ m1) (x,.slice xa x.r.held.length xc) (List.mem_of_getElem? hx)) hmx.2.2 (by omega) (by omega) hmx.2.1 hmx.1) ?_
 rintro ⟨r3,hr3⟩
 refine kED [0,1,5] [(1,.v (.int .i64 r3))] ?_
 refine kQ ?_
 refine kED [0,1,5,25] [(25,.v (.bool (decide (r3 < 0))))] ?_
 refine kC (decide (r3 < 0)) (fun h4 => ?_) (fun h4 => ?_)
 have h4p := of_decide_eq_true h4
 refine kQ ?_
 refine kES [4] [(4,.v (.int .i64 (-1)))] ?_
 refine kR ?_
 exact ⟨[.int .i64 (-1)],by kernel_rfl,fun w' hb hf => ⟨_,rfl,.inl rfl,hb⟩⟩
 have h4p := of_decide_eq_false h4
 rcases hr3 with hr3 | ⟨hr3a,hr3b,hr3c⟩
 · omega
 refine kK ?_
 refine kG ?_
 refine kRS 3 [0,1,5] [(0,.v (.slice Aa a.length Ca)),(1,.v (.int .i64 r3)),(5,.v (.int .i64 (IntKind.i64.wrap ((i : Int) + 1))))] ?_
 refine xl_eqS (t' := [(0,.v (.slice Aa a.length Ca)),(1,.v (.int .i64 r3)),(5,.v (.int .i64 ((i : Int) + 1)))]) (by rw [show (IntKind.i64.wrap ((i : Int) + 1)) = ((i : Int) + 1) from wrap_id (by omega) (by omega)]) ?_
 refine kED [0,1,5] [] ?_
 exact ⟨⟨(i + 1,r3),⟨hlt,by omega,by omega,sz_step hx (hr3c.mono (by omega)) HK⟩⟩,kF 0 0 [0,1,5],by show (fun (i : Nat) (z : Int) => a.length - i) (i + 1) r3 < a.length - i; (dsimp only; omega)⟩
 have h2p := of_decide_eq_false h2
 have hge : i = a.length := by simp at h2; omega
 refine xw_exit ?_
 refine kQ ?_
 refine kES [4] [(4,.v (.int .i64 z))] ?_
 refine kR ?_
 exact ⟨[.int .i64 z],by kernel_rfl,fun w' hb hf => ⟨_,rfl,.inr ⟨by omega,by omega,by omega,sz_all hge HK⟩,hb⟩⟩
theorem yszTable_c (c : List CV) (wt : List Tup) (tc : Value) (tw : Value) (left : Int) (w : World) (hl_tc : Sl w tc 25 (c.map conR)) (hh_tc : ∀ x ∈ c, Sl w x.2 2 (x.1.r.held.map pceCells)) (hl_tw : Sl w tw 3 (wt.map tupCells)) (h0 : 0 ≤ left) (h1 : left ≤ 1048576) (hm : ∀ x ∈ c, conMax x.1) : Calls Try.prog 10 #[.agg #[tc, tw], .int .i64 left] w fun e w' => ∃ r : Int, e = .returned (.int .i64 r) ∧ (r = -1 ∨ (0 ≤ r ∧ r ≤ left ∧ (c.length : Int) ≤ left ∧ (∀ x ∈ c, ConFit left x.1) ∧ (wt.length : Int) ≤ left)) ∧ Below w.heap.size w w' := by
 obtain ⟨ra_tc,rc_tc,hv_tc⟩ := hl_tc.form
 rw [List.length_map] at hv_tc; subst hv_tc
 have hn_tc := hl_tc.len; rw [List.length_map] at hn_tc
 have hq_tc := Sl.capLe hl_tc
 obtain ⟨ra_tw,rc_tw,hv_tw⟩ := hl_tw.form
 rw [List.length_map] at hv_tw; subst hv_tw
 have hn_tw := hl_tw.len; rw [List.length_map] at hn_tw
 have hq_tw := Sl.capLe hl_tw
 refine x_calls (args := [.agg #[.slice ra_tc c.length rc_tc,.slice ra_tw wt.length rc_tw],.int .i64 left]) (fn := Try.f10) [slF (.slice ra_tc c.length rc_tc) 25 (c.map conR),hldF c,slF (.slice ra_tw wt.length rc_tw) 3 (wt.map tupCells)] Try.func10 rfl Try.ntmps10 rfl (by simp only [List.mem_cons,List.not_mem_nil,or_false,forall_eq_or_imp,forall_eq]; exact ⟨⟨rfl,hl_tc⟩,⟨rfl,hh_tc⟩,⟨rfl,hl_tw⟩⟩) ?_
 refine kQ ?_
 refine kEF [1,2] ⟨[(1,.v (.int .i64 left)),(2,.p 0 0)],[⟨25,[.slice ra_tc c.length rc_tc,.slice ra_tw wt.length rc_tw]⟩],[],[slF (.slice ra_tc c.length rc_tc) 25 (c.map conR),hldF c,slF (.slice ra_tw wt.length rc_tw) 3 (wt.map tupCells)]⟩ ?_
 refine kQ ?_
 refine kCD 3 [1,2,6,7] [(6,.v (.slice ra_tc c.length rc_tc)),(7,.v (.int .i64 left))] 36 [.slice ra_tc c.length rc_tc,.int .i64 left] (some 8) rfl (xc_e (α := Int) (F := fun y => .int .i64 y) (p := fun r => szP left r c) fun ww hf => yszConnS_c c (.slice ra_tc c.length rc_tc) left ww (hf _ m0) (hf _ m1) (by omega) (by omega) hm) ?_
 rintro ⟨r1,hr1⟩
 refine kED [1,2] [(1,.v (.int .i64 r1))] ?_
 refine kS ?_
 refine kQ ?_
 refine kED [1,2,10] [(10,.v (.bool (decide (r1 < 0))))] ?_
 refine kC (decide (r1 < 0)) (fun h2 => ?_) (fun h2 => ?_)
 have h2p := of_decide_eq_true h2
 refine kQ ?_
 refine kES [4] [(4,.v (.int .i64 (-1)))] ?_
 refine kR ?_
 exact ⟨[.int .i64 (-1)],by kernel_rfl,fun w' hb hf => ⟨_,rfl,.inl rfl,hb⟩⟩
 have h2p := of_decide_eq_false h2
 rcases hr1 with hr1 | ⟨hr1a,hr1b,hr1n,hr1c⟩
 · omega
 refine kK ?_
 refine kQ ?_
 refine kCD 3 [1,12,13] [(12,.v (.slice ra_tw wt.length rc_tw)),(13,.v (.int .i64 r1))] 37 [.slice ra_tw wt.length rc_tw,.int .i64 r1] (some 14) rfl (xc_s fun ww hf => szTupleS_c (.slice ra_tw wt.length rc_tw) wt r1 ww (hf _ m2) (by omega) (by omega)) ?_
 intro _
 refine kES [1] [(1,.v (.int .i64 (if (r1 : Int) < wt.length then -1 else (r1 : Int) - wt.length)))] ?_
 refine kS ?_
 refine kQ ?_
 refine kED [1,16] [(16,.v (.bool (decide ((if (r1 : Int) < wt.length then -1 else (r1 : Int) - wt.length) < 0))))] ?_
 refine kC (decide ((if (r1 : Int) < wt.length then -1 else (r1 : Int) - wt.length) < 0)) (fun h3 => ?_) (fun h3 => ?_)
 have h3p := of_decide_eq_true h3
 refine kQ ?_
 refine kES [4] [(4,.v (.int .i64 (-1)))] ?_
 refine kR ?_
 exact ⟨[.int .i64 (-1)],by kernel_rfl,fun w' hb hf => ⟨_,rfl,.inl rfl,hb⟩⟩
 have h3p := of_decide_eq_false h3
 have hsz_wt : wt.length ≤ 1048576 := by by_cases hh : (r1 : Int) < (wt.length : Int) <;> simp [hh] at h3; omega
 refine kK ?_
 refine kQ ?_
 refine kES [4] [(4,.v (.int .i64 (if (r1 : Int) < wt.length then -1 else (r1 : Int) - wt.length)))] ?_
 refine kR ?_
 exact ⟨[.int .i64 (if (r1 : Int) < wt.length then -1 else (r1 : Int) - wt.length)],by kernel_rfl,fun w' hb hf => ⟨_,rfl,.inr ⟨by split <;> omega,by split <;> omega,by omega,by assumption,by omega⟩,hb⟩⟩
theorem ytoConnS_c (a : List CV) (aV : Value) (w : World) (hl_aV : Sl w aV 25 (a.map conR)) (hh_aV : ∀ x ∈ a, Sl w x.2 2 (x.1.r.held.map pceCells)) (hfit : ∀ x ∈ a, conFit x.1) (hln : a.length ≤ 1048576) (B : Nat) (hB : B ≤ w.heap.size) : Calls Try.prog 38 #[aV] w fun e w' => XRs w w' e (α := {cs : List CV // pl cs = pl a} × (Option Addr × Nat)) (fun y => .slice y.2.1 y.1.1.length y.2.2) (fun y => [rowF B 68 25 (.slice y.2.1 y.1.1.length y.2.2) (y.1.1.map conR), hownF B y.1.1]) := by
 obtain ⟨Aa,Ca,hva⟩ := hl_aV.form
 rw [List.length_map] at hva; subst hva
 have hna := hl_aV.len; rw [List.length_map] at hna
 have hqa := Sl.capLe hl_aV
 refine x_callsA (args := [.slice Aa a.length Ca]) (fn := Try.f38) [slF (.slice Aa a.length Ca) 25 (a.map conR),hldF a] Try.func38 rfl Try.ntmps38 rfl (by simp only [List.mem_cons,List.not_mem_nil,or_false,forall_eq_or_imp,forall_eq]; exact ⟨⟨rfl,hl_aV⟩,⟨rfl,hh_aV⟩⟩) ?_
 refine kQ ?_
 refine kEF [0] ⟨[(0,.v (.slice Aa a.length Ca))],[],[],[slF (.slice Aa a.length Ca) 25 (a.map conR),hldF a]⟩ ?_
 refine kQ ?_
 refine kHD 2 [0,6] [(6,.v (.int .i64 ((a.length : Nat) : Int)))] rfl (hv_make (kl := .i64) (kc := .i64) (e := 68) (K := 25) (bytes := 208) (m := a.length) (z := .agg (conZ).toArray) (rs := (List.replicate a.length ((⟨⟨0,0,0⟩,0,⟨0,(⟨#[]⟩ : ByteArray),0,false,false,false⟩,⟨0,(⟨#[]⟩ : ByteArray),[],0,false⟩,0,0,⟨0,0,false,false,0,0⟩,0,0⟩,.slice none 0 0) : CV)).map conR) rfl (by kernel_rfl) (by kernel_rfl) (by kernel_rfl) (by kernel_rfl) (by (try simp only [List.length_map,List.length_append,List.length_cons,List.length_nil,List.length_take,List.length_drop,maxLen]); omega) (by (try simp only [List.length_map,List.length_append,List.length_cons,List.length_nil,List.length_take,List.length_drop,maxLen]); omega) (by rw [List.map_replicate]; rfl)) ?_
 intro g1
 refine kED [0,3] [(3,.v (.slice (some ⟨g1,0,none⟩) a.length a.length))] ?_
 refine kS ?_
 refine kQ ?_
 refine kED [0,3,4] [(4,.v (.int .i64 0))] ?_
 refine xw_block ?_
 refine xw_free (hownF w.heap.size (List.replicate a.length ((⟨⟨0,0,0⟩,0,⟨0,(⟨#[]⟩ : ByteArray),0,false,false,false⟩,⟨0,(⟨#[]⟩ : ByteArray),[],0,false⟩,0,0,⟨0,0,false,false,0,0⟩,0,0⟩,.slice none 0 0) : CV))) (fun ww _ => hownF_rep ww _ _) (fun b => hownF_repb) ?_
 refine xw_loopW (α := {x : Nat × List CV // (fun (i : Nat) (l : List CV) => i ≤ a.length ∧ l.length = a.length ∧ (pl l).take i = (pl a).take i) x.1 x.2}) (fun x => (fun (i : Nat) (l : List CV) => (⟨[(0,.v (.slice Aa a.length Ca)),(3,.v (.slice (some ⟨g1,0,none⟩) a.length a.length)),(4,.v (.int .i64 (i : Int)))],[],[],[hownF w.heap.size l,rowF w.heap.size 68 25 (.slice (some ⟨g1,0,none⟩) a.length a.length) (l.map conR),slF (.slice Aa a.length Ca) 25 (a.map conR),hldF a]⟩ : St)) x.1.1 x.1.2) (fun x => (fun (i : Nat) (l : List CV) => a.length - i) x.1.1 x.1.2) ⟨(0,(List.replicate a.length ((⟨⟨0,0,0⟩,0,⟨0,(⟨#[]⟩ : ByteArray),0,false,false,false⟩,⟨0,(⟨#[]⟩ : ByteArray),[],0,false⟩,0,0,⟨0,0,false,false,0,0⟩,0,0⟩,.slice none 0 0) : CV))),⟨Nat.zero_le _,List.length_replicate,rfl⟩⟩ (kPk [0,1,2,3] <| kF 0 0 [0,3,4]) ?_
 rintro ⟨⟨i,l⟩,hi,hll,HK⟩
 try dsimp only
 try dsimp only at hi hll HK
 refine kS ?_
 refine kQ ?_
 refine kED [0,3,4,11] [(11,.v (.bool (decide ((i : Int) < ((a.length : Nat) : Int)))))] ?_
 refine kC (decide ((i : Int) < ((a.length : Nat) : Int))) (fun h2 => ?_) (fun h2 => ?_)
 have h2p := of_decide_eq_true h2
 have hlt : i < a.length := by simpa using h2
 obtain ⟨x0,hx⟩ : ∃ x,a[i]? = some x := ⟨_,List.getElem?_eq_getElem hlt⟩
 obtain ⟨x,xa,xc,rfl⟩ := cv_form (hh_aV x0 (List.mem_of_getElem? hx))
 have hft_x : conFit x := hfit _ (List.mem_of_getElem? hx)
 obtain ⟨hfs_x,hfr_x,hfh_x,hfp_x⟩ := hft_x
 obtain ⟨z,hz⟩ : ∃ z,l[i]? = some z := ⟨_,List.getElem?_eq_getElem (by omega)⟩
 refine kK ?_
 refine kS ?_
 refine xw_block ?_
 refine kG ?_
 refine xl_indexD (kd := .i64) (T := 22) (e := 59) (K := 25) 4 [0,3,4,14,15,16,17] [(14,.v (.slice (some ⟨g1,0,none⟩) a.length a.length)),(15,.v (.int .i64 (i : Int))),(16,.v (.slice Aa a.length Ca)),(17,.v (.int .i64 (i : Int)))] i [.int .i64 x.t.ip,.int .i64 x.t.port,.int .i64 x.t.my,.int .i64 x.state,.int .i64 x.s.una,.string x.s.data,.int .i64 x.s.sent,.bool x.s.fin,.bool x.s.finSent,.bool x.s.done,.int .i64 x.r.next,.string x.r.data,.slice xa x.r.held.length xc,.int .i64 x.r.fin,.bool x.r.done,.int .i64 x.window,.int .i64 x.most,.int .i64 x.o.mss,.int .i64 x.o.scale,.bool x.o.sack,.bool x.o.stamp,.int .i64 x.o.val,.int .i64 x.o.echo,.int .i64 x.timer,.int .i64 x.tries] (slF (.slice Aa a.length Ca) 25 (a.map conR)) (by kernel_rfl) rfl (by kernel_rfl) rfl rfl (by kernel_rfl) (by kernel_rfl) (by kernel_rfl) (by kernel_rfl) hlt (by simp) (fun w h => h) (fun b h => h) (by simp only [List.getElem?_map,hx]; rfl) ?_
 refine kCD 1 [0,3,4,14,15,19] [(19,.v (.agg (conL x (.slice xa x.r.held.length xc)).toArray))] 28 [.agg (conL x (.slice xa x.r.held.length xc)).toArray] (some 20) rfl (xc_on (m := x.r.held.length) (F := fun v' => .agg (conL x v').toArray) (List.length_map ..) fun ww hf => toConn_c x.t.ip x.t.port x.t.my x.state x.s.una x.s.data x.s.sent x.s.fin x.s.finSent x.s.done x.r.next x.r.data x.r.held (.slice xa x.r.held.length xc) x.r.fin x.r.done x.window x.most x.o.mss x.o.scale x.o.sack x.o.stamp x.o.val x.o.echo x.timer x.tries ww ((hf _ m3) (x,.slice xa x.r.held.length xc) (List.mem_of_getElem? hx)) (by omega)) ?_
 rintro ⟨v3a,v3c⟩
 refine kOD 0 [0,3,4,14,15,20] [] (.pointer (some ⟨g1,i * 25,none⟩)) rfl (fun _ _ _ ww hr => act_ix (kd := .i64) (T := 30) (e := 68) (K := 25) (g := g1) (N := a.length) (cap := a.length) i rfl hr.1 rfl rfl (by kernel_rfl) (by kernel_rfl) (by kernel_rfl) (by omega) ww) ?_
 refine xl_hs 0 [0,3,4,20,21] ⟨[(0,.v (.slice Aa a.length Ca)),(3,.v (.slice (some ⟨g1,0,none⟩) a.length a.length)),(4,.v (.int .i64 (i : Int))),(20,.v (.agg (conL x (.slice v3a x.r.held.length v3c)).toArray)),(21,.v (.pointer (some ⟨g1,i * 25,none⟩)))],[],[[.int .i64 x.t.ip,.int .i64 x.t.port,.int .i64 x.t.my,.int .i64 x.state,.int .i64 x.s.una,.string x.s.data,.int .i64 x.s.sent,.bool x.s.fin,.bool x.s.finSent,.bool x.s.done,.int .i64 x.r.next,.string x.r.data,.slice xa x.r.held.length xc,.int .i64 x.r.fin,.bool x.r.done,.int .i64 x.window,.int .i64 x.most,.int .i64 x.o.mss,.int .i64 x.o.scale,.bool x.o.sack,.bool x.o.stamp,.int .i64 x.o.val,.int .i64 x.o.echo,.int .i64 x.timer,.int .i64 x.tries]],[ownF w.heap.size (.slice v3a x.r.held.length v3c) 2 (x.r.held.map pceCells),hownF w.heap.size l,rowF w.heap.size 68 25 (.slice (some ⟨g1,0,none⟩) a.length a.length) (l.map conR),slF (.slice Aa a.length Ca) 25 (a.map conR),hldF a]⟩ (by kernel_rfl) rfl (by kernel_rfl) rfl (by kernel_rfl) (HSg.hs (hs_stR (g := g1) (B := w.heap.size) (e := 68) (K := 25) (N := a.length) (cap := a.length) (rs := (l.map conR)) (rs' := (l.set i (((x,.slice v3a x.r.held.length v3c) : CV))).map conR) (v := (.agg (conL x (.slice v3a x.r.held.length v3c)).toArray)) (i := 2) (off := i * 25) i 0 [.int .i64 z.1.t.ip,.int .i64 z.1.t.port,.int .i64 z.1.t.my,.int .i64 z.1.state,.int .i64 z.1.s.una,.string z.1.s.data,.int .i64 z.1.s.sent,.bool z.1.s.fin,.bool z.1.s.finSent,.bool z.1.s.done,.int .i64 z.1.r.next,.string z.1.r.data,z.2,.int .i64 z.1.r.fin,.bool z.1.r.done,.int .i64 z.1.window,.int .i64 z.1.most,.int .i64 z.1.o.mss,.int .i64 z.1.o.scale,.bool z.1.o.sack,.bool z.1.o.stamp,.int .i64 z.1.o.val,.int .i64 z.1.o.echo,.int .i64 z.1.timer,.int .i64 z.1.tries] (row' := [.int .i64 x.t.ip,.int .i64 x.t.port,.int .i64 x.t.my,.int .i64 x.state,.int .i64 x.s.una,.string x.s.data,.int .i64 x.s.sent,.bool x.s.fin,.bool x.s.finSent,.bool x.s.done,.int .i64 x.r.next,.string x.r.data,.slice v3a x.r.held.length v3c,.int .i64 x.r.fin,.bool x.r.done,.int .i64 x.window,.int .i64 x.most,.int .i64 x.o.mss,.int .i64 x.o.scale,.bool x.o.sack,.bool x.o.stamp,.int .i64 x.o.val,.int .i64 x.o.echo,.int .i64 x.timer,.int .i64 x.tries]) rfl rfl (by kernel_rfl) rfl (by kernel_rfl) (by kernel_rfl) (by kernel_rfl) (by kernel_rfl) (Nat.le_refl _) (by simp only [List.getElem?_map,hz]; rfl) (by kernel_rfl) rfl (by rw [List.map_set]; rfl))) ?_
 refine kED [0,3,4] [] ?_
 refine kG ?_
 refine kRD 3 [0,3,4] [(4,.v (.int .i64 (IntKind.i64.wrap ((i : Int) + 1))))] ?_
 refine xl_nv [0,3,4] [(4,.v (.int .i64 (IntKind.i64.wrap ((i : Int) + 1))))] [(4,.v (.int .i64 ((i : Int) + 1)))] (by rw [show (IntKind.i64.wrap ((i : Int) + 1)) = ((i : Int) + 1) from wrap_id (by omega) (by omega)]) (by kernel_rfl) ?_
 refine kES [0,3,4] [(0,.v (.slice Aa a.length Ca)),(3,.v (.slice (some ⟨g1,0,none⟩) a.length a.length)),(4,.v (.int .i64 ((i : Int) + 1)))] ?_
 exact ⟨⟨(i + 1,(l.set i (((x,.slice v3a x.r.held.length v3c) : CV)))),⟨hlt,(by rw [List.length_set]; exact hll),pl_set (x := (x,_)) HK hx (by omega)⟩⟩,kPk [1,2,0,3,4] <| (wk_turn (fun _ _ _ _ h => hown_set (cs := l) (i := i) (x := (((x,.slice v3a x.r.held.length v3c) : CV))) (by omega) h)).trans <| kF 0 0 [0,3,4],by show (fun (i : Nat) (l : List CV) => a.length - i) (i + 1) (l.set i (((x,.slice v3a x.r.held.length v3c) : CV))) < a.length - i; (dsimp only; omega)⟩
 have h2p := of_decide_eq_false h2
 have hge : i = a.length := by simp at h2; omega
 refine xw_exit ?_
 refine kQ ?_
 refine kES [2] [(2,.v (.slice (some ⟨g1,0,none⟩) a.length a.length))] ?_
 refine kR ?_
 have hmc : pl l = pl a := by subst hge; have h1 := HK; rw [← hll] at h1; unfold pl at h1 ⊢; rw [List.take_of_length_le (by simp)] at h1; rw [h1,List.take_of_length_le (by simp; omega)]
 exact ⟨[.slice (some ⟨g1,0,none⟩) a.length a.length],by kernel_rfl,fun w' hb hf ha => xo2 (⟨l,hmc⟩,(((some ⟨g1,0,none⟩) : Option Addr),l.length)) (by show Value.slice _ _ _ = Value.slice _ _ _; rw [hll]) rfl (pW (by have h := hf (rowF w.heap.size 68 25 (.slice (some ⟨g1,0,none⟩) a.length a.length) (l.map conR)) (by simp); rw [← hll] at h; exact h) hB) (pH (hf (hownF w.heap.size l) (by simp)) hB) (Apart.sub2 ha (i := 1) (j := 0) rfl rfl (by decide) rfl (fun b h => h) (fun b h => hownF_blk h)) hb⟩
theorem ytoTable_c (t : Tab) (t_connsV : Value) (t_waitingV : Value) (w : World) (hl_t_connsV : Sl w t_connsV 25 (t.conns.map conR)) (hh_t_connsV : ∀ x ∈ t.conns, Sl w x.2 2 (x.1.r.held.map pceCells)) (hl_t_waitingV : Sl w t_waitingV 3 (t.waiting.map tupCells)) (hfit : ∀ x ∈ t.conns, conFit x.1) (hln : t.conns.length ≤ 1048576) (hlw : t.waiting.length ≤ 1048576) (B : Nat) (hB : B ≤ w.heap.size) : Calls Try.prog 12 #[.agg (tabL t t_connsV t_waitingV).toArray] w fun e w' => XRs w w' e (α := {cs : List CV // pl cs = pl t.conns} × (Option Addr × Nat) × (Option Addr × Nat)) (fun y => .agg #[.slice y.2.1.1 y.1.1.length y.2.1.2, .slice y.2.2.1 t.waiting.length y.2.2.2]) (fun y => [rowF B 68 25 (.slice y.2.1.1 y.1.1.length y.2.1.2) (y.1.1.map conR), hownF B y.1.1, ownF B (.slice y.2.2.1 t.waiting.length y.2.2.2) 3 (t.waiting.map tupCells)]) := by
 obtain ⟨Atc,Ctc,hvtc⟩ := hl_t_connsV.form
 rw [List.length_map] at hvtc; subst hvtc
 have hntc := hl_t_connsV.len; rw [List.length_map] at hntc
 have hqtc := Sl.capLe hl_t_connsV
 obtain ⟨Atw,Ctw,hvtw⟩ := hl_t_waitingV.form
 rw [List.length_map] at hvtw; subst hvtw
 have hntw := hl_t_waitingV.len; rw [List.length_map] at hntw
 have hqtw := Sl.capLe hl_t_waitingV
 refine x_callsA (args := [.agg (tabL t (.slice Atc t.conns.length Ctc) (.slice Atw t.waiting.length Ctw)).toArray]) (fn := Try.f12) [slF (.slice Atc t.conns.length Ctc) 25 (t.conns.map conR),hldF t.conns,slF (.slice Atw t.waiting.length Ctw) 3 (t.waiting.map tupCells)] Try.func12 rfl Try.ntmps12 rfl (by simp only [List.mem_cons,List.not_mem_nil,or_false,forall_eq_or_imp,forall_eq]; exact ⟨⟨rfl,hl_t_connsV⟩,⟨rfl,hh_t_connsV⟩,⟨rfl,hl_t_waitingV⟩⟩) ?_
 refine kQ ?_
 refine kEF [1,2] ⟨[(1,.p 0 0),(2,.p 1 0)],[⟨25,tabL t (.slice Atc t.conns.length Ctc) (.slice Atw t.waiting.length Ctw)⟩,⟨33,[.slice none 0 0,.slice none 0 0]⟩],[],[slF (.slice Atc t.conns.length Ctc) 25 (t.conns.map conR),hldF t.conns,slF (.slice Atw t.waiting.length Ctw) 3 (t.waiting.map tupCells)]⟩ ?_
 refine kQ ?_
 refine kEA [1,2,3] [(3,.p 2 0)] [⟨33,[.slice none 0 0,.slice none 0 0]⟩] ?_
 refine kQ ?_
 refine kCD 2 [1,2,3,5] [(5,.v (.slice Atc t.conns.length Ctc))] 38 [.slice Atc t.conns.length Ctc] (some 6) rfl (xc_r fun ww hw hf => ytoConnS_c t.conns (.slice Atc t.conns.length Ctc) ww (hf _ m0) (hf _ m1) (by assumption) (by omega) w.heap.size hw) ?_
 rintro ⟨⟨t1l,ht1l⟩,⟨t1a,t1c⟩⟩
 dsimp only
 refine kEU [1,2,3] [] 2 ⟨33,[.slice t1a t1l.length t1c,.slice none 0 0]⟩ ?_
 refine kQ ?_
 refine kCD 2 [2,3,9] [(9,.v (.slice Atw t.waiting.length Ctw))] 39 [.slice Atw t.waiting.length Ctw] (some 10) rfl (xc_on (m := t.waiting.length) (F := fun v' => v') (List.length_map ..) fun ww hf => toTupleS_c (.slice Atw t.waiting.length Ctw) t.waiting ww (hf _ m4) (by omega)) ?_
 rintro ⟨v2a,v2c⟩
 refine kEU [2,3] [] 2 ⟨33,tabL { t with conns := t1l } (.slice t1a t1l.length t1c) (.slice v2a t.waiting.length v2c)⟩ ?_
 refine kQ ?_
 refine kEU [2] [(2,.p 1 0)] 1 ⟨33,tabL { t with conns := t1l } (.slice t1a t1l.length t1c) (.slice v2a t.waiting.length v2c)⟩ ?_
 refine kR ?_
 have hmc : pl t1l = pl t.conns := by assumption
 exact ⟨[.agg (tabL { t with conns := t1l } (.slice t1a t1l.length t1c) (.slice v2a t.waiting.length v2c)).toArray],by kernel_rfl,fun w' hb hf ha => by exact xo3 (⟨t1l,hmc⟩,(t1a,t1c),(v2a,v2c)) rfl rfl (pW (hf _ m1) hB) (pH (hf _ m2) hB) (pO (hf _ m0) hB) (Apart.sub3 ha [1,2,0] rfl (by decide) rfl rfl rfl (by exact fun b h => h) (fun b h => hownF_blk h) (fun b h => h)) hb⟩
theorem yeqConnS_c (a : List CV) (aV : Value) (b : List CV) (bV : Value) (w : World) (hl_aV : Sl w aV 25 (a.map conR)) (hh_aV : ∀ x ∈ a, Sl w x.2 2 (x.1.r.held.map pceCells)) (hl_bV : Sl w bV 25 (b.map conR)) (hh_bV : ∀ x ∈ b, Sl w x.2 2 (x.1.r.held.map pceCells)) (hpl : pl a = pl b) : Calls Try.prog 42 #[aV, bV] w fun e w' => e = .returned (.bool true) ∧ Below w.heap.size w w' := by
 obtain ⟨Aa,Ca,hva⟩ := hl_aV.form
 rw [List.length_map] at hva; subst hva
 have hna := hl_aV.len; rw [List.length_map] at hna
 have hqa := Sl.capLe hl_aV
 obtain ⟨Ab,Cb,hvb⟩ := hl_bV.form
 rw [List.length_map] at hvb; subst hvb
 have hnb := hl_bV.len; rw [List.length_map] at hnb
 have hqb := Sl.capLe hl_bV
 have hlab := pl_len hpl
 refine x_calls (args := [.slice Aa a.length Ca,.slice Ab b.length Cb]) (fn := Try.f42) [slF (.slice Aa a.length Ca) 25 (a.map conR),hldF a,slF (.slice Ab b.length Cb) 25 (b.map conR),hldF b] Try.func42 rfl Try.ntmps42 rfl (by simp only [List.mem_cons,List.not_mem_nil,or_false,forall_eq_or_imp,forall_eq]; exact ⟨⟨rfl,hl_aV⟩,⟨rfl,hh_aV⟩,⟨rfl,hl_bV⟩,⟨rfl,hh_bV⟩⟩) ?_
 refine kQ ?_
 refine kEF [0,1] ⟨[(0,.v (.slice Aa a.length Ca)),(1,.v (.slice Ab b.length Cb))],[],[],[slF (.slice Aa a.length Ca) 25 (a.map conR),hldF a,slF (.slice Ab b.length Cb) 25 (b.map conR),hldF b]⟩ ?_
 refine kS ?_
 refine kQ ?_
 refine kED [0,1,10] [(10,.v (.bool (((a.length : Nat) : Int) != ((b.length : Nat) : Int))))] ?_
 refine kC (((a.length : Nat) : Int) != ((b.length : Nat) : Int)) (fun h1 => ?_) (fun h1 => ?_)
 have h1p := neT h1
 exfalso; simp at h1; omega
 have h1p := neF h1
 refine kK ?_
 refine kS ?_
 refine kQ ?_
 refine kED [0,1,5] [(5,.v (.int .i64 0))] ?_
 refine xw_block ?_
 refine xw_loopW (α := {x : Nat // (fun (i : Nat) => i ≤ a.length) x}) (fun x => (fun (i : Nat) => (⟨[(0,.v (.slice Aa a.length Ca)),(1,.v (.slice Ab b.length Cb)),(5,.v (.int .i64 (i : Int)))],[],[],[slF (.slice Aa a.length Ca) 25 (a.map conR),hldF a,slF (.slice Ab b.length Cb) 25 (b.map conR),hldF b]⟩ : St)) x.1) (fun x => (fun (i : Nat) => a.length - i) x.1) ⟨(0),Nat.zero_le _⟩ (kF 0 0 [0,1,5]) ?_
 rintro ⟨i,hi⟩
 try dsimp only
 try dsimp only at hi
 refine kS ?_
 refine kQ ?_
 refine kED [0,1,5,14] [(14,.v (.bool (decide ((i : Int) < ((a.length : Nat) : Int)))))] ?_
 refine kC (decide ((i : Int) < ((a.length : Nat) : Int))) (fun h2 => ?_) (fun h2 => ?_)
 have h2p := of_decide_eq_true h2
 have hlt : i < a.length := by simpa using h2
 obtain ⟨x0,hx⟩ : ∃ x,a[i]? = some x := ⟨_,List.getElem?_eq_getElem hlt⟩
 obtain ⟨x,xa,xc,rfl⟩ := cv_form (hh_aV x0 (List.mem_of_getElem? hx))
 obtain ⟨u,hu⟩ := pl_get hpl hx
 refine kK ?_
 refine kS ?_
 refine xw_block ?_
 refine kS ?_
 refine xws_start ?_
 refine xws_row (K := 25) (j := i) [.int .i64 x.t.ip,.int .i64 x.t.port,.int .i64 x.t.my,.int .i64 x.state,.int .i64 x.s.una,.string x.s.data,.int .i64 x.s.sent,.bool x.s.fin,.bool x.s.finSent,.bool x.s.done,.int .i64 x.r.next,.string x.r.data,.slice xa x.r.held.length xc,.int .i64 x.r.fin,.bool x.r.done,.int .i64 x.window,.int .i64 x.most,.int .i64 x.o.mss,.int .i64 x.o.scale,.bool x.o.sack,.bool x.o.stamp,.int .i64 x.o.val,.int .i64 x.o.echo,.int .i64 x.timer,.int .i64 x.tries] (slF (.slice Aa a.length Ca) 25 (a.map conR)) (fun _ _ h => h) (by simp) (fun w h => h) (fun b h => h) (by simp only [List.getElem?_map,hx]; rfl) (fun bq3 offq3 hAq3 => ?_)
 refine xws_row (K := 25) (j := i) [.int .i64 x.t.ip,.int .i64 x.t.port,.int .i64 x.t.my,.int .i64 x.state,.int .i64 x.s.una,.string x.s.data,.int .i64 x.s.sent,.bool x.s.fin,.bool x.s.finSent,.bool x.s.done,.int .i64 x.r.next,.string x.r.data,u,.int .i64 x.r.fin,.bool x.r.done,.int .i64 x.window,.int .i64 x.most,.int .i64 x.o.mss,.int .i64 x.o.scale,.bool x.o.sack,.bool x.o.stamp,.int .i64 x.o.val,.int .i64 x.o.echo,.int .i64 x.timer,.int .i64 x.tries] (slF (.slice Ab b.length Cb) 25 (b.map conR)) (fun _ _ h => h) (by simp) (fun w h => h) (fun b h => h) (by simp only [List.getElem?_map,hu]; rfl) (fun bq4 offq4 hAq4 => ?_)
 refine xws_regionE [] (by kernel_rfl) (fun ρ σ hq5 => ?_)
 refine kTD [0,1,4,5] [22,21,18,17,0,1,5] 6 [(22,.v (.int .i64 (i : Int))),(21,.v (.slice Ab b.length Cb)),(18,.v (.int .i64 (i : Int))),(17,.v (.slice Aa a.length Ca))] ?_
 refine xe_takeI (kd := .i64) (T := 30) (e := 68) (K := 25) (j := i) (A := Aa) (len := a.length) (cap := Ca) 2 0 _ rfl (by kernel_rfl) (by kernel_rfl) (by kernel_rfl) (fun _ _ h => h) (by kernel_rfl) rfl rfl (by kernel_rfl) (by kernel_rfl) (by kernel_rfl) (by kernel_rfl) hlt hAq3 hq5.1.2 (by kernel_rfl) rfl ?_
 refine kTD [3] [20,22,21,0,1,5] 4 [(20,.v (.agg (conL x (.slice xa x.r.held.length xc)).toArray))] ?_
 refine xe_takeI (kd := .i64) (T := 30) (e := 68) (K := 25) (j := i) (A := Ab) (len := b.length) (cap := Cb) 6 1 _ rfl (by kernel_rfl) (by kernel_rfl) (by kernel_rfl) (fun _ _ h => h) (by kernel_rfl) rfl rfl (by kernel_rfl) (by kernel_rfl) (by kernel_rfl) (by kernel_rfl) (by omega) hAq4 hq5.2 (by kernel_rfl) rfl ?_
 refine kTD [7] [24,20,0,1,5] 2 [(24,.v (.agg (conL x u).toArray))] ?_
 refine kA [8] ?_
 refine kSC 8 30 [.agg (conL x (.slice xa x.r.held.length xc)).toArray,.agg (conL x u).toArray] (some 25) rfl (xc_b fun ww hf => eqConn_c x.t.ip x.t.port x.t.my x.state x.s.una x.s.data x.s.sent x.s.fin x.s.finSent x.s.done x.r.next x.r.data x.r.held (.slice xa x.r.held.length xc) x.r.fin x.r.done x.window x.most x.o.mss x.o.scale x.o.sack x.o.stamp x.o.val x.o.echo x.timer x.tries u ww ((hf _ m1) (x,.slice xa x.r.held.length xc) (List.mem_of_getElem? hx)) ((hf _ m3) (x,u) (List.mem_of_getElem? hu))) ?_
 intro _
 refine kTD [9] [26,0,1,5] 0 [(26,.v (.bool false))] ?_
 refine kZ ?_
 refine kN ?_
 refine kK ?_
 refine kG ?_
 refine kRD 3 [0,1,5] [(5,.v (.int .i64 (IntKind.i64.wrap ((i : Int) + 1))))] ?_
 refine xl_nv [0,1,5] [(5,.v (.int .i64 (IntKind.i64.wrap ((i : Int) + 1))))] [(5,.v (.int .i64 ((i : Int) + 1)))] (by rw [show (IntKind.i64.wrap ((i : Int) + 1)) = ((i : Int) + 1) from wrap_id (by omega) (by omega)]) (by kernel_rfl) ?_
 refine kED [0,1,5] [] ?_
 exact ⟨⟨(i + 1),hlt⟩,kF 0 0 [0,1,5],by show (fun (i : Nat) => a.length - i) (i + 1) < a.length - i; (dsimp only; omega)⟩
 have h2p := of_decide_eq_false h2
 have hge : i = a.length := by simp at h2; omega
 refine xw_exit ?_
 refine kQ ?_
 refine kES [4] [(4,.v (.bool true))] ?_
 refine kR ?_
 exact ⟨[.bool true],by kernel_rfl,fun w' hb hf => ⟨rfl,hb⟩⟩
theorem yeqTable_c (a : List CV) (wt : List Tup) (pc : Value) (pw : Value) (b : List CV) (qc : Value) (qw : Value) (w : World) (hl_pc : Sl w pc 25 (a.map conR)) (hh_pc : ∀ x ∈ a, Sl w x.2 2 (x.1.r.held.map pceCells)) (hl_pw : Sl w pw 3 (wt.map tupCells)) (hl_qc : Sl w qc 25 (b.map conR)) (hh_qc : ∀ x ∈ b, Sl w x.2 2 (x.1.r.held.map pceCells)) (hl_qw : Sl w qw 3 (wt.map tupCells)) (hpl : pl a = pl b) : Calls Try.prog 15 #[.agg #[pc, pw], .agg #[qc, qw]] w fun e w' => e = .returned (.bool true) ∧ Below w.heap.size w w' := by
 obtain ⟨ra_pc,rc_pc,hv_pc⟩ := hl_pc.form
 rw [List.length_map] at hv_pc; subst hv_pc
 have hn_pc := hl_pc.len; rw [List.length_map] at hn_pc
 have hq_pc := Sl.capLe hl_pc
 obtain ⟨ra_pw,rc_pw,hv_pw⟩ := hl_pw.form
 rw [List.length_map] at hv_pw; subst hv_pw
 have hn_pw := hl_pw.len; rw [List.length_map] at hn_pw
 have hq_pw := Sl.capLe hl_pw
 obtain ⟨ra_qc,rc_qc,hv_qc⟩ := hl_qc.form
 rw [List.length_map] at hv_qc; subst hv_qc
 have hn_qc := hl_qc.len; rw [List.length_map] at hn_qc
 have hq_qc := Sl.capLe hl_qc
 obtain ⟨ra_qw,rc_qw,hv_qw⟩ := hl_qw.form
 rw [List.length_map] at hv_qw; subst hv_qw
 have hn_qw := hl_qw.len; rw [List.length_map] at hn_qw
 have hq_qw := Sl.capLe hl_qw
 refine x_calls (args := [.agg #[.slice ra_pc a.length rc_pc,.slice ra_pw wt.length rc_pw],.agg #[.slice ra_qc b.length rc_qc,.slice ra_qw wt.length rc_qw]]) (fn := Try.f15) [slF (.slice ra_pc a.length rc_pc) 25 (a.map conR),hldF a,slF (.slice ra_pw wt.length rc_pw) 3 (wt.map tupCells),slF (.slice ra_qc b.length rc_qc) 25 (b.map conR),hldF b,slF (.slice ra_qw wt.length rc_qw) 3 (wt.map tupCells)] Try.func15 rfl Try.ntmps15 rfl (by simp only [List.mem_cons,List.not_mem_nil,or_false,forall_eq_or_imp,forall_eq]; exact ⟨⟨rfl,hl_pc⟩,⟨rfl,hh_pc⟩,⟨rfl,hl_pw⟩,⟨rfl,hl_qc⟩,⟨rfl,hh_qc⟩,⟨rfl,hl_qw⟩⟩) ?_
 refine kQ ?_
 refine kEF [2,3] ⟨[(2,.p 0 0),(3,.p 1 0)],[⟨33,[.slice ra_pc a.length rc_pc,.slice ra_pw wt.length rc_pw]⟩,⟨33,[.slice ra_qc b.length rc_qc,.slice ra_qw wt.length rc_qw]⟩],[],[slF (.slice ra_pc a.length rc_pc) 25 (a.map conR),hldF a,slF (.slice ra_pw wt.length rc_pw) 3 (wt.map tupCells),slF (.slice ra_qc b.length rc_qc) 25 (b.map conR),hldF b,slF (.slice ra_qw wt.length rc_qw) 3 (wt.map tupCells)]⟩ ?_
 refine kS ?_
 refine kQ ?_
 refine kCD 4 [2,3,6,8] [(6,.v (.slice ra_pc a.length rc_pc)),(8,.v (.slice ra_qc b.length rc_qc))] 42 [.slice ra_pc a.length rc_pc,.slice ra_qc b.length rc_qc] (some 9) rfl (xc_b fun ww hf => yeqConnS_c a (.slice ra_pc a.length rc_pc) b (.slice ra_qc b.length rc_qc) ww (hf _ m0) (hf _ m1) (hf _ m3) (hf _ m4) (by first | assumption | (simp only [*]; done))) ?_
 intro _
 refine kED [2,3,10] [(10,.v (.bool false))] ?_
 refine kN ?_
 refine kK ?_
 refine kS ?_
 refine kQ ?_
 refine kCS 4 [12,14] [(12,.v (.slice ra_pw wt.length rc_pw)),(14,.v (.slice ra_qw wt.length rc_qw))] 43 [.slice ra_pw wt.length rc_pw,.slice ra_qw wt.length rc_qw] (some 15) rfl (xc_b fun ww hf => eqTupleS_c (.slice ra_pw wt.length rc_pw) (.slice ra_qw wt.length rc_qw) wt ww (hf _ m2) (hf _ m5)) ?_
 intro _
 refine kES [16] [(16,.v (.bool false))] ?_
 refine kN ?_
 refine kK ?_
 refine kQ ?_
 refine kES [4] [(4,.v (.bool true))] ?_
 refine kR ?_
 exact ⟨[.bool true],by kernel_rfl,fun w' hb hf => ⟨rfl,hb⟩⟩
theorem yClonePiece_c (a : List Pce) (aV : Value) (w : World) (hl_aV : Sl w aV 2 (a.map pceCells)) (hkn : a.length ≤ 1048576) (B : Nat) (hB : B ≤ w.heap.size) : Calls Try.prog 106 #[aV] w fun e w' => XRs w w' e (α := Option Addr × Nat) (fun y => .slice y.1 a.length y.2) (fun y => [ownF B (.slice y.1 a.length y.2) 2 (a.map pceCells)]) := by
 obtain ⟨Aa,Ca,hva⟩ := hl_aV.form
 rw [List.length_map] at hva; subst hva
 have hna := hl_aV.len; rw [List.length_map] at hna
 have hqa := Sl.capLe hl_aV
 have hnil := fun h => Sl.nil_of h hl_aV
 refine x_callsA (args := [.slice Aa a.length Ca]) (fn := Try.f106) [slF (.slice Aa a.length Ca) 2 (a.map pceCells)] Try.func106 rfl Try.ntmps106 rfl (by simp only [List.mem_cons,List.not_mem_nil,or_false,forall_eq_or_imp,forall_eq]; exact ⟨rfl,hl_aV⟩) ?_
 refine kQ ?_
 refine kEF [0] ⟨[(0,.v (.slice Aa a.length Ca))],[],[],[slF (.slice Aa a.length Ca) 2 (a.map pceCells)]⟩ ?_
 refine kS ?_
 refine kQ ?_
 refine kOS 1 [0,3] [(0,.v (.slice Aa a.length Ca)),(3,.v (.slice Aa a.length Ca))] (.bool Aa.isNone) rfl (fun _ _ _ ww hr => act_nilEq (e := 118) hr.1 rfl (by kernel_rfl) rfl rfl ww) ?_
 refine kES [0,4] [(0,.v (.slice Aa a.length Ca)),(4,.v (.bool Aa.isNone))] ?_
 refine kC (Aa.isNone) (fun h1 => ?_) (fun h1 => ?_)
 refine kQ ?_
 refine kES [2] [(2,.v (.slice none 0 0))] ?_
 refine kR ?_
 have hmod : a = [] := by exact hnil (by assumption)
 exact ⟨[.slice none 0 0],by kernel_rfl,fun w' hb hf ha => by rw [hmod]; exact xo1 ((none,0)) rfl rfl ⟨.inl ⟨rfl,_,rfl⟩,fun b hb => (hb.1 rfl).elim⟩ hb⟩
 refine kK ?_
 refine kQ ?_
 refine kHS 0 [0] [(0,.v (.slice Aa a.length Ca))] rfl (hv_bK (e := 118) (K := 2) (bytes := 24) [] (rs := ([] : List Pce).map pceCells) rfl rfl) ?_
 intro g2
 refine kHS 1 [5,6] [(5,.v (.slice (some ⟨g2,0,none⟩) 0 0)),(6,.v (.slice Aa a.length Ca))] rfl (hv_append (e := 118) (K := 2) (bytes := 24) (i := 0) (q := a.length) (new := a.map pceCells) (rs' := a.map pceCells) rfl rfl rfl rfl (by kernel_rfl) (by kernel_rfl) (by kernel_rfl) rfl (by simp) rfl (by simp) (fun ww hf => (hf (slF (.slice Aa a.length Ca) 2 (a.map pceCells)) (by simp))) (by intro r hr; obtain ⟨x,hx,rfl⟩ := List.mem_map.1 hr; exact ⟨rfl,by simp [pceCells,Value.oneCell']⟩) (by (try simp only [List.length_map,List.length_append,List.length_cons,List.length_nil,List.length_take,List.length_drop,maxLen]); omega) (by (try simp only [List.length_map,List.length_append,List.length_cons,List.length_nil,List.length_take,List.length_drop,maxLen]); omega)) ?_
 rintro ⟨v3a,v3c⟩
 refine kES [2] [(2,.v (.slice v3a a.length v3c))] ?_
 refine kR ?_
 exact ⟨[.slice v3a a.length v3c],by kernel_rfl,fun w' hb hf ha => by exact xo1 ((v3a,v3c)) rfl rfl (pR (hf _ m0) hB) hb⟩
theorem yl18Copy_c (r : Rcv) (r_heldV : Value) (w : World) (hl_r_heldV : Sl w r_heldV 2 (r.held.map pceCells)) (hkn : r.held.length ≤ 1048576) (B : Nat) (hB : B ≤ w.heap.size) : Calls Try.prog 94 #[.agg (rcvL r r_heldV).toArray] w fun e w' => XRs w w' e (α := Option Addr × Nat) (fun y => .agg (rcvL r (.slice y.1 r.held.length y.2)).toArray) (fun y => [rowF B 118 2 (.slice y.1 r.held.length y.2) (r.held.map pceCells)]) := by
 obtain ⟨Arh,Crh,hvrh⟩ := hl_r_heldV.form
 rw [List.length_map] at hvrh; subst hvrh
 have hnrh := hl_r_heldV.len; rw [List.length_map] at hnrh
 have hqrh := Sl.capLe hl_r_heldV
 refine x_callsA (args := [.agg (rcvL r (.slice Arh r.held.length Crh)).toArray]) (fn := Try.f94) [slF (.slice Arh r.held.length Crh) 2 (r.held.map pceCells)] Try.func94 rfl Try.ntmps94 rfl (by simp only [List.mem_cons,List.not_mem_nil,or_false,forall_eq_or_imp,forall_eq]; exact ⟨rfl,hl_r_heldV⟩) ?_
 refine kQ ?_
 refine kEF [1,2] ⟨[(1,.p 0 0),(2,.p 1 0)],[⟨65,rcvL r (.slice Arh r.held.length Crh)⟩,⟨65,rcvZ⟩],[],[slF (.slice Arh r.held.length Crh) 2 (r.held.map pceCells)]⟩ ?_
 refine kQ ?_
 refine kHS 0 [1,2] [(1,.p 0 0),(2,.p 1 0)] rfl (hv_bK (e := 118) (K := 2) (bytes := 24) [] (rs := ([] : List Pce).map pceCells) rfl rfl) ?_
 intro g1
 refine kHS 2 [1,2,3,5] [(1,.p 0 0),(2,.p 1 0),(3,.v (.slice (some ⟨g1,0,none⟩) 0 0)),(5,.v (.slice Arh r.held.length Crh))] rfl (hv_append (e := 118) (K := 2) (bytes := 24) (i := 0) (q := r.held.length) (new := r.held.map pceCells) (rs' := r.held.map pceCells) rfl rfl rfl rfl (by kernel_rfl) (by kernel_rfl) (by kernel_rfl) rfl (by simp) rfl (by simp) (fun ww hf => (hf (slF (.slice Arh r.held.length Crh) 2 (r.held.map pceCells)) (by simp))) (by intro r hr; obtain ⟨x,hx,rfl⟩ := List.mem_map.1 hr; exact ⟨rfl,by simp [pceCells,Value.oneCell']⟩) (by (try simp only [List.length_map,List.length_append,List.length_cons,List.length_nil,List.length_take,List.length_drop,maxLen]); omega) (by (try simp only [List.length_map,List.length_append,List.length_cons,List.length_nil,List.length_take,List.length_drop,maxLen]); omega)) ?_
 rintro ⟨v2a,v2c⟩
 refine kEF [1,2] ⟨[(1,.p 0 0),(2,.p 1 0)],[⟨65,rcvL r (.slice v2a r.held.length v2c)⟩,⟨65,rcvZ⟩],[],[rowF w.heap.size 118 2 (.slice v2a r.held.length v2c) (r.held.map pceCells),slF (.slice Arh r.held.length Crh) 2 (r.held.map pceCells)]⟩ ?_
 refine kQ ?_
 refine kEF [2] ⟨[(2,.p 1 0)],[⟨65,rcvL r (.slice v2a r.held.length v2c)⟩,⟨65,rcvL r (.slice v2a r.held.length v2c)⟩],[],[rowF w.heap.size 118 2 (.slice v2a r.held.length v2c) (r.held.map pceCells),slF (.slice Arh r.held.length Crh) 2 (r.held.map pceCells)]⟩ ?_
 refine kR ?_
 exact ⟨[.agg (rcvL r (.slice v2a r.held.length v2c)).toArray],by kernel_rfl,fun w' hb hf ha => by exact xo1 ((v2a,v2c)) rfl rfl (pW (hf _ m0) hB) hb⟩
theorem ycloneReceiver_c (r : Rcv) (r_heldV : Value) (w : World) (hl_r_heldV : Sl w r_heldV 2 (r.held.map pceCells)) (hkn : r.held.length ≤ 1048576) (B : Nat) (hB : B ≤ w.heap.size) : Calls Try.prog 96 #[.agg (rcvL r r_heldV).toArray] w fun e w' => XRs w w' e (α := Option Addr × Nat) (fun y => .agg (rcvL r (.slice y.1 r.held.length y.2)).toArray) (fun y => [ownF B (.slice y.1 r.held.length y.2) 2 (r.held.map pceCells)]) := by
 obtain ⟨Arh,Crh,hvrh⟩ := hl_r_heldV.form
 rw [List.length_map] at hvrh; subst hvrh
 have hnrh := hl_r_heldV.len; rw [List.length_map] at hnrh
 have hqrh := Sl.capLe hl_r_heldV
 refine x_callsA (args := [.agg (rcvL r (.slice Arh r.held.length Crh)).toArray]) (fn := Try.f96) [slF (.slice Arh r.held.length Crh) 2 (r.held.map pceCells)] Try.func96 rfl Try.ntmps96 rfl (by simp only [List.mem_cons,List.not_mem_nil,or_false,forall_eq_or_imp,forall_eq]; exact ⟨rfl,hl_r_heldV⟩) ?_
 refine kQ ?_
 refine kEF [1,2] ⟨[(1,.p 0 0),(2,.p 1 0)],[⟨65,rcvL r (.slice Arh r.held.length Crh)⟩,⟨65,rcvZ⟩],[],[slF (.slice Arh r.held.length Crh) 2 (r.held.map pceCells)]⟩ ?_
 refine kQ ?_
 refine kCS 2 [1,2,4] [(1,.p 0 0),(2,.p 1 0),(4,.v (.slice Arh r.held.length Crh))] 106 [.slice Arh r.held.length Crh] (some 5) rfl (xc_r fun ww hw hf => yClonePiece_c r.held (.slice Arh r.held.length Crh) ww (hf _ m0) (by assumption) w.heap.size hw) ?_
 rintro ⟨v1a,v1c⟩
 refine kEF [1,2] ⟨[(1,.p 0 0),(2,.p 1 0)],[⟨65,rcvL r (.slice v1a r.held.length v1c)⟩,⟨65,rcvZ⟩],[],[ownF w.heap.size (.slice v1a r.held.length v1c) 2 (r.held.map pceCells),slF (.slice Arh r.held.length Crh) 2 (r.held.map pceCells)]⟩ ?_
 refine kQ ?_
 refine kEF [2] ⟨[(2,.p 1 0)],[⟨65,rcvL r (.slice v1a r.held.length v1c)⟩,⟨65,rcvL r (.slice v1a r.held.length v1c)⟩],[],[ownF w.heap.size (.slice v1a r.held.length v1c) 2 (r.held.map pceCells),slF (.slice Arh r.held.length Crh) 2 (r.held.map pceCells)]⟩ ?_
 refine kR ?_
 exact ⟨[.agg (rcvL r (.slice v1a r.held.length v1c)).toArray],by kernel_rfl,fun w' hb hf ha => by exact xo1 ((v1a,v1c)) rfl rfl (pO (hf _ m0) hB) hb⟩
theorem yl19Copy_c (c : Con) (c_r_heldV : Value) (w : World) (hl_c_r_heldV : Sl w c_r_heldV 2 (c.r.held.map pceCells)) (hkn : c.r.held.length ≤ 1048576) (B : Nat) (hB : B ≤ w.heap.size) : Calls Try.prog 62 #[.agg (conL c c_r_heldV).toArray] w fun e w' => XRs w w' e (α := Option Addr × Nat) (fun y => .agg (conL c (.slice y.1 c.r.held.length y.2)).toArray) (fun y => [ownF B (.slice y.1 c.r.held.length y.2) 2 (c.r.held.map pceCells)]) := by
 obtain ⟨Acrh,Ccrh,hvcrh⟩ := hl_c_r_heldV.form
 rw [List.length_map] at hvcrh; subst hvcrh
 have hncrh := hl_c_r_heldV.len; rw [List.length_map] at hncrh
 have hqcrh := Sl.capLe hl_c_r_heldV
 refine x_callsA (args := [.agg (conL c (.slice Acrh c.r.held.length Ccrh)).toArray]) (fn := Try.f62) [slF (.slice Acrh c.r.held.length Ccrh) 2 (c.r.held.map pceCells)] Try.func62 rfl Try.ntmps62 rfl (by simp only [List.mem_cons,List.not_mem_nil,or_false,forall_eq_or_imp,forall_eq]; exact ⟨rfl,hl_c_r_heldV⟩) ?_
 refine kQ ?_
 refine kEF [1,2] ⟨[(1,.p 0 0),(2,.p 1 0)],[⟨68,conL c (.slice Acrh c.r.held.length Ccrh)⟩,⟨68,conZ⟩],[],[slF (.slice Acrh c.r.held.length Ccrh) 2 (c.r.held.map pceCells)]⟩ ?_
 refine kQ ?_
 refine kCS 2 [1,2,4] [(1,.p 0 0),(2,.p 1 0),(4,.v (.agg (rcvL c.r (.slice Acrh c.r.held.length Ccrh)).toArray))] 94 [.agg (rcvL c.r (.slice Acrh c.r.held.length Ccrh)).toArray] (some 5) rfl (xc_r fun ww hw hf => yl18Copy_c c.r (.slice Acrh c.r.held.length Ccrh) ww (hf _ m0) (by assumption) w.heap.size hw) ?_
 rintro ⟨v1a,v1c⟩
 refine kEF [1,2] ⟨[(1,.p 0 0),(2,.p 1 0)],[⟨68,conL c (.slice v1a c.r.held.length v1c)⟩,⟨68,conZ⟩],[],[rowF w.heap.size 118 2 (.slice v1a c.r.held.length v1c) (c.r.held.map pceCells),slF (.slice Acrh c.r.held.length Ccrh) 2 (c.r.held.map pceCells)]⟩ ?_
 refine kQ ?_
 refine kEF [2] ⟨[(2,.p 1 0)],[⟨68,conL c (.slice v1a c.r.held.length v1c)⟩,⟨68,conL c (.slice v1a c.r.held.length v1c)⟩],[],[rowF w.heap.size 118 2 (.slice v1a c.r.held.length v1c) (c.r.held.map pceCells),slF (.slice Acrh c.r.held.length Ccrh) 2 (c.r.held.map pceCells)]⟩ ?_
 refine kR ?_
 exact ⟨[.agg (conL c (.slice v1a c.r.held.length v1c)).toArray],by kernel_rfl,fun w' hb hf ha => by exact xo1 ((v1a,v1c)) rfl rfl (pR (hf _ m0) hB) hb⟩
theorem ycloneConn_c (c : Con) (c_r_heldV : Value) (w : World) (hl_c_r_heldV : Sl w c_r_heldV 2 (c.r.held.map pceCells)) (hkn : c.r.held.length ≤ 1048576) (B : Nat) (hB : B ≤ w.heap.size) : Calls Try.prog 66 #[.agg (conL c c_r_heldV).toArray] w fun e w' => XRs w w' e (α := Option Addr × Nat) (fun y => .agg (conL c (.slice y.1 c.r.held.length y.2)).toArray) (fun y => [ownF B (.slice y.1 c.r.held.length y.2) 2 (c.r.held.map pceCells)]) := by
 obtain ⟨Acrh,Ccrh,hvcrh⟩ := hl_c_r_heldV.form
 rw [List.length_map] at hvcrh; subst hvcrh
 have hncrh := hl_c_r_heldV.len; rw [List.length_map] at hncrh
 have hqcrh := Sl.capLe hl_c_r_heldV
 refine x_callsA (args := [.agg (conL c (.slice Acrh c.r.held.length Ccrh)).toArray]) (fn := Try.f66) [slF (.slice Acrh c.r.held.length Ccrh) 2 (c.r.held.map pceCells)] Try.func66 rfl Try.ntmps66 rfl (by simp only [List.mem_cons,List.not_mem_nil,or_false,forall_eq_or_imp,forall_eq]; exact ⟨rfl,hl_c_r_heldV⟩) ?_
 refine kQ ?_
 refine kEF [1,2] ⟨[(1,.p 0 0),(2,.p 1 0)],[⟨68,conL c (.slice Acrh c.r.held.length Ccrh)⟩,⟨68,conZ⟩],[],[slF (.slice Acrh c.r.held.length Ccrh) 2 (c.r.held.map pceCells)]⟩ ?_
 refine kQ ?_
 refine kCS 2 [1,2,4] [(1,.p 0 0),(2,.p 1 0),(4,.v (.agg (rcvL c.r (.slice Acrh c.r.held.length Ccrh)).toArray))] 96 [.agg (rcvL c.r (.slice Acrh c.r.held.length Ccrh)).toArray] (some 5) rfl (xc_r fun ww hw hf => ycloneReceiver_c c.r (.slice Acrh c.r.held.length Ccrh) ww (hf _ m0) (by assumption) w.heap.size hw) ?_
 rintro ⟨v1a,v1c⟩
 refine kEF [1,2] ⟨[(1,.p 0 0),(2,.p 1 0)],[⟨68,conL c (.slice v1a c.r.held.length v1c)⟩,⟨68,conZ⟩],[],[ownF w.heap.size (.slice v1a c.r.held.length v1c) 2 (c.r.held.map pceCells),slF (.slice Acrh c.r.held.length Ccrh) 2 (c.r.held.map pceCells)]⟩ ?_
 refine kQ ?_
 refine kEF [2] ⟨[(2,.p 1 0)],[⟨68,conL c (.slice v1a c.r.held.length v1c)⟩,⟨68,conL c (.slice v1a c.r.held.length v1c)⟩],[],[ownF w.heap.size (.slice v1a c.r.held.length v1c) 2 (c.r.held.map pceCells),slF (.slice Acrh c.r.held.length Ccrh) 2 (c.r.held.map pceCells)]⟩ ?_
 refine kR ?_
 exact ⟨[.agg (conL c (.slice v1a c.r.held.length v1c)).toArray],by kernel_rfl,fun w' hb hf ha => by exact xo1 ((v1a,v1c)) rfl rfl (pO (hf _ m0) hB) hb⟩
theorem ymarkText_c (k : Int) (w : World) (hk : k ≤ 4611686018427387904) : Calls Try.prog 90 #[.int .i64 k] w fun e w' => e = .returned (.string (markText k)) ∧ Below w.heap.size w w' := by
 refine x_calls (args := [.int .i64 k]) (fn := Try.f90) [] Try.func90 rfl Try.ntmps90 rfl (by simp) ?_
 refine kQ ?_
 refine kEF [0] ⟨[(0,.v (.int .i64 k))],[],[],[]⟩ ?_
 refine kS ?_
 refine kQ ?_
 refine kES [0,5] [(0,.v (.int .i64 k)),(5,.v (.bool (decide (k ≤ 0))))] ?_
 refine kC (decide (k ≤ 0)) (fun h1 => ?_) (fun h1 => ?_)
 have h1p := of_decide_eq_true h1
 refine kQ ?_
 refine kES [2] [(2,.v (.string (⟨#[109,48]⟩ : ByteArray)))] ?_
 refine kR ?_
 have hmod : markText k = (⟨#[109,48]⟩ : ByteArray) := by first | rfl | (simp [markText, *]; done) | (rw [markText,if_neg (by omega),hE])
 exact ⟨[.string (⟨#[109,48]⟩ : ByteArray)],by kernel_rfl,fun w' hb hf => by rw [hmod]; exact ⟨rfl,hb⟩⟩
 have h1p := of_decide_eq_false h1
 refine kK ?_
 refine kQ ?_
 refine kES [0,3] [(0,.v (.int .i64 k)),(3,.v (.string (⟨#[]⟩ : ByteArray)))] ?_
 refine kS ?_
 refine xw_block ?_
 refine xw_loopW (α := {x : Int × ByteArray // (fun (z : Int) (out : ByteArray) => markLoop k (⟨#[]⟩ : ByteArray) = markLoop z out ∧ out.size + z.toNat ≤ k.toNat) x.1 x.2}) (fun x => (fun (z : Int) (out : ByteArray) => (⟨[(0,.v (.int .i64 z)),(3,.v (.string out))],[],[],[]⟩ : St)) x.1.1 x.1.2) (fun x => (fun (z : Int) (out : ByteArray) => z.toNat) x.1.1 x.1.2) ⟨(k,(⟨#[]⟩ : ByteArray)),⟨rfl,Nat.le_of_eq (Nat.zero_add _)⟩⟩ (kF 0 0 [0,3]) ?_
 rintro ⟨⟨z,out⟩,HK,hR⟩
 try dsimp only
 try dsimp only at HK hR
 refine kS ?_
 refine kQ ?_
 refine kES [0,3,7] [(0,.v (.int .i64 z)),(3,.v (.string out)),(7,.v (.bool (decide (z > 0))))] ?_
 refine kC (decide (z > 0)) (fun h2 => ?_) (fun h2 => ?_)
 have h2p := of_decide_eq_true h2
 have hz : 0 < z := by simpa using h2
 refine kK ?_
 refine xw_block ?_
 refine kQ ?_
 refine kOS 1 [0,3,8] [(0,.v (.int .i64 z)),(3,.v (.string out)),(8,.v (.int .i64 z))] (.int .i64 (Int.tmod z 10)) rfl (fun _ _ _ ww hr => act_bin hr.1 rfl (by kernel_rfl) (by kernel_rfl) (rem_run (by first | decide | omega) ww)) ?_
 refine kHS 2 [0,3,11] [(0,.v (.int .i64 z)),(3,.v (.string out)),(11,.v (.int .u8 (IntKind.u8.wrap (IntKind.i64.wrap (48 + (Int.tmod z 10))))))] rfl (hv_bK (e := 5) (K := 1) (bytes := 1) [.int .u8 (IntKind.u8.wrap (IntKind.i64.wrap (48 + (Int.tmod z 10))))] (rs := ([IntKind.u8.wrap (IntKind.i64.wrap (48 + (Int.tmod z 10)))] : List Int).map byteRow) rfl rfl) ?_
 intro g3
 refine kOS 0 [0,3,12] [(0,.v (.int .i64 z)),(3,.v (.string out)),(12,.v (.slice (some ⟨g3,0,none⟩) 1 1))] (.string (bstr ([IntKind.u8.wrap (IntKind.i64.wrap (48 + (Int.tmod z 10)))] : List Int))) rfl (fun _ _ _ ww hr => act_b2s (e := 5) ([IntKind.u8.wrap (IntKind.i64.wrap (48 + (Int.tmod z 10)))] : List Int) hr.1 rfl (by kernel_rfl) (by kernel_rfl) (by kernel_rfl) rfl (rowF_sl (hr.2.fact (rowF w.heap.size 5 1 (.slice (some ⟨g3,0,none⟩) 1 1) (([IntKind.u8.wrap (IntKind.i64.wrap (48 + (Int.tmod z 10)))] : List Int).map byteRow)) (by simp)).1)) ?_
 refine kOS 1 [0,3,13,14] [(0,.v (.int .i64 z)),(3,.v (.string out)),(13,.v (.string (bstr ([IntKind.u8.wrap (IntKind.i64.wrap (48 + (Int.tmod z 10)))] : List Int)))),(14,.v (.string out))] (.string ((bstr ([IntKind.u8.wrap (IntKind.i64.wrap (48 + (Int.tmod z 10)))] : List Int)) ++ out)) rfl (fun _ _ _ ww hr => act_bin hr.1 rfl (by kernel_rfl) (by kernel_rfl) (str_add (mark_sz hz hR hk) ww)) ?_
 refine kRS 1 [0,3] [(0,.v (.int .i64 z)),(3,.v (.string ((bstr ([IntKind.u8.wrap (IntKind.i64.wrap (48 + (Int.tmod z 10)))] : List Int)) ++ out)))] ?_
 refine xl_eq (st' := ⟨[(0,.v (.int .i64 z)),(3,.v (.string ((bstr ([IntKind.u8.wrap (48 + z.tmod 10)] : List Int)) ++ out)))],[],[],[rowF w.heap.size 5 1 (.slice (some ⟨g3,0,none⟩) 1 1) (([IntKind.u8.wrap (48 + z.tmod 10)] : List Int).map byteRow)]⟩) (by rw [show (IntKind.i64.wrap (48 + (Int.tmod z 10))) = (48 + z.tmod 10) from wrap_tmod hz] <;> rfl) ?_
 refine kES [0,3] [(0,.v (.int .i64 z)),(3,.v (.string ((bstr ([IntKind.u8.wrap (48 + z.tmod 10)] : List Int)) ++ out)))] ?_
 refine kG ?_
 refine kOS 1 [0,3,16] [(0,.v (.int .i64 z)),(3,.v (.string ((bstr ([IntKind.u8.wrap (48 + z.tmod 10)] : List Int)) ++ out))),(16,.v (.int .i64 z))] (.int .i64 (IntKind.i64.wrap (Int.tdiv z 10))) rfl (fun _ _ _ ww hr => act_bin hr.1 rfl (by kernel_rfl) (by kernel_rfl) (quo_run (by decide) ww)) ?_
 refine kRS 1 [0,3] [(0,.v (.int .i64 (IntKind.i64.wrap (Int.tdiv z 10)))),(3,.v (.string ((bstr ([IntKind.u8.wrap (48 + z.tmod 10)] : List Int)) ++ out)))] ?_
 refine xl_eqS (t' := [(0,.v (.int .i64 (z.tdiv 10))),(3,.v (.string ((bstr ([IntKind.u8.wrap (48 + z.tmod 10)] : List Int)) ++ out)))]) (by rw [show (IntKind.i64.wrap (Int.tdiv z 10)) = (z.tdiv 10) from wrap_tdiv hz hR hk]) ?_
 refine kES [0,3] [(0,.v (.int .i64 (z.tdiv 10))),(3,.v (.string ((bstr ([IntKind.u8.wrap (48 + z.tmod 10)] : List Int)) ++ out)))] ?_
 exact ⟨⟨(z.tdiv 10,bstr [IntKind.u8.wrap (48 + z.tmod 10)] ++ out),⟨markLoop_step hz HK,mark_room hz hR⟩⟩,kPk [] <| kF 0 0 [0,3],by show (fun (z : Int) (out : ByteArray) => z.toNat) (z.tdiv 10) (bstr [IntKind.u8.wrap (48 + z.tmod 10)] ++ out) < z.toNat; exact mark_dec hz⟩
 have h2p := of_decide_eq_false h2
 have hz : ¬ 0 < z := by simpa using h2
 have hE := markLoop_end hz HK
 refine xw_exit ?_
 refine kQ ?_
 refine kOS 1 [18] [(18,.v (.string out))] (.string ((⟨#[109]⟩ : ByteArray) ++ out)) rfl (fun _ _ _ ww hr => act_bin hr.1 rfl (by kernel_rfl) (by kernel_rfl) (str_add (mark_sz0 hR hk) ww)) ?_
 refine kES [2] [(2,.v (.string ((⟨#[109]⟩ : ByteArray) ++ out)))] ?_
 refine kR ?_
 have hmod : markText k = ((⟨#[109]⟩ : ByteArray) ++ out) := by first | rfl | (simp [markText, *]; done) | (rw [markText,if_neg (by omega),hE])
 exact ⟨[.string ((⟨#[109]⟩ : ByteArray) ++ out)],by kernel_rfl,fun w' hb hf => by rw [hmod]; exact ⟨rfl,hb⟩⟩
theorem ymarkPieceS_c (v : Value) (l : List Pce) (k : Int) (w : World) (B : Nat) (hB : B ≤ w.heap.size) (h : Own w B v 2 (l.map pceCells)) (hk0 : 0 ≤ k) (hk : k ≤ 4503599627370496) (hl : l.length ≤ 1048576) : Calls Try.prog 91 #[v, .int .i64 k] w fun e w' => e = .returned (.int .i64 (k + 2 * (l.length : Int))) ∧ Own w' B v 2 ((marks mkP 2 k l.length).map pceCells) ∧ Chgd (ownF B v 2 (l.map pceCells)).blk w w' := by
 obtain ⟨A,cap,hv⟩ := h.form
 rw [List.length_map] at hv; subst hv
 refine x_callsM (args := [.slice A l.length cap,.int .i64 k]) (fn := Try.f91) [ownF B (.slice A l.length cap) 2 (l.map pceCells),frF w (ownF B (.slice A l.length cap) 2 (l.map pceCells)).blk] B Try.func91 rfl Try.ntmps91 rfl hB (by simp only [List.mem_cons,List.not_mem_nil,or_false,forall_eq_or_imp,forall_eq]; exact ⟨h,frF_start w _⟩) apart_fr ?_
 refine kQ ?_
 refine kEF [0,1] ⟨[(0,.v (.slice A l.length cap)),(1,.v (.int .i64 k))],[],[],[ownF B (.slice A l.length cap) 2 (l.map pceCells),frF w (ownF B (.slice A l.length cap) 2 (l.map pceCells)).blk]⟩ ?_
 refine kS ?_
 refine kQ ?_
 refine kES [0,1,5] [(0,.v (.slice A l.length cap)),(1,.v (.int .i64 k)),(5,.v (.int .i64 0))] ?_
 refine xw_block ?_
 have e0 : k + 2 * ((0 : Nat) : Int) = k := by omega
 refine xw_eq (st' := ⟨[(0,.v (.slice A l.length cap)),(1,.v (.int .i64 (k + 2 * ((0 : Nat) : Int)))),(5,.v (.int .i64 0))],[],[],[ownF B (.slice A l.length cap) 2 (l.map pceCells),frF w (ownF B (.slice A l.length cap) 2 (l.map pceCells)).blk]⟩) (by rw [e0]) ?_
 refine xw_loopW (α := {x : Nat // (fun (i : Nat) => i ≤ l.length) x}) (fun x => (fun (i : Nat) => (⟨[(0,.v (.slice A l.length cap)),(1,.v (.int .i64 (k + 2 * (i : Int)))),(5,.v (.int .i64 (i : Int)))],[],[],[ownF B (.slice A l.length cap) 2 ((marks mkP 2 k i ++ l.drop i).map pceCells),frF w (ownF B (.slice A l.length cap) 2 (l.map pceCells)).blk]⟩ : St)) x.1) (fun x => (fun (i : Nat) => l.length - i) x.1) ⟨(0),Nat.zero_le _⟩ (kF 0 0 [0,1,5]) ?_
 rintro ⟨i,hi⟩
 try dsimp only
 try dsimp only at hi
 refine kS ?_
 refine kQ ?_
 refine kES [0,1,5,9] [(0,.v (.slice A l.length cap)),(1,.v (.int .i64 (k + 2 * (i : Int)))),(5,.v (.int .i64 (i : Int))),(9,.v (.bool (decide ((i : Int) < ((l.length : Nat) : Int)))))] ?_
 refine kC (decide ((i : Int) < ((l.length : Nat) : Int))) (fun h1 => ?_) (fun h1 => ?_)
 have h1p := of_decide_eq_true h1
 have hlt : i < l.length := by simpa using h1
 obtain ⟨b,hb⟩ : ∃ b,b = k + 2 * (i : Int) := ⟨_,rfl⟩
 rw [← hb]
 obtain ⟨x,hx⟩ : ∃ x,l[i]? = some x := ⟨_,List.getElem?_eq_getElem hlt⟩
 refine xw_fact0 (g := ownF B (.slice A l.length cap) 2 (((marks mkP 2 k i ++ l.drop i).map pceCells).set i [.int .i64 x.off,.string x.text])) (congrArg (fun z => ownF B (.slice A l.length cap) 2 z) (mark_same (f := pceCells) (mk := mkP) (c := 2) (k := k) hx)) ?_
 refine kK ?_
 refine kS ?_
 refine xw_block ?_
 refine kQ ?_
 refine xl_elem (kd := .i64) (T := 63) (e := 118) (K := 2) (A := A) (len := l.length) (cap := cap) (rs := (((marks mkP 2 k i ++ l.drop i).map pceCells).set i [.int .i64 x.off,.string x.text])) 3 [0,1,5,12,13,14] ⟨[(0,.v (.slice A l.length cap)),(1,.v (.int .i64 b)),(5,.v (.int .i64 (i : Int))),(12,.v (.slice A l.length cap)),(13,.v (.int .i64 (i : Int))),(14,.v (.int .i64 b))],[],[],[ownF B (.slice A l.length cap) 2 (((marks mkP 2 k i ++ l.drop i).map pceCells).set i [.int .i64 x.off,.string x.text]),frF w (ownF B (.slice A l.length cap) 2 (l.map pceCells)).blk]⟩ i (ownF B (.slice A l.length cap) 2 (((marks mkP 2 k i ++ l.drop i).map pceCells).set i [.int .i64 x.off,.string x.text])) (by kernel_rfl) rfl (by kernel_rfl) (by kernel_rfl) rfl (by kernel_rfl) (by kernel_rfl) (by kernel_rfl) (by kernel_rfl) hlt (by simp) (fun ww h => Own.sl h) (by rw [List.length_set,mark_ln hi]; exact hlt) ?_
 intro b2 o3 hA4
 refine kOF 0 [0,1,5,14,15] ⟨[(0,.v (.slice A l.length cap)),(1,.v (.int .i64 b)),(5,.v (.int .i64 (i : Int))),(14,.v (.int .i64 b)),(15,.v (.pointer (some ⟨b2,o3 + i * 2,none⟩)))],[],[],[ownF B (.slice A l.length cap) 2 (((marks mkP 2 k i ++ l.drop i).map pceCells).set i [.int .i64 x.off,.string x.text]),frF w (ownF B (.slice A l.length cap) 2 (l.map pceCells)).blk]⟩ (.pointer (some ⟨b2,o3 + i * 2 + 0,none⟩)) rfl (fun _ _ _ ww hr => fld_run (sz := 1) hr rfl Try.underlying118 rfl (by kernel_rfl) rfl rfl (by first | rfl | omega)) ?_
 refine xl_stE (K := 2) (po := 0) (B := B) (rs := ((marks mkP 2 k i ++ l.drop i).map pceCells)) (row' := [.int .i64 b,.string x.text]) 0 [0,1,5,14,16] ⟨[(0,.v (.slice A l.length cap)),(1,.v (.int .i64 b)),(5,.v (.int .i64 (i : Int))),(14,.v (.int .i64 b)),(16,.v (.pointer (some ⟨b2,o3 + i * 2 + 0,none⟩)))],[],[],[ownF B (.slice A l.length cap) 2 (((marks mkP 2 k i ++ l.drop i).map pceCells).set i [.int .i64 x.off,.string x.text]),frF w (ownF B (.slice A l.length cap) 2 (l.map pceCells)).blk]⟩ i [.int .i64 x.off,.string x.text] 0 (by kernel_rfl) rfl (by kernel_rfl) rfl rfl rfl rfl (by kernel_rfl) (by kernel_rfl) rfl (cutW_le w B) hA4 (by rw [mark_ln hi]; exact hlt) (fun r hr => by obtain ⟨y,_,rfl⟩ := List.mem_map.1 hr; rfl) (by kernel_rfl) (by kernel_rfl) rfl rfl ?_
 refine kEF [0,1,5] ⟨[(0,.v (.slice A l.length cap)),(1,.v (.int .i64 b)),(5,.v (.int .i64 (i : Int)))],[],[],[ownF B (.slice A l.length cap) 2 (((marks mkP 2 k i ++ l.drop i).map pceCells).set i [.int .i64 b,.string x.text]),frF w (ownF B (.slice A l.length cap) 2 (l.map pceCells)).blk]⟩ ?_
 refine kQ ?_
 refine kRS 3 [0,1,5] [(0,.v (.slice A l.length cap)),(1,.v (.int .i64 (IntKind.i64.wrap (b + 1)))),(5,.v (.int .i64 (i : Int)))] ?_
 refine xl_eqS (t' := [(0,.v (.slice A l.length cap)),(1,.v (.int .i64 (b + 1))),(5,.v (.int .i64 (i : Int)))]) (by rw [show (IntKind.i64.wrap (b + 1)) = (b + 1) from wrap_id (by omega) (by omega)]) ?_
 refine kES [0,1,5] [(0,.v (.slice A l.length cap)),(1,.v (.int .i64 (b + 1))),(5,.v (.int .i64 (i : Int)))] ?_
 refine kQ ?_
 refine kCS 3 [0,1,5,19,20,21] [(0,.v (.slice A l.length cap)),(1,.v (.int .i64 (b + 1))),(5,.v (.int .i64 (i : Int))),(19,.v (.slice A l.length cap)),(20,.v (.int .i64 (i : Int))),(21,.v (.int .i64 (b + 1)))] 90 [.int .i64 (b + 1)] (some 22) rfl (xc_b fun ww hf => ymarkText_c (b + 1) ww  (by omega)) ?_
 intro _
 refine xl_elem (kd := .i64) (T := 63) (e := 118) (K := 2) (A := A) (len := l.length) (cap := cap) (rs := (((marks mkP 2 k i ++ l.drop i).map pceCells).set i [.int .i64 b,.string x.text])) 0 [0,1,5,19,20,22] ⟨[(0,.v (.slice A l.length cap)),(1,.v (.int .i64 (b + 1))),(5,.v (.int .i64 (i : Int))),(19,.v (.slice A l.length cap)),(20,.v (.int .i64 (i : Int))),(22,.v (.string (markText (b + 1))))],[],[],[ownF B (.slice A l.length cap) 2 (((marks mkP 2 k i ++ l.drop i).map pceCells).set i [.int .i64 b,.string x.text]),frF w (ownF B (.slice A l.length cap) 2 (l.map pceCells)).blk]⟩ i (ownF B (.slice A l.length cap) 2 (((marks mkP 2 k i ++ l.drop i).map pceCells).set i [.int .i64 b,.string x.text])) (by kernel_rfl) rfl (by kernel_rfl) (by kernel_rfl) rfl (by kernel_rfl) (by kernel_rfl) (by kernel_rfl) (by kernel_rfl) hlt (by simp) (fun ww h => Own.sl h) (by rw [List.length_set,mark_ln hi]; exact hlt) ?_
 intro b5 o6 hA7
 refine kOF 0 [0,1,5,22,23] ⟨[(0,.v (.slice A l.length cap)),(1,.v (.int .i64 (b + 1))),(5,.v (.int .i64 (i : Int))),(22,.v (.string (markText (b + 1)))),(23,.v (.pointer (some ⟨b5,o6 + i * 2,none⟩)))],[],[],[ownF B (.slice A l.length cap) 2 (((marks mkP 2 k i ++ l.drop i).map pceCells).set i [.int .i64 b,.string x.text]),frF w (ownF B (.slice A l.length cap) 2 (l.map pceCells)).blk]⟩ (.pointer (some ⟨b5,o6 + i * 2 + 1,none⟩)) rfl (fun _ _ _ ww hr => fld_run (sz := 1) hr rfl Try.underlying118 rfl (by kernel_rfl) rfl rfl (by first | rfl | omega)) ?_
 refine xl_stE (K := 2) (po := 1) (B := B) (rs := ((marks mkP 2 k i ++ l.drop i).map pceCells)) (row' := [.int .i64 b,.string (markText (b + 1))]) 0 [0,1,5,22,24] ⟨[(0,.v (.slice A l.length cap)),(1,.v (.int .i64 (b + 1))),(5,.v (.int .i64 (i : Int))),(22,.v (.string (markText (b + 1)))),(24,.v (.pointer (some ⟨b5,o6 + i * 2 + 1,none⟩)))],[],[],[ownF B (.slice A l.length cap) 2 (((marks mkP 2 k i ++ l.drop i).map pceCells).set i [.int .i64 b,.string x.text]),frF w (ownF B (.slice A l.length cap) 2 (l.map pceCells)).blk]⟩ i [.int .i64 b,.string x.text] 0 (by kernel_rfl) rfl (by kernel_rfl) rfl rfl rfl rfl (by kernel_rfl) (by kernel_rfl) rfl (cutW_le w B) hA7 (by rw [mark_ln hi]; exact hlt) (fun r hr => by obtain ⟨y,_,rfl⟩ := List.mem_map.1 hr; rfl) (by kernel_rfl) (by kernel_rfl) rfl rfl ?_
 refine kEF [0,1,5] ⟨[(0,.v (.slice A l.length cap)),(1,.v (.int .i64 (b + 1))),(5,.v (.int .i64 (i : Int)))],[],[],[ownF B (.slice A l.length cap) 2 (((marks mkP 2 k i ++ l.drop i).map pceCells).set i [.int .i64 b,.string (markText (b + 1))]),frF w (ownF B (.slice A l.length cap) 2 (l.map pceCells)).blk]⟩ ?_
 refine kG ?_
 refine kRS 3 [0,1,5] [(0,.v (.slice A l.length cap)),(1,.v (.int .i64 (IntKind.i64.wrap (b + 1 + 1)))),(5,.v (.int .i64 (i : Int)))] ?_
 refine xl_eqS (t' := [(0,.v (.slice A l.length cap)),(1,.v (.int .i64 (b + 2))),(5,.v (.int .i64 (i : Int)))]) (by rw [show (IntKind.i64.wrap (b + 1 + 1)) = (b + 2) from wrap_to (by omega) (by omega) (by omega)]) ?_
 refine kES [0,1,5] [(0,.v (.slice A l.length cap)),(1,.v (.int .i64 (b + 2))),(5,.v (.int .i64 (i : Int)))] ?_
 refine kG ?_
 refine kRS 3 [0,1,5] [(0,.v (.slice A l.length cap)),(1,.v (.int .i64 (b + 2))),(5,.v (.int .i64 (IntKind.i64.wrap ((i : Int) + 1))))] ?_
 refine xl_eqS (t' := [(0,.v (.slice A l.length cap)),(1,.v (.int .i64 (b + 2))),(5,.v (.int .i64 ((i : Int) + 1)))]) (by rw [show (IntKind.i64.wrap ((i : Int) + 1)) = ((i : Int) + 1) from wrap_id (by omega) (by omega)]) ?_
 refine kES [0,1,5] [(0,.v (.slice A l.length cap)),(1,.v (.int .i64 (b + 2))),(5,.v (.int .i64 ((i : Int) + 1)))] ?_
 have e : b + 2 = k + 2 * ((i + 1 : Nat) : Int) := by omega
 rw [e]
 subst hb
 exact ⟨⟨(i + 1),hlt⟩,(wk_fact0 (congrArg (fun z => ownF B (.slice A l.length cap) 2 z) (mark_next (f := pceCells) (mk := mkP) (c := 2) (k := k) hlt))).trans <| kF 0 0 [0,1,5],by show (fun (i : Nat) => l.length - i) (i + 1) < l.length - i; (dsimp only; omega)⟩
 have h1p := of_decide_eq_false h1
 have hge : i = l.length := by simp at h1; omega
 refine xw_exit ?_
 refine kQ ?_
 refine kES [4] [(4,.v (.int .i64 (k + 2 * (i : Int))))] ?_
 refine kR ?_
 subst hge
 exact ⟨[.int .i64 (k + 2 * (l.length : Int))],by kernel_rfl,fun w' hb hf => ⟨ret_int (by simp),by have := hf (ownF B (.slice A l.length cap) 2 ((marks mkP 2 k l.length ++ l.drop l.length).map pceCells)) (by simp); rw [List.drop_length,List.append_nil] at this; exact this,frF_chgd (hf (frF w (ownF B (.slice A l.length cap) 2 (l.map pceCells)).blk) (by simp)) hb rfl rfl rfl⟩⟩
theorem ymarkReceiver_c (x : Rcv) (x_heldV : Value) (k : Int) (w : World) (B : Nat) (hB : B ≤ w.heap.size) (h : Own w B x_heldV 2 (x.held.map pceCells)) (hk0 : 0 ≤ k) (hk : k ≤ 4503599627370496) (hl : x.held.length ≤ 1048576) : Calls Try.prog 70 #[.agg #[.int .i64 x.next, .string x.data, x_heldV, .int .i64 x.fin, .bool x.done], .int .i64 k] w fun e w' => e = .returned (.int .i64 (k + 2 * (x.held.length : Int))) ∧ Own w' B x_heldV 2 ((marks mkP 2 k x.held.length).map pceCells) ∧ Chgd (ownF B x_heldV 2 (x.held.map pceCells)).blk w w' := by
 obtain ⟨A,cap,hv⟩ := h.form
 rw [List.length_map] at hv; subst hv
 refine x_callsM (args := [.agg (rcvL x (.slice A x.held.length cap)).toArray,.int .i64 k]) (fn := Try.f70) [ownF B (.slice A x.held.length cap) 2 (x.held.map pceCells),frF w (ownF B (.slice A x.held.length cap) 2 (x.held.map pceCells)).blk] B Try.func70 rfl Try.ntmps70 rfl hB (by simp only [List.mem_cons,List.not_mem_nil,or_false,forall_eq_or_imp,forall_eq]; exact ⟨h,frF_start w _⟩) apart_fr ?_
 refine kQ ?_
 refine kEF [1,2] ⟨[(1,.v (.int .i64 k)),(2,.p 0 0)],[⟨65,rcvL x (.slice A x.held.length cap)⟩],[],[ownF B (.slice A x.held.length cap) 2 (x.held.map pceCells),frF w (ownF B (.slice A x.held.length cap) 2 (x.held.map pceCells)).blk]⟩ ?_
 refine kQ ?_
 refine kWS 3 [1,6,7] [(1,.v (.int .i64 k)),(6,.v (.slice A x.held.length cap)),(7,.v (.int .i64 k))] 91 [.slice A x.held.length cap,.int .i64 k] (some 8) 0 rfl rfl (fun ww b h hb => Nat.le_trans (cutW_le w B) (vblk_lo h hb)) (xcm_own marks_ne fun ww hw hf => ymarkPieceS_c (.slice A x.held.length cap) x.held k ww B (Nat.le_trans (by first | exact Nat.le_refl _ | exact Nat.le_of_eq (cutW_size hB).symm) hw) (hf (ownF B (.slice A x.held.length cap) 2 (x.held.map pceCells)) (by simp)) (by omega) (by omega) (by omega)) ?_
 intro _
 refine kES [1] [(1,.v (.int .i64 (k + 2 * (x.held.length : Int))))] ?_
 refine kQ ?_
 refine kES [4] [(4,.v (.int .i64 (k + 2 * (x.held.length : Int))))] ?_
 refine kR ?_
 exact ⟨[.int .i64 (k + 2 * (x.held.length : Int))],by kernel_rfl,fun w' hb hf => ⟨rfl,hf (ownF B (.slice A x.held.length cap) 2 ((marks mkP 2 k x.held.length).map pceCells)) (by simp),frF_chgd (hf (frF w (ownF B (.slice A x.held.length cap) 2 (x.held.map pceCells)).blk) (by simp)) hb rfl rfl rfl⟩⟩
theorem ymarkConn_c (x : Con) (x_r_heldV : Value) (k : Int) (w : World) (B : Nat) (hB : B ≤ w.heap.size) (h : Own w B x_r_heldV 2 (x.r.held.map pceCells)) (hk0 : 0 ≤ k) (hk : k ≤ 4503599627370496) (hl : x.r.held.length ≤ 1048576) : Calls Try.prog 31 #[.agg #[.int .i64 x.t.ip, .int .i64 x.t.port, .int .i64 x.t.my, .int .i64 x.state, .int .i64 x.s.una, .string x.s.data, .int .i64 x.s.sent, .bool x.s.fin, .bool x.s.finSent, .bool x.s.done, .int .i64 x.r.next, .string x.r.data, x_r_heldV, .int .i64 x.r.fin, .bool x.r.done, .int .i64 x.window, .int .i64 x.most, .int .i64 x.o.mss, .int .i64 x.o.scale, .bool x.o.sack, .bool x.o.stamp, .int .i64 x.o.val, .int .i64 x.o.echo, .int .i64 x.timer, .int .i64 x.tries], .int .i64 k] w fun e w' => e = .returned (.int .i64 (k + 2 * (x.r.held.length : Int))) ∧ Own w' B x_r_heldV 2 ((marks mkP 2 k x.r.held.length).map pceCells) ∧ Chgd (ownF B x_r_heldV 2 (x.r.held.map pceCells)).blk w w' := by
 obtain ⟨A,cap,hv⟩ := h.form
 rw [List.length_map] at hv; subst hv
 refine x_callsM (args := [.agg (conL x (.slice A x.r.held.length cap)).toArray,.int .i64 k]) (fn := Try.f31) [ownF B (.slice A x.r.held.length cap) 2 (x.r.held.map pceCells),frF w (ownF B (.slice A x.r.held.length cap) 2 (x.r.held.map pceCells)).blk] B Try.func31 rfl Try.ntmps31 rfl hB (by simp only [List.mem_cons,List.not_mem_nil,or_false,forall_eq_or_imp,forall_eq]; exact ⟨h,frF_start w _⟩) apart_fr ?_
 refine kQ ?_
 refine kEF [1,2] ⟨[(1,.v (.int .i64 k)),(2,.p 0 0)],[⟨68,conL x (.slice A x.r.held.length cap)⟩],[],[ownF B (.slice A x.r.held.length cap) 2 (x.r.held.map pceCells),frF w (ownF B (.slice A x.r.held.length cap) 2 (x.r.held.map pceCells)).blk]⟩ ?_
 refine kQ ?_
 refine kWS 3 [1,6,7] [(1,.v (.int .i64 k)),(6,.v (.agg (rcvL x.r (.slice A x.r.held.length cap)).toArray)),(7,.v (.int .i64 k))] 70 [.agg (rcvL x.r (.slice A x.r.held.length cap)).toArray,.int .i64 k] (some 8) 0 rfl rfl (fun ww b h hb => Nat.le_trans (cutW_le w B) (vblk_lo h hb)) (xcm_own marks_ne fun ww hw hf => ymarkReceiver_c x.r (.slice A x.r.held.length cap) k ww B (Nat.le_trans (by first | exact Nat.le_refl _ | exact Nat.le_of_eq (cutW_size hB).symm) hw) (hf (ownF B (.slice A x.r.held.length cap) 2 (x.r.held.map pceCells)) (by simp)) (by omega) (by omega) (by omega)) ?_
 intro _
 refine kES [1] [(1,.v (.int .i64 (k + 2 * (x.r.held.length : Int))))] ?_
 refine kQ ?_
 refine kES [4] [(4,.v (.int .i64 (k + 2 * (x.r.held.length : Int))))] ?_
 refine kR ?_
 exact ⟨[.int .i64 (k + 2 * (x.r.held.length : Int))],by kernel_rfl,fun w' hb hf => ⟨rfl,hf (ownF B (.slice A x.r.held.length cap) 2 ((marks mkP 2 k x.r.held.length).map pceCells)) (by simp),frF_chgd (hf (frF w (ownF B (.slice A x.r.held.length cap) 2 (x.r.held.map pceCells)).blk) (by simp)) hb rfl rfl rfl⟩⟩
theorem yheldPieceS_c (a : List Pce) (aV : Value) (k : Int) (w : World) (hl_aV : Sl w aV 2 (a.map pceCells)) (ha : a = marks mkP 2 k a.length) (hk0 : 0 ≤ k) (hk : k ≤ 4503599627370496) (hl : a.length ≤ 1048576) : Calls Try.prog 92 #[aV, .int .i64 k] w fun e w' => e = .returned (.int .i64 (k + 2 * (a.length : Int))) ∧ Below w.heap.size w w' := by
 obtain ⟨Aa,Ca,hva⟩ := hl_aV.form
 rw [List.length_map] at hva; subst hva
 have hna := hl_aV.len; rw [List.length_map] at hna
 have hqa := Sl.capLe hl_aV
 refine x_calls (args := [.slice Aa a.length Ca,.int .i64 k]) (fn := Try.f92) [slF (.slice Aa a.length Ca) 2 (a.map pceCells)] Try.func92 rfl Try.ntmps92 rfl (by simp only [List.mem_cons,List.not_mem_nil,or_false,forall_eq_or_imp,forall_eq]; exact ⟨rfl,hl_aV⟩) ?_
 refine kQ ?_
 refine kEF [0,1] ⟨[(0,.v (.slice Aa a.length Ca)),(1,.v (.int .i64 k))],[],[],[slF (.slice Aa a.length Ca) 2 (a.map pceCells)]⟩ ?_
 refine kS ?_
 refine kQ ?_
 refine kES [0,1,5] [(0,.v (.slice Aa a.length Ca)),(1,.v (.int .i64 k)),(5,.v (.int .i64 0))] ?_
 refine xw_block ?_
 have e0 : k + 2 * ((0 : Nat) : Int) = k := by omega
 refine xw_eq (st' := ⟨[(0,.v (.slice Aa a.length Ca)),(1,.v (.int .i64 (k + 2 * ((0 : Nat) : Int)))),(5,.v (.int .i64 0))],[],[],[slF (.slice Aa a.length Ca) 2 (a.map pceCells)]⟩) (by rw [e0]) ?_
 refine xw_loopW (α := {x : Nat // (fun (i : Nat) => i ≤ a.length) x}) (fun x => (fun (i : Nat) => (⟨[(0,.v (.slice Aa a.length Ca)),(1,.v (.int .i64 (k + 2 * (i : Int)))),(5,.v (.int .i64 (i : Int)))],[],[],[slF (.slice Aa a.length Ca) 2 (a.map pceCells)]⟩ : St)) x.1) (fun x => (fun (i : Nat) => a.length - i) x.1) ⟨(0),Nat.zero_le _⟩ (kF 0 0 [0,1,5]) ?_
 rintro ⟨i,hi⟩
 try dsimp only
 try dsimp only at hi
 refine kS ?_
 refine kQ ?_
 refine kES [0,1,5,9] [(0,.v (.slice Aa a.length Ca)),(1,.v (.int .i64 (k + 2 * (i : Int)))),(5,.v (.int .i64 (i : Int))),(9,.v (.bool (decide ((i : Int) < ((a.length : Nat) : Int)))))] ?_
 refine kC (decide ((i : Int) < ((a.length : Nat) : Int))) (fun h1 => ?_) (fun h1 => ?_)
 have h1p := of_decide_eq_true h1
 have hlt : i < a.length := by simpa using h1
 obtain ⟨x,hx⟩ : ∃ x,a[i]? = some x := ⟨_,List.getElem?_eq_getElem hlt⟩
 have hxe := marks_get (mk := mkP) (c := 2) (k := k) (n := a.length) (show _ = some x by rw [← ha]; exact hx)
 obtain ⟨b,hb⟩ : ∃ b,b = k + 2 * (i : Int) := ⟨_,rfl⟩
 rw [← hb] at hxe ⊢
 refine kK ?_
 refine kS ?_
 refine xw_block ?_
 refine kS ?_
 refine kQ ?_
 refine xl_index (kd := .i64) (T := 63) (e := 118) (K := 2) 2 [0,1,5,12,13] ⟨[(0,.v (.slice Aa a.length Ca)),(1,.v (.int .i64 b)),(5,.v (.int .i64 (i : Int))),(12,.v (.slice Aa a.length Ca)),(13,.v (.int .i64 (i : Int)))],[],[],[slF (.slice Aa a.length Ca) 2 (a.map pceCells)]⟩ i [.int .i64 b,.string (markText (b + 1))] (slF (.slice Aa a.length Ca) 2 (a.map pceCells)) (by kernel_rfl) rfl (by kernel_rfl) rfl rfl (by kernel_rfl) (by kernel_rfl) (by kernel_rfl) (by kernel_rfl) hlt (by simp) (fun w h => h) (fun b h => h) (by simp only [List.getElem?_map,hx,hxe]; rfl) ?_
 refine kES [0,1,5,18] [(0,.v (.slice Aa a.length Ca)),(1,.v (.int .i64 b)),(5,.v (.int .i64 (i : Int))),(18,.v (.bool (b != b)))] ?_
 refine kC (b != b) (fun h2 => ?_) (fun h2 => ?_)
 simp at h2
 have h2p := neF h2
 refine kK ?_
 refine kQ ?_
 refine kRS 3 [0,1,5] [(0,.v (.slice Aa a.length Ca)),(1,.v (.int .i64 (IntKind.i64.wrap (b + 1)))),(5,.v (.int .i64 (i : Int)))] ?_
 refine xl_eqS (t' := [(0,.v (.slice Aa a.length Ca)),(1,.v (.int .i64 (b + 1))),(5,.v (.int .i64 (i : Int)))]) (by rw [show (IntKind.i64.wrap (b + 1)) = (b + 1) from wrap_id (by omega) (by omega)]) ?_
 refine kES [0,1,5] [(0,.v (.slice Aa a.length Ca)),(1,.v (.int .i64 (b + 1))),(5,.v (.int .i64 (i : Int)))] ?_
 refine kS ?_
 refine kS ?_
 refine xws_start ?_
 refine xws_row (K := 2) (j := i) [.int .i64 b,.string (markText (b + 1))] (slF (.slice Aa a.length Ca) 2 (a.map pceCells)) (fun _ _ h => h) (by simp) (fun w h => h) (fun b h => h) (by simp only [List.getElem?_map,hx,hxe]; rfl) (fun bq3 offq3 hAq3 => ?_)
 refine xws_regionE [] (by kernel_rfl) (fun ρ σ hq4 => ?_)
 refine kTS [0,1,5] [26,22,21,0,1,5] 5 [(26,.v (.int .i64 (b + 1))),(22,.v (.int .i64 (i : Int))),(21,.v (.slice Aa a.length Ca)),(0,.v (.slice Aa a.length Ca)),(1,.v (.int .i64 (b + 1))),(5,.v (.int .i64 (i : Int)))] ?_
 refine xe_takeI (kd := .i64) (T := 63) (e := 118) (K := 2) (j := i) (A := Aa) (len := a.length) (cap := Ca) 2 1 _ rfl (by kernel_rfl) (by kernel_rfl) (by kernel_rfl) (fun _ _ h => h) (by kernel_rfl) rfl rfl (by kernel_rfl) (by kernel_rfl) (by kernel_rfl) (by kernel_rfl) hlt hAq3 hq4.2 (by kernel_rfl) rfl ?_
 refine kTS [3,4] [25,26,0,1,5] 2 [(25,.v (.string (markText (b + 1)))),(26,.v (.int .i64 (b + 1))),(0,.v (.slice Aa a.length Ca)),(1,.v (.int .i64 (b + 1))),(5,.v (.int .i64 (i : Int)))] ?_
 refine kA [6] ?_
 refine kSC 6 90 [.int .i64 (b + 1)] (some 27) rfl (xc_b fun ww hf => ymarkText_c (b + 1) ww  (by omega)) ?_
 intro _
 refine kTS [7] [28,0,1,5] 0 [(28,.v (.bool (!((markText (b + 1)).toList == (markText (b + 1)).toList)))),(0,.v (.slice Aa a.length Ca)),(1,.v (.int .i64 (b + 1))),(5,.v (.int .i64 (i : Int)))] ?_
 refine kZ ?_
 refine kC (!((markText (b + 1)).toList == (markText (b + 1)).toList)) (fun h5 => ?_) (fun h5 => ?_)
 have h5n := not_t h5
 simp at h5n
 have h5n := not_f h5
 have h5np := h5n; simp only [beq_iff_eq,bne_iff_ne,beq_eq_false_iff_ne,bne_eq_false_iff_eq,ne_eq,toList_lit0] at h5np
 refine kK ?_
 refine kG ?_
 refine kRS 3 [0,1,5] [(0,.v (.slice Aa a.length Ca)),(1,.v (.int .i64 (IntKind.i64.wrap (b + 1 + 1)))),(5,.v (.int .i64 (i : Int)))] ?_
 refine xl_eqS (t' := [(0,.v (.slice Aa a.length Ca)),(1,.v (.int .i64 (b + 2))),(5,.v (.int .i64 (i : Int)))]) (by rw [show (IntKind.i64.wrap (b + 1 + 1)) = (b + 2) from wrap_to (by omega) (by omega) (by omega)]) ?_
 refine kES [0,1,5] [(0,.v (.slice Aa a.length Ca)),(1,.v (.int .i64 (b + 2))),(5,.v (.int .i64 (i : Int)))] ?_
 refine kG ?_
 refine kRS 3 [0,1,5] [(0,.v (.slice Aa a.length Ca)),(1,.v (.int .i64 (b + 2))),(5,.v (.int .i64 (IntKind.i64.wrap ((i : Int) + 1))))] ?_
 refine xl_eqS (t' := [(0,.v (.slice Aa a.length Ca)),(1,.v (.int .i64 (b + 2))),(5,.v (.int .i64 ((i : Int) + 1)))]) (by rw [show (IntKind.i64.wrap ((i : Int) + 1)) = ((i : Int) + 1) from wrap_id (by omega) (by omega)]) ?_
 refine kES [0,1,5] [(0,.v (.slice Aa a.length Ca)),(1,.v (.int .i64 (b + 2))),(5,.v (.int .i64 ((i : Int) + 1)))] ?_
 have e : b + 2 = k + 2 * ((i + 1 : Nat) : Int) := by omega
 rw [e]
 exact ⟨⟨(i + 1),hlt⟩,kF 0 0 [0,1,5],by show (fun (i : Nat) => a.length - i) (i + 1) < a.length - i; (dsimp only; omega)⟩
 have h1p := of_decide_eq_false h1
 have hge : i = a.length := by simp at h1; omega
 refine xw_exit ?_
 refine kQ ?_
 refine kES [4] [(4,.v (.int .i64 (k + 2 * (i : Int))))] ?_
 refine kR ?_
 have hmod : k + 2 * (a.length : Int) = (k + 2 * (i : Int)) := by first | rfl | (rw [hge])
 exact ⟨[.int .i64 (k + 2 * (i : Int))],by kernel_rfl,fun w' hb hf => by rw [hmod]; exact ⟨rfl,hb⟩⟩
theorem yheldPieceS_m (n : Nat) (v : Value) (k : Int) (w : World) (hs : Sl w v 2 ((marks mkP 2 k n).map pceCells)) (hk0 : 0 ≤ k) (hk : k ≤ 4503599627370496) (hl : n ≤ 1048576) : Calls Try.prog 92 #[v, .int .i64 k] w fun e w' => e = .returned (.int .i64 (k + 2 * (n : Int))) ∧ Below w.heap.size w w' := by
 have := yheldPieceS_c (marks mkP 2 k n) v k w hs (by rw [marks_len]) hk0 hk (by rw [marks_len]; exact hl)
 rw [marks_len] at this; exact this
theorem ymarkTupleS_c (v : Value) (l : List Tup) (k : Int) (w : World) (B : Nat) (hB : B ≤ w.heap.size) (h : Own w B v 3 (l.map tupCells)) (hk0 : 0 ≤ k) (hk : k ≤ 4503599627370496) (hl : l.length ≤ 1048576) : Calls Try.prog 57 #[v, .int .i64 k] w fun e w' => e = .returned (.int .i64 (k + 3 * (l.length : Int))) ∧ Own w' B v 3 ((marks mkT 3 k l.length).map tupCells) ∧ Chgd (ownF B v 3 (l.map tupCells)).blk w w' := by
 obtain ⟨A,cap,hv⟩ := h.form
 rw [List.length_map] at hv; subst hv
 refine x_callsM (args := [.slice A l.length cap,.int .i64 k]) (fn := Try.f57) [ownF B (.slice A l.length cap) 3 (l.map tupCells),frF w (ownF B (.slice A l.length cap) 3 (l.map tupCells)).blk] B Try.func57 rfl Try.ntmps57 rfl hB (by simp only [List.mem_cons,List.not_mem_nil,or_false,forall_eq_or_imp,forall_eq]; exact ⟨h,frF_start w _⟩) apart_fr ?_
 refine kQ ?_
 refine kEF [0,1] ⟨[(0,.v (.slice A l.length cap)),(1,.v (.int .i64 k))],[],[],[ownF B (.slice A l.length cap) 3 (l.map tupCells),frF w (ownF B (.slice A l.length cap) 3 (l.map tupCells)).blk]⟩ ?_
 refine kS ?_
 refine kQ ?_
 refine kES [0,1,5] [(0,.v (.slice A l.length cap)),(1,.v (.int .i64 k)),(5,.v (.int .i64 0))] ?_
 refine xw_block ?_
 have e0 : k + 3 * ((0 : Nat) : Int) = k := by omega
 refine xw_eq (st' := ⟨[(0,.v (.slice A l.length cap)),(1,.v (.int .i64 (k + 3 * ((0 : Nat) : Int)))),(5,.v (.int .i64 0))],[],[],[ownF B (.slice A l.length cap) 3 (l.map tupCells),frF w (ownF B (.slice A l.length cap) 3 (l.map tupCells)).blk]⟩) (by rw [e0]) ?_
 refine xw_loopW (α := {x : Nat // (fun (i : Nat) => i ≤ l.length) x}) (fun x => (fun (i : Nat) => (⟨[(0,.v (.slice A l.length cap)),(1,.v (.int .i64 (k + 3 * (i : Int)))),(5,.v (.int .i64 (i : Int)))],[],[],[ownF B (.slice A l.length cap) 3 ((marks mkT 3 k i ++ l.drop i).map tupCells),frF w (ownF B (.slice A l.length cap) 3 (l.map tupCells)).blk]⟩ : St)) x.1) (fun x => (fun (i : Nat) => l.length - i) x.1) ⟨(0),Nat.zero_le _⟩ (kF 0 0 [0,1,5]) ?_
 rintro ⟨i,hi⟩
 try dsimp only
 try dsimp only at hi
 refine kS ?_
 refine kQ ?_
 refine kES [0,1,5,9] [(0,.v (.slice A l.length cap)),(1,.v (.int .i64 (k + 3 * (i : Int)))),(5,.v (.int .i64 (i : Int))),(9,.v (.bool (decide ((i : Int) < ((l.length : Nat) : Int)))))] ?_
 refine kC (decide ((i : Int) < ((l.length : Nat) : Int))) (fun h1 => ?_) (fun h1 => ?_)
 have h1p := of_decide_eq_true h1
 have hlt : i < l.length := by simpa using h1
 obtain ⟨b,hb⟩ : ∃ b,b = k + 3 * (i : Int) := ⟨_,rfl⟩
 rw [← hb]
 obtain ⟨x,hx⟩ : ∃ x,l[i]? = some x := ⟨_,List.getElem?_eq_getElem hlt⟩
 refine xw_fact0 (g := ownF B (.slice A l.length cap) 3 (((marks mkT 3 k i ++ l.drop i).map tupCells).set i [.int .i64 x.ip,.int .i64 x.port,.int .i64 x.my])) (congrArg (fun z => ownF B (.slice A l.length cap) 3 z) (mark_same (f := tupCells) (mk := mkT) (c := 3) (k := k) hx)) ?_
 refine kK ?_
 refine kS ?_
 refine xw_block ?_
 refine kQ ?_
 refine xl_elem (kd := .i64) (T := 31) (e := 35) (K := 3) (A := A) (len := l.length) (cap := cap) (rs := (((marks mkT 3 k i ++ l.drop i).map tupCells).set i [.int .i64 x.ip,.int .i64 x.port,.int .i64 x.my])) 3 [0,1,5,12,13,14] ⟨[(0,.v (.slice A l.length cap)),(1,.v (.int .i64 b)),(5,.v (.int .i64 (i : Int))),(12,.v (.slice A l.length cap)),(13,.v (.int .i64 (i : Int))),(14,.v (.int .i64 b))],[],[],[ownF B (.slice A l.length cap) 3 (((marks mkT 3 k i ++ l.drop i).map tupCells).set i [.int .i64 x.ip,.int .i64 x.port,.int .i64 x.my]),frF w (ownF B (.slice A l.length cap) 3 (l.map tupCells)).blk]⟩ i (ownF B (.slice A l.length cap) 3 (((marks mkT 3 k i ++ l.drop i).map tupCells).set i [.int .i64 x.ip,.int .i64 x.port,.int .i64 x.my])) (by kernel_rfl) rfl (by kernel_rfl) (by kernel_rfl) rfl (by kernel_rfl) (by kernel_rfl) (by kernel_rfl) (by kernel_rfl) hlt (by simp) (fun ww h => Own.sl h) (by rw [List.length_set,mark_ln hi]; exact hlt) ?_
 intro b2 o3 hA4
 refine kOF 0 [0,1,5,14,15] ⟨[(0,.v (.slice A l.length cap)),(1,.v (.int .i64 b)),(5,.v (.int .i64 (i : Int))),(14,.v (.int .i64 b)),(15,.v (.pointer (some ⟨b2,o3 + i * 3,none⟩)))],[],[],[ownF B (.slice A l.length cap) 3 (((marks mkT 3 k i ++ l.drop i).map tupCells).set i [.int .i64 x.ip,.int .i64 x.port,.int .i64 x.my]),frF w (ownF B (.slice A l.length cap) 3 (l.map tupCells)).blk]⟩ (.pointer (some ⟨b2,o3 + i * 3 + 0,none⟩)) rfl (fun _ _ _ ww hr => fld_run (sz := 1) hr rfl Try.underlying35 rfl (by kernel_rfl) rfl rfl (by first | rfl | omega)) ?_
 refine xl_stE (K := 3) (po := 0) (B := B) (rs := ((marks mkT 3 k i ++ l.drop i).map tupCells)) (row' := [.int .i64 b,.int .i64 x.port,.int .i64 x.my]) 0 [0,1,5,14,16] ⟨[(0,.v (.slice A l.length cap)),(1,.v (.int .i64 b)),(5,.v (.int .i64 (i : Int))),(14,.v (.int .i64 b)),(16,.v (.pointer (some ⟨b2,o3 + i * 3 + 0,none⟩)))],[],[],[ownF B (.slice A l.length cap) 3 (((marks mkT 3 k i ++ l.drop i).map tupCells).set i [.int .i64 x.ip,.int .i64 x.port,.int .i64 x.my]),frF w (ownF B (.slice A l.length cap) 3 (l.map tupCells)).blk]⟩ i [.int .i64 x.ip,.int .i64 x.port,.int .i64 x.my] 0 (by kernel_rfl) rfl (by kernel_rfl) rfl rfl rfl rfl (by kernel_rfl) (by kernel_rfl) rfl (cutW_le w B) hA4 (by rw [mark_ln hi]; exact hlt) (fun r hr => by obtain ⟨y,_,rfl⟩ := List.mem_map.1 hr; rfl) (by kernel_rfl) (by kernel_rfl) rfl rfl ?_
 refine kEF [0,1,5] ⟨[(0,.v (.slice A l.length cap)),(1,.v (.int .i64 b)),(5,.v (.int .i64 (i : Int)))],[],[],[ownF B (.slice A l.length cap) 3 (((marks mkT 3 k i ++ l.drop i).map tupCells).set i [.int .i64 b,.int .i64 x.port,.int .i64 x.my]),frF w (ownF B (.slice A l.length cap) 3 (l.map tupCells)).blk]⟩ ?_
 refine kQ ?_
 refine kRS 3 [0,1,5] [(0,.v (.slice A l.length cap)),(1,.v (.int .i64 (IntKind.i64.wrap (b + 1)))),(5,.v (.int .i64 (i : Int)))] ?_
 refine xl_eqS (t' := [(0,.v (.slice A l.length cap)),(1,.v (.int .i64 (b + 1))),(5,.v (.int .i64 (i : Int)))]) (by rw [show (IntKind.i64.wrap (b + 1)) = (b + 1) from wrap_id (by omega) (by omega)]) ?_
 refine kES [0,1,5] [(0,.v (.slice A l.length cap)),(1,.v (.int .i64 (b + 1))),(5,.v (.int .i64 (i : Int)))] ?_
 refine kQ ?_
 refine xl_elem (kd := .i64) (T := 31) (e := 35) (K := 3) (A := A) (len := l.length) (cap := cap) (rs := (((marks mkT 3 k i ++ l.drop i).map tupCells).set i [.int .i64 b,.int .i64 x.port,.int .i64 x.my])) 3 [0,1,5,19,20,21] ⟨[(0,.v (.slice A l.length cap)),(1,.v (.int .i64 (b + 1))),(5,.v (.int .i64 (i : Int))),(19,.v (.slice A l.length cap)),(20,.v (.int .i64 (i : Int))),(21,.v (.int .i64 (b + 1)))],[],[],[ownF B (.slice A l.length cap) 3 (((marks mkT 3 k i ++ l.drop i).map tupCells).set i [.int .i64 b,.int .i64 x.port,.int .i64 x.my]),frF w (ownF B (.slice A l.length cap) 3 (l.map tupCells)).blk]⟩ i (ownF B (.slice A l.length cap) 3 (((marks mkT 3 k i ++ l.drop i).map tupCells).set i [.int .i64 b,.int .i64 x.port,.int .i64 x.my])) (by kernel_rfl) rfl (by kernel_rfl) (by kernel_rfl) rfl (by kernel_rfl) (by kernel_rfl) (by kernel_rfl) (by kernel_rfl) hlt (by simp) (fun ww h => Own.sl h) (by rw [List.length_set,mark_ln hi]; exact hlt) ?_
 intro b5 o6 hA7
 refine kOF 0 [0,1,5,21,22] ⟨[(0,.v (.slice A l.length cap)),(1,.v (.int .i64 (b + 1))),(5,.v (.int .i64 (i : Int))),(21,.v (.int .i64 (b + 1))),(22,.v (.pointer (some ⟨b5,o6 + i * 3,none⟩)))],[],[],[ownF B (.slice A l.length cap) 3 (((marks mkT 3 k i ++ l.drop i).map tupCells).set i [.int .i64 b,.int .i64 x.port,.int .i64 x.my]),frF w (ownF B (.slice A l.length cap) 3 (l.map tupCells)).blk]⟩ (.pointer (some ⟨b5,o6 + i * 3 + 1,none⟩)) rfl (fun _ _ _ ww hr => fld_run (sz := 1) hr rfl Try.underlying35 rfl (by kernel_rfl) rfl rfl (by first | rfl | omega)) ?_
 refine xl_stE (K := 3) (po := 1) (B := B) (rs := ((marks mkT 3 k i ++ l.drop i).map tupCells)) (row' := [.int .i64 b,.int .i64 (b + 1),.int .i64 x.my]) 0 [0,1,5,21,23] ⟨[(0,.v (.slice A l.length cap)),(1,.v (.int .i64 (b + 1))),(5,.v (.int .i64 (i : Int))),(21,.v (.int .i64 (b + 1))),(23,.v (.pointer (some ⟨b5,o6 + i * 3 + 1,none⟩)))],[],[],[ownF B (.slice A l.length cap) 3 (((marks mkT 3 k i ++ l.drop i).map tupCells).set i [.int .i64 b,.int .i64 x.port,.int .i64 x.my]),frF w (ownF B (.slice A l.length cap) 3 (l.map tupCells)).blk]⟩ i [.int .i64 b,.int .i64 x.port,.int .i64 x.my] 0 (by kernel_rfl) rfl (by kernel_rfl) rfl rfl rfl rfl (by kernel_rfl) (by kernel_rfl) rfl (cutW_le w B) hA7 (by rw [mark_ln hi]; exact hlt) (fun r hr => by obtain ⟨y,_,rfl⟩ := List.mem_map.1 hr; rfl) (by kernel_rfl) (by kernel_rfl) rfl rfl ?_
 refine kEF [0,1,5] ⟨[(0,.v (.slice A l.length cap)),(1,.v (.int .i64 (b + 1))),(5,.v (.int .i64 (i : Int)))],[],[],[ownF B (.slice A l.length cap) 3 (((marks mkT 3 k i ++ l.drop i).map tupCells).set i [.int .i64 b,.int .i64 (b + 1),.int .i64 x.my]),frF w (ownF B (.slice A l.length cap) 3 (l.map tupCells)).blk]⟩ ?_
 refine kQ ?_
 refine kRS 3 [0,1,5] [(0,.v (.slice A l.length cap)),(1,.v (.int .i64 (IntKind.i64.wrap (b + 1 + 1)))),(5,.v (.int .i64 (i : Int)))] ?_
 refine xl_eqS (t' := [(0,.v (.slice A l.length cap)),(1,.v (.int .i64 (b + 2))),(5,.v (.int .i64 (i : Int)))]) (by rw [show (IntKind.i64.wrap (b + 1 + 1)) = (b + 2) from wrap_to (by omega) (by omega) (by omega)]) ?_
 refine kES [0,1,5] [(0,.v (.slice A l.length cap)),(1,.v (.int .i64 (b + 2))),(5,.v (.int .i64 (i : Int)))] ?_
 refine kQ ?_
 refine xl_elem (kd := .i64) (T := 31) (e := 35) (K := 3) (A := A) (len := l.length) (cap := cap) (rs := (((marks mkT 3 k i ++ l.drop i).map tupCells).set i [.int .i64 b,.int .i64 (b + 1),.int .i64 x.my])) 3 [0,1,5,26,27,28] ⟨[(0,.v (.slice A l.length cap)),(1,.v (.int .i64 (b + 2))),(5,.v (.int .i64 (i : Int))),(26,.v (.slice A l.length cap)),(27,.v (.int .i64 (i : Int))),(28,.v (.int .i64 (b + 2)))],[],[],[ownF B (.slice A l.length cap) 3 (((marks mkT 3 k i ++ l.drop i).map tupCells).set i [.int .i64 b,.int .i64 (b + 1),.int .i64 x.my]),frF w (ownF B (.slice A l.length cap) 3 (l.map tupCells)).blk]⟩ i (ownF B (.slice A l.length cap) 3 (((marks mkT 3 k i ++ l.drop i).map tupCells).set i [.int .i64 b,.int .i64 (b + 1),.int .i64 x.my])) (by kernel_rfl) rfl (by kernel_rfl) (by kernel_rfl) rfl (by kernel_rfl) (by kernel_rfl) (by kernel_rfl) (by kernel_rfl) hlt (by simp) (fun ww h => Own.sl h) (by rw [List.length_set,mark_ln hi]; exact hlt) ?_
 intro b8 o9 hA10
 refine kOF 0 [0,1,5,28,29] ⟨[(0,.v (.slice A l.length cap)),(1,.v (.int .i64 (b + 2))),(5,.v (.int .i64 (i : Int))),(28,.v (.int .i64 (b + 2))),(29,.v (.pointer (some ⟨b8,o9 + i * 3,none⟩)))],[],[],[ownF B (.slice A l.length cap) 3 (((marks mkT 3 k i ++ l.drop i).map tupCells).set i [.int .i64 b,.int .i64 (b + 1),.int .i64 x.my]),frF w (ownF B (.slice A l.length cap) 3 (l.map tupCells)).blk]⟩ (.pointer (some ⟨b8,o9 + i * 3 + 2,none⟩)) rfl (fun _ _ _ ww hr => fld_run (sz := 1) hr rfl Try.underlying35 rfl (by kernel_rfl) rfl rfl (by first | rfl | omega)) ?_
 refine xl_stE (K := 3) (po := 2) (B := B) (rs := ((marks mkT 3 k i ++ l.drop i).map tupCells)) (row' := [.int .i64 b,.int .i64 (b + 1),.int .i64 (b + 2)]) 0 [0,1,5,28,30] ⟨[(0,.v (.slice A l.length cap)),(1,.v (.int .i64 (b + 2))),(5,.v (.int .i64 (i : Int))),(28,.v (.int .i64 (b + 2))),(30,.v (.pointer (some ⟨b8,o9 + i * 3 + 2,none⟩)))],[],[],[ownF B (.slice A l.length cap) 3 (((marks mkT 3 k i ++ l.drop i).map tupCells).set i [.int .i64 b,.int .i64 (b + 1),.int .i64 x.my]),frF w (ownF B (.slice A l.length cap) 3 (l.map tupCells)).blk]⟩ i [.int .i64 b,.int .i64 (b + 1),.int .i64 x.my] 0 (by kernel_rfl) rfl (by kernel_rfl) rfl rfl rfl rfl (by kernel_rfl) (by kernel_rfl) rfl (cutW_le w B) hA10 (by rw [mark_ln hi]; exact hlt) (fun r hr => by obtain ⟨y,_,rfl⟩ := List.mem_map.1 hr; rfl) (by kernel_rfl) (by kernel_rfl) rfl rfl ?_
 refine kEF [0,1,5] ⟨[(0,.v (.slice A l.length cap)),(1,.v (.int .i64 (b + 2))),(5,.v (.int .i64 (i : Int)))],[],[],[ownF B (.slice A l.length cap) 3 (((marks mkT 3 k i ++ l.drop i).map tupCells).set i [.int .i64 b,.int .i64 (b + 1),.int .i64 (b + 2)]),frF w (ownF B (.slice A l.length cap) 3 (l.map tupCells)).blk]⟩ ?_
 refine kG ?_
 refine kRS 3 [0,1,5] [(0,.v (.slice A l.length cap)),(1,.v (.int .i64 (IntKind.i64.wrap (b + 2 + 1)))),(5,.v (.int .i64 (i : Int)))] ?_
 refine xl_eqS (t' := [(0,.v (.slice A l.length cap)),(1,.v (.int .i64 (b + 3))),(5,.v (.int .i64 (i : Int)))]) (by rw [show (IntKind.i64.wrap (b + 2 + 1)) = (b + 3) from wrap_to (by omega) (by omega) (by omega)]) ?_
 refine kES [0,1,5] [(0,.v (.slice A l.length cap)),(1,.v (.int .i64 (b + 3))),(5,.v (.int .i64 (i : Int)))] ?_
 refine kG ?_
 refine kRS 3 [0,1,5] [(0,.v (.slice A l.length cap)),(1,.v (.int .i64 (b + 3))),(5,.v (.int .i64 (IntKind.i64.wrap ((i : Int) + 1))))] ?_
 refine xl_eqS (t' := [(0,.v (.slice A l.length cap)),(1,.v (.int .i64 (b + 3))),(5,.v (.int .i64 ((i : Int) + 1)))]) (by rw [show (IntKind.i64.wrap ((i : Int) + 1)) = ((i : Int) + 1) from wrap_id (by omega) (by omega)]) ?_
 refine kES [0,1,5] [(0,.v (.slice A l.length cap)),(1,.v (.int .i64 (b + 3))),(5,.v (.int .i64 ((i : Int) + 1)))] ?_
 have e : b + 3 = k + 3 * ((i + 1 : Nat) : Int) := by omega
 rw [e]
 subst hb
 exact ⟨⟨(i + 1),hlt⟩,(wk_fact0 (congrArg (fun z => ownF B (.slice A l.length cap) 3 z) (mark_next (f := tupCells) (mk := mkT) (c := 3) (k := k) hlt))).trans <| kF 0 0 [0,1,5],by show (fun (i : Nat) => l.length - i) (i + 1) < l.length - i; (dsimp only; omega)⟩
 have h1p := of_decide_eq_false h1
 have hge : i = l.length := by simp at h1; omega
 refine xw_exit ?_
 refine kQ ?_
 refine kES [4] [(4,.v (.int .i64 (k + 3 * (i : Int))))] ?_
 refine kR ?_
 subst hge
 exact ⟨[.int .i64 (k + 3 * (l.length : Int))],by kernel_rfl,fun w' hb hf => ⟨ret_int (by simp),by have := hf (ownF B (.slice A l.length cap) 3 ((marks mkT 3 k l.length ++ l.drop l.length).map tupCells)) (by simp); rw [List.drop_length,List.append_nil] at this; exact this,frF_chgd (hf (frF w (ownF B (.slice A l.length cap) 3 (l.map tupCells)).blk) (by simp)) hb rfl rfl rfl⟩⟩
theorem yheldTupleS_c (a : List Tup) (aV : Value) (k : Int) (w : World) (hl_aV : Sl w aV 3 (a.map tupCells)) (ha : a = marks mkT 3 k a.length) (hk0 : 0 ≤ k) (hk : k ≤ 4503599627370496) (hl : a.length ≤ 1048576) : Calls Try.prog 59 #[aV, .int .i64 k] w fun e w' => e = .returned (.int .i64 (k + 3 * (a.length : Int))) ∧ Below w.heap.size w w' := by
 obtain ⟨Aa,Ca,hva⟩ := hl_aV.form
 rw [List.length_map] at hva; subst hva
 have hna := hl_aV.len; rw [List.length_map] at hna
 have hqa := Sl.capLe hl_aV
 refine x_calls (args := [.slice Aa a.length Ca,.int .i64 k]) (fn := Try.f59) [slF (.slice Aa a.length Ca) 3 (a.map tupCells)] Try.func59 rfl Try.ntmps59 rfl (by simp only [List.mem_cons,List.not_mem_nil,or_false,forall_eq_or_imp,forall_eq]; exact ⟨rfl,hl_aV⟩) ?_
 refine kQ ?_
 refine kEF [0,1] ⟨[(0,.v (.slice Aa a.length Ca)),(1,.v (.int .i64 k))],[],[],[slF (.slice Aa a.length Ca) 3 (a.map tupCells)]⟩ ?_
 refine kS ?_
 refine kQ ?_
 refine kES [0,1,5] [(0,.v (.slice Aa a.length Ca)),(1,.v (.int .i64 k)),(5,.v (.int .i64 0))] ?_
 refine xw_block ?_
 have e0 : k + 3 * ((0 : Nat) : Int) = k := by omega
 refine xw_eq (st' := ⟨[(0,.v (.slice Aa a.length Ca)),(1,.v (.int .i64 (k + 3 * ((0 : Nat) : Int)))),(5,.v (.int .i64 0))],[],[],[slF (.slice Aa a.length Ca) 3 (a.map tupCells)]⟩) (by rw [e0]) ?_
 refine xw_loopW (α := {x : Nat // (fun (i : Nat) => i ≤ a.length) x}) (fun x => (fun (i : Nat) => (⟨[(0,.v (.slice Aa a.length Ca)),(1,.v (.int .i64 (k + 3 * (i : Int)))),(5,.v (.int .i64 (i : Int)))],[],[],[slF (.slice Aa a.length Ca) 3 (a.map tupCells)]⟩ : St)) x.1) (fun x => (fun (i : Nat) => a.length - i) x.1) ⟨(0),Nat.zero_le _⟩ (kF 0 0 [0,1,5]) ?_
 rintro ⟨i,hi⟩
 try dsimp only
 try dsimp only at hi
 refine kS ?_
 refine kQ ?_
 refine kES [0,1,5,9] [(0,.v (.slice Aa a.length Ca)),(1,.v (.int .i64 (k + 3 * (i : Int)))),(5,.v (.int .i64 (i : Int))),(9,.v (.bool (decide ((i : Int) < ((a.length : Nat) : Int)))))] ?_
 refine kC (decide ((i : Int) < ((a.length : Nat) : Int))) (fun h1 => ?_) (fun h1 => ?_)
 have h1p := of_decide_eq_true h1
 have hlt : i < a.length := by simpa using h1
 obtain ⟨x,hx⟩ : ∃ x,a[i]? = some x := ⟨_,List.getElem?_eq_getElem hlt⟩
 have hxe := marks_get (mk := mkT) (c := 3) (k := k) (n := a.length) (show _ = some x by rw [← ha]; exact hx)
 obtain ⟨b,hb⟩ : ∃ b,b = k + 3 * (i : Int) := ⟨_,rfl⟩
 rw [← hb] at hxe ⊢
 refine kK ?_
 refine kS ?_
 refine xw_block ?_
 refine kS ?_
 refine kQ ?_
 refine xl_index (kd := .i64) (T := 31) (e := 35) (K := 3) 2 [0,1,5,12,13] ⟨[(0,.v (.slice Aa a.length Ca)),(1,.v (.int .i64 b)),(5,.v (.int .i64 (i : Int))),(12,.v (.slice Aa a.length Ca)),(13,.v (.int .i64 (i : Int)))],[],[],[slF (.slice Aa a.length Ca) 3 (a.map tupCells)]⟩ i [.int .i64 b,.int .i64 (b + 1),.int .i64 (b + 2)] (slF (.slice Aa a.length Ca) 3 (a.map tupCells)) (by kernel_rfl) rfl (by kernel_rfl) rfl rfl (by kernel_rfl) (by kernel_rfl) (by kernel_rfl) (by kernel_rfl) hlt (by simp) (fun w h => h) (fun b h => h) (by simp only [List.getElem?_map,hx,hxe]; rfl) ?_
 refine kES [0,1,5,18] [(0,.v (.slice Aa a.length Ca)),(1,.v (.int .i64 b)),(5,.v (.int .i64 (i : Int))),(18,.v (.bool (b != b)))] ?_
 refine kC (b != b) (fun h2 => ?_) (fun h2 => ?_)
 simp at h2
 have h2p := neF h2
 refine kK ?_
 refine kQ ?_
 refine kRS 3 [0,1,5] [(0,.v (.slice Aa a.length Ca)),(1,.v (.int .i64 (IntKind.i64.wrap (b + 1)))),(5,.v (.int .i64 (i : Int)))] ?_
 refine xl_eqS (t' := [(0,.v (.slice Aa a.length Ca)),(1,.v (.int .i64 (b + 1))),(5,.v (.int .i64 (i : Int)))]) (by rw [show (IntKind.i64.wrap (b + 1)) = (b + 1) from wrap_id (by omega) (by omega)]) ?_
 refine kES [0,1,5] [(0,.v (.slice Aa a.length Ca)),(1,.v (.int .i64 (b + 1))),(5,.v (.int .i64 (i : Int)))] ?_
 refine kS ?_
 refine kQ ?_
 refine xl_indexS (kd := .i64) (T := 31) (e := 35) (K := 3) 2 [0,1,5,21,22] [(0,.v (.slice Aa a.length Ca)),(1,.v (.int .i64 (b + 1))),(5,.v (.int .i64 (i : Int))),(21,.v (.slice Aa a.length Ca)),(22,.v (.int .i64 (i : Int)))] i [.int .i64 b,.int .i64 (b + 1),.int .i64 (b + 2)] (slF (.slice Aa a.length Ca) 3 (a.map tupCells)) (by kernel_rfl) rfl (by kernel_rfl) rfl rfl (by kernel_rfl) (by kernel_rfl) (by kernel_rfl) (by kernel_rfl) hlt (by simp) (fun w h => h) (fun b h => h) (by simp only [List.getElem?_map,hx,hxe]; rfl) ?_
 refine kES [0,1,5,27] [(0,.v (.slice Aa a.length Ca)),(1,.v (.int .i64 (b + 1))),(5,.v (.int .i64 (i : Int))),(27,.v (.bool ((b + 1) != (b + 1))))] ?_
 refine kC ((b + 1) != (b + 1)) (fun h3 => ?_) (fun h3 => ?_)
 simp at h3
 have h3p := neF h3
 refine kK ?_
 refine kQ ?_
 refine kRS 3 [0,1,5] [(0,.v (.slice Aa a.length Ca)),(1,.v (.int .i64 (IntKind.i64.wrap (b + 1 + 1)))),(5,.v (.int .i64 (i : Int)))] ?_
 refine xl_eqS (t' := [(0,.v (.slice Aa a.length Ca)),(1,.v (.int .i64 (b + 2))),(5,.v (.int .i64 (i : Int)))]) (by rw [show (IntKind.i64.wrap (b + 1 + 1)) = (b + 2) from wrap_to (by omega) (by omega) (by omega)]) ?_
 refine kES [0,1,5] [(0,.v (.slice Aa a.length Ca)),(1,.v (.int .i64 (b + 2))),(5,.v (.int .i64 (i : Int)))] ?_
 refine kS ?_
 refine kQ ?_
 refine xl_indexS (kd := .i64) (T := 31) (e := 35) (K := 3) 2 [0,1,5,30,31] [(0,.v (.slice Aa a.length Ca)),(1,.v (.int .i64 (b + 2))),(5,.v (.int .i64 (i : Int))),(30,.v (.slice Aa a.length Ca)),(31,.v (.int .i64 (i : Int)))] i [.int .i64 b,.int .i64 (b + 1),.int .i64 (b + 2)] (slF (.slice Aa a.length Ca) 3 (a.map tupCells)) (by kernel_rfl) rfl (by kernel_rfl) rfl rfl (by kernel_rfl) (by kernel_rfl) (by kernel_rfl) (by kernel_rfl) hlt (by simp) (fun w h => h) (fun b h => h) (by simp only [List.getElem?_map,hx,hxe]; rfl) ?_
 refine kES [0,1,5,36] [(0,.v (.slice Aa a.length Ca)),(1,.v (.int .i64 (b + 2))),(5,.v (.int .i64 (i : Int))),(36,.v (.bool ((b + 2) != (b + 2))))] ?_
 refine kC ((b + 2) != (b + 2)) (fun h4 => ?_) (fun h4 => ?_)
 simp at h4
 have h4p := neF h4
 refine kK ?_
 refine kG ?_
 refine kRS 3 [0,1,5] [(0,.v (.slice Aa a.length Ca)),(1,.v (.int .i64 (IntKind.i64.wrap (b + 2 + 1)))),(5,.v (.int .i64 (i : Int)))] ?_
 refine xl_eqS (t' := [(0,.v (.slice Aa a.length Ca)),(1,.v (.int .i64 (b + 3))),(5,.v (.int .i64 (i : Int)))]) (by rw [show (IntKind.i64.wrap (b + 2 + 1)) = (b + 3) from wrap_to (by omega) (by omega) (by omega)]) ?_
 refine kES [0,1,5] [(0,.v (.slice Aa a.length Ca)),(1,.v (.int .i64 (b + 3))),(5,.v (.int .i64 (i : Int)))] ?_
 refine kG ?_
 refine kRS 3 [0,1,5] [(0,.v (.slice Aa a.length Ca)),(1,.v (.int .i64 (b + 3))),(5,.v (.int .i64 (IntKind.i64.wrap ((i : Int) + 1))))] ?_
 refine xl_eqS (t' := [(0,.v (.slice Aa a.length Ca)),(1,.v (.int .i64 (b + 3))),(5,.v (.int .i64 ((i : Int) + 1)))]) (by rw [show (IntKind.i64.wrap ((i : Int) + 1)) = ((i : Int) + 1) from wrap_id (by omega) (by omega)]) ?_
 refine kES [0,1,5] [(0,.v (.slice Aa a.length Ca)),(1,.v (.int .i64 (b + 3))),(5,.v (.int .i64 ((i : Int) + 1)))] ?_
 have e : b + 3 = k + 3 * ((i + 1 : Nat) : Int) := by omega
 rw [e]
 exact ⟨⟨(i + 1),hlt⟩,kF 0 0 [0,1,5],by show (fun (i : Nat) => a.length - i) (i + 1) < a.length - i; (dsimp only; omega)⟩
 have h1p := of_decide_eq_false h1
 have hge : i = a.length := by simp at h1; omega
 refine xw_exit ?_
 refine kQ ?_
 refine kES [4] [(4,.v (.int .i64 (k + 3 * (i : Int))))] ?_
 refine kR ?_
 have hmod : k + 3 * (a.length : Int) = (k + 3 * (i : Int)) := by first | rfl | (rw [hge])
 exact ⟨[.int .i64 (k + 3 * (i : Int))],by kernel_rfl,fun w' hb hf => by rw [hmod]; exact ⟨rfl,hb⟩⟩
theorem yheldTupleS_m (n : Nat) (v : Value) (k : Int) (w : World) (hs : Sl w v 3 ((marks mkT 3 k n).map tupCells)) (hk0 : 0 ≤ k) (hk : k ≤ 4503599627370496) (hl : n ≤ 1048576) : Calls Try.prog 59 #[v, .int .i64 k] w fun e w' => e = .returned (.int .i64 (k + 3 * (n : Int))) ∧ Below w.heap.size w w' := by
 have := yheldTupleS_c (marks mkT 3 k n) v k w hs (by rw [marks_len]) hk0 hk (by rw [marks_len]; exact hl)
 rw [marks_len] at this; exact this
theorem ymarkConnS_c (v : Value) (l : List CV) (k : Int) (w : World) (B : Nat) (hB : B ≤ w.heap.size) (h : (allF (tabR B 68 v l)).p w) (hk0 : 0 ≤ k) (hk : k ≤ 1125899906842624) (hl : l.length ≤ 1048576) (hfit : ∀ x ∈ l, x.1.r.held.length ≤ 1048576) : Calls Try.prog 56 #[v, .int .i64 k] w fun e w' => e = .returned (.int .i64 (k + mcnt l)) ∧ (allF (tabR B 68 v (mkCs k l))).p w' ∧ Chgd (allF (tabR B 68 v l)).blk w w' := by
 obtain ⟨hF,hFa⟩ := h
 have hF1 := hF _ (List.mem_cons_self ..)
 have hF2 := hF _ (List.mem_cons_of_mem _ (List.mem_cons_self ..))
 obtain ⟨A,cap,hv⟩ := (rowF_sl hF1).form
 rw [List.length_map] at hv; subst hv
 have hh_lV := hownF_sl hF2
 refine x_callsMA (args := [.slice A l.length cap,.int .i64 k]) (fn := Try.f56) [rowF B 68 25 (.slice A l.length cap) (l.map conR),hownF B l,frF w (allF (tabR B 68 (.slice A l.length cap) l)).blk] B Try.func56 rfl Try.ntmps56 rfl hB (by simp only [List.mem_cons,List.not_mem_nil,or_false,forall_eq_or_imp,forall_eq]; exact ⟨hF1,hF2,frF_start w _⟩) (apart_frS hFa fun g hg b hb => ⟨g,hg,hb⟩) ?_
 refine kQ ?_
 refine kEF [0,1] ⟨[(0,.v (.slice A l.length cap)),(1,.v (.int .i64 k))],[],[],[rowF B 68 25 (.slice A l.length cap) (l.map conR),hownF B l,frF w (allF (tabR B 68 (.slice A l.length cap) l)).blk]⟩ ?_
 refine kS ?_
 refine kQ ?_
 refine kED [0,1,5] [(5,.v (.int .i64 0))] ?_
 refine xw_block ?_
 refine xw_loopW (α := {x : Nat × List CV × Int // (fun (i : Nat) (L : List CV) (b : Int) => i ≤ l.length ∧ L = mkAt k l i ∧ b = k + mcnt (l.take i)) x.1 x.2.1 x.2.2}) (fun x => (fun (i : Nat) (L : List CV) (b : Int) => (⟨[(0,.v (.slice A l.length cap)),(1,.v (.int .i64 b)),(5,.v (.int .i64 (i : Int)))],[],[],[rowF B 68 25 (.slice A l.length cap) (L.map conR),hownF B L,frF w (allF (tabR B 68 (.slice A l.length cap) l)).blk]⟩ : St)) x.1.1 x.1.2.1 x.1.2.2) (fun x => (fun (i : Nat) (L : List CV) (b : Int) => l.length - i) x.1.1 x.1.2.1 x.1.2.2) ⟨(0,l,k),⟨Nat.zero_le _,rfl,(by simp [mcnt])⟩⟩ (kF 0 0 [0,1,5]) ?_
 rintro ⟨⟨i,L,b⟩,hi,HL,HK⟩
 try dsimp only
 try dsimp only at hi HL HK
 have hmb := mcnt_bd (l := l.take i) (fun x hx => hfit x (List.mem_of_mem_take hx))
 have htl : (l.take i).length = i := by rw [List.length_take]; omega
 rw [htl] at hmb
 refine kS ?_
 refine kQ ?_
 refine kED [0,1,5,9] [(9,.v (.bool (decide ((i : Int) < ((l.length : Nat) : Int)))))] ?_
 refine kC (decide ((i : Int) < ((l.length : Nat) : Int))) (fun h1 => ?_) (fun h1 => ?_)
 have h1p := of_decide_eq_true h1
 have hlt : i < l.length := by simpa using h1
 obtain ⟨x0,hx⟩ : ∃ x,l[i]? = some x := ⟨_,List.getElem?_eq_getElem hlt⟩
 obtain ⟨x,xa,xc,rfl⟩ := cv_form (hh_lV x0 (List.mem_of_getElem? hx))
 have hxn : x.r.held.length ≤ 1048576 := hfit _ (List.mem_of_getElem? hx)
 have hxL : L[i]? = some (x,.slice xa x.r.held.length xc) := by rw [HL]; exact mkAt_get hx
 have hLl : L.length = l.length := by rw [HL]; exact mkAt_len hi
 refine xw_know (φ := ∃ g,A = some ⟨g,0,none⟩) (fun _ _ _ _ hr => row_at (hr.2.fact (rowF B 68 25 (.slice A l.length cap) (L.map conR)) (by simp)).1 (j := i) (row := conR (x,.slice xa x.r.held.length xc)) (by simp only [List.getElem?_map,hxL]; rfl)) ?_
 rintro ⟨gg,hgg⟩
 refine kK ?_
 refine kS ?_
 refine xw_block ?_
 refine kQ ?_
 refine kOD 3 [0,1,5,12,13,14] [(12,.v (.slice A l.length cap)),(13,.v (.int .i64 (i : Int))),(14,.v (.int .i64 b))] (.pointer (some ⟨gg,i * 25,none⟩)) rfl (fun _ _ _ ww hr => act_ix (kd := .i64) (T := 30) (e := 68) (K := 25) (g := gg) (N := l.length) (cap := cap) i hgg hr.1 rfl rfl (by kernel_rfl) (by kernel_rfl) (by kernel_rfl) hlt ww) ?_
 refine kOD 0 [0,1,5,14,15] [] (.pointer (some ⟨gg,i * 25,none⟩)) rfl (fun _ _ _ ww hr => act_fld (sz := 3) (b := gg) (m := i * 25) hr.1 rfl Try.underlying68 rfl (by kernel_rfl) rfl (by kernel_rfl) rfl) ?_
 refine kOD 0 [0,1,5,14,16] [] (.pointer (some ⟨gg,i * 25,none⟩)) rfl (fun _ _ _ ww hr => act_fld (sz := 1) (b := gg) (m := i * 25) hr.1 rfl Try.underlying35 rfl (by kernel_rfl) rfl (by kernel_rfl) rfl) ?_
 refine xl_hs 0 [0,1,5,14,17] ⟨[(0,.v (.slice A l.length cap)),(1,.v (.int .i64 b)),(5,.v (.int .i64 (i : Int))),(14,.v (.int .i64 b)),(17,.v (.pointer (some ⟨gg,i * 25,none⟩)))],[],[],[rowF B 68 25 (.slice A l.length cap) (L.map conR),hownF B L,frF w (allF (tabR B 68 (.slice A l.length cap) l)).blk]⟩ (by kernel_rfl) rfl (by kernel_rfl) rfl (by kernel_rfl) (HSg.hs (hs_stR (g := gg) (B := B) (e := 68) (K := 25) (N := l.length) (cap := cap) (rs := (L.map conR)) (rs' := (L.set i (({ x with t := { x.t with ip := b } },.slice xa x.r.held.length xc) : CV)).map conR) (v := (.int .i64 b)) (i := 0) (off := i * 25) i 0 [.int .i64 x.t.ip,.int .i64 x.t.port,.int .i64 x.t.my,.int .i64 x.state,.int .i64 x.s.una,.string x.s.data,.int .i64 x.s.sent,.bool x.s.fin,.bool x.s.finSent,.bool x.s.done,.int .i64 x.r.next,.string x.r.data,.slice xa x.r.held.length xc,.int .i64 x.r.fin,.bool x.r.done,.int .i64 x.window,.int .i64 x.most,.int .i64 x.o.mss,.int .i64 x.o.scale,.bool x.o.sack,.bool x.o.stamp,.int .i64 x.o.val,.int .i64 x.o.echo,.int .i64 x.timer,.int .i64 x.tries] (row' := [.int .i64 b,.int .i64 x.t.port,.int .i64 x.t.my,.int .i64 x.state,.int .i64 x.s.una,.string x.s.data,.int .i64 x.s.sent,.bool x.s.fin,.bool x.s.finSent,.bool x.s.done,.int .i64 x.r.next,.string x.r.data,.slice xa x.r.held.length xc,.int .i64 x.r.fin,.bool x.r.done,.int .i64 x.window,.int .i64 x.most,.int .i64 x.o.mss,.int .i64 x.o.scale,.bool x.o.sack,.bool x.o.stamp,.int .i64 x.o.val,.int .i64 x.o.echo,.int .i64 x.timer,.int .i64 x.tries]) hgg rfl (by kernel_rfl) rfl (by kernel_rfl) (by kernel_rfl) (by kernel_rfl) (by kernel_rfl) (cutW_le w B) (by simp only [List.getElem?_map,hxL]; rfl) (by kernel_rfl) rfl (by rw [List.map_set]; rfl))) ?_
 refine kED [0,1,5] [] ?_
 refine kQ ?_
 refine kRD 3 [0,1,5] [(1,.v (.int .i64 (IntKind.i64.wrap (b + 1))))] ?_
 refine xl_nv [0,1,5] [(1,.v (.int .i64 (IntKind.i64.wrap (b + 1))))] [(1,.v (.int .i64 (b + 1)))] (by rw [show (IntKind.i64.wrap (b + 1)) = (b + 1) from wrap_id (by omega) (by omega)]) (by kernel_rfl) ?_
 refine kED [0,1,5] [] ?_
 refine kQ ?_
 refine kOD 3 [0,1,5,20,21,22] [(20,.v (.slice A l.length cap)),(21,.v (.int .i64 (i : Int))),(22,.v (.int .i64 (b + 1)))] (.pointer (some ⟨gg,i * 25,none⟩)) rfl (fun _ _ _ ww hr => act_ix (kd := .i64) (T := 30) (e := 68) (K := 25) (g := gg) (N := l.length) (cap := cap) i hgg hr.1 rfl rfl (by kernel_rfl) (by kernel_rfl) (by kernel_rfl) hlt ww) ?_
 refine kOS 0 [0,1,5,22,23] [(0,.v (.slice A l.length cap)),(1,.v (.int .i64 (b + 1))),(5,.v (.int .i64 (i : Int))),(22,.v (.int .i64 (b + 1))),(23,.v (.pointer (some ⟨gg,i * 25,none⟩)))] (.pointer (some ⟨gg,i * 25,none⟩)) rfl (fun _ _ _ ww hr => act_fld (sz := 3) (b := gg) (m := i * 25) hr.1 rfl Try.underlying68 rfl (by kernel_rfl) rfl (by kernel_rfl) rfl) ?_
 refine kOD 0 [0,1,5,22,24] [] (.pointer (some ⟨gg,i * 25 + 1,none⟩)) rfl (fun _ _ _ ww hr => act_fld (sz := 1) (b := gg) (m := i * 25) hr.1 rfl Try.underlying35 rfl (by kernel_rfl) rfl (by kernel_rfl) rfl) ?_
 refine xl_hs 0 [0,1,5,22,25] ⟨[(0,.v (.slice A l.length cap)),(1,.v (.int .i64 (b + 1))),(5,.v (.int .i64 (i : Int))),(22,.v (.int .i64 (b + 1))),(25,.v (.pointer (some ⟨gg,i * 25 + 1,none⟩)))],[],[],[rowF B 68 25 (.slice A l.length cap) ((L.set i (({ x with t := { x.t with ip := b } },.slice xa x.r.held.length xc) : CV)).map conR),hownF B L,frF w (allF (tabR B 68 (.slice A l.length cap) l)).blk]⟩ (by kernel_rfl) rfl (by kernel_rfl) rfl (by kernel_rfl) (HSg.hs (hs_stR (g := gg) (B := B) (e := 68) (K := 25) (N := l.length) (cap := cap) (rs := ((L.set i (({ x with t := { x.t with ip := b } },.slice xa x.r.held.length xc) : CV)).map conR)) (rs' := (L.set i (({ x with t := ⟨b,b + 1,x.t.my⟩ },.slice xa x.r.held.length xc) : CV)).map conR) (v := (.int .i64 (b + 1))) (i := 0) (off := i * 25 + 1) i 1 [.int .i64 b,.int .i64 x.t.port,.int .i64 x.t.my,.int .i64 x.state,.int .i64 x.s.una,.string x.s.data,.int .i64 x.s.sent,.bool x.s.fin,.bool x.s.finSent,.bool x.s.done,.int .i64 x.r.next,.string x.r.data,.slice xa x.r.held.length xc,.int .i64 x.r.fin,.bool x.r.done,.int .i64 x.window,.int .i64 x.most,.int .i64 x.o.mss,.int .i64 x.o.scale,.bool x.o.sack,.bool x.o.stamp,.int .i64 x.o.val,.int .i64 x.o.echo,.int .i64 x.timer,.int .i64 x.tries] (row' := [.int .i64 b,.int .i64 (b + 1),.int .i64 x.t.my,.int .i64 x.state,.int .i64 x.s.una,.string x.s.data,.int .i64 x.s.sent,.bool x.s.fin,.bool x.s.finSent,.bool x.s.done,.int .i64 x.r.next,.string x.r.data,.slice xa x.r.held.length xc,.int .i64 x.r.fin,.bool x.r.done,.int .i64 x.window,.int .i64 x.most,.int .i64 x.o.mss,.int .i64 x.o.scale,.bool x.o.sack,.bool x.o.stamp,.int .i64 x.o.val,.int .i64 x.o.echo,.int .i64 x.timer,.int .i64 x.tries]) hgg rfl (by kernel_rfl) rfl (by kernel_rfl) (by kernel_rfl) (by kernel_rfl) (by kernel_rfl) (cutW_le w B) (by rw [List.map_set,List.getElem?_set_self (by rw [List.length_map]; omega)]; rfl) (by kernel_rfl) rfl (by rw [List.map_set,List.map_set,List.set_set]; rfl))) ?_
 refine kED [0,1,5] [] ?_
 refine kQ ?_
 refine kRD 3 [0,1,5] [(1,.v (.int .i64 (IntKind.i64.wrap (b + 1 + 1))))] ?_
 refine xl_nv [0,1,5] [(1,.v (.int .i64 (IntKind.i64.wrap (b + 1 + 1))))] [(1,.v (.int .i64 (b + 2)))] (by rw [show (IntKind.i64.wrap (b + 1 + 1)) = (b + 2) from wrap_to (by omega) (by omega) (by omega)]) (by kernel_rfl) ?_
 refine kED [0,1,5] [] ?_
 refine kQ ?_
 refine kOD 3 [0,1,5,28,29,30] [(28,.v (.slice A l.length cap)),(29,.v (.int .i64 (i : Int))),(30,.v (.int .i64 (b + 2)))] (.pointer (some ⟨gg,i * 25,none⟩)) rfl (fun _ _ _ ww hr => act_ix (kd := .i64) (T := 30) (e := 68) (K := 25) (g := gg) (N := l.length) (cap := cap) i hgg hr.1 rfl rfl (by kernel_rfl) (by kernel_rfl) (by kernel_rfl) hlt ww) ?_
 refine kOD 0 [0,1,5,30,31] [] (.pointer (some ⟨gg,i * 25,none⟩)) rfl (fun _ _ _ ww hr => act_fld (sz := 3) (b := gg) (m := i * 25) hr.1 rfl Try.underlying68 rfl (by kernel_rfl) rfl (by kernel_rfl) rfl) ?_
 refine kOD 0 [0,1,5,30,32] [] (.pointer (some ⟨gg,i * 25 + 2,none⟩)) rfl (fun _ _ _ ww hr => act_fld (sz := 1) (b := gg) (m := i * 25) hr.1 rfl Try.underlying35 rfl (by kernel_rfl) rfl (by kernel_rfl) rfl) ?_
 refine xl_hs 0 [0,1,5,30,33] ⟨[(0,.v (.slice A l.length cap)),(1,.v (.int .i64 (b + 2))),(5,.v (.int .i64 (i : Int))),(30,.v (.int .i64 (b + 2))),(33,.v (.pointer (some ⟨gg,i * 25 + 2,none⟩)))],[],[],[rowF B 68 25 (.slice A l.length cap) ((L.set i (({ x with t := ⟨b,b + 1,x.t.my⟩ },.slice xa x.r.held.length xc) : CV)).map conR),hownF B L,frF w (allF (tabR B 68 (.slice A l.length cap) l)).blk]⟩ (by kernel_rfl) rfl (by kernel_rfl) rfl (by kernel_rfl) (HSg.hs (hs_stR (g := gg) (B := B) (e := 68) (K := 25) (N := l.length) (cap := cap) (rs := ((L.set i (({ x with t := ⟨b,b + 1,x.t.my⟩ },.slice xa x.r.held.length xc) : CV)).map conR)) (rs' := (L.set i (({ x with t := ⟨b,b + 1,b + 2⟩ },.slice xa x.r.held.length xc) : CV)).map conR) (v := (.int .i64 (b + 2))) (i := 0) (off := i * 25 + 2) i 2 [.int .i64 b,.int .i64 (b + 1),.int .i64 x.t.my,.int .i64 x.state,.int .i64 x.s.una,.string x.s.data,.int .i64 x.s.sent,.bool x.s.fin,.bool x.s.finSent,.bool x.s.done,.int .i64 x.r.next,.string x.r.data,.slice xa x.r.held.length xc,.int .i64 x.r.fin,.bool x.r.done,.int .i64 x.window,.int .i64 x.most,.int .i64 x.o.mss,.int .i64 x.o.scale,.bool x.o.sack,.bool x.o.stamp,.int .i64 x.o.val,.int .i64 x.o.echo,.int .i64 x.timer,.int .i64 x.tries] (row' := [.int .i64 b,.int .i64 (b + 1),.int .i64 (b + 2),.int .i64 x.state,.int .i64 x.s.una,.string x.s.data,.int .i64 x.s.sent,.bool x.s.fin,.bool x.s.finSent,.bool x.s.done,.int .i64 x.r.next,.string x.r.data,.slice xa x.r.held.length xc,.int .i64 x.r.fin,.bool x.r.done,.int .i64 x.window,.int .i64 x.most,.int .i64 x.o.mss,.int .i64 x.o.scale,.bool x.o.sack,.bool x.o.stamp,.int .i64 x.o.val,.int .i64 x.o.echo,.int .i64 x.timer,.int .i64 x.tries]) hgg rfl (by kernel_rfl) rfl (by kernel_rfl) (by kernel_rfl) (by kernel_rfl) (by kernel_rfl) (cutW_le w B) (by rw [List.map_set,List.getElem?_set_self (by rw [List.length_map]; omega)]; rfl) (by kernel_rfl) rfl (by rw [List.map_set,List.map_set,List.set_set]; rfl))) ?_
 refine kED [0,1,5] [] ?_
 refine kQ ?_
 refine kRS 3 [0,1,5] [(0,.v (.slice A l.length cap)),(1,.v (.int .i64 (IntKind.i64.wrap (b + 2 + 1)))),(5,.v (.int .i64 (i : Int)))] ?_
 refine xl_eqS (t' := [(0,.v (.slice A l.length cap)),(1,.v (.int .i64 (b + 3))),(5,.v (.int .i64 (i : Int)))]) (by rw [show (IntKind.i64.wrap (b + 2 + 1)) = (b + 3) from wrap_to (by omega) (by omega) (by omega)]) ?_
 refine kED [0,1,5] [] ?_
 refine kQ ?_
 refine kOD 3 [0,1,5,36,37,38] [(36,.v (.slice A l.length cap)),(37,.v (.int .i64 (i : Int))),(38,.v (.int .i64 (b + 3)))] (.pointer (some ⟨gg,i * 25,none⟩)) rfl (fun _ _ _ ww hr => act_ix (kd := .i64) (T := 30) (e := 68) (K := 25) (g := gg) (N := l.length) (cap := cap) i hgg hr.1 rfl rfl (by kernel_rfl) (by kernel_rfl) (by kernel_rfl) hlt ww) ?_
 refine kOD 0 [0,1,5,38,39] [] (.pointer (some ⟨gg,i * 25 + 3,none⟩)) rfl (fun _ _ _ ww hr => act_fld (sz := 1) (b := gg) (m := i * 25) hr.1 rfl Try.underlying68 rfl (by kernel_rfl) rfl (by kernel_rfl) rfl) ?_
 refine xl_hs 0 [0,1,5,38,40] ⟨[(0,.v (.slice A l.length cap)),(1,.v (.int .i64 (b + 3))),(5,.v (.int .i64 (i : Int))),(38,.v (.int .i64 (b + 3))),(40,.v (.pointer (some ⟨gg,i * 25 + 3,none⟩)))],[],[],[rowF B 68 25 (.slice A l.length cap) ((L.set i (({ x with t := ⟨b,b + 1,b + 2⟩ },.slice xa x.r.held.length xc) : CV)).map conR),hownF B L,frF w (allF (tabR B 68 (.slice A l.length cap) l)).blk]⟩ (by kernel_rfl) rfl (by kernel_rfl) rfl (by kernel_rfl) (HSg.hs (hs_stR (g := gg) (B := B) (e := 68) (K := 25) (N := l.length) (cap := cap) (rs := ((L.set i (({ x with t := ⟨b,b + 1,b + 2⟩ },.slice xa x.r.held.length xc) : CV)).map conR)) (rs' := (L.set i (({ x with t := ⟨b,b + 1,b + 2⟩,state := b + 3 },.slice xa x.r.held.length xc) : CV)).map conR) (v := (.int .i64 (b + 3))) (i := 0) (off := i * 25 + 3) i 3 [.int .i64 b,.int .i64 (b + 1),.int .i64 (b + 2),.int .i64 x.state,.int .i64 x.s.una,.string x.s.data,.int .i64 x.s.sent,.bool x.s.fin,.bool x.s.finSent,.bool x.s.done,.int .i64 x.r.next,.string x.r.data,.slice xa x.r.held.length xc,.int .i64 x.r.fin,.bool x.r.done,.int .i64 x.window,.int .i64 x.most,.int .i64 x.o.mss,.int .i64 x.o.scale,.bool x.o.sack,.bool x.o.stamp,.int .i64 x.o.val,.int .i64 x.o.echo,.int .i64 x.timer,.int .i64 x.tries] (row' := [.int .i64 b,.int .i64 (b + 1),.int .i64 (b + 2),.int .i64 (b + 3),.int .i64 x.s.una,.string x.s.data,.int .i64 x.s.sent,.bool x.s.fin,.bool x.s.finSent,.bool x.s.done,.int .i64 x.r.next,.string x.r.data,.slice xa x.r.held.length xc,.int .i64 x.r.fin,.bool x.r.done,.int .i64 x.window,.int .i64 x.most,.int .i64 x.o.mss,.int .i64 x.o.scale,.bool x.o.sack,.bool x.o.stamp,.int .i64 x.o.val,.int .i64 x.o.echo,.int .i64 x.timer,.int .i64 x.tries]) hgg rfl (by kernel_rfl) rfl (by kernel_rfl) (by kernel_rfl) (by kernel_rfl) (by kernel_rfl) (cutW_le w B) (by rw [List.map_set,List.getElem?_set_self (by rw [List.length_map]; omega)]; rfl) (by kernel_rfl) rfl (by rw [List.map_set,List.map_set,List.set_set]; rfl))) ?_
 refine kED [0,1,5] [] ?_
 refine kQ ?_
 refine kRD 3 [0,1,5] [(1,.v (.int .i64 (IntKind.i64.wrap (b + 3 + 1))))] ?_
 refine xl_nv [0,1,5] [(1,.v (.int .i64 (IntKind.i64.wrap (b + 3 + 1))))] [(1,.v (.int .i64 (b + 4)))] (by rw [show (IntKind.i64.wrap (b + 3 + 1)) = (b + 4) from wrap_to (by omega) (by omega) (by omega)]) (by kernel_rfl) ?_
 refine kED [0,1,5] [] ?_
 refine kQ ?_
 refine kOD 3 [0,1,5,43,44,45] [(43,.v (.slice A l.length cap)),(44,.v (.int .i64 (i : Int))),(45,.v (.int .i64 (b + 4)))] (.pointer (some ⟨gg,i * 25,none⟩)) rfl (fun _ _ _ ww hr => act_ix (kd := .i64) (T := 30) (e := 68) (K := 25) (g := gg) (N := l.length) (cap := cap) i hgg hr.1 rfl rfl (by kernel_rfl) (by kernel_rfl) (by kernel_rfl) hlt ww) ?_
 refine kOD 0 [0,1,5,45,46] [] (.pointer (some ⟨gg,i * 25 + 4,none⟩)) rfl (fun _ _ _ ww hr => act_fld (sz := 6) (b := gg) (m := i * 25) hr.1 rfl Try.underlying68 rfl (by kernel_rfl) rfl (by kernel_rfl) rfl) ?_
 refine kOD 0 [0,1,5,45,47] [] (.pointer (some ⟨gg,i * 25 + 4,none⟩)) rfl (fun _ _ _ ww hr => act_fld (sz := 1) (b := gg) (m := i * 25 + 4) hr.1 rfl Try.underlying62 rfl (by kernel_rfl) rfl (by kernel_rfl) rfl) ?_
 refine xl_hs 0 [0,1,5,45,48] ⟨[(0,.v (.slice A l.length cap)),(1,.v (.int .i64 (b + 4))),(5,.v (.int .i64 (i : Int))),(45,.v (.int .i64 (b + 4))),(48,.v (.pointer (some ⟨gg,i * 25 + 4,none⟩)))],[],[],[rowF B 68 25 (.slice A l.length cap) ((L.set i (({ x with t := ⟨b,b + 1,b + 2⟩,state := b + 3 },.slice xa x.r.held.length xc) : CV)).map conR),hownF B L,frF w (allF (tabR B 68 (.slice A l.length cap) l)).blk]⟩ (by kernel_rfl) rfl (by kernel_rfl) rfl (by kernel_rfl) (HSg.hs (hs_stR (g := gg) (B := B) (e := 68) (K := 25) (N := l.length) (cap := cap) (rs := ((L.set i (({ x with t := ⟨b,b + 1,b + 2⟩,state := b + 3 },.slice xa x.r.held.length xc) : CV)).map conR)) (rs' := (L.set i (({ x with t := ⟨b,b + 1,b + 2⟩,state := b + 3,s := { x.s with una := b + 4 } },.slice xa x.r.held.length xc) : CV)).map conR) (v := (.int .i64 (b + 4))) (i := 0) (off := i * 25 + 4) i 4 [.int .i64 b,.int .i64 (b + 1),.int .i64 (b + 2),.int .i64 (b + 3),.int .i64 x.s.una,.string x.s.data,.int .i64 x.s.sent,.bool x.s.fin,.bool x.s.finSent,.bool x.s.done,.int .i64 x.r.next,.string x.r.data,.slice xa x.r.held.length xc,.int .i64 x.r.fin,.bool x.r.done,.int .i64 x.window,.int .i64 x.most,.int .i64 x.o.mss,.int .i64 x.o.scale,.bool x.o.sack,.bool x.o.stamp,.int .i64 x.o.val,.int .i64 x.o.echo,.int .i64 x.timer,.int .i64 x.tries] (row' := [.int .i64 b,.int .i64 (b + 1),.int .i64 (b + 2),.int .i64 (b + 3),.int .i64 (b + 4),.string x.s.data,.int .i64 x.s.sent,.bool x.s.fin,.bool x.s.finSent,.bool x.s.done,.int .i64 x.r.next,.string x.r.data,.slice xa x.r.held.length xc,.int .i64 x.r.fin,.bool x.r.done,.int .i64 x.window,.int .i64 x.most,.int .i64 x.o.mss,.int .i64 x.o.scale,.bool x.o.sack,.bool x.o.stamp,.int .i64 x.o.val,.int .i64 x.o.echo,.int .i64 x.timer,.int .i64 x.tries]) hgg rfl (by kernel_rfl) rfl (by kernel_rfl) (by kernel_rfl) (by kernel_rfl) (by kernel_rfl) (cutW_le w B) (by rw [List.map_set,List.getElem?_set_self (by rw [List.length_map]; omega)]; rfl) (by kernel_rfl) rfl (by rw [List.map_set,List.map_set,List.set_set]; rfl))) ?_
 refine kES [0,1,5] [(0,.v (.slice A l.length cap)),(1,.v (.int .i64 (b + 4))),(5,.v (.int .i64 (i : Int)))] ?_
 refine kQ ?_
 refine kRD 3 [0,1,5] [(1,.v (.int .i64 (IntKind.i64.wrap (b + 4 + 1))))] ?_
 refine xl_nv [0,1,5] [(1,.v (.int .i64 (IntKind.i64.wrap (b + 4 + 1))))] [(1,.v (.int .i64 (b + 5)))] (by rw [show (IntKind.i64.wrap (b + 4 + 1)) = (b + 5) from wrap_to (by omega) (by omega) (by omega)]) (by kernel_rfl) ?_
 refine kED [0,1,5] [] ?_
 refine kQ ?_
 refine kCD 3 [0,1,5,51,52,53] [(51,.v (.slice A l.length cap)),(52,.v (.int .i64 (i : Int))),(53,.v (.int .i64 (b + 5)))] 90 [.int .i64 (b + 5)] (some 54) rfl (xc_b fun ww hf => ymarkText_c (b + 5) ww  (by omega)) ?_
 intro _
 refine kOD 0 [0,1,5,51,52,54] [] (.pointer (some ⟨gg,i * 25,none⟩)) rfl (fun _ _ _ ww hr => act_ix (kd := .i64) (T := 30) (e := 68) (K := 25) (g := gg) (N := l.length) (cap := cap) i hgg hr.1 rfl rfl (by kernel_rfl) (by kernel_rfl) (by kernel_rfl) hlt ww) ?_
 refine kOD 0 [0,1,5,54,55] [] (.pointer (some ⟨gg,i * 25 + 4,none⟩)) rfl (fun _ _ _ ww hr => act_fld (sz := 6) (b := gg) (m := i * 25) hr.1 rfl Try.underlying68 rfl (by kernel_rfl) rfl (by kernel_rfl) rfl) ?_
 refine kOD 0 [0,1,5,54,56] [] (.pointer (some ⟨gg,i * 25 + 5,none⟩)) rfl (fun _ _ _ ww hr => act_fld (sz := 1) (b := gg) (m := i * 25 + 4) hr.1 rfl Try.underlying62 rfl (by kernel_rfl) rfl (by kernel_rfl) rfl) ?_
 refine xl_hs 0 [0,1,5,54,57] ⟨[(0,.v (.slice A l.length cap)),(1,.v (.int .i64 (b + 5))),(5,.v (.int .i64 (i : Int))),(54,.v (.string (markText (b + 5)))),(57,.v (.pointer (some ⟨gg,i * 25 + 5,none⟩)))],[],[],[rowF B 68 25 (.slice A l.length cap) ((L.set i (({ x with t := ⟨b,b + 1,b + 2⟩,state := b + 3,s := { x.s with una := b + 4 } },.slice xa x.r.held.length xc) : CV)).map conR),hownF B L,frF w (allF (tabR B 68 (.slice A l.length cap) l)).blk]⟩ (by kernel_rfl) rfl (by kernel_rfl) rfl (by kernel_rfl) (HSg.hs (hs_stR (g := gg) (B := B) (e := 68) (K := 25) (N := l.length) (cap := cap) (rs := ((L.set i (({ x with t := ⟨b,b + 1,b + 2⟩,state := b + 3,s := { x.s with una := b + 4 } },.slice xa x.r.held.length xc) : CV)).map conR)) (rs' := (L.set i (({ x with t := ⟨b,b + 1,b + 2⟩,state := b + 3,s := { x.s with una := b + 4,data := (markText (b + 5)) } },.slice xa x.r.held.length xc) : CV)).map conR) (v := (.string (markText (b + 5)))) (i := 0) (off := i * 25 + 5) i 5 [.int .i64 b,.int .i64 (b + 1),.int .i64 (b + 2),.int .i64 (b + 3),.int .i64 (b + 4),.string x.s.data,.int .i64 x.s.sent,.bool x.s.fin,.bool x.s.finSent,.bool x.s.done,.int .i64 x.r.next,.string x.r.data,.slice xa x.r.held.length xc,.int .i64 x.r.fin,.bool x.r.done,.int .i64 x.window,.int .i64 x.most,.int .i64 x.o.mss,.int .i64 x.o.scale,.bool x.o.sack,.bool x.o.stamp,.int .i64 x.o.val,.int .i64 x.o.echo,.int .i64 x.timer,.int .i64 x.tries] (row' := [.int .i64 b,.int .i64 (b + 1),.int .i64 (b + 2),.int .i64 (b + 3),.int .i64 (b + 4),.string (markText (b + 5)),.int .i64 x.s.sent,.bool x.s.fin,.bool x.s.finSent,.bool x.s.done,.int .i64 x.r.next,.string x.r.data,.slice xa x.r.held.length xc,.int .i64 x.r.fin,.bool x.r.done,.int .i64 x.window,.int .i64 x.most,.int .i64 x.o.mss,.int .i64 x.o.scale,.bool x.o.sack,.bool x.o.stamp,.int .i64 x.o.val,.int .i64 x.o.echo,.int .i64 x.timer,.int .i64 x.tries]) hgg rfl (by kernel_rfl) rfl (by kernel_rfl) (by kernel_rfl) (by kernel_rfl) (by kernel_rfl) (cutW_le w B) (by rw [List.map_set,List.getElem?_set_self (by rw [List.length_map]; omega)]; rfl) (by kernel_rfl) rfl (by rw [List.map_set,List.map_set,List.set_set]; rfl))) ?_
 refine kED [0,1,5] [] ?_
 refine kQ ?_
 refine kRD 3 [0,1,5] [(1,.v (.int .i64 (IntKind.i64.wrap (b + 5 + 1))))] ?_
 refine xl_nv [0,1,5] [(1,.v (.int .i64 (IntKind.i64.wrap (b + 5 + 1))))] [(1,.v (.int .i64 (b + 6)))] (by rw [show (IntKind.i64.wrap (b + 5 + 1)) = (b + 6) from wrap_to (by omega) (by omega) (by omega)]) (by kernel_rfl) ?_
 refine kES [0,1,5] [(0,.v (.slice A l.length cap)),(1,.v (.int .i64 (b + 6))),(5,.v (.int .i64 (i : Int)))] ?_
 refine kQ ?_
 refine kOD 3 [0,1,5,60,61,62] [(60,.v (.slice A l.length cap)),(61,.v (.int .i64 (i : Int))),(62,.v (.int .i64 (b + 6)))] (.pointer (some ⟨gg,i * 25,none⟩)) rfl (fun _ _ _ ww hr => act_ix (kd := .i64) (T := 30) (e := 68) (K := 25) (g := gg) (N := l.length) (cap := cap) i hgg hr.1 rfl rfl (by kernel_rfl) (by kernel_rfl) (by kernel_rfl) hlt ww) ?_
 refine kOD 0 [0,1,5,62,63] [] (.pointer (some ⟨gg,i * 25 + 4,none⟩)) rfl (fun _ _ _ ww hr => act_fld (sz := 6) (b := gg) (m := i * 25) hr.1 rfl Try.underlying68 rfl (by kernel_rfl) rfl (by kernel_rfl) rfl) ?_
 refine kOD 0 [0,1,5,62,64] [] (.pointer (some ⟨gg,i * 25 + 6,none⟩)) rfl (fun _ _ _ ww hr => act_fld (sz := 1) (b := gg) (m := i * 25 + 4) hr.1 rfl Try.underlying62 rfl (by kernel_rfl) rfl (by kernel_rfl) rfl) ?_
 refine xl_hs 0 [0,1,5,62,65] ⟨[(0,.v (.slice A l.length cap)),(1,.v (.int .i64 (b + 6))),(5,.v (.int .i64 (i : Int))),(62,.v (.int .i64 (b + 6))),(65,.v (.pointer (some ⟨gg,i * 25 + 6,none⟩)))],[],[],[rowF B 68 25 (.slice A l.length cap) ((L.set i (({ x with t := ⟨b,b + 1,b + 2⟩,state := b + 3,s := { x.s with una := b + 4,data := (markText (b + 5)) } },.slice xa x.r.held.length xc) : CV)).map conR),hownF B L,frF w (allF (tabR B 68 (.slice A l.length cap) l)).blk]⟩ (by kernel_rfl) rfl (by kernel_rfl) rfl (by kernel_rfl) (HSg.hs (hs_stR (g := gg) (B := B) (e := 68) (K := 25) (N := l.length) (cap := cap) (rs := ((L.set i (({ x with t := ⟨b,b + 1,b + 2⟩,state := b + 3,s := { x.s with una := b + 4,data := (markText (b + 5)) } },.slice xa x.r.held.length xc) : CV)).map conR)) (rs' := (L.set i (({ x with t := ⟨b,b + 1,b + 2⟩,state := b + 3,s := { x.s with una := b + 4,data := (markText (b + 5)),sent := b + 6 } },.slice xa x.r.held.length xc) : CV)).map conR) (v := (.int .i64 (b + 6))) (i := 0) (off := i * 25 + 6) i 6 [.int .i64 b,.int .i64 (b + 1),.int .i64 (b + 2),.int .i64 (b + 3),.int .i64 (b + 4),.string (markText (b + 5)),.int .i64 x.s.sent,.bool x.s.fin,.bool x.s.finSent,.bool x.s.done,.int .i64 x.r.next,.string x.r.data,.slice xa x.r.held.length xc,.int .i64 x.r.fin,.bool x.r.done,.int .i64 x.window,.int .i64 x.most,.int .i64 x.o.mss,.int .i64 x.o.scale,.bool x.o.sack,.bool x.o.stamp,.int .i64 x.o.val,.int .i64 x.o.echo,.int .i64 x.timer,.int .i64 x.tries] (row' := [.int .i64 b,.int .i64 (b + 1),.int .i64 (b + 2),.int .i64 (b + 3),.int .i64 (b + 4),.string (markText (b + 5)),.int .i64 (b + 6),.bool x.s.fin,.bool x.s.finSent,.bool x.s.done,.int .i64 x.r.next,.string x.r.data,.slice xa x.r.held.length xc,.int .i64 x.r.fin,.bool x.r.done,.int .i64 x.window,.int .i64 x.most,.int .i64 x.o.mss,.int .i64 x.o.scale,.bool x.o.sack,.bool x.o.stamp,.int .i64 x.o.val,.int .i64 x.o.echo,.int .i64 x.timer,.int .i64 x.tries]) hgg rfl (by kernel_rfl) rfl (by kernel_rfl) (by kernel_rfl) (by kernel_rfl) (by kernel_rfl) (cutW_le w B) (by rw [List.map_set,List.getElem?_set_self (by rw [List.length_map]; omega)]; rfl) (by kernel_rfl) rfl (by rw [List.map_set,List.map_set,List.set_set]; rfl))) ?_
 refine kED [0,1,5] [] ?_
 refine kQ ?_
 refine kRD 3 [0,1,5] [(1,.v (.int .i64 (IntKind.i64.wrap (b + 6 + 1))))] ?_
 refine xl_nv [0,1,5] [(1,.v (.int .i64 (IntKind.i64.wrap (b + 6 + 1))))] [(1,.v (.int .i64 (b + 7)))] (by rw [show (IntKind.i64.wrap (b + 6 + 1)) = (b + 7) from wrap_to (by omega) (by omega) (by omega)]) (by kernel_rfl) ?_
 refine kED [0,1,5] [] ?_
 refine kQ ?_
 refine kOD 3 [0,1,5,68,69,70] [(68,.v (.slice A l.length cap)),(69,.v (.int .i64 (i : Int))),(70,.v (.int .i64 (b + 7)))] (.int .i64 (Int.tmod (b + 7) 3)) rfl (fun _ _ _ ww hr => act_bin hr.1 rfl (by kernel_rfl) (by kernel_rfl) (rem_run (by first | decide | omega) ww)) ?_
 refine kOD 1 [0,1,5,68,69,72] [(72,.v (.bool ((Int.tmod (b + 7) 3) == 0)))] (.pointer (some ⟨gg,i * 25,none⟩)) rfl (fun _ _ _ ww hr => act_ix (kd := .i64) (T := 30) (e := 68) (K := 25) (g := gg) (N := l.length) (cap := cap) i hgg hr.1 rfl rfl (by kernel_rfl) (by kernel_rfl) (by kernel_rfl) hlt ww) ?_
 refine kOD 0 [0,1,5,72,73] [] (.pointer (some ⟨gg,i * 25 + 4,none⟩)) rfl (fun _ _ _ ww hr => act_fld (sz := 6) (b := gg) (m := i * 25) hr.1 rfl Try.underlying68 rfl (by kernel_rfl) rfl (by kernel_rfl) rfl) ?_
 refine kOS 0 [0,1,5,72,74] [(0,.v (.slice A l.length cap)),(1,.v (.int .i64 (b + 7))),(5,.v (.int .i64 (i : Int))),(72,.v (.bool ((Int.tmod (b + 7) 3) == 0))),(74,.v (.pointer (some ⟨gg,i * 25 + 4,none⟩)))] (.pointer (some ⟨gg,i * 25 + 7,none⟩)) rfl (fun _ _ _ ww hr => act_fld (sz := 1) (b := gg) (m := i * 25 + 4) hr.1 rfl Try.underlying62 rfl (by kernel_rfl) rfl (by kernel_rfl) rfl) ?_
 refine xl_hs 0 [0,1,5,72,75] ⟨[(0,.v (.slice A l.length cap)),(1,.v (.int .i64 (b + 7))),(5,.v (.int .i64 (i : Int))),(72,.v (.bool ((Int.tmod (b + 7) 3) == 0))),(75,.v (.pointer (some ⟨gg,i * 25 + 7,none⟩)))],[],[],[rowF B 68 25 (.slice A l.length cap) ((L.set i (({ x with t := ⟨b,b + 1,b + 2⟩,state := b + 3,s := { x.s with una := b + 4,data := (markText (b + 5)),sent := b + 6 } },.slice xa x.r.held.length xc) : CV)).map conR),hownF B L,frF w (allF (tabR B 68 (.slice A l.length cap) l)).blk]⟩ (by kernel_rfl) rfl (by kernel_rfl) rfl (by kernel_rfl) (HSg.hs (hs_stR (g := gg) (B := B) (e := 68) (K := 25) (N := l.length) (cap := cap) (rs := ((L.set i (({ x with t := ⟨b,b + 1,b + 2⟩,state := b + 3,s := { x.s with una := b + 4,data := (markText (b + 5)),sent := b + 6 } },.slice xa x.r.held.length xc) : CV)).map conR)) (rs' := (L.set i (({ x with t := ⟨b,b + 1,b + 2⟩,state := b + 3,s := ⟨b + 4,(markText (b + 5)),b + 6,(Int.tmod (b + 7) 3) == 0,x.s.finSent,x.s.done⟩ },.slice xa x.r.held.length xc) : CV)).map conR) (v := (.bool ((Int.tmod (b + 7) 3) == 0))) (i := 0) (off := i * 25 + 7) i 7 [.int .i64 b,.int .i64 (b + 1),.int .i64 (b + 2),.int .i64 (b + 3),.int .i64 (b + 4),.string (markText (b + 5)),.int .i64 (b + 6),.bool x.s.fin,.bool x.s.finSent,.bool x.s.done,.int .i64 x.r.next,.string x.r.data,.slice xa x.r.held.length xc,.int .i64 x.r.fin,.bool x.r.done,.int .i64 x.window,.int .i64 x.most,.int .i64 x.o.mss,.int .i64 x.o.scale,.bool x.o.sack,.bool x.o.stamp,.int .i64 x.o.val,.int .i64 x.o.echo,.int .i64 x.timer,.int .i64 x.tries] (row' := [.int .i64 b,.int .i64 (b + 1),.int .i64 (b + 2),.int .i64 (b + 3),.int .i64 (b + 4),.string (markText (b + 5)),.int .i64 (b + 6),.bool ((Int.tmod (b + 7) 3) == 0),.bool x.s.finSent,.bool x.s.done,.int .i64 x.r.next,.string x.r.data,.slice xa x.r.held.length xc,.int .i64 x.r.fin,.bool x.r.done,.int .i64 x.window,.int .i64 x.most,.int .i64 x.o.mss,.int .i64 x.o.scale,.bool x.o.sack,.bool x.o.stamp,.int .i64 x.o.val,.int .i64 x.o.echo,.int .i64 x.timer,.int .i64 x.tries]) hgg rfl (by kernel_rfl) rfl (by kernel_rfl) (by kernel_rfl) (by kernel_rfl) (by kernel_rfl) (cutW_le w B) (by rw [List.map_set,List.getElem?_set_self (by rw [List.length_map]; omega)]; rfl) (by kernel_rfl) rfl (by rw [List.map_set,List.map_set,List.set_set]; rfl))) ?_
 refine kED [0,1,5] [] ?_
 refine kQ ?_
 refine kRD 3 [0,1,5] [(1,.v (.int .i64 (IntKind.i64.wrap (b + 7 + 1))))] ?_
 refine xl_nv [0,1,5] [(1,.v (.int .i64 (IntKind.i64.wrap (b + 7 + 1))))] [(1,.v (.int .i64 (b + 8)))] (by rw [show (IntKind.i64.wrap (b + 7 + 1)) = (b + 8) from wrap_to (by omega) (by omega) (by omega)]) (by kernel_rfl) ?_
 refine kED [0,1,5] [] ?_
 refine kQ ?_
 refine kOD 3 [0,1,5,78,79,80] [(78,.v (.slice A l.length cap)),(79,.v (.int .i64 (i : Int))),(80,.v (.int .i64 (b + 8)))] (.int .i64 (Int.tmod (b + 8) 3)) rfl (fun _ _ _ ww hr => act_bin hr.1 rfl (by kernel_rfl) (by kernel_rfl) (rem_run (by first | decide | omega) ww)) ?_
 refine kOD 1 [0,1,5,78,79,82] [(82,.v (.bool ((Int.tmod (b + 8) 3) == 0)))] (.pointer (some ⟨gg,i * 25,none⟩)) rfl (fun _ _ _ ww hr => act_ix (kd := .i64) (T := 30) (e := 68) (K := 25) (g := gg) (N := l.length) (cap := cap) i hgg hr.1 rfl rfl (by kernel_rfl) (by kernel_rfl) (by kernel_rfl) hlt ww) ?_
 refine kOD 0 [0,1,5,82,83] [] (.pointer (some ⟨gg,i * 25 + 4,none⟩)) rfl (fun _ _ _ ww hr => act_fld (sz := 6) (b := gg) (m := i * 25) hr.1 rfl Try.underlying68 rfl (by kernel_rfl) rfl (by kernel_rfl) rfl) ?_
 refine kOD 0 [0,1,5,82,84] [] (.pointer (some ⟨gg,i * 25 + 8,none⟩)) rfl (fun _ _ _ ww hr => act_fld (sz := 1) (b := gg) (m := i * 25 + 4) hr.1 rfl Try.underlying62 rfl (by kernel_rfl) rfl (by kernel_rfl) rfl) ?_
 refine xl_hs 0 [0,1,5,82,85] ⟨[(0,.v (.slice A l.length cap)),(1,.v (.int .i64 (b + 8))),(5,.v (.int .i64 (i : Int))),(82,.v (.bool ((Int.tmod (b + 8) 3) == 0))),(85,.v (.pointer (some ⟨gg,i * 25 + 8,none⟩)))],[],[],[rowF B 68 25 (.slice A l.length cap) ((L.set i (({ x with t := ⟨b,b + 1,b + 2⟩,state := b + 3,s := ⟨b + 4,(markText (b + 5)),b + 6,(Int.tmod (b + 7) 3) == 0,x.s.finSent,x.s.done⟩ },.slice xa x.r.held.length xc) : CV)).map conR),hownF B L,frF w (allF (tabR B 68 (.slice A l.length cap) l)).blk]⟩ (by kernel_rfl) rfl (by kernel_rfl) rfl (by kernel_rfl) (HSg.hs (hs_stR (g := gg) (B := B) (e := 68) (K := 25) (N := l.length) (cap := cap) (rs := ((L.set i (({ x with t := ⟨b,b + 1,b + 2⟩,state := b + 3,s := ⟨b + 4,(markText (b + 5)),b + 6,(Int.tmod (b + 7) 3) == 0,x.s.finSent,x.s.done⟩ },.slice xa x.r.held.length xc) : CV)).map conR)) (rs' := (L.set i (({ x with t := ⟨b,b + 1,b + 2⟩,state := b + 3,s := ⟨b + 4,(markText (b + 5)),b + 6,(Int.tmod (b + 7) 3) == 0,(Int.tmod (b + 8) 3) == 0,x.s.done⟩ },.slice xa x.r.held.length xc) : CV)).map conR) (v := (.bool ((Int.tmod (b + 8) 3) == 0))) (i := 0) (off := i * 25 + 8) i 8 [.int .i64 b,.int .i64 (b + 1),.int .i64 (b + 2),.int .i64 (b + 3),.int .i64 (b + 4),.string (markText (b + 5)),.int .i64 (b + 6),.bool ((Int.tmod (b + 7) 3) == 0),.bool x.s.finSent,.bool x.s.done,.int .i64 x.r.next,.string x.r.data,.slice xa x.r.held.length xc,.int .i64 x.r.fin,.bool x.r.done,.int .i64 x.window,.int .i64 x.most,.int .i64 x.o.mss,.int .i64 x.o.scale,.bool x.o.sack,.bool x.o.stamp,.int .i64 x.o.val,.int .i64 x.o.echo,.int .i64 x.timer,.int .i64 x.tries] (row' := [.int .i64 b,.int .i64 (b + 1),.int .i64 (b + 2),.int .i64 (b + 3),.int .i64 (b + 4),.string (markText (b + 5)),.int .i64 (b + 6),.bool ((Int.tmod (b + 7) 3) == 0),.bool ((Int.tmod (b + 8) 3) == 0),.bool x.s.done,.int .i64 x.r.next,.string x.r.data,.slice xa x.r.held.length xc,.int .i64 x.r.fin,.bool x.r.done,.int .i64 x.window,.int .i64 x.most,.int .i64 x.o.mss,.int .i64 x.o.scale,.bool x.o.sack,.bool x.o.stamp,.int .i64 x.o.val,.int .i64 x.o.echo,.int .i64 x.timer,.int .i64 x.tries]) hgg rfl (by kernel_rfl) rfl (by kernel_rfl) (by kernel_rfl) (by kernel_rfl) (by kernel_rfl) (cutW_le w B) (by rw [List.map_set,List.getElem?_set_self (by rw [List.length_map]; omega)]; rfl) (by kernel_rfl) rfl (by rw [List.map_set,List.map_set,List.set_set]; rfl))) ?_
 refine kED [0,1,5] [] ?_
 refine kQ ?_
 refine kRS 3 [0,1,5] [(0,.v (.slice A l.length cap)),(1,.v (.int .i64 (IntKind.i64.wrap (b + 8 + 1)))),(5,.v (.int .i64 (i : Int)))] ?_
 refine xl_eqS (t' := [(0,.v (.slice A l.length cap)),(1,.v (.int .i64 (b + 9))),(5,.v (.int .i64 (i : Int)))]) (by rw [show (IntKind.i64.wrap (b + 8 + 1)) = (b + 9) from wrap_to (by omega) (by omega) (by omega)]) ?_
 refine kED [0,1,5] [] ?_
 refine kQ ?_
 refine kOD 3 [0,1,5,88,89,90] [(88,.v (.slice A l.length cap)),(89,.v (.int .i64 (i : Int))),(90,.v (.int .i64 (b + 9)))] (.int .i64 (Int.tmod (b + 9) 3)) rfl (fun _ _ _ ww hr => act_bin hr.1 rfl (by kernel_rfl) (by kernel_rfl) (rem_run (by first | decide | omega) ww)) ?_
 refine kOD 1 [0,1,5,88,89,92] [(92,.v (.bool ((Int.tmod (b + 9) 3) == 0)))] (.pointer (some ⟨gg,i * 25,none⟩)) rfl (fun _ _ _ ww hr => act_ix (kd := .i64) (T := 30) (e := 68) (K := 25) (g := gg) (N := l.length) (cap := cap) i hgg hr.1 rfl rfl (by kernel_rfl) (by kernel_rfl) (by kernel_rfl) hlt ww) ?_
 refine kOD 0 [0,1,5,92,93] [] (.pointer (some ⟨gg,i * 25 + 4,none⟩)) rfl (fun _ _ _ ww hr => act_fld (sz := 6) (b := gg) (m := i * 25) hr.1 rfl Try.underlying68 rfl (by kernel_rfl) rfl (by kernel_rfl) rfl) ?_
 refine kOD 0 [0,1,5,92,94] [] (.pointer (some ⟨gg,i * 25 + 9,none⟩)) rfl (fun _ _ _ ww hr => act_fld (sz := 1) (b := gg) (m := i * 25 + 4) hr.1 rfl Try.underlying62 rfl (by kernel_rfl) rfl (by kernel_rfl) rfl) ?_
 refine xl_hs 0 [0,1,5,92,95] ⟨[(0,.v (.slice A l.length cap)),(1,.v (.int .i64 (b + 9))),(5,.v (.int .i64 (i : Int))),(92,.v (.bool ((Int.tmod (b + 9) 3) == 0))),(95,.v (.pointer (some ⟨gg,i * 25 + 9,none⟩)))],[],[],[rowF B 68 25 (.slice A l.length cap) ((L.set i (({ x with t := ⟨b,b + 1,b + 2⟩,state := b + 3,s := ⟨b + 4,(markText (b + 5)),b + 6,(Int.tmod (b + 7) 3) == 0,(Int.tmod (b + 8) 3) == 0,x.s.done⟩ },.slice xa x.r.held.length xc) : CV)).map conR),hownF B L,frF w (allF (tabR B 68 (.slice A l.length cap) l)).blk]⟩ (by kernel_rfl) rfl (by kernel_rfl) rfl (by kernel_rfl) (HSg.hs (hs_stR (g := gg) (B := B) (e := 68) (K := 25) (N := l.length) (cap := cap) (rs := ((L.set i (({ x with t := ⟨b,b + 1,b + 2⟩,state := b + 3,s := ⟨b + 4,(markText (b + 5)),b + 6,(Int.tmod (b + 7) 3) == 0,(Int.tmod (b + 8) 3) == 0,x.s.done⟩ },.slice xa x.r.held.length xc) : CV)).map conR)) (rs' := (L.set i (({ x with t := ⟨b,b + 1,b + 2⟩,state := b + 3,s := ⟨b + 4,(markText (b + 5)),b + 6,(Int.tmod (b + 7) 3) == 0,(Int.tmod (b + 8) 3) == 0,(Int.tmod (b + 9) 3) == 0⟩ },.slice xa x.r.held.length xc) : CV)).map conR) (v := (.bool ((Int.tmod (b + 9) 3) == 0))) (i := 0) (off := i * 25 + 9) i 9 [.int .i64 b,.int .i64 (b + 1),.int .i64 (b + 2),.int .i64 (b + 3),.int .i64 (b + 4),.string (markText (b + 5)),.int .i64 (b + 6),.bool ((Int.tmod (b + 7) 3) == 0),.bool ((Int.tmod (b + 8) 3) == 0),.bool x.s.done,.int .i64 x.r.next,.string x.r.data,.slice xa x.r.held.length xc,.int .i64 x.r.fin,.bool x.r.done,.int .i64 x.window,.int .i64 x.most,.int .i64 x.o.mss,.int .i64 x.o.scale,.bool x.o.sack,.bool x.o.stamp,.int .i64 x.o.val,.int .i64 x.o.echo,.int .i64 x.timer,.int .i64 x.tries] (row' := [.int .i64 b,.int .i64 (b + 1),.int .i64 (b + 2),.int .i64 (b + 3),.int .i64 (b + 4),.string (markText (b + 5)),.int .i64 (b + 6),.bool ((Int.tmod (b + 7) 3) == 0),.bool ((Int.tmod (b + 8) 3) == 0),.bool ((Int.tmod (b + 9) 3) == 0),.int .i64 x.r.next,.string x.r.data,.slice xa x.r.held.length xc,.int .i64 x.r.fin,.bool x.r.done,.int .i64 x.window,.int .i64 x.most,.int .i64 x.o.mss,.int .i64 x.o.scale,.bool x.o.sack,.bool x.o.stamp,.int .i64 x.o.val,.int .i64 x.o.echo,.int .i64 x.timer,.int .i64 x.tries]) hgg rfl (by kernel_rfl) rfl (by kernel_rfl) (by kernel_rfl) (by kernel_rfl) (by kernel_rfl) (cutW_le w B) (by rw [List.map_set,List.getElem?_set_self (by rw [List.length_map]; omega)]; rfl) (by kernel_rfl) rfl (by rw [List.map_set,List.map_set,List.set_set]; rfl))) ?_
 refine kED [0,1,5] [] ?_
 refine kQ ?_
 refine kRD 3 [0,1,5] [(1,.v (.int .i64 (IntKind.i64.wrap (b + 9 + 1))))] ?_
 refine xl_nv [0,1,5] [(1,.v (.int .i64 (IntKind.i64.wrap (b + 9 + 1))))] [(1,.v (.int .i64 (b + 10)))] (by rw [show (IntKind.i64.wrap (b + 9 + 1)) = (b + 10) from wrap_to (by omega) (by omega) (by omega)]) (by kernel_rfl) ?_
 refine kED [0,1,5] [] ?_
 refine kQ ?_
 refine kOD 3 [0,1,5,98,99,100] [(98,.v (.slice A l.length cap)),(99,.v (.int .i64 (i : Int))),(100,.v (.int .i64 (b + 10)))] (.pointer (some ⟨gg,i * 25,none⟩)) rfl (fun _ _ _ ww hr => act_ix (kd := .i64) (T := 30) (e := 68) (K := 25) (g := gg) (N := l.length) (cap := cap) i hgg hr.1 rfl rfl (by kernel_rfl) (by kernel_rfl) (by kernel_rfl) hlt ww) ?_
 refine kOS 0 [0,1,5,100,101] [(0,.v (.slice A l.length cap)),(1,.v (.int .i64 (b + 10))),(5,.v (.int .i64 (i : Int))),(100,.v (.int .i64 (b + 10))),(101,.v (.pointer (some ⟨gg,i * 25,none⟩)))] (.pointer (some ⟨gg,i * 25 + 10,none⟩)) rfl (fun _ _ _ ww hr => act_fld (sz := 5) (b := gg) (m := i * 25) hr.1 rfl Try.underlying68 rfl (by kernel_rfl) rfl (by kernel_rfl) rfl) ?_
 refine kOD 0 [0,1,5,100,102] [] (.pointer (some ⟨gg,i * 25 + 10,none⟩)) rfl (fun _ _ _ ww hr => act_fld (sz := 1) (b := gg) (m := i * 25 + 10) hr.1 rfl Try.underlying65 rfl (by kernel_rfl) rfl (by kernel_rfl) rfl) ?_
 refine xl_hs 0 [0,1,5,100,103] ⟨[(0,.v (.slice A l.length cap)),(1,.v (.int .i64 (b + 10))),(5,.v (.int .i64 (i : Int))),(100,.v (.int .i64 (b + 10))),(103,.v (.pointer (some ⟨gg,i * 25 + 10,none⟩)))],[],[],[rowF B 68 25 (.slice A l.length cap) ((L.set i (({ x with t := ⟨b,b + 1,b + 2⟩,state := b + 3,s := ⟨b + 4,(markText (b + 5)),b + 6,(Int.tmod (b + 7) 3) == 0,(Int.tmod (b + 8) 3) == 0,(Int.tmod (b + 9) 3) == 0⟩ },.slice xa x.r.held.length xc) : CV)).map conR),hownF B L,frF w (allF (tabR B 68 (.slice A l.length cap) l)).blk]⟩ (by kernel_rfl) rfl (by kernel_rfl) rfl (by kernel_rfl) (HSg.hs (hs_stR (g := gg) (B := B) (e := 68) (K := 25) (N := l.length) (cap := cap) (rs := ((L.set i (({ x with t := ⟨b,b + 1,b + 2⟩,state := b + 3,s := ⟨b + 4,(markText (b + 5)),b + 6,(Int.tmod (b + 7) 3) == 0,(Int.tmod (b + 8) 3) == 0,(Int.tmod (b + 9) 3) == 0⟩ },.slice xa x.r.held.length xc) : CV)).map conR)) (rs' := (L.set i (({ x with t := ⟨b,b + 1,b + 2⟩,state := b + 3,s := ⟨b + 4,(markText (b + 5)),b + 6,(Int.tmod (b + 7) 3) == 0,(Int.tmod (b + 8) 3) == 0,(Int.tmod (b + 9) 3) == 0⟩,r := { x.r with next := b + 10 } },.slice xa x.r.held.length xc) : CV)).map conR) (v := (.int .i64 (b + 10))) (i := 0) (off := i * 25 + 10) i 10 [.int .i64 b,.int .i64 (b + 1),.int .i64 (b + 2),.int .i64 (b + 3),.int .i64 (b + 4),.string (markText (b + 5)),.int .i64 (b + 6),.bool ((Int.tmod (b + 7) 3) == 0),.bool ((Int.tmod (b + 8) 3) == 0),.bool ((Int.tmod (b + 9) 3) == 0),.int .i64 x.r.next,.string x.r.data,.slice xa x.r.held.length xc,.int .i64 x.r.fin,.bool x.r.done,.int .i64 x.window,.int .i64 x.most,.int .i64 x.o.mss,.int .i64 x.o.scale,.bool x.o.sack,.bool x.o.stamp,.int .i64 x.o.val,.int .i64 x.o.echo,.int .i64 x.timer,.int .i64 x.tries] (row' := [.int .i64 b,.int .i64 (b + 1),.int .i64 (b + 2),.int .i64 (b + 3),.int .i64 (b + 4),.string (markText (b + 5)),.int .i64 (b + 6),.bool ((Int.tmod (b + 7) 3) == 0),.bool ((Int.tmod (b + 8) 3) == 0),.bool ((Int.tmod (b + 9) 3) == 0),.int .i64 (b + 10),.string x.r.data,.slice xa x.r.held.length xc,.int .i64 x.r.fin,.bool x.r.done,.int .i64 x.window,.int .i64 x.most,.int .i64 x.o.mss,.int .i64 x.o.scale,.bool x.o.sack,.bool x.o.stamp,.int .i64 x.o.val,.int .i64 x.o.echo,.int .i64 x.timer,.int .i64 x.tries]) hgg rfl (by kernel_rfl) rfl (by kernel_rfl) (by kernel_rfl) (by kernel_rfl) (by kernel_rfl) (cutW_le w B) (by rw [List.map_set,List.getElem?_set_self (by rw [List.length_map]; omega)]; rfl) (by kernel_rfl) rfl (by rw [List.map_set,List.map_set,List.set_set]; rfl))) ?_
 refine kED [0,1,5] [] ?_
 refine kQ ?_
 refine kRD 3 [0,1,5] [(1,.v (.int .i64 (IntKind.i64.wrap (b + 10 + 1))))] ?_
 refine xl_nv [0,1,5] [(1,.v (.int .i64 (IntKind.i64.wrap (b + 10 + 1))))] [(1,.v (.int .i64 (b + 11)))] (by rw [show (IntKind.i64.wrap (b + 10 + 1)) = (b + 11) from wrap_to (by omega) (by omega) (by omega)]) (by kernel_rfl) ?_
 refine kED [0,1,5] [] ?_
 refine kQ ?_
 refine kCD 3 [0,1,5,106,107,108] [(106,.v (.slice A l.length cap)),(107,.v (.int .i64 (i : Int))),(108,.v (.int .i64 (b + 11)))] 90 [.int .i64 (b + 11)] (some 109) rfl (xc_b fun ww hf => ymarkText_c (b + 11) ww  (by omega)) ?_
 intro _
 refine kOD 0 [0,1,5,106,107,109] [] (.pointer (some ⟨gg,i * 25,none⟩)) rfl (fun _ _ _ ww hr => act_ix (kd := .i64) (T := 30) (e := 68) (K := 25) (g := gg) (N := l.length) (cap := cap) i hgg hr.1 rfl rfl (by kernel_rfl) (by kernel_rfl) (by kernel_rfl) hlt ww) ?_
 refine kOD 0 [0,1,5,109,110] [] (.pointer (some ⟨gg,i * 25 + 10,none⟩)) rfl (fun _ _ _ ww hr => act_fld (sz := 5) (b := gg) (m := i * 25) hr.1 rfl Try.underlying68 rfl (by kernel_rfl) rfl (by kernel_rfl) rfl) ?_
 refine kOD 0 [0,1,5,109,111] [] (.pointer (some ⟨gg,i * 25 + 11,none⟩)) rfl (fun _ _ _ ww hr => act_fld (sz := 1) (b := gg) (m := i * 25 + 10) hr.1 rfl Try.underlying65 rfl (by kernel_rfl) rfl (by kernel_rfl) rfl) ?_
 refine xl_hs 0 [0,1,5,109,112] ⟨[(0,.v (.slice A l.length cap)),(1,.v (.int .i64 (b + 11))),(5,.v (.int .i64 (i : Int))),(109,.v (.string (markText (b + 11)))),(112,.v (.pointer (some ⟨gg,i * 25 + 11,none⟩)))],[],[],[rowF B 68 25 (.slice A l.length cap) ((L.set i (({ x with t := ⟨b,b + 1,b + 2⟩,state := b + 3,s := ⟨b + 4,(markText (b + 5)),b + 6,(Int.tmod (b + 7) 3) == 0,(Int.tmod (b + 8) 3) == 0,(Int.tmod (b + 9) 3) == 0⟩,r := { x.r with next := b + 10 } },.slice xa x.r.held.length xc) : CV)).map conR),hownF B L,frF w (allF (tabR B 68 (.slice A l.length cap) l)).blk]⟩ (by kernel_rfl) rfl (by kernel_rfl) rfl (by kernel_rfl) (HSg.hs (hs_stR (g := gg) (B := B) (e := 68) (K := 25) (N := l.length) (cap := cap) (rs := ((L.set i (({ x with t := ⟨b,b + 1,b + 2⟩,state := b + 3,s := ⟨b + 4,(markText (b + 5)),b + 6,(Int.tmod (b + 7) 3) == 0,(Int.tmod (b + 8) 3) == 0,(Int.tmod (b + 9) 3) == 0⟩,r := { x.r with next := b + 10 } },.slice xa x.r.held.length xc) : CV)).map conR)) (rs' := (L.set i (({ x with t := ⟨b,b + 1,b + 2⟩,state := b + 3,s := ⟨b + 4,(markText (b + 5)),b + 6,(Int.tmod (b + 7) 3) == 0,(Int.tmod (b + 8) 3) == 0,(Int.tmod (b + 9) 3) == 0⟩,r := { x.r with next := b + 10,data := (markText (b + 11)) } },.slice xa x.r.held.length xc) : CV)).map conR) (v := (.string (markText (b + 11)))) (i := 0) (off := i * 25 + 11) i 11 [.int .i64 b,.int .i64 (b + 1),.int .i64 (b + 2),.int .i64 (b + 3),.int .i64 (b + 4),.string (markText (b + 5)),.int .i64 (b + 6),.bool ((Int.tmod (b + 7) 3) == 0),.bool ((Int.tmod (b + 8) 3) == 0),.bool ((Int.tmod (b + 9) 3) == 0),.int .i64 (b + 10),.string x.r.data,.slice xa x.r.held.length xc,.int .i64 x.r.fin,.bool x.r.done,.int .i64 x.window,.int .i64 x.most,.int .i64 x.o.mss,.int .i64 x.o.scale,.bool x.o.sack,.bool x.o.stamp,.int .i64 x.o.val,.int .i64 x.o.echo,.int .i64 x.timer,.int .i64 x.tries] (row' := [.int .i64 b,.int .i64 (b + 1),.int .i64 (b + 2),.int .i64 (b + 3),.int .i64 (b + 4),.string (markText (b + 5)),.int .i64 (b + 6),.bool ((Int.tmod (b + 7) 3) == 0),.bool ((Int.tmod (b + 8) 3) == 0),.bool ((Int.tmod (b + 9) 3) == 0),.int .i64 (b + 10),.string (markText (b + 11)),.slice xa x.r.held.length xc,.int .i64 x.r.fin,.bool x.r.done,.int .i64 x.window,.int .i64 x.most,.int .i64 x.o.mss,.int .i64 x.o.scale,.bool x.o.sack,.bool x.o.stamp,.int .i64 x.o.val,.int .i64 x.o.echo,.int .i64 x.timer,.int .i64 x.tries]) hgg rfl (by kernel_rfl) rfl (by kernel_rfl) (by kernel_rfl) (by kernel_rfl) (by kernel_rfl) (cutW_le w B) (by rw [List.map_set,List.getElem?_set_self (by rw [List.length_map]; omega)]; rfl) (by kernel_rfl) rfl (by rw [List.map_set,List.map_set,List.set_set]; rfl))) ?_
 refine kED [0,1,5] [] ?_
 refine kQ ?_
 refine kRS 3 [0,1,5] [(0,.v (.slice A l.length cap)),(1,.v (.int .i64 (IntKind.i64.wrap (b + 11 + 1)))),(5,.v (.int .i64 (i : Int)))] ?_
 refine xl_eqS (t' := [(0,.v (.slice A l.length cap)),(1,.v (.int .i64 (b + 12))),(5,.v (.int .i64 (i : Int)))]) (by rw [show (IntKind.i64.wrap (b + 11 + 1)) = (b + 12) from wrap_to (by omega) (by omega) (by omega)]) ?_
 refine kED [0,1,5] [] ?_
 refine kS ?_
 refine xw_wk ((wk_pick [1,0,2] [hownF B L,rowF B 68 25 (.slice A l.length cap) ((L.set i (({ x with t := ⟨b,b + 1,b + 2⟩,state := b + 3,s := ⟨b + 4,(markText (b + 5)),b + 6,(Int.tmod (b + 7) 3) == 0,(Int.tmod (b + 8) 3) == 0,(Int.tmod (b + 9) 3) == 0⟩,r := { x.r with next := b + 10,data := (markText (b + 11)) } },.slice xa x.r.held.length xc) : CV)).map conR),frF w (allF (tabR B 68 (.slice A l.length cap) l)).blk] (by kernel_rfl) (by kernel_rfl)).trans (wk_turn (fs' := [ownF B (.slice xa x.r.held.length xc) 2 (x.r.held.map pceCells),hownF B (L.take i ++ L.drop (i + 1)),rowF B 68 25 (.slice A l.length cap) ((L.set i (({ x with t := ⟨b,b + 1,b + 2⟩,state := b + 3,s := ⟨b + 4,(markText (b + 5)),b + 6,(Int.tmod (b + 7) 3) == 0,(Int.tmod (b + 8) 3) == 0,(Int.tmod (b + 9) 3) == 0⟩,r := { x.r with next := b + 10,data := (markText (b + 11)) } },.slice xa x.r.held.length xc) : CV)).map conR),frF w (allF (tabR B 68 (.slice A l.length cap) l)).blk]) (fun _ _ _ _ h => hown_take hxL h))) ?_
 refine kG ?_
 refine kOF 2 [0,1,5,115,116] ⟨[(0,.v (.slice A l.length cap)),(1,.v (.int .i64 (b + 12))),(5,.v (.int .i64 (i : Int))),(115,.v (.slice A l.length cap)),(116,.v (.int .i64 (i : Int)))],[],[],[ownF B (.slice xa x.r.held.length xc) 2 (x.r.held.map pceCells),hownF B (L.take i ++ L.drop (i + 1)),rowF B 68 25 (.slice A l.length cap) ((L.set i (({ x with t := ⟨b,b + 1,b + 2⟩,state := b + 3,s := ⟨b + 4,(markText (b + 5)),b + 6,(Int.tmod (b + 7) 3) == 0,(Int.tmod (b + 8) 3) == 0,(Int.tmod (b + 9) 3) == 0⟩,r := { x.r with next := b + 10,data := (markText (b + 11)) } },.slice xa x.r.held.length xc) : CV)).map conR),frF w (allF (tabR B 68 (.slice A l.length cap) l)).blk]⟩ (.pointer (some ⟨gg,i * 25,none⟩)) rfl (fun _ _ _ ww hr => act_ix (kd := .i64) (T := 30) (e := 68) (K := 25) (g := gg) (N := l.length) (cap := cap) i hgg hr.1 rfl rfl (by kernel_rfl) (by kernel_rfl) (by kernel_rfl) hlt ww) ?_
 refine kOD 0 [0,1,5,117] [] (.pointer (some ⟨gg,i * 25 + 10,none⟩)) rfl (fun _ _ _ ww hr => act_fld (sz := 5) (b := gg) (m := i * 25) hr.1 rfl Try.underlying68 rfl (by kernel_rfl) rfl (by kernel_rfl) rfl) ?_
 refine kOD 0 [0,1,5,118] [] (.pointer (some ⟨gg,i * 25 + 12,none⟩)) rfl (fun _ _ _ ww hr => act_fld (sz := 1) (b := gg) (m := i * 25 + 10) hr.1 rfl Try.underlying65 rfl (by kernel_rfl) rfl (by kernel_rfl) rfl) ?_
 refine kOD 0 [0,1,5,119] [] (.slice xa x.r.held.length xc) rfl (fun _ _ _ ww hr => ldR_run (po := 12) (j := i) (row := [.int .i64 b,.int .i64 (b + 1),.int .i64 (b + 2),.int .i64 (b + 3),.int .i64 (b + 4),.string (markText (b + 5)),.int .i64 (b + 6),.bool ((Int.tmod (b + 7) 3) == 0),.bool ((Int.tmod (b + 8) 3) == 0),.bool ((Int.tmod (b + 9) 3) == 0),.int .i64 (b + 10),.string (markText (b + 11)),.slice xa x.r.held.length xc,.int .i64 x.r.fin,.bool x.r.done,.int .i64 x.window,.int .i64 x.most,.int .i64 x.o.mss,.int .i64 x.o.scale,.bool x.o.sack,.bool x.o.stamp,.int .i64 x.o.val,.int .i64 x.o.echo,.int .i64 x.timer,.int .i64 x.tries]) (rowF B 68 25 (.slice A l.length cap) ((L.set i (({ x with t := ⟨b,b + 1,b + 2⟩,state := b + 3,s := ⟨b + 4,(markText (b + 5)),b + 6,(Int.tmod (b + 7) 3) == 0,(Int.tmod (b + 8) 3) == 0,(Int.tmod (b + 9) 3) == 0⟩,r := { x.r with next := b + 10,data := (markText (b + 11)) } },.slice xa x.r.held.length xc) : CV)).map conR)) hr rfl (by kernel_rfl) (by simp) (by rw [List.map_set,List.getElem?_set_self (by rw [List.length_map]; omega)]; rfl) (by kernel_rfl) hgg rfl rfl) ?_
 refine kWD 1 [0,1,5,120,121] [(121,.v (.int .i64 (b + 12)))] 91 [.slice xa x.r.held.length xc,.int .i64 (b + 12)] (some 122) 0 rfl rfl (fun ww b h hb => Nat.le_trans (cutW_le w B) (vblk_lo h hb)) (xcm_own marks_ne fun ww hw hf => ymarkPieceS_c (.slice xa x.r.held.length xc) x.r.held (b + 12) ww B (Nat.le_trans (by first | exact Nat.le_refl _ | exact Nat.le_of_eq (cutW_size hB).symm) hw) (hf (ownF B (.slice xa x.r.held.length xc) 2 (x.r.held.map pceCells)) (by simp)) (by omega) (by omega) (by omega)) ?_
 intro _
 refine kED [0,1,5] [(1,.v (.int .i64 ((b + 12) + 2 * (x.r.held.length : Int))))] ?_
 refine kS ?_
 obtain ⟨q,hq⟩ : ∃ q,q = (b + 12) + 2 * (x.r.held.length : Int) := ⟨_,rfl⟩
 rw [← hq]
 refine kG ?_
 refine kOF 3 [0,1,5,123,124,125] ⟨[(0,.v (.slice A l.length cap)),(1,.v (.int .i64 q)),(5,.v (.int .i64 (i : Int))),(123,.v (.slice A l.length cap)),(124,.v (.int .i64 (i : Int))),(125,.v (.int .i64 q))],[],[],[ownF B (.slice xa x.r.held.length xc) 2 ((marks mkP 2 (b + 12) x.r.held.length).map pceCells),hownF B (L.take i ++ L.drop (i + 1)),rowF B 68 25 (.slice A l.length cap) ((L.set i (({ x with t := ⟨b,b + 1,b + 2⟩,state := b + 3,s := ⟨b + 4,(markText (b + 5)),b + 6,(Int.tmod (b + 7) 3) == 0,(Int.tmod (b + 8) 3) == 0,(Int.tmod (b + 9) 3) == 0⟩,r := { x.r with next := b + 10,data := (markText (b + 11)) } },.slice xa x.r.held.length xc) : CV)).map conR),frF w (allF (tabR B 68 (.slice A l.length cap) l)).blk]⟩ (.pointer (some ⟨gg,i * 25,none⟩)) rfl (fun _ _ _ ww hr => act_ix (kd := .i64) (T := 30) (e := 68) (K := 25) (g := gg) (N := l.length) (cap := cap) i hgg hr.1 rfl rfl (by kernel_rfl) (by kernel_rfl) (by kernel_rfl) hlt ww) ?_
 refine kOD 0 [0,1,5,125,126] [] (.pointer (some ⟨gg,i * 25 + 10,none⟩)) rfl (fun _ _ _ ww hr => act_fld (sz := 5) (b := gg) (m := i * 25) hr.1 rfl Try.underlying68 rfl (by kernel_rfl) rfl (by kernel_rfl) rfl) ?_
 refine kOD 0 [0,1,5,125,127] [] (.pointer (some ⟨gg,i * 25 + 13,none⟩)) rfl (fun _ _ _ ww hr => act_fld (sz := 1) (b := gg) (m := i * 25 + 10) hr.1 rfl Try.underlying65 rfl (by kernel_rfl) rfl (by kernel_rfl) rfl) ?_
 refine xl_hs 0 [0,1,5,125,128] ⟨[(0,.v (.slice A l.length cap)),(1,.v (.int .i64 q)),(5,.v (.int .i64 (i : Int))),(125,.v (.int .i64 q)),(128,.v (.pointer (some ⟨gg,i * 25 + 13,none⟩)))],[],[],[ownF B (.slice xa x.r.held.length xc) 2 ((marks mkP 2 (b + 12) x.r.held.length).map pceCells),hownF B (L.take i ++ L.drop (i + 1)),rowF B 68 25 (.slice A l.length cap) ((L.set i (({ x with t := ⟨b,b + 1,b + 2⟩,state := b + 3,s := ⟨b + 4,(markText (b + 5)),b + 6,(Int.tmod (b + 7) 3) == 0,(Int.tmod (b + 8) 3) == 0,(Int.tmod (b + 9) 3) == 0⟩,r := { x.r with next := b + 10,data := (markText (b + 11)) } },.slice xa x.r.held.length xc) : CV)).map conR),frF w (allF (tabR B 68 (.slice A l.length cap) l)).blk]⟩ (by kernel_rfl) rfl (by kernel_rfl) rfl (by kernel_rfl) (HSg.hs (hs_stR (g := gg) (B := B) (e := 68) (K := 25) (N := l.length) (cap := cap) (rs := ((L.set i (({ x with t := ⟨b,b + 1,b + 2⟩,state := b + 3,s := ⟨b + 4,(markText (b + 5)),b + 6,(Int.tmod (b + 7) 3) == 0,(Int.tmod (b + 8) 3) == 0,(Int.tmod (b + 9) 3) == 0⟩,r := { x.r with next := b + 10,data := (markText (b + 11)) } },.slice xa x.r.held.length xc) : CV)).map conR)) (rs' := (L.set i (({ x with t := ⟨b,b + 1,b + 2⟩,state := b + 3,s := ⟨b + 4,(markText (b + 5)),b + 6,(Int.tmod (b + 7) 3) == 0,(Int.tmod (b + 8) 3) == 0,(Int.tmod (b + 9) 3) == 0⟩,r := ⟨b + 10,(markText (b + 11)),(marks mkP 2 (b + 12) x.r.held.length),q,x.r.done⟩ },.slice xa x.r.held.length xc) : CV)).map conR) (v := (.int .i64 q)) (i := 2) (off := i * 25 + 13) i 13 [.int .i64 b,.int .i64 (b + 1),.int .i64 (b + 2),.int .i64 (b + 3),.int .i64 (b + 4),.string (markText (b + 5)),.int .i64 (b + 6),.bool ((Int.tmod (b + 7) 3) == 0),.bool ((Int.tmod (b + 8) 3) == 0),.bool ((Int.tmod (b + 9) 3) == 0),.int .i64 (b + 10),.string (markText (b + 11)),.slice xa x.r.held.length xc,.int .i64 x.r.fin,.bool x.r.done,.int .i64 x.window,.int .i64 x.most,.int .i64 x.o.mss,.int .i64 x.o.scale,.bool x.o.sack,.bool x.o.stamp,.int .i64 x.o.val,.int .i64 x.o.echo,.int .i64 x.timer,.int .i64 x.tries] (row' := [.int .i64 b,.int .i64 (b + 1),.int .i64 (b + 2),.int .i64 (b + 3),.int .i64 (b + 4),.string (markText (b + 5)),.int .i64 (b + 6),.bool ((Int.tmod (b + 7) 3) == 0),.bool ((Int.tmod (b + 8) 3) == 0),.bool ((Int.tmod (b + 9) 3) == 0),.int .i64 (b + 10),.string (markText (b + 11)),.slice xa x.r.held.length xc,.int .i64 q,.bool x.r.done,.int .i64 x.window,.int .i64 x.most,.int .i64 x.o.mss,.int .i64 x.o.scale,.bool x.o.sack,.bool x.o.stamp,.int .i64 x.o.val,.int .i64 x.o.echo,.int .i64 x.timer,.int .i64 x.tries]) hgg rfl (by kernel_rfl) rfl (by kernel_rfl) (by kernel_rfl) (by kernel_rfl) (by kernel_rfl) (cutW_le w B) (by rw [List.map_set,List.getElem?_set_self (by rw [List.length_map]; omega)]; rfl) (by kernel_rfl) rfl (by rw [List.map_set,List.map_set,List.set_set]; rfl))) ?_
 refine kED [0,1,5] [] ?_
 refine kQ ?_
 refine kRD 3 [0,1,5] [(1,.v (.int .i64 (IntKind.i64.wrap (q + 1))))] ?_
 refine xl_nv [0,1,5] [(1,.v (.int .i64 (IntKind.i64.wrap (q + 1))))] [(1,.v (.int .i64 (q + 1)))] (by rw [show (IntKind.i64.wrap (q + 1)) = (q + 1) from wrap_id (by omega) (by omega)]) (by kernel_rfl) ?_
 refine kED [0,1,5] [] ?_
 refine kQ ?_
 refine kOD 3 [0,1,5,131,132,133] [(131,.v (.slice A l.length cap)),(132,.v (.int .i64 (i : Int))),(133,.v (.int .i64 (q + 1)))] (.int .i64 (Int.tmod (q + 1) 3)) rfl (fun _ _ _ ww hr => act_bin hr.1 rfl (by kernel_rfl) (by kernel_rfl) (rem_run (by first | decide | omega) ww)) ?_
 refine kOD 1 [0,1,5,131,132,135] [(135,.v (.bool ((Int.tmod (q + 1) 3) == 0)))] (.pointer (some ⟨gg,i * 25,none⟩)) rfl (fun _ _ _ ww hr => act_ix (kd := .i64) (T := 30) (e := 68) (K := 25) (g := gg) (N := l.length) (cap := cap) i hgg hr.1 rfl rfl (by kernel_rfl) (by kernel_rfl) (by kernel_rfl) hlt ww) ?_
 refine kOD 0 [0,1,5,135,136] [] (.pointer (some ⟨gg,i * 25 + 10,none⟩)) rfl (fun _ _ _ ww hr => act_fld (sz := 5) (b := gg) (m := i * 25) hr.1 rfl Try.underlying68 rfl (by kernel_rfl) rfl (by kernel_rfl) rfl) ?_
 refine kOD 0 [0,1,5,135,137] [] (.pointer (some ⟨gg,i * 25 + 14,none⟩)) rfl (fun _ _ _ ww hr => act_fld (sz := 1) (b := gg) (m := i * 25 + 10) hr.1 rfl Try.underlying65 rfl (by kernel_rfl) rfl (by kernel_rfl) rfl) ?_
 refine xl_hs 0 [0,1,5,135,138] ⟨[(0,.v (.slice A l.length cap)),(1,.v (.int .i64 (q + 1))),(5,.v (.int .i64 (i : Int))),(135,.v (.bool ((Int.tmod (q + 1) 3) == 0))),(138,.v (.pointer (some ⟨gg,i * 25 + 14,none⟩)))],[],[],[rowF B 68 25 (.slice A l.length cap) ((L.set i (({ x with t := ⟨b,b + 1,b + 2⟩,state := b + 3,s := ⟨b + 4,(markText (b + 5)),b + 6,(Int.tmod (b + 7) 3) == 0,(Int.tmod (b + 8) 3) == 0,(Int.tmod (b + 9) 3) == 0⟩,r := ⟨b + 10,(markText (b + 11)),(marks mkP 2 (b + 12) x.r.held.length),q,x.r.done⟩ },.slice xa x.r.held.length xc) : CV)).map conR),ownF B (.slice xa x.r.held.length xc) 2 ((marks mkP 2 (b + 12) x.r.held.length).map pceCells),hownF B (L.take i ++ L.drop (i + 1)),frF w (allF (tabR B 68 (.slice A l.length cap) l)).blk]⟩ (by kernel_rfl) rfl (by kernel_rfl) rfl (by kernel_rfl) (HSg.hs (hs_stR (g := gg) (B := B) (e := 68) (K := 25) (N := l.length) (cap := cap) (rs := ((L.set i (({ x with t := ⟨b,b + 1,b + 2⟩,state := b + 3,s := ⟨b + 4,(markText (b + 5)),b + 6,(Int.tmod (b + 7) 3) == 0,(Int.tmod (b + 8) 3) == 0,(Int.tmod (b + 9) 3) == 0⟩,r := ⟨b + 10,(markText (b + 11)),(marks mkP 2 (b + 12) x.r.held.length),q,x.r.done⟩ },.slice xa x.r.held.length xc) : CV)).map conR)) (rs' := (L.set i (({ x with t := ⟨b,b + 1,b + 2⟩,state := b + 3,s := ⟨b + 4,(markText (b + 5)),b + 6,(Int.tmod (b + 7) 3) == 0,(Int.tmod (b + 8) 3) == 0,(Int.tmod (b + 9) 3) == 0⟩,r := ⟨b + 10,(markText (b + 11)),(marks mkP 2 (b + 12) x.r.held.length),q,(Int.tmod (q + 1) 3) == 0⟩ },.slice xa x.r.held.length xc) : CV)).map conR) (v := (.bool ((Int.tmod (q + 1) 3) == 0))) (i := 0) (off := i * 25 + 14) i 14 [.int .i64 b,.int .i64 (b + 1),.int .i64 (b + 2),.int .i64 (b + 3),.int .i64 (b + 4),.string (markText (b + 5)),.int .i64 (b + 6),.bool ((Int.tmod (b + 7) 3) == 0),.bool ((Int.tmod (b + 8) 3) == 0),.bool ((Int.tmod (b + 9) 3) == 0),.int .i64 (b + 10),.string (markText (b + 11)),.slice xa x.r.held.length xc,.int .i64 q,.bool x.r.done,.int .i64 x.window,.int .i64 x.most,.int .i64 x.o.mss,.int .i64 x.o.scale,.bool x.o.sack,.bool x.o.stamp,.int .i64 x.o.val,.int .i64 x.o.echo,.int .i64 x.timer,.int .i64 x.tries] (row' := [.int .i64 b,.int .i64 (b + 1),.int .i64 (b + 2),.int .i64 (b + 3),.int .i64 (b + 4),.string (markText (b + 5)),.int .i64 (b + 6),.bool ((Int.tmod (b + 7) 3) == 0),.bool ((Int.tmod (b + 8) 3) == 0),.bool ((Int.tmod (b + 9) 3) == 0),.int .i64 (b + 10),.string (markText (b + 11)),.slice xa x.r.held.length xc,.int .i64 q,.bool ((Int.tmod (q + 1) 3) == 0),.int .i64 x.window,.int .i64 x.most,.int .i64 x.o.mss,.int .i64 x.o.scale,.bool x.o.sack,.bool x.o.stamp,.int .i64 x.o.val,.int .i64 x.o.echo,.int .i64 x.timer,.int .i64 x.tries]) hgg rfl (by kernel_rfl) rfl (by kernel_rfl) (by kernel_rfl) (by kernel_rfl) (by kernel_rfl) (cutW_le w B) (by rw [List.map_set,List.getElem?_set_self (by rw [List.length_map]; omega)]; rfl) (by kernel_rfl) rfl (by rw [List.map_set,List.map_set,List.set_set]; rfl))) ?_
 refine kES [0,1,5] [(0,.v (.slice A l.length cap)),(1,.v (.int .i64 (q + 1))),(5,.v (.int .i64 (i : Int)))] ?_
 refine kQ ?_
 refine kRD 3 [0,1,5] [(1,.v (.int .i64 (IntKind.i64.wrap (q + 1 + 1))))] ?_
 refine xl_nv [0,1,5] [(1,.v (.int .i64 (IntKind.i64.wrap (q + 1 + 1))))] [(1,.v (.int .i64 (q + 2)))] (by rw [show (IntKind.i64.wrap (q + 1 + 1)) = (q + 2) from wrap_to (by omega) (by omega) (by omega)]) (by kernel_rfl) ?_
 refine kED [0,1,5] [] ?_
 refine kQ ?_
 refine kOD 3 [0,1,5,141,142,143] [(141,.v (.slice A l.length cap)),(142,.v (.int .i64 (i : Int))),(143,.v (.int .i64 (q + 2)))] (.pointer (some ⟨gg,i * 25,none⟩)) rfl (fun _ _ _ ww hr => act_ix (kd := .i64) (T := 30) (e := 68) (K := 25) (g := gg) (N := l.length) (cap := cap) i hgg hr.1 rfl rfl (by kernel_rfl) (by kernel_rfl) (by kernel_rfl) hlt ww) ?_
 refine kOD 0 [0,1,5,143,144] [] (.pointer (some ⟨gg,i * 25 + 15,none⟩)) rfl (fun _ _ _ ww hr => act_fld (sz := 1) (b := gg) (m := i * 25) hr.1 rfl Try.underlying68 rfl (by kernel_rfl) rfl (by kernel_rfl) rfl) ?_
 refine xl_hs 0 [0,1,5,143,145] ⟨[(0,.v (.slice A l.length cap)),(1,.v (.int .i64 (q + 2))),(5,.v (.int .i64 (i : Int))),(143,.v (.int .i64 (q + 2))),(145,.v (.pointer (some ⟨gg,i * 25 + 15,none⟩)))],[],[],[rowF B 68 25 (.slice A l.length cap) ((L.set i (({ x with t := ⟨b,b + 1,b + 2⟩,state := b + 3,s := ⟨b + 4,(markText (b + 5)),b + 6,(Int.tmod (b + 7) 3) == 0,(Int.tmod (b + 8) 3) == 0,(Int.tmod (b + 9) 3) == 0⟩,r := ⟨b + 10,(markText (b + 11)),(marks mkP 2 (b + 12) x.r.held.length),q,(Int.tmod (q + 1) 3) == 0⟩ },.slice xa x.r.held.length xc) : CV)).map conR),ownF B (.slice xa x.r.held.length xc) 2 ((marks mkP 2 (b + 12) x.r.held.length).map pceCells),hownF B (L.take i ++ L.drop (i + 1)),frF w (allF (tabR B 68 (.slice A l.length cap) l)).blk]⟩ (by kernel_rfl) rfl (by kernel_rfl) rfl (by kernel_rfl) (HSg.hs (hs_stR (g := gg) (B := B) (e := 68) (K := 25) (N := l.length) (cap := cap) (rs := ((L.set i (({ x with t := ⟨b,b + 1,b + 2⟩,state := b + 3,s := ⟨b + 4,(markText (b + 5)),b + 6,(Int.tmod (b + 7) 3) == 0,(Int.tmod (b + 8) 3) == 0,(Int.tmod (b + 9) 3) == 0⟩,r := ⟨b + 10,(markText (b + 11)),(marks mkP 2 (b + 12) x.r.held.length),q,(Int.tmod (q + 1) 3) == 0⟩ },.slice xa x.r.held.length xc) : CV)).map conR)) (rs' := (L.set i ((⟨⟨b,b + 1,b + 2⟩,b + 3,⟨b + 4,(markText (b + 5)),b + 6,(Int.tmod (b + 7) 3) == 0,(Int.tmod (b + 8) 3) == 0,(Int.tmod (b + 9) 3) == 0⟩,⟨b + 10,(markText (b + 11)),(marks mkP 2 (b + 12) x.r.held.length),q,(Int.tmod (q + 1) 3) == 0⟩,q + 2,x.most,x.o,x.timer,x.tries⟩,.slice xa x.r.held.length xc) : CV)).map conR) (v := (.int .i64 (q + 2))) (i := 0) (off := i * 25 + 15) i 15 [.int .i64 b,.int .i64 (b + 1),.int .i64 (b + 2),.int .i64 (b + 3),.int .i64 (b + 4),.string (markText (b + 5)),.int .i64 (b + 6),.bool ((Int.tmod (b + 7) 3) == 0),.bool ((Int.tmod (b + 8) 3) == 0),.bool ((Int.tmod (b + 9) 3) == 0),.int .i64 (b + 10),.string (markText (b + 11)),.slice xa x.r.held.length xc,.int .i64 q,.bool ((Int.tmod (q + 1) 3) == 0),.int .i64 x.window,.int .i64 x.most,.int .i64 x.o.mss,.int .i64 x.o.scale,.bool x.o.sack,.bool x.o.stamp,.int .i64 x.o.val,.int .i64 x.o.echo,.int .i64 x.timer,.int .i64 x.tries] (row' := [.int .i64 b,.int .i64 (b + 1),.int .i64 (b + 2),.int .i64 (b + 3),.int .i64 (b + 4),.string (markText (b + 5)),.int .i64 (b + 6),.bool ((Int.tmod (b + 7) 3) == 0),.bool ((Int.tmod (b + 8) 3) == 0),.bool ((Int.tmod (b + 9) 3) == 0),.int .i64 (b + 10),.string (markText (b + 11)),.slice xa x.r.held.length xc,.int .i64 q,.bool ((Int.tmod (q + 1) 3) == 0),.int .i64 (q + 2),.int .i64 x.most,.int .i64 x.o.mss,.int .i64 x.o.scale,.bool x.o.sack,.bool x.o.stamp,.int .i64 x.o.val,.int .i64 x.o.echo,.int .i64 x.timer,.int .i64 x.tries]) hgg rfl (by kernel_rfl) rfl (by kernel_rfl) (by kernel_rfl) (by kernel_rfl) (by kernel_rfl) (cutW_le w B) (by rw [List.map_set,List.getElem?_set_self (by rw [List.length_map]; omega)]; rfl) (by kernel_rfl) rfl (by rw [List.map_set,List.map_set,List.set_set]; rfl))) ?_
 refine kED [0,1,5] [] ?_
 refine kQ ?_
 refine kRD 3 [0,1,5] [(1,.v (.int .i64 (IntKind.i64.wrap (q + 2 + 1))))] ?_
 refine xl_nv [0,1,5] [(1,.v (.int .i64 (IntKind.i64.wrap (q + 2 + 1))))] [(1,.v (.int .i64 (q + 3)))] (by rw [show (IntKind.i64.wrap (q + 2 + 1)) = (q + 3) from wrap_to (by omega) (by omega) (by omega)]) (by kernel_rfl) ?_
 refine kED [0,1,5] [] ?_
 refine kQ ?_
 refine kOD 3 [0,1,5,148,149,150] [(148,.v (.slice A l.length cap)),(149,.v (.int .i64 (i : Int))),(150,.v (.int .i64 (q + 3)))] (.pointer (some ⟨gg,i * 25,none⟩)) rfl (fun _ _ _ ww hr => act_ix (kd := .i64) (T := 30) (e := 68) (K := 25) (g := gg) (N := l.length) (cap := cap) i hgg hr.1 rfl rfl (by kernel_rfl) (by kernel_rfl) (by kernel_rfl) hlt ww) ?_
 refine kOS 0 [0,1,5,150,151] [(0,.v (.slice A l.length cap)),(1,.v (.int .i64 (q + 3))),(5,.v (.int .i64 (i : Int))),(150,.v (.int .i64 (q + 3))),(151,.v (.pointer (some ⟨gg,i * 25,none⟩)))] (.pointer (some ⟨gg,i * 25 + 16,none⟩)) rfl (fun _ _ _ ww hr => act_fld (sz := 1) (b := gg) (m := i * 25) hr.1 rfl Try.underlying68 rfl (by kernel_rfl) rfl (by kernel_rfl) rfl) ?_
 refine xl_hs 0 [0,1,5,150,152] ⟨[(0,.v (.slice A l.length cap)),(1,.v (.int .i64 (q + 3))),(5,.v (.int .i64 (i : Int))),(150,.v (.int .i64 (q + 3))),(152,.v (.pointer (some ⟨gg,i * 25 + 16,none⟩)))],[],[],[rowF B 68 25 (.slice A l.length cap) ((L.set i ((⟨⟨b,b + 1,b + 2⟩,b + 3,⟨b + 4,(markText (b + 5)),b + 6,(Int.tmod (b + 7) 3) == 0,(Int.tmod (b + 8) 3) == 0,(Int.tmod (b + 9) 3) == 0⟩,⟨b + 10,(markText (b + 11)),(marks mkP 2 (b + 12) x.r.held.length),q,(Int.tmod (q + 1) 3) == 0⟩,q + 2,x.most,x.o,x.timer,x.tries⟩,.slice xa x.r.held.length xc) : CV)).map conR),ownF B (.slice xa x.r.held.length xc) 2 ((marks mkP 2 (b + 12) x.r.held.length).map pceCells),hownF B (L.take i ++ L.drop (i + 1)),frF w (allF (tabR B 68 (.slice A l.length cap) l)).blk]⟩ (by kernel_rfl) rfl (by kernel_rfl) rfl (by kernel_rfl) (HSg.hs (hs_stR (g := gg) (B := B) (e := 68) (K := 25) (N := l.length) (cap := cap) (rs := ((L.set i ((⟨⟨b,b + 1,b + 2⟩,b + 3,⟨b + 4,(markText (b + 5)),b + 6,(Int.tmod (b + 7) 3) == 0,(Int.tmod (b + 8) 3) == 0,(Int.tmod (b + 9) 3) == 0⟩,⟨b + 10,(markText (b + 11)),(marks mkP 2 (b + 12) x.r.held.length),q,(Int.tmod (q + 1) 3) == 0⟩,q + 2,x.most,x.o,x.timer,x.tries⟩,.slice xa x.r.held.length xc) : CV)).map conR)) (rs' := (L.set i ((⟨⟨b,b + 1,b + 2⟩,b + 3,⟨b + 4,(markText (b + 5)),b + 6,(Int.tmod (b + 7) 3) == 0,(Int.tmod (b + 8) 3) == 0,(Int.tmod (b + 9) 3) == 0⟩,⟨b + 10,(markText (b + 11)),(marks mkP 2 (b + 12) x.r.held.length),q,(Int.tmod (q + 1) 3) == 0⟩,q + 2,q + 3,x.o,x.timer,x.tries⟩,.slice xa x.r.held.length xc) : CV)).map conR) (v := (.int .i64 (q + 3))) (i := 0) (off := i * 25 + 16) i 16 [.int .i64 b,.int .i64 (b + 1),.int .i64 (b + 2),.int .i64 (b + 3),.int .i64 (b + 4),.string (markText (b + 5)),.int .i64 (b + 6),.bool ((Int.tmod (b + 7) 3) == 0),.bool ((Int.tmod (b + 8) 3) == 0),.bool ((Int.tmod (b + 9) 3) == 0),.int .i64 (b + 10),.string (markText (b + 11)),.slice xa x.r.held.length xc,.int .i64 q,.bool ((Int.tmod (q + 1) 3) == 0),.int .i64 (q + 2),.int .i64 x.most,.int .i64 x.o.mss,.int .i64 x.o.scale,.bool x.o.sack,.bool x.o.stamp,.int .i64 x.o.val,.int .i64 x.o.echo,.int .i64 x.timer,.int .i64 x.tries] (row' := [.int .i64 b,.int .i64 (b + 1),.int .i64 (b + 2),.int .i64 (b + 3),.int .i64 (b + 4),.string (markText (b + 5)),.int .i64 (b + 6),.bool ((Int.tmod (b + 7) 3) == 0),.bool ((Int.tmod (b + 8) 3) == 0),.bool ((Int.tmod (b + 9) 3) == 0),.int .i64 (b + 10),.string (markText (b + 11)),.slice xa x.r.held.length xc,.int .i64 q,.bool ((Int.tmod (q + 1) 3) == 0),.int .i64 (q + 2),.int .i64 (q + 3),.int .i64 x.o.mss,.int .i64 x.o.scale,.bool x.o.sack,.bool x.o.stamp,.int .i64 x.o.val,.int .i64 x.o.echo,.int .i64 x.timer,.int .i64 x.tries]) hgg rfl (by kernel_rfl) rfl (by kernel_rfl) (by kernel_rfl) (by kernel_rfl) (by kernel_rfl) (cutW_le w B) (by rw [List.map_set,List.getElem?_set_self (by rw [List.length_map]; omega)]; rfl) (by kernel_rfl) rfl (by rw [List.map_set,List.map_set,List.set_set]; rfl))) ?_
 refine kED [0,1,5] [] ?_
 refine kQ ?_
 refine kRD 3 [0,1,5] [(1,.v (.int .i64 (IntKind.i64.wrap (q + 3 + 1))))] ?_
 refine xl_nv [0,1,5] [(1,.v (.int .i64 (IntKind.i64.wrap (q + 3 + 1))))] [(1,.v (.int .i64 (q + 4)))] (by rw [show (IntKind.i64.wrap (q + 3 + 1)) = (q + 4) from wrap_to (by omega) (by omega) (by omega)]) (by kernel_rfl) ?_
 refine kED [0,1,5] [] ?_
 refine kQ ?_
 refine kOD 3 [0,1,5,155,156,157] [(155,.v (.slice A l.length cap)),(156,.v (.int .i64 (i : Int))),(157,.v (.int .i64 (q + 4)))] (.pointer (some ⟨gg,i * 25,none⟩)) rfl (fun _ _ _ ww hr => act_ix (kd := .i64) (T := 30) (e := 68) (K := 25) (g := gg) (N := l.length) (cap := cap) i hgg hr.1 rfl rfl (by kernel_rfl) (by kernel_rfl) (by kernel_rfl) hlt ww) ?_
 refine kOD 0 [0,1,5,157,158] [] (.pointer (some ⟨gg,i * 25 + 17,none⟩)) rfl (fun _ _ _ ww hr => act_fld (sz := 6) (b := gg) (m := i * 25) hr.1 rfl Try.underlying68 rfl (by kernel_rfl) rfl (by kernel_rfl) rfl) ?_
 refine kOD 0 [0,1,5,157,159] [] (.pointer (some ⟨gg,i * 25 + 17,none⟩)) rfl (fun _ _ _ ww hr => act_fld (sz := 1) (b := gg) (m := i * 25 + 17) hr.1 rfl Try.underlying66 rfl (by kernel_rfl) rfl (by kernel_rfl) rfl) ?_
 refine xl_hs 0 [0,1,5,157,160] ⟨[(0,.v (.slice A l.length cap)),(1,.v (.int .i64 (q + 4))),(5,.v (.int .i64 (i : Int))),(157,.v (.int .i64 (q + 4))),(160,.v (.pointer (some ⟨gg,i * 25 + 17,none⟩)))],[],[],[rowF B 68 25 (.slice A l.length cap) ((L.set i ((⟨⟨b,b + 1,b + 2⟩,b + 3,⟨b + 4,(markText (b + 5)),b + 6,(Int.tmod (b + 7) 3) == 0,(Int.tmod (b + 8) 3) == 0,(Int.tmod (b + 9) 3) == 0⟩,⟨b + 10,(markText (b + 11)),(marks mkP 2 (b + 12) x.r.held.length),q,(Int.tmod (q + 1) 3) == 0⟩,q + 2,q + 3,x.o,x.timer,x.tries⟩,.slice xa x.r.held.length xc) : CV)).map conR),ownF B (.slice xa x.r.held.length xc) 2 ((marks mkP 2 (b + 12) x.r.held.length).map pceCells),hownF B (L.take i ++ L.drop (i + 1)),frF w (allF (tabR B 68 (.slice A l.length cap) l)).blk]⟩ (by kernel_rfl) rfl (by kernel_rfl) rfl (by kernel_rfl) (HSg.hs (hs_stR (g := gg) (B := B) (e := 68) (K := 25) (N := l.length) (cap := cap) (rs := ((L.set i ((⟨⟨b,b + 1,b + 2⟩,b + 3,⟨b + 4,(markText (b + 5)),b + 6,(Int.tmod (b + 7) 3) == 0,(Int.tmod (b + 8) 3) == 0,(Int.tmod (b + 9) 3) == 0⟩,⟨b + 10,(markText (b + 11)),(marks mkP 2 (b + 12) x.r.held.length),q,(Int.tmod (q + 1) 3) == 0⟩,q + 2,q + 3,x.o,x.timer,x.tries⟩,.slice xa x.r.held.length xc) : CV)).map conR)) (rs' := (L.set i ((⟨⟨b,b + 1,b + 2⟩,b + 3,⟨b + 4,(markText (b + 5)),b + 6,(Int.tmod (b + 7) 3) == 0,(Int.tmod (b + 8) 3) == 0,(Int.tmod (b + 9) 3) == 0⟩,⟨b + 10,(markText (b + 11)),(marks mkP 2 (b + 12) x.r.held.length),q,(Int.tmod (q + 1) 3) == 0⟩,q + 2,q + 3,{ x.o with mss := q + 4 },x.timer,x.tries⟩,.slice xa x.r.held.length xc) : CV)).map conR) (v := (.int .i64 (q + 4))) (i := 0) (off := i * 25 + 17) i 17 [.int .i64 b,.int .i64 (b + 1),.int .i64 (b + 2),.int .i64 (b + 3),.int .i64 (b + 4),.string (markText (b + 5)),.int .i64 (b + 6),.bool ((Int.tmod (b + 7) 3) == 0),.bool ((Int.tmod (b + 8) 3) == 0),.bool ((Int.tmod (b + 9) 3) == 0),.int .i64 (b + 10),.string (markText (b + 11)),.slice xa x.r.held.length xc,.int .i64 q,.bool ((Int.tmod (q + 1) 3) == 0),.int .i64 (q + 2),.int .i64 (q + 3),.int .i64 x.o.mss,.int .i64 x.o.scale,.bool x.o.sack,.bool x.o.stamp,.int .i64 x.o.val,.int .i64 x.o.echo,.int .i64 x.timer,.int .i64 x.tries] (row' := [.int .i64 b,.int .i64 (b + 1),.int .i64 (b + 2),.int .i64 (b + 3),.int .i64 (b + 4),.string (markText (b + 5)),.int .i64 (b + 6),.bool ((Int.tmod (b + 7) 3) == 0),.bool ((Int.tmod (b + 8) 3) == 0),.bool ((Int.tmod (b + 9) 3) == 0),.int .i64 (b + 10),.string (markText (b + 11)),.slice xa x.r.held.length xc,.int .i64 q,.bool ((Int.tmod (q + 1) 3) == 0),.int .i64 (q + 2),.int .i64 (q + 3),.int .i64 (q + 4),.int .i64 x.o.scale,.bool x.o.sack,.bool x.o.stamp,.int .i64 x.o.val,.int .i64 x.o.echo,.int .i64 x.timer,.int .i64 x.tries]) hgg rfl (by kernel_rfl) rfl (by kernel_rfl) (by kernel_rfl) (by kernel_rfl) (by kernel_rfl) (cutW_le w B) (by rw [List.map_set,List.getElem?_set_self (by rw [List.length_map]; omega)]; rfl) (by kernel_rfl) rfl (by rw [List.map_set,List.map_set,List.set_set]; rfl))) ?_
 refine kED [0,1,5] [] ?_
 refine kQ ?_
 refine kRD 3 [0,1,5] [(1,.v (.int .i64 (IntKind.i64.wrap (q + 4 + 1))))] ?_
 refine xl_nv [0,1,5] [(1,.v (.int .i64 (IntKind.i64.wrap (q + 4 + 1))))] [(1,.v (.int .i64 (q + 5)))] (by rw [show (IntKind.i64.wrap (q + 4 + 1)) = (q + 5) from wrap_to (by omega) (by omega) (by omega)]) (by kernel_rfl) ?_
 refine kES [0,1,5] [(0,.v (.slice A l.length cap)),(1,.v (.int .i64 (q + 5))),(5,.v (.int .i64 (i : Int)))] ?_
 refine kQ ?_
 refine kOD 3 [0,1,5,163,164,165] [(163,.v (.slice A l.length cap)),(164,.v (.int .i64 (i : Int))),(165,.v (.int .i64 (q + 5)))] (.pointer (some ⟨gg,i * 25,none⟩)) rfl (fun _ _ _ ww hr => act_ix (kd := .i64) (T := 30) (e := 68) (K := 25) (g := gg) (N := l.length) (cap := cap) i hgg hr.1 rfl rfl (by kernel_rfl) (by kernel_rfl) (by kernel_rfl) hlt ww) ?_
 refine kOD 0 [0,1,5,165,166] [] (.pointer (some ⟨gg,i * 25 + 17,none⟩)) rfl (fun _ _ _ ww hr => act_fld (sz := 6) (b := gg) (m := i * 25) hr.1 rfl Try.underlying68 rfl (by kernel_rfl) rfl (by kernel_rfl) rfl) ?_
 refine kOD 0 [0,1,5,165,167] [] (.pointer (some ⟨gg,i * 25 + 18,none⟩)) rfl (fun _ _ _ ww hr => act_fld (sz := 1) (b := gg) (m := i * 25 + 17) hr.1 rfl Try.underlying66 rfl (by kernel_rfl) rfl (by kernel_rfl) rfl) ?_
 refine xl_hs 0 [0,1,5,165,168] ⟨[(0,.v (.slice A l.length cap)),(1,.v (.int .i64 (q + 5))),(5,.v (.int .i64 (i : Int))),(165,.v (.int .i64 (q + 5))),(168,.v (.pointer (some ⟨gg,i * 25 + 18,none⟩)))],[],[],[rowF B 68 25 (.slice A l.length cap) ((L.set i ((⟨⟨b,b + 1,b + 2⟩,b + 3,⟨b + 4,(markText (b + 5)),b + 6,(Int.tmod (b + 7) 3) == 0,(Int.tmod (b + 8) 3) == 0,(Int.tmod (b + 9) 3) == 0⟩,⟨b + 10,(markText (b + 11)),(marks mkP 2 (b + 12) x.r.held.length),q,(Int.tmod (q + 1) 3) == 0⟩,q + 2,q + 3,{ x.o with mss := q + 4 },x.timer,x.tries⟩,.slice xa x.r.held.length xc) : CV)).map conR),ownF B (.slice xa x.r.held.length xc) 2 ((marks mkP 2 (b + 12) x.r.held.length).map pceCells),hownF B (L.take i ++ L.drop (i + 1)),frF w (allF (tabR B 68 (.slice A l.length cap) l)).blk]⟩ (by kernel_rfl) rfl (by kernel_rfl) rfl (by kernel_rfl) (HSg.hs (hs_stR (g := gg) (B := B) (e := 68) (K := 25) (N := l.length) (cap := cap) (rs := ((L.set i ((⟨⟨b,b + 1,b + 2⟩,b + 3,⟨b + 4,(markText (b + 5)),b + 6,(Int.tmod (b + 7) 3) == 0,(Int.tmod (b + 8) 3) == 0,(Int.tmod (b + 9) 3) == 0⟩,⟨b + 10,(markText (b + 11)),(marks mkP 2 (b + 12) x.r.held.length),q,(Int.tmod (q + 1) 3) == 0⟩,q + 2,q + 3,{ x.o with mss := q + 4 },x.timer,x.tries⟩,.slice xa x.r.held.length xc) : CV)).map conR)) (rs' := (L.set i ((⟨⟨b,b + 1,b + 2⟩,b + 3,⟨b + 4,(markText (b + 5)),b + 6,(Int.tmod (b + 7) 3) == 0,(Int.tmod (b + 8) 3) == 0,(Int.tmod (b + 9) 3) == 0⟩,⟨b + 10,(markText (b + 11)),(marks mkP 2 (b + 12) x.r.held.length),q,(Int.tmod (q + 1) 3) == 0⟩,q + 2,q + 3,{ x.o with mss := q + 4,scale := q + 5 },x.timer,x.tries⟩,.slice xa x.r.held.length xc) : CV)).map conR) (v := (.int .i64 (q + 5))) (i := 0) (off := i * 25 + 18) i 18 [.int .i64 b,.int .i64 (b + 1),.int .i64 (b + 2),.int .i64 (b + 3),.int .i64 (b + 4),.string (markText (b + 5)),.int .i64 (b + 6),.bool ((Int.tmod (b + 7) 3) == 0),.bool ((Int.tmod (b + 8) 3) == 0),.bool ((Int.tmod (b + 9) 3) == 0),.int .i64 (b + 10),.string (markText (b + 11)),.slice xa x.r.held.length xc,.int .i64 q,.bool ((Int.tmod (q + 1) 3) == 0),.int .i64 (q + 2),.int .i64 (q + 3),.int .i64 (q + 4),.int .i64 x.o.scale,.bool x.o.sack,.bool x.o.stamp,.int .i64 x.o.val,.int .i64 x.o.echo,.int .i64 x.timer,.int .i64 x.tries] (row' := [.int .i64 b,.int .i64 (b + 1),.int .i64 (b + 2),.int .i64 (b + 3),.int .i64 (b + 4),.string (markText (b + 5)),.int .i64 (b + 6),.bool ((Int.tmod (b + 7) 3) == 0),.bool ((Int.tmod (b + 8) 3) == 0),.bool ((Int.tmod (b + 9) 3) == 0),.int .i64 (b + 10),.string (markText (b + 11)),.slice xa x.r.held.length xc,.int .i64 q,.bool ((Int.tmod (q + 1) 3) == 0),.int .i64 (q + 2),.int .i64 (q + 3),.int .i64 (q + 4),.int .i64 (q + 5),.bool x.o.sack,.bool x.o.stamp,.int .i64 x.o.val,.int .i64 x.o.echo,.int .i64 x.timer,.int .i64 x.tries]) hgg rfl (by kernel_rfl) rfl (by kernel_rfl) (by kernel_rfl) (by kernel_rfl) (by kernel_rfl) (cutW_le w B) (by rw [List.map_set,List.getElem?_set_self (by rw [List.length_map]; omega)]; rfl) (by kernel_rfl) rfl (by rw [List.map_set,List.map_set,List.set_set]; rfl))) ?_
 refine kED [0,1,5] [] ?_
 refine kQ ?_
 refine kRD 3 [0,1,5] [(1,.v (.int .i64 (IntKind.i64.wrap (q + 5 + 1))))] ?_
 refine xl_nv [0,1,5] [(1,.v (.int .i64 (IntKind.i64.wrap (q + 5 + 1))))] [(1,.v (.int .i64 (q + 6)))] (by rw [show (IntKind.i64.wrap (q + 5 + 1)) = (q + 6) from wrap_to (by omega) (by omega) (by omega)]) (by kernel_rfl) ?_
 refine kED [0,1,5] [] ?_
 refine kQ ?_
 refine kOD 3 [0,1,5,171,172,173] [(171,.v (.slice A l.length cap)),(172,.v (.int .i64 (i : Int))),(173,.v (.int .i64 (q + 6)))] (.int .i64 (Int.tmod (q + 6) 3)) rfl (fun _ _ _ ww hr => act_bin hr.1 rfl (by kernel_rfl) (by kernel_rfl) (rem_run (by first | decide | omega) ww)) ?_
 refine kOD 1 [0,1,5,171,172,175] [(175,.v (.bool ((Int.tmod (q + 6) 3) == 0)))] (.pointer (some ⟨gg,i * 25,none⟩)) rfl (fun _ _ _ ww hr => act_ix (kd := .i64) (T := 30) (e := 68) (K := 25) (g := gg) (N := l.length) (cap := cap) i hgg hr.1 rfl rfl (by kernel_rfl) (by kernel_rfl) (by kernel_rfl) hlt ww) ?_
 refine kOD 0 [0,1,5,175,176] [] (.pointer (some ⟨gg,i * 25 + 17,none⟩)) rfl (fun _ _ _ ww hr => act_fld (sz := 6) (b := gg) (m := i * 25) hr.1 rfl Try.underlying68 rfl (by kernel_rfl) rfl (by kernel_rfl) rfl) ?_
 refine kOS 0 [0,1,5,175,177] [(0,.v (.slice A l.length cap)),(1,.v (.int .i64 (q + 6))),(5,.v (.int .i64 (i : Int))),(175,.v (.bool ((Int.tmod (q + 6) 3) == 0))),(177,.v (.pointer (some ⟨gg,i * 25 + 17,none⟩)))] (.pointer (some ⟨gg,i * 25 + 19,none⟩)) rfl (fun _ _ _ ww hr => act_fld (sz := 1) (b := gg) (m := i * 25 + 17) hr.1 rfl Try.underlying66 rfl (by kernel_rfl) rfl (by kernel_rfl) rfl) ?_
 refine xl_hs 0 [0,1,5,175,178] ⟨[(0,.v (.slice A l.length cap)),(1,.v (.int .i64 (q + 6))),(5,.v (.int .i64 (i : Int))),(175,.v (.bool ((Int.tmod (q + 6) 3) == 0))),(178,.v (.pointer (some ⟨gg,i * 25 + 19,none⟩)))],[],[],[rowF B 68 25 (.slice A l.length cap) ((L.set i ((⟨⟨b,b + 1,b + 2⟩,b + 3,⟨b + 4,(markText (b + 5)),b + 6,(Int.tmod (b + 7) 3) == 0,(Int.tmod (b + 8) 3) == 0,(Int.tmod (b + 9) 3) == 0⟩,⟨b + 10,(markText (b + 11)),(marks mkP 2 (b + 12) x.r.held.length),q,(Int.tmod (q + 1) 3) == 0⟩,q + 2,q + 3,{ x.o with mss := q + 4,scale := q + 5 },x.timer,x.tries⟩,.slice xa x.r.held.length xc) : CV)).map conR),ownF B (.slice xa x.r.held.length xc) 2 ((marks mkP 2 (b + 12) x.r.held.length).map pceCells),hownF B (L.take i ++ L.drop (i + 1)),frF w (allF (tabR B 68 (.slice A l.length cap) l)).blk]⟩ (by kernel_rfl) rfl (by kernel_rfl) rfl (by kernel_rfl) (HSg.hs (hs_stR (g := gg) (B := B) (e := 68) (K := 25) (N := l.length) (cap := cap) (rs := ((L.set i ((⟨⟨b,b + 1,b + 2⟩,b + 3,⟨b + 4,(markText (b + 5)),b + 6,(Int.tmod (b + 7) 3) == 0,(Int.tmod (b + 8) 3) == 0,(Int.tmod (b + 9) 3) == 0⟩,⟨b + 10,(markText (b + 11)),(marks mkP 2 (b + 12) x.r.held.length),q,(Int.tmod (q + 1) 3) == 0⟩,q + 2,q + 3,{ x.o with mss := q + 4,scale := q + 5 },x.timer,x.tries⟩,.slice xa x.r.held.length xc) : CV)).map conR)) (rs' := (L.set i ((⟨⟨b,b + 1,b + 2⟩,b + 3,⟨b + 4,(markText (b + 5)),b + 6,(Int.tmod (b + 7) 3) == 0,(Int.tmod (b + 8) 3) == 0,(Int.tmod (b + 9) 3) == 0⟩,⟨b + 10,(markText (b + 11)),(marks mkP 2 (b + 12) x.r.held.length),q,(Int.tmod (q + 1) 3) == 0⟩,q + 2,q + 3,{ x.o with mss := q + 4,scale := q + 5,sack := (Int.tmod (q + 6) 3) == 0 },x.timer,x.tries⟩,.slice xa x.r.held.length xc) : CV)).map conR) (v := (.bool ((Int.tmod (q + 6) 3) == 0))) (i := 0) (off := i * 25 + 19) i 19 [.int .i64 b,.int .i64 (b + 1),.int .i64 (b + 2),.int .i64 (b + 3),.int .i64 (b + 4),.string (markText (b + 5)),.int .i64 (b + 6),.bool ((Int.tmod (b + 7) 3) == 0),.bool ((Int.tmod (b + 8) 3) == 0),.bool ((Int.tmod (b + 9) 3) == 0),.int .i64 (b + 10),.string (markText (b + 11)),.slice xa x.r.held.length xc,.int .i64 q,.bool ((Int.tmod (q + 1) 3) == 0),.int .i64 (q + 2),.int .i64 (q + 3),.int .i64 (q + 4),.int .i64 (q + 5),.bool x.o.sack,.bool x.o.stamp,.int .i64 x.o.val,.int .i64 x.o.echo,.int .i64 x.timer,.int .i64 x.tries] (row' := [.int .i64 b,.int .i64 (b + 1),.int .i64 (b + 2),.int .i64 (b + 3),.int .i64 (b + 4),.string (markText (b + 5)),.int .i64 (b + 6),.bool ((Int.tmod (b + 7) 3) == 0),.bool ((Int.tmod (b + 8) 3) == 0),.bool ((Int.tmod (b + 9) 3) == 0),.int .i64 (b + 10),.string (markText (b + 11)),.slice xa x.r.held.length xc,.int .i64 q,.bool ((Int.tmod (q + 1) 3) == 0),.int .i64 (q + 2),.int .i64 (q + 3),.int .i64 (q + 4),.int .i64 (q + 5),.bool ((Int.tmod (q + 6) 3) == 0),.bool x.o.stamp,.int .i64 x.o.val,.int .i64 x.o.echo,.int .i64 x.timer,.int .i64 x.tries]) hgg rfl (by kernel_rfl) rfl (by kernel_rfl) (by kernel_rfl) (by kernel_rfl) (by kernel_rfl) (cutW_le w B) (by rw [List.map_set,List.getElem?_set_self (by rw [List.length_map]; omega)]; rfl) (by kernel_rfl) rfl (by rw [List.map_set,List.map_set,List.set_set]; rfl))) ?_
 refine kED [0,1,5] [] ?_
 refine kQ ?_
 refine kRD 3 [0,1,5] [(1,.v (.int .i64 (IntKind.i64.wrap (q + 6 + 1))))] ?_
 refine xl_nv [0,1,5] [(1,.v (.int .i64 (IntKind.i64.wrap (q + 6 + 1))))] [(1,.v (.int .i64 (q + 7)))] (by rw [show (IntKind.i64.wrap (q + 6 + 1)) = (q + 7) from wrap_to (by omega) (by omega) (by omega)]) (by kernel_rfl) ?_
 refine kED [0,1,5] [] ?_
 refine kQ ?_
 refine kOD 3 [0,1,5,181,182,183] [(181,.v (.slice A l.length cap)),(182,.v (.int .i64 (i : Int))),(183,.v (.int .i64 (q + 7)))] (.int .i64 (Int.tmod (q + 7) 3)) rfl (fun _ _ _ ww hr => act_bin hr.1 rfl (by kernel_rfl) (by kernel_rfl) (rem_run (by first | decide | omega) ww)) ?_
 refine kOD 1 [0,1,5,181,182,185] [(185,.v (.bool ((Int.tmod (q + 7) 3) == 0)))] (.pointer (some ⟨gg,i * 25,none⟩)) rfl (fun _ _ _ ww hr => act_ix (kd := .i64) (T := 30) (e := 68) (K := 25) (g := gg) (N := l.length) (cap := cap) i hgg hr.1 rfl rfl (by kernel_rfl) (by kernel_rfl) (by kernel_rfl) hlt ww) ?_
 refine kOD 0 [0,1,5,185,186] [] (.pointer (some ⟨gg,i * 25 + 17,none⟩)) rfl (fun _ _ _ ww hr => act_fld (sz := 6) (b := gg) (m := i * 25) hr.1 rfl Try.underlying68 rfl (by kernel_rfl) rfl (by kernel_rfl) rfl) ?_
 refine kOD 0 [0,1,5,185,187] [] (.pointer (some ⟨gg,i * 25 + 20,none⟩)) rfl (fun _ _ _ ww hr => act_fld (sz := 1) (b := gg) (m := i * 25 + 17) hr.1 rfl Try.underlying66 rfl (by kernel_rfl) rfl (by kernel_rfl) rfl) ?_
 refine xl_hs 0 [0,1,5,185,188] ⟨[(0,.v (.slice A l.length cap)),(1,.v (.int .i64 (q + 7))),(5,.v (.int .i64 (i : Int))),(185,.v (.bool ((Int.tmod (q + 7) 3) == 0))),(188,.v (.pointer (some ⟨gg,i * 25 + 20,none⟩)))],[],[],[rowF B 68 25 (.slice A l.length cap) ((L.set i ((⟨⟨b,b + 1,b + 2⟩,b + 3,⟨b + 4,(markText (b + 5)),b + 6,(Int.tmod (b + 7) 3) == 0,(Int.tmod (b + 8) 3) == 0,(Int.tmod (b + 9) 3) == 0⟩,⟨b + 10,(markText (b + 11)),(marks mkP 2 (b + 12) x.r.held.length),q,(Int.tmod (q + 1) 3) == 0⟩,q + 2,q + 3,{ x.o with mss := q + 4,scale := q + 5,sack := (Int.tmod (q + 6) 3) == 0 },x.timer,x.tries⟩,.slice xa x.r.held.length xc) : CV)).map conR),ownF B (.slice xa x.r.held.length xc) 2 ((marks mkP 2 (b + 12) x.r.held.length).map pceCells),hownF B (L.take i ++ L.drop (i + 1)),frF w (allF (tabR B 68 (.slice A l.length cap) l)).blk]⟩ (by kernel_rfl) rfl (by kernel_rfl) rfl (by kernel_rfl) (HSg.hs (hs_stR (g := gg) (B := B) (e := 68) (K := 25) (N := l.length) (cap := cap) (rs := ((L.set i ((⟨⟨b,b + 1,b + 2⟩,b + 3,⟨b + 4,(markText (b + 5)),b + 6,(Int.tmod (b + 7) 3) == 0,(Int.tmod (b + 8) 3) == 0,(Int.tmod (b + 9) 3) == 0⟩,⟨b + 10,(markText (b + 11)),(marks mkP 2 (b + 12) x.r.held.length),q,(Int.tmod (q + 1) 3) == 0⟩,q + 2,q + 3,{ x.o with mss := q + 4,scale := q + 5,sack := (Int.tmod (q + 6) 3) == 0 },x.timer,x.tries⟩,.slice xa x.r.held.length xc) : CV)).map conR)) (rs' := (L.set i ((⟨⟨b,b + 1,b + 2⟩,b + 3,⟨b + 4,(markText (b + 5)),b + 6,(Int.tmod (b + 7) 3) == 0,(Int.tmod (b + 8) 3) == 0,(Int.tmod (b + 9) 3) == 0⟩,⟨b + 10,(markText (b + 11)),(marks mkP 2 (b + 12) x.r.held.length),q,(Int.tmod (q + 1) 3) == 0⟩,q + 2,q + 3,⟨q + 4,q + 5,(Int.tmod (q + 6) 3) == 0,(Int.tmod (q + 7) 3) == 0,x.o.val,x.o.echo⟩,x.timer,x.tries⟩,.slice xa x.r.held.length xc) : CV)).map conR) (v := (.bool ((Int.tmod (q + 7) 3) == 0))) (i := 0) (off := i * 25 + 20) i 20 [.int .i64 b,.int .i64 (b + 1),.int .i64 (b + 2),.int .i64 (b + 3),.int .i64 (b + 4),.string (markText (b + 5)),.int .i64 (b + 6),.bool ((Int.tmod (b + 7) 3) == 0),.bool ((Int.tmod (b + 8) 3) == 0),.bool ((Int.tmod (b + 9) 3) == 0),.int .i64 (b + 10),.string (markText (b + 11)),.slice xa x.r.held.length xc,.int .i64 q,.bool ((Int.tmod (q + 1) 3) == 0),.int .i64 (q + 2),.int .i64 (q + 3),.int .i64 (q + 4),.int .i64 (q + 5),.bool ((Int.tmod (q + 6) 3) == 0),.bool x.o.stamp,.int .i64 x.o.val,.int .i64 x.o.echo,.int .i64 x.timer,.int .i64 x.tries] (row' := [.int .i64 b,.int .i64 (b + 1),.int .i64 (b + 2),.int .i64 (b + 3),.int .i64 (b + 4),.string (markText (b + 5)),.int .i64 (b + 6),.bool ((Int.tmod (b + 7) 3) == 0),.bool ((Int.tmod (b + 8) 3) == 0),.bool ((Int.tmod (b + 9) 3) == 0),.int .i64 (b + 10),.string (markText (b + 11)),.slice xa x.r.held.length xc,.int .i64 q,.bool ((Int.tmod (q + 1) 3) == 0),.int .i64 (q + 2),.int .i64 (q + 3),.int .i64 (q + 4),.int .i64 (q + 5),.bool ((Int.tmod (q + 6) 3) == 0),.bool ((Int.tmod (q + 7) 3) == 0),.int .i64 x.o.val,.int .i64 x.o.echo,.int .i64 x.timer,.int .i64 x.tries]) hgg rfl (by kernel_rfl) rfl (by kernel_rfl) (by kernel_rfl) (by kernel_rfl) (by kernel_rfl) (cutW_le w B) (by rw [List.map_set,List.getElem?_set_self (by rw [List.length_map]; omega)]; rfl) (by kernel_rfl) rfl (by rw [List.map_set,List.map_set,List.set_set]; rfl))) ?_
 refine kED [0,1,5] [] ?_
 refine kQ ?_
 refine kRS 3 [0,1,5] [(0,.v (.slice A l.length cap)),(1,.v (.int .i64 (IntKind.i64.wrap (q + 7 + 1)))),(5,.v (.int .i64 (i : Int)))] ?_
 refine xl_eqS (t' := [(0,.v (.slice A l.length cap)),(1,.v (.int .i64 (q + 8))),(5,.v (.int .i64 (i : Int)))]) (by rw [show (IntKind.i64.wrap (q + 7 + 1)) = (q + 8) from wrap_to (by omega) (by omega) (by omega)]) ?_
 refine kED [0,1,5] [] ?_
 refine kQ ?_
 refine kOD 3 [0,1,5,191,192,193] [(191,.v (.slice A l.length cap)),(192,.v (.int .i64 (i : Int))),(193,.v (.int .i64 (q + 8)))] (.pointer (some ⟨gg,i * 25,none⟩)) rfl (fun _ _ _ ww hr => act_ix (kd := .i64) (T := 30) (e := 68) (K := 25) (g := gg) (N := l.length) (cap := cap) i hgg hr.1 rfl rfl (by kernel_rfl) (by kernel_rfl) (by kernel_rfl) hlt ww) ?_
 refine kOD 0 [0,1,5,193,194] [] (.pointer (some ⟨gg,i * 25 + 17,none⟩)) rfl (fun _ _ _ ww hr => act_fld (sz := 6) (b := gg) (m := i * 25) hr.1 rfl Try.underlying68 rfl (by kernel_rfl) rfl (by kernel_rfl) rfl) ?_
 refine kOD 0 [0,1,5,193,195] [] (.pointer (some ⟨gg,i * 25 + 21,none⟩)) rfl (fun _ _ _ ww hr => act_fld (sz := 1) (b := gg) (m := i * 25 + 17) hr.1 rfl Try.underlying66 rfl (by kernel_rfl) rfl (by kernel_rfl) rfl) ?_
 refine xl_hs 0 [0,1,5,193,196] ⟨[(0,.v (.slice A l.length cap)),(1,.v (.int .i64 (q + 8))),(5,.v (.int .i64 (i : Int))),(193,.v (.int .i64 (q + 8))),(196,.v (.pointer (some ⟨gg,i * 25 + 21,none⟩)))],[],[],[rowF B 68 25 (.slice A l.length cap) ((L.set i ((⟨⟨b,b + 1,b + 2⟩,b + 3,⟨b + 4,(markText (b + 5)),b + 6,(Int.tmod (b + 7) 3) == 0,(Int.tmod (b + 8) 3) == 0,(Int.tmod (b + 9) 3) == 0⟩,⟨b + 10,(markText (b + 11)),(marks mkP 2 (b + 12) x.r.held.length),q,(Int.tmod (q + 1) 3) == 0⟩,q + 2,q + 3,⟨q + 4,q + 5,(Int.tmod (q + 6) 3) == 0,(Int.tmod (q + 7) 3) == 0,x.o.val,x.o.echo⟩,x.timer,x.tries⟩,.slice xa x.r.held.length xc) : CV)).map conR),ownF B (.slice xa x.r.held.length xc) 2 ((marks mkP 2 (b + 12) x.r.held.length).map pceCells),hownF B (L.take i ++ L.drop (i + 1)),frF w (allF (tabR B 68 (.slice A l.length cap) l)).blk]⟩ (by kernel_rfl) rfl (by kernel_rfl) rfl (by kernel_rfl) (HSg.hs (hs_stR (g := gg) (B := B) (e := 68) (K := 25) (N := l.length) (cap := cap) (rs := ((L.set i ((⟨⟨b,b + 1,b + 2⟩,b + 3,⟨b + 4,(markText (b + 5)),b + 6,(Int.tmod (b + 7) 3) == 0,(Int.tmod (b + 8) 3) == 0,(Int.tmod (b + 9) 3) == 0⟩,⟨b + 10,(markText (b + 11)),(marks mkP 2 (b + 12) x.r.held.length),q,(Int.tmod (q + 1) 3) == 0⟩,q + 2,q + 3,⟨q + 4,q + 5,(Int.tmod (q + 6) 3) == 0,(Int.tmod (q + 7) 3) == 0,x.o.val,x.o.echo⟩,x.timer,x.tries⟩,.slice xa x.r.held.length xc) : CV)).map conR)) (rs' := (L.set i ((⟨⟨b,b + 1,b + 2⟩,b + 3,⟨b + 4,(markText (b + 5)),b + 6,(Int.tmod (b + 7) 3) == 0,(Int.tmod (b + 8) 3) == 0,(Int.tmod (b + 9) 3) == 0⟩,⟨b + 10,(markText (b + 11)),(marks mkP 2 (b + 12) x.r.held.length),q,(Int.tmod (q + 1) 3) == 0⟩,q + 2,q + 3,⟨q + 4,q + 5,(Int.tmod (q + 6) 3) == 0,(Int.tmod (q + 7) 3) == 0,q + 8,x.o.echo⟩,x.timer,x.tries⟩,.slice xa x.r.held.length xc) : CV)).map conR) (v := (.int .i64 (q + 8))) (i := 0) (off := i * 25 + 21) i 21 [.int .i64 b,.int .i64 (b + 1),.int .i64 (b + 2),.int .i64 (b + 3),.int .i64 (b + 4),.string (markText (b + 5)),.int .i64 (b + 6),.bool ((Int.tmod (b + 7) 3) == 0),.bool ((Int.tmod (b + 8) 3) == 0),.bool ((Int.tmod (b + 9) 3) == 0),.int .i64 (b + 10),.string (markText (b + 11)),.slice xa x.r.held.length xc,.int .i64 q,.bool ((Int.tmod (q + 1) 3) == 0),.int .i64 (q + 2),.int .i64 (q + 3),.int .i64 (q + 4),.int .i64 (q + 5),.bool ((Int.tmod (q + 6) 3) == 0),.bool ((Int.tmod (q + 7) 3) == 0),.int .i64 x.o.val,.int .i64 x.o.echo,.int .i64 x.timer,.int .i64 x.tries] (row' := [.int .i64 b,.int .i64 (b + 1),.int .i64 (b + 2),.int .i64 (b + 3),.int .i64 (b + 4),.string (markText (b + 5)),.int .i64 (b + 6),.bool ((Int.tmod (b + 7) 3) == 0),.bool ((Int.tmod (b + 8) 3) == 0),.bool ((Int.tmod (b + 9) 3) == 0),.int .i64 (b + 10),.string (markText (b + 11)),.slice xa x.r.held.length xc,.int .i64 q,.bool ((Int.tmod (q + 1) 3) == 0),.int .i64 (q + 2),.int .i64 (q + 3),.int .i64 (q + 4),.int .i64 (q + 5),.bool ((Int.tmod (q + 6) 3) == 0),.bool ((Int.tmod (q + 7) 3) == 0),.int .i64 (q + 8),.int .i64 x.o.echo,.int .i64 x.timer,.int .i64 x.tries]) hgg rfl (by kernel_rfl) rfl (by kernel_rfl) (by kernel_rfl) (by kernel_rfl) (by kernel_rfl) (cutW_le w B) (by rw [List.map_set,List.getElem?_set_self (by rw [List.length_map]; omega)]; rfl) (by kernel_rfl) rfl (by rw [List.map_set,List.map_set,List.set_set]; rfl))) ?_
 refine kED [0,1,5] [] ?_
 refine kQ ?_
 refine kRD 3 [0,1,5] [(1,.v (.int .i64 (IntKind.i64.wrap (q + 8 + 1))))] ?_
 refine xl_nv [0,1,5] [(1,.v (.int .i64 (IntKind.i64.wrap (q + 8 + 1))))] [(1,.v (.int .i64 (q + 9)))] (by rw [show (IntKind.i64.wrap (q + 8 + 1)) = (q + 9) from wrap_to (by omega) (by omega) (by omega)]) (by kernel_rfl) ?_
 refine kED [0,1,5] [] ?_
 refine kQ ?_
 refine kOD 3 [0,1,5,199,200,201] [(199,.v (.slice A l.length cap)),(200,.v (.int .i64 (i : Int))),(201,.v (.int .i64 (q + 9)))] (.pointer (some ⟨gg,i * 25,none⟩)) rfl (fun _ _ _ ww hr => act_ix (kd := .i64) (T := 30) (e := 68) (K := 25) (g := gg) (N := l.length) (cap := cap) i hgg hr.1 rfl rfl (by kernel_rfl) (by kernel_rfl) (by kernel_rfl) hlt ww) ?_
 refine kOD 0 [0,1,5,201,202] [] (.pointer (some ⟨gg,i * 25 + 17,none⟩)) rfl (fun _ _ _ ww hr => act_fld (sz := 6) (b := gg) (m := i * 25) hr.1 rfl Try.underlying68 rfl (by kernel_rfl) rfl (by kernel_rfl) rfl) ?_
 refine kOS 0 [0,1,5,201,203] [(0,.v (.slice A l.length cap)),(1,.v (.int .i64 (q + 9))),(5,.v (.int .i64 (i : Int))),(201,.v (.int .i64 (q + 9))),(203,.v (.pointer (some ⟨gg,i * 25 + 17,none⟩)))] (.pointer (some ⟨gg,i * 25 + 22,none⟩)) rfl (fun _ _ _ ww hr => act_fld (sz := 1) (b := gg) (m := i * 25 + 17) hr.1 rfl Try.underlying66 rfl (by kernel_rfl) rfl (by kernel_rfl) rfl) ?_
 refine xl_hs 0 [0,1,5,201,204] ⟨[(0,.v (.slice A l.length cap)),(1,.v (.int .i64 (q + 9))),(5,.v (.int .i64 (i : Int))),(201,.v (.int .i64 (q + 9))),(204,.v (.pointer (some ⟨gg,i * 25 + 22,none⟩)))],[],[],[rowF B 68 25 (.slice A l.length cap) ((L.set i ((⟨⟨b,b + 1,b + 2⟩,b + 3,⟨b + 4,(markText (b + 5)),b + 6,(Int.tmod (b + 7) 3) == 0,(Int.tmod (b + 8) 3) == 0,(Int.tmod (b + 9) 3) == 0⟩,⟨b + 10,(markText (b + 11)),(marks mkP 2 (b + 12) x.r.held.length),q,(Int.tmod (q + 1) 3) == 0⟩,q + 2,q + 3,⟨q + 4,q + 5,(Int.tmod (q + 6) 3) == 0,(Int.tmod (q + 7) 3) == 0,q + 8,x.o.echo⟩,x.timer,x.tries⟩,.slice xa x.r.held.length xc) : CV)).map conR),ownF B (.slice xa x.r.held.length xc) 2 ((marks mkP 2 (b + 12) x.r.held.length).map pceCells),hownF B (L.take i ++ L.drop (i + 1)),frF w (allF (tabR B 68 (.slice A l.length cap) l)).blk]⟩ (by kernel_rfl) rfl (by kernel_rfl) rfl (by kernel_rfl) (HSg.hs (hs_stR (g := gg) (B := B) (e := 68) (K := 25) (N := l.length) (cap := cap) (rs := ((L.set i ((⟨⟨b,b + 1,b + 2⟩,b + 3,⟨b + 4,(markText (b + 5)),b + 6,(Int.tmod (b + 7) 3) == 0,(Int.tmod (b + 8) 3) == 0,(Int.tmod (b + 9) 3) == 0⟩,⟨b + 10,(markText (b + 11)),(marks mkP 2 (b + 12) x.r.held.length),q,(Int.tmod (q + 1) 3) == 0⟩,q + 2,q + 3,⟨q + 4,q + 5,(Int.tmod (q + 6) 3) == 0,(Int.tmod (q + 7) 3) == 0,q + 8,x.o.echo⟩,x.timer,x.tries⟩,.slice xa x.r.held.length xc) : CV)).map conR)) (rs' := (L.set i ((⟨⟨b,b + 1,b + 2⟩,b + 3,⟨b + 4,(markText (b + 5)),b + 6,(Int.tmod (b + 7) 3) == 0,(Int.tmod (b + 8) 3) == 0,(Int.tmod (b + 9) 3) == 0⟩,⟨b + 10,(markText (b + 11)),(marks mkP 2 (b + 12) x.r.held.length),q,(Int.tmod (q + 1) 3) == 0⟩,q + 2,q + 3,⟨q + 4,q + 5,(Int.tmod (q + 6) 3) == 0,(Int.tmod (q + 7) 3) == 0,q + 8,q + 9⟩,x.timer,x.tries⟩,.slice xa x.r.held.length xc) : CV)).map conR) (v := (.int .i64 (q + 9))) (i := 0) (off := i * 25 + 22) i 22 [.int .i64 b,.int .i64 (b + 1),.int .i64 (b + 2),.int .i64 (b + 3),.int .i64 (b + 4),.string (markText (b + 5)),.int .i64 (b + 6),.bool ((Int.tmod (b + 7) 3) == 0),.bool ((Int.tmod (b + 8) 3) == 0),.bool ((Int.tmod (b + 9) 3) == 0),.int .i64 (b + 10),.string (markText (b + 11)),.slice xa x.r.held.length xc,.int .i64 q,.bool ((Int.tmod (q + 1) 3) == 0),.int .i64 (q + 2),.int .i64 (q + 3),.int .i64 (q + 4),.int .i64 (q + 5),.bool ((Int.tmod (q + 6) 3) == 0),.bool ((Int.tmod (q + 7) 3) == 0),.int .i64 (q + 8),.int .i64 x.o.echo,.int .i64 x.timer,.int .i64 x.tries] (row' := [.int .i64 b,.int .i64 (b + 1),.int .i64 (b + 2),.int .i64 (b + 3),.int .i64 (b + 4),.string (markText (b + 5)),.int .i64 (b + 6),.bool ((Int.tmod (b + 7) 3) == 0),.bool ((Int.tmod (b + 8) 3) == 0),.bool ((Int.tmod (b + 9) 3) == 0),.int .i64 (b + 10),.string (markText (b + 11)),.slice xa x.r.held.length xc,.int .i64 q,.bool ((Int.tmod (q + 1) 3) == 0),.int .i64 (q + 2),.int .i64 (q + 3),.int .i64 (q + 4),.int .i64 (q + 5),.bool ((Int.tmod (q + 6) 3) == 0),.bool ((Int.tmod (q + 7) 3) == 0),.int .i64 (q + 8),.int .i64 (q + 9),.int .i64 x.timer,.int .i64 x.tries]) hgg rfl (by kernel_rfl) rfl (by kernel_rfl) (by kernel_rfl) (by kernel_rfl) (by kernel_rfl) (cutW_le w B) (by rw [List.map_set,List.getElem?_set_self (by rw [List.length_map]; omega)]; rfl) (by kernel_rfl) rfl (by rw [List.map_set,List.map_set,List.set_set]; rfl))) ?_
 refine kED [0,1,5] [] ?_
 refine kQ ?_
 refine kRD 3 [0,1,5] [(1,.v (.int .i64 (IntKind.i64.wrap (q + 9 + 1))))] ?_
 refine xl_nv [0,1,5] [(1,.v (.int .i64 (IntKind.i64.wrap (q + 9 + 1))))] [(1,.v (.int .i64 (q + 10)))] (by rw [show (IntKind.i64.wrap (q + 9 + 1)) = (q + 10) from wrap_to (by omega) (by omega) (by omega)]) (by kernel_rfl) ?_
 refine kED [0,1,5] [] ?_
 refine kQ ?_
 refine kOD 3 [0,1,5,207,208,209] [(207,.v (.slice A l.length cap)),(208,.v (.int .i64 (i : Int))),(209,.v (.int .i64 (q + 10)))] (.pointer (some ⟨gg,i * 25,none⟩)) rfl (fun _ _ _ ww hr => act_ix (kd := .i64) (T := 30) (e := 68) (K := 25) (g := gg) (N := l.length) (cap := cap) i hgg hr.1 rfl rfl (by kernel_rfl) (by kernel_rfl) (by kernel_rfl) hlt ww) ?_
 refine kOD 0 [0,1,5,209,210] [] (.pointer (some ⟨gg,i * 25 + 23,none⟩)) rfl (fun _ _ _ ww hr => act_fld (sz := 1) (b := gg) (m := i * 25) hr.1 rfl Try.underlying68 rfl (by kernel_rfl) rfl (by kernel_rfl) rfl) ?_
 refine xl_hs 0 [0,1,5,209,211] ⟨[(0,.v (.slice A l.length cap)),(1,.v (.int .i64 (q + 10))),(5,.v (.int .i64 (i : Int))),(209,.v (.int .i64 (q + 10))),(211,.v (.pointer (some ⟨gg,i * 25 + 23,none⟩)))],[],[],[rowF B 68 25 (.slice A l.length cap) ((L.set i ((⟨⟨b,b + 1,b + 2⟩,b + 3,⟨b + 4,(markText (b + 5)),b + 6,(Int.tmod (b + 7) 3) == 0,(Int.tmod (b + 8) 3) == 0,(Int.tmod (b + 9) 3) == 0⟩,⟨b + 10,(markText (b + 11)),(marks mkP 2 (b + 12) x.r.held.length),q,(Int.tmod (q + 1) 3) == 0⟩,q + 2,q + 3,⟨q + 4,q + 5,(Int.tmod (q + 6) 3) == 0,(Int.tmod (q + 7) 3) == 0,q + 8,q + 9⟩,x.timer,x.tries⟩,.slice xa x.r.held.length xc) : CV)).map conR),ownF B (.slice xa x.r.held.length xc) 2 ((marks mkP 2 (b + 12) x.r.held.length).map pceCells),hownF B (L.take i ++ L.drop (i + 1)),frF w (allF (tabR B 68 (.slice A l.length cap) l)).blk]⟩ (by kernel_rfl) rfl (by kernel_rfl) rfl (by kernel_rfl) (HSg.hs (hs_stR (g := gg) (B := B) (e := 68) (K := 25) (N := l.length) (cap := cap) (rs := ((L.set i ((⟨⟨b,b + 1,b + 2⟩,b + 3,⟨b + 4,(markText (b + 5)),b + 6,(Int.tmod (b + 7) 3) == 0,(Int.tmod (b + 8) 3) == 0,(Int.tmod (b + 9) 3) == 0⟩,⟨b + 10,(markText (b + 11)),(marks mkP 2 (b + 12) x.r.held.length),q,(Int.tmod (q + 1) 3) == 0⟩,q + 2,q + 3,⟨q + 4,q + 5,(Int.tmod (q + 6) 3) == 0,(Int.tmod (q + 7) 3) == 0,q + 8,q + 9⟩,x.timer,x.tries⟩,.slice xa x.r.held.length xc) : CV)).map conR)) (rs' := (L.set i ((⟨⟨b,b + 1,b + 2⟩,b + 3,⟨b + 4,(markText (b + 5)),b + 6,(Int.tmod (b + 7) 3) == 0,(Int.tmod (b + 8) 3) == 0,(Int.tmod (b + 9) 3) == 0⟩,⟨b + 10,(markText (b + 11)),(marks mkP 2 (b + 12) x.r.held.length),q,(Int.tmod (q + 1) 3) == 0⟩,q + 2,q + 3,⟨q + 4,q + 5,(Int.tmod (q + 6) 3) == 0,(Int.tmod (q + 7) 3) == 0,q + 8,q + 9⟩,q + 10,x.tries⟩,.slice xa x.r.held.length xc) : CV)).map conR) (v := (.int .i64 (q + 10))) (i := 0) (off := i * 25 + 23) i 23 [.int .i64 b,.int .i64 (b + 1),.int .i64 (b + 2),.int .i64 (b + 3),.int .i64 (b + 4),.string (markText (b + 5)),.int .i64 (b + 6),.bool ((Int.tmod (b + 7) 3) == 0),.bool ((Int.tmod (b + 8) 3) == 0),.bool ((Int.tmod (b + 9) 3) == 0),.int .i64 (b + 10),.string (markText (b + 11)),.slice xa x.r.held.length xc,.int .i64 q,.bool ((Int.tmod (q + 1) 3) == 0),.int .i64 (q + 2),.int .i64 (q + 3),.int .i64 (q + 4),.int .i64 (q + 5),.bool ((Int.tmod (q + 6) 3) == 0),.bool ((Int.tmod (q + 7) 3) == 0),.int .i64 (q + 8),.int .i64 (q + 9),.int .i64 x.timer,.int .i64 x.tries] (row' := [.int .i64 b,.int .i64 (b + 1),.int .i64 (b + 2),.int .i64 (b + 3),.int .i64 (b + 4),.string (markText (b + 5)),.int .i64 (b + 6),.bool ((Int.tmod (b + 7) 3) == 0),.bool ((Int.tmod (b + 8) 3) == 0),.bool ((Int.tmod (b + 9) 3) == 0),.int .i64 (b + 10),.string (markText (b + 11)),.slice xa x.r.held.length xc,.int .i64 q,.bool ((Int.tmod (q + 1) 3) == 0),.int .i64 (q + 2),.int .i64 (q + 3),.int .i64 (q + 4),.int .i64 (q + 5),.bool ((Int.tmod (q + 6) 3) == 0),.bool ((Int.tmod (q + 7) 3) == 0),.int .i64 (q + 8),.int .i64 (q + 9),.int .i64 (q + 10),.int .i64 x.tries]) hgg rfl (by kernel_rfl) rfl (by kernel_rfl) (by kernel_rfl) (by kernel_rfl) (by kernel_rfl) (cutW_le w B) (by rw [List.map_set,List.getElem?_set_self (by rw [List.length_map]; omega)]; rfl) (by kernel_rfl) rfl (by rw [List.map_set,List.map_set,List.set_set]; rfl))) ?_
 refine kED [0,1,5] [] ?_
 refine kQ ?_
 refine kRD 3 [0,1,5] [(1,.v (.int .i64 (IntKind.i64.wrap (q + 10 + 1))))] ?_
 refine xl_nv [0,1,5] [(1,.v (.int .i64 (IntKind.i64.wrap (q + 10 + 1))))] [(1,.v (.int .i64 (q + 11)))] (by rw [show (IntKind.i64.wrap (q + 10 + 1)) = (q + 11) from wrap_to (by omega) (by omega) (by omega)]) (by kernel_rfl) ?_
 refine kED [0,1,5] [] ?_
 refine kQ ?_
 refine kOS 3 [0,1,5,214,215,216] [(0,.v (.slice A l.length cap)),(1,.v (.int .i64 (q + 11))),(5,.v (.int .i64 (i : Int))),(214,.v (.slice A l.length cap)),(215,.v (.int .i64 (i : Int))),(216,.v (.int .i64 (q + 11)))] (.pointer (some ⟨gg,i * 25,none⟩)) rfl (fun _ _ _ ww hr => act_ix (kd := .i64) (T := 30) (e := 68) (K := 25) (g := gg) (N := l.length) (cap := cap) i hgg hr.1 rfl rfl (by kernel_rfl) (by kernel_rfl) (by kernel_rfl) hlt ww) ?_
 refine kOD 0 [0,1,5,216,217] [] (.pointer (some ⟨gg,i * 25 + 24,none⟩)) rfl (fun _ _ _ ww hr => act_fld (sz := 1) (b := gg) (m := i * 25) hr.1 rfl Try.underlying68 rfl (by kernel_rfl) rfl (by kernel_rfl) rfl) ?_
 refine xl_hs 0 [0,1,5,216,218] ⟨[(0,.v (.slice A l.length cap)),(1,.v (.int .i64 (q + 11))),(5,.v (.int .i64 (i : Int))),(216,.v (.int .i64 (q + 11))),(218,.v (.pointer (some ⟨gg,i * 25 + 24,none⟩)))],[],[],[rowF B 68 25 (.slice A l.length cap) ((L.set i ((⟨⟨b,b + 1,b + 2⟩,b + 3,⟨b + 4,(markText (b + 5)),b + 6,(Int.tmod (b + 7) 3) == 0,(Int.tmod (b + 8) 3) == 0,(Int.tmod (b + 9) 3) == 0⟩,⟨b + 10,(markText (b + 11)),(marks mkP 2 (b + 12) x.r.held.length),q,(Int.tmod (q + 1) 3) == 0⟩,q + 2,q + 3,⟨q + 4,q + 5,(Int.tmod (q + 6) 3) == 0,(Int.tmod (q + 7) 3) == 0,q + 8,q + 9⟩,q + 10,x.tries⟩,.slice xa x.r.held.length xc) : CV)).map conR),ownF B (.slice xa x.r.held.length xc) 2 ((marks mkP 2 (b + 12) x.r.held.length).map pceCells),hownF B (L.take i ++ L.drop (i + 1)),frF w (allF (tabR B 68 (.slice A l.length cap) l)).blk]⟩ (by kernel_rfl) rfl (by kernel_rfl) rfl (by kernel_rfl) (HSg.hs (hs_stR (g := gg) (B := B) (e := 68) (K := 25) (N := l.length) (cap := cap) (rs := ((L.set i ((⟨⟨b,b + 1,b + 2⟩,b + 3,⟨b + 4,(markText (b + 5)),b + 6,(Int.tmod (b + 7) 3) == 0,(Int.tmod (b + 8) 3) == 0,(Int.tmod (b + 9) 3) == 0⟩,⟨b + 10,(markText (b + 11)),(marks mkP 2 (b + 12) x.r.held.length),q,(Int.tmod (q + 1) 3) == 0⟩,q + 2,q + 3,⟨q + 4,q + 5,(Int.tmod (q + 6) 3) == 0,(Int.tmod (q + 7) 3) == 0,q + 8,q + 9⟩,q + 10,x.tries⟩,.slice xa x.r.held.length xc) : CV)).map conR)) (rs' := (L.set i ((⟨⟨b,b + 1,b + 2⟩,b + 3,⟨b + 4,(markText (b + 5)),b + 6,(Int.tmod (b + 7) 3) == 0,(Int.tmod (b + 8) 3) == 0,(Int.tmod (b + 9) 3) == 0⟩,⟨b + 10,(markText (b + 11)),(marks mkP 2 (b + 12) x.r.held.length),q,(Int.tmod (q + 1) 3) == 0⟩,q + 2,q + 3,⟨q + 4,q + 5,(Int.tmod (q + 6) 3) == 0,(Int.tmod (q + 7) 3) == 0,q + 8,q + 9⟩,q + 10,q + 11⟩,.slice xa x.r.held.length xc) : CV)).map conR) (v := (.int .i64 (q + 11))) (i := 0) (off := i * 25 + 24) i 24 [.int .i64 b,.int .i64 (b + 1),.int .i64 (b + 2),.int .i64 (b + 3),.int .i64 (b + 4),.string (markText (b + 5)),.int .i64 (b + 6),.bool ((Int.tmod (b + 7) 3) == 0),.bool ((Int.tmod (b + 8) 3) == 0),.bool ((Int.tmod (b + 9) 3) == 0),.int .i64 (b + 10),.string (markText (b + 11)),.slice xa x.r.held.length xc,.int .i64 q,.bool ((Int.tmod (q + 1) 3) == 0),.int .i64 (q + 2),.int .i64 (q + 3),.int .i64 (q + 4),.int .i64 (q + 5),.bool ((Int.tmod (q + 6) 3) == 0),.bool ((Int.tmod (q + 7) 3) == 0),.int .i64 (q + 8),.int .i64 (q + 9),.int .i64 (q + 10),.int .i64 x.tries] (row' := [.int .i64 b,.int .i64 (b + 1),.int .i64 (b + 2),.int .i64 (b + 3),.int .i64 (b + 4),.string (markText (b + 5)),.int .i64 (b + 6),.bool ((Int.tmod (b + 7) 3) == 0),.bool ((Int.tmod (b + 8) 3) == 0),.bool ((Int.tmod (b + 9) 3) == 0),.int .i64 (b + 10),.string (markText (b + 11)),.slice xa x.r.held.length xc,.int .i64 q,.bool ((Int.tmod (q + 1) 3) == 0),.int .i64 (q + 2),.int .i64 (q + 3),.int .i64 (q + 4),.int .i64 (q + 5),.bool ((Int.tmod (q + 6) 3) == 0),.bool ((Int.tmod (q + 7) 3) == 0),.int .i64 (q + 8),.int .i64 (q + 9),.int .i64 (q + 10),.int .i64 (q + 11)]) hgg rfl (by kernel_rfl) rfl (by kernel_rfl) (by kernel_rfl) (by kernel_rfl) (by kernel_rfl) (cutW_le w B) (by rw [List.map_set,List.getElem?_set_self (by rw [List.length_map]; omega)]; rfl) (by kernel_rfl) rfl (by rw [List.map_set,List.map_set,List.set_set]; rfl))) ?_
 refine kED [0,1,5] [] ?_
 refine kG ?_
 refine kRD 3 [0,1,5] [(1,.v (.int .i64 (IntKind.i64.wrap (q + 11 + 1))))] ?_
 refine xl_nv [0,1,5] [(1,.v (.int .i64 (IntKind.i64.wrap (q + 11 + 1))))] [(1,.v (.int .i64 (q + 12)))] (by rw [show (IntKind.i64.wrap (q + 11 + 1)) = (q + 12) from wrap_to (by omega) (by omega) (by omega)]) (by kernel_rfl) ?_
 refine kED [0,1,5] [] ?_
 refine kG ?_
 refine kRD 3 [0,1,5] [(5,.v (.int .i64 (IntKind.i64.wrap ((i : Int) + 1))))] ?_
 refine xl_nv [0,1,5] [(5,.v (.int .i64 (IntKind.i64.wrap ((i : Int) + 1))))] [(5,.v (.int .i64 ((i : Int) + 1)))] (by rw [show (IntKind.i64.wrap ((i : Int) + 1)) = ((i : Int) + 1) from wrap_id (by omega) (by omega)]) (by kernel_rfl) ?_
 refine kED [0,1,5] [] ?_
 exact ⟨⟨(i + 1,(L.set i ((⟨⟨b,b + 1,b + 2⟩,b + 3,⟨b + 4,(markText (b + 5)),b + 6,(Int.tmod (b + 7) 3) == 0,(Int.tmod (b + 8) 3) == 0,(Int.tmod (b + 9) 3) == 0⟩,⟨b + 10,(markText (b + 11)),(marks mkP 2 (b + 12) x.r.held.length),q,(Int.tmod (q + 1) 3) == 0⟩,q + 2,q + 3,⟨q + 4,q + 5,(Int.tmod (q + 6) 3) == 0,(Int.tmod (q + 7) 3) == 0,q + 8,q + 9⟩,q + 10,q + 11⟩,.slice xa x.r.held.length xc) : CV)),q + 12),⟨hlt,(by rw [← mkAt_next hx,← HK,HL,hq]; rfl),(by rw [mcnt_next hx]; simp only; omega)⟩⟩,kPk [1,2,0,3] <| (wk_turn (fs' := [hownF B (L.set i ((⟨⟨b,b + 1,b + 2⟩,b + 3,⟨b + 4,(markText (b + 5)),b + 6,(Int.tmod (b + 7) 3) == 0,(Int.tmod (b + 8) 3) == 0,(Int.tmod (b + 9) 3) == 0⟩,⟨b + 10,(markText (b + 11)),(marks mkP 2 (b + 12) x.r.held.length),q,(Int.tmod (q + 1) 3) == 0⟩,q + 2,q + 3,⟨q + 4,q + 5,(Int.tmod (q + 6) 3) == 0,(Int.tmod (q + 7) 3) == 0,q + 8,q + 9⟩,q + 10,q + 11⟩,.slice xa x.r.held.length xc) : CV)),rowF B 68 25 (.slice A l.length cap) ((L.set i ((⟨⟨b,b + 1,b + 2⟩,b + 3,⟨b + 4,(markText (b + 5)),b + 6,(Int.tmod (b + 7) 3) == 0,(Int.tmod (b + 8) 3) == 0,(Int.tmod (b + 9) 3) == 0⟩,⟨b + 10,(markText (b + 11)),(marks mkP 2 (b + 12) x.r.held.length),q,(Int.tmod (q + 1) 3) == 0⟩,q + 2,q + 3,⟨q + 4,q + 5,(Int.tmod (q + 6) 3) == 0,(Int.tmod (q + 7) 3) == 0,q + 8,q + 9⟩,q + 10,q + 11⟩,.slice xa x.r.held.length xc) : CV)).map conR),frF w (allF (tabR B 68 (.slice A l.length cap) l)).blk]) (fun _ _ _ _ h => hown_put (cs := L) (i := i) (x := ((⟨⟨b,b + 1,b + 2⟩,b + 3,⟨b + 4,(markText (b + 5)),b + 6,(Int.tmod (b + 7) 3) == 0,(Int.tmod (b + 8) 3) == 0,(Int.tmod (b + 9) 3) == 0⟩,⟨b + 10,(markText (b + 11)),(marks mkP 2 (b + 12) x.r.held.length),q,(Int.tmod (q + 1) 3) == 0⟩,q + 2,q + 3,⟨q + 4,q + 5,(Int.tmod (q + 6) 3) == 0,(Int.tmod (q + 7) 3) == 0,q + 8,q + 9⟩,q + 10,q + 11⟩,.slice xa x.r.held.length xc) : CV)) (by omega) h)).trans <| kPk [1,0,2] <| kF 0 0 [0,1,5],by show (fun (i : Nat) (L : List CV) (b : Int) => l.length - i) (i + 1) (L.set i ((⟨⟨b,b + 1,b + 2⟩,b + 3,⟨b + 4,(markText (b + 5)),b + 6,(Int.tmod (b + 7) 3) == 0,(Int.tmod (b + 8) 3) == 0,(Int.tmod (b + 9) 3) == 0⟩,⟨b + 10,(markText (b + 11)),(marks mkP 2 (b + 12) x.r.held.length),q,(Int.tmod (q + 1) 3) == 0⟩,q + 2,q + 3,⟨q + 4,q + 5,(Int.tmod (q + 6) 3) == 0,(Int.tmod (q + 7) 3) == 0,q + 8,q + 9⟩,q + 10,q + 11⟩,.slice xa x.r.held.length xc) : CV)) (q + 12) < l.length - i; (dsimp only; omega)⟩
 have h1p := of_decide_eq_false h1
 have hge : i = l.length := by simp at h1; omega
 refine xw_exit ?_
 refine kQ ?_
 refine kES [4] [(4,.v (.int .i64 b))] ?_
 refine kR ?_
 have hLe : L = mkCs k l := by rw [HL,hge,mkAt_all]
 exact ⟨[.int .i64 b],by kernel_rfl,fun w' hb hf ha => ⟨ret_int (by rw [HK,hge,List.take_length]),(by rw [← hLe]; exact allF_pick [0,1] hf ha (by kernel_rfl) (by kernel_rfl)),frF_chgd (hf (frF w (allF (tabR B 68 (.slice A l.length cap) l)).blk) (by simp)) hb rfl rfl rfl⟩⟩
theorem ymarkTable_c (v u : Value) (l : List CV) (wt : List Tup) (k : Int) (w : World) (B : Nat) (hB : B ≤ w.heap.size) (h : (allF (tabG B 68 v l u wt)).p w) (hk0 : 0 ≤ k) (hk : k ≤ 562949953421312) (hl : l.length ≤ 1048576) (hfit : ∀ x ∈ l, x.1.r.held.length ≤ 1048576) (hwl : wt.length ≤ 1048576) : Calls Try.prog 24 #[.agg #[v, u], .int .i64 k] w fun e w' => e = .returned (.int .i64 (k + mcnt l + 3 * (wt.length : Int))) ∧ (allF (tabG B 68 v (mkCs k l) u (marks mkT 3 (k + mcnt l) wt.length))).p w' ∧ Chgd (allF (tabG B 68 v l u wt)).blk w w' := by
 obtain ⟨hF,hFa⟩ := h
 have hF1 := hF _ (List.mem_cons_self ..)
 have hF2 := hF _ (List.mem_cons_of_mem _ (List.mem_cons_self ..))
 have hF3 := hF _ (List.mem_cons_of_mem _ (List.mem_cons_of_mem _ (List.mem_cons_self ..)))
 obtain ⟨A,cap,hv⟩ := (rowF_sl hF1).form
 rw [List.length_map] at hv; subst hv
 obtain ⟨A2,cap2,hu⟩ := (Own.sl hF3).form
 rw [List.length_map] at hu; subst hu
 have hmb := mcnt_bd hfit
 refine x_callsMA (args := [.agg #[.slice A l.length cap,.slice A2 wt.length cap2],.int .i64 k]) (fn := Try.f24) [rowF B 68 25 (.slice A l.length cap) (l.map conR),hownF B l,ownF B (.slice A2 wt.length cap2) 3 (wt.map tupCells),frF w (allF (tabG B 68 (.slice A l.length cap) l (.slice A2 wt.length cap2) wt)).blk] B Try.func24 rfl Try.ntmps24 rfl hB (by simp only [List.mem_cons,List.not_mem_nil,or_false,forall_eq_or_imp,forall_eq]; exact ⟨hF1,hF2,hF3,frF_start w _⟩) (apart_frS hFa fun g hg b hb => ⟨g,hg,hb⟩) ?_
 refine kQ ?_
 refine kEF [1,2] ⟨[(1,.v (.int .i64 k)),(2,.p 0 0)],[⟨33,[.slice A l.length cap,.slice A2 wt.length cap2]⟩],[],[rowF B 68 25 (.slice A l.length cap) (l.map conR),hownF B l,ownF B (.slice A2 wt.length cap2) 3 (wt.map tupCells),frF w (allF (tabG B 68 (.slice A l.length cap) l (.slice A2 wt.length cap2) wt)).blk]⟩ ?_
 refine kQ ?_
 refine xl_wk ((wk_pick [0,1,2,3] [rowF B 68 25 (.slice A l.length cap) (l.map conR),hownF B l,ownF B (.slice A2 wt.length cap2) 3 (wt.map tupCells),frF w (allF (tabG B 68 (.slice A l.length cap) l (.slice A2 wt.length cap2) wt)).blk] (by kernel_rfl) (by kernel_rfl)).trans (wk_turn (fs' := [allF (tabR B 68 (.slice A l.length cap) l),ownF B (.slice A2 wt.length cap2) 3 (wt.map tupCells),frF w (allF (tabG B 68 (.slice A l.length cap) l (.slice A2 wt.length cap2) wt)).blk]) (fun _ _ _ _ h => tabR_in h))) ?_
 refine xl_callW 3 [1,2,6,7] ⟨[(1,.v (.int .i64 k)),(2,.p 0 0),(6,.v (.slice A l.length cap)),(7,.v (.int .i64 k))],[⟨33,[.slice A l.length cap,.slice A2 wt.length cap2]⟩],[],[allF (tabR B 68 (.slice A l.length cap) l),ownF B (.slice A2 wt.length cap2) 3 (wt.map tupCells),frF w (allF (tabG B 68 (.slice A l.length cap) l (.slice A2 wt.length cap2) wt)).blk]⟩ 56 [.slice A l.length cap,.int .i64 k] (some 8) 0 (allF (tabR B 68 (.slice A l.length cap) l)) (by kernel_rfl) rfl (by kernel_rfl) rfl (by kernel_rfl) rfl rfl (fun ww b h hb => Nat.le_trans (cutW_le w B) (tabR_lo h hb)) (by kernel_rfl) (xcm_all (fun b h => tabR_blk h) fun ww hw hf => ymarkConnS_c (.slice A l.length cap) l k ww B (Nat.le_trans (by first | exact Nat.le_refl _ | exact Nat.le_of_eq (cutW_size hB).symm) hw) (hf (allF (tabR B 68 (.slice A l.length cap) l)) (by simp)) hk0 (by omega) hl hfit) ?_
 intro _
 refine xl_wk ((wk_pick [0,1,2] [allF (tabR B 68 (.slice A l.length cap) (mkCs k l)),ownF B (.slice A2 wt.length cap2) 3 (wt.map tupCells),frF w (allF (tabG B 68 (.slice A l.length cap) l (.slice A2 wt.length cap2) wt)).blk] (by kernel_rfl) (by kernel_rfl)).trans (wk_turn (fs' := [rowF B 68 25 (.slice A l.length cap) ((mkCs k l).map conR),hownF B (mkCs k l),ownF B (.slice A2 wt.length cap2) 3 (wt.map tupCells),frF w (allF (tabG B 68 (.slice A l.length cap) l (.slice A2 wt.length cap2) wt)).blk]) (fun _ _ _ _ h => tabR_out h))) ?_
 refine kED [1,2] [(1,.v (.int .i64 (k + mcnt l)))] ?_
 refine kQ ?_
 refine kWD 3 [1,10,11] [(10,.v (.slice A2 wt.length cap2)),(11,.v (.int .i64 (k + mcnt l)))] 57 [.slice A2 wt.length cap2,.int .i64 (k + mcnt l)] (some 12) 2 rfl rfl (fun ww b h hb => Nat.le_trans (cutW_le w B) (vblk_lo h hb)) (xcm_own marks_ne fun ww hw hf => ymarkTupleS_c (.slice A2 wt.length cap2) wt (k + mcnt l) ww B (Nat.le_trans (by first | exact Nat.le_refl _ | exact Nat.le_of_eq (cutW_size hB).symm) hw) (hf (ownF B (.slice A2 wt.length cap2) 3 (wt.map tupCells)) (by simp)) (by omega) (by omega) (by omega)) ?_
 intro _
 refine kES [1] [(1,.v (.int .i64 ((k + mcnt l) + 3 * (wt.length : Int))))] ?_
 refine kQ ?_
 refine kES [4] [(4,.v (.int .i64 ((k + mcnt l) + 3 * (wt.length : Int))))] ?_
 refine kR ?_
 exact ⟨[.int .i64 ((k + mcnt l) + 3 * (wt.length : Int))],by kernel_rfl,fun w' hb hf ha => ⟨rfl,allF_pick [1,2,0] hf ha (by kernel_rfl) (by kernel_rfl),frF_chgd (hf (frF w (allF (tabG B 68 (.slice A l.length cap) l (.slice A2 wt.length cap2) wt)).blk) (by simp)) hb rfl rfl rfl⟩⟩
end Go.Proofs.Ytnhpmgcllclhfaa
