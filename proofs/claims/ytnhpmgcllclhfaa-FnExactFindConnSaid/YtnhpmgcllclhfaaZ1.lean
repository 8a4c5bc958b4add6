/- Contracts that this law needs, part 1. -/
import Derived.Test.YtnhpmgcllclhfaaYW
import Derived.Test.YtnhpmgcllclhfaaA5
import Derived.Test.YtnhpmgcllclhfaaG1
import Derived.Test.YtnhpmgcllclhfaaYD
import Derived.Test.YtnhpmgcllclhfaaG2
import Derived.Test.YtnhpmgcllclhfaaA2
namespace Go.Proofs.Ytnhpmgcllclhfaa
open Go.RowKit
set_option linter.unusedVariables false
set_option linter.unusedSimpArgs false
set_option maxRecDepth 100000
set_option maxHeartbeats 2000000

@[simp] theorem inB18_1 : inB 1 1 8 = true := rfl
@[simp] theorem inB18_2 : inB 2 1 8 = true := rfl
@[simp] theorem inB18_3 : inB 3 1 8 = true := rfl
@[simp] theorem inB18_4 : inB 4 1 8 = true := rfl
@[simp] theorem inB18_5 : inB 5 1 8 = true := rfl
@[simp] theorem inB18_6 : inB 6 1 8 = true := rfl
@[simp] theorem inB18_7 : inB 7 1 8 = true := rfl
@[simp] theorem inB18_8 : inB 8 1 8 = true := rfl
def tabL (x : Tab) (x_connsV : Value) (x_waitingV : Value) : List Value := [x_connsV, x_waitingV]
theorem ysFindConn_c (t : Tab) (t_connsV : Value) (t_waitingV : Value) (u : Tup) (w : World) (hl_t_connsV : Sl w t_connsV 25 (t.conns.map conR)) (hh_t_connsV : ∀ x ∈ t.conns, Sl w x.2 2 (x.1.r.held.map pceCells)) (hl_t_waitingV : Sl w t_waitingV 3 (t.waiting.map tupCells))  : Calls Try.prog 11 #[.agg (tabL t t_connsV t_waitingV).toArray, .agg (tupL u).toArray] w fun e w' => e = .returned (.int .i64 (findConn t u)) ∧ Below w.heap.size w w' := by
 obtain ⟨Atc,Ctc,hvtc⟩ := hl_t_connsV.form
 rw [List.length_map] at hvtc; subst hvtc
 have hntc := hl_t_connsV.len; rw [List.length_map] at hntc
 have hqtc := Sl.capLe hl_t_connsV
 obtain ⟨Atw,Ctw,hvtw⟩ := hl_t_waitingV.form
 rw [List.length_map] at hvtw; subst hvtw
 have hntw := hl_t_waitingV.len; rw [List.length_map] at hntw
 have hqtw := Sl.capLe hl_t_waitingV
 refine x_calls (args := [.agg (tabL t (.slice Atc t.conns.length Ctc) (.slice Atw t.waiting.length Ctw)).toArray,.agg (tupL u).toArray]) (fn := Try.f11) [slF (.slice Atc t.conns.length Ctc) 25 (t.conns.map conR),hldF t.conns,slF (.slice Atw t.waiting.length Ctw) 3 (t.waiting.map tupCells)] Try.func11 rfl Try.ntmps11 rfl (by simp only [List.mem_cons,List.not_mem_nil,or_false,forall_eq_or_imp,forall_eq]; exact ⟨⟨rfl,hl_t_connsV⟩,⟨rfl,hh_t_connsV⟩,⟨rfl,hl_t_waitingV⟩⟩) ?_
 refine kQ ?_
 refine kEF [2,3] ⟨[(2,.p 0 0),(3,.p 1 0)],[⟨33,tabL t (.slice Atc t.conns.length Ctc) (.slice Atw t.waiting.length Ctw)⟩,⟨35,tupL u⟩],[],[slF (.slice Atc t.conns.length Ctc) 25 (t.conns.map conR),hldF t.conns,slF (.slice Atw t.waiting.length Ctw) 3 (t.waiting.map tupCells)]⟩ ?_
 refine kS ?_
 refine kQ ?_
 refine kED [2,3,5] [(5,.v (.int .i64 0))] ?_
 refine xw_block ?_
 refine xw_loopW (α := {x : Nat // (fun (k : Nat) => k ≤ t.conns.length ∧ ∀ (i : Nat) (h' : CV),i < k → t.conns[i]? = some h' → tupEq h'.1.t u = false) x}) (fun x => (fun (k : Nat) => (⟨[(2,.p 0 0),(3,.p 1 0),(5,.v (.int .i64 (k : Int)))],[⟨33,tabL t (.slice Atc t.conns.length Ctc) (.slice Atw t.waiting.length Ctw)⟩,⟨35,tupL u⟩],[],[slF (.slice Atc t.conns.length Ctc) 25 (t.conns.map conR),hldF t.conns,slF (.slice Atw t.waiting.length Ctw) 3 (t.waiting.map tupCells)]⟩ : St)) x.1) (fun x => t.conns.length - x.1) ⟨(0),⟨Nat.zero_le _,fun i x hi => by omega⟩⟩ (kF 2 0 [2,3,5]) ?_
 rintro ⟨k,hk,HK⟩
 try dsimp only
 try dsimp only at hk HK
 refine kS ?_
 refine kQ ?_
 refine kED [2,3,5,10] [(10,.v (.bool (decide ((k : Int) < ((t.conns.length : Nat) : Int)))))] ?_
 refine kC (decide ((k : Int) < ((t.conns.length : Nat) : Int))) (fun h1 => ?_) (fun h1 => ?_)
 have h1p := of_decide_eq_true h1
 have hlt : k < t.conns.length := by simpa using h1
 obtain ⟨x0,hx⟩ : ∃ x,t.conns[k]? = some x := ⟨_,List.getElem?_eq_getElem hlt⟩
 obtain ⟨x,xa,xc,rfl⟩ := cv_form (hh_t_connsV x0 (List.mem_of_getElem? hx))
 refine kK ?_
 refine kS ?_
 refine xw_block ?_
 refine kS ?_
 refine xws_start ?_
 refine xws_row (K := 25) (j := k) [.int .i64 x.t.ip,.int .i64 x.t.port,.int .i64 x.t.my,.int .i64 x.state,.int .i64 x.s.una,.string x.s.data,.int .i64 x.s.sent,.bool x.s.fin,.bool x.s.finSent,.bool x.s.done,.int .i64 x.r.next,.string x.r.data,.slice xa x.r.held.length xc,.int .i64 x.r.fin,.bool x.r.done,.int .i64 x.window,.int .i64 x.most,.int .i64 x.o.mss,.int .i64 x.o.scale,.bool x.o.sack,.bool x.o.stamp,.int .i64 x.o.val,.int .i64 x.o.echo,.int .i64 x.timer,.int .i64 x.tries] (slF (.slice Atc t.conns.length Ctc) 25 (t.conns.map conR)) (fun _ _ h => h) (by simp) (fun w h => h) (fun b h => h) (by simp only [List.getElem?_map,hx]; rfl) (fun bq2 offq2 hAq2 => ?_)
 refine xws_regionE [] (by kernel_rfl) (fun ρ σ hq3 => ?_)
 refine kTD [0,1,2,6] [19,15,14,2,3,5] 4 [(19,.v (.agg (tupL u).toArray)),(15,.v (.int .i64 (k : Int))),(14,.v (.slice Atc t.conns.length Ctc))] ?_
 refine xe_takeI (kd := .i64) (T := 30) (e := 68) (K := 25) (j := k) (A := Atc) (len := t.conns.length) (cap := Ctc) 3 0 _ rfl (by kernel_rfl) (by kernel_rfl) (by kernel_rfl) (fun _ _ h => h) (by kernel_rfl) rfl rfl (by kernel_rfl) (by kernel_rfl) (by kernel_rfl) (by kernel_rfl) hlt hAq2 hq3.2 (by kernel_rfl) rfl ?_
 refine kTD [4,5] [18,19,2,3,5] 1 [(18,.v (.agg (tupL x.t).toArray))] ?_
 refine kX 7 (.bool (tupEq x.t u)) rfl (fun _ _ ww hA => act_bin hA rfl (by kernel_rfl) (by kernel_rfl) (agg_bin (by kernel_rfl) (run_eql_TUP x.t.ip x.t.port x.t.my u.ip u.port u.my ww))) ?_
 refine kZ ?_
 refine kC (tupEq x.t u) (fun h4 => ?_) (fun h4 => ?_)
 have hfd := findConn_eq hx (by exact h4) HK
 refine kQ ?_
 refine kES [4] [(4,.v (.int .i64 (k : Int)))] ?_
 refine kR ?_
 exact ⟨[.int .i64 (k : Int)],by kernel_rfl,fun w' hb hf => ⟨ret_int (show ((k : Int) : Int) = findConn t u from by first | exact hfd.symm | exact hfn.symm),hb⟩⟩
 have hq : tupEq x.t u = false := by exact h4
 refine kK ?_
 refine kG ?_
 refine kRD 3 [2,3,5] [(5,.v (.int .i64 (IntKind.i64.wrap ((k : Int) + 1))))] ?_
 refine xl_nv [2,3,5] [(5,.v (.int .i64 (IntKind.i64.wrap ((k : Int) + 1))))] [(5,.v (.int .i64 ((k : Int) + 1)))] (by rw [show (IntKind.i64.wrap ((k : Int) + 1)) = ((k : Int) + 1) from wrap_id (by omega) (by omega)]) (by kernel_rfl) ?_
 refine kED [2,3,5] [] ?_
 exact ⟨⟨(k + 1),⟨by omega,no_step (p := fun c : CV => tupEq c.1.t u) hx hq HK⟩⟩,kF 2 0 [2,3,5],by show t.conns.length - (k + 1) < t.conns.length - k; omega⟩
 have h1p := of_decide_eq_false h1
 have hge : k = t.conns.length := by simp at h1; omega
 have hfn := findConn_no hge HK
 refine xw_exit ?_
 refine kQ ?_
 refine kES [4] [(4,.v (.int .i64 (-1)))] ?_
 refine kR ?_
 exact ⟨[.int .i64 (-1)],by kernel_rfl,fun w' hb hf => ⟨ret_int (show ((-1) : Int) = findConn t u from by first | exact hfd.symm | exact hfn.symm),hb⟩⟩
theorem yFindConn1_c (c : Con) (V : Value) (u : Tup) (g : Nat) (w : World) (hcell : (cellP g 35 [.int .i64 u.ip, .int .i64 u.port, .int .i64 u.my]).p w) : Calls Try.prog 41 #[.agg #[.int .i64 c.t.ip, .int .i64 c.t.port, .int .i64 c.t.my, .int .i64 c.state, .int .i64 c.s.una, .string c.s.data, .int .i64 c.s.sent, .bool c.s.fin, .bool c.s.finSent, .bool c.s.done, .int .i64 c.r.next, .string c.r.data, V, .int .i64 c.r.fin, .bool c.r.done, .int .i64 c.window, .int .i64 c.most, .int .i64 c.o.mss, .int .i64 c.o.scale, .bool c.o.sack, .bool c.o.stamp, .int .i64 c.o.val, .int .i64 c.o.echo, .int .i64 c.timer, .int .i64 c.tries], .pointer (some ⟨g, 0, none⟩)] w fun e w' => e = .returned (.bool (tupEq c.t u)) ∧ Below w.heap.size w w' := by
 refine x_calls (args := [.agg #[.int .i64 c.t.ip,.int .i64 c.t.port,.int .i64 c.t.my,.int .i64 c.state,.int .i64 c.s.una,.string c.s.data,.int .i64 c.s.sent,.bool c.s.fin,.bool c.s.finSent,.bool c.s.done,.int .i64 c.r.next,.string c.r.data,V,.int .i64 c.r.fin,.bool c.r.done,.int .i64 c.window,.int .i64 c.most,.int .i64 c.o.mss,.int .i64 c.o.scale,.bool c.o.sack,.bool c.o.stamp,.int .i64 c.o.val,.int .i64 c.o.echo,.int .i64 c.timer,.int .i64 c.tries],.pointer (some ⟨g,0,none⟩)]) (fn := Try.f41) [cellP g 35 [.int .i64 u.ip,.int .i64 u.port,.int .i64 u.my]] Try.func41 rfl Try.ntmps41 rfl (by simp only [List.mem_cons,List.not_mem_nil,or_false,forall_eq_or_imp,forall_eq]; exact ⟨rfl,hcell⟩) ?_
 refine kQ ?_
 refine kEF [1,2] ⟨[(1,.v (.pointer (some ⟨g,0,none⟩))),(2,.p 0 0)],[⟨68,[.int .i64 c.t.ip,.int .i64 c.t.port,.int .i64 c.t.my,.int .i64 c.state,.int .i64 c.s.una,.string c.s.data,.int .i64 c.s.sent,.bool c.s.fin,.bool c.s.finSent,.bool c.s.done,.int .i64 c.r.next,.string c.r.data,V,.int .i64 c.r.fin,.bool c.r.done,.int .i64 c.window,.int .i64 c.most,.int .i64 c.o.mss,.int .i64 c.o.scale,.bool c.o.sack,.bool c.o.stamp,.int .i64 c.o.val,.int .i64 c.o.echo,.int .i64 c.timer,.int .i64 c.tries]⟩],[],[cellP g 35 [.int .i64 u.ip,.int .i64 u.port,.int .i64 u.my]]⟩ ?_
 refine kQ ?_
 refine kOD 2 [1,5] [(5,.v (.agg (tupL c.t).toArray))] (.agg (tupL u).toArray) rfl (fun _ _ _ ww hr => ldK_run (off := 0) (g := g) (T := 35) (cs := [.int .i64 u.ip,.int .i64 u.port,.int .i64 u.my]) hr rfl (by kernel_rfl) (by simp) (by kernel_rfl)) ?_
 refine kOD 0 [5,6] [] (.bool (tupEq c.t u)) rfl (fun _ _ _ ww hr => act_bin hr.1 rfl (by kernel_rfl) (by kernel_rfl) (agg_bin (by kernel_rfl) (run_eql_TUP c.t.ip c.t.port c.t.my u.ip u.port u.my ww))) ?_
 refine kES [3] [(3,.v (.bool (tupEq c.t u)))] ?_
 refine kR ?_
 exact ⟨[.bool (tupEq c.t u)],by kernel_rfl,fun w' hb hf => ⟨rfl,hb⟩⟩
theorem yIndexFConn_c (l : List CV) (lV : Value) (u : Tup) (g : Nat) (w : World) (hl_lV : Sl w lV 25 (l.map conR)) (hh_lV : ∀ x ∈ l, Sl w x.2 2 (x.1.r.held.map pceCells)) (hcell : (cellP g 35 [.int .i64 u.ip, .int .i64 u.port, .int .i64 u.my]).p w) : Calls Try.prog 40 #[lV, .func (.func 41) #[] #[.pointer (some ⟨g, 0, none⟩)]] w fun e w' => e = .returned (.int .i64 (findConn ⟨l, []⟩ u)) ∧ Below w.heap.size w w' := by
 obtain ⟨Al,Cl,hvl⟩ := hl_lV.form
 rw [List.length_map] at hvl; subst hvl
 have hnl := hl_lV.len; rw [List.length_map] at hnl
 have hql := Sl.capLe hl_lV
 refine x_calls (args := [.slice Al l.length Cl,.func (.func 41) #[] #[.pointer (some ⟨g,0,none⟩)]]) (fn := Try.f40) [slF (.slice Al l.length Cl) 25 (l.map conR),hldF l,cellP g 35 [.int .i64 u.ip,.int .i64 u.port,.int .i64 u.my]] Try.func40 rfl Try.ntmps40 rfl (by simp only [List.mem_cons,List.not_mem_nil,or_false,forall_eq_or_imp,forall_eq]; exact ⟨⟨rfl,hl_lV⟩,⟨rfl,hh_lV⟩,⟨rfl,hcell⟩⟩) ?_
 refine kQ ?_
 refine kEF [0,1] ⟨[(0,.v (.slice Al l.length Cl)),(1,.v (.func (.func 41) #[] #[.pointer (some ⟨g,0,none⟩)]))],[],[],[slF (.slice Al l.length Cl) 25 (l.map conR),hldF l,cellP g 35 [.int .i64 u.ip,.int .i64 u.port,.int .i64 u.my]]⟩ ?_
 refine kS ?_
 refine kQ ?_
 refine kED [0,1,7,8] [(7,.v (.int .i64 ((l.length : Nat) : Int))),(8,.v (.int .i64 0))] ?_
 refine xw_block ?_
 refine xw_loopW (α := {x : Nat // (fun (k : Nat) => k ≤ l.length ∧ ∀ (i : Nat) (h' : CV),i < k → l[i]? = some h' → tupEq h'.1.t u = false) x}) (fun x => (fun (k : Nat) => (⟨[(0,.v (.slice Al l.length Cl)),(1,.v (.func (.func 41) #[] #[.pointer (some ⟨g,0,none⟩)])),(7,.v (.int .i64 ((l.length : Nat) : Int))),(8,.v (.int .i64 (k : Int)))],[],[],[slF (.slice Al l.length Cl) 25 (l.map conR),hldF l,cellP g 35 [.int .i64 u.ip,.int .i64 u.port,.int .i64 u.my]]⟩ : St)) x.1) (fun x => l.length - x.1) ⟨(0),⟨Nat.zero_le _,fun i x hi => by omega⟩⟩ (kF 0 0 [0,1,7,8]) ?_
 rintro ⟨k,hk,HK⟩
 try dsimp only
 try dsimp only at hk HK
 refine kQ ?_
 refine kED [0,1,7,8,9] [(9,.v (.bool (decide ((k : Int) < ((l.length : Nat) : Int)))))] ?_
 refine kS ?_
 refine kC (decide ((k : Int) < ((l.length : Nat) : Int))) (fun h1 => ?_) (fun h1 => ?_)
 have h1p := of_decide_eq_true h1
 have hlt : k < l.length := by simpa using h1
 obtain ⟨x0,hx⟩ : ∃ x,l[k]? = some x := ⟨_,List.getElem?_eq_getElem hlt⟩
 obtain ⟨x,xa,xc,rfl⟩ := cv_form (hh_lV x0 (List.mem_of_getElem? hx))
 refine kK ?_
 refine kS ?_
 refine xw_block ?_
 refine kQ ?_
 refine kED [0,1,5,7,8] [(5,.v (.int .i64 (k : Int)))] ?_
 refine kQ ?_
 refine xl_indexD (kd := .i64) (T := 30) (e := 68) (K := 25) 3 [0,1,5,7,8,11,12,13] [(11,.v (.func (.func 41) #[] #[.pointer (some ⟨g,0,none⟩)])),(12,.v (.slice Al l.length Cl)),(13,.v (.int .i64 (k : Int)))] k [.int .i64 x.t.ip,.int .i64 x.t.port,.int .i64 x.t.my,.int .i64 x.state,.int .i64 x.s.una,.string x.s.data,.int .i64 x.s.sent,.bool x.s.fin,.bool x.s.finSent,.bool x.s.done,.int .i64 x.r.next,.string x.r.data,.slice xa x.r.held.length xc,.int .i64 x.r.fin,.bool x.r.done,.int .i64 x.window,.int .i64 x.most,.int .i64 x.o.mss,.int .i64 x.o.scale,.bool x.o.sack,.bool x.o.stamp,.int .i64 x.o.val,.int .i64 x.o.echo,.int .i64 x.timer,.int .i64 x.tries] (slF (.slice Al l.length Cl) 25 (l.map conR)) (by kernel_rfl) rfl (by kernel_rfl) rfl rfl (by kernel_rfl) (by kernel_rfl) (by kernel_rfl) (by kernel_rfl) hlt (by simp) (fun w h => h) (fun b h => h) (by simp only [List.getElem?_map,hx]; rfl) ?_
 refine xl_callC 1 [0,1,5,7,8,11,15] ⟨[(0,.v (.slice Al l.length Cl)),(1,.v (.func (.func 41) #[] #[.pointer (some ⟨g,0,none⟩)])),(5,.v (.int .i64 (k : Int))),(7,.v (.int .i64 ((l.length : Nat) : Int))),(8,.v (.int .i64 (k : Int))),(11,.v (.func (.func 41) #[] #[.pointer (some ⟨g,0,none⟩)])),(15,.v (.agg (conL x (.slice xa x.r.held.length xc)).toArray))],[],[[.int .i64 x.t.ip,.int .i64 x.t.port,.int .i64 x.t.my,.int .i64 x.state,.int .i64 x.s.una,.string x.s.data,.int .i64 x.s.sent,.bool x.s.fin,.bool x.s.finSent,.bool x.s.done,.int .i64 x.r.next,.string x.r.data,.slice xa x.r.held.length xc,.int .i64 x.r.fin,.bool x.r.done,.int .i64 x.window,.int .i64 x.most,.int .i64 x.o.mss,.int .i64 x.o.scale,.bool x.o.sack,.bool x.o.stamp,.int .i64 x.o.val,.int .i64 x.o.echo,.int .i64 x.timer,.int .i64 x.tries]],[slF (.slice Al l.length Cl) 25 (l.map conR),hldF l,cellP g 35 [.int .i64 u.ip,.int .i64 u.port,.int .i64 u.my]]⟩ 41 [.agg (conL x (.slice xa x.r.held.length xc)).toArray,.pointer (some ⟨g,0,none⟩)] (some 16) (by kernel_rfl) rfl (by kernel_rfl) rfl (by kernel_rfl) (xc_b fun ww hf => yFindConn1_c x (.slice xa x.r.held.length xc) u g ww (hf (cellP g 35 [.int .i64 u.ip,.int .i64 u.port,.int .i64 u.my]) (by simp))) ?_
 intro _
 refine kED [0,1,5,7,8,16] [] ?_
 refine kC (tupEq x.t u) (fun h2 => ?_) (fun h2 => ?_)
 have hfd := findConn_eq (t := ⟨l,[]⟩) hx (by exact h2) HK
 refine kQ ?_
 refine kES [4] [(4,.v (.int .i64 (k : Int)))] ?_
 refine kR ?_
 exact ⟨[.int .i64 (k : Int)],by kernel_rfl,fun w' hb hf => ⟨ret_int (by first | exact hfd.symm | exact hfn.symm),hb⟩⟩
 have hq : tupEq x.t u = false := by exact h2
 refine kK ?_
 refine kG ?_
 refine kRD 2 [0,1,7,8] [(8,.v (.int .i64 (IntKind.i64.wrap ((k : Int) + 1))))] ?_
 refine xl_nv [0,1,7,8] [(8,.v (.int .i64 (IntKind.i64.wrap ((k : Int) + 1))))] [(8,.v (.int .i64 ((k : Int) + 1)))] (by rw [show (IntKind.i64.wrap ((k : Int) + 1)) = ((k : Int) + 1) from wrap_id (by omega) (by omega)]) (by kernel_rfl) ?_
 refine kED [0,1,7,8] [] ?_
 exact ⟨⟨(k + 1),⟨by omega,no_step (p := fun c : CV => tupEq c.1.t u) hx hq HK⟩⟩,kF 0 0 [0,1,7,8],by show l.length - (k + 1) < l.length - k; omega⟩
 have h1p := of_decide_eq_false h1
 have hge : k = l.length := by simp at h1; omega
 have hfn := findConn_no (t := ⟨l,[]⟩) hge HK
 refine xw_exit ?_
 refine kQ ?_
 refine kES [4] [(4,.v (.int .i64 (-1)))] ?_
 refine kR ?_
 exact ⟨[.int .i64 (-1)],by kernel_rfl,fun w' hb hf => ⟨ret_int (by first | exact hfd.symm | exact hfn.symm),hb⟩⟩
theorem yiFindConn_c (t : Tab) (t_connsV : Value) (t_waitingV : Value) (u : Tup) (w : World) (hl_t_connsV : Sl w t_connsV 25 (t.conns.map conR)) (hh_t_connsV : ∀ x ∈ t.conns, Sl w x.2 2 (x.1.r.held.map pceCells)) (hl_t_waitingV : Sl w t_waitingV 3 (t.waiting.map tupCells))  : Calls Try.prog 14 #[.agg (tabL t t_connsV t_waitingV).toArray, .agg (tupL u).toArray] w fun e w' => e = .returned (.int .i64 (findConn t u)) ∧ Below w.heap.size w w' := by
 obtain ⟨Atc,Ctc,hvtc⟩ := hl_t_connsV.form
 rw [List.length_map] at hvtc; subst hvtc
 have hntc := hl_t_connsV.len; rw [List.length_map] at hntc
 have hqtc := Sl.capLe hl_t_connsV
 obtain ⟨Atw,Ctw,hvtw⟩ := hl_t_waitingV.form
 rw [List.length_map] at hvtw; subst hvtw
 have hntw := hl_t_waitingV.len; rw [List.length_map] at hntw
 have hqtw := Sl.capLe hl_t_waitingV
 refine x_calls (args := [.agg (tabL t (.slice Atc t.conns.length Ctc) (.slice Atw t.waiting.length Ctw)).toArray,.agg (tupL u).toArray]) (fn := Try.f14) [slF (.slice Atc t.conns.length Ctc) 25 (t.conns.map conR),hldF t.conns,slF (.slice Atw t.waiting.length Ctw) 3 (t.waiting.map tupCells)] Try.func14 rfl Try.ntmps14 rfl (by simp only [List.mem_cons,List.not_mem_nil,or_false,forall_eq_or_imp,forall_eq]; exact ⟨⟨rfl,hl_t_connsV⟩,⟨rfl,hh_t_connsV⟩,⟨rfl,hl_t_waitingV⟩⟩) ?_
 refine kQ ?_
 refine kEF [2,3] ⟨[(2,.p 0 0),(3,.p 1 0)],[⟨33,tabL t (.slice Atc t.conns.length Ctc) (.slice Atw t.waiting.length Ctw)⟩,⟨35,tupL u⟩],[],[slF (.slice Atc t.conns.length Ctc) 25 (t.conns.map conR),hldF t.conns,slF (.slice Atw t.waiting.length Ctw) 3 (t.waiting.map tupCells)]⟩ ?_
 refine kS ?_
 refine xw_pinB 3 35 [.int .i64 u.ip,.int .i64 u.port,.int .i64 u.my] [⟨33,tabL t (.slice Atc t.conns.length Ctc) (.slice Atw t.waiting.length Ctw)⟩] rfl (by kernel_rfl) (by kernel_rfl) ?_
 intro g hg hgn
 refine kG ?_
 refine kOF 2 [3,6] ⟨[(3,.v (.pointer (some ⟨g,0,none⟩))),(6,.v (.slice Atc t.conns.length Ctc))],[⟨33,tabL t (.slice Atc t.conns.length Ctc) (.slice Atw t.waiting.length Ctw)⟩],[],[cellF w.heap.size g 35 [.int .i64 u.ip,.int .i64 u.port,.int .i64 u.my],slF (.slice Atc t.conns.length Ctc) 25 (t.conns.map conR),hldF t.conns,slF (.slice Atw t.waiting.length Ctw) 3 (t.waiting.map tupCells)]⟩ (.func (.func 41) #[] #[.pointer (some ⟨g,0,none⟩)]) rfl (fun _ _ _ ww hr => act_mkf [.pointer (some ⟨g,0,none⟩)] hr.1 rfl (by kernel_rfl) ww) ?_
 refine kCD 0 [6,7] [] 40 [.slice Atc t.conns.length Ctc,.func (.func 41) #[] #[.pointer (some ⟨g,0,none⟩)]] (some 8) rfl (xc_b fun ww hf => yIndexFConn_c t.conns (.slice Atc t.conns.length Ctc) u g ww (hf _ m1) (hf _ m2) (hf (cellF w.heap.size g 35 [.int .i64 u.ip,.int .i64 u.port,.int .i64 u.my]) (by simp)).2) ?_
 intro _
 refine kES [4] [(4,.v (.int .i64 (findConn ⟨t.conns,[]⟩ u)))] ?_
 refine kR ?_
 exact ⟨[.int .i64 (findConn ⟨t.conns,[]⟩ u)],by kernel_rfl,fun w' hb hf => ⟨ret_int (show (findConn ⟨t.conns,[]⟩ u : Int) = findConn t u from by rfl),hb⟩⟩
theorem yszConnS_c (a : List CV) (aV : Value) (left : Int) (w : World) (hl_aV : Sl w aV 25 (a.map conR)) (hh_aV : ∀ x ∈ a, Sl w x.2 2 (x.1.r.held.map pceCells)) (h0 : 0 ≤ left) (h1 : left ≤ 1048576) (hm : ∀ x ∈ a, conMax x.1) : Calls Try.prog 36 #[aV, .int .i64 left] w fun e w' => ∃ r : Int, e = .returned (.int .i64 r) ∧ szP left r a ∧ Below w.heap.size w w' := by
 obtain ⟨Aa,Ca,hva⟩ := hl_aV.form
 rw [List.length_map] at hva; subst hva
 have hna := hl_aV.len; rw [List.length_map] at hna
 have hqa := Sl.capLe hl_aV
 refine x_calls (args := [.slice Aa a.length Ca,.int .i64 left]) (fn := Try.f36) [slF (.slice Aa a.length Ca) 25 (a.map conR),hldF a] Try.func36 rfl Try.ntmps36 rfl (by simp only [List.mem_cons,List.not_mem_nil,or_false,forall_eq_or_imp,forall_eq]; exact ⟨⟨rfl,hl_aV⟩,⟨rfl,hh_aV⟩⟩) ?_
 refine kQ ?_
 refine kEF [0,1] ⟨[(0,.v (.slice Aa a.length Ca)),(1,.v (.int .i64 left))],[],[],[slF (.slice Aa a.length Ca) 25 (a.map conR),hldF a]⟩ ?_
 refine kQ ?_
 refine kRD 5 [0,1] [(1,.v (.int .i64 (IntKind.i64.wrap (left - ((a.length : Nat) : Int)))))] ?_
 refine xl_nv [0,1] [(1,.v (.int .i64 (IntKind.i64.wrap (left - ((a.length : Nat) : Int)))))] [(1,.v (.int .i64 (left - ((a.length : Nat) : Int))))] (by rw [show (IntKind.i64.wrap (left - ((a.length : Nat) : Int))) = (left - ((a.length : Nat) : Int)) from wrap_id (by omega) (by omega)]) (by kernel_rfl) ?_
 refine kED [0,1] [] ?_
 refine kS ?_
 refine kQ ?_
 refine kED [0,1,11] [(11,.v (.bool (decide ((left - ((a.length : Nat) : Int)) < 0))))] ?_
 refine kC (decide ((left - ((a.length : Nat) : Int)) < 0)) (fun h1 => ?_) (fun h1 => ?_)
 have h1p := of_decide_eq_true h1
 refine kQ ?_
 refine kES [4] [(4,.v (.int .i64 (-1)))] ?_
 refine kR ?_
 exact ⟨[.int .i64 (-1)],by kernel_rfl,fun w' hb hf => ⟨_,rfl,.inl rfl,hb⟩⟩
 have h1p := of_decide_eq_false h1
 refine kK ?_
 refine kS ?_
 refine kQ ?_
 refine kED [0,1,5] [(5,.v (.int .i64 0))] ?_
 refine xw_block ?_
 refine xw_loopW (α := {x : Nat × Int // (fun (i : Nat) (z : Int) => i ≤ a.length ∧ 0 ≤ z ∧ z ≤ left - (a.length : Int) ∧ ∀ (j : Nat) (x : CV),j < i → a[j]? = some x → ConFit left x.1) x.1 x.2}) (fun x => (fun (i : Nat) (z : Int) => (⟨[(0,.v (.slice Aa a.length Ca)),(1,.v (.int .i64 z)),(5,.v (.int .i64 (i : Int)))],[],[],[slF (.slice Aa a.length Ca) 25 (a.map conR),hldF a]⟩ : St)) x.1.1 x.1.2) (fun x => (fun (i : Nat) (z : Int) => a.length - i) x.1.1 x.1.2) ⟨(0,left - ((a.length : Nat) : Int)),⟨Nat.zero_le _,(by first | omega | (simp at *; omega)),(by omega),(fun j x hj => by omega)⟩⟩ (kF 0 0 [0,1,5]) ?_
 rintro ⟨⟨i,z⟩,hi,hz0,hz1,HK⟩
 try dsimp only
 try dsimp only at hi hz0 hz1 HK
 refine kS ?_
 refine kQ ?_
 refine kED [0,1,5,15] [(15,.v (.bool (decide ((i : Int) < ((a.length : Nat) : Int)))))] ?_
 refine kC (decide ((i : Int) < ((a.length : Nat) : Int))) (fun h2 => ?_) (fun h2 => ?_)
 have h2p := of_decide_eq_true h2
 have hlt : i < a.length := by simpa using h2
 obtain ⟨x0,hx⟩ : ∃ x,a[i]? = some x := ⟨_,List.getElem?_eq_getElem hlt⟩
 obtain ⟨x,xa,xc,rfl⟩ := cv_form (hh_aV x0 (List.mem_of_getElem? hx))
 have hmx : conMax x := hm _ (List.mem_of_getElem? hx)
 refine kK ?_
 refine kS ?_
 refine xw_block ?_
 refine kQ ?_
 refine xl_indexD (kd := .i64) (T := 22) (e := 59) (K := 25) 2 [0,1,5,18,19] [(18,.v (.slice Aa a.length Ca)),(19,.v (.int .i64 (i : Int)))] i [.int .i64 x.t.ip,.int .i64 x.t.port,.int .i64 x.t.my,.int .i64 x.state,.int .i64 x.s.una,.string x.s.data,.int .i64 x.s.sent,.bool x.s.fin,.bool x.s.finSent,.bool x.s.done,.int .i64 x.r.next,.string x.r.data,.slice xa x.r.held.length xc,.int .i64 x.r.fin,.bool x.r.done,.int .i64 x.window,.int .i64 x.most,.int .i64 x.o.mss,.int .i64 x.o.scale,.bool x.o.sack,.bool x.o.stamp,.int .i64 x.o.val,.int .i64 x.o.echo,.int .i64 x.timer,.int .i64 x.tries] (slF (.slice Aa a.length Ca) 25 (a.map conR)) (by kernel_rfl) rfl (by kernel_rfl) rfl rfl (by kernel_rfl) (by kernel_rfl) (by kernel_rfl) (by kernel_rfl) hlt (by simp) (fun w h => h) (fun b h => h) (by simp only [List.getElem?_map,hx]; rfl) ?_
 refine kCD 2 [0,1,5,21,22] [(21,.v (.agg (conL x (.slice xa x.r.held.length xc)).toArray)),(22,.v (.int .i64 z))] 26 [.agg (conL x (.slice xa x.r.held.length xc)).toArray,.int .i64 z] (some 23) rfl (xc_e (α := Int) (F := fun y => .int .i64 y) (p := fun r => r = -1 ∨ (0 ≤ r ∧ r ≤ z ∧ ConFit z x)) fun ww hf => szConn_c x.t.ip x.t.port x.t.my x.state x.s.una x.s.data x.s.sent x.s.fin x.s.finSent x.s.done x.r.next x.r.data x.r.held (.slice xa x.r.held.length xc) x.r.fin x.r.done x.window x.most x.o.mss x.o.scale x.o.sack x.o.stamp x.o.val x.o.echo x.timer x.tries z ww ((hf _ m1) (x,.slice xa x.r.held.length xc) (List.mem_of_getElem? hx)) hmx.2.2 (by omega) (by omega) hmx.2.1 hmx.1) ?_
 rintro ⟨r3,hr3⟩
 refine kED [0,1,5] [(1,.v (.int .i64 r3))] ?_
 refine kQ ?_
 refine kED [0,1,5,25] [(25,.v (.bool (decide (r3 < 0))))] ?_
 refine kC (decide (r3 < 0)) (fun h4 => ?_) (fun h4 => ?_)
 have h4p := of_decide_eq_true h4
 refine kQ ?_
 refine kES [4] [(4,.v (.int .i64 (-1)))] ?_
 refine kR ?_
 exact ⟨[.int .i64 (-1)],by kernel_rfl,fun w' hb hf => ⟨_,rfl,.inl rfl,hb⟩⟩
 have h4p := of_decide_eq_false h4
 rcases hr3 with hr3 | ⟨hr3a,hr3b,hr3c⟩
 · omega
 refine kK ?_
 refine kG ?_
 refine kRS 3 [0,1,5] [(0,.v (.slice Aa a.length Ca)),(1,.v (.int .i64 r3)),(5,.v (.int .i64 (IntKind.i64.wrap ((i : Int) + 1))))] ?_
 refine xl_eqS (t' := [(0,.v (.slice Aa a.length Ca)),(1,.v (.int .i64 r3)),(5,.v (.int .i64 ((i : Int) + 1)))]) (by rw [show (IntKind.i64.wrap ((i : Int) + 1)) = ((i : Int) + 1) from wrap_id (by omega) (by omega)]) ?_
 refine kED [0,1,5] [] ?_
 exact ⟨⟨(i + 1,r3),⟨hlt,by omega,by omega,sz_step hx (hr3c.mono (by omega)) HK⟩⟩,kF 0 0 [0,1,5],by show (fun (i : Nat) (z : Int) => a.length - i) (i + 1) r3 < a.length - i; (dsimp only; omega)⟩
 have h2p := of_decide_eq_false h2
 have hge : i = a.length := by simp at h2; omega
 refine xw_exit ?_
 refine kQ ?_
 refine kES [4] [(4,.v (.int .i64 z))] ?_
 refine kR ?_
 exact ⟨[.int .i64 z],by kernel_rfl,fun w' hb hf => ⟨_,rfl,.inr ⟨by omega,by omega,by omega,sz_all hge HK⟩,hb⟩⟩
theorem yszTable_c (c : List CV) (wt : List Tup) (tc : Value) (tw : Value) (left : Int) (w : World) (hl_tc : Sl w tc 25 (c.map conR)) (hh_tc : ∀ x ∈ c, Sl w x.2 2 (x.1.r.held.map pceCells)) (hl_tw : Sl w tw 3 (wt.map tupCells)) (h0 : 0 ≤ left) (h1 : left ≤ 1048576) (hm : ∀ x ∈ c, conMax x.1) : Calls Try.prog 10 #[.agg #[tc, tw], .int .i64 left] w fun e w' => ∃ r : Int, e = .returned (.int .i64 r) ∧ (r = -1 ∨ (0 ≤ r ∧ r ≤ left ∧ (c.length : Int) ≤ left ∧ (∀ x ∈ c, ConFit left x.1) ∧ (wt.length : Int) ≤ left)) ∧ Below w.heap.size w w' := by
 obtain ⟨ra_tc,rc_tc,hv_tc⟩ := hl_tc.form
 rw [List.length_map] at hv_tc; subst hv_tc
 have hn_tc := hl_tc.len; rw [List.length_map] at hn_tc
 have hq_tc := Sl.capLe hl_tc
 obtain ⟨ra_tw,rc_tw,hv_tw⟩ := hl_tw.form
 rw [List.length_map] at hv_tw; subst hv_tw
 have hn_tw := hl_tw.len; rw [List.length_map] at hn_tw
 have hq_tw := Sl.capLe hl_tw
 refine x_calls (args := [.agg #[.slice ra_tc c.length rc_tc,.slice ra_tw wt.length rc_tw],.int .i64 left]) (fn := Try.f10) [slF (.slice ra_tc c.length rc_tc) 25 (c.map conR),hldF c,slF (.slice ra_tw wt.length rc_tw) 3 (wt.map tupCells)] Try.func10 rfl Try.ntmps10 rfl (by simp only [List.mem_cons,List.not_mem_nil,or_false,forall_eq_or_imp,forall_eq]; exact ⟨⟨rfl,hl_tc⟩,⟨rfl,hh_tc⟩,⟨rfl,hl_tw⟩⟩) ?_
 refine kQ ?_
 refine kEF [1,2] ⟨[(1,.v (.int .i64 left)),(2,.p 0 0)],[⟨25,[.slice ra_tc c.length rc_tc,.slice ra_tw wt.length rc_tw]⟩],[],[slF (.slice ra_tc c.length rc_tc) 25 (c.map conR),hldF c,slF (.slice ra_tw wt.length rc_tw) 3 (wt.map tupCells)]⟩ ?_
 refine kQ ?_
 refine kCD 3 [1,2,6,7] [(6,.v (.slice ra_tc c.length rc_tc)),(7,.v (.int .i64 left))] 36 [.slice ra_tc c.length rc_tc,.int .i64 left] (some 8) rfl (xc_e (α := Int) (F := fun y => .int .i64 y) (p := fun r => szP left r c) fun ww hf => yszConnS_c c (.slice ra_tc c.length rc_tc) left ww (hf _ m0) (hf _ m1) (by omega) (by omega) hm) ?_
 rintro ⟨r1,hr1⟩
 refine kED [1,2] [(1,.v (.int .i64 r1))] ?_
 refine kS ?_
 refine kQ ?_
 refine kED [1,2,10] [(10,.v (.bool (decide (r1 < 0))))] ?_
 refine kC (decide (r1 < 0)) (fun h2 => ?_) (fun h2 => ?_)
 have h2p := of_decide_eq_true h2
 refine kQ ?_
 refine kES [4] [(4,.v (.int .i64 (-1)))] ?_
 refine kR ?_
 exact ⟨[.int .i64 (-1)],by kernel_rfl,fun w' hb hf => ⟨_,rfl,.inl rfl,hb⟩⟩
 have h2p := of_decide_eq_false h2
 rcases hr1 with hr1 | ⟨hr1a,hr1b,hr1n,hr1c⟩
 · omega
 refine kK ?_
 refine kQ ?_
 refine kCD 3 [1,12,13] [(12,.v (.slice ra_tw wt.length rc_tw)),(13,.v (.int .i64 r1))] 37 [.slice ra_tw wt.length rc_tw,.int .i64 r1] (some 14) rfl (xc_s fun ww hf => szTupleS_c (.slice ra_tw wt.length rc_tw) wt r1 ww (hf _ m2) (by omega) (by omega)) ?_
 intro _
 refine kES [1] [(1,.v (.int .i64 (if (r1 : Int) < wt.length then -1 else (r1 : Int) - wt.length)))] ?_
 refine kS ?_
 refine kQ ?_
 refine kED [1,16] [(16,.v (.bool (decide ((if (r1 : Int) < wt.length then -1 else (r1 : Int) - wt.length) < 0))))] ?_
 refine kC (decide ((if (r1 : Int) < wt.length then -1 else (r1 : Int) - wt.length) < 0)) (fun h3 => ?_) (fun h3 => ?_)
 have h3p := of_decide_eq_true h3
 refine kQ ?_
 refine kES [4] [(4,.v (.int .i64 (-1)))] ?_
 refine kR ?_
 exact ⟨[.int .i64 (-1)],by kernel_rfl,fun w' hb hf => ⟨_,rfl,.inl rfl,hb⟩⟩
 have h3p := of_decide_eq_false h3
 have hsz_wt : wt.length ≤ 1048576 := by by_cases hh : (r1 : Int) < (wt.length : Int) <;> simp [hh] at h3; omega
 refine kK ?_
 refine kQ ?_
 refine kES [4] [(4,.v (.int .i64 (if (r1 : Int) < wt.length then -1 else (r1 : Int) - wt.length)))] ?_
 refine kR ?_
 exact ⟨[.int .i64 (if (r1 : Int) < wt.length then -1 else (r1 : Int) - wt.length)],by kernel_rfl,fun w' hb hf => ⟨_,rfl,.inr ⟨by split <;> omega,by split <;> omega,by omega,by assumption,by omega⟩,hb⟩⟩
theorem ytoConnS_c (a : List CV) (aV : Value) (w : World) (hl_aV : Sl w aV 25 (a.map conR)) (hh_aV : ∀ x ∈ a, Sl w x.2 2 (x.1.r.held.map pceCells)) (hfit : ∀ x ∈ a, conFit x.1) (hln : a.length ≤ 1048576) (B : Nat) (hB : B ≤ w.heap.size) : Calls Try.prog 38 #[aV] w fun e w' => XRs w w' e (α := {cs : List CV // pl cs = pl a} × (Option Addr × Nat)) (fun y => .slice y.2.1 y.1.1.length y.2.2) (fun y => [rowF B 68 25 (.slice y.2.1 y.1.1.length y.2.2) (y.1.1.map conR), hownF B y.1.1]) := by
 obtain ⟨Aa,Ca,hva⟩ := hl_aV.form
 rw [List.length_map] at hva; subst hva
 have hna := hl_aV.len; rw [List.length_map] at hna
 have hqa := Sl.capLe hl_aV
 refine x_callsA (args := [.slice Aa a.length Ca]) (fn := Try.f38) [slF (.slice Aa a.length Ca) 25 (a.map conR),hldF a] Try.func38 rfl Try.ntmps38 rfl (by simp only [List.mem_cons,List.not_mem_nil,or_false,forall_eq_or_imp,forall_eq]; exact ⟨⟨rfl,hl_aV⟩,⟨rfl,hh_aV⟩⟩) ?_
 refine kQ ?_
 refine kEF [0] ⟨[(0,.v (.slice Aa a.length Ca))],[],[],[slF (.slice Aa a.length Ca) 25 (a.map conR),hldF a]⟩ ?_
 refine kQ ?_
 refine kHD 2 [0,6] [(6,.v (.int .i64 ((a.length : Nat) : Int)))] rfl (hv_make (kl := .i64) (kc := .i64) (e := 68) (K := 25) (bytes := 208) (m := a.length) (z := .agg (conZ).toArray) (rs := (List.replicate a.length ((⟨⟨0,0,0⟩,0,⟨0,(⟨#[]⟩ : ByteArray),0,false,false,false⟩,⟨0,(⟨#[]⟩ : ByteArray),[],0,false⟩,0,0,⟨0,0,false,false,0,0⟩,0,0⟩,.slice none 0 0) : CV)).map conR) rfl (by kernel_rfl) (by kernel_rfl) (by kernel_rfl) (by kernel_rfl) (by (try simp only [List.length_map,List.length_append,List.length_cons,List.length_nil,List.length_take,List.length_drop,maxLen]); omega) (by (try simp only [List.length_map,List.length_append,List.length_cons,List.length_nil,List.length_take,List.length_drop,maxLen]); omega) (by rw [List.map_replicate]; rfl)) ?_
 intro g1
 refine kED [0,3] [(3,.v (.slice (some ⟨g1,0,none⟩) a.length a.length))] ?_
 refine kS ?_
 refine kQ ?_
 refine kED [0,3,4] [(4,.v (.int .i64 0))] ?_
 refine xw_block ?_
 refine xw_free (hownF w.heap.size (List.replicate a.length ((⟨⟨0,0,0⟩,0,⟨0,(⟨#[]⟩ : ByteArray),0,false,false,false⟩,⟨0,(⟨#[]⟩ : ByteArray),[],0,false⟩,0,0,⟨0,0,false,false,0,0⟩,0,0⟩,.slice none 0 0) : CV))) (fun ww _ => hownF_rep ww _ _) (fun b => hownF_repb) ?_
 refine xw_loopW (α := {x : Nat × List CV // (fun (i : Nat) (l : List CV) => i ≤ a.length ∧ l.length = a.length ∧ (pl l).take i = (pl a).take i) x.1 x.2}) (fun x => (fun (i : Nat) (l : List CV) => (⟨[(0,.v (.slice Aa a.length Ca)),(3,.v (.slice (some ⟨g1,0,none⟩) a.length a.length)),(4,.v (.int .i64 (i : Int)))],[],[],[hownF w.heap.size l,rowF w.heap.size 68 25 (.slice (some ⟨g1,0,none⟩) a.length a.length) (l.map conR),slF (.slice Aa a.length Ca) 25 (a.map conR),hldF a]⟩ : St)) x.1.1 x.1.2) (fun x => (fun (i : Nat) (l : List CV) => a.length - i) x.1.1 x.1.2) ⟨(0,(List.replicate a.length ((⟨⟨0,0,0⟩,0,⟨0,(⟨#[]⟩ : ByteArray),0,false,false,false⟩,⟨0,(⟨#[]⟩ : ByteArray),[],0,false⟩,0,0,⟨0,0,false,false,0,0⟩,0,0⟩,.slice none 0 0) : CV))),⟨Nat.zero_le _,List.length_replicate,rfl⟩⟩ (kPk [0,1,2,3] <| kF 0 0 [0,3,4]) ?_
 rintro ⟨⟨i,l⟩,hi,hll,HK⟩
 try dsimp only
 try dsimp only at hi hll HK
 refine kS ?_
 refine kQ ?_
 refine kED [0,3,4,11] [(11,.v (.bool (decide ((i : Int) < ((a.length : Nat) : Int)))))] ?_
 refine kC (decide ((i : Int) < ((a.length : Nat) : Int))) (fun h2 => ?_) (fun h2 => ?_)
 have h2p := of_decide_eq_true h2
 have hlt : i < a.length := by simpa using h2
 obtain ⟨x0,hx⟩ : ∃ x,a[i]? = some x := ⟨_,List.getElem?_eq_getElem hlt⟩
 obtain ⟨x,xa,xc,rfl⟩ := cv_form (hh_aV x0 (List.mem_of_getElem? hx))
 have hft_x : conFit x := hfit _ (List.mem_of_getElem? hx)
 obtain ⟨hfs_x,hfr_x,hfh_x,hfp_x⟩ := hft_x
 obtain ⟨z,hz⟩ : ∃ z,l[i]? = some z := ⟨_,List.getElem?_eq_getElem (by omega)⟩
 refine kK ?_
 refine kS ?_
 refine xw_block ?_
 refine kG ?_
 refine xl_indexD (kd := .i64) (T := 22) (e := 59) (K := 25) 4 [0,3,4,14,15,16,17] [(14,.v (.slice (some ⟨g1,0,none⟩) a.length a.length)),(15,.v (.int .i64 (i : Int))),(16,.v (.slice Aa a.length Ca)),(17,.v (.int .i64 (i : Int)))] i [.int .i64 x.t.ip,.int .i64 x.t.port,.int .i64 x.t.my,.int .i64 x.state,.int .i64 x.s.una,.string x.s.data,.int .i64 x.s.sent,.bool x.s.fin,.bool x.s.finSent,.bool x.s.done,.int .i64 x.r.next,.string x.r.data,.slice xa x.r.held.length xc,.int .i64 x.r.fin,.bool x.r.done,.int .i64 x.window,.int .i64 x.most,.int .i64 x.o.mss,.int .i64 x.o.scale,.bool x.o.sack,.bool x.o.stamp,.int .i64 x.o.val,.int .i64 x.o.echo,.int .i64 x.timer,.int .i64 x.tries] (slF (.slice Aa a.length Ca) 25 (a.map conR)) (by kernel_rfl) rfl (by kernel_rfl) rfl rfl (by kernel_rfl) (by kernel_rfl) (by kernel_rfl) (by kernel_rfl) hlt (by simp) (fun w h => h) (fun b h => h) (by simp only [List.getElem?_map,hx]; rfl) ?_
 refine kCD 1 [0,3,4,14,15,19] [(19,.v (.agg (conL x (.slice xa x.r.held.length xc)).toArray))] 28 [.agg (conL x (.slice xa x.r.held.length xc)).toArray] (some 20) rfl (xc_on (m := x.r.held.length) (F := fun v' => .agg (conL x v').toArray) (List.length_map ..) fun ww hf => toConn_c x.t.ip x.t.port x.t.my x.state x.s.una x.s.data x.s.sent x.s.fin x.s.finSent x.s.done x.r.next x.r.data x.r.held (.slice xa x.r.held.length xc) x.r.fin x.r.done x.window x.most x.o.mss x.o.scale x.o.sack x.o.stamp x.o.val x.o.echo x.timer x.tries ww ((hf _ m3) (x,.slice xa x.r.held.length xc) (List.mem_of_getElem? hx)) (by omega)) ?_
 rintro ⟨v3a,v3c⟩
 refine kOD 0 [0,3,4,14,15,20] [] (.pointer (some ⟨g1,i * 25,none⟩)) rfl (fun _ _ _ ww hr => act_ix (kd := .i64) (T := 30) (e := 68) (K := 25) (g := g1) (N := a.length) (cap := a.length) i rfl hr.1 rfl rfl (by kernel_rfl) (by kernel_rfl) (by kernel_rfl) (by omega) ww) ?_
 refine xl_hs 0 [0,3,4,20,21] ⟨[(0,.v (.slice Aa a.length Ca)),(3,.v (.slice (some ⟨g1,0,none⟩) a.length a.length)),(4,.v (.int .i64 (i : Int))),(20,.v (.agg (conL x (.slice v3a x.r.held.length v3c)).toArray)),(21,.v (.pointer (some ⟨g1,i * 25,none⟩)))],[],[[.int .i64 x.t.ip,.int .i64 x.t.port,.int .i64 x.t.my,.int .i64 x.state,.int .i64 x.s.una,.string x.s.data,.int .i64 x.s.sent,.bool x.s.fin,.bool x.s.finSent,.bool x.s.done,.int .i64 x.r.next,.string x.r.data,.slice xa x.r.held.length xc,.int .i64 x.r.fin,.bool x.r.done,.int .i64 x.window,.int .i64 x.most,.int .i64 x.o.mss,.int .i64 x.o.scale,.bool x.o.sack,.bool x.o.stamp,.int .i64 x.o.val,.int .i64 x.o.echo,.int .i64 x.timer,.int .i64 x.tries]],[ownF w.heap.size (.slice v3a x.r.held.length v3c) 2 (x.r.held.map pceCells),hownF w.heap.size l,rowF w.heap.size 68 25 (.slice (some ⟨g1,0,none⟩) a.length a.length) (l.map conR),slF (.slice Aa a.length Ca) 25 (a.map conR),hldF a]⟩ (by kernel_rfl) rfl (by kernel_rfl) rfl (by kernel_rfl) (HSg.hs (hs_stR (g := g1) (B := w.heap.size) (e := 68) (K := 25) (N := a.length) (cap := a.length) (rs := (l.map conR)) (rs' := (l.set i (((x,.slice v3a x.r.held.length v3c) : CV))).map conR) (v := (.agg (conL x (.slice v3a x.r.held.length v3c)).toArray)) (i := 2) (off := i * 25) i 0 [.int .i64 z.1.t.ip,.int .i64 z.1.t.port,.int .i64 z.1.t.my,.int .i64 z.1.state,.int .i64 z.1.s.una,.string z.1.s.data,.int .i64 z.1.s.sent,.bool z.1.s.fin,.bool z.1.s.finSent,.bool z.1.s.done,.int .i64 z.1.r.next,.string z.1.r.data,z.2,.int .i64 z.1.r.fin,.bool z.1.r.done,.int .i64 z.1.window,.int .i64 z.1.most,.int .i64 z.1.o.mss,.int .i64 z.1.o.scale,.bool z.1.o.sack,.bool z.1.o.stamp,.int .i64 z.1.o.val,.int .i64 z.1.o.echo,.int .i64 z.1.timer,.int .i64 z.1.tries] (row' := [.int .i64 x.t.ip,.int .i64 x.t.port,.int .i64 x.t.my,.int .i64 x.state,.int .i64 x.s.una,.string x.s.data,.int .i64 x.s.sent,.bool x.s.fin,.bool x.s.finSent,.bool x.s.done,.int .i64 x.r.next,.string x.r.data,.slice v3a x.r.held.length v3c,.int .i64 x.r.fin,.bool x.r.done,.int .i64 x.window,.int .i64 x.most,.int .i64 x.o.mss,.int .i64 x.o.scale,.bool x.o.sack,.bool x.o.stamp,.int .i64 x.o.val,.int .i64 x.o.echo,.int .i64 x.timer,.int .i64 x.tries]) rfl rfl (by kernel_rfl) rfl (by kernel_rfl) (by kernel_rfl) (by kernel_rfl) (by kernel_rfl) (Nat.le_refl _) (by simp only [List.getElem?_map,hz]; rfl) (by kernel_rfl) rfl (by rw [List.map_set]; rfl))) ?_
 refine kED [0,3,4] [] ?_
 refine kG ?_
 refine kRD 3 [0,3,4] [(4,.v (.int .i64 (IntKind.i64.wrap ((i : Int) + 1))))] ?_
 refine xl_nv [0,3,4] [(4,.v (.int .i64 (IntKind.i64.wrap ((i : Int) + 1))))] [(4,.v (.int .i64 ((i : Int) + 1)))] (by rw [show (IntKind.i64.wrap ((i : Int) + 1)) = ((i : Int) + 1) from wrap_id (by omega) (by omega)]) (by kernel_rfl) ?_
 refine kES [0,3,4] [(0,.v (.slice Aa a.length Ca)),(3,.v (.slice (some ⟨g1,0,none⟩) a.length a.length)),(4,.v (.int .i64 ((i : Int) + 1)))] ?_
 exact ⟨⟨(i + 1,(l.set i (((x,.slice v3a x.r.held.length v3c) : CV)))),⟨hlt,(by rw [List.length_set]; exact hll),pl_set (x := (x,_)) HK hx (by omega)⟩⟩,kPk [1,2,0,3,4] <| (wk_turn (fun _ _ _ _ h => hown_set (cs := l) (i := i) (x := (((x,.slice v3a x.r.held.length v3c) : CV))) (by omega) h)).trans <| kF 0 0 [0,3,4],by show (fun (i : Nat) (l : List CV) => a.length - i) (i + 1) (l.set i (((x,.slice v3a x.r.held.length v3c) : CV))) < a.length - i; (dsimp only; omega)⟩
 have h2p := of_decide_eq_false h2
 have hge : i = a.length := by simp at h2; omega
 refine xw_exit ?_
 refine kQ ?_
 refine kES [2] [(2,.v (.slice (some ⟨g1,0,none⟩) a.length a.length))] ?_
 refine kR ?_
 have hmc : pl l = pl a := by subst hge; have h1 := HK; rw [← hll] at h1; unfold pl at h1 ⊢; rw [List.take_of_length_le (by simp)] at h1; rw [h1,List.take_of_length_le (by simp; omega)]
 exact ⟨[.slice (some ⟨g1,0,none⟩) a.length a.length],by kernel_rfl,fun w' hb hf ha => xo2 (⟨l,hmc⟩,(((some ⟨g1,0,none⟩) : Option Addr),l.length)) (by show Value.slice _ _ _ = Value.slice _ _ _; rw [hll]) rfl (pW (by have h := hf (rowF w.heap.size 68 25 (.slice (some ⟨g1,0,none⟩) a.length a.length) (l.map conR)) (by simp); rw [← hll] at h; exact h) hB) (pH (hf (hownF w.heap.size l) (by simp)) hB) (Apart.sub2 ha (i := 1) (j := 0) rfl rfl (by decide) rfl (fun b h => h) (fun b h => hownF_blk h)) hb⟩
theorem ytoTable_c (t : Tab) (t_connsV : Value) (t_waitingV : Value) (w : World) (hl_t_connsV : Sl w t_connsV 25 (t.conns.map conR)) (hh_t_connsV : ∀ x ∈ t.conns, Sl w x.2 2 (x.1.r.held.map pceCells)) (hl_t_waitingV : Sl w t_waitingV 3 (t.waiting.map tupCells)) (hfit : ∀ x ∈ t.conns, conFit x.1) (hln : t.conns.length ≤ 1048576) (hlw : t.waiting.length ≤ 1048576) (B : Nat) (hB : B ≤ w.heap.size) : Calls Try.prog 12 #[.agg (tabL t t_connsV t_waitingV).toArray] w fun e w' => XRs w w' e (α := {cs : List CV // pl cs = pl t.conns} × (Option Addr × Nat) × (Option Addr × Nat)) (fun y => .agg #[.slice y.2.1.1 y.1.1.length y.2.1.2, .slice y.2.2.1 t.waiting.length y.2.2.2]) (fun y => [rowF B 68 25 (.slice y.2.1.1 y.1.1.length y.2.1.2) (y.1.1.map conR), hownF B y.1.1, ownF B (.slice y.2.2.1 t.waiting.length y.2.2.2) 3 (t.waiting.map tupCells)]) := by
 obtain ⟨Atc,Ctc,hvtc⟩ := hl_t_connsV.form
 rw [List.length_map] at hvtc; subst hvtc
 have hntc := hl_t_connsV.len; rw [List.length_map] at hntc
 have hqtc := Sl.capLe hl_t_connsV
 obtain ⟨Atw,Ctw,hvtw⟩ := hl_t_waitingV.form
 rw [List.length_map] at hvtw; subst hvtw
 have hntw := hl_t_waitingV.len; rw [List.length_map] at hntw
 have hqtw := Sl.capLe hl_t_waitingV
 refine x_callsA (args := [.agg (tabL t (.slice Atc t.conns.length Ctc) (.slice Atw t.waiting.length Ctw)).toArray]) (fn := Try.f12) [slF (.slice Atc t.conns.length Ctc) 25 (t.conns.map conR),hldF t.conns,slF (.slice Atw t.waiting.length Ctw) 3 (t.waiting.map tupCells)] Try.func12 rfl Try.ntmps12 rfl (by simp only [List.mem_cons,List.not_mem_nil,or_false,forall_eq_or_imp,forall_eq]; exact ⟨⟨rfl,hl_t_connsV⟩,⟨rfl,hh_t_connsV⟩,⟨rfl,hl_t_waitingV⟩⟩) ?_
 refine kQ ?_
 refine kEF [1,2] ⟨[(1,.p 0 0),(2,.p 1 0)],[⟨25,tabL t (.slice Atc t.conns.length Ctc) (.slice Atw t.waiting.length Ctw)⟩,⟨33,[.slice none 0 0,.slice none 0 0]⟩],[],[slF (.slice Atc t.conns.length Ctc) 25 (t.conns.map conR),hldF t.conns,slF (.slice Atw t.waiting.length Ctw) 3 (t.waiting.map tupCells)]⟩ ?_
 refine kQ ?_
 refine kEA [1,2,3] [(3,.p 2 0)] [⟨33,[.slice none 0 0,.slice none 0 0]⟩] ?_
 refine kQ ?_
 refine kCD 2 [1,2,3,5] [(5,.v (.slice Atc t.conns.length Ctc))] 38 [.slice Atc t.conns.length Ctc] (some 6) rfl (xc_r fun ww hw hf => ytoConnS_c t.conns (.slice Atc t.conns.length Ctc) ww (hf _ m0) (hf _ m1) (by assumption) (by omega) w.heap.size hw) ?_
 rintro ⟨⟨t1l,ht1l⟩,⟨t1a,t1c⟩⟩
 dsimp only
 refine kEU [1,2,3] [] 2 ⟨33,[.slice t1a t1l.length t1c,.slice none 0 0]⟩ ?_
 refine kQ ?_
 refine kCD 2 [2,3,9] [(9,.v (.slice Atw t.waiting.length Ctw))] 39 [.slice Atw t.waiting.length Ctw] (some 10) rfl (xc_on (m := t.waiting.length) (F := fun v' => v') (List.length_map ..) fun ww hf => toTupleS_c (.slice Atw t.waiting.length Ctw) t.waiting ww (hf _ m4) (by omega)) ?_
 rintro ⟨v2a,v2c⟩
 refine kEU [2,3] [] 2 ⟨33,tabL { t with conns := t1l } (.slice t1a t1l.length t1c) (.slice v2a t.waiting.length v2c)⟩ ?_
 refine kQ ?_
 refine kEU [2] [(2,.p 1 0)] 1 ⟨33,tabL { t with conns := t1l } (.slice t1a t1l.length t1c) (.slice v2a t.waiting.length v2c)⟩ ?_
 refine kR ?_
 have hmc : pl t1l = pl t.conns := by assumption
 exact ⟨[.agg (tabL { t with conns := t1l } (.slice t1a t1l.length t1c) (.slice v2a t.waiting.length v2c)).toArray],by kernel_rfl,fun w' hb hf ha => by exact xo3 (⟨t1l,hmc⟩,(t1a,t1c),(v2a,v2c)) rfl rfl (pW (hf _ m1) hB) (pH (hf _ m2) hB) (pO (hf _ m0) hB) (Apart.sub3 ha [1,2,0] rfl (by decide) rfl rfl rfl (by exact fun b h => h) (fun b h => hownF_blk h) (fun b h => h)) hb⟩
theorem yeqConnS_c (a : List CV) (aV : Value) (b : List CV) (bV : Value) (w : World) (hl_aV : Sl w aV 25 (a.map conR)) (hh_aV : ∀ x ∈ a, Sl w x.2 2 (x.1.r.held.map pceCells)) (hl_bV : Sl w bV 25 (b.map conR)) (hh_bV : ∀ x ∈ b, Sl w x.2 2 (x.1.r.held.map pceCells)) (hpl : pl a = pl b) : Calls Try.prog 42 #[aV, bV] w fun e w' => e = .returned (.bool true) ∧ Below w.heap.size w w' := by
 obtain ⟨Aa,Ca,hva⟩ := hl_aV.form
 rw [List.length_map] at hva; subst hva
 have hna := hl_aV.len; rw [List.length_map] at hna
 have hqa := Sl.capLe hl_aV
 obtain ⟨Ab,Cb,hvb⟩ := hl_bV.form
 rw [List.length_map] at hvb; subst hvb
 have hnb := hl_bV.len; rw [List.length_map] at hnb
 have hqb := Sl.capLe hl_bV
 have hlab := pl_len hpl
 refine x_calls (args := [.slice Aa a.length Ca,.slice Ab b.length Cb]) (fn := Try.f42) [slF (.slice Aa a.length Ca) 25 (a.map conR),hldF a,slF (.slice Ab b.length Cb) 25 (b.map conR),hldF b] Try.func42 rfl Try.ntmps42 rfl (by simp only [List.mem_cons,List.not_mem_nil,or_false,forall_eq_or_imp,forall_eq]; exact ⟨⟨rfl,hl_aV⟩,⟨rfl,hh_aV⟩,⟨rfl,hl_bV⟩,⟨rfl,hh_bV⟩⟩) ?_
 refine kQ ?_
 refine kEF [0,1] ⟨[(0,.v (.slice Aa a.length Ca)),(1,.v (.slice Ab b.length Cb))],[],[],[slF (.slice Aa a.length Ca) 25 (a.map conR),hldF a,slF (.slice Ab b.length Cb) 25 (b.map conR),hldF b]⟩ ?_
 refine kS ?_
 refine kQ ?_
 refine kED [0,1,10] [(10,.v (.bool (((a.length : Nat) : Int) != ((b.length : Nat) : Int))))] ?_
 refine kC (((a.length : Nat) : Int) != ((b.length : Nat) : Int)) (fun h1 => ?_) (fun h1 => ?_)
 have h1p := neT h1
 exfalso; simp at h1; omega
 have h1p := neF h1
 refine kK ?_
 refine kS ?_
 refine kQ ?_
 refine kED [0,1,5] [(5,.v (.int .i64 0))] ?_
 refine xw_block ?_
 refine xw_loopW (α := {x : Nat // (fun (i : Nat) => i ≤ a.length) x}) (fun x => (fun (i : Nat) => (⟨[(0,.v (.slice Aa a.length Ca)),(1,.v (.slice Ab b.length Cb)),(5,.v (.int .i64 (i : Int)))],[],[],[slF (.slice Aa a.length Ca) 25 (a.map conR),hldF a,slF (.slice Ab b.length Cb) 25 (b.map conR),hldF b]⟩ : St)) x.1) (fun x => (fun (i : Nat) => a.length - i) x.1) ⟨(0),Nat.zero_le _⟩ (kF 0 0 [0,1,5]) ?_
 rintro ⟨i,hi⟩
 try dsimp only
 try dsimp only at hi
 refine kS ?_
 refine kQ ?_
 refine kED [0,1,5,14] [(14,.v (.bool (decide ((i : Int) < ((a.length : Nat) : Int)))))] ?_
 refine kC (decide ((i : Int) < ((a.length : Nat) : Int))) (fun h2 => ?_) (fun h2 => ?_)
 have h2p := of_decide_eq_true h2
 have hlt : i < a.length := by simpa using h2
 obtain ⟨x0,hx⟩ : ∃ x,a[i]? = some x := ⟨_,List.getElem?_eq_getElem hlt⟩
 obtain ⟨x,xa,xc,rfl⟩ := cv_form (hh_aV x0 (List.mem_of_getElem? hx))
 obtain ⟨u,hu⟩ := pl_get hpl hx
 refine kK ?_
 refine kS ?_
 refine xw_block ?_
 refine kS ?_
 refine xws_start ?_
 refine xws_row (K := 25) (j := i) [.int .i64 x.t.ip,.int .i64 x.t.port,.int .i64 x.t.my,.int .i64 x.state,.int .i64 x.s.una,.string x.s.data,.int .i64 x.s.sent,.bool x.s.fin,.bool x.s.finSent,.bool x.s.done,.int .i64 x.r.next,.string x.r.data,.slice xa x.r.held.length xc,.int .i64 x.r.fin,.bool x.r.done,.int .i64 x.window,.int .i64 x.most,.int .i64 x.o.mss,.int .i64 x.o.scale,.bool x.o.sack,.bool x.o.stamp,.int .i64 x.o.val,.int .i64 x.o.echo,.int .i64 x.timer,.int .i64 x.tries] (slF (.slice Aa a.length Ca) 25 (a.map conR)) (fun _ _ h => h) (by simp) (fun w h => h) (fun b h => h) (by simp only [List.getElem?_map,hx]; rfl) (fun bq3 offq3 hAq3 => ?_)
 refine xws_row (K := 25) (j := i) [.int .i64 x.t.ip,.int .i64 x.t.port,.int .i64 x.t.my,.int .i64 x.state,.int .i64 x.s.una,.string x.s.data,.int .i64 x.s.sent,.bool x.s.fin,.bool x.s.finSent,.bool x.s.done,.int .i64 x.r.next,.string x.r.data,u,.int .i64 x.r.fin,.bool x.r.done,.int .i64 x.window,.int .i64 x.most,.int .i64 x.o.mss,.int .i64 x.o.scale,.bool x.o.sack,.bool x.o.stamp,.int .i64 x.o.val,.int .i64 x.o.echo,.int .i64 x.timer,.int .i64 x.tries] (slF (.slice Ab b.length Cb) 25 (b.map conR)) (fun _ _ h => h) (by simp) (fun w h => h) (fun b h => h) (by simp only [List.getElem?_map,hu]; rfl) (fun bq4 offq4 hAq4 => ?_)
 refine xws_regionE [] (by kernel_rfl) (fun ρ σ hq5 => ?_)
 refine kTD [0,1,4,5] [22,21,18,17,0,1,5] 6 [(22,.v (.int .i64 (i : Int))),(21,.v (.slice Ab b.length Cb)),(18,.v (.int .i64 (i : Int))),(17,.v (.slice Aa a.length Ca))] ?_
 refine xe_takeI (kd := .i64) (T := 30) (e := 68) (K := 25) (j := i) (A := Aa) (len := a.length) (cap := Ca) 2 0 _ rfl (by kernel_rfl) (by kernel_rfl) (by kernel_rfl) (fun _ _ h => h) (by kernel_rfl) rfl rfl (by kernel_rfl) (by kernel_rfl) (by kernel_rfl) (by kernel_rfl) hlt hAq3 hq5.1.2 (by kernel_rfl) rfl ?_
 refine kTD [3] [20,22,21,0,1,5] 4 [(20,.v (.agg (conL x (.slice xa x.r.held.length xc)).toArray))] ?_
 refine xe_takeI (kd := .i64) (T := 30) (e := 68) (K := 25) (j := i) (A := Ab) (len := b.length) (cap := Cb) 6 1 _ rfl (by kernel_rfl) (by kernel_rfl) (by kernel_rfl) (fun _ _ h => h) (by kernel_rfl) rfl rfl (by kernel_rfl) (by kernel_rfl) (by kernel_rfl) (by kernel_rfl) (by omega) hAq4 hq5.2 (by kernel_rfl) rfl ?_
 refine kTD [7] [24,20,0,1,5] 2 [(24,.v (.agg (conL x u).toArray))] ?_
 refine kA [8] ?_
 refine kSC 8 30 [.agg (conL x (.slice xa x.r.held.length xc)).toArray,.agg (conL x u).toArray] (some 25) rfl (xc_b fun ww hf => eqConn_c x.t.ip x.t.port x.t.my x.state x.s.una x.s.data x.s.sent x.s.fin x.s.finSent x.s.done x.r.next x.r.data x.r.held (.slice xa x.r.held.length xc) x.r.fin x.r.done x.window x.most x.o.mss x.o.scale x.o.sack x.o.stamp x.o.val x.o.echo x.timer x.tries u ww ((hf _ m1) (x,.slice xa x.r.held.length xc) (List.mem_of_getElem? hx)) ((hf _ m3) (x,u) (List.mem_of_getElem? hu))) ?_
 intro _
 refine kTD [9] [26,0,1,5] 0 [(26,.v (.bool false))] ?_
 refine kZ ?_
 refine kN ?_
 refine kK ?_
 refine kG ?_
 refine kRD 3 [0,1,5] [(5,.v (.int .i64 (IntKind.i64.wrap ((i : Int) + 1))))] ?_
 refine xl_nv [0,1,5] [(5,.v (.int .i64 (IntKind.i64.wrap ((i : Int) + 1))))] [(5,.v (.int .i64 ((i : Int) + 1)))] (by rw [show (IntKind.i64.wrap ((i : Int) + 1)) = ((i : Int) + 1) from wrap_id (by omega) (by omega)]) (by kernel_rfl) ?_
 refine kED [0,1,5] [] ?_
 exact ⟨⟨(i + 1),hlt⟩,kF 0 0 [0,1,5],by show (fun (i : Nat) => a.length - i) (i + 1) < a.length - i; (dsimp only; omega)⟩
 have h2p := of_decide_eq_false h2
 have hge : i = a.length := by simp at h2; omega
 refine xw_exit ?_
 refine kQ ?_
 refine kES [4] [(4,.v (.bool true))] ?_
 refine kR ?_
 exact ⟨[.bool true],by kernel_rfl,fun w' hb hf => ⟨rfl,hb⟩⟩
theorem yeqTable_c (a : List CV) (wt : List Tup) (pc : Value) (pw : Value) (b : List CV) (qc : Value) (qw : Value) (w : World) (hl_pc : Sl w pc 25 (a.map conR)) (hh_pc : ∀ x ∈ a, Sl w x.2 2 (x.1.r.held.map pceCells)) (hl_pw : Sl w pw 3 (wt.map tupCells)) (hl_qc : Sl w qc 25 (b.map conR)) (hh_qc : ∀ x ∈ b, Sl w x.2 2 (x.1.r.held.map pceCells)) (hl_qw : Sl w qw 3 (wt.map tupCells)) (hpl : pl a = pl b) : Calls Try.prog 15 #[.agg #[pc, pw], .agg #[qc, qw]] w fun e w' => e = .returned (.bool true) ∧ Below w.heap.size w w' := by
 obtain ⟨ra_pc,rc_pc,hv_pc⟩ := hl_pc.form
 rw [List.length_map] at hv_pc; subst hv_pc
 have hn_pc := hl_pc.len; rw [List.length_map] at hn_pc
 have hq_pc := Sl.capLe hl_pc
 obtain ⟨ra_pw,rc_pw,hv_pw⟩ := hl_pw.form
 rw [List.length_map] at hv_pw; subst hv_pw
 have hn_pw := hl_pw.len; rw [List.length_map] at hn_pw
 have hq_pw := Sl.capLe hl_pw
 obtain ⟨ra_qc,rc_qc,hv_qc⟩ := hl_qc.form
 rw [List.length_map] at hv_qc; subst hv_qc
 have hn_qc := hl_qc.len; rw [List.length_map] at hn_qc
 have hq_qc := Sl.capLe hl_qc
 obtain ⟨ra_qw,rc_qw,hv_qw⟩ := hl_qw.form
 rw [List.length_map] at hv_qw; subst hv_qw
 have hn_qw := hl_qw.len; rw [List.length_map] at hn_qw
 have hq_qw := Sl.capLe hl_qw
 refine x_calls (args := [.agg #[.slice ra_pc a.length rc_pc,.slice ra_pw wt.length rc_pw],.agg #[.slice ra_qc b.length rc_qc,.slice ra_qw wt.length rc_qw]]) (fn := Try.f15) [slF (.slice ra_pc a.length rc_pc) 25 (a.map conR),hldF a,slF (.slice ra_pw wt.length rc_pw) 3 (wt.map tupCells),slF (.slice ra_qc b.length rc_qc) 25 (b.map conR),hldF b,slF (.slice ra_qw wt.length rc_qw) 3 (wt.map tupCells)] Try.func15 rfl Try.ntmps15 rfl (by simp only [List.mem_cons,List.not_mem_nil,or_false,forall_eq_or_imp,forall_eq]; exact ⟨⟨rfl,hl_pc⟩,⟨rfl,hh_pc⟩,⟨rfl,hl_pw⟩,⟨rfl,hl_qc⟩,⟨rfl,hh_qc⟩,⟨rfl,hl_qw⟩⟩) ?_
 refine kQ ?_
 refine kEF [2,3] ⟨[(2,.p 0 0),(3,.p 1 0)],[⟨33,[.slice ra_pc a.length rc_pc,.slice ra_pw wt.length rc_pw]⟩,⟨33,[.slice ra_qc b.length rc_qc,.slice ra_qw wt.length rc_qw]⟩],[],[slF (.slice ra_pc a.length rc_pc) 25 (a.map conR),hldF a,slF (.slice ra_pw wt.length rc_pw) 3 (wt.map tupCells),slF (.slice ra_qc b.length rc_qc) 25 (b.map conR),hldF b,slF (.slice ra_qw wt.length rc_qw) 3 (wt.map tupCells)]⟩ ?_
 refine kS ?_
 refine kQ ?_
 refine kCD 4 [2,3,6,8] [(6,.v (.slice ra_pc a.length rc_pc)),(8,.v (.slice ra_qc b.length rc_qc))] 42 [.slice ra_pc a.length rc_pc,.slice ra_qc b.length rc_qc] (some 9) rfl (xc_b fun ww hf => yeqConnS_c a (.slice ra_pc a.length rc_pc) b (.slice ra_qc b.length rc_qc) ww (hf _ m0) (hf _ m1) (hf _ m3) (hf _ m4) (by first | assumption | (simp only [*]; done))) ?_
 intro _
 refine kED [2,3,10] [(10,.v (.bool false))] ?_
 refine kN ?_
 refine kK ?_
 refine kS ?_
 refine kQ ?_
 refine kCS 4 [12,14] [(12,.v (.slice ra_pw wt.length rc_pw)),(14,.v (.slice ra_qw wt.length rc_qw))] 43 [.slice ra_pw wt.length rc_pw,.slice ra_qw wt.length rc_qw] (some 15) rfl (xc_b fun ww hf => eqTupleS_c (.slice ra_pw wt.length rc_pw) (.slice ra_qw wt.length rc_qw) wt ww (hf _ m2) (hf _ m5)) ?_
 intro _
 refine kES [16] [(16,.v (.bool false))] ?_
 refine kN ?_
 refine kK ?_
 refine kQ ?_
 refine kES [4] [(4,.v (.bool true))] ?_
 refine kR ?_
 exact ⟨[.bool true],by kernel_rfl,fun w' hb hf => ⟨rfl,hb⟩⟩
end Go.Proofs.Ytnhpmgcllclhfaa
