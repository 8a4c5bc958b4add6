/- Contracts that this law needs, part 1. -/
import Derived.Test.YtcoppgllfipbeaaYW
import Derived.Test.YtcoppgllfipbeaaA2
import Derived.Test.YtcoppgllfipbeaaXQ
import Derived.Test.YtcoppgllfipbeaaA5
import Derived.Test.YtcoppgllfipbeaaD0
import Derived.Test.YtcoppgllfipbeaaYD
import Derived.Test.YtcoppgllfipbeaaE
import Derived.Test.YtcoppgllfipbeaaSPiece
import Derived.Test.YtcoppgllfipbeaaC1
import Derived.Test.YtcoppgllfipbeaaME
import Derived.Test.YtcoppgllfipbeaaXM
import Derived.Test.YtcoppgllfipbeaaMH
import Derived.Test.YtcoppgllfipbeaaH2
import Derived.Test.YtcoppgllfipbeaaSHalf
import Derived.Test.YtcoppgllfipbeaaMF
import Derived.Test.YtcoppgllfipbeaaMG
import Derived.Test.YtcoppgllfipbeaaXO
import Derived.Test.YtcoppgllfipbeaaMV
import Derived.Test.YtcoppgllfipbeaaH1
namespace Go.Proofs.Ytcoppgllfipbeaa
open Go.RowKit
set_option linter.unusedVariables false
set_option linter.unusedSimpArgs false
set_option maxRecDepth 100000

theorem l1New_c (code : List Int) (A : Option Addr) (cap : Nat) (w : World) (hl : Sl w (.slice A code.length cap) 1 (code.map byteRow)) (hn : code.length ≤ 1048576) : Calls Try.prog 38 #[.slice A code.length cap] w fun e w' => ∃ y : {g : Nat // ¬ (slF (.slice A code.length cap) 1 (code.map byteRow)).blk g}, e = .returned (.pointer (some ⟨y.1, 0, none⟩)) ∧ (curF w.heap.size y.1 95 (.slice A code.length cap) code.length).p w' ∧ Below w.heap.size w w' := by
  have hq_code := Sl.capLe hl
  refine x_calls (args := [.slice A code.length cap]) (fn := Try.f38) [slF (.slice A code.length cap) 1 (code.map byteRow)] Try.func38 rfl Try.ntmps38 rfl (by simp only [List.mem_cons,List.not_mem_nil,or_false,forall_eq]; exact ⟨rfl,hl⟩) ?_
  refine xw_seq ?_
  refine xw_region ?_
  refine xl_end [0] ⟨[(0,.v (.slice A code.length cap))],[],[],[slF (.slice A code.length cap) 1 (code.map byteRow)]⟩ (by kernel_rfl) ?_
  refine xw_seq ?_
  refine xw_region ?_
  refine xl_endS [0,3] [(0,.v (.slice A code.length cap)),(3,.v (.int .i64 (IntKind.i64.wrap (28655 + ((code.length : Nat) : Int)))))] (by kernel_rfl) ?_
  refine xw_seq ?_
  refine xw_seq ?_
  refine xw_region ?_
  refine xl_endS [0,3,4] [(0,.v (.slice A code.length cap)),(3,.v (.int .i64 (IntKind.i64.wrap (28655 + ((code.length : Nat) : Int))))),(4,.v (.int .i64 0))] (by kernel_rfl) ?_
  refine xw_block ?_
  refine xw_loopW (α := {x : Nat × Int // (fun (i : Nat) (h : Int) => i ≤ code.length) x.1 x.2}) (fun x => (fun (i : Nat) (h : Int) => (⟨[(0,.v (.slice A code.length cap)),(3,.v (.int .i64 h)),(4,.v (.int .i64 (i : Int)))],[],[],[slF (.slice A code.length cap) 1 (code.map byteRow)]⟩ : St)) x.1.1 x.1.2) (fun x => (fun (i : Nat) (h : Int) => code.length - i) x.1.1 x.1.2) ⟨(0,IntKind.i64.wrap (28655 + ((code.length : Nat) : Int))),Nat.zero_le _⟩ (wk_forget 0 0 [0,3,4] (by kernel_rfl) (by kernel_rfl) (by kernel_rfl)) ?_
  rintro ⟨⟨i,h⟩,hi⟩
  refine xw_wk (Wk.of_eq (s' := ⟨[(0,.v (.slice A code.length cap)),(3,.v (.int .i64 h)),(4,.v (.int .i64 (i : Int)))],[],[],[slF (.slice A code.length cap) 1 (code.map byteRow)]⟩) rfl) ?_
  try dsimp only at hi
  refine xw_seq ?_
  refine xw_seq ?_
  refine xw_region ?_
  refine xl_runS 5 [0,3,4,12] [(0,.v (.slice A code.length cap)),(3,.v (.int .i64 h)),(4,.v (.int .i64 (i : Int))),(12,.v (.bool (decide ((i : Int) < ((code.length : Nat) : Int)))))] (by kernel_rfl) ?_
  refine xl_split 12 (b := decide ((i : Int) < ((code.length : Nat) : Int))) (by kernel_rfl) (fun h1 => ?_) (fun h1 => ?_)
  have h1p : ((i : Int) < ((code.length : Nat) : Int)) := of_decide_eq_true h1
  have hlt : i < code.length := by simpa using h1
  obtain ⟨z,hz⟩ : ∃ z,code[i]? = some z := ⟨_,List.getElem?_eq_getElem hlt⟩
  refine xl_endS [0,3,4,13,14,15] [(0,.v (.slice A code.length cap)),(3,.v (.int .i64 h)),(4,.v (.int .i64 (i : Int))),(13,.v (.int .i64 (i : Int))),(14,.v (.bool (decide ((i : Int) < 4000)))),(15,.v (.bool (decide ((i : Int) < 4000))))] (by kernel_rfl) ?_
  refine xw_cond (b := decide ((i : Int) < 4000)) (by kernel_rfl) (fun h2 => ?_) (fun h2 => ?_)
  have h2p : ((i : Int) < 4000) := of_decide_eq_true h2
  refine xw_skip ?_
  refine xw_seq ?_
  refine xw_block ?_
  refine xw_region ?_
  refine xl_indexS (kd := .i64) (T := 22) (e := 5) (K := 1) 4 [0,3,4,13,14,19,20,21] [(0,.v (.slice A code.length cap)),(3,.v (.int .i64 h)),(4,.v (.int .i64 (i : Int))),(13,.v (.int .i64 (i : Int))),(14,.v (.bool (decide ((i : Int) < 4000)))),(19,.v (.int .i64 (IntKind.i64.wrap (h * 131)))),(20,.v (.slice A code.length cap)),(21,.v (.int .i64 (i : Int)))] i [.int .u8 z] (slF (.slice A code.length cap) 1 (code.map byteRow)) (by kernel_rfl) rfl (by kernel_rfl) rfl rfl (by kernel_rfl) (by kernel_rfl) (by kernel_rfl) (by kernel_rfl) hlt (by simp) (fun w h => h) (fun b h => h) (by simp only [List.getElem?_map,hz]; rfl) ?_
  refine xl_endS [0,3,4,13,14] [(0,.v (.slice A code.length cap)),(3,.v (.int .i64 (IntKind.i64.wrap (BitVec.ofInt 64 (IntKind.i64.wrap ((IntKind.i64.wrap ((IntKind.i64.wrap (h * 131)) + (IntKind.i64.wrap z))) + 7)) &&& BitVec.ofInt 64 1073741823).toNat))),(4,.v (.int .i64 (i : Int))),(13,.v (.int .i64 (i : Int))),(14,.v (.bool (decide ((i : Int) < 4000))))] (by kernel_rfl) ?_
  refine xw_region ?_
  refine xl_runS 3 [0,3,4,13,14] [(0,.v (.slice A code.length cap)),(3,.v (.int .i64 (IntKind.i64.wrap (BitVec.ofInt 64 (IntKind.i64.wrap ((IntKind.i64.wrap ((IntKind.i64.wrap (h * 131)) + (IntKind.i64.wrap z))) + 7)) &&& BitVec.ofInt 64 1073741823).toNat))),(4,.v (.int .i64 (IntKind.i64.wrap ((i : Int) + 1)))),(13,.v (.int .i64 (i : Int))),(14,.v (.bool (decide ((i : Int) < 4000))))] (by kernel_rfl) ?_
  refine xl_eqS (t' := [(0,.v (.slice A code.length cap)),(3,.v (.int .i64 (IntKind.i64.wrap (BitVec.ofInt 64 (IntKind.i64.wrap ((IntKind.i64.wrap ((IntKind.i64.wrap (h * 131)) + (IntKind.i64.wrap z))) + 7)) &&& BitVec.ofInt 64 1073741823).toNat))),(4,.v (.int .i64 ((i : Int) + 1))),(13,.v (.int .i64 (i : Int))),(14,.v (.bool (decide ((i : Int) < 4000))))]) (by rw [show (IntKind.i64.wrap ((i : Int) + 1)) = ((i : Int) + 1) from wrap_id (by omega) (by omega)]) ?_
  refine xl_endS [0,3,4,13,14] [(0,.v (.slice A code.length cap)),(3,.v (.int .i64 (IntKind.i64.wrap (BitVec.ofInt 64 (IntKind.i64.wrap ((IntKind.i64.wrap ((IntKind.i64.wrap (h * 131)) + (IntKind.i64.wrap z))) + 7)) &&& BitVec.ofInt 64 1073741823).toNat))),(4,.v (.int .i64 ((i : Int) + 1))),(13,.v (.int .i64 (i : Int))),(14,.v (.bool (decide ((i : Int) < 4000))))] (by kernel_rfl) ?_
  exact ⟨⟨(i + 1,IntKind.i64.wrap (BitVec.ofInt 64 (IntKind.i64.wrap ((IntKind.i64.wrap ((IntKind.i64.wrap (h * 131)) + (IntKind.i64.wrap z))) + 7)) &&& BitVec.ofInt 64 1073741823).toNat),hlt⟩,wk_forget 0 0 [0,3,4] (by kernel_rfl) (by kernel_rfl) (by kernel_rfl),by show (fun (i : Nat) (h : Int) => code.length - i) (i + 1) (IntKind.i64.wrap (BitVec.ofInt 64 (IntKind.i64.wrap ((IntKind.i64.wrap ((IntKind.i64.wrap (h * 131)) + (IntKind.i64.wrap z))) + 7)) &&& BitVec.ofInt 64 1073741823).toNat) < code.length - i; (dsimp only; omega)⟩
  have h2p : ¬ ((i : Int) < 4000) := of_decide_eq_false h2
  refine xw_exit ?_
  refine xw_seq ?_
  refine xw_region ?_
  refine xl_opS 2 [28,29] [(28,.v (.slice A code.length cap)),(29,.v (.int .i64 h))] (.agg #[.slice A code.length cap,.int .i64 0,.int .i64 h]) (by kernel_rfl) rfl (by kernel_rfl) rfl (fun _ _ _ ww hr => act_build [(0,.slice A code.length cap),(2,.int .i64 h)] hr.1 rfl (by kernel_rfl) (by kernel_rfl) ww) ?_
  refine xl_end [2] ⟨[(2,.p 0 0)],[⟨95,[.slice A code.length cap,.int .i64 0,.int .i64 h]⟩],[],[slF (.slice A code.length cap) 1 (code.map byteRow)]⟩ (by kernel_rfl) ?_
  refine xw_pin ?_
  intro g hg hgn
  refine xw_ret ?_
  exact ⟨[.pointer (some ⟨g,0,none⟩)],by kernel_rfl,fun w' hb hf => ⟨⟨g,hgn _ (by simp)⟩,rfl,⟨hg,0,h,Nat.zero_le _,(hf (cellF w.heap.size g 95 [.slice A code.length cap,.int .i64 0,.int .i64 h]) (by simp)).2⟩,hb⟩⟩
  have h1p : ¬ ((i : Int) < ((code.length : Nat) : Int)) := of_decide_eq_false h1
  refine xl_endS [0,3,4,15] [(0,.v (.slice A code.length cap)),(3,.v (.int .i64 h)),(4,.v (.int .i64 (i : Int))),(15,.v (.bool false))] (by kernel_rfl) ?_
  refine xw_false (by kernel_rfl) ?_
  refine xw_exit ?_
  refine xw_seq ?_
  refine xw_region ?_
  refine xl_opS 2 [28,29] [(28,.v (.slice A code.length cap)),(29,.v (.int .i64 h))] (.agg #[.slice A code.length cap,.int .i64 0,.int .i64 h]) (by kernel_rfl) rfl (by kernel_rfl) rfl (fun _ _ _ ww hr => act_build [(0,.slice A code.length cap),(2,.int .i64 h)] hr.1 rfl (by kernel_rfl) (by kernel_rfl) ww) ?_
  refine xl_end [2] ⟨[(2,.p 0 0)],[⟨95,[.slice A code.length cap,.int .i64 0,.int .i64 h]⟩],[],[slF (.slice A code.length cap) 1 (code.map byteRow)]⟩ (by kernel_rfl) ?_
  refine xw_pin ?_
  intro g hg hgn
  refine xw_ret ?_
  exact ⟨[.pointer (some ⟨g,0,none⟩)],by kernel_rfl,fun w' hb hf => ⟨⟨g,hgn _ (by simp)⟩,rfl,⟨hg,0,h,Nat.zero_le _,(hf (cellF w.heap.size g 95 [.slice A code.length cap,.int .i64 0,.int .i64 h]) (by simp)).2⟩,hb⟩⟩
set_option maxHeartbeats 2000000 in
theorem l1Byte_c (g : Nat) (code : List Int) (A : Option Addr) (cap : Nat)  (w : World) (B : Nat) (hB : B ≤ w.heap.size) (hc : (curF B g 95 (.slice A code.length cap) code.length).p w) (hl : Sl w (.slice A code.length cap) 1 (code.map byteRow)) (hap : ¬ (slF (.slice A code.length cap) 1 (code.map byteRow)).blk g) (hn : code.length ≤ 1048576)  : Calls Try.prog 83 #[.pointer (some ⟨g, 0, none⟩)] w fun e w' => ∃ y : {y : Int // 0 ≤ y ∧ y ≤ 255}, e = .returned (.int .i64 y.1) ∧ (curF B g 95 (.slice A code.length cap) code.length).p w' ∧ Chgd (fun b => b = g) w w' := by
  have hq_code := Sl.capLe hl
  obtain ⟨hBg,i,h,hi,hg⟩ := hc
  refine x_callsM (args := [.pointer (some ⟨g,0,none⟩)]) (fn := Try.f83) [cellF B g 95 [.slice A code.length cap,.int .i64 (i : Int),.int .i64 h],slF (.slice A code.length cap) 1 (code.map byteRow),frF w (fun b => b = g)] B Try.func83 rfl Try.ntmps83 rfl hB (by simp only [List.mem_cons,List.not_mem_nil,or_false,forall_eq_or_imp,forall_eq]; exact ⟨⟨hBg,hg⟩,hl,frF_start w _⟩) (apart_cell hap rfl) ?_
  refine xw_seq ?_
  refine xw_region ?_
  refine xl_end [0] ⟨[(0,.v (.pointer (some ⟨g,0,none⟩)))],[],[],[cellF B g 95 [.slice A code.length cap,.int .i64 (i : Int),.int .i64 h],slF (.slice A code.length cap) 1 (code.map byteRow),frF w (fun b => b = g)]⟩ (by kernel_rfl) ?_
  refine xw_seq ?_
  refine xw_region ?_
  refine xl_opS 2 [0,4,5] [(0,.v (.pointer (some ⟨g,0,none⟩))),(4,.v (.pointer (some ⟨g,0,none⟩))),(5,.v (.pointer (some ⟨g,0,none⟩)))] (.pointer (some ⟨g,0,none⟩)) (by kernel_rfl) rfl (by kernel_rfl) rfl (fun _ _ _ ww hr => act_nil (b := g) (m := 0) hr.1 rfl (by kernel_rfl) ww) ?_
  refine xl_opS 0 [0,4,6] [(0,.v (.pointer (some ⟨g,0,none⟩))),(4,.v (.pointer (some ⟨g,0,none⟩))),(6,.v (.pointer (some ⟨g,0,none⟩)))] (.pointer (some ⟨g,2,none⟩)) (by kernel_rfl) rfl (by kernel_rfl) rfl (fun _ _ _ ww hr => act_fld (sz := 1) (b := g) (m := 0) hr.1 rfl Try.underlying95 rfl (by kernel_rfl) rfl (by kernel_rfl) rfl) ?_
  refine xl_opS 0 [0,4,7] [(0,.v (.pointer (some ⟨g,0,none⟩))),(4,.v (.pointer (some ⟨g,0,none⟩))),(7,.v (.pointer (some ⟨g,2,none⟩)))] (.int .i64 h) (by kernel_rfl) rfl (by kernel_rfl) rfl (fun _ _ _ ww hr => ldP_run (off := 2) (B := B) (g := g) (T := 95) (cs := [.slice A code.length cap,.int .i64 (i : Int),.int .i64 h]) hr rfl (by kernel_rfl) (by simp) (by kernel_rfl)) ?_
  refine xl_opS 2 [0,4,10] [(0,.v (.pointer (some ⟨g,0,none⟩))),(4,.v (.pointer (some ⟨g,0,none⟩))),(10,.v (.int .i64 (IntKind.i64.wrap ((IntKind.i64.wrap (h * 6364136223846793005)) + 1442695040888963407))))] (.pointer (some ⟨g,0,none⟩)) (by kernel_rfl) rfl (by kernel_rfl) rfl (fun _ _ _ ww hr => act_nil (b := g) (m := 0) hr.1 rfl (by kernel_rfl) ww) ?_
  refine xl_opS 0 [0,10,11] [(0,.v (.pointer (some ⟨g,0,none⟩))),(10,.v (.int .i64 (IntKind.i64.wrap ((IntKind.i64.wrap (h * 6364136223846793005)) + 1442695040888963407)))),(11,.v (.pointer (some ⟨g,0,none⟩)))] (.pointer (some ⟨g,2,none⟩)) (by kernel_rfl) rfl (by kernel_rfl) rfl (fun _ _ _ ww hr => act_fld (sz := 1) (b := g) (m := 0) hr.1 rfl Try.underlying95 rfl (by kernel_rfl) rfl (by kernel_rfl) rfl) ?_
  refine xl_hs 0 [0,10,12] ⟨[(0,.v (.pointer (some ⟨g,0,none⟩))),(10,.v (.int .i64 (IntKind.i64.wrap ((IntKind.i64.wrap (h * 6364136223846793005)) + 1442695040888963407)))),(12,.v (.pointer (some ⟨g,2,none⟩)))],[],[],[cellF B g 95 [.slice A code.length cap,.int .i64 (i : Int),.int .i64 h],slF (.slice A code.length cap) 1 (code.map byteRow),frF w (fun b => b = g)]⟩ (by kernel_rfl) rfl (by kernel_rfl) rfl (by kernel_rfl) (hs_stP (g := g) (T := 95) (off := 2) (v := (.int .i64 (IntKind.i64.wrap ((IntKind.i64.wrap (h * 6364136223846793005)) + 1442695040888963407)))) (i := 0) (B := B) (cs := [.slice A code.length cap,.int .i64 (i : Int),.int .i64 h]) [.int .i64 (IntKind.i64.wrap ((IntKind.i64.wrap (h * 6364136223846793005)) + 1442695040888963407))] (cs' := [.slice A code.length cap,.int .i64 (i : Int),.int .i64 (IntKind.i64.wrap ((IntKind.i64.wrap (h * 6364136223846793005)) + 1442695040888963407))]) rfl (by kernel_rfl) (by kernel_rfl) rfl (by kernel_rfl) rfl (by kernel_rfl) rfl rfl (cutW_le w B)) ?_
  refine xl_endS [0] [(0,.v (.pointer (some ⟨g,0,none⟩)))] (by kernel_rfl) ?_
  refine xw_seq ?_
  refine xws_start ?_
  refine xws_cell (B := B) (g := g) (T := 95) (cs := [.slice A code.length cap,.int .i64 (i : Int),.int .i64 (IntKind.i64.wrap ((IntKind.i64.wrap (h * 6364136223846793005)) + 1442695040888963407))]) (fun _ _ h => h) (by simp) ?_
  refine xws_regionE [] (by kernel_rfl) (fun ρ σ hq1 => ?_)
  refine xe_tkS [0,5] [18,13,0] 11 [(18,.v (.pointer (some ⟨g,0,none⟩))),(13,.v (.pointer (some ⟨g,0,none⟩))),(0,.v (.pointer (some ⟨g,0,none⟩)))] (fun _ _ h => h) rfl (by kernel_rfl) ?_
  refine xe_op 1 (.pointer (some ⟨g,0,none⟩)) _ rfl (by kernel_rfl) (by kernel_rfl) (by kernel_rfl) (fun _ _ h => h) (by kernel_rfl) rfl (fun _ _ ww hA => act_nil (b := g) (m := 0) hA rfl (by kernel_rfl) ww) rfl ?_
  refine xe_op 2 (.pointer (some ⟨g,2,none⟩)) _ rfl (by kernel_rfl) (by kernel_rfl) (by kernel_rfl) (fun _ _ h => h) (by kernel_rfl) rfl (fun _ _ ww hA => act_fld (sz := 1) (b := g) (m := 0) hA rfl Try.underlying95 rfl (by kernel_rfl) rfl (by kernel_rfl) rfl) rfl ?_
  refine xe_opH 3 (.int .i64 (IntKind.i64.wrap ((IntKind.i64.wrap (h * 6364136223846793005)) + 1442695040888963407))) _ rfl (by kernel_rfl) (by kernel_rfl) (by kernel_rfl) (fun _ _ h => h) (by kernel_rfl) rfl (fun _ _ ww hA hS => ld_range (g := g) (off := 2) (cs := [.slice A code.length cap,.int .i64 (i : Int),.int .i64 (IntKind.i64.wrap ((IntKind.i64.wrap (h * 6364136223846793005)) + 1442695040888963407))]) hA rfl (by kernel_rfl) (rd_row hS (h := 0) rfl hq1.2) (by kernel_rfl)) rfl ?_
  refine xe_op 4 (.int .i64 (Int.fdiv (IntKind.i64.wrap ((IntKind.i64.wrap (h * 6364136223846793005)) + 1442695040888963407)) (2 ^ (33 : Int).toNat))) _ rfl (by kernel_rfl) (by kernel_rfl) (by kernel_rfl) (fun _ _ h => h) (by kernel_rfl) rfl (fun _ _ ww hA => act_bin hA rfl (by kernel_rfl) (by kernel_rfl) (shr_run (k' := .u64) (by decide) (by decide) ww)) rfl ?_
  refine xe_op 6 (.pointer (some ⟨g,0,none⟩)) _ rfl (by kernel_rfl) (by kernel_rfl) (by kernel_rfl) (fun _ _ h => h) (by kernel_rfl) rfl (fun _ _ ww hA => act_nil (b := g) (m := 0) hA rfl (by kernel_rfl) ww) rfl ?_
  refine xe_op 7 (.pointer (some ⟨g,2,none⟩)) _ rfl (by kernel_rfl) (by kernel_rfl) (by kernel_rfl) (fun _ _ h => h) (by kernel_rfl) rfl (fun _ _ ww hA => act_fld (sz := 1) (b := g) (m := 0) hA rfl Try.underlying95 rfl (by kernel_rfl) rfl (by kernel_rfl) rfl) rfl ?_
  refine xe_opH 8 (.int .i64 (IntKind.i64.wrap ((IntKind.i64.wrap (h * 6364136223846793005)) + 1442695040888963407))) _ rfl (by kernel_rfl) (by kernel_rfl) (by kernel_rfl) (fun _ _ h => h) (by kernel_rfl) rfl (fun _ _ ww hA hS => ld_range (g := g) (off := 2) (cs := [.slice A code.length cap,.int .i64 (i : Int),.int .i64 (IntKind.i64.wrap ((IntKind.i64.wrap (h * 6364136223846793005)) + 1442695040888963407))]) hA rfl (by kernel_rfl) (rd_row hS (h := 0) rfl hq1.2) (by kernel_rfl)) rfl ?_
  refine xe_op 9 (.int .i64 (Int.fdiv (IntKind.i64.wrap ((IntKind.i64.wrap (h * 6364136223846793005)) + 1442695040888963407)) (2 ^ (45 : Int).toNat))) _ rfl (by kernel_rfl) (by kernel_rfl) (by kernel_rfl) (fun _ _ h => h) (by kernel_rfl) rfl (fun _ _ ww hA => act_bin hA rfl (by kernel_rfl) (by kernel_rfl) (shr_run (k' := .u64) (by decide) (by decide) ww)) rfl ?_
  refine xe_op 10 (.int .i64 (IntKind.i64.wrap (BitVec.ofInt 64 (Int.fdiv (IntKind.i64.wrap ((IntKind.i64.wrap (h * 6364136223846793005)) + 1442695040888963407)) (2 ^ (33 : Int).toNat)) ^^^ BitVec.ofInt 64 (Int.fdiv (IntKind.i64.wrap ((IntKind.i64.wrap (h * 6364136223846793005)) + 1442695040888963407)) (2 ^ (45 : Int).toNat))).toNat)) _ rfl (by kernel_rfl) (by kernel_rfl) (by kernel_rfl) (fun _ _ h => h) (by kernel_rfl) rfl (fun _ _ ww hA => act_bin hA rfl (by kernel_rfl) (by kernel_rfl) (xor_run ww)) rfl ?_
  refine xe_tkS [11,12] [3,0] 0 [(3,.v (.int .i64 (IntKind.i64.wrap (BitVec.ofInt 64 (IntKind.i64.wrap (BitVec.ofInt 64 (Int.fdiv (IntKind.i64.wrap ((IntKind.i64.wrap (h * 6364136223846793005)) + 1442695040888963407)) (2 ^ (33 : Int).toNat)) ^^^ BitVec.ofInt 64 (Int.fdiv (IntKind.i64.wrap ((IntKind.i64.wrap (h * 6364136223846793005)) + 1442695040888963407)) (2 ^ (45 : Int).toNat))).toNat) &&& BitVec.ofInt 64 255).toNat))),(0,.v (.pointer (some ⟨g,0,none⟩)))] (fun _ _ h => h) rfl (by kernel_rfl) ?_
  refine xe_done (by kernel_rfl) ?_
  refine xw_seq ?_
  refine xw_seq ?_
  refine xw_wk (wk_forget (s' := ⟨[(3,.v (.int .i64 (IntKind.i64.wrap (BitVec.ofInt 64 (IntKind.i64.wrap (BitVec.ofInt 64 (Int.fdiv (IntKind.i64.wrap ((IntKind.i64.wrap (h * 6364136223846793005)) + 1442695040888963407)) (2 ^ (33 : Int).toNat)) ^^^ BitVec.ofInt 64 (Int.fdiv (IntKind.i64.wrap ((IntKind.i64.wrap (h * 6364136223846793005)) + 1442695040888963407)) (2 ^ (45 : Int).toNat))).toNat) &&& BitVec.ofInt 64 255).toNat))),(0,.v (.pointer (some ⟨g,0,none⟩)))],[],[],[cellF B g 95 [.slice A code.length cap,.int .i64 (i : Int),.int .i64 (IntKind.i64.wrap ((IntKind.i64.wrap (h * 6364136223846793005)) + 1442695040888963407))],slF (.slice A code.length cap) 1 (code.map byteRow),frF w (fun b => b = g)]⟩) 0 0 [3,0] (by kernel_rfl) (by kernel_rfl) (by kernel_rfl)) ?_
  refine xws_start ?_
  refine xws_cell (B := B) (g := g) (T := 95) (cs := [.slice A code.length cap,.int .i64 (i : Int),.int .i64 (IntKind.i64.wrap ((IntKind.i64.wrap (h * 6364136223846793005)) + 1442695040888963407))]) (fun _ _ h => h) (by simp) ?_
  refine xws_regionE [] (by kernel_rfl) (fun ρ σ hq2 => ?_)
  refine xe_tkS [0,4] [29,25,3,0] 8 [(29,.v (.pointer (some ⟨g,0,none⟩))),(25,.v (.pointer (some ⟨g,0,none⟩))),(3,.v (.int .i64 (IntKind.i64.wrap (BitVec.ofInt 64 (IntKind.i64.wrap (BitVec.ofInt 64 (Int.fdiv (IntKind.i64.wrap ((IntKind.i64.wrap (h * 6364136223846793005)) + 1442695040888963407)) (2 ^ (33 : Int).toNat)) ^^^ BitVec.ofInt 64 (Int.fdiv (IntKind.i64.wrap ((IntKind.i64.wrap (h * 6364136223846793005)) + 1442695040888963407)) (2 ^ (45 : Int).toNat))).toNat) &&& BitVec.ofInt 64 255).toNat))),(0,.v (.pointer (some ⟨g,0,none⟩)))] (fun _ _ h => h) rfl (by kernel_rfl) ?_
  refine xe_op 1 (.pointer (some ⟨g,0,none⟩)) _ rfl (by kernel_rfl) (by kernel_rfl) (by kernel_rfl) (fun _ _ h => h) (by kernel_rfl) rfl (fun _ _ ww hA => act_nil (b := g) (m := 0) hA rfl (by kernel_rfl) ww) rfl ?_
  refine xe_op 2 (.pointer (some ⟨g,1,none⟩)) _ rfl (by kernel_rfl) (by kernel_rfl) (by kernel_rfl) (fun _ _ h => h) (by kernel_rfl) rfl (fun _ _ ww hA => act_fld (sz := 1) (b := g) (m := 0) hA rfl Try.underlying95 rfl (by kernel_rfl) rfl (by kernel_rfl) rfl) rfl ?_
  refine xe_opH 3 (.int .i64 (i : Int)) _ rfl (by kernel_rfl) (by kernel_rfl) (by kernel_rfl) (fun _ _ h => h) (by kernel_rfl) rfl (fun _ _ ww hA hS => ld_range (g := g) (off := 1) (cs := [.slice A code.length cap,.int .i64 (i : Int),.int .i64 (IntKind.i64.wrap ((IntKind.i64.wrap (h * 6364136223846793005)) + 1442695040888963407))]) hA rfl (by kernel_rfl) (rd_row hS (h := 0) rfl hq2.2) (by kernel_rfl)) rfl ?_
  refine xe_op 5 (.pointer (some ⟨g,0,none⟩)) _ rfl (by kernel_rfl) (by kernel_rfl) (by kernel_rfl) (fun _ _ h => h) (by kernel_rfl) rfl (fun _ _ ww hA => act_nil (b := g) (m := 0) hA rfl (by kernel_rfl) ww) rfl ?_
  refine xe_op 6 (.pointer (some ⟨g,0,none⟩)) _ rfl (by kernel_rfl) (by kernel_rfl) (by kernel_rfl) (fun _ _ h => h) (by kernel_rfl) rfl (fun _ _ ww hA => act_fld (sz := 1) (b := g) (m := 0) hA rfl Try.underlying95 rfl (by kernel_rfl) rfl (by kernel_rfl) rfl) rfl ?_
  refine xe_opH 7 (.slice A code.length cap) _ rfl (by kernel_rfl) (by kernel_rfl) (by kernel_rfl) (fun _ _ h => h) (by kernel_rfl) rfl (fun _ _ ww hA hS => ld_range (g := g) (off := 0) (cs := [.slice A code.length cap,.int .i64 (i : Int),.int .i64 (IntKind.i64.wrap ((IntKind.i64.wrap (h * 6364136223846793005)) + 1442695040888963407))]) hA rfl (by kernel_rfl) (rd_row hS (h := 0) rfl hq2.2) (by kernel_rfl)) rfl ?_
  refine xe_tkS [8,9] [34,3,0] 0 [(34,.v (.bool (decide ((i : Int) < ((code.length : Nat) : Int))))),(3,.v (.int .i64 (IntKind.i64.wrap (BitVec.ofInt 64 (IntKind.i64.wrap (BitVec.ofInt 64 (Int.fdiv (IntKind.i64.wrap ((IntKind.i64.wrap (h * 6364136223846793005)) + 1442695040888963407)) (2 ^ (33 : Int).toNat)) ^^^ BitVec.ofInt 64 (Int.fdiv (IntKind.i64.wrap ((IntKind.i64.wrap (h * 6364136223846793005)) + 1442695040888963407)) (2 ^ (45 : Int).toNat))).toNat) &&& BitVec.ofInt 64 255).toNat))),(0,.v (.pointer (some ⟨g,0,none⟩)))] (fun _ _ h => h) rfl (by kernel_rfl) ?_
  refine xe_done (by kernel_rfl) ?_
  refine xw_cond (b := decide ((i : Int) < ((code.length : Nat) : Int))) (by kernel_rfl) (fun h3 => ?_) (fun h3 => ?_)
  have h3p : ((i : Int) < ((code.length : Nat) : Int)) := of_decide_eq_true h3
  have hlt : i < code.length := by simpa using h3
  obtain ⟨z,hz⟩ : ∃ z,code[i]? = some z := ⟨_,List.getElem?_eq_getElem hlt⟩
  refine xw_seq ?_
  refine xw_wk (wk_forget (s' := ⟨[(34,.v (.bool (decide ((i : Int) < ((code.length : Nat) : Int))))),(3,.v (.int .i64 (IntKind.i64.wrap (BitVec.ofInt 64 (IntKind.i64.wrap (BitVec.ofInt 64 (Int.fdiv (IntKind.i64.wrap ((IntKind.i64.wrap (h * 6364136223846793005)) + 1442695040888963407)) (2 ^ (33 : Int).toNat)) ^^^ BitVec.ofInt 64 (Int.fdiv (IntKind.i64.wrap ((IntKind.i64.wrap (h * 6364136223846793005)) + 1442695040888963407)) (2 ^ (45 : Int).toNat))).toNat) &&& BitVec.ofInt 64 255).toNat))),(0,.v (.pointer (some ⟨g,0,none⟩)))],[],[],[cellF B g 95 [.slice A code.length cap,.int .i64 (i : Int),.int .i64 (IntKind.i64.wrap ((IntKind.i64.wrap (h * 6364136223846793005)) + 1442695040888963407))],slF (.slice A code.length cap) 1 (code.map byteRow),frF w (fun b => b = g)]⟩) 0 0 [34,3,0] (by kernel_rfl) (by kernel_rfl) (by kernel_rfl)) ?_
  refine xws_start ?_
  refine xws_row (K := 1) (j := i) [.int .u8 z] (slF (.slice A code.length cap) 1 (code.map byteRow)) (fun _ _ h => h) (by simp) (fun w h => h) (fun b h => h) (by simp only [List.getElem?_map,hz]; rfl) (fun bq4 offq4 hAq4 => ?_)
  refine xws_cell (B := B) (g := g) (T := 95) (cs := [.slice A code.length cap,.int .i64 (i : Int),.int .i64 (IntKind.i64.wrap ((IntKind.i64.wrap (h * 6364136223846793005)) + 1442695040888963407))]) (fun _ _ h => h) (by simp) ?_
  refine xws_regionE [] (by kernel_rfl) (fun ρ σ hq5 => ?_)
  refine xe_tkS [0,1,5] [40,36,35,3,0] 12 [(40,.v (.pointer (some ⟨g,0,none⟩))),(36,.v (.pointer (some ⟨g,0,none⟩))),(35,.v (.int .i64 (IntKind.i64.wrap (BitVec.ofInt 64 (IntKind.i64.wrap (BitVec.ofInt 64 (Int.fdiv (IntKind.i64.wrap ((IntKind.i64.wrap (h * 6364136223846793005)) + 1442695040888963407)) (2 ^ (33 : Int).toNat)) ^^^ BitVec.ofInt 64 (Int.fdiv (IntKind.i64.wrap ((IntKind.i64.wrap (h * 6364136223846793005)) + 1442695040888963407)) (2 ^ (45 : Int).toNat))).toNat) &&& BitVec.ofInt 64 255).toNat))),(3,.v (.int .i64 (IntKind.i64.wrap (BitVec.ofInt 64 (IntKind.i64.wrap (BitVec.ofInt 64 (Int.fdiv (IntKind.i64.wrap ((IntKind.i64.wrap (h * 6364136223846793005)) + 1442695040888963407)) (2 ^ (33 : Int).toNat)) ^^^ BitVec.ofInt 64 (Int.fdiv (IntKind.i64.wrap ((IntKind.i64.wrap (h * 6364136223846793005)) + 1442695040888963407)) (2 ^ (45 : Int).toNat))).toNat) &&& BitVec.ofInt 64 255).toNat))),(0,.v (.pointer (some ⟨g,0,none⟩)))] (fun _ _ h => h) rfl (by kernel_rfl) ?_
  refine xe_op 2 (.pointer (some ⟨g,0,none⟩)) _ rfl (by kernel_rfl) (by kernel_rfl) (by kernel_rfl) (fun _ _ h => h) (by kernel_rfl) rfl (fun _ _ ww hA => act_nil (b := g) (m := 0) hA rfl (by kernel_rfl) ww) rfl ?_
  refine xe_op 3 (.pointer (some ⟨g,0,none⟩)) _ rfl (by kernel_rfl) (by kernel_rfl) (by kernel_rfl) (fun _ _ h => h) (by kernel_rfl) rfl (fun _ _ ww hA => act_fld (sz := 1) (b := g) (m := 0) hA rfl Try.underlying95 rfl (by kernel_rfl) rfl (by kernel_rfl) rfl) rfl ?_
  refine xe_opH 4 (.slice A code.length cap) _ rfl (by kernel_rfl) (by kernel_rfl) (by kernel_rfl) (fun _ _ h => h) (by kernel_rfl) rfl (fun _ _ ww hA hS => ld_range (g := g) (off := 0) (cs := [.slice A code.length cap,.int .i64 (i : Int),.int .i64 (IntKind.i64.wrap ((IntKind.i64.wrap (h * 6364136223846793005)) + 1442695040888963407))]) hA rfl (by kernel_rfl) (rd_row hS (h := 1) rfl hq5.2) (by kernel_rfl)) rfl ?_
  refine xe_op 6 (.pointer (some ⟨g,0,none⟩)) _ rfl (by kernel_rfl) (by kernel_rfl) (by kernel_rfl) (fun _ _ h => h) (by kernel_rfl) rfl (fun _ _ ww hA => act_nil (b := g) (m := 0) hA rfl (by kernel_rfl) ww) rfl ?_
  refine xe_op 7 (.pointer (some ⟨g,1,none⟩)) _ rfl (by kernel_rfl) (by kernel_rfl) (by kernel_rfl) (fun _ _ h => h) (by kernel_rfl) rfl (fun _ _ ww hA => act_fld (sz := 1) (b := g) (m := 0) hA rfl Try.underlying95 rfl (by kernel_rfl) rfl (by kernel_rfl) rfl) rfl ?_
  refine xe_opH 8 (.int .i64 (i : Int)) _ rfl (by kernel_rfl) (by kernel_rfl) (by kernel_rfl) (fun _ _ h => h) (by kernel_rfl) rfl (fun _ _ ww hA hS => ld_range (g := g) (off := 1) (cs := [.slice A code.length cap,.int .i64 (i : Int),.int .i64 (IntKind.i64.wrap ((IntKind.i64.wrap (h * 6364136223846793005)) + 1442695040888963407))]) hA rfl (by kernel_rfl) (rd_row hS (h := 1) rfl hq5.2) (by kernel_rfl)) rfl ?_
  refine xe_takeI (kd := .i64) (T := 22) (e := 5) (K := 1) (j := i) (A := A) (len := code.length) (cap := cap) 9 0 _ rfl (by kernel_rfl) (by kernel_rfl) (by kernel_rfl) (fun _ _ h => h) (by kernel_rfl) rfl rfl (by kernel_rfl) (by kernel_rfl) (by kernel_rfl) (by kernel_rfl) hlt hAq4 hq5.1.2 (by kernel_rfl) rfl ?_
  refine xe_tkS [10,11,12,13,14] [3,0] 0 [(3,.v (.int .i64 (IntKind.i64.wrap (BitVec.ofInt 64 (IntKind.i64.wrap ((IntKind.i64.wrap (BitVec.ofInt 64 (IntKind.i64.wrap (BitVec.ofInt 64 (Int.fdiv (IntKind.i64.wrap ((IntKind.i64.wrap (h * 6364136223846793005)) + 1442695040888963407)) (2 ^ (33 : Int).toNat)) ^^^ BitVec.ofInt 64 (Int.fdiv (IntKind.i64.wrap ((IntKind.i64.wrap (h * 6364136223846793005)) + 1442695040888963407)) (2 ^ (45 : Int).toNat))).toNat) &&& BitVec.ofInt 64 255).toNat) + (IntKind.i64.wrap z))) &&& BitVec.ofInt 64 255).toNat))),(0,.v (.pointer (some ⟨g,0,none⟩)))] (fun _ _ h => h) rfl (by kernel_rfl) ?_
  refine xe_done (by kernel_rfl) ?_
  refine xw_region ?_
  refine xl_opS 2 [3,49,50] [(3,.v (.int .i64 (IntKind.i64.wrap (BitVec.ofInt 64 (IntKind.i64.wrap ((IntKind.i64.wrap (BitVec.ofInt 64 (IntKind.i64.wrap (BitVec.ofInt 64 (Int.fdiv (IntKind.i64.wrap ((IntKind.i64.wrap (h * 6364136223846793005)) + 1442695040888963407)) (2 ^ (33 : Int).toNat)) ^^^ BitVec.ofInt 64 (Int.fdiv (IntKind.i64.wrap ((IntKind.i64.wrap (h * 6364136223846793005)) + 1442695040888963407)) (2 ^ (45 : Int).toNat))).toNat) &&& BitVec.ofInt 64 255).toNat) + (IntKind.i64.wrap z))) &&& BitVec.ofInt 64 255).toNat))),(49,.v (.pointer (some ⟨g,0,none⟩))),(50,.v (.pointer (some ⟨g,0,none⟩)))] (.pointer (some ⟨g,0,none⟩)) (by kernel_rfl) rfl (by kernel_rfl) rfl (fun _ _ _ ww hr => act_nil (b := g) (m := 0) hr.1 rfl (by kernel_rfl) ww) ?_
  refine xl_opS 0 [3,49,51] [(3,.v (.int .i64 (IntKind.i64.wrap (BitVec.ofInt 64 (IntKind.i64.wrap ((IntKind.i64.wrap (BitVec.ofInt 64 (IntKind.i64.wrap (BitVec.ofInt 64 (Int.fdiv (IntKind.i64.wrap ((IntKind.i64.wrap (h * 6364136223846793005)) + 1442695040888963407)) (2 ^ (33 : Int).toNat)) ^^^ BitVec.ofInt 64 (Int.fdiv (IntKind.i64.wrap ((IntKind.i64.wrap (h * 6364136223846793005)) + 1442695040888963407)) (2 ^ (45 : Int).toNat))).toNat) &&& BitVec.ofInt 64 255).toNat) + (IntKind.i64.wrap z))) &&& BitVec.ofInt 64 255).toNat))),(49,.v (.pointer (some ⟨g,0,none⟩))),(51,.v (.pointer (some ⟨g,0,none⟩)))] (.pointer (some ⟨g,1,none⟩)) (by kernel_rfl) rfl (by kernel_rfl) rfl (fun _ _ _ ww hr => act_fld (sz := 1) (b := g) (m := 0) hr.1 rfl Try.underlying95 rfl (by kernel_rfl) rfl (by kernel_rfl) rfl) ?_
  refine xl_opS 0 [3,49,52] [(3,.v (.int .i64 (IntKind.i64.wrap (BitVec.ofInt 64 (IntKind.i64.wrap ((IntKind.i64.wrap (BitVec.ofInt 64 (IntKind.i64.wrap (BitVec.ofInt 64 (Int.fdiv (IntKind.i64.wrap ((IntKind.i64.wrap (h * 6364136223846793005)) + 1442695040888963407)) (2 ^ (33 : Int).toNat)) ^^^ BitVec.ofInt 64 (Int.fdiv (IntKind.i64.wrap ((IntKind.i64.wrap (h * 6364136223846793005)) + 1442695040888963407)) (2 ^ (45 : Int).toNat))).toNat) &&& BitVec.ofInt 64 255).toNat) + (IntKind.i64.wrap z))) &&& BitVec.ofInt 64 255).toNat))),(49,.v (.pointer (some ⟨g,0,none⟩))),(52,.v (.pointer (some ⟨g,1,none⟩)))] (.int .i64 (i : Int)) (by kernel_rfl) rfl (by kernel_rfl) rfl (fun _ _ _ ww hr => ldP_run (off := 1) (B := B) (g := g) (T := 95) (cs := [.slice A code.length cap,.int .i64 (i : Int),.int .i64 (IntKind.i64.wrap ((IntKind.i64.wrap (h * 6364136223846793005)) + 1442695040888963407))]) hr rfl (by kernel_rfl) (by simp) (by kernel_rfl)) ?_
  refine xl_opS 1 [3,49,54] [(3,.v (.int .i64 (IntKind.i64.wrap (BitVec.ofInt 64 (IntKind.i64.wrap ((IntKind.i64.wrap (BitVec.ofInt 64 (IntKind.i64.wrap (BitVec.ofInt 64 (Int.fdiv (IntKind.i64.wrap ((IntKind.i64.wrap (h * 6364136223846793005)) + 1442695040888963407)) (2 ^ (33 : Int).toNat)) ^^^ BitVec.ofInt 64 (Int.fdiv (IntKind.i64.wrap ((IntKind.i64.wrap (h * 6364136223846793005)) + 1442695040888963407)) (2 ^ (45 : Int).toNat))).toNat) &&& BitVec.ofInt 64 255).toNat) + (IntKind.i64.wrap z))) &&& BitVec.ofInt 64 255).toNat))),(49,.v (.pointer (some ⟨g,0,none⟩))),(54,.v (.int .i64 (IntKind.i64.wrap ((i : Int) + 1))))] (.pointer (some ⟨g,0,none⟩)) (by kernel_rfl) rfl (by kernel_rfl) rfl (fun _ _ _ ww hr => act_nil (b := g) (m := 0) hr.1 rfl (by kernel_rfl) ww) ?_
  refine xl_opS 0 [3,54,55] [(3,.v (.int .i64 (IntKind.i64.wrap (BitVec.ofInt 64 (IntKind.i64.wrap ((IntKind.i64.wrap (BitVec.ofInt 64 (IntKind.i64.wrap (BitVec.ofInt 64 (Int.fdiv (IntKind.i64.wrap ((IntKind.i64.wrap (h * 6364136223846793005)) + 1442695040888963407)) (2 ^ (33 : Int).toNat)) ^^^ BitVec.ofInt 64 (Int.fdiv (IntKind.i64.wrap ((IntKind.i64.wrap (h * 6364136223846793005)) + 1442695040888963407)) (2 ^ (45 : Int).toNat))).toNat) &&& BitVec.ofInt 64 255).toNat) + (IntKind.i64.wrap z))) &&& BitVec.ofInt 64 255).toNat))),(54,.v (.int .i64 (IntKind.i64.wrap ((i : Int) + 1)))),(55,.v (.pointer (some ⟨g,0,none⟩)))] (.pointer (some ⟨g,1,none⟩)) (by kernel_rfl) rfl (by kernel_rfl) rfl (fun _ _ _ ww hr => act_fld (sz := 1) (b := g) (m := 0) hr.1 rfl Try.underlying95 rfl (by kernel_rfl) rfl (by kernel_rfl) rfl) ?_
  refine xl_hs 0 [3,54,56] ⟨[(3,.v (.int .i64 (IntKind.i64.wrap (BitVec.ofInt 64 (IntKind.i64.wrap ((IntKind.i64.wrap (BitVec.ofInt 64 (IntKind.i64.wrap (BitVec.ofInt 64 (Int.fdiv (IntKind.i64.wrap ((IntKind.i64.wrap (h * 6364136223846793005)) + 1442695040888963407)) (2 ^ (33 : Int).toNat)) ^^^ BitVec.ofInt 64 (Int.fdiv (IntKind.i64.wrap ((IntKind.i64.wrap (h * 6364136223846793005)) + 1442695040888963407)) (2 ^ (45 : Int).toNat))).toNat) &&& BitVec.ofInt 64 255).toNat) + (IntKind.i64.wrap z))) &&& BitVec.ofInt 64 255).toNat))),(54,.v (.int .i64 (IntKind.i64.wrap ((i : Int) + 1)))),(56,.v (.pointer (some ⟨g,1,none⟩)))],[],[[.int .u8 z],[.slice A code.length cap,.int .i64 (i : Int),.int .i64 (IntKind.i64.wrap ((IntKind.i64.wrap (h * 6364136223846793005)) + 1442695040888963407))]],[cellF B g 95 [.slice A code.length cap,.int .i64 (i : Int),.int .i64 (IntKind.i64.wrap ((IntKind.i64.wrap (h * 6364136223846793005)) + 1442695040888963407))],slF (.slice A code.length cap) 1 (code.map byteRow),frF w (fun b => b = g)]⟩ (by kernel_rfl) rfl (by kernel_rfl) rfl (by kernel_rfl) (hs_stP (g := g) (T := 95) (off := 1) (v := (.int .i64 (IntKind.i64.wrap ((i : Int) + 1)))) (i := 0) (B := B) (cs := [.slice A code.length cap,.int .i64 (i : Int),.int .i64 (IntKind.i64.wrap ((IntKind.i64.wrap (h * 6364136223846793005)) + 1442695040888963407))]) [.int .i64 (IntKind.i64.wrap ((i : Int) + 1))] (cs' := [.slice A code.length cap,.int .i64 (IntKind.i64.wrap ((i : Int) + 1)),.int .i64 (IntKind.i64.wrap ((IntKind.i64.wrap (h * 6364136223846793005)) + 1442695040888963407))]) rfl (by kernel_rfl) (by kernel_rfl) rfl (by kernel_rfl) rfl (by kernel_rfl) rfl rfl (cutW_le w B)) ?_
  refine xl_endS [3] [(3,.v (.int .i64 (IntKind.i64.wrap (BitVec.ofInt 64 (IntKind.i64.wrap ((IntKind.i64.wrap (BitVec.ofInt 64 (IntKind.i64.wrap (BitVec.ofInt 64 (Int.fdiv (IntKind.i64.wrap ((IntKind.i64.wrap (h * 6364136223846793005)) + 1442695040888963407)) (2 ^ (33 : Int).toNat)) ^^^ BitVec.ofInt 64 (Int.fdiv (IntKind.i64.wrap ((IntKind.i64.wrap (h * 6364136223846793005)) + 1442695040888963407)) (2 ^ (45 : Int).toNat))).toNat) &&& BitVec.ofInt 64 255).toNat) + (IntKind.i64.wrap z))) &&& BitVec.ofInt 64 255).toNat)))] (by kernel_rfl) ?_
  refine xw_seq ?_
  refine xw_region ?_
  refine xl_endS [2] [(2,.v (.int .i64 (IntKind.i64.wrap (BitVec.ofInt 64 (IntKind.i64.wrap ((IntKind.i64.wrap (BitVec.ofInt 64 (IntKind.i64.wrap (BitVec.ofInt 64 (Int.fdiv (IntKind.i64.wrap ((IntKind.i64.wrap (h * 6364136223846793005)) + 1442695040888963407)) (2 ^ (33 : Int).toNat)) ^^^ BitVec.ofInt 64 (Int.fdiv (IntKind.i64.wrap ((IntKind.i64.wrap (h * 6364136223846793005)) + 1442695040888963407)) (2 ^ (45 : Int).toNat))).toNat) &&& BitVec.ofInt 64 255).toNat) + (IntKind.i64.wrap z))) &&& BitVec.ofInt 64 255).toNat)))] (by kernel_rfl) ?_
  refine xw_ret ?_
  exact ⟨[.int .i64 (IntKind.i64.wrap (BitVec.ofInt 64 (IntKind.i64.wrap ((IntKind.i64.wrap (BitVec.ofInt 64 (IntKind.i64.wrap (BitVec.ofInt 64 (Int.fdiv (IntKind.i64.wrap ((IntKind.i64.wrap (h * 6364136223846793005)) + 1442695040888963407)) (2 ^ (33 : Int).toNat)) ^^^ BitVec.ofInt 64 (Int.fdiv (IntKind.i64.wrap ((IntKind.i64.wrap (h * 6364136223846793005)) + 1442695040888963407)) (2 ^ (45 : Int).toNat))).toNat) &&& BitVec.ofInt 64 255).toNat) + (IntKind.i64.wrap z))) &&& BitVec.ofInt 64 255).toNat)],by kernel_rfl,fun w' hb hf => ⟨⟨IntKind.i64.wrap (BitVec.ofInt 64 (IntKind.i64.wrap ((IntKind.i64.wrap (BitVec.ofInt 64 (IntKind.i64.wrap (BitVec.ofInt 64 (Int.fdiv (IntKind.i64.wrap ((IntKind.i64.wrap (h * 6364136223846793005)) + 1442695040888963407)) (2 ^ (33 : Int).toNat)) ^^^ BitVec.ofInt 64 (Int.fdiv (IntKind.i64.wrap ((IntKind.i64.wrap (h * 6364136223846793005)) + 1442695040888963407)) (2 ^ (45 : Int).toNat))).toNat) &&& BitVec.ofInt 64 255).toNat) + (IntKind.i64.wrap z))) &&& BitVec.ofInt 64 255).toNat,and255 _⟩,rfl,⟨hBg,i + 1,IntKind.i64.wrap ((IntKind.i64.wrap (h * 6364136223846793005)) + 1442695040888963407),by omega,by have := (hf (cellF B g 95 [.slice A code.length cap,.int .i64 (IntKind.i64.wrap ((i : Int) + 1)),.int .i64 (IntKind.i64.wrap ((IntKind.i64.wrap (h * 6364136223846793005)) + 1442695040888963407))]) (by simp)).2; rw [show IntKind.i64.wrap ((i : Int) + 1) = ((i + 1 : Nat) : Int) from by rw [wrap_id (by omega) (by omega)]; omega] at this; exact this⟩,frF_chgd (hf (frF w (fun b => b = g)) (by simp)) hb rfl rfl rfl⟩⟩
  have h3p : ¬ ((i : Int) < ((code.length : Nat) : Int)) := of_decide_eq_false h3
  refine xw_skip ?_
  refine xw_seq ?_
  refine xw_region ?_
  refine xl_endS [2] [(2,.v (.int .i64 (IntKind.i64.wrap (BitVec.ofInt 64 (IntKind.i64.wrap (BitVec.ofInt 64 (Int.fdiv (IntKind.i64.wrap ((IntKind.i64.wrap (h * 6364136223846793005)) + 1442695040888963407)) (2 ^ (33 : Int).toNat)) ^^^ BitVec.ofInt 64 (Int.fdiv (IntKind.i64.wrap ((IntKind.i64.wrap (h * 6364136223846793005)) + 1442695040888963407)) (2 ^ (45 : Int).toNat))).toNat) &&& BitVec.ofInt 64 255).toNat)))] (by kernel_rfl) ?_
  refine xw_ret ?_
  exact ⟨[.int .i64 (IntKind.i64.wrap (BitVec.ofInt 64 (IntKind.i64.wrap (BitVec.ofInt 64 (Int.fdiv (IntKind.i64.wrap ((IntKind.i64.wrap (h * 6364136223846793005)) + 1442695040888963407)) (2 ^ (33 : Int).toNat)) ^^^ BitVec.ofInt 64 (Int.fdiv (IntKind.i64.wrap ((IntKind.i64.wrap (h * 6364136223846793005)) + 1442695040888963407)) (2 ^ (45 : Int).toNat))).toNat) &&& BitVec.ofInt 64 255).toNat)],by kernel_rfl,fun w' hb hf => ⟨⟨IntKind.i64.wrap (BitVec.ofInt 64 (IntKind.i64.wrap (BitVec.ofInt 64 (Int.fdiv (IntKind.i64.wrap ((IntKind.i64.wrap (h * 6364136223846793005)) + 1442695040888963407)) (2 ^ (33 : Int).toNat)) ^^^ BitVec.ofInt 64 (Int.fdiv (IntKind.i64.wrap ((IntKind.i64.wrap (h * 6364136223846793005)) + 1442695040888963407)) (2 ^ (45 : Int).toNat))).toNat) &&& BitVec.ofInt 64 255).toNat,and255 _⟩,rfl,⟨hBg,i,IntKind.i64.wrap ((IntKind.i64.wrap (h * 6364136223846793005)) + 1442695040888963407),hi,(hf (cellF B g 95 [.slice A code.length cap,.int .i64 (i : Int),.int .i64 (IntKind.i64.wrap ((IntKind.i64.wrap (h * 6364136223846793005)) + 1442695040888963407))]) (by simp)).2⟩,frF_chgd (hf (frF w (fun b => b = g)) (by simp)) hb rfl rfl rfl⟩⟩
set_option maxHeartbeats 2000000 in
theorem l1Below_c (g : Nat) (code : List Int) (A : Option Addr) (cap : Nat) (n : Int) (w : World) (B : Nat) (hB : B ≤ w.heap.size) (hc : (curF B g 95 (.slice A code.length cap) code.length).p w) (hl : Sl w (.slice A code.length cap) 1 (code.map byteRow)) (hap : ¬ (slF (.slice A code.length cap) 1 (code.map byteRow)).blk g) (hn : code.length ≤ 1048576)  : Calls Try.prog 75 #[.pointer (some ⟨g, 0, none⟩), .int .i64 n] w fun e w' => ∃ y : {y : Int // 0 ≤ y ∧ (0 < n → y < n)}, e = .returned (.int .i64 y.1) ∧ (curF B g 95 (.slice A code.length cap) code.length).p w' ∧ Chgd (fun b => b = g) w w' := by
  have hq_code := Sl.capLe hl
  refine x_callsM (args := [.pointer (some ⟨g,0,none⟩),.int .i64 n]) (fn := Try.f75) [curF B g 95 (.slice A code.length cap) code.length,slF (.slice A code.length cap) 1 (code.map byteRow),frF w (fun b => b = g)] B Try.func75 rfl Try.ntmps75 rfl hB (by simp only [List.mem_cons,List.not_mem_nil,or_false,forall_eq_or_imp,forall_eq]; exact ⟨hc,hl,frF_start w _⟩) (apart_cur hap rfl) ?_
  refine xw_seq ?_
  refine xw_region ?_
  refine xl_end [0,1] ⟨[(0,.v (.pointer (some ⟨g,0,none⟩))),(1,.v (.int .i64 n))],[],[],[curF B g 95 (.slice A code.length cap) code.length,slF (.slice A code.length cap) 1 (code.map byteRow),frF w (fun b => b = g)]⟩ (by kernel_rfl) ?_
  refine xw_seq ?_
  refine xw_seq ?_
  refine xw_region ?_
  refine xl_endS [0,1,10] [(0,.v (.pointer (some ⟨g,0,none⟩))),(1,.v (.int .i64 n)),(10,.v (.bool (decide (n ≤ 0))))] (by kernel_rfl) ?_
  refine xw_cond (b := decide (n ≤ 0)) (by kernel_rfl) (fun h1 => ?_) (fun h1 => ?_)
  have h1p : (n ≤ 0) := of_decide_eq_true h1
  refine xw_seq ?_
  refine xw_region ?_
  refine xl_endS [4] [(4,.v (.int .i64 0))] (by kernel_rfl) ?_
  refine xw_ret ?_
  exact ⟨[.int .i64 0],by kernel_rfl,fun w' hb hf => ⟨⟨0,(by first | (exact ⟨by omega,fun _ => by omega⟩) | (exact tmod_bd (by omega) (by omega)))⟩,rfl,hf (curF B g 95 (.slice A code.length cap) code.length) (by simp),frF_chgd (hf (frF w (fun b => b = g)) (by simp)) hb rfl rfl rfl⟩⟩
  have h1p : ¬ (n ≤ 0) := of_decide_eq_false h1
  refine xw_skip ?_
  refine xw_seq ?_
  refine xw_seq ?_
  refine xw_region ?_
  refine xl_endS [0,1,12] [(0,.v (.pointer (some ⟨g,0,none⟩))),(1,.v (.int .i64 n)),(12,.v (.bool (decide (n ≤ 256))))] (by kernel_rfl) ?_
  refine xw_cond (b := decide (n ≤ 256)) (by kernel_rfl) (fun h2 => ?_) (fun h2 => ?_)
  have h2p : (n ≤ 256) := of_decide_eq_true h2
  refine xw_seq ?_
  refine xw_region ?_
  refine xl_callWS 1 [1,13] [(1,.v (.int .i64 n)),(13,.v (.pointer (some ⟨g,0,none⟩)))] 83 [.pointer (some ⟨g,0,none⟩)] (some 14) 0 (curF B g 95 (.slice A code.length cap) code.length) (by kernel_rfl) rfl (by kernel_rfl) rfl (by kernel_rfl) rfl rfl (fun ww b h hb => Nat.le_trans (cutW_le w B) (cur_lo h hb)) (by kernel_rfl) (xcm_cur fun ww hw hf => l1Byte_c g code A cap  ww B (Nat.le_trans (by first | exact Nat.le_refl _ | exact Nat.le_of_eq (cutW_size hB).symm) hw) (hf (curF B g 95 (.slice A code.length cap) code.length) (by simp)) (hf (slF (.slice A code.length cap) 1 (code.map byteRow)) (by simp)) hap (by omega)  ) ?_
  rintro ⟨y3,hy3⟩
  refine xl_opS 1 [14,15] [(14,.v (.int .i64 y3)),(15,.v (.int .i64 n))] (.int .i64 (Int.tmod y3 n)) (by kernel_rfl) rfl (by kernel_rfl) rfl (fun _ _ _ ww hr => act_bin hr.1 rfl (by kernel_rfl) (by kernel_rfl) (rem_run (by first | decide | omega) ww)) ?_
  refine xl_endS [4] [(4,.v (.int .i64 (Int.tmod y3 n)))] (by kernel_rfl) ?_
  refine xw_ret ?_
  exact ⟨[.int .i64 (Int.tmod y3 n)],by kernel_rfl,fun w' hb hf => ⟨⟨Int.tmod y3 n,(by first | (exact ⟨by omega,fun _ => by omega⟩) | (exact tmod_bd (by omega) (by omega)))⟩,rfl,hf (curF B g 95 (.slice A code.length cap) code.length) (by simp),frF_chgd (hf (frF w (fun b => b = g)) (by simp)) hb rfl rfl rfl⟩⟩
  have h2p : ¬ (n ≤ 256) := of_decide_eq_false h2
  refine xw_skip ?_
  refine xw_seq ?_
  refine xw_region ?_
  refine xl_callWS 1 [0,1,17] [(0,.v (.pointer (some ⟨g,0,none⟩))),(1,.v (.int .i64 n)),(17,.v (.pointer (some ⟨g,0,none⟩)))] 83 [.pointer (some ⟨g,0,none⟩)] (some 18) 0 (curF B g 95 (.slice A code.length cap) code.length) (by kernel_rfl) rfl (by kernel_rfl) rfl (by kernel_rfl) rfl rfl (fun ww b h hb => Nat.le_trans (cutW_le w B) (cur_lo h hb)) (by kernel_rfl) (xcm_cur fun ww hw hf => l1Byte_c g code A cap  ww B (Nat.le_trans (by first | exact Nat.le_refl _ | exact Nat.le_of_eq (cutW_size hB).symm) hw) (hf (curF B g 95 (.slice A code.length cap) code.length) (by simp)) (hf (slF (.slice A code.length cap) 1 (code.map byteRow)) (by simp)) hap (by omega)  ) ?_
  rintro ⟨y4,hy4⟩
  refine xl_endS [0,1,5] [(0,.v (.pointer (some ⟨g,0,none⟩))),(1,.v (.int .i64 n)),(5,.v (.int .i64 y4))] (by kernel_rfl) ?_
  refine xw_seq ?_
  refine xw_region ?_
  refine xl_callWS 1 [0,1,5,19] [(0,.v (.pointer (some ⟨g,0,none⟩))),(1,.v (.int .i64 n)),(5,.v (.int .i64 y4)),(19,.v (.pointer (some ⟨g,0,none⟩)))] 83 [.pointer (some ⟨g,0,none⟩)] (some 20) 0 (curF B g 95 (.slice A code.length cap) code.length) (by kernel_rfl) rfl (by kernel_rfl) rfl (by kernel_rfl) rfl rfl (fun ww b h hb => Nat.le_trans (cutW_le w B) (cur_lo h hb)) (by kernel_rfl) (xcm_cur fun ww hw hf => l1Byte_c g code A cap  ww B (Nat.le_trans (by first | exact Nat.le_refl _ | exact Nat.le_of_eq (cutW_size hB).symm) hw) (hf (curF B g 95 (.slice A code.length cap) code.length) (by simp)) (hf (slF (.slice A code.length cap) 1 (code.map byteRow)) (by simp)) hap (by omega)  ) ?_
  rintro ⟨y5,hy5⟩
  refine xl_endS [0,1,5,6] [(0,.v (.pointer (some ⟨g,0,none⟩))),(1,.v (.int .i64 n)),(5,.v (.int .i64 y4)),(6,.v (.int .i64 y5))] (by kernel_rfl) ?_
  refine xw_seq ?_
  refine xw_region ?_
  refine xl_callWS 1 [0,1,5,6,21] [(0,.v (.pointer (some ⟨g,0,none⟩))),(1,.v (.int .i64 n)),(5,.v (.int .i64 y4)),(6,.v (.int .i64 y5)),(21,.v (.pointer (some ⟨g,0,none⟩)))] 83 [.pointer (some ⟨g,0,none⟩)] (some 22) 0 (curF B g 95 (.slice A code.length cap) code.length) (by kernel_rfl) rfl (by kernel_rfl) rfl (by kernel_rfl) rfl rfl (fun ww b h hb => Nat.le_trans (cutW_le w B) (cur_lo h hb)) (by kernel_rfl) (xcm_cur fun ww hw hf => l1Byte_c g code A cap  ww B (Nat.le_trans (by first | exact Nat.le_refl _ | exact Nat.le_of_eq (cutW_size hB).symm) hw) (hf (curF B g 95 (.slice A code.length cap) code.length) (by simp)) (hf (slF (.slice A code.length cap) 1 (code.map byteRow)) (by simp)) hap (by omega)  ) ?_
  rintro ⟨y6,hy6⟩
  refine xl_endS [0,1,5,6,7] [(0,.v (.pointer (some ⟨g,0,none⟩))),(1,.v (.int .i64 n)),(5,.v (.int .i64 y4)),(6,.v (.int .i64 y5)),(7,.v (.int .i64 y6))] (by kernel_rfl) ?_
  refine xw_seq ?_
  refine xw_region ?_
  refine xl_callWS 1 [1,5,6,7,23] [(1,.v (.int .i64 n)),(5,.v (.int .i64 y4)),(6,.v (.int .i64 y5)),(7,.v (.int .i64 y6)),(23,.v (.pointer (some ⟨g,0,none⟩)))] 83 [.pointer (some ⟨g,0,none⟩)] (some 24) 0 (curF B g 95 (.slice A code.length cap) code.length) (by kernel_rfl) rfl (by kernel_rfl) rfl (by kernel_rfl) rfl rfl (fun ww b h hb => Nat.le_trans (cutW_le w B) (cur_lo h hb)) (by kernel_rfl) (xcm_cur fun ww hw hf => l1Byte_c g code A cap  ww B (Nat.le_trans (by first | exact Nat.le_refl _ | exact Nat.le_of_eq (cutW_size hB).symm) hw) (hf (curF B g 95 (.slice A code.length cap) code.length) (by simp)) (hf (slF (.slice A code.length cap) 1 (code.map byteRow)) (by simp)) hap (by omega)  ) ?_
  rintro ⟨y7,hy7⟩
  refine xl_endS [1,5,6,7,8] [(1,.v (.int .i64 n)),(5,.v (.int .i64 y4)),(6,.v (.int .i64 y5)),(7,.v (.int .i64 y6)),(8,.v (.int .i64 y7))] (by kernel_rfl) ?_
  refine xw_seq ?_
  refine xw_region ?_
  refine xl_opS 11 [34,35] [(34,.v (.int .i64 (IntKind.i64.wrap ((IntKind.i64.wrap ((IntKind.i64.wrap ((IntKind.i64.wrap (y4 * 16777216)) + (IntKind.i64.wrap (y5 * 65536)))) + (IntKind.i64.wrap (y6 * 256)))) + y7)))),(35,.v (.int .i64 n))] (.int .i64 (Int.tmod (IntKind.i64.wrap ((IntKind.i64.wrap ((IntKind.i64.wrap ((IntKind.i64.wrap (y4 * 16777216)) + (IntKind.i64.wrap (y5 * 65536)))) + (IntKind.i64.wrap (y6 * 256)))) + y7)) n)) (by kernel_rfl) rfl (by kernel_rfl) rfl (fun _ _ _ ww hr => act_bin hr.1 rfl (by kernel_rfl) (by kernel_rfl) (rem_run (by first | decide | omega) ww)) ?_
  refine xl_runS 1 [4] [(4,.v (.int .i64 (Int.tmod (IntKind.i64.wrap ((IntKind.i64.wrap ((IntKind.i64.wrap ((IntKind.i64.wrap (y4 * 16777216)) + (IntKind.i64.wrap (y5 * 65536)))) + (IntKind.i64.wrap (y6 * 256)))) + y7)) n)))] (by kernel_rfl) ?_
  refine xl_eqS (t' := [(4,.v (.int .i64 (Int.tmod ((((y4 * 16777216) + (y5 * 65536)) + (y6 * 256)) + y7) n)))]) (by rw [show (IntKind.i64.wrap (y6 * 256)) = (y6 * 256) from wrap_id (by omega) (by omega),show (IntKind.i64.wrap (y5 * 65536)) = (y5 * 65536) from wrap_id (by omega) (by omega),show (IntKind.i64.wrap (y4 * 16777216)) = (y4 * 16777216) from wrap_id (by omega) (by omega),show (IntKind.i64.wrap ((y4 * 16777216) + (y5 * 65536))) = ((y4 * 16777216) + (y5 * 65536)) from wrap_id (by omega) (by omega),show (IntKind.i64.wrap (((y4 * 16777216) + (y5 * 65536)) + (y6 * 256))) = (((y4 * 16777216) + (y5 * 65536)) + (y6 * 256)) from wrap_id (by omega) (by omega),show (IntKind.i64.wrap ((((y4 * 16777216) + (y5 * 65536)) + (y6 * 256)) + y7)) = ((((y4 * 16777216) + (y5 * 65536)) + (y6 * 256)) + y7) from wrap_id (by omega) (by omega)]) ?_
  refine xl_endS [4] [(4,.v (.int .i64 (Int.tmod ((((y4 * 16777216) + (y5 * 65536)) + (y6 * 256)) + y7) n)))] (by kernel_rfl) ?_
  refine xw_ret ?_
  exact ⟨[.int .i64 (Int.tmod ((((y4 * 16777216) + (y5 * 65536)) + (y6 * 256)) + y7) n)],by kernel_rfl,fun w' hb hf => ⟨⟨Int.tmod ((((y4 * 16777216) + (y5 * 65536)) + (y6 * 256)) + y7) n,(by first | (exact ⟨by omega,fun _ => by omega⟩) | (exact tmod_bd (by omega) (by omega)))⟩,rfl,hf (curF B g 95 (.slice A code.length cap) code.length) (by simp),frF_chgd (hf (frF w (fun b => b = g)) (by simp)) hb rfl rfl rfl⟩⟩
set_option maxHeartbeats 2000000 in
theorem l1Once_c (g : Nat) (code : List Int) (A : Option Addr) (cap : Nat) (n : Int) (w : World) (B : Nat) (hB : B ≤ w.heap.size) (hc : (curF B g 95 (.slice A code.length cap) code.length).p w) (hl : Sl w (.slice A code.length cap) 1 (code.map byteRow)) (hap : ¬ (slF (.slice A code.length cap) 1 (code.map byteRow)).blk g) (hn : code.length ≤ 1048576)  : Calls Try.prog 66 #[.pointer (some ⟨g, 0, none⟩), .int .i64 n] w fun e w' => ∃ y : {y : Bool // True}, e = .returned (.bool y.1) ∧ (curF B g 95 (.slice A code.length cap) code.length).p w' ∧ Chgd (fun b => b = g) w w' := by
  have hq_code := Sl.capLe hl
  refine x_callsM (args := [.pointer (some ⟨g,0,none⟩),.int .i64 n]) (fn := Try.f66) [curF B g 95 (.slice A code.length cap) code.length,slF (.slice A code.length cap) 1 (code.map byteRow),frF w (fun b => b = g)] B Try.func66 rfl Try.ntmps66 rfl hB (by simp only [List.mem_cons,List.not_mem_nil,or_false,forall_eq_or_imp,forall_eq]; exact ⟨hc,hl,frF_start w _⟩) (apart_cur hap rfl) ?_
  refine xw_seq ?_
  refine xw_region ?_
  refine xl_end [0,1] ⟨[(0,.v (.pointer (some ⟨g,0,none⟩))),(1,.v (.int .i64 n))],[],[],[curF B g 95 (.slice A code.length cap) code.length,slF (.slice A code.length cap) 1 (code.map byteRow),frF w (fun b => b = g)]⟩ (by kernel_rfl) ?_
  refine xw_seq ?_
  refine xw_region ?_
  refine xl_callWS 2 [5,6] [(5,.v (.pointer (some ⟨g,0,none⟩))),(6,.v (.int .i64 n))] 75 [.pointer (some ⟨g,0,none⟩),.int .i64 n] (some 7) 0 (curF B g 95 (.slice A code.length cap) code.length) (by kernel_rfl) rfl (by kernel_rfl) rfl (by kernel_rfl) rfl rfl (fun ww b h hb => Nat.le_trans (cutW_le w B) (cur_lo h hb)) (by kernel_rfl) (xcm_cur fun ww hw hf => l1Below_c g code A cap n ww B (Nat.le_trans (by first | exact Nat.le_refl _ | exact Nat.le_of_eq (cutW_size hB).symm) hw) (hf (curF B g 95 (.slice A code.length cap) code.length) (by simp)) (hf (slF (.slice A code.length cap) 1 (code.map byteRow)) (by simp)) hap (by omega)  ) ?_
  rintro ⟨y1,hy1⟩
  obtain ⟨hy10,hy11⟩ := hy1
  refine xl_endS [4] [(4,.v (.bool (y1 == 0)))] (by kernel_rfl) ?_
  refine xw_ret ?_
  exact ⟨[.bool (y1 == 0)],by kernel_rfl,fun w' hb hf => ⟨⟨y1 == 0,trivial⟩,rfl,hf (curF B g 95 (.slice A code.length cap) code.length) (by simp),frF_chgd (hf (frF w (fun b => b = g)) (by simp)) hb rfl rfl rfl⟩⟩
set_option maxHeartbeats 2000000 in
theorem l1PickInt_c (g : Nat) (code : List Int) (A : Option Addr) (cap : Nat) (list : List Int) (listV : Value) (w : World) (B : Nat) (hB : B ≤ w.heap.size) (hc : (curF B g 95 (.slice A code.length cap) code.length).p w) (hl : Sl w (.slice A code.length cap) 1 (code.map byteRow)) (hap : ¬ (slF (.slice A code.length cap) 1 (code.map byteRow)).blk g) (hn : code.length ≤ 1048576) (hl_listV : Sl w listV 1 (list.map intRow)) (hap2 : ¬ (slF listV 1 (list.map intRow)).blk g) (hne : 0 < list.length) : Calls Try.prog 52 #[.pointer (some ⟨g, 0, none⟩), listV] w fun e w' => ∃ y : {y : Int // y ∈ list}, e = .returned (.int .i64 y.1) ∧ (curF B g 95 (.slice A code.length cap) code.length).p w' ∧ Chgd (fun b => b = g) w w' := by
  have hq_code := Sl.capLe hl
  obtain ⟨Al,Cl,hvl⟩ := hl_listV.form
  rw [List.length_map] at hvl; subst hvl
  have hnl := hl_listV.len; rw [List.length_map] at hnl
  have hql := Sl.capLe hl_listV
  refine x_callsM (args := [.pointer (some ⟨g,0,none⟩),.slice Al list.length Cl]) (fn := Try.f52) [curF B g 95 (.slice A code.length cap) code.length,slF (.slice A code.length cap) 1 (code.map byteRow),frF w (fun b => b = g),slF (.slice Al list.length Cl) 1 (list.map intRow)] B Try.func52 rfl Try.ntmps52 rfl hB (by simp only [List.mem_cons,List.not_mem_nil,or_false,forall_eq_or_imp,forall_eq]; exact ⟨hc,hl,frF_start w _,hl_listV⟩) (apart_cur2 hap rfl hap2 rfl) ?_
  refine xw_seq ?_
  refine xw_region ?_
  refine xl_end [0,1] ⟨[(0,.v (.pointer (some ⟨g,0,none⟩))),(1,.v (.slice Al list.length Cl))],[],[],[curF B g 95 (.slice A code.length cap) code.length,slF (.slice A code.length cap) 1 (code.map byteRow),frF w (fun b => b = g),slF (.slice Al list.length Cl) 1 (list.map intRow)]⟩ (by kernel_rfl) ?_
  refine xw_seq ?_
  refine xw_region ?_
  refine xl_callWS 4 [5,6,8] [(5,.v (.slice Al list.length Cl)),(6,.v (.pointer (some ⟨g,0,none⟩))),(8,.v (.int .i64 ((list.length : Nat) : Int)))] 75 [.pointer (some ⟨g,0,none⟩),.int .i64 ((list.length : Nat) : Int)] (some 9) 0 (curF B g 95 (.slice A code.length cap) code.length) (by kernel_rfl) rfl (by kernel_rfl) rfl (by kernel_rfl) rfl rfl (fun ww b h hb => Nat.le_trans (cutW_le w B) (cur_lo h hb)) (by kernel_rfl) (xcm_cur fun ww hw hf => l1Below_c g code A cap ((list.length : Nat) : Int) ww B (Nat.le_trans (by first | exact Nat.le_refl _ | exact Nat.le_of_eq (cutW_size hB).symm) hw) (hf (curF B g 95 (.slice A code.length cap) code.length) (by simp)) (hf (slF (.slice A code.length cap) 1 (code.map byteRow)) (by simp)) hap (by omega)  ) ?_
  rintro ⟨y1,hy1⟩
  obtain ⟨hy10,hy11⟩ := hy1
  obtain ⟨j2,hj2⟩ : ∃ j : Nat,y1 = (j : Int) := ⟨y1.toNat,by omega⟩
  subst hj2
  have hlt : j2 < list.length := by omega
  obtain ⟨z,hz⟩ : ∃ z,list[j2]? = some z := ⟨_,List.getElem?_eq_getElem hlt⟩
  refine xl_indexS (kd := .i64) (T := 77) (e := 3) (K := 1) 0 [5,9] [(5,.v (.slice Al list.length Cl)),(9,.v (.int .i64 (j2 : Int)))] j2 [.int .i64 z] (slF (.slice Al list.length Cl) 1 (list.map intRow)) (by kernel_rfl) rfl (by kernel_rfl) rfl rfl (by kernel_rfl) (by kernel_rfl) (by kernel_rfl) (by kernel_rfl) hlt (by simp) (fun w h => h) (fun b h => h) (by simp only [List.getElem?_map,hz]; rfl) ?_
  refine xl_endS [4] [(4,.v (.int .i64 z))] (by kernel_rfl) ?_
  refine xw_ret ?_
  exact ⟨[.int .i64 z],by kernel_rfl,fun w' hb hf => ⟨⟨z,List.mem_of_getElem? hz⟩,rfl,hf (curF B g 95 (.slice A code.length cap) code.length) (by simp),frF_chgd (hf (frF w (fun b => b = g)) (by simp)) hb rfl rfl rfl⟩⟩
set_option maxHeartbeats 2000000 in
theorem l1Whole_c (g : Nat) (code : List Int) (A : Option Addr) (cap : Nat)  (w : World) (B : Nat) (hB : B ≤ w.heap.size) (hc : (curF B g 95 (.slice A code.length cap) code.length).p w) (hl : Sl w (.slice A code.length cap) 1 (code.map byteRow)) (hap : ¬ (slF (.slice A code.length cap) 1 (code.map byteRow)).blk g) (hn : code.length ≤ 1048576)  : Calls Try.prog 79 #[.pointer (some ⟨g, 0, none⟩)] w fun e w' => ∃ y : {y : Int // True}, e = .returned (.int .i64 y.1) ∧ (curF B g 95 (.slice A code.length cap) code.length).p w' ∧ Chgd (fun b => b = g) w w' := by
  have hq_code := Sl.capLe hl
  refine x_callsM (args := [.pointer (some ⟨g,0,none⟩)]) (fn := Try.f79) [curF B g 95 (.slice A code.length cap) code.length,slF (.slice A code.length cap) 1 (code.map byteRow),frF w (fun b => b = g)] B Try.func79 rfl Try.ntmps79 rfl hB (by simp only [List.mem_cons,List.not_mem_nil,or_false,forall_eq_or_imp,forall_eq]; exact ⟨hc,hl,frF_start w _⟩) (apart_cur hap rfl) ?_
  refine xw_seq ?_
  refine xw_region ?_
  refine xl_end [0] ⟨[(0,.v (.pointer (some ⟨g,0,none⟩)))],[],[],[curF B g 95 (.slice A code.length cap) code.length,slF (.slice A code.length cap) 1 (code.map byteRow),frF w (fun b => b = g)]⟩ (by kernel_rfl) ?_
  refine xw_seq ?_
  refine xw_seq ?_
  refine xw_region ?_
  refine xl_callWS 1 [0,3] [(0,.v (.pointer (some ⟨g,0,none⟩))),(3,.v (.pointer (some ⟨g,0,none⟩)))] 75 [.pointer (some ⟨g,0,none⟩),.int .i64 3] (some 4) 0 (curF B g 95 (.slice A code.length cap) code.length) (by kernel_rfl) rfl (by kernel_rfl) rfl (by kernel_rfl) rfl rfl (fun ww b h hb => Nat.le_trans (cutW_le w B) (cur_lo h hb)) (by kernel_rfl) (xcm_cur fun ww hw hf => l1Below_c g code A cap 3 ww B (Nat.le_trans (by first | exact Nat.le_refl _ | exact Nat.le_of_eq (cutW_size hB).symm) hw) (hf (curF B g 95 (.slice A code.length cap) code.length) (by simp)) (hf (slF (.slice A code.length cap) 1 (code.map byteRow)) (by simp)) hap (by omega)  ) ?_
  rintro ⟨y1,hy1⟩
  obtain ⟨hy10,hy11⟩ := hy1
  refine xl_endS [0,4] [(0,.v (.pointer (some ⟨g,0,none⟩))),(4,.v (.int .i64 y1))] (by kernel_rfl) ?_
  refine xw_block ?_
  refine xw_seq ?_
  refine xw_region ?_
  refine xl_endS [0,4,5] [(0,.v (.pointer (some ⟨g,0,none⟩))),(4,.v (.int .i64 y1)),(5,.v (.bool (y1 == 0)))] (by kernel_rfl) ?_
  refine xw_cond (b := y1 == 0) (by kernel_rfl) (fun h2 => ?_) (fun h2 => ?_)
  have h2p := eqT h2
  refine xw_seq ?_
  refine xw_region ?_
  refine xl_hvS 1 [7] [(7,.v (.pointer (some ⟨g,0,none⟩)))] (by kernel_rfl) rfl (by kernel_rfl) rfl (by kernel_rfl) (hv_build (e := 3) (K := 1) (bytes := 8) [.int .i64 0,.int .i64 1,.int .i64 (-1),.int .i64 9,.int .i64 10,.int .i64 999999999999,.int .i64 1000000000000,.int .i64 9223372036854775807,.int .i64 4294967295,.int .i64 4294967296,.int .i64 65535,.int .i64 65536,.int .i64 (-9223372036854775808)] rfl (by kernel_rfl) (by kernel_rfl) (by kernel_rfl) (by kernel_rfl) (by kernel_rfl) (rs := ([0,1,(-1),9,10,999999999999,1000000000000,9223372036854775807,4294967295,4294967296,65535,65536,(-9223372036854775808)] : List Int).map intRow) rfl) ?_
  intro g3
  refine xl_know (φ := ¬ (slF (.slice (some ⟨g3,0,none⟩) 13 13) 1 (([0,1,(-1),9,10,999999999999,1000000000000,9223372036854775807,4294967295,4294967296,65535,65536,(-9223372036854775808)] : List Int).map intRow)).blk g) (fun _ _ _ _ hr => fun hb => hr.2.apart 0 1 (rowF (cutW w B).heap.size 3 1 (.slice (some ⟨g3,0,none⟩) 13 13) (([0,1,(-1),9,10,999999999999,1000000000000,9223372036854775807,4294967295,4294967296,65535,65536,(-9223372036854775808)] : List Int).map intRow)) (curF B g 95 (.slice A code.length cap) code.length) rfl rfl (by decide) rfl g (rowF_sblk hb) rfl) (fun hk4 => ?_)
  refine xl_callWS 0 [7,8] [(7,.v (.pointer (some ⟨g,0,none⟩))),(8,.v (.slice (some ⟨g3,0,none⟩) 13 13))] 52 [.pointer (some ⟨g,0,none⟩),.slice (some ⟨g3,0,none⟩) 13 13] (some 9) 1 (curF B g 95 (.slice A code.length cap) code.length) (by kernel_rfl) rfl (by kernel_rfl) rfl (by kernel_rfl) rfl rfl (fun ww b h hb => Nat.le_trans (cutW_le w B) (cur_lo h hb)) (by kernel_rfl) (xcm_cur fun ww hw hf => l1PickInt_c g code A cap ([0,1,(-1),9,10,999999999999,1000000000000,9223372036854775807,4294967295,4294967296,65535,65536,(-9223372036854775808)] : List Int) (.slice (some ⟨g3,0,none⟩) 13 13) ww B (Nat.le_trans (by first | exact Nat.le_refl _ | exact Nat.le_of_eq (cutW_size hB).symm) hw) (hf (curF B g 95 (.slice A code.length cap) code.length) (by simp)) (hf (slF (.slice A code.length cap) 1 (code.map byteRow)) (by simp)) hap (by omega) (rowF_sl (hf (rowF (cutW w B).heap.size 3 1 (.slice (some ⟨g3,0,none⟩) 13 13) (([0,1,(-1),9,10,999999999999,1000000000000,9223372036854775807,4294967295,4294967296,65535,65536,(-9223372036854775808)] : List Int).map intRow)) (by simp))) hk4 (by simp)) ?_
  rintro ⟨y5,hy5⟩
  refine xl_endS [2] [(2,.v (.int .i64 y5))] (by kernel_rfl) ?_
  refine xw_ret ?_
  exact ⟨[.int .i64 y5],by kernel_rfl,fun w' hb hf => ⟨⟨y5,trivial⟩,rfl,hf (curF B g 95 (.slice A code.length cap) code.length) (by simp),frF_chgd (hf (frF w (fun b => b = g)) (by simp)) hb rfl rfl rfl⟩⟩
  have h2p := eqF h2
  refine xw_seq ?_
  refine xw_region ?_
  refine xl_endS [0,10] [(0,.v (.pointer (some ⟨g,0,none⟩))),(10,.v (.bool (y1 == 1)))] (by kernel_rfl) ?_
  refine xw_cond (b := y1 == 1) (by kernel_rfl) (fun h6 => ?_) (fun h6 => ?_)
  have h6p := eqT h6
  refine xw_seq ?_
  refine xw_region ?_
  refine xl_callWS 1 [12] [(12,.v (.pointer (some ⟨g,0,none⟩)))] 75 [.pointer (some ⟨g,0,none⟩),.int .i64 1000000] (some 13) 0 (curF B g 95 (.slice A code.length cap) code.length) (by kernel_rfl) rfl (by kernel_rfl) rfl (by kernel_rfl) rfl rfl (fun ww b h hb => Nat.le_trans (cutW_le w B) (cur_lo h hb)) (by kernel_rfl) (xcm_cur fun ww hw hf => l1Below_c g code A cap 1000000 ww B (Nat.le_trans (by first | exact Nat.le_refl _ | exact Nat.le_of_eq (cutW_size hB).symm) hw) (hf (curF B g 95 (.slice A code.length cap) code.length) (by simp)) (hf (slF (.slice A code.length cap) 1 (code.map byteRow)) (by simp)) hap (by omega)  ) ?_
  rintro ⟨y7,hy7⟩
  obtain ⟨hy70,hy71⟩ := hy7
  refine xl_runS 2 [2] [(2,.v (.int .i64 (IntKind.i64.wrap (y7 - 500000))))] (by kernel_rfl) ?_
  refine xl_eqS (t' := [(2,.v (.int .i64 (y7 - 500000)))]) (by rw [show (IntKind.i64.wrap (y7 - 500000)) = (y7 - 500000) from wrap_id (by omega) (by omega)]) ?_
  refine xl_endS [2] [(2,.v (.int .i64 (y7 - 500000)))] (by kernel_rfl) ?_
  refine xw_ret ?_
  exact ⟨[.int .i64 (y7 - 500000)],by kernel_rfl,fun w' hb hf => ⟨⟨y7 - 500000,trivial⟩,rfl,hf (curF B g 95 (.slice A code.length cap) code.length) (by simp),frF_chgd (hf (frF w (fun b => b = g)) (by simp)) hb rfl rfl rfl⟩⟩
  have h6p := eqF h6
  refine xw_skip ?_
  refine xw_seq ?_
  refine xw_region ?_
  refine xl_callWS 1 [15] [(15,.v (.pointer (some ⟨g,0,none⟩)))] 75 [.pointer (some ⟨g,0,none⟩),.int .i64 20] (some 16) 0 (curF B g 95 (.slice A code.length cap) code.length) (by kernel_rfl) rfl (by kernel_rfl) rfl (by kernel_rfl) rfl rfl (fun ww b h hb => Nat.le_trans (cutW_le w B) (cur_lo h hb)) (by kernel_rfl) (xcm_cur fun ww hw hf => l1Below_c g code A cap 20 ww B (Nat.le_trans (by first | exact Nat.le_refl _ | exact Nat.le_of_eq (cutW_size hB).symm) hw) (hf (curF B g 95 (.slice A code.length cap) code.length) (by simp)) (hf (slF (.slice A code.length cap) 1 (code.map byteRow)) (by simp)) hap (by omega)  ) ?_
  rintro ⟨y8,hy8⟩
  obtain ⟨hy80,hy81⟩ := hy8
  refine xl_endS [2] [(2,.v (.int .i64 y8))] (by kernel_rfl) ?_
  refine xw_ret ?_
  exact ⟨[.int .i64 y8],by kernel_rfl,fun w' hb hf => ⟨⟨y8,trivial⟩,rfl,hf (curF B g 95 (.slice A code.length cap) code.length) (by simp),frF_chgd (hf (frF w (fun b => b = g)) (by simp)) hb rfl rfl rfl⟩⟩
set_option maxHeartbeats 2000000 in
theorem l2Word_c (g : Nat) (code : List Int) (A : Option Addr) (cap : Nat)  (w : World) (B : Nat) (hB : B ≤ w.heap.size) (hc : (curF B g 95 (.slice A code.length cap) code.length).p w) (hl : Sl w (.slice A code.length cap) 1 (code.map byteRow)) (hap : ¬ (slF (.slice A code.length cap) 1 (code.map byteRow)).blk g) (hn : code.length ≤ 1048576)  : Calls Try.prog 67 #[.pointer (some ⟨g, 0, none⟩)] w fun e w' => ∃ y : {y : Int // True}, e = .returned (.int .i64 y.1) ∧ (curF B g 95 (.slice A code.length cap) code.length).p w' ∧ Chgd (fun b => b = g) w w' := by
  have hq_code := Sl.capLe hl
  refine x_callsM (args := [.pointer (some ⟨g,0,none⟩)]) (fn := Try.f67) [curF B g 95 (.slice A code.length cap) code.length,slF (.slice A code.length cap) 1 (code.map byteRow),frF w (fun b => b = g)] B Try.func67 rfl Try.ntmps67 rfl hB (by simp only [List.mem_cons,List.not_mem_nil,or_false,forall_eq_or_imp,forall_eq]; exact ⟨hc,hl,frF_start w _⟩) (apart_cur hap rfl) ?_
  refine xw_seq ?_
  refine xw_region ?_
  refine xl_end [0] ⟨[(0,.v (.pointer (some ⟨g,0,none⟩)))],[],[],[curF B g 95 (.slice A code.length cap) code.length,slF (.slice A code.length cap) 1 (code.map byteRow),frF w (fun b => b = g)]⟩ (by kernel_rfl) ?_
  refine xw_seq ?_
  refine xw_seq ?_
  refine xw_region ?_
  refine xl_callWS 1 [0,3] [(0,.v (.pointer (some ⟨g,0,none⟩))),(3,.v (.pointer (some ⟨g,0,none⟩)))] 75 [.pointer (some ⟨g,0,none⟩),.int .i64 3] (some 4) 0 (curF B g 95 (.slice A code.length cap) code.length) (by kernel_rfl) rfl (by kernel_rfl) rfl (by kernel_rfl) rfl rfl (fun ww b h hb => Nat.le_trans (cutW_le w B) (cur_lo h hb)) (by kernel_rfl) (xcm_cur fun ww hw hf => l1Below_c g code A cap 3 ww B (Nat.le_trans (by first | exact Nat.le_refl _ | exact Nat.le_of_eq (cutW_size hB).symm) hw) (hf (curF B g 95 (.slice A code.length cap) code.length) (by simp)) (hf (slF (.slice A code.length cap) 1 (code.map byteRow)) (by simp)) hap (by omega)  ) ?_
  rintro ⟨y1,hy1⟩
  obtain ⟨hy10,hy11⟩ := hy1
  refine xl_endS [0,4] [(0,.v (.pointer (some ⟨g,0,none⟩))),(4,.v (.int .i64 y1))] (by kernel_rfl) ?_
  refine xw_block ?_
  refine xw_seq ?_
  refine xw_region ?_
  refine xl_endS [0,4,5] [(0,.v (.pointer (some ⟨g,0,none⟩))),(4,.v (.int .i64 y1)),(5,.v (.bool (y1 == 0)))] (by kernel_rfl) ?_
  refine xw_cond (b := y1 == 0) (by kernel_rfl) (fun h2 => ?_) (fun h2 => ?_)
  have h2p := eqT h2
  refine xw_seq ?_
  refine xw_region ?_
  refine xl_callWS 1 [7] [(7,.v (.pointer (some ⟨g,0,none⟩)))] 79 [.pointer (some ⟨g,0,none⟩)] (some 8) 0 (curF B g 95 (.slice A code.length cap) code.length) (by kernel_rfl) rfl (by kernel_rfl) rfl (by kernel_rfl) rfl rfl (fun ww b h hb => Nat.le_trans (cutW_le w B) (cur_lo h hb)) (by kernel_rfl) (xcm_cur fun ww hw hf => l1Whole_c g code A cap  ww B (Nat.le_trans (by first | exact Nat.le_refl _ | exact Nat.le_of_eq (cutW_size hB).symm) hw) (hf (curF B g 95 (.slice A code.length cap) code.length) (by simp)) (hf (slF (.slice A code.length cap) 1 (code.map byteRow)) (by simp)) hap (by omega)  ) ?_
  rintro ⟨y3,hy3⟩
  refine xl_endS [2] [(2,.v (.int .i64 y3))] (by kernel_rfl) ?_
  refine xw_ret ?_
  exact ⟨[.int .i64 y3],by kernel_rfl,fun w' hb hf => ⟨⟨y3,trivial⟩,rfl,hf (curF B g 95 (.slice A code.length cap) code.length) (by simp),frF_chgd (hf (frF w (fun b => b = g)) (by simp)) hb rfl rfl rfl⟩⟩
  have h2p := eqF h2
  refine xw_seq ?_
  refine xw_region ?_
  refine xl_endS [0,9] [(0,.v (.pointer (some ⟨g,0,none⟩))),(9,.v (.bool (y1 == 1)))] (by kernel_rfl) ?_
  refine xw_cond (b := y1 == 1) (by kernel_rfl) (fun h4 => ?_) (fun h4 => ?_)
  have h4p := eqT h4
  refine xw_seq ?_
  refine xw_region ?_
  refine xl_hvS 1 [11] [(11,.v (.pointer (some ⟨g,0,none⟩)))] (by kernel_rfl) rfl (by kernel_rfl) rfl (by kernel_rfl) (hv_build (e := 3) (K := 1) (bytes := 8) [.int .i64 0,.int .i64 1,.int .i64 255,.int .i64 256,.int .i64 65535,.int .i64 65536,.int .i64 16777215,.int .i64 4294967295,.int .i64 4294967296,.int .i64 281474976710655,.int .i64 281474976710656] rfl (by kernel_rfl) (by kernel_rfl) (by kernel_rfl) (by kernel_rfl) (by kernel_rfl) (rs := ([0,1,255,256,65535,65536,16777215,4294967295,4294967296,281474976710655,281474976710656] : List Int).map intRow) rfl) ?_
  intro g5
  refine xl_know (φ := ¬ (slF (.slice (some ⟨g5,0,none⟩) 11 11) 1 (([0,1,255,256,65535,65536,16777215,4294967295,4294967296,281474976710655,281474976710656] : List Int).map intRow)).blk g) (fun _ _ _ _ hr => fun hb => hr.2.apart 0 1 (rowF (cutW w B).heap.size 3 1 (.slice (some ⟨g5,0,none⟩) 11 11) (([0,1,255,256,65535,65536,16777215,4294967295,4294967296,281474976710655,281474976710656] : List Int).map intRow)) (curF B g 95 (.slice A code.length cap) code.length) rfl rfl (by decide) rfl g (rowF_sblk hb) rfl) (fun hk6 => ?_)
  refine xl_callWS 0 [11,12] [(11,.v (.pointer (some ⟨g,0,none⟩))),(12,.v (.slice (some ⟨g5,0,none⟩) 11 11))] 52 [.pointer (some ⟨g,0,none⟩),.slice (some ⟨g5,0,none⟩) 11 11] (some 13) 1 (curF B g 95 (.slice A code.length cap) code.length) (by kernel_rfl) rfl (by kernel_rfl) rfl (by kernel_rfl) rfl rfl (fun ww b h hb => Nat.le_trans (cutW_le w B) (cur_lo h hb)) (by kernel_rfl) (xcm_cur fun ww hw hf => l1PickInt_c g code A cap ([0,1,255,256,65535,65536,16777215,4294967295,4294967296,281474976710655,281474976710656] : List Int) (.slice (some ⟨g5,0,none⟩) 11 11) ww B (Nat.le_trans (by first | exact Nat.le_refl _ | exact Nat.le_of_eq (cutW_size hB).symm) hw) (hf (curF B g 95 (.slice A code.length cap) code.length) (by simp)) (hf (slF (.slice A code.length cap) 1 (code.map byteRow)) (by simp)) hap (by omega) (rowF_sl (hf (rowF (cutW w B).heap.size 3 1 (.slice (some ⟨g5,0,none⟩) 11 11) (([0,1,255,256,65535,65536,16777215,4294967295,4294967296,281474976710655,281474976710656] : List Int).map intRow)) (by simp))) hk6 (by simp)) ?_
  rintro ⟨y7,hy7⟩
  refine xl_endS [2] [(2,.v (.int .i64 y7))] (by kernel_rfl) ?_
  refine xw_ret ?_
  exact ⟨[.int .i64 y7],by kernel_rfl,fun w' hb hf => ⟨⟨y7,trivial⟩,rfl,hf (curF B g 95 (.slice A code.length cap) code.length) (by simp),frF_chgd (hf (frF w (fun b => b = g)) (by simp)) hb rfl rfl rfl⟩⟩
  have h4p := eqF h4
  refine xw_skip ?_
  refine xw_seq ?_
  refine xw_region ?_
  refine xl_callWS 1 [14] [(14,.v (.pointer (some ⟨g,0,none⟩)))] 75 [.pointer (some ⟨g,0,none⟩),.int .i64 65536] (some 15) 0 (curF B g 95 (.slice A code.length cap) code.length) (by kernel_rfl) rfl (by kernel_rfl) rfl (by kernel_rfl) rfl rfl (fun ww b h hb => Nat.le_trans (cutW_le w B) (cur_lo h hb)) (by kernel_rfl) (xcm_cur fun ww hw hf => l1Below_c g code A cap 65536 ww B (Nat.le_trans (by first | exact Nat.le_refl _ | exact Nat.le_of_eq (cutW_size hB).symm) hw) (hf (curF B g 95 (.slice A code.length cap) code.length) (by simp)) (hf (slF (.slice A code.length cap) 1 (code.map byteRow)) (by simp)) hap (by omega)  ) ?_
  rintro ⟨y8,hy8⟩
  obtain ⟨hy80,hy81⟩ := hy8
  refine xl_endS [2] [(2,.v (.int .i64 y8))] (by kernel_rfl) ?_
  refine xw_ret ?_
  exact ⟨[.int .i64 y8],by kernel_rfl,fun w' hb hf => ⟨⟨y8,trivial⟩,rfl,hf (curF B g 95 (.slice A code.length cap) code.length) (by simp),frF_chgd (hf (frF w (fun b => b = g)) (by simp)) hb rfl rfl rfl⟩⟩
set_option maxHeartbeats 2000000 in
theorem l2Deep_c (g : Nat) (code : List Int) (A : Option Addr) (cap : Nat)  (w : World) (B : Nat) (hB : B ≤ w.heap.size) (hc : (curF B g 95 (.slice A code.length cap) code.length).p w) (hl : Sl w (.slice A code.length cap) 1 (code.map byteRow)) (hap : ¬ (slF (.slice A code.length cap) 1 (code.map byteRow)).blk g) (hn : code.length ≤ 1048576)  : Calls Try.prog 80 #[.pointer (some ⟨g, 0, none⟩)] w fun e w' => ∃ y : {y : Int // True}, e = .returned (.int .i64 y.1) ∧ (curF B g 95 (.slice A code.length cap) code.length).p w' ∧ Chgd (fun b => b = g) w w' := by
  have hq_code := Sl.capLe hl
  refine x_callsM (args := [.pointer (some ⟨g,0,none⟩)]) (fn := Try.f80) [curF B g 95 (.slice A code.length cap) code.length,slF (.slice A code.length cap) 1 (code.map byteRow),frF w (fun b => b = g)] B Try.func80 rfl Try.ntmps80 rfl hB (by simp only [List.mem_cons,List.not_mem_nil,or_false,forall_eq_or_imp,forall_eq]; exact ⟨hc,hl,frF_start w _⟩) (apart_cur hap rfl) ?_
  refine xw_seq ?_
  refine xw_region ?_
  refine xl_end [0] ⟨[(0,.v (.pointer (some ⟨g,0,none⟩)))],[],[],[curF B g 95 (.slice A code.length cap) code.length,slF (.slice A code.length cap) 1 (code.map byteRow),frF w (fun b => b = g)]⟩ (by kernel_rfl) ?_
  refine xw_seq ?_
  refine xw_seq ?_
  refine xw_region ?_
  refine xl_callWS 1 [0,5] [(0,.v (.pointer (some ⟨g,0,none⟩))),(5,.v (.pointer (some ⟨g,0,none⟩)))] 66 [.pointer (some ⟨g,0,none⟩),.int .i64 3] (some 6) 0 (curF B g 95 (.slice A code.length cap) code.length) (by kernel_rfl) rfl (by kernel_rfl) rfl (by kernel_rfl) rfl rfl (fun ww b h hb => Nat.le_trans (cutW_le w B) (cur_lo h hb)) (by kernel_rfl) (xcm_cur fun ww hw hf => l1Once_c g code A cap 3 ww B (Nat.le_trans (by first | exact Nat.le_refl _ | exact Nat.le_of_eq (cutW_size hB).symm) hw) (hf (curF B g 95 (.slice A code.length cap) code.length) (by simp)) (hf (slF (.slice A code.length cap) 1 (code.map byteRow)) (by simp)) hap (by omega)  ) ?_
  rintro ⟨y1,hy1⟩
  refine xl_endS [0,6] [(0,.v (.pointer (some ⟨g,0,none⟩))),(6,.v (.bool y1))] (by kernel_rfl) ?_
  refine xw_cond (b := y1) (by kernel_rfl) (fun h2 => ?_) (fun h2 => ?_)
  refine xw_seq ?_
  refine xw_region ?_
  refine xl_hvS 1 [7] [(7,.v (.pointer (some ⟨g,0,none⟩)))] (by kernel_rfl) rfl (by kernel_rfl) rfl (by kernel_rfl) (hv_build (e := 3) (K := 1) (bytes := 8) [.int .i64 0,.int .i64 1,.int .i64 4294967295,.int .i64 2147483647,.int .i64 2147483648,.int .i64 4294967294] rfl (by kernel_rfl) (by kernel_rfl) (by kernel_rfl) (by kernel_rfl) (by kernel_rfl) (rs := ([0,1,4294967295,2147483647,2147483648,4294967294] : List Int).map intRow) rfl) ?_
  intro g3
  refine xl_know (φ := ¬ (slF (.slice (some ⟨g3,0,none⟩) 6 6) 1 (([0,1,4294967295,2147483647,2147483648,4294967294] : List Int).map intRow)).blk g) (fun _ _ _ _ hr => fun hb => hr.2.apart 0 1 (rowF (cutW w B).heap.size 3 1 (.slice (some ⟨g3,0,none⟩) 6 6) (([0,1,4294967295,2147483647,2147483648,4294967294] : List Int).map intRow)) (curF B g 95 (.slice A code.length cap) code.length) rfl rfl (by decide) rfl g (rowF_sblk hb) rfl) (fun hk4 => ?_)
  refine xl_callWS 0 [7,8] [(7,.v (.pointer (some ⟨g,0,none⟩))),(8,.v (.slice (some ⟨g3,0,none⟩) 6 6))] 52 [.pointer (some ⟨g,0,none⟩),.slice (some ⟨g3,0,none⟩) 6 6] (some 9) 1 (curF B g 95 (.slice A code.length cap) code.length) (by kernel_rfl) rfl (by kernel_rfl) rfl (by kernel_rfl) rfl rfl (fun ww b h hb => Nat.le_trans (cutW_le w B) (cur_lo h hb)) (by kernel_rfl) (xcm_cur fun ww hw hf => l1PickInt_c g code A cap ([0,1,4294967295,2147483647,2147483648,4294967294] : List Int) (.slice (some ⟨g3,0,none⟩) 6 6) ww B (Nat.le_trans (by first | exact Nat.le_refl _ | exact Nat.le_of_eq (cutW_size hB).symm) hw) (hf (curF B g 95 (.slice A code.length cap) code.length) (by simp)) (hf (slF (.slice A code.length cap) 1 (code.map byteRow)) (by simp)) hap (by omega) (rowF_sl (hf (rowF (cutW w B).heap.size 3 1 (.slice (some ⟨g3,0,none⟩) 6 6) (([0,1,4294967295,2147483647,2147483648,4294967294] : List Int).map intRow)) (by simp))) hk4 (by simp)) ?_
  rintro ⟨y5,hy5⟩
  refine xl_endS [2] [(2,.v (.int .i64 y5))] (by kernel_rfl) ?_
  refine xw_ret ?_
  exact ⟨[.int .i64 y5],by kernel_rfl,fun w' hb hf => ⟨⟨y5,trivial⟩,rfl,hf (curF B g 95 (.slice A code.length cap) code.length) (by simp),frF_chgd (hf (frF w (fun b => b = g)) (by simp)) hb rfl rfl rfl⟩⟩
  refine xw_skip ?_
  refine xw_seq ?_
  refine xw_region ?_
  refine xl_endS [0,3] [(0,.v (.pointer (some ⟨g,0,none⟩))),(3,.v (.int .i64 0))] (by kernel_rfl) ?_
  refine xw_seq ?_
  refine xw_seq ?_
  refine xw_region ?_
  refine xl_endS [0,3,4] [(0,.v (.pointer (some ⟨g,0,none⟩))),(3,.v (.int .i64 0)),(4,.v (.int .i64 0))] (by kernel_rfl) ?_
  refine xw_block ?_
  refine xw_loopW (α := {x : Nat × Int // (fun (i : Nat) (x : Int) => i ≤ 4) x.1 x.2}) (fun x => (fun (i : Nat) (x : Int) => (⟨[(0,.v (.pointer (some ⟨g,0,none⟩))),(3,.v (.int .i64 x)),(4,.v (.int .i64 (i : Int)))],[],[],[curF B g 95 (.slice A code.length cap) code.length,slF (.slice A code.length cap) 1 (code.map byteRow),frF w (fun b => b = g)]⟩ : St)) x.1.1 x.1.2) (fun x => (fun (i : Nat) (x : Int) => 4 - i) x.1.1 x.1.2) ⟨(0,0),Nat.zero_le _⟩ (wk_forget 0 0 [0,3,4] (by kernel_rfl) (by kernel_rfl) (by kernel_rfl)) ?_
  rintro ⟨⟨i,x⟩,hi⟩
  refine xw_wk (Wk.of_eq (s' := ⟨[(0,.v (.pointer (some ⟨g,0,none⟩))),(3,.v (.int .i64 x)),(4,.v (.int .i64 (i : Int)))],[],[],[curF B g 95 (.slice A code.length cap) code.length,slF (.slice A code.length cap) 1 (code.map byteRow),frF w (fun b => b = g)]⟩) rfl) ?_
  try dsimp only at hi
  refine xw_seq ?_
  refine xw_seq ?_
  refine xw_region ?_
  refine xl_endS [0,3,4,11] [(0,.v (.pointer (some ⟨g,0,none⟩))),(3,.v (.int .i64 x)),(4,.v (.int .i64 (i : Int))),(11,.v (.bool (decide ((i : Int) < 4))))] (by kernel_rfl) ?_
  refine xw_cond (b := decide ((i : Int) < 4)) (by kernel_rfl) (fun h6 => ?_) (fun h6 => ?_)
  have h6p : ((i : Int) < 4) := of_decide_eq_true h6
  have hlt : i < 4 := by simp at h6; omega
  refine xw_skip ?_
  refine xw_seq ?_
  refine xw_block ?_
  refine xw_region ?_
  refine xl_callWS 3 [0,3,4,15,16] [(0,.v (.pointer (some ⟨g,0,none⟩))),(3,.v (.int .i64 x)),(4,.v (.int .i64 (i : Int))),(15,.v (.int .i64 (IntKind.i64.wrap (256 * x)))),(16,.v (.pointer (some ⟨g,0,none⟩)))] 83 [.pointer (some ⟨g,0,none⟩)] (some 17) 0 (curF B g 95 (.slice A code.length cap) code.length) (by kernel_rfl) rfl (by kernel_rfl) rfl (by kernel_rfl) rfl rfl (fun ww b h hb => Nat.le_trans (cutW_le w B) (cur_lo h hb)) (by kernel_rfl) (xcm_cur fun ww hw hf => l1Byte_c g code A cap  ww B (Nat.le_trans (by first | exact Nat.le_refl _ | exact Nat.le_of_eq (cutW_size hB).symm) hw) (hf (curF B g 95 (.slice A code.length cap) code.length) (by simp)) (hf (slF (.slice A code.length cap) 1 (code.map byteRow)) (by simp)) hap (by omega)  ) ?_
  rintro ⟨y7,hy7⟩
  refine xl_endS [0,3,4] [(0,.v (.pointer (some ⟨g,0,none⟩))),(3,.v (.int .i64 (IntKind.i64.wrap ((IntKind.i64.wrap (256 * x)) + y7)))),(4,.v (.int .i64 (i : Int)))] (by kernel_rfl) ?_
  refine xw_region ?_
  refine xl_runS 3 [0,3,4] [(0,.v (.pointer (some ⟨g,0,none⟩))),(3,.v (.int .i64 (IntKind.i64.wrap ((IntKind.i64.wrap (256 * x)) + y7)))),(4,.v (.int .i64 (IntKind.i64.wrap ((i : Int) + 1))))] (by kernel_rfl) ?_
  refine xl_eqS (t' := [(0,.v (.pointer (some ⟨g,0,none⟩))),(3,.v (.int .i64 (IntKind.i64.wrap ((IntKind.i64.wrap (256 * x)) + y7)))),(4,.v (.int .i64 ((i : Int) + 1)))]) (by rw [show (IntKind.i64.wrap ((i : Int) + 1)) = ((i : Int) + 1) from wrap_id (by omega) (by omega)]) ?_
  refine xl_endS [0,3,4] [(0,.v (.pointer (some ⟨g,0,none⟩))),(3,.v (.int .i64 (IntKind.i64.wrap ((IntKind.i64.wrap (256 * x)) + y7)))),(4,.v (.int .i64 ((i : Int) + 1)))] (by kernel_rfl) ?_
  exact ⟨⟨(i + 1,IntKind.i64.wrap ((IntKind.i64.wrap (256 * x)) + y7)),hlt⟩,wk_forget 0 0 [0,3,4] (by kernel_rfl) (by kernel_rfl) (by kernel_rfl),by show (fun (i : Nat) (x : Int) => 4 - i) (i + 1) (IntKind.i64.wrap ((IntKind.i64.wrap (256 * x)) + y7)) < 4 - i; (dsimp only; omega)⟩
  have h6p : ¬ ((i : Int) < 4) := of_decide_eq_false h6
  refine xw_exit ?_
  refine xw_seq ?_
  refine xw_region ?_
  refine xl_endS [2] [(2,.v (.int .i64 x))] (by kernel_rfl) ?_
  refine xw_ret ?_
  exact ⟨[.int .i64 x],by kernel_rfl,fun w' hb hf => ⟨⟨x,trivial⟩,rfl,hf (curF B g 95 (.slice A code.length cap) code.length) (by simp),frF_chgd (hf (frF w (fun b => b = g)) (by simp)) hb rfl rfl rfl⟩⟩
set_option maxHeartbeats 2000000 in
theorem l6Ip_c (g : Nat) (code : List Int) (A : Option Addr) (cap : Nat)  (w : World) (B : Nat) (hB : B ≤ w.heap.size) (hc : (curF B g 95 (.slice A code.length cap) code.length).p w) (hl : Sl w (.slice A code.length cap) 1 (code.map byteRow)) (hap : ¬ (slF (.slice A code.length cap) 1 (code.map byteRow)).blk g) (hn : code.length ≤ 1048576)  : Calls Try.prog 86 #[.pointer (some ⟨g, 0, none⟩)] w fun e w' => ∃ y : {y : Int // True}, e = .returned (.int .i64 y.1) ∧ (curF B g 95 (.slice A code.length cap) code.length).p w' ∧ Chgd (fun b => b = g) w w' := by
  have hq_code := Sl.capLe hl
  refine x_callsM (args := [.pointer (some ⟨g,0,none⟩)]) (fn := Try.f86) [curF B g 95 (.slice A code.length cap) code.length,slF (.slice A code.length cap) 1 (code.map byteRow),frF w (fun b => b = g)] B Try.func86 rfl Try.ntmps86 rfl hB (by simp only [List.mem_cons,List.not_mem_nil,or_false,forall_eq_or_imp,forall_eq]; exact ⟨hc,hl,frF_start w _⟩) (apart_cur hap rfl) ?_
  refine xw_seq ?_
  refine xw_region ?_
  refine xl_end [0] ⟨[(0,.v (.pointer (some ⟨g,0,none⟩)))],[],[],[curF B g 95 (.slice A code.length cap) code.length,slF (.slice A code.length cap) 1 (code.map byteRow),frF w (fun b => b = g)]⟩ (by kernel_rfl) ?_
  refine xw_seq ?_
  refine xw_region ?_
  refine xl_hvS 1 [3] [(3,.v (.pointer (some ⟨g,0,none⟩)))] (by kernel_rfl) rfl (by kernel_rfl) rfl (by kernel_rfl) (hv_build (e := 3) (K := 1) (bytes := 8) [.int .i64 167772161,.int .i64 167772162,.int .i64 167772163,.int .i64 0,.int .i64 4294967295] rfl (by kernel_rfl) (by kernel_rfl) (by kernel_rfl) (by kernel_rfl) (by kernel_rfl) (rs := ([167772161,167772162,167772163,0,4294967295] : List Int).map intRow) rfl) ?_
  intro g1
  refine xl_know (φ := ¬ (slF (.slice (some ⟨g1,0,none⟩) 5 5) 1 (([167772161,167772162,167772163,0,4294967295] : List Int).map intRow)).blk g) (fun _ _ _ _ hr => fun hb => hr.2.apart 0 1 (rowF (cutW w B).heap.size 3 1 (.slice (some ⟨g1,0,none⟩) 5 5) (([167772161,167772162,167772163,0,4294967295] : List Int).map intRow)) (curF B g 95 (.slice A code.length cap) code.length) rfl rfl (by decide) rfl g (rowF_sblk hb) rfl) (fun hk2 => ?_)
  refine xl_callWS 0 [3,4] [(3,.v (.pointer (some ⟨g,0,none⟩))),(4,.v (.slice (some ⟨g1,0,none⟩) 5 5))] 52 [.pointer (some ⟨g,0,none⟩),.slice (some ⟨g1,0,none⟩) 5 5] (some 5) 1 (curF B g 95 (.slice A code.length cap) code.length) (by kernel_rfl) rfl (by kernel_rfl) rfl (by kernel_rfl) rfl rfl (fun ww b h hb => Nat.le_trans (cutW_le w B) (cur_lo h hb)) (by kernel_rfl) (xcm_cur fun ww hw hf => l1PickInt_c g code A cap ([167772161,167772162,167772163,0,4294967295] : List Int) (.slice (some ⟨g1,0,none⟩) 5 5) ww B (Nat.le_trans (by first | exact Nat.le_refl _ | exact Nat.le_of_eq (cutW_size hB).symm) hw) (hf (curF B g 95 (.slice A code.length cap) code.length) (by simp)) (hf (slF (.slice A code.length cap) 1 (code.map byteRow)) (by simp)) hap (by omega) (rowF_sl (hf (rowF (cutW w B).heap.size 3 1 (.slice (some ⟨g1,0,none⟩) 5 5) (([167772161,167772162,167772163,0,4294967295] : List Int).map intRow)) (by simp))) hk2 (by simp)) ?_
  rintro ⟨y3,hy3⟩
  refine xl_endS [2] [(2,.v (.int .i64 y3))] (by kernel_rfl) ?_
  refine xw_ret ?_
  exact ⟨[.int .i64 y3],by kernel_rfl,fun w' hb hf => ⟨⟨y3,trivial⟩,rfl,hf (curF B g 95 (.slice A code.length cap) code.length) (by simp),frF_chgd (hf (frF w (fun b => b = g)) (by simp)) hb rfl rfl rfl⟩⟩
set_option maxHeartbeats 2000000 in
theorem l8Options_c (g : Nat) (code : List Int) (A : Option Addr) (cap : Nat)  (w : World) (B : Nat) (hB : B ≤ w.heap.size) (hc : (curF B g 95 (.slice A code.length cap) code.length).p w) (hl : Sl w (.slice A code.length cap) 1 (code.map byteRow)) (hap : ¬ (slF (.slice A code.length cap) 1 (code.map byteRow)).blk g) (hn : code.length ≤ 1048576)  : Calls Try.prog 74 #[.pointer (some ⟨g, 0, none⟩)] w fun e w' => ∃ y : {y : Opt // True}, e = .returned (.agg (optL y.1).toArray) ∧ (curF B g 95 (.slice A code.length cap) code.length).p w' ∧ Chgd (fun b => b = g) w w' := by
  have hq_code := Sl.capLe hl
  refine x_callsM (args := [.pointer (some ⟨g,0,none⟩)]) (fn := Try.f74) [curF B g 95 (.slice A code.length cap) code.length,slF (.slice A code.length cap) 1 (code.map byteRow),frF w (fun b => b = g)] B Try.func74 rfl Try.ntmps74 rfl hB (by simp only [List.mem_cons,List.not_mem_nil,or_false,forall_eq_or_imp,forall_eq]; exact ⟨hc,hl,frF_start w _⟩) (apart_cur hap rfl) ?_
  refine xw_seq ?_
  refine xw_region ?_
  refine xl_end [0,2] ⟨[(0,.v (.pointer (some ⟨g,0,none⟩))),(2,.p 0 0)],[⟨25,[.int .i64 0,.int .i64 0,.bool false,.bool false,.int .i64 0,.int .i64 0]⟩],[],[curF B g 95 (.slice A code.length cap) code.length,slF (.slice A code.length cap) 1 (code.map byteRow),frF w (fun b => b = g)]⟩ (by kernel_rfl) ?_
  refine xw_seq ?_
  refine xw_region ?_
  refine xl_callS 0 [0,2] [(0,.v (.pointer (some ⟨g,0,none⟩))),(2,.p 0 0)] 40 [] (some 4) (by kernel_rfl) rfl (by kernel_rfl) rfl (by kernel_rfl) (xc_b fun ww hf => sNoOptions_c  ww ) ?_
  intro _
  refine xl_end [0,2,3] ⟨[(0,.v (.pointer (some ⟨g,0,none⟩))),(2,.p 0 0),(3,.p 1 0)],[⟨25,[.int .i64 0,.int .i64 0,.bool false,.bool false,.int .i64 0,.int .i64 0]⟩,⟨25,[.int .i64 0,.int .i64 (-1),.bool false,.bool false,.int .i64 0,.int .i64 0]⟩],[],[curF B g 95 (.slice A code.length cap) code.length,slF (.slice A code.length cap) 1 (code.map byteRow),frF w (fun b => b = g)]⟩ (by kernel_rfl) ?_
  refine xw_seq ?_
  refine xw_seq ?_
  refine xw_region ?_
  refine xl_callWS 1 [0,2,3,5] [(0,.v (.pointer (some ⟨g,0,none⟩))),(2,.p 0 0),(3,.p 1 0),(5,.v (.pointer (some ⟨g,0,none⟩)))] 66 [.pointer (some ⟨g,0,none⟩),.int .i64 3] (some 6) 0 (curF B g 95 (.slice A code.length cap) code.length) (by kernel_rfl) rfl (by kernel_rfl) rfl (by kernel_rfl) rfl rfl (fun ww b h hb => Nat.le_trans (cutW_le w B) (cur_lo h hb)) (by kernel_rfl) (xcm_cur fun ww hw hf => l1Once_c g code A cap 3 ww B (Nat.le_trans (by first | exact Nat.le_refl _ | exact Nat.le_of_eq (cutW_size hB).symm) hw) (hf (curF B g 95 (.slice A code.length cap) code.length) (by simp)) (hf (slF (.slice A code.length cap) 1 (code.map byteRow)) (by simp)) hap (by omega)  ) ?_
  rintro ⟨y1,hy1⟩
  refine xl_endS [0,2,3,7] [(0,.v (.pointer (some ⟨g,0,none⟩))),(2,.p 0 0),(3,.p 1 0),(7,.v (.bool (!y1)))] (by kernel_rfl) ?_
  refine xw_cond (b := !y1) (by kernel_rfl) (fun h2 => ?_) (fun h2 => ?_)
  have h2n := not_t h2
  refine xw_region ?_
  refine xl_hvS 1 [0,2,3,8] [(0,.v (.pointer (some ⟨g,0,none⟩))),(2,.p 0 0),(3,.p 1 0),(8,.v (.pointer (some ⟨g,0,none⟩)))] (by kernel_rfl) rfl (by kernel_rfl) rfl (by kernel_rfl) (hv_build (e := 3) (K := 1) (bytes := 8) [.int .i64 536,.int .i64 1460,.int .i64 1300,.int .i64 64,.int .i64 65535,.int .i64 1] rfl (by kernel_rfl) (by kernel_rfl) (by kernel_rfl) (by kernel_rfl) (by kernel_rfl) (rs := ([536,1460,1300,64,65535,1] : List Int).map intRow) rfl) ?_
  intro g3
  refine xl_know (φ := ¬ (slF (.slice (some ⟨g3,0,none⟩) 6 6) 1 (([536,1460,1300,64,65535,1] : List Int).map intRow)).blk g) (fun _ _ _ _ hr => fun hb => hr.2.apart 0 1 (rowF (cutW w B).heap.size 3 1 (.slice (some ⟨g3,0,none⟩) 6 6) (([536,1460,1300,64,65535,1] : List Int).map intRow)) (curF B g 95 (.slice A code.length cap) code.length) rfl rfl (by decide) rfl g (rowF_sblk hb) rfl) (fun hk4 => ?_)
  refine xl_callWS 0 [0,2,3,8,9] [(0,.v (.pointer (some ⟨g,0,none⟩))),(2,.p 0 0),(3,.p 1 0),(8,.v (.pointer (some ⟨g,0,none⟩))),(9,.v (.slice (some ⟨g3,0,none⟩) 6 6))] 52 [.pointer (some ⟨g,0,none⟩),.slice (some ⟨g3,0,none⟩) 6 6] (some 10) 1 (curF B g 95 (.slice A code.length cap) code.length) (by kernel_rfl) rfl (by kernel_rfl) rfl (by kernel_rfl) rfl rfl (fun ww b h hb => Nat.le_trans (cutW_le w B) (cur_lo h hb)) (by kernel_rfl) (xcm_cur fun ww hw hf => l1PickInt_c g code A cap ([536,1460,1300,64,65535,1] : List Int) (.slice (some ⟨g3,0,none⟩) 6 6) ww B (Nat.le_trans (by first | exact Nat.le_refl _ | exact Nat.le_of_eq (cutW_size hB).symm) hw) (hf (curF B g 95 (.slice A code.length cap) code.length) (by simp)) (hf (slF (.slice A code.length cap) 1 (code.map byteRow)) (by simp)) hap (by omega) (rowF_sl (hf (rowF (cutW w B).heap.size 3 1 (.slice (some ⟨g3,0,none⟩) 6 6) (([536,1460,1300,64,65535,1] : List Int).map intRow)) (by simp))) hk4 (by simp)) ?_
  rintro ⟨y5,hy5⟩
  refine xl_end [0,2,3] ⟨[(0,.v (.pointer (some ⟨g,0,none⟩))),(2,.p 0 0),(3,.p 1 0)],[⟨25,[.int .i64 0,.int .i64 0,.bool false,.bool false,.int .i64 0,.int .i64 0]⟩,⟨25,[.int .i64 y5,.int .i64 (-1),.bool false,.bool false,.int .i64 0,.int .i64 0]⟩],[],[curF B g 95 (.slice A code.length cap) code.length,rowF (cutW w B).heap.size 3 1 (.slice (some ⟨g3,0,none⟩) 6 6) (([536,1460,1300,64,65535,1] : List Int).map intRow),slF (.slice A code.length cap) 1 (code.map byteRow),frF w (fun b => b = g)]⟩ (by kernel_rfl) ?_
  refine xw_seq ?_
  refine xw_seq ?_
  refine xw_region ?_
  refine xl_callWS 1 [0,2,3,12] [(0,.v (.pointer (some ⟨g,0,none⟩))),(2,.p 0 0),(3,.p 1 0),(12,.v (.pointer (some ⟨g,0,none⟩)))] 66 [.pointer (some ⟨g,0,none⟩),.int .i64 2] (some 13) 0 (curF B g 95 (.slice A code.length cap) code.length) (by kernel_rfl) rfl (by kernel_rfl) rfl (by kernel_rfl) rfl rfl (fun ww b h hb => Nat.le_trans (cutW_le w B) (cur_lo h hb)) (by kernel_rfl) (xcm_cur fun ww hw hf => l1Once_c g code A cap 2 ww B (Nat.le_trans (by first | exact Nat.le_refl _ | exact Nat.le_of_eq (cutW_size hB).symm) hw) (hf (curF B g 95 (.slice A code.length cap) code.length) (by simp)) (hf (slF (.slice A code.length cap) 1 (code.map byteRow)) (by simp)) hap (by omega)  ) ?_
  rintro ⟨y6,hy6⟩
  refine xl_endS [0,2,3,13] [(0,.v (.pointer (some ⟨g,0,none⟩))),(2,.p 0 0),(3,.p 1 0),(13,.v (.bool y6))] (by kernel_rfl) ?_
  refine xw_cond (b := y6) (by kernel_rfl) (fun h7 => ?_) (fun h7 => ?_)
  refine xw_region ?_
  refine xl_callWS 1 [0,2,3,14] [(0,.v (.pointer (some ⟨g,0,none⟩))),(2,.p 0 0),(3,.p 1 0),(14,.v (.pointer (some ⟨g,0,none⟩)))] 75 [.pointer (some ⟨g,0,none⟩),.int .i64 15] (some 15) 0 (curF B g 95 (.slice A code.length cap) code.length) (by kernel_rfl) rfl (by kernel_rfl) rfl (by kernel_rfl) rfl rfl (fun ww b h hb => Nat.le_trans (cutW_le w B) (cur_lo h hb)) (by kernel_rfl) (xcm_cur fun ww hw hf => l1Below_c g code A cap 15 ww B (Nat.le_trans (by first | exact Nat.le_refl _ | exact Nat.le_of_eq (cutW_size hB).symm) hw) (hf (curF B g 95 (.slice A code.length cap) code.length) (by simp)) (hf (slF (.slice A code.length cap) 1 (code.map byteRow)) (by simp)) hap (by omega)  ) ?_
  rintro ⟨y8,hy8⟩
  obtain ⟨hy80,hy81⟩ := hy8
  refine xl_end [0,2,3] ⟨[(0,.v (.pointer (some ⟨g,0,none⟩))),(2,.p 0 0),(3,.p 1 0)],[⟨25,[.int .i64 0,.int .i64 0,.bool false,.bool false,.int .i64 0,.int .i64 0]⟩,⟨25,[.int .i64 y5,.int .i64 y8,.bool false,.bool false,.int .i64 0,.int .i64 0]⟩],[],[curF B g 95 (.slice A code.length cap) code.length,rowF (cutW w B).heap.size 3 1 (.slice (some ⟨g3,0,none⟩) 6 6) (([536,1460,1300,64,65535,1] : List Int).map intRow),slF (.slice A code.length cap) 1 (code.map byteRow),frF w (fun b => b = g)]⟩ (by kernel_rfl) ?_
  refine xw_seq ?_
  refine xw_region ?_
  refine xl_callWS 1 [0,2,3,17] [(0,.v (.pointer (some ⟨g,0,none⟩))),(2,.p 0 0),(3,.p 1 0),(17,.v (.pointer (some ⟨g,0,none⟩)))] 66 [.pointer (some ⟨g,0,none⟩),.int .i64 2] (some 18) 0 (curF B g 95 (.slice A code.length cap) code.length) (by kernel_rfl) rfl (by kernel_rfl) rfl (by kernel_rfl) rfl rfl (fun ww b h hb => Nat.le_trans (cutW_le w B) (cur_lo h hb)) (by kernel_rfl) (xcm_cur fun ww hw hf => l1Once_c g code A cap 2 ww B (Nat.le_trans (by first | exact Nat.le_refl _ | exact Nat.le_of_eq (cutW_size hB).symm) hw) (hf (curF B g 95 (.slice A code.length cap) code.length) (by simp)) (hf (slF (.slice A code.length cap) 1 (code.map byteRow)) (by simp)) hap (by omega)  ) ?_
  rintro ⟨y9,hy9⟩
  refine xl_end [0,2,3] ⟨[(0,.v (.pointer (some ⟨g,0,none⟩))),(2,.p 0 0),(3,.p 1 0)],[⟨25,[.int .i64 0,.int .i64 0,.bool false,.bool false,.int .i64 0,.int .i64 0]⟩,⟨25,[.int .i64 y5,.int .i64 y8,.bool y9,.bool false,.int .i64 0,.int .i64 0]⟩],[],[curF B g 95 (.slice A code.length cap) code.length,rowF (cutW w B).heap.size 3 1 (.slice (some ⟨g3,0,none⟩) 6 6) (([536,1460,1300,64,65535,1] : List Int).map intRow),slF (.slice A code.length cap) 1 (code.map byteRow),frF w (fun b => b = g)]⟩ (by kernel_rfl) ?_
  refine xw_seq ?_
  refine xw_seq ?_
  refine xw_region ?_
  refine xl_callWS 1 [0,2,3,20] [(0,.v (.pointer (some ⟨g,0,none⟩))),(2,.p 0 0),(3,.p 1 0),(20,.v (.pointer (some ⟨g,0,none⟩)))] 66 [.pointer (some ⟨g,0,none⟩),.int .i64 2] (some 21) 0 (curF B g 95 (.slice A code.length cap) code.length) (by kernel_rfl) rfl (by kernel_rfl) rfl (by kernel_rfl) rfl rfl (fun ww b h hb => Nat.le_trans (cutW_le w B) (cur_lo h hb)) (by kernel_rfl) (xcm_cur fun ww hw hf => l1Once_c g code A cap 2 ww B (Nat.le_trans (by first | exact Nat.le_refl _ | exact Nat.le_of_eq (cutW_size hB).symm) hw) (hf (curF B g 95 (.slice A code.length cap) code.length) (by simp)) (hf (slF (.slice A code.length cap) 1 (code.map byteRow)) (by simp)) hap (by omega)  ) ?_
  rintro ⟨y10,hy10⟩
  refine xl_endS [0,2,3,21] [(0,.v (.pointer (some ⟨g,0,none⟩))),(2,.p 0 0),(3,.p 1 0),(21,.v (.bool y10))] (by kernel_rfl) ?_
  refine xw_cond (b := y10) (by kernel_rfl) (fun h11 => ?_) (fun h11 => ?_)
  refine xw_seq ?_
  refine xw_region ?_
  refine xl_end [0,2,3] ⟨[(0,.v (.pointer (some ⟨g,0,none⟩))),(2,.p 0 0),(3,.p 1 0)],[⟨25,[.int .i64 0,.int .i64 0,.bool false,.bool false,.int .i64 0,.int .i64 0]⟩,⟨25,[.int .i64 y5,.int .i64 y8,.bool y9,.bool true,.int .i64 0,.int .i64 0]⟩],[],[curF B g 95 (.slice A code.length cap) code.length,rowF (cutW w B).heap.size 3 1 (.slice (some ⟨g3,0,none⟩) 6 6) (([536,1460,1300,64,65535,1] : List Int).map intRow),slF (.slice A code.length cap) 1 (code.map byteRow),frF w (fun b => b = g)]⟩ (by kernel_rfl) ?_
  refine xw_seq ?_
  refine xw_region ?_
  refine xl_callWS 1 [0,2,3,23] [(0,.v (.pointer (some ⟨g,0,none⟩))),(2,.p 0 0),(3,.p 1 0),(23,.v (.pointer (some ⟨g,0,none⟩)))] 80 [.pointer (some ⟨g,0,none⟩)] (some 24) 0 (curF B g 95 (.slice A code.length cap) code.length) (by kernel_rfl) rfl (by kernel_rfl) rfl (by kernel_rfl) rfl rfl (fun ww b h hb => Nat.le_trans (cutW_le w B) (cur_lo h hb)) (by kernel_rfl) (xcm_cur fun ww hw hf => l2Deep_c g code A cap  ww B (Nat.le_trans (by first | exact Nat.le_refl _ | exact Nat.le_of_eq (cutW_size hB).symm) hw) (hf (curF B g 95 (.slice A code.length cap) code.length) (by simp)) (hf (slF (.slice A code.length cap) 1 (code.map byteRow)) (by simp)) hap (by omega)  ) ?_
  rintro ⟨y12,hy12⟩
  refine xl_end [0,2,3] ⟨[(0,.v (.pointer (some ⟨g,0,none⟩))),(2,.p 0 0),(3,.p 1 0)],[⟨25,[.int .i64 0,.int .i64 0,.bool false,.bool false,.int .i64 0,.int .i64 0]⟩,⟨25,[.int .i64 y5,.int .i64 y8,.bool y9,.bool true,.int .i64 y12,.int .i64 0]⟩],[],[curF B g 95 (.slice A code.length cap) code.length,rowF (cutW w B).heap.size 3 1 (.slice (some ⟨g3,0,none⟩) 6 6) (([536,1460,1300,64,65535,1] : List Int).map intRow),slF (.slice A code.length cap) 1 (code.map byteRow),frF w (fun b => b = g)]⟩ (by kernel_rfl) ?_
  refine xw_region ?_
  refine xl_callWS 1 [2,3,26] [(2,.p 0 0),(3,.p 1 0),(26,.v (.pointer (some ⟨g,0,none⟩)))] 80 [.pointer (some ⟨g,0,none⟩)] (some 27) 0 (curF B g 95 (.slice A code.length cap) code.length) (by kernel_rfl) rfl (by kernel_rfl) rfl (by kernel_rfl) rfl rfl (fun ww b h hb => Nat.le_trans (cutW_le w B) (cur_lo h hb)) (by kernel_rfl) (xcm_cur fun ww hw hf => l2Deep_c g code A cap  ww B (Nat.le_trans (by first | exact Nat.le_refl _ | exact Nat.le_of_eq (cutW_size hB).symm) hw) (hf (curF B g 95 (.slice A code.length cap) code.length) (by simp)) (hf (slF (.slice A code.length cap) 1 (code.map byteRow)) (by simp)) hap (by omega)  ) ?_
  rintro ⟨y13,hy13⟩
  refine xl_end [2,3] ⟨[(2,.p 0 0),(3,.p 1 0)],[⟨25,[.int .i64 0,.int .i64 0,.bool false,.bool false,.int .i64 0,.int .i64 0]⟩,⟨25,[.int .i64 y5,.int .i64 y8,.bool y9,.bool true,.int .i64 y12,.int .i64 y13]⟩],[],[curF B g 95 (.slice A code.length cap) code.length,rowF (cutW w B).heap.size 3 1 (.slice (some ⟨g3,0,none⟩) 6 6) (([536,1460,1300,64,65535,1] : List Int).map intRow),slF (.slice A code.length cap) 1 (code.map byteRow),frF w (fun b => b = g)]⟩ (by kernel_rfl) ?_
  refine xw_seq ?_
  refine xw_region ?_
  refine xl_end [2] ⟨[(2,.p 0 0)],[⟨25,[.int .i64 y5,.int .i64 y8,.bool y9,.bool true,.int .i64 y12,.int .i64 y13]⟩,⟨25,[.int .i64 y5,.int .i64 y8,.bool y9,.bool true,.int .i64 y12,.int .i64 y13]⟩],[],[curF B g 95 (.slice A code.length cap) code.length,rowF (cutW w B).heap.size 3 1 (.slice (some ⟨g3,0,none⟩) 6 6) (([536,1460,1300,64,65535,1] : List Int).map intRow),slF (.slice A code.length cap) 1 (code.map byteRow),frF w (fun b => b = g)]⟩ (by kernel_rfl) ?_
  refine xw_ret ?_
  exact ⟨[.agg #[.int .i64 y5,.int .i64 y8,.bool y9,.bool true,.int .i64 y12,.int .i64 y13]],by kernel_rfl,fun w' hb hf => ⟨⟨⟨y5,y8,y9,true,y12,y13⟩,trivial⟩,rfl,hf (curF B g 95 (.slice A code.length cap) code.length) (by simp),frF_chgd (hf (frF w (fun b => b = g)) (by simp)) hb rfl rfl rfl⟩⟩
  refine xw_skip ?_
  refine xw_seq ?_
  refine xw_region ?_
  refine xl_end [2] ⟨[(2,.p 0 0)],[⟨25,[.int .i64 y5,.int .i64 y8,.bool y9,.bool false,.int .i64 0,.int .i64 0]⟩,⟨25,[.int .i64 y5,.int .i64 y8,.bool y9,.bool false,.int .i64 0,.int .i64 0]⟩],[],[curF B g 95 (.slice A code.length cap) code.length,rowF (cutW w B).heap.size 3 1 (.slice (some ⟨g3,0,none⟩) 6 6) (([536,1460,1300,64,65535,1] : List Int).map intRow),slF (.slice A code.length cap) 1 (code.map byteRow),frF w (fun b => b = g)]⟩ (by kernel_rfl) ?_
  refine xw_ret ?_
  exact ⟨[.agg #[.int .i64 y5,.int .i64 y8,.bool y9,.bool false,.int .i64 0,.int .i64 0]],by kernel_rfl,fun w' hb hf => ⟨⟨⟨y5,y8,y9,false,0,0⟩,trivial⟩,rfl,hf (curF B g 95 (.slice A code.length cap) code.length) (by simp),frF_chgd (hf (frF w (fun b => b = g)) (by simp)) hb rfl rfl rfl⟩⟩
  refine xw_skip ?_
  refine xw_seq ?_
  refine xw_region ?_
  refine xl_callWS 1 [0,2,3,17] [(0,.v (.pointer (some ⟨g,0,none⟩))),(2,.p 0 0),(3,.p 1 0),(17,.v (.pointer (some ⟨g,0,none⟩)))] 66 [.pointer (some ⟨g,0,none⟩),.int .i64 2] (some 18) 0 (curF B g 95 (.slice A code.length cap) code.length) (by kernel_rfl) rfl (by kernel_rfl) rfl (by kernel_rfl) rfl rfl (fun ww b h hb => Nat.le_trans (cutW_le w B) (cur_lo h hb)) (by kernel_rfl) (xcm_cur fun ww hw hf => l1Once_c g code A cap 2 ww B (Nat.le_trans (by first | exact Nat.le_refl _ | exact Nat.le_of_eq (cutW_size hB).symm) hw) (hf (curF B g 95 (.slice A code.length cap) code.length) (by simp)) (hf (slF (.slice A code.length cap) 1 (code.map byteRow)) (by simp)) hap (by omega)  ) ?_
  rintro ⟨y14,hy14⟩
  refine xl_end [0,2,3] ⟨[(0,.v (.pointer (some ⟨g,0,none⟩))),(2,.p 0 0),(3,.p 1 0)],[⟨25,[.int .i64 0,.int .i64 0,.bool false,.bool false,.int .i64 0,.int .i64 0]⟩,⟨25,[.int .i64 y5,.int .i64 (-1),.bool y14,.bool false,.int .i64 0,.int .i64 0]⟩],[],[curF B g 95 (.slice A code.length cap) code.length,rowF (cutW w B).heap.size 3 1 (.slice (some ⟨g3,0,none⟩) 6 6) (([536,1460,1300,64,65535,1] : List Int).map intRow),slF (.slice A code.length cap) 1 (code.map byteRow),frF w (fun b => b = g)]⟩ (by kernel_rfl) ?_
  refine xw_seq ?_
  refine xw_seq ?_
  refine xw_region ?_
  refine xl_callWS 1 [0,2,3,20] [(0,.v (.pointer (some ⟨g,0,none⟩))),(2,.p 0 0),(3,.p 1 0),(20,.v (.pointer (some ⟨g,0,none⟩)))] 66 [.pointer (some ⟨g,0,none⟩),.int .i64 2] (some 21) 0 (curF B g 95 (.slice A code.length cap) code.length) (by kernel_rfl) rfl (by kernel_rfl) rfl (by kernel_rfl) rfl rfl (fun ww b h hb => Nat.le_trans (cutW_le w B) (cur_lo h hb)) (by kernel_rfl) (xcm_cur fun ww hw hf => l1Once_c g code A cap 2 ww B (Nat.le_trans (by first | exact Nat.le_refl _ | exact Nat.le_of_eq (cutW_size hB).symm) hw) (hf (curF B g 95 (.slice A code.length cap) code.length) (by simp)) (hf (slF (.slice A code.length cap) 1 (code.map byteRow)) (by simp)) hap (by omega)  ) ?_
  rintro ⟨y15,hy15⟩
  refine xl_endS [0,2,3,21] [(0,.v (.pointer (some ⟨g,0,none⟩))),(2,.p 0 0),(3,.p 1 0),(21,.v (.bool y15))] (by kernel_rfl) ?_
  refine xw_cond (b := y15) (by kernel_rfl) (fun h16 => ?_) (fun h16 => ?_)
  refine xw_seq ?_
  refine xw_region ?_
  refine xl_end [0,2,3] ⟨[(0,.v (.pointer (some ⟨g,0,none⟩))),(2,.p 0 0),(3,.p 1 0)],[⟨25,[.int .i64 0,.int .i64 0,.bool false,.bool false,.int .i64 0,.int .i64 0]⟩,⟨25,[.int .i64 y5,.int .i64 (-1),.bool y14,.bool true,.int .i64 0,.int .i64 0]⟩],[],[curF B g 95 (.slice A code.length cap) code.length,rowF (cutW w B).heap.size 3 1 (.slice (some ⟨g3,0,none⟩) 6 6) (([536,1460,1300,64,65535,1] : List Int).map intRow),slF (.slice A code.length cap) 1 (code.map byteRow),frF w (fun b => b = g)]⟩ (by kernel_rfl) ?_
  refine xw_seq ?_
  refine xw_region ?_
  refine xl_callWS 1 [0,2,3,23] [(0,.v (.pointer (some ⟨g,0,none⟩))),(2,.p 0 0),(3,.p 1 0),(23,.v (.pointer (some ⟨g,0,none⟩)))] 80 [.pointer (some ⟨g,0,none⟩)] (some 24) 0 (curF B g 95 (.slice A code.length cap) code.length) (by kernel_rfl) rfl (by kernel_rfl) rfl (by kernel_rfl) rfl rfl (fun ww b h hb => Nat.le_trans (cutW_le w B) (cur_lo h hb)) (by kernel_rfl) (xcm_cur fun ww hw hf => l2Deep_c g code A cap  ww B (Nat.le_trans (by first | exact Nat.le_refl _ | exact Nat.le_of_eq (cutW_size hB).symm) hw) (hf (curF B g 95 (.slice A code.length cap) code.length) (by simp)) (hf (slF (.slice A code.length cap) 1 (code.map byteRow)) (by simp)) hap (by omega)  ) ?_
  rintro ⟨y17,hy17⟩
  refine xl_end [0,2,3] ⟨[(0,.v (.pointer (some ⟨g,0,none⟩))),(2,.p 0 0),(3,.p 1 0)],[⟨25,[.int .i64 0,.int .i64 0,.bool false,.bool false,.int .i64 0,.int .i64 0]⟩,⟨25,[.int .i64 y5,.int .i64 (-1),.bool y14,.bool true,.int .i64 y17,.int .i64 0]⟩],[],[curF B g 95 (.slice A code.length cap) code.length,rowF (cutW w B).heap.size 3 1 (.slice (some ⟨g3,0,none⟩) 6 6) (([536,1460,1300,64,65535,1] : List Int).map intRow),slF (.slice A code.length cap) 1 (code.map byteRow),frF w (fun b => b = g)]⟩ (by kernel_rfl) ?_
  refine xw_region ?_
  refine xl_callWS 1 [2,3,26] [(2,.p 0 0),(3,.p 1 0),(26,.v (.pointer (some ⟨g,0,none⟩)))] 80 [.pointer (some ⟨g,0,none⟩)] (some 27) 0 (curF B g 95 (.slice A code.length cap) code.length) (by kernel_rfl) rfl (by kernel_rfl) rfl (by kernel_rfl) rfl rfl (fun ww b h hb => Nat.le_trans (cutW_le w B) (cur_lo h hb)) (by kernel_rfl) (xcm_cur fun ww hw hf => l2Deep_c g code A cap  ww B (Nat.le_trans (by first | exact Nat.le_refl _ | exact Nat.le_of_eq (cutW_size hB).symm) hw) (hf (curF B g 95 (.slice A code.length cap) code.length) (by simp)) (hf (slF (.slice A code.length cap) 1 (code.map byteRow)) (by simp)) hap (by omega)  ) ?_
  rintro ⟨y18,hy18⟩
  refine xl_end [2,3] ⟨[(2,.p 0 0),(3,.p 1 0)],[⟨25,[.int .i64 0,.int .i64 0,.bool false,.bool false,.int .i64 0,.int .i64 0]⟩,⟨25,[.int .i64 y5,.int .i64 (-1),.bool y14,.bool true,.int .i64 y17,.int .i64 y18]⟩],[],[curF B g 95 (.slice A code.length cap) code.length,rowF (cutW w B).heap.size 3 1 (.slice (some ⟨g3,0,none⟩) 6 6) (([536,1460,1300,64,65535,1] : List Int).map intRow),slF (.slice A code.length cap) 1 (code.map byteRow),frF w (fun b => b = g)]⟩ (by kernel_rfl) ?_
  refine xw_seq ?_
  refine xw_region ?_
  refine xl_end [2] ⟨[(2,.p 0 0)],[⟨25,[.int .i64 y5,.int .i64 (-1),.bool y14,.bool true,.int .i64 y17,.int .i64 y18]⟩,⟨25,[.int .i64 y5,.int .i64 (-1),.bool y14,.bool true,.int .i64 y17,.int .i64 y18]⟩],[],[curF B g 95 (.slice A code.length cap) code.length,rowF (cutW w B).heap.size 3 1 (.slice (some ⟨g3,0,none⟩) 6 6) (([536,1460,1300,64,65535,1] : List Int).map intRow),slF (.slice A code.length cap) 1 (code.map byteRow),frF w (fun b => b = g)]⟩ (by kernel_rfl) ?_
  refine xw_ret ?_
  exact ⟨[.agg #[.int .i64 y5,.int .i64 (-1),.bool y14,.bool true,.int .i64 y17,.int .i64 y18]],by kernel_rfl,fun w' hb hf => ⟨⟨⟨y5,(-1),y14,true,y17,y18⟩,trivial⟩,rfl,hf (curF B g 95 (.slice A code.length cap) code.length) (by simp),frF_chgd (hf (frF w (fun b => b = g)) (by simp)) hb rfl rfl rfl⟩⟩
  refine xw_skip ?_
  refine xw_seq ?_
  refine xw_region ?_
  refine xl_end [2] ⟨[(2,.p 0 0)],[⟨25,[.int .i64 y5,.int .i64 (-1),.bool y14,.bool false,.int .i64 0,.int .i64 0]⟩,⟨25,[.int .i64 y5,.int .i64 (-1),.bool y14,.bool false,.int .i64 0,.int .i64 0]⟩],[],[curF B g 95 (.slice A code.length cap) code.length,rowF (cutW w B).heap.size 3 1 (.slice (some ⟨g3,0,none⟩) 6 6) (([536,1460,1300,64,65535,1] : List Int).map intRow),slF (.slice A code.length cap) 1 (code.map byteRow),frF w (fun b => b = g)]⟩ (by kernel_rfl) ?_
  refine xw_ret ?_
  exact ⟨[.agg #[.int .i64 y5,.int .i64 (-1),.bool y14,.bool false,.int .i64 0,.int .i64 0]],by kernel_rfl,fun w' hb hf => ⟨⟨⟨y5,(-1),y14,false,0,0⟩,trivial⟩,rfl,hf (curF B g 95 (.slice A code.length cap) code.length) (by simp),frF_chgd (hf (frF w (fun b => b = g)) (by simp)) hb rfl rfl rfl⟩⟩
  have h2n := not_f h2
  refine xw_skip ?_
  refine xw_seq ?_
  refine xw_seq ?_
  refine xw_region ?_
  refine xl_callWS 1 [0,2,3,12] [(0,.v (.pointer (some ⟨g,0,none⟩))),(2,.p 0 0),(3,.p 1 0),(12,.v (.pointer (some ⟨g,0,none⟩)))] 66 [.pointer (some ⟨g,0,none⟩),.int .i64 2] (some 13) 0 (curF B g 95 (.slice A code.length cap) code.length) (by kernel_rfl) rfl (by kernel_rfl) rfl (by kernel_rfl) rfl rfl (fun ww b h hb => Nat.le_trans (cutW_le w B) (cur_lo h hb)) (by kernel_rfl) (xcm_cur fun ww hw hf => l1Once_c g code A cap 2 ww B (Nat.le_trans (by first | exact Nat.le_refl _ | exact Nat.le_of_eq (cutW_size hB).symm) hw) (hf (curF B g 95 (.slice A code.length cap) code.length) (by simp)) (hf (slF (.slice A code.length cap) 1 (code.map byteRow)) (by simp)) hap (by omega)  ) ?_
  rintro ⟨y19,hy19⟩
  refine xl_endS [0,2,3,13] [(0,.v (.pointer (some ⟨g,0,none⟩))),(2,.p 0 0),(3,.p 1 0),(13,.v (.bool y19))] (by kernel_rfl) ?_
  refine xw_cond (b := y19) (by kernel_rfl) (fun h20 => ?_) (fun h20 => ?_)
  refine xw_region ?_
  refine xl_callWS 1 [0,2,3,14] [(0,.v (.pointer (some ⟨g,0,none⟩))),(2,.p 0 0),(3,.p 1 0),(14,.v (.pointer (some ⟨g,0,none⟩)))] 75 [.pointer (some ⟨g,0,none⟩),.int .i64 15] (some 15) 0 (curF B g 95 (.slice A code.length cap) code.length) (by kernel_rfl) rfl (by kernel_rfl) rfl (by kernel_rfl) rfl rfl (fun ww b h hb => Nat.le_trans (cutW_le w B) (cur_lo h hb)) (by kernel_rfl) (xcm_cur fun ww hw hf => l1Below_c g code A cap 15 ww B (Nat.le_trans (by first | exact Nat.le_refl _ | exact Nat.le_of_eq (cutW_size hB).symm) hw) (hf (curF B g 95 (.slice A code.length cap) code.length) (by simp)) (hf (slF (.slice A code.length cap) 1 (code.map byteRow)) (by simp)) hap (by omega)  ) ?_
  rintro ⟨y21,hy21⟩
  obtain ⟨hy210,hy211⟩ := hy21
  refine xl_end [0,2,3] ⟨[(0,.v (.pointer (some ⟨g,0,none⟩))),(2,.p 0 0),(3,.p 1 0)],[⟨25,[.int .i64 0,.int .i64 0,.bool false,.bool false,.int .i64 0,.int .i64 0]⟩,⟨25,[.int .i64 0,.int .i64 y21,.bool false,.bool false,.int .i64 0,.int .i64 0]⟩],[],[curF B g 95 (.slice A code.length cap) code.length,slF (.slice A code.length cap) 1 (code.map byteRow),frF w (fun b => b = g)]⟩ (by kernel_rfl) ?_
  refine xw_seq ?_
  refine xw_region ?_
  refine xl_callWS 1 [0,2,3,17] [(0,.v (.pointer (some ⟨g,0,none⟩))),(2,.p 0 0),(3,.p 1 0),(17,.v (.pointer (some ⟨g,0,none⟩)))] 66 [.pointer (some ⟨g,0,none⟩),.int .i64 2] (some 18) 0 (curF B g 95 (.slice A code.length cap) code.length) (by kernel_rfl) rfl (by kernel_rfl) rfl (by kernel_rfl) rfl rfl (fun ww b h hb => Nat.le_trans (cutW_le w B) (cur_lo h hb)) (by kernel_rfl) (xcm_cur fun ww hw hf => l1Once_c g code A cap 2 ww B (Nat.le_trans (by first | exact Nat.le_refl _ | exact Nat.le_of_eq (cutW_size hB).symm) hw) (hf (curF B g 95 (.slice A code.length cap) code.length) (by simp)) (hf (slF (.slice A code.length cap) 1 (code.map byteRow)) (by simp)) hap (by omega)  ) ?_
  rintro ⟨y22,hy22⟩
  refine xl_end [0,2,3] ⟨[(0,.v (.pointer (some ⟨g,0,none⟩))),(2,.p 0 0),(3,.p 1 0)],[⟨25,[.int .i64 0,.int .i64 0,.bool false,.bool false,.int .i64 0,.int .i64 0]⟩,⟨25,[.int .i64 0,.int .i64 y21,.bool y22,.bool false,.int .i64 0,.int .i64 0]⟩],[],[curF B g 95 (.slice A code.length cap) code.length,slF (.slice A code.length cap) 1 (code.map byteRow),frF w (fun b => b = g)]⟩ (by kernel_rfl) ?_
  refine xw_seq ?_
  refine xw_seq ?_
  refine xw_region ?_
  refine xl_callWS 1 [0,2,3,20] [(0,.v (.pointer (some ⟨g,0,none⟩))),(2,.p 0 0),(3,.p 1 0),(20,.v (.pointer (some ⟨g,0,none⟩)))] 66 [.pointer (some ⟨g,0,none⟩),.int .i64 2] (some 21) 0 (curF B g 95 (.slice A code.length cap) code.length) (by kernel_rfl) rfl (by kernel_rfl) rfl (by kernel_rfl) rfl rfl (fun ww b h hb => Nat.le_trans (cutW_le w B) (cur_lo h hb)) (by kernel_rfl) (xcm_cur fun ww hw hf => l1Once_c g code A cap 2 ww B (Nat.le_trans (by first | exact Nat.le_refl _ | exact Nat.le_of_eq (cutW_size hB).symm) hw) (hf (curF B g 95 (.slice A code.length cap) code.length) (by simp)) (hf (slF (.slice A code.length cap) 1 (code.map byteRow)) (by simp)) hap (by omega)  ) ?_
  rintro ⟨y23,hy23⟩
  refine xl_endS [0,2,3,21] [(0,.v (.pointer (some ⟨g,0,none⟩))),(2,.p 0 0),(3,.p 1 0),(21,.v (.bool y23))] (by kernel_rfl) ?_
  refine xw_cond (b := y23) (by kernel_rfl) (fun h24 => ?_) (fun h24 => ?_)
  refine xw_seq ?_
  refine xw_region ?_
  refine xl_end [0,2,3] ⟨[(0,.v (.pointer (some ⟨g,0,none⟩))),(2,.p 0 0),(3,.p 1 0)],[⟨25,[.int .i64 0,.int .i64 0,.bool false,.bool false,.int .i64 0,.int .i64 0]⟩,⟨25,[.int .i64 0,.int .i64 y21,.bool y22,.bool true,.int .i64 0,.int .i64 0]⟩],[],[curF B g 95 (.slice A code.length cap) code.length,slF (.slice A code.length cap) 1 (code.map byteRow),frF w (fun b => b = g)]⟩ (by kernel_rfl) ?_
  refine xw_seq ?_
  refine xw_region ?_
  refine xl_callWS 1 [0,2,3,23] [(0,.v (.pointer (some ⟨g,0,none⟩))),(2,.p 0 0),(3,.p 1 0),(23,.v (.pointer (some ⟨g,0,none⟩)))] 80 [.pointer (some ⟨g,0,none⟩)] (some 24) 0 (curF B g 95 (.slice A code.length cap) code.length) (by kernel_rfl) rfl (by kernel_rfl) rfl (by kernel_rfl) rfl rfl (fun ww b h hb => Nat.le_trans (cutW_le w B) (cur_lo h hb)) (by kernel_rfl) (xcm_cur fun ww hw hf => l2Deep_c g code A cap  ww B (Nat.le_trans (by first | exact Nat.le_refl _ | exact Nat.le_of_eq (cutW_size hB).symm) hw) (hf (curF B g 95 (.slice A code.length cap) code.length) (by simp)) (hf (slF (.slice A code.length cap) 1 (code.map byteRow)) (by simp)) hap (by omega)  ) ?_
  rintro ⟨y25,hy25⟩
  refine xl_end [0,2,3] ⟨[(0,.v (.pointer (some ⟨g,0,none⟩))),(2,.p 0 0),(3,.p 1 0)],[⟨25,[.int .i64 0,.int .i64 0,.bool false,.bool false,.int .i64 0,.int .i64 0]⟩,⟨25,[.int .i64 0,.int .i64 y21,.bool y22,.bool true,.int .i64 y25,.int .i64 0]⟩],[],[curF B g 95 (.slice A code.length cap) code.length,slF (.slice A code.length cap) 1 (code.map byteRow),frF w (fun b => b = g)]⟩ (by kernel_rfl) ?_
  refine xw_region ?_
  refine xl_callWS 1 [2,3,26] [(2,.p 0 0),(3,.p 1 0),(26,.v (.pointer (some ⟨g,0,none⟩)))] 80 [.pointer (some ⟨g,0,none⟩)] (some 27) 0 (curF B g 95 (.slice A code.length cap) code.length) (by kernel_rfl) rfl (by kernel_rfl) rfl (by kernel_rfl) rfl rfl (fun ww b h hb => Nat.le_trans (cutW_le w B) (cur_lo h hb)) (by kernel_rfl) (xcm_cur fun ww hw hf => l2Deep_c g code A cap  ww B (Nat.le_trans (by first | exact Nat.le_refl _ | exact Nat.le_of_eq (cutW_size hB).symm) hw) (hf (curF B g 95 (.slice A code.length cap) code.length) (by simp)) (hf (slF (.slice A code.length cap) 1 (code.map byteRow)) (by simp)) hap (by omega)  ) ?_
  rintro ⟨y26,hy26⟩
  refine xl_end [2,3] ⟨[(2,.p 0 0),(3,.p 1 0)],[⟨25,[.int .i64 0,.int .i64 0,.bool false,.bool false,.int .i64 0,.int .i64 0]⟩,⟨25,[.int .i64 0,.int .i64 y21,.bool y22,.bool true,.int .i64 y25,.int .i64 y26]⟩],[],[curF B g 95 (.slice A code.length cap) code.length,slF (.slice A code.length cap) 1 (code.map byteRow),frF w (fun b => b = g)]⟩ (by kernel_rfl) ?_
  refine xw_seq ?_
  refine xw_region ?_
  refine xl_end [2] ⟨[(2,.p 0 0)],[⟨25,[.int .i64 0,.int .i64 y21,.bool y22,.bool true,.int .i64 y25,.int .i64 y26]⟩,⟨25,[.int .i64 0,.int .i64 y21,.bool y22,.bool true,.int .i64 y25,.int .i64 y26]⟩],[],[curF B g 95 (.slice A code.length cap) code.length,slF (.slice A code.length cap) 1 (code.map byteRow),frF w (fun b => b = g)]⟩ (by kernel_rfl) ?_
  refine xw_ret ?_
  exact ⟨[.agg #[.int .i64 0,.int .i64 y21,.bool y22,.bool true,.int .i64 y25,.int .i64 y26]],by kernel_rfl,fun w' hb hf => ⟨⟨⟨0,y21,y22,true,y25,y26⟩,trivial⟩,rfl,hf (curF B g 95 (.slice A code.length cap) code.length) (by simp),frF_chgd (hf (frF w (fun b => b = g)) (by simp)) hb rfl rfl rfl⟩⟩
  refine xw_skip ?_
  refine xw_seq ?_
  refine xw_region ?_
  refine xl_end [2] ⟨[(2,.p 0 0)],[⟨25,[.int .i64 0,.int .i64 y21,.bool y22,.bool false,.int .i64 0,.int .i64 0]⟩,⟨25,[.int .i64 0,.int .i64 y21,.bool y22,.bool false,.int .i64 0,.int .i64 0]⟩],[],[curF B g 95 (.slice A code.length cap) code.length,slF (.slice A code.length cap) 1 (code.map byteRow),frF w (fun b => b = g)]⟩ (by kernel_rfl) ?_
  refine xw_ret ?_
  exact ⟨[.agg #[.int .i64 0,.int .i64 y21,.bool y22,.bool false,.int .i64 0,.int .i64 0]],by kernel_rfl,fun w' hb hf => ⟨⟨⟨0,y21,y22,false,0,0⟩,trivial⟩,rfl,hf (curF B g 95 (.slice A code.length cap) code.length) (by simp),frF_chgd (hf (frF w (fun b => b = g)) (by simp)) hb rfl rfl rfl⟩⟩
  refine xw_skip ?_
  refine xw_seq ?_
  refine xw_region ?_
  refine xl_callWS 1 [0,2,3,17] [(0,.v (.pointer (some ⟨g,0,none⟩))),(2,.p 0 0),(3,.p 1 0),(17,.v (.pointer (some ⟨g,0,none⟩)))] 66 [.pointer (some ⟨g,0,none⟩),.int .i64 2] (some 18) 0 (curF B g 95 (.slice A code.length cap) code.length) (by kernel_rfl) rfl (by kernel_rfl) rfl (by kernel_rfl) rfl rfl (fun ww b h hb => Nat.le_trans (cutW_le w B) (cur_lo h hb)) (by kernel_rfl) (xcm_cur fun ww hw hf => l1Once_c g code A cap 2 ww B (Nat.le_trans (by first | exact Nat.le_refl _ | exact Nat.le_of_eq (cutW_size hB).symm) hw) (hf (curF B g 95 (.slice A code.length cap) code.length) (by simp)) (hf (slF (.slice A code.length cap) 1 (code.map byteRow)) (by simp)) hap (by omega)  ) ?_
  rintro ⟨y27,hy27⟩
  refine xl_end [0,2,3] ⟨[(0,.v (.pointer (some ⟨g,0,none⟩))),(2,.p 0 0),(3,.p 1 0)],[⟨25,[.int .i64 0,.int .i64 0,.bool false,.bool false,.int .i64 0,.int .i64 0]⟩,⟨25,[.int .i64 0,.int .i64 (-1),.bool y27,.bool false,.int .i64 0,.int .i64 0]⟩],[],[curF B g 95 (.slice A code.length cap) code.length,slF (.slice A code.length cap) 1 (code.map byteRow),frF w (fun b => b = g)]⟩ (by kernel_rfl) ?_
  refine xw_seq ?_
  refine xw_seq ?_
  refine xw_region ?_
  refine xl_callWS 1 [0,2,3,20] [(0,.v (.pointer (some ⟨g,0,none⟩))),(2,.p 0 0),(3,.p 1 0),(20,.v (.pointer (some ⟨g,0,none⟩)))] 66 [.pointer (some ⟨g,0,none⟩),.int .i64 2] (some 21) 0 (curF B g 95 (.slice A code.length cap) code.length) (by kernel_rfl) rfl (by kernel_rfl) rfl (by kernel_rfl) rfl rfl (fun ww b h hb => Nat.le_trans (cutW_le w B) (cur_lo h hb)) (by kernel_rfl) (xcm_cur fun ww hw hf => l1Once_c g code A cap 2 ww B (Nat.le_trans (by first | exact Nat.le_refl _ | exact Nat.le_of_eq (cutW_size hB).symm) hw) (hf (curF B g 95 (.slice A code.length cap) code.length) (by simp)) (hf (slF (.slice A code.length cap) 1 (code.map byteRow)) (by simp)) hap (by omega)  ) ?_
  rintro ⟨y28,hy28⟩
  refine xl_endS [0,2,3,21] [(0,.v (.pointer (some ⟨g,0,none⟩))),(2,.p 0 0),(3,.p 1 0),(21,.v (.bool y28))] (by kernel_rfl) ?_
  refine xw_cond (b := y28) (by kernel_rfl) (fun h29 => ?_) (fun h29 => ?_)
  refine xw_seq ?_
  refine xw_region ?_
  refine xl_end [0,2,3] ⟨[(0,.v (.pointer (some ⟨g,0,none⟩))),(2,.p 0 0),(3,.p 1 0)],[⟨25,[.int .i64 0,.int .i64 0,.bool false,.bool false,.int .i64 0,.int .i64 0]⟩,⟨25,[.int .i64 0,.int .i64 (-1),.bool y27,.bool true,.int .i64 0,.int .i64 0]⟩],[],[curF B g 95 (.slice A code.length cap) code.length,slF (.slice A code.length cap) 1 (code.map byteRow),frF w (fun b => b = g)]⟩ (by kernel_rfl) ?_
  refine xw_seq ?_
  refine xw_region ?_
  refine xl_callWS 1 [0,2,3,23] [(0,.v (.pointer (some ⟨g,0,none⟩))),(2,.p 0 0),(3,.p 1 0),(23,.v (.pointer (some ⟨g,0,none⟩)))] 80 [.pointer (some ⟨g,0,none⟩)] (some 24) 0 (curF B g 95 (.slice A code.length cap) code.length) (by kernel_rfl) rfl (by kernel_rfl) rfl (by kernel_rfl) rfl rfl (fun ww b h hb => Nat.le_trans (cutW_le w B) (cur_lo h hb)) (by kernel_rfl) (xcm_cur fun ww hw hf => l2Deep_c g code A cap  ww B (Nat.le_trans (by first | exact Nat.le_refl _ | exact Nat.le_of_eq (cutW_size hB).symm) hw) (hf (curF B g 95 (.slice A code.length cap) code.length) (by simp)) (hf (slF (.slice A code.length cap) 1 (code.map byteRow)) (by simp)) hap (by omega)  ) ?_
  rintro ⟨y30,hy30⟩
  refine xl_end [0,2,3] ⟨[(0,.v (.pointer (some ⟨g,0,none⟩))),(2,.p 0 0),(3,.p 1 0)],[⟨25,[.int .i64 0,.int .i64 0,.bool false,.bool false,.int .i64 0,.int .i64 0]⟩,⟨25,[.int .i64 0,.int .i64 (-1),.bool y27,.bool true,.int .i64 y30,.int .i64 0]⟩],[],[curF B g 95 (.slice A code.length cap) code.length,slF (.slice A code.length cap) 1 (code.map byteRow),frF w (fun b => b = g)]⟩ (by kernel_rfl) ?_
  refine xw_region ?_
  refine xl_callWS 1 [2,3,26] [(2,.p 0 0),(3,.p 1 0),(26,.v (.pointer (some ⟨g,0,none⟩)))] 80 [.pointer (some ⟨g,0,none⟩)] (some 27) 0 (curF B g 95 (.slice A code.length cap) code.length) (by kernel_rfl) rfl (by kernel_rfl) rfl (by kernel_rfl) rfl rfl (fun ww b h hb => Nat.le_trans (cutW_le w B) (cur_lo h hb)) (by kernel_rfl) (xcm_cur fun ww hw hf => l2Deep_c g code A cap  ww B (Nat.le_trans (by first | exact Nat.le_refl _ | exact Nat.le_of_eq (cutW_size hB).symm) hw) (hf (curF B g 95 (.slice A code.length cap) code.length) (by simp)) (hf (slF (.slice A code.length cap) 1 (code.map byteRow)) (by simp)) hap (by omega)  ) ?_
  rintro ⟨y31,hy31⟩
  refine xl_end [2,3] ⟨[(2,.p 0 0),(3,.p 1 0)],[⟨25,[.int .i64 0,.int .i64 0,.bool false,.bool false,.int .i64 0,.int .i64 0]⟩,⟨25,[.int .i64 0,.int .i64 (-1),.bool y27,.bool true,.int .i64 y30,.int .i64 y31]⟩],[],[curF B g 95 (.slice A code.length cap) code.length,slF (.slice A code.length cap) 1 (code.map byteRow),frF w (fun b => b = g)]⟩ (by kernel_rfl) ?_
  refine xw_seq ?_
  refine xw_region ?_
  refine xl_end [2] ⟨[(2,.p 0 0)],[⟨25,[.int .i64 0,.int .i64 (-1),.bool y27,.bool true,.int .i64 y30,.int .i64 y31]⟩,⟨25,[.int .i64 0,.int .i64 (-1),.bool y27,.bool true,.int .i64 y30,.int .i64 y31]⟩],[],[curF B g 95 (.slice A code.length cap) code.length,slF (.slice A code.length cap) 1 (code.map byteRow),frF w (fun b => b = g)]⟩ (by kernel_rfl) ?_
  refine xw_ret ?_
  exact ⟨[.agg #[.int .i64 0,.int .i64 (-1),.bool y27,.bool true,.int .i64 y30,.int .i64 y31]],by kernel_rfl,fun w' hb hf => ⟨⟨⟨0,(-1),y27,true,y30,y31⟩,trivial⟩,rfl,hf (curF B g 95 (.slice A code.length cap) code.length) (by simp),frF_chgd (hf (frF w (fun b => b = g)) (by simp)) hb rfl rfl rfl⟩⟩
  refine xw_skip ?_
  refine xw_seq ?_
  refine xw_region ?_
  refine xl_end [2] ⟨[(2,.p 0 0)],[⟨25,[.int .i64 0,.int .i64 (-1),.bool y27,.bool false,.int .i64 0,.int .i64 0]⟩,⟨25,[.int .i64 0,.int .i64 (-1),.bool y27,.bool false,.int .i64 0,.int .i64 0]⟩],[],[curF B g 95 (.slice A code.length cap) code.length,slF (.slice A code.length cap) 1 (code.map byteRow),frF w (fun b => b = g)]⟩ (by kernel_rfl) ?_
  refine xw_ret ?_
  exact ⟨[.agg #[.int .i64 0,.int .i64 (-1),.bool y27,.bool false,.int .i64 0,.int .i64 0]],by kernel_rfl,fun w' hb hf => ⟨⟨⟨0,(-1),y27,false,0,0⟩,trivial⟩,rfl,hf (curF B g 95 (.slice A code.length cap) code.length) (by simp),frF_chgd (hf (frF w (fun b => b = g)) (by simp)) hb rfl rfl rfl⟩⟩
set_option maxHeartbeats 2000000 in
theorem l8Bent_c (g : Nat) (code : List Int) (A : Option Addr) (cap : Nat)  (w : World) (B : Nat) (hB : B ≤ w.heap.size) (hc : (curF B g 95 (.slice A code.length cap) code.length).p w) (hl : Sl w (.slice A code.length cap) 1 (code.map byteRow)) (hap : ¬ (slF (.slice A code.length cap) 1 (code.map byteRow)).blk g) (hn : code.length ≤ 1048576)  : Calls Try.prog 37 #[.pointer (some ⟨g, 0, none⟩)] w fun e w' => ∃ y : {y : Opt // True}, e = .returned (.agg (optL y.1).toArray) ∧ (curF B g 95 (.slice A code.length cap) code.length).p w' ∧ Chgd (fun b => b = g) w w' := by
  have hq_code := Sl.capLe hl
  refine x_callsM (args := [.pointer (some ⟨g,0,none⟩)]) (fn := Try.f37) [curF B g 95 (.slice A code.length cap) code.length,slF (.slice A code.length cap) 1 (code.map byteRow),frF w (fun b => b = g)] B Try.func37 rfl Try.ntmps37 rfl hB (by simp only [List.mem_cons,List.not_mem_nil,or_false,forall_eq_or_imp,forall_eq]; exact ⟨hc,hl,frF_start w _⟩) (apart_cur hap rfl) ?_
  refine xw_seq ?_
  refine xw_region ?_
  refine xl_end [0,2] ⟨[(0,.v (.pointer (some ⟨g,0,none⟩))),(2,.p 0 0)],[⟨25,[.int .i64 0,.int .i64 0,.bool false,.bool false,.int .i64 0,.int .i64 0]⟩],[],[curF B g 95 (.slice A code.length cap) code.length,slF (.slice A code.length cap) 1 (code.map byteRow),frF w (fun b => b = g)]⟩ (by kernel_rfl) ?_
  refine xw_seq ?_
  refine xw_region ?_
  refine xl_callWS 1 [0,2,4] [(0,.v (.pointer (some ⟨g,0,none⟩))),(2,.p 0 0),(4,.v (.pointer (some ⟨g,0,none⟩)))] 74 [.pointer (some ⟨g,0,none⟩)] (some 5) 0 (curF B g 95 (.slice A code.length cap) code.length) (by kernel_rfl) rfl (by kernel_rfl) rfl (by kernel_rfl) rfl rfl (fun ww b h hb => Nat.le_trans (cutW_le w B) (cur_lo h hb)) (by kernel_rfl) (xcm_cur fun ww hw hf => l8Options_c g code A cap  ww B (Nat.le_trans (by first | exact Nat.le_refl _ | exact Nat.le_of_eq (cutW_size hB).symm) hw) (hf (curF B g 95 (.slice A code.length cap) code.length) (by simp)) (hf (slF (.slice A code.length cap) 1 (code.map byteRow)) (by simp)) hap (by omega)  ) ?_
  rintro ⟨y1,hy1⟩
  refine xl_end [0,2,3] ⟨[(0,.v (.pointer (some ⟨g,0,none⟩))),(2,.p 0 0),(3,.p 1 0)],[⟨25,[.int .i64 0,.int .i64 0,.bool false,.bool false,.int .i64 0,.int .i64 0]⟩,⟨25,optL y1⟩],[],[curF B g 95 (.slice A code.length cap) code.length,slF (.slice A code.length cap) 1 (code.map byteRow),frF w (fun b => b = g)]⟩ (by kernel_rfl) ?_
  refine xw_seq ?_
  refine xw_seq ?_
  refine xw_region ?_
  refine xl_callWS 1 [0,2,3,6] [(0,.v (.pointer (some ⟨g,0,none⟩))),(2,.p 0 0),(3,.p 1 0),(6,.v (.pointer (some ⟨g,0,none⟩)))] 75 [.pointer (some ⟨g,0,none⟩),.int .i64 10] (some 7) 0 (curF B g 95 (.slice A code.length cap) code.length) (by kernel_rfl) rfl (by kernel_rfl) rfl (by kernel_rfl) rfl rfl (fun ww b h hb => Nat.le_trans (cutW_le w B) (cur_lo h hb)) (by kernel_rfl) (xcm_cur fun ww hw hf => l1Below_c g code A cap 10 ww B (Nat.le_trans (by first | exact Nat.le_refl _ | exact Nat.le_of_eq (cutW_size hB).symm) hw) (hf (curF B g 95 (.slice A code.length cap) code.length) (by simp)) (hf (slF (.slice A code.length cap) 1 (code.map byteRow)) (by simp)) hap (by omega)  ) ?_
  rintro ⟨y2,hy2⟩
  obtain ⟨hy20,hy21⟩ := hy2
  refine xl_endS [0,2,3,7] [(0,.v (.pointer (some ⟨g,0,none⟩))),(2,.p 0 0),(3,.p 1 0),(7,.v (.int .i64 y2))] (by kernel_rfl) ?_
  refine xw_block ?_
  refine xw_seq ?_
  refine xw_region ?_
  refine xl_endS [0,2,3,7,8] [(0,.v (.pointer (some ⟨g,0,none⟩))),(2,.p 0 0),(3,.p 1 0),(7,.v (.int .i64 y2)),(8,.v (.bool (y2 == 0)))] (by kernel_rfl) ?_
  refine xw_cond (b := y2 == 0) (by kernel_rfl) (fun h3 => ?_) (fun h3 => ?_)
  have h3p := eqT h3
  refine xw_region ?_
  refine xl_callWS 1 [2,3,10] [(2,.p 0 0),(3,.p 1 0),(10,.v (.pointer (some ⟨g,0,none⟩)))] 67 [.pointer (some ⟨g,0,none⟩)] (some 11) 0 (curF B g 95 (.slice A code.length cap) code.length) (by kernel_rfl) rfl (by kernel_rfl) rfl (by kernel_rfl) rfl rfl (fun ww b h hb => Nat.le_trans (cutW_le w B) (cur_lo h hb)) (by kernel_rfl) (xcm_cur fun ww hw hf => l2Word_c g code A cap  ww B (Nat.le_trans (by first | exact Nat.le_refl _ | exact Nat.le_of_eq (cutW_size hB).symm) hw) (hf (curF B g 95 (.slice A code.length cap) code.length) (by simp)) (hf (slF (.slice A code.length cap) 1 (code.map byteRow)) (by simp)) hap (by omega)  ) ?_
  rintro ⟨y4,hy4⟩
  refine xl_end [2,3] ⟨[(2,.p 0 0),(3,.p 1 0)],[⟨25,[.int .i64 0,.int .i64 0,.bool false,.bool false,.int .i64 0,.int .i64 0]⟩,⟨25,optL { y1 with mss := y4 }⟩],[],[curF B g 95 (.slice A code.length cap) code.length,slF (.slice A code.length cap) 1 (code.map byteRow),frF w (fun b => b = g)]⟩ (by kernel_rfl) ?_
  refine xw_seq ?_
  refine xw_region ?_
  refine xl_end [2] ⟨[(2,.p 0 0)],[⟨25,optL { y1 with mss := y4 }⟩,⟨25,optL { y1 with mss := y4 }⟩],[],[curF B g 95 (.slice A code.length cap) code.length,slF (.slice A code.length cap) 1 (code.map byteRow),frF w (fun b => b = g)]⟩ (by kernel_rfl) ?_
  refine xw_ret ?_
  exact ⟨[.agg (optL { y1 with mss := y4 }).toArray],by kernel_rfl,fun w' hb hf => ⟨⟨{ y1 with mss := y4 },trivial⟩,rfl,hf (curF B g 95 (.slice A code.length cap) code.length) (by simp),frF_chgd (hf (frF w (fun b => b = g)) (by simp)) hb rfl rfl rfl⟩⟩
  have h3p := eqF h3
  refine xw_seq ?_
  refine xw_region ?_
  refine xl_endS [0,2,3,7,13] [(0,.v (.pointer (some ⟨g,0,none⟩))),(2,.p 0 0),(3,.p 1 0),(7,.v (.int .i64 y2)),(13,.v (.bool (y2 == 1)))] (by kernel_rfl) ?_
  refine xw_cond (b := y2 == 1) (by kernel_rfl) (fun h5 => ?_) (fun h5 => ?_)
  have h5p := eqT h5
  refine xw_region ?_
  refine xl_hvS 1 [2,3,15] [(2,.p 0 0),(3,.p 1 0),(15,.v (.pointer (some ⟨g,0,none⟩)))] (by kernel_rfl) rfl (by kernel_rfl) rfl (by kernel_rfl) (hv_build (e := 3) (K := 1) (bytes := 8) [.int .i64 (-2),.int .i64 (-1),.int .i64 14,.int .i64 15] rfl (by kernel_rfl) (by kernel_rfl) (by kernel_rfl) (by kernel_rfl) (by kernel_rfl) (rs := ([(-2),(-1),14,15] : List Int).map intRow) rfl) ?_
  intro g6
  refine xl_know (φ := ¬ (slF (.slice (some ⟨g6,0,none⟩) 4 4) 1 (([(-2),(-1),14,15] : List Int).map intRow)).blk g) (fun _ _ _ _ hr => fun hb => hr.2.apart 0 1 (rowF (cutW w B).heap.size 3 1 (.slice (some ⟨g6,0,none⟩) 4 4) (([(-2),(-1),14,15] : List Int).map intRow)) (curF B g 95 (.slice A code.length cap) code.length) rfl rfl (by decide) rfl g (rowF_sblk hb) rfl) (fun hk7 => ?_)
  refine xl_callWS 0 [2,3,15,16] [(2,.p 0 0),(3,.p 1 0),(15,.v (.pointer (some ⟨g,0,none⟩))),(16,.v (.slice (some ⟨g6,0,none⟩) 4 4))] 52 [.pointer (some ⟨g,0,none⟩),.slice (some ⟨g6,0,none⟩) 4 4] (some 17) 1 (curF B g 95 (.slice A code.length cap) code.length) (by kernel_rfl) rfl (by kernel_rfl) rfl (by kernel_rfl) rfl rfl (fun ww b h hb => Nat.le_trans (cutW_le w B) (cur_lo h hb)) (by kernel_rfl) (xcm_cur fun ww hw hf => l1PickInt_c g code A cap ([(-2),(-1),14,15] : List Int) (.slice (some ⟨g6,0,none⟩) 4 4) ww B (Nat.le_trans (by first | exact Nat.le_refl _ | exact Nat.le_of_eq (cutW_size hB).symm) hw) (hf (curF B g 95 (.slice A code.length cap) code.length) (by simp)) (hf (slF (.slice A code.length cap) 1 (code.map byteRow)) (by simp)) hap (by omega) (rowF_sl (hf (rowF (cutW w B).heap.size 3 1 (.slice (some ⟨g6,0,none⟩) 4 4) (([(-2),(-1),14,15] : List Int).map intRow)) (by simp))) hk7 (by simp)) ?_
  rintro ⟨y8,hy8⟩
  refine xl_end [2,3] ⟨[(2,.p 0 0),(3,.p 1 0)],[⟨25,[.int .i64 0,.int .i64 0,.bool false,.bool false,.int .i64 0,.int .i64 0]⟩,⟨25,optL { y1 with scale := y8 }⟩],[],[curF B g 95 (.slice A code.length cap) code.length,rowF (cutW w B).heap.size 3 1 (.slice (some ⟨g6,0,none⟩) 4 4) (([(-2),(-1),14,15] : List Int).map intRow),slF (.slice A code.length cap) 1 (code.map byteRow),frF w (fun b => b = g)]⟩ (by kernel_rfl) ?_
  refine xw_seq ?_
  refine xw_region ?_
  refine xl_end [2] ⟨[(2,.p 0 0)],[⟨25,optL { y1 with scale := y8 }⟩,⟨25,optL { y1 with scale := y8 }⟩],[],[curF B g 95 (.slice A code.length cap) code.length,rowF (cutW w B).heap.size 3 1 (.slice (some ⟨g6,0,none⟩) 4 4) (([(-2),(-1),14,15] : List Int).map intRow),slF (.slice A code.length cap) 1 (code.map byteRow),frF w (fun b => b = g)]⟩ (by kernel_rfl) ?_
  refine xw_ret ?_
  exact ⟨[.agg (optL { y1 with scale := y8 }).toArray],by kernel_rfl,fun w' hb hf => ⟨⟨{ y1 with scale := y8 },trivial⟩,rfl,hf (curF B g 95 (.slice A code.length cap) code.length) (by simp),frF_chgd (hf (frF w (fun b => b = g)) (by simp)) hb rfl rfl rfl⟩⟩
  have h5p := eqF h5
  refine xw_seq ?_
  refine xw_region ?_
  refine xl_endS [0,2,3,7,19] [(0,.v (.pointer (some ⟨g,0,none⟩))),(2,.p 0 0),(3,.p 1 0),(7,.v (.int .i64 y2)),(19,.v (.bool (y2 == 2)))] (by kernel_rfl) ?_
  refine xw_cond (b := y2 == 2) (by kernel_rfl) (fun h9 => ?_) (fun h9 => ?_)
  have h9p := eqT h9
  refine xw_region ?_
  refine xl_end [2,3] ⟨[(2,.p 0 0),(3,.p 1 0)],[⟨25,[.int .i64 0,.int .i64 0,.bool false,.bool false,.int .i64 0,.int .i64 0]⟩,⟨25,optL { y1 with stamp := !y1.stamp }⟩],[],[curF B g 95 (.slice A code.length cap) code.length,slF (.slice A code.length cap) 1 (code.map byteRow),frF w (fun b => b = g)]⟩ (by kernel_rfl) ?_
  refine xw_seq ?_
  refine xw_region ?_
  refine xl_end [2] ⟨[(2,.p 0 0)],[⟨25,optL { y1 with stamp := !y1.stamp }⟩,⟨25,optL { y1 with stamp := !y1.stamp }⟩],[],[curF B g 95 (.slice A code.length cap) code.length,slF (.slice A code.length cap) 1 (code.map byteRow),frF w (fun b => b = g)]⟩ (by kernel_rfl) ?_
  refine xw_ret ?_
  exact ⟨[.agg (optL { y1 with stamp := !y1.stamp }).toArray],by kernel_rfl,fun w' hb hf => ⟨⟨{ y1 with stamp := !y1.stamp },trivial⟩,rfl,hf (curF B g 95 (.slice A code.length cap) code.length) (by simp),frF_chgd (hf (frF w (fun b => b = g)) (by simp)) hb rfl rfl rfl⟩⟩
  have h9p := eqF h9
  refine xw_seq ?_
  refine xw_region ?_
  refine xl_endS [0,2,3,25] [(0,.v (.pointer (some ⟨g,0,none⟩))),(2,.p 0 0),(3,.p 1 0),(25,.v (.bool (y2 == 3)))] (by kernel_rfl) ?_
  refine xw_cond (b := y2 == 3) (by kernel_rfl) (fun h10 => ?_) (fun h10 => ?_)
  have h10p := eqT h10
  refine xw_region ?_
  refine xl_callWS 1 [2,3,27] [(2,.p 0 0),(3,.p 1 0),(27,.v (.pointer (some ⟨g,0,none⟩)))] 67 [.pointer (some ⟨g,0,none⟩)] (some 28) 0 (curF B g 95 (.slice A code.length cap) code.length) (by kernel_rfl) rfl (by kernel_rfl) rfl (by kernel_rfl) rfl rfl (fun ww b h hb => Nat.le_trans (cutW_le w B) (cur_lo h hb)) (by kernel_rfl) (xcm_cur fun ww hw hf => l2Word_c g code A cap  ww B (Nat.le_trans (by first | exact Nat.le_refl _ | exact Nat.le_of_eq (cutW_size hB).symm) hw) (hf (curF B g 95 (.slice A code.length cap) code.length) (by simp)) (hf (slF (.slice A code.length cap) 1 (code.map byteRow)) (by simp)) hap (by omega)  ) ?_
  rintro ⟨y11,hy11⟩
  refine xl_end [2,3] ⟨[(2,.p 0 0),(3,.p 1 0)],[⟨25,[.int .i64 0,.int .i64 0,.bool false,.bool false,.int .i64 0,.int .i64 0]⟩,⟨25,optL { y1 with val := y11 }⟩],[],[curF B g 95 (.slice A code.length cap) code.length,slF (.slice A code.length cap) 1 (code.map byteRow),frF w (fun b => b = g)]⟩ (by kernel_rfl) ?_
  refine xw_seq ?_
  refine xw_region ?_
  refine xl_end [2] ⟨[(2,.p 0 0)],[⟨25,optL { y1 with val := y11 }⟩,⟨25,optL { y1 with val := y11 }⟩],[],[curF B g 95 (.slice A code.length cap) code.length,slF (.slice A code.length cap) 1 (code.map byteRow),frF w (fun b => b = g)]⟩ (by kernel_rfl) ?_
  refine xw_ret ?_
  exact ⟨[.agg (optL { y1 with val := y11 }).toArray],by kernel_rfl,fun w' hb hf => ⟨⟨{ y1 with val := y11 },trivial⟩,rfl,hf (curF B g 95 (.slice A code.length cap) code.length) (by simp),frF_chgd (hf (frF w (fun b => b = g)) (by simp)) hb rfl rfl rfl⟩⟩
  have h10p := eqF h10
  refine xw_skip ?_
  refine xw_seq ?_
  refine xw_region ?_
  refine xl_end [2] ⟨[(2,.p 0 0)],[⟨25,optL y1⟩,⟨25,optL y1⟩],[],[curF B g 95 (.slice A code.length cap) code.length,slF (.slice A code.length cap) 1 (code.map byteRow),frF w (fun b => b = g)]⟩ (by kernel_rfl) ?_
  refine xw_ret ?_
  exact ⟨[.agg (optL y1).toArray],by kernel_rfl,fun w' hb hf => ⟨⟨y1,trivial⟩,rfl,hf (curF B g 95 (.slice A code.length cap) code.length) (by simp),frF_chgd (hf (frF w (fun b => b = g)) (by simp)) hb rfl rfl rfl⟩⟩
set_option maxHeartbeats 2000000 in
theorem l12Tuple_c (g : Nat) (code : List Int) (A : Option Addr) (cap : Nat)  (w : World) (B : Nat) (hB : B ≤ w.heap.size) (hc : (curF B g 95 (.slice A code.length cap) code.length).p w) (hl : Sl w (.slice A code.length cap) 1 (code.map byteRow)) (hap : ¬ (slF (.slice A code.length cap) 1 (code.map byteRow)).blk g) (hn : code.length ≤ 1048576)  : Calls Try.prog 78 #[.pointer (some ⟨g, 0, none⟩)] w fun e w' => ∃ y : {y : Tup // True}, e = .returned (.agg (tupL y.1).toArray) ∧ (curF B g 95 (.slice A code.length cap) code.length).p w' ∧ Chgd (fun b => b = g) w w' := by
  have hq_code := Sl.capLe hl
  refine x_callsM (args := [.pointer (some ⟨g,0,none⟩)]) (fn := Try.f78) [curF B g 95 (.slice A code.length cap) code.length,slF (.slice A code.length cap) 1 (code.map byteRow),frF w (fun b => b = g)] B Try.func78 rfl Try.ntmps78 rfl hB (by simp only [List.mem_cons,List.not_mem_nil,or_false,forall_eq_or_imp,forall_eq]; exact ⟨hc,hl,frF_start w _⟩) (apart_cur hap rfl) ?_
  refine xw_seq ?_
  refine xw_region ?_
  refine xl_end [0,2] ⟨[(0,.v (.pointer (some ⟨g,0,none⟩))),(2,.p 0 0)],[⟨36,tupL (⟨0,0,0⟩ : Tup)⟩],[],[curF B g 95 (.slice A code.length cap) code.length,slF (.slice A code.length cap) 1 (code.map byteRow),frF w (fun b => b = g)]⟩ (by kernel_rfl) ?_
  refine xw_seq ?_
  refine xw_region ?_
  refine xl_callWS 1 [0,2,3] [(0,.v (.pointer (some ⟨g,0,none⟩))),(2,.p 0 0),(3,.v (.pointer (some ⟨g,0,none⟩)))] 86 [.pointer (some ⟨g,0,none⟩)] (some 4) 0 (curF B g 95 (.slice A code.length cap) code.length) (by kernel_rfl) rfl (by kernel_rfl) rfl (by kernel_rfl) rfl rfl (fun ww b h hb => Nat.le_trans (cutW_le w B) (cur_lo h hb)) (by kernel_rfl) (xcm_cur fun ww hw hf => l6Ip_c g code A cap  ww B (Nat.le_trans (by first | exact Nat.le_refl _ | exact Nat.le_of_eq (cutW_size hB).symm) hw) (hf (curF B g 95 (.slice A code.length cap) code.length) (by simp)) (hf (slF (.slice A code.length cap) 1 (code.map byteRow)) (by simp)) hap (by omega)  ) ?_
  rintro ⟨y1,hy1⟩
  refine xl_hvS 1 [2,4,5] [(2,.p 0 0),(4,.v (.int .i64 y1)),(5,.v (.pointer (some ⟨g,0,none⟩)))] (by kernel_rfl) rfl (by kernel_rfl) rfl (by kernel_rfl) (hv_build (e := 3) (K := 1) (bytes := 8) [.int .i64 40000,.int .i64 40001,.int .i64 40002] rfl (by kernel_rfl) (by kernel_rfl) (by kernel_rfl) (by kernel_rfl) (by kernel_rfl) (rs := ([40000,40001,40002] : List Int).map intRow) rfl) ?_
  intro g2
  refine xl_know (φ := ¬ (slF (.slice (some ⟨g2,0,none⟩) 3 3) 1 (([40000,40001,40002] : List Int).map intRow)).blk g) (fun _ _ _ _ hr => fun hb => hr.2.apart 0 1 (rowF (cutW w B).heap.size 3 1 (.slice (some ⟨g2,0,none⟩) 3 3) (([40000,40001,40002] : List Int).map intRow)) (curF B g 95 (.slice A code.length cap) code.length) rfl rfl (by decide) rfl g (rowF_sblk hb) rfl) (fun hk3 => ?_)
  refine xl_callWS 0 [2,4,5,6] [(2,.p 0 0),(4,.v (.int .i64 y1)),(5,.v (.pointer (some ⟨g,0,none⟩))),(6,.v (.slice (some ⟨g2,0,none⟩) 3 3))] 52 [.pointer (some ⟨g,0,none⟩),.slice (some ⟨g2,0,none⟩) 3 3] (some 7) 1 (curF B g 95 (.slice A code.length cap) code.length) (by kernel_rfl) rfl (by kernel_rfl) rfl (by kernel_rfl) rfl rfl (fun ww b h hb => Nat.le_trans (cutW_le w B) (cur_lo h hb)) (by kernel_rfl) (xcm_cur fun ww hw hf => l1PickInt_c g code A cap ([40000,40001,40002] : List Int) (.slice (some ⟨g2,0,none⟩) 3 3) ww B (Nat.le_trans (by first | exact Nat.le_refl _ | exact Nat.le_of_eq (cutW_size hB).symm) hw) (hf (curF B g 95 (.slice A code.length cap) code.length) (by simp)) (hf (slF (.slice A code.length cap) 1 (code.map byteRow)) (by simp)) hap (by omega) (rowF_sl (hf (rowF (cutW w B).heap.size 3 1 (.slice (some ⟨g2,0,none⟩) 3 3) (([40000,40001,40002] : List Int).map intRow)) (by simp))) hk3 (by simp)) ?_
  rintro ⟨y4,hy4⟩
  refine xl_opS 0 [2,4,7] [(2,.p 0 0),(4,.v (.int .i64 y1)),(7,.v (.int .i64 y4))] (.agg (tupL (⟨y1,y4,80⟩ : Tup)).toArray) (by kernel_rfl) rfl (by kernel_rfl) rfl (fun _ _ _ ww hr => act_build [(0,.int .i64 y1),(1,.int .i64 y4),(2,.int .i64 80)] hr.1 rfl (by kernel_rfl) (by kernel_rfl) ww) ?_
  refine xl_end [2] ⟨[(2,.p 0 0)],[⟨36,tupL (⟨y1,y4,80⟩ : Tup)⟩],[],[curF B g 95 (.slice A code.length cap) code.length,rowF (cutW w B).heap.size 3 1 (.slice (some ⟨g2,0,none⟩) 3 3) (([40000,40001,40002] : List Int).map intRow),slF (.slice A code.length cap) 1 (code.map byteRow),frF w (fun b => b = g)]⟩ (by kernel_rfl) ?_
  refine xw_ret ?_
  exact ⟨[.agg (tupL (⟨y1,y4,80⟩ : Tup)).toArray],by kernel_rfl,fun w' hb hf => ⟨⟨⟨y1,y4,80⟩,trivial⟩,rfl,hf (curF B g 95 (.slice A code.length cap) code.length) (by simp),frF_chgd (hf (frF w (fun b => b = g)) (by simp)) hb rfl rfl rfl⟩⟩
set_option maxHeartbeats 2000000 in
theorem l12Bent_c (g : Nat) (code : List Int) (A : Option Addr) (cap : Nat)  (w : World) (B : Nat) (hB : B ≤ w.heap.size) (hc : (curF B g 95 (.slice A code.length cap) code.length).p w) (hl : Sl w (.slice A code.length cap) 1 (code.map byteRow)) (hap : ¬ (slF (.slice A code.length cap) 1 (code.map byteRow)).blk g) (hn : code.length ≤ 1048576)  : Calls Try.prog 50 #[.pointer (some ⟨g, 0, none⟩)] w fun e w' => ∃ y : {y : Tup // True}, e = .returned (.agg (tupL y.1).toArray) ∧ (curF B g 95 (.slice A code.length cap) code.length).p w' ∧ Chgd (fun b => b = g) w w' := by
  have hq_code := Sl.capLe hl
  refine x_callsM (args := [.pointer (some ⟨g,0,none⟩)]) (fn := Try.f50) [curF B g 95 (.slice A code.length cap) code.length,slF (.slice A code.length cap) 1 (code.map byteRow),frF w (fun b => b = g)] B Try.func50 rfl Try.ntmps50 rfl hB (by simp only [List.mem_cons,List.not_mem_nil,or_false,forall_eq_or_imp,forall_eq]; exact ⟨hc,hl,frF_start w _⟩) (apart_cur hap rfl) ?_
  refine xw_seq ?_
  refine xw_region ?_
  refine xl_end [0,2] ⟨[(0,.v (.pointer (some ⟨g,0,none⟩))),(2,.p 0 0)],[⟨36,tupL (⟨0,0,0⟩ : Tup)⟩],[],[curF B g 95 (.slice A code.length cap) code.length,slF (.slice A code.length cap) 1 (code.map byteRow),frF w (fun b => b = g)]⟩ (by kernel_rfl) ?_
  refine xw_seq ?_
  refine xw_region ?_
  refine xl_callWS 1 [0,2,4] [(0,.v (.pointer (some ⟨g,0,none⟩))),(2,.p 0 0),(4,.v (.pointer (some ⟨g,0,none⟩)))] 78 [.pointer (some ⟨g,0,none⟩)] (some 5) 0 (curF B g 95 (.slice A code.length cap) code.length) (by kernel_rfl) rfl (by kernel_rfl) rfl (by kernel_rfl) rfl rfl (fun ww b h hb => Nat.le_trans (cutW_le w B) (cur_lo h hb)) (by kernel_rfl) (xcm_cur fun ww hw hf => l12Tuple_c g code A cap  ww B (Nat.le_trans (by first | exact Nat.le_refl _ | exact Nat.le_of_eq (cutW_size hB).symm) hw) (hf (curF B g 95 (.slice A code.length cap) code.length) (by simp)) (hf (slF (.slice A code.length cap) 1 (code.map byteRow)) (by simp)) hap (by omega)  ) ?_
  rintro ⟨y1,hy1⟩
  refine xl_end [0,2,3] ⟨[(0,.v (.pointer (some ⟨g,0,none⟩))),(2,.p 0 0),(3,.p 1 0)],[⟨36,tupL (⟨0,0,0⟩ : Tup)⟩,⟨36,tupL y1⟩],[],[curF B g 95 (.slice A code.length cap) code.length,slF (.slice A code.length cap) 1 (code.map byteRow),frF w (fun b => b = g)]⟩ (by kernel_rfl) ?_
  refine xw_seq ?_
  refine xw_seq ?_
  refine xw_region ?_
  refine xl_callWS 1 [0,2,3,6] [(0,.v (.pointer (some ⟨g,0,none⟩))),(2,.p 0 0),(3,.p 1 0),(6,.v (.pointer (some ⟨g,0,none⟩)))] 75 [.pointer (some ⟨g,0,none⟩),.int .i64 10] (some 7) 0 (curF B g 95 (.slice A code.length cap) code.length) (by kernel_rfl) rfl (by kernel_rfl) rfl (by kernel_rfl) rfl rfl (fun ww b h hb => Nat.le_trans (cutW_le w B) (cur_lo h hb)) (by kernel_rfl) (xcm_cur fun ww hw hf => l1Below_c g code A cap 10 ww B (Nat.le_trans (by first | exact Nat.le_refl _ | exact Nat.le_of_eq (cutW_size hB).symm) hw) (hf (curF B g 95 (.slice A code.length cap) code.length) (by simp)) (hf (slF (.slice A code.length cap) 1 (code.map byteRow)) (by simp)) hap (by omega)  ) ?_
  rintro ⟨y2,hy2⟩
  obtain ⟨hy20,hy21⟩ := hy2
  refine xl_endS [0,2,3,7] [(0,.v (.pointer (some ⟨g,0,none⟩))),(2,.p 0 0),(3,.p 1 0),(7,.v (.int .i64 y2))] (by kernel_rfl) ?_
  refine xw_block ?_
  refine xw_seq ?_
  refine xw_region ?_
  refine xl_endS [0,2,3,7,8] [(0,.v (.pointer (some ⟨g,0,none⟩))),(2,.p 0 0),(3,.p 1 0),(7,.v (.int .i64 y2)),(8,.v (.bool (y2 == 0)))] (by kernel_rfl) ?_
  refine xw_cond (b := y2 == 0) (by kernel_rfl) (fun h3 => ?_) (fun h3 => ?_)
  have h3p := eqT h3
  refine xw_region ?_
  refine xl_callWS 1 [2,3,10] [(2,.p 0 0),(3,.p 1 0),(10,.v (.pointer (some ⟨g,0,none⟩)))] 67 [.pointer (some ⟨g,0,none⟩)] (some 11) 0 (curF B g 95 (.slice A code.length cap) code.length) (by kernel_rfl) rfl (by kernel_rfl) rfl (by kernel_rfl) rfl rfl (fun ww b h hb => Nat.le_trans (cutW_le w B) (cur_lo h hb)) (by kernel_rfl) (xcm_cur fun ww hw hf => l2Word_c g code A cap  ww B (Nat.le_trans (by first | exact Nat.le_refl _ | exact Nat.le_of_eq (cutW_size hB).symm) hw) (hf (curF B g 95 (.slice A code.length cap) code.length) (by simp)) (hf (slF (.slice A code.length cap) 1 (code.map byteRow)) (by simp)) hap (by omega)  ) ?_
  rintro ⟨y4,hy4⟩
  refine xl_end [2,3] ⟨[(2,.p 0 0),(3,.p 1 0)],[⟨36,tupL (⟨0,0,0⟩ : Tup)⟩,⟨36,tupL { y1 with ip := y4 }⟩],[],[curF B g 95 (.slice A code.length cap) code.length,slF (.slice A code.length cap) 1 (code.map byteRow),frF w (fun b => b = g)]⟩ (by kernel_rfl) ?_
  refine xw_seq ?_
  refine xw_region ?_
  refine xl_end [2] ⟨[(2,.p 0 0)],[⟨36,tupL { y1 with ip := y4 }⟩,⟨36,tupL { y1 with ip := y4 }⟩],[],[curF B g 95 (.slice A code.length cap) code.length,slF (.slice A code.length cap) 1 (code.map byteRow),frF w (fun b => b = g)]⟩ (by kernel_rfl) ?_
  refine xw_ret ?_
  exact ⟨[.agg (tupL { y1 with ip := y4 }).toArray],by kernel_rfl,fun w' hb hf => ⟨⟨{ y1 with ip := y4 },trivial⟩,rfl,hf (curF B g 95 (.slice A code.length cap) code.length) (by simp),frF_chgd (hf (frF w (fun b => b = g)) (by simp)) hb rfl rfl rfl⟩⟩
  have h3p := eqF h3
  refine xw_seq ?_
  refine xw_region ?_
  refine xl_endS [0,2,3,7,13] [(0,.v (.pointer (some ⟨g,0,none⟩))),(2,.p 0 0),(3,.p 1 0),(7,.v (.int .i64 y2)),(13,.v (.bool (y2 == 1)))] (by kernel_rfl) ?_
  refine xw_cond (b := y2 == 1) (by kernel_rfl) (fun h5 => ?_) (fun h5 => ?_)
  have h5p := eqT h5
  refine xw_region ?_
  refine xl_callWS 1 [2,3,15] [(2,.p 0 0),(3,.p 1 0),(15,.v (.pointer (some ⟨g,0,none⟩)))] 67 [.pointer (some ⟨g,0,none⟩)] (some 16) 0 (curF B g 95 (.slice A code.length cap) code.length) (by kernel_rfl) rfl (by kernel_rfl) rfl (by kernel_rfl) rfl rfl (fun ww b h hb => Nat.le_trans (cutW_le w B) (cur_lo h hb)) (by kernel_rfl) (xcm_cur fun ww hw hf => l2Word_c g code A cap  ww B (Nat.le_trans (by first | exact Nat.le_refl _ | exact Nat.le_of_eq (cutW_size hB).symm) hw) (hf (curF B g 95 (.slice A code.length cap) code.length) (by simp)) (hf (slF (.slice A code.length cap) 1 (code.map byteRow)) (by simp)) hap (by omega)  ) ?_
  rintro ⟨y6,hy6⟩
  refine xl_end [2,3] ⟨[(2,.p 0 0),(3,.p 1 0)],[⟨36,tupL (⟨0,0,0⟩ : Tup)⟩,⟨36,tupL { y1 with port := y6 }⟩],[],[curF B g 95 (.slice A code.length cap) code.length,slF (.slice A code.length cap) 1 (code.map byteRow),frF w (fun b => b = g)]⟩ (by kernel_rfl) ?_
  refine xw_seq ?_
  refine xw_region ?_
  refine xl_end [2] ⟨[(2,.p 0 0)],[⟨36,tupL { y1 with port := y6 }⟩,⟨36,tupL { y1 with port := y6 }⟩],[],[curF B g 95 (.slice A code.length cap) code.length,slF (.slice A code.length cap) 1 (code.map byteRow),frF w (fun b => b = g)]⟩ (by kernel_rfl) ?_
  refine xw_ret ?_
  exact ⟨[.agg (tupL { y1 with port := y6 }).toArray],by kernel_rfl,fun w' hb hf => ⟨⟨{ y1 with port := y6 },trivial⟩,rfl,hf (curF B g 95 (.slice A code.length cap) code.length) (by simp),frF_chgd (hf (frF w (fun b => b = g)) (by simp)) hb rfl rfl rfl⟩⟩
  have h5p := eqF h5
  refine xw_seq ?_
  refine xw_region ?_
  refine xl_endS [0,2,3,18] [(0,.v (.pointer (some ⟨g,0,none⟩))),(2,.p 0 0),(3,.p 1 0),(18,.v (.bool (y2 == 2)))] (by kernel_rfl) ?_
  refine xw_cond (b := y2 == 2) (by kernel_rfl) (fun h7 => ?_) (fun h7 => ?_)
  have h7p := eqT h7
  refine xw_region ?_
  refine xl_callWS 1 [2,3,20] [(2,.p 0 0),(3,.p 1 0),(20,.v (.pointer (some ⟨g,0,none⟩)))] 67 [.pointer (some ⟨g,0,none⟩)] (some 21) 0 (curF B g 95 (.slice A code.length cap) code.length) (by kernel_rfl) rfl (by kernel_rfl) rfl (by kernel_rfl) rfl rfl (fun ww b h hb => Nat.le_trans (cutW_le w B) (cur_lo h hb)) (by kernel_rfl) (xcm_cur fun ww hw hf => l2Word_c g code A cap  ww B (Nat.le_trans (by first | exact Nat.le_refl _ | exact Nat.le_of_eq (cutW_size hB).symm) hw) (hf (curF B g 95 (.slice A code.length cap) code.length) (by simp)) (hf (slF (.slice A code.length cap) 1 (code.map byteRow)) (by simp)) hap (by omega)  ) ?_
  rintro ⟨y8,hy8⟩
  refine xl_end [2,3] ⟨[(2,.p 0 0),(3,.p 1 0)],[⟨36,tupL (⟨0,0,0⟩ : Tup)⟩,⟨36,tupL { y1 with my := y8 }⟩],[],[curF B g 95 (.slice A code.length cap) code.length,slF (.slice A code.length cap) 1 (code.map byteRow),frF w (fun b => b = g)]⟩ (by kernel_rfl) ?_
  refine xw_seq ?_
  refine xw_region ?_
  refine xl_end [2] ⟨[(2,.p 0 0)],[⟨36,tupL { y1 with my := y8 }⟩,⟨36,tupL { y1 with my := y8 }⟩],[],[curF B g 95 (.slice A code.length cap) code.length,slF (.slice A code.length cap) 1 (code.map byteRow),frF w (fun b => b = g)]⟩ (by kernel_rfl) ?_
  refine xw_ret ?_
  exact ⟨[.agg (tupL { y1 with my := y8 }).toArray],by kernel_rfl,fun w' hb hf => ⟨⟨{ y1 with my := y8 },trivial⟩,rfl,hf (curF B g 95 (.slice A code.length cap) code.length) (by simp),frF_chgd (hf (frF w (fun b => b = g)) (by simp)) hb rfl rfl rfl⟩⟩
  have h7p := eqF h7
  refine xw_skip ?_
  refine xw_seq ?_
  refine xw_region ?_
  refine xl_end [2] ⟨[(2,.p 0 0)],[⟨36,tupL y1⟩,⟨36,tupL y1⟩],[],[curF B g 95 (.slice A code.length cap) code.length,slF (.slice A code.length cap) 1 (code.map byteRow),frF w (fun b => b = g)]⟩ (by kernel_rfl) ?_
  refine xw_ret ?_
  exact ⟨[.agg (tupL y1).toArray],by kernel_rfl,fun w' hb hf => ⟨⟨y1,trivial⟩,rfl,hf (curF B g 95 (.slice A code.length cap) code.length) (by simp),frF_chgd (hf (frF w (fun b => b = g)) (by simp)) hb rfl rfl rfl⟩⟩
theorem big_c (code : List Int) (A : Option Addr) (cap : Nat) (w : World) (hl : Sl w (.slice A code.length cap) 1 (code.map byteRow)) : Calls Try.prog 7 #[.slice A code.length cap] w fun e w' => e = .returned (.bool (decide (((code.length : Nat) : Int) > 1048576))) ∧ Below w.heap.size w w' := by
  refine x_calls (args := [.slice A code.length cap]) (fn := Try.f7) [slF (.slice A code.length cap) 1 (code.map byteRow)] Try.func7 rfl Try.ntmps7 rfl (by simp only [List.mem_cons,List.not_mem_nil,or_false,forall_eq]; exact ⟨rfl,hl⟩) ?_
  refine xw_seq ?_
  refine xw_region ?_
  refine xl_end [0] ⟨[(0,.v (.slice A code.length cap))],[],[],[slF (.slice A code.length cap) 1 (code.map byteRow)]⟩ (by kernel_rfl) ?_
  refine xw_seq ?_
  refine xw_region ?_
  refine xl_endS [2] [(2,.v (.bool (decide (((code.length : Nat) : Int) > 1048576))))] (by kernel_rfl) ?_
  refine xw_ret ?_
  exact ⟨[.bool (decide (((code.length : Nat) : Int) > 1048576))],by kernel_rfl,fun w' hb hf => ⟨rfl,hb⟩⟩
@[simp] theorem inB18_1 : inB 1 1 8 = true := rfl
@[simp] theorem inB18_2 : inB 2 1 8 = true := rfl
@[simp] theorem inB18_3 : inB 3 1 8 = true := rfl
@[simp] theorem inB18_4 : inB 4 1 8 = true := rfl
@[simp] theorem inB18_5 : inB 5 1 8 = true := rfl
@[simp] theorem inB18_6 : inB 6 1 8 = true := rfl
@[simp] theorem inB18_7 : inB 7 1 8 = true := rfl
@[simp] theorem inB18_8 : inB 8 1 8 = true := rfl
set_option maxHeartbeats 1000000 in
theorem yCloneHalf_c (a : List Hlf) (aV : Value) (w : World) (hl_aV : Sl w aV 13 (a.map hlfCells)) (hkn : a.length ≤ 1048576) (B : Nat) (hB : B ≤ w.heap.size) : Calls Try.prog 68 #[aV] w fun e w' => XRs w w' e (α := Option Addr × Nat) (fun y => .slice y.1 a.length y.2) (fun y => [rowF B 56 13 (.slice y.1 a.length y.2) (a.map hlfCells)]) := by
  obtain ⟨Aa,Ca,hva⟩ := hl_aV.form
  rw [List.length_map] at hva; subst hva
  have hna := hl_aV.len; rw [List.length_map] at hna
  have hqa := Sl.capLe hl_aV
  have hnil := fun h => Sl.nil_of h hl_aV
  refine x_callsA (args := [.slice Aa a.length Ca]) (fn := Try.f68) [slF (.slice Aa a.length Ca) 13 (a.map hlfCells)] Try.func68 rfl Try.ntmps68 rfl (by simp only [List.mem_cons,List.not_mem_nil,or_false,forall_eq_or_imp,forall_eq]; exact ⟨rfl,hl_aV⟩) ?_
  refine xw_seq ?_
  refine xw_region ?_
  refine xl_end [0] ⟨[(0,.v (.slice Aa a.length Ca))],[],[],[slF (.slice Aa a.length Ca) 13 (a.map hlfCells)]⟩ (by kernel_rfl) ?_
  refine xw_seq ?_
  refine xw_seq ?_
  refine xw_region ?_
  refine xl_opS 1 [0,3] [(0,.v (.slice Aa a.length Ca)),(3,.v (.slice Aa a.length Ca))] (.bool Aa.isNone) (by kernel_rfl) rfl (by kernel_rfl) rfl (fun _ _ _ ww hr => act_nilEq (e := 56) hr.1 rfl (by kernel_rfl) rfl rfl ww) ?_
  refine xl_endS [0,4] [(0,.v (.slice Aa a.length Ca)),(4,.v (.bool Aa.isNone))] (by kernel_rfl) ?_
  refine xw_cond (b := Aa.isNone) (by kernel_rfl) (fun h1 => ?_) (fun h1 => ?_)
  refine xw_seq ?_
  refine xw_region ?_
  refine xl_endS [2] [(2,.v (.slice none 0 0))] (by kernel_rfl) ?_
  refine xw_ret ?_
  have hmod : a = [] := by exact hnil (by assumption)
  exact ⟨[.slice none 0 0],by kernel_rfl,fun w' hb hf ha => by rw [hmod]; exact xr_one ((none,0)) rfl rfl (rowF_nil _ _ _ _) (fun b hb => (nilF_b _ _ _ _ hb).elim) hb⟩
  refine xw_skip ?_
  refine xw_seq ?_
  refine xw_region ?_
  refine xl_hvS 0 [0] [(0,.v (.slice Aa a.length Ca))] (by kernel_rfl) rfl (by kernel_rfl) rfl (by kernel_rfl) (hv_build (e := 56) (K := 13) (bytes := 96) [] rfl (by kernel_rfl) (by kernel_rfl) (by kernel_rfl) (by kernel_rfl) (by kernel_rfl) (rs := ([] : List Hlf).map hlfCells) rfl) ?_
  intro g2
  refine xl_hvS 1 [5,6] [(5,.v (.slice (some ⟨g2,0,none⟩) 0 0)),(6,.v (.slice Aa a.length Ca))] (by kernel_rfl) rfl (by kernel_rfl) rfl (by kernel_rfl) (hv_append (e := 56) (K := 13) (bytes := 96) (i := 0) (q := a.length) (new := a.map hlfCells) (rs' := a.map hlfCells) rfl rfl rfl rfl (by kernel_rfl) (by kernel_rfl) (by kernel_rfl) rfl (by simp) rfl (by simp) (fun ww hf => (hf (slF (.slice Aa a.length Ca) 13 (a.map hlfCells)) (by simp))) (by intro r hr; obtain ⟨x,hx,rfl⟩ := List.mem_map.1 hr; exact ⟨rfl,by simp [hlfCells,Value.oneCell']⟩) (by (try simp only [List.length_map,List.length_append,List.length_cons,List.length_nil,List.length_take,List.length_drop,maxLen]); omega) (by (try simp only [List.length_map,List.length_append,List.length_cons,List.length_nil,List.length_take,List.length_drop,maxLen]); omega)) ?_
  rintro ⟨v3a,v3c⟩
  refine xl_endS [2] [(2,.v (.slice v3a a.length v3c))] (by kernel_rfl) ?_
  refine xw_ret ?_
  exact ⟨[.slice v3a a.length v3c],by kernel_rfl,fun w' hb hf ha => by exact xr_one ((v3a,v3c)) rfl rfl (rowF_lower (hf (rowF w.heap.size 56 13 (.slice v3a a.length v3c) (a.map hlfCells)) (by simp)) hB) (fun b hb => rowF_lo (hf (rowF w.heap.size 56 13 (.slice v3a a.length v3c) (a.map hlfCells)) (by simp)) hb) hb⟩
theorem ysHalvesOk_c (l : List Hlf) (lV : Value) (w : World) (hl_lV : Sl w lV 13 (l.map hlfCells))  : Calls Try.prog 32 #[lV] w fun e w' => e = .returned (.bool (halvesOk l)) ∧ Below w.heap.size w w' := by
  obtain ⟨Al,Cl,hvl⟩ := hl_lV.form
  rw [List.length_map] at hvl; subst hvl
  have hnl := hl_lV.len; rw [List.length_map] at hnl
  have hql := Sl.capLe hl_lV
  refine x_calls (args := [.slice Al l.length Cl]) (fn := Try.f32) [slF (.slice Al l.length Cl) 13 (l.map hlfCells)] Try.func32 rfl Try.ntmps32 rfl (by simp only [List.mem_cons,List.not_mem_nil,or_false,forall_eq_or_imp,forall_eq]; exact ⟨rfl,hl_lV⟩) ?_
  refine xw_seq ?_
  refine xw_region ?_
  refine xl_end [0] ⟨[(0,.v (.slice Al l.length Cl))],[],[],[slF (.slice Al l.length Cl) 13 (l.map hlfCells)]⟩ (by kernel_rfl) ?_
  refine xw_seq ?_
  refine xw_seq ?_
  refine xw_region ?_
  refine xl_endS [0,3] [(0,.v (.slice Al l.length Cl)),(3,.v (.int .i64 0))] (by kernel_rfl) ?_
  refine xw_block ?_
  refine xw_loopW (α := {x : Nat // (fun (k : Nat) => k ≤ l.length ∧ ∀ (i : Nat) (x : Hlf),i < k → l[i]? = some x → hOne l i x = true) x}) (fun x => (fun (k : Nat) => (⟨[(0,.v (.slice Al l.length Cl)),(3,.v (.int .i64 (k : Int)))],[],[],[slF (.slice Al l.length Cl) 13 (l.map hlfCells)]⟩ : St)) x.1) (fun x => l.length - x.1) ⟨(0),⟨Nat.zero_le _,fun i x hi => by omega⟩⟩ (wk_forget 0 0 [0,3] (by kernel_rfl) (by kernel_rfl) (by kernel_rfl)) ?_
  rintro ⟨k,hk,HK⟩
  refine xw_wk (Wk.of_eq (s' := ⟨[(0,.v (.slice Al l.length Cl)),(3,.v (.int .i64 (k : Int)))],[],[],[slF (.slice Al l.length Cl) 13 (l.map hlfCells)]⟩) rfl) ?_
  try dsimp only at hk HK
  refine xw_seq ?_
  refine xw_seq ?_
  refine xw_region ?_
  refine xl_endS [0,3,8] [(0,.v (.slice Al l.length Cl)),(3,.v (.int .i64 (k : Int))),(8,.v (.bool (decide ((k : Int) < ((l.length : Nat) : Int)))))] (by kernel_rfl) ?_
  refine xw_cond (b := decide ((k : Int) < ((l.length : Nat) : Int))) (by kernel_rfl) (fun h1 => ?_) (fun h1 => ?_)
  have h1p : ((k : Int) < ((l.length : Nat) : Int)) := of_decide_eq_true h1
  have hlt : k < l.length := by simpa using h1
  obtain ⟨x,hx⟩ : ∃ x,l[k]? = some x := ⟨_,List.getElem?_eq_getElem hlt⟩
  have hft := findHalf_pre hx
  have hno := fun h => halvesOk_no hx h
  refine xw_skip ?_
  refine xw_seq ?_
  refine xw_block ?_
  refine xw_seq ?_
  refine xw_region ?_
  refine xl_indexS (kd := .i64) (T := 54) (e := 56) (K := 13) 2 [0,3,11,12] [(0,.v (.slice Al l.length Cl)),(3,.v (.int .i64 (k : Int))),(11,.v (.slice Al l.length Cl)),(12,.v (.int .i64 (k : Int)))] k [.int .i64 x.t.ip,.int .i64 x.t.port,.int .i64 x.t.my,.int .i64 x.iss,.int .i64 x.irs,.int .i64 x.o.mss,.int .i64 x.o.scale,.bool x.o.sack,.bool x.o.stamp,.int .i64 x.o.val,.int .i64 x.o.echo,.int .i64 x.age,.int .i64 x.window] (slF (.slice Al l.length Cl) 13 (l.map hlfCells)) (by kernel_rfl) rfl (by kernel_rfl) rfl rfl (by kernel_rfl) (by kernel_rfl) (by kernel_rfl) (by kernel_rfl) hlt (by simp) (fun w h => h) (fun b h => h) (by simp only [List.getElem?_map,hx]; rfl) ?_
  refine xl_end [0,3,4] ⟨[(0,.v (.slice Al l.length Cl)),(3,.v (.int .i64 (k : Int))),(4,.p 0 0)],[⟨56,hlfL x⟩],[[.int .i64 x.t.ip,.int .i64 x.t.port,.int .i64 x.t.my,.int .i64 x.iss,.int .i64 x.irs,.int .i64 x.o.mss,.int .i64 x.o.scale,.bool x.o.sack,.bool x.o.stamp,.int .i64 x.o.val,.int .i64 x.o.echo,.int .i64 x.age,.int .i64 x.window]],[slF (.slice Al l.length Cl) 13 (l.map hlfCells)]⟩ (by kernel_rfl) ?_
  refine xw_seq ?_
  refine xe_region [] (by kernel_rfl) (fun ρ σ => ?_)
  refine xe_tkS [0,1] [16,0,3,4] 41 [(16,.v (.agg (tupL x.t).toArray)),(0,.v (.slice Al l.length Cl)),(3,.v (.int .i64 (k : Int))),(4,.p 0 0)] (fun _ _ h => h) rfl (by kernel_rfl) ?_
  refine xe_all [2] (by kernel_rfl) (by simp) ?_
  refine xs_call 2 23 [.agg (tupL x.t).toArray] (some 17) rfl (by kernel_rfl) rfl (by kernel_rfl) (xc_b fun ww hf => sTupleOk_c x.t.ip x.t.port x.t.my ww ) ?_
  intro _
  refine xe_tkS [3,4] [19,0,3,4] 38 [(19,.v (.bool (!(tupleOk x.t)))),(0,.v (.slice Al l.length Cl)),(3,.v (.int .i64 (k : Int))),(4,.p 0 0)] (fun _ _ h => h) rfl (by kernel_rfl) ?_
  refine xe_split 19 (b := !(tupleOk x.t)) (by kernel_rfl) (fun h2 => ?_) (fun h2 => ?_)
  have h2n := not_t h2
  refine xe_tkS [5,6,7,8,9,10,11,12,13,14,15,16,17,18,19,20,21,22,23,24,25,26,27,28,29,30,31,32,33,34,35,36,37,38,39,40,41,42] [57,0,3] 0 [(57,.v (.bool true)),(0,.v (.slice Al l.length Cl)),(3,.v (.int .i64 (k : Int)))] (fun _ _ h => h) rfl (by kernel_rfl) ?_
  refine xe_done (by kernel_rfl) ?_
  refine xw_true (by kernel_rfl) ?_
  refine xw_seq ?_
  refine xw_region ?_
  refine xl_endS [2] [(2,.v (.bool false))] (by kernel_rfl) ?_
  refine xw_ret ?_
  exact ⟨[.bool false],by kernel_rfl,fun w' hb hf => ⟨ret_bool (show (false : Bool) = halvesOk l from by first | (exact (hno (by simp only [hOne]; clear HK hno; simp_all)).symm) | (exact hall.symm) | (rw [hall]; symm; simp; omega) | (exact (halvesOk_long (by omega)).symm)),hb⟩⟩
  have h2n := not_f h2
  refine xe_tkS [5,6] [21,20,19,0,3,4] 36 [(21,.v (.int .i64 x.iss)),(20,.p 0 3),(19,.v (.bool false)),(0,.v (.slice Al l.length Cl)),(3,.v (.int .i64 (k : Int))),(4,.p 0 0)] (fun _ _ h => h) rfl (by kernel_rfl) ?_
  refine xe_all [7] (by kernel_rfl) (by simp) ?_
  refine xs_call 7 41 [.int .i64 x.iss,.int .i64 32] (some 22) rfl (by kernel_rfl) rfl (by kernel_rfl) (xc_s fun ww hf => sWordOk32_c x.iss ww) ?_
  intro _
  refine xe_tkS [8,9,10] [25,23,22,21,20,0,3,4] 32 [(25,.v (.bool (!(wordOk x.iss 32)))),(23,.v (.bool (!(wordOk x.iss 32)))),(22,.v (.bool (wordOk x.iss 32))),(21,.v (.int .i64 x.iss)),(20,.p 0 3),(0,.v (.slice Al l.length Cl)),(3,.v (.int .i64 (k : Int))),(4,.p 0 0)] (fun _ _ h => h) rfl (by kernel_rfl) ?_
  refine xe_split 25 (b := !(wordOk x.iss 32)) (by kernel_rfl) (fun h3 => ?_) (fun h3 => ?_)
  have h3n := not_t h3
  refine xe_tkS [11,12,13,14,15,16,17,18,19,20,21,22,23,24,25,26,27,28,29,30,31,32,33,34,35,36,37,38,39,40,41,42] [57,23,22,21,20,0,3] 0 [(57,.v (.bool true)),(23,.v (.bool (!(wordOk x.iss 32)))),(22,.v (.bool (wordOk x.iss 32))),(21,.v (.int .i64 x.iss)),(20,.p 0 3),(0,.v (.slice Al l.length Cl)),(3,.v (.int .i64 (k : Int)))] (fun _ _ h => h) rfl (by kernel_rfl) ?_
  refine xe_done (by kernel_rfl) ?_
  refine xw_true (by kernel_rfl) ?_
  refine xw_seq ?_
  refine xw_region ?_
  refine xl_endS [2] [(2,.v (.bool false))] (by kernel_rfl) ?_
  refine xw_ret ?_
  exact ⟨[.bool false],by kernel_rfl,fun w' hb hf => ⟨ret_bool (show (false : Bool) = halvesOk l from by first | (exact (hno (by simp only [hOne]; clear HK hno; simp_all)).symm) | (exact hall.symm) | (rw [hall]; symm; simp; omega) | (exact (halvesOk_long (by omega)).symm)),hb⟩⟩
  have h3n := not_f h3
  refine xe_tkS [11,12] [27,26,25,23,22,21,20,0,3,4] 30 [(27,.v (.int .i64 x.irs)),(26,.p 0 4),(25,.v (.bool false)),(23,.v (.bool (!(wordOk x.iss 32)))),(22,.v (.bool (wordOk x.iss 32))),(21,.v (.int .i64 x.iss)),(20,.p 0 3),(0,.v (.slice Al l.length Cl)),(3,.v (.int .i64 (k : Int))),(4,.p 0 0)] (fun _ _ h => h) rfl (by kernel_rfl) ?_
  refine xe_all [13] (by kernel_rfl) (by simp) ?_
  refine xs_call 13 41 [.int .i64 x.irs,.int .i64 32] (some 28) rfl (by kernel_rfl) rfl (by kernel_rfl) (xc_s fun ww hf => sWordOk32_c x.irs ww) ?_
  intro _
  refine xe_tkS [14,15,16] [31,29,28,27,26,23,22,21,20,0,3,4] 26 [(31,.v (.bool (!(wordOk x.irs 32)))),(29,.v (.bool (!(wordOk x.irs 32)))),(28,.v (.bool (wordOk x.irs 32))),(27,.v (.int .i64 x.irs)),(26,.p 0 4),(23,.v (.bool (!(wordOk x.iss 32)))),(22,.v (.bool (wordOk x.iss 32))),(21,.v (.int .i64 x.iss)),(20,.p 0 3),(0,.v (.slice Al l.length Cl)),(3,.v (.int .i64 (k : Int))),(4,.p 0 0)] (fun _ _ h => h) rfl (by kernel_rfl) ?_
  refine xe_split 31 (b := !(wordOk x.irs 32)) (by kernel_rfl) (fun h4 => ?_) (fun h4 => ?_)
  have h4n := not_t h4
  refine xe_tkS [17,18,19,20,21,22,23,24,25,26,27,28,29,30,31,32,33,34,35,36,37,38,39,40,41,42] [57,29,28,27,26,23,22,21,20,0,3] 0 [(57,.v (.bool true)),(29,.v (.bool (!(wordOk x.irs 32)))),(28,.v (.bool (wordOk x.irs 32))),(27,.v (.int .i64 x.irs)),(26,.p 0 4),(23,.v (.bool (!(wordOk x.iss 32)))),(22,.v (.bool (wordOk x.iss 32))),(21,.v (.int .i64 x.iss)),(20,.p 0 3),(0,.v (.slice Al l.length Cl)),(3,.v (.int .i64 (k : Int)))] (fun _ _ h => h) rfl (by kernel_rfl) ?_
  refine xe_done (by kernel_rfl) ?_
  refine xw_true (by kernel_rfl) ?_
  refine xw_seq ?_
  refine xw_region ?_
  refine xl_endS [2] [(2,.v (.bool false))] (by kernel_rfl) ?_
  refine xw_ret ?_
  exact ⟨[.bool false],by kernel_rfl,fun w' hb hf => ⟨ret_bool (show (false : Bool) = halvesOk l from by first | (exact (hno (by simp only [hOne]; clear HK hno; simp_all)).symm) | (exact hall.symm) | (rw [hall]; symm; simp; omega) | (exact (halvesOk_long (by omega)).symm)),hb⟩⟩
  have h4n := not_f h4
  refine xe_tkS [17,18] [33,32,31,29,28,27,26,23,22,21,20,0,3,4] 24 [(33,.v (.int .i64 x.window)),(32,.p 0 12),(31,.v (.bool false)),(29,.v (.bool (!(wordOk x.irs 32)))),(28,.v (.bool (wordOk x.irs 32))),(27,.v (.int .i64 x.irs)),(26,.p 0 4),(23,.v (.bool (!(wordOk x.iss 32)))),(22,.v (.bool (wordOk x.iss 32))),(21,.v (.int .i64 x.iss)),(20,.p 0 3),(0,.v (.slice Al l.length Cl)),(3,.v (.int .i64 (k : Int))),(4,.p 0 0)] (fun _ _ h => h) rfl (by kernel_rfl) ?_
  refine xe_all [19] (by kernel_rfl) (by simp) ?_
  refine xs_call 19 41 [.int .i64 x.window,.int .i64 16] (some 34) rfl (by kernel_rfl) rfl (by kernel_rfl) (xc_s fun ww hf => sWordOk16_c x.window ww) ?_
  intro _
  refine xe_tkS [20,21,22] [37,35,34,33,32,29,28,27,26,23,22,21,20,0,3,4] 20 [(37,.v (.bool (!(wordOk x.window 16)))),(35,.v (.bool (!(wordOk x.window 16)))),(34,.v (.bool (wordOk x.window 16))),(33,.v (.int .i64 x.window)),(32,.p 0 12),(29,.v (.bool (!(wordOk x.irs 32)))),(28,.v (.bool (wordOk x.irs 32))),(27,.v (.int .i64 x.irs)),(26,.p 0 4),(23,.v (.bool (!(wordOk x.iss 32)))),(22,.v (.bool (wordOk x.iss 32))),(21,.v (.int .i64 x.iss)),(20,.p 0 3),(0,.v (.slice Al l.length Cl)),(3,.v (.int .i64 (k : Int))),(4,.p 0 0)] (fun _ _ h => h) rfl (by kernel_rfl) ?_
  refine xe_split 37 (b := !(wordOk x.window 16)) (by kernel_rfl) (fun h5 => ?_) (fun h5 => ?_)
  have h5n := not_t h5
  refine xe_tkS [23,24,25,26,27,28,29,30,31,32,33,34,35,36,37,38,39,40,41,42] [57,35,34,33,32,29,28,27,26,23,22,21,20,0,3] 0 [(57,.v (.bool true)),(35,.v (.bool (!(wordOk x.window 16)))),(34,.v (.bool (wordOk x.window 16))),(33,.v (.int .i64 x.window)),(32,.p 0 12),(29,.v (.bool (!(wordOk x.irs 32)))),(28,.v (.bool (wordOk x.irs 32))),(27,.v (.int .i64 x.irs)),(26,.p 0 4),(23,.v (.bool (!(wordOk x.iss 32)))),(22,.v (.bool (wordOk x.iss 32))),(21,.v (.int .i64 x.iss)),(20,.p 0 3),(0,.v (.slice Al l.length Cl)),(3,.v (.int .i64 (k : Int)))] (fun _ _ h => h) rfl (by kernel_rfl) ?_
  refine xe_done (by kernel_rfl) ?_
  refine xw_true (by kernel_rfl) ?_
  refine xw_seq ?_
  refine xw_region ?_
  refine xl_endS [2] [(2,.v (.bool false))] (by kernel_rfl) ?_
  refine xw_ret ?_
  exact ⟨[.bool false],by kernel_rfl,fun w' hb hf => ⟨ret_bool (show (false : Bool) = halvesOk l from by first | (exact (hno (by simp only [hOne]; clear HK hno; simp_all)).symm) | (exact hall.symm) | (rw [hall]; symm; simp; omega) | (exact (halvesOk_long (by omega)).symm)),hb⟩⟩
  have h5n := not_f h5
  have h5nw := wordOk16_bd (by simpa using h5n)
  obtain ⟨h5nw0,h5nw1⟩ := h5nw
  refine xe_tkS [23,24] [39,38,37,35,34,33,32,29,28,27,26,23,22,21,20,0,3,4] 18 [(39,.v (.agg (optL x.o).toArray)),(38,.p 0 5),(37,.v (.bool false)),(35,.v (.bool (!(wordOk x.window 16)))),(34,.v (.bool (wordOk x.window 16))),(33,.v (.int .i64 x.window)),(32,.p 0 12),(29,.v (.bool (!(wordOk x.irs 32)))),(28,.v (.bool (wordOk x.irs 32))),(27,.v (.int .i64 x.irs)),(26,.p 0 4),(23,.v (.bool (!(wordOk x.iss 32)))),(22,.v (.bool (wordOk x.iss 32))),(21,.v (.int .i64 x.iss)),(20,.p 0 3),(0,.v (.slice Al l.length Cl)),(3,.v (.int .i64 (k : Int))),(4,.p 0 0)] (fun _ _ h => h) rfl (by kernel_rfl) ?_
  refine xe_all [25] (by kernel_rfl) (by simp) ?_
  refine xs_call 25 11 [.agg (optL x.o).toArray] (some 40) rfl (by kernel_rfl) rfl (by kernel_rfl) (xc_b fun ww hf => sOptionsOk_c x.o.mss x.o.scale x.o.sack x.o.stamp x.o.val x.o.echo ww ) ?_
  intro _
  refine xe_tkS [26,27,28] [43,41,40,39,38,35,34,33,32,29,28,27,26,23,22,21,20,0,3,4] 14 [(43,.v (.bool (!(optionsOk x.o)))),(41,.v (.bool (!(optionsOk x.o)))),(40,.v (.bool (optionsOk x.o))),(39,.v (.agg (optL x.o).toArray)),(38,.p 0 5),(35,.v (.bool (!(wordOk x.window 16)))),(34,.v (.bool (wordOk x.window 16))),(33,.v (.int .i64 x.window)),(32,.p 0 12),(29,.v (.bool (!(wordOk x.irs 32)))),(28,.v (.bool (wordOk x.irs 32))),(27,.v (.int .i64 x.irs)),(26,.p 0 4),(23,.v (.bool (!(wordOk x.iss 32)))),(22,.v (.bool (wordOk x.iss 32))),(21,.v (.int .i64 x.iss)),(20,.p 0 3),(0,.v (.slice Al l.length Cl)),(3,.v (.int .i64 (k : Int))),(4,.p 0 0)] (fun _ _ h => h) rfl (by kernel_rfl) ?_
  refine xe_split 43 (b := !(optionsOk x.o)) (by kernel_rfl) (fun h6 => ?_) (fun h6 => ?_)
  have h6n := not_t h6
  refine xe_tkS [29,30,31,32,33,34,35,36,37,38,39,40,41,42] [57,41,40,39,38,35,34,33,32,29,28,27,26,23,22,21,20,0,3] 0 [(57,.v (.bool true)),(41,.v (.bool (!(optionsOk x.o)))),(40,.v (.bool (optionsOk x.o))),(39,.v (.agg (optL x.o).toArray)),(38,.p 0 5),(35,.v (.bool (!(wordOk x.window 16)))),(34,.v (.bool (wordOk x.window 16))),(33,.v (.int .i64 x.window)),(32,.p 0 12),(29,.v (.bool (!(wordOk x.irs 32)))),(28,.v (.bool (wordOk x.irs 32))),(27,.v (.int .i64 x.irs)),(26,.p 0 4),(23,.v (.bool (!(wordOk x.iss 32)))),(22,.v (.bool (wordOk x.iss 32))),(21,.v (.int .i64 x.iss)),(20,.p 0 3),(0,.v (.slice Al l.length Cl)),(3,.v (.int .i64 (k : Int)))] (fun _ _ h => h) rfl (by kernel_rfl) ?_
  refine xe_done (by kernel_rfl) ?_
  refine xw_true (by kernel_rfl) ?_
  refine xw_seq ?_
  refine xw_region ?_
  refine xl_endS [2] [(2,.v (.bool false))] (by kernel_rfl) ?_
  refine xw_ret ?_
  exact ⟨[.bool false],by kernel_rfl,fun w' hb hf => ⟨ret_bool (show (false : Bool) = halvesOk l from by first | (exact (hno (by simp only [hOne]; clear HK hno; simp_all)).symm) | (exact hall.symm) | (rw [hall]; symm; simp; omega) | (exact (halvesOk_long (by omega)).symm)),hb⟩⟩
  have h6n := not_f h6
  have h6nw := optionsOk_bd (by simpa using h6n)
  obtain ⟨h6nw0,h6nw1⟩ := h6nw
  refine xe_tkS [29,30] [45,44,43,41,40,39,38,35,34,33,32,29,28,27,26,23,22,21,20,0,3,4] 12 [(45,.v (.int .i64 x.age)),(44,.p 0 11),(43,.v (.bool false)),(41,.v (.bool (!(optionsOk x.o)))),(40,.v (.bool (optionsOk x.o))),(39,.v (.agg (optL x.o).toArray)),(38,.p 0 5),(35,.v (.bool (!(wordOk x.window 16)))),(34,.v (.bool (wordOk x.window 16))),(33,.v (.int .i64 x.window)),(32,.p 0 12),(29,.v (.bool (!(wordOk x.irs 32)))),(28,.v (.bool (wordOk x.irs 32))),(27,.v (.int .i64 x.irs)),(26,.p 0 4),(23,.v (.bool (!(wordOk x.iss 32)))),(22,.v (.bool (wordOk x.iss 32))),(21,.v (.int .i64 x.iss)),(20,.p 0 3),(0,.v (.slice Al l.length Cl)),(3,.v (.int .i64 (k : Int))),(4,.p 0 0)] (fun _ _ h => h) rfl (by kernel_rfl) ?_
  refine xe_all [31] (by kernel_rfl) (by simp) ?_
  refine xs_call 31 42 [.int .i64 x.age,.int .i64 0,.int .i64 6] (some 46) rfl (by kernel_rfl) rfl (by kernel_rfl) (xc_s fun ww hf => l1In_c x.age 0 6 ww ) ?_
  intro _
  refine xe_tkS [32,33,34] [49,47,46,45,44,41,40,39,38,35,34,33,32,29,28,27,26,23,22,21,20,0,3,4] 8 [(49,.v (.bool (!(inB x.age 0 6)))),(47,.v (.bool (!(inB x.age 0 6)))),(46,.v (.bool (inB x.age 0 6))),(45,.v (.int .i64 x.age)),(44,.p 0 11),(41,.v (.bool (!(optionsOk x.o)))),(40,.v (.bool (optionsOk x.o))),(39,.v (.agg (optL x.o).toArray)),(38,.p 0 5),(35,.v (.bool (!(wordOk x.window 16)))),(34,.v (.bool (wordOk x.window 16))),(33,.v (.int .i64 x.window)),(32,.p 0 12),(29,.v (.bool (!(wordOk x.irs 32)))),(28,.v (.bool (wordOk x.irs 32))),(27,.v (.int .i64 x.irs)),(26,.p 0 4),(23,.v (.bool (!(wordOk x.iss 32)))),(22,.v (.bool (wordOk x.iss 32))),(21,.v (.int .i64 x.iss)),(20,.p 0 3),(0,.v (.slice Al l.length Cl)),(3,.v (.int .i64 (k : Int))),(4,.p 0 0)] (fun _ _ h => h) rfl (by kernel_rfl) ?_
  refine xe_split 49 (b := !(inB x.age 0 6)) (by kernel_rfl) (fun h7 => ?_) (fun h7 => ?_)
  have h7n := not_t h7
  have h7ni := inB_ff.1 (show inB x.age 0 6 = false from by simpa using h7n)
  refine xe_tkS [35,36,37,38,39,40,41,42] [57,47,46,45,44,41,40,39,38,35,34,33,32,29,28,27,26,23,22,21,20,0,3] 0 [(57,.v (.bool true)),(47,.v (.bool (!(inB x.age 0 6)))),(46,.v (.bool (inB x.age 0 6))),(45,.v (.int .i64 x.age)),(44,.p 0 11),(41,.v (.bool (!(optionsOk x.o)))),(40,.v (.bool (optionsOk x.o))),(39,.v (.agg (optL x.o).toArray)),(38,.p 0 5),(35,.v (.bool (!(wordOk x.window 16)))),(34,.v (.bool (wordOk x.window 16))),(33,.v (.int .i64 x.window)),(32,.p 0 12),(29,.v (.bool (!(wordOk x.irs 32)))),(28,.v (.bool (wordOk x.irs 32))),(27,.v (.int .i64 x.irs)),(26,.p 0 4),(23,.v (.bool (!(wordOk x.iss 32)))),(22,.v (.bool (wordOk x.iss 32))),(21,.v (.int .i64 x.iss)),(20,.p 0 3),(0,.v (.slice Al l.length Cl)),(3,.v (.int .i64 (k : Int)))] (fun _ _ h => h) rfl (by kernel_rfl) ?_
  refine xe_done (by kernel_rfl) ?_
  refine xw_true (by kernel_rfl) ?_
  refine xw_seq ?_
  refine xw_region ?_
  refine xl_endS [2] [(2,.v (.bool false))] (by kernel_rfl) ?_
  refine xw_ret ?_
  exact ⟨[.bool false],by kernel_rfl,fun w' hb hf => ⟨ret_bool (show (false : Bool) = halvesOk l from by first | (exact (hno (by simp only [hOne]; clear HK hno; simp_all)).symm) | (exact hall.symm) | (rw [hall]; symm; simp; omega) | (exact (halvesOk_long (by omega)).symm)),hb⟩⟩
  have h7n := not_f h7
  have h7ni := inB_tt.1 (show inB x.age 0 6 = true from by simpa using h7n)
  refine xe_tkS [35,36,38,39] [54,53,51,50,49,47,46,45,44,41,40,39,38,35,34,33,32,29,28,27,26,23,22,21,20,0,3] 4 [(54,.v (.agg (tupL x.t).toArray)),(53,.p 0 0),(51,.v (.int .i64 (k : Int))),(50,.v (.slice Al l.length Cl)),(49,.v (.bool false)),(47,.v (.bool (!(inB x.age 0 6)))),(46,.v (.bool (inB x.age 0 6))),(45,.v (.int .i64 x.age)),(44,.p 0 11),(41,.v (.bool (!(optionsOk x.o)))),(40,.v (.bool (optionsOk x.o))),(39,.v (.agg (optL x.o).toArray)),(38,.p 0 5),(35,.v (.bool (!(wordOk x.window 16)))),(34,.v (.bool (wordOk x.window 16))),(33,.v (.int .i64 x.window)),(32,.p 0 12),(29,.v (.bool (!(wordOk x.irs 32)))),(28,.v (.bool (wordOk x.irs 32))),(27,.v (.int .i64 x.irs)),(26,.p 0 4),(23,.v (.bool (!(wordOk x.iss 32)))),(22,.v (.bool (wordOk x.iss 32))),(21,.v (.int .i64 x.iss)),(20,.p 0 3),(0,.v (.slice Al l.length Cl)),(3,.v (.int .i64 (k : Int)))] (fun _ _ h => h) rfl (by kernel_rfl) ?_
  refine xe_op 37 (.slice (if Cl = 0 then Al else Al.map (·.add (0 * 13))) (k - 0) (Cl - 0)) _ rfl (by kernel_rfl) (by kernel_rfl) (by kernel_rfl) (fun _ _ h => h) (by kernel_rfl) rfl (fun _ _ ww hA => act_slV0 (e := 56) k hA rfl (by kernel_rfl) (by kernel_rfl) rfl rfl rfl (by omega) ww) rfl ?_
  refine xe_all [40] (by kernel_rfl) (by simp) ?_
  refine xs_call 40 69 [.slice (if Cl = 0 then Al else Al.map (·.add (0 * 13))) (k - 0) (Cl - 0),.agg (tupL x.t).toArray] (some 55) rfl (by kernel_rfl) rfl (by kernel_rfl) (xc_b fun ww hf => sFindHalf_c (.slice (if Cl = 0 then Al else Al.map (·.add (0 * 13))) (k - 0) (Cl - 0)) ((l.drop 0).take (k - 0)) x.t.ip x.t.port x.t.my ww (Sl.partM (hf (slF (.slice Al l.length Cl) 13 (l.map hlfCells)) (by simp)) 0 k (by omega) (by omega)) ) ?_
  intro _
  refine xe_tkS [41,42] [57,56,55,52,54,53,51,50,47,46,45,44,41,40,39,38,35,34,33,32,29,28,27,26,23,22,21,20,0,3] 0 [(57,.v (.bool (decide ((findHalf ((l.drop 0).take (k - 0)) x.t) ≥ 0)))),(56,.v (.bool (decide ((findHalf ((l.drop 0).take (k - 0)) x.t) ≥ 0)))),(55,.v (.int .i64 (findHalf ((l.drop 0).take (k - 0)) x.t))),(52,.v (.slice (if Cl = 0 then Al else Al.map (·.add (0 * 13))) (k - 0) (Cl - 0))),(54,.v (.agg (tupL x.t).toArray)),(53,.p 0 0),(51,.v (.int .i64 (k : Int))),(50,.v (.slice Al l.length Cl)),(47,.v (.bool (!(inB x.age 0 6)))),(46,.v (.bool (inB x.age 0 6))),(45,.v (.int .i64 x.age)),(44,.p 0 11),(41,.v (.bool (!(optionsOk x.o)))),(40,.v (.bool (optionsOk x.o))),(39,.v (.agg (optL x.o).toArray)),(38,.p 0 5),(35,.v (.bool (!(wordOk x.window 16)))),(34,.v (.bool (wordOk x.window 16))),(33,.v (.int .i64 x.window)),(32,.p 0 12),(29,.v (.bool (!(wordOk x.irs 32)))),(28,.v (.bool (wordOk x.irs 32))),(27,.v (.int .i64 x.irs)),(26,.p 0 4),(23,.v (.bool (!(wordOk x.iss 32)))),(22,.v (.bool (wordOk x.iss 32))),(21,.v (.int .i64 x.iss)),(20,.p 0 3),(0,.v (.slice Al l.length Cl)),(3,.v (.int .i64 (k : Int)))] (fun _ _ h => h) rfl (by kernel_rfl) ?_
  refine xe_done (by kernel_rfl) ?_
  refine xw_cond (b := decide ((findHalf ((l.drop 0).take (k - 0)) x.t) ≥ 0)) (by kernel_rfl) (fun h8 => ?_) (fun h8 => ?_)
  have h8p : ((findHalf ((l.drop 0).take (k - 0)) x.t) ≥ 0) := of_decide_eq_true h8
  refine xw_seq ?_
  refine xw_region ?_
  refine xl_endS [2] [(2,.v (.bool false))] (by kernel_rfl) ?_
  refine xw_ret ?_
  exact ⟨[.bool false],by kernel_rfl,fun w' hb hf => ⟨ret_bool (show (false : Bool) = halvesOk l from by first | (exact (hno (by simp only [hOne]; clear HK hno; simp_all)).symm) | (exact hall.symm) | (rw [hall]; symm; simp; omega) | (exact (halvesOk_long (by omega)).symm)),hb⟩⟩
  have h8p : ¬ ((findHalf ((l.drop 0).take (k - 0)) x.t) ≥ 0) := of_decide_eq_false h8
  refine xw_skip ?_
  refine xw_region ?_
  refine xl_runS 3 [0,3,20,21,22,23,26,27,28,29,32,33,34,35,38,39,40,41,44,45,46,47,50,51,52,53,54,55,56] [(0,.v (.slice Al l.length Cl)),(3,.v (.int .i64 (IntKind.i64.wrap ((k : Int) + 1)))),(20,.p 0 3),(21,.v (.int .i64 x.iss)),(22,.v (.bool (wordOk x.iss 32))),(23,.v (.bool (!(wordOk x.iss 32)))),(26,.p 0 4),(27,.v (.int .i64 x.irs)),(28,.v (.bool (wordOk x.irs 32))),(29,.v (.bool (!(wordOk x.irs 32)))),(32,.p 0 12),(33,.v (.int .i64 x.window)),(34,.v (.bool (wordOk x.window 16))),(35,.v (.bool (!(wordOk x.window 16)))),(38,.p 0 5),(39,.v (.agg (optL x.o).toArray)),(40,.v (.bool (optionsOk x.o))),(41,.v (.bool (!(optionsOk x.o)))),(44,.p 0 11),(45,.v (.int .i64 x.age)),(46,.v (.bool (inB x.age 0 6))),(47,.v (.bool (!(inB x.age 0 6)))),(50,.v (.slice Al l.length Cl)),(51,.v (.int .i64 (k : Int))),(52,.v (.slice (if Cl = 0 then Al else Al.map (·.add (0 * 13))) (k - 0) (Cl - 0))),(53,.p 0 0),(54,.v (.agg (tupL x.t).toArray)),(55,.v (.int .i64 (findHalf ((l.drop 0).take (k - 0)) x.t))),(56,.v (.bool (decide ((findHalf ((l.drop 0).take (k - 0)) x.t) ≥ 0))))] (by kernel_rfl) ?_
  refine xl_eqS (t' := [(0,.v (.slice Al l.length Cl)),(3,.v (.int .i64 ((k : Int) + 1))),(20,.p 0 3),(21,.v (.int .i64 x.iss)),(22,.v (.bool (wordOk x.iss 32))),(23,.v (.bool (!(wordOk x.iss 32)))),(26,.p 0 4),(27,.v (.int .i64 x.irs)),(28,.v (.bool (wordOk x.irs 32))),(29,.v (.bool (!(wordOk x.irs 32)))),(32,.p 0 12),(33,.v (.int .i64 x.window)),(34,.v (.bool (wordOk x.window 16))),(35,.v (.bool (!(wordOk x.window 16)))),(38,.p 0 5),(39,.v (.agg (optL x.o).toArray)),(40,.v (.bool (optionsOk x.o))),(41,.v (.bool (!(optionsOk x.o)))),(44,.p 0 11),(45,.v (.int .i64 x.age)),(46,.v (.bool (inB x.age 0 6))),(47,.v (.bool (!(inB x.age 0 6)))),(50,.v (.slice Al l.length Cl)),(51,.v (.int .i64 (k : Int))),(52,.v (.slice (if Cl = 0 then Al else Al.map (·.add (0 * 13))) (k - 0) (Cl - 0))),(53,.p 0 0),(54,.v (.agg (tupL x.t).toArray)),(55,.v (.int .i64 (findHalf ((l.drop 0).take (k - 0)) x.t))),(56,.v (.bool (decide ((findHalf ((l.drop 0).take (k - 0)) x.t) ≥ 0))))]) (by rw [show (IntKind.i64.wrap ((k : Int) + 1)) = ((k : Int) + 1) from wrap_id (by omega) (by omega)]) ?_
  refine xl_endS [0,3,20,21,22,23,26,27,28,29,32,33,34,35,38,39,40,41,44,45,46,47,50,51,52,53,54,55,56] [(0,.v (.slice Al l.length Cl)),(3,.v (.int .i64 ((k : Int) + 1))),(20,.p 0 3),(21,.v (.int .i64 x.iss)),(22,.v (.bool (wordOk x.iss 32))),(23,.v (.bool (!(wordOk x.iss 32)))),(26,.p 0 4),(27,.v (.int .i64 x.irs)),(28,.v (.bool (wordOk x.irs 32))),(29,.v (.bool (!(wordOk x.irs 32)))),(32,.p 0 12),(33,.v (.int .i64 x.window)),(34,.v (.bool (wordOk x.window 16))),(35,.v (.bool (!(wordOk x.window 16)))),(38,.p 0 5),(39,.v (.agg (optL x.o).toArray)),(40,.v (.bool (optionsOk x.o))),(41,.v (.bool (!(optionsOk x.o)))),(44,.p 0 11),(45,.v (.int .i64 x.age)),(46,.v (.bool (inB x.age 0 6))),(47,.v (.bool (!(inB x.age 0 6)))),(50,.v (.slice Al l.length Cl)),(51,.v (.int .i64 (k : Int))),(52,.v (.slice (if Cl = 0 then Al else Al.map (·.add (0 * 13))) (k - 0) (Cl - 0))),(53,.p 0 0),(54,.v (.agg (tupL x.t).toArray)),(55,.v (.int .i64 (findHalf ((l.drop 0).take (k - 0)) x.t))),(56,.v (.bool (decide ((findHalf ((l.drop 0).take (k - 0)) x.t) ≥ 0))))] (by kernel_rfl) ?_
  exact ⟨⟨(k + 1),⟨by omega,half_step hx (by simp only [hOne]; clear HK; simp_all) HK⟩⟩,wk_forget 0 0 [0,3] (by kernel_rfl) (by kernel_rfl) (by kernel_rfl),by show l.length - (k + 1) < l.length - k; omega⟩
  have h1p : ¬ ((k : Int) < ((l.length : Nat) : Int)) := of_decide_eq_false h1
  have hge : k = l.length := by simp at h1; omega
  have hall := halvesOk_all hge HK
  refine xw_exit ?_
  refine xw_seq ?_
  refine xw_region ?_
  refine xl_endS [2] [(2,.v (.bool (decide (((l.length : Nat) : Int) ≤ 64))))] (by kernel_rfl) ?_
  refine xw_ret ?_
  exact ⟨[.bool (decide (((l.length : Nat) : Int) ≤ 64))],by kernel_rfl,fun w' hb hf => ⟨ret_bool (show (decide (((l.length : Nat) : Int) ≤ 64) : Bool) = halvesOk l from by first | (exact (hno (by simp only [hOne]; clear HK hno; simp_all)).symm) | (exact hall.symm) | (rw [hall]; symm; simp; omega) | (exact (halvesOk_long (by omega)).symm)),hb⟩⟩
set_option maxHeartbeats 1000000 in
theorem ysPutHalf_c (l : List Hlf) (lV : Value) (h : Hlf) (most : Int) (w : World) (hl_lV : Sl w lV 13 (l.map hlfCells)) (hkn : l.length ≤ 1048576) (B : Nat) (hB : B ≤ w.heap.size) : Calls Try.prog 29 #[lV, .agg (hlfL h).toArray, .int .i64 most] w fun e w' => XRs w w' e (α := Option Addr × Nat) (fun y => .tuple #[.slice y.1 ((putHalf l h most).1.length) y.2, .bool ((putHalf l h most).2)]) (fun y => [ownF B (.slice y.1 ((putHalf l h most).1.length) y.2) 13 ((putHalf l h most).1.map hlfCells)]) := by
  obtain ⟨Al,Cl,hvl⟩ := hl_lV.form
  rw [List.length_map] at hvl; subst hvl
  have hnl := hl_lV.len; rw [List.length_map] at hnl
  have hql := Sl.capLe hl_lV
  refine x_callsA (args := [.slice Al l.length Cl,.agg (hlfL h).toArray,.int .i64 most]) (fn := Try.f29) [slF (.slice Al l.length Cl) 13 (l.map hlfCells)] Try.func29 rfl Try.ntmps29 rfl (by simp only [List.mem_cons,List.not_mem_nil,or_false,forall_eq_or_imp,forall_eq]; exact ⟨rfl,hl_lV⟩) ?_
  refine xw_seq ?_
  refine xw_region ?_
  refine xl_end [0,2,4] ⟨[(0,.v (.slice Al l.length Cl)),(2,.v (.int .i64 most)),(4,.p 0 0)],[⟨56,hlfL h⟩],[],[slF (.slice Al l.length Cl) 13 (l.map hlfCells)]⟩ (by kernel_rfl) ?_
  refine xw_seq ?_
  refine xw_region ?_
  refine xl_hvS 0 [0,2,4] [(0,.v (.slice Al l.length Cl)),(2,.v (.int .i64 most)),(4,.p 0 0)] (by kernel_rfl) rfl (by kernel_rfl) rfl (by kernel_rfl) (hv_build (e := 56) (K := 13) (bytes := 96) [] rfl (by kernel_rfl) (by kernel_rfl) (by kernel_rfl) (by kernel_rfl) (by kernel_rfl) (rs := ([] : List Hlf).map hlfCells) rfl) ?_
  intro g1
  refine xl_hvS 1 [0,2,4,10,11] [(0,.v (.slice Al l.length Cl)),(2,.v (.int .i64 most)),(4,.p 0 0),(10,.v (.slice (some ⟨g1,0,none⟩) 0 0)),(11,.v (.slice Al l.length Cl))] (by kernel_rfl) rfl (by kernel_rfl) rfl (by kernel_rfl) (hv_append (e := 56) (K := 13) (bytes := 96) (i := 0) (q := l.length) (new := l.map hlfCells) (rs' := l.map hlfCells) rfl rfl rfl rfl (by kernel_rfl) (by kernel_rfl) (by kernel_rfl) rfl (by simp) rfl (by simp) (fun ww hf => (hf (slF (.slice Al l.length Cl) 13 (l.map hlfCells)) (by simp))) (by intro r hr; obtain ⟨x,hx,rfl⟩ := List.mem_map.1 hr; exact ⟨rfl,by simp [hlfCells,Value.oneCell']⟩) (by (try simp only [List.length_map,List.length_append,List.length_cons,List.length_nil,List.length_take,List.length_drop,maxLen]); omega) (by (try simp only [List.length_map,List.length_append,List.length_cons,List.length_nil,List.length_take,List.length_drop,maxLen]); omega)) ?_
  rintro ⟨v2a,v2c⟩
  refine xl_endS [0,2,4,8] [(0,.v (.slice Al l.length Cl)),(2,.v (.int .i64 most)),(4,.p 0 0),(8,.v (.slice v2a l.length v2c))] (by kernel_rfl) ?_
  refine xw_seq ?_
  refine xw_joinE (α := Option Addr × Nat × Nat) (fun y => (fun (v12a : Option Addr) (v12c : Nat) (g10 : Nat) => (⟨[(0,.v (.slice Al l.length Cl)),(2,.v (.int .i64 most)),(8,.v (.slice v2a l.length v2c)),(9,.v (.slice v12a ((l ++ ([h] : List Hlf)).length) v12c))],[⟨56,hlfL h⟩],[],[rowF w.heap.size 56 13 (.slice v12a ((l ++ ([h] : List Hlf)).length) v12c) ((l ++ ([h] : List Hlf)).map hlfCells),rowF w.heap.size 56 13 (.slice (some ⟨g10,0,none⟩) 1 1) (([h] : List Hlf).map hlfCells),rowF w.heap.size 56 13 (.slice v2a l.length v2c) (l.map hlfCells),slF (.slice Al l.length Cl) 13 (l.map hlfCells)]⟩ : St)) y.1 y.2.1 y.2.2) ?_ ?_
  refine xe_region0 [] (by kernel_rfl) (fun ρ σ => ?_)
  refine xe_tkS [1,3] [16,14,0,2,8] 5 [(16,.v (.agg (hlfL h).toArray)),(14,.v (.slice Al l.length Cl)),(0,.v (.slice Al l.length Cl)),(2,.v (.int .i64 most)),(8,.v (.slice v2a l.length v2c))] (fun _ _ h => h) rfl (by kernel_rfl) ?_
  refine xe_all [0,4] (by kernel_rfl) (by simp) ⟨?_,?_⟩
  refine xs_hv 0 rfl (by kernel_rfl) (by kernel_rfl) (by kernel_rfl) (under_t under_nil) rfl (hv_build (e := 56) (K := 13) (bytes := 96) [] rfl (by kernel_rfl) (by kernel_rfl) (by kernel_rfl) (by kernel_rfl) (by kernel_rfl) (rs := ([] : List Hlf).map hlfCells) rfl) ?_
  intro g5
  refine xe_all [2,4] (by kernel_rfl) (by simp) ⟨?_,?_⟩
  refine xs_hv 2 rfl (by kernel_rfl) (by kernel_rfl) (by kernel_rfl) (under_t under_nil) rfl (hv_append (e := 56) (K := 13) (bytes := 96) (i := 0) (q := l.length) (new := l.map hlfCells) (rs' := l.map hlfCells) rfl rfl rfl rfl (by kernel_rfl) (by kernel_rfl) (by kernel_rfl) rfl (by simp) rfl (by simp) (fun ww hf => (hf (slF (.slice Al l.length Cl) 13 (l.map hlfCells)) (by simp))) (by intro r hr; obtain ⟨x,hx,rfl⟩ := List.mem_map.1 hr; exact ⟨rfl,by simp [hlfCells,Value.oneCell']⟩) (by (try simp only [List.length_map,List.length_append,List.length_cons,List.length_nil,List.length_take,List.length_drop,maxLen]); omega) (by (try simp only [List.length_map,List.length_append,List.length_cons,List.length_nil,List.length_take,List.length_drop,maxLen]); omega)) ?_
  rintro ⟨v8a,v8c⟩
  refine xe_all [4] (by kernel_rfl) (by simp) ?_
  refine xs_hv 4 rfl (by kernel_rfl) (by kernel_rfl) (by kernel_rfl) (under_t under_nil) rfl (hv_build (e := 56) (K := 13) (bytes := 96) [.agg (hlfL h).toArray] rfl (by kernel_rfl) (by kernel_rfl) (by kernel_rfl) (by kernel_rfl) (by kernel_rfl) (rs := ([h] : List Hlf).map hlfCells) rfl) ?_
  intro g10
  refine xe_all [5] (by kernel_rfl) (by simp) ?_
  refine xs_hv 5 rfl (by kernel_rfl) (by kernel_rfl) (by kernel_rfl) (under_t under_nil) rfl (hv_append (e := 56) (K := 13) (bytes := 96) (i := 1) (q := (l ++ ([h] : List Hlf)).length) (new := ([h] : List Hlf).map hlfCells) (rs' := (l ++ ([h] : List Hlf)).map hlfCells) rfl rfl rfl rfl (by kernel_rfl) (by kernel_rfl) (by kernel_rfl) rfl (by simp) (by rw [List.map_append]) (by simp) (fun ww hf => (rowF_sl (hf (rowF w.heap.size 56 13 (.slice (some ⟨g10,0,none⟩) 1 1) (([h] : List Hlf).map hlfCells)) (by simp)))) (by intro r hr; obtain ⟨x,hx,rfl⟩ := List.mem_map.1 hr; exact ⟨rfl,by simp [hlfCells,Value.oneCell']⟩) (by (try simp only [List.length_map,List.length_append,List.length_cons,List.length_nil,List.length_take,List.length_drop,maxLen]); omega) (by (try simp only [List.length_map,List.length_append,List.length_cons,List.length_nil,List.length_take,List.length_drop,maxLen]); omega)) ?_
  rintro ⟨v12a,v12c⟩
  refine xe_tkS [6] [9,0,2,8] 0 [(9,.v (.slice v12a ((l ++ ([h] : List Hlf)).length) v12c)),(0,.v (.slice Al l.length Cl)),(2,.v (.int .i64 most)),(8,.v (.slice v2a l.length v2c))] (fun _ _ h => h) rfl (by kernel_rfl) ?_
  refine xe_done (by kernel_rfl) ?_
  exact ⟨(v12a,v12c,g10),wk_forget 1 0 [0,2,8,9] (by kernel_rfl) (by kernel_rfl) (by kernel_rfl)⟩
  refine xs_hv 4 rfl (by kernel_rfl) (by kernel_rfl) (by kernel_rfl) (under_t under_nil) rfl (hv_build (e := 56) (K := 13) (bytes := 96) [.agg (hlfL h).toArray] rfl (by kernel_rfl) (by kernel_rfl) (by kernel_rfl) (by kernel_rfl) (by kernel_rfl) (rs := ([h] : List Hlf).map hlfCells) rfl) ?_
  intro g13
  refine xe_all [2] (by kernel_rfl) (by simp) ?_
  refine xs_hv 2 rfl (by kernel_rfl) (by kernel_rfl) (by kernel_rfl) (under_t under_nil) rfl (hv_append (e := 56) (K := 13) (bytes := 96) (i := 1) (q := l.length) (new := l.map hlfCells) (rs' := l.map hlfCells) rfl rfl rfl rfl (by kernel_rfl) (by kernel_rfl) (by kernel_rfl) rfl (by simp) rfl (by simp) (fun ww hf => (hf (slF (.slice Al l.length Cl) 13 (l.map hlfCells)) (by simp))) (by intro r hr; obtain ⟨x,hx,rfl⟩ := List.mem_map.1 hr; exact ⟨rfl,by simp [hlfCells,Value.oneCell']⟩) (by (try simp only [List.length_map,List.length_append,List.length_cons,List.length_nil,List.length_take,List.length_drop,maxLen]); omega) (by (try simp only [List.length_map,List.length_append,List.length_cons,List.length_nil,List.length_take,List.length_drop,maxLen]); omega)) ?_
  rintro ⟨v15a,v15c⟩
  refine xe_all [5] (by kernel_rfl) (by simp) ?_
  refine xs_hv 5 rfl (by kernel_rfl) (by kernel_rfl) (by kernel_rfl) (under_t under_nil) rfl (hv_append (e := 56) (K := 13) (bytes := 96) (i := 0) (q := (l ++ ([h] : List Hlf)).length) (new := ([h] : List Hlf).map hlfCells) (rs' := (l ++ ([h] : List Hlf)).map hlfCells) rfl rfl rfl rfl (by kernel_rfl) (by kernel_rfl) (by kernel_rfl) rfl (by simp) (by rw [List.map_append]) (by simp) (fun ww hf => (rowF_sl (hf (rowF w.heap.size 56 13 (.slice (some ⟨g13,0,none⟩) 1 1) (([h] : List Hlf).map hlfCells)) (by simp)))) (by intro r hr; obtain ⟨x,hx,rfl⟩ := List.mem_map.1 hr; exact ⟨rfl,by simp [hlfCells,Value.oneCell']⟩) (by (try simp only [List.length_map,List.length_append,List.length_cons,List.length_nil,List.length_take,List.length_drop,maxLen]); omega) (by (try simp only [List.length_map,List.length_append,List.length_cons,List.length_nil,List.length_take,List.length_drop,maxLen]); omega)) ?_
  rintro ⟨v17a,v17c⟩
  refine xe_tkS [6] [9,0,2,8] 0 [(9,.v (.slice v17a ((l ++ ([h] : List Hlf)).length) v17c)),(0,.v (.slice Al l.length Cl)),(2,.v (.int .i64 most)),(8,.v (.slice v2a l.length v2c))] (fun _ _ h => h) rfl (by kernel_rfl) ?_
  refine xe_done (by kernel_rfl) ?_
  exact ⟨(v17a,v17c,g13),wk_forget 1 0 [0,2,8,9] (by kernel_rfl) (by kernel_rfl) (by kernel_rfl)⟩
  refine xs_hv 4 rfl (by kernel_rfl) (by kernel_rfl) (by kernel_rfl) (under_t under_nil) rfl (hv_build (e := 56) (K := 13) (bytes := 96) [.agg (hlfL h).toArray] rfl (by kernel_rfl) (by kernel_rfl) (by kernel_rfl) (by kernel_rfl) (by kernel_rfl) (rs := ([h] : List Hlf).map hlfCells) rfl) ?_
  intro g18
  refine xe_all [0] (by kernel_rfl) (by simp) ?_
  refine xs_hv 0 rfl (by kernel_rfl) (by kernel_rfl) (by kernel_rfl) (under_t under_nil) rfl (hv_build (e := 56) (K := 13) (bytes := 96) [] rfl (by kernel_rfl) (by kernel_rfl) (by kernel_rfl) (by kernel_rfl) (by kernel_rfl) (rs := ([] : List Hlf).map hlfCells) rfl) ?_
  intro g20
  refine xe_all [2] (by kernel_rfl) (by simp) ?_
  refine xs_hv 2 rfl (by kernel_rfl) (by kernel_rfl) (by kernel_rfl) (under_t under_nil) rfl (hv_append (e := 56) (K := 13) (bytes := 96) (i := 0) (q := l.length) (new := l.map hlfCells) (rs' := l.map hlfCells) rfl rfl rfl rfl (by kernel_rfl) (by kernel_rfl) (by kernel_rfl) rfl (by simp) rfl (by simp) (fun ww hf => (hf (slF (.slice Al l.length Cl) 13 (l.map hlfCells)) (by simp))) (by intro r hr; obtain ⟨x,hx,rfl⟩ := List.mem_map.1 hr; exact ⟨rfl,by simp [hlfCells,Value.oneCell']⟩) (by (try simp only [List.length_map,List.length_append,List.length_cons,List.length_nil,List.length_take,List.length_drop,maxLen]); omega) (by (try simp only [List.length_map,List.length_append,List.length_cons,List.length_nil,List.length_take,List.length_drop,maxLen]); omega)) ?_
  rintro ⟨v22a,v22c⟩
  refine xe_all [5] (by kernel_rfl) (by simp) ?_
  refine xs_hv 5 rfl (by kernel_rfl) (by kernel_rfl) (by kernel_rfl) (under_t under_nil) rfl (hv_append (e := 56) (K := 13) (bytes := 96) (i := 0) (q := (l ++ ([h] : List Hlf)).length) (new := ([h] : List Hlf).map hlfCells) (rs' := (l ++ ([h] : List Hlf)).map hlfCells) rfl rfl rfl rfl (by kernel_rfl) (by kernel_rfl) (by kernel_rfl) rfl (by simp) (by rw [List.map_append]) (by simp) (fun ww hf => (rowF_sl (hf (rowF w.heap.size 56 13 (.slice (some ⟨g18,0,none⟩) 1 1) (([h] : List Hlf).map hlfCells)) (by simp)))) (by intro r hr; obtain ⟨x,hx,rfl⟩ := List.mem_map.1 hr; exact ⟨rfl,by simp [hlfCells,Value.oneCell']⟩) (by (try simp only [List.length_map,List.length_append,List.length_cons,List.length_nil,List.length_take,List.length_drop,maxLen]); omega) (by (try simp only [List.length_map,List.length_append,List.length_cons,List.length_nil,List.length_take,List.length_drop,maxLen]); omega)) ?_
  rintro ⟨v24a,v24c⟩
  refine xe_tkS [6] [9,0,2,8] 0 [(9,.v (.slice v24a ((l ++ ([h] : List Hlf)).length) v24c)),(0,.v (.slice Al l.length Cl)),(2,.v (.int .i64 most)),(8,.v (.slice v2a l.length v2c))] (fun _ _ h => h) rfl (by kernel_rfl) ?_
  refine xe_done (by kernel_rfl) ?_
  exact ⟨(v24a,v24c,g18),wk_forget 1 0 [0,2,8,9] (by kernel_rfl) (by kernel_rfl) (by kernel_rfl)⟩
  rintro ⟨v12a,v12c,g10⟩
  refine xw_seq ?_
  refine xw_seq ?_
  refine xw_join ⟨[(8,.v (.slice v2a l.length v2c)),(9,.v (.slice v12a ((l ++ ([h] : List Hlf)).length) v12c)),(27,.v (.bool ((decide (((l.length : Nat) : Int) ≥ most)) || (!(halvesOk (l ++ ([h] : List Hlf)))))))],[⟨56,hlfL h⟩],[],[rowF w.heap.size 56 13 (.slice v12a ((l ++ ([h] : List Hlf)).length) v12c) ((l ++ ([h] : List Hlf)).map hlfCells),rowF w.heap.size 56 13 (.slice (some ⟨g10,0,none⟩) 1 1) (([h] : List Hlf).map hlfCells),rowF w.heap.size 56 13 (.slice v2a l.length v2c) (l.map hlfCells),slF (.slice Al l.length Cl) 13 (l.map hlfCells)]⟩ ?_ ?_
  refine xw_region ?_
  refine xl_run 5 [8,9,23] ⟨[(8,.v (.slice v2a l.length v2c)),(9,.v (.slice v12a ((l ++ ([h] : List Hlf)).length) v12c)),(23,.v (.bool (decide (((l.length : Nat) : Int) ≥ most))))],[⟨56,hlfL h⟩],[],[rowF w.heap.size 56 13 (.slice v12a ((l ++ ([h] : List Hlf)).length) v12c) ((l ++ ([h] : List Hlf)).map hlfCells),rowF w.heap.size 56 13 (.slice (some ⟨g10,0,none⟩) 1 1) (([h] : List Hlf).map hlfCells),rowF w.heap.size 56 13 (.slice v2a l.length v2c) (l.map hlfCells),slF (.slice Al l.length Cl) 13 (l.map hlfCells)]⟩ (by kernel_rfl) ?_
  refine xl_split 23 (b := decide (((l.length : Nat) : Int) ≥ most)) (by kernel_rfl) (fun h25 => ?_) (fun h25 => ?_)
  have h25p : (((l.length : Nat) : Int) ≥ most) := of_decide_eq_true h25
  refine xl_endS [8,9,27] [(8,.v (.slice v2a l.length v2c)),(9,.v (.slice v12a ((l ++ ([h] : List Hlf)).length) v12c)),(27,.v (.bool true))] (by kernel_rfl) ?_
  show Wk _ _
  try rw [h25]
  exact wk_forget 1 0 [8,9,27] (by kernel_rfl) (by kernel_rfl) (by kernel_rfl)
  have h25p : ¬ (((l.length : Nat) : Int) ≥ most) := of_decide_eq_false h25
  refine xl_callS 1 [8,9,23,24] [(8,.v (.slice v2a l.length v2c)),(9,.v (.slice v12a ((l ++ ([h] : List Hlf)).length) v12c)),(23,.v (.bool false)),(24,.v (.slice v12a ((l ++ ([h] : List Hlf)).length) v12c))] 32 [.slice v12a ((l ++ ([h] : List Hlf)).length) v12c] (some 25) (by kernel_rfl) rfl (by kernel_rfl) rfl (by kernel_rfl) (xc_b fun ww hf => ysHalvesOk_c (l ++ ([h] : List Hlf)) (.slice v12a ((l ++ ([h] : List Hlf)).length) v12c) ww (rowF_sl (hf (rowF w.heap.size 56 13 (.slice v12a ((l ++ ([h] : List Hlf)).length) v12c) ((l ++ ([h] : List Hlf)).map hlfCells)) (by simp))) ) ?_
  intro _
  refine xl_endS [8,9,27] [(8,.v (.slice v2a l.length v2c)),(9,.v (.slice v12a ((l ++ ([h] : List Hlf)).length) v12c)),(27,.v (.bool (!(halvesOk (l ++ ([h] : List Hlf))))))] (by kernel_rfl) ?_
  show Wk _ _
  try rw [h25]
  exact wk_forget 1 0 [8,9,27] (by kernel_rfl) (by kernel_rfl) (by kernel_rfl)
  refine xw_cond (b := (decide (((l.length : Nat) : Int) ≥ most)) || (!(halvesOk (l ++ ([h] : List Hlf))))) (by kernel_rfl) (fun h26 => ?_) (fun h26 => ?_)
  refine xw_seq ?_
  refine xw_region ?_
  refine xl_endS [6,7] [(6,.v (.slice v2a l.length v2c)),(7,.v (.bool false))] (by kernel_rfl) ?_
  refine xw_ret ?_
  have hmod : putHalf l h most = (l,false) := by first | rfl | (simp [putHalf, *]; done) | grind [putHalf]
  exact ⟨[.slice v2a l.length v2c,.bool false],by kernel_rfl,fun w' hb hf ha => by rw [hmod]; exact xr_one ((v2a,v2c)) rfl rfl (rowF_ownF (hf (rowF w.heap.size 56 13 (.slice v2a l.length v2c) (l.map hlfCells)) (by simp)) hB) (fun b hb => rowF_lo (hf (rowF w.heap.size 56 13 (.slice v2a l.length v2c) (l.map hlfCells)) (by simp)) (rowF_blk hb)) hb⟩
  have h26l := or_l h26
  have h26r := or_r h26
  have h26rn := not_f h26r
  refine xw_skip ?_
  refine xw_seq ?_
  refine xw_region ?_
  refine xl_endS [6,7] [(6,.v (.slice v12a ((l ++ ([h] : List Hlf)).length) v12c)),(7,.v (.bool true))] (by kernel_rfl) ?_
  refine xw_ret ?_
  have hmod : putHalf l h most = ((l ++ ([h] : List Hlf)),true) := by first | rfl | (simp [putHalf, *]; done) | grind [putHalf]
  exact ⟨[.slice v12a ((l ++ ([h] : List Hlf)).length) v12c,.bool true],by kernel_rfl,fun w' hb hf ha => by rw [hmod]; exact xr_one ((v12a,v12c)) rfl rfl (rowF_ownF (hf (rowF w.heap.size 56 13 (.slice v12a ((l ++ ([h] : List Hlf)).length) v12c) ((l ++ ([h] : List Hlf)).map hlfCells)) (by simp)) hB) (fun b hb => rowF_lo (hf (rowF w.heap.size 56 13 (.slice v12a ((l ++ ([h] : List Hlf)).length) v12c) ((l ++ ([h] : List Hlf)).map hlfCells)) (by simp)) (rowF_blk hb)) hb⟩
theorem yiHalvesOk_c (l : List Hlf) (lV : Value) (w : World) (hl_lV : Sl w lV 13 (l.map hlfCells))  : Calls Try.prog 31 #[lV] w fun e w' => e = .returned (.bool (halvesOk l)) ∧ Below w.heap.size w w' := by
  obtain ⟨Al,Cl,hvl⟩ := hl_lV.form
  rw [List.length_map] at hvl; subst hvl
  have hnl := hl_lV.len; rw [List.length_map] at hnl
  have hql := Sl.capLe hl_lV
  refine x_calls (args := [.slice Al l.length Cl]) (fn := Try.f31) [slF (.slice Al l.length Cl) 13 (l.map hlfCells)] Try.func31 rfl Try.ntmps31 rfl (by simp only [List.mem_cons,List.not_mem_nil,or_false,forall_eq_or_imp,forall_eq]; exact ⟨rfl,hl_lV⟩) ?_
  refine xw_seq ?_
  refine xw_region ?_
  refine xl_end [0] ⟨[(0,.v (.slice Al l.length Cl))],[],[],[slF (.slice Al l.length Cl) 13 (l.map hlfCells)]⟩ (by kernel_rfl) ?_
  refine xw_seq ?_
  refine xw_seq ?_
  refine xw_region ?_
  refine xl_endS [0,7] [(0,.v (.slice Al l.length Cl)),(7,.v (.bool (decide (((l.length : Nat) : Int) > 64))))] (by kernel_rfl) ?_
  refine xw_cond (b := decide (((l.length : Nat) : Int) > 64)) (by kernel_rfl) (fun h1 => ?_) (fun h1 => ?_)
  have h1p : (((l.length : Nat) : Int) > 64) := of_decide_eq_true h1
  refine xw_seq ?_
  refine xw_region ?_
  refine xl_endS [2] [(2,.v (.bool false))] (by kernel_rfl) ?_
  refine xw_ret ?_
  exact ⟨[.bool false],by kernel_rfl,fun w' hb hf => ⟨ret_bool (show (false : Bool) = halvesOk l from by first | (exact (hno (by simp only [hOne]; clear HK hno; simp_all)).symm) | (exact hall.symm) | (rw [hall]; symm; simp; omega) | (exact (halvesOk_long (by omega)).symm)),hb⟩⟩
  have h1p : ¬ (((l.length : Nat) : Int) > 64) := of_decide_eq_false h1
  refine xw_skip ?_
  refine xw_seq ?_
  refine xw_seq ?_
  refine xw_region ?_
  refine xl_endS [0,8,9,10] [(0,.v (.slice Al l.length Cl)),(8,.v (.slice Al l.length Cl)),(9,.v (.int .i64 ((l.length : Nat) : Int))),(10,.v (.int .i64 0))] (by kernel_rfl) ?_
  refine xw_block ?_
  refine xw_loopW (α := {x : Nat // (fun (k : Nat) => k ≤ l.length ∧ ∀ (i : Nat) (x : Hlf),i < k → l[i]? = some x → hOne l i x = true) x}) (fun x => (fun (k : Nat) => (⟨[(0,.v (.slice Al l.length Cl)),(8,.v (.slice Al l.length Cl)),(9,.v (.int .i64 ((l.length : Nat) : Int))),(10,.v (.int .i64 (k : Int)))],[],[],[slF (.slice Al l.length Cl) 13 (l.map hlfCells)]⟩ : St)) x.1) (fun x => l.length - x.1) ⟨(0),⟨Nat.zero_le _,fun i x hi => by omega⟩⟩ (wk_forget 0 0 [0,8,9,10] (by kernel_rfl) (by kernel_rfl) (by kernel_rfl)) ?_
  rintro ⟨k,hk,HK⟩
  refine xw_wk (Wk.of_eq (s' := ⟨[(0,.v (.slice Al l.length Cl)),(8,.v (.slice Al l.length Cl)),(9,.v (.int .i64 ((l.length : Nat) : Int))),(10,.v (.int .i64 (k : Int)))],[],[],[slF (.slice Al l.length Cl) 13 (l.map hlfCells)]⟩) rfl) ?_
  try dsimp only at hk HK
  refine xw_seq ?_
  refine xw_region ?_
  refine xl_endS [0,8,9,10,11] [(0,.v (.slice Al l.length Cl)),(8,.v (.slice Al l.length Cl)),(9,.v (.int .i64 ((l.length : Nat) : Int))),(10,.v (.int .i64 (k : Int))),(11,.v (.bool (decide ((k : Int) < ((l.length : Nat) : Int)))))] (by kernel_rfl) ?_
  refine xw_seq ?_
  refine xw_cond (b := decide ((k : Int) < ((l.length : Nat) : Int))) (by kernel_rfl) (fun h2 => ?_) (fun h2 => ?_)
  have h2p : ((k : Int) < ((l.length : Nat) : Int)) := of_decide_eq_true h2
  have hlt : k < l.length := by simpa using h2
  obtain ⟨x,hx⟩ : ∃ x,l[k]? = some x := ⟨_,List.getElem?_eq_getElem hlt⟩
  have hft := findHalf_pre hx
  have hno := fun h => halvesOk_no hx h
  refine xw_skip ?_
  refine xw_seq ?_
  refine xw_block ?_
  refine xw_seq ?_
  refine xw_region ?_
  refine xl_indexS (kd := .i64) (T := 54) (e := 56) (K := 13) 1 [0,8,9,10,12] [(0,.v (.slice Al l.length Cl)),(8,.v (.slice Al l.length Cl)),(9,.v (.int .i64 ((l.length : Nat) : Int))),(10,.v (.int .i64 (k : Int))),(12,.v (.int .i64 (k : Int)))] k [.int .i64 x.t.ip,.int .i64 x.t.port,.int .i64 x.t.my,.int .i64 x.iss,.int .i64 x.irs,.int .i64 x.o.mss,.int .i64 x.o.scale,.bool x.o.sack,.bool x.o.stamp,.int .i64 x.o.val,.int .i64 x.o.echo,.int .i64 x.age,.int .i64 x.window] (slF (.slice Al l.length Cl) 13 (l.map hlfCells)) (by kernel_rfl) rfl (by kernel_rfl) rfl rfl (by kernel_rfl) (by kernel_rfl) (by kernel_rfl) (by kernel_rfl) hlt (by simp) (fun w h => h) (fun b h => h) (by simp only [List.getElem?_map,hx]; rfl) ?_
  refine xl_end [0,3,4,8,9,10] ⟨[(0,.v (.slice Al l.length Cl)),(3,.v (.int .i64 (k : Int))),(4,.p 0 0),(8,.v (.slice Al l.length Cl)),(9,.v (.int .i64 ((l.length : Nat) : Int))),(10,.v (.int .i64 (k : Int)))],[⟨56,hlfL x⟩],[[.int .i64 x.t.ip,.int .i64 x.t.port,.int .i64 x.t.my,.int .i64 x.iss,.int .i64 x.irs,.int .i64 x.o.mss,.int .i64 x.o.scale,.bool x.o.sack,.bool x.o.stamp,.int .i64 x.o.val,.int .i64 x.o.echo,.int .i64 x.age,.int .i64 x.window]],[slF (.slice Al l.length Cl) 13 (l.map hlfCells)]⟩ (by kernel_rfl) ?_
  refine xw_seq ?_
  refine xw_region ?_
  refine xl_callS 2 [0,3,4,8,9,10,16] [(0,.v (.slice Al l.length Cl)),(3,.v (.int .i64 (k : Int))),(4,.p 0 0),(8,.v (.slice Al l.length Cl)),(9,.v (.int .i64 ((l.length : Nat) : Int))),(10,.v (.int .i64 (k : Int))),(16,.v (.agg (tupL x.t).toArray))] 60 [.agg (tupL x.t).toArray] (some 17) (by kernel_rfl) rfl (by kernel_rfl) rfl (by kernel_rfl) (xc_b fun ww hf => iTupleOk_c x.t.ip x.t.port x.t.my ww ) ?_
  intro _
  refine xl_runS 2 [0,3,4,8,9,10,19] [(0,.v (.slice Al l.length Cl)),(3,.v (.int .i64 (k : Int))),(4,.p 0 0),(8,.v (.slice Al l.length Cl)),(9,.v (.int .i64 ((l.length : Nat) : Int))),(10,.v (.int .i64 (k : Int))),(19,.v (.bool (!(tupleOk x.t))))] (by kernel_rfl) ?_
  refine xl_split 19 (b := !(tupleOk x.t)) (by kernel_rfl) (fun h3 => ?_) (fun h3 => ?_)
  have h3n := not_t h3
  refine xl_endS [0,8,9,10,56] [(0,.v (.slice Al l.length Cl)),(8,.v (.slice Al l.length Cl)),(9,.v (.int .i64 ((l.length : Nat) : Int))),(10,.v (.int .i64 (k : Int))),(56,.v (.bool true))] (by kernel_rfl) ?_
  refine xw_true (by kernel_rfl) ?_
  refine xw_seq ?_
  refine xw_region ?_
  refine xl_endS [2] [(2,.v (.bool false))] (by kernel_rfl) ?_
  refine xw_ret ?_
  exact ⟨[.bool false],by kernel_rfl,fun w' hb hf => ⟨ret_bool (show (false : Bool) = halvesOk l from by first | (exact (hno (by simp only [hOne]; clear HK hno; simp_all)).symm) | (exact hall.symm) | (rw [hall]; symm; simp; omega) | (exact (halvesOk_long (by omega)).symm)),hb⟩⟩
  have h3n := not_f h3
  refine xl_callS 2 [0,3,4,8,9,10,19,20,21] [(0,.v (.slice Al l.length Cl)),(3,.v (.int .i64 (k : Int))),(4,.p 0 0),(8,.v (.slice Al l.length Cl)),(9,.v (.int .i64 ((l.length : Nat) : Int))),(10,.v (.int .i64 (k : Int))),(19,.v (.bool false)),(20,.p 0 3),(21,.v (.int .i64 x.iss))] 43 [.int .i64 x.iss,.int .i64 32] (some 22) (by kernel_rfl) rfl (by kernel_rfl) rfl (by kernel_rfl) (xc_s fun ww hf => iWordOk32_c x.iss ww) ?_
  intro _
  refine xl_runS 3 [0,3,4,8,9,10,20,21,22,23,25] [(0,.v (.slice Al l.length Cl)),(3,.v (.int .i64 (k : Int))),(4,.p 0 0),(8,.v (.slice Al l.length Cl)),(9,.v (.int .i64 ((l.length : Nat) : Int))),(10,.v (.int .i64 (k : Int))),(20,.p 0 3),(21,.v (.int .i64 x.iss)),(22,.v (.bool (wordOk x.iss 32))),(23,.v (.bool (!(wordOk x.iss 32)))),(25,.v (.bool (!(wordOk x.iss 32))))] (by kernel_rfl) ?_
  refine xl_split 25 (b := !(wordOk x.iss 32)) (by kernel_rfl) (fun h4 => ?_) (fun h4 => ?_)
  have h4n := not_t h4
  refine xl_endS [0,8,9,10,20,21,22,23,56] [(0,.v (.slice Al l.length Cl)),(8,.v (.slice Al l.length Cl)),(9,.v (.int .i64 ((l.length : Nat) : Int))),(10,.v (.int .i64 (k : Int))),(20,.p 0 3),(21,.v (.int .i64 x.iss)),(22,.v (.bool (wordOk x.iss 32))),(23,.v (.bool (!(wordOk x.iss 32)))),(56,.v (.bool true))] (by kernel_rfl) ?_
  refine xw_true (by kernel_rfl) ?_
  refine xw_seq ?_
  refine xw_region ?_
  refine xl_endS [2] [(2,.v (.bool false))] (by kernel_rfl) ?_
  refine xw_ret ?_
  exact ⟨[.bool false],by kernel_rfl,fun w' hb hf => ⟨ret_bool (show (false : Bool) = halvesOk l from by first | (exact (hno (by simp only [hOne]; clear HK hno; simp_all)).symm) | (exact hall.symm) | (rw [hall]; symm; simp; omega) | (exact (halvesOk_long (by omega)).symm)),hb⟩⟩
  have h4n := not_f h4
  refine xl_callS 2 [0,3,4,8,9,10,20,21,22,23,25,26,27] [(0,.v (.slice Al l.length Cl)),(3,.v (.int .i64 (k : Int))),(4,.p 0 0),(8,.v (.slice Al l.length Cl)),(9,.v (.int .i64 ((l.length : Nat) : Int))),(10,.v (.int .i64 (k : Int))),(20,.p 0 3),(21,.v (.int .i64 x.iss)),(22,.v (.bool (wordOk x.iss 32))),(23,.v (.bool (!(wordOk x.iss 32)))),(25,.v (.bool false)),(26,.p 0 4),(27,.v (.int .i64 x.irs))] 43 [.int .i64 x.irs,.int .i64 32] (some 28) (by kernel_rfl) rfl (by kernel_rfl) rfl (by kernel_rfl) (xc_s fun ww hf => iWordOk32_c x.irs ww) ?_
  intro _
  refine xl_runS 3 [0,3,4,8,9,10,20,21,22,23,26,27,28,29,31] [(0,.v (.slice Al l.length Cl)),(3,.v (.int .i64 (k : Int))),(4,.p 0 0),(8,.v (.slice Al l.length Cl)),(9,.v (.int .i64 ((l.length : Nat) : Int))),(10,.v (.int .i64 (k : Int))),(20,.p 0 3),(21,.v (.int .i64 x.iss)),(22,.v (.bool (wordOk x.iss 32))),(23,.v (.bool (!(wordOk x.iss 32)))),(26,.p 0 4),(27,.v (.int .i64 x.irs)),(28,.v (.bool (wordOk x.irs 32))),(29,.v (.bool (!(wordOk x.irs 32)))),(31,.v (.bool (!(wordOk x.irs 32))))] (by kernel_rfl) ?_
  refine xl_split 31 (b := !(wordOk x.irs 32)) (by kernel_rfl) (fun h5 => ?_) (fun h5 => ?_)
  have h5n := not_t h5
  refine xl_endS [0,8,9,10,20,21,22,23,26,27,28,29,56] [(0,.v (.slice Al l.length Cl)),(8,.v (.slice Al l.length Cl)),(9,.v (.int .i64 ((l.length : Nat) : Int))),(10,.v (.int .i64 (k : Int))),(20,.p 0 3),(21,.v (.int .i64 x.iss)),(22,.v (.bool (wordOk x.iss 32))),(23,.v (.bool (!(wordOk x.iss 32)))),(26,.p 0 4),(27,.v (.int .i64 x.irs)),(28,.v (.bool (wordOk x.irs 32))),(29,.v (.bool (!(wordOk x.irs 32)))),(56,.v (.bool true))] (by kernel_rfl) ?_
  refine xw_true (by kernel_rfl) ?_
  refine xw_seq ?_
  refine xw_region ?_
  refine xl_endS [2] [(2,.v (.bool false))] (by kernel_rfl) ?_
  refine xw_ret ?_
  exact ⟨[.bool false],by kernel_rfl,fun w' hb hf => ⟨ret_bool (show (false : Bool) = halvesOk l from by first | (exact (hno (by simp only [hOne]; clear HK hno; simp_all)).symm) | (exact hall.symm) | (rw [hall]; symm; simp; omega) | (exact (halvesOk_long (by omega)).symm)),hb⟩⟩
  have h5n := not_f h5
  refine xl_callS 2 [0,3,4,8,9,10,20,21,22,23,26,27,28,29,31,32,33] [(0,.v (.slice Al l.length Cl)),(3,.v (.int .i64 (k : Int))),(4,.p 0 0),(8,.v (.slice Al l.length Cl)),(9,.v (.int .i64 ((l.length : Nat) : Int))),(10,.v (.int .i64 (k : Int))),(20,.p 0 3),(21,.v (.int .i64 x.iss)),(22,.v (.bool (wordOk x.iss 32))),(23,.v (.bool (!(wordOk x.iss 32)))),(26,.p 0 4),(27,.v (.int .i64 x.irs)),(28,.v (.bool (wordOk x.irs 32))),(29,.v (.bool (!(wordOk x.irs 32)))),(31,.v (.bool false)),(32,.p 0 12),(33,.v (.int .i64 x.window))] 43 [.int .i64 x.window,.int .i64 16] (some 34) (by kernel_rfl) rfl (by kernel_rfl) rfl (by kernel_rfl) (xc_s fun ww hf => iWordOk16_c x.window ww) ?_
  intro _
  refine xl_runS 3 [0,3,4,8,9,10,20,21,22,23,26,27,28,29,32,33,34,35,37] [(0,.v (.slice Al l.length Cl)),(3,.v (.int .i64 (k : Int))),(4,.p 0 0),(8,.v (.slice Al l.length Cl)),(9,.v (.int .i64 ((l.length : Nat) : Int))),(10,.v (.int .i64 (k : Int))),(20,.p 0 3),(21,.v (.int .i64 x.iss)),(22,.v (.bool (wordOk x.iss 32))),(23,.v (.bool (!(wordOk x.iss 32)))),(26,.p 0 4),(27,.v (.int .i64 x.irs)),(28,.v (.bool (wordOk x.irs 32))),(29,.v (.bool (!(wordOk x.irs 32)))),(32,.p 0 12),(33,.v (.int .i64 x.window)),(34,.v (.bool (wordOk x.window 16))),(35,.v (.bool (!(wordOk x.window 16)))),(37,.v (.bool (!(wordOk x.window 16))))] (by kernel_rfl) ?_
  refine xl_split 37 (b := !(wordOk x.window 16)) (by kernel_rfl) (fun h6 => ?_) (fun h6 => ?_)
  have h6n := not_t h6
  refine xl_endS [0,8,9,10,20,21,22,23,26,27,28,29,32,33,34,35,56] [(0,.v (.slice Al l.length Cl)),(8,.v (.slice Al l.length Cl)),(9,.v (.int .i64 ((l.length : Nat) : Int))),(10,.v (.int .i64 (k : Int))),(20,.p 0 3),(21,.v (.int .i64 x.iss)),(22,.v (.bool (wordOk x.iss 32))),(23,.v (.bool (!(wordOk x.iss 32)))),(26,.p 0 4),(27,.v (.int .i64 x.irs)),(28,.v (.bool (wordOk x.irs 32))),(29,.v (.bool (!(wordOk x.irs 32)))),(32,.p 0 12),(33,.v (.int .i64 x.window)),(34,.v (.bool (wordOk x.window 16))),(35,.v (.bool (!(wordOk x.window 16)))),(56,.v (.bool true))] (by kernel_rfl) ?_
  refine xw_true (by kernel_rfl) ?_
  refine xw_seq ?_
  refine xw_region ?_
  refine xl_endS [2] [(2,.v (.bool false))] (by kernel_rfl) ?_
  refine xw_ret ?_
  exact ⟨[.bool false],by kernel_rfl,fun w' hb hf => ⟨ret_bool (show (false : Bool) = halvesOk l from by first | (exact (hno (by simp only [hOne]; clear HK hno; simp_all)).symm) | (exact hall.symm) | (rw [hall]; symm; simp; omega) | (exact (halvesOk_long (by omega)).symm)),hb⟩⟩
  have h6n := not_f h6
  have h6nw := wordOk16_bd (by simpa using h6n)
  obtain ⟨h6nw0,h6nw1⟩ := h6nw
  refine xl_callS 2 [0,3,4,8,9,10,20,21,22,23,26,27,28,29,32,33,34,35,37,38,39] [(0,.v (.slice Al l.length Cl)),(3,.v (.int .i64 (k : Int))),(4,.p 0 0),(8,.v (.slice Al l.length Cl)),(9,.v (.int .i64 ((l.length : Nat) : Int))),(10,.v (.int .i64 (k : Int))),(20,.p 0 3),(21,.v (.int .i64 x.iss)),(22,.v (.bool (wordOk x.iss 32))),(23,.v (.bool (!(wordOk x.iss 32)))),(26,.p 0 4),(27,.v (.int .i64 x.irs)),(28,.v (.bool (wordOk x.irs 32))),(29,.v (.bool (!(wordOk x.irs 32)))),(32,.p 0 12),(33,.v (.int .i64 x.window)),(34,.v (.bool (wordOk x.window 16))),(35,.v (.bool (!(wordOk x.window 16)))),(37,.v (.bool false)),(38,.p 0 5),(39,.v (.agg (optL x.o).toArray))] 12 [.agg (optL x.o).toArray] (some 40) (by kernel_rfl) rfl (by kernel_rfl) rfl (by kernel_rfl) (xc_b fun ww hf => iOptionsOk_c x.o.mss x.o.scale x.o.sack x.o.stamp x.o.val x.o.echo ww ) ?_
  intro _
  refine xl_runS 3 [0,3,4,8,9,10,20,21,22,23,26,27,28,29,32,33,34,35,38,39,40,41,43] [(0,.v (.slice Al l.length Cl)),(3,.v (.int .i64 (k : Int))),(4,.p 0 0),(8,.v (.slice Al l.length Cl)),(9,.v (.int .i64 ((l.length : Nat) : Int))),(10,.v (.int .i64 (k : Int))),(20,.p 0 3),(21,.v (.int .i64 x.iss)),(22,.v (.bool (wordOk x.iss 32))),(23,.v (.bool (!(wordOk x.iss 32)))),(26,.p 0 4),(27,.v (.int .i64 x.irs)),(28,.v (.bool (wordOk x.irs 32))),(29,.v (.bool (!(wordOk x.irs 32)))),(32,.p 0 12),(33,.v (.int .i64 x.window)),(34,.v (.bool (wordOk x.window 16))),(35,.v (.bool (!(wordOk x.window 16)))),(38,.p 0 5),(39,.v (.agg (optL x.o).toArray)),(40,.v (.bool (optionsOk x.o))),(41,.v (.bool (!(optionsOk x.o)))),(43,.v (.bool (!(optionsOk x.o))))] (by kernel_rfl) ?_
  refine xl_split 43 (b := !(optionsOk x.o)) (by kernel_rfl) (fun h7 => ?_) (fun h7 => ?_)
  have h7n := not_t h7
  refine xl_endS [0,8,9,10,20,21,22,23,26,27,28,29,32,33,34,35,38,39,40,41,56] [(0,.v (.slice Al l.length Cl)),(8,.v (.slice Al l.length Cl)),(9,.v (.int .i64 ((l.length : Nat) : Int))),(10,.v (.int .i64 (k : Int))),(20,.p 0 3),(21,.v (.int .i64 x.iss)),(22,.v (.bool (wordOk x.iss 32))),(23,.v (.bool (!(wordOk x.iss 32)))),(26,.p 0 4),(27,.v (.int .i64 x.irs)),(28,.v (.bool (wordOk x.irs 32))),(29,.v (.bool (!(wordOk x.irs 32)))),(32,.p 0 12),(33,.v (.int .i64 x.window)),(34,.v (.bool (wordOk x.window 16))),(35,.v (.bool (!(wordOk x.window 16)))),(38,.p 0 5),(39,.v (.agg (optL x.o).toArray)),(40,.v (.bool (optionsOk x.o))),(41,.v (.bool (!(optionsOk x.o)))),(56,.v (.bool true))] (by kernel_rfl) ?_
  refine xw_true (by kernel_rfl) ?_
  refine xw_seq ?_
  refine xw_region ?_
  refine xl_endS [2] [(2,.v (.bool false))] (by kernel_rfl) ?_
  refine xw_ret ?_
  exact ⟨[.bool false],by kernel_rfl,fun w' hb hf => ⟨ret_bool (show (false : Bool) = halvesOk l from by first | (exact (hno (by simp only [hOne]; clear HK hno; simp_all)).symm) | (exact hall.symm) | (rw [hall]; symm; simp; omega) | (exact (halvesOk_long (by omega)).symm)),hb⟩⟩
  have h7n := not_f h7
  have h7nw := optionsOk_bd (by simpa using h7n)
  obtain ⟨h7nw0,h7nw1⟩ := h7nw
  refine xl_callS 2 [0,3,4,8,9,10,20,21,22,23,26,27,28,29,32,33,34,35,38,39,40,41,43,44,45] [(0,.v (.slice Al l.length Cl)),(3,.v (.int .i64 (k : Int))),(4,.p 0 0),(8,.v (.slice Al l.length Cl)),(9,.v (.int .i64 ((l.length : Nat) : Int))),(10,.v (.int .i64 (k : Int))),(20,.p 0 3),(21,.v (.int .i64 x.iss)),(22,.v (.bool (wordOk x.iss 32))),(23,.v (.bool (!(wordOk x.iss 32)))),(26,.p 0 4),(27,.v (.int .i64 x.irs)),(28,.v (.bool (wordOk x.irs 32))),(29,.v (.bool (!(wordOk x.irs 32)))),(32,.p 0 12),(33,.v (.int .i64 x.window)),(34,.v (.bool (wordOk x.window 16))),(35,.v (.bool (!(wordOk x.window 16)))),(38,.p 0 5),(39,.v (.agg (optL x.o).toArray)),(40,.v (.bool (optionsOk x.o))),(41,.v (.bool (!(optionsOk x.o)))),(43,.v (.bool false)),(44,.p 0 11),(45,.v (.int .i64 x.age))] 44 [.int .i64 x.age,.int .i64 0,.int .i64 6] (some 46) (by kernel_rfl) rfl (by kernel_rfl) rfl (by kernel_rfl) (xc_s fun ww hf => within_c x.age 0 6 ww ) ?_
  intro _
  refine xl_runS 3 [0,3,4,8,9,10,20,21,22,23,26,27,28,29,32,33,34,35,38,39,40,41,44,45,46,47,49] [(0,.v (.slice Al l.length Cl)),(3,.v (.int .i64 (k : Int))),(4,.p 0 0),(8,.v (.slice Al l.length Cl)),(9,.v (.int .i64 ((l.length : Nat) : Int))),(10,.v (.int .i64 (k : Int))),(20,.p 0 3),(21,.v (.int .i64 x.iss)),(22,.v (.bool (wordOk x.iss 32))),(23,.v (.bool (!(wordOk x.iss 32)))),(26,.p 0 4),(27,.v (.int .i64 x.irs)),(28,.v (.bool (wordOk x.irs 32))),(29,.v (.bool (!(wordOk x.irs 32)))),(32,.p 0 12),(33,.v (.int .i64 x.window)),(34,.v (.bool (wordOk x.window 16))),(35,.v (.bool (!(wordOk x.window 16)))),(38,.p 0 5),(39,.v (.agg (optL x.o).toArray)),(40,.v (.bool (optionsOk x.o))),(41,.v (.bool (!(optionsOk x.o)))),(44,.p 0 11),(45,.v (.int .i64 x.age)),(46,.v (.bool (inB x.age 0 6))),(47,.v (.bool (!(inB x.age 0 6)))),(49,.v (.bool (!(inB x.age 0 6))))] (by kernel_rfl) ?_
  refine xl_split 49 (b := !(inB x.age 0 6)) (by kernel_rfl) (fun h8 => ?_) (fun h8 => ?_)
  have h8n := not_t h8
  have h8ni := inB_ff.1 (show inB x.age 0 6 = false from by simpa using h8n)
  refine xl_endS [0,8,9,10,20,21,22,23,26,27,28,29,32,33,34,35,38,39,40,41,44,45,46,47,56] [(0,.v (.slice Al l.length Cl)),(8,.v (.slice Al l.length Cl)),(9,.v (.int .i64 ((l.length : Nat) : Int))),(10,.v (.int .i64 (k : Int))),(20,.p 0 3),(21,.v (.int .i64 x.iss)),(22,.v (.bool (wordOk x.iss 32))),(23,.v (.bool (!(wordOk x.iss 32)))),(26,.p 0 4),(27,.v (.int .i64 x.irs)),(28,.v (.bool (wordOk x.irs 32))),(29,.v (.bool (!(wordOk x.irs 32)))),(32,.p 0 12),(33,.v (.int .i64 x.window)),(34,.v (.bool (wordOk x.window 16))),(35,.v (.bool (!(wordOk x.window 16)))),(38,.p 0 5),(39,.v (.agg (optL x.o).toArray)),(40,.v (.bool (optionsOk x.o))),(41,.v (.bool (!(optionsOk x.o)))),(44,.p 0 11),(45,.v (.int .i64 x.age)),(46,.v (.bool (inB x.age 0 6))),(47,.v (.bool (!(inB x.age 0 6)))),(56,.v (.bool true))] (by kernel_rfl) ?_
  refine xw_true (by kernel_rfl) ?_
  refine xw_seq ?_
  refine xw_region ?_
  refine xl_endS [2] [(2,.v (.bool false))] (by kernel_rfl) ?_
  refine xw_ret ?_
  exact ⟨[.bool false],by kernel_rfl,fun w' hb hf => ⟨ret_bool (show (false : Bool) = halvesOk l from by first | (exact (hno (by simp only [hOne]; clear HK hno; simp_all)).symm) | (exact hall.symm) | (rw [hall]; symm; simp; omega) | (exact (halvesOk_long (by omega)).symm)),hb⟩⟩
  have h8n := not_f h8
  have h8ni := inB_tt.1 (show inB x.age 0 6 = true from by simpa using h8n)
  refine xl_callS 3 [0,3,8,9,10,20,21,22,23,26,27,28,29,32,33,34,35,38,39,40,41,44,45,46,47,49,50,51,52] [(0,.v (.slice Al l.length Cl)),(3,.v (.int .i64 (k : Int))),(8,.v (.slice Al l.length Cl)),(9,.v (.int .i64 ((l.length : Nat) : Int))),(10,.v (.int .i64 (k : Int))),(20,.p 0 3),(21,.v (.int .i64 x.iss)),(22,.v (.bool (wordOk x.iss 32))),(23,.v (.bool (!(wordOk x.iss 32)))),(26,.p 0 4),(27,.v (.int .i64 x.irs)),(28,.v (.bool (wordOk x.irs 32))),(29,.v (.bool (!(wordOk x.irs 32)))),(32,.p 0 12),(33,.v (.int .i64 x.window)),(34,.v (.bool (wordOk x.window 16))),(35,.v (.bool (!(wordOk x.window 16)))),(38,.p 0 5),(39,.v (.agg (optL x.o).toArray)),(40,.v (.bool (optionsOk x.o))),(41,.v (.bool (!(optionsOk x.o)))),(44,.p 0 11),(45,.v (.int .i64 x.age)),(46,.v (.bool (inB x.age 0 6))),(47,.v (.bool (!(inB x.age 0 6)))),(49,.v (.bool false)),(50,.v (.slice Al l.length Cl)),(51,.p 0 0),(52,.v (.agg (tupL x.t).toArray))] 35 [.slice Al l.length Cl,.agg (tupL x.t).toArray] (some 53) (by kernel_rfl) rfl (by kernel_rfl) rfl (by kernel_rfl) (xc_b fun ww hf => iFindHalf_c (.slice Al l.length Cl) l x.t.ip x.t.port x.t.my ww (hf (slF (.slice Al l.length Cl) 13 (l.map hlfCells)) (by simp)) ) ?_
  intro _
  refine xl_endS [0,8,9,10,20,21,22,23,26,27,28,29,32,33,34,35,38,39,40,41,44,45,46,47,50,51,52,53,54,55,56] [(0,.v (.slice Al l.length Cl)),(8,.v (.slice Al l.length Cl)),(9,.v (.int .i64 ((l.length : Nat) : Int))),(10,.v (.int .i64 (k : Int))),(20,.p 0 3),(21,.v (.int .i64 x.iss)),(22,.v (.bool (wordOk x.iss 32))),(23,.v (.bool (!(wordOk x.iss 32)))),(26,.p 0 4),(27,.v (.int .i64 x.irs)),(28,.v (.bool (wordOk x.irs 32))),(29,.v (.bool (!(wordOk x.irs 32)))),(32,.p 0 12),(33,.v (.int .i64 x.window)),(34,.v (.bool (wordOk x.window 16))),(35,.v (.bool (!(wordOk x.window 16)))),(38,.p 0 5),(39,.v (.agg (optL x.o).toArray)),(40,.v (.bool (optionsOk x.o))),(41,.v (.bool (!(optionsOk x.o)))),(44,.p 0 11),(45,.v (.int .i64 x.age)),(46,.v (.bool (inB x.age 0 6))),(47,.v (.bool (!(inB x.age 0 6)))),(50,.v (.slice Al l.length Cl)),(51,.p 0 0),(52,.v (.agg (tupL x.t).toArray)),(53,.v (.int .i64 (findHalf l x.t))),(54,.v (.int .i64 (k : Int))),(55,.v (.bool ((findHalf l x.t) != (k : Int)))),(56,.v (.bool ((findHalf l x.t) != (k : Int))))] (by kernel_rfl) ?_
  refine xw_cond (b := (findHalf l x.t) != (k : Int)) (by kernel_rfl) (fun h9 => ?_) (fun h9 => ?_)
  have h9p := neT h9
  refine xw_seq ?_
  refine xw_region ?_
  refine xl_endS [2] [(2,.v (.bool false))] (by kernel_rfl) ?_
  refine xw_ret ?_
  exact ⟨[.bool false],by kernel_rfl,fun w' hb hf => ⟨ret_bool (show (false : Bool) = halvesOk l from by first | (exact (hno (by simp only [hOne]; clear HK hno; simp_all)).symm) | (exact hall.symm) | (rw [hall]; symm; simp; omega) | (exact (halvesOk_long (by omega)).symm)),hb⟩⟩
  have h9p := neF h9
  refine xw_skip ?_
  refine xw_region ?_
  refine xl_runS 2 [0,8,9,10,20,21,22,23,26,27,28,29,32,33,34,35,38,39,40,41,44,45,46,47,50,51,52,53,54,55] [(0,.v (.slice Al l.length Cl)),(8,.v (.slice Al l.length Cl)),(9,.v (.int .i64 ((l.length : Nat) : Int))),(10,.v (.int .i64 (IntKind.i64.wrap ((k : Int) + 1)))),(20,.p 0 3),(21,.v (.int .i64 x.iss)),(22,.v (.bool (wordOk x.iss 32))),(23,.v (.bool (!(wordOk x.iss 32)))),(26,.p 0 4),(27,.v (.int .i64 x.irs)),(28,.v (.bool (wordOk x.irs 32))),(29,.v (.bool (!(wordOk x.irs 32)))),(32,.p 0 12),(33,.v (.int .i64 x.window)),(34,.v (.bool (wordOk x.window 16))),(35,.v (.bool (!(wordOk x.window 16)))),(38,.p 0 5),(39,.v (.agg (optL x.o).toArray)),(40,.v (.bool (optionsOk x.o))),(41,.v (.bool (!(optionsOk x.o)))),(44,.p 0 11),(45,.v (.int .i64 x.age)),(46,.v (.bool (inB x.age 0 6))),(47,.v (.bool (!(inB x.age 0 6)))),(50,.v (.slice Al l.length Cl)),(51,.p 0 0),(52,.v (.agg (tupL x.t).toArray)),(53,.v (.int .i64 (findHalf l x.t))),(54,.v (.int .i64 (k : Int))),(55,.v (.bool ((findHalf l x.t) != (k : Int))))] (by kernel_rfl) ?_
  refine xl_eqS (t' := [(0,.v (.slice Al l.length Cl)),(8,.v (.slice Al l.length Cl)),(9,.v (.int .i64 ((l.length : Nat) : Int))),(10,.v (.int .i64 ((k : Int) + 1))),(20,.p 0 3),(21,.v (.int .i64 x.iss)),(22,.v (.bool (wordOk x.iss 32))),(23,.v (.bool (!(wordOk x.iss 32)))),(26,.p 0 4),(27,.v (.int .i64 x.irs)),(28,.v (.bool (wordOk x.irs 32))),(29,.v (.bool (!(wordOk x.irs 32)))),(32,.p 0 12),(33,.v (.int .i64 x.window)),(34,.v (.bool (wordOk x.window 16))),(35,.v (.bool (!(wordOk x.window 16)))),(38,.p 0 5),(39,.v (.agg (optL x.o).toArray)),(40,.v (.bool (optionsOk x.o))),(41,.v (.bool (!(optionsOk x.o)))),(44,.p 0 11),(45,.v (.int .i64 x.age)),(46,.v (.bool (inB x.age 0 6))),(47,.v (.bool (!(inB x.age 0 6)))),(50,.v (.slice Al l.length Cl)),(51,.p 0 0),(52,.v (.agg (tupL x.t).toArray)),(53,.v (.int .i64 (findHalf l x.t))),(54,.v (.int .i64 (k : Int))),(55,.v (.bool ((findHalf l x.t) != (k : Int))))]) (by rw [show (IntKind.i64.wrap ((k : Int) + 1)) = ((k : Int) + 1) from wrap_id (by omega) (by omega)]) ?_
  refine xl_endS [0,8,9,10,20,21,22,23,26,27,28,29,32,33,34,35,38,39,40,41,44,45,46,47,50,51,52,53,54,55] [(0,.v (.slice Al l.length Cl)),(8,.v (.slice Al l.length Cl)),(9,.v (.int .i64 ((l.length : Nat) : Int))),(10,.v (.int .i64 ((k : Int) + 1))),(20,.p 0 3),(21,.v (.int .i64 x.iss)),(22,.v (.bool (wordOk x.iss 32))),(23,.v (.bool (!(wordOk x.iss 32)))),(26,.p 0 4),(27,.v (.int .i64 x.irs)),(28,.v (.bool (wordOk x.irs 32))),(29,.v (.bool (!(wordOk x.irs 32)))),(32,.p 0 12),(33,.v (.int .i64 x.window)),(34,.v (.bool (wordOk x.window 16))),(35,.v (.bool (!(wordOk x.window 16)))),(38,.p 0 5),(39,.v (.agg (optL x.o).toArray)),(40,.v (.bool (optionsOk x.o))),(41,.v (.bool (!(optionsOk x.o)))),(44,.p 0 11),(45,.v (.int .i64 x.age)),(46,.v (.bool (inB x.age 0 6))),(47,.v (.bool (!(inB x.age 0 6)))),(50,.v (.slice Al l.length Cl)),(51,.p 0 0),(52,.v (.agg (tupL x.t).toArray)),(53,.v (.int .i64 (findHalf l x.t))),(54,.v (.int .i64 (k : Int))),(55,.v (.bool ((findHalf l x.t) != (k : Int))))] (by kernel_rfl) ?_
  exact ⟨⟨(k + 1),⟨by omega,half_step hx (by simp only [hOne]; clear HK; simp_all) HK⟩⟩,wk_forget 0 0 [0,8,9,10] (by kernel_rfl) (by kernel_rfl) (by kernel_rfl),by show l.length - (k + 1) < l.length - k; omega⟩
  have h2p : ¬ ((k : Int) < ((l.length : Nat) : Int)) := of_decide_eq_false h2
  have hge : k = l.length := by simp at h2; omega
  have hall := halvesOk_all hge HK
  refine xw_exit ?_
  refine xw_seq ?_
  refine xw_region ?_
  refine xl_endS [2] [(2,.v (.bool true))] (by kernel_rfl) ?_
  refine xw_ret ?_
  exact ⟨[.bool true],by kernel_rfl,fun w' hb hf => ⟨ret_bool (show (true : Bool) = halvesOk l from by first | (exact (hno (by simp only [hOne]; clear HK hno; simp_all)).symm) | (exact hall.symm) | (rw [hall]; symm; simp; omega) | (exact (halvesOk_long (by omega)).symm)),hb⟩⟩
set_option maxHeartbeats 1000000 in
theorem yiPutHalf_c (l : List Hlf) (lV : Value) (h : Hlf) (most : Int) (w : World) (hl_lV : Sl w lV 13 (l.map hlfCells)) (hkn : l.length ≤ 1048576) (B : Nat) (hB : B ≤ w.heap.size) : Calls Try.prog 28 #[lV, .agg (hlfL h).toArray, .int .i64 most] w fun e w' => XRs w w' e (α := Option Addr × Nat) (fun y => .tuple #[.slice y.1 ((putHalf l h most).1.length) y.2, .bool ((putHalf l h most).2)]) (fun y => [ownF B (.slice y.1 ((putHalf l h most).1.length) y.2) 13 ((putHalf l h most).1.map hlfCells)]) := by
  obtain ⟨Al,Cl,hvl⟩ := hl_lV.form
  rw [List.length_map] at hvl; subst hvl
  have hnl := hl_lV.len; rw [List.length_map] at hnl
  have hql := Sl.capLe hl_lV
  refine x_callsA (args := [.slice Al l.length Cl,.agg (hlfL h).toArray,.int .i64 most]) (fn := Try.f28) [slF (.slice Al l.length Cl) 13 (l.map hlfCells)] Try.func28 rfl Try.ntmps28 rfl (by simp only [List.mem_cons,List.not_mem_nil,or_false,forall_eq_or_imp,forall_eq]; exact ⟨rfl,hl_lV⟩) ?_
  refine xw_seq ?_
  refine xw_region ?_
  refine xl_end [0,2,4] ⟨[(0,.v (.slice Al l.length Cl)),(2,.v (.int .i64 most)),(4,.p 0 0)],[⟨56,hlfL h⟩],[],[slF (.slice Al l.length Cl) 13 (l.map hlfCells)]⟩ (by kernel_rfl) ?_
  refine xw_seq ?_
  refine xw_joinE (α := Option Addr × Nat × Nat) (fun y => (fun (v6a : Option Addr) (v6c : Nat) (g4 : Nat) => (⟨[(0,.v (.slice Al l.length Cl)),(2,.v (.int .i64 most)),(8,.v (.slice v6a ((l ++ ([h] : List Hlf)).length) v6c))],[⟨56,hlfL h⟩],[],[rowF w.heap.size 56 13 (.slice v6a ((l ++ ([h] : List Hlf)).length) v6c) ((l ++ ([h] : List Hlf)).map hlfCells),rowF w.heap.size 56 13 (.slice (some ⟨g4,0,none⟩) 1 1) (([h] : List Hlf).map hlfCells),slF (.slice Al l.length Cl) 13 (l.map hlfCells)]⟩ : St)) y.1 y.2.1 y.2.2) ?_ ?_
  refine xe_region0 [] (by kernel_rfl) (fun ρ σ => ?_)
  refine xe_tkS [0,2] [11,9,0,2] 4 [(11,.v (.agg (hlfL h).toArray)),(9,.v (.slice Al l.length Cl)),(0,.v (.slice Al l.length Cl)),(2,.v (.int .i64 most))] (fun _ _ h => h) rfl (by kernel_rfl) ?_
  refine xe_all [1,3] (by kernel_rfl) (by simp) ⟨?_,?_⟩
  refine xs_call 1 68 [.slice Al l.length Cl] (some 10) rfl (by kernel_rfl) rfl (by kernel_rfl) (xc_r fun ww hw hf => yCloneHalf_c l (.slice Al l.length Cl) ww (hf (slF (.slice Al l.length Cl) 13 (l.map hlfCells)) (by simp)) (by assumption) w.heap.size hw) ?_
  rintro ⟨v2a,v2c⟩
  refine xe_all [3] (by kernel_rfl) (by simp) ?_
  refine xs_hv 3 rfl (by kernel_rfl) (by kernel_rfl) (by kernel_rfl) (under_t under_nil) rfl (hv_build (e := 56) (K := 13) (bytes := 96) [.agg (hlfL h).toArray] rfl (by kernel_rfl) (by kernel_rfl) (by kernel_rfl) (by kernel_rfl) (by kernel_rfl) (rs := ([h] : List Hlf).map hlfCells) rfl) ?_
  intro g4
  refine xe_all [4] (by kernel_rfl) (by simp) ?_
  refine xs_hv 4 rfl (by kernel_rfl) (by kernel_rfl) (by kernel_rfl) (under_t under_nil) rfl (hv_append (e := 56) (K := 13) (bytes := 96) (i := 1) (q := (l ++ ([h] : List Hlf)).length) (new := ([h] : List Hlf).map hlfCells) (rs' := (l ++ ([h] : List Hlf)).map hlfCells) rfl rfl rfl rfl (by kernel_rfl) (by kernel_rfl) (by kernel_rfl) rfl (by simp) (by rw [List.map_append]) (by simp) (fun ww hf => (rowF_sl (hf (rowF w.heap.size 56 13 (.slice (some ⟨g4,0,none⟩) 1 1) (([h] : List Hlf).map hlfCells)) (by simp)))) (by intro r hr; obtain ⟨x,hx,rfl⟩ := List.mem_map.1 hr; exact ⟨rfl,by simp [hlfCells,Value.oneCell']⟩) (by (try simp only [List.length_map,List.length_append,List.length_cons,List.length_nil,List.length_take,List.length_drop,maxLen]); omega) (by (try simp only [List.length_map,List.length_append,List.length_cons,List.length_nil,List.length_take,List.length_drop,maxLen]); omega)) ?_
  rintro ⟨v6a,v6c⟩
  refine xe_tkS [5] [8,0,2] 0 [(8,.v (.slice v6a ((l ++ ([h] : List Hlf)).length) v6c)),(0,.v (.slice Al l.length Cl)),(2,.v (.int .i64 most))] (fun _ _ h => h) rfl (by kernel_rfl) ?_
  refine xe_done (by kernel_rfl) ?_
  exact ⟨(v6a,v6c,g4),wk_forget 1 0 [0,2,8] (by kernel_rfl) (by kernel_rfl) (by kernel_rfl)⟩
  refine xs_hv 3 rfl (by kernel_rfl) (by kernel_rfl) (by kernel_rfl) (under_t under_nil) rfl (hv_build (e := 56) (K := 13) (bytes := 96) [.agg (hlfL h).toArray] rfl (by kernel_rfl) (by kernel_rfl) (by kernel_rfl) (by kernel_rfl) (by kernel_rfl) (rs := ([h] : List Hlf).map hlfCells) rfl) ?_
  intro g7
  refine xe_all [1] (by kernel_rfl) (by simp) ?_
  refine xs_call 1 68 [.slice Al l.length Cl] (some 10) rfl (by kernel_rfl) rfl (by kernel_rfl) (xc_r fun ww hw hf => yCloneHalf_c l (.slice Al l.length Cl) ww (hf (slF (.slice Al l.length Cl) 13 (l.map hlfCells)) (by simp)) (by assumption) w.heap.size hw) ?_
  rintro ⟨v8a,v8c⟩
  refine xe_all [4] (by kernel_rfl) (by simp) ?_
  refine xs_hv 4 rfl (by kernel_rfl) (by kernel_rfl) (by kernel_rfl) (under_t under_nil) rfl (hv_append (e := 56) (K := 13) (bytes := 96) (i := 0) (q := (l ++ ([h] : List Hlf)).length) (new := ([h] : List Hlf).map hlfCells) (rs' := (l ++ ([h] : List Hlf)).map hlfCells) rfl rfl rfl rfl (by kernel_rfl) (by kernel_rfl) (by kernel_rfl) rfl (by simp) (by rw [List.map_append]) (by simp) (fun ww hf => (rowF_sl (hf (rowF w.heap.size 56 13 (.slice (some ⟨g7,0,none⟩) 1 1) (([h] : List Hlf).map hlfCells)) (by simp)))) (by intro r hr; obtain ⟨x,hx,rfl⟩ := List.mem_map.1 hr; exact ⟨rfl,by simp [hlfCells,Value.oneCell']⟩) (by (try simp only [List.length_map,List.length_append,List.length_cons,List.length_nil,List.length_take,List.length_drop,maxLen]); omega) (by (try simp only [List.length_map,List.length_append,List.length_cons,List.length_nil,List.length_take,List.length_drop,maxLen]); omega)) ?_
  rintro ⟨v10a,v10c⟩
  refine xe_tkS [5] [8,0,2] 0 [(8,.v (.slice v10a ((l ++ ([h] : List Hlf)).length) v10c)),(0,.v (.slice Al l.length Cl)),(2,.v (.int .i64 most))] (fun _ _ h => h) rfl (by kernel_rfl) ?_
  refine xe_done (by kernel_rfl) ?_
  exact ⟨(v10a,v10c,g7),wk_forget 1 0 [0,2,8] (by kernel_rfl) (by kernel_rfl) (by kernel_rfl)⟩
  rintro ⟨v6a,v6c,g4⟩
  refine xw_seq ?_
  refine xw_seq ?_
  refine xw_join ⟨[(0,.v (.slice Al l.length Cl)),(8,.v (.slice v6a ((l ++ ([h] : List Hlf)).length) v6c)),(22,.v (.bool ((decide (((l.length : Nat) : Int) ≥ most)) || (!(halvesOk (l ++ ([h] : List Hlf)))))))],[⟨56,hlfL h⟩],[],[rowF w.heap.size 56 13 (.slice v6a ((l ++ ([h] : List Hlf)).length) v6c) ((l ++ ([h] : List Hlf)).map hlfCells),rowF w.heap.size 56 13 (.slice (some ⟨g4,0,none⟩) 1 1) (([h] : List Hlf).map hlfCells),slF (.slice Al l.length Cl) 13 (l.map hlfCells)]⟩ ?_ ?_
  refine xw_region ?_
  refine xl_run 5 [0,8,18] ⟨[(0,.v (.slice Al l.length Cl)),(8,.v (.slice v6a ((l ++ ([h] : List Hlf)).length) v6c)),(18,.v (.bool (decide (((l.length : Nat) : Int) ≥ most))))],[⟨56,hlfL h⟩],[],[rowF w.heap.size 56 13 (.slice v6a ((l ++ ([h] : List Hlf)).length) v6c) ((l ++ ([h] : List Hlf)).map hlfCells),rowF w.heap.size 56 13 (.slice (some ⟨g4,0,none⟩) 1 1) (([h] : List Hlf).map hlfCells),slF (.slice Al l.length Cl) 13 (l.map hlfCells)]⟩ (by kernel_rfl) ?_
  refine xl_split 18 (b := decide (((l.length : Nat) : Int) ≥ most)) (by kernel_rfl) (fun h11 => ?_) (fun h11 => ?_)
  have h11p : (((l.length : Nat) : Int) ≥ most) := of_decide_eq_true h11
  refine xl_endS [0,8,22] [(0,.v (.slice Al l.length Cl)),(8,.v (.slice v6a ((l ++ ([h] : List Hlf)).length) v6c)),(22,.v (.bool true))] (by kernel_rfl) ?_
  show Wk _ _
  try rw [h11]
  exact wk_forget 1 0 [0,8,22] (by kernel_rfl) (by kernel_rfl) (by kernel_rfl)
  have h11p : ¬ (((l.length : Nat) : Int) ≥ most) := of_decide_eq_false h11
  refine xl_callS 1 [0,8,18,19] [(0,.v (.slice Al l.length Cl)),(8,.v (.slice v6a ((l ++ ([h] : List Hlf)).length) v6c)),(18,.v (.bool false)),(19,.v (.slice v6a ((l ++ ([h] : List Hlf)).length) v6c))] 31 [.slice v6a ((l ++ ([h] : List Hlf)).length) v6c] (some 20) (by kernel_rfl) rfl (by kernel_rfl) rfl (by kernel_rfl) (xc_b fun ww hf => yiHalvesOk_c (l ++ ([h] : List Hlf)) (.slice v6a ((l ++ ([h] : List Hlf)).length) v6c) ww (rowF_sl (hf (rowF w.heap.size 56 13 (.slice v6a ((l ++ ([h] : List Hlf)).length) v6c) ((l ++ ([h] : List Hlf)).map hlfCells)) (by simp))) ) ?_
  intro _
  refine xl_endS [0,8,22] [(0,.v (.slice Al l.length Cl)),(8,.v (.slice v6a ((l ++ ([h] : List Hlf)).length) v6c)),(22,.v (.bool (!(halvesOk (l ++ ([h] : List Hlf))))))] (by kernel_rfl) ?_
  show Wk _ _
  try rw [h11]
  exact wk_forget 1 0 [0,8,22] (by kernel_rfl) (by kernel_rfl) (by kernel_rfl)
  refine xw_cond (b := (decide (((l.length : Nat) : Int) ≥ most)) || (!(halvesOk (l ++ ([h] : List Hlf))))) (by kernel_rfl) (fun h12 => ?_) (fun h12 => ?_)
  refine xw_seq ?_
  refine xw_region ?_
  refine xl_callS 1 [23] [(23,.v (.slice Al l.length Cl))] 68 [.slice Al l.length Cl] (some 24) (by kernel_rfl) rfl (by kernel_rfl) rfl (by kernel_rfl) (xc_r fun ww hw hf => yCloneHalf_c l (.slice Al l.length Cl) ww (hf (slF (.slice Al l.length Cl) 13 (l.map hlfCells)) (by simp)) (by assumption) w.heap.size hw) ?_
  rintro ⟨v13a,v13c⟩
  refine xl_endS [6,7] [(6,.v (.slice v13a l.length v13c)),(7,.v (.bool false))] (by kernel_rfl) ?_
  refine xw_ret ?_
  have hmod : putHalf l h most = (l,false) := by first | rfl | (simp [putHalf, *]; done) | grind [putHalf]
  exact ⟨[.slice v13a l.length v13c,.bool false],by kernel_rfl,fun w' hb hf ha => by rw [hmod]; exact xr_one ((v13a,v13c)) rfl rfl (rowF_ownF (hf (rowF w.heap.size 56 13 (.slice v13a l.length v13c) (l.map hlfCells)) (by simp)) hB) (fun b hb => rowF_lo (hf (rowF w.heap.size 56 13 (.slice v13a l.length v13c) (l.map hlfCells)) (by simp)) (rowF_blk hb)) hb⟩
  have h12l := or_l h12
  have h12r := or_r h12
  have h12rn := not_f h12r
  refine xw_skip ?_
  refine xw_seq ?_
  refine xw_region ?_
  refine xl_endS [6,7] [(6,.v (.slice v6a ((l ++ ([h] : List Hlf)).length) v6c)),(7,.v (.bool true))] (by kernel_rfl) ?_
  refine xw_ret ?_
  have hmod : putHalf l h most = ((l ++ ([h] : List Hlf)),true) := by first | rfl | (simp [putHalf, *]; done) | grind [putHalf]
  exact ⟨[.slice v6a ((l ++ ([h] : List Hlf)).length) v6c,.bool true],by kernel_rfl,fun w' hb hf ha => by rw [hmod]; exact xr_one ((v6a,v6c)) rfl rfl (rowF_ownF (hf (rowF w.heap.size 56 13 (.slice v6a ((l ++ ([h] : List Hlf)).length) v6c) ((l ++ ([h] : List Hlf)).map hlfCells)) (by simp)) hB) (fun b hb => rowF_lo (hf (rowF w.heap.size 56 13 (.slice v6a ((l ++ ([h] : List Hlf)).length) v6c) ((l ++ ([h] : List Hlf)).map hlfCells)) (by simp)) (rowF_blk hb)) hb⟩
theorem apart_frR {W : World} {B e K : Nat} {v : Value} {rs : List (List Value)} : Apart [rowF B e K v rs, frF W (rowF B e K v rs).blk] := (Apart.one _).cons fun x hx b hb hxb => by
  have e : x = frF W (rowF B e K v rs).blk := (by simpa using hx)
  subst e; exact hxb.2 hb
set_option maxHeartbeats 2000000 in
theorem yDeleteHalf_c (v : Value) (l : List Hlf) (i : Nat) (w : World) (B : Nat) (hB : B ≤ w.heap.size) (h : (rowF B 56 13 v (l.map hlfCells)).p w) (hi : i < l.length) : Calls Try.prog 70 #[v, .int .i64 (i : Int), .int .i64 ((i + 1 : Nat) : Int)] w fun e w' => ∃ y : Option Addr × Nat, e = .returned (.slice y.1 (l.take i ++ l.drop (i + 1)).length y.2) ∧ (rowF B 56 13 (.slice y.1 (l.take i ++ l.drop (i + 1)).length y.2) ((l.take i ++ l.drop (i + 1)).map hlfCells)).p w' ∧ (∀ b, (rowF B 56 13 (.slice y.1 (l.take i ++ l.drop (i + 1)).length y.2) ((l.take i ++ l.drop (i + 1)).map hlfCells)).blk b → (rowF B 56 13 v (l.map hlfCells)).blk b) ∧ Chgd (rowF B 56 13 v (l.map hlfCells)).blk w w' := by
  obtain ⟨A,cap,hv⟩ := (rowF_sl h).form
  rw [List.length_map] at hv; subst hv
  have hcap := rowF_cap h
  have hl' : (l.take i ++ l.drop (i + 1)).length = l.length - 1 := by simp; omega
  have hn := (rowF_sl h).len; rw [List.length_map] at hn
  refine x_callsM (args := [.slice A l.length cap,.int .i64 (i : Int),.int .i64 ((i + 1 : Nat) : Int)]) (fn := Try.f70) [rowF B 56 13 (.slice A l.length cap) (l.map hlfCells),frF w (rowF B 56 13 (.slice A l.length cap) (l.map hlfCells)).blk] B Try.func70 rfl Try.ntmps70 rfl hB (by simp only [List.mem_cons,List.not_mem_nil,or_false,forall_eq_or_imp,forall_eq]; exact ⟨h,frF_start w _⟩) apart_frR ?_
  refine xw_seq ?_
  refine xw_region ?_
  refine xl_end [0,1,2] ⟨[(0,.v (.slice A l.length cap)),(1,.v (.int .i64 (i : Int))),(2,.v (.int .i64 ((i + 1 : Nat) : Int)))],[],[],[rowF B 56 13 (.slice A l.length cap) (l.map hlfCells),frF w (rowF B 56 13 (.slice A l.length cap) (l.map hlfCells)).blk]⟩ (by kernel_rfl) ?_
  refine xw_seq ?_
  refine xw_region ?_
  refine xl_opS 5 [0,1,2,8,9,10,12] [(0,.v (.slice A l.length cap)),(1,.v (.int .i64 (i : Int))),(2,.v (.int .i64 ((i + 1 : Nat) : Int))),(8,.v (.slice A l.length cap)),(9,.v (.int .i64 (i : Int))),(10,.v (.int .i64 ((i + 1 : Nat) : Int))),(12,.v (.int .i64 ((l.length : Nat) : Int)))] (.slice (if l.length = i then A else A.map (·.add (i * 13))) ((i + 1) - i) (l.length - i)) (by kernel_rfl) rfl (by kernel_rfl) rfl (fun _ _ _ ww hr => act_slV3 (e := 56) i (i + 1) l.length hr.1 rfl (by kernel_rfl) (by kernel_rfl) rfl rfl rfl rfl rfl rfl rfl (by omega) (by omega) (by omega) ww) ?_
  refine xl_endS [0,1,2] [(0,.v (.slice A l.length cap)),(1,.v (.int .i64 (i : Int))),(2,.v (.int .i64 ((i + 1 : Nat) : Int)))] (by kernel_rfl) ?_
  refine xw_seq ?_
  refine xw_seq ?_
  refine xw_region ?_
  refine xl_endS [0,1,2,16] [(0,.v (.slice A l.length cap)),(1,.v (.int .i64 (i : Int))),(2,.v (.int .i64 ((i + 1 : Nat) : Int))),(16,.v (.bool ((i : Int) == ((i + 1 : Nat) : Int))))] (by kernel_rfl) ?_
  refine xw_cond (b := (i : Int) == ((i + 1 : Nat) : Int)) (by kernel_rfl) (fun h1 => ?_) (fun h1 => ?_)
  have h1p := eqT h1
  exfalso; have := eqT h1; omega
  have h1p := eqF h1
  refine xw_skip ?_
  refine xw_seq ?_
  refine xw_region ?_
  refine xl_endS [0,1,2,7] [(0,.v (.slice A l.length cap)),(1,.v (.int .i64 (i : Int))),(2,.v (.int .i64 ((i + 1 : Nat) : Int))),(7,.v (.int .i64 ((l.length : Nat) : Int)))] (by kernel_rfl) ?_
  refine xw_seq ?_
  refine xe_region0 [] (by kernel_rfl) (fun ρ σ => ?_)
  refine xe_tkS [0,1,3,4] [24,23,21,20,0,7] 4 [(24,.v (.int .i64 ((i + 1 : Nat) : Int))),(23,.v (.slice A l.length cap)),(21,.v (.int .i64 (i : Int))),(20,.v (.slice A l.length cap)),(0,.v (.slice A l.length cap)),(7,.v (.int .i64 ((l.length : Nat) : Int)))] (fun _ _ h => h) rfl (by kernel_rfl) ?_
  refine xe_op 2 (.slice (if cap = 0 then A else A.map (·.add (0 * 13))) (i - 0) (cap - 0)) _ rfl (by kernel_rfl) (by kernel_rfl) (by kernel_rfl) (fun _ _ h => h) (by kernel_rfl) rfl (fun _ _ ww hA => act_slV0 (e := 56) i hA rfl (by kernel_rfl) (by kernel_rfl) rfl rfl rfl (by omega) ww) rfl ?_
  refine xe_op 5 (.slice (if cap = i + 1 then A else A.map (·.add ((i + 1) * 13))) (l.length - (i + 1)) (cap - (i + 1))) _ rfl (by kernel_rfl) (by kernel_rfl) (by kernel_rfl) (fun _ _ h => h) (by kernel_rfl) rfl (fun _ _ ww hA => act_slVe (e := 56) (i + 1) hA rfl (by kernel_rfl) (by kernel_rfl) rfl rfl rfl (by omega) ww) rfl ?_
  refine xe_all [6] (by kernel_rfl) (by simp) ?_
  refine xs_hv 6 rfl (by kernel_rfl) (by kernel_rfl) (by kernel_rfl) under_nil rfl (hv_appP (i := 0) (e := 56) (K := 13) (bytes := 96) (B := B) (A := A) (N := l.length) (cap := cap) (p := i) (j := i + 1) (m := (l.take i ++ l.drop (i + 1)).length) (rs := l.map hlfCells) (rs' := (l.take i ++ l.drop (i + 1)).map hlfCells) rfl rfl rfl rfl (by kernel_rfl) (by kernel_rfl) (by kernel_rfl) rfl (List.length_map ..) (by omega) (by omega) (by rw [List.map_append,List.map_take,List.map_drop]) (by omega) (by intro r hr; obtain ⟨x,hx,rfl⟩ := List.mem_map.1 hr; simp [hlfCells,Value.oneCell']) (cutW_le w B)) ?_
  intro _
  refine xe_tkS [7] [0,7] 0 [(0,.v (.slice A ((l.take i ++ l.drop (i + 1)).length) cap)),(7,.v (.int .i64 ((l.length : Nat) : Int)))] (fun _ _ h => h) rfl (by kernel_rfl) ?_
  refine xe_done (by kernel_rfl) ?_
  refine xw_seq ?_
  refine xw_region ?_
  refine xl_opS 4 [0,27,29,30] [(0,.v (.slice A ((l.take i ++ l.drop (i + 1)).length) cap)),(27,.v (.slice A ((l.take i ++ l.drop (i + 1)).length) cap)),(29,.v (.int .i64 (((l.take i ++ l.drop (i + 1)).length : Nat) : Int))),(30,.v (.int .i64 ((l.length : Nat) : Int)))] (.slice (if cap = (l.take i ++ l.drop (i + 1)).length then A else A.map (·.add (((l.take i ++ l.drop (i + 1)).length) * 13))) (l.length - ((l.take i ++ l.drop (i + 1)).length)) (cap - ((l.take i ++ l.drop (i + 1)).length))) (by kernel_rfl) rfl (by kernel_rfl) rfl (fun _ _ _ ww hr => act_slV (e := 56) ((l.take i ++ l.drop (i + 1)).length) l.length hr.1 rfl (by kernel_rfl) (by kernel_rfl) rfl rfl rfl rfl rfl (by omega) (by omega) ww) ?_
  refine xl_hvS 0 [0,31] [(0,.v (.slice A ((l.take i ++ l.drop (i + 1)).length) cap)),(31,.v (.slice (if cap = (l.take i ++ l.drop (i + 1)).length then A else A.map (·.add (((l.take i ++ l.drop (i + 1)).length) * 13))) (l.length - ((l.take i ++ l.drop (i + 1)).length)) (cap - ((l.take i ++ l.drop (i + 1)).length))))] (by kernel_rfl) rfl (by kernel_rfl) rfl (by kernel_rfl) (hv_clear (e := 56) (K := 13) (bytes := 96) (B := B) (A := A) (N := (l.take i ++ l.drop (i + 1)).length) (cap := cap) (q := l.length) (i := 0) (rs := (l.take i ++ l.drop (i + 1)).map hlfCells) [.int .i64 0,.int .i64 0,.int .i64 0,.int .i64 0,.int .i64 0,.int .i64 0,.int .i64 0,.bool false,.bool false,.int .i64 0,.int .i64 0,.int .i64 0,.int .i64 0] rfl rfl rfl rfl (by kernel_rfl) (by kernel_rfl) (by simp [Value.oneCell']) (by kernel_rfl) rfl (List.length_map ..) (by omega) hcap (cutW_le w B) rfl) ?_
  intro _
  refine xl_endS [0] [(0,.v (.slice A ((l.take i ++ l.drop (i + 1)).length) cap))] (by kernel_rfl) ?_
  refine xw_seq ?_
  refine xw_region ?_
  refine xl_endS [6] [(6,.v (.slice A ((l.take i ++ l.drop (i + 1)).length) cap))] (by kernel_rfl) ?_
  refine xw_ret ?_
  exact ⟨[.slice A ((l.take i ++ l.drop (i + 1)).length) cap],by kernel_rfl,fun w' hb hf => ⟨(A,cap),rfl,hf (rowF B 56 13 (.slice A ((l.take i ++ l.drop (i + 1)).length) cap) ((l.take i ++ l.drop (i + 1)).map hlfCells)) (by simp),fun b hb => by cases A with | none => exact hb | some a => exact hb,frF_chgd (hf (frF w (rowF B 56 13 (.slice A l.length cap) (l.map hlfCells)).blk) (by simp)) hb rfl rfl rfl⟩⟩
theorem yDeleteHalf_c' (v : Value) (l : List Hlf) (ii jj : Int) (i : Nat) (h1 : ii = i) (h2 : jj = i + 1) {w0 : World} {fs : List Fact} (hB : ∀ w, w0.heap.size ≤ w.heap.size → (∀ g ∈ fs, g.p w) → (rowF w0.heap.size 56 13 v (l.map hlfCells)).p w) (hi : i < l.length) : XCM Try.prog w0 fs (rowF w0.heap.size 56 13 v (l.map hlfCells)).blk 70 [v, .int .i64 ii, .int .i64 jj] (α := Option Addr × Nat) (fun y => .slice y.1 (l.take i ++ l.drop (i + 1)).length y.2) (fun y => [rowF w0.heap.size 56 13 (.slice y.1 (l.take i ++ l.drop (i + 1)).length y.2) ((l.take i ++ l.drop (i + 1)).map hlfCells)]) := fun w hw hf => by
  subst h1; obtain rfl : jj = ((i + 1 : Nat) : Int) := by omega
  exact (yDeleteHalf_c v l i w w0.heap.size hw (hB w hw hf) hi).mono fun e w' ⟨y,he,hp,hb,hc⟩ => ⟨y,he,fun g hg => by
    have e1 : g = rowF w0.heap.size 56 13 (.slice y.1 (l.take i ++ l.drop (i + 1)).length y.2) ((l.take i ++ l.drop (i + 1)).map hlfCells) := (by simpa using hg)
    subst e1; exact ⟨hp,fun b hbk => .inl (hb b hbk)⟩,Apart.one _,hc⟩
set_option maxHeartbeats 1000000 in
theorem yiDropHalf_c (l : List Hlf) (lV : Value) (t : Tup) (w : World) (hl_lV : Sl w lV 13 (l.map hlfCells)) (hkn : l.length ≤ 1048576) (B : Nat) (hB : B ≤ w.heap.size) : Calls Try.prog 33 #[lV, .agg (tupL t).toArray] w fun e w' => XRs w w' e (α := Option Addr × Nat) (fun y => .slice y.1 ((dropHalf l t).length) y.2) (fun y => [ownF B (.slice y.1 ((dropHalf l t).length) y.2) 13 ((dropHalf l t).map hlfCells)]) := by
  obtain ⟨Al,Cl,hvl⟩ := hl_lV.form
  rw [List.length_map] at hvl; subst hvl
  have hnl := hl_lV.len; rw [List.length_map] at hnl
  have hql := Sl.capLe hl_lV
  have hfb := findHalf_bd l t
  obtain ⟨hfb0,hfb1⟩ := hfb
  refine x_callsA (args := [.slice Al l.length Cl,.agg (tupL t).toArray]) (fn := Try.f33) [slF (.slice Al l.length Cl) 13 (l.map hlfCells)] Try.func33 rfl Try.ntmps33 rfl (by simp only [List.mem_cons,List.not_mem_nil,or_false,forall_eq_or_imp,forall_eq]; exact ⟨rfl,hl_lV⟩) ?_
  refine xw_seq ?_
  refine xw_region ?_
  refine xl_end [0,3] ⟨[(0,.v (.slice Al l.length Cl)),(3,.p 0 0)],[⟨36,tupL t⟩],[],[slF (.slice Al l.length Cl) 13 (l.map hlfCells)]⟩ (by kernel_rfl) ?_
  refine xw_seq ?_
  refine xw_region ?_
  refine xl_callS 1 [0,3,7] [(0,.v (.slice Al l.length Cl)),(3,.p 0 0),(7,.v (.slice Al l.length Cl))] 68 [.slice Al l.length Cl] (some 8) (by kernel_rfl) rfl (by kernel_rfl) rfl (by kernel_rfl) (xc_r fun ww hw hf => yCloneHalf_c l (.slice Al l.length Cl) ww (hf (slF (.slice Al l.length Cl) 13 (l.map hlfCells)) (by simp)) (by assumption) w.heap.size hw) ?_
  rintro ⟨v1a,v1c⟩
  refine xl_endS [0,3,5] [(0,.v (.slice Al l.length Cl)),(3,.p 0 0),(5,.v (.slice v1a l.length v1c))] (by kernel_rfl) ?_
  refine xw_seq ?_
  refine xw_seq ?_
  refine xw_region ?_
  refine xl_callS 2 [5,9,10] [(5,.v (.slice v1a l.length v1c)),(9,.v (.slice Al l.length Cl)),(10,.v (.agg (tupL t).toArray))] 35 [.slice Al l.length Cl,.agg (tupL t).toArray] (some 11) (by kernel_rfl) rfl (by kernel_rfl) rfl (by kernel_rfl) (xc_b fun ww hf => iFindHalf_c (.slice Al l.length Cl) l t.ip t.port t.my ww (hf (slF (.slice Al l.length Cl) 13 (l.map hlfCells)) (by simp)) ) ?_
  intro _
  refine xl_endS [5,6] [(5,.v (.slice v1a l.length v1c)),(6,.v (.int .i64 (findHalf l t)))] (by kernel_rfl) ?_
  refine xw_seq ?_
  refine xw_region ?_
  refine xl_endS [5,6,13] [(5,.v (.slice v1a l.length v1c)),(6,.v (.int .i64 (findHalf l t))),(13,.v (.bool (decide ((findHalf l t) ≥ 0))))] (by kernel_rfl) ?_
  refine xw_cond (b := decide ((findHalf l t) ≥ 0)) (by kernel_rfl) (fun h2 => ?_) (fun h2 => ?_)
  have h2p : ((findHalf l t) ≥ 0) := of_decide_eq_true h2
  refine xw_region ?_
  refine xl_callWS 4 [5,14,15,17] [(5,.v (.slice v1a l.length v1c)),(14,.v (.slice v1a l.length v1c)),(15,.v (.int .i64 (findHalf l t))),(17,.v (.int .i64 (IntKind.i64.wrap ((findHalf l t) + 1))))] 70 [.slice v1a l.length v1c,.int .i64 (findHalf l t),.int .i64 (IntKind.i64.wrap ((findHalf l t) + 1))] (some 18) 0 (rowF w.heap.size 56 13 (.slice v1a l.length v1c) (l.map hlfCells)) (by kernel_rfl) rfl (by kernel_rfl) rfl (by kernel_rfl) rfl rfl (fun ww b h hb => rowF_lo h hb) (by kernel_rfl) (yDeleteHalf_c' (.slice v1a l.length v1c) l (findHalf l t) (IntKind.i64.wrap ((findHalf l t) + 1)) ((findHalf l t).toNat) (by omega) (by first | omega | (rw [wrap_id (by omega) (by omega)]; omega)) (fun ww hw hf => hf (rowF w.heap.size 56 13 (.slice v1a l.length v1c) (l.map hlfCells)) (by simp)) (by omega)) ?_
  rintro ⟨v3a,v3c⟩
  refine xl_endS [5] [(5,.v (.slice v3a ((l.take ((findHalf l t).toNat) ++ l.drop ((findHalf l t).toNat + 1)).length) v3c))] (by kernel_rfl) ?_
  refine xw_seq ?_
  refine xw_region ?_
  refine xl_endS [4] [(4,.v (.slice v3a ((l.take ((findHalf l t).toNat) ++ l.drop ((findHalf l t).toNat + 1)).length) v3c))] (by kernel_rfl) ?_
  refine xw_ret ?_
  have hmod : dropHalf l t = (l.take ((findHalf l t).toNat) ++ l.drop ((findHalf l t).toNat + 1)) := by first | (simp [dropHalf, *]; done) | (exact dropHalf_parts (by omega)) | (exact dropHalf_yes (by omega)) | (exact dropHalf_no (by omega))
  exact ⟨[.slice v3a ((l.take ((findHalf l t).toNat) ++ l.drop ((findHalf l t).toNat + 1)).length) v3c],by kernel_rfl,fun w' hb hf ha => by rw [hmod]; exact xr_one ((v3a,v3c)) rfl rfl (rowF_ownF (hf (rowF w.heap.size 56 13 (.slice v3a ((l.take ((findHalf l t).toNat) ++ l.drop ((findHalf l t).toNat + 1)).length) v3c) ((l.take ((findHalf l t).toNat) ++ l.drop ((findHalf l t).toNat + 1)).map hlfCells)) (by simp)) hB) (fun b hb => rowF_lo (hf (rowF w.heap.size 56 13 (.slice v3a ((l.take ((findHalf l t).toNat) ++ l.drop ((findHalf l t).toNat + 1)).length) v3c) ((l.take ((findHalf l t).toNat) ++ l.drop ((findHalf l t).toNat + 1)).map hlfCells)) (by simp)) (rowF_blk hb)) hb⟩
  have h2p : ¬ ((findHalf l t) ≥ 0) := of_decide_eq_false h2
  refine xw_skip ?_
  refine xw_seq ?_
  refine xw_region ?_
  refine xl_endS [4] [(4,.v (.slice v1a l.length v1c))] (by kernel_rfl) ?_
  refine xw_ret ?_
  have hmod : dropHalf l t = l := by first | (simp [dropHalf, *]; done) | (exact dropHalf_parts (by omega)) | (exact dropHalf_yes (by omega)) | (exact dropHalf_no (by omega))
  exact ⟨[.slice v1a l.length v1c],by kernel_rfl,fun w' hb hf ha => by rw [hmod]; exact xr_one ((v1a,v1c)) rfl rfl (rowF_ownF (hf (rowF w.heap.size 56 13 (.slice v1a l.length v1c) (l.map hlfCells)) (by simp)) hB) (fun b hb => rowF_lo (hf (rowF w.heap.size 56 13 (.slice v1a l.length v1c) (l.map hlfCells)) (by simp)) (rowF_blk hb)) hb⟩
set_option maxHeartbeats 1000000 in
theorem ysPutHalfR_c (l : List Hlf) (lV : Value) (h : Hlf) (most : Int) (w : World) (hl_lV : Sl w lV 13 (l.map hlfCells)) (hkn : l.length ≤ 1048576) (B : Nat) (hB : B ≤ w.heap.size) : Calls Try.prog 29 #[lV, .agg (hlfL h).toArray, .int .i64 most] w fun e w' => XRs w w' e (α := Option Addr × Nat) (fun y => .tuple #[.slice y.1 ((putHalf l h most).1.length) y.2, .bool ((putHalf l h most).2)]) (fun y => [rowF B 56 13 (.slice y.1 ((putHalf l h most).1.length) y.2) ((putHalf l h most).1.map hlfCells)]) := by
  obtain ⟨Al,Cl,hvl⟩ := hl_lV.form
  rw [List.length_map] at hvl; subst hvl
  have hnl := hl_lV.len; rw [List.length_map] at hnl
  have hql := Sl.capLe hl_lV
  refine x_callsA (args := [.slice Al l.length Cl,.agg (hlfL h).toArray,.int .i64 most]) (fn := Try.f29) [slF (.slice Al l.length Cl) 13 (l.map hlfCells)] Try.func29 rfl Try.ntmps29 rfl (by simp only [List.mem_cons,List.not_mem_nil,or_false,forall_eq_or_imp,forall_eq]; exact ⟨rfl,hl_lV⟩) ?_
  refine xw_seq ?_
  refine xw_region ?_
  refine xl_end [0,2,4] ⟨[(0,.v (.slice Al l.length Cl)),(2,.v (.int .i64 most)),(4,.p 0 0)],[⟨56,hlfL h⟩],[],[slF (.slice Al l.length Cl) 13 (l.map hlfCells)]⟩ (by kernel_rfl) ?_
  refine xw_seq ?_
  refine xw_region ?_
  refine xl_hvS 0 [0,2,4] [(0,.v (.slice Al l.length Cl)),(2,.v (.int .i64 most)),(4,.p 0 0)] (by kernel_rfl) rfl (by kernel_rfl) rfl (by kernel_rfl) (hv_build (e := 56) (K := 13) (bytes := 96) [] rfl (by kernel_rfl) (by kernel_rfl) (by kernel_rfl) (by kernel_rfl) (by kernel_rfl) (rs := ([] : List Hlf).map hlfCells) rfl) ?_
  intro g1
  refine xl_hvS 1 [0,2,4,10,11] [(0,.v (.slice Al l.length Cl)),(2,.v (.int .i64 most)),(4,.p 0 0),(10,.v (.slice (some ⟨g1,0,none⟩) 0 0)),(11,.v (.slice Al l.length Cl))] (by kernel_rfl) rfl (by kernel_rfl) rfl (by kernel_rfl) (hv_append (e := 56) (K := 13) (bytes := 96) (i := 0) (q := l.length) (new := l.map hlfCells) (rs' := l.map hlfCells) rfl rfl rfl rfl (by kernel_rfl) (by kernel_rfl) (by kernel_rfl) rfl (by simp) rfl (by simp) (fun ww hf => (hf (slF (.slice Al l.length Cl) 13 (l.map hlfCells)) (by simp))) (by intro r hr; obtain ⟨x,hx,rfl⟩ := List.mem_map.1 hr; exact ⟨rfl,by simp [hlfCells,Value.oneCell']⟩) (by (try simp only [List.length_map,List.length_append,List.length_cons,List.length_nil,List.length_take,List.length_drop,maxLen]); omega) (by (try simp only [List.length_map,List.length_append,List.length_cons,List.length_nil,List.length_take,List.length_drop,maxLen]); omega)) ?_
  rintro ⟨v2a,v2c⟩
  refine xl_endS [0,2,4,8] [(0,.v (.slice Al l.length Cl)),(2,.v (.int .i64 most)),(4,.p 0 0),(8,.v (.slice v2a l.length v2c))] (by kernel_rfl) ?_
  refine xw_seq ?_
  refine xw_joinE (α := Option Addr × Nat × Nat) (fun y => (fun (v12a : Option Addr) (v12c : Nat) (g10 : Nat) => (⟨[(0,.v (.slice Al l.length Cl)),(2,.v (.int .i64 most)),(8,.v (.slice v2a l.length v2c)),(9,.v (.slice v12a ((l ++ ([h] : List Hlf)).length) v12c))],[⟨56,hlfL h⟩],[],[rowF w.heap.size 56 13 (.slice v12a ((l ++ ([h] : List Hlf)).length) v12c) ((l ++ ([h] : List Hlf)).map hlfCells),rowF w.heap.size 56 13 (.slice (some ⟨g10,0,none⟩) 1 1) (([h] : List Hlf).map hlfCells),rowF w.heap.size 56 13 (.slice v2a l.length v2c) (l.map hlfCells),slF (.slice Al l.length Cl) 13 (l.map hlfCells)]⟩ : St)) y.1 y.2.1 y.2.2) ?_ ?_
  refine xe_region0 [] (by kernel_rfl) (fun ρ σ => ?_)
  refine xe_tkS [1,3] [16,14,0,2,8] 5 [(16,.v (.agg (hlfL h).toArray)),(14,.v (.slice Al l.length Cl)),(0,.v (.slice Al l.length Cl)),(2,.v (.int .i64 most)),(8,.v (.slice v2a l.length v2c))] (fun _ _ h => h) rfl (by kernel_rfl) ?_
  refine xe_all [0,4] (by kernel_rfl) (by simp) ⟨?_,?_⟩
  refine xs_hv 0 rfl (by kernel_rfl) (by kernel_rfl) (by kernel_rfl) (under_t under_nil) rfl (hv_build (e := 56) (K := 13) (bytes := 96) [] rfl (by kernel_rfl) (by kernel_rfl) (by kernel_rfl) (by kernel_rfl) (by kernel_rfl) (rs := ([] : List Hlf).map hlfCells) rfl) ?_
  intro g5
  refine xe_all [2,4] (by kernel_rfl) (by simp) ⟨?_,?_⟩
  refine xs_hv 2 rfl (by kernel_rfl) (by kernel_rfl) (by kernel_rfl) (under_t under_nil) rfl (hv_append (e := 56) (K := 13) (bytes := 96) (i := 0) (q := l.length) (new := l.map hlfCells) (rs' := l.map hlfCells) rfl rfl rfl rfl (by kernel_rfl) (by kernel_rfl) (by kernel_rfl) rfl (by simp) rfl (by simp) (fun ww hf => (hf (slF (.slice Al l.length Cl) 13 (l.map hlfCells)) (by simp))) (by intro r hr; obtain ⟨x,hx,rfl⟩ := List.mem_map.1 hr; exact ⟨rfl,by simp [hlfCells,Value.oneCell']⟩) (by (try simp only [List.length_map,List.length_append,List.length_cons,List.length_nil,List.length_take,List.length_drop,maxLen]); omega) (by (try simp only [List.length_map,List.length_append,List.length_cons,List.length_nil,List.length_take,List.length_drop,maxLen]); omega)) ?_
  rintro ⟨v8a,v8c⟩
  refine xe_all [4] (by kernel_rfl) (by simp) ?_
  refine xs_hv 4 rfl (by kernel_rfl) (by kernel_rfl) (by kernel_rfl) (under_t under_nil) rfl (hv_build (e := 56) (K := 13) (bytes := 96) [.agg (hlfL h).toArray] rfl (by kernel_rfl) (by kernel_rfl) (by kernel_rfl) (by kernel_rfl) (by kernel_rfl) (rs := ([h] : List Hlf).map hlfCells) rfl) ?_
  intro g10
  refine xe_all [5] (by kernel_rfl) (by simp) ?_
  refine xs_hv 5 rfl (by kernel_rfl) (by kernel_rfl) (by kernel_rfl) (under_t under_nil) rfl (hv_append (e := 56) (K := 13) (bytes := 96) (i := 1) (q := (l ++ ([h] : List Hlf)).length) (new := ([h] : List Hlf).map hlfCells) (rs' := (l ++ ([h] : List Hlf)).map hlfCells) rfl rfl rfl rfl (by kernel_rfl) (by kernel_rfl) (by kernel_rfl) rfl (by simp) (by rw [List.map_append]) (by simp) (fun ww hf => (rowF_sl (hf (rowF w.heap.size 56 13 (.slice (some ⟨g10,0,none⟩) 1 1) (([h] : List Hlf).map hlfCells)) (by simp)))) (by intro r hr; obtain ⟨x,hx,rfl⟩ := List.mem_map.1 hr; exact ⟨rfl,by simp [hlfCells,Value.oneCell']⟩) (by (try simp only [List.length_map,List.length_append,List.length_cons,List.length_nil,List.length_take,List.length_drop,maxLen]); omega) (by (try simp only [List.length_map,List.length_append,List.length_cons,List.length_nil,List.length_take,List.length_drop,maxLen]); omega)) ?_
  rintro ⟨v12a,v12c⟩
  refine xe_tkS [6] [9,0,2,8] 0 [(9,.v (.slice v12a ((l ++ ([h] : List Hlf)).length) v12c)),(0,.v (.slice Al l.length Cl)),(2,.v (.int .i64 most)),(8,.v (.slice v2a l.length v2c))] (fun _ _ h => h) rfl (by kernel_rfl) ?_
  refine xe_done (by kernel_rfl) ?_
  exact ⟨(v12a,v12c,g10),wk_forget 1 0 [0,2,8,9] (by kernel_rfl) (by kernel_rfl) (by kernel_rfl)⟩
  refine xs_hv 4 rfl (by kernel_rfl) (by kernel_rfl) (by kernel_rfl) (under_t under_nil) rfl (hv_build (e := 56) (K := 13) (bytes := 96) [.agg (hlfL h).toArray] rfl (by kernel_rfl) (by kernel_rfl) (by kernel_rfl) (by kernel_rfl) (by kernel_rfl) (rs := ([h] : List Hlf).map hlfCells) rfl) ?_
  intro g13
  refine xe_all [2] (by kernel_rfl) (by simp) ?_
  refine xs_hv 2 rfl (by kernel_rfl) (by kernel_rfl) (by kernel_rfl) (under_t under_nil) rfl (hv_append (e := 56) (K := 13) (bytes := 96) (i := 1) (q := l.length) (new := l.map hlfCells) (rs' := l.map hlfCells) rfl rfl rfl rfl (by kernel_rfl) (by kernel_rfl) (by kernel_rfl) rfl (by simp) rfl (by simp) (fun ww hf => (hf (slF (.slice Al l.length Cl) 13 (l.map hlfCells)) (by simp))) (by intro r hr; obtain ⟨x,hx,rfl⟩ := List.mem_map.1 hr; exact ⟨rfl,by simp [hlfCells,Value.oneCell']⟩) (by (try simp only [List.length_map,List.length_append,List.length_cons,List.length_nil,List.length_take,List.length_drop,maxLen]); omega) (by (try simp only [List.length_map,List.length_append,List.length_cons,List.length_nil,List.length_take,List.length_drop,maxLen]); omega)) ?_
  rintro ⟨v15a,v15c⟩
  refine xe_all [5] (by kernel_rfl) (by simp) ?_
  refine xs_hv 5 rfl (by kernel_rfl) (by kernel_rfl) (by kernel_rfl) (under_t under_nil) rfl (hv_append (e := 56) (K := 13) (bytes := 96) (i := 0) (q := (l ++ ([h] : List Hlf)).length) (new := ([h] : List Hlf).map hlfCells) (rs' := (l ++ ([h] : List Hlf)).map hlfCells) rfl rfl rfl rfl (by kernel_rfl) (by kernel_rfl) (by kernel_rfl) rfl (by simp) (by rw [List.map_append]) (by simp) (fun ww hf => (rowF_sl (hf (rowF w.heap.size 56 13 (.slice (some ⟨g13,0,none⟩) 1 1) (([h] : List Hlf).map hlfCells)) (by simp)))) (by intro r hr; obtain ⟨x,hx,rfl⟩ := List.mem_map.1 hr; exact ⟨rfl,by simp [hlfCells,Value.oneCell']⟩) (by (try simp only [List.length_map,List.length_append,List.length_cons,List.length_nil,List.length_take,List.length_drop,maxLen]); omega) (by (try simp only [List.length_map,List.length_append,List.length_cons,List.length_nil,List.length_take,List.length_drop,maxLen]); omega)) ?_
  rintro ⟨v17a,v17c⟩
  refine xe_tkS [6] [9,0,2,8] 0 [(9,.v (.slice v17a ((l ++ ([h] : List Hlf)).length) v17c)),(0,.v (.slice Al l.length Cl)),(2,.v (.int .i64 most)),(8,.v (.slice v2a l.length v2c))] (fun _ _ h => h) rfl (by kernel_rfl) ?_
  refine xe_done (by kernel_rfl) ?_
  exact ⟨(v17a,v17c,g13),wk_forget 1 0 [0,2,8,9] (by kernel_rfl) (by kernel_rfl) (by kernel_rfl)⟩
  refine xs_hv 4 rfl (by kernel_rfl) (by kernel_rfl) (by kernel_rfl) (under_t under_nil) rfl (hv_build (e := 56) (K := 13) (bytes := 96) [.agg (hlfL h).toArray] rfl (by kernel_rfl) (by kernel_rfl) (by kernel_rfl) (by kernel_rfl) (by kernel_rfl) (rs := ([h] : List Hlf).map hlfCells) rfl) ?_
  intro g18
  refine xe_all [0] (by kernel_rfl) (by simp) ?_
  refine xs_hv 0 rfl (by kernel_rfl) (by kernel_rfl) (by kernel_rfl) (under_t under_nil) rfl (hv_build (e := 56) (K := 13) (bytes := 96) [] rfl (by kernel_rfl) (by kernel_rfl) (by kernel_rfl) (by kernel_rfl) (by kernel_rfl) (rs := ([] : List Hlf).map hlfCells) rfl) ?_
  intro g20
  refine xe_all [2] (by kernel_rfl) (by simp) ?_
  refine xs_hv 2 rfl (by kernel_rfl) (by kernel_rfl) (by kernel_rfl) (under_t under_nil) rfl (hv_append (e := 56) (K := 13) (bytes := 96) (i := 0) (q := l.length) (new := l.map hlfCells) (rs' := l.map hlfCells) rfl rfl rfl rfl (by kernel_rfl) (by kernel_rfl) (by kernel_rfl) rfl (by simp) rfl (by simp) (fun ww hf => (hf (slF (.slice Al l.length Cl) 13 (l.map hlfCells)) (by simp))) (by intro r hr; obtain ⟨x,hx,rfl⟩ := List.mem_map.1 hr; exact ⟨rfl,by simp [hlfCells,Value.oneCell']⟩) (by (try simp only [List.length_map,List.length_append,List.length_cons,List.length_nil,List.length_take,List.length_drop,maxLen]); omega) (by (try simp only [List.length_map,List.length_append,List.length_cons,List.length_nil,List.length_take,List.length_drop,maxLen]); omega)) ?_
  rintro ⟨v22a,v22c⟩
  refine xe_all [5] (by kernel_rfl) (by simp) ?_
  refine xs_hv 5 rfl (by kernel_rfl) (by kernel_rfl) (by kernel_rfl) (under_t under_nil) rfl (hv_append (e := 56) (K := 13) (bytes := 96) (i := 0) (q := (l ++ ([h] : List Hlf)).length) (new := ([h] : List Hlf).map hlfCells) (rs' := (l ++ ([h] : List Hlf)).map hlfCells) rfl rfl rfl rfl (by kernel_rfl) (by kernel_rfl) (by kernel_rfl) rfl (by simp) (by rw [List.map_append]) (by simp) (fun ww hf => (rowF_sl (hf (rowF w.heap.size 56 13 (.slice (some ⟨g18,0,none⟩) 1 1) (([h] : List Hlf).map hlfCells)) (by simp)))) (by intro r hr; obtain ⟨x,hx,rfl⟩ := List.mem_map.1 hr; exact ⟨rfl,by simp [hlfCells,Value.oneCell']⟩) (by (try simp only [List.length_map,List.length_append,List.length_cons,List.length_nil,List.length_take,List.length_drop,maxLen]); omega) (by (try simp only [List.length_map,List.length_append,List.length_cons,List.length_nil,List.length_take,List.length_drop,maxLen]); omega)) ?_
  rintro ⟨v24a,v24c⟩
  refine xe_tkS [6] [9,0,2,8] 0 [(9,.v (.slice v24a ((l ++ ([h] : List Hlf)).length) v24c)),(0,.v (.slice Al l.length Cl)),(2,.v (.int .i64 most)),(8,.v (.slice v2a l.length v2c))] (fun _ _ h => h) rfl (by kernel_rfl) ?_
  refine xe_done (by kernel_rfl) ?_
  exact ⟨(v24a,v24c,g18),wk_forget 1 0 [0,2,8,9] (by kernel_rfl) (by kernel_rfl) (by kernel_rfl)⟩
  rintro ⟨v12a,v12c,g10⟩
  refine xw_seq ?_
  refine xw_seq ?_
  refine xw_join ⟨[(8,.v (.slice v2a l.length v2c)),(9,.v (.slice v12a ((l ++ ([h] : List Hlf)).length) v12c)),(27,.v (.bool ((decide (((l.length : Nat) : Int) ≥ most)) || (!(halvesOk (l ++ ([h] : List Hlf)))))))],[⟨56,hlfL h⟩],[],[rowF w.heap.size 56 13 (.slice v12a ((l ++ ([h] : List Hlf)).length) v12c) ((l ++ ([h] : List Hlf)).map hlfCells),rowF w.heap.size 56 13 (.slice (some ⟨g10,0,none⟩) 1 1) (([h] : List Hlf).map hlfCells),rowF w.heap.size 56 13 (.slice v2a l.length v2c) (l.map hlfCells),slF (.slice Al l.length Cl) 13 (l.map hlfCells)]⟩ ?_ ?_
  refine xw_region ?_
  refine xl_run 5 [8,9,23] ⟨[(8,.v (.slice v2a l.length v2c)),(9,.v (.slice v12a ((l ++ ([h] : List Hlf)).length) v12c)),(23,.v (.bool (decide (((l.length : Nat) : Int) ≥ most))))],[⟨56,hlfL h⟩],[],[rowF w.heap.size 56 13 (.slice v12a ((l ++ ([h] : List Hlf)).length) v12c) ((l ++ ([h] : List Hlf)).map hlfCells),rowF w.heap.size 56 13 (.slice (some ⟨g10,0,none⟩) 1 1) (([h] : List Hlf).map hlfCells),rowF w.heap.size 56 13 (.slice v2a l.length v2c) (l.map hlfCells),slF (.slice Al l.length Cl) 13 (l.map hlfCells)]⟩ (by kernel_rfl) ?_
  refine xl_split 23 (b := decide (((l.length : Nat) : Int) ≥ most)) (by kernel_rfl) (fun h25 => ?_) (fun h25 => ?_)
  have h25p : (((l.length : Nat) : Int) ≥ most) := of_decide_eq_true h25
  refine xl_endS [8,9,27] [(8,.v (.slice v2a l.length v2c)),(9,.v (.slice v12a ((l ++ ([h] : List Hlf)).length) v12c)),(27,.v (.bool true))] (by kernel_rfl) ?_
  show Wk _ _
  try rw [h25]
  exact wk_forget 1 0 [8,9,27] (by kernel_rfl) (by kernel_rfl) (by kernel_rfl)
  have h25p : ¬ (((l.length : Nat) : Int) ≥ most) := of_decide_eq_false h25
  refine xl_callS 1 [8,9,23,24] [(8,.v (.slice v2a l.length v2c)),(9,.v (.slice v12a ((l ++ ([h] : List Hlf)).length) v12c)),(23,.v (.bool false)),(24,.v (.slice v12a ((l ++ ([h] : List Hlf)).length) v12c))] 32 [.slice v12a ((l ++ ([h] : List Hlf)).length) v12c] (some 25) (by kernel_rfl) rfl (by kernel_rfl) rfl (by kernel_rfl) (xc_b fun ww hf => ysHalvesOk_c (l ++ ([h] : List Hlf)) (.slice v12a ((l ++ ([h] : List Hlf)).length) v12c) ww (rowF_sl (hf (rowF w.heap.size 56 13 (.slice v12a ((l ++ ([h] : List Hlf)).length) v12c) ((l ++ ([h] : List Hlf)).map hlfCells)) (by simp))) ) ?_
  intro _
  refine xl_endS [8,9,27] [(8,.v (.slice v2a l.length v2c)),(9,.v (.slice v12a ((l ++ ([h] : List Hlf)).length) v12c)),(27,.v (.bool (!(halvesOk (l ++ ([h] : List Hlf))))))] (by kernel_rfl) ?_
  show Wk _ _
  try rw [h25]
  exact wk_forget 1 0 [8,9,27] (by kernel_rfl) (by kernel_rfl) (by kernel_rfl)
  refine xw_cond (b := (decide (((l.length : Nat) : Int) ≥ most)) || (!(halvesOk (l ++ ([h] : List Hlf))))) (by kernel_rfl) (fun h26 => ?_) (fun h26 => ?_)
  refine xw_seq ?_
  refine xw_region ?_
  refine xl_endS [6,7] [(6,.v (.slice v2a l.length v2c)),(7,.v (.bool false))] (by kernel_rfl) ?_
  refine xw_ret ?_
  have hmod : putHalf l h most = (l,false) := by first | rfl | (simp [putHalf, *]; done) | grind [putHalf]
  exact ⟨[.slice v2a l.length v2c,.bool false],by kernel_rfl,fun w' hb hf ha => by rw [hmod]; exact xr_one ((v2a,v2c)) rfl rfl (rowF_lower (hf (rowF w.heap.size 56 13 (.slice v2a l.length v2c) (l.map hlfCells)) (by simp)) hB) (fun b hb => rowF_lo (hf (rowF w.heap.size 56 13 (.slice v2a l.length v2c) (l.map hlfCells)) (by simp)) hb) hb⟩
  have h26l := or_l h26
  have h26r := or_r h26
  have h26rn := not_f h26r
  refine xw_skip ?_
  refine xw_seq ?_
  refine xw_region ?_
  refine xl_endS [6,7] [(6,.v (.slice v12a ((l ++ ([h] : List Hlf)).length) v12c)),(7,.v (.bool true))] (by kernel_rfl) ?_
  refine xw_ret ?_
  have hmod : putHalf l h most = ((l ++ ([h] : List Hlf)),true) := by first | rfl | (simp [putHalf, *]; done) | grind [putHalf]
  exact ⟨[.slice v12a ((l ++ ([h] : List Hlf)).length) v12c,.bool true],by kernel_rfl,fun w' hb hf ha => by rw [hmod]; exact xr_one ((v12a,v12c)) rfl rfl (rowF_lower (hf (rowF w.heap.size 56 13 (.slice v12a ((l ++ ([h] : List Hlf)).length) v12c) ((l ++ ([h] : List Hlf)).map hlfCells)) (by simp)) hB) (fun b hb => rowF_lo (hf (rowF w.heap.size 56 13 (.slice v12a ((l ++ ([h] : List Hlf)).length) v12c) ((l ++ ([h] : List Hlf)).map hlfCells)) (by simp)) hb) hb⟩
set_option maxHeartbeats 2000000 in
theorem l24Half_c (g : Nat) (code : List Int) (A : Option Addr) (cap : Nat)  (w : World) (B : Nat) (hB : B ≤ w.heap.size) (hc : (curF B g 95 (.slice A code.length cap) code.length).p w) (hl : Sl w (.slice A code.length cap) 1 (code.map byteRow)) (hap : ¬ (slF (.slice A code.length cap) 1 (code.map byteRow)).blk g) (hn : code.length ≤ 1048576)  : Calls Try.prog 65 #[.pointer (some ⟨g, 0, none⟩)] w fun e w' => ∃ y : {y : Hlf // True}, e = .returned (.agg (hlfL y.1).toArray) ∧ (curF B g 95 (.slice A code.length cap) code.length).p w' ∧ Chgd (fun b => b = g) w w' := by
  have hq_code := Sl.capLe hl
  refine x_callsM (args := [.pointer (some ⟨g,0,none⟩)]) (fn := Try.f65) [curF B g 95 (.slice A code.length cap) code.length,slF (.slice A code.length cap) 1 (code.map byteRow),frF w (fun b => b = g)] B Try.func65 rfl Try.ntmps65 rfl hB (by simp only [List.mem_cons,List.not_mem_nil,or_false,forall_eq_or_imp,forall_eq]; exact ⟨hc,hl,frF_start w _⟩) (apart_cur hap rfl) ?_
  refine xw_seq ?_
  refine xw_region ?_
  refine xl_end [0,2] ⟨[(0,.v (.pointer (some ⟨g,0,none⟩))),(2,.p 0 0)],[⟨56,hlfZ⟩],[],[curF B g 95 (.slice A code.length cap) code.length,slF (.slice A code.length cap) 1 (code.map byteRow),frF w (fun b => b = g)]⟩ (by kernel_rfl) ?_
  refine xw_seq ?_
  refine xw_region ?_
  refine xl_callWS 1 [0,2,3] [(0,.v (.pointer (some ⟨g,0,none⟩))),(2,.p 0 0),(3,.v (.pointer (some ⟨g,0,none⟩)))] 78 [.pointer (some ⟨g,0,none⟩)] (some 4) 0 (curF B g 95 (.slice A code.length cap) code.length) (by kernel_rfl) rfl (by kernel_rfl) rfl (by kernel_rfl) rfl rfl (fun ww b h hb => Nat.le_trans (cutW_le w B) (cur_lo h hb)) (by kernel_rfl) (xcm_cur fun ww hw hf => l12Tuple_c g code A cap  ww B (Nat.le_trans (by first | exact Nat.le_refl _ | exact Nat.le_of_eq (cutW_size hB).symm) hw) (hf (curF B g 95 (.slice A code.length cap) code.length) (by simp)) (hf (slF (.slice A code.length cap) 1 (code.map byteRow)) (by simp)) hap (by omega)  ) ?_
  rintro ⟨y1,hy1⟩
  refine xl_callWS 1 [0,2,4,5] [(0,.v (.pointer (some ⟨g,0,none⟩))),(2,.p 0 0),(4,.v (.agg (tupL y1).toArray)),(5,.v (.pointer (some ⟨g,0,none⟩)))] 80 [.pointer (some ⟨g,0,none⟩)] (some 6) 0 (curF B g 95 (.slice A code.length cap) code.length) (by kernel_rfl) rfl (by kernel_rfl) rfl (by kernel_rfl) rfl rfl (fun ww b h hb => Nat.le_trans (cutW_le w B) (cur_lo h hb)) (by kernel_rfl) (xcm_cur fun ww hw hf => l2Deep_c g code A cap  ww B (Nat.le_trans (by first | exact Nat.le_refl _ | exact Nat.le_of_eq (cutW_size hB).symm) hw) (hf (curF B g 95 (.slice A code.length cap) code.length) (by simp)) (hf (slF (.slice A code.length cap) 1 (code.map byteRow)) (by simp)) hap (by omega)  ) ?_
  rintro ⟨y2,hy2⟩
  refine xl_callWS 1 [0,2,4,6,7] [(0,.v (.pointer (some ⟨g,0,none⟩))),(2,.p 0 0),(4,.v (.agg (tupL y1).toArray)),(6,.v (.int .i64 y2)),(7,.v (.pointer (some ⟨g,0,none⟩)))] 80 [.pointer (some ⟨g,0,none⟩)] (some 8) 0 (curF B g 95 (.slice A code.length cap) code.length) (by kernel_rfl) rfl (by kernel_rfl) rfl (by kernel_rfl) rfl rfl (fun ww b h hb => Nat.le_trans (cutW_le w B) (cur_lo h hb)) (by kernel_rfl) (xcm_cur fun ww hw hf => l2Deep_c g code A cap  ww B (Nat.le_trans (by first | exact Nat.le_refl _ | exact Nat.le_of_eq (cutW_size hB).symm) hw) (hf (curF B g 95 (.slice A code.length cap) code.length) (by simp)) (hf (slF (.slice A code.length cap) 1 (code.map byteRow)) (by simp)) hap (by omega)  ) ?_
  rintro ⟨y3,hy3⟩
  refine xl_callWS 1 [0,2,4,6,8,9] [(0,.v (.pointer (some ⟨g,0,none⟩))),(2,.p 0 0),(4,.v (.agg (tupL y1).toArray)),(6,.v (.int .i64 y2)),(8,.v (.int .i64 y3)),(9,.v (.pointer (some ⟨g,0,none⟩)))] 74 [.pointer (some ⟨g,0,none⟩)] (some 10) 0 (curF B g 95 (.slice A code.length cap) code.length) (by kernel_rfl) rfl (by kernel_rfl) rfl (by kernel_rfl) rfl rfl (fun ww b h hb => Nat.le_trans (cutW_le w B) (cur_lo h hb)) (by kernel_rfl) (xcm_cur fun ww hw hf => l8Options_c g code A cap  ww B (Nat.le_trans (by first | exact Nat.le_refl _ | exact Nat.le_of_eq (cutW_size hB).symm) hw) (hf (curF B g 95 (.slice A code.length cap) code.length) (by simp)) (hf (slF (.slice A code.length cap) 1 (code.map byteRow)) (by simp)) hap (by omega)  ) ?_
  rintro ⟨y4,hy4⟩
  refine xl_callWS 1 [0,2,4,6,8,10,11] [(0,.v (.pointer (some ⟨g,0,none⟩))),(2,.p 0 0),(4,.v (.agg (tupL y1).toArray)),(6,.v (.int .i64 y2)),(8,.v (.int .i64 y3)),(10,.v (.agg (optL y4).toArray)),(11,.v (.pointer (some ⟨g,0,none⟩)))] 75 [.pointer (some ⟨g,0,none⟩),.int .i64 7] (some 12) 0 (curF B g 95 (.slice A code.length cap) code.length) (by kernel_rfl) rfl (by kernel_rfl) rfl (by kernel_rfl) rfl rfl (fun ww b h hb => Nat.le_trans (cutW_le w B) (cur_lo h hb)) (by kernel_rfl) (xcm_cur fun ww hw hf => l1Below_c g code A cap 7 ww B (Nat.le_trans (by first | exact Nat.le_refl _ | exact Nat.le_of_eq (cutW_size hB).symm) hw) (hf (curF B g 95 (.slice A code.length cap) code.length) (by simp)) (hf (slF (.slice A code.length cap) 1 (code.map byteRow)) (by simp)) hap (by omega)  ) ?_
  rintro ⟨y5,hy5⟩
  obtain ⟨hy50,hy51⟩ := hy5
  refine xl_hvS 1 [2,4,6,8,10,12,13] [(2,.p 0 0),(4,.v (.agg (tupL y1).toArray)),(6,.v (.int .i64 y2)),(8,.v (.int .i64 y3)),(10,.v (.agg (optL y4).toArray)),(12,.v (.int .i64 y5)),(13,.v (.pointer (some ⟨g,0,none⟩)))] (by kernel_rfl) rfl (by kernel_rfl) rfl (by kernel_rfl) (hv_build (e := 3) (K := 1) (bytes := 8) [.int .i64 0,.int .i64 64,.int .i64 65535] rfl (by kernel_rfl) (by kernel_rfl) (by kernel_rfl) (by kernel_rfl) (by kernel_rfl) (rs := ([0,64,65535] : List Int).map intRow) rfl) ?_
  intro g6
  refine xl_know (φ := ¬ (slF (.slice (some ⟨g6,0,none⟩) 3 3) 1 (([0,64,65535] : List Int).map intRow)).blk g) (fun _ _ _ _ hr => fun hb => hr.2.apart 0 1 (rowF (cutW w B).heap.size 3 1 (.slice (some ⟨g6,0,none⟩) 3 3) (([0,64,65535] : List Int).map intRow)) (curF B g 95 (.slice A code.length cap) code.length) rfl rfl (by decide) rfl g (rowF_sblk hb) rfl) (fun hk7 => ?_)
  refine xl_callWS 0 [2,4,6,8,10,12,13,14] [(2,.p 0 0),(4,.v (.agg (tupL y1).toArray)),(6,.v (.int .i64 y2)),(8,.v (.int .i64 y3)),(10,.v (.agg (optL y4).toArray)),(12,.v (.int .i64 y5)),(13,.v (.pointer (some ⟨g,0,none⟩))),(14,.v (.slice (some ⟨g6,0,none⟩) 3 3))] 52 [.pointer (some ⟨g,0,none⟩),.slice (some ⟨g6,0,none⟩) 3 3] (some 15) 1 (curF B g 95 (.slice A code.length cap) code.length) (by kernel_rfl) rfl (by kernel_rfl) rfl (by kernel_rfl) rfl rfl (fun ww b h hb => Nat.le_trans (cutW_le w B) (cur_lo h hb)) (by kernel_rfl) (xcm_cur fun ww hw hf => l1PickInt_c g code A cap ([0,64,65535] : List Int) (.slice (some ⟨g6,0,none⟩) 3 3) ww B (Nat.le_trans (by first | exact Nat.le_refl _ | exact Nat.le_of_eq (cutW_size hB).symm) hw) (hf (curF B g 95 (.slice A code.length cap) code.length) (by simp)) (hf (slF (.slice A code.length cap) 1 (code.map byteRow)) (by simp)) hap (by omega) (rowF_sl (hf (rowF (cutW w B).heap.size 3 1 (.slice (some ⟨g6,0,none⟩) 3 3) (([0,64,65535] : List Int).map intRow)) (by simp))) hk7 (by simp)) ?_
  rintro ⟨y8,hy8⟩
  refine xl_opS 0 [2,4,6,8,10,12,15] [(2,.p 0 0),(4,.v (.agg (tupL y1).toArray)),(6,.v (.int .i64 y2)),(8,.v (.int .i64 y3)),(10,.v (.agg (optL y4).toArray)),(12,.v (.int .i64 y5)),(15,.v (.int .i64 y8))] (.agg #[.int .i64 y1.ip,.int .i64 y1.port,.int .i64 y1.my,.int .i64 y2,.int .i64 y3,.int .i64 y4.mss,.int .i64 y4.scale,.bool y4.sack,.bool y4.stamp,.int .i64 y4.val,.int .i64 y4.echo,.int .i64 y5,.int .i64 y8]) (by kernel_rfl) rfl (by kernel_rfl) rfl (fun _ _ _ ww hr => act_build [(0,.agg (tupL y1).toArray),(1,.int .i64 y2),(2,.int .i64 y3),(3,.agg (optL y4).toArray),(4,.int .i64 y5),(5,.int .i64 y8)] hr.1 rfl (by kernel_rfl) (by kernel_rfl) ww) ?_
  refine xl_end [2] ⟨[(2,.p 0 0)],[⟨56,[.int .i64 y1.ip,.int .i64 y1.port,.int .i64 y1.my,.int .i64 y2,.int .i64 y3,.int .i64 y4.mss,.int .i64 y4.scale,.bool y4.sack,.bool y4.stamp,.int .i64 y4.val,.int .i64 y4.echo,.int .i64 y5,.int .i64 y8]⟩],[],[curF B g 95 (.slice A code.length cap) code.length,rowF (cutW w B).heap.size 3 1 (.slice (some ⟨g6,0,none⟩) 3 3) (([0,64,65535] : List Int).map intRow),slF (.slice A code.length cap) 1 (code.map byteRow),frF w (fun b => b = g)]⟩ (by kernel_rfl) ?_
  refine xw_ret ?_
  exact ⟨[.agg #[.int .i64 y1.ip,.int .i64 y1.port,.int .i64 y1.my,.int .i64 y2,.int .i64 y3,.int .i64 y4.mss,.int .i64 y4.scale,.bool y4.sack,.bool y4.stamp,.int .i64 y4.val,.int .i64 y4.echo,.int .i64 y5,.int .i64 y8]],by kernel_rfl,fun w' hb hf => ⟨⟨⟨y1,y2,y3,y4,y5,y8⟩,trivial⟩,rfl,hf (curF B g 95 (.slice A code.length cap) code.length) (by simp),frF_chgd (hf (frF w (fun b => b = g)) (by simp)) hb rfl rfl rfl⟩⟩
end Go.Proofs.Ytcoppgllfipbeaa
