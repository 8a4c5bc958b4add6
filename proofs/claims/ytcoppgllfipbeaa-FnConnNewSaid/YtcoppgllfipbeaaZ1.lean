/- Contracts that this law needs, part 1. -/
import Derived.Test.YtcoppgllfipbeaaYW
import Derived.Test.YtcoppgllfipbeaaA2
import Derived.Test.YtcoppgllfipbeaaXQ
import Derived.Test.YtcoppgllfipbeaaA5
import Derived.Test.YtcoppgllfipbeaaD0
import Derived.Test.YtcoppgllfipbeaaYD
import Derived.Test.YtcoppgllfipbeaaE
import Derived.Test.YtcoppgllfipbeaaSPiece
import Derived.Test.YtcoppgllfipbeaaC1
import Derived.Test.YtcoppgllfipbeaaME
import Derived.Test.YtcoppgllfipbeaaXM
import Derived.Test.YtcoppgllfipbeaaMH
import Derived.Test.YtcoppgllfipbeaaMN
namespace Go.Proofs.Ytcoppgllfipbeaa
open Go.RowKit
set_option linter.unusedVariables false
set_option linter.unusedSimpArgs false
set_option maxRecDepth 100000

theorem l1New_c (code : List Int) (A : Option Addr) (cap : Nat) (w : World) (hl : Sl w (.slice A code.length cap) 1 (code.map byteRow)) (hn : code.length ≤ 1048576) : Calls Try.prog 38 #[.slice A code.length cap] w fun e w' => ∃ y : {g : Nat // ¬ (slF (.slice A code.length cap) 1 (code.map byteRow)).blk g}, e = .returned (.pointer (some ⟨y.1, 0, none⟩)) ∧ (curF w.heap.size y.1 95 (.slice A code.length cap) code.length).p w' ∧ Below w.heap.size w w' := by
  have hq_code := Sl.capLe hl
  refine x_calls (args := [.slice A code.length cap]) (fn := Try.f38) [slF (.slice A code.length cap) 1 (code.map byteRow)] Try.func38 rfl Try.ntmps38 rfl (by simp only [List.mem_cons,List.not_mem_nil,or_false,forall_eq]; exact ⟨rfl,hl⟩) ?_
  refine xw_seq ?_
  refine xw_region ?_
  refine xl_end [0] ⟨[(0,.v (.slice A code.length cap))],[],[],[slF (.slice A code.length cap) 1 (code.map byteRow)]⟩ (by kernel_rfl) ?_
  refine xw_seq ?_
  refine xw_region ?_
  refine xl_endS [0,3] [(0,.v (.slice A code.length cap)),(3,.v (.int .i64 (IntKind.i64.wrap (28655 + ((code.length : Nat) : Int)))))] (by kernel_rfl) ?_
  refine xw_seq ?_
  refine xw_seq ?_
  refine xw_region ?_
  refine xl_endS [0,3,4] [(0,.v (.slice A code.length cap)),(3,.v (.int .i64 (IntKind.i64.wrap (28655 + ((code.length : Nat) : Int))))),(4,.v (.int .i64 0))] (by kernel_rfl) ?_
  refine xw_block ?_
  refine xw_loopW (α := {x : Nat × Int // (fun (i : Nat) (h : Int) => i ≤ code.length) x.1 x.2}) (fun x => (fun (i : Nat) (h : Int) => (⟨[(0,.v (.slice A code.length cap)),(3,.v (.int .i64 h)),(4,.v (.int .i64 (i : Int)))],[],[],[slF (.slice A code.length cap) 1 (code.map byteRow)]⟩ : St)) x.1.1 x.1.2) (fun x => (fun (i : Nat) (h : Int) => code.length - i) x.1.1 x.1.2) ⟨(0,IntKind.i64.wrap (28655 + ((code.length : Nat) : Int))),Nat.zero_le _⟩ (wk_forget 0 0 [0,3,4] (by kernel_rfl) (by kernel_rfl) (by kernel_rfl)) ?_
  rintro ⟨⟨i,h⟩,hi⟩
  refine xw_wk (Wk.of_eq (s' := ⟨[(0,.v (.slice A code.length cap)),(3,.v (.int .i64 h)),(4,.v (.int .i64 (i : Int)))],[],[],[slF (.slice A code.length cap) 1 (code.map byteRow)]⟩) rfl) ?_
  try dsimp only at hi
  refine xw_seq ?_
  refine xw_seq ?_
  refine xw_region ?_
  refine xl_runS 5 [0,3,4,12] [(0,.v (.slice A code.length cap)),(3,.v (.int .i64 h)),(4,.v (.int .i64 (i : Int))),(12,.v (.bool (decide ((i : Int) < ((code.length : Nat) : Int)))))] (by kernel_rfl) ?_
  refine xl_split 12 (b := decide ((i : Int) < ((code.length : Nat) : Int))) (by kernel_rfl) (fun h1 => ?_) (fun h1 => ?_)
  have h1p : ((i : Int) < ((code.length : Nat) : Int)) := of_decide_eq_true h1
  have hlt : i < code.length := by simpa using h1
  obtain ⟨z,hz⟩ : ∃ z,code[i]? = some z := ⟨_,List.getElem?_eq_getElem hlt⟩
  refine xl_endS [0,3,4,13,14,15] [(0,.v (.slice A code.length cap)),(3,.v (.int .i64 h)),(4,.v (.int .i64 (i : Int))),(13,.v (.int .i64 (i : Int))),(14,.v (.bool (decide ((i : Int) < 4000)))),(15,.v (.bool (decide ((i : Int) < 4000))))] (by kernel_rfl) ?_
  refine xw_cond (b := decide ((i : Int) < 4000)) (by kernel_rfl) (fun h2 => ?_) (fun h2 => ?_)
  have h2p : ((i : Int) < 4000) := of_decide_eq_true h2
  refine xw_skip ?_
  refine xw_seq ?_
  refine xw_block ?_
  refine xw_region ?_
  refine xl_indexS (kd := .i64) (T := 22) (e := 5) (K := 1) 4 [0,3,4,13,14,19,20,21] [(0,.v (.slice A code.length cap)),(3,.v (.int .i64 h)),(4,.v (.int .i64 (i : Int))),(13,.v (.int .i64 (i : Int))),(14,.v (.bool (decide ((i : Int) < 4000)))),(19,.v (.int .i64 (IntKind.i64.wrap (h * 131)))),(20,.v (.slice A code.length cap)),(21,.v (.int .i64 (i : Int)))] i [.int .u8 z] (slF (.slice A code.length cap) 1 (code.map byteRow)) (by kernel_rfl) rfl (by kernel_rfl) rfl rfl (by kernel_rfl) (by kernel_rfl) (by kernel_rfl) (by kernel_rfl) hlt (by simp) (fun w h => h) (fun b h => h) (by simp only [List.getElem?_map,hz]; rfl) ?_
  refine xl_endS [0,3,4,13,14] [(0,.v (.slice A code.length cap)),(3,.v (.int .i64 (IntKind.i64.wrap (BitVec.ofInt 64 (IntKind.i64.wrap ((IntKind.i64.wrap ((IntKind.i64.wrap (h * 131)) + (IntKind.i64.wrap z))) + 7)) &&& BitVec.ofInt 64 1073741823).toNat))),(4,.v (.int .i64 (i : Int))),(13,.v (.int .i64 (i : Int))),(14,.v (.bool (decide ((i : Int) < 4000))))] (by kernel_rfl) ?_
  refine xw_region ?_
  refine xl_runS 3 [0,3,4,13,14] [(0,.v (.slice A code.length cap)),(3,.v (.int .i64 (IntKind.i64.wrap (BitVec.ofInt 64 (IntKind.i64.wrap ((IntKind.i64.wrap ((IntKind.i64.wrap (h * 131)) + (IntKind.i64.wrap z))) + 7)) &&& BitVec.ofInt 64 1073741823).toNat))),(4,.v (.int .i64 (IntKind.i64.wrap ((i : Int) + 1)))),(13,.v (.int .i64 (i : Int))),(14,.v (.bool (decide ((i : Int) < 4000))))] (by kernel_rfl) ?_
  refine xl_eqS (t' := [(0,.v (.slice A code.length cap)),(3,.v (.int .i64 (IntKind.i64.wrap (BitVec.ofInt 64 (IntKind.i64.wrap ((IntKind.i64.wrap ((IntKind.i64.wrap (h * 131)) + (IntKind.i64.wrap z))) + 7)) &&& BitVec.ofInt 64 1073741823).toNat))),(4,.v (.int .i64 ((i : Int) + 1))),(13,.v (.int .i64 (i : Int))),(14,.v (.bool (decide ((i : Int) < 4000))))]) (by rw [show (IntKind.i64.wrap ((i : Int) + 1)) = ((i : Int) + 1) from wrap_id (by omega) (by omega)]) ?_
  refine xl_endS [0,3,4,13,14] [(0,.v (.slice A code.length cap)),(3,.v (.int .i64 (IntKind.i64.wrap (BitVec.ofInt 64 (IntKind.i64.wrap ((IntKind.i64.wrap ((IntKind.i64.wrap (h * 131)) + (IntKind.i64.wrap z))) + 7)) &&& BitVec.ofInt 64 1073741823).toNat))),(4,.v (.int .i64 ((i : Int) + 1))),(13,.v (.int .i64 (i : Int))),(14,.v (.bool (decide ((i : Int) < 4000))))] (by kernel_rfl) ?_
  exact ⟨⟨(i + 1,IntKind.i64.wrap (BitVec.ofInt 64 (IntKind.i64.wrap ((IntKind.i64.wrap ((IntKind.i64.wrap (h * 131)) + (IntKind.i64.wrap z))) + 7)) &&& BitVec.ofInt 64 1073741823).toNat),hlt⟩,wk_forget 0 0 [0,3,4] (by kernel_rfl) (by kernel_rfl) (by kernel_rfl),by show (fun (i : Nat) (h : Int) => code.length - i) (i + 1) (IntKind.i64.wrap (BitVec.ofInt 64 (IntKind.i64.wrap ((IntKind.i64.wrap ((IntKind.i64.wrap (h * 131)) + (IntKind.i64.wrap z))) + 7)) &&& BitVec.ofInt 64 1073741823).toNat) < code.length - i; (dsimp only; omega)⟩
  have h2p : ¬ ((i : Int) < 4000) := of_decide_eq_false h2
  refine xw_exit ?_
  refine xw_seq ?_
  refine xw_region ?_
  refine xl_opS 2 [28,29] [(28,.v (.slice A code.length cap)),(29,.v (.int .i64 h))] (.agg #[.slice A code.length cap,.int .i64 0,.int .i64 h]) (by kernel_rfl) rfl (by kernel_rfl) rfl (fun _ _ _ ww hr => act_build [(0,.slice A code.length cap),(2,.int .i64 h)] hr.1 rfl (by kernel_rfl) (by kernel_rfl) ww) ?_
  refine xl_end [2] ⟨[(2,.p 0 0)],[⟨95,[.slice A code.length cap,.int .i64 0,.int .i64 h]⟩],[],[slF (.slice A code.length cap) 1 (code.map byteRow)]⟩ (by kernel_rfl) ?_
  refine xw_pin ?_
  intro g hg hgn
  refine xw_ret ?_
  exact ⟨[.pointer (some ⟨g,0,none⟩)],by kernel_rfl,fun w' hb hf => ⟨⟨g,hgn _ (by simp)⟩,rfl,⟨hg,0,h,Nat.zero_le _,(hf (cellF w.heap.size g 95 [.slice A code.length cap,.int .i64 0,.int .i64 h]) (by simp)).2⟩,hb⟩⟩
  have h1p : ¬ ((i : Int) < ((code.length : Nat) : Int)) := of_decide_eq_false h1
  refine xl_endS [0,3,4,15] [(0,.v (.slice A code.length cap)),(3,.v (.int .i64 h)),(4,.v (.int .i64 (i : Int))),(15,.v (.bool false))] (by kernel_rfl) ?_
  refine xw_false (by kernel_rfl) ?_
  refine xw_exit ?_
  refine xw_seq ?_
  refine xw_region ?_
  refine xl_opS 2 [28,29] [(28,.v (.slice A code.length cap)),(29,.v (.int .i64 h))] (.agg #[.slice A code.length cap,.int .i64 0,.int .i64 h]) (by kernel_rfl) rfl (by kernel_rfl) rfl (fun _ _ _ ww hr => act_build [(0,.slice A code.length cap),(2,.int .i64 h)] hr.1 rfl (by kernel_rfl) (by kernel_rfl) ww) ?_
  refine xl_end [2] ⟨[(2,.p 0 0)],[⟨95,[.slice A code.length cap,.int .i64 0,.int .i64 h]⟩],[],[slF (.slice A code.length cap) 1 (code.map byteRow)]⟩ (by kernel_rfl) ?_
  refine xw_pin ?_
  intro g hg hgn
  refine xw_ret ?_
  exact ⟨[.pointer (some ⟨g,0,none⟩)],by kernel_rfl,fun w' hb hf => ⟨⟨g,hgn _ (by simp)⟩,rfl,⟨hg,0,h,Nat.zero_le _,(hf (cellF w.heap.size g 95 [.slice A code.length cap,.int .i64 0,.int .i64 h]) (by simp)).2⟩,hb⟩⟩
set_option maxHeartbeats 2000000 in
theorem l1Byte_c (g : Nat) (code : List Int) (A : Option Addr) (cap : Nat)  (w : World) (B : Nat) (hB : B ≤ w.heap.size) (hc : (curF B g 95 (.slice A code.length cap) code.length).p w) (hl : Sl w (.slice A code.length cap) 1 (code.map byteRow)) (hap : ¬ (slF (.slice A code.length cap) 1 (code.map byteRow)).blk g) (hn : code.length ≤ 1048576)  : Calls Try.prog 83 #[.pointer (some ⟨g, 0, none⟩)] w fun e w' => ∃ y : {y : Int // 0 ≤ y ∧ y ≤ 255}, e = .returned (.int .i64 y.1) ∧ (curF B g 95 (.slice A code.length cap) code.length).p w' ∧ Chgd (fun b => b = g) w w' := by
  have hq_code := Sl.capLe hl
  obtain ⟨hBg,i,h,hi,hg⟩ := hc
  refine x_callsM (args := [.pointer (some ⟨g,0,none⟩)]) (fn := Try.f83) [cellF B g 95 [.slice A code.length cap,.int .i64 (i : Int),.int .i64 h],slF (.slice A code.length cap) 1 (code.map byteRow),frF w (fun b => b = g)] B Try.func83 rfl Try.ntmps83 rfl hB (by simp only [List.mem_cons,List.not_mem_nil,or_false,forall_eq_or_imp,forall_eq]; exact ⟨⟨hBg,hg⟩,hl,frF_start w _⟩) (apart_cell hap rfl) ?_
  refine xw_seq ?_
  refine xw_region ?_
  refine xl_end [0] ⟨[(0,.v (.pointer (some ⟨g,0,none⟩)))],[],[],[cellF B g 95 [.slice A code.length cap,.int .i64 (i : Int),.int .i64 h],slF (.slice A code.length cap) 1 (code.map byteRow),frF w (fun b => b = g)]⟩ (by kernel_rfl) ?_
  refine xw_seq ?_
  refine xw_region ?_
  refine xl_opS 2 [0,4,5] [(0,.v (.pointer (some ⟨g,0,none⟩))),(4,.v (.pointer (some ⟨g,0,none⟩))),(5,.v (.pointer (some ⟨g,0,none⟩)))] (.pointer (some ⟨g,0,none⟩)) (by kernel_rfl) rfl (by kernel_rfl) rfl (fun _ _ _ ww hr => act_nil (b := g) (m := 0) hr.1 rfl (by kernel_rfl) ww) ?_
  refine xl_opS 0 [0,4,6] [(0,.v (.pointer (some ⟨g,0,none⟩))),(4,.v (.pointer (some ⟨g,0,none⟩))),(6,.v (.pointer (some ⟨g,0,none⟩)))] (.pointer (some ⟨g,2,none⟩)) (by kernel_rfl) rfl (by kernel_rfl) rfl (fun _ _ _ ww hr => act_fld (sz := 1) (b := g) (m := 0) hr.1 rfl Try.underlying95 rfl (by kernel_rfl) rfl (by kernel_rfl) rfl) ?_
  refine xl_opS 0 [0,4,7] [(0,.v (.pointer (some ⟨g,0,none⟩))),(4,.v (.pointer (some ⟨g,0,none⟩))),(7,.v (.pointer (some ⟨g,2,none⟩)))] (.int .i64 h) (by kernel_rfl) rfl (by kernel_rfl) rfl (fun _ _ _ ww hr => ldP_run (off := 2) (B := B) (g := g) (T := 95) (cs := [.slice A code.length cap,.int .i64 (i : Int),.int .i64 h]) hr rfl (by kernel_rfl) (by simp) (by kernel_rfl)) ?_
  refine xl_opS 2 [0,4,10] [(0,.v (.pointer (some ⟨g,0,none⟩))),(4,.v (.pointer (some ⟨g,0,none⟩))),(10,.v (.int .i64 (IntKind.i64.wrap ((IntKind.i64.wrap (h * 6364136223846793005)) + 1442695040888963407))))] (.pointer (some ⟨g,0,none⟩)) (by kernel_rfl) rfl (by kernel_rfl) rfl (fun _ _ _ ww hr => act_nil (b := g) (m := 0) hr.1 rfl (by kernel_rfl) ww) ?_
  refine xl_opS 0 [0,10,11] [(0,.v (.pointer (some ⟨g,0,none⟩))),(10,.v (.int .i64 (IntKind.i64.wrap ((IntKind.i64.wrap (h * 6364136223846793005)) + 1442695040888963407)))),(11,.v (.pointer (some ⟨g,0,none⟩)))] (.pointer (some ⟨g,2,none⟩)) (by kernel_rfl) rfl (by kernel_rfl) rfl (fun _ _ _ ww hr => act_fld (sz := 1) (b := g) (m := 0) hr.1 rfl Try.underlying95 rfl (by kernel_rfl) rfl (by kernel_rfl) rfl) ?_
  refine xl_hs 0 [0,10,12] ⟨[(0,.v (.pointer (some ⟨g,0,none⟩))),(10,.v (.int .i64 (IntKind.i64.wrap ((IntKind.i64.wrap (h * 6364136223846793005)) + 1442695040888963407)))),(12,.v (.pointer (some ⟨g,2,none⟩)))],[],[],[cellF B g 95 [.slice A code.length cap,.int .i64 (i : Int),.int .i64 h],slF (.slice A code.length cap) 1 (code.map byteRow),frF w (fun b => b = g)]⟩ (by kernel_rfl) rfl (by kernel_rfl) rfl (by kernel_rfl) (hs_stP (g := g) (T := 95) (off := 2) (v := (.int .i64 (IntKind.i64.wrap ((IntKind.i64.wrap (h * 6364136223846793005)) + 1442695040888963407)))) (i := 0) (B := B) (cs := [.slice A code.length cap,.int .i64 (i : Int),.int .i64 h]) [.int .i64 (IntKind.i64.wrap ((IntKind.i64.wrap (h * 6364136223846793005)) + 1442695040888963407))] (cs' := [.slice A code.length cap,.int .i64 (i : Int),.int .i64 (IntKind.i64.wrap ((IntKind.i64.wrap (h * 6364136223846793005)) + 1442695040888963407))]) rfl (by kernel_rfl) (by kernel_rfl) rfl (by kernel_rfl) rfl (by kernel_rfl) rfl rfl (cutW_le w B)) ?_
  refine xl_endS [0] [(0,.v (.pointer (some ⟨g,0,none⟩)))] (by kernel_rfl) ?_
  refine xw_seq ?_
  refine xws_start ?_
  refine xws_cell (B := B) (g := g) (T := 95) (cs := [.slice A code.length cap,.int .i64 (i : Int),.int .i64 (IntKind.i64.wrap ((IntKind.i64.wrap (h * 6364136223846793005)) + 1442695040888963407))]) (fun _ _ h => h) (by simp) ?_
  refine xws_regionE [] (by kernel_rfl) (fun ρ σ hq1 => ?_)
  refine xe_tkS [0,5] [18,13,0] 11 [(18,.v (.pointer (some ⟨g,0,none⟩))),(13,.v (.pointer (some ⟨g,0,none⟩))),(0,.v (.pointer (some ⟨g,0,none⟩)))] (fun _ _ h => h) rfl (by kernel_rfl) ?_
  refine xe_op 1 (.pointer (some ⟨g,0,none⟩)) _ rfl (by kernel_rfl) (by kernel_rfl) (by kernel_rfl) (fun _ _ h => h) (by kernel_rfl) rfl (fun _ _ ww hA => act_nil (b := g) (m := 0) hA rfl (by kernel_rfl) ww) rfl ?_
  refine xe_op 2 (.pointer (some ⟨g,2,none⟩)) _ rfl (by kernel_rfl) (by kernel_rfl) (by kernel_rfl) (fun _ _ h => h) (by kernel_rfl) rfl (fun _ _ ww hA => act_fld (sz := 1) (b := g) (m := 0) hA rfl Try.underlying95 rfl (by kernel_rfl) rfl (by kernel_rfl) rfl) rfl ?_
  refine xe_opH 3 (.int .i64 (IntKind.i64.wrap ((IntKind.i64.wrap (h * 6364136223846793005)) + 1442695040888963407))) _ rfl (by kernel_rfl) (by kernel_rfl) (by kernel_rfl) (fun _ _ h => h) (by kernel_rfl) rfl (fun _ _ ww hA hS => ld_range (g := g) (off := 2) (cs := [.slice A code.length cap,.int .i64 (i : Int),.int .i64 (IntKind.i64.wrap ((IntKind.i64.wrap (h * 6364136223846793005)) + 1442695040888963407))]) hA rfl (by kernel_rfl) (rd_row hS (h := 0) rfl hq1.2) (by kernel_rfl)) rfl ?_
  refine xe_op 4 (.int .i64 (Int.fdiv (IntKind.i64.wrap ((IntKind.i64.wrap (h * 6364136223846793005)) + 1442695040888963407)) (2 ^ (33 : Int).toNat))) _ rfl (by kernel_rfl) (by kernel_rfl) (by kernel_rfl) (fun _ _ h => h) (by kernel_rfl) rfl (fun _ _ ww hA => act_bin hA rfl (by kernel_rfl) (by kernel_rfl) (shr_run (k' := .u64) (by decide) (by decide) ww)) rfl ?_
  refine xe_op 6 (.pointer (some ⟨g,0,none⟩)) _ rfl (by kernel_rfl) (by kernel_rfl) (by kernel_rfl) (fun _ _ h => h) (by kernel_rfl) rfl (fun _ _ ww hA => act_nil (b := g) (m := 0) hA rfl (by kernel_rfl) ww) rfl ?_
  refine xe_op 7 (.pointer (some ⟨g,2,none⟩)) _ rfl (by kernel_rfl) (by kernel_rfl) (by kernel_rfl) (fun _ _ h => h) (by kernel_rfl) rfl (fun _ _ ww hA => act_fld (sz := 1) (b := g) (m := 0) hA rfl Try.underlying95 rfl (by kernel_rfl) rfl (by kernel_rfl) rfl) rfl ?_
  refine xe_opH 8 (.int .i64 (IntKind.i64.wrap ((IntKind.i64.wrap (h * 6364136223846793005)) + 1442695040888963407))) _ rfl (by kernel_rfl) (by kernel_rfl) (by kernel_rfl) (fun _ _ h => h) (by kernel_rfl) rfl (fun _ _ ww hA hS => ld_range (g := g) (off := 2) (cs := [.slice A code.length cap,.int .i64 (i : Int),.int .i64 (IntKind.i64.wrap ((IntKind.i64.wrap (h * 6364136223846793005)) + 1442695040888963407))]) hA rfl (by kernel_rfl) (rd_row hS (h := 0) rfl hq1.2) (by kernel_rfl)) rfl ?_
  refine xe_op 9 (.int .i64 (Int.fdiv (IntKind.i64.wrap ((IntKind.i64.wrap (h * 6364136223846793005)) + 1442695040888963407)) (2 ^ (45 : Int).toNat))) _ rfl (by kernel_rfl) (by kernel_rfl) (by kernel_rfl) (fun _ _ h => h) (by kernel_rfl) rfl (fun _ _ ww hA => act_bin hA rfl (by kernel_rfl) (by kernel_rfl) (shr_run (k' := .u64) (by decide) (by decide) ww)) rfl ?_
  refine xe_op 10 (.int .i64 (IntKind.i64.wrap (BitVec.ofInt 64 (Int.fdiv (IntKind.i64.wrap ((IntKind.i64.wrap (h * 6364136223846793005)) + 1442695040888963407)) (2 ^ (33 : Int).toNat)) ^^^ BitVec.ofInt 64 (Int.fdiv (IntKind.i64.wrap ((IntKind.i64.wrap (h * 6364136223846793005)) + 1442695040888963407)) (2 ^ (45 : Int).toNat))).toNat)) _ rfl (by kernel_rfl) (by kernel_rfl) (by kernel_rfl) (fun _ _ h => h) (by kernel_rfl) rfl (fun _ _ ww hA => act_bin hA rfl (by kernel_rfl) (by kernel_rfl) (xor_run ww)) rfl ?_
  refine xe_tkS [11,12] [3,0] 0 [(3,.v (.int .i64 (IntKind.i64.wrap (BitVec.ofInt 64 (IntKind.i64.wrap (BitVec.ofInt 64 (Int.fdiv (IntKind.i64.wrap ((IntKind.i64.wrap (h * 6364136223846793005)) + 1442695040888963407)) (2 ^ (33 : Int).toNat)) ^^^ BitVec.ofInt 64 (Int.fdiv (IntKind.i64.wrap ((IntKind.i64.wrap (h * 6364136223846793005)) + 1442695040888963407)) (2 ^ (45 : Int).toNat))).toNat) &&& BitVec.ofInt 64 255).toNat))),(0,.v (.pointer (some ⟨g,0,none⟩)))] (fun _ _ h => h) rfl (by kernel_rfl) ?_
  refine xe_done (by kernel_rfl) ?_
  refine xw_seq ?_
  refine xw_seq ?_
  refine xw_wk (wk_forget (s' := ⟨[(3,.v (.int .i64 (IntKind.i64.wrap (BitVec.ofInt 64 (IntKind.i64.wrap (BitVec.ofInt 64 (Int.fdiv (IntKind.i64.wrap ((IntKind.i64.wrap (h * 6364136223846793005)) + 1442695040888963407)) (2 ^ (33 : Int).toNat)) ^^^ BitVec.ofInt 64 (Int.fdiv (IntKind.i64.wrap ((IntKind.i64.wrap (h * 6364136223846793005)) + 1442695040888963407)) (2 ^ (45 : Int).toNat))).toNat) &&& BitVec.ofInt 64 255).toNat))),(0,.v (.pointer (some ⟨g,0,none⟩)))],[],[],[cellF B g 95 [.slice A code.length cap,.int .i64 (i : Int),.int .i64 (IntKind.i64.wrap ((IntKind.i64.wrap (h * 6364136223846793005)) + 1442695040888963407))],slF (.slice A code.length cap) 1 (code.map byteRow),frF w (fun b => b = g)]⟩) 0 0 [3,0] (by kernel_rfl) (by kernel_rfl) (by kernel_rfl)) ?_
  refine xws_start ?_
  refine xws_cell (B := B) (g := g) (T := 95) (cs := [.slice A code.length cap,.int .i64 (i : Int),.int .i64 (IntKind.i64.wrap ((IntKind.i64.wrap (h * 6364136223846793005)) + 1442695040888963407))]) (fun _ _ h => h) (by simp) ?_
  refine xws_regionE [] (by kernel_rfl) (fun ρ σ hq2 => ?_)
  refine xe_tkS [0,4] [29,25,3,0] 8 [(29,.v (.pointer (some ⟨g,0,none⟩))),(25,.v (.pointer (some ⟨g,0,none⟩))),(3,.v (.int .i64 (IntKind.i64.wrap (BitVec.ofInt 64 (IntKind.i64.wrap (BitVec.ofInt 64 (Int.fdiv (IntKind.i64.wrap ((IntKind.i64.wrap (h * 6364136223846793005)) + 1442695040888963407)) (2 ^ (33 : Int).toNat)) ^^^ BitVec.ofInt 64 (Int.fdiv (IntKind.i64.wrap ((IntKind.i64.wrap (h * 6364136223846793005)) + 1442695040888963407)) (2 ^ (45 : Int).toNat))).toNat) &&& BitVec.ofInt 64 255).toNat))),(0,.v (.pointer (some ⟨g,0,none⟩)))] (fun _ _ h => h) rfl (by kernel_rfl) ?_
  refine xe_op 1 (.pointer (some ⟨g,0,none⟩)) _ rfl (by kernel_rfl) (by kernel_rfl) (by kernel_rfl) (fun _ _ h => h) (by kernel_rfl) rfl (fun _ _ ww hA => act_nil (b := g) (m := 0) hA rfl (by kernel_rfl) ww) rfl ?_
  refine xe_op 2 (.pointer (some ⟨g,1,none⟩)) _ rfl (by kernel_rfl) (by kernel_rfl) (by kernel_rfl) (fun _ _ h => h) (by kernel_rfl) rfl (fun _ _ ww hA => act_fld (sz := 1) (b := g) (m := 0) hA rfl Try.underlying95 rfl (by kernel_rfl) rfl (by kernel_rfl) rfl) rfl ?_
  refine xe_opH 3 (.int .i64 (i : Int)) _ rfl (by kernel_rfl) (by kernel_rfl) (by kernel_rfl) (fun _ _ h => h) (by kernel_rfl) rfl (fun _ _ ww hA hS => ld_range (g := g) (off := 1) (cs := [.slice A code.length cap,.int .i64 (i : Int),.int .i64 (IntKind.i64.wrap ((IntKind.i64.wrap (h * 6364136223846793005)) + 1442695040888963407))]) hA rfl (by kernel_rfl) (rd_row hS (h := 0) rfl hq2.2) (by kernel_rfl)) rfl ?_
  refine xe_op 5 (.pointer (some ⟨g,0,none⟩)) _ rfl (by kernel_rfl) (by kernel_rfl) (by kernel_rfl) (fun _ _ h => h) (by kernel_rfl) rfl (fun _ _ ww hA => act_nil (b := g) (m := 0) hA rfl (by kernel_rfl) ww) rfl ?_
  refine xe_op 6 (.pointer (some ⟨g,0,none⟩)) _ rfl (by kernel_rfl) (by kernel_rfl) (by kernel_rfl) (fun _ _ h => h) (by kernel_rfl) rfl (fun _ _ ww hA => act_fld (sz := 1) (b := g) (m := 0) hA rfl Try.underlying95 rfl (by kernel_rfl) rfl (by kernel_rfl) rfl) rfl ?_
  refine xe_opH 7 (.slice A code.length cap) _ rfl (by kernel_rfl) (by kernel_rfl) (by kernel_rfl) (fun _ _ h => h) (by kernel_rfl) rfl (fun _ _ ww hA hS => ld_range (g := g) (off := 0) (cs := [.slice A code.length cap,.int .i64 (i : Int),.int .i64 (IntKind.i64.wrap ((IntKind.i64.wrap (h * 6364136223846793005)) + 1442695040888963407))]) hA rfl (by kernel_rfl) (rd_row hS (h := 0) rfl hq2.2) (by kernel_rfl)) rfl ?_
  refine xe_tkS [8,9] [34,3,0] 0 [(34,.v (.bool (decide ((i : Int) < ((code.length : Nat) : Int))))),(3,.v (.int .i64 (IntKind.i64.wrap (BitVec.ofInt 64 (IntKind.i64.wrap (BitVec.ofInt 64 (Int.fdiv (IntKind.i64.wrap ((IntKind.i64.wrap (h * 6364136223846793005)) + 1442695040888963407)) (2 ^ (33 : Int).toNat)) ^^^ BitVec.ofInt 64 (Int.fdiv (IntKind.i64.wrap ((IntKind.i64.wrap (h * 6364136223846793005)) + 1442695040888963407)) (2 ^ (45 : Int).toNat))).toNat) &&& BitVec.ofInt 64 255).toNat))),(0,.v (.pointer (some ⟨g,0,none⟩)))] (fun _ _ h => h) rfl (by kernel_rfl) ?_
  refine xe_done (by kernel_rfl) ?_
  refine xw_cond (b := decide ((i : Int) < ((code.length : Nat) : Int))) (by kernel_rfl) (fun h3 => ?_) (fun h3 => ?_)
  have h3p : ((i : Int) < ((code.length : Nat) : Int)) := of_decide_eq_true h3
  have hlt : i < code.length := by simpa using h3
  obtain ⟨z,hz⟩ : ∃ z,code[i]? = some z := ⟨_,List.getElem?_eq_getElem hlt⟩
  refine xw_seq ?_
  refine xw_wk (wk_forget (s' := ⟨[(34,.v (.bool (decide ((i : Int) < ((code.length : Nat) : Int))))),(3,.v (.int .i64 (IntKind.i64.wrap (BitVec.ofInt 64 (IntKind.i64.wrap (BitVec.ofInt 64 (Int.fdiv (IntKind.i64.wrap ((IntKind.i64.wrap (h * 6364136223846793005)) + 1442695040888963407)) (2 ^ (33 : Int).toNat)) ^^^ BitVec.ofInt 64 (Int.fdiv (IntKind.i64.wrap ((IntKind.i64.wrap (h * 6364136223846793005)) + 1442695040888963407)) (2 ^ (45 : Int).toNat))).toNat) &&& BitVec.ofInt 64 255).toNat))),(0,.v (.pointer (some ⟨g,0,none⟩)))],[],[],[cellF B g 95 [.slice A code.length cap,.int .i64 (i : Int),.int .i64 (IntKind.i64.wrap ((IntKind.i64.wrap (h * 6364136223846793005)) + 1442695040888963407))],slF (.slice A code.length cap) 1 (code.map byteRow),frF w (fun b => b = g)]⟩) 0 0 [34,3,0] (by kernel_rfl) (by kernel_rfl) (by kernel_rfl)) ?_
  refine xws_start ?_
  refine xws_row (K := 1) (j := i) [.int .u8 z] (slF (.slice A code.length cap) 1 (code.map byteRow)) (fun _ _ h => h) (by simp) (fun w h => h) (fun b h => h) (by simp only [List.getElem?_map,hz]; rfl) (fun bq4 offq4 hAq4 => ?_)
  refine xws_cell (B := B) (g := g) (T := 95) (cs := [.slice A code.length cap,.int .i64 (i : Int),.int .i64 (IntKind.i64.wrap ((IntKind.i64.wrap (h * 6364136223846793005)) + 1442695040888963407))]) (fun _ _ h => h) (by simp) ?_
  refine xws_regionE [] (by kernel_rfl) (fun ρ σ hq5 => ?_)
  refine xe_tkS [0,1,5] [40,36,35,3,0] 12 [(40,.v (.pointer (some ⟨g,0,none⟩))),(36,.v (.pointer (some ⟨g,0,none⟩))),(35,.v (.int .i64 (IntKind.i64.wrap (BitVec.ofInt 64 (IntKind.i64.wrap (BitVec.ofInt 64 (Int.fdiv (IntKind.i64.wrap ((IntKind.i64.wrap (h * 6364136223846793005)) + 1442695040888963407)) (2 ^ (33 : Int).toNat)) ^^^ BitVec.ofInt 64 (Int.fdiv (IntKind.i64.wrap ((IntKind.i64.wrap (h * 6364136223846793005)) + 1442695040888963407)) (2 ^ (45 : Int).toNat))).toNat) &&& BitVec.ofInt 64 255).toNat))),(3,.v (.int .i64 (IntKind.i64.wrap (BitVec.ofInt 64 (IntKind.i64.wrap (BitVec.ofInt 64 (Int.fdiv (IntKind.i64.wrap ((IntKind.i64.wrap (h * 6364136223846793005)) + 1442695040888963407)) (2 ^ (33 : Int).toNat)) ^^^ BitVec.ofInt 64 (Int.fdiv (IntKind.i64.wrap ((IntKind.i64.wrap (h * 6364136223846793005)) + 1442695040888963407)) (2 ^ (45 : Int).toNat))).toNat) &&& BitVec.ofInt 64 255).toNat))),(0,.v (.pointer (some ⟨g,0,none⟩)))] (fun _ _ h => h) rfl (by kernel_rfl) ?_
  refine xe_op 2 (.pointer (some ⟨g,0,none⟩)) _ rfl (by kernel_rfl) (by kernel_rfl) (by kernel_rfl) (fun _ _ h => h) (by kernel_rfl) rfl (fun _ _ ww hA => act_nil (b := g) (m := 0) hA rfl (by kernel_rfl) ww) rfl ?_
  refine xe_op 3 (.pointer (some ⟨g,0,none⟩)) _ rfl (by kernel_rfl) (by kernel_rfl) (by kernel_rfl) (fun _ _ h => h) (by kernel_rfl) rfl (fun _ _ ww hA => act_fld (sz := 1) (b := g) (m := 0) hA rfl Try.underlying95 rfl (by kernel_rfl) rfl (by kernel_rfl) rfl) rfl ?_
  refine xe_opH 4 (.slice A code.length cap) _ rfl (by kernel_rfl) (by kernel_rfl) (by kernel_rfl) (fun _ _ h => h) (by kernel_rfl) rfl (fun _ _ ww hA hS => ld_range (g := g) (off := 0) (cs := [.slice A code.length cap,.int .i64 (i : Int),.int .i64 (IntKind.i64.wrap ((IntKind.i64.wrap (h * 6364136223846793005)) + 1442695040888963407))]) hA rfl (by kernel_rfl) (rd_row hS (h := 1) rfl hq5.2) (by kernel_rfl)) rfl ?_
  refine xe_op 6 (.pointer (some ⟨g,0,none⟩)) _ rfl (by kernel_rfl) (by kernel_rfl) (by kernel_rfl) (fun _ _ h => h) (by kernel_rfl) rfl (fun _ _ ww hA => act_nil (b := g) (m := 0) hA rfl (by kernel_rfl) ww) rfl ?_
  refine xe_op 7 (.pointer (some ⟨g,1,none⟩)) _ rfl (by kernel_rfl) (by kernel_rfl) (by kernel_rfl) (fun _ _ h => h) (by kernel_rfl) rfl (fun _ _ ww hA => act_fld (sz := 1) (b := g) (m := 0) hA rfl Try.underlying95 rfl (by kernel_rfl) rfl (by kernel_rfl) rfl) rfl ?_
  refine xe_opH 8 (.int .i64 (i : Int)) _ rfl (by kernel_rfl) (by kernel_rfl) (by kernel_rfl) (fun _ _ h => h) (by kernel_rfl) rfl (fun _ _ ww hA hS => ld_range (g := g) (off := 1) (cs := [.slice A code.length cap,.int .i64 (i : Int),.int .i64 (IntKind.i64.wrap ((IntKind.i64.wrap (h * 6364136223846793005)) + 1442695040888963407))]) hA rfl (by kernel_rfl) (rd_row hS (h := 1) rfl hq5.2) (by kernel_rfl)) rfl ?_
  refine xe_takeI (kd := .i64) (T := 22) (e := 5) (K := 1) (j := i) (A := A) (len := code.length) (cap := cap) 9 0 _ rfl (by kernel_rfl) (by kernel_rfl) (by kernel_rfl) (fun _ _ h => h) (by kernel_rfl) rfl rfl (by kernel_rfl) (by kernel_rfl) (by kernel_rfl) (by kernel_rfl) hlt hAq4 hq5.1.2 (by kernel_rfl) rfl ?_
  refine xe_tkS [10,11,12,13,14] [3,0] 0 [(3,.v (.int .i64 (IntKind.i64.wrap (BitVec.ofInt 64 (IntKind.i64.wrap ((IntKind.i64.wrap (BitVec.ofInt 64 (IntKind.i64.wrap (BitVec.ofInt 64 (Int.fdiv (IntKind.i64.wrap ((IntKind.i64.wrap (h * 6364136223846793005)) + 1442695040888963407)) (2 ^ (33 : Int).toNat)) ^^^ BitVec.ofInt 64 (Int.fdiv (IntKind.i64.wrap ((IntKind.i64.wrap (h * 6364136223846793005)) + 1442695040888963407)) (2 ^ (45 : Int).toNat))).toNat) &&& BitVec.ofInt 64 255).toNat) + (IntKind.i64.wrap z))) &&& BitVec.ofInt 64 255).toNat))),(0,.v (.pointer (some ⟨g,0,none⟩)))] (fun _ _ h => h) rfl (by kernel_rfl) ?_
  refine xe_done (by kernel_rfl) ?_
  refine xw_region ?_
  refine xl_opS 2 [3,49,50] [(3,.v (.int .i64 (IntKind.i64.wrap (BitVec.ofInt 64 (IntKind.i64.wrap ((IntKind.i64.wrap (BitVec.ofInt 64 (IntKind.i64.wrap (BitVec.ofInt 64 (Int.fdiv (IntKind.i64.wrap ((IntKind.i64.wrap (h * 6364136223846793005)) + 1442695040888963407)) (2 ^ (33 : Int).toNat)) ^^^ BitVec.ofInt 64 (Int.fdiv (IntKind.i64.wrap ((IntKind.i64.wrap (h * 6364136223846793005)) + 1442695040888963407)) (2 ^ (45 : Int).toNat))).toNat) &&& BitVec.ofInt 64 255).toNat) + (IntKind.i64.wrap z))) &&& BitVec.ofInt 64 255).toNat))),(49,.v (.pointer (some ⟨g,0,none⟩))),(50,.v (.pointer (some ⟨g,0,none⟩)))] (.pointer (some ⟨g,0,none⟩)) (by kernel_rfl) rfl (by kernel_rfl) rfl (fun _ _ _ ww hr => act_nil (b := g) (m := 0) hr.1 rfl (by kernel_rfl) ww) ?_
  refine xl_opS 0 [3,49,51] [(3,.v (.int .i64 (IntKind.i64.wrap (BitVec.ofInt 64 (IntKind.i64.wrap ((IntKind.i64.wrap (BitVec.ofInt 64 (IntKind.i64.wrap (BitVec.ofInt 64 (Int.fdiv (IntKind.i64.wrap ((IntKind.i64.wrap (h * 6364136223846793005)) + 1442695040888963407)) (2 ^ (33 : Int).toNat)) ^^^ BitVec.ofInt 64 (Int.fdiv (IntKind.i64.wrap ((IntKind.i64.wrap (h * 6364136223846793005)) + 1442695040888963407)) (2 ^ (45 : Int).toNat))).toNat) &&& BitVec.ofInt 64 255).toNat) + (IntKind.i64.wrap z))) &&& BitVec.ofInt 64 255).toNat))),(49,.v (.pointer (some ⟨g,0,none⟩))),(51,.v (.pointer (some ⟨g,0,none⟩)))] (.pointer (some ⟨g,1,none⟩)) (by kernel_rfl) rfl (by kernel_rfl) rfl (fun _ _ _ ww hr => act_fld (sz := 1) (b := g) (m := 0) hr.1 rfl Try.underlying95 rfl (by kernel_rfl) rfl (by kernel_rfl) rfl) ?_
  refine xl_opS 0 [3,49,52] [(3,.v (.int .i64 (IntKind.i64.wrap (BitVec.ofInt 64 (IntKind.i64.wrap ((IntKind.i64.wrap (BitVec.ofInt 64 (IntKind.i64.wrap (BitVec.ofInt 64 (Int.fdiv (IntKind.i64.wrap ((IntKind.i64.wrap (h * 6364136223846793005)) + 1442695040888963407)) (2 ^ (33 : Int).toNat)) ^^^ BitVec.ofInt 64 (Int.fdiv (IntKind.i64.wrap ((IntKind.i64.wrap (h * 6364136223846793005)) + 1442695040888963407)) (2 ^ (45 : Int).toNat))).toNat) &&& BitVec.ofInt 64 255).toNat) + (IntKind.i64.wrap z))) &&& BitVec.ofInt 64 255).toNat))),(49,.v (.pointer (some ⟨g,0,none⟩))),(52,.v (.pointer (some ⟨g,1,none⟩)))] (.int .i64 (i : Int)) (by kernel_rfl) rfl (by kernel_rfl) rfl (fun _ _ _ ww hr => ldP_run (off := 1) (B := B) (g := g) (T := 95) (cs := [.slice A code.length cap,.int .i64 (i : Int),.int .i64 (IntKind.i64.wrap ((IntKind.i64.wrap (h * 6364136223846793005)) + 1442695040888963407))]) hr rfl (by kernel_rfl) (by simp) (by kernel_rfl)) ?_
  refine xl_opS 1 [3,49,54] [(3,.v (.int .i64 (IntKind.i64.wrap (BitVec.ofInt 64 (IntKind.i64.wrap ((IntKind.i64.wrap (BitVec.ofInt 64 (IntKind.i64.wrap (BitVec.ofInt 64 (Int.fdiv (IntKind.i64.wrap ((IntKind.i64.wrap (h * 6364136223846793005)) + 1442695040888963407)) (2 ^ (33 : Int).toNat)) ^^^ BitVec.ofInt 64 (Int.fdiv (IntKind.i64.wrap ((IntKind.i64.wrap (h * 6364136223846793005)) + 1442695040888963407)) (2 ^ (45 : Int).toNat))).toNat) &&& BitVec.ofInt 64 255).toNat) + (IntKind.i64.wrap z))) &&& BitVec.ofInt 64 255).toNat))),(49,.v (.pointer (some ⟨g,0,none⟩))),(54,.v (.int .i64 (IntKind.i64.wrap ((i : Int) + 1))))] (.pointer (some ⟨g,0,none⟩)) (by kernel_rfl) rfl (by kernel_rfl) rfl (fun _ _ _ ww hr => act_nil (b := g) (m := 0) hr.1 rfl (by kernel_rfl) ww) ?_
  refine xl_opS 0 [3,54,55] [(3,.v (.int .i64 (IntKind.i64.wrap (BitVec.ofInt 64 (IntKind.i64.wrap ((IntKind.i64.wrap (BitVec.ofInt 64 (IntKind.i64.wrap (BitVec.ofInt 64 (Int.fdiv (IntKind.i64.wrap ((IntKind.i64.wrap (h * 6364136223846793005)) + 1442695040888963407)) (2 ^ (33 : Int).toNat)) ^^^ BitVec.ofInt 64 (Int.fdiv (IntKind.i64.wrap ((IntKind.i64.wrap (h * 6364136223846793005)) + 1442695040888963407)) (2 ^ (45 : Int).toNat))).toNat) &&& BitVec.ofInt 64 255).toNat) + (IntKind.i64.wrap z))) &&& BitVec.ofInt 64 255).toNat))),(54,.v (.int .i64 (IntKind.i64.wrap ((i : Int) + 1)))),(55,.v (.pointer (some ⟨g,0,none⟩)))] (.pointer (some ⟨g,1,none⟩)) (by kernel_rfl) rfl (by kernel_rfl) rfl (fun _ _ _ ww hr => act_fld (sz := 1) (b := g) (m := 0) hr.1 rfl Try.underlying95 rfl (by kernel_rfl) rfl (by kernel_rfl) rfl) ?_
  refine xl_hs 0 [3,54,56] ⟨[(3,.v (.int .i64 (IntKind.i64.wrap (BitVec.ofInt 64 (IntKind.i64.wrap ((IntKind.i64.wrap (BitVec.ofInt 64 (IntKind.i64.wrap (BitVec.ofInt 64 (Int.fdiv (IntKind.i64.wrap ((IntKind.i64.wrap (h * 6364136223846793005)) + 1442695040888963407)) (2 ^ (33 : Int).toNat)) ^^^ BitVec.ofInt 64 (Int.fdiv (IntKind.i64.wrap ((IntKind.i64.wrap (h * 6364136223846793005)) + 1442695040888963407)) (2 ^ (45 : Int).toNat))).toNat) &&& BitVec.ofInt 64 255).toNat) + (IntKind.i64.wrap z))) &&& BitVec.ofInt 64 255).toNat))),(54,.v (.int .i64 (IntKind.i64.wrap ((i : Int) + 1)))),(56,.v (.pointer (some ⟨g,1,none⟩)))],[],[[.int .u8 z],[.slice A code.length cap,.int .i64 (i : Int),.int .i64 (IntKind.i64.wrap ((IntKind.i64.wrap (h * 6364136223846793005)) + 1442695040888963407))]],[cellF B g 95 [.slice A code.length cap,.int .i64 (i : Int),.int .i64 (IntKind.i64.wrap ((IntKind.i64.wrap (h * 6364136223846793005)) + 1442695040888963407))],slF (.slice A code.length cap) 1 (code.map byteRow),frF w (fun b => b = g)]⟩ (by kernel_rfl) rfl (by kernel_rfl) rfl (by kernel_rfl) (hs_stP (g := g) (T := 95) (off := 1) (v := (.int .i64 (IntKind.i64.wrap ((i : Int) + 1)))) (i := 0) (B := B) (cs := [.slice A code.length cap,.int .i64 (i : Int),.int .i64 (IntKind.i64.wrap ((IntKind.i64.wrap (h * 6364136223846793005)) + 1442695040888963407))]) [.int .i64 (IntKind.i64.wrap ((i : Int) + 1))] (cs' := [.slice A code.length cap,.int .i64 (IntKind.i64.wrap ((i : Int) + 1)),.int .i64 (IntKind.i64.wrap ((IntKind.i64.wrap (h * 6364136223846793005)) + 1442695040888963407))]) rfl (by kernel_rfl) (by kernel_rfl) rfl (by kernel_rfl) rfl (by kernel_rfl) rfl rfl (cutW_le w B)) ?_
  refine xl_endS [3] [(3,.v (.int .i64 (IntKind.i64.wrap (BitVec.ofInt 64 (IntKind.i64.wrap ((IntKind.i64.wrap (BitVec.ofInt 64 (IntKind.i64.wrap (BitVec.ofInt 64 (Int.fdiv (IntKind.i64.wrap ((IntKind.i64.wrap (h * 6364136223846793005)) + 1442695040888963407)) (2 ^ (33 : Int).toNat)) ^^^ BitVec.ofInt 64 (Int.fdiv (IntKind.i64.wrap ((IntKind.i64.wrap (h * 6364136223846793005)) + 1442695040888963407)) (2 ^ (45 : Int).toNat))).toNat) &&& BitVec.ofInt 64 255).toNat) + (IntKind.i64.wrap z))) &&& BitVec.ofInt 64 255).toNat)))] (by kernel_rfl) ?_
  refine xw_seq ?_
  refine xw_region ?_
  refine xl_endS [2] [(2,.v (.int .i64 (IntKind.i64.wrap (BitVec.ofInt 64 (IntKind.i64.wrap ((IntKind.i64.wrap (BitVec.ofInt 64 (IntKind.i64.wrap (BitVec.ofInt 64 (Int.fdiv (IntKind.i64.wrap ((IntKind.i64.wrap (h * 6364136223846793005)) + 1442695040888963407)) (2 ^ (33 : Int).toNat)) ^^^ BitVec.ofInt 64 (Int.fdiv (IntKind.i64.wrap ((IntKind.i64.wrap (h * 6364136223846793005)) + 1442695040888963407)) (2 ^ (45 : Int).toNat))).toNat) &&& BitVec.ofInt 64 255).toNat) + (IntKind.i64.wrap z))) &&& BitVec.ofInt 64 255).toNat)))] (by kernel_rfl) ?_
  refine xw_ret ?_
  exact ⟨[.int .i64 (IntKind.i64.wrap (BitVec.ofInt 64 (IntKind.i64.wrap ((IntKind.i64.wrap (BitVec.ofInt 64 (IntKind.i64.wrap (BitVec.ofInt 64 (Int.fdiv (IntKind.i64.wrap ((IntKind.i64.wrap (h * 6364136223846793005)) + 1442695040888963407)) (2 ^ (33 : Int).toNat)) ^^^ BitVec.ofInt 64 (Int.fdiv (IntKind.i64.wrap ((IntKind.i64.wrap (h * 6364136223846793005)) + 1442695040888963407)) (2 ^ (45 : Int).toNat))).toNat) &&& BitVec.ofInt 64 255).toNat) + (IntKind.i64.wrap z))) &&& BitVec.ofInt 64 255).toNat)],by kernel_rfl,fun w' hb hf => ⟨⟨IntKind.i64.wrap (BitVec.ofInt 64 (IntKind.i64.wrap ((IntKind.i64.wrap (BitVec.ofInt 64 (IntKind.i64.wrap (BitVec.ofInt 64 (Int.fdiv (IntKind.i64.wrap ((IntKind.i64.wrap (h * 6364136223846793005)) + 1442695040888963407)) (2 ^ (33 : Int).toNat)) ^^^ BitVec.ofInt 64 (Int.fdiv (IntKind.i64.wrap ((IntKind.i64.wrap (h * 6364136223846793005)) + 1442695040888963407)) (2 ^ (45 : Int).toNat))).toNat) &&& BitVec.ofInt 64 255).toNat) + (IntKind.i64.wrap z))) &&& BitVec.ofInt 64 255).toNat,and255 _⟩,rfl,⟨hBg,i + 1,IntKind.i64.wrap ((IntKind.i64.wrap (h * 6364136223846793005)) + 1442695040888963407),by omega,by have := (hf (cellF B g 95 [.slice A code.length cap,.int .i64 (IntKind.i64.wrap ((i : Int) + 1)),.int .i64 (IntKind.i64.wrap ((IntKind.i64.wrap (h * 6364136223846793005)) + 1442695040888963407))]) (by simp)).2; rw [show IntKind.i64.wrap ((i : Int) + 1) = ((i + 1 : Nat) : Int) from by rw [wrap_id (by omega) (by omega)]; omega] at this; exact this⟩,frF_chgd (hf (frF w (fun b => b = g)) (by simp)) hb rfl rfl rfl⟩⟩
  have h3p : ¬ ((i : Int) < ((code.length : Nat) : Int)) := of_decide_eq_false h3
  refine xw_skip ?_
  refine xw_seq ?_
  refine xw_region ?_
  refine xl_endS [2] [(2,.v (.int .i64 (IntKind.i64.wrap (BitVec.ofInt 64 (IntKind.i64.wrap (BitVec.ofInt 64 (Int.fdiv (IntKind.i64.wrap ((IntKind.i64.wrap (h * 6364136223846793005)) + 1442695040888963407)) (2 ^ (33 : Int).toNat)) ^^^ BitVec.ofInt 64 (Int.fdiv (IntKind.i64.wrap ((IntKind.i64.wrap (h * 6364136223846793005)) + 1442695040888963407)) (2 ^ (45 : Int).toNat))).toNat) &&& BitVec.ofInt 64 255).toNat)))] (by kernel_rfl) ?_
  refine xw_ret ?_
  exact ⟨[.int .i64 (IntKind.i64.wrap (BitVec.ofInt 64 (IntKind.i64.wrap (BitVec.ofInt 64 (Int.fdiv (IntKind.i64.wrap ((IntKind.i64.wrap (h * 6364136223846793005)) + 1442695040888963407)) (2 ^ (33 : Int).toNat)) ^^^ BitVec.ofInt 64 (Int.fdiv (IntKind.i64.wrap ((IntKind.i64.wrap (h * 6364136223846793005)) + 1442695040888963407)) (2 ^ (45 : Int).toNat))).toNat) &&& BitVec.ofInt 64 255).toNat)],by kernel_rfl,fun w' hb hf => ⟨⟨IntKind.i64.wrap (BitVec.ofInt 64 (IntKind.i64.wrap (BitVec.ofInt 64 (Int.fdiv (IntKind.i64.wrap ((IntKind.i64.wrap (h * 6364136223846793005)) + 1442695040888963407)) (2 ^ (33 : Int).toNat)) ^^^ BitVec.ofInt 64 (Int.fdiv (IntKind.i64.wrap ((IntKind.i64.wrap (h * 6364136223846793005)) + 1442695040888963407)) (2 ^ (45 : Int).toNat))).toNat) &&& BitVec.ofInt 64 255).toNat,and255 _⟩,rfl,⟨hBg,i,IntKind.i64.wrap ((IntKind.i64.wrap (h * 6364136223846793005)) + 1442695040888963407),hi,(hf (cellF B g 95 [.slice A code.length cap,.int .i64 (i : Int),.int .i64 (IntKind.i64.wrap ((IntKind.i64.wrap (h * 6364136223846793005)) + 1442695040888963407))]) (by simp)).2⟩,frF_chgd (hf (frF w (fun b => b = g)) (by simp)) hb rfl rfl rfl⟩⟩
set_option maxHeartbeats 2000000 in
theorem l1Below_c (g : Nat) (code : List Int) (A : Option Addr) (cap : Nat) (n : Int) (w : World) (B : Nat) (hB : B ≤ w.heap.size) (hc : (curF B g 95 (.slice A code.length cap) code.length).p w) (hl : Sl w (.slice A code.length cap) 1 (code.map byteRow)) (hap : ¬ (slF (.slice A code.length cap) 1 (code.map byteRow)).blk g) (hn : code.length ≤ 1048576)  : Calls Try.prog 75 #[.pointer (some ⟨g, 0, none⟩), .int .i64 n] w fun e w' => ∃ y : {y : Int // 0 ≤ y ∧ (0 < n → y < n)}, e = .returned (.int .i64 y.1) ∧ (curF B g 95 (.slice A code.length cap) code.length).p w' ∧ Chgd (fun b => b = g) w w' := by
  have hq_code := Sl.capLe hl
  refine x_callsM (args := [.pointer (some ⟨g,0,none⟩),.int .i64 n]) (fn := Try.f75) [curF B g 95 (.slice A code.length cap) code.length,slF (.slice A code.length cap) 1 (code.map byteRow),frF w (fun b => b = g)] B Try.func75 rfl Try.ntmps75 rfl hB (by simp only [List.mem_cons,List.not_mem_nil,or_false,forall_eq_or_imp,forall_eq]; exact ⟨hc,hl,frF_start w _⟩) (apart_cur hap rfl) ?_
  refine xw_seq ?_
  refine xw_region ?_
  refine xl_end [0,1] ⟨[(0,.v (.pointer (some ⟨g,0,none⟩))),(1,.v (.int .i64 n))],[],[],[curF B g 95 (.slice A code.length cap) code.length,slF (.slice A code.length cap) 1 (code.map byteRow),frF w (fun b => b = g)]⟩ (by kernel_rfl) ?_
  refine xw_seq ?_
  refine xw_seq ?_
  refine xw_region ?_
  refine xl_endS [0,1,10] [(0,.v (.pointer (some ⟨g,0,none⟩))),(1,.v (.int .i64 n)),(10,.v (.bool (decide (n ≤ 0))))] (by kernel_rfl) ?_
  refine xw_cond (b := decide (n ≤ 0)) (by kernel_rfl) (fun h1 => ?_) (fun h1 => ?_)
  have h1p : (n ≤ 0) := of_decide_eq_true h1
  refine xw_seq ?_
  refine xw_region ?_
  refine xl_endS [4] [(4,.v (.int .i64 0))] (by kernel_rfl) ?_
  refine xw_ret ?_
  exact ⟨[.int .i64 0],by kernel_rfl,fun w' hb hf => ⟨⟨0,(by first | (exact ⟨by omega,fun _ => by omega⟩) | (exact tmod_bd (by omega) (by omega)))⟩,rfl,hf (curF B g 95 (.slice A code.length cap) code.length) (by simp),frF_chgd (hf (frF w (fun b => b = g)) (by simp)) hb rfl rfl rfl⟩⟩
  have h1p : ¬ (n ≤ 0) := of_decide_eq_false h1
  refine xw_skip ?_
  refine xw_seq ?_
  refine xw_seq ?_
  refine xw_region ?_
  refine xl_endS [0,1,12] [(0,.v (.pointer (some ⟨g,0,none⟩))),(1,.v (.int .i64 n)),(12,.v (.bool (decide (n ≤ 256))))] (by kernel_rfl) ?_
  refine xw_cond (b := decide (n ≤ 256)) (by kernel_rfl) (fun h2 => ?_) (fun h2 => ?_)
  have h2p : (n ≤ 256) := of_decide_eq_true h2
  refine xw_seq ?_
  refine xw_region ?_
  refine xl_callWS 1 [1,13] [(1,.v (.int .i64 n)),(13,.v (.pointer (some ⟨g,0,none⟩)))] 83 [.pointer (some ⟨g,0,none⟩)] (some 14) 0 (curF B g 95 (.slice A code.length cap) code.length) (by kernel_rfl) rfl (by kernel_rfl) rfl (by kernel_rfl) rfl rfl (fun ww b h hb => Nat.le_trans (cutW_le w B) (cur_lo h hb)) (by kernel_rfl) (xcm_cur fun ww hw hf => l1Byte_c g code A cap  ww B (Nat.le_trans (by first | exact Nat.le_refl _ | exact Nat.le_of_eq (cutW_size hB).symm) hw) (hf (curF B g 95 (.slice A code.length cap) code.length) (by simp)) (hf (slF (.slice A code.length cap) 1 (code.map byteRow)) (by simp)) hap (by omega)  ) ?_
  rintro ⟨y3,hy3⟩
  refine xl_opS 1 [14,15] [(14,.v (.int .i64 y3)),(15,.v (.int .i64 n))] (.int .i64 (Int.tmod y3 n)) (by kernel_rfl) rfl (by kernel_rfl) rfl (fun _ _ _ ww hr => act_bin hr.1 rfl (by kernel_rfl) (by kernel_rfl) (rem_run (by first | decide | omega) ww)) ?_
  refine xl_endS [4] [(4,.v (.int .i64 (Int.tmod y3 n)))] (by kernel_rfl) ?_
  refine xw_ret ?_
  exact ⟨[.int .i64 (Int.tmod y3 n)],by kernel_rfl,fun w' hb hf => ⟨⟨Int.tmod y3 n,(by first | (exact ⟨by omega,fun _ => by omega⟩) | (exact tmod_bd (by omega) (by omega)))⟩,rfl,hf (curF B g 95 (.slice A code.length cap) code.length) (by simp),frF_chgd (hf (frF w (fun b => b = g)) (by simp)) hb rfl rfl rfl⟩⟩
  have h2p : ¬ (n ≤ 256) := of_decide_eq_false h2
  refine xw_skip ?_
  refine xw_seq ?_
  refine xw_region ?_
  refine xl_callWS 1 [0,1,17] [(0,.v (.pointer (some ⟨g,0,none⟩))),(1,.v (.int .i64 n)),(17,.v (.pointer (some ⟨g,0,none⟩)))] 83 [.pointer (some ⟨g,0,none⟩)] (some 18) 0 (curF B g 95 (.slice A code.length cap) code.length) (by kernel_rfl) rfl (by kernel_rfl) rfl (by kernel_rfl) rfl rfl (fun ww b h hb => Nat.le_trans (cutW_le w B) (cur_lo h hb)) (by kernel_rfl) (xcm_cur fun ww hw hf => l1Byte_c g code A cap  ww B (Nat.le_trans (by first | exact Nat.le_refl _ | exact Nat.le_of_eq (cutW_size hB).symm) hw) (hf (curF B g 95 (.slice A code.length cap) code.length) (by simp)) (hf (slF (.slice A code.length cap) 1 (code.map byteRow)) (by simp)) hap (by omega)  ) ?_
  rintro ⟨y4,hy4⟩
  refine xl_endS [0,1,5] [(0,.v (.pointer (some ⟨g,0,none⟩))),(1,.v (.int .i64 n)),(5,.v (.int .i64 y4))] (by kernel_rfl) ?_
  refine xw_seq ?_
  refine xw_region ?_
  refine xl_callWS 1 [0,1,5,19] [(0,.v (.pointer (some ⟨g,0,none⟩))),(1,.v (.int .i64 n)),(5,.v (.int .i64 y4)),(19,.v (.pointer (some ⟨g,0,none⟩)))] 83 [.pointer (some ⟨g,0,none⟩)] (some 20) 0 (curF B g 95 (.slice A code.length cap) code.length) (by kernel_rfl) rfl (by kernel_rfl) rfl (by kernel_rfl) rfl rfl (fun ww b h hb => Nat.le_trans (cutW_le w B) (cur_lo h hb)) (by kernel_rfl) (xcm_cur fun ww hw hf => l1Byte_c g code A cap  ww B (Nat.le_trans (by first | exact Nat.le_refl _ | exact Nat.le_of_eq (cutW_size hB).symm) hw) (hf (curF B g 95 (.slice A code.length cap) code.length) (by simp)) (hf (slF (.slice A code.length cap) 1 (code.map byteRow)) (by simp)) hap (by omega)  ) ?_
  rintro ⟨y5,hy5⟩
  refine xl_endS [0,1,5,6] [(0,.v (.pointer (some ⟨g,0,none⟩))),(1,.v (.int .i64 n)),(5,.v (.int .i64 y4)),(6,.v (.int .i64 y5))] (by kernel_rfl) ?_
  refine xw_seq ?_
  refine xw_region ?_
  refine xl_callWS 1 [0,1,5,6,21] [(0,.v (.pointer (some ⟨g,0,none⟩))),(1,.v (.int .i64 n)),(5,.v (.int .i64 y4)),(6,.v (.int .i64 y5)),(21,.v (.pointer (some ⟨g,0,none⟩)))] 83 [.pointer (some ⟨g,0,none⟩)] (some 22) 0 (curF B g 95 (.slice A code.length cap) code.length) (by kernel_rfl) rfl (by kernel_rfl) rfl (by kernel_rfl) rfl rfl (fun ww b h hb => Nat.le_trans (cutW_le w B) (cur_lo h hb)) (by kernel_rfl) (xcm_cur fun ww hw hf => l1Byte_c g code A cap  ww B (Nat.le_trans (by first | exact Nat.le_refl _ | exact Nat.le_of_eq (cutW_size hB).symm) hw) (hf (curF B g 95 (.slice A code.length cap) code.length) (by simp)) (hf (slF (.slice A code.length cap) 1 (code.map byteRow)) (by simp)) hap (by omega)  ) ?_
  rintro ⟨y6,hy6⟩
  refine xl_endS [0,1,5,6,7] [(0,.v (.pointer (some ⟨g,0,none⟩))),(1,.v (.int .i64 n)),(5,.v (.int .i64 y4)),(6,.v (.int .i64 y5)),(7,.v (.int .i64 y6))] (by kernel_rfl) ?_
  refine xw_seq ?_
  refine xw_region ?_
  refine xl_callWS 1 [1,5,6,7,23] [(1,.v (.int .i64 n)),(5,.v (.int .i64 y4)),(6,.v (.int .i64 y5)),(7,.v (.int .i64 y6)),(23,.v (.pointer (some ⟨g,0,none⟩)))] 83 [.pointer (some ⟨g,0,none⟩)] (some 24) 0 (curF B g 95 (.slice A code.length cap) code.length) (by kernel_rfl) rfl (by kernel_rfl) rfl (by kernel_rfl) rfl rfl (fun ww b h hb => Nat.le_trans (cutW_le w B) (cur_lo h hb)) (by kernel_rfl) (xcm_cur fun ww hw hf => l1Byte_c g code A cap  ww B (Nat.le_trans (by first | exact Nat.le_refl _ | exact Nat.le_of_eq (cutW_size hB).symm) hw) (hf (curF B g 95 (.slice A code.length cap) code.length) (by simp)) (hf (slF (.slice A code.length cap) 1 (code.map byteRow)) (by simp)) hap (by omega)  ) ?_
  rintro ⟨y7,hy7⟩
  refine xl_endS [1,5,6,7,8] [(1,.v (.int .i64 n)),(5,.v (.int .i64 y4)),(6,.v (.int .i64 y5)),(7,.v (.int .i64 y6)),(8,.v (.int .i64 y7))] (by kernel_rfl) ?_
  refine xw_seq ?_
  refine xw_region ?_
  refine xl_opS 11 [34,35] [(34,.v (.int .i64 (IntKind.i64.wrap ((IntKind.i64.wrap ((IntKind.i64.wrap ((IntKind.i64.wrap (y4 * 16777216)) + (IntKind.i64.wrap (y5 * 65536)))) + (IntKind.i64.wrap (y6 * 256)))) + y7)))),(35,.v (.int .i64 n))] (.int .i64 (Int.tmod (IntKind.i64.wrap ((IntKind.i64.wrap ((IntKind.i64.wrap ((IntKind.i64.wrap (y4 * 16777216)) + (IntKind.i64.wrap (y5 * 65536)))) + (IntKind.i64.wrap (y6 * 256)))) + y7)) n)) (by kernel_rfl) rfl (by kernel_rfl) rfl (fun _ _ _ ww hr => act_bin hr.1 rfl (by kernel_rfl) (by kernel_rfl) (rem_run (by first | decide | omega) ww)) ?_
  refine xl_runS 1 [4] [(4,.v (.int .i64 (Int.tmod (IntKind.i64.wrap ((IntKind.i64.wrap ((IntKind.i64.wrap ((IntKind.i64.wrap (y4 * 16777216)) + (IntKind.i64.wrap (y5 * 65536)))) + (IntKind.i64.wrap (y6 * 256)))) + y7)) n)))] (by kernel_rfl) ?_
  refine xl_eqS (t' := [(4,.v (.int .i64 (Int.tmod ((((y4 * 16777216) + (y5 * 65536)) + (y6 * 256)) + y7) n)))]) (by rw [show (IntKind.i64.wrap (y6 * 256)) = (y6 * 256) from wrap_id (by omega) (by omega),show (IntKind.i64.wrap (y5 * 65536)) = (y5 * 65536) from wrap_id (by omega) (by omega),show (IntKind.i64.wrap (y4 * 16777216)) = (y4 * 16777216) from wrap_id (by omega) (by omega),show (IntKind.i64.wrap ((y4 * 16777216) + (y5 * 65536))) = ((y4 * 16777216) + (y5 * 65536)) from wrap_id (by omega) (by omega),show (IntKind.i64.wrap (((y4 * 16777216) + (y5 * 65536)) + (y6 * 256))) = (((y4 * 16777216) + (y5 * 65536)) + (y6 * 256)) from wrap_id (by omega) (by omega),show (IntKind.i64.wrap ((((y4 * 16777216) + (y5 * 65536)) + (y6 * 256)) + y7)) = ((((y4 * 16777216) + (y5 * 65536)) + (y6 * 256)) + y7) from wrap_id (by omega) (by omega)]) ?_
  refine xl_endS [4] [(4,.v (.int .i64 (Int.tmod ((((y4 * 16777216) + (y5 * 65536)) + (y6 * 256)) + y7) n)))] (by kernel_rfl) ?_
  refine xw_ret ?_
  exact ⟨[.int .i64 (Int.tmod ((((y4 * 16777216) + (y5 * 65536)) + (y6 * 256)) + y7) n)],by kernel_rfl,fun w' hb hf => ⟨⟨Int.tmod ((((y4 * 16777216) + (y5 * 65536)) + (y6 * 256)) + y7) n,(by first | (exact ⟨by omega,fun _ => by omega⟩) | (exact tmod_bd (by omega) (by omega)))⟩,rfl,hf (curF B g 95 (.slice A code.length cap) code.length) (by simp),frF_chgd (hf (frF w (fun b => b = g)) (by simp)) hb rfl rfl rfl⟩⟩
set_option maxHeartbeats 2000000 in
theorem l1Once_c (g : Nat) (code : List Int) (A : Option Addr) (cap : Nat) (n : Int) (w : World) (B : Nat) (hB : B ≤ w.heap.size) (hc : (curF B g 95 (.slice A code.length cap) code.length).p w) (hl : Sl w (.slice A code.length cap) 1 (code.map byteRow)) (hap : ¬ (slF (.slice A code.length cap) 1 (code.map byteRow)).blk g) (hn : code.length ≤ 1048576)  : Calls Try.prog 66 #[.pointer (some ⟨g, 0, none⟩), .int .i64 n] w fun e w' => ∃ y : {y : Bool // True}, e = .returned (.bool y.1) ∧ (curF B g 95 (.slice A code.length cap) code.length).p w' ∧ Chgd (fun b => b = g) w w' := by
  have hq_code := Sl.capLe hl
  refine x_callsM (args := [.pointer (some ⟨g,0,none⟩),.int .i64 n]) (fn := Try.f66) [curF B g 95 (.slice A code.length cap) code.length,slF (.slice A code.length cap) 1 (code.map byteRow),frF w (fun b => b = g)] B Try.func66 rfl Try.ntmps66 rfl hB (by simp only [List.mem_cons,List.not_mem_nil,or_false,forall_eq_or_imp,forall_eq]; exact ⟨hc,hl,frF_start w _⟩) (apart_cur hap rfl) ?_
  refine xw_seq ?_
  refine xw_region ?_
  refine xl_end [0,1] ⟨[(0,.v (.pointer (some ⟨g,0,none⟩))),(1,.v (.int .i64 n))],[],[],[curF B g 95 (.slice A code.length cap) code.length,slF (.slice A code.length cap) 1 (code.map byteRow),frF w (fun b => b = g)]⟩ (by kernel_rfl) ?_
  refine xw_seq ?_
  refine xw_region ?_
  refine xl_callWS 2 [5,6] [(5,.v (.pointer (some ⟨g,0,none⟩))),(6,.v (.int .i64 n))] 75 [.pointer (some ⟨g,0,none⟩),.int .i64 n] (some 7) 0 (curF B g 95 (.slice A code.length cap) code.length) (by kernel_rfl) rfl (by kernel_rfl) rfl (by kernel_rfl) rfl rfl (fun ww b h hb => Nat.le_trans (cutW_le w B) (cur_lo h hb)) (by kernel_rfl) (xcm_cur fun ww hw hf => l1Below_c g code A cap n ww B (Nat.le_trans (by first | exact Nat.le_refl _ | exact Nat.le_of_eq (cutW_size hB).symm) hw) (hf (curF B g 95 (.slice A code.length cap) code.length) (by simp)) (hf (slF (.slice A code.length cap) 1 (code.map byteRow)) (by simp)) hap (by omega)  ) ?_
  rintro ⟨y1,hy1⟩
  obtain ⟨hy10,hy11⟩ := hy1
  refine xl_endS [4] [(4,.v (.bool (y1 == 0)))] (by kernel_rfl) ?_
  refine xw_ret ?_
  exact ⟨[.bool (y1 == 0)],by kernel_rfl,fun w' hb hf => ⟨⟨y1 == 0,trivial⟩,rfl,hf (curF B g 95 (.slice A code.length cap) code.length) (by simp),frF_chgd (hf (frF w (fun b => b = g)) (by simp)) hb rfl rfl rfl⟩⟩
set_option maxHeartbeats 2000000 in
theorem l1PickInt_c (g : Nat) (code : List Int) (A : Option Addr) (cap : Nat) (list : List Int) (listV : Value) (w : World) (B : Nat) (hB : B ≤ w.heap.size) (hc : (curF B g 95 (.slice A code.length cap) code.length).p w) (hl : Sl w (.slice A code.length cap) 1 (code.map byteRow)) (hap : ¬ (slF (.slice A code.length cap) 1 (code.map byteRow)).blk g) (hn : code.length ≤ 1048576) (hl_listV : Sl w listV 1 (list.map intRow)) (hap2 : ¬ (slF listV 1 (list.map intRow)).blk g) (hne : 0 < list.length) : Calls Try.prog 52 #[.pointer (some ⟨g, 0, none⟩), listV] w fun e w' => ∃ y : {y : Int // y ∈ list}, e = .returned (.int .i64 y.1) ∧ (curF B g 95 (.slice A code.length cap) code.length).p w' ∧ Chgd (fun b => b = g) w w' := by
  have hq_code := Sl.capLe hl
  obtain ⟨Al,Cl,hvl⟩ := hl_listV.form
  rw [List.length_map] at hvl; subst hvl
  have hnl := hl_listV.len; rw [List.length_map] at hnl
  have hql := Sl.capLe hl_listV
  refine x_callsM (args := [.pointer (some ⟨g,0,none⟩),.slice Al list.length Cl]) (fn := Try.f52) [curF B g 95 (.slice A code.length cap) code.length,slF (.slice A code.length cap) 1 (code.map byteRow),frF w (fun b => b = g),slF (.slice Al list.length Cl) 1 (list.map intRow)] B Try.func52 rfl Try.ntmps52 rfl hB (by simp only [List.mem_cons,List.not_mem_nil,or_false,forall_eq_or_imp,forall_eq]; exact ⟨hc,hl,frF_start w _,hl_listV⟩) (apart_cur2 hap rfl hap2 rfl) ?_
  refine xw_seq ?_
  refine xw_region ?_
  refine xl_end [0,1] ⟨[(0,.v (.pointer (some ⟨g,0,none⟩))),(1,.v (.slice Al list.length Cl))],[],[],[curF B g 95 (.slice A code.length cap) code.length,slF (.slice A code.length cap) 1 (code.map byteRow),frF w (fun b => b = g),slF (.slice Al list.length Cl) 1 (list.map intRow)]⟩ (by kernel_rfl) ?_
  refine xw_seq ?_
  refine xw_region ?_
  refine xl_callWS 4 [5,6,8] [(5,.v (.slice Al list.length Cl)),(6,.v (.pointer (some ⟨g,0,none⟩))),(8,.v (.int .i64 ((list.length : Nat) : Int)))] 75 [.pointer (some ⟨g,0,none⟩),.int .i64 ((list.length : Nat) : Int)] (some 9) 0 (curF B g 95 (.slice A code.length cap) code.length) (by kernel_rfl) rfl (by kernel_rfl) rfl (by kernel_rfl) rfl rfl (fun ww b h hb => Nat.le_trans (cutW_le w B) (cur_lo h hb)) (by kernel_rfl) (xcm_cur fun ww hw hf => l1Below_c g code A cap ((list.length : Nat) : Int) ww B (Nat.le_trans (by first | exact Nat.le_refl _ | exact Nat.le_of_eq (cutW_size hB).symm) hw) (hf (curF B g 95 (.slice A code.length cap) code.length) (by simp)) (hf (slF (.slice A code.length cap) 1 (code.map byteRow)) (by simp)) hap (by omega)  ) ?_
  rintro ⟨y1,hy1⟩
  obtain ⟨hy10,hy11⟩ := hy1
  obtain ⟨j2,hj2⟩ : ∃ j : Nat,y1 = (j : Int) := ⟨y1.toNat,by omega⟩
  subst hj2
  have hlt : j2 < list.length := by omega
  obtain ⟨z,hz⟩ : ∃ z,list[j2]? = some z := ⟨_,List.getElem?_eq_getElem hlt⟩
  refine xl_indexS (kd := .i64) (T := 77) (e := 3) (K := 1) 0 [5,9] [(5,.v (.slice Al list.length Cl)),(9,.v (.int .i64 (j2 : Int)))] j2 [.int .i64 z] (slF (.slice Al list.length Cl) 1 (list.map intRow)) (by kernel_rfl) rfl (by kernel_rfl) rfl rfl (by kernel_rfl) (by kernel_rfl) (by kernel_rfl) (by kernel_rfl) hlt (by simp) (fun w h => h) (fun b h => h) (by simp only [List.getElem?_map,hz]; rfl) ?_
  refine xl_endS [4] [(4,.v (.int .i64 z))] (by kernel_rfl) ?_
  refine xw_ret ?_
  exact ⟨[.int .i64 z],by kernel_rfl,fun w' hb hf => ⟨⟨z,List.mem_of_getElem? hz⟩,rfl,hf (curF B g 95 (.slice A code.length cap) code.length) (by simp),frF_chgd (hf (frF w (fun b => b = g)) (by simp)) hb rfl rfl rfl⟩⟩
set_option maxHeartbeats 2000000 in
theorem l1Whole_c (g : Nat) (code : List Int) (A : Option Addr) (cap : Nat)  (w : World) (B : Nat) (hB : B ≤ w.heap.size) (hc : (curF B g 95 (.slice A code.length cap) code.length).p w) (hl : Sl w (.slice A code.length cap) 1 (code.map byteRow)) (hap : ¬ (slF (.slice A code.length cap) 1 (code.map byteRow)).blk g) (hn : code.length ≤ 1048576)  : Calls Try.prog 79 #[.pointer (some ⟨g, 0, none⟩)] w fun e w' => ∃ y : {y : Int // True}, e = .returned (.int .i64 y.1) ∧ (curF B g 95 (.slice A code.length cap) code.length).p w' ∧ Chgd (fun b => b = g) w w' := by
  have hq_code := Sl.capLe hl
  refine x_callsM (args := [.pointer (some ⟨g,0,none⟩)]) (fn := Try.f79) [curF B g 95 (.slice A code.length cap) code.length,slF (.slice A code.length cap) 1 (code.map byteRow),frF w (fun b => b = g)] B Try.func79 rfl Try.ntmps79 rfl hB (by simp only [List.mem_cons,List.not_mem_nil,or_false,forall_eq_or_imp,forall_eq]; exact ⟨hc,hl,frF_start w _⟩) (apart_cur hap rfl) ?_
  refine xw_seq ?_
  refine xw_region ?_
  refine xl_end [0] ⟨[(0,.v (.pointer (some ⟨g,0,none⟩)))],[],[],[curF B g 95 (.slice A code.length cap) code.length,slF (.slice A code.length cap) 1 (code.map byteRow),frF w (fun b => b = g)]⟩ (by kernel_rfl) ?_
  refine xw_seq ?_
  refine xw_seq ?_
  refine xw_region ?_
  refine xl_callWS 1 [0,3] [(0,.v (.pointer (some ⟨g,0,none⟩))),(3,.v (.pointer (some ⟨g,0,none⟩)))] 75 [.pointer (some ⟨g,0,none⟩),.int .i64 3] (some 4) 0 (curF B g 95 (.slice A code.length cap) code.length) (by kernel_rfl) rfl (by kernel_rfl) rfl (by kernel_rfl) rfl rfl (fun ww b h hb => Nat.le_trans (cutW_le w B) (cur_lo h hb)) (by kernel_rfl) (xcm_cur fun ww hw hf => l1Below_c g code A cap 3 ww B (Nat.le_trans (by first | exact Nat.le_refl _ | exact Nat.le_of_eq (cutW_size hB).symm) hw) (hf (curF B g 95 (.slice A code.length cap) code.length) (by simp)) (hf (slF (.slice A code.length cap) 1 (code.map byteRow)) (by simp)) hap (by omega)  ) ?_
  rintro ⟨y1,hy1⟩
  obtain ⟨hy10,hy11⟩ := hy1
  refine xl_endS [0,4] [(0,.v (.pointer (some ⟨g,0,none⟩))),(4,.v (.int .i64 y1))] (by kernel_rfl) ?_
  refine xw_block ?_
  refine xw_seq ?_
  refine xw_region ?_
  refine xl_endS [0,4,5] [(0,.v (.pointer (some ⟨g,0,none⟩))),(4,.v (.int .i64 y1)),(5,.v (.bool (y1 == 0)))] (by kernel_rfl) ?_
  refine xw_cond (b := y1 == 0) (by kernel_rfl) (fun h2 => ?_) (fun h2 => ?_)
  have h2p := eqT h2
  refine xw_seq ?_
  refine xw_region ?_
  refine xl_hvS 1 [7] [(7,.v (.pointer (some ⟨g,0,none⟩)))] (by kernel_rfl) rfl (by kernel_rfl) rfl (by kernel_rfl) (hv_build (e := 3) (K := 1) (bytes := 8) [.int .i64 0,.int .i64 1,.int .i64 (-1),.int .i64 9,.int .i64 10,.int .i64 999999999999,.int .i64 1000000000000,.int .i64 9223372036854775807,.int .i64 4294967295,.int .i64 4294967296,.int .i64 65535,.int .i64 65536,.int .i64 (-9223372036854775808)] rfl (by kernel_rfl) (by kernel_rfl) (by kernel_rfl) (by kernel_rfl) (by kernel_rfl) (rs := ([0,1,(-1),9,10,999999999999,1000000000000,9223372036854775807,4294967295,4294967296,65535,65536,(-9223372036854775808)] : List Int).map intRow) rfl) ?_
  intro g3
  refine xl_know (φ := ¬ (slF (.slice (some ⟨g3,0,none⟩) 13 13) 1 (([0,1,(-1),9,10,999999999999,1000000000000,9223372036854775807,4294967295,4294967296,65535,65536,(-9223372036854775808)] : List Int).map intRow)).blk g) (fun _ _ _ _ hr => fun hb => hr.2.apart 0 1 (rowF (cutW w B).heap.size 3 1 (.slice (some ⟨g3,0,none⟩) 13 13) (([0,1,(-1),9,10,999999999999,1000000000000,9223372036854775807,4294967295,4294967296,65535,65536,(-9223372036854775808)] : List Int).map intRow)) (curF B g 95 (.slice A code.length cap) code.length) rfl rfl (by decide) rfl g (rowF_sblk hb) rfl) (fun hk4 => ?_)
  refine xl_callWS 0 [7,8] [(7,.v (.pointer (some ⟨g,0,none⟩))),(8,.v (.slice (some ⟨g3,0,none⟩) 13 13))] 52 [.pointer (some ⟨g,0,none⟩),.slice (some ⟨g3,0,none⟩) 13 13] (some 9) 1 (curF B g 95 (.slice A code.length cap) code.length) (by kernel_rfl) rfl (by kernel_rfl) rfl (by kernel_rfl) rfl rfl (fun ww b h hb => Nat.le_trans (cutW_le w B) (cur_lo h hb)) (by kernel_rfl) (xcm_cur fun ww hw hf => l1PickInt_c g code A cap ([0,1,(-1),9,10,999999999999,1000000000000,9223372036854775807,4294967295,4294967296,65535,65536,(-9223372036854775808)] : List Int) (.slice (some ⟨g3,0,none⟩) 13 13) ww B (Nat.le_trans (by first | exact Nat.le_refl _ | exact Nat.le_of_eq (cutW_size hB).symm) hw) (hf (curF B g 95 (.slice A code.length cap) code.length) (by simp)) (hf (slF (.slice A code.length cap) 1 (code.map byteRow)) (by simp)) hap (by omega) (rowF_sl (hf (rowF (cutW w B).heap.size 3 1 (.slice (some ⟨g3,0,none⟩) 13 13) (([0,1,(-1),9,10,999999999999,1000000000000,9223372036854775807,4294967295,4294967296,65535,65536,(-9223372036854775808)] : List Int).map intRow)) (by simp))) hk4 (by simp)) ?_
  rintro ⟨y5,hy5⟩
  refine xl_endS [2] [(2,.v (.int .i64 y5))] (by kernel_rfl) ?_
  refine xw_ret ?_
  exact ⟨[.int .i64 y5],by kernel_rfl,fun w' hb hf => ⟨⟨y5,trivial⟩,rfl,hf (curF B g 95 (.slice A code.length cap) code.length) (by simp),frF_chgd (hf (frF w (fun b => b = g)) (by simp)) hb rfl rfl rfl⟩⟩
  have h2p := eqF h2
  refine xw_seq ?_
  refine xw_region ?_
  refine xl_endS [0,10] [(0,.v (.pointer (some ⟨g,0,none⟩))),(10,.v (.bool (y1 == 1)))] (by kernel_rfl) ?_
  refine xw_cond (b := y1 == 1) (by kernel_rfl) (fun h6 => ?_) (fun h6 => ?_)
  have h6p := eqT h6
  refine xw_seq ?_
  refine xw_region ?_
  refine xl_callWS 1 [12] [(12,.v (.pointer (some ⟨g,0,none⟩)))] 75 [.pointer (some ⟨g,0,none⟩),.int .i64 1000000] (some 13) 0 (curF B g 95 (.slice A code.length cap) code.length) (by kernel_rfl) rfl (by kernel_rfl) rfl (by kernel_rfl) rfl rfl (fun ww b h hb => Nat.le_trans (cutW_le w B) (cur_lo h hb)) (by kernel_rfl) (xcm_cur fun ww hw hf => l1Below_c g code A cap 1000000 ww B (Nat.le_trans (by first | exact Nat.le_refl _ | exact Nat.le_of_eq (cutW_size hB).symm) hw) (hf (curF B g 95 (.slice A code.length cap) code.length) (by simp)) (hf (slF (.slice A code.length cap) 1 (code.map byteRow)) (by simp)) hap (by omega)  ) ?_
  rintro ⟨y7,hy7⟩
  obtain ⟨hy70,hy71⟩ := hy7
  refine xl_runS 2 [2] [(2,.v (.int .i64 (IntKind.i64.wrap (y7 - 500000))))] (by kernel_rfl) ?_
  refine xl_eqS (t' := [(2,.v (.int .i64 (y7 - 500000)))]) (by rw [show (IntKind.i64.wrap (y7 - 500000)) = (y7 - 500000) from wrap_id (by omega) (by omega)]) ?_
  refine xl_endS [2] [(2,.v (.int .i64 (y7 - 500000)))] (by kernel_rfl) ?_
  refine xw_ret ?_
  exact ⟨[.int .i64 (y7 - 500000)],by kernel_rfl,fun w' hb hf => ⟨⟨y7 - 500000,trivial⟩,rfl,hf (curF B g 95 (.slice A code.length cap) code.length) (by simp),frF_chgd (hf (frF w (fun b => b = g)) (by simp)) hb rfl rfl rfl⟩⟩
  have h6p := eqF h6
  refine xw_skip ?_
  refine xw_seq ?_
  refine xw_region ?_
  refine xl_callWS 1 [15] [(15,.v (.pointer (some ⟨g,0,none⟩)))] 75 [.pointer (some ⟨g,0,none⟩),.int .i64 20] (some 16) 0 (curF B g 95 (.slice A code.length cap) code.length) (by kernel_rfl) rfl (by kernel_rfl) rfl (by kernel_rfl) rfl rfl (fun ww b h hb => Nat.le_trans (cutW_le w B) (cur_lo h hb)) (by kernel_rfl) (xcm_cur fun ww hw hf => l1Below_c g code A cap 20 ww B (Nat.le_trans (by first | exact Nat.le_refl _ | exact Nat.le_of_eq (cutW_size hB).symm) hw) (hf (curF B g 95 (.slice A code.length cap) code.length) (by simp)) (hf (slF (.slice A code.length cap) 1 (code.map byteRow)) (by simp)) hap (by omega)  ) ?_
  rintro ⟨y8,hy8⟩
  obtain ⟨hy80,hy81⟩ := hy8
  refine xl_endS [2] [(2,.v (.int .i64 y8))] (by kernel_rfl) ?_
  refine xw_ret ?_
  exact ⟨[.int .i64 y8],by kernel_rfl,fun w' hb hf => ⟨⟨y8,trivial⟩,rfl,hf (curF B g 95 (.slice A code.length cap) code.length) (by simp),frF_chgd (hf (frF w (fun b => b = g)) (by simp)) hb rfl rfl rfl⟩⟩
set_option maxHeartbeats 2000000 in
theorem l2Word_c (g : Nat) (code : List Int) (A : Option Addr) (cap : Nat)  (w : World) (B : Nat) (hB : B ≤ w.heap.size) (hc : (curF B g 95 (.slice A code.length cap) code.length).p w) (hl : Sl w (.slice A code.length cap) 1 (code.map byteRow)) (hap : ¬ (slF (.slice A code.length cap) 1 (code.map byteRow)).blk g) (hn : code.length ≤ 1048576)  : Calls Try.prog 67 #[.pointer (some ⟨g, 0, none⟩)] w fun e w' => ∃ y : {y : Int // True}, e = .returned (.int .i64 y.1) ∧ (curF B g 95 (.slice A code.length cap) code.length).p w' ∧ Chgd (fun b => b = g) w w' := by
  have hq_code := Sl.capLe hl
  refine x_callsM (args := [.pointer (some ⟨g,0,none⟩)]) (fn := Try.f67) [curF B g 95 (.slice A code.length cap) code.length,slF (.slice A code.length cap) 1 (code.map byteRow),frF w (fun b => b = g)] B Try.func67 rfl Try.ntmps67 rfl hB (by simp only [List.mem_cons,List.not_mem_nil,or_false,forall_eq_or_imp,forall_eq]; exact ⟨hc,hl,frF_start w _⟩) (apart_cur hap rfl) ?_
  refine xw_seq ?_
  refine xw_region ?_
  refine xl_end [0] ⟨[(0,.v (.pointer (some ⟨g,0,none⟩)))],[],[],[curF B g 95 (.slice A code.length cap) code.length,slF (.slice A code.length cap) 1 (code.map byteRow),frF w (fun b => b = g)]⟩ (by kernel_rfl) ?_
  refine xw_seq ?_
  refine xw_seq ?_
  refine xw_region ?_
  refine xl_callWS 1 [0,3] [(0,.v (.pointer (some ⟨g,0,none⟩))),(3,.v (.pointer (some ⟨g,0,none⟩)))] 75 [.pointer (some ⟨g,0,none⟩),.int .i64 3] (some 4) 0 (curF B g 95 (.slice A code.length cap) code.length) (by kernel_rfl) rfl (by kernel_rfl) rfl (by kernel_rfl) rfl rfl (fun ww b h hb => Nat.le_trans (cutW_le w B) (cur_lo h hb)) (by kernel_rfl) (xcm_cur fun ww hw hf => l1Below_c g code A cap 3 ww B (Nat.le_trans (by first | exact Nat.le_refl _ | exact Nat.le_of_eq (cutW_size hB).symm) hw) (hf (curF B g 95 (.slice A code.length cap) code.length) (by simp)) (hf (slF (.slice A code.length cap) 1 (code.map byteRow)) (by simp)) hap (by omega)  ) ?_
  rintro ⟨y1,hy1⟩
  obtain ⟨hy10,hy11⟩ := hy1
  refine xl_endS [0,4] [(0,.v (.pointer (some ⟨g,0,none⟩))),(4,.v (.int .i64 y1))] (by kernel_rfl) ?_
  refine xw_block ?_
  refine xw_seq ?_
  refine xw_region ?_
  refine xl_endS [0,4,5] [(0,.v (.pointer (some ⟨g,0,none⟩))),(4,.v (.int .i64 y1)),(5,.v (.bool (y1 == 0)))] (by kernel_rfl) ?_
  refine xw_cond (b := y1 == 0) (by kernel_rfl) (fun h2 => ?_) (fun h2 => ?_)
  have h2p := eqT h2
  refine xw_seq ?_
  refine xw_region ?_
  refine xl_callWS 1 [7] [(7,.v (.pointer (some ⟨g,0,none⟩)))] 79 [.pointer (some ⟨g,0,none⟩)] (some 8) 0 (curF B g 95 (.slice A code.length cap) code.length) (by kernel_rfl) rfl (by kernel_rfl) rfl (by kernel_rfl) rfl rfl (fun ww b h hb => Nat.le_trans (cutW_le w B) (cur_lo h hb)) (by kernel_rfl) (xcm_cur fun ww hw hf => l1Whole_c g code A cap  ww B (Nat.le_trans (by first | exact Nat.le_refl _ | exact Nat.le_of_eq (cutW_size hB).symm) hw) (hf (curF B g 95 (.slice A code.length cap) code.length) (by simp)) (hf (slF (.slice A code.length cap) 1 (code.map byteRow)) (by simp)) hap (by omega)  ) ?_
  rintro ⟨y3,hy3⟩
  refine xl_endS [2] [(2,.v (.int .i64 y3))] (by kernel_rfl) ?_
  refine xw_ret ?_
  exact ⟨[.int .i64 y3],by kernel_rfl,fun w' hb hf => ⟨⟨y3,trivial⟩,rfl,hf (curF B g 95 (.slice A code.length cap) code.length) (by simp),frF_chgd (hf (frF w (fun b => b = g)) (by simp)) hb rfl rfl rfl⟩⟩
  have h2p := eqF h2
  refine xw_seq ?_
  refine xw_region ?_
  refine xl_endS [0,9] [(0,.v (.pointer (some ⟨g,0,none⟩))),(9,.v (.bool (y1 == 1)))] (by kernel_rfl) ?_
  refine xw_cond (b := y1 == 1) (by kernel_rfl) (fun h4 => ?_) (fun h4 => ?_)
  have h4p := eqT h4
  refine xw_seq ?_
  refine xw_region ?_
  refine xl_hvS 1 [11] [(11,.v (.pointer (some ⟨g,0,none⟩)))] (by kernel_rfl) rfl (by kernel_rfl) rfl (by kernel_rfl) (hv_build (e := 3) (K := 1) (bytes := 8) [.int .i64 0,.int .i64 1,.int .i64 255,.int .i64 256,.int .i64 65535,.int .i64 65536,.int .i64 16777215,.int .i64 4294967295,.int .i64 4294967296,.int .i64 281474976710655,.int .i64 281474976710656] rfl (by kernel_rfl) (by kernel_rfl) (by kernel_rfl) (by kernel_rfl) (by kernel_rfl) (rs := ([0,1,255,256,65535,65536,16777215,4294967295,4294967296,281474976710655,281474976710656] : List Int).map intRow) rfl) ?_
  intro g5
  refine xl_know (φ := ¬ (slF (.slice (some ⟨g5,0,none⟩) 11 11) 1 (([0,1,255,256,65535,65536,16777215,4294967295,4294967296,281474976710655,281474976710656] : List Int).map intRow)).blk g) (fun _ _ _ _ hr => fun hb => hr.2.apart 0 1 (rowF (cutW w B).heap.size 3 1 (.slice (some ⟨g5,0,none⟩) 11 11) (([0,1,255,256,65535,65536,16777215,4294967295,4294967296,281474976710655,281474976710656] : List Int).map intRow)) (curF B g 95 (.slice A code.length cap) code.length) rfl rfl (by decide) rfl g (rowF_sblk hb) rfl) (fun hk6 => ?_)
  refine xl_callWS 0 [11,12] [(11,.v (.pointer (some ⟨g,0,none⟩))),(12,.v (.slice (some ⟨g5,0,none⟩) 11 11))] 52 [.pointer (some ⟨g,0,none⟩),.slice (some ⟨g5,0,none⟩) 11 11] (some 13) 1 (curF B g 95 (.slice A code.length cap) code.length) (by kernel_rfl) rfl (by kernel_rfl) rfl (by kernel_rfl) rfl rfl (fun ww b h hb => Nat.le_trans (cutW_le w B) (cur_lo h hb)) (by kernel_rfl) (xcm_cur fun ww hw hf => l1PickInt_c g code A cap ([0,1,255,256,65535,65536,16777215,4294967295,4294967296,281474976710655,281474976710656] : List Int) (.slice (some ⟨g5,0,none⟩) 11 11) ww B (Nat.le_trans (by first | exact Nat.le_refl _ | exact Nat.le_of_eq (cutW_size hB).symm) hw) (hf (curF B g 95 (.slice A code.length cap) code.length) (by simp)) (hf (slF (.slice A code.length cap) 1 (code.map byteRow)) (by simp)) hap (by omega) (rowF_sl (hf (rowF (cutW w B).heap.size 3 1 (.slice (some ⟨g5,0,none⟩) 11 11) (([0,1,255,256,65535,65536,16777215,4294967295,4294967296,281474976710655,281474976710656] : List Int).map intRow)) (by simp))) hk6 (by simp)) ?_
  rintro ⟨y7,hy7⟩
  refine xl_endS [2] [(2,.v (.int .i64 y7))] (by kernel_rfl) ?_
  refine xw_ret ?_
  exact ⟨[.int .i64 y7],by kernel_rfl,fun w' hb hf => ⟨⟨y7,trivial⟩,rfl,hf (curF B g 95 (.slice A code.length cap) code.length) (by simp),frF_chgd (hf (frF w (fun b => b = g)) (by simp)) hb rfl rfl rfl⟩⟩
  have h4p := eqF h4
  refine xw_skip ?_
  refine xw_seq ?_
  refine xw_region ?_
  refine xl_callWS 1 [14] [(14,.v (.pointer (some ⟨g,0,none⟩)))] 75 [.pointer (some ⟨g,0,none⟩),.int .i64 65536] (some 15) 0 (curF B g 95 (.slice A code.length cap) code.length) (by kernel_rfl) rfl (by kernel_rfl) rfl (by kernel_rfl) rfl rfl (fun ww b h hb => Nat.le_trans (cutW_le w B) (cur_lo h hb)) (by kernel_rfl) (xcm_cur fun ww hw hf => l1Below_c g code A cap 65536 ww B (Nat.le_trans (by first | exact Nat.le_refl _ | exact Nat.le_of_eq (cutW_size hB).symm) hw) (hf (curF B g 95 (.slice A code.length cap) code.length) (by simp)) (hf (slF (.slice A code.length cap) 1 (code.map byteRow)) (by simp)) hap (by omega)  ) ?_
  rintro ⟨y8,hy8⟩
  obtain ⟨hy80,hy81⟩ := hy8
  refine xl_endS [2] [(2,.v (.int .i64 y8))] (by kernel_rfl) ?_
  refine xw_ret ?_
  exact ⟨[.int .i64 y8],by kernel_rfl,fun w' hb hf => ⟨⟨y8,trivial⟩,rfl,hf (curF B g 95 (.slice A code.length cap) code.length) (by simp),frF_chgd (hf (frF w (fun b => b = g)) (by simp)) hb rfl rfl rfl⟩⟩
set_option maxHeartbeats 2000000 in
theorem l2Deep_c (g : Nat) (code : List Int) (A : Option Addr) (cap : Nat)  (w : World) (B : Nat) (hB : B ≤ w.heap.size) (hc : (curF B g 95 (.slice A code.length cap) code.length).p w) (hl : Sl w (.slice A code.length cap) 1 (code.map byteRow)) (hap : ¬ (slF (.slice A code.length cap) 1 (code.map byteRow)).blk g) (hn : code.length ≤ 1048576)  : Calls Try.prog 80 #[.pointer (some ⟨g, 0, none⟩)] w fun e w' => ∃ y : {y : Int // True}, e = .returned (.int .i64 y.1) ∧ (curF B g 95 (.slice A code.length cap) code.length).p w' ∧ Chgd (fun b => b = g) w w' := by
  have hq_code := Sl.capLe hl
  refine x_callsM (args := [.pointer (some ⟨g,0,none⟩)]) (fn := Try.f80) [curF B g 95 (.slice A code.length cap) code.length,slF (.slice A code.length cap) 1 (code.map byteRow),frF w (fun b => b = g)] B Try.func80 rfl Try.ntmps80 rfl hB (by simp only [List.mem_cons,List.not_mem_nil,or_false,forall_eq_or_imp,forall_eq]; exact ⟨hc,hl,frF_start w _⟩) (apart_cur hap rfl) ?_
  refine xw_seq ?_
  refine xw_region ?_
  refine xl_end [0] ⟨[(0,.v (.pointer (some ⟨g,0,none⟩)))],[],[],[curF B g 95 (.slice A code.length cap) code.length,slF (.slice A code.length cap) 1 (code.map byteRow),frF w (fun b => b = g)]⟩ (by kernel_rfl) ?_
  refine xw_seq ?_
  refine xw_seq ?_
  refine xw_region ?_
  refine xl_callWS 1 [0,5] [(0,.v (.pointer (some ⟨g,0,none⟩))),(5,.v (.pointer (some ⟨g,0,none⟩)))] 66 [.pointer (some ⟨g,0,none⟩),.int .i64 3] (some 6) 0 (curF B g 95 (.slice A code.length cap) code.length) (by kernel_rfl) rfl (by kernel_rfl) rfl (by kernel_rfl) rfl rfl (fun ww b h hb => Nat.le_trans (cutW_le w B) (cur_lo h hb)) (by kernel_rfl) (xcm_cur fun ww hw hf => l1Once_c g code A cap 3 ww B (Nat.le_trans (by first | exact Nat.le_refl _ | exact Nat.le_of_eq (cutW_size hB).symm) hw) (hf (curF B g 95 (.slice A code.length cap) code.length) (by simp)) (hf (slF (.slice A code.length cap) 1 (code.map byteRow)) (by simp)) hap (by omega)  ) ?_
  rintro ⟨y1,hy1⟩
  refine xl_endS [0,6] [(0,.v (.pointer (some ⟨g,0,none⟩))),(6,.v (.bool y1))] (by kernel_rfl) ?_
  refine xw_cond (b := y1) (by kernel_rfl) (fun h2 => ?_) (fun h2 => ?_)
  refine xw_seq ?_
  refine xw_region ?_
  refine xl_hvS 1 [7] [(7,.v (.pointer (some ⟨g,0,none⟩)))] (by kernel_rfl) rfl (by kernel_rfl) rfl (by kernel_rfl) (hv_build (e := 3) (K := 1) (bytes := 8) [.int .i64 0,.int .i64 1,.int .i64 4294967295,.int .i64 2147483647,.int .i64 2147483648,.int .i64 4294967294] rfl (by kernel_rfl) (by kernel_rfl) (by kernel_rfl) (by kernel_rfl) (by kernel_rfl) (rs := ([0,1,4294967295,2147483647,2147483648,4294967294] : List Int).map intRow) rfl) ?_
  intro g3
  refine xl_know (φ := ¬ (slF (.slice (some ⟨g3,0,none⟩) 6 6) 1 (([0,1,4294967295,2147483647,2147483648,4294967294] : List Int).map intRow)).blk g) (fun _ _ _ _ hr => fun hb => hr.2.apart 0 1 (rowF (cutW w B).heap.size 3 1 (.slice (some ⟨g3,0,none⟩) 6 6) (([0,1,4294967295,2147483647,2147483648,4294967294] : List Int).map intRow)) (curF B g 95 (.slice A code.length cap) code.length) rfl rfl (by decide) rfl g (rowF_sblk hb) rfl) (fun hk4 => ?_)
  refine xl_callWS 0 [7,8] [(7,.v (.pointer (some ⟨g,0,none⟩))),(8,.v (.slice (some ⟨g3,0,none⟩) 6 6))] 52 [.pointer (some ⟨g,0,none⟩),.slice (some ⟨g3,0,none⟩) 6 6] (some 9) 1 (curF B g 95 (.slice A code.length cap) code.length) (by kernel_rfl) rfl (by kernel_rfl) rfl (by kernel_rfl) rfl rfl (fun ww b h hb => Nat.le_trans (cutW_le w B) (cur_lo h hb)) (by kernel_rfl) (xcm_cur fun ww hw hf => l1PickInt_c g code A cap ([0,1,4294967295,2147483647,2147483648,4294967294] : List Int) (.slice (some ⟨g3,0,none⟩) 6 6) ww B (Nat.le_trans (by first | exact Nat.le_refl _ | exact Nat.le_of_eq (cutW_size hB).symm) hw) (hf (curF B g 95 (.slice A code.length cap) code.length) (by simp)) (hf (slF (.slice A code.length cap) 1 (code.map byteRow)) (by simp)) hap (by omega) (rowF_sl (hf (rowF (cutW w B).heap.size 3 1 (.slice (some ⟨g3,0,none⟩) 6 6) (([0,1,4294967295,2147483647,2147483648,4294967294] : List Int).map intRow)) (by simp))) hk4 (by simp)) ?_
  rintro ⟨y5,hy5⟩
  refine xl_endS [2] [(2,.v (.int .i64 y5))] (by kernel_rfl) ?_
  refine xw_ret ?_
  exact ⟨[.int .i64 y5],by kernel_rfl,fun w' hb hf => ⟨⟨y5,trivial⟩,rfl,hf (curF B g 95 (.slice A code.length cap) code.length) (by simp),frF_chgd (hf (frF w (fun b => b = g)) (by simp)) hb rfl rfl rfl⟩⟩
  refine xw_skip ?_
  refine xw_seq ?_
  refine xw_region ?_
  refine xl_endS [0,3] [(0,.v (.pointer (some ⟨g,0,none⟩))),(3,.v (.int .i64 0))] (by kernel_rfl) ?_
  refine xw_seq ?_
  refine xw_seq ?_
  refine xw_region ?_
  refine xl_endS [0,3,4] [(0,.v (.pointer (some ⟨g,0,none⟩))),(3,.v (.int .i64 0)),(4,.v (.int .i64 0))] (by kernel_rfl) ?_
  refine xw_block ?_
  refine xw_loopW (α := {x : Nat × Int // (fun (i : Nat) (x : Int) => i ≤ 4) x.1 x.2}) (fun x => (fun (i : Nat) (x : Int) => (⟨[(0,.v (.pointer (some ⟨g,0,none⟩))),(3,.v (.int .i64 x)),(4,.v (.int .i64 (i : Int)))],[],[],[curF B g 95 (.slice A code.length cap) code.length,slF (.slice A code.length cap) 1 (code.map byteRow),frF w (fun b => b = g)]⟩ : St)) x.1.1 x.1.2) (fun x => (fun (i : Nat) (x : Int) => 4 - i) x.1.1 x.1.2) ⟨(0,0),Nat.zero_le _⟩ (wk_forget 0 0 [0,3,4] (by kernel_rfl) (by kernel_rfl) (by kernel_rfl)) ?_
  rintro ⟨⟨i,x⟩,hi⟩
  refine xw_wk (Wk.of_eq (s' := ⟨[(0,.v (.pointer (some ⟨g,0,none⟩))),(3,.v (.int .i64 x)),(4,.v (.int .i64 (i : Int)))],[],[],[curF B g 95 (.slice A code.length cap) code.length,slF (.slice A code.length cap) 1 (code.map byteRow),frF w (fun b => b = g)]⟩) rfl) ?_
  try dsimp only at hi
  refine xw_seq ?_
  refine xw_seq ?_
  refine xw_region ?_
  refine xl_endS [0,3,4,11] [(0,.v (.pointer (some ⟨g,0,none⟩))),(3,.v (.int .i64 x)),(4,.v (.int .i64 (i : Int))),(11,.v (.bool (decide ((i : Int) < 4))))] (by kernel_rfl) ?_
  refine xw_cond (b := decide ((i : Int) < 4)) (by kernel_rfl) (fun h6 => ?_) (fun h6 => ?_)
  have h6p : ((i : Int) < 4) := of_decide_eq_true h6
  have hlt : i < 4 := by simp at h6; omega
  refine xw_skip ?_
  refine xw_seq ?_
  refine xw_block ?_
  refine xw_region ?_
  refine xl_callWS 3 [0,3,4,15,16] [(0,.v (.pointer (some ⟨g,0,none⟩))),(3,.v (.int .i64 x)),(4,.v (.int .i64 (i : Int))),(15,.v (.int .i64 (IntKind.i64.wrap (256 * x)))),(16,.v (.pointer (some ⟨g,0,none⟩)))] 83 [.pointer (some ⟨g,0,none⟩)] (some 17) 0 (curF B g 95 (.slice A code.length cap) code.length) (by kernel_rfl) rfl (by kernel_rfl) rfl (by kernel_rfl) rfl rfl (fun ww b h hb => Nat.le_trans (cutW_le w B) (cur_lo h hb)) (by kernel_rfl) (xcm_cur fun ww hw hf => l1Byte_c g code A cap  ww B (Nat.le_trans (by first | exact Nat.le_refl _ | exact Nat.le_of_eq (cutW_size hB).symm) hw) (hf (curF B g 95 (.slice A code.length cap) code.length) (by simp)) (hf (slF (.slice A code.length cap) 1 (code.map byteRow)) (by simp)) hap (by omega)  ) ?_
  rintro ⟨y7,hy7⟩
  refine xl_endS [0,3,4] [(0,.v (.pointer (some ⟨g,0,none⟩))),(3,.v (.int .i64 (IntKind.i64.wrap ((IntKind.i64.wrap (256 * x)) + y7)))),(4,.v (.int .i64 (i : Int)))] (by kernel_rfl) ?_
  refine xw_region ?_
  refine xl_runS 3 [0,3,4] [(0,.v (.pointer (some ⟨g,0,none⟩))),(3,.v (.int .i64 (IntKind.i64.wrap ((IntKind.i64.wrap (256 * x)) + y7)))),(4,.v (.int .i64 (IntKind.i64.wrap ((i : Int) + 1))))] (by kernel_rfl) ?_
  refine xl_eqS (t' := [(0,.v (.pointer (some ⟨g,0,none⟩))),(3,.v (.int .i64 (IntKind.i64.wrap ((IntKind.i64.wrap (256 * x)) + y7)))),(4,.v (.int .i64 ((i : Int) + 1)))]) (by rw [show (IntKind.i64.wrap ((i : Int) + 1)) = ((i : Int) + 1) from wrap_id (by omega) (by omega)]) ?_
  refine xl_endS [0,3,4] [(0,.v (.pointer (some ⟨g,0,none⟩))),(3,.v (.int .i64 (IntKind.i64.wrap ((IntKind.i64.wrap (256 * x)) + y7)))),(4,.v (.int .i64 ((i : Int) + 1)))] (by kernel_rfl) ?_
  exact ⟨⟨(i + 1,IntKind.i64.wrap ((IntKind.i64.wrap (256 * x)) + y7)),hlt⟩,wk_forget 0 0 [0,3,4] (by kernel_rfl) (by kernel_rfl) (by kernel_rfl),by show (fun (i : Nat) (x : Int) => 4 - i) (i + 1) (IntKind.i64.wrap ((IntKind.i64.wrap (256 * x)) + y7)) < 4 - i; (dsimp only; omega)⟩
  have h6p : ¬ ((i : Int) < 4) := of_decide_eq_false h6
  refine xw_exit ?_
  refine xw_seq ?_
  refine xw_region ?_
  refine xl_endS [2] [(2,.v (.int .i64 x))] (by kernel_rfl) ?_
  refine xw_ret ?_
  exact ⟨[.int .i64 x],by kernel_rfl,fun w' hb hf => ⟨⟨x,trivial⟩,rfl,hf (curF B g 95 (.slice A code.length cap) code.length) (by simp),frF_chgd (hf (frF w (fun b => b = g)) (by simp)) hb rfl rfl rfl⟩⟩
set_option maxHeartbeats 2000000 in
theorem l4Place_c (g : Nat) (code : List Int) (A : Option Addr) (cap : Nat)  (w : World) (B : Nat) (hB : B ≤ w.heap.size) (hc : (curF B g 95 (.slice A code.length cap) code.length).p w) (hl : Sl w (.slice A code.length cap) 1 (code.map byteRow)) (hap : ¬ (slF (.slice A code.length cap) 1 (code.map byteRow)).blk g) (hn : code.length ≤ 1048576)  : Calls Try.prog 51 #[.pointer (some ⟨g, 0, none⟩)] w fun e w' => ∃ y : {y : Int // True}, e = .returned (.int .i64 y.1) ∧ (curF B g 95 (.slice A code.length cap) code.length).p w' ∧ Chgd (fun b => b = g) w w' := by
  have hq_code := Sl.capLe hl
  refine x_callsM (args := [.pointer (some ⟨g,0,none⟩)]) (fn := Try.f51) [curF B g 95 (.slice A code.length cap) code.length,slF (.slice A code.length cap) 1 (code.map byteRow),frF w (fun b => b = g)] B Try.func51 rfl Try.ntmps51 rfl hB (by simp only [List.mem_cons,List.not_mem_nil,or_false,forall_eq_or_imp,forall_eq]; exact ⟨hc,hl,frF_start w _⟩) (apart_cur hap rfl) ?_
  refine xw_seq ?_
  refine xw_region ?_
  refine xl_end [0] ⟨[(0,.v (.pointer (some ⟨g,0,none⟩)))],[],[],[curF B g 95 (.slice A code.length cap) code.length,slF (.slice A code.length cap) 1 (code.map byteRow),frF w (fun b => b = g)]⟩ (by kernel_rfl) ?_
  refine xw_seq ?_
  refine xw_seq ?_
  refine xw_region ?_
  refine xl_callWS 1 [0,3] [(0,.v (.pointer (some ⟨g,0,none⟩))),(3,.v (.pointer (some ⟨g,0,none⟩)))] 66 [.pointer (some ⟨g,0,none⟩),.int .i64 12] (some 4) 0 (curF B g 95 (.slice A code.length cap) code.length) (by kernel_rfl) rfl (by kernel_rfl) rfl (by kernel_rfl) rfl rfl (fun ww b h hb => Nat.le_trans (cutW_le w B) (cur_lo h hb)) (by kernel_rfl) (xcm_cur fun ww hw hf => l1Once_c g code A cap 12 ww B (Nat.le_trans (by first | exact Nat.le_refl _ | exact Nat.le_of_eq (cutW_size hB).symm) hw) (hf (curF B g 95 (.slice A code.length cap) code.length) (by simp)) (hf (slF (.slice A code.length cap) 1 (code.map byteRow)) (by simp)) hap (by omega)  ) ?_
  rintro ⟨y1,hy1⟩
  refine xl_endS [0,4] [(0,.v (.pointer (some ⟨g,0,none⟩))),(4,.v (.bool y1))] (by kernel_rfl) ?_
  refine xw_cond (b := y1) (by kernel_rfl) (fun h2 => ?_) (fun h2 => ?_)
  refine xw_seq ?_
  refine xw_region ?_
  refine xl_callWS 1 [5] [(5,.v (.pointer (some ⟨g,0,none⟩)))] 79 [.pointer (some ⟨g,0,none⟩)] (some 6) 0 (curF B g 95 (.slice A code.length cap) code.length) (by kernel_rfl) rfl (by kernel_rfl) rfl (by kernel_rfl) rfl rfl (fun ww b h hb => Nat.le_trans (cutW_le w B) (cur_lo h hb)) (by kernel_rfl) (xcm_cur fun ww hw hf => l1Whole_c g code A cap  ww B (Nat.le_trans (by first | exact Nat.le_refl _ | exact Nat.le_of_eq (cutW_size hB).symm) hw) (hf (curF B g 95 (.slice A code.length cap) code.length) (by simp)) (hf (slF (.slice A code.length cap) 1 (code.map byteRow)) (by simp)) hap (by omega)  ) ?_
  rintro ⟨y3,hy3⟩
  refine xl_endS [2] [(2,.v (.int .i64 y3))] (by kernel_rfl) ?_
  refine xw_ret ?_
  exact ⟨[.int .i64 y3],by kernel_rfl,fun w' hb hf => ⟨⟨y3,trivial⟩,rfl,hf (curF B g 95 (.slice A code.length cap) code.length) (by simp),frF_chgd (hf (frF w (fun b => b = g)) (by simp)) hb rfl rfl rfl⟩⟩
  refine xw_skip ?_
  refine xw_seq ?_
  refine xw_region ?_
  refine xl_callWS 1 [7] [(7,.v (.pointer (some ⟨g,0,none⟩)))] 80 [.pointer (some ⟨g,0,none⟩)] (some 8) 0 (curF B g 95 (.slice A code.length cap) code.length) (by kernel_rfl) rfl (by kernel_rfl) rfl (by kernel_rfl) rfl rfl (fun ww b h hb => Nat.le_trans (cutW_le w B) (cur_lo h hb)) (by kernel_rfl) (xcm_cur fun ww hw hf => l2Deep_c g code A cap  ww B (Nat.le_trans (by first | exact Nat.le_refl _ | exact Nat.le_of_eq (cutW_size hB).symm) hw) (hf (curF B g 95 (.slice A code.length cap) code.length) (by simp)) (hf (slF (.slice A code.length cap) 1 (code.map byteRow)) (by simp)) hap (by omega)  ) ?_
  rintro ⟨y4,hy4⟩
  refine xl_endS [2] [(2,.v (.int .i64 y4))] (by kernel_rfl) ?_
  refine xw_ret ?_
  exact ⟨[.int .i64 y4],by kernel_rfl,fun w' hb hf => ⟨⟨y4,trivial⟩,rfl,hf (curF B g 95 (.slice A code.length cap) code.length) (by simp),frF_chgd (hf (frF w (fun b => b = g)) (by simp)) hb rfl rfl rfl⟩⟩
set_option maxHeartbeats 2000000 in
theorem l6Ip_c (g : Nat) (code : List Int) (A : Option Addr) (cap : Nat)  (w : World) (B : Nat) (hB : B ≤ w.heap.size) (hc : (curF B g 95 (.slice A code.length cap) code.length).p w) (hl : Sl w (.slice A code.length cap) 1 (code.map byteRow)) (hap : ¬ (slF (.slice A code.length cap) 1 (code.map byteRow)).blk g) (hn : code.length ≤ 1048576)  : Calls Try.prog 86 #[.pointer (some ⟨g, 0, none⟩)] w fun e w' => ∃ y : {y : Int // True}, e = .returned (.int .i64 y.1) ∧ (curF B g 95 (.slice A code.length cap) code.length).p w' ∧ Chgd (fun b => b = g) w w' := by
  have hq_code := Sl.capLe hl
  refine x_callsM (args := [.pointer (some ⟨g,0,none⟩)]) (fn := Try.f86) [curF B g 95 (.slice A code.length cap) code.length,slF (.slice A code.length cap) 1 (code.map byteRow),frF w (fun b => b = g)] B Try.func86 rfl Try.ntmps86 rfl hB (by simp only [List.mem_cons,List.not_mem_nil,or_false,forall_eq_or_imp,forall_eq]; exact ⟨hc,hl,frF_start w _⟩) (apart_cur hap rfl) ?_
  refine xw_seq ?_
  refine xw_region ?_
  refine xl_end [0] ⟨[(0,.v (.pointer (some ⟨g,0,none⟩)))],[],[],[curF B g 95 (.slice A code.length cap) code.length,slF (.slice A code.length cap) 1 (code.map byteRow),frF w (fun b => b = g)]⟩ (by kernel_rfl) ?_
  refine xw_seq ?_
  refine xw_region ?_
  refine xl_hvS 1 [3] [(3,.v (.pointer (some ⟨g,0,none⟩)))] (by kernel_rfl) rfl (by kernel_rfl) rfl (by kernel_rfl) (hv_build (e := 3) (K := 1) (bytes := 8) [.int .i64 167772161,.int .i64 167772162,.int .i64 167772163,.int .i64 0,.int .i64 4294967295] rfl (by kernel_rfl) (by kernel_rfl) (by kernel_rfl) (by kernel_rfl) (by kernel_rfl) (rs := ([167772161,167772162,167772163,0,4294967295] : List Int).map intRow) rfl) ?_
  intro g1
  refine xl_know (φ := ¬ (slF (.slice (some ⟨g1,0,none⟩) 5 5) 1 (([167772161,167772162,167772163,0,4294967295] : List Int).map intRow)).blk g) (fun _ _ _ _ hr => fun hb => hr.2.apart 0 1 (rowF (cutW w B).heap.size 3 1 (.slice (some ⟨g1,0,none⟩) 5 5) (([167772161,167772162,167772163,0,4294967295] : List Int).map intRow)) (curF B g 95 (.slice A code.length cap) code.length) rfl rfl (by decide) rfl g (rowF_sblk hb) rfl) (fun hk2 => ?_)
  refine xl_callWS 0 [3,4] [(3,.v (.pointer (some ⟨g,0,none⟩))),(4,.v (.slice (some ⟨g1,0,none⟩) 5 5))] 52 [.pointer (some ⟨g,0,none⟩),.slice (some ⟨g1,0,none⟩) 5 5] (some 5) 1 (curF B g 95 (.slice A code.length cap) code.length) (by kernel_rfl) rfl (by kernel_rfl) rfl (by kernel_rfl) rfl rfl (fun ww b h hb => Nat.le_trans (cutW_le w B) (cur_lo h hb)) (by kernel_rfl) (xcm_cur fun ww hw hf => l1PickInt_c g code A cap ([167772161,167772162,167772163,0,4294967295] : List Int) (.slice (some ⟨g1,0,none⟩) 5 5) ww B (Nat.le_trans (by first | exact Nat.le_refl _ | exact Nat.le_of_eq (cutW_size hB).symm) hw) (hf (curF B g 95 (.slice A code.length cap) code.length) (by simp)) (hf (slF (.slice A code.length cap) 1 (code.map byteRow)) (by simp)) hap (by omega) (rowF_sl (hf (rowF (cutW w B).heap.size 3 1 (.slice (some ⟨g1,0,none⟩) 5 5) (([167772161,167772162,167772163,0,4294967295] : List Int).map intRow)) (by simp))) hk2 (by simp)) ?_
  rintro ⟨y3,hy3⟩
  refine xl_endS [2] [(2,.v (.int .i64 y3))] (by kernel_rfl) ?_
  refine xw_ret ?_
  exact ⟨[.int .i64 y3],by kernel_rfl,fun w' hb hf => ⟨⟨y3,trivial⟩,rfl,hf (curF B g 95 (.slice A code.length cap) code.length) (by simp),frF_chgd (hf (frF w (fun b => b = g)) (by simp)) hb rfl rfl rfl⟩⟩
set_option maxHeartbeats 2000000 in
theorem l8Options_c (g : Nat) (code : List Int) (A : Option Addr) (cap : Nat)  (w : World) (B : Nat) (hB : B ≤ w.heap.size) (hc : (curF B g 95 (.slice A code.length cap) code.length).p w) (hl : Sl w (.slice A code.length cap) 1 (code.map byteRow)) (hap : ¬ (slF (.slice A code.length cap) 1 (code.map byteRow)).blk g) (hn : code.length ≤ 1048576)  : Calls Try.prog 74 #[.pointer (some ⟨g, 0, none⟩)] w fun e w' => ∃ y : {y : Opt // True}, e = .returned (.agg (optL y.1).toArray) ∧ (curF B g 95 (.slice A code.length cap) code.length).p w' ∧ Chgd (fun b => b = g) w w' := by
  have hq_code := Sl.capLe hl
  refine x_callsM (args := [.pointer (some ⟨g,0,none⟩)]) (fn := Try.f74) [curF B g 95 (.slice A code.length cap) code.length,slF (.slice A code.length cap) 1 (code.map byteRow),frF w (fun b => b = g)] B Try.func74 rfl Try.ntmps74 rfl hB (by simp only [List.mem_cons,List.not_mem_nil,or_false,forall_eq_or_imp,forall_eq]; exact ⟨hc,hl,frF_start w _⟩) (apart_cur hap rfl) ?_
  refine xw_seq ?_
  refine xw_region ?_
  refine xl_end [0,2] ⟨[(0,.v (.pointer (some ⟨g,0,none⟩))),(2,.p 0 0)],[⟨25,[.int .i64 0,.int .i64 0,.bool false,.bool false,.int .i64 0,.int .i64 0]⟩],[],[curF B g 95 (.slice A code.length cap) code.length,slF (.slice A code.length cap) 1 (code.map byteRow),frF w (fun b => b = g)]⟩ (by kernel_rfl) ?_
  refine xw_seq ?_
  refine xw_region ?_
  refine xl_callS 0 [0,2] [(0,.v (.pointer (some ⟨g,0,none⟩))),(2,.p 0 0)] 40 [] (some 4) (by kernel_rfl) rfl (by kernel_rfl) rfl (by kernel_rfl) (xc_b fun ww hf => sNoOptions_c  ww ) ?_
  intro _
  refine xl_end [0,2,3] ⟨[(0,.v (.pointer (some ⟨g,0,none⟩))),(2,.p 0 0),(3,.p 1 0)],[⟨25,[.int .i64 0,.int .i64 0,.bool false,.bool false,.int .i64 0,.int .i64 0]⟩,⟨25,[.int .i64 0,.int .i64 (-1),.bool false,.bool false,.int .i64 0,.int .i64 0]⟩],[],[curF B g 95 (.slice A code.length cap) code.length,slF (.slice A code.length cap) 1 (code.map byteRow),frF w (fun b => b = g)]⟩ (by kernel_rfl) ?_
  refine xw_seq ?_
  refine xw_seq ?_
  refine xw_region ?_
  refine xl_callWS 1 [0,2,3,5] [(0,.v (.pointer (some ⟨g,0,none⟩))),(2,.p 0 0),(3,.p 1 0),(5,.v (.pointer (some ⟨g,0,none⟩)))] 66 [.pointer (some ⟨g,0,none⟩),.int .i64 3] (some 6) 0 (curF B g 95 (.slice A code.length cap) code.length) (by kernel_rfl) rfl (by kernel_rfl) rfl (by kernel_rfl) rfl rfl (fun ww b h hb => Nat.le_trans (cutW_le w B) (cur_lo h hb)) (by kernel_rfl) (xcm_cur fun ww hw hf => l1Once_c g code A cap 3 ww B (Nat.le_trans (by first | exact Nat.le_refl _ | exact Nat.le_of_eq (cutW_size hB).symm) hw) (hf (curF B g 95 (.slice A code.length cap) code.length) (by simp)) (hf (slF (.slice A code.length cap) 1 (code.map byteRow)) (by simp)) hap (by omega)  ) ?_
  rintro ⟨y1,hy1⟩
  refine xl_endS [0,2,3,7] [(0,.v (.pointer (some ⟨g,0,none⟩))),(2,.p 0 0),(3,.p 1 0),(7,.v (.bool (!y1)))] (by kernel_rfl) ?_
  refine xw_cond (b := !y1) (by kernel_rfl) (fun h2 => ?_) (fun h2 => ?_)
  have h2n := not_t h2
  refine xw_region ?_
  refine xl_hvS 1 [0,2,3,8] [(0,.v (.pointer (some ⟨g,0,none⟩))),(2,.p 0 0),(3,.p 1 0),(8,.v (.pointer (some ⟨g,0,none⟩)))] (by kernel_rfl) rfl (by kernel_rfl) rfl (by kernel_rfl) (hv_build (e := 3) (K := 1) (bytes := 8) [.int .i64 536,.int .i64 1460,.int .i64 1300,.int .i64 64,.int .i64 65535,.int .i64 1] rfl (by kernel_rfl) (by kernel_rfl) (by kernel_rfl) (by kernel_rfl) (by kernel_rfl) (rs := ([536,1460,1300,64,65535,1] : List Int).map intRow) rfl) ?_
  intro g3
  refine xl_know (φ := ¬ (slF (.slice (some ⟨g3,0,none⟩) 6 6) 1 (([536,1460,1300,64,65535,1] : List Int).map intRow)).blk g) (fun _ _ _ _ hr => fun hb => hr.2.apart 0 1 (rowF (cutW w B).heap.size 3 1 (.slice (some ⟨g3,0,none⟩) 6 6) (([536,1460,1300,64,65535,1] : List Int).map intRow)) (curF B g 95 (.slice A code.length cap) code.length) rfl rfl (by decide) rfl g (rowF_sblk hb) rfl) (fun hk4 => ?_)
  refine xl_callWS 0 [0,2,3,8,9] [(0,.v (.pointer (some ⟨g,0,none⟩))),(2,.p 0 0),(3,.p 1 0),(8,.v (.pointer (some ⟨g,0,none⟩))),(9,.v (.slice (some ⟨g3,0,none⟩) 6 6))] 52 [.pointer (some ⟨g,0,none⟩),.slice (some ⟨g3,0,none⟩) 6 6] (some 10) 1 (curF B g 95 (.slice A code.length cap) code.length) (by kernel_rfl) rfl (by kernel_rfl) rfl (by kernel_rfl) rfl rfl (fun ww b h hb => Nat.le_trans (cutW_le w B) (cur_lo h hb)) (by kernel_rfl) (xcm_cur fun ww hw hf => l1PickInt_c g code A cap ([536,1460,1300,64,65535,1] : List Int) (.slice (some ⟨g3,0,none⟩) 6 6) ww B (Nat.le_trans (by first | exact Nat.le_refl _ | exact Nat.le_of_eq (cutW_size hB).symm) hw) (hf (curF B g 95 (.slice A code.length cap) code.length) (by simp)) (hf (slF (.slice A code.length cap) 1 (code.map byteRow)) (by simp)) hap (by omega) (rowF_sl (hf (rowF (cutW w B).heap.size 3 1 (.slice (some ⟨g3,0,none⟩) 6 6) (([536,1460,1300,64,65535,1] : List Int).map intRow)) (by simp))) hk4 (by simp)) ?_
  rintro ⟨y5,hy5⟩
  refine xl_end [0,2,3] ⟨[(0,.v (.pointer (some ⟨g,0,none⟩))),(2,.p 0 0),(3,.p 1 0)],[⟨25,[.int .i64 0,.int .i64 0,.bool false,.bool false,.int .i64 0,.int .i64 0]⟩,⟨25,[.int .i64 y5,.int .i64 (-1),.bool false,.bool false,.int .i64 0,.int .i64 0]⟩],[],[curF B g 95 (.slice A code.length cap) code.length,rowF (cutW w B).heap.size 3 1 (.slice (some ⟨g3,0,none⟩) 6 6) (([536,1460,1300,64,65535,1] : List Int).map intRow),slF (.slice A code.length cap) 1 (code.map byteRow),frF w (fun b => b = g)]⟩ (by kernel_rfl) ?_
  refine xw_seq ?_
  refine xw_seq ?_
  refine xw_region ?_
  refine xl_callWS 1 [0,2,3,12] [(0,.v (.pointer (some ⟨g,0,none⟩))),(2,.p 0 0),(3,.p 1 0),(12,.v (.pointer (some ⟨g,0,none⟩)))] 66 [.pointer (some ⟨g,0,none⟩),.int .i64 2] (some 13) 0 (curF B g 95 (.slice A code.length cap) code.length) (by kernel_rfl) rfl (by kernel_rfl) rfl (by kernel_rfl) rfl rfl (fun ww b h hb => Nat.le_trans (cutW_le w B) (cur_lo h hb)) (by kernel_rfl) (xcm_cur fun ww hw hf => l1Once_c g code A cap 2 ww B (Nat.le_trans (by first | exact Nat.le_refl _ | exact Nat.le_of_eq (cutW_size hB).symm) hw) (hf (curF B g 95 (.slice A code.length cap) code.length) (by simp)) (hf (slF (.slice A code.length cap) 1 (code.map byteRow)) (by simp)) hap (by omega)  ) ?_
  rintro ⟨y6,hy6⟩
  refine xl_endS [0,2,3,13] [(0,.v (.pointer (some ⟨g,0,none⟩))),(2,.p 0 0),(3,.p 1 0),(13,.v (.bool y6))] (by kernel_rfl) ?_
  refine xw_cond (b := y6) (by kernel_rfl) (fun h7 => ?_) (fun h7 => ?_)
  refine xw_region ?_
  refine xl_callWS 1 [0,2,3,14] [(0,.v (.pointer (some ⟨g,0,none⟩))),(2,.p 0 0),(3,.p 1 0),(14,.v (.pointer (some ⟨g,0,none⟩)))] 75 [.pointer (some ⟨g,0,none⟩),.int .i64 15] (some 15) 0 (curF B g 95 (.slice A code.length cap) code.length) (by kernel_rfl) rfl (by kernel_rfl) rfl (by kernel_rfl) rfl rfl (fun ww b h hb => Nat.le_trans (cutW_le w B) (cur_lo h hb)) (by kernel_rfl) (xcm_cur fun ww hw hf => l1Below_c g code A cap 15 ww B (Nat.le_trans (by first | exact Nat.le_refl _ | exact Nat.le_of_eq (cutW_size hB).symm) hw) (hf (curF B g 95 (.slice A code.length cap) code.length) (by simp)) (hf (slF (.slice A code.length cap) 1 (code.map byteRow)) (by simp)) hap (by omega)  ) ?_
  rintro ⟨y8,hy8⟩
  obtain ⟨hy80,hy81⟩ := hy8
  refine xl_end [0,2,3] ⟨[(0,.v (.pointer (some ⟨g,0,none⟩))),(2,.p 0 0),(3,.p 1 0)],[⟨25,[.int .i64 0,.int .i64 0,.bool false,.bool false,.int .i64 0,.int .i64 0]⟩,⟨25,[.int .i64 y5,.int .i64 y8,.bool false,.bool false,.int .i64 0,.int .i64 0]⟩],[],[curF B g 95 (.slice A code.length cap) code.length,rowF (cutW w B).heap.size 3 1 (.slice (some ⟨g3,0,none⟩) 6 6) (([536,1460,1300,64,65535,1] : List Int).map intRow),slF (.slice A code.length cap) 1 (code.map byteRow),frF w (fun b => b = g)]⟩ (by kernel_rfl) ?_
  refine xw_seq ?_
  refine xw_region ?_
  refine xl_callWS 1 [0,2,3,17] [(0,.v (.pointer (some ⟨g,0,none⟩))),(2,.p 0 0),(3,.p 1 0),(17,.v (.pointer (some ⟨g,0,none⟩)))] 66 [.pointer (some ⟨g,0,none⟩),.int .i64 2] (some 18) 0 (curF B g 95 (.slice A code.length cap) code.length) (by kernel_rfl) rfl (by kernel_rfl) rfl (by kernel_rfl) rfl rfl (fun ww b h hb => Nat.le_trans (cutW_le w B) (cur_lo h hb)) (by kernel_rfl) (xcm_cur fun ww hw hf => l1Once_c g code A cap 2 ww B (Nat.le_trans (by first | exact Nat.le_refl _ | exact Nat.le_of_eq (cutW_size hB).symm) hw) (hf (curF B g 95 (.slice A code.length cap) code.length) (by simp)) (hf (slF (.slice A code.length cap) 1 (code.map byteRow)) (by simp)) hap (by omega)  ) ?_
  rintro ⟨y9,hy9⟩
  refine xl_end [0,2,3] ⟨[(0,.v (.pointer (some ⟨g,0,none⟩))),(2,.p 0 0),(3,.p 1 0)],[⟨25,[.int .i64 0,.int .i64 0,.bool false,.bool false,.int .i64 0,.int .i64 0]⟩,⟨25,[.int .i64 y5,.int .i64 y8,.bool y9,.bool false,.int .i64 0,.int .i64 0]⟩],[],[curF B g 95 (.slice A code.length cap) code.length,rowF (cutW w B).heap.size 3 1 (.slice (some ⟨g3,0,none⟩) 6 6) (([536,1460,1300,64,65535,1] : List Int).map intRow),slF (.slice A code.length cap) 1 (code.map byteRow),frF w (fun b => b = g)]⟩ (by kernel_rfl) ?_
  refine xw_seq ?_
  refine xw_seq ?_
  refine xw_region ?_
  refine xl_callWS 1 [0,2,3,20] [(0,.v (.pointer (some ⟨g,0,none⟩))),(2,.p 0 0),(3,.p 1 0),(20,.v (.pointer (some ⟨g,0,none⟩)))] 66 [.pointer (some ⟨g,0,none⟩),.int .i64 2] (some 21) 0 (curF B g 95 (.slice A code.length cap) code.length) (by kernel_rfl) rfl (by kernel_rfl) rfl (by kernel_rfl) rfl rfl (fun ww b h hb => Nat.le_trans (cutW_le w B) (cur_lo h hb)) (by kernel_rfl) (xcm_cur fun ww hw hf => l1Once_c g code A cap 2 ww B (Nat.le_trans (by first | exact Nat.le_refl _ | exact Nat.le_of_eq (cutW_size hB).symm) hw) (hf (curF B g 95 (.slice A code.length cap) code.length) (by simp)) (hf (slF (.slice A code.length cap) 1 (code.map byteRow)) (by simp)) hap (by omega)  ) ?_
  rintro ⟨y10,hy10⟩
  refine xl_endS [0,2,3,21] [(0,.v (.pointer (some ⟨g,0,none⟩))),(2,.p 0 0),(3,.p 1 0),(21,.v (.bool y10))] (by kernel_rfl) ?_
  refine xw_cond (b := y10) (by kernel_rfl) (fun h11 => ?_) (fun h11 => ?_)
  refine xw_seq ?_
  refine xw_region ?_
  refine xl_end [0,2,3] ⟨[(0,.v (.pointer (some ⟨g,0,none⟩))),(2,.p 0 0),(3,.p 1 0)],[⟨25,[.int .i64 0,.int .i64 0,.bool false,.bool false,.int .i64 0,.int .i64 0]⟩,⟨25,[.int .i64 y5,.int .i64 y8,.bool y9,.bool true,.int .i64 0,.int .i64 0]⟩],[],[curF B g 95 (.slice A code.length cap) code.length,rowF (cutW w B).heap.size 3 1 (.slice (some ⟨g3,0,none⟩) 6 6) (([536,1460,1300,64,65535,1] : List Int).map intRow),slF (.slice A code.length cap) 1 (code.map byteRow),frF w (fun b => b = g)]⟩ (by kernel_rfl) ?_
  refine xw_seq ?_
  refine xw_region ?_
  refine xl_callWS 1 [0,2,3,23] [(0,.v (.pointer (some ⟨g,0,none⟩))),(2,.p 0 0),(3,.p 1 0),(23,.v (.pointer (some ⟨g,0,none⟩)))] 80 [.pointer (some ⟨g,0,none⟩)] (some 24) 0 (curF B g 95 (.slice A code.length cap) code.length) (by kernel_rfl) rfl (by kernel_rfl) rfl (by kernel_rfl) rfl rfl (fun ww b h hb => Nat.le_trans (cutW_le w B) (cur_lo h hb)) (by kernel_rfl) (xcm_cur fun ww hw hf => l2Deep_c g code A cap  ww B (Nat.le_trans (by first | exact Nat.le_refl _ | exact Nat.le_of_eq (cutW_size hB).symm) hw) (hf (curF B g 95 (.slice A code.length cap) code.length) (by simp)) (hf (slF (.slice A code.length cap) 1 (code.map byteRow)) (by simp)) hap (by omega)  ) ?_
  rintro ⟨y12,hy12⟩
  refine xl_end [0,2,3] ⟨[(0,.v (.pointer (some ⟨g,0,none⟩))),(2,.p 0 0),(3,.p 1 0)],[⟨25,[.int .i64 0,.int .i64 0,.bool false,.bool false,.int .i64 0,.int .i64 0]⟩,⟨25,[.int .i64 y5,.int .i64 y8,.bool y9,.bool true,.int .i64 y12,.int .i64 0]⟩],[],[curF B g 95 (.slice A code.length cap) code.length,rowF (cutW w B).heap.size 3 1 (.slice (some ⟨g3,0,none⟩) 6 6) (([536,1460,1300,64,65535,1] : List Int).map intRow),slF (.slice A code.length cap) 1 (code.map byteRow),frF w (fun b => b = g)]⟩ (by kernel_rfl) ?_
  refine xw_region ?_
  refine xl_callWS 1 [2,3,26] [(2,.p 0 0),(3,.p 1 0),(26,.v (.pointer (some ⟨g,0,none⟩)))] 80 [.pointer (some ⟨g,0,none⟩)] (some 27) 0 (curF B g 95 (.slice A code.length cap) code.length) (by kernel_rfl) rfl (by kernel_rfl) rfl (by kernel_rfl) rfl rfl (fun ww b h hb => Nat.le_trans (cutW_le w B) (cur_lo h hb)) (by kernel_rfl) (xcm_cur fun ww hw hf => l2Deep_c g code A cap  ww B (Nat.le_trans (by first | exact Nat.le_refl _ | exact Nat.le_of_eq (cutW_size hB).symm) hw) (hf (curF B g 95 (.slice A code.length cap) code.length) (by simp)) (hf (slF (.slice A code.length cap) 1 (code.map byteRow)) (by simp)) hap (by omega)  ) ?_
  rintro ⟨y13,hy13⟩
  refine xl_end [2,3] ⟨[(2,.p 0 0),(3,.p 1 0)],[⟨25,[.int .i64 0,.int .i64 0,.bool false,.bool false,.int .i64 0,.int .i64 0]⟩,⟨25,[.int .i64 y5,.int .i64 y8,.bool y9,.bool true,.int .i64 y12,.int .i64 y13]⟩],[],[curF B g 95 (.slice A code.length cap) code.length,rowF (cutW w B).heap.size 3 1 (.slice (some ⟨g3,0,none⟩) 6 6) (([536,1460,1300,64,65535,1] : List Int).map intRow),slF (.slice A code.length cap) 1 (code.map byteRow),frF w (fun b => b = g)]⟩ (by kernel_rfl) ?_
  refine xw_seq ?_
  refine xw_region ?_
  refine xl_end [2] ⟨[(2,.p 0 0)],[⟨25,[.int .i64 y5,.int .i64 y8,.bool y9,.bool true,.int .i64 y12,.int .i64 y13]⟩,⟨25,[.int .i64 y5,.int .i64 y8,.bool y9,.bool true,.int .i64 y12,.int .i64 y13]⟩],[],[curF B g 95 (.slice A code.length cap) code.length,rowF (cutW w B).heap.size 3 1 (.slice (some ⟨g3,0,none⟩) 6 6) (([536,1460,1300,64,65535,1] : List Int).map intRow),slF (.slice A code.length cap) 1 (code.map byteRow),frF w (fun b => b = g)]⟩ (by kernel_rfl) ?_
  refine xw_ret ?_
  exact ⟨[.agg #[.int .i64 y5,.int .i64 y8,.bool y9,.bool true,.int .i64 y12,.int .i64 y13]],by kernel_rfl,fun w' hb hf => ⟨⟨⟨y5,y8,y9,true,y12,y13⟩,trivial⟩,rfl,hf (curF B g 95 (.slice A code.length cap) code.length) (by simp),frF_chgd (hf (frF w (fun b => b = g)) (by simp)) hb rfl rfl rfl⟩⟩
  refine xw_skip ?_
  refine xw_seq ?_
  refine xw_region ?_
  refine xl_end [2] ⟨[(2,.p 0 0)],[⟨25,[.int .i64 y5,.int .i64 y8,.bool y9,.bool false,.int .i64 0,.int .i64 0]⟩,⟨25,[.int .i64 y5,.int .i64 y8,.bool y9,.bool false,.int .i64 0,.int .i64 0]⟩],[],[curF B g 95 (.slice A code.length cap) code.length,rowF (cutW w B).heap.size 3 1 (.slice (some ⟨g3,0,none⟩) 6 6) (([536,1460,1300,64,65535,1] : List Int).map intRow),slF (.slice A code.length cap) 1 (code.map byteRow),frF w (fun b => b = g)]⟩ (by kernel_rfl) ?_
  refine xw_ret ?_
  exact ⟨[.agg #[.int .i64 y5,.int .i64 y8,.bool y9,.bool false,.int .i64 0,.int .i64 0]],by kernel_rfl,fun w' hb hf => ⟨⟨⟨y5,y8,y9,false,0,0⟩,trivial⟩,rfl,hf (curF B g 95 (.slice A code.length cap) code.length) (by simp),frF_chgd (hf (frF w (fun b => b = g)) (by simp)) hb rfl rfl rfl⟩⟩
  refine xw_skip ?_
  refine xw_seq ?_
  refine xw_region ?_
  refine xl_callWS 1 [0,2,3,17] [(0,.v (.pointer (some ⟨g,0,none⟩))),(2,.p 0 0),(3,.p 1 0),(17,.v (.pointer (some ⟨g,0,none⟩)))] 66 [.pointer (some ⟨g,0,none⟩),.int .i64 2] (some 18) 0 (curF B g 95 (.slice A code.length cap) code.length) (by kernel_rfl) rfl (by kernel_rfl) rfl (by kernel_rfl) rfl rfl (fun ww b h hb => Nat.le_trans (cutW_le w B) (cur_lo h hb)) (by kernel_rfl) (xcm_cur fun ww hw hf => l1Once_c g code A cap 2 ww B (Nat.le_trans (by first | exact Nat.le_refl _ | exact Nat.le_of_eq (cutW_size hB).symm) hw) (hf (curF B g 95 (.slice A code.length cap) code.length) (by simp)) (hf (slF (.slice A code.length cap) 1 (code.map byteRow)) (by simp)) hap (by omega)  ) ?_
  rintro ⟨y14,hy14⟩
  refine xl_end [0,2,3] ⟨[(0,.v (.pointer (some ⟨g,0,none⟩))),(2,.p 0 0),(3,.p 1 0)],[⟨25,[.int .i64 0,.int .i64 0,.bool false,.bool false,.int .i64 0,.int .i64 0]⟩,⟨25,[.int .i64 y5,.int .i64 (-1),.bool y14,.bool false,.int .i64 0,.int .i64 0]⟩],[],[curF B g 95 (.slice A code.length cap) code.length,rowF (cutW w B).heap.size 3 1 (.slice (some ⟨g3,0,none⟩) 6 6) (([536,1460,1300,64,65535,1] : List Int).map intRow),slF (.slice A code.length cap) 1 (code.map byteRow),frF w (fun b => b = g)]⟩ (by kernel_rfl) ?_
  refine xw_seq ?_
  refine xw_seq ?_
  refine xw_region ?_
  refine xl_callWS 1 [0,2,3,20] [(0,.v (.pointer (some ⟨g,0,none⟩))),(2,.p 0 0),(3,.p 1 0),(20,.v (.pointer (some ⟨g,0,none⟩)))] 66 [.pointer (some ⟨g,0,none⟩),.int .i64 2] (some 21) 0 (curF B g 95 (.slice A code.length cap) code.length) (by kernel_rfl) rfl (by kernel_rfl) rfl (by kernel_rfl) rfl rfl (fun ww b h hb => Nat.le_trans (cutW_le w B) (cur_lo h hb)) (by kernel_rfl) (xcm_cur fun ww hw hf => l1Once_c g code A cap 2 ww B (Nat.le_trans (by first | exact Nat.le_refl _ | exact Nat.le_of_eq (cutW_size hB).symm) hw) (hf (curF B g 95 (.slice A code.length cap) code.length) (by simp)) (hf (slF (.slice A code.length cap) 1 (code.map byteRow)) (by simp)) hap (by omega)  ) ?_
  rintro ⟨y15,hy15⟩
  refine xl_endS [0,2,3,21] [(0,.v (.pointer (some ⟨g,0,none⟩))),(2,.p 0 0),(3,.p 1 0),(21,.v (.bool y15))] (by kernel_rfl) ?_
  refine xw_cond (b := y15) (by kernel_rfl) (fun h16 => ?_) (fun h16 => ?_)
  refine xw_seq ?_
  refine xw_region ?_
  refine xl_end [0,2,3] ⟨[(0,.v (.pointer (some ⟨g,0,none⟩))),(2,.p 0 0),(3,.p 1 0)],[⟨25,[.int .i64 0,.int .i64 0,.bool false,.bool false,.int .i64 0,.int .i64 0]⟩,⟨25,[.int .i64 y5,.int .i64 (-1),.bool y14,.bool true,.int .i64 0,.int .i64 0]⟩],[],[curF B g 95 (.slice A code.length cap) code.length,rowF (cutW w B).heap.size 3 1 (.slice (some ⟨g3,0,none⟩) 6 6) (([536,1460,1300,64,65535,1] : List Int).map intRow),slF (.slice A code.length cap) 1 (code.map byteRow),frF w (fun b => b = g)]⟩ (by kernel_rfl) ?_
  refine xw_seq ?_
  refine xw_region ?_
  refine xl_callWS 1 [0,2,3,23] [(0,.v (.pointer (some ⟨g,0,none⟩))),(2,.p 0 0),(3,.p 1 0),(23,.v (.pointer (some ⟨g,0,none⟩)))] 80 [.pointer (some ⟨g,0,none⟩)] (some 24) 0 (curF B g 95 (.slice A code.length cap) code.length) (by kernel_rfl) rfl (by kernel_rfl) rfl (by kernel_rfl) rfl rfl (fun ww b h hb => Nat.le_trans (cutW_le w B) (cur_lo h hb)) (by kernel_rfl) (xcm_cur fun ww hw hf => l2Deep_c g code A cap  ww B (Nat.le_trans (by first | exact Nat.le_refl _ | exact Nat.le_of_eq (cutW_size hB).symm) hw) (hf (curF B g 95 (.slice A code.length cap) code.length) (by simp)) (hf (slF (.slice A code.length cap) 1 (code.map byteRow)) (by simp)) hap (by omega)  ) ?_
  rintro ⟨y17,hy17⟩
  refine xl_end [0,2,3] ⟨[(0,.v (.pointer (some ⟨g,0,none⟩))),(2,.p 0 0),(3,.p 1 0)],[⟨25,[.int .i64 0,.int .i64 0,.bool false,.bool false,.int .i64 0,.int .i64 0]⟩,⟨25,[.int .i64 y5,.int .i64 (-1),.bool y14,.bool true,.int .i64 y17,.int .i64 0]⟩],[],[curF B g 95 (.slice A code.length cap) code.length,rowF (cutW w B).heap.size 3 1 (.slice (some ⟨g3,0,none⟩) 6 6) (([536,1460,1300,64,65535,1] : List Int).map intRow),slF (.slice A code.length cap) 1 (code.map byteRow),frF w (fun b => b = g)]⟩ (by kernel_rfl) ?_
  refine xw_region ?_
  refine xl_callWS 1 [2,3,26] [(2,.p 0 0),(3,.p 1 0),(26,.v (.pointer (some ⟨g,0,none⟩)))] 80 [.pointer (some ⟨g,0,none⟩)] (some 27) 0 (curF B g 95 (.slice A code.length cap) code.length) (by kernel_rfl) rfl (by kernel_rfl) rfl (by kernel_rfl) rfl rfl (fun ww b h hb => Nat.le_trans (cutW_le w B) (cur_lo h hb)) (by kernel_rfl) (xcm_cur fun ww hw hf => l2Deep_c g code A cap  ww B (Nat.le_trans (by first | exact Nat.le_refl _ | exact Nat.le_of_eq (cutW_size hB).symm) hw) (hf (curF B g 95 (.slice A code.length cap) code.length) (by simp)) (hf (slF (.slice A code.length cap) 1 (code.map byteRow)) (by simp)) hap (by omega)  ) ?_
  rintro ⟨y18,hy18⟩
  refine xl_end [2,3] ⟨[(2,.p 0 0),(3,.p 1 0)],[⟨25,[.int .i64 0,.int .i64 0,.bool false,.bool false,.int .i64 0,.int .i64 0]⟩,⟨25,[.int .i64 y5,.int .i64 (-1),.bool y14,.bool true,.int .i64 y17,.int .i64 y18]⟩],[],[curF B g 95 (.slice A code.length cap) code.length,rowF (cutW w B).heap.size 3 1 (.slice (some ⟨g3,0,none⟩) 6 6) (([536,1460,1300,64,65535,1] : List Int).map intRow),slF (.slice A code.length cap) 1 (code.map byteRow),frF w (fun b => b = g)]⟩ (by kernel_rfl) ?_
  refine xw_seq ?_
  refine xw_region ?_
  refine xl_end [2] ⟨[(2,.p 0 0)],[⟨25,[.int .i64 y5,.int .i64 (-1),.bool y14,.bool true,.int .i64 y17,.int .i64 y18]⟩,⟨25,[.int .i64 y5,.int .i64 (-1),.bool y14,.bool true,.int .i64 y17,.int .i64 y18]⟩],[],[curF B g 95 (.slice A code.length cap) code.length,rowF (cutW w B).heap.size 3 1 (.slice (some ⟨g3,0,none⟩) 6 6) (([536,1460,1300,64,65535,1] : List Int).map intRow),slF (.slice A code.length cap) 1 (code.map byteRow),frF w (fun b => b = g)]⟩ (by kernel_rfl) ?_
  refine xw_ret ?_
  exact ⟨[.agg #[.int .i64 y5,.int .i64 (-1),.bool y14,.bool true,.int .i64 y17,.int .i64 y18]],by kernel_rfl,fun w' hb hf => ⟨⟨⟨y5,(-1),y14,true,y17,y18⟩,trivial⟩,rfl,hf (curF B g 95 (.slice A code.length cap) code.length) (by simp),frF_chgd (hf (frF w (fun b => b = g)) (by simp)) hb rfl rfl rfl⟩⟩
  refine xw_skip ?_
  refine xw_seq ?_
  refine xw_region ?_
  refine xl_end [2] ⟨[(2,.p 0 0)],[⟨25,[.int .i64 y5,.int .i64 (-1),.bool y14,.bool false,.int .i64 0,.int .i64 0]⟩,⟨25,[.int .i64 y5,.int .i64 (-1),.bool y14,.bool false,.int .i64 0,.int .i64 0]⟩],[],[curF B g 95 (.slice A code.length cap) code.length,rowF (cutW w B).heap.size 3 1 (.slice (some ⟨g3,0,none⟩) 6 6) (([536,1460,1300,64,65535,1] : List Int).map intRow),slF (.slice A code.length cap) 1 (code.map byteRow),frF w (fun b => b = g)]⟩ (by kernel_rfl) ?_
  refine xw_ret ?_
  exact ⟨[.agg #[.int .i64 y5,.int .i64 (-1),.bool y14,.bool false,.int .i64 0,.int .i64 0]],by kernel_rfl,fun w' hb hf => ⟨⟨⟨y5,(-1),y14,false,0,0⟩,trivial⟩,rfl,hf (curF B g 95 (.slice A code.length cap) code.length) (by simp),frF_chgd (hf (frF w (fun b => b = g)) (by simp)) hb rfl rfl rfl⟩⟩
  have h2n := not_f h2
  refine xw_skip ?_
  refine xw_seq ?_
  refine xw_seq ?_
  refine xw_region ?_
  refine xl_callWS 1 [0,2,3,12] [(0,.v (.pointer (some ⟨g,0,none⟩))),(2,.p 0 0),(3,.p 1 0),(12,.v (.pointer (some ⟨g,0,none⟩)))] 66 [.pointer (some ⟨g,0,none⟩),.int .i64 2] (some 13) 0 (curF B g 95 (.slice A code.length cap) code.length) (by kernel_rfl) rfl (by kernel_rfl) rfl (by kernel_rfl) rfl rfl (fun ww b h hb => Nat.le_trans (cutW_le w B) (cur_lo h hb)) (by kernel_rfl) (xcm_cur fun ww hw hf => l1Once_c g code A cap 2 ww B (Nat.le_trans (by first | exact Nat.le_refl _ | exact Nat.le_of_eq (cutW_size hB).symm) hw) (hf (curF B g 95 (.slice A code.length cap) code.length) (by simp)) (hf (slF (.slice A code.length cap) 1 (code.map byteRow)) (by simp)) hap (by omega)  ) ?_
  rintro ⟨y19,hy19⟩
  refine xl_endS [0,2,3,13] [(0,.v (.pointer (some ⟨g,0,none⟩))),(2,.p 0 0),(3,.p 1 0),(13,.v (.bool y19))] (by kernel_rfl) ?_
  refine xw_cond (b := y19) (by kernel_rfl) (fun h20 => ?_) (fun h20 => ?_)
  refine xw_region ?_
  refine xl_callWS 1 [0,2,3,14] [(0,.v (.pointer (some ⟨g,0,none⟩))),(2,.p 0 0),(3,.p 1 0),(14,.v (.pointer (some ⟨g,0,none⟩)))] 75 [.pointer (some ⟨g,0,none⟩),.int .i64 15] (some 15) 0 (curF B g 95 (.slice A code.length cap) code.length) (by kernel_rfl) rfl (by kernel_rfl) rfl (by kernel_rfl) rfl rfl (fun ww b h hb => Nat.le_trans (cutW_le w B) (cur_lo h hb)) (by kernel_rfl) (xcm_cur fun ww hw hf => l1Below_c g code A cap 15 ww B (Nat.le_trans (by first | exact Nat.le_refl _ | exact Nat.le_of_eq (cutW_size hB).symm) hw) (hf (curF B g 95 (.slice A code.length cap) code.length) (by simp)) (hf (slF (.slice A code.length cap) 1 (code.map byteRow)) (by simp)) hap (by omega)  ) ?_
  rintro ⟨y21,hy21⟩
  obtain ⟨hy210,hy211⟩ := hy21
  refine xl_end [0,2,3] ⟨[(0,.v (.pointer (some ⟨g,0,none⟩))),(2,.p 0 0),(3,.p 1 0)],[⟨25,[.int .i64 0,.int .i64 0,.bool false,.bool false,.int .i64 0,.int .i64 0]⟩,⟨25,[.int .i64 0,.int .i64 y21,.bool false,.bool false,.int .i64 0,.int .i64 0]⟩],[],[curF B g 95 (.slice A code.length cap) code.length,slF (.slice A code.length cap) 1 (code.map byteRow),frF w (fun b => b = g)]⟩ (by kernel_rfl) ?_
  refine xw_seq ?_
  refine xw_region ?_
  refine xl_callWS 1 [0,2,3,17] [(0,.v (.pointer (some ⟨g,0,none⟩))),(2,.p 0 0),(3,.p 1 0),(17,.v (.pointer (some ⟨g,0,none⟩)))] 66 [.pointer (some ⟨g,0,none⟩),.int .i64 2] (some 18) 0 (curF B g 95 (.slice A code.length cap) code.length) (by kernel_rfl) rfl (by kernel_rfl) rfl (by kernel_rfl) rfl rfl (fun ww b h hb => Nat.le_trans (cutW_le w B) (cur_lo h hb)) (by kernel_rfl) (xcm_cur fun ww hw hf => l1Once_c g code A cap 2 ww B (Nat.le_trans (by first | exact Nat.le_refl _ | exact Nat.le_of_eq (cutW_size hB).symm) hw) (hf (curF B g 95 (.slice A code.length cap) code.length) (by simp)) (hf (slF (.slice A code.length cap) 1 (code.map byteRow)) (by simp)) hap (by omega)  ) ?_
  rintro ⟨y22,hy22⟩
  refine xl_end [0,2,3] ⟨[(0,.v (.pointer (some ⟨g,0,none⟩))),(2,.p 0 0),(3,.p 1 0)],[⟨25,[.int .i64 0,.int .i64 0,.bool false,.bool false,.int .i64 0,.int .i64 0]⟩,⟨25,[.int .i64 0,.int .i64 y21,.bool y22,.bool false,.int .i64 0,.int .i64 0]⟩],[],[curF B g 95 (.slice A code.length cap) code.length,slF (.slice A code.length cap) 1 (code.map byteRow),frF w (fun b => b = g)]⟩ (by kernel_rfl) ?_
  refine xw_seq ?_
  refine xw_seq ?_
  refine xw_region ?_
  refine xl_callWS 1 [0,2,3,20] [(0,.v (.pointer (some ⟨g,0,none⟩))),(2,.p 0 0),(3,.p 1 0),(20,.v (.pointer (some ⟨g,0,none⟩)))] 66 [.pointer (some ⟨g,0,none⟩),.int .i64 2] (some 21) 0 (curF B g 95 (.slice A code.length cap) code.length) (by kernel_rfl) rfl (by kernel_rfl) rfl (by kernel_rfl) rfl rfl (fun ww b h hb => Nat.le_trans (cutW_le w B) (cur_lo h hb)) (by kernel_rfl) (xcm_cur fun ww hw hf => l1Once_c g code A cap 2 ww B (Nat.le_trans (by first | exact Nat.le_refl _ | exact Nat.le_of_eq (cutW_size hB).symm) hw) (hf (curF B g 95 (.slice A code.length cap) code.length) (by simp)) (hf (slF (.slice A code.length cap) 1 (code.map byteRow)) (by simp)) hap (by omega)  ) ?_
  rintro ⟨y23,hy23⟩
  refine xl_endS [0,2,3,21] [(0,.v (.pointer (some ⟨g,0,none⟩))),(2,.p 0 0),(3,.p 1 0),(21,.v (.bool y23))] (by kernel_rfl) ?_
  refine xw_cond (b := y23) (by kernel_rfl) (fun h24 => ?_) (fun h24 => ?_)
  refine xw_seq ?_
  refine xw_region ?_
  refine xl_end [0,2,3] ⟨[(0,.v (.pointer (some ⟨g,0,none⟩))),(2,.p 0 0),(3,.p 1 0)],[⟨25,[.int .i64 0,.int .i64 0,.bool false,.bool false,.int .i64 0,.int .i64 0]⟩,⟨25,[.int .i64 0,.int .i64 y21,.bool y22,.bool true,.int .i64 0,.int .i64 0]⟩],[],[curF B g 95 (.slice A code.length cap) code.length,slF (.slice A code.length cap) 1 (code.map byteRow),frF w (fun b => b = g)]⟩ (by kernel_rfl) ?_
  refine xw_seq ?_
  refine xw_region ?_
  refine xl_callWS 1 [0,2,3,23] [(0,.v (.pointer (some ⟨g,0,none⟩))),(2,.p 0 0),(3,.p 1 0),(23,.v (.pointer (some ⟨g,0,none⟩)))] 80 [.pointer (some ⟨g,0,none⟩)] (some 24) 0 (curF B g 95 (.slice A code.length cap) code.length) (by kernel_rfl) rfl (by kernel_rfl) rfl (by kernel_rfl) rfl rfl (fun ww b h hb => Nat.le_trans (cutW_le w B) (cur_lo h hb)) (by kernel_rfl) (xcm_cur fun ww hw hf => l2Deep_c g code A cap  ww B (Nat.le_trans (by first | exact Nat.le_refl _ | exact Nat.le_of_eq (cutW_size hB).symm) hw) (hf (curF B g 95 (.slice A code.length cap) code.length) (by simp)) (hf (slF (.slice A code.length cap) 1 (code.map byteRow)) (by simp)) hap (by omega)  ) ?_
  rintro ⟨y25,hy25⟩
  refine xl_end [0,2,3] ⟨[(0,.v (.pointer (some ⟨g,0,none⟩))),(2,.p 0 0),(3,.p 1 0)],[⟨25,[.int .i64 0,.int .i64 0,.bool false,.bool false,.int .i64 0,.int .i64 0]⟩,⟨25,[.int .i64 0,.int .i64 y21,.bool y22,.bool true,.int .i64 y25,.int .i64 0]⟩],[],[curF B g 95 (.slice A code.length cap) code.length,slF (.slice A code.length cap) 1 (code.map byteRow),frF w (fun b => b = g)]⟩ (by kernel_rfl) ?_
  refine xw_region ?_
  refine xl_callWS 1 [2,3,26] [(2,.p 0 0),(3,.p 1 0),(26,.v (.pointer (some ⟨g,0,none⟩)))] 80 [.pointer (some ⟨g,0,none⟩)] (some 27) 0 (curF B g 95 (.slice A code.length cap) code.length) (by kernel_rfl) rfl (by kernel_rfl) rfl (by kernel_rfl) rfl rfl (fun ww b h hb => Nat.le_trans (cutW_le w B) (cur_lo h hb)) (by kernel_rfl) (xcm_cur fun ww hw hf => l2Deep_c g code A cap  ww B (Nat.le_trans (by first | exact Nat.le_refl _ | exact Nat.le_of_eq (cutW_size hB).symm) hw) (hf (curF B g 95 (.slice A code.length cap) code.length) (by simp)) (hf (slF (.slice A code.length cap) 1 (code.map byteRow)) (by simp)) hap (by omega)  ) ?_
  rintro ⟨y26,hy26⟩
  refine xl_end [2,3] ⟨[(2,.p 0 0),(3,.p 1 0)],[⟨25,[.int .i64 0,.int .i64 0,.bool false,.bool false,.int .i64 0,.int .i64 0]⟩,⟨25,[.int .i64 0,.int .i64 y21,.bool y22,.bool true,.int .i64 y25,.int .i64 y26]⟩],[],[curF B g 95 (.slice A code.length cap) code.length,slF (.slice A code.length cap) 1 (code.map byteRow),frF w (fun b => b = g)]⟩ (by kernel_rfl) ?_
  refine xw_seq ?_
  refine xw_region ?_
  refine xl_end [2] ⟨[(2,.p 0 0)],[⟨25,[.int .i64 0,.int .i64 y21,.bool y22,.bool true,.int .i64 y25,.int .i64 y26]⟩,⟨25,[.int .i64 0,.int .i64 y21,.bool y22,.bool true,.int .i64 y25,.int .i64 y26]⟩],[],[curF B g 95 (.slice A code.length cap) code.length,slF (.slice A code.length cap) 1 (code.map byteRow),frF w (fun b => b = g)]⟩ (by kernel_rfl) ?_
  refine xw_ret ?_
  exact ⟨[.agg #[.int .i64 0,.int .i64 y21,.bool y22,.bool true,.int .i64 y25,.int .i64 y26]],by kernel_rfl,fun w' hb hf => ⟨⟨⟨0,y21,y22,true,y25,y26⟩,trivial⟩,rfl,hf (curF B g 95 (.slice A code.length cap) code.length) (by simp),frF_chgd (hf (frF w (fun b => b = g)) (by simp)) hb rfl rfl rfl⟩⟩
  refine xw_skip ?_
  refine xw_seq ?_
  refine xw_region ?_
  refine xl_end [2] ⟨[(2,.p 0 0)],[⟨25,[.int .i64 0,.int .i64 y21,.bool y22,.bool false,.int .i64 0,.int .i64 0]⟩,⟨25,[.int .i64 0,.int .i64 y21,.bool y22,.bool false,.int .i64 0,.int .i64 0]⟩],[],[curF B g 95 (.slice A code.length cap) code.length,slF (.slice A code.length cap) 1 (code.map byteRow),frF w (fun b => b = g)]⟩ (by kernel_rfl) ?_
  refine xw_ret ?_
  exact ⟨[.agg #[.int .i64 0,.int .i64 y21,.bool y22,.bool false,.int .i64 0,.int .i64 0]],by kernel_rfl,fun w' hb hf => ⟨⟨⟨0,y21,y22,false,0,0⟩,trivial⟩,rfl,hf (curF B g 95 (.slice A code.length cap) code.length) (by simp),frF_chgd (hf (frF w (fun b => b = g)) (by simp)) hb rfl rfl rfl⟩⟩
  refine xw_skip ?_
  refine xw_seq ?_
  refine xw_region ?_
  refine xl_callWS 1 [0,2,3,17] [(0,.v (.pointer (some ⟨g,0,none⟩))),(2,.p 0 0),(3,.p 1 0),(17,.v (.pointer (some ⟨g,0,none⟩)))] 66 [.pointer (some ⟨g,0,none⟩),.int .i64 2] (some 18) 0 (curF B g 95 (.slice A code.length cap) code.length) (by kernel_rfl) rfl (by kernel_rfl) rfl (by kernel_rfl) rfl rfl (fun ww b h hb => Nat.le_trans (cutW_le w B) (cur_lo h hb)) (by kernel_rfl) (xcm_cur fun ww hw hf => l1Once_c g code A cap 2 ww B (Nat.le_trans (by first | exact Nat.le_refl _ | exact Nat.le_of_eq (cutW_size hB).symm) hw) (hf (curF B g 95 (.slice A code.length cap) code.length) (by simp)) (hf (slF (.slice A code.length cap) 1 (code.map byteRow)) (by simp)) hap (by omega)  ) ?_
  rintro ⟨y27,hy27⟩
  refine xl_end [0,2,3] ⟨[(0,.v (.pointer (some ⟨g,0,none⟩))),(2,.p 0 0),(3,.p 1 0)],[⟨25,[.int .i64 0,.int .i64 0,.bool false,.bool false,.int .i64 0,.int .i64 0]⟩,⟨25,[.int .i64 0,.int .i64 (-1),.bool y27,.bool false,.int .i64 0,.int .i64 0]⟩],[],[curF B g 95 (.slice A code.length cap) code.length,slF (.slice A code.length cap) 1 (code.map byteRow),frF w (fun b => b = g)]⟩ (by kernel_rfl) ?_
  refine xw_seq ?_
  refine xw_seq ?_
  refine xw_region ?_
  refine xl_callWS 1 [0,2,3,20] [(0,.v (.pointer (some ⟨g,0,none⟩))),(2,.p 0 0),(3,.p 1 0),(20,.v (.pointer (some ⟨g,0,none⟩)))] 66 [.pointer (some ⟨g,0,none⟩),.int .i64 2] (some 21) 0 (curF B g 95 (.slice A code.length cap) code.length) (by kernel_rfl) rfl (by kernel_rfl) rfl (by kernel_rfl) rfl rfl (fun ww b h hb => Nat.le_trans (cutW_le w B) (cur_lo h hb)) (by kernel_rfl) (xcm_cur fun ww hw hf => l1Once_c g code A cap 2 ww B (Nat.le_trans (by first | exact Nat.le_refl _ | exact Nat.le_of_eq (cutW_size hB).symm) hw) (hf (curF B g 95 (.slice A code.length cap) code.length) (by simp)) (hf (slF (.slice A code.length cap) 1 (code.map byteRow)) (by simp)) hap (by omega)  ) ?_
  rintro ⟨y28,hy28⟩
  refine xl_endS [0,2,3,21] [(0,.v (.pointer (some ⟨g,0,none⟩))),(2,.p 0 0),(3,.p 1 0),(21,.v (.bool y28))] (by kernel_rfl) ?_
  refine xw_cond (b := y28) (by kernel_rfl) (fun h29 => ?_) (fun h29 => ?_)
  refine xw_seq ?_
  refine xw_region ?_
  refine xl_end [0,2,3] ⟨[(0,.v (.pointer (some ⟨g,0,none⟩))),(2,.p 0 0),(3,.p 1 0)],[⟨25,[.int .i64 0,.int .i64 0,.bool false,.bool false,.int .i64 0,.int .i64 0]⟩,⟨25,[.int .i64 0,.int .i64 (-1),.bool y27,.bool true,.int .i64 0,.int .i64 0]⟩],[],[curF B g 95 (.slice A code.length cap) code.length,slF (.slice A code.length cap) 1 (code.map byteRow),frF w (fun b => b = g)]⟩ (by kernel_rfl) ?_
  refine xw_seq ?_
  refine xw_region ?_
  refine xl_callWS 1 [0,2,3,23] [(0,.v (.pointer (some ⟨g,0,none⟩))),(2,.p 0 0),(3,.p 1 0),(23,.v (.pointer (some ⟨g,0,none⟩)))] 80 [.pointer (some ⟨g,0,none⟩)] (some 24) 0 (curF B g 95 (.slice A code.length cap) code.length) (by kernel_rfl) rfl (by kernel_rfl) rfl (by kernel_rfl) rfl rfl (fun ww b h hb => Nat.le_trans (cutW_le w B) (cur_lo h hb)) (by kernel_rfl) (xcm_cur fun ww hw hf => l2Deep_c g code A cap  ww B (Nat.le_trans (by first | exact Nat.le_refl _ | exact Nat.le_of_eq (cutW_size hB).symm) hw) (hf (curF B g 95 (.slice A code.length cap) code.length) (by simp)) (hf (slF (.slice A code.length cap) 1 (code.map byteRow)) (by simp)) hap (by omega)  ) ?_
  rintro ⟨y30,hy30⟩
  refine xl_end [0,2,3] ⟨[(0,.v (.pointer (some ⟨g,0,none⟩))),(2,.p 0 0),(3,.p 1 0)],[⟨25,[.int .i64 0,.int .i64 0,.bool false,.bool false,.int .i64 0,.int .i64 0]⟩,⟨25,[.int .i64 0,.int .i64 (-1),.bool y27,.bool true,.int .i64 y30,.int .i64 0]⟩],[],[curF B g 95 (.slice A code.length cap) code.length,slF (.slice A code.length cap) 1 (code.map byteRow),frF w (fun b => b = g)]⟩ (by kernel_rfl) ?_
  refine xw_region ?_
  refine xl_callWS 1 [2,3,26] [(2,.p 0 0),(3,.p 1 0),(26,.v (.pointer (some ⟨g,0,none⟩)))] 80 [.pointer (some ⟨g,0,none⟩)] (some 27) 0 (curF B g 95 (.slice A code.length cap) code.length) (by kernel_rfl) rfl (by kernel_rfl) rfl (by kernel_rfl) rfl rfl (fun ww b h hb => Nat.le_trans (cutW_le w B) (cur_lo h hb)) (by kernel_rfl) (xcm_cur fun ww hw hf => l2Deep_c g code A cap  ww B (Nat.le_trans (by first | exact Nat.le_refl _ | exact Nat.le_of_eq (cutW_size hB).symm) hw) (hf (curF B g 95 (.slice A code.length cap) code.length) (by simp)) (hf (slF (.slice A code.length cap) 1 (code.map byteRow)) (by simp)) hap (by omega)  ) ?_
  rintro ⟨y31,hy31⟩
  refine xl_end [2,3] ⟨[(2,.p 0 0),(3,.p 1 0)],[⟨25,[.int .i64 0,.int .i64 0,.bool false,.bool false,.int .i64 0,.int .i64 0]⟩,⟨25,[.int .i64 0,.int .i64 (-1),.bool y27,.bool true,.int .i64 y30,.int .i64 y31]⟩],[],[curF B g 95 (.slice A code.length cap) code.length,slF (.slice A code.length cap) 1 (code.map byteRow),frF w (fun b => b = g)]⟩ (by kernel_rfl) ?_
  refine xw_seq ?_
  refine xw_region ?_
  refine xl_end [2] ⟨[(2,.p 0 0)],[⟨25,[.int .i64 0,.int .i64 (-1),.bool y27,.bool true,.int .i64 y30,.int .i64 y31]⟩,⟨25,[.int .i64 0,.int .i64 (-1),.bool y27,.bool true,.int .i64 y30,.int .i64 y31]⟩],[],[curF B g 95 (.slice A code.length cap) code.length,slF (.slice A code.length cap) 1 (code.map byteRow),frF w (fun b => b = g)]⟩ (by kernel_rfl) ?_
  refine xw_ret ?_
  exact ⟨[.agg #[.int .i64 0,.int .i64 (-1),.bool y27,.bool true,.int .i64 y30,.int .i64 y31]],by kernel_rfl,fun w' hb hf => ⟨⟨⟨0,(-1),y27,true,y30,y31⟩,trivial⟩,rfl,hf (curF B g 95 (.slice A code.length cap) code.length) (by simp),frF_chgd (hf (frF w (fun b => b = g)) (by simp)) hb rfl rfl rfl⟩⟩
  refine xw_skip ?_
  refine xw_seq ?_
  refine xw_region ?_
  refine xl_end [2] ⟨[(2,.p 0 0)],[⟨25,[.int .i64 0,.int .i64 (-1),.bool y27,.bool false,.int .i64 0,.int .i64 0]⟩,⟨25,[.int .i64 0,.int .i64 (-1),.bool y27,.bool false,.int .i64 0,.int .i64 0]⟩],[],[curF B g 95 (.slice A code.length cap) code.length,slF (.slice A code.length cap) 1 (code.map byteRow),frF w (fun b => b = g)]⟩ (by kernel_rfl) ?_
  refine xw_ret ?_
  exact ⟨[.agg #[.int .i64 0,.int .i64 (-1),.bool y27,.bool false,.int .i64 0,.int .i64 0]],by kernel_rfl,fun w' hb hf => ⟨⟨⟨0,(-1),y27,false,0,0⟩,trivial⟩,rfl,hf (curF B g 95 (.slice A code.length cap) code.length) (by simp),frF_chgd (hf (frF w (fun b => b = g)) (by simp)) hb rfl rfl rfl⟩⟩
set_option maxHeartbeats 2000000 in
theorem l8Bent_c (g : Nat) (code : List Int) (A : Option Addr) (cap : Nat)  (w : World) (B : Nat) (hB : B ≤ w.heap.size) (hc : (curF B g 95 (.slice A code.length cap) code.length).p w) (hl : Sl w (.slice A code.length cap) 1 (code.map byteRow)) (hap : ¬ (slF (.slice A code.length cap) 1 (code.map byteRow)).blk g) (hn : code.length ≤ 1048576)  : Calls Try.prog 37 #[.pointer (some ⟨g, 0, none⟩)] w fun e w' => ∃ y : {y : Opt // True}, e = .returned (.agg (optL y.1).toArray) ∧ (curF B g 95 (.slice A code.length cap) code.length).p w' ∧ Chgd (fun b => b = g) w w' := by
  have hq_code := Sl.capLe hl
  refine x_callsM (args := [.pointer (some ⟨g,0,none⟩)]) (fn := Try.f37) [curF B g 95 (.slice A code.length cap) code.length,slF (.slice A code.length cap) 1 (code.map byteRow),frF w (fun b => b = g)] B Try.func37 rfl Try.ntmps37 rfl hB (by simp only [List.mem_cons,List.not_mem_nil,or_false,forall_eq_or_imp,forall_eq]; exact ⟨hc,hl,frF_start w _⟩) (apart_cur hap rfl) ?_
  refine xw_seq ?_
  refine xw_region ?_
  refine xl_end [0,2] ⟨[(0,.v (.pointer (some ⟨g,0,none⟩))),(2,.p 0 0)],[⟨25,[.int .i64 0,.int .i64 0,.bool false,.bool false,.int .i64 0,.int .i64 0]⟩],[],[curF B g 95 (.slice A code.length cap) code.length,slF (.slice A code.length cap) 1 (code.map byteRow),frF w (fun b => b = g)]⟩ (by kernel_rfl) ?_
  refine xw_seq ?_
  refine xw_region ?_
  refine xl_callWS 1 [0,2,4] [(0,.v (.pointer (some ⟨g,0,none⟩))),(2,.p 0 0),(4,.v (.pointer (some ⟨g,0,none⟩)))] 74 [.pointer (some ⟨g,0,none⟩)] (some 5) 0 (curF B g 95 (.slice A code.length cap) code.length) (by kernel_rfl) rfl (by kernel_rfl) rfl (by kernel_rfl) rfl rfl (fun ww b h hb => Nat.le_trans (cutW_le w B) (cur_lo h hb)) (by kernel_rfl) (xcm_cur fun ww hw hf => l8Options_c g code A cap  ww B (Nat.le_trans (by first | exact Nat.le_refl _ | exact Nat.le_of_eq (cutW_size hB).symm) hw) (hf (curF B g 95 (.slice A code.length cap) code.length) (by simp)) (hf (slF (.slice A code.length cap) 1 (code.map byteRow)) (by simp)) hap (by omega)  ) ?_
  rintro ⟨y1,hy1⟩
  refine xl_end [0,2,3] ⟨[(0,.v (.pointer (some ⟨g,0,none⟩))),(2,.p 0 0),(3,.p 1 0)],[⟨25,[.int .i64 0,.int .i64 0,.bool false,.bool false,.int .i64 0,.int .i64 0]⟩,⟨25,optL y1⟩],[],[curF B g 95 (.slice A code.length cap) code.length,slF (.slice A code.length cap) 1 (code.map byteRow),frF w (fun b => b = g)]⟩ (by kernel_rfl) ?_
  refine xw_seq ?_
  refine xw_seq ?_
  refine xw_region ?_
  refine xl_callWS 1 [0,2,3,6] [(0,.v (.pointer (some ⟨g,0,none⟩))),(2,.p 0 0),(3,.p 1 0),(6,.v (.pointer (some ⟨g,0,none⟩)))] 75 [.pointer (some ⟨g,0,none⟩),.int .i64 10] (some 7) 0 (curF B g 95 (.slice A code.length cap) code.length) (by kernel_rfl) rfl (by kernel_rfl) rfl (by kernel_rfl) rfl rfl (fun ww b h hb => Nat.le_trans (cutW_le w B) (cur_lo h hb)) (by kernel_rfl) (xcm_cur fun ww hw hf => l1Below_c g code A cap 10 ww B (Nat.le_trans (by first | exact Nat.le_refl _ | exact Nat.le_of_eq (cutW_size hB).symm) hw) (hf (curF B g 95 (.slice A code.length cap) code.length) (by simp)) (hf (slF (.slice A code.length cap) 1 (code.map byteRow)) (by simp)) hap (by omega)  ) ?_
  rintro ⟨y2,hy2⟩
  obtain ⟨hy20,hy21⟩ := hy2
  refine xl_endS [0,2,3,7] [(0,.v (.pointer (some ⟨g,0,none⟩))),(2,.p 0 0),(3,.p 1 0),(7,.v (.int .i64 y2))] (by kernel_rfl) ?_
  refine xw_block ?_
  refine xw_seq ?_
  refine xw_region ?_
  refine xl_endS [0,2,3,7,8] [(0,.v (.pointer (some ⟨g,0,none⟩))),(2,.p 0 0),(3,.p 1 0),(7,.v (.int .i64 y2)),(8,.v (.bool (y2 == 0)))] (by kernel_rfl) ?_
  refine xw_cond (b := y2 == 0) (by kernel_rfl) (fun h3 => ?_) (fun h3 => ?_)
  have h3p := eqT h3
  refine xw_region ?_
  refine xl_callWS 1 [2,3,10] [(2,.p 0 0),(3,.p 1 0),(10,.v (.pointer (some ⟨g,0,none⟩)))] 67 [.pointer (some ⟨g,0,none⟩)] (some 11) 0 (curF B g 95 (.slice A code.length cap) code.length) (by kernel_rfl) rfl (by kernel_rfl) rfl (by kernel_rfl) rfl rfl (fun ww b h hb => Nat.le_trans (cutW_le w B) (cur_lo h hb)) (by kernel_rfl) (xcm_cur fun ww hw hf => l2Word_c g code A cap  ww B (Nat.le_trans (by first | exact Nat.le_refl _ | exact Nat.le_of_eq (cutW_size hB).symm) hw) (hf (curF B g 95 (.slice A code.length cap) code.length) (by simp)) (hf (slF (.slice A code.length cap) 1 (code.map byteRow)) (by simp)) hap (by omega)  ) ?_
  rintro ⟨y4,hy4⟩
  refine xl_end [2,3] ⟨[(2,.p 0 0),(3,.p 1 0)],[⟨25,[.int .i64 0,.int .i64 0,.bool false,.bool false,.int .i64 0,.int .i64 0]⟩,⟨25,optL { y1 with mss := y4 }⟩],[],[curF B g 95 (.slice A code.length cap) code.length,slF (.slice A code.length cap) 1 (code.map byteRow),frF w (fun b => b = g)]⟩ (by kernel_rfl) ?_
  refine xw_seq ?_
  refine xw_region ?_
  refine xl_end [2] ⟨[(2,.p 0 0)],[⟨25,optL { y1 with mss := y4 }⟩,⟨25,optL { y1 with mss := y4 }⟩],[],[curF B g 95 (.slice A code.length cap) code.length,slF (.slice A code.length cap) 1 (code.map byteRow),frF w (fun b => b = g)]⟩ (by kernel_rfl) ?_
  refine xw_ret ?_
  exact ⟨[.agg (optL { y1 with mss := y4 }).toArray],by kernel_rfl,fun w' hb hf => ⟨⟨{ y1 with mss := y4 },trivial⟩,rfl,hf (curF B g 95 (.slice A code.length cap) code.length) (by simp),frF_chgd (hf (frF w (fun b => b = g)) (by simp)) hb rfl rfl rfl⟩⟩
  have h3p := eqF h3
  refine xw_seq ?_
  refine xw_region ?_
  refine xl_endS [0,2,3,7,13] [(0,.v (.pointer (some ⟨g,0,none⟩))),(2,.p 0 0),(3,.p 1 0),(7,.v (.int .i64 y2)),(13,.v (.bool (y2 == 1)))] (by kernel_rfl) ?_
  refine xw_cond (b := y2 == 1) (by kernel_rfl) (fun h5 => ?_) (fun h5 => ?_)
  have h5p := eqT h5
  refine xw_region ?_
  refine xl_hvS 1 [2,3,15] [(2,.p 0 0),(3,.p 1 0),(15,.v (.pointer (some ⟨g,0,none⟩)))] (by kernel_rfl) rfl (by kernel_rfl) rfl (by kernel_rfl) (hv_build (e := 3) (K := 1) (bytes := 8) [.int .i64 (-2),.int .i64 (-1),.int .i64 14,.int .i64 15] rfl (by kernel_rfl) (by kernel_rfl) (by kernel_rfl) (by kernel_rfl) (by kernel_rfl) (rs := ([(-2),(-1),14,15] : List Int).map intRow) rfl) ?_
  intro g6
  refine xl_know (φ := ¬ (slF (.slice (some ⟨g6,0,none⟩) 4 4) 1 (([(-2),(-1),14,15] : List Int).map intRow)).blk g) (fun _ _ _ _ hr => fun hb => hr.2.apart 0 1 (rowF (cutW w B).heap.size 3 1 (.slice (some ⟨g6,0,none⟩) 4 4) (([(-2),(-1),14,15] : List Int).map intRow)) (curF B g 95 (.slice A code.length cap) code.length) rfl rfl (by decide) rfl g (rowF_sblk hb) rfl) (fun hk7 => ?_)
  refine xl_callWS 0 [2,3,15,16] [(2,.p 0 0),(3,.p 1 0),(15,.v (.pointer (some ⟨g,0,none⟩))),(16,.v (.slice (some ⟨g6,0,none⟩) 4 4))] 52 [.pointer (some ⟨g,0,none⟩),.slice (some ⟨g6,0,none⟩) 4 4] (some 17) 1 (curF B g 95 (.slice A code.length cap) code.length) (by kernel_rfl) rfl (by kernel_rfl) rfl (by kernel_rfl) rfl rfl (fun ww b h hb => Nat.le_trans (cutW_le w B) (cur_lo h hb)) (by kernel_rfl) (xcm_cur fun ww hw hf => l1PickInt_c g code A cap ([(-2),(-1),14,15] : List Int) (.slice (some ⟨g6,0,none⟩) 4 4) ww B (Nat.le_trans (by first | exact Nat.le_refl _ | exact Nat.le_of_eq (cutW_size hB).symm) hw) (hf (curF B g 95 (.slice A code.length cap) code.length) (by simp)) (hf (slF (.slice A code.length cap) 1 (code.map byteRow)) (by simp)) hap (by omega) (rowF_sl (hf (rowF (cutW w B).heap.size 3 1 (.slice (some ⟨g6,0,none⟩) 4 4) (([(-2),(-1),14,15] : List Int).map intRow)) (by simp))) hk7 (by simp)) ?_
  rintro ⟨y8,hy8⟩
  refine xl_end [2,3] ⟨[(2,.p 0 0),(3,.p 1 0)],[⟨25,[.int .i64 0,.int .i64 0,.bool false,.bool false,.int .i64 0,.int .i64 0]⟩,⟨25,optL { y1 with scale := y8 }⟩],[],[curF B g 95 (.slice A code.length cap) code.length,rowF (cutW w B).heap.size 3 1 (.slice (some ⟨g6,0,none⟩) 4 4) (([(-2),(-1),14,15] : List Int).map intRow),slF (.slice A code.length cap) 1 (code.map byteRow),frF w (fun b => b = g)]⟩ (by kernel_rfl) ?_
  refine xw_seq ?_
  refine xw_region ?_
  refine xl_end [2] ⟨[(2,.p 0 0)],[⟨25,optL { y1 with scale := y8 }⟩,⟨25,optL { y1 with scale := y8 }⟩],[],[curF B g 95 (.slice A code.length cap) code.length,rowF (cutW w B).heap.size 3 1 (.slice (some ⟨g6,0,none⟩) 4 4) (([(-2),(-1),14,15] : List Int).map intRow),slF (.slice A code.length cap) 1 (code.map byteRow),frF w (fun b => b = g)]⟩ (by kernel_rfl) ?_
  refine xw_ret ?_
  exact ⟨[.agg (optL { y1 with scale := y8 }).toArray],by kernel_rfl,fun w' hb hf => ⟨⟨{ y1 with scale := y8 },trivial⟩,rfl,hf (curF B g 95 (.slice A code.length cap) code.length) (by simp),frF_chgd (hf (frF w (fun b => b = g)) (by simp)) hb rfl rfl rfl⟩⟩
  have h5p := eqF h5
  refine xw_seq ?_
  refine xw_region ?_
  refine xl_endS [0,2,3,7,19] [(0,.v (.pointer (some ⟨g,0,none⟩))),(2,.p 0 0),(3,.p 1 0),(7,.v (.int .i64 y2)),(19,.v (.bool (y2 == 2)))] (by kernel_rfl) ?_
  refine xw_cond (b := y2 == 2) (by kernel_rfl) (fun h9 => ?_) (fun h9 => ?_)
  have h9p := eqT h9
  refine xw_region ?_
  refine xl_end [2,3] ⟨[(2,.p 0 0),(3,.p 1 0)],[⟨25,[.int .i64 0,.int .i64 0,.bool false,.bool false,.int .i64 0,.int .i64 0]⟩,⟨25,optL { y1 with stamp := !y1.stamp }⟩],[],[curF B g 95 (.slice A code.length cap) code.length,slF (.slice A code.length cap) 1 (code.map byteRow),frF w (fun b => b = g)]⟩ (by kernel_rfl) ?_
  refine xw_seq ?_
  refine xw_region ?_
  refine xl_end [2] ⟨[(2,.p 0 0)],[⟨25,optL { y1 with stamp := !y1.stamp }⟩,⟨25,optL { y1 with stamp := !y1.stamp }⟩],[],[curF B g 95 (.slice A code.length cap) code.length,slF (.slice A code.length cap) 1 (code.map byteRow),frF w (fun b => b = g)]⟩ (by kernel_rfl) ?_
  refine xw_ret ?_
  exact ⟨[.agg (optL { y1 with stamp := !y1.stamp }).toArray],by kernel_rfl,fun w' hb hf => ⟨⟨{ y1 with stamp := !y1.stamp },trivial⟩,rfl,hf (curF B g 95 (.slice A code.length cap) code.length) (by simp),frF_chgd (hf (frF w (fun b => b = g)) (by simp)) hb rfl rfl rfl⟩⟩
  have h9p := eqF h9
  refine xw_seq ?_
  refine xw_region ?_
  refine xl_endS [0,2,3,25] [(0,.v (.pointer (some ⟨g,0,none⟩))),(2,.p 0 0),(3,.p 1 0),(25,.v (.bool (y2 == 3)))] (by kernel_rfl) ?_
  refine xw_cond (b := y2 == 3) (by kernel_rfl) (fun h10 => ?_) (fun h10 => ?_)
  have h10p := eqT h10
  refine xw_region ?_
  refine xl_callWS 1 [2,3,27] [(2,.p 0 0),(3,.p 1 0),(27,.v (.pointer (some ⟨g,0,none⟩)))] 67 [.pointer (some ⟨g,0,none⟩)] (some 28) 0 (curF B g 95 (.slice A code.length cap) code.length) (by kernel_rfl) rfl (by kernel_rfl) rfl (by kernel_rfl) rfl rfl (fun ww b h hb => Nat.le_trans (cutW_le w B) (cur_lo h hb)) (by kernel_rfl) (xcm_cur fun ww hw hf => l2Word_c g code A cap  ww B (Nat.le_trans (by first | exact Nat.le_refl _ | exact Nat.le_of_eq (cutW_size hB).symm) hw) (hf (curF B g 95 (.slice A code.length cap) code.length) (by simp)) (hf (slF (.slice A code.length cap) 1 (code.map byteRow)) (by simp)) hap (by omega)  ) ?_
  rintro ⟨y11,hy11⟩
  refine xl_end [2,3] ⟨[(2,.p 0 0),(3,.p 1 0)],[⟨25,[.int .i64 0,.int .i64 0,.bool false,.bool false,.int .i64 0,.int .i64 0]⟩,⟨25,optL { y1 with val := y11 }⟩],[],[curF B g 95 (.slice A code.length cap) code.length,slF (.slice A code.length cap) 1 (code.map byteRow),frF w (fun b => b = g)]⟩ (by kernel_rfl) ?_
  refine xw_seq ?_
  refine xw_region ?_
  refine xl_end [2] ⟨[(2,.p 0 0)],[⟨25,optL { y1 with val := y11 }⟩,⟨25,optL { y1 with val := y11 }⟩],[],[curF B g 95 (.slice A code.length cap) code.length,slF (.slice A code.length cap) 1 (code.map byteRow),frF w (fun b => b = g)]⟩ (by kernel_rfl) ?_
  refine xw_ret ?_
  exact ⟨[.agg (optL { y1 with val := y11 }).toArray],by kernel_rfl,fun w' hb hf => ⟨⟨{ y1 with val := y11 },trivial⟩,rfl,hf (curF B g 95 (.slice A code.length cap) code.length) (by simp),frF_chgd (hf (frF w (fun b => b = g)) (by simp)) hb rfl rfl rfl⟩⟩
  have h10p := eqF h10
  refine xw_skip ?_
  refine xw_seq ?_
  refine xw_region ?_
  refine xl_end [2] ⟨[(2,.p 0 0)],[⟨25,optL y1⟩,⟨25,optL y1⟩],[],[curF B g 95 (.slice A code.length cap) code.length,slF (.slice A code.length cap) 1 (code.map byteRow),frF w (fun b => b = g)]⟩ (by kernel_rfl) ?_
  refine xw_ret ?_
  exact ⟨[.agg (optL y1).toArray],by kernel_rfl,fun w' hb hf => ⟨⟨y1,trivial⟩,rfl,hf (curF B g 95 (.slice A code.length cap) code.length) (by simp),frF_chgd (hf (frF w (fun b => b = g)) (by simp)) hb rfl rfl rfl⟩⟩
set_option maxHeartbeats 2000000 in
theorem l12Tuple_c (g : Nat) (code : List Int) (A : Option Addr) (cap : Nat)  (w : World) (B : Nat) (hB : B ≤ w.heap.size) (hc : (curF B g 95 (.slice A code.length cap) code.length).p w) (hl : Sl w (.slice A code.length cap) 1 (code.map byteRow)) (hap : ¬ (slF (.slice A code.length cap) 1 (code.map byteRow)).blk g) (hn : code.length ≤ 1048576)  : Calls Try.prog 78 #[.pointer (some ⟨g, 0, none⟩)] w fun e w' => ∃ y : {y : Tup // True}, e = .returned (.agg (tupL y.1).toArray) ∧ (curF B g 95 (.slice A code.length cap) code.length).p w' ∧ Chgd (fun b => b = g) w w' := by
  have hq_code := Sl.capLe hl
  refine x_callsM (args := [.pointer (some ⟨g,0,none⟩)]) (fn := Try.f78) [curF B g 95 (.slice A code.length cap) code.length,slF (.slice A code.length cap) 1 (code.map byteRow),frF w (fun b => b = g)] B Try.func78 rfl Try.ntmps78 rfl hB (by simp only [List.mem_cons,List.not_mem_nil,or_false,forall_eq_or_imp,forall_eq]; exact ⟨hc,hl,frF_start w _⟩) (apart_cur hap rfl) ?_
  refine xw_seq ?_
  refine xw_region ?_
  refine xl_end [0,2] ⟨[(0,.v (.pointer (some ⟨g,0,none⟩))),(2,.p 0 0)],[⟨36,tupL (⟨0,0,0⟩ : Tup)⟩],[],[curF B g 95 (.slice A code.length cap) code.length,slF (.slice A code.length cap) 1 (code.map byteRow),frF w (fun b => b = g)]⟩ (by kernel_rfl) ?_
  refine xw_seq ?_
  refine xw_region ?_
  refine xl_callWS 1 [0,2,3] [(0,.v (.pointer (some ⟨g,0,none⟩))),(2,.p 0 0),(3,.v (.pointer (some ⟨g,0,none⟩)))] 86 [.pointer (some ⟨g,0,none⟩)] (some 4) 0 (curF B g 95 (.slice A code.length cap) code.length) (by kernel_rfl) rfl (by kernel_rfl) rfl (by kernel_rfl) rfl rfl (fun ww b h hb => Nat.le_trans (cutW_le w B) (cur_lo h hb)) (by kernel_rfl) (xcm_cur fun ww hw hf => l6Ip_c g code A cap  ww B (Nat.le_trans (by first | exact Nat.le_refl _ | exact Nat.le_of_eq (cutW_size hB).symm) hw) (hf (curF B g 95 (.slice A code.length cap) code.length) (by simp)) (hf (slF (.slice A code.length cap) 1 (code.map byteRow)) (by simp)) hap (by omega)  ) ?_
  rintro ⟨y1,hy1⟩
  refine xl_hvS 1 [2,4,5] [(2,.p 0 0),(4,.v (.int .i64 y1)),(5,.v (.pointer (some ⟨g,0,none⟩)))] (by kernel_rfl) rfl (by kernel_rfl) rfl (by kernel_rfl) (hv_build (e := 3) (K := 1) (bytes := 8) [.int .i64 40000,.int .i64 40001,.int .i64 40002] rfl (by kernel_rfl) (by kernel_rfl) (by kernel_rfl) (by kernel_rfl) (by kernel_rfl) (rs := ([40000,40001,40002] : List Int).map intRow) rfl) ?_
  intro g2
  refine xl_know (φ := ¬ (slF (.slice (some ⟨g2,0,none⟩) 3 3) 1 (([40000,40001,40002] : List Int).map intRow)).blk g) (fun _ _ _ _ hr => fun hb => hr.2.apart 0 1 (rowF (cutW w B).heap.size 3 1 (.slice (some ⟨g2,0,none⟩) 3 3) (([40000,40001,40002] : List Int).map intRow)) (curF B g 95 (.slice A code.length cap) code.length) rfl rfl (by decide) rfl g (rowF_sblk hb) rfl) (fun hk3 => ?_)
  refine xl_callWS 0 [2,4,5,6] [(2,.p 0 0),(4,.v (.int .i64 y1)),(5,.v (.pointer (some ⟨g,0,none⟩))),(6,.v (.slice (some ⟨g2,0,none⟩) 3 3))] 52 [.pointer (some ⟨g,0,none⟩),.slice (some ⟨g2,0,none⟩) 3 3] (some 7) 1 (curF B g 95 (.slice A code.length cap) code.length) (by kernel_rfl) rfl (by kernel_rfl) rfl (by kernel_rfl) rfl rfl (fun ww b h hb => Nat.le_trans (cutW_le w B) (cur_lo h hb)) (by kernel_rfl) (xcm_cur fun ww hw hf => l1PickInt_c g code A cap ([40000,40001,40002] : List Int) (.slice (some ⟨g2,0,none⟩) 3 3) ww B (Nat.le_trans (by first | exact Nat.le_refl _ | exact Nat.le_of_eq (cutW_size hB).symm) hw) (hf (curF B g 95 (.slice A code.length cap) code.length) (by simp)) (hf (slF (.slice A code.length cap) 1 (code.map byteRow)) (by simp)) hap (by omega) (rowF_sl (hf (rowF (cutW w B).heap.size 3 1 (.slice (some ⟨g2,0,none⟩) 3 3) (([40000,40001,40002] : List Int).map intRow)) (by simp))) hk3 (by simp)) ?_
  rintro ⟨y4,hy4⟩
  refine xl_opS 0 [2,4,7] [(2,.p 0 0),(4,.v (.int .i64 y1)),(7,.v (.int .i64 y4))] (.agg (tupL (⟨y1,y4,80⟩ : Tup)).toArray) (by kernel_rfl) rfl (by kernel_rfl) rfl (fun _ _ _ ww hr => act_build [(0,.int .i64 y1),(1,.int .i64 y4),(2,.int .i64 80)] hr.1 rfl (by kernel_rfl) (by kernel_rfl) ww) ?_
  refine xl_end [2] ⟨[(2,.p 0 0)],[⟨36,tupL (⟨y1,y4,80⟩ : Tup)⟩],[],[curF B g 95 (.slice A code.length cap) code.length,rowF (cutW w B).heap.size 3 1 (.slice (some ⟨g2,0,none⟩) 3 3) (([40000,40001,40002] : List Int).map intRow),slF (.slice A code.length cap) 1 (code.map byteRow),frF w (fun b => b = g)]⟩ (by kernel_rfl) ?_
  refine xw_ret ?_
  exact ⟨[.agg (tupL (⟨y1,y4,80⟩ : Tup)).toArray],by kernel_rfl,fun w' hb hf => ⟨⟨⟨y1,y4,80⟩,trivial⟩,rfl,hf (curF B g 95 (.slice A code.length cap) code.length) (by simp),frF_chgd (hf (frF w (fun b => b = g)) (by simp)) hb rfl rfl rfl⟩⟩
set_option maxHeartbeats 2000000 in
theorem l12Bent_c (g : Nat) (code : List Int) (A : Option Addr) (cap : Nat)  (w : World) (B : Nat) (hB : B ≤ w.heap.size) (hc : (curF B g 95 (.slice A code.length cap) code.length).p w) (hl : Sl w (.slice A code.length cap) 1 (code.map byteRow)) (hap : ¬ (slF (.slice A code.length cap) 1 (code.map byteRow)).blk g) (hn : code.length ≤ 1048576)  : Calls Try.prog 50 #[.pointer (some ⟨g, 0, none⟩)] w fun e w' => ∃ y : {y : Tup // True}, e = .returned (.agg (tupL y.1).toArray) ∧ (curF B g 95 (.slice A code.length cap) code.length).p w' ∧ Chgd (fun b => b = g) w w' := by
  have hq_code := Sl.capLe hl
  refine x_callsM (args := [.pointer (some ⟨g,0,none⟩)]) (fn := Try.f50) [curF B g 95 (.slice A code.length cap) code.length,slF (.slice A code.length cap) 1 (code.map byteRow),frF w (fun b => b = g)] B Try.func50 rfl Try.ntmps50 rfl hB (by simp only [List.mem_cons,List.not_mem_nil,or_false,forall_eq_or_imp,forall_eq]; exact ⟨hc,hl,frF_start w _⟩) (apart_cur hap rfl) ?_
  refine xw_seq ?_
  refine xw_region ?_
  refine xl_end [0,2] ⟨[(0,.v (.pointer (some ⟨g,0,none⟩))),(2,.p 0 0)],[⟨36,tupL (⟨0,0,0⟩ : Tup)⟩],[],[curF B g 95 (.slice A code.length cap) code.length,slF (.slice A code.length cap) 1 (code.map byteRow),frF w (fun b => b = g)]⟩ (by kernel_rfl) ?_
  refine xw_seq ?_
  refine xw_region ?_
  refine xl_callWS 1 [0,2,4] [(0,.v (.pointer (some ⟨g,0,none⟩))),(2,.p 0 0),(4,.v (.pointer (some ⟨g,0,none⟩)))] 78 [.pointer (some ⟨g,0,none⟩)] (some 5) 0 (curF B g 95 (.slice A code.length cap) code.length) (by kernel_rfl) rfl (by kernel_rfl) rfl (by kernel_rfl) rfl rfl (fun ww b h hb => Nat.le_trans (cutW_le w B) (cur_lo h hb)) (by kernel_rfl) (xcm_cur fun ww hw hf => l12Tuple_c g code A cap  ww B (Nat.le_trans (by first | exact Nat.le_refl _ | exact Nat.le_of_eq (cutW_size hB).symm) hw) (hf (curF B g 95 (.slice A code.length cap) code.length) (by simp)) (hf (slF (.slice A code.length cap) 1 (code.map byteRow)) (by simp)) hap (by omega)  ) ?_
  rintro ⟨y1,hy1⟩
  refine xl_end [0,2,3] ⟨[(0,.v (.pointer (some ⟨g,0,none⟩))),(2,.p 0 0),(3,.p 1 0)],[⟨36,tupL (⟨0,0,0⟩ : Tup)⟩,⟨36,tupL y1⟩],[],[curF B g 95 (.slice A code.length cap) code.length,slF (.slice A code.length cap) 1 (code.map byteRow),frF w (fun b => b = g)]⟩ (by kernel_rfl) ?_
  refine xw_seq ?_
  refine xw_seq ?_
  refine xw_region ?_
  refine xl_callWS 1 [0,2,3,6] [(0,.v (.pointer (some ⟨g,0,none⟩))),(2,.p 0 0),(3,.p 1 0),(6,.v (.pointer (some ⟨g,0,none⟩)))] 75 [.pointer (some ⟨g,0,none⟩),.int .i64 10] (some 7) 0 (curF B g 95 (.slice A code.length cap) code.length) (by kernel_rfl) rfl (by kernel_rfl) rfl (by kernel_rfl) rfl rfl (fun ww b h hb => Nat.le_trans (cutW_le w B) (cur_lo h hb)) (by kernel_rfl) (xcm_cur fun ww hw hf => l1Below_c g code A cap 10 ww B (Nat.le_trans (by first | exact Nat.le_refl _ | exact Nat.le_of_eq (cutW_size hB).symm) hw) (hf (curF B g 95 (.slice A code.length cap) code.length) (by simp)) (hf (slF (.slice A code.length cap) 1 (code.map byteRow)) (by simp)) hap (by omega)  ) ?_
  rintro ⟨y2,hy2⟩
  obtain ⟨hy20,hy21⟩ := hy2
  refine xl_endS [0,2,3,7] [(0,.v (.pointer (some ⟨g,0,none⟩))),(2,.p 0 0),(3,.p 1 0),(7,.v (.int .i64 y2))] (by kernel_rfl) ?_
  refine xw_block ?_
  refine xw_seq ?_
  refine xw_region ?_
  refine xl_endS [0,2,3,7,8] [(0,.v (.pointer (some ⟨g,0,none⟩))),(2,.p 0 0),(3,.p 1 0),(7,.v (.int .i64 y2)),(8,.v (.bool (y2 == 0)))] (by kernel_rfl) ?_
  refine xw_cond (b := y2 == 0) (by kernel_rfl) (fun h3 => ?_) (fun h3 => ?_)
  have h3p := eqT h3
  refine xw_region ?_
  refine xl_callWS 1 [2,3,10] [(2,.p 0 0),(3,.p 1 0),(10,.v (.pointer (some ⟨g,0,none⟩)))] 67 [.pointer (some ⟨g,0,none⟩)] (some 11) 0 (curF B g 95 (.slice A code.length cap) code.length) (by kernel_rfl) rfl (by kernel_rfl) rfl (by kernel_rfl) rfl rfl (fun ww b h hb => Nat.le_trans (cutW_le w B) (cur_lo h hb)) (by kernel_rfl) (xcm_cur fun ww hw hf => l2Word_c g code A cap  ww B (Nat.le_trans (by first | exact Nat.le_refl _ | exact Nat.le_of_eq (cutW_size hB).symm) hw) (hf (curF B g 95 (.slice A code.length cap) code.length) (by simp)) (hf (slF (.slice A code.length cap) 1 (code.map byteRow)) (by simp)) hap (by omega)  ) ?_
  rintro ⟨y4,hy4⟩
  refine xl_end [2,3] ⟨[(2,.p 0 0),(3,.p 1 0)],[⟨36,tupL (⟨0,0,0⟩ : Tup)⟩,⟨36,tupL { y1 with ip := y4 }⟩],[],[curF B g 95 (.slice A code.length cap) code.length,slF (.slice A code.length cap) 1 (code.map byteRow),frF w (fun b => b = g)]⟩ (by kernel_rfl) ?_
  refine xw_seq ?_
  refine xw_region ?_
  refine xl_end [2] ⟨[(2,.p 0 0)],[⟨36,tupL { y1 with ip := y4 }⟩,⟨36,tupL { y1 with ip := y4 }⟩],[],[curF B g 95 (.slice A code.length cap) code.length,slF (.slice A code.length cap) 1 (code.map byteRow),frF w (fun b => b = g)]⟩ (by kernel_rfl) ?_
  refine xw_ret ?_
  exact ⟨[.agg (tupL { y1 with ip := y4 }).toArray],by kernel_rfl,fun w' hb hf => ⟨⟨{ y1 with ip := y4 },trivial⟩,rfl,hf (curF B g 95 (.slice A code.length cap) code.length) (by simp),frF_chgd (hf (frF w (fun b => b = g)) (by simp)) hb rfl rfl rfl⟩⟩
  have h3p := eqF h3
  refine xw_seq ?_
  refine xw_region ?_
  refine xl_endS [0,2,3,7,13] [(0,.v (.pointer (some ⟨g,0,none⟩))),(2,.p 0 0),(3,.p 1 0),(7,.v (.int .i64 y2)),(13,.v (.bool (y2 == 1)))] (by kernel_rfl) ?_
  refine xw_cond (b := y2 == 1) (by kernel_rfl) (fun h5 => ?_) (fun h5 => ?_)
  have h5p := eqT h5
  refine xw_region ?_
  refine xl_callWS 1 [2,3,15] [(2,.p 0 0),(3,.p 1 0),(15,.v (.pointer (some ⟨g,0,none⟩)))] 67 [.pointer (some ⟨g,0,none⟩)] (some 16) 0 (curF B g 95 (.slice A code.length cap) code.length) (by kernel_rfl) rfl (by kernel_rfl) rfl (by kernel_rfl) rfl rfl (fun ww b h hb => Nat.le_trans (cutW_le w B) (cur_lo h hb)) (by kernel_rfl) (xcm_cur fun ww hw hf => l2Word_c g code A cap  ww B (Nat.le_trans (by first | exact Nat.le_refl _ | exact Nat.le_of_eq (cutW_size hB).symm) hw) (hf (curF B g 95 (.slice A code.length cap) code.length) (by simp)) (hf (slF (.slice A code.length cap) 1 (code.map byteRow)) (by simp)) hap (by omega)  ) ?_
  rintro ⟨y6,hy6⟩
  refine xl_end [2,3] ⟨[(2,.p 0 0),(3,.p 1 0)],[⟨36,tupL (⟨0,0,0⟩ : Tup)⟩,⟨36,tupL { y1 with port := y6 }⟩],[],[curF B g 95 (.slice A code.length cap) code.length,slF (.slice A code.length cap) 1 (code.map byteRow),frF w (fun b => b = g)]⟩ (by kernel_rfl) ?_
  refine xw_seq ?_
  refine xw_region ?_
  refine xl_end [2] ⟨[(2,.p 0 0)],[⟨36,tupL { y1 with port := y6 }⟩,⟨36,tupL { y1 with port := y6 }⟩],[],[curF B g 95 (.slice A code.length cap) code.length,slF (.slice A code.length cap) 1 (code.map byteRow),frF w (fun b => b = g)]⟩ (by kernel_rfl) ?_
  refine xw_ret ?_
  exact ⟨[.agg (tupL { y1 with port := y6 }).toArray],by kernel_rfl,fun w' hb hf => ⟨⟨{ y1 with port := y6 },trivial⟩,rfl,hf (curF B g 95 (.slice A code.length cap) code.length) (by simp),frF_chgd (hf (frF w (fun b => b = g)) (by simp)) hb rfl rfl rfl⟩⟩
  have h5p := eqF h5
  refine xw_seq ?_
  refine xw_region ?_
  refine xl_endS [0,2,3,18] [(0,.v (.pointer (some ⟨g,0,none⟩))),(2,.p 0 0),(3,.p 1 0),(18,.v (.bool (y2 == 2)))] (by kernel_rfl) ?_
  refine xw_cond (b := y2 == 2) (by kernel_rfl) (fun h7 => ?_) (fun h7 => ?_)
  have h7p := eqT h7
  refine xw_region ?_
  refine xl_callWS 1 [2,3,20] [(2,.p 0 0),(3,.p 1 0),(20,.v (.pointer (some ⟨g,0,none⟩)))] 67 [.pointer (some ⟨g,0,none⟩)] (some 21) 0 (curF B g 95 (.slice A code.length cap) code.length) (by kernel_rfl) rfl (by kernel_rfl) rfl (by kernel_rfl) rfl rfl (fun ww b h hb => Nat.le_trans (cutW_le w B) (cur_lo h hb)) (by kernel_rfl) (xcm_cur fun ww hw hf => l2Word_c g code A cap  ww B (Nat.le_trans (by first | exact Nat.le_refl _ | exact Nat.le_of_eq (cutW_size hB).symm) hw) (hf (curF B g 95 (.slice A code.length cap) code.length) (by simp)) (hf (slF (.slice A code.length cap) 1 (code.map byteRow)) (by simp)) hap (by omega)  ) ?_
  rintro ⟨y8,hy8⟩
  refine xl_end [2,3] ⟨[(2,.p 0 0),(3,.p 1 0)],[⟨36,tupL (⟨0,0,0⟩ : Tup)⟩,⟨36,tupL { y1 with my := y8 }⟩],[],[curF B g 95 (.slice A code.length cap) code.length,slF (.slice A code.length cap) 1 (code.map byteRow),frF w (fun b => b = g)]⟩ (by kernel_rfl) ?_
  refine xw_seq ?_
  refine xw_region ?_
  refine xl_end [2] ⟨[(2,.p 0 0)],[⟨36,tupL { y1 with my := y8 }⟩,⟨36,tupL { y1 with my := y8 }⟩],[],[curF B g 95 (.slice A code.length cap) code.length,slF (.slice A code.length cap) 1 (code.map byteRow),frF w (fun b => b = g)]⟩ (by kernel_rfl) ?_
  refine xw_ret ?_
  exact ⟨[.agg (tupL { y1 with my := y8 }).toArray],by kernel_rfl,fun w' hb hf => ⟨⟨{ y1 with my := y8 },trivial⟩,rfl,hf (curF B g 95 (.slice A code.length cap) code.length) (by simp),frF_chgd (hf (frF w (fun b => b = g)) (by simp)) hb rfl rfl rfl⟩⟩
  have h7p := eqF h7
  refine xw_skip ?_
  refine xw_seq ?_
  refine xw_region ?_
  refine xl_end [2] ⟨[(2,.p 0 0)],[⟨36,tupL y1⟩,⟨36,tupL y1⟩],[],[curF B g 95 (.slice A code.length cap) code.length,slF (.slice A code.length cap) 1 (code.map byteRow),frF w (fun b => b = g)]⟩ (by kernel_rfl) ?_
  refine xw_ret ?_
  exact ⟨[.agg (tupL y1).toArray],by kernel_rfl,fun w' hb hf => ⟨⟨y1,trivial⟩,rfl,hf (curF B g 95 (.slice A code.length cap) code.length) (by simp),frF_chgd (hf (frF w (fun b => b = g)) (by simp)) hb rfl rfl rfl⟩⟩
set_option maxHeartbeats 2000000 in
theorem drawConnNew_c (code : List Int) (A : Option Addr) (cap : Nat) (w : World) (hl : Sl w (.slice A code.length cap) 1 (code.map byteRow)) (hn : code.length ≤ 1048576) : Calls Try.prog 17 #[.slice A code.length cap] w fun e w' => ∃ y : Tup × Int × Int × Opt × Int, e = .returned (.tuple #[.agg (tupL y.1).toArray, .int .i64 y.2.1, .int .i64 y.2.2.1, .agg (optL y.2.2.2.1).toArray, .int .i64 y.2.2.2.2]) ∧ True ∧ Below w.heap.size w w' := by
  have hq_code := Sl.capLe hl
  refine x_calls (args := [.slice A code.length cap]) (fn := Try.f17) [slF (.slice A code.length cap) 1 (code.map byteRow)] Try.func17 rfl Try.ntmps17 rfl (by simp only [List.mem_cons,List.not_mem_nil,or_false,forall_eq]; exact ⟨rfl,hl⟩) ?_
  refine xw_seq ?_
  refine xw_region ?_
  refine xl_end [0,2,5] ⟨[(0,.v (.slice A code.length cap)),(2,.p 0 0),(5,.p 1 0)],[⟨36,tupL (⟨0,0,0⟩ : Tup)⟩,⟨25,[.int .i64 0,.int .i64 0,.bool false,.bool false,.int .i64 0,.int .i64 0]⟩],[],[slF (.slice A code.length cap) 1 (code.map byteRow)]⟩ (by kernel_rfl) ?_
  refine xw_seq ?_
  refine xw_region ?_
  refine xl_callS 1 [2,5,8] [(2,.p 0 0),(5,.p 1 0),(8,.v (.slice A code.length cap))] 38 [.slice A code.length cap] (some 9) (by kernel_rfl) rfl (by kernel_rfl) rfl (by kernel_rfl) (xc_new fun ww hw hf => l1New_c code A cap ww (hf (slF (.slice A code.length cap) 1 (code.map byteRow)) (by simp)) (by omega)) ?_
  rintro ⟨g1,hapg1⟩
  refine xl_endS [2,5,7] [(2,.p 0 0),(5,.p 1 0),(7,.v (.pointer (some ⟨g1,0,none⟩)))] (by kernel_rfl) ?_
  refine xw_seq ?_
  refine xw_region ?_
  refine xl_callWS 1 [2,5,7,10] [(2,.p 0 0),(5,.p 1 0),(7,.v (.pointer (some ⟨g1,0,none⟩))),(10,.v (.pointer (some ⟨g1,0,none⟩)))] 50 [.pointer (some ⟨g1,0,none⟩)] (some 11) 0 (curF w.heap.size g1 95 (.slice A code.length cap) code.length) (by kernel_rfl) rfl (by kernel_rfl) rfl (by kernel_rfl) rfl rfl (fun ww b h hb => cur_lo h hb) (by kernel_rfl) (xcm_cur fun ww hw hf => l12Bent_c g1 code A cap  ww w.heap.size hw (hf (curF w.heap.size g1 95 (.slice A code.length cap) code.length) (by simp)) (hf (slF (.slice A code.length cap) 1 (code.map byteRow)) (by simp)) hapg1 (by omega)  ) ?_
  rintro ⟨y2,hy2⟩
  refine xl_callWS 1 [2,5,7,11,12] [(2,.p 0 0),(5,.p 1 0),(7,.v (.pointer (some ⟨g1,0,none⟩))),(11,.v (.agg (tupL y2).toArray)),(12,.v (.pointer (some ⟨g1,0,none⟩)))] 51 [.pointer (some ⟨g1,0,none⟩)] (some 13) 0 (curF w.heap.size g1 95 (.slice A code.length cap) code.length) (by kernel_rfl) rfl (by kernel_rfl) rfl (by kernel_rfl) rfl rfl (fun ww b h hb => cur_lo h hb) (by kernel_rfl) (xcm_cur fun ww hw hf => l4Place_c g1 code A cap  ww w.heap.size hw (hf (curF w.heap.size g1 95 (.slice A code.length cap) code.length) (by simp)) (hf (slF (.slice A code.length cap) 1 (code.map byteRow)) (by simp)) hapg1 (by omega)  ) ?_
  rintro ⟨y3,hy3⟩
  refine xl_callWS 1 [2,5,7,11,13,14] [(2,.p 0 0),(5,.p 1 0),(7,.v (.pointer (some ⟨g1,0,none⟩))),(11,.v (.agg (tupL y2).toArray)),(13,.v (.int .i64 y3)),(14,.v (.pointer (some ⟨g1,0,none⟩)))] 51 [.pointer (some ⟨g1,0,none⟩)] (some 15) 0 (curF w.heap.size g1 95 (.slice A code.length cap) code.length) (by kernel_rfl) rfl (by kernel_rfl) rfl (by kernel_rfl) rfl rfl (fun ww b h hb => cur_lo h hb) (by kernel_rfl) (xcm_cur fun ww hw hf => l4Place_c g1 code A cap  ww w.heap.size hw (hf (curF w.heap.size g1 95 (.slice A code.length cap) code.length) (by simp)) (hf (slF (.slice A code.length cap) 1 (code.map byteRow)) (by simp)) hapg1 (by omega)  ) ?_
  rintro ⟨y4,hy4⟩
  refine xl_callWS 1 [2,5,7,11,13,15,16] [(2,.p 0 0),(5,.p 1 0),(7,.v (.pointer (some ⟨g1,0,none⟩))),(11,.v (.agg (tupL y2).toArray)),(13,.v (.int .i64 y3)),(15,.v (.int .i64 y4)),(16,.v (.pointer (some ⟨g1,0,none⟩)))] 37 [.pointer (some ⟨g1,0,none⟩)] (some 17) 0 (curF w.heap.size g1 95 (.slice A code.length cap) code.length) (by kernel_rfl) rfl (by kernel_rfl) rfl (by kernel_rfl) rfl rfl (fun ww b h hb => cur_lo h hb) (by kernel_rfl) (xcm_cur fun ww hw hf => l8Bent_c g1 code A cap  ww w.heap.size hw (hf (curF w.heap.size g1 95 (.slice A code.length cap) code.length) (by simp)) (hf (slF (.slice A code.length cap) 1 (code.map byteRow)) (by simp)) hapg1 (by omega)  ) ?_
  rintro ⟨y5,hy5⟩
  refine xl_hvS 1 [2,5,11,13,15,17,18] [(2,.p 0 0),(5,.p 1 0),(11,.v (.agg (tupL y2).toArray)),(13,.v (.int .i64 y3)),(15,.v (.int .i64 y4)),(17,.v (.agg (optL y5).toArray)),(18,.v (.pointer (some ⟨g1,0,none⟩)))] (by kernel_rfl) rfl (by kernel_rfl) rfl (by kernel_rfl) (hv_build (e := 3) (K := 1) (bytes := 8) [.int .i64 0,.int .i64 1,.int .i64 65535,.int .i64 65536,.int .i64 (-1)] rfl (by kernel_rfl) (by kernel_rfl) (by kernel_rfl) (by kernel_rfl) (by kernel_rfl) (rs := ([0,1,65535,65536,(-1)] : List Int).map intRow) rfl) ?_
  intro g6
  refine xl_know (φ := ¬ (slF (.slice (some ⟨g6,0,none⟩) 5 5) 1 (([0,1,65535,65536,(-1)] : List Int).map intRow)).blk g1) (fun _ _ _ _ hr => fun hb => hr.2.apart 0 1 (rowF w.heap.size 3 1 (.slice (some ⟨g6,0,none⟩) 5 5) (([0,1,65535,65536,(-1)] : List Int).map intRow)) (curF w.heap.size g1 95 (.slice A code.length cap) code.length) rfl rfl (by decide) rfl g1 (rowF_sblk hb) rfl) (fun hk7 => ?_)
  refine xl_callWS 0 [2,5,11,13,15,17,18,19] [(2,.p 0 0),(5,.p 1 0),(11,.v (.agg (tupL y2).toArray)),(13,.v (.int .i64 y3)),(15,.v (.int .i64 y4)),(17,.v (.agg (optL y5).toArray)),(18,.v (.pointer (some ⟨g1,0,none⟩))),(19,.v (.slice (some ⟨g6,0,none⟩) 5 5))] 52 [.pointer (some ⟨g1,0,none⟩),.slice (some ⟨g6,0,none⟩) 5 5] (some 20) 1 (curF w.heap.size g1 95 (.slice A code.length cap) code.length) (by kernel_rfl) rfl (by kernel_rfl) rfl (by kernel_rfl) rfl rfl (fun ww b h hb => cur_lo h hb) (by kernel_rfl) (xcm_cur fun ww hw hf => l1PickInt_c g1 code A cap ([0,1,65535,65536,(-1)] : List Int) (.slice (some ⟨g6,0,none⟩) 5 5) ww w.heap.size hw (hf (curF w.heap.size g1 95 (.slice A code.length cap) code.length) (by simp)) (hf (slF (.slice A code.length cap) 1 (code.map byteRow)) (by simp)) hapg1 (by omega) (rowF_sl (hf (rowF w.heap.size 3 1 (.slice (some ⟨g6,0,none⟩) 5 5) (([0,1,65535,65536,(-1)] : List Int).map intRow)) (by simp))) hk7 (by simp)) ?_
  rintro ⟨y8,hy8⟩
  refine xl_end [2,3,4,5,6] ⟨[(2,.p 0 0),(3,.v (.int .i64 y3)),(4,.v (.int .i64 y4)),(5,.p 1 0),(6,.v (.int .i64 y8))],[⟨36,tupL y2⟩,⟨25,optL y5⟩],[],[curF w.heap.size g1 95 (.slice A code.length cap) code.length,rowF w.heap.size 3 1 (.slice (some ⟨g6,0,none⟩) 5 5) (([0,1,65535,65536,(-1)] : List Int).map intRow),slF (.slice A code.length cap) 1 (code.map byteRow)]⟩ (by kernel_rfl) ?_
  refine xw_ret ?_
  exact ⟨[.agg (tupL y2).toArray,.int .i64 y3,.int .i64 y4,.agg (optL y5).toArray,.int .i64 y8],by kernel_rfl,fun w' hb hf => ⟨(y2,y3,y4,y5,y8),rfl,trivial,hb⟩⟩

theorem big_c (code : List Int) (A : Option Addr) (cap : Nat) (w : World) (hl : Sl w (.slice A code.length cap) 1 (code.map byteRow)) : Calls Try.prog 7 #[.slice A code.length cap] w fun e w' => e = .returned (.bool (decide (((code.length : Nat) : Int) > 1048576))) ∧ Below w.heap.size w w' := by
  refine x_calls (args := [.slice A code.length cap]) (fn := Try.f7) [slF (.slice A code.length cap) 1 (code.map byteRow)] Try.func7 rfl Try.ntmps7 rfl (by simp only [List.mem_cons,List.not_mem_nil,or_false,forall_eq]; exact ⟨rfl,hl⟩) ?_
  refine xw_seq ?_
  refine xw_region ?_
  refine xl_end [0] ⟨[(0,.v (.slice A code.length cap))],[],[],[slF (.slice A code.length cap) 1 (code.map byteRow)]⟩ (by kernel_rfl) ?_
  refine xw_seq ?_
  refine xw_region ?_
  refine xl_endS [2] [(2,.v (.bool (decide (((code.length : Nat) : Int) > 1048576))))] (by kernel_rfl) ?_
  refine xw_ret ?_
  exact ⟨[.bool (decide (((code.length : Nat) : Int) > 1048576))],by kernel_rfl,fun w' hb hf => ⟨rfl,hb⟩⟩
theorem yiMssFor_c (c : Con) (c_r_heldV : Value) (w : World)  : Calls Try.prog 26 #[.agg (conL c c_r_heldV).toArray] w fun e w' => e = .returned (.int .i64 (mssFor c)) ∧ Below w.heap.size w w' := by
  refine x_calls (args := [.agg (conL c c_r_heldV).toArray]) (fn := Try.f26) [] Try.func26 rfl Try.ntmps26 rfl (by simp) ?_
  refine xw_seq ?_
  refine xw_region ?_
  refine xl_end [1] ⟨[(1,.p 0 0)],[⟨45,conL c c_r_heldV⟩],[],[]⟩ (by kernel_rfl) ?_
  refine xw_seq ?_
  refine xw_seq ?_
  refine xw_region ?_
  refine xl_endS [1,6] [(1,.p 0 0),(6,.v (.bool (c.o.mss == 0)))] (by kernel_rfl) ?_
  refine xw_cond (b := c.o.mss == 0) (by kernel_rfl) (fun h1 => ?_) (fun h1 => ?_)
  have h1p := eqT h1
  refine xw_seq ?_
  refine xw_region ?_
  refine xl_endS [2] [(2,.v (.int .i64 536))] (by kernel_rfl) ?_
  refine xw_ret ?_
  exact ⟨[.int .i64 536],by kernel_rfl,fun w' hb hf => ⟨ret_int (show (536 : Int) = mssFor c from by first | rfl | (simp [mssFor, *]; done) | (simp [mssFor, *]; omega) | grind [toList_lit0,mssFor]),hb⟩⟩
  have h1p := eqF h1
  refine xw_skip ?_
  refine xw_seq ?_
  refine xw_region ?_
  refine xl_endS [2] [(2,.v (.int .i64 (if 1 < (if 1460 < c.o.mss then 1460 else c.o.mss) then if 1460 < c.o.mss then 1460 else c.o.mss else 1)))] (by kernel_rfl) ?_
  refine xw_ret ?_
  exact ⟨[.int .i64 (if 1 < (if 1460 < c.o.mss then 1460 else c.o.mss) then if 1460 < c.o.mss then 1460 else c.o.mss else 1)],by kernel_rfl,fun w' hb hf => ⟨ret_int (show (if 1 < (if 1460 < c.o.mss then 1460 else c.o.mss) then if 1460 < c.o.mss then 1460 else c.o.mss else 1 : Int) = mssFor c from by first | rfl | (simp [mssFor, *]; done) | (simp [mssFor, *]; omega) | grind [toList_lit0,mssFor]),hb⟩⟩
theorem yiReceiverOk_c (r : Rcv) (r_heldV : Value) (w : World) (hl_r_heldV : Sl w r_heldV 2 (r.held.map pceCells)) (hm : ∀ p ∈ r.held, p.text.size ≤ 1048576) (hsz : r.data.size ≤ 4611686018427387904) : Calls Try.prog 62 #[.agg (rcvL r r_heldV).toArray] w fun e w' => e = .returned (.bool (receiverOk r)) ∧ Below w.heap.size w w' := by
  have hw := windowOf_bd r
  obtain ⟨Arh,Crh,hvrh⟩ := hl_r_heldV.form
  rw [List.length_map] at hvrh; subst hvrh
  have hnrh := hl_r_heldV.len; rw [List.length_map] at hnrh
  have hqrh := Sl.capLe hl_r_heldV
  refine x_calls (args := [.agg (rcvL r (.slice Arh r.held.length Crh)).toArray]) (fn := Try.f62) [slF (.slice Arh r.held.length Crh) 2 (r.held.map pceCells)] Try.func62 rfl Try.ntmps62 rfl (by simp only [List.mem_cons,List.not_mem_nil,or_false,forall_eq_or_imp,forall_eq]; exact ⟨rfl,hl_r_heldV⟩) ?_
  refine xw_seq ?_
  refine xw_region ?_
  refine xl_end [1] ⟨[(1,.p 0 0)],[⟨43,rcvL r (.slice Arh r.held.length Crh)⟩],[],[slF (.slice Arh r.held.length Crh) 2 (r.held.map pceCells)]⟩ (by kernel_rfl) ?_
  refine xw_seq ?_
  refine xw_region ?_
  refine xl_callS 1 [1,8] [(1,.p 0 0),(8,.v (.agg (rcvL r (.slice Arh r.held.length Crh)).toArray))] 59 [.agg (rcvL r (.slice Arh r.held.length Crh)).toArray] (some 9) (by kernel_rfl) rfl (by kernel_rfl) rfl (by kernel_rfl) (xc_b fun ww hf => iWindowOf_c r.next r.data r.held (.slice Arh r.held.length Crh) r.fin r.done ww (by omega)) ?_
  intro _
  refine xl_endS [1,3] [(1,.p 0 0),(3,.v (.int .i64 (windowOf r)))] (by kernel_rfl) ?_
  refine xw_seq ?_
  refine xw_seq ?_
  refine xw_region ?_
  refine xl_callS 2 [1,3,11] [(1,.p 0 0),(3,.v (.int .i64 (windowOf r))),(11,.v (.int .i64 r.next))] 43 [.int .i64 r.next,.int .i64 32] (some 12) (by kernel_rfl) rfl (by kernel_rfl) rfl (by kernel_rfl) (xc_s fun ww hf => iWordOk32_c r.next ww) ?_
  intro _
  refine xl_runS 2 [1,3,14] [(1,.p 0 0),(3,.v (.int .i64 (windowOf r))),(14,.v (.bool (!(wordOk r.next 32))))] (by kernel_rfl) ?_
  refine xl_split 14 (b := !(wordOk r.next 32)) (by kernel_rfl) (fun h1 => ?_) (fun h1 => ?_)
  have h1n := not_t h1
  refine xl_endS [1,3,37] [(1,.p 0 0),(3,.v (.int .i64 (windowOf r))),(37,.v (.bool true))] (by kernel_rfl) ?_
  refine xw_true (by kernel_rfl) ?_
  refine xw_seq ?_
  refine xw_region ?_
  refine xl_endS [2] [(2,.v (.bool false))] (by kernel_rfl) ?_
  refine xw_ret ?_
  exact ⟨[.bool false],by kernel_rfl,fun w' hb hf => ⟨ret_bool (show (false : Bool) = receiverOk r from by first | rfl | (rw [HR,HK]; simp [*]; done) | (rw [HR,HK]; simp [*]; omega) | (rw [HR,HK]; grind [rcvPost]) | (simp [receiverOk,rcvPre, *]; done) | (simp [receiverOk,rcvPre, *]; omega) | grind [receiverOk,rcvPre]),hb⟩⟩
  have h1n := not_f h1
  refine xl_runS 6 [1,3,20] [(1,.p 0 0),(3,.v (.int .i64 (windowOf r))),(20,.v (.bool (decide ((r.data.size : Int) > 32))))] (by kernel_rfl) ?_
  refine xl_split 20 (b := decide ((r.data.size : Int) > 32)) (by kernel_rfl) (fun h2 => ?_) (fun h2 => ?_)
  have h2p : ((r.data.size : Int) > 32) := of_decide_eq_true h2
  refine xl_endS [1,3,37] [(1,.p 0 0),(3,.v (.int .i64 (windowOf r))),(37,.v (.bool true))] (by kernel_rfl) ?_
  refine xw_true (by kernel_rfl) ?_
  refine xw_seq ?_
  refine xw_region ?_
  refine xl_endS [2] [(2,.v (.bool false))] (by kernel_rfl) ?_
  refine xw_ret ?_
  exact ⟨[.bool false],by kernel_rfl,fun w' hb hf => ⟨ret_bool (show (false : Bool) = receiverOk r from by first | rfl | (rw [HR,HK]; simp [*]; done) | (rw [HR,HK]; simp [*]; omega) | (rw [HR,HK]; grind [rcvPost]) | (simp [receiverOk,rcvPre, *]; done) | (simp [receiverOk,rcvPre, *]; omega) | grind [receiverOk,rcvPre]),hb⟩⟩
  have h2p : ¬ ((r.data.size : Int) > 32) := of_decide_eq_false h2
  refine xl_runS 6 [1,3,26] [(1,.p 0 0),(3,.v (.int .i64 (windowOf r))),(26,.v (.bool (decide (((r.held.length : Nat) : Int) > 3))))] (by kernel_rfl) ?_
  refine xl_split 26 (b := decide (((r.held.length : Nat) : Int) > 3)) (by kernel_rfl) (fun h3 => ?_) (fun h3 => ?_)
  have h3p : (((r.held.length : Nat) : Int) > 3) := of_decide_eq_true h3
  refine xl_endS [1,3,37] [(1,.p 0 0),(3,.v (.int .i64 (windowOf r))),(37,.v (.bool true))] (by kernel_rfl) ?_
  refine xw_true (by kernel_rfl) ?_
  refine xw_seq ?_
  refine xw_region ?_
  refine xl_endS [2] [(2,.v (.bool false))] (by kernel_rfl) ?_
  refine xw_ret ?_
  exact ⟨[.bool false],by kernel_rfl,fun w' hb hf => ⟨ret_bool (show (false : Bool) = receiverOk r from by first | rfl | (rw [HR,HK]; simp [*]; done) | (rw [HR,HK]; simp [*]; omega) | (rw [HR,HK]; grind [rcvPost]) | (simp [receiverOk,rcvPre, *]; done) | (simp [receiverOk,rcvPre, *]; omega) | grind [receiverOk,rcvPre]),hb⟩⟩
  have h3p : ¬ (((r.held.length : Nat) : Int) > 3) := of_decide_eq_false h3
  refine xl_callS 3 [1,3,26,28,29] [(1,.p 0 0),(3,.v (.int .i64 (windowOf r))),(26,.v (.bool false)),(28,.v (.int .i64 r.fin)),(29,.v (.int .i64 (windowOf r)))] 44 [.int .i64 r.fin,.int .i64 (-1),.int .i64 (windowOf r)] (some 30) (by kernel_rfl) rfl (by kernel_rfl) rfl (by kernel_rfl) (xc_s fun ww hf => within_c r.fin (-1) (windowOf r) ww ) ?_
  intro _
  refine xl_runS 3 [1,3,33] [(1,.p 0 0),(3,.v (.int .i64 (windowOf r))),(33,.v (.bool (!(inB r.fin (-1) (windowOf r)))))] (by kernel_rfl) ?_
  refine xl_split 33 (b := !(inB r.fin (-1) (windowOf r))) (by kernel_rfl) (fun h4 => ?_) (fun h4 => ?_)
  have h4n := not_t h4
  refine xl_endS [1,3,37] [(1,.p 0 0),(3,.v (.int .i64 (windowOf r))),(37,.v (.bool true))] (by kernel_rfl) ?_
  refine xw_true (by kernel_rfl) ?_
  refine xw_seq ?_
  refine xw_region ?_
  refine xl_endS [2] [(2,.v (.bool false))] (by kernel_rfl) ?_
  refine xw_ret ?_
  exact ⟨[.bool false],by kernel_rfl,fun w' hb hf => ⟨ret_bool (show (false : Bool) = receiverOk r from by first | rfl | (rw [HR,HK]; simp [*]; done) | (rw [HR,HK]; simp [*]; omega) | (rw [HR,HK]; grind [rcvPost]) | (simp [receiverOk,rcvPre, *]; done) | (simp [receiverOk,rcvPre, *]; omega) | grind [receiverOk,rcvPre]),hb⟩⟩
  have h4n := not_f h4
  refine xl_endS [1,3,37] [(1,.p 0 0),(3,.v (.int .i64 (windowOf r))),(37,.v (.bool (r.fin == 0)))] (by kernel_rfl) ?_
  refine xw_cond (b := r.fin == 0) (by kernel_rfl) (fun h5 => ?_) (fun h5 => ?_)
  have h5p := eqT h5
  refine xw_seq ?_
  refine xw_region ?_
  refine xl_endS [2] [(2,.v (.bool false))] (by kernel_rfl) ?_
  refine xw_ret ?_
  exact ⟨[.bool false],by kernel_rfl,fun w' hb hf => ⟨ret_bool (show (false : Bool) = receiverOk r from by first | rfl | (rw [HR,HK]; simp [*]; done) | (rw [HR,HK]; simp [*]; omega) | (rw [HR,HK]; grind [rcvPost]) | (simp [receiverOk,rcvPre, *]; done) | (simp [receiverOk,rcvPre, *]; omega) | grind [receiverOk,rcvPre]),hb⟩⟩
  have h5p := eqF h5
  refine xw_skip ?_
  refine xw_seq ?_
  refine xw_region ?_
  refine xl_endS [1,4] [(1,.p 0 0),(4,.v (.int .i64 (windowOf r)))] (by kernel_rfl) ?_
  refine xw_seq ?_
  refine xw_seq ?_
  refine xw_region ?_
  refine xl_endS [1,4,41] [(1,.p 0 0),(4,.v (.int .i64 (windowOf r))),(41,.v (.bool (r.fin != (-1))))] (by kernel_rfl) ?_
  refine xw_cond (b := r.fin != (-1)) (by kernel_rfl) (fun h6 => ?_) (fun h6 => ?_)
  have h6p := neT h6
  refine xw_region ?_
  refine xl_endS [1,4] [(1,.p 0 0),(4,.v (.int .i64 r.fin))] (by kernel_rfl) ?_
  refine xw_seq ?_
  refine xw_region ?_
  refine xl_endS [1,4,5] [(1,.p 0 0),(4,.v (.int .i64 r.fin)),(5,.v (.int .i64 0))] (by kernel_rfl) ?_
  refine xw_seq ?_
  refine xw_seq ?_
  refine xw_region ?_
  refine xl_endS [1,4,5,45,46,47] [(1,.p 0 0),(4,.v (.int .i64 r.fin)),(5,.v (.int .i64 0)),(45,.v (.slice Arh r.held.length Crh)),(46,.v (.int .i64 ((r.held.length : Nat) : Int))),(47,.v (.int .i64 0))] (by kernel_rfl) ?_
  refine xw_block ?_
  have hp : rcvPre r = true := by first | (simp [rcvPre, *]; done) | (simp [rcvPre, *]; omega) | grind [rcvPre]
  have hin := inB_tt.1 (rcvPre_iff.1 hp).2.2.2.1
  have HR : receiverOk r = (heldOk (if r.fin = -1 then windowOf r else r.fin) 0 r.held && rcvPost r) := by unfold receiverOk; rw [hp]; rfl
  refine xw_loopW (α := {x : Nat × Int // (fun (k : Nat) (z : Int) => k ≤ r.held.length ∧ 0 ≤ z ∧ z ≤ 32 ∧ heldOk (if r.fin = -1 then windowOf r else r.fin) 0 r.held = heldOk (if r.fin = -1 then windowOf r else r.fin) z (r.held.drop k)) x.1 x.2}) (fun x => (fun (k : Nat) (z : Int) => (⟨[(1,.p 0 0),(4,.v (.int .i64 r.fin)),(5,.v (.int .i64 z)),(45,.v (.slice Arh r.held.length Crh)),(46,.v (.int .i64 ((r.held.length : Nat) : Int))),(47,.v (.int .i64 (k : Int)))],[⟨43,rcvL r (.slice Arh r.held.length Crh)⟩],[],[slF (.slice Arh r.held.length Crh) 2 (r.held.map pceCells)]⟩ : St)) x.1.1 x.1.2) (fun x => r.held.length - x.1.1) ⟨(0,0),⟨Nat.zero_le _,by omega,by omega,rfl⟩⟩ (wk_forget 1 0 [1,4,5,45,46,47] (by kernel_rfl) (by kernel_rfl) (by kernel_rfl)) ?_
  rintro ⟨⟨k,z⟩,hk,hz0,hz1,HK⟩
  refine xw_wk (Wk.of_eq (s' := ⟨[(1,.p 0 0),(4,.v (.int .i64 r.fin)),(5,.v (.int .i64 z)),(45,.v (.slice Arh r.held.length Crh)),(46,.v (.int .i64 ((r.held.length : Nat) : Int))),(47,.v (.int .i64 (k : Int)))],[⟨43,rcvL r (.slice Arh r.held.length Crh)⟩],[],[slF (.slice Arh r.held.length Crh) 2 (r.held.map pceCells)]⟩) rfl) ?_
  try dsimp only at hk hz0 hz1 HK
  refine xw_seq ?_
  refine xw_region ?_
  refine xl_endS [1,4,5,45,46,47,48] [(1,.p 0 0),(4,.v (.int .i64 r.fin)),(5,.v (.int .i64 z)),(45,.v (.slice Arh r.held.length Crh)),(46,.v (.int .i64 ((r.held.length : Nat) : Int))),(47,.v (.int .i64 (k : Int))),(48,.v (.bool (decide ((k : Int) < ((r.held.length : Nat) : Int)))))] (by kernel_rfl) ?_
  refine xw_seq ?_
  refine xw_cond (b := decide ((k : Int) < ((r.held.length : Nat) : Int))) (by kernel_rfl) (fun h7 => ?_) (fun h7 => ?_)
  have h7p : ((k : Int) < ((r.held.length : Nat) : Int)) := of_decide_eq_true h7
  have hlt : k < r.held.length := by simpa using h7
  obtain ⟨x,hx⟩ : ∃ x,r.held[k]? = some x := ⟨_,List.getElem?_eq_getElem hlt⟩
  have hxm := hm x (List.mem_of_getElem? hx)
  rw [drop_cons_of hx] at HK; simp only [heldOkS,heldOk] at HK
  refine xw_skip ?_
  refine xw_seq ?_
  refine xw_block ?_
  refine xw_seq ?_
  refine xw_region ?_
  refine xl_indexS (kd := .i64) (T := 41) (e := 98) (K := 2) 0 [1,4,5,45,46,47] [(1,.p 0 0),(4,.v (.int .i64 r.fin)),(5,.v (.int .i64 z)),(45,.v (.slice Arh r.held.length Crh)),(46,.v (.int .i64 ((r.held.length : Nat) : Int))),(47,.v (.int .i64 (k : Int)))] k [.int .i64 x.off,.string x.text] (slF (.slice Arh r.held.length Crh) 2 (r.held.map pceCells)) (by kernel_rfl) rfl (by kernel_rfl) rfl rfl (by kernel_rfl) (by kernel_rfl) (by kernel_rfl) (by kernel_rfl) hlt (by simp) (fun w h => h) (fun b h => h) (by simp only [List.getElem?_map,hx]; rfl) ?_
  refine xl_end [1,4,5,7,45,46,47] ⟨[(1,.p 0 0),(4,.v (.int .i64 r.fin)),(5,.v (.int .i64 z)),(7,.p 1 0),(45,.v (.slice Arh r.held.length Crh)),(46,.v (.int .i64 ((r.held.length : Nat) : Int))),(47,.v (.int .i64 (k : Int)))],[⟨43,rcvL r (.slice Arh r.held.length Crh)⟩,⟨98,pceL x⟩],[[.int .i64 x.off,.string x.text]],[slF (.slice Arh r.held.length Crh) 2 (r.held.map pceCells)]⟩ (by kernel_rfl) ?_
  refine xw_seq ?_
  refine xw_seq ?_
  refine xw_region ?_
  refine xl_runS 4 [1,4,5,7,45,46,47,54] [(1,.p 0 0),(4,.v (.int .i64 r.fin)),(5,.v (.int .i64 z)),(7,.p 1 0),(45,.v (.slice Arh r.held.length Crh)),(46,.v (.int .i64 ((r.held.length : Nat) : Int))),(47,.v (.int .i64 (k : Int))),(54,.v (.bool (x.text.toList == (⟨#[]⟩ : ByteArray).toList)))] (by kernel_rfl) ?_
  refine xl_split 54 (b := x.text.toList == (⟨#[]⟩ : ByteArray).toList) (by kernel_rfl) (fun h8 => ?_) (fun h8 => ?_)
  have h8p := h8; simp only [beq_iff_eq,bne_iff_ne,beq_eq_false_iff_ne,bne_eq_false_iff_eq,ne_eq,toList_lit0] at h8p
  refine xl_endS [1,4,7,45,46,47,69] [(1,.p 0 0),(4,.v (.int .i64 r.fin)),(7,.p 1 0),(45,.v (.slice Arh r.held.length Crh)),(46,.v (.int .i64 ((r.held.length : Nat) : Int))),(47,.v (.int .i64 (k : Int))),(69,.v (.bool true))] (by kernel_rfl) ?_
  refine xw_true (by kernel_rfl) ?_
  refine xw_seq ?_
  refine xw_region ?_
  refine xl_endS [2] [(2,.v (.bool false))] (by kernel_rfl) ?_
  refine xw_ret ?_
  exact ⟨[.bool false],by kernel_rfl,fun w' hb hf => ⟨ret_bool (show (false : Bool) = receiverOk r from by first | rfl | (rw [HR,HK]; simp [*]; done) | (rw [HR,HK]; simp [*]; omega) | (rw [HR,HK]; grind [rcvPost]) | (simp [receiverOk,rcvPre, *]; done) | (simp [receiverOk,rcvPre, *]; omega) | grind [receiverOk,rcvPre]),hb⟩⟩
  have h8p := h8; simp only [beq_iff_eq,bne_iff_ne,beq_eq_false_iff_ne,bne_eq_false_iff_eq,ne_eq,toList_lit0] at h8p
  refine xl_runS 6 [1,4,7,45,46,47,55,56,57,58,60] [(1,.p 0 0),(4,.v (.int .i64 r.fin)),(7,.p 1 0),(45,.v (.slice Arh r.held.length Crh)),(46,.v (.int .i64 ((r.held.length : Nat) : Int))),(47,.v (.int .i64 (k : Int))),(55,.p 1 0),(56,.v (.int .i64 x.off)),(57,.v (.int .i64 z)),(58,.v (.bool (decide (x.off ≤ z)))),(60,.v (.bool (decide (x.off ≤ z))))] (by kernel_rfl) ?_
  refine xl_split 60 (b := decide (x.off ≤ z)) (by kernel_rfl) (fun h9 => ?_) (fun h9 => ?_)
  have h9p : (x.off ≤ z) := of_decide_eq_true h9
  refine xl_endS [1,4,7,45,46,47,55,56,57,58,69] [(1,.p 0 0),(4,.v (.int .i64 r.fin)),(7,.p 1 0),(45,.v (.slice Arh r.held.length Crh)),(46,.v (.int .i64 ((r.held.length : Nat) : Int))),(47,.v (.int .i64 (k : Int))),(55,.p 1 0),(56,.v (.int .i64 x.off)),(57,.v (.int .i64 z)),(58,.v (.bool (decide (x.off ≤ z)))),(69,.v (.bool true))] (by kernel_rfl) ?_
  refine xw_true (by kernel_rfl) ?_
  refine xw_seq ?_
  refine xw_region ?_
  refine xl_endS [2] [(2,.v (.bool false))] (by kernel_rfl) ?_
  refine xw_ret ?_
  exact ⟨[.bool false],by kernel_rfl,fun w' hb hf => ⟨ret_bool (show (false : Bool) = receiverOk r from by first | rfl | (rw [HR,HK]; simp [*]; done) | (rw [HR,HK]; simp [*]; omega) | (rw [HR,HK]; grind [rcvPost]) | (simp [receiverOk,rcvPre, *]; done) | (simp [receiverOk,rcvPre, *]; omega) | grind [receiverOk,rcvPre]),hb⟩⟩
  have h9p : ¬ (x.off ≤ z) := of_decide_eq_false h9
  refine xl_runS 9 [1,4,7,45,46,47,55,56,57,58,61,62,63,64,65,66,67,68,69] [(1,.p 0 0),(4,.v (.int .i64 r.fin)),(7,.p 1 0),(45,.v (.slice Arh r.held.length Crh)),(46,.v (.int .i64 ((r.held.length : Nat) : Int))),(47,.v (.int .i64 (k : Int))),(55,.p 1 0),(56,.v (.int .i64 x.off)),(57,.v (.int .i64 z)),(58,.v (.bool (decide (x.off ≤ z)))),(61,.p 1 0),(62,.v (.int .i64 x.off)),(63,.v (.int .i64 r.fin)),(64,.p 1 1),(65,.v (.string x.text)),(66,.v (.int .i64 (x.text.size : Int))),(67,.v (.int .i64 (IntKind.i64.wrap (r.fin - (x.text.size : Int))))),(68,.v (.bool (decide (x.off > (IntKind.i64.wrap (r.fin - (x.text.size : Int))))))),(69,.v (.bool (decide (x.off > (IntKind.i64.wrap (r.fin - (x.text.size : Int)))))))] (by kernel_rfl) ?_
  refine xl_eqS (t' := [(1,.p 0 0),(4,.v (.int .i64 r.fin)),(7,.p 1 0),(45,.v (.slice Arh r.held.length Crh)),(46,.v (.int .i64 ((r.held.length : Nat) : Int))),(47,.v (.int .i64 (k : Int))),(55,.p 1 0),(56,.v (.int .i64 x.off)),(57,.v (.int .i64 z)),(58,.v (.bool (decide (x.off ≤ z)))),(61,.p 1 0),(62,.v (.int .i64 x.off)),(63,.v (.int .i64 r.fin)),(64,.p 1 1),(65,.v (.string x.text)),(66,.v (.int .i64 (x.text.size : Int))),(67,.v (.int .i64 (r.fin - (x.text.size : Int)))),(68,.v (.bool (decide (x.off > (r.fin - (x.text.size : Int)))))),(69,.v (.bool (decide (x.off > (r.fin - (x.text.size : Int))))))]) (by rw [show (IntKind.i64.wrap (r.fin - (x.text.size : Int))) = (r.fin - (x.text.size : Int)) from wrap_id (by omega) (by omega)]) ?_
  refine xl_endS [1,4,7,45,46,47,55,56,57,58,61,62,63,64,65,66,67,68,69] [(1,.p 0 0),(4,.v (.int .i64 r.fin)),(7,.p 1 0),(45,.v (.slice Arh r.held.length Crh)),(46,.v (.int .i64 ((r.held.length : Nat) : Int))),(47,.v (.int .i64 (k : Int))),(55,.p 1 0),(56,.v (.int .i64 x.off)),(57,.v (.int .i64 z)),(58,.v (.bool (decide (x.off ≤ z)))),(61,.p 1 0),(62,.v (.int .i64 x.off)),(63,.v (.int .i64 r.fin)),(64,.p 1 1),(65,.v (.string x.text)),(66,.v (.int .i64 (x.text.size : Int))),(67,.v (.int .i64 (r.fin - (x.text.size : Int)))),(68,.v (.bool (decide (x.off > (r.fin - (x.text.size : Int)))))),(69,.v (.bool (decide (x.off > (r.fin - (x.text.size : Int))))))] (by kernel_rfl) ?_
  refine xw_cond (b := decide (x.off > (r.fin - (x.text.size : Int)))) (by kernel_rfl) (fun h10 => ?_) (fun h10 => ?_)
  have h10p : (x.off > (r.fin - (x.text.size : Int))) := of_decide_eq_true h10
  refine xw_seq ?_
  refine xw_region ?_
  refine xl_endS [2] [(2,.v (.bool false))] (by kernel_rfl) ?_
  refine xw_ret ?_
  exact ⟨[.bool false],by kernel_rfl,fun w' hb hf => ⟨ret_bool (show (false : Bool) = receiverOk r from by first | rfl | (rw [HR,HK]; simp [*]; done) | (rw [HR,HK]; simp [*]; omega) | (rw [HR,HK]; grind [rcvPost]) | (simp [receiverOk,rcvPre, *]; done) | (simp [receiverOk,rcvPre, *]; omega) | grind [receiverOk,rcvPre]),hb⟩⟩
  have h10p : ¬ (x.off > (r.fin - (x.text.size : Int))) := of_decide_eq_false h10
  refine xw_skip ?_
  refine xw_region ?_
  refine xl_runS 7 [1,4,5,45,46,47,55,56,57,58,61,62,63,64,65,66,67,68] [(1,.p 0 0),(4,.v (.int .i64 r.fin)),(5,.v (.int .i64 (IntKind.i64.wrap (x.off + (x.text.size : Int))))),(45,.v (.slice Arh r.held.length Crh)),(46,.v (.int .i64 ((r.held.length : Nat) : Int))),(47,.v (.int .i64 (k : Int))),(55,.p 1 0),(56,.v (.int .i64 x.off)),(57,.v (.int .i64 z)),(58,.v (.bool (decide (x.off ≤ z)))),(61,.p 1 0),(62,.v (.int .i64 x.off)),(63,.v (.int .i64 r.fin)),(64,.p 1 1),(65,.v (.string x.text)),(66,.v (.int .i64 (x.text.size : Int))),(67,.v (.int .i64 (r.fin - (x.text.size : Int)))),(68,.v (.bool (decide (x.off > (r.fin - (x.text.size : Int))))))] (by kernel_rfl) ?_
  refine xl_eqS (t' := [(1,.p 0 0),(4,.v (.int .i64 r.fin)),(5,.v (.int .i64 (x.off + (x.text.size : Int)))),(45,.v (.slice Arh r.held.length Crh)),(46,.v (.int .i64 ((r.held.length : Nat) : Int))),(47,.v (.int .i64 (k : Int))),(55,.p 1 0),(56,.v (.int .i64 x.off)),(57,.v (.int .i64 z)),(58,.v (.bool (decide (x.off ≤ z)))),(61,.p 1 0),(62,.v (.int .i64 x.off)),(63,.v (.int .i64 r.fin)),(64,.p 1 1),(65,.v (.string x.text)),(66,.v (.int .i64 (x.text.size : Int))),(67,.v (.int .i64 (r.fin - (x.text.size : Int)))),(68,.v (.bool (decide (x.off > (r.fin - (x.text.size : Int))))))]) (by rw [show (IntKind.i64.wrap (x.off + (x.text.size : Int))) = (x.off + (x.text.size : Int)) from wrap_id (by omega) (by omega)]) ?_
  refine xl_endS [1,4,5,45,46,47,55,56,57,58,61,62,63,64,65,66,67,68] [(1,.p 0 0),(4,.v (.int .i64 r.fin)),(5,.v (.int .i64 (x.off + (x.text.size : Int)))),(45,.v (.slice Arh r.held.length Crh)),(46,.v (.int .i64 ((r.held.length : Nat) : Int))),(47,.v (.int .i64 (k : Int))),(55,.p 1 0),(56,.v (.int .i64 x.off)),(57,.v (.int .i64 z)),(58,.v (.bool (decide (x.off ≤ z)))),(61,.p 1 0),(62,.v (.int .i64 x.off)),(63,.v (.int .i64 r.fin)),(64,.p 1 1),(65,.v (.string x.text)),(66,.v (.int .i64 (x.text.size : Int))),(67,.v (.int .i64 (r.fin - (x.text.size : Int)))),(68,.v (.bool (decide (x.off > (r.fin - (x.text.size : Int))))))] (by kernel_rfl) ?_
  refine xw_region ?_
  refine xl_runS 2 [1,4,5,45,46,47,55,56,57,58,61,62,63,64,65,66,67,68] [(1,.p 0 0),(4,.v (.int .i64 r.fin)),(5,.v (.int .i64 (x.off + (x.text.size : Int)))),(45,.v (.slice Arh r.held.length Crh)),(46,.v (.int .i64 ((r.held.length : Nat) : Int))),(47,.v (.int .i64 (IntKind.i64.wrap ((k : Int) + 1)))),(55,.p 1 0),(56,.v (.int .i64 x.off)),(57,.v (.int .i64 z)),(58,.v (.bool (decide (x.off ≤ z)))),(61,.p 1 0),(62,.v (.int .i64 x.off)),(63,.v (.int .i64 r.fin)),(64,.p 1 1),(65,.v (.string x.text)),(66,.v (.int .i64 (x.text.size : Int))),(67,.v (.int .i64 (r.fin - (x.text.size : Int)))),(68,.v (.bool (decide (x.off > (r.fin - (x.text.size : Int))))))] (by kernel_rfl) ?_
  refine xl_eqS (t' := [(1,.p 0 0),(4,.v (.int .i64 r.fin)),(5,.v (.int .i64 (x.off + (x.text.size : Int)))),(45,.v (.slice Arh r.held.length Crh)),(46,.v (.int .i64 ((r.held.length : Nat) : Int))),(47,.v (.int .i64 ((k : Int) + 1))),(55,.p 1 0),(56,.v (.int .i64 x.off)),(57,.v (.int .i64 z)),(58,.v (.bool (decide (x.off ≤ z)))),(61,.p 1 0),(62,.v (.int .i64 x.off)),(63,.v (.int .i64 r.fin)),(64,.p 1 1),(65,.v (.string x.text)),(66,.v (.int .i64 (x.text.size : Int))),(67,.v (.int .i64 (r.fin - (x.text.size : Int)))),(68,.v (.bool (decide (x.off > (r.fin - (x.text.size : Int))))))]) (by rw [show (IntKind.i64.wrap ((k : Int) + 1)) = ((k : Int) + 1) from wrap_id (by omega) (by omega)]) ?_
  refine xl_endS [1,4,5,45,46,47,55,56,57,58,61,62,63,64,65,66,67,68] [(1,.p 0 0),(4,.v (.int .i64 r.fin)),(5,.v (.int .i64 (x.off + (x.text.size : Int)))),(45,.v (.slice Arh r.held.length Crh)),(46,.v (.int .i64 ((r.held.length : Nat) : Int))),(47,.v (.int .i64 ((k : Int) + 1))),(55,.p 1 0),(56,.v (.int .i64 x.off)),(57,.v (.int .i64 z)),(58,.v (.bool (decide (x.off ≤ z)))),(61,.p 1 0),(62,.v (.int .i64 x.off)),(63,.v (.int .i64 r.fin)),(64,.p 1 1),(65,.v (.string x.text)),(66,.v (.int .i64 (x.text.size : Int))),(67,.v (.int .i64 (r.fin - (x.text.size : Int)))),(68,.v (.bool (decide (x.off > (r.fin - (x.text.size : Int))))))] (by kernel_rfl) ?_
  exact ⟨⟨(k + 1,x.off + (x.text.size : Int)),⟨by omega,by omega,by omega,by rw [HK]; first | (simp [*]; done) | (simp [*]; omega) | grind⟩⟩,wk_forget 1 0 [1,4,5,45,46,47] (by kernel_rfl) (by kernel_rfl) (by kernel_rfl),by show r.held.length - (k + 1) < r.held.length - k; omega⟩
  have h7p : ¬ ((k : Int) < ((r.held.length : Nat) : Int)) := of_decide_eq_false h7
  have hge : k = r.held.length := by simp at h7; omega
  subst hge; simp only [List.drop_length,heldOkS,heldOk] at HK
  refine xw_exit ?_
  refine xw_seq ?_
  refine xw_region ?_
  refine xl_runS 4 [1,80] [(1,.p 0 0),(80,.v (.bool (!r.done)))] (by kernel_rfl) ?_
  refine xl_split 80 (b := !r.done) (by kernel_rfl) (fun h11 => ?_) (fun h11 => ?_)
  have h11n := not_t h11
  refine xl_endS [2] [(2,.v (.bool true))] (by kernel_rfl) ?_
  refine xw_ret ?_
  exact ⟨[.bool true],by kernel_rfl,fun w' hb hf => ⟨ret_bool (show (true : Bool) = receiverOk r from by first | rfl | (rw [HR,HK]; simp [*]; done) | (rw [HR,HK]; simp [*]; omega) | (rw [HR,HK]; grind [rcvPost]) | (simp [receiverOk,rcvPre, *]; done) | (simp [receiverOk,rcvPre, *]; omega) | grind [receiverOk,rcvPre]),hb⟩⟩
  have h11n := not_f h11
  refine xl_runS 5 [1,80,85] [(1,.p 0 0),(80,.v (.bool false)),(85,.v (.bool (((r.held.length : Nat) : Int) == 0)))] (by kernel_rfl) ?_
  refine xl_split 85 (b := ((r.held.length : Nat) : Int) == 0) (by kernel_rfl) (fun h12 => ?_) (fun h12 => ?_)
  have h12p := eqT h12
  refine xl_endS [2] [(2,.v (.bool (r.fin == (-1))))] (by kernel_rfl) ?_
  refine xw_ret ?_
  exact ⟨[.bool (r.fin == (-1))],by kernel_rfl,fun w' hb hf => ⟨ret_bool (show (r.fin == (-1) : Bool) = receiverOk r from by first | rfl | (rw [HR,HK]; simp [*]; done) | (rw [HR,HK]; simp [*]; omega) | (rw [HR,HK]; grind [rcvPost]) | (simp [receiverOk,rcvPre, *]; done) | (simp [receiverOk,rcvPre, *]; omega) | grind [receiverOk,rcvPre]),hb⟩⟩
  have h12p := eqF h12
  refine xl_endS [2] [(2,.v (.bool false))] (by kernel_rfl) ?_
  refine xw_ret ?_
  exact ⟨[.bool false],by kernel_rfl,fun w' hb hf => ⟨ret_bool (show (false : Bool) = receiverOk r from by first | rfl | (rw [HR,HK]; simp [*]; done) | (rw [HR,HK]; simp [*]; omega) | (rw [HR,HK]; grind [rcvPost]) | (simp [receiverOk,rcvPre, *]; done) | (simp [receiverOk,rcvPre, *]; omega) | grind [receiverOk,rcvPre]),hb⟩⟩
  have h6p := neF h6
  refine xw_skip ?_
  refine xw_seq ?_
  refine xw_region ?_
  refine xl_endS [1,4,5] [(1,.p 0 0),(4,.v (.int .i64 (windowOf r))),(5,.v (.int .i64 0))] (by kernel_rfl) ?_
  refine xw_seq ?_
  refine xw_seq ?_
  refine xw_region ?_
  refine xl_endS [1,4,5,45,46,47] [(1,.p 0 0),(4,.v (.int .i64 (windowOf r))),(5,.v (.int .i64 0)),(45,.v (.slice Arh r.held.length Crh)),(46,.v (.int .i64 ((r.held.length : Nat) : Int))),(47,.v (.int .i64 0))] (by kernel_rfl) ?_
  refine xw_block ?_
  have hp : rcvPre r = true := by first | (simp [rcvPre, *]; done) | (simp [rcvPre, *]; omega) | grind [rcvPre]
  have hin := inB_tt.1 (rcvPre_iff.1 hp).2.2.2.1
  have HR : receiverOk r = (heldOk (if r.fin = -1 then windowOf r else r.fin) 0 r.held && rcvPost r) := by unfold receiverOk; rw [hp]; rfl
  refine xw_loopW (α := {x : Nat × Int // (fun (k : Nat) (z : Int) => k ≤ r.held.length ∧ 0 ≤ z ∧ z ≤ 32 ∧ heldOk (if r.fin = -1 then windowOf r else r.fin) 0 r.held = heldOk (if r.fin = -1 then windowOf r else r.fin) z (r.held.drop k)) x.1 x.2}) (fun x => (fun (k : Nat) (z : Int) => (⟨[(1,.p 0 0),(4,.v (.int .i64 (windowOf r))),(5,.v (.int .i64 z)),(45,.v (.slice Arh r.held.length Crh)),(46,.v (.int .i64 ((r.held.length : Nat) : Int))),(47,.v (.int .i64 (k : Int)))],[⟨43,rcvL r (.slice Arh r.held.length Crh)⟩],[],[slF (.slice Arh r.held.length Crh) 2 (r.held.map pceCells)]⟩ : St)) x.1.1 x.1.2) (fun x => r.held.length - x.1.1) ⟨(0,0),⟨Nat.zero_le _,by omega,by omega,rfl⟩⟩ (wk_forget 1 0 [1,4,5,45,46,47] (by kernel_rfl) (by kernel_rfl) (by kernel_rfl)) ?_
  rintro ⟨⟨k,z⟩,hk,hz0,hz1,HK⟩
  refine xw_wk (Wk.of_eq (s' := ⟨[(1,.p 0 0),(4,.v (.int .i64 (windowOf r))),(5,.v (.int .i64 z)),(45,.v (.slice Arh r.held.length Crh)),(46,.v (.int .i64 ((r.held.length : Nat) : Int))),(47,.v (.int .i64 (k : Int)))],[⟨43,rcvL r (.slice Arh r.held.length Crh)⟩],[],[slF (.slice Arh r.held.length Crh) 2 (r.held.map pceCells)]⟩) rfl) ?_
  try dsimp only at hk hz0 hz1 HK
  refine xw_seq ?_
  refine xw_region ?_
  refine xl_endS [1,4,5,45,46,47,48] [(1,.p 0 0),(4,.v (.int .i64 (windowOf r))),(5,.v (.int .i64 z)),(45,.v (.slice Arh r.held.length Crh)),(46,.v (.int .i64 ((r.held.length : Nat) : Int))),(47,.v (.int .i64 (k : Int))),(48,.v (.bool (decide ((k : Int) < ((r.held.length : Nat) : Int)))))] (by kernel_rfl) ?_
  refine xw_seq ?_
  refine xw_cond (b := decide ((k : Int) < ((r.held.length : Nat) : Int))) (by kernel_rfl) (fun h13 => ?_) (fun h13 => ?_)
  have h13p : ((k : Int) < ((r.held.length : Nat) : Int)) := of_decide_eq_true h13
  have hlt : k < r.held.length := by simpa using h13
  obtain ⟨x,hx⟩ : ∃ x,r.held[k]? = some x := ⟨_,List.getElem?_eq_getElem hlt⟩
  have hxm := hm x (List.mem_of_getElem? hx)
  rw [drop_cons_of hx] at HK; simp only [heldOkS,heldOk] at HK
  refine xw_skip ?_
  refine xw_seq ?_
  refine xw_block ?_
  refine xw_seq ?_
  refine xw_region ?_
  refine xl_indexS (kd := .i64) (T := 41) (e := 98) (K := 2) 0 [1,4,5,45,46,47] [(1,.p 0 0),(4,.v (.int .i64 (windowOf r))),(5,.v (.int .i64 z)),(45,.v (.slice Arh r.held.length Crh)),(46,.v (.int .i64 ((r.held.length : Nat) : Int))),(47,.v (.int .i64 (k : Int)))] k [.int .i64 x.off,.string x.text] (slF (.slice Arh r.held.length Crh) 2 (r.held.map pceCells)) (by kernel_rfl) rfl (by kernel_rfl) rfl rfl (by kernel_rfl) (by kernel_rfl) (by kernel_rfl) (by kernel_rfl) hlt (by simp) (fun w h => h) (fun b h => h) (by simp only [List.getElem?_map,hx]; rfl) ?_
  refine xl_end [1,4,5,7,45,46,47] ⟨[(1,.p 0 0),(4,.v (.int .i64 (windowOf r))),(5,.v (.int .i64 z)),(7,.p 1 0),(45,.v (.slice Arh r.held.length Crh)),(46,.v (.int .i64 ((r.held.length : Nat) : Int))),(47,.v (.int .i64 (k : Int)))],[⟨43,rcvL r (.slice Arh r.held.length Crh)⟩,⟨98,pceL x⟩],[[.int .i64 x.off,.string x.text]],[slF (.slice Arh r.held.length Crh) 2 (r.held.map pceCells)]⟩ (by kernel_rfl) ?_
  refine xw_seq ?_
  refine xw_seq ?_
  refine xw_region ?_
  refine xl_runS 4 [1,4,5,7,45,46,47,54] [(1,.p 0 0),(4,.v (.int .i64 (windowOf r))),(5,.v (.int .i64 z)),(7,.p 1 0),(45,.v (.slice Arh r.held.length Crh)),(46,.v (.int .i64 ((r.held.length : Nat) : Int))),(47,.v (.int .i64 (k : Int))),(54,.v (.bool (x.text.toList == (⟨#[]⟩ : ByteArray).toList)))] (by kernel_rfl) ?_
  refine xl_split 54 (b := x.text.toList == (⟨#[]⟩ : ByteArray).toList) (by kernel_rfl) (fun h14 => ?_) (fun h14 => ?_)
  have h14p := h14; simp only [beq_iff_eq,bne_iff_ne,beq_eq_false_iff_ne,bne_eq_false_iff_eq,ne_eq,toList_lit0] at h14p
  refine xl_endS [1,4,7,45,46,47,69] [(1,.p 0 0),(4,.v (.int .i64 (windowOf r))),(7,.p 1 0),(45,.v (.slice Arh r.held.length Crh)),(46,.v (.int .i64 ((r.held.length : Nat) : Int))),(47,.v (.int .i64 (k : Int))),(69,.v (.bool true))] (by kernel_rfl) ?_
  refine xw_true (by kernel_rfl) ?_
  refine xw_seq ?_
  refine xw_region ?_
  refine xl_endS [2] [(2,.v (.bool false))] (by kernel_rfl) ?_
  refine xw_ret ?_
  exact ⟨[.bool false],by kernel_rfl,fun w' hb hf => ⟨ret_bool (show (false : Bool) = receiverOk r from by first | rfl | (rw [HR,HK]; simp [*]; done) | (rw [HR,HK]; simp [*]; omega) | (rw [HR,HK]; grind [rcvPost]) | (simp [receiverOk,rcvPre, *]; done) | (simp [receiverOk,rcvPre, *]; omega) | grind [receiverOk,rcvPre]),hb⟩⟩
  have h14p := h14; simp only [beq_iff_eq,bne_iff_ne,beq_eq_false_iff_ne,bne_eq_false_iff_eq,ne_eq,toList_lit0] at h14p
  refine xl_runS 6 [1,4,7,45,46,47,55,56,57,58,60] [(1,.p 0 0),(4,.v (.int .i64 (windowOf r))),(7,.p 1 0),(45,.v (.slice Arh r.held.length Crh)),(46,.v (.int .i64 ((r.held.length : Nat) : Int))),(47,.v (.int .i64 (k : Int))),(55,.p 1 0),(56,.v (.int .i64 x.off)),(57,.v (.int .i64 z)),(58,.v (.bool (decide (x.off ≤ z)))),(60,.v (.bool (decide (x.off ≤ z))))] (by kernel_rfl) ?_
  refine xl_split 60 (b := decide (x.off ≤ z)) (by kernel_rfl) (fun h15 => ?_) (fun h15 => ?_)
  have h15p : (x.off ≤ z) := of_decide_eq_true h15
  refine xl_endS [1,4,7,45,46,47,55,56,57,58,69] [(1,.p 0 0),(4,.v (.int .i64 (windowOf r))),(7,.p 1 0),(45,.v (.slice Arh r.held.length Crh)),(46,.v (.int .i64 ((r.held.length : Nat) : Int))),(47,.v (.int .i64 (k : Int))),(55,.p 1 0),(56,.v (.int .i64 x.off)),(57,.v (.int .i64 z)),(58,.v (.bool (decide (x.off ≤ z)))),(69,.v (.bool true))] (by kernel_rfl) ?_
  refine xw_true (by kernel_rfl) ?_
  refine xw_seq ?_
  refine xw_region ?_
  refine xl_endS [2] [(2,.v (.bool false))] (by kernel_rfl) ?_
  refine xw_ret ?_
  exact ⟨[.bool false],by kernel_rfl,fun w' hb hf => ⟨ret_bool (show (false : Bool) = receiverOk r from by first | rfl | (rw [HR,HK]; simp [*]; done) | (rw [HR,HK]; simp [*]; omega) | (rw [HR,HK]; grind [rcvPost]) | (simp [receiverOk,rcvPre, *]; done) | (simp [receiverOk,rcvPre, *]; omega) | grind [receiverOk,rcvPre]),hb⟩⟩
  have h15p : ¬ (x.off ≤ z) := of_decide_eq_false h15
  refine xl_runS 9 [1,4,7,45,46,47,55,56,57,58,61,62,63,64,65,66,67,68,69] [(1,.p 0 0),(4,.v (.int .i64 (windowOf r))),(7,.p 1 0),(45,.v (.slice Arh r.held.length Crh)),(46,.v (.int .i64 ((r.held.length : Nat) : Int))),(47,.v (.int .i64 (k : Int))),(55,.p 1 0),(56,.v (.int .i64 x.off)),(57,.v (.int .i64 z)),(58,.v (.bool (decide (x.off ≤ z)))),(61,.p 1 0),(62,.v (.int .i64 x.off)),(63,.v (.int .i64 (windowOf r))),(64,.p 1 1),(65,.v (.string x.text)),(66,.v (.int .i64 (x.text.size : Int))),(67,.v (.int .i64 (IntKind.i64.wrap ((windowOf r) - (x.text.size : Int))))),(68,.v (.bool (decide (x.off > (IntKind.i64.wrap ((windowOf r) - (x.text.size : Int))))))),(69,.v (.bool (decide (x.off > (IntKind.i64.wrap ((windowOf r) - (x.text.size : Int)))))))] (by kernel_rfl) ?_
  refine xl_eqS (t' := [(1,.p 0 0),(4,.v (.int .i64 (windowOf r))),(7,.p 1 0),(45,.v (.slice Arh r.held.length Crh)),(46,.v (.int .i64 ((r.held.length : Nat) : Int))),(47,.v (.int .i64 (k : Int))),(55,.p 1 0),(56,.v (.int .i64 x.off)),(57,.v (.int .i64 z)),(58,.v (.bool (decide (x.off ≤ z)))),(61,.p 1 0),(62,.v (.int .i64 x.off)),(63,.v (.int .i64 (windowOf r))),(64,.p 1 1),(65,.v (.string x.text)),(66,.v (.int .i64 (x.text.size : Int))),(67,.v (.int .i64 ((windowOf r) - (x.text.size : Int)))),(68,.v (.bool (decide (x.off > ((windowOf r) - (x.text.size : Int)))))),(69,.v (.bool (decide (x.off > ((windowOf r) - (x.text.size : Int))))))]) (by rw [show (IntKind.i64.wrap ((windowOf r) - (x.text.size : Int))) = ((windowOf r) - (x.text.size : Int)) from wrap_id (by omega) (by omega)]) ?_
  refine xl_endS [1,4,7,45,46,47,55,56,57,58,61,62,63,64,65,66,67,68,69] [(1,.p 0 0),(4,.v (.int .i64 (windowOf r))),(7,.p 1 0),(45,.v (.slice Arh r.held.length Crh)),(46,.v (.int .i64 ((r.held.length : Nat) : Int))),(47,.v (.int .i64 (k : Int))),(55,.p 1 0),(56,.v (.int .i64 x.off)),(57,.v (.int .i64 z)),(58,.v (.bool (decide (x.off ≤ z)))),(61,.p 1 0),(62,.v (.int .i64 x.off)),(63,.v (.int .i64 (windowOf r))),(64,.p 1 1),(65,.v (.string x.text)),(66,.v (.int .i64 (x.text.size : Int))),(67,.v (.int .i64 ((windowOf r) - (x.text.size : Int)))),(68,.v (.bool (decide (x.off > ((windowOf r) - (x.text.size : Int)))))),(69,.v (.bool (decide (x.off > ((windowOf r) - (x.text.size : Int))))))] (by kernel_rfl) ?_
  refine xw_cond (b := decide (x.off > ((windowOf r) - (x.text.size : Int)))) (by kernel_rfl) (fun h16 => ?_) (fun h16 => ?_)
  have h16p : (x.off > ((windowOf r) - (x.text.size : Int))) := of_decide_eq_true h16
  refine xw_seq ?_
  refine xw_region ?_
  refine xl_endS [2] [(2,.v (.bool false))] (by kernel_rfl) ?_
  refine xw_ret ?_
  exact ⟨[.bool false],by kernel_rfl,fun w' hb hf => ⟨ret_bool (show (false : Bool) = receiverOk r from by first | rfl | (rw [HR,HK]; simp [*]; done) | (rw [HR,HK]; simp [*]; omega) | (rw [HR,HK]; grind [rcvPost]) | (simp [receiverOk,rcvPre, *]; done) | (simp [receiverOk,rcvPre, *]; omega) | grind [receiverOk,rcvPre]),hb⟩⟩
  have h16p : ¬ (x.off > ((windowOf r) - (x.text.size : Int))) := of_decide_eq_false h16
  refine xw_skip ?_
  refine xw_region ?_
  refine xl_runS 7 [1,4,5,45,46,47,55,56,57,58,61,62,63,64,65,66,67,68] [(1,.p 0 0),(4,.v (.int .i64 (windowOf r))),(5,.v (.int .i64 (IntKind.i64.wrap (x.off + (x.text.size : Int))))),(45,.v (.slice Arh r.held.length Crh)),(46,.v (.int .i64 ((r.held.length : Nat) : Int))),(47,.v (.int .i64 (k : Int))),(55,.p 1 0),(56,.v (.int .i64 x.off)),(57,.v (.int .i64 z)),(58,.v (.bool (decide (x.off ≤ z)))),(61,.p 1 0),(62,.v (.int .i64 x.off)),(63,.v (.int .i64 (windowOf r))),(64,.p 1 1),(65,.v (.string x.text)),(66,.v (.int .i64 (x.text.size : Int))),(67,.v (.int .i64 ((windowOf r) - (x.text.size : Int)))),(68,.v (.bool (decide (x.off > ((windowOf r) - (x.text.size : Int))))))] (by kernel_rfl) ?_
  refine xl_eqS (t' := [(1,.p 0 0),(4,.v (.int .i64 (windowOf r))),(5,.v (.int .i64 (x.off + (x.text.size : Int)))),(45,.v (.slice Arh r.held.length Crh)),(46,.v (.int .i64 ((r.held.length : Nat) : Int))),(47,.v (.int .i64 (k : Int))),(55,.p 1 0),(56,.v (.int .i64 x.off)),(57,.v (.int .i64 z)),(58,.v (.bool (decide (x.off ≤ z)))),(61,.p 1 0),(62,.v (.int .i64 x.off)),(63,.v (.int .i64 (windowOf r))),(64,.p 1 1),(65,.v (.string x.text)),(66,.v (.int .i64 (x.text.size : Int))),(67,.v (.int .i64 ((windowOf r) - (x.text.size : Int)))),(68,.v (.bool (decide (x.off > ((windowOf r) - (x.text.size : Int))))))]) (by rw [show (IntKind.i64.wrap (x.off + (x.text.size : Int))) = (x.off + (x.text.size : Int)) from wrap_id (by omega) (by omega)]) ?_
  refine xl_endS [1,4,5,45,46,47,55,56,57,58,61,62,63,64,65,66,67,68] [(1,.p 0 0),(4,.v (.int .i64 (windowOf r))),(5,.v (.int .i64 (x.off + (x.text.size : Int)))),(45,.v (.slice Arh r.held.length Crh)),(46,.v (.int .i64 ((r.held.length : Nat) : Int))),(47,.v (.int .i64 (k : Int))),(55,.p 1 0),(56,.v (.int .i64 x.off)),(57,.v (.int .i64 z)),(58,.v (.bool (decide (x.off ≤ z)))),(61,.p 1 0),(62,.v (.int .i64 x.off)),(63,.v (.int .i64 (windowOf r))),(64,.p 1 1),(65,.v (.string x.text)),(66,.v (.int .i64 (x.text.size : Int))),(67,.v (.int .i64 ((windowOf r) - (x.text.size : Int)))),(68,.v (.bool (decide (x.off > ((windowOf r) - (x.text.size : Int))))))] (by kernel_rfl) ?_
  refine xw_region ?_
  refine xl_runS 2 [1,4,5,45,46,47,55,56,57,58,61,62,63,64,65,66,67,68] [(1,.p 0 0),(4,.v (.int .i64 (windowOf r))),(5,.v (.int .i64 (x.off + (x.text.size : Int)))),(45,.v (.slice Arh r.held.length Crh)),(46,.v (.int .i64 ((r.held.length : Nat) : Int))),(47,.v (.int .i64 (IntKind.i64.wrap ((k : Int) + 1)))),(55,.p 1 0),(56,.v (.int .i64 x.off)),(57,.v (.int .i64 z)),(58,.v (.bool (decide (x.off ≤ z)))),(61,.p 1 0),(62,.v (.int .i64 x.off)),(63,.v (.int .i64 (windowOf r))),(64,.p 1 1),(65,.v (.string x.text)),(66,.v (.int .i64 (x.text.size : Int))),(67,.v (.int .i64 ((windowOf r) - (x.text.size : Int)))),(68,.v (.bool (decide (x.off > ((windowOf r) - (x.text.size : Int))))))] (by kernel_rfl) ?_
  refine xl_eqS (t' := [(1,.p 0 0),(4,.v (.int .i64 (windowOf r))),(5,.v (.int .i64 (x.off + (x.text.size : Int)))),(45,.v (.slice Arh r.held.length Crh)),(46,.v (.int .i64 ((r.held.length : Nat) : Int))),(47,.v (.int .i64 ((k : Int) + 1))),(55,.p 1 0),(56,.v (.int .i64 x.off)),(57,.v (.int .i64 z)),(58,.v (.bool (decide (x.off ≤ z)))),(61,.p 1 0),(62,.v (.int .i64 x.off)),(63,.v (.int .i64 (windowOf r))),(64,.p 1 1),(65,.v (.string x.text)),(66,.v (.int .i64 (x.text.size : Int))),(67,.v (.int .i64 ((windowOf r) - (x.text.size : Int)))),(68,.v (.bool (decide (x.off > ((windowOf r) - (x.text.size : Int))))))]) (by rw [show (IntKind.i64.wrap ((k : Int) + 1)) = ((k : Int) + 1) from wrap_id (by omega) (by omega)]) ?_
  refine xl_endS [1,4,5,45,46,47,55,56,57,58,61,62,63,64,65,66,67,68] [(1,.p 0 0),(4,.v (.int .i64 (windowOf r))),(5,.v (.int .i64 (x.off + (x.text.size : Int)))),(45,.v (.slice Arh r.held.length Crh)),(46,.v (.int .i64 ((r.held.length : Nat) : Int))),(47,.v (.int .i64 ((k : Int) + 1))),(55,.p 1 0),(56,.v (.int .i64 x.off)),(57,.v (.int .i64 z)),(58,.v (.bool (decide (x.off ≤ z)))),(61,.p 1 0),(62,.v (.int .i64 x.off)),(63,.v (.int .i64 (windowOf r))),(64,.p 1 1),(65,.v (.string x.text)),(66,.v (.int .i64 (x.text.size : Int))),(67,.v (.int .i64 ((windowOf r) - (x.text.size : Int)))),(68,.v (.bool (decide (x.off > ((windowOf r) - (x.text.size : Int))))))] (by kernel_rfl) ?_
  exact ⟨⟨(k + 1,x.off + (x.text.size : Int)),⟨by omega,by omega,by omega,by rw [HK]; first | (simp [*]; done) | (simp [*]; omega) | grind⟩⟩,wk_forget 1 0 [1,4,5,45,46,47] (by kernel_rfl) (by kernel_rfl) (by kernel_rfl),by show r.held.length - (k + 1) < r.held.length - k; omega⟩
  have h13p : ¬ ((k : Int) < ((r.held.length : Nat) : Int)) := of_decide_eq_false h13
  have hge : k = r.held.length := by simp at h13; omega
  subst hge; simp only [List.drop_length,heldOkS,heldOk] at HK
  refine xw_exit ?_
  refine xw_seq ?_
  refine xw_region ?_
  refine xl_runS 4 [1,80] [(1,.p 0 0),(80,.v (.bool (!r.done)))] (by kernel_rfl) ?_
  refine xl_split 80 (b := !r.done) (by kernel_rfl) (fun h17 => ?_) (fun h17 => ?_)
  have h17n := not_t h17
  refine xl_endS [2] [(2,.v (.bool true))] (by kernel_rfl) ?_
  refine xw_ret ?_
  exact ⟨[.bool true],by kernel_rfl,fun w' hb hf => ⟨ret_bool (show (true : Bool) = receiverOk r from by first | rfl | (rw [HR,HK]; simp [*]; done) | (rw [HR,HK]; simp [*]; omega) | (rw [HR,HK]; grind [rcvPost]) | (simp [receiverOk,rcvPre, *]; done) | (simp [receiverOk,rcvPre, *]; omega) | grind [receiverOk,rcvPre]),hb⟩⟩
  have h17n := not_f h17
  refine xl_runS 5 [1,80,85] [(1,.p 0 0),(80,.v (.bool false)),(85,.v (.bool (((r.held.length : Nat) : Int) == 0)))] (by kernel_rfl) ?_
  refine xl_split 85 (b := ((r.held.length : Nat) : Int) == 0) (by kernel_rfl) (fun h18 => ?_) (fun h18 => ?_)
  have h18p := eqT h18
  refine xl_endS [2] [(2,.v (.bool (r.fin == (-1))))] (by kernel_rfl) ?_
  refine xw_ret ?_
  exact ⟨[.bool (r.fin == (-1))],by kernel_rfl,fun w' hb hf => ⟨ret_bool (show (r.fin == (-1) : Bool) = receiverOk r from by first | rfl | (rw [HR,HK]; simp [*]; done) | (rw [HR,HK]; simp [*]; omega) | (rw [HR,HK]; grind [rcvPost]) | (simp [receiverOk,rcvPre, *]; done) | (simp [receiverOk,rcvPre, *]; omega) | grind [receiverOk,rcvPre]),hb⟩⟩
  have h18p := eqF h18
  refine xl_endS [2] [(2,.v (.bool false))] (by kernel_rfl) ?_
  refine xw_ret ?_
  exact ⟨[.bool false],by kernel_rfl,fun w' hb hf => ⟨ret_bool (show (false : Bool) = receiverOk r from by first | rfl | (rw [HR,HK]; simp [*]; done) | (rw [HR,HK]; simp [*]; omega) | (rw [HR,HK]; grind [rcvPost]) | (simp [receiverOk,rcvPre, *]; done) | (simp [receiverOk,rcvPre, *]; omega) | grind [receiverOk,rcvPre]),hb⟩⟩
theorem ysSameReceiver_c (a : Rcv) (a_heldV : Value) (b : Rcv) (b_heldV : Value) (w : World) (hl_a_heldV : Sl w a_heldV 2 (a.held.map pceCells)) (hl_b_heldV : Sl w b_heldV 2 (b.held.map pceCells))  : Calls Try.prog 55 #[.agg (rcvL a a_heldV).toArray, .agg (rcvL b b_heldV).toArray] w fun e w' => e = .returned (.bool (sameReceiver a b)) ∧ Below w.heap.size w w' := by
  obtain ⟨Aah,Cah,hvah⟩ := hl_a_heldV.form
  rw [List.length_map] at hvah; subst hvah
  have hnah := hl_a_heldV.len; rw [List.length_map] at hnah
  have hqah := Sl.capLe hl_a_heldV
  obtain ⟨Abh,Cbh,hvbh⟩ := hl_b_heldV.form
  rw [List.length_map] at hvbh; subst hvbh
  have hnbh := hl_b_heldV.len; rw [List.length_map] at hnbh
  have hqbh := Sl.capLe hl_b_heldV
  refine x_calls (args := [.agg (rcvL a (.slice Aah a.held.length Cah)).toArray,.agg (rcvL b (.slice Abh b.held.length Cbh)).toArray]) (fn := Try.f55) [slF (.slice Aah a.held.length Cah) 2 (a.held.map pceCells),slF (.slice Abh b.held.length Cbh) 2 (b.held.map pceCells)] Try.func55 rfl Try.ntmps55 rfl (by simp only [List.mem_cons,List.not_mem_nil,or_false,forall_eq_or_imp,forall_eq]; exact ⟨⟨rfl,hl_a_heldV⟩,⟨rfl,hl_b_heldV⟩⟩) ?_
  refine xw_seq ?_
  refine xw_region ?_
  refine xl_end [2,3] ⟨[(2,.p 0 0),(3,.p 1 0)],[⟨43,rcvL a (.slice Aah a.held.length Cah)⟩,⟨43,rcvL b (.slice Abh b.held.length Cbh)⟩],[],[slF (.slice Aah a.held.length Cah) 2 (a.held.map pceCells),slF (.slice Abh b.held.length Cbh) 2 (b.held.map pceCells)]⟩ (by kernel_rfl) ?_
  refine xw_seq ?_
  refine xw_seq ?_
  refine xw_join ⟨[(2,.p 0 0),(3,.p 1 0),(40,.v (.bool ((a.next != b.next) || ((!(a.data.toList == b.data.toList)) || ((a.fin != b.fin) || ((!(a.done == b.done)) || (((a.held.length : Nat) : Int) != ((b.held.length : Nat) : Int))))))))],[⟨43,rcvL a (.slice Aah a.held.length Cah)⟩,⟨43,rcvL b (.slice Abh b.held.length Cbh)⟩],[],[slF (.slice Aah a.held.length Cah) 2 (a.held.map pceCells),slF (.slice Abh b.held.length Cbh) 2 (b.held.map pceCells)]⟩ ?_ ?_
  refine xw_region ?_
  refine xl_runS 6 [2,3,11] [(2,.p 0 0),(3,.p 1 0),(11,.v (.bool (a.next != b.next)))] (by kernel_rfl) ?_
  refine xl_split 11 (b := a.next != b.next) (by kernel_rfl) (fun h1 => ?_) (fun h1 => ?_)
  have h1p := neT h1
  refine xl_endS [2,3,40] [(2,.p 0 0),(3,.p 1 0),(40,.v (.bool true))] (by kernel_rfl) ?_
  show Wk _ _
  try rw [h1]
  exact wk_forget 2 0 [2,3,40] (by kernel_rfl) (by kernel_rfl) (by kernel_rfl)
  have h1p := neF h1
  refine xl_runS 7 [2,3,18] [(2,.p 0 0),(3,.p 1 0),(18,.v (.bool (!(a.data.toList == b.data.toList))))] (by kernel_rfl) ?_
  refine xl_split 18 (b := !(a.data.toList == b.data.toList)) (by kernel_rfl) (fun h2 => ?_) (fun h2 => ?_)
  have h2n := not_t h2
  have h2np := h2n; simp only [beq_iff_eq,bne_iff_ne,beq_eq_false_iff_ne,bne_eq_false_iff_eq,ne_eq,toList_lit0] at h2np
  refine xl_endS [2,3,40] [(2,.p 0 0),(3,.p 1 0),(40,.v (.bool true))] (by kernel_rfl) ?_
  show Wk _ _
  try rw [h1]
  try rw [h2]
  exact wk_forget 2 0 [2,3,40] (by kernel_rfl) (by kernel_rfl) (by kernel_rfl)
  have h2n := not_f h2
  have h2np := h2n; simp only [beq_iff_eq,bne_iff_ne,beq_eq_false_iff_ne,bne_eq_false_iff_eq,ne_eq,toList_lit0] at h2np
  refine xl_runS 7 [2,3,25] [(2,.p 0 0),(3,.p 1 0),(25,.v (.bool (a.fin != b.fin)))] (by kernel_rfl) ?_
  refine xl_split 25 (b := a.fin != b.fin) (by kernel_rfl) (fun h3 => ?_) (fun h3 => ?_)
  have h3p := neT h3
  refine xl_endS [2,3,40] [(2,.p 0 0),(3,.p 1 0),(40,.v (.bool true))] (by kernel_rfl) ?_
  show Wk _ _
  try rw [h1]
  try rw [h2]
  try rw [h3]
  exact wk_forget 2 0 [2,3,40] (by kernel_rfl) (by kernel_rfl) (by kernel_rfl)
  have h3p := neF h3
  refine xl_runS 7 [2,3,32] [(2,.p 0 0),(3,.p 1 0),(32,.v (.bool (!(a.done == b.done))))] (by kernel_rfl) ?_
  refine xl_split 32 (b := !(a.done == b.done)) (by kernel_rfl) (fun h4 => ?_) (fun h4 => ?_)
  have h4n := not_t h4
  have h4np := eqF h4n
  refine xl_endS [2,3,40] [(2,.p 0 0),(3,.p 1 0),(40,.v (.bool true))] (by kernel_rfl) ?_
  show Wk _ _
  try rw [h1]
  try rw [h2]
  try rw [h3]
  try rw [h4]
  exact wk_forget 2 0 [2,3,40] (by kernel_rfl) (by kernel_rfl) (by kernel_rfl)
  have h4n := not_f h4
  have h4np := eqT h4n
  refine xl_endS [2,3,40] [(2,.p 0 0),(3,.p 1 0),(40,.v (.bool (((a.held.length : Nat) : Int) != ((b.held.length : Nat) : Int))))] (by kernel_rfl) ?_
  show Wk _ _
  try rw [h1]
  try rw [h2]
  try rw [h3]
  try rw [h4]
  exact wk_forget 2 0 [2,3,40] (by kernel_rfl) (by kernel_rfl) (by kernel_rfl)
  refine xw_cond (b := (a.next != b.next) || ((!(a.data.toList == b.data.toList)) || ((a.fin != b.fin) || ((!(a.done == b.done)) || (((a.held.length : Nat) : Int) != ((b.held.length : Nat) : Int)))))) (by kernel_rfl) (fun h5 => ?_) (fun h5 => ?_)
  refine xw_seq ?_
  refine xw_region ?_
  refine xl_endS [4] [(4,.v (.bool false))] (by kernel_rfl) ?_
  refine xw_ret ?_
  exact ⟨[.bool false],by kernel_rfl,fun w' hb hf => ⟨ret_bool (show (false : Bool) = sameReceiver a b from by first | rfl | (simp [sameReceiver, *]; done) | grind [sameReceiver,sameL_len]),hb⟩⟩
  have h5l := or_l h5
  have h5lp := neF h5l
  have h5r := or_r h5
  have h5rl := or_l h5r
  have h5rln := not_f h5rl
  have h5rlnp := h5rln; simp only [beq_iff_eq,bne_iff_ne,beq_eq_false_iff_ne,bne_eq_false_iff_eq,ne_eq,toList_lit0] at h5rlnp
  have h5rr := or_r h5r
  have h5rrl := or_l h5rr
  have h5rrlp := neF h5rrl
  have h5rrr := or_r h5rr
  have h5rrrl := or_l h5rrr
  have h5rrrln := not_f h5rrrl
  have h5rrrlnp := eqT h5rrrln
  have h5rrrr := or_r h5rrr
  have h5rrrrp := neF h5rrrr
  refine xw_skip ?_
  refine xw_seq ?_
  refine xw_seq ?_
  refine xw_region ?_
  refine xl_endS [2,3,5] [(2,.p 0 0),(3,.p 1 0),(5,.v (.int .i64 0))] (by kernel_rfl) ?_
  refine xw_block ?_
  have hlen : a.held.length = b.held.length := by omega
  refine xw_loopW (α := {x : Nat // (fun (k : Nat) => k ≤ a.held.length ∧ ∀ (i : Nat) (x y : Pce),i < k → a.held[i]? = some x → b.held[i]? = some y → pceEq x y = true) x}) (fun x => (fun (k : Nat) => (⟨[(2,.p 0 0),(3,.p 1 0),(5,.v (.int .i64 (k : Int)))],[⟨43,rcvL a (.slice Aah a.held.length Cah)⟩,⟨43,rcvL b (.slice Abh b.held.length Cbh)⟩],[],[slF (.slice Aah a.held.length Cah) 2 (a.held.map pceCells),slF (.slice Abh b.held.length Cbh) 2 (b.held.map pceCells)]⟩ : St)) x.1) (fun x => a.held.length - x.1) ⟨(0),⟨Nat.zero_le _,fun i x y hi => by omega⟩⟩ (wk_forget 2 0 [2,3,5] (by kernel_rfl) (by kernel_rfl) (by kernel_rfl)) ?_
  rintro ⟨k,hk,HK⟩
  refine xw_wk (Wk.of_eq (s' := ⟨[(2,.p 0 0),(3,.p 1 0),(5,.v (.int .i64 (k : Int)))],[⟨43,rcvL a (.slice Aah a.held.length Cah)⟩,⟨43,rcvL b (.slice Abh b.held.length Cbh)⟩],[],[slF (.slice Aah a.held.length Cah) 2 (a.held.map pceCells),slF (.slice Abh b.held.length Cbh) 2 (b.held.map pceCells)]⟩) rfl) ?_
  try dsimp only at hk HK
  refine xw_seq ?_
  refine xw_seq ?_
  refine xw_region ?_
  refine xl_endS [2,3,5,45] [(2,.p 0 0),(3,.p 1 0),(5,.v (.int .i64 (k : Int))),(45,.v (.bool (decide ((k : Int) < ((a.held.length : Nat) : Int)))))] (by kernel_rfl) ?_
  refine xw_cond (b := decide ((k : Int) < ((a.held.length : Nat) : Int))) (by kernel_rfl) (fun h6 => ?_) (fun h6 => ?_)
  have h6p : ((k : Int) < ((a.held.length : Nat) : Int)) := of_decide_eq_true h6
  have hlt : k < a.held.length := by simpa using h6
  obtain ⟨x,hx⟩ : ∃ x,a.held[k]? = some x := ⟨_,List.getElem?_eq_getElem hlt⟩
  obtain ⟨y,hy⟩ : ∃ y,b.held[k]? = some y := ⟨_,List.getElem?_eq_getElem (by omega)⟩
  refine xw_skip ?_
  refine xw_seq ?_
  refine xw_block ?_
  refine xw_seq ?_
  refine xws_start ?_
  refine xws_row (K := 2) (j := k) [.int .i64 x.off,.string x.text] (slF (.slice Aah a.held.length Cah) 2 (a.held.map pceCells)) (fun _ _ h => h) (by simp) (fun w h => h) (fun b h => h) (by simp only [List.getElem?_map,hx]; rfl) (fun bq7 offq7 hAq7 => ?_)
  refine xws_row (K := 2) (j := k) [.int .i64 y.off,.string y.text] (slF (.slice Abh b.held.length Cbh) 2 (b.held.map pceCells)) (fun _ _ h => h) (by simp) (fun w h => h) (fun b h => h) (by simp only [List.getElem?_map,hy]; rfl) (fun bq8 offq8 hAq8 => ?_)
  refine xws_regionE [] (by kernel_rfl) (fun ρ σ hq9 => ?_)
  refine xe_tkS [0,1,2,5,6,7] [55,54,50,49,2,3,5] 5 [(55,.v (.int .i64 (k : Int))),(54,.v (.slice Abh b.held.length Cbh)),(50,.v (.int .i64 (k : Int))),(49,.v (.slice Aah a.held.length Cah)),(2,.p 0 0),(3,.p 1 0),(5,.v (.int .i64 (k : Int)))] (fun _ _ h => h) rfl (by kernel_rfl) ?_
  refine xe_takeI (kd := .i64) (T := 41) (e := 98) (K := 2) (j := k) (A := Aah) (len := a.held.length) (cap := Cah) 3 0 _ rfl (by kernel_rfl) (by kernel_rfl) (by kernel_rfl) (fun _ _ h => h) (by kernel_rfl) rfl rfl (by kernel_rfl) (by kernel_rfl) (by kernel_rfl) (by kernel_rfl) hlt hAq7 hq9.1.2 (by kernel_rfl) rfl ?_
  refine xe_tkS [4] [52,55,54,2,3,5] 3 [(52,.v (.agg (pceL x).toArray)),(55,.v (.int .i64 (k : Int))),(54,.v (.slice Abh b.held.length Cbh)),(2,.p 0 0),(3,.p 1 0),(5,.v (.int .i64 (k : Int)))] (fun _ _ h => h) rfl (by kernel_rfl) ?_
  refine xe_takeI (kd := .i64) (T := 41) (e := 98) (K := 2) (j := k) (A := Abh) (len := b.held.length) (cap := Cbh) 8 1 _ rfl (by kernel_rfl) (by kernel_rfl) (by kernel_rfl) (fun _ _ h => h) (by kernel_rfl) rfl rfl (by kernel_rfl) (by kernel_rfl) (by kernel_rfl) (by kernel_rfl) (by omega) hAq8 hq9.2 (by kernel_rfl) rfl ?_
  refine xe_tkS [9] [57,52,2,3,5] 1 [(57,.v (.agg (pceL y).toArray)),(52,.v (.agg (pceL x).toArray)),(2,.p 0 0),(3,.p 1 0),(5,.v (.int .i64 (k : Int)))] (fun _ _ h => h) rfl (by kernel_rfl) ?_
  refine xe_op 10 (.bool (!pceEq x y)) _ rfl (by kernel_rfl) (by kernel_rfl) (by kernel_rfl) (fun _ _ h => h) (by kernel_rfl) rfl (fun _ _ ww hA => act_bin hA rfl (by kernel_rfl) (by kernel_rfl) (agg_bin (by kernel_rfl) (run_neq_PCE x.off x.text y.off y.text ww))) rfl ?_
  refine xe_done (by kernel_rfl) ?_
  refine xw_cond (b := !pceEq x y) (by kernel_rfl) (fun h10 => ?_) (fun h10 => ?_)
  have hno := sameL_no hx hy (by simpa using h10)
  refine xw_seq ?_
  refine xw_region ?_
  refine xl_endS [4] [(4,.v (.bool false))] (by kernel_rfl) ?_
  refine xw_ret ?_
  exact ⟨[.bool false],by kernel_rfl,fun w' hb hf => ⟨ret_bool (show (false : Bool) = sameReceiver a b from by first | rfl | (simp [sameReceiver, *]; done) | grind [sameReceiver,sameL_len]),hb⟩⟩
  have hye : pceEq x y = true := by simpa using h10
  refine xw_skip ?_
  refine xw_region ?_
  refine xl_runS 3 [2,3,5] [(2,.p 0 0),(3,.p 1 0),(5,.v (.int .i64 (IntKind.i64.wrap ((k : Int) + 1))))] (by kernel_rfl) ?_
  refine xl_eqS (t' := [(2,.p 0 0),(3,.p 1 0),(5,.v (.int .i64 ((k : Int) + 1)))]) (by rw [show (IntKind.i64.wrap ((k : Int) + 1)) = ((k : Int) + 1) from wrap_id (by omega) (by omega)]) ?_
  refine xl_endS [2,3,5] [(2,.p 0 0),(3,.p 1 0),(5,.v (.int .i64 ((k : Int) + 1)))] (by kernel_rfl) ?_
  exact ⟨⟨(k + 1),⟨by omega,same_step hx hy hye HK⟩⟩,wk_forget 2 0 [2,3,5] (by kernel_rfl) (by kernel_rfl) (by kernel_rfl),by show a.held.length - (k + 1) < a.held.length - k; omega⟩
  have h6p : ¬ ((k : Int) < ((a.held.length : Nat) : Int)) := of_decide_eq_false h6
  have hge : k = a.held.length := by simp at h6; omega
  have hall := sameL_nil_of hge hlen HK
  refine xw_exit ?_
  refine xw_seq ?_
  refine xw_region ?_
  refine xl_endS [4] [(4,.v (.bool true))] (by kernel_rfl) ?_
  refine xw_ret ?_
  exact ⟨[.bool true],by kernel_rfl,fun w' hb hf => ⟨ret_bool (show (true : Bool) = sameReceiver a b from by first | rfl | (simp [sameReceiver, *]; done) | grind [sameReceiver,sameL_len]),hb⟩⟩
theorem ysSameConn_c (a : Con) (a_r_heldV : Value) (b : Con) (b_r_heldV : Value) (w : World) (hl_a_r_heldV : Sl w a_r_heldV 2 (a.r.held.map pceCells)) (hl_b_r_heldV : Sl w b_r_heldV 2 (b.r.held.map pceCells))  : Calls Try.prog 19 #[.agg (conL a a_r_heldV).toArray, .agg (conL b b_r_heldV).toArray] w fun e w' => e = .returned (.bool (sameConn a b)) ∧ Below w.heap.size w w' := by
  obtain ⟨Aarh,Carh,hvarh⟩ := hl_a_r_heldV.form
  rw [List.length_map] at hvarh; subst hvarh
  have hnarh := hl_a_r_heldV.len; rw [List.length_map] at hnarh
  have hqarh := Sl.capLe hl_a_r_heldV
  obtain ⟨Abrh,Cbrh,hvbrh⟩ := hl_b_r_heldV.form
  rw [List.length_map] at hvbrh; subst hvbrh
  have hnbrh := hl_b_r_heldV.len; rw [List.length_map] at hnbrh
  have hqbrh := Sl.capLe hl_b_r_heldV
  refine x_calls (args := [.agg (conL a (.slice Aarh a.r.held.length Carh)).toArray,.agg (conL b (.slice Abrh b.r.held.length Cbrh)).toArray]) (fn := Try.f19) [slF (.slice Aarh a.r.held.length Carh) 2 (a.r.held.map pceCells),slF (.slice Abrh b.r.held.length Cbrh) 2 (b.r.held.map pceCells)] Try.func19 rfl Try.ntmps19 rfl (by simp only [List.mem_cons,List.not_mem_nil,or_false,forall_eq_or_imp,forall_eq]; exact ⟨⟨rfl,hl_a_r_heldV⟩,⟨rfl,hl_b_r_heldV⟩⟩) ?_
  refine xw_seq ?_
  refine xw_region ?_
  refine xl_end [2,3] ⟨[(2,.p 0 0),(3,.p 1 0)],[⟨45,conL a (.slice Aarh a.r.held.length Carh)⟩,⟨45,conL b (.slice Abrh b.r.held.length Cbrh)⟩],[],[slF (.slice Aarh a.r.held.length Carh) 2 (a.r.held.map pceCells),slF (.slice Abrh b.r.held.length Cbrh) 2 (b.r.held.map pceCells)]⟩ (by kernel_rfl) ?_
  refine xw_seq ?_
  refine xw_join ⟨[(4,.v (.bool ((tupEq a.t b.t) && ((a.state == b.state) && ((sndEq a.s b.s) && ((sameReceiver a.r b.r) && ((a.window == b.window) && ((a.most == b.most) && ((optEq a.o b.o) && ((a.timer == b.timer) && (a.tries == b.tries)))))))))))],[⟨45,conL a (.slice Aarh a.r.held.length Carh)⟩,⟨45,conL b (.slice Abrh b.r.held.length Cbrh)⟩],[],[slF (.slice Aarh a.r.held.length Carh) 2 (a.r.held.map pceCells),slF (.slice Abrh b.r.held.length Cbrh) 2 (b.r.held.map pceCells)]⟩ ?_ ?_
  refine xw_region ?_
  refine xl_opS 4 [2,3,6,8] [(2,.p 0 0),(3,.p 1 0),(6,.v (.agg (tupL a.t).toArray)),(8,.v (.agg (tupL b.t).toArray))] (.bool (tupEq a.t b.t)) (by kernel_rfl) rfl (by kernel_rfl) rfl (fun _ _ _ ww hr => act_bin hr.1 rfl (by kernel_rfl) (by kernel_rfl) (agg_bin (by kernel_rfl) (run_eql_TUP a.t.ip a.t.port a.t.my b.t.ip b.t.port b.t.my ww))) ?_
  refine xl_runS 1 [2,3,10] [(2,.p 0 0),(3,.p 1 0),(10,.v (.bool (tupEq a.t b.t)))] (by kernel_rfl) ?_
  refine xl_split 10 (b := tupEq a.t b.t) (by kernel_rfl) (fun h1 => ?_) (fun h1 => ?_)
  refine xl_runS 7 [2,3,17] [(2,.p 0 0),(3,.p 1 0),(17,.v (.bool (a.state == b.state)))] (by kernel_rfl) ?_
  refine xl_split 17 (b := a.state == b.state) (by kernel_rfl) (fun h2 => ?_) (fun h2 => ?_)
  have h2p := eqT h2
  refine xl_opS 4 [2,3,17,19,21] [(2,.p 0 0),(3,.p 1 0),(17,.v (.bool true)),(19,.v (.agg (sndL a.s).toArray)),(21,.v (.agg (sndL b.s).toArray))] (.bool (sndEq a.s b.s)) (by kernel_rfl) rfl (by kernel_rfl) rfl (fun _ _ _ ww hr => act_bin hr.1 rfl (by kernel_rfl) (by kernel_rfl) (agg_bin (by kernel_rfl) (run_eql_SND a.s.una a.s.data a.s.sent a.s.fin a.s.finSent a.s.done b.s.una b.s.data b.s.sent b.s.fin b.s.finSent b.s.done ww))) ?_
  refine xl_runS 2 [2,3,24] [(2,.p 0 0),(3,.p 1 0),(24,.v (.bool (sndEq a.s b.s)))] (by kernel_rfl) ?_
  refine xl_split 24 (b := sndEq a.s b.s) (by kernel_rfl) (fun h3 => ?_) (fun h3 => ?_)
  refine xl_callS 4 [2,3,24,26,28] [(2,.p 0 0),(3,.p 1 0),(24,.v (.bool true)),(26,.v (.agg (rcvL a.r (.slice Aarh a.r.held.length Carh)).toArray)),(28,.v (.agg (rcvL b.r (.slice Abrh b.r.held.length Cbrh)).toArray))] 55 [.agg (rcvL a.r (.slice Aarh a.r.held.length Carh)).toArray,.agg (rcvL b.r (.slice Abrh b.r.held.length Cbrh)).toArray] (some 29) (by kernel_rfl) rfl (by kernel_rfl) rfl (by kernel_rfl) (xc_b fun ww hf => ysSameReceiver_c a.r (.slice Aarh a.r.held.length Carh) b.r (.slice Abrh b.r.held.length Cbrh) ww (hf (slF (.slice Aarh a.r.held.length Carh) 2 (a.r.held.map pceCells)) (by simp)) (hf (slF (.slice Abrh b.r.held.length Cbrh) 2 (b.r.held.map pceCells)) (by simp)) ) ?_
  intro _
  refine xl_runS 2 [2,3,31] [(2,.p 0 0),(3,.p 1 0),(31,.v (.bool (sameReceiver a.r b.r)))] (by kernel_rfl) ?_
  refine xl_split 31 (b := sameReceiver a.r b.r) (by kernel_rfl) (fun h4 => ?_) (fun h4 => ?_)
  refine xl_runS 7 [2,3,38] [(2,.p 0 0),(3,.p 1 0),(38,.v (.bool (a.window == b.window)))] (by kernel_rfl) ?_
  refine xl_split 38 (b := a.window == b.window) (by kernel_rfl) (fun h5 => ?_) (fun h5 => ?_)
  have h5p := eqT h5
  refine xl_runS 7 [2,3,45] [(2,.p 0 0),(3,.p 1 0),(45,.v (.bool (a.most == b.most)))] (by kernel_rfl) ?_
  refine xl_split 45 (b := a.most == b.most) (by kernel_rfl) (fun h6 => ?_) (fun h6 => ?_)
  have h6p := eqT h6
  refine xl_opS 4 [2,3,45,47,49] [(2,.p 0 0),(3,.p 1 0),(45,.v (.bool true)),(47,.v (.agg (optL a.o).toArray)),(49,.v (.agg (optL b.o).toArray))] (.bool (optEq a.o b.o)) (by kernel_rfl) rfl (by kernel_rfl) rfl (fun _ _ _ ww hr => act_bin hr.1 rfl (by kernel_rfl) (by kernel_rfl) (agg_bin (by kernel_rfl) (run_eql_OPT a.o.mss a.o.scale a.o.sack a.o.stamp a.o.val a.o.echo b.o.mss b.o.scale b.o.sack b.o.stamp b.o.val b.o.echo ww))) ?_
  refine xl_runS 2 [2,3,52] [(2,.p 0 0),(3,.p 1 0),(52,.v (.bool (optEq a.o b.o)))] (by kernel_rfl) ?_
  refine xl_split 52 (b := optEq a.o b.o) (by kernel_rfl) (fun h7 => ?_) (fun h7 => ?_)
  refine xl_runS 7 [2,3,59] [(2,.p 0 0),(3,.p 1 0),(59,.v (.bool (a.timer == b.timer)))] (by kernel_rfl) ?_
  refine xl_split 59 (b := a.timer == b.timer) (by kernel_rfl) (fun h8 => ?_) (fun h8 => ?_)
  have h8p := eqT h8
  refine xl_endS [4] [(4,.v (.bool (a.tries == b.tries)))] (by kernel_rfl) ?_
  show Wk _ _
  try rw [h1]
  try rw [h2]
  try rw [h3]
  try rw [h4]
  try rw [h5]
  try rw [h6]
  try rw [h7]
  try rw [h8]
  exact wk_forget 2 0 [4] (by kernel_rfl) (by kernel_rfl) (by kernel_rfl)
  have h8p := eqF h8
  refine xl_endS [4] [(4,.v (.bool false))] (by kernel_rfl) ?_
  show Wk _ _
  try rw [h1]
  try rw [h2]
  try rw [h3]
  try rw [h4]
  try rw [h5]
  try rw [h6]
  try rw [h7]
  try rw [h8]
  exact wk_forget 2 0 [4] (by kernel_rfl) (by kernel_rfl) (by kernel_rfl)
  refine xl_endS [4] [(4,.v (.bool false))] (by kernel_rfl) ?_
  show Wk _ _
  try rw [h1]
  try rw [h2]
  try rw [h3]
  try rw [h4]
  try rw [h5]
  try rw [h6]
  try rw [h7]
  exact wk_forget 2 0 [4] (by kernel_rfl) (by kernel_rfl) (by kernel_rfl)
  have h6p := eqF h6
  refine xl_endS [4] [(4,.v (.bool false))] (by kernel_rfl) ?_
  show Wk _ _
  try rw [h1]
  try rw [h2]
  try rw [h3]
  try rw [h4]
  try rw [h5]
  try rw [h6]
  exact wk_forget 2 0 [4] (by kernel_rfl) (by kernel_rfl) (by kernel_rfl)
  have h5p := eqF h5
  refine xl_endS [4] [(4,.v (.bool false))] (by kernel_rfl) ?_
  show Wk _ _
  try rw [h1]
  try rw [h2]
  try rw [h3]
  try rw [h4]
  try rw [h5]
  exact wk_forget 2 0 [4] (by kernel_rfl) (by kernel_rfl) (by kernel_rfl)
  refine xl_endS [4] [(4,.v (.bool false))] (by kernel_rfl) ?_
  show Wk _ _
  try rw [h1]
  try rw [h2]
  try rw [h3]
  try rw [h4]
  exact wk_forget 2 0 [4] (by kernel_rfl) (by kernel_rfl) (by kernel_rfl)
  refine xl_endS [4] [(4,.v (.bool false))] (by kernel_rfl) ?_
  show Wk _ _
  try rw [h1]
  try rw [h2]
  try rw [h3]
  exact wk_forget 2 0 [4] (by kernel_rfl) (by kernel_rfl) (by kernel_rfl)
  have h2p := eqF h2
  refine xl_endS [4] [(4,.v (.bool false))] (by kernel_rfl) ?_
  show Wk _ _
  try rw [h1]
  try rw [h2]
  exact wk_forget 2 0 [4] (by kernel_rfl) (by kernel_rfl) (by kernel_rfl)
  refine xl_endS [4] [(4,.v (.bool false))] (by kernel_rfl) ?_
  show Wk _ _
  try rw [h1]
  exact wk_forget 2 0 [4] (by kernel_rfl) (by kernel_rfl) (by kernel_rfl)
  refine xw_ret ?_
  exact ⟨[.bool ((tupEq a.t b.t) && ((a.state == b.state) && ((sndEq a.s b.s) && ((sameReceiver a.r b.r) && ((a.window == b.window) && ((a.most == b.most) && ((optEq a.o b.o) && ((a.timer == b.timer) && (a.tries == b.tries)))))))))],by kernel_rfl,fun w' hb hf => ⟨ret_bool (show ((tupEq a.t b.t) && ((a.state == b.state) && ((sndEq a.s b.s) && ((sameReceiver a.r b.r) && ((a.window == b.window) && ((a.most == b.most) && ((optEq a.o b.o) && ((a.timer == b.timer) && (a.tries == b.tries)))))))) : Bool) = sameConn a b from by first | rfl | (simp [sameConn, *]; done) | grind [sameConn,sameL_len]),hb⟩⟩
@[simp] theorem inB18_1 : inB 1 1 8 = true := rfl
@[simp] theorem inB18_2 : inB 2 1 8 = true := rfl
@[simp] theorem inB18_3 : inB 3 1 8 = true := rfl
@[simp] theorem inB18_4 : inB 4 1 8 = true := rfl
@[simp] theorem inB18_5 : inB 5 1 8 = true := rfl
@[simp] theorem inB18_6 : inB 6 1 8 = true := rfl
@[simp] theorem inB18_7 : inB 7 1 8 = true := rfl
@[simp] theorem inB18_8 : inB 8 1 8 = true := rfl
theorem yiConnOk_c (c : Con) (c_r_heldV : Value) (w : World) (hl_c_r_heldV : Sl w c_r_heldV 2 (c.r.held.map pceCells)) (hm : ∀ p ∈ c.r.held, p.text.size ≤ 1048576) (hsz : c.r.data.size ≤ 4611686018427387904) : Calls Try.prog 22 #[.agg (conL c c_r_heldV).toArray] w fun e w' => e = .returned (.bool (conOk c)) ∧ Below w.heap.size w w' := by
  obtain ⟨Acrh,Ccrh,hvcrh⟩ := hl_c_r_heldV.form
  rw [List.length_map] at hvcrh; subst hvcrh
  have hncrh := hl_c_r_heldV.len; rw [List.length_map] at hncrh
  have hqcrh := Sl.capLe hl_c_r_heldV
  refine x_calls (args := [.agg (conL c (.slice Acrh c.r.held.length Ccrh)).toArray]) (fn := Try.f22) [slF (.slice Acrh c.r.held.length Ccrh) 2 (c.r.held.map pceCells)] Try.func22 rfl Try.ntmps22 rfl (by simp only [List.mem_cons,List.not_mem_nil,or_false,forall_eq_or_imp,forall_eq]; exact ⟨rfl,hl_c_r_heldV⟩) ?_
  refine xw_seq ?_
  refine xw_region ?_
  refine xl_end [1] ⟨[(1,.p 0 0)],[⟨45,conL c (.slice Acrh c.r.held.length Ccrh)⟩],[],[slF (.slice Acrh c.r.held.length Ccrh) 2 (c.r.held.map pceCells)]⟩ (by kernel_rfl) ?_
  refine xw_seq ?_
  refine xw_seq ?_
  refine xw_join ⟨[(1,.p 0 0),(34,.v (.bool ((!(tupleOk c.t)) || ((!(senderOk c.s)) || ((!(receiverOk c.r)) || ((!(optionsOk c.o)) || (!(inB c.state 1 8))))))))],[⟨45,conL c (.slice Acrh c.r.held.length Ccrh)⟩],[],[slF (.slice Acrh c.r.held.length Ccrh) 2 (c.r.held.map pceCells)]⟩ ?_ ?_
  refine xw_region ?_
  refine xl_callS 2 [1,8] [(1,.p 0 0),(8,.v (.agg (tupL c.t).toArray))] 60 [.agg (tupL c.t).toArray] (some 9) (by kernel_rfl) rfl (by kernel_rfl) rfl (by kernel_rfl) (xc_b fun ww hf => iTupleOk_c c.t.ip c.t.port c.t.my ww ) ?_
  intro _
  refine xl_runS 2 [1,11] [(1,.p 0 0),(11,.v (.bool (!(tupleOk c.t))))] (by kernel_rfl) ?_
  refine xl_split 11 (b := !(tupleOk c.t)) (by kernel_rfl) (fun h1 => ?_) (fun h1 => ?_)
  have h1n := not_t h1
  refine xl_endS [1,34] [(1,.p 0 0),(34,.v (.bool true))] (by kernel_rfl) ?_
  show Wk _ _
  try rw [h1]
  exact wk_forget 1 0 [1,34] (by kernel_rfl) (by kernel_rfl) (by kernel_rfl)
  have h1n := not_f h1
  refine xl_callS 2 [1,11,13] [(1,.p 0 0),(11,.v (.bool false)),(13,.v (.agg (sndL c.s).toArray))] 61 [.agg (sndL c.s).toArray] (some 14) (by kernel_rfl) rfl (by kernel_rfl) rfl (by kernel_rfl) (xc_b fun ww hf => iSenderOk_c c.s.una c.s.data c.s.sent c.s.fin c.s.finSent c.s.done ww ) ?_
  intro _
  refine xl_runS 3 [1,17] [(1,.p 0 0),(17,.v (.bool (!(senderOk c.s))))] (by kernel_rfl) ?_
  refine xl_split 17 (b := !(senderOk c.s)) (by kernel_rfl) (fun h2 => ?_) (fun h2 => ?_)
  have h2n := not_t h2
  refine xl_endS [1,34] [(1,.p 0 0),(34,.v (.bool true))] (by kernel_rfl) ?_
  show Wk _ _
  try rw [h1]
  try rw [h2]
  exact wk_forget 1 0 [1,34] (by kernel_rfl) (by kernel_rfl) (by kernel_rfl)
  have h2n := not_f h2
  refine xl_callS 2 [1,17,19] [(1,.p 0 0),(17,.v (.bool false)),(19,.v (.agg (rcvL c.r (.slice Acrh c.r.held.length Ccrh)).toArray))] 62 [.agg (rcvL c.r (.slice Acrh c.r.held.length Ccrh)).toArray] (some 20) (by kernel_rfl) rfl (by kernel_rfl) rfl (by kernel_rfl) (xc_b fun ww hf => yiReceiverOk_c c.r (.slice Acrh c.r.held.length Ccrh) ww (hf (slF (.slice Acrh c.r.held.length Ccrh) 2 (c.r.held.map pceCells)) (by simp)) (by assumption) (by omega)) ?_
  intro _
  refine xl_runS 3 [1,23] [(1,.p 0 0),(23,.v (.bool (!(receiverOk c.r))))] (by kernel_rfl) ?_
  refine xl_split 23 (b := !(receiverOk c.r)) (by kernel_rfl) (fun h3 => ?_) (fun h3 => ?_)
  have h3n := not_t h3
  refine xl_endS [1,34] [(1,.p 0 0),(34,.v (.bool true))] (by kernel_rfl) ?_
  show Wk _ _
  try rw [h1]
  try rw [h2]
  try rw [h3]
  exact wk_forget 1 0 [1,34] (by kernel_rfl) (by kernel_rfl) (by kernel_rfl)
  have h3n := not_f h3
  refine xl_callS 2 [1,23,25] [(1,.p 0 0),(23,.v (.bool false)),(25,.v (.agg (optL c.o).toArray))] 12 [.agg (optL c.o).toArray] (some 26) (by kernel_rfl) rfl (by kernel_rfl) rfl (by kernel_rfl) (xc_b fun ww hf => iOptionsOk_c c.o.mss c.o.scale c.o.sack c.o.stamp c.o.val c.o.echo ww ) ?_
  intro _
  refine xl_runS 3 [1,29] [(1,.p 0 0),(29,.v (.bool (!(optionsOk c.o))))] (by kernel_rfl) ?_
  refine xl_split 29 (b := !(optionsOk c.o)) (by kernel_rfl) (fun h4 => ?_) (fun h4 => ?_)
  have h4n := not_t h4
  refine xl_endS [1,34] [(1,.p 0 0),(34,.v (.bool true))] (by kernel_rfl) ?_
  show Wk _ _
  try rw [h1]
  try rw [h2]
  try rw [h3]
  try rw [h4]
  exact wk_forget 1 0 [1,34] (by kernel_rfl) (by kernel_rfl) (by kernel_rfl)
  have h4n := not_f h4
  refine xl_callS 2 [1,29,31] [(1,.p 0 0),(29,.v (.bool false)),(31,.v (.int .i64 c.state))] 44 [.int .i64 c.state,.int .i64 1,.int .i64 8] (some 32) (by kernel_rfl) rfl (by kernel_rfl) rfl (by kernel_rfl) (xc_s fun ww hf => within_c c.state 1 8 ww ) ?_
  intro _
  refine xl_endS [1,34] [(1,.p 0 0),(34,.v (.bool (!(inB c.state 1 8))))] (by kernel_rfl) ?_
  show Wk _ _
  try rw [h1]
  try rw [h2]
  try rw [h3]
  try rw [h4]
  exact wk_forget 1 0 [1,34] (by kernel_rfl) (by kernel_rfl) (by kernel_rfl)
  refine xw_cond (b := (!(tupleOk c.t)) || ((!(senderOk c.s)) || ((!(receiverOk c.r)) || ((!(optionsOk c.o)) || (!(inB c.state 1 8)))))) (by kernel_rfl) (fun h5 => ?_) (fun h5 => ?_)
  refine xw_seq ?_
  refine xw_region ?_
  refine xl_endS [2] [(2,.v (.bool false))] (by kernel_rfl) ?_
  refine xw_ret ?_
  exact ⟨[.bool false],by kernel_rfl,fun w' hb hf => ⟨ret_bool (show (false : Bool) = conOk c from by first | rfl | (simp [conOk,conPre,conMid,stateFits, *]; done) | (clear hm hf hb; simp_all [conOk,conPre,conMid,stateFits]; done) | grind [conOk,conPre,conMid,stateFits,inB]),hb⟩⟩
  have h5l := or_l h5
  have h5ln := not_f h5l
  have h5r := or_r h5
  have h5rl := or_l h5r
  have h5rln := not_f h5rl
  have h5rr := or_r h5r
  have h5rrl := or_l h5rr
  have h5rrln := not_f h5rrl
  have h5rrr := or_r h5rr
  have h5rrrl := or_l h5rrr
  have h5rrrln := not_f h5rrrl
  have h5rrrr := or_r h5rrr
  have h5rrrrn := not_f h5rrrr
  refine xw_skip ?_
  refine xw_seq ?_
  refine xw_region ?_
  refine xl_endS [1,3] [(1,.p 0 0),(3,.v (.int .i64 3))] (by kernel_rfl) ?_
  refine xw_seq ?_
  refine xw_seq ?_
  refine xw_region ?_
  refine xl_endS [1,3,37] [(1,.p 0 0),(3,.v (.int .i64 3)),(37,.v (.bool (c.state == 7)))] (by kernel_rfl) ?_
  refine xw_join ⟨[(1,.p 0 0),(3,.v (.int .i64 (if (c.state == 7) = true then 4 else 3)))],[⟨45,conL c (.slice Acrh c.r.held.length Ccrh)⟩],[],[slF (.slice Acrh c.r.held.length Ccrh) 2 (c.r.held.map pceCells)]⟩ ?_ ?_
  refine xw_cond (b := c.state == 7) (by kernel_rfl) (fun h6 => ?_) (fun h6 => ?_)
  have h6p := eqT h6
  refine xw_region ?_
  refine xl_endS [1,3] [(1,.p 0 0),(3,.v (.int .i64 4))] (by kernel_rfl) ?_
  show Wk _ _; rw [h6]; exact wk_forget 1 0 [1,3] (by kernel_rfl) (by kernel_rfl) (by kernel_rfl)
  have h6p := eqF h6
  refine xw_skip ?_
  show Wk _ _; rw [h6]; exact wk_forget 1 0 [1,3] (by kernel_rfl) (by kernel_rfl) (by kernel_rfl)
  refine xw_seq ?_
  refine xw_seq ?_
  refine xw_join ⟨[(1,.p 0 0),(62,.v (.bool ((!(inB c.most 0 1073725440)) || ((!(inB c.window 0 c.most)) || ((!(inB c.timer 0 (if (c.state == 7) = true then 4 else 3))) || (!(inB c.tries 0 3)))))))],[⟨45,conL c (.slice Acrh c.r.held.length Ccrh)⟩],[],[slF (.slice Acrh c.r.held.length Ccrh) 2 (c.r.held.map pceCells)]⟩ ?_ ?_
  refine xw_region ?_
  refine xl_callS 2 [1,3,39] [(1,.p 0 0),(3,.v (.int .i64 (if (c.state == 7) = true then 4 else 3))),(39,.v (.int .i64 c.most))] 44 [.int .i64 c.most,.int .i64 0,.int .i64 1073725440] (some 40) (by kernel_rfl) rfl (by kernel_rfl) rfl (by kernel_rfl) (xc_s fun ww hf => within_c c.most 0 1073725440 ww ) ?_
  intro _
  refine xl_runS 2 [1,3,42] [(1,.p 0 0),(3,.v (.int .i64 (if (c.state == 7) = true then 4 else 3))),(42,.v (.bool (!(inB c.most 0 1073725440))))] (by kernel_rfl) ?_
  refine xl_split 42 (b := !(inB c.most 0 1073725440)) (by kernel_rfl) (fun h7 => ?_) (fun h7 => ?_)
  have h7n := not_t h7
  refine xl_endS [1,62] [(1,.p 0 0),(62,.v (.bool true))] (by kernel_rfl) ?_
  show Wk _ _
  try rw [h7]
  exact wk_forget 1 0 [1,62] (by kernel_rfl) (by kernel_rfl) (by kernel_rfl)
  have h7n := not_f h7
  refine xl_callS 4 [1,3,42,44,46] [(1,.p 0 0),(3,.v (.int .i64 (if (c.state == 7) = true then 4 else 3))),(42,.v (.bool false)),(44,.v (.int .i64 c.window)),(46,.v (.int .i64 c.most))] 44 [.int .i64 c.window,.int .i64 0,.int .i64 c.most] (some 47) (by kernel_rfl) rfl (by kernel_rfl) rfl (by kernel_rfl) (xc_s fun ww hf => within_c c.window 0 c.most ww ) ?_
  intro _
  refine xl_runS 3 [1,3,50] [(1,.p 0 0),(3,.v (.int .i64 (if (c.state == 7) = true then 4 else 3))),(50,.v (.bool (!(inB c.window 0 c.most))))] (by kernel_rfl) ?_
  refine xl_split 50 (b := !(inB c.window 0 c.most)) (by kernel_rfl) (fun h8 => ?_) (fun h8 => ?_)
  have h8n := not_t h8
  refine xl_endS [1,62] [(1,.p 0 0),(62,.v (.bool true))] (by kernel_rfl) ?_
  show Wk _ _
  try rw [h7]
  try rw [h8]
  exact wk_forget 1 0 [1,62] (by kernel_rfl) (by kernel_rfl) (by kernel_rfl)
  have h8n := not_f h8
  refine xl_callS 3 [1,50,52,53] [(1,.p 0 0),(50,.v (.bool false)),(52,.v (.int .i64 c.timer)),(53,.v (.int .i64 (if (c.state == 7) = true then 4 else 3)))] 44 [.int .i64 c.timer,.int .i64 0,.int .i64 (if (c.state == 7) = true then 4 else 3)] (some 54) (by kernel_rfl) rfl (by kernel_rfl) rfl (by kernel_rfl) (xc_s fun ww hf => within_c c.timer 0 (if (c.state == 7) = true then 4 else 3) ww ) ?_
  intro _
  refine xl_runS 3 [1,57] [(1,.p 0 0),(57,.v (.bool (!(inB c.timer 0 (if (c.state == 7) = true then 4 else 3)))))] (by kernel_rfl) ?_
  refine xl_split 57 (b := !(inB c.timer 0 (if (c.state == 7) = true then 4 else 3))) (by kernel_rfl) (fun h9 => ?_) (fun h9 => ?_)
  have h9n := not_t h9
  have h9np := h9n; simp only [beq_iff_eq,bne_iff_ne,beq_eq_false_iff_ne,bne_eq_false_iff_eq,ne_eq,toList_lit0] at h9np
  refine xl_endS [1,62] [(1,.p 0 0),(62,.v (.bool true))] (by kernel_rfl) ?_
  show Wk _ _
  try rw [h7]
  try rw [h8]
  try rw [h9]
  exact wk_forget 1 0 [1,62] (by kernel_rfl) (by kernel_rfl) (by kernel_rfl)
  have h9n := not_f h9
  have h9np := h9n; simp only [beq_iff_eq,bne_iff_ne,beq_eq_false_iff_ne,bne_eq_false_iff_eq,ne_eq,toList_lit0] at h9np
  refine xl_callS 2 [1,57,59] [(1,.p 0 0),(57,.v (.bool false)),(59,.v (.int .i64 c.tries))] 44 [.int .i64 c.tries,.int .i64 0,.int .i64 3] (some 60) (by kernel_rfl) rfl (by kernel_rfl) rfl (by kernel_rfl) (xc_s fun ww hf => within_c c.tries 0 3 ww ) ?_
  intro _
  refine xl_endS [1,62] [(1,.p 0 0),(62,.v (.bool (!(inB c.tries 0 3))))] (by kernel_rfl) ?_
  show Wk _ _
  try rw [h7]
  try rw [h8]
  try rw [h9]
  exact wk_forget 1 0 [1,62] (by kernel_rfl) (by kernel_rfl) (by kernel_rfl)
  refine xw_cond (b := (!(inB c.most 0 1073725440)) || ((!(inB c.window 0 c.most)) || ((!(inB c.timer 0 (if (c.state == 7) = true then 4 else 3))) || (!(inB c.tries 0 3))))) (by kernel_rfl) (fun h10 => ?_) (fun h10 => ?_)
  refine xw_seq ?_
  refine xw_region ?_
  refine xl_endS [2] [(2,.v (.bool false))] (by kernel_rfl) ?_
  refine xw_ret ?_
  exact ⟨[.bool false],by kernel_rfl,fun w' hb hf => ⟨ret_bool (show (false : Bool) = conOk c from by first | rfl | (simp [conOk,conPre,conMid,stateFits, *]; done) | (clear hm hf hb; simp_all [conOk,conPre,conMid,stateFits]; done) | grind [conOk,conPre,conMid,stateFits,inB]),hb⟩⟩
  have h10l := or_l h10
  have h10ln := not_f h10l
  have h10r := or_r h10
  have h10rl := or_l h10r
  have h10rln := not_f h10rl
  have h10rr := or_r h10r
  have h10rrl := or_l h10rr
  have h10rrln := not_f h10rrl
  have h10rrlnp := h10rrln; simp only [beq_iff_eq,bne_iff_ne,beq_eq_false_iff_ne,bne_eq_false_iff_eq,ne_eq,toList_lit0] at h10rrlnp
  have h10rrr := or_r h10rr
  have h10rrrn := not_f h10rrr
  refine xw_skip ?_
  refine xw_seq ?_
  refine xe_region [] (by kernel_rfl) (fun ρ σ => ?_)
  refine xe_tkS [0,1,2,3,4,5,6,7,8,9,10,11] [6,5,4,1] 0 [(6,.v (.bool c.r.done)),(5,.v (.bool c.s.done)),(4,.v (.bool c.s.fin)),(1,.p 0 0)] (fun _ _ h => h) rfl (by kernel_rfl) ?_
  refine xe_done (by kernel_rfl) ?_
  refine xw_seq ?_
  refine xw_seq ?_
  refine xw_region ?_
  refine xl_endS [4,5,6,73] [(4,.v (.bool c.s.fin)),(5,.v (.bool c.s.done)),(6,.v (.bool c.r.done)),(73,.v (.int .i64 c.state))] (by kernel_rfl) ?_
  refine xw_block ?_
  refine xw_seq ?_
  refine xw_region ?_
  refine xl_endS [4,5,6,73,74] [(4,.v (.bool c.s.fin)),(5,.v (.bool c.s.done)),(6,.v (.bool c.r.done)),(73,.v (.int .i64 c.state)),(74,.v (.bool (c.state == 1)))] (by kernel_rfl) ?_
  refine xw_cond (b := c.state == 1) (by kernel_rfl) (fun h11 => ?_) (fun h11 => ?_)
  have h11p := eqT h11
  refine xw_seq ?_
  refine xw_join ⟨[(2,.v (.bool ((!c.s.fin) && ((!c.s.done) && (!c.r.done)))))],[⟨45,conL c (.slice Acrh c.r.held.length Ccrh)⟩],[],[slF (.slice Acrh c.r.held.length Ccrh) 2 (c.r.held.map pceCells)]⟩ ?_ ?_
  refine xw_region ?_
  refine xl_runS 3 [5,6,78] [(5,.v (.bool c.s.done)),(6,.v (.bool c.r.done)),(78,.v (.bool (!c.s.fin)))] (by kernel_rfl) ?_
  refine xl_split 78 (b := !c.s.fin) (by kernel_rfl) (fun h12 => ?_) (fun h12 => ?_)
  have h12n := not_t h12
  refine xl_runS 4 [6,82] [(6,.v (.bool c.r.done)),(82,.v (.bool (!c.s.done)))] (by kernel_rfl) ?_
  refine xl_split 82 (b := !c.s.done) (by kernel_rfl) (fun h13 => ?_) (fun h13 => ?_)
  have h13n := not_t h13
  refine xl_endS [2] [(2,.v (.bool (!c.r.done)))] (by kernel_rfl) ?_
  show Wk _ _
  try rw [h12]
  try rw [h13]
  exact wk_forget 1 0 [2] (by kernel_rfl) (by kernel_rfl) (by kernel_rfl)
  have h13n := not_f h13
  refine xl_endS [2] [(2,.v (.bool false))] (by kernel_rfl) ?_
  show Wk _ _
  try rw [h12]
  try rw [h13]
  exact wk_forget 1 0 [2] (by kernel_rfl) (by kernel_rfl) (by kernel_rfl)
  have h12n := not_f h12
  refine xl_endS [2] [(2,.v (.bool false))] (by kernel_rfl) ?_
  show Wk _ _
  try rw [h12]
  exact wk_forget 1 0 [2] (by kernel_rfl) (by kernel_rfl) (by kernel_rfl)
  refine xw_ret ?_
  exact ⟨[.bool ((!c.s.fin) && ((!c.s.done) && (!c.r.done)))],by kernel_rfl,fun w' hb hf => ⟨ret_bool (show ((!c.s.fin) && ((!c.s.done) && (!c.r.done)) : Bool) = conOk c from by first | rfl | (simp [conOk,conPre,conMid,stateFits, *]; done) | (clear hm hf hb; simp_all [conOk,conPre,conMid,stateFits]; done) | grind [conOk,conPre,conMid,stateFits,inB]),hb⟩⟩
  have h11p := eqF h11
  refine xw_seq ?_
  refine xw_region ?_
  refine xl_endS [4,5,6,73,86] [(4,.v (.bool c.s.fin)),(5,.v (.bool c.s.done)),(6,.v (.bool c.r.done)),(73,.v (.int .i64 c.state)),(86,.v (.bool (c.state == 2)))] (by kernel_rfl) ?_
  refine xw_cond (b := c.state == 2) (by kernel_rfl) (fun h14 => ?_) (fun h14 => ?_)
  have h14p := eqT h14
  refine xw_seq ?_
  refine xw_join ⟨[(2,.v (.bool (c.s.fin && ((!c.s.done) && (!c.r.done)))))],[⟨45,conL c (.slice Acrh c.r.held.length Ccrh)⟩],[],[slF (.slice Acrh c.r.held.length Ccrh) 2 (c.r.held.map pceCells)]⟩ ?_ ?_
  refine xw_region ?_
  refine xl_runS 2 [5,6,89] [(5,.v (.bool c.s.done)),(6,.v (.bool c.r.done)),(89,.v (.bool c.s.fin))] (by kernel_rfl) ?_
  refine xl_split 89 (b := c.s.fin) (by kernel_rfl) (fun h15 => ?_) (fun h15 => ?_)
  refine xl_runS 4 [6,93] [(6,.v (.bool c.r.done)),(93,.v (.bool (!c.s.done)))] (by kernel_rfl) ?_
  refine xl_split 93 (b := !c.s.done) (by kernel_rfl) (fun h16 => ?_) (fun h16 => ?_)
  have h16n := not_t h16
  refine xl_endS [2] [(2,.v (.bool (!c.r.done)))] (by kernel_rfl) ?_
  show Wk _ _
  try rw [h15]
  try rw [h16]
  exact wk_forget 1 0 [2] (by kernel_rfl) (by kernel_rfl) (by kernel_rfl)
  have h16n := not_f h16
  refine xl_endS [2] [(2,.v (.bool false))] (by kernel_rfl) ?_
  show Wk _ _
  try rw [h15]
  try rw [h16]
  exact wk_forget 1 0 [2] (by kernel_rfl) (by kernel_rfl) (by kernel_rfl)
  refine xl_endS [2] [(2,.v (.bool false))] (by kernel_rfl) ?_
  show Wk _ _
  try rw [h15]
  exact wk_forget 1 0 [2] (by kernel_rfl) (by kernel_rfl) (by kernel_rfl)
  refine xw_ret ?_
  exact ⟨[.bool (c.s.fin && ((!c.s.done) && (!c.r.done)))],by kernel_rfl,fun w' hb hf => ⟨ret_bool (show (c.s.fin && ((!c.s.done) && (!c.r.done)) : Bool) = conOk c from by first | rfl | (simp [conOk,conPre,conMid,stateFits, *]; done) | (clear hm hf hb; simp_all [conOk,conPre,conMid,stateFits]; done) | grind [conOk,conPre,conMid,stateFits,inB]),hb⟩⟩
  have h14p := eqF h14
  refine xw_seq ?_
  refine xw_region ?_
  refine xl_endS [4,5,6,73,97] [(4,.v (.bool c.s.fin)),(5,.v (.bool c.s.done)),(6,.v (.bool c.r.done)),(73,.v (.int .i64 c.state)),(97,.v (.bool (c.state == 3)))] (by kernel_rfl) ?_
  refine xw_cond (b := c.state == 3) (by kernel_rfl) (fun h17 => ?_) (fun h17 => ?_)
  have h17p := eqT h17
  refine xw_seq ?_
  refine xw_join ⟨[(2,.v (.bool (c.s.fin && (c.s.done && (!c.r.done)))))],[⟨45,conL c (.slice Acrh c.r.held.length Ccrh)⟩],[],[slF (.slice Acrh c.r.held.length Ccrh) 2 (c.r.held.map pceCells)]⟩ ?_ ?_
  refine xw_region ?_
  refine xl_runS 2 [5,6,100] [(5,.v (.bool c.s.done)),(6,.v (.bool c.r.done)),(100,.v (.bool c.s.fin))] (by kernel_rfl) ?_
  refine xl_split 100 (b := c.s.fin) (by kernel_rfl) (fun h18 => ?_) (fun h18 => ?_)
  refine xl_runS 3 [6,103] [(6,.v (.bool c.r.done)),(103,.v (.bool c.s.done))] (by kernel_rfl) ?_
  refine xl_split 103 (b := c.s.done) (by kernel_rfl) (fun h19 => ?_) (fun h19 => ?_)
  refine xl_endS [2] [(2,.v (.bool (!c.r.done)))] (by kernel_rfl) ?_
  show Wk _ _
  try rw [h18]
  try rw [h19]
  exact wk_forget 1 0 [2] (by kernel_rfl) (by kernel_rfl) (by kernel_rfl)
  refine xl_endS [2] [(2,.v (.bool false))] (by kernel_rfl) ?_
  show Wk _ _
  try rw [h18]
  try rw [h19]
  exact wk_forget 1 0 [2] (by kernel_rfl) (by kernel_rfl) (by kernel_rfl)
  refine xl_endS [2] [(2,.v (.bool false))] (by kernel_rfl) ?_
  show Wk _ _
  try rw [h18]
  exact wk_forget 1 0 [2] (by kernel_rfl) (by kernel_rfl) (by kernel_rfl)
  refine xw_ret ?_
  exact ⟨[.bool (c.s.fin && (c.s.done && (!c.r.done)))],by kernel_rfl,fun w' hb hf => ⟨ret_bool (show (c.s.fin && (c.s.done && (!c.r.done)) : Bool) = conOk c from by first | rfl | (simp [conOk,conPre,conMid,stateFits, *]; done) | (clear hm hf hb; simp_all [conOk,conPre,conMid,stateFits]; done) | grind [conOk,conPre,conMid,stateFits,inB]),hb⟩⟩
  have h17p := eqF h17
  refine xw_seq ?_
  refine xw_region ?_
  refine xl_endS [4,5,6,73,107] [(4,.v (.bool c.s.fin)),(5,.v (.bool c.s.done)),(6,.v (.bool c.r.done)),(73,.v (.int .i64 c.state)),(107,.v (.bool (c.state == 4)))] (by kernel_rfl) ?_
  refine xw_cond (b := c.state == 4) (by kernel_rfl) (fun h20 => ?_) (fun h20 => ?_)
  have h20p := eqT h20
  refine xw_seq ?_
  refine xw_join ⟨[(2,.v (.bool ((!c.s.fin) && ((!c.s.done) && c.r.done))))],[⟨45,conL c (.slice Acrh c.r.held.length Ccrh)⟩],[],[slF (.slice Acrh c.r.held.length Ccrh) 2 (c.r.held.map pceCells)]⟩ ?_ ?_
  refine xw_region ?_
  refine xl_runS 3 [5,6,111] [(5,.v (.bool c.s.done)),(6,.v (.bool c.r.done)),(111,.v (.bool (!c.s.fin)))] (by kernel_rfl) ?_
  refine xl_split 111 (b := !c.s.fin) (by kernel_rfl) (fun h21 => ?_) (fun h21 => ?_)
  have h21n := not_t h21
  refine xl_runS 4 [6,115] [(6,.v (.bool c.r.done)),(115,.v (.bool (!c.s.done)))] (by kernel_rfl) ?_
  refine xl_split 115 (b := !c.s.done) (by kernel_rfl) (fun h22 => ?_) (fun h22 => ?_)
  have h22n := not_t h22
  refine xl_endS [2] [(2,.v (.bool c.r.done))] (by kernel_rfl) ?_
  show Wk _ _
  try rw [h21]
  try rw [h22]
  exact wk_forget 1 0 [2] (by kernel_rfl) (by kernel_rfl) (by kernel_rfl)
  have h22n := not_f h22
  refine xl_endS [2] [(2,.v (.bool false))] (by kernel_rfl) ?_
  show Wk _ _
  try rw [h21]
  try rw [h22]
  exact wk_forget 1 0 [2] (by kernel_rfl) (by kernel_rfl) (by kernel_rfl)
  have h21n := not_f h21
  refine xl_endS [2] [(2,.v (.bool false))] (by kernel_rfl) ?_
  show Wk _ _
  try rw [h21]
  exact wk_forget 1 0 [2] (by kernel_rfl) (by kernel_rfl) (by kernel_rfl)
  refine xw_ret ?_
  exact ⟨[.bool ((!c.s.fin) && ((!c.s.done) && c.r.done))],by kernel_rfl,fun w' hb hf => ⟨ret_bool (show ((!c.s.fin) && ((!c.s.done) && c.r.done) : Bool) = conOk c from by first | rfl | (simp [conOk,conPre,conMid,stateFits, *]; done) | (clear hm hf hb; simp_all [conOk,conPre,conMid,stateFits]; done) | grind [conOk,conPre,conMid,stateFits,inB]),hb⟩⟩
  have h20p := eqF h20
  refine xw_seq ?_
  refine xw_seq ?_
  refine xw_region ?_
  refine xl_endS [4,5,6,73,118] [(4,.v (.bool c.s.fin)),(5,.v (.bool c.s.done)),(6,.v (.bool c.r.done)),(73,.v (.int .i64 c.state)),(118,.v (.bool (c.state == 5)))] (by kernel_rfl) ?_
  refine xw_join ⟨[(4,.v (.bool c.s.fin)),(5,.v (.bool c.s.done)),(6,.v (.bool c.r.done)),(73,.v (.int .i64 c.state)),(118,.v (.bool (if (c.state == 5) = true then c.state == 5 else c.state == 6)))],[⟨45,conL c (.slice Acrh c.r.held.length Ccrh)⟩],[],[slF (.slice Acrh c.r.held.length Ccrh) 2 (c.r.held.map pceCells)]⟩ ?_ ?_
  refine xw_cond (b := c.state == 5) (by kernel_rfl) (fun h23 => ?_) (fun h23 => ?_)
  have h23p := eqT h23
  refine xw_skip ?_
  show Wk _ _; rw [h23]; exact wk_forget 1 0 [4,5,6,73,118] (by kernel_rfl) (by kernel_rfl) (by kernel_rfl)
  have h23p := eqF h23
  refine xw_region ?_
  refine xl_endS [4,5,6,73,118] [(4,.v (.bool c.s.fin)),(5,.v (.bool c.s.done)),(6,.v (.bool c.r.done)),(73,.v (.int .i64 c.state)),(118,.v (.bool (c.state == 6)))] (by kernel_rfl) ?_
  show Wk _ _; rw [h23]; exact wk_forget 1 0 [4,5,6,73,118] (by kernel_rfl) (by kernel_rfl) (by kernel_rfl)
  refine xw_cond (b := if (c.state == 5) = true then c.state == 5 else c.state == 6) (by kernel_rfl) (fun h24 => ?_) (fun h24 => ?_)
  have h24p := h24; simp only [beq_iff_eq,bne_iff_ne,beq_eq_false_iff_ne,bne_eq_false_iff_eq,ne_eq,toList_lit0] at h24p
  refine xw_seq ?_
  refine xw_join ⟨[(2,.v (.bool (c.s.fin && ((!c.s.done) && c.r.done))))],[⟨45,conL c (.slice Acrh c.r.held.length Ccrh)⟩],[],[slF (.slice Acrh c.r.held.length Ccrh) 2 (c.r.held.map pceCells)]⟩ ?_ ?_
  refine xw_region ?_
  refine xl_runS 2 [5,6,122] [(5,.v (.bool c.s.done)),(6,.v (.bool c.r.done)),(122,.v (.bool c.s.fin))] (by kernel_rfl) ?_
  refine xl_split 122 (b := c.s.fin) (by kernel_rfl) (fun h25 => ?_) (fun h25 => ?_)
  refine xl_runS 4 [6,126] [(6,.v (.bool c.r.done)),(126,.v (.bool (!c.s.done)))] (by kernel_rfl) ?_
  refine xl_split 126 (b := !c.s.done) (by kernel_rfl) (fun h26 => ?_) (fun h26 => ?_)
  have h26n := not_t h26
  refine xl_endS [2] [(2,.v (.bool c.r.done))] (by kernel_rfl) ?_
  show Wk _ _
  try rw [h25]
  try rw [h26]
  exact wk_forget 1 0 [2] (by kernel_rfl) (by kernel_rfl) (by kernel_rfl)
  have h26n := not_f h26
  refine xl_endS [2] [(2,.v (.bool false))] (by kernel_rfl) ?_
  show Wk _ _
  try rw [h25]
  try rw [h26]
  exact wk_forget 1 0 [2] (by kernel_rfl) (by kernel_rfl) (by kernel_rfl)
  refine xl_endS [2] [(2,.v (.bool false))] (by kernel_rfl) ?_
  show Wk _ _
  try rw [h25]
  exact wk_forget 1 0 [2] (by kernel_rfl) (by kernel_rfl) (by kernel_rfl)
  refine xw_ret ?_
  exact ⟨[.bool (c.s.fin && ((!c.s.done) && c.r.done))],by kernel_rfl,fun w' hb hf => ⟨ret_bool (show (c.s.fin && ((!c.s.done) && c.r.done) : Bool) = conOk c from by first | rfl | (simp [conOk,conPre,conMid,stateFits, *]; done) | (clear hm hf hb; simp_all [conOk,conPre,conMid,stateFits]; done) | grind [conOk,conPre,conMid,stateFits,inB]),hb⟩⟩
  have h24p := h24; simp only [beq_iff_eq,bne_iff_ne,beq_eq_false_iff_ne,bne_eq_false_iff_eq,ne_eq,toList_lit0] at h24p
  refine xw_seq ?_
  refine xw_region ?_
  refine xl_endS [4,5,6,129] [(4,.v (.bool c.s.fin)),(5,.v (.bool c.s.done)),(6,.v (.bool c.r.done)),(129,.v (.bool (c.state == 7)))] (by kernel_rfl) ?_
  refine xw_cond (b := c.state == 7) (by kernel_rfl) (fun h27 => ?_) (fun h27 => ?_)
  have h27p := eqT h27
  refine xw_seq ?_
  refine xw_join ⟨[(2,.v (.bool (c.s.fin && (c.s.done && c.r.done))))],[⟨45,conL c (.slice Acrh c.r.held.length Ccrh)⟩],[],[slF (.slice Acrh c.r.held.length Ccrh) 2 (c.r.held.map pceCells)]⟩ ?_ ?_
  refine xw_region ?_
  refine xl_runS 2 [5,6,132] [(5,.v (.bool c.s.done)),(6,.v (.bool c.r.done)),(132,.v (.bool c.s.fin))] (by kernel_rfl) ?_
  refine xl_split 132 (b := c.s.fin) (by kernel_rfl) (fun h28 => ?_) (fun h28 => ?_)
  refine xl_runS 3 [6,135] [(6,.v (.bool c.r.done)),(135,.v (.bool c.s.done))] (by kernel_rfl) ?_
  refine xl_split 135 (b := c.s.done) (by kernel_rfl) (fun h29 => ?_) (fun h29 => ?_)
  refine xl_endS [2] [(2,.v (.bool c.r.done))] (by kernel_rfl) ?_
  show Wk _ _
  try rw [h28]
  try rw [h29]
  exact wk_forget 1 0 [2] (by kernel_rfl) (by kernel_rfl) (by kernel_rfl)
  refine xl_endS [2] [(2,.v (.bool false))] (by kernel_rfl) ?_
  show Wk _ _
  try rw [h28]
  try rw [h29]
  exact wk_forget 1 0 [2] (by kernel_rfl) (by kernel_rfl) (by kernel_rfl)
  refine xl_endS [2] [(2,.v (.bool false))] (by kernel_rfl) ?_
  show Wk _ _
  try rw [h28]
  exact wk_forget 1 0 [2] (by kernel_rfl) (by kernel_rfl) (by kernel_rfl)
  refine xw_ret ?_
  exact ⟨[.bool (c.s.fin && (c.s.done && c.r.done))],by kernel_rfl,fun w' hb hf => ⟨ret_bool (show (c.s.fin && (c.s.done && c.r.done) : Bool) = conOk c from by first | rfl | (simp [conOk,conPre,conMid,stateFits, *]; done) | (clear hm hf hb; simp_all [conOk,conPre,conMid,stateFits]; done) | grind [conOk,conPre,conMid,stateFits,inB]),hb⟩⟩
  have h27p := eqF h27
  refine xw_skip ?_
  refine xw_seq ?_
  refine xw_region ?_
  refine xl_endS [2] [(2,.v (.bool true))] (by kernel_rfl) ?_
  refine xw_ret ?_
  exact ⟨[.bool true],by kernel_rfl,fun w' hb hf => ⟨ret_bool (show (true : Bool) = conOk c from by first | rfl | (simp [conOk,conPre,conMid,stateFits, *]; done) | (clear hm hf hb; simp_all [conOk,conPre,conMid,stateFits]; done) | grind [conOk,conPre,conMid,stateFits,inB]),hb⟩⟩
theorem ysSegmentOk_c (g : Seg) (w : World) (hsz : g.body.size ≤ 4611686018427387904) : Calls Try.prog 25 #[.agg (segL g).toArray] w fun e w' => e = .returned (.bool (segmentOk g)) ∧ Below w.heap.size w w' := by
  refine x_calls (args := [.agg (segL g).toArray]) (fn := Try.f25) [] Try.func25 rfl Try.ntmps25 rfl (by simp) ?_
  refine xw_seq ?_
  refine xw_region ?_
  refine xl_end [1] ⟨[(1,.p 0 0)],[⟨30,segL g⟩],[],[]⟩ (by kernel_rfl) ?_
  refine xw_seq ?_
  refine xw_join ⟨[(2,.v (.bool ((wordOk g.src 16) && ((wordOk g.dst 16) && ((wordOk g.window 16) && ((wordOk g.seq 32) && ((wordOk g.ack 32) && ((wordOk g.flags 6) && ((optionsOk g.o) && (decide ((g.body.size : Int) ≤ 1420)))))))))))],[⟨30,segL g⟩],[],[]⟩ ?_ ?_
  refine xw_region ?_
  refine xl_callS 2 [1,4] [(1,.p 0 0),(4,.v (.int .i64 g.src))] 41 [.int .i64 g.src,.int .i64 16] (some 5) (by kernel_rfl) rfl (by kernel_rfl) rfl (by kernel_rfl) (xc_s fun ww hf => sWordOk16_c g.src ww) ?_
  intro _
  refine xl_runS 1 [1,6] [(1,.p 0 0),(6,.v (.bool (wordOk g.src 16)))] (by kernel_rfl) ?_
  refine xl_split 6 (b := wordOk g.src 16) (by kernel_rfl) (fun h1 => ?_) (fun h1 => ?_)
  refine xl_callS 2 [1,6,8] [(1,.p 0 0),(6,.v (.bool true)),(8,.v (.int .i64 g.dst))] 41 [.int .i64 g.dst,.int .i64 16] (some 9) (by kernel_rfl) rfl (by kernel_rfl) rfl (by kernel_rfl) (xc_s fun ww hf => sWordOk16_c g.dst ww) ?_
  intro _
  refine xl_runS 2 [1,11] [(1,.p 0 0),(11,.v (.bool (wordOk g.dst 16)))] (by kernel_rfl) ?_
  refine xl_split 11 (b := wordOk g.dst 16) (by kernel_rfl) (fun h2 => ?_) (fun h2 => ?_)
  refine xl_callS 2 [1,11,13] [(1,.p 0 0),(11,.v (.bool true)),(13,.v (.int .i64 g.window))] 41 [.int .i64 g.window,.int .i64 16] (some 14) (by kernel_rfl) rfl (by kernel_rfl) rfl (by kernel_rfl) (xc_s fun ww hf => sWordOk16_c g.window ww) ?_
  intro _
  refine xl_runS 2 [1,16] [(1,.p 0 0),(16,.v (.bool (wordOk g.window 16)))] (by kernel_rfl) ?_
  refine xl_split 16 (b := wordOk g.window 16) (by kernel_rfl) (fun h3 => ?_) (fun h3 => ?_)
  refine xl_callS 2 [1,16,18] [(1,.p 0 0),(16,.v (.bool true)),(18,.v (.int .i64 g.seq))] 41 [.int .i64 g.seq,.int .i64 32] (some 19) (by kernel_rfl) rfl (by kernel_rfl) rfl (by kernel_rfl) (xc_s fun ww hf => sWordOk32_c g.seq ww) ?_
  intro _
  refine xl_runS 2 [1,21] [(1,.p 0 0),(21,.v (.bool (wordOk g.seq 32)))] (by kernel_rfl) ?_
  refine xl_split 21 (b := wordOk g.seq 32) (by kernel_rfl) (fun h4 => ?_) (fun h4 => ?_)
  refine xl_callS 2 [1,21,23] [(1,.p 0 0),(21,.v (.bool true)),(23,.v (.int .i64 g.ack))] 41 [.int .i64 g.ack,.int .i64 32] (some 24) (by kernel_rfl) rfl (by kernel_rfl) rfl (by kernel_rfl) (xc_s fun ww hf => sWordOk32_c g.ack ww) ?_
  intro _
  refine xl_runS 2 [1,26] [(1,.p 0 0),(26,.v (.bool (wordOk g.ack 32)))] (by kernel_rfl) ?_
  refine xl_split 26 (b := wordOk g.ack 32) (by kernel_rfl) (fun h5 => ?_) (fun h5 => ?_)
  refine xl_callS 2 [1,26,28] [(1,.p 0 0),(26,.v (.bool true)),(28,.v (.int .i64 g.flags))] 41 [.int .i64 g.flags,.int .i64 6] (some 29) (by kernel_rfl) rfl (by kernel_rfl) rfl (by kernel_rfl) (xc_s fun ww hf => sWordOk6_c g.flags ww) ?_
  intro _
  refine xl_runS 2 [1,31] [(1,.p 0 0),(31,.v (.bool (wordOk g.flags 6)))] (by kernel_rfl) ?_
  refine xl_split 31 (b := wordOk g.flags 6) (by kernel_rfl) (fun h6 => ?_) (fun h6 => ?_)
  refine xl_callS 2 [1,31,33] [(1,.p 0 0),(31,.v (.bool true)),(33,.v (.agg (optL g.o).toArray))] 11 [.agg (optL g.o).toArray] (some 34) (by kernel_rfl) rfl (by kernel_rfl) rfl (by kernel_rfl) (xc_b fun ww hf => sOptionsOk_c g.o.mss g.o.scale g.o.sack g.o.stamp g.o.val g.o.echo ww ) ?_
  intro _
  refine xl_runS 2 [1,36] [(1,.p 0 0),(36,.v (.bool (optionsOk g.o)))] (by kernel_rfl) ?_
  refine xl_split 36 (b := optionsOk g.o) (by kernel_rfl) (fun h7 => ?_) (fun h7 => ?_)
  refine xl_endS [2] [(2,.v (.bool (decide ((g.body.size : Int) ≤ 1420))))] (by kernel_rfl) ?_
  show Wk _ _
  try rw [h1]
  try rw [h2]
  try rw [h3]
  try rw [h4]
  try rw [h5]
  try rw [h6]
  try rw [h7]
  exact wk_forget 1 0 [2] (by kernel_rfl) (by kernel_rfl) (by kernel_rfl)
  refine xl_endS [2] [(2,.v (.bool false))] (by kernel_rfl) ?_
  show Wk _ _
  try rw [h1]
  try rw [h2]
  try rw [h3]
  try rw [h4]
  try rw [h5]
  try rw [h6]
  try rw [h7]
  exact wk_forget 1 0 [2] (by kernel_rfl) (by kernel_rfl) (by kernel_rfl)
  refine xl_endS [2] [(2,.v (.bool false))] (by kernel_rfl) ?_
  show Wk _ _
  try rw [h1]
  try rw [h2]
  try rw [h3]
  try rw [h4]
  try rw [h5]
  try rw [h6]
  exact wk_forget 1 0 [2] (by kernel_rfl) (by kernel_rfl) (by kernel_rfl)
  refine xl_endS [2] [(2,.v (.bool false))] (by kernel_rfl) ?_
  show Wk _ _
  try rw [h1]
  try rw [h2]
  try rw [h3]
  try rw [h4]
  try rw [h5]
  exact wk_forget 1 0 [2] (by kernel_rfl) (by kernel_rfl) (by kernel_rfl)
  refine xl_endS [2] [(2,.v (.bool false))] (by kernel_rfl) ?_
  show Wk _ _
  try rw [h1]
  try rw [h2]
  try rw [h3]
  try rw [h4]
  exact wk_forget 1 0 [2] (by kernel_rfl) (by kernel_rfl) (by kernel_rfl)
  refine xl_endS [2] [(2,.v (.bool false))] (by kernel_rfl) ?_
  show Wk _ _
  try rw [h1]
  try rw [h2]
  try rw [h3]
  exact wk_forget 1 0 [2] (by kernel_rfl) (by kernel_rfl) (by kernel_rfl)
  refine xl_endS [2] [(2,.v (.bool false))] (by kernel_rfl) ?_
  show Wk _ _
  try rw [h1]
  try rw [h2]
  exact wk_forget 1 0 [2] (by kernel_rfl) (by kernel_rfl) (by kernel_rfl)
  refine xl_endS [2] [(2,.v (.bool false))] (by kernel_rfl) ?_
  show Wk _ _
  try rw [h1]
  exact wk_forget 1 0 [2] (by kernel_rfl) (by kernel_rfl) (by kernel_rfl)
  refine xw_ret ?_
  exact ⟨[.bool ((wordOk g.src 16) && ((wordOk g.dst 16) && ((wordOk g.window 16) && ((wordOk g.seq 32) && ((wordOk g.ack 32) && ((wordOk g.flags 6) && ((optionsOk g.o) && (decide ((g.body.size : Int) ≤ 1420)))))))))],by kernel_rfl,fun w' hb hf => ⟨ret_bool (show ((wordOk g.src 16) && ((wordOk g.dst 16) && ((wordOk g.window 16) && ((wordOk g.seq 32) && ((wordOk g.ack 32) && ((wordOk g.flags 6) && ((optionsOk g.o) && (decide ((g.body.size : Int) ≤ 1420)))))))) : Bool) = segmentOk g from by first | rfl | (simp [segmentOk, *]; done) | (simp [segmentOk, *]; omega) | grind [toList_lit0,segmentOk]),hb⟩⟩
set_option maxHeartbeats 1000000 in
theorem yiscaled_c (window : Int) (o : Opt) (w : World) (h0 : 0 ≤ window ∧ window ≤ 65535) (h1 : o.scale ≤ 14) : Calls Try.prog 53 #[.int .i64 window, .agg (optL o).toArray] w fun e w' => e = .returned (.int .i64 (farW window o)) ∧ Below w.heap.size w w' := by
  refine x_calls (args := [.int .i64 window,.agg (optL o).toArray]) (fn := Try.f53) [] Try.func53 rfl Try.ntmps53 rfl (by simp) ?_
  refine xw_seq ?_
  refine xw_region ?_
  refine xl_end [0,3] ⟨[(0,.v (.int .i64 window)),(3,.p 0 0)],[⟨25,optL o⟩],[],[]⟩ (by kernel_rfl) ?_
  refine xw_seq ?_
  refine xw_region ?_
  refine xl_opS 3 [5,7] [(5,.v (.int .i64 window)),(7,.v (.int .i64 o.scale))] (.int .i64 (max o.scale 0)) (by kernel_rfl) rfl (by kernel_rfl) rfl (fun _ _ _ ww hr => act_max2 hr.1 rfl rfl rfl rfl rfl ww) ?_
  refine xl_opS 0 [5,8] [(5,.v (.int .i64 window)),(8,.v (.int .i64 (max o.scale 0)))] (.int .i64 (IntKind.i64.wrap (window * 2 ^ (max o.scale 0).toNat))) (by kernel_rfl) rfl (by kernel_rfl) rfl (fun _ _ _ ww hr => act_bin hr.1 rfl (by kernel_rfl) (by kernel_rfl) (shl_run (k' := .i64) (by have e : ((IntKind.i64.bits : Nat) : Int) = 64 := rfl; (try rw [u64_id (by omega) (by omega)]); omega) (by have e : ((IntKind.i64.bits : Nat) : Int) = 64 := rfl; (try rw [u64_id (by omega) (by omega)]); omega) ww)) ?_
  refine xl_opS 0 [9] [(9,.v (.int .i64 (IntKind.i64.wrap (window * 2 ^ (max o.scale 0).toNat))))] (.int .i64 (min (IntKind.i64.wrap (window * 2 ^ (max o.scale 0).toNat)) 1073725440)) (by kernel_rfl) rfl (by kernel_rfl) rfl (fun _ _ _ ww hr => act_min2 hr.1 rfl rfl rfl rfl rfl ww) ?_
  refine xl_runS 1 [4] [(4,.v (.int .i64 (min (IntKind.i64.wrap (window * 2 ^ (max o.scale 0).toNat)) 1073725440)))] (by kernel_rfl) ?_
  refine xl_eqS (t' := [(4,.v (.int .i64 (min (window * 2 ^ (max 0 o.scale).toNat) 1073725440)))]) (by rw [show (max o.scale 0) = (max 0 o.scale) from (by omega),show (IntKind.i64.wrap (window * 2 ^ (max 0 o.scale).toNat)) = (window * 2 ^ (max 0 o.scale).toNat) from far_wrap (by omega) (by omega) (by omega) (by omega)]) ?_
  refine xl_endS [4] [(4,.v (.int .i64 (min (window * 2 ^ (max 0 o.scale).toNat) 1073725440)))] (by kernel_rfl) ?_
  refine xw_ret ?_
  have hmod : farW window o = (min (window * 2 ^ (max 0 o.scale).toNat) 1073725440) := by (unfold farW; have := far_le (a := window) (b := max 0 o.scale) (by omega) (by omega) (by omega) (by omega); omega)
  exact ⟨[.int .i64 (min (window * 2 ^ (max 0 o.scale).toNat) 1073725440)],by kernel_rfl,fun w' hb hf => by rw [hmod]; exact ⟨rfl,hb⟩⟩
set_option maxHeartbeats 1000000 in
theorem ysReceiverNew_c (n : Int) (w : World)  (B : Nat) (hB : B ≤ w.heap.size) : Calls Try.prog 57 #[.int .i64 n] w fun e w' => XRs w w' e (α := Option Addr × Nat) (fun y => .agg (rcvL (receiverNew n) (.slice y.1 ((receiverNew n).held.length) y.2)).toArray) (fun y => [ownF B (.slice y.1 ((receiverNew n).held.length) y.2) 2 ((receiverNew n).held.map pceCells)]) := by
  refine x_callsA (args := [.int .i64 n]) (fn := Try.f57) [] Try.func57 rfl Try.ntmps57 rfl (by simp) ?_
  refine xw_seq ?_
  refine xw_region ?_
  refine xl_end [0,2] ⟨[(0,.v (.int .i64 n)),(2,.p 0 0)],[⟨43,rcvZ⟩],[],[]⟩ (by kernel_rfl) ?_
  refine xw_seq ?_
  refine xw_region ?_
  refine xl_callS 1 [2,3] [(2,.p 0 0),(3,.v (.int .i64 n))] 63 [.int .i64 n] (some 4) (by kernel_rfl) rfl (by kernel_rfl) rfl (by kernel_rfl) (xc_s fun ww hf => sRest_c n ww ) ?_
  intro _
  refine xl_opS 0 [2,4] [(2,.p 0 0),(4,.v (.int .i64 (n % 4294967296)))] (.agg #[.int .i64 (n % 4294967296),.string (⟨#[]⟩ : ByteArray),.slice none 0 0,.int .i64 (-1),.bool false]) (by kernel_rfl) rfl (by kernel_rfl) rfl (fun _ _ _ ww hr => act_build [(0,.int .i64 (n % 4294967296)),(3,.int .i64 (-1))] hr.1 rfl (by kernel_rfl) (by kernel_rfl) ww) ?_
  refine xl_end [2] ⟨[(2,.p 0 0)],[⟨43,[.int .i64 (n % 4294967296),.string (⟨#[]⟩ : ByteArray),.slice none 0 0,.int .i64 (-1),.bool false]⟩],[],[]⟩ (by kernel_rfl) ?_
  refine xw_ret ?_
  have hmod : receiverNew n = (⟨n % 4294967296,(⟨#[]⟩ : ByteArray),[],(-1),false⟩) := by first | rfl | (simp [receiverNew,seqAdd]; done)
  exact ⟨[.agg #[.int .i64 (n % 4294967296),.string (⟨#[]⟩ : ByteArray),.slice none 0 0,.int .i64 (-1),.bool false]],by kernel_rfl,fun w' hb hf ha => by rw [hmod]; exact xr_one ((none,0)) rfl rfl (.inl ⟨rfl,_,rfl⟩) (fun b hb => (hb.1 rfl).elim) hb⟩
end Go.Proofs.Ytcoppgllfipbeaa
