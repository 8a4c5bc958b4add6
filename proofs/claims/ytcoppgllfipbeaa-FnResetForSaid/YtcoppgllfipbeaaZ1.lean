/- Contracts that this law needs, part 1. -/
import Derived.Test.YtcoppgllfipbeaaYW
import Derived.Test.YtcoppgllfipbeaaA2
import Derived.Test.YtcoppgllfipbeaaXQ
import Derived.Test.YtcoppgllfipbeaaA5
import Derived.Test.YtcoppgllfipbeaaD0
import Derived.Test.YtcoppgllfipbeaaYD
import Derived.Test.YtcoppgllfipbeaaE
import Derived.Test.YtcoppgllfipbeaaSPiece
import Derived.Test.YtcoppgllfipbeaaC1
import Derived.Test.YtcoppgllfipbeaaME
import Derived.Test.YtcoppgllfipbeaaMR
namespace Go.Proofs.Ytcoppgllfipbeaa
open Go.RowKit
set_option linter.unusedVariables false
set_option linter.unusedSimpArgs false
set_option maxRecDepth 100000

theorem l1New_c (code : List Int) (A : Option Addr) (cap : Nat) (w : World) (hl : Sl w (.slice A code.length cap) 1 (code.map byteRow)) (hn : code.length ≤ 1048576) : Calls Try.prog 38 #[.slice A code.length cap] w fun e w' => ∃ y : {g : Nat // ¬ (slF (.slice A code.length cap) 1 (code.map byteRow)).blk g}, e = .returned (.pointer (some ⟨y.1, 0, none⟩)) ∧ (curF w.heap.size y.1 95 (.slice A code.length cap) code.length).p w' ∧ Below w.heap.size w w' := by
  have hq_code := Sl.capLe hl
  refine x_calls (args := [.slice A code.length cap]) (fn := Try.f38) [slF (.slice A code.length cap) 1 (code.map byteRow)] Try.func38 rfl Try.ntmps38 rfl (by simp only [List.mem_cons,List.not_mem_nil,or_false,forall_eq]; exact ⟨rfl,hl⟩) ?_
  refine xw_seq ?_
  refine xw_region ?_
  refine xl_end [0] ⟨[(0,.v (.slice A code.length cap))],[],[],[slF (.slice A code.length cap) 1 (code.map byteRow)]⟩ (by kernel_rfl) ?_
  refine xw_seq ?_
  refine xw_region ?_
  refine xl_endS [0,3] [(0,.v (.slice A code.length cap)),(3,.v (.int .i64 (IntKind.i64.wrap (28655 + ((code.length : Nat) : Int)))))] (by kernel_rfl) ?_
  refine xw_seq ?_
  refine xw_seq ?_
  refine xw_region ?_
  refine xl_endS [0,3,4] [(0,.v (.slice A code.length cap)),(3,.v (.int .i64 (IntKind.i64.wrap (28655 + ((code.length : Nat) : Int))))),(4,.v (.int .i64 0))] (by kernel_rfl) ?_
  refine xw_block ?_
  refine xw_loopW (α := {x : Nat × Int // (fun (i : Nat) (h : Int) => i ≤ code.length) x.1 x.2}) (fun x => (fun (i : Nat) (h : Int) => (⟨[(0,.v (.slice A code.length cap)),(3,.v (.int .i64 h)),(4,.v (.int .i64 (i : Int)))],[],[],[slF (.slice A code.length cap) 1 (code.map byteRow)]⟩ : St)) x.1.1 x.1.2) (fun x => (fun (i : Nat) (h : Int) => code.length - i) x.1.1 x.1.2) ⟨(0,IntKind.i64.wrap (28655 + ((code.length : Nat) : Int))),Nat.zero_le _⟩ (wk_forget 0 0 [0,3,4] (by kernel_rfl) (by kernel_rfl) (by kernel_rfl)) ?_
  rintro ⟨⟨i,h⟩,hi⟩
  refine xw_wk (Wk.of_eq (s' := ⟨[(0,.v (.slice A code.length cap)),(3,.v (.int .i64 h)),(4,.v (.int .i64 (i : Int)))],[],[],[slF (.slice A code.length cap) 1 (code.map byteRow)]⟩) rfl) ?_
  try dsimp only at hi
  refine xw_seq ?_
  refine xw_seq ?_
  refine xw_region ?_
  refine xl_runS 5 [0,3,4,12] [(0,.v (.slice A code.length cap)),(3,.v (.int .i64 h)),(4,.v (.int .i64 (i : Int))),(12,.v (.bool (decide ((i : Int) < ((code.length : Nat) : Int)))))] (by kernel_rfl) ?_
  refine xl_split 12 (b := decide ((i : Int) < ((code.length : Nat) : Int))) (by kernel_rfl) (fun h1 => ?_) (fun h1 => ?_)
  have h1p : ((i : Int) < ((code.length : Nat) : Int)) := of_decide_eq_true h1
  have hlt : i < code.length := by simpa using h1
  obtain ⟨z,hz⟩ : ∃ z,code[i]? = some z := ⟨_,List.getElem?_eq_getElem hlt⟩
  refine xl_endS [0,3,4,13,14,15] [(0,.v (.slice A code.length cap)),(3,.v (.int .i64 h)),(4,.v (.int .i64 (i : Int))),(13,.v (.int .i64 (i : Int))),(14,.v (.bool (decide ((i : Int) < 4000)))),(15,.v (.bool (decide ((i : Int) < 4000))))] (by kernel_rfl) ?_
  refine xw_cond (b := decide ((i : Int) < 4000)) (by kernel_rfl) (fun h2 => ?_) (fun h2 => ?_)
  have h2p : ((i : Int) < 4000) := of_decide_eq_true h2
  refine xw_skip ?_
  refine xw_seq ?_
  refine xw_block ?_
  refine xw_region ?_
  refine xl_indexS (kd := .i64) (T := 22) (e := 5) (K := 1) 4 [0,3,4,13,14,19,20,21] [(0,.v (.slice A code.length cap)),(3,.v (.int .i64 h)),(4,.v (.int .i64 (i : Int))),(13,.v (.int .i64 (i : Int))),(14,.v (.bool (decide ((i : Int) < 4000)))),(19,.v (.int .i64 (IntKind.i64.wrap (h * 131)))),(20,.v (.slice A code.length cap)),(21,.v (.int .i64 (i : Int)))] i [.int .u8 z] (slF (.slice A code.length cap) 1 (code.map byteRow)) (by kernel_rfl) rfl (by kernel_rfl) rfl rfl (by kernel_rfl) (by kernel_rfl) (by kernel_rfl) (by kernel_rfl) hlt (by simp) (fun w h => h) (fun b h => h) (by simp only [List.getElem?_map,hz]; rfl) ?_
  refine xl_endS [0,3,4,13,14] [(0,.v (.slice A code.length cap)),(3,.v (.int .i64 (IntKind.i64.wrap (BitVec.ofInt 64 (IntKind.i64.wrap ((IntKind.i64.wrap ((IntKind.i64.wrap (h * 131)) + (IntKind.i64.wrap z))) + 7)) &&& BitVec.ofInt 64 1073741823).toNat))),(4,.v (.int .i64 (i : Int))),(13,.v (.int .i64 (i : Int))),(14,.v (.bool (decide ((i : Int) < 4000))))] (by kernel_rfl) ?_
  refine xw_region ?_
  refine xl_runS 3 [0,3,4,13,14] [(0,.v (.slice A code.length cap)),(3,.v (.int .i64 (IntKind.i64.wrap (BitVec.ofInt 64 (IntKind.i64.wrap ((IntKind.i64.wrap ((IntKind.i64.wrap (h * 131)) + (IntKind.i64.wrap z))) + 7)) &&& BitVec.ofInt 64 1073741823).toNat))),(4,.v (.int .i64 (IntKind.i64.wrap ((i : Int) + 1)))),(13,.v (.int .i64 (i : Int))),(14,.v (.bool (decide ((i : Int) < 4000))))] (by kernel_rfl) ?_
  refine xl_eqS (t' := [(0,.v (.slice A code.length cap)),(3,.v (.int .i64 (IntKind.i64.wrap (BitVec.ofInt 64 (IntKind.i64.wrap ((IntKind.i64.wrap ((IntKind.i64.wrap (h * 131)) + (IntKind.i64.wrap z))) + 7)) &&& BitVec.ofInt 64 1073741823).toNat))),(4,.v (.int .i64 ((i : Int) + 1))),(13,.v (.int .i64 (i : Int))),(14,.v (.bool (decide ((i : Int) < 4000))))]) (by rw [show (IntKind.i64.wrap ((i : Int) + 1)) = ((i : Int) + 1) from wrap_id (by omega) (by omega)]) ?_
  refine xl_endS [0,3,4,13,14] [(0,.v (.slice A code.length cap)),(3,.v (.int .i64 (IntKind.i64.wrap (BitVec.ofInt 64 (IntKind.i64.wrap ((IntKind.i64.wrap ((IntKind.i64.wrap (h * 131)) + (IntKind.i64.wrap z))) + 7)) &&& BitVec.ofInt 64 1073741823).toNat))),(4,.v (.int .i64 ((i : Int) + 1))),(13,.v (.int .i64 (i : Int))),(14,.v (.bool (decide ((i : Int) < 4000))))] (by kernel_rfl) ?_
  exact ⟨⟨(i + 1,IntKind.i64.wrap (BitVec.ofInt 64 (IntKind.i64.wrap ((IntKind.i64.wrap ((IntKind.i64.wrap (h * 131)) + (IntKind.i64.wrap z))) + 7)) &&& BitVec.ofInt 64 1073741823).toNat),hlt⟩,wk_forget 0 0 [0,3,4] (by kernel_rfl) (by kernel_rfl) (by kernel_rfl),by show (fun (i : Nat) (h : Int) => code.length - i) (i + 1) (IntKind.i64.wrap (BitVec.ofInt 64 (IntKind.i64.wrap ((IntKind.i64.wrap ((IntKind.i64.wrap (h * 131)) + (IntKind.i64.wrap z))) + 7)) &&& BitVec.ofInt 64 1073741823).toNat) < code.length - i; (dsimp only; omega)⟩
  have h2p : ¬ ((i : Int) < 4000) := of_decide_eq_false h2
  refine xw_exit ?_
  refine xw_seq ?_
  refine xw_region ?_
  refine xl_opS 2 [28,29] [(28,.v (.slice A code.length cap)),(29,.v (.int .i64 h))] (.agg #[.slice A code.length cap,.int .i64 0,.int .i64 h]) (by kernel_rfl) rfl (by kernel_rfl) rfl (fun _ _ _ ww hr => act_build [(0,.slice A code.length cap),(2,.int .i64 h)] hr.1 rfl (by kernel_rfl) (by kernel_rfl) ww) ?_
  refine xl_end [2] ⟨[(2,.p 0 0)],[⟨95,[.slice A code.length cap,.int .i64 0,.int .i64 h]⟩],[],[slF (.slice A code.length cap) 1 (code.map byteRow)]⟩ (by kernel_rfl) ?_
  refine xw_pin ?_
  intro g hg hgn
  refine xw_ret ?_
  exact ⟨[.pointer (some ⟨g,0,none⟩)],by kernel_rfl,fun w' hb hf => ⟨⟨g,hgn _ (by simp)⟩,rfl,⟨hg,0,h,Nat.zero_le _,(hf (cellF w.heap.size g 95 [.slice A code.length cap,.int .i64 0,.int .i64 h]) (by simp)).2⟩,hb⟩⟩
  have h1p : ¬ ((i : Int) < ((code.length : Nat) : Int)) := of_decide_eq_false h1
  refine xl_endS [0,3,4,15] [(0,.v (.slice A code.length cap)),(3,.v (.int .i64 h)),(4,.v (.int .i64 (i : Int))),(15,.v (.bool false))] (by kernel_rfl) ?_
  refine xw_false (by kernel_rfl) ?_
  refine xw_exit ?_
  refine xw_seq ?_
  refine xw_region ?_
  refine xl_opS 2 [28,29] [(28,.v (.slice A code.length cap)),(29,.v (.int .i64 h))] (.agg #[.slice A code.length cap,.int .i64 0,.int .i64 h]) (by kernel_rfl) rfl (by kernel_rfl) rfl (fun _ _ _ ww hr => act_build [(0,.slice A code.length cap),(2,.int .i64 h)] hr.1 rfl (by kernel_rfl) (by kernel_rfl) ww) ?_
  refine xl_end [2] ⟨[(2,.p 0 0)],[⟨95,[.slice A code.length cap,.int .i64 0,.int .i64 h]⟩],[],[slF (.slice A code.length cap) 1 (code.map byteRow)]⟩ (by kernel_rfl) ?_
  refine xw_pin ?_
  intro g hg hgn
  refine xw_ret ?_
  exact ⟨[.pointer (some ⟨g,0,none⟩)],by kernel_rfl,fun w' hb hf => ⟨⟨g,hgn _ (by simp)⟩,rfl,⟨hg,0,h,Nat.zero_le _,(hf (cellF w.heap.size g 95 [.slice A code.length cap,.int .i64 0,.int .i64 h]) (by simp)).2⟩,hb⟩⟩
set_option maxHeartbeats 2000000 in
theorem l1Byte_c (g : Nat) (code : List Int) (A : Option Addr) (cap : Nat)  (w : World) (B : Nat) (hB : B ≤ w.heap.size) (hc : (curF B g 95 (.slice A code.length cap) code.length).p w) (hl : Sl w (.slice A code.length cap) 1 (code.map byteRow)) (hap : ¬ (slF (.slice A code.length cap) 1 (code.map byteRow)).blk g) (hn : code.length ≤ 1048576)  : Calls Try.prog 83 #[.pointer (some ⟨g, 0, none⟩)] w fun e w' => ∃ y : {y : Int // 0 ≤ y ∧ y ≤ 255}, e = .returned (.int .i64 y.1) ∧ (curF B g 95 (.slice A code.length cap) code.length).p w' ∧ Chgd (fun b => b = g) w w' := by
  have hq_code := Sl.capLe hl
  obtain ⟨hBg,i,h,hi,hg⟩ := hc
  refine x_callsM (args := [.pointer (some ⟨g,0,none⟩)]) (fn := Try.f83) [cellF B g 95 [.slice A code.length cap,.int .i64 (i : Int),.int .i64 h],slF (.slice A code.length cap) 1 (code.map byteRow),frF w (fun b => b = g)] B Try.func83 rfl Try.ntmps83 rfl hB (by simp only [List.mem_cons,List.not_mem_nil,or_false,forall_eq_or_imp,forall_eq]; exact ⟨⟨hBg,hg⟩,hl,frF_start w _⟩) (apart_cell hap rfl) ?_
  refine xw_seq ?_
  refine xw_region ?_
  refine xl_end [0] ⟨[(0,.v (.pointer (some ⟨g,0,none⟩)))],[],[],[cellF B g 95 [.slice A code.length cap,.int .i64 (i : Int),.int .i64 h],slF (.slice A code.length cap) 1 (code.map byteRow),frF w (fun b => b = g)]⟩ (by kernel_rfl) ?_
  refine xw_seq ?_
  refine xw_region ?_
  refine xl_opS 2 [0,4,5] [(0,.v (.pointer (some ⟨g,0,none⟩))),(4,.v (.pointer (some ⟨g,0,none⟩))),(5,.v (.pointer (some ⟨g,0,none⟩)))] (.pointer (some ⟨g,0,none⟩)) (by kernel_rfl) rfl (by kernel_rfl) rfl (fun _ _ _ ww hr => act_nil (b := g) (m := 0) hr.1 rfl (by kernel_rfl) ww) ?_
  refine xl_opS 0 [0,4,6] [(0,.v (.pointer (some ⟨g,0,none⟩))),(4,.v (.pointer (some ⟨g,0,none⟩))),(6,.v (.pointer (some ⟨g,0,none⟩)))] (.pointer (some ⟨g,2,none⟩)) (by kernel_rfl) rfl (by kernel_rfl) rfl (fun _ _ _ ww hr => act_fld (sz := 1) (b := g) (m := 0) hr.1 rfl Try.underlying95 rfl (by kernel_rfl) rfl (by kernel_rfl) rfl) ?_
  refine xl_opS 0 [0,4,7] [(0,.v (.pointer (some ⟨g,0,none⟩))),(4,.v (.pointer (some ⟨g,0,none⟩))),(7,.v (.pointer (some ⟨g,2,none⟩)))] (.int .i64 h) (by kernel_rfl) rfl (by kernel_rfl) rfl (fun _ _ _ ww hr => ldP_run (off := 2) (B := B) (g := g) (T := 95) (cs := [.slice A code.length cap,.int .i64 (i : Int),.int .i64 h]) hr rfl (by kernel_rfl) (by simp) (by kernel_rfl)) ?_
  refine xl_opS 2 [0,4,10] [(0,.v (.pointer (some ⟨g,0,none⟩))),(4,.v (.pointer (some ⟨g,0,none⟩))),(10,.v (.int .i64 (IntKind.i64.wrap ((IntKind.i64.wrap (h * 6364136223846793005)) + 1442695040888963407))))] (.pointer (some ⟨g,0,none⟩)) (by kernel_rfl) rfl (by kernel_rfl) rfl (fun _ _ _ ww hr => act_nil (b := g) (m := 0) hr.1 rfl (by kernel_rfl) ww) ?_
  refine xl_opS 0 [0,10,11] [(0,.v (.pointer (some ⟨g,0,none⟩))),(10,.v (.int .i64 (IntKind.i64.wrap ((IntKind.i64.wrap (h * 6364136223846793005)) + 1442695040888963407)))),(11,.v (.pointer (some ⟨g,0,none⟩)))] (.pointer (some ⟨g,2,none⟩)) (by kernel_rfl) rfl (by kernel_rfl) rfl (fun _ _ _ ww hr => act_fld (sz := 1) (b := g) (m := 0) hr.1 rfl Try.underlying95 rfl (by kernel_rfl) rfl (by kernel_rfl) rfl) ?_
  refine xl_hs 0 [0,10,12] ⟨[(0,.v (.pointer (some ⟨g,0,none⟩))),(10,.v (.int .i64 (IntKind.i64.wrap ((IntKind.i64.wrap (h * 6364136223846793005)) + 1442695040888963407)))),(12,.v (.pointer (some ⟨g,2,none⟩)))],[],[],[cellF B g 95 [.slice A code.length cap,.int .i64 (i : Int),.int .i64 h],slF (.slice A code.length cap) 1 (code.map byteRow),frF w (fun b => b = g)]⟩ (by kernel_rfl) rfl (by kernel_rfl) rfl (by kernel_rfl) (hs_stP (g := g) (T := 95) (off := 2) (v := (.int .i64 (IntKind.i64.wrap ((IntKind.i64.wrap (h * 6364136223846793005)) + 1442695040888963407)))) (i := 0) (B := B) (cs := [.slice A code.length cap,.int .i64 (i : Int),.int .i64 h]) [.int .i64 (IntKind.i64.wrap ((IntKind.i64.wrap (h * 6364136223846793005)) + 1442695040888963407))] (cs' := [.slice A code.length cap,.int .i64 (i : Int),.int .i64 (IntKind.i64.wrap ((IntKind.i64.wrap (h * 6364136223846793005)) + 1442695040888963407))]) rfl (by kernel_rfl) (by kernel_rfl) rfl (by kernel_rfl) rfl (by kernel_rfl) rfl rfl (cutW_le w B)) ?_
  refine xl_endS [0] [(0,.v (.pointer (some ⟨g,0,none⟩)))] (by kernel_rfl) ?_
  refine xw_seq ?_
  refine xws_start ?_
  refine xws_cell (B := B) (g := g) (T := 95) (cs := [.slice A code.length cap,.int .i64 (i : Int),.int .i64 (IntKind.i64.wrap ((IntKind.i64.wrap (h * 6364136223846793005)) + 1442695040888963407))]) (fun _ _ h => h) (by simp) ?_
  refine xws_regionE [] (by kernel_rfl) (fun ρ σ hq1 => ?_)
  refine xe_tkS [0,5] [18,13,0] 11 [(18,.v (.pointer (some ⟨g,0,none⟩))),(13,.v (.pointer (some ⟨g,0,none⟩))),(0,.v (.pointer (some ⟨g,0,none⟩)))] (fun _ _ h => h) rfl (by kernel_rfl) ?_
  refine xe_op 1 (.pointer (some ⟨g,0,none⟩)) _ rfl (by kernel_rfl) (by kernel_rfl) (by kernel_rfl) (fun _ _ h => h) (by kernel_rfl) rfl (fun _ _ ww hA => act_nil (b := g) (m := 0) hA rfl (by kernel_rfl) ww) rfl ?_
  refine xe_op 2 (.pointer (some ⟨g,2,none⟩)) _ rfl (by kernel_rfl) (by kernel_rfl) (by kernel_rfl) (fun _ _ h => h) (by kernel_rfl) rfl (fun _ _ ww hA => act_fld (sz := 1) (b := g) (m := 0) hA rfl Try.underlying95 rfl (by kernel_rfl) rfl (by kernel_rfl) rfl) rfl ?_
  refine xe_opH 3 (.int .i64 (IntKind.i64.wrap ((IntKind.i64.wrap (h * 6364136223846793005)) + 1442695040888963407))) _ rfl (by kernel_rfl) (by kernel_rfl) (by kernel_rfl) (fun _ _ h => h) (by kernel_rfl) rfl (fun _ _ ww hA hS => ld_range (g := g) (off := 2) (cs := [.slice A code.length cap,.int .i64 (i : Int),.int .i64 (IntKind.i64.wrap ((IntKind.i64.wrap (h * 6364136223846793005)) + 1442695040888963407))]) hA rfl (by kernel_rfl) (rd_row hS (h := 0) rfl hq1.2) (by kernel_rfl)) rfl ?_
  refine xe_op 4 (.int .i64 (Int.fdiv (IntKind.i64.wrap ((IntKind.i64.wrap (h * 6364136223846793005)) + 1442695040888963407)) (2 ^ (33 : Int).toNat))) _ rfl (by kernel_rfl) (by kernel_rfl) (by kernel_rfl) (fun _ _ h => h) (by kernel_rfl) rfl (fun _ _ ww hA => act_bin hA rfl (by kernel_rfl) (by kernel_rfl) (shr_run (k' := .u64) (by decide) (by decide) ww)) rfl ?_
  refine xe_op 6 (.pointer (some ⟨g,0,none⟩)) _ rfl (by kernel_rfl) (by kernel_rfl) (by kernel_rfl) (fun _ _ h => h) (by kernel_rfl) rfl (fun _ _ ww hA => act_nil (b := g) (m := 0) hA rfl (by kernel_rfl) ww) rfl ?_
  refine xe_op 7 (.pointer (some ⟨g,2,none⟩)) _ rfl (by kernel_rfl) (by kernel_rfl) (by kernel_rfl) (fun _ _ h => h) (by kernel_rfl) rfl (fun _ _ ww hA => act_fld (sz := 1) (b := g) (m := 0) hA rfl Try.underlying95 rfl (by kernel_rfl) rfl (by kernel_rfl) rfl) rfl ?_
  refine xe_opH 8 (.int .i64 (IntKind.i64.wrap ((IntKind.i64.wrap (h * 6364136223846793005)) + 1442695040888963407))) _ rfl (by kernel_rfl) (by kernel_rfl) (by kernel_rfl) (fun _ _ h => h) (by kernel_rfl) rfl (fun _ _ ww hA hS => ld_range (g := g) (off := 2) (cs := [.slice A code.length cap,.int .i64 (i : Int),.int .i64 (IntKind.i64.wrap ((IntKind.i64.wrap (h * 6364136223846793005)) + 1442695040888963407))]) hA rfl (by kernel_rfl) (rd_row hS (h := 0) rfl hq1.2) (by kernel_rfl)) rfl ?_
  refine xe_op 9 (.int .i64 (Int.fdiv (IntKind.i64.wrap ((IntKind.i64.wrap (h * 6364136223846793005)) + 1442695040888963407)) (2 ^ (45 : Int).toNat))) _ rfl (by kernel_rfl) (by kernel_rfl) (by kernel_rfl) (fun _ _ h => h) (by kernel_rfl) rfl (fun _ _ ww hA => act_bin hA rfl (by kernel_rfl) (by kernel_rfl) (shr_run (k' := .u64) (by decide) (by decide) ww)) rfl ?_
  refine xe_op 10 (.int .i64 (IntKind.i64.wrap (BitVec.ofInt 64 (Int.fdiv (IntKind.i64.wrap ((IntKind.i64.wrap (h * 6364136223846793005)) + 1442695040888963407)) (2 ^ (33 : Int).toNat)) ^^^ BitVec.ofInt 64 (Int.fdiv (IntKind.i64.wrap ((IntKind.i64.wrap (h * 6364136223846793005)) + 1442695040888963407)) (2 ^ (45 : Int).toNat))).toNat)) _ rfl (by kernel_rfl) (by kernel_rfl) (by kernel_rfl) (fun _ _ h => h) (by kernel_rfl) rfl (fun _ _ ww hA => act_bin hA rfl (by kernel_rfl) (by kernel_rfl) (xor_run ww)) rfl ?_
  refine xe_tkS [11,12] [3,0] 0 [(3,.v (.int .i64 (IntKind.i64.wrap (BitVec.ofInt 64 (IntKind.i64.wrap (BitVec.ofInt 64 (Int.fdiv (IntKind.i64.wrap ((IntKind.i64.wrap (h * 6364136223846793005)) + 1442695040888963407)) (2 ^ (33 : Int).toNat)) ^^^ BitVec.ofInt 64 (Int.fdiv (IntKind.i64.wrap ((IntKind.i64.wrap (h * 6364136223846793005)) + 1442695040888963407)) (2 ^ (45 : Int).toNat))).toNat) &&& BitVec.ofInt 64 255).toNat))),(0,.v (.pointer (some ⟨g,0,none⟩)))] (fun _ _ h => h) rfl (by kernel_rfl) ?_
  refine xe_done (by kernel_rfl) ?_
  refine xw_seq ?_
  refine xw_seq ?_
  refine xw_wk (wk_forget (s' := ⟨[(3,.v (.int .i64 (IntKind.i64.wrap (BitVec.ofInt 64 (IntKind.i64.wrap (BitVec.ofInt 64 (Int.fdiv (IntKind.i64.wrap ((IntKind.i64.wrap (h * 6364136223846793005)) + 1442695040888963407)) (2 ^ (33 : Int).toNat)) ^^^ BitVec.ofInt 64 (Int.fdiv (IntKind.i64.wrap ((IntKind.i64.wrap (h * 6364136223846793005)) + 1442695040888963407)) (2 ^ (45 : Int).toNat))).toNat) &&& BitVec.ofInt 64 255).toNat))),(0,.v (.pointer (some ⟨g,0,none⟩)))],[],[],[cellF B g 95 [.slice A code.length cap,.int .i64 (i : Int),.int .i64 (IntKind.i64.wrap ((IntKind.i64.wrap (h * 6364136223846793005)) + 1442695040888963407))],slF (.slice A code.length cap) 1 (code.map byteRow),frF w (fun b => b = g)]⟩) 0 0 [3,0] (by kernel_rfl) (by kernel_rfl) (by kernel_rfl)) ?_
  refine xws_start ?_
  refine xws_cell (B := B) (g := g) (T := 95) (cs := [.slice A code.length cap,.int .i64 (i : Int),.int .i64 (IntKind.i64.wrap ((IntKind.i64.wrap (h * 6364136223846793005)) + 1442695040888963407))]) (fun _ _ h => h) (by simp) ?_
  refine xws_regionE [] (by kernel_rfl) (fun ρ σ hq2 => ?_)
  refine xe_tkS [0,4] [29,25,3,0] 8 [(29,.v (.pointer (some ⟨g,0,none⟩))),(25,.v (.pointer (some ⟨g,0,none⟩))),(3,.v (.int .i64 (IntKind.i64.wrap (BitVec.ofInt 64 (IntKind.i64.wrap (BitVec.ofInt 64 (Int.fdiv (IntKind.i64.wrap ((IntKind.i64.wrap (h * 6364136223846793005)) + 1442695040888963407)) (2 ^ (33 : Int).toNat)) ^^^ BitVec.ofInt 64 (Int.fdiv (IntKind.i64.wrap ((IntKind.i64.wrap (h * 6364136223846793005)) + 1442695040888963407)) (2 ^ (45 : Int).toNat))).toNat) &&& BitVec.ofInt 64 255).toNat))),(0,.v (.pointer (some ⟨g,0,none⟩)))] (fun _ _ h => h) rfl (by kernel_rfl) ?_
  refine xe_op 1 (.pointer (some ⟨g,0,none⟩)) _ rfl (by kernel_rfl) (by kernel_rfl) (by kernel_rfl) (fun _ _ h => h) (by kernel_rfl) rfl (fun _ _ ww hA => act_nil (b := g) (m := 0) hA rfl (by kernel_rfl) ww) rfl ?_
  refine xe_op 2 (.pointer (some ⟨g,1,none⟩)) _ rfl (by kernel_rfl) (by kernel_rfl) (by kernel_rfl) (fun _ _ h => h) (by kernel_rfl) rfl (fun _ _ ww hA => act_fld (sz := 1) (b := g) (m := 0) hA rfl Try.underlying95 rfl (by kernel_rfl) rfl (by kernel_rfl) rfl) rfl ?_
  refine xe_opH 3 (.int .i64 (i : Int)) _ rfl (by kernel_rfl) (by kernel_rfl) (by kernel_rfl) (fun _ _ h => h) (by kernel_rfl) rfl (fun _ _ ww hA hS => ld_range (g := g) (off := 1) (cs := [.slice A code.length cap,.int .i64 (i : Int),.int .i64 (IntKind.i64.wrap ((IntKind.i64.wrap (h * 6364136223846793005)) + 1442695040888963407))]) hA rfl (by kernel_rfl) (rd_row hS (h := 0) rfl hq2.2) (by kernel_rfl)) rfl ?_
  refine xe_op 5 (.pointer (some ⟨g,0,none⟩)) _ rfl (by kernel_rfl) (by kernel_rfl) (by kernel_rfl) (fun _ _ h => h) (by kernel_rfl) rfl (fun _ _ ww hA => act_nil (b := g) (m := 0) hA rfl (by kernel_rfl) ww) rfl ?_
  refine xe_op 6 (.pointer (some ⟨g,0,none⟩)) _ rfl (by kernel_rfl) (by kernel_rfl) (by kernel_rfl) (fun _ _ h => h) (by kernel_rfl) rfl (fun _ _ ww hA => act_fld (sz := 1) (b := g) (m := 0) hA rfl Try.underlying95 rfl (by kernel_rfl) rfl (by kernel_rfl) rfl) rfl ?_
  refine xe_opH 7 (.slice A code.length cap) _ rfl (by kernel_rfl) (by kernel_rfl) (by kernel_rfl) (fun _ _ h => h) (by kernel_rfl) rfl (fun _ _ ww hA hS => ld_range (g := g) (off := 0) (cs := [.slice A code.length cap,.int .i64 (i : Int),.int .i64 (IntKind.i64.wrap ((IntKind.i64.wrap (h * 6364136223846793005)) + 1442695040888963407))]) hA rfl (by kernel_rfl) (rd_row hS (h := 0) rfl hq2.2) (by kernel_rfl)) rfl ?_
  refine xe_tkS [8,9] [34,3,0] 0 [(34,.v (.bool (decide ((i : Int) < ((code.length : Nat) : Int))))),(3,.v (.int .i64 (IntKind.i64.wrap (BitVec.ofInt 64 (IntKind.i64.wrap (BitVec.ofInt 64 (Int.fdiv (IntKind.i64.wrap ((IntKind.i64.wrap (h * 6364136223846793005)) + 1442695040888963407)) (2 ^ (33 : Int).toNat)) ^^^ BitVec.ofInt 64 (Int.fdiv (IntKind.i64.wrap ((IntKind.i64.wrap (h * 6364136223846793005)) + 1442695040888963407)) (2 ^ (45 : Int).toNat))).toNat) &&& BitVec.ofInt 64 255).toNat))),(0,.v (.pointer (some ⟨g,0,none⟩)))] (fun _ _ h => h) rfl (by kernel_rfl) ?_
  refine xe_done (by kernel_rfl) ?_
  refine xw_cond (b := decide ((i : Int) < ((code.length : Nat) : Int))) (by kernel_rfl) (fun h3 => ?_) (fun h3 => ?_)
  have h3p : ((i : Int) < ((code.length : Nat) : Int)) := of_decide_eq_true h3
  have hlt : i < code.length := by simpa using h3
  obtain ⟨z,hz⟩ : ∃ z,code[i]? = some z := ⟨_,List.getElem?_eq_getElem hlt⟩
  refine xw_seq ?_
  refine xw_wk (wk_forget (s' := ⟨[(34,.v (.bool (decide ((i : Int) < ((code.length : Nat) : Int))))),(3,.v (.int .i64 (IntKind.i64.wrap (BitVec.ofInt 64 (IntKind.i64.wrap (BitVec.ofInt 64 (Int.fdiv (IntKind.i64.wrap ((IntKind.i64.wrap (h * 6364136223846793005)) + 1442695040888963407)) (2 ^ (33 : Int).toNat)) ^^^ BitVec.ofInt 64 (Int.fdiv (IntKind.i64.wrap ((IntKind.i64.wrap (h * 6364136223846793005)) + 1442695040888963407)) (2 ^ (45 : Int).toNat))).toNat) &&& BitVec.ofInt 64 255).toNat))),(0,.v (.pointer (some ⟨g,0,none⟩)))],[],[],[cellF B g 95 [.slice A code.length cap,.int .i64 (i : Int),.int .i64 (IntKind.i64.wrap ((IntKind.i64.wrap (h * 6364136223846793005)) + 1442695040888963407))],slF (.slice A code.length cap) 1 (code.map byteRow),frF w (fun b => b = g)]⟩) 0 0 [34,3,0] (by kernel_rfl) (by kernel_rfl) (by kernel_rfl)) ?_
  refine xws_start ?_
  refine xws_row (K := 1) (j := i) [.int .u8 z] (slF (.slice A code.length cap) 1 (code.map byteRow)) (fun _ _ h => h) (by simp) (fun w h => h) (fun b h => h) (by simp only [List.getElem?_map,hz]; rfl) (fun bq4 offq4 hAq4 => ?_)
  refine xws_cell (B := B) (g := g) (T := 95) (cs := [.slice A code.length cap,.int .i64 (i : Int),.int .i64 (IntKind.i64.wrap ((IntKind.i64.wrap (h * 6364136223846793005)) + 1442695040888963407))]) (fun _ _ h => h) (by simp) ?_
  refine xws_regionE [] (by kernel_rfl) (fun ρ σ hq5 => ?_)
  refine xe_tkS [0,1,5] [40,36,35,3,0] 12 [(40,.v (.pointer (some ⟨g,0,none⟩))),(36,.v (.pointer (some ⟨g,0,none⟩))),(35,.v (.int .i64 (IntKind.i64.wrap (BitVec.ofInt 64 (IntKind.i64.wrap (BitVec.ofInt 64 (Int.fdiv (IntKind.i64.wrap ((IntKind.i64.wrap (h * 6364136223846793005)) + 1442695040888963407)) (2 ^ (33 : Int).toNat)) ^^^ BitVec.ofInt 64 (Int.fdiv (IntKind.i64.wrap ((IntKind.i64.wrap (h * 6364136223846793005)) + 1442695040888963407)) (2 ^ (45 : Int).toNat))).toNat) &&& BitVec.ofInt 64 255).toNat))),(3,.v (.int .i64 (IntKind.i64.wrap (BitVec.ofInt 64 (IntKind.i64.wrap (BitVec.ofInt 64 (Int.fdiv (IntKind.i64.wrap ((IntKind.i64.wrap (h * 6364136223846793005)) + 1442695040888963407)) (2 ^ (33 : Int).toNat)) ^^^ BitVec.ofInt 64 (Int.fdiv (IntKind.i64.wrap ((IntKind.i64.wrap (h * 6364136223846793005)) + 1442695040888963407)) (2 ^ (45 : Int).toNat))).toNat) &&& BitVec.ofInt 64 255).toNat))),(0,.v (.pointer (some ⟨g,0,none⟩)))] (fun _ _ h => h) rfl (by kernel_rfl) ?_
  refine xe_op 2 (.pointer (some ⟨g,0,none⟩)) _ rfl (by kernel_rfl) (by kernel_rfl) (by kernel_rfl) (fun _ _ h => h) (by kernel_rfl) rfl (fun _ _ ww hA => act_nil (b := g) (m := 0) hA rfl (by kernel_rfl) ww) rfl ?_
  refine xe_op 3 (.pointer (some ⟨g,0,none⟩)) _ rfl (by kernel_rfl) (by kernel_rfl) (by kernel_rfl) (fun _ _ h => h) (by kernel_rfl) rfl (fun _ _ ww hA => act_fld (sz := 1) (b := g) (m := 0) hA rfl Try.underlying95 rfl (by kernel_rfl) rfl (by kernel_rfl) rfl) rfl ?_
  refine xe_opH 4 (.slice A code.length cap) _ rfl (by kernel_rfl) (by kernel_rfl) (by kernel_rfl) (fun _ _ h => h) (by kernel_rfl) rfl (fun _ _ ww hA hS => ld_range (g := g) (off := 0) (cs := [.slice A code.length cap,.int .i64 (i : Int),.int .i64 (IntKind.i64.wrap ((IntKind.i64.wrap (h * 6364136223846793005)) + 1442695040888963407))]) hA rfl (by kernel_rfl) (rd_row hS (h := 1) rfl hq5.2) (by kernel_rfl)) rfl ?_
  refine xe_op 6 (.pointer (some ⟨g,0,none⟩)) _ rfl (by kernel_rfl) (by kernel_rfl) (by kernel_rfl) (fun _ _ h => h) (by kernel_rfl) rfl (fun _ _ ww hA => act_nil (b := g) (m := 0) hA rfl (by kernel_rfl) ww) rfl ?_
  refine xe_op 7 (.pointer (some ⟨g,1,none⟩)) _ rfl (by kernel_rfl) (by kernel_rfl) (by kernel_rfl) (fun _ _ h => h) (by kernel_rfl) rfl (fun _ _ ww hA => act_fld (sz := 1) (b := g) (m := 0) hA rfl Try.underlying95 rfl (by kernel_rfl) rfl (by kernel_rfl) rfl) rfl ?_
  refine xe_opH 8 (.int .i64 (i : Int)) _ rfl (by kernel_rfl) (by kernel_rfl) (by kernel_rfl) (fun _ _ h => h) (by kernel_rfl) rfl (fun _ _ ww hA hS => ld_range (g := g) (off := 1) (cs := [.slice A code.length cap,.int .i64 (i : Int),.int .i64 (IntKind.i64.wrap ((IntKind.i64.wrap (h * 6364136223846793005)) + 1442695040888963407))]) hA rfl (by kernel_rfl) (rd_row hS (h := 1) rfl hq5.2) (by kernel_rfl)) rfl ?_
  refine xe_takeI (kd := .i64) (T := 22) (e := 5) (K := 1) (j := i) (A := A) (len := code.length) (cap := cap) 9 0 _ rfl (by kernel_rfl) (by kernel_rfl) (by kernel_rfl) (fun _ _ h => h) (by kernel_rfl) rfl rfl (by kernel_rfl) (by kernel_rfl) (by kernel_rfl) (by kernel_rfl) hlt hAq4 hq5.1.2 (by kernel_rfl) rfl ?_
  refine xe_tkS [10,11,12,13,14] [3,0] 0 [(3,.v (.int .i64 (IntKind.i64.wrap (BitVec.ofInt 64 (IntKind.i64.wrap ((IntKind.i64.wrap (BitVec.ofInt 64 (IntKind.i64.wrap (BitVec.ofInt 64 (Int.fdiv (IntKind.i64.wrap ((IntKind.i64.wrap (h * 6364136223846793005)) + 1442695040888963407)) (2 ^ (33 : Int).toNat)) ^^^ BitVec.ofInt 64 (Int.fdiv (IntKind.i64.wrap ((IntKind.i64.wrap (h * 6364136223846793005)) + 1442695040888963407)) (2 ^ (45 : Int).toNat))).toNat) &&& BitVec.ofInt 64 255).toNat) + (IntKind.i64.wrap z))) &&& BitVec.ofInt 64 255).toNat))),(0,.v (.pointer (some ⟨g,0,none⟩)))] (fun _ _ h => h) rfl (by kernel_rfl) ?_
  refine xe_done (by kernel_rfl) ?_
  refine xw_region ?_
  refine xl_opS 2 [3,49,50] [(3,.v (.int .i64 (IntKind.i64.wrap (BitVec.ofInt 64 (IntKind.i64.wrap ((IntKind.i64.wrap (BitVec.ofInt 64 (IntKind.i64.wrap (BitVec.ofInt 64 (Int.fdiv (IntKind.i64.wrap ((IntKind.i64.wrap (h * 6364136223846793005)) + 1442695040888963407)) (2 ^ (33 : Int).toNat)) ^^^ BitVec.ofInt 64 (Int.fdiv (IntKind.i64.wrap ((IntKind.i64.wrap (h * 6364136223846793005)) + 1442695040888963407)) (2 ^ (45 : Int).toNat))).toNat) &&& BitVec.ofInt 64 255).toNat) + (IntKind.i64.wrap z))) &&& BitVec.ofInt 64 255).toNat))),(49,.v (.pointer (some ⟨g,0,none⟩))),(50,.v (.pointer (some ⟨g,0,none⟩)))] (.pointer (some ⟨g,0,none⟩)) (by kernel_rfl) rfl (by kernel_rfl) rfl (fun _ _ _ ww hr => act_nil (b := g) (m := 0) hr.1 rfl (by kernel_rfl) ww) ?_
  refine xl_opS 0 [3,49,51] [(3,.v (.int .i64 (IntKind.i64.wrap (BitVec.ofInt 64 (IntKind.i64.wrap ((IntKind.i64.wrap (BitVec.ofInt 64 (IntKind.i64.wrap (BitVec.ofInt 64 (Int.fdiv (IntKind.i64.wrap ((IntKind.i64.wrap (h * 6364136223846793005)) + 1442695040888963407)) (2 ^ (33 : Int).toNat)) ^^^ BitVec.ofInt 64 (Int.fdiv (IntKind.i64.wrap ((IntKind.i64.wrap (h * 6364136223846793005)) + 1442695040888963407)) (2 ^ (45 : Int).toNat))).toNat) &&& BitVec.ofInt 64 255).toNat) + (IntKind.i64.wrap z))) &&& BitVec.ofInt 64 255).toNat))),(49,.v (.pointer (some ⟨g,0,none⟩))),(51,.v (.pointer (some ⟨g,0,none⟩)))] (.pointer (some ⟨g,1,none⟩)) (by kernel_rfl) rfl (by kernel_rfl) rfl (fun _ _ _ ww hr => act_fld (sz := 1) (b := g) (m := 0) hr.1 rfl Try.underlying95 rfl (by kernel_rfl) rfl (by kernel_rfl) rfl) ?_
  refine xl_opS 0 [3,49,52] [(3,.v (.int .i64 (IntKind.i64.wrap (BitVec.ofInt 64 (IntKind.i64.wrap ((IntKind.i64.wrap (BitVec.ofInt 64 (IntKind.i64.wrap (BitVec.ofInt 64 (Int.fdiv (IntKind.i64.wrap ((IntKind.i64.wrap (h * 6364136223846793005)) + 1442695040888963407)) (2 ^ (33 : Int).toNat)) ^^^ BitVec.ofInt 64 (Int.fdiv (IntKind.i64.wrap ((IntKind.i64.wrap (h * 6364136223846793005)) + 1442695040888963407)) (2 ^ (45 : Int).toNat))).toNat) &&& BitVec.ofInt 64 255).toNat) + (IntKind.i64.wrap z))) &&& BitVec.ofInt 64 255).toNat))),(49,.v (.pointer (some ⟨g,0,none⟩))),(52,.v (.pointer (some ⟨g,1,none⟩)))] (.int .i64 (i : Int)) (by kernel_rfl) rfl (by kernel_rfl) rfl (fun _ _ _ ww hr => ldP_run (off := 1) (B := B) (g := g) (T := 95) (cs := [.slice A code.length cap,.int .i64 (i : Int),.int .i64 (IntKind.i64.wrap ((IntKind.i64.wrap (h * 6364136223846793005)) + 1442695040888963407))]) hr rfl (by kernel_rfl) (by simp) (by kernel_rfl)) ?_
  refine xl_opS 1 [3,49,54] [(3,.v (.int .i64 (IntKind.i64.wrap (BitVec.ofInt 64 (IntKind.i64.wrap ((IntKind.i64.wrap (BitVec.ofInt 64 (IntKind.i64.wrap (BitVec.ofInt 64 (Int.fdiv (IntKind.i64.wrap ((IntKind.i64.wrap (h * 6364136223846793005)) + 1442695040888963407)) (2 ^ (33 : Int).toNat)) ^^^ BitVec.ofInt 64 (Int.fdiv (IntKind.i64.wrap ((IntKind.i64.wrap (h * 6364136223846793005)) + 1442695040888963407)) (2 ^ (45 : Int).toNat))).toNat) &&& BitVec.ofInt 64 255).toNat) + (IntKind.i64.wrap z))) &&& BitVec.ofInt 64 255).toNat))),(49,.v (.pointer (some ⟨g,0,none⟩))),(54,.v (.int .i64 (IntKind.i64.wrap ((i : Int) + 1))))] (.pointer (some ⟨g,0,none⟩)) (by kernel_rfl) rfl (by kernel_rfl) rfl (fun _ _ _ ww hr => act_nil (b := g) (m := 0) hr.1 rfl (by kernel_rfl) ww) ?_
  refine xl_opS 0 [3,54,55] [(3,.v (.int .i64 (IntKind.i64.wrap (BitVec.ofInt 64 (IntKind.i64.wrap ((IntKind.i64.wrap (BitVec.ofInt 64 (IntKind.i64.wrap (BitVec.ofInt 64 (Int.fdiv (IntKind.i64.wrap ((IntKind.i64.wrap (h * 6364136223846793005)) + 1442695040888963407)) (2 ^ (33 : Int).toNat)) ^^^ BitVec.ofInt 64 (Int.fdiv (IntKind.i64.wrap ((IntKind.i64.wrap (h * 6364136223846793005)) + 1442695040888963407)) (2 ^ (45 : Int).toNat))).toNat) &&& BitVec.ofInt 64 255).toNat) + (IntKind.i64.wrap z))) &&& BitVec.ofInt 64 255).toNat))),(54,.v (.int .i64 (IntKind.i64.wrap ((i : Int) + 1)))),(55,.v (.pointer (some ⟨g,0,none⟩)))] (.pointer (some ⟨g,1,none⟩)) (by kernel_rfl) rfl (by kernel_rfl) rfl (fun _ _ _ ww hr => act_fld (sz := 1) (b := g) (m := 0) hr.1 rfl Try.underlying95 rfl (by kernel_rfl) rfl (by kernel_rfl) rfl) ?_
  refine xl_hs 0 [3,54,56] ⟨[(3,.v (.int .i64 (IntKind.i64.wrap (BitVec.ofInt 64 (IntKind.i64.wrap ((IntKind.i64.wrap (BitVec.ofInt 64 (IntKind.i64.wrap (BitVec.ofInt 64 (Int.fdiv (IntKind.i64.wrap ((IntKind.i64.wrap (h * 6364136223846793005)) + 1442695040888963407)) (2 ^ (33 : Int).toNat)) ^^^ BitVec.ofInt 64 (Int.fdiv (IntKind.i64.wrap ((IntKind.i64.wrap (h * 6364136223846793005)) + 1442695040888963407)) (2 ^ (45 : Int).toNat))).toNat) &&& BitVec.ofInt 64 255).toNat) + (IntKind.i64.wrap z))) &&& BitVec.ofInt 64 255).toNat))),(54,.v (.int .i64 (IntKind.i64.wrap ((i : Int) + 1)))),(56,.v (.pointer (some ⟨g,1,none⟩)))],[],[[.int .u8 z],[.slice A code.length cap,.int .i64 (i : Int),.int .i64 (IntKind.i64.wrap ((IntKind.i64.wrap (h * 6364136223846793005)) + 1442695040888963407))]],[cellF B g 95 [.slice A code.length cap,.int .i64 (i : Int),.int .i64 (IntKind.i64.wrap ((IntKind.i64.wrap (h * 6364136223846793005)) + 1442695040888963407))],slF (.slice A code.length cap) 1 (code.map byteRow),frF w (fun b => b = g)]⟩ (by kernel_rfl) rfl (by kernel_rfl) rfl (by kernel_rfl) (hs_stP (g := g) (T := 95) (off := 1) (v := (.int .i64 (IntKind.i64.wrap ((i : Int) + 1)))) (i := 0) (B := B) (cs := [.slice A code.length cap,.int .i64 (i : Int),.int .i64 (IntKind.i64.wrap ((IntKind.i64.wrap (h * 6364136223846793005)) + 1442695040888963407))]) [.int .i64 (IntKind.i64.wrap ((i : Int) + 1))] (cs' := [.slice A code.length cap,.int .i64 (IntKind.i64.wrap ((i : Int) + 1)),.int .i64 (IntKind.i64.wrap ((IntKind.i64.wrap (h * 6364136223846793005)) + 1442695040888963407))]) rfl (by kernel_rfl) (by kernel_rfl) rfl (by kernel_rfl) rfl (by kernel_rfl) rfl rfl (cutW_le w B)) ?_
  refine xl_endS [3] [(3,.v (.int .i64 (IntKind.i64.wrap (BitVec.ofInt 64 (IntKind.i64.wrap ((IntKind.i64.wrap (BitVec.ofInt 64 (IntKind.i64.wrap (BitVec.ofInt 64 (Int.fdiv (IntKind.i64.wrap ((IntKind.i64.wrap (h * 6364136223846793005)) + 1442695040888963407)) (2 ^ (33 : Int).toNat)) ^^^ BitVec.ofInt 64 (Int.fdiv (IntKind.i64.wrap ((IntKind.i64.wrap (h * 6364136223846793005)) + 1442695040888963407)) (2 ^ (45 : Int).toNat))).toNat) &&& BitVec.ofInt 64 255).toNat) + (IntKind.i64.wrap z))) &&& BitVec.ofInt 64 255).toNat)))] (by kernel_rfl) ?_
  refine xw_seq ?_
  refine xw_region ?_
  refine xl_endS [2] [(2,.v (.int .i64 (IntKind.i64.wrap (BitVec.ofInt 64 (IntKind.i64.wrap ((IntKind.i64.wrap (BitVec.ofInt 64 (IntKind.i64.wrap (BitVec.ofInt 64 (Int.fdiv (IntKind.i64.wrap ((IntKind.i64.wrap (h * 6364136223846793005)) + 1442695040888963407)) (2 ^ (33 : Int).toNat)) ^^^ BitVec.ofInt 64 (Int.fdiv (IntKind.i64.wrap ((IntKind.i64.wrap (h * 6364136223846793005)) + 1442695040888963407)) (2 ^ (45 : Int).toNat))).toNat) &&& BitVec.ofInt 64 255).toNat) + (IntKind.i64.wrap z))) &&& BitVec.ofInt 64 255).toNat)))] (by kernel_rfl) ?_
  refine xw_ret ?_
  exact ⟨[.int .i64 (IntKind.i64.wrap (BitVec.ofInt 64 (IntKind.i64.wrap ((IntKind.i64.wrap (BitVec.ofInt 64 (IntKind.i64.wrap (BitVec.ofInt 64 (Int.fdiv (IntKind.i64.wrap ((IntKind.i64.wrap (h * 6364136223846793005)) + 1442695040888963407)) (2 ^ (33 : Int).toNat)) ^^^ BitVec.ofInt 64 (Int.fdiv (IntKind.i64.wrap ((IntKind.i64.wrap (h * 6364136223846793005)) + 1442695040888963407)) (2 ^ (45 : Int).toNat))).toNat) &&& BitVec.ofInt 64 255).toNat) + (IntKind.i64.wrap z))) &&& BitVec.ofInt 64 255).toNat)],by kernel_rfl,fun w' hb hf => ⟨⟨IntKind.i64.wrap (BitVec.ofInt 64 (IntKind.i64.wrap ((IntKind.i64.wrap (BitVec.ofInt 64 (IntKind.i64.wrap (BitVec.ofInt 64 (Int.fdiv (IntKind.i64.wrap ((IntKind.i64.wrap (h * 6364136223846793005)) + 1442695040888963407)) (2 ^ (33 : Int).toNat)) ^^^ BitVec.ofInt 64 (Int.fdiv (IntKind.i64.wrap ((IntKind.i64.wrap (h * 6364136223846793005)) + 1442695040888963407)) (2 ^ (45 : Int).toNat))).toNat) &&& BitVec.ofInt 64 255).toNat) + (IntKind.i64.wrap z))) &&& BitVec.ofInt 64 255).toNat,and255 _⟩,rfl,⟨hBg,i + 1,IntKind.i64.wrap ((IntKind.i64.wrap (h * 6364136223846793005)) + 1442695040888963407),by omega,by have := (hf (cellF B g 95 [.slice A code.length cap,.int .i64 (IntKind.i64.wrap ((i : Int) + 1)),.int .i64 (IntKind.i64.wrap ((IntKind.i64.wrap (h * 6364136223846793005)) + 1442695040888963407))]) (by simp)).2; rw [show IntKind.i64.wrap ((i : Int) + 1) = ((i + 1 : Nat) : Int) from by rw [wrap_id (by omega) (by omega)]; omega] at this; exact this⟩,frF_chgd (hf (frF w (fun b => b = g)) (by simp)) hb rfl rfl rfl⟩⟩
  have h3p : ¬ ((i : Int) < ((code.length : Nat) : Int)) := of_decide_eq_false h3
  refine xw_skip ?_
  refine xw_seq ?_
  refine xw_region ?_
  refine xl_endS [2] [(2,.v (.int .i64 (IntKind.i64.wrap (BitVec.ofInt 64 (IntKind.i64.wrap (BitVec.ofInt 64 (Int.fdiv (IntKind.i64.wrap ((IntKind.i64.wrap (h * 6364136223846793005)) + 1442695040888963407)) (2 ^ (33 : Int).toNat)) ^^^ BitVec.ofInt 64 (Int.fdiv (IntKind.i64.wrap ((IntKind.i64.wrap (h * 6364136223846793005)) + 1442695040888963407)) (2 ^ (45 : Int).toNat))).toNat) &&& BitVec.ofInt 64 255).toNat)))] (by kernel_rfl) ?_
  refine xw_ret ?_
  exact ⟨[.int .i64 (IntKind.i64.wrap (BitVec.ofInt 64 (IntKind.i64.wrap (BitVec.ofInt 64 (Int.fdiv (IntKind.i64.wrap ((IntKind.i64.wrap (h * 6364136223846793005)) + 1442695040888963407)) (2 ^ (33 : Int).toNat)) ^^^ BitVec.ofInt 64 (Int.fdiv (IntKind.i64.wrap ((IntKind.i64.wrap (h * 6364136223846793005)) + 1442695040888963407)) (2 ^ (45 : Int).toNat))).toNat) &&& BitVec.ofInt 64 255).toNat)],by kernel_rfl,fun w' hb hf => ⟨⟨IntKind.i64.wrap (BitVec.ofInt 64 (IntKind.i64.wrap (BitVec.ofInt 64 (Int.fdiv (IntKind.i64.wrap ((IntKind.i64.wrap (h * 6364136223846793005)) + 1442695040888963407)) (2 ^ (33 : Int).toNat)) ^^^ BitVec.ofInt 64 (Int.fdiv (IntKind.i64.wrap ((IntKind.i64.wrap (h * 6364136223846793005)) + 1442695040888963407)) (2 ^ (45 : Int).toNat))).toNat) &&& BitVec.ofInt 64 255).toNat,and255 _⟩,rfl,⟨hBg,i,IntKind.i64.wrap ((IntKind.i64.wrap (h * 6364136223846793005)) + 1442695040888963407),hi,(hf (cellF B g 95 [.slice A code.length cap,.int .i64 (i : Int),.int .i64 (IntKind.i64.wrap ((IntKind.i64.wrap (h * 6364136223846793005)) + 1442695040888963407))]) (by simp)).2⟩,frF_chgd (hf (frF w (fun b => b = g)) (by simp)) hb rfl rfl rfl⟩⟩
set_option maxHeartbeats 2000000 in
theorem l1Below_c (g : Nat) (code : List Int) (A : Option Addr) (cap : Nat) (n : Int) (w : World) (B : Nat) (hB : B ≤ w.heap.size) (hc : (curF B g 95 (.slice A code.length cap) code.length).p w) (hl : Sl w (.slice A code.length cap) 1 (code.map byteRow)) (hap : ¬ (slF (.slice A code.length cap) 1 (code.map byteRow)).blk g) (hn : code.length ≤ 1048576)  : Calls Try.prog 75 #[.pointer (some ⟨g, 0, none⟩), .int .i64 n] w fun e w' => ∃ y : {y : Int // 0 ≤ y ∧ (0 < n → y < n)}, e = .returned (.int .i64 y.1) ∧ (curF B g 95 (.slice A code.length cap) code.length).p w' ∧ Chgd (fun b => b = g) w w' := by
  have hq_code := Sl.capLe hl
  refine x_callsM (args := [.pointer (some ⟨g,0,none⟩),.int .i64 n]) (fn := Try.f75) [curF B g 95 (.slice A code.length cap) code.length,slF (.slice A code.length cap) 1 (code.map byteRow),frF w (fun b => b = g)] B Try.func75 rfl Try.ntmps75 rfl hB (by simp only [List.mem_cons,List.not_mem_nil,or_false,forall_eq_or_imp,forall_eq]; exact ⟨hc,hl,frF_start w _⟩) (apart_cur hap rfl) ?_
  refine xw_seq ?_
  refine xw_region ?_
  refine xl_end [0,1] ⟨[(0,.v (.pointer (some ⟨g,0,none⟩))),(1,.v (.int .i64 n))],[],[],[curF B g 95 (.slice A code.length cap) code.length,slF (.slice A code.length cap) 1 (code.map byteRow),frF w (fun b => b = g)]⟩ (by kernel_rfl) ?_
  refine xw_seq ?_
  refine xw_seq ?_
  refine xw_region ?_
  refine xl_endS [0,1,10] [(0,.v (.pointer (some ⟨g,0,none⟩))),(1,.v (.int .i64 n)),(10,.v (.bool (decide (n ≤ 0))))] (by kernel_rfl) ?_
  refine xw_cond (b := decide (n ≤ 0)) (by kernel_rfl) (fun h1 => ?_) (fun h1 => ?_)
  have h1p : (n ≤ 0) := of_decide_eq_true h1
  refine xw_seq ?_
  refine xw_region ?_
  refine xl_endS [4] [(4,.v (.int .i64 0))] (by kernel_rfl) ?_
  refine xw_ret ?_
  exact ⟨[.int .i64 0],by kernel_rfl,fun w' hb hf => ⟨⟨0,(by first | (exact ⟨by omega,fun _ => by omega⟩) | (exact tmod_bd (by omega) (by omega)))⟩,rfl,hf (curF B g 95 (.slice A code.length cap) code.length) (by simp),frF_chgd (hf (frF w (fun b => b = g)) (by simp)) hb rfl rfl rfl⟩⟩
  have h1p : ¬ (n ≤ 0) := of_decide_eq_false h1
  refine xw_skip ?_
  refine xw_seq ?_
  refine xw_seq ?_
  refine xw_region ?_
  refine xl_endS [0,1,12] [(0,.v (.pointer (some ⟨g,0,none⟩))),(1,.v (.int .i64 n)),(12,.v (.bool (decide (n ≤ 256))))] (by kernel_rfl) ?_
  refine xw_cond (b := decide (n ≤ 256)) (by kernel_rfl) (fun h2 => ?_) (fun h2 => ?_)
  have h2p : (n ≤ 256) := of_decide_eq_true h2
  refine xw_seq ?_
  refine xw_region ?_
  refine xl_callWS 1 [1,13] [(1,.v (.int .i64 n)),(13,.v (.pointer (some ⟨g,0,none⟩)))] 83 [.pointer (some ⟨g,0,none⟩)] (some 14) 0 (curF B g 95 (.slice A code.length cap) code.length) (by kernel_rfl) rfl (by kernel_rfl) rfl (by kernel_rfl) rfl rfl (fun ww b h hb => Nat.le_trans (cutW_le w B) (cur_lo h hb)) (by kernel_rfl) (xcm_cur fun ww hw hf => l1Byte_c g code A cap  ww B (Nat.le_trans (by first | exact Nat.le_refl _ | exact Nat.le_of_eq (cutW_size hB).symm) hw) (hf (curF B g 95 (.slice A code.length cap) code.length) (by simp)) (hf (slF (.slice A code.length cap) 1 (code.map byteRow)) (by simp)) hap (by omega)  ) ?_
  rintro ⟨y3,hy3⟩
  refine xl_opS 1 [14,15] [(14,.v (.int .i64 y3)),(15,.v (.int .i64 n))] (.int .i64 (Int.tmod y3 n)) (by kernel_rfl) rfl (by kernel_rfl) rfl (fun _ _ _ ww hr => act_bin hr.1 rfl (by kernel_rfl) (by kernel_rfl) (rem_run (by first | decide | omega) ww)) ?_
  refine xl_endS [4] [(4,.v (.int .i64 (Int.tmod y3 n)))] (by kernel_rfl) ?_
  refine xw_ret ?_
  exact ⟨[.int .i64 (Int.tmod y3 n)],by kernel_rfl,fun w' hb hf => ⟨⟨Int.tmod y3 n,(by first | (exact ⟨by omega,fun _ => by omega⟩) | (exact tmod_bd (by omega) (by omega)))⟩,rfl,hf (curF B g 95 (.slice A code.length cap) code.length) (by simp),frF_chgd (hf (frF w (fun b => b = g)) (by simp)) hb rfl rfl rfl⟩⟩
  have h2p : ¬ (n ≤ 256) := of_decide_eq_false h2
  refine xw_skip ?_
  refine xw_seq ?_
  refine xw_region ?_
  refine xl_callWS 1 [0,1,17] [(0,.v (.pointer (some ⟨g,0,none⟩))),(1,.v (.int .i64 n)),(17,.v (.pointer (some ⟨g,0,none⟩)))] 83 [.pointer (some ⟨g,0,none⟩)] (some 18) 0 (curF B g 95 (.slice A code.length cap) code.length) (by kernel_rfl) rfl (by kernel_rfl) rfl (by kernel_rfl) rfl rfl (fun ww b h hb => Nat.le_trans (cutW_le w B) (cur_lo h hb)) (by kernel_rfl) (xcm_cur fun ww hw hf => l1Byte_c g code A cap  ww B (Nat.le_trans (by first | exact Nat.le_refl _ | exact Nat.le_of_eq (cutW_size hB).symm) hw) (hf (curF B g 95 (.slice A code.length cap) code.length) (by simp)) (hf (slF (.slice A code.length cap) 1 (code.map byteRow)) (by simp)) hap (by omega)  ) ?_
  rintro ⟨y4,hy4⟩
  refine xl_endS [0,1,5] [(0,.v (.pointer (some ⟨g,0,none⟩))),(1,.v (.int .i64 n)),(5,.v (.int .i64 y4))] (by kernel_rfl) ?_
  refine xw_seq ?_
  refine xw_region ?_
  refine xl_callWS 1 [0,1,5,19] [(0,.v (.pointer (some ⟨g,0,none⟩))),(1,.v (.int .i64 n)),(5,.v (.int .i64 y4)),(19,.v (.pointer (some ⟨g,0,none⟩)))] 83 [.pointer (some ⟨g,0,none⟩)] (some 20) 0 (curF B g 95 (.slice A code.length cap) code.length) (by kernel_rfl) rfl (by kernel_rfl) rfl (by kernel_rfl) rfl rfl (fun ww b h hb => Nat.le_trans (cutW_le w B) (cur_lo h hb)) (by kernel_rfl) (xcm_cur fun ww hw hf => l1Byte_c g code A cap  ww B (Nat.le_trans (by first | exact Nat.le_refl _ | exact Nat.le_of_eq (cutW_size hB).symm) hw) (hf (curF B g 95 (.slice A code.length cap) code.length) (by simp)) (hf (slF (.slice A code.length cap) 1 (code.map byteRow)) (by simp)) hap (by omega)  ) ?_
  rintro ⟨y5,hy5⟩
  refine xl_endS [0,1,5,6] [(0,.v (.pointer (some ⟨g,0,none⟩))),(1,.v (.int .i64 n)),(5,.v (.int .i64 y4)),(6,.v (.int .i64 y5))] (by kernel_rfl) ?_
  refine xw_seq ?_
  refine xw_region ?_
  refine xl_callWS 1 [0,1,5,6,21] [(0,.v (.pointer (some ⟨g,0,none⟩))),(1,.v (.int .i64 n)),(5,.v (.int .i64 y4)),(6,.v (.int .i64 y5)),(21,.v (.pointer (some ⟨g,0,none⟩)))] 83 [.pointer (some ⟨g,0,none⟩)] (some 22) 0 (curF B g 95 (.slice A code.length cap) code.length) (by kernel_rfl) rfl (by kernel_rfl) rfl (by kernel_rfl) rfl rfl (fun ww b h hb => Nat.le_trans (cutW_le w B) (cur_lo h hb)) (by kernel_rfl) (xcm_cur fun ww hw hf => l1Byte_c g code A cap  ww B (Nat.le_trans (by first | exact Nat.le_refl _ | exact Nat.le_of_eq (cutW_size hB).symm) hw) (hf (curF B g 95 (.slice A code.length cap) code.length) (by simp)) (hf (slF (.slice A code.length cap) 1 (code.map byteRow)) (by simp)) hap (by omega)  ) ?_
  rintro ⟨y6,hy6⟩
  refine xl_endS [0,1,5,6,7] [(0,.v (.pointer (some ⟨g,0,none⟩))),(1,.v (.int .i64 n)),(5,.v (.int .i64 y4)),(6,.v (.int .i64 y5)),(7,.v (.int .i64 y6))] (by kernel_rfl) ?_
  refine xw_seq ?_
  refine xw_region ?_
  refine xl_callWS 1 [1,5,6,7,23] [(1,.v (.int .i64 n)),(5,.v (.int .i64 y4)),(6,.v (.int .i64 y5)),(7,.v (.int .i64 y6)),(23,.v (.pointer (some ⟨g,0,none⟩)))] 83 [.pointer (some ⟨g,0,none⟩)] (some 24) 0 (curF B g 95 (.slice A code.length cap) code.length) (by kernel_rfl) rfl (by kernel_rfl) rfl (by kernel_rfl) rfl rfl (fun ww b h hb => Nat.le_trans (cutW_le w B) (cur_lo h hb)) (by kernel_rfl) (xcm_cur fun ww hw hf => l1Byte_c g code A cap  ww B (Nat.le_trans (by first | exact Nat.le_refl _ | exact Nat.le_of_eq (cutW_size hB).symm) hw) (hf (curF B g 95 (.slice A code.length cap) code.length) (by simp)) (hf (slF (.slice A code.length cap) 1 (code.map byteRow)) (by simp)) hap (by omega)  ) ?_
  rintro ⟨y7,hy7⟩
  refine xl_endS [1,5,6,7,8] [(1,.v (.int .i64 n)),(5,.v (.int .i64 y4)),(6,.v (.int .i64 y5)),(7,.v (.int .i64 y6)),(8,.v (.int .i64 y7))] (by kernel_rfl) ?_
  refine xw_seq ?_
  refine xw_region ?_
  refine xl_opS 11 [34,35] [(34,.v (.int .i64 (IntKind.i64.wrap ((IntKind.i64.wrap ((IntKind.i64.wrap ((IntKind.i64.wrap (y4 * 16777216)) + (IntKind.i64.wrap (y5 * 65536)))) + (IntKind.i64.wrap (y6 * 256)))) + y7)))),(35,.v (.int .i64 n))] (.int .i64 (Int.tmod (IntKind.i64.wrap ((IntKind.i64.wrap ((IntKind.i64.wrap ((IntKind.i64.wrap (y4 * 16777216)) + (IntKind.i64.wrap (y5 * 65536)))) + (IntKind.i64.wrap (y6 * 256)))) + y7)) n)) (by kernel_rfl) rfl (by kernel_rfl) rfl (fun _ _ _ ww hr => act_bin hr.1 rfl (by kernel_rfl) (by kernel_rfl) (rem_run (by first | decide | omega) ww)) ?_
  refine xl_runS 1 [4] [(4,.v (.int .i64 (Int.tmod (IntKind.i64.wrap ((IntKind.i64.wrap ((IntKind.i64.wrap ((IntKind.i64.wrap (y4 * 16777216)) + (IntKind.i64.wrap (y5 * 65536)))) + (IntKind.i64.wrap (y6 * 256)))) + y7)) n)))] (by kernel_rfl) ?_
  refine xl_eqS (t' := [(4,.v (.int .i64 (Int.tmod ((((y4 * 16777216) + (y5 * 65536)) + (y6 * 256)) + y7) n)))]) (by rw [show (IntKind.i64.wrap (y6 * 256)) = (y6 * 256) from wrap_id (by omega) (by omega),show (IntKind.i64.wrap (y5 * 65536)) = (y5 * 65536) from wrap_id (by omega) (by omega),show (IntKind.i64.wrap (y4 * 16777216)) = (y4 * 16777216) from wrap_id (by omega) (by omega),show (IntKind.i64.wrap ((y4 * 16777216) + (y5 * 65536))) = ((y4 * 16777216) + (y5 * 65536)) from wrap_id (by omega) (by omega),show (IntKind.i64.wrap (((y4 * 16777216) + (y5 * 65536)) + (y6 * 256))) = (((y4 * 16777216) + (y5 * 65536)) + (y6 * 256)) from wrap_id (by omega) (by omega),show (IntKind.i64.wrap ((((y4 * 16777216) + (y5 * 65536)) + (y6 * 256)) + y7)) = ((((y4 * 16777216) + (y5 * 65536)) + (y6 * 256)) + y7) from wrap_id (by omega) (by omega)]) ?_
  refine xl_endS [4] [(4,.v (.int .i64 (Int.tmod ((((y4 * 16777216) + (y5 * 65536)) + (y6 * 256)) + y7) n)))] (by kernel_rfl) ?_
  refine xw_ret ?_
  exact ⟨[.int .i64 (Int.tmod ((((y4 * 16777216) + (y5 * 65536)) + (y6 * 256)) + y7) n)],by kernel_rfl,fun w' hb hf => ⟨⟨Int.tmod ((((y4 * 16777216) + (y5 * 65536)) + (y6 * 256)) + y7) n,(by first | (exact ⟨by omega,fun _ => by omega⟩) | (exact tmod_bd (by omega) (by omega)))⟩,rfl,hf (curF B g 95 (.slice A code.length cap) code.length) (by simp),frF_chgd (hf (frF w (fun b => b = g)) (by simp)) hb rfl rfl rfl⟩⟩
set_option maxHeartbeats 2000000 in
theorem l1Once_c (g : Nat) (code : List Int) (A : Option Addr) (cap : Nat) (n : Int) (w : World) (B : Nat) (hB : B ≤ w.heap.size) (hc : (curF B g 95 (.slice A code.length cap) code.length).p w) (hl : Sl w (.slice A code.length cap) 1 (code.map byteRow)) (hap : ¬ (slF (.slice A code.length cap) 1 (code.map byteRow)).blk g) (hn : code.length ≤ 1048576)  : Calls Try.prog 66 #[.pointer (some ⟨g, 0, none⟩), .int .i64 n] w fun e w' => ∃ y : {y : Bool // True}, e = .returned (.bool y.1) ∧ (curF B g 95 (.slice A code.length cap) code.length).p w' ∧ Chgd (fun b => b = g) w w' := by
  have hq_code := Sl.capLe hl
  refine x_callsM (args := [.pointer (some ⟨g,0,none⟩),.int .i64 n]) (fn := Try.f66) [curF B g 95 (.slice A code.length cap) code.length,slF (.slice A code.length cap) 1 (code.map byteRow),frF w (fun b => b = g)] B Try.func66 rfl Try.ntmps66 rfl hB (by simp only [List.mem_cons,List.not_mem_nil,or_false,forall_eq_or_imp,forall_eq]; exact ⟨hc,hl,frF_start w _⟩) (apart_cur hap rfl) ?_
  refine xw_seq ?_
  refine xw_region ?_
  refine xl_end [0,1] ⟨[(0,.v (.pointer (some ⟨g,0,none⟩))),(1,.v (.int .i64 n))],[],[],[curF B g 95 (.slice A code.length cap) code.length,slF (.slice A code.length cap) 1 (code.map byteRow),frF w (fun b => b = g)]⟩ (by kernel_rfl) ?_
  refine xw_seq ?_
  refine xw_region ?_
  refine xl_callWS 2 [5,6] [(5,.v (.pointer (some ⟨g,0,none⟩))),(6,.v (.int .i64 n))] 75 [.pointer (some ⟨g,0,none⟩),.int .i64 n] (some 7) 0 (curF B g 95 (.slice A code.length cap) code.length) (by kernel_rfl) rfl (by kernel_rfl) rfl (by kernel_rfl) rfl rfl (fun ww b h hb => Nat.le_trans (cutW_le w B) (cur_lo h hb)) (by kernel_rfl) (xcm_cur fun ww hw hf => l1Below_c g code A cap n ww B (Nat.le_trans (by first | exact Nat.le_refl _ | exact Nat.le_of_eq (cutW_size hB).symm) hw) (hf (curF B g 95 (.slice A code.length cap) code.length) (by simp)) (hf (slF (.slice A code.length cap) 1 (code.map byteRow)) (by simp)) hap (by omega)  ) ?_
  rintro ⟨y1,hy1⟩
  obtain ⟨hy10,hy11⟩ := hy1
  refine xl_endS [4] [(4,.v (.bool (y1 == 0)))] (by kernel_rfl) ?_
  refine xw_ret ?_
  exact ⟨[.bool (y1 == 0)],by kernel_rfl,fun w' hb hf => ⟨⟨y1 == 0,trivial⟩,rfl,hf (curF B g 95 (.slice A code.length cap) code.length) (by simp),frF_chgd (hf (frF w (fun b => b = g)) (by simp)) hb rfl rfl rfl⟩⟩
set_option maxHeartbeats 2000000 in
theorem l1PickInt_c (g : Nat) (code : List Int) (A : Option Addr) (cap : Nat) (list : List Int) (listV : Value) (w : World) (B : Nat) (hB : B ≤ w.heap.size) (hc : (curF B g 95 (.slice A code.length cap) code.length).p w) (hl : Sl w (.slice A code.length cap) 1 (code.map byteRow)) (hap : ¬ (slF (.slice A code.length cap) 1 (code.map byteRow)).blk g) (hn : code.length ≤ 1048576) (hl_listV : Sl w listV 1 (list.map intRow)) (hap2 : ¬ (slF listV 1 (list.map intRow)).blk g) (hne : 0 < list.length) : Calls Try.prog 52 #[.pointer (some ⟨g, 0, none⟩), listV] w fun e w' => ∃ y : {y : Int // y ∈ list}, e = .returned (.int .i64 y.1) ∧ (curF B g 95 (.slice A code.length cap) code.length).p w' ∧ Chgd (fun b => b = g) w w' := by
  have hq_code := Sl.capLe hl
  obtain ⟨Al,Cl,hvl⟩ := hl_listV.form
  rw [List.length_map] at hvl; subst hvl
  have hnl := hl_listV.len; rw [List.length_map] at hnl
  have hql := Sl.capLe hl_listV
  refine x_callsM (args := [.pointer (some ⟨g,0,none⟩),.slice Al list.length Cl]) (fn := Try.f52) [curF B g 95 (.slice A code.length cap) code.length,slF (.slice A code.length cap) 1 (code.map byteRow),frF w (fun b => b = g),slF (.slice Al list.length Cl) 1 (list.map intRow)] B Try.func52 rfl Try.ntmps52 rfl hB (by simp only [List.mem_cons,List.not_mem_nil,or_false,forall_eq_or_imp,forall_eq]; exact ⟨hc,hl,frF_start w _,hl_listV⟩) (apart_cur2 hap rfl hap2 rfl) ?_
  refine xw_seq ?_
  refine xw_region ?_
  refine xl_end [0,1] ⟨[(0,.v (.pointer (some ⟨g,0,none⟩))),(1,.v (.slice Al list.length Cl))],[],[],[curF B g 95 (.slice A code.length cap) code.length,slF (.slice A code.length cap) 1 (code.map byteRow),frF w (fun b => b = g),slF (.slice Al list.length Cl) 1 (list.map intRow)]⟩ (by kernel_rfl) ?_
  refine xw_seq ?_
  refine xw_region ?_
  refine xl_callWS 4 [5,6,8] [(5,.v (.slice Al list.length Cl)),(6,.v (.pointer (some ⟨g,0,none⟩))),(8,.v (.int .i64 ((list.length : Nat) : Int)))] 75 [.pointer (some ⟨g,0,none⟩),.int .i64 ((list.length : Nat) : Int)] (some 9) 0 (curF B g 95 (.slice A code.length cap) code.length) (by kernel_rfl) rfl (by kernel_rfl) rfl (by kernel_rfl) rfl rfl (fun ww b h hb => Nat.le_trans (cutW_le w B) (cur_lo h hb)) (by kernel_rfl) (xcm_cur fun ww hw hf => l1Below_c g code A cap ((list.length : Nat) : Int) ww B (Nat.le_trans (by first | exact Nat.le_refl _ | exact Nat.le_of_eq (cutW_size hB).symm) hw) (hf (curF B g 95 (.slice A code.length cap) code.length) (by simp)) (hf (slF (.slice A code.length cap) 1 (code.map byteRow)) (by simp)) hap (by omega)  ) ?_
  rintro ⟨y1,hy1⟩
  obtain ⟨hy10,hy11⟩ := hy1
  obtain ⟨j2,hj2⟩ : ∃ j : Nat,y1 = (j : Int) := ⟨y1.toNat,by omega⟩
  subst hj2
  have hlt : j2 < list.length := by omega
  obtain ⟨z,hz⟩ : ∃ z,list[j2]? = some z := ⟨_,List.getElem?_eq_getElem hlt⟩
  refine xl_indexS (kd := .i64) (T := 77) (e := 3) (K := 1) 0 [5,9] [(5,.v (.slice Al list.length Cl)),(9,.v (.int .i64 (j2 : Int)))] j2 [.int .i64 z] (slF (.slice Al list.length Cl) 1 (list.map intRow)) (by kernel_rfl) rfl (by kernel_rfl) rfl rfl (by kernel_rfl) (by kernel_rfl) (by kernel_rfl) (by kernel_rfl) hlt (by simp) (fun w h => h) (fun b h => h) (by simp only [List.getElem?_map,hz]; rfl) ?_
  refine xl_endS [4] [(4,.v (.int .i64 z))] (by kernel_rfl) ?_
  refine xw_ret ?_
  exact ⟨[.int .i64 z],by kernel_rfl,fun w' hb hf => ⟨⟨z,List.mem_of_getElem? hz⟩,rfl,hf (curF B g 95 (.slice A code.length cap) code.length) (by simp),frF_chgd (hf (frF w (fun b => b = g)) (by simp)) hb rfl rfl rfl⟩⟩
set_option maxHeartbeats 2000000 in
theorem l1Whole_c (g : Nat) (code : List Int) (A : Option Addr) (cap : Nat)  (w : World) (B : Nat) (hB : B ≤ w.heap.size) (hc : (curF B g 95 (.slice A code.length cap) code.length).p w) (hl : Sl w (.slice A code.length cap) 1 (code.map byteRow)) (hap : ¬ (slF (.slice A code.length cap) 1 (code.map byteRow)).blk g) (hn : code.length ≤ 1048576)  : Calls Try.prog 79 #[.pointer (some ⟨g, 0, none⟩)] w fun e w' => ∃ y : {y : Int // True}, e = .returned (.int .i64 y.1) ∧ (curF B g 95 (.slice A code.length cap) code.length).p w' ∧ Chgd (fun b => b = g) w w' := by
  have hq_code := Sl.capLe hl
  refine x_callsM (args := [.pointer (some ⟨g,0,none⟩)]) (fn := Try.f79) [curF B g 95 (.slice A code.length cap) code.length,slF (.slice A code.length cap) 1 (code.map byteRow),frF w (fun b => b = g)] B Try.func79 rfl Try.ntmps79 rfl hB (by simp only [List.mem_cons,List.not_mem_nil,or_false,forall_eq_or_imp,forall_eq]; exact ⟨hc,hl,frF_start w _⟩) (apart_cur hap rfl) ?_
  refine xw_seq ?_
  refine xw_region ?_
  refine xl_end [0] ⟨[(0,.v (.pointer (some ⟨g,0,none⟩)))],[],[],[curF B g 95 (.slice A code.length cap) code.length,slF (.slice A code.length cap) 1 (code.map byteRow),frF w (fun b => b = g)]⟩ (by kernel_rfl) ?_
  refine xw_seq ?_
  refine xw_seq ?_
  refine xw_region ?_
  refine xl_callWS 1 [0,3] [(0,.v (.pointer (some ⟨g,0,none⟩))),(3,.v (.pointer (some ⟨g,0,none⟩)))] 75 [.pointer (some ⟨g,0,none⟩),.int .i64 3] (some 4) 0 (curF B g 95 (.slice A code.length cap) code.length) (by kernel_rfl) rfl (by kernel_rfl) rfl (by kernel_rfl) rfl rfl (fun ww b h hb => Nat.le_trans (cutW_le w B) (cur_lo h hb)) (by kernel_rfl) (xcm_cur fun ww hw hf => l1Below_c g code A cap 3 ww B (Nat.le_trans (by first | exact Nat.le_refl _ | exact Nat.le_of_eq (cutW_size hB).symm) hw) (hf (curF B g 95 (.slice A code.length cap) code.length) (by simp)) (hf (slF (.slice A code.length cap) 1 (code.map byteRow)) (by simp)) hap (by omega)  ) ?_
  rintro ⟨y1,hy1⟩
  obtain ⟨hy10,hy11⟩ := hy1
  refine xl_endS [0,4] [(0,.v (.pointer (some ⟨g,0,none⟩))),(4,.v (.int .i64 y1))] (by kernel_rfl) ?_
  refine xw_block ?_
  refine xw_seq ?_
  refine xw_region ?_
  refine xl_endS [0,4,5] [(0,.v (.pointer (some ⟨g,0,none⟩))),(4,.v (.int .i64 y1)),(5,.v (.bool (y1 == 0)))] (by kernel_rfl) ?_
  refine xw_cond (b := y1 == 0) (by kernel_rfl) (fun h2 => ?_) (fun h2 => ?_)
  have h2p := eqT h2
  refine xw_seq ?_
  refine xw_region ?_
  refine xl_hvS 1 [7] [(7,.v (.pointer (some ⟨g,0,none⟩)))] (by kernel_rfl) rfl (by kernel_rfl) rfl (by kernel_rfl) (hv_build (e := 3) (K := 1) (bytes := 8) [.int .i64 0,.int .i64 1,.int .i64 (-1),.int .i64 9,.int .i64 10,.int .i64 999999999999,.int .i64 1000000000000,.int .i64 9223372036854775807,.int .i64 4294967295,.int .i64 4294967296,.int .i64 65535,.int .i64 65536,.int .i64 (-9223372036854775808)] rfl (by kernel_rfl) (by kernel_rfl) (by kernel_rfl) (by kernel_rfl) (by kernel_rfl) (rs := ([0,1,(-1),9,10,999999999999,1000000000000,9223372036854775807,4294967295,4294967296,65535,65536,(-9223372036854775808)] : List Int).map intRow) rfl) ?_
  intro g3
  refine xl_know (φ := ¬ (slF (.slice (some ⟨g3,0,none⟩) 13 13) 1 (([0,1,(-1),9,10,999999999999,1000000000000,9223372036854775807,4294967295,4294967296,65535,65536,(-9223372036854775808)] : List Int).map intRow)).blk g) (fun _ _ _ _ hr => fun hb => hr.2.apart 0 1 (rowF (cutW w B).heap.size 3 1 (.slice (some ⟨g3,0,none⟩) 13 13) (([0,1,(-1),9,10,999999999999,1000000000000,9223372036854775807,4294967295,4294967296,65535,65536,(-9223372036854775808)] : List Int).map intRow)) (curF B g 95 (.slice A code.length cap) code.length) rfl rfl (by decide) rfl g (rowF_sblk hb) rfl) (fun hk4 => ?_)
  refine xl_callWS 0 [7,8] [(7,.v (.pointer (some ⟨g,0,none⟩))),(8,.v (.slice (some ⟨g3,0,none⟩) 13 13))] 52 [.pointer (some ⟨g,0,none⟩),.slice (some ⟨g3,0,none⟩) 13 13] (some 9) 1 (curF B g 95 (.slice A code.length cap) code.length) (by kernel_rfl) rfl (by kernel_rfl) rfl (by kernel_rfl) rfl rfl (fun ww b h hb => Nat.le_trans (cutW_le w B) (cur_lo h hb)) (by kernel_rfl) (xcm_cur fun ww hw hf => l1PickInt_c g code A cap ([0,1,(-1),9,10,999999999999,1000000000000,9223372036854775807,4294967295,4294967296,65535,65536,(-9223372036854775808)] : List Int) (.slice (some ⟨g3,0,none⟩) 13 13) ww B (Nat.le_trans (by first | exact Nat.le_refl _ | exact Nat.le_of_eq (cutW_size hB).symm) hw) (hf (curF B g 95 (.slice A code.length cap) code.length) (by simp)) (hf (slF (.slice A code.length cap) 1 (code.map byteRow)) (by simp)) hap (by omega) (rowF_sl (hf (rowF (cutW w B).heap.size 3 1 (.slice (some ⟨g3,0,none⟩) 13 13) (([0,1,(-1),9,10,999999999999,1000000000000,9223372036854775807,4294967295,4294967296,65535,65536,(-9223372036854775808)] : List Int).map intRow)) (by simp))) hk4 (by simp)) ?_
  rintro ⟨y5,hy5⟩
  refine xl_endS [2] [(2,.v (.int .i64 y5))] (by kernel_rfl) ?_
  refine xw_ret ?_
  exact ⟨[.int .i64 y5],by kernel_rfl,fun w' hb hf => ⟨⟨y5,trivial⟩,rfl,hf (curF B g 95 (.slice A code.length cap) code.length) (by simp),frF_chgd (hf (frF w (fun b => b = g)) (by simp)) hb rfl rfl rfl⟩⟩
  have h2p := eqF h2
  refine xw_seq ?_
  refine xw_region ?_
  refine xl_endS [0,10] [(0,.v (.pointer (some ⟨g,0,none⟩))),(10,.v (.bool (y1 == 1)))] (by kernel_rfl) ?_
  refine xw_cond (b := y1 == 1) (by kernel_rfl) (fun h6 => ?_) (fun h6 => ?_)
  have h6p := eqT h6
  refine xw_seq ?_
  refine xw_region ?_
  refine xl_callWS 1 [12] [(12,.v (.pointer (some ⟨g,0,none⟩)))] 75 [.pointer (some ⟨g,0,none⟩),.int .i64 1000000] (some 13) 0 (curF B g 95 (.slice A code.length cap) code.length) (by kernel_rfl) rfl (by kernel_rfl) rfl (by kernel_rfl) rfl rfl (fun ww b h hb => Nat.le_trans (cutW_le w B) (cur_lo h hb)) (by kernel_rfl) (xcm_cur fun ww hw hf => l1Below_c g code A cap 1000000 ww B (Nat.le_trans (by first | exact Nat.le_refl _ | exact Nat.le_of_eq (cutW_size hB).symm) hw) (hf (curF B g 95 (.slice A code.length cap) code.length) (by simp)) (hf (slF (.slice A code.length cap) 1 (code.map byteRow)) (by simp)) hap (by omega)  ) ?_
  rintro ⟨y7,hy7⟩
  obtain ⟨hy70,hy71⟩ := hy7
  refine xl_runS 2 [2] [(2,.v (.int .i64 (IntKind.i64.wrap (y7 - 500000))))] (by kernel_rfl) ?_
  refine xl_eqS (t' := [(2,.v (.int .i64 (y7 - 500000)))]) (by rw [show (IntKind.i64.wrap (y7 - 500000)) = (y7 - 500000) from wrap_id (by omega) (by omega)]) ?_
  refine xl_endS [2] [(2,.v (.int .i64 (y7 - 500000)))] (by kernel_rfl) ?_
  refine xw_ret ?_
  exact ⟨[.int .i64 (y7 - 500000)],by kernel_rfl,fun w' hb hf => ⟨⟨y7 - 500000,trivial⟩,rfl,hf (curF B g 95 (.slice A code.length cap) code.length) (by simp),frF_chgd (hf (frF w (fun b => b = g)) (by simp)) hb rfl rfl rfl⟩⟩
  have h6p := eqF h6
  refine xw_skip ?_
  refine xw_seq ?_
  refine xw_region ?_
  refine xl_callWS 1 [15] [(15,.v (.pointer (some ⟨g,0,none⟩)))] 75 [.pointer (some ⟨g,0,none⟩),.int .i64 20] (some 16) 0 (curF B g 95 (.slice A code.length cap) code.length) (by kernel_rfl) rfl (by kernel_rfl) rfl (by kernel_rfl) rfl rfl (fun ww b h hb => Nat.le_trans (cutW_le w B) (cur_lo h hb)) (by kernel_rfl) (xcm_cur fun ww hw hf => l1Below_c g code A cap 20 ww B (Nat.le_trans (by first | exact Nat.le_refl _ | exact Nat.le_of_eq (cutW_size hB).symm) hw) (hf (curF B g 95 (.slice A code.length cap) code.length) (by simp)) (hf (slF (.slice A code.length cap) 1 (code.map byteRow)) (by simp)) hap (by omega)  ) ?_
  rintro ⟨y8,hy8⟩
  obtain ⟨hy80,hy81⟩ := hy8
  refine xl_endS [2] [(2,.v (.int .i64 y8))] (by kernel_rfl) ?_
  refine xw_ret ?_
  exact ⟨[.int .i64 y8],by kernel_rfl,fun w' hb hf => ⟨⟨y8,trivial⟩,rfl,hf (curF B g 95 (.slice A code.length cap) code.length) (by simp),frF_chgd (hf (frF w (fun b => b = g)) (by simp)) hb rfl rfl rfl⟩⟩
set_option maxHeartbeats 2000000 in
theorem l2Word_c (g : Nat) (code : List Int) (A : Option Addr) (cap : Nat)  (w : World) (B : Nat) (hB : B ≤ w.heap.size) (hc : (curF B g 95 (.slice A code.length cap) code.length).p w) (hl : Sl w (.slice A code.length cap) 1 (code.map byteRow)) (hap : ¬ (slF (.slice A code.length cap) 1 (code.map byteRow)).blk g) (hn : code.length ≤ 1048576)  : Calls Try.prog 67 #[.pointer (some ⟨g, 0, none⟩)] w fun e w' => ∃ y : {y : Int // True}, e = .returned (.int .i64 y.1) ∧ (curF B g 95 (.slice A code.length cap) code.length).p w' ∧ Chgd (fun b => b = g) w w' := by
  have hq_code := Sl.capLe hl
  refine x_callsM (args := [.pointer (some ⟨g,0,none⟩)]) (fn := Try.f67) [curF B g 95 (.slice A code.length cap) code.length,slF (.slice A code.length cap) 1 (code.map byteRow),frF w (fun b => b = g)] B Try.func67 rfl Try.ntmps67 rfl hB (by simp only [List.mem_cons,List.not_mem_nil,or_false,forall_eq_or_imp,forall_eq]; exact ⟨hc,hl,frF_start w _⟩) (apart_cur hap rfl) ?_
  refine xw_seq ?_
  refine xw_region ?_
  refine xl_end [0] ⟨[(0,.v (.pointer (some ⟨g,0,none⟩)))],[],[],[curF B g 95 (.slice A code.length cap) code.length,slF (.slice A code.length cap) 1 (code.map byteRow),frF w (fun b => b = g)]⟩ (by kernel_rfl) ?_
  refine xw_seq ?_
  refine xw_seq ?_
  refine xw_region ?_
  refine xl_callWS 1 [0,3] [(0,.v (.pointer (some ⟨g,0,none⟩))),(3,.v (.pointer (some ⟨g,0,none⟩)))] 75 [.pointer (some ⟨g,0,none⟩),.int .i64 3] (some 4) 0 (curF B g 95 (.slice A code.length cap) code.length) (by kernel_rfl) rfl (by kernel_rfl) rfl (by kernel_rfl) rfl rfl (fun ww b h hb => Nat.le_trans (cutW_le w B) (cur_lo h hb)) (by kernel_rfl) (xcm_cur fun ww hw hf => l1Below_c g code A cap 3 ww B (Nat.le_trans (by first | exact Nat.le_refl _ | exact Nat.le_of_eq (cutW_size hB).symm) hw) (hf (curF B g 95 (.slice A code.length cap) code.length) (by simp)) (hf (slF (.slice A code.length cap) 1 (code.map byteRow)) (by simp)) hap (by omega)  ) ?_
  rintro ⟨y1,hy1⟩
  obtain ⟨hy10,hy11⟩ := hy1
  refine xl_endS [0,4] [(0,.v (.pointer (some ⟨g,0,none⟩))),(4,.v (.int .i64 y1))] (by kernel_rfl) ?_
  refine xw_block ?_
  refine xw_seq ?_
  refine xw_region ?_
  refine xl_endS [0,4,5] [(0,.v (.pointer (some ⟨g,0,none⟩))),(4,.v (.int .i64 y1)),(5,.v (.bool (y1 == 0)))] (by kernel_rfl) ?_
  refine xw_cond (b := y1 == 0) (by kernel_rfl) (fun h2 => ?_) (fun h2 => ?_)
  have h2p := eqT h2
  refine xw_seq ?_
  refine xw_region ?_
  refine xl_callWS 1 [7] [(7,.v (.pointer (some ⟨g,0,none⟩)))] 79 [.pointer (some ⟨g,0,none⟩)] (some 8) 0 (curF B g 95 (.slice A code.length cap) code.length) (by kernel_rfl) rfl (by kernel_rfl) rfl (by kernel_rfl) rfl rfl (fun ww b h hb => Nat.le_trans (cutW_le w B) (cur_lo h hb)) (by kernel_rfl) (xcm_cur fun ww hw hf => l1Whole_c g code A cap  ww B (Nat.le_trans (by first | exact Nat.le_refl _ | exact Nat.le_of_eq (cutW_size hB).symm) hw) (hf (curF B g 95 (.slice A code.length cap) code.length) (by simp)) (hf (slF (.slice A code.length cap) 1 (code.map byteRow)) (by simp)) hap (by omega)  ) ?_
  rintro ⟨y3,hy3⟩
  refine xl_endS [2] [(2,.v (.int .i64 y3))] (by kernel_rfl) ?_
  refine xw_ret ?_
  exact ⟨[.int .i64 y3],by kernel_rfl,fun w' hb hf => ⟨⟨y3,trivial⟩,rfl,hf (curF B g 95 (.slice A code.length cap) code.length) (by simp),frF_chgd (hf (frF w (fun b => b = g)) (by simp)) hb rfl rfl rfl⟩⟩
  have h2p := eqF h2
  refine xw_seq ?_
  refine xw_region ?_
  refine xl_endS [0,9] [(0,.v (.pointer (some ⟨g,0,none⟩))),(9,.v (.bool (y1 == 1)))] (by kernel_rfl) ?_
  refine xw_cond (b := y1 == 1) (by kernel_rfl) (fun h4 => ?_) (fun h4 => ?_)
  have h4p := eqT h4
  refine xw_seq ?_
  refine xw_region ?_
  refine xl_hvS 1 [11] [(11,.v (.pointer (some ⟨g,0,none⟩)))] (by kernel_rfl) rfl (by kernel_rfl) rfl (by kernel_rfl) (hv_build (e := 3) (K := 1) (bytes := 8) [.int .i64 0,.int .i64 1,.int .i64 255,.int .i64 256,.int .i64 65535,.int .i64 65536,.int .i64 16777215,.int .i64 4294967295,.int .i64 4294967296,.int .i64 281474976710655,.int .i64 281474976710656] rfl (by kernel_rfl) (by kernel_rfl) (by kernel_rfl) (by kernel_rfl) (by kernel_rfl) (rs := ([0,1,255,256,65535,65536,16777215,4294967295,4294967296,281474976710655,281474976710656] : List Int).map intRow) rfl) ?_
  intro g5
  refine xl_know (φ := ¬ (slF (.slice (some ⟨g5,0,none⟩) 11 11) 1 (([0,1,255,256,65535,65536,16777215,4294967295,4294967296,281474976710655,281474976710656] : List Int).map intRow)).blk g) (fun _ _ _ _ hr => fun hb => hr.2.apart 0 1 (rowF (cutW w B).heap.size 3 1 (.slice (some ⟨g5,0,none⟩) 11 11) (([0,1,255,256,65535,65536,16777215,4294967295,4294967296,281474976710655,281474976710656] : List Int).map intRow)) (curF B g 95 (.slice A code.length cap) code.length) rfl rfl (by decide) rfl g (rowF_sblk hb) rfl) (fun hk6 => ?_)
  refine xl_callWS 0 [11,12] [(11,.v (.pointer (some ⟨g,0,none⟩))),(12,.v (.slice (some ⟨g5,0,none⟩) 11 11))] 52 [.pointer (some ⟨g,0,none⟩),.slice (some ⟨g5,0,none⟩) 11 11] (some 13) 1 (curF B g 95 (.slice A code.length cap) code.length) (by kernel_rfl) rfl (by kernel_rfl) rfl (by kernel_rfl) rfl rfl (fun ww b h hb => Nat.le_trans (cutW_le w B) (cur_lo h hb)) (by kernel_rfl) (xcm_cur fun ww hw hf => l1PickInt_c g code A cap ([0,1,255,256,65535,65536,16777215,4294967295,4294967296,281474976710655,281474976710656] : List Int) (.slice (some ⟨g5,0,none⟩) 11 11) ww B (Nat.le_trans (by first | exact Nat.le_refl _ | exact Nat.le_of_eq (cutW_size hB).symm) hw) (hf (curF B g 95 (.slice A code.length cap) code.length) (by simp)) (hf (slF (.slice A code.length cap) 1 (code.map byteRow)) (by simp)) hap (by omega) (rowF_sl (hf (rowF (cutW w B).heap.size 3 1 (.slice (some ⟨g5,0,none⟩) 11 11) (([0,1,255,256,65535,65536,16777215,4294967295,4294967296,281474976710655,281474976710656] : List Int).map intRow)) (by simp))) hk6 (by simp)) ?_
  rintro ⟨y7,hy7⟩
  refine xl_endS [2] [(2,.v (.int .i64 y7))] (by kernel_rfl) ?_
  refine xw_ret ?_
  exact ⟨[.int .i64 y7],by kernel_rfl,fun w' hb hf => ⟨⟨y7,trivial⟩,rfl,hf (curF B g 95 (.slice A code.length cap) code.length) (by simp),frF_chgd (hf (frF w (fun b => b = g)) (by simp)) hb rfl rfl rfl⟩⟩
  have h4p := eqF h4
  refine xw_skip ?_
  refine xw_seq ?_
  refine xw_region ?_
  refine xl_callWS 1 [14] [(14,.v (.pointer (some ⟨g,0,none⟩)))] 75 [.pointer (some ⟨g,0,none⟩),.int .i64 65536] (some 15) 0 (curF B g 95 (.slice A code.length cap) code.length) (by kernel_rfl) rfl (by kernel_rfl) rfl (by kernel_rfl) rfl rfl (fun ww b h hb => Nat.le_trans (cutW_le w B) (cur_lo h hb)) (by kernel_rfl) (xcm_cur fun ww hw hf => l1Below_c g code A cap 65536 ww B (Nat.le_trans (by first | exact Nat.le_refl _ | exact Nat.le_of_eq (cutW_size hB).symm) hw) (hf (curF B g 95 (.slice A code.length cap) code.length) (by simp)) (hf (slF (.slice A code.length cap) 1 (code.map byteRow)) (by simp)) hap (by omega)  ) ?_
  rintro ⟨y8,hy8⟩
  obtain ⟨hy80,hy81⟩ := hy8
  refine xl_endS [2] [(2,.v (.int .i64 y8))] (by kernel_rfl) ?_
  refine xw_ret ?_
  exact ⟨[.int .i64 y8],by kernel_rfl,fun w' hb hf => ⟨⟨y8,trivial⟩,rfl,hf (curF B g 95 (.slice A code.length cap) code.length) (by simp),frF_chgd (hf (frF w (fun b => b = g)) (by simp)) hb rfl rfl rfl⟩⟩
set_option maxHeartbeats 2000000 in
theorem l2Deep_c (g : Nat) (code : List Int) (A : Option Addr) (cap : Nat)  (w : World) (B : Nat) (hB : B ≤ w.heap.size) (hc : (curF B g 95 (.slice A code.length cap) code.length).p w) (hl : Sl w (.slice A code.length cap) 1 (code.map byteRow)) (hap : ¬ (slF (.slice A code.length cap) 1 (code.map byteRow)).blk g) (hn : code.length ≤ 1048576)  : Calls Try.prog 80 #[.pointer (some ⟨g, 0, none⟩)] w fun e w' => ∃ y : {y : Int // True}, e = .returned (.int .i64 y.1) ∧ (curF B g 95 (.slice A code.length cap) code.length).p w' ∧ Chgd (fun b => b = g) w w' := by
  have hq_code := Sl.capLe hl
  refine x_callsM (args := [.pointer (some ⟨g,0,none⟩)]) (fn := Try.f80) [curF B g 95 (.slice A code.length cap) code.length,slF (.slice A code.length cap) 1 (code.map byteRow),frF w (fun b => b = g)] B Try.func80 rfl Try.ntmps80 rfl hB (by simp only [List.mem_cons,List.not_mem_nil,or_false,forall_eq_or_imp,forall_eq]; exact ⟨hc,hl,frF_start w _⟩) (apart_cur hap rfl) ?_
  refine xw_seq ?_
  refine xw_region ?_
  refine xl_end [0] ⟨[(0,.v (.pointer (some ⟨g,0,none⟩)))],[],[],[curF B g 95 (.slice A code.length cap) code.length,slF (.slice A code.length cap) 1 (code.map byteRow),frF w (fun b => b = g)]⟩ (by kernel_rfl) ?_
  refine xw_seq ?_
  refine xw_seq ?_
  refine xw_region ?_
  refine xl_callWS 1 [0,5] [(0,.v (.pointer (some ⟨g,0,none⟩))),(5,.v (.pointer (some ⟨g,0,none⟩)))] 66 [.pointer (some ⟨g,0,none⟩),.int .i64 3] (some 6) 0 (curF B g 95 (.slice A code.length cap) code.length) (by kernel_rfl) rfl (by kernel_rfl) rfl (by kernel_rfl) rfl rfl (fun ww b h hb => Nat.le_trans (cutW_le w B) (cur_lo h hb)) (by kernel_rfl) (xcm_cur fun ww hw hf => l1Once_c g code A cap 3 ww B (Nat.le_trans (by first | exact Nat.le_refl _ | exact Nat.le_of_eq (cutW_size hB).symm) hw) (hf (curF B g 95 (.slice A code.length cap) code.length) (by simp)) (hf (slF (.slice A code.length cap) 1 (code.map byteRow)) (by simp)) hap (by omega)  ) ?_
  rintro ⟨y1,hy1⟩
  refine xl_endS [0,6] [(0,.v (.pointer (some ⟨g,0,none⟩))),(6,.v (.bool y1))] (by kernel_rfl) ?_
  refine xw_cond (b := y1) (by kernel_rfl) (fun h2 => ?_) (fun h2 => ?_)
  refine xw_seq ?_
  refine xw_region ?_
  refine xl_hvS 1 [7] [(7,.v (.pointer (some ⟨g,0,none⟩)))] (by kernel_rfl) rfl (by kernel_rfl) rfl (by kernel_rfl) (hv_build (e := 3) (K := 1) (bytes := 8) [.int .i64 0,.int .i64 1,.int .i64 4294967295,.int .i64 2147483647,.int .i64 2147483648,.int .i64 4294967294] rfl (by kernel_rfl) (by kernel_rfl) (by kernel_rfl) (by kernel_rfl) (by kernel_rfl) (rs := ([0,1,4294967295,2147483647,2147483648,4294967294] : List Int).map intRow) rfl) ?_
  intro g3
  refine xl_know (φ := ¬ (slF (.slice (some ⟨g3,0,none⟩) 6 6) 1 (([0,1,4294967295,2147483647,2147483648,4294967294] : List Int).map intRow)).blk g) (fun _ _ _ _ hr => fun hb => hr.2.apart 0 1 (rowF (cutW w B).heap.size 3 1 (.slice (some ⟨g3,0,none⟩) 6 6) (([0,1,4294967295,2147483647,2147483648,4294967294] : List Int).map intRow)) (curF B g 95 (.slice A code.length cap) code.length) rfl rfl (by decide) rfl g (rowF_sblk hb) rfl) (fun hk4 => ?_)
  refine xl_callWS 0 [7,8] [(7,.v (.pointer (some ⟨g,0,none⟩))),(8,.v (.slice (some ⟨g3,0,none⟩) 6 6))] 52 [.pointer (some ⟨g,0,none⟩),.slice (some ⟨g3,0,none⟩) 6 6] (some 9) 1 (curF B g 95 (.slice A code.length cap) code.length) (by kernel_rfl) rfl (by kernel_rfl) rfl (by kernel_rfl) rfl rfl (fun ww b h hb => Nat.le_trans (cutW_le w B) (cur_lo h hb)) (by kernel_rfl) (xcm_cur fun ww hw hf => l1PickInt_c g code A cap ([0,1,4294967295,2147483647,2147483648,4294967294] : List Int) (.slice (some ⟨g3,0,none⟩) 6 6) ww B (Nat.le_trans (by first | exact Nat.le_refl _ | exact Nat.le_of_eq (cutW_size hB).symm) hw) (hf (curF B g 95 (.slice A code.length cap) code.length) (by simp)) (hf (slF (.slice A code.length cap) 1 (code.map byteRow)) (by simp)) hap (by omega) (rowF_sl (hf (rowF (cutW w B).heap.size 3 1 (.slice (some ⟨g3,0,none⟩) 6 6) (([0,1,4294967295,2147483647,2147483648,4294967294] : List Int).map intRow)) (by simp))) hk4 (by simp)) ?_
  rintro ⟨y5,hy5⟩
  refine xl_endS [2] [(2,.v (.int .i64 y5))] (by kernel_rfl) ?_
  refine xw_ret ?_
  exact ⟨[.int .i64 y5],by kernel_rfl,fun w' hb hf => ⟨⟨y5,trivial⟩,rfl,hf (curF B g 95 (.slice A code.length cap) code.length) (by simp),frF_chgd (hf (frF w (fun b => b = g)) (by simp)) hb rfl rfl rfl⟩⟩
  refine xw_skip ?_
  refine xw_seq ?_
  refine xw_region ?_
  refine xl_endS [0,3] [(0,.v (.pointer (some ⟨g,0,none⟩))),(3,.v (.int .i64 0))] (by kernel_rfl) ?_
  refine xw_seq ?_
  refine xw_seq ?_
  refine xw_region ?_
  refine xl_endS [0,3,4] [(0,.v (.pointer (some ⟨g,0,none⟩))),(3,.v (.int .i64 0)),(4,.v (.int .i64 0))] (by kernel_rfl) ?_
  refine xw_block ?_
  refine xw_loopW (α := {x : Nat × Int // (fun (i : Nat) (x : Int) => i ≤ 4) x.1 x.2}) (fun x => (fun (i : Nat) (x : Int) => (⟨[(0,.v (.pointer (some ⟨g,0,none⟩))),(3,.v (.int .i64 x)),(4,.v (.int .i64 (i : Int)))],[],[],[curF B g 95 (.slice A code.length cap) code.length,slF (.slice A code.length cap) 1 (code.map byteRow),frF w (fun b => b = g)]⟩ : St)) x.1.1 x.1.2) (fun x => (fun (i : Nat) (x : Int) => 4 - i) x.1.1 x.1.2) ⟨(0,0),Nat.zero_le _⟩ (wk_forget 0 0 [0,3,4] (by kernel_rfl) (by kernel_rfl) (by kernel_rfl)) ?_
  rintro ⟨⟨i,x⟩,hi⟩
  refine xw_wk (Wk.of_eq (s' := ⟨[(0,.v (.pointer (some ⟨g,0,none⟩))),(3,.v (.int .i64 x)),(4,.v (.int .i64 (i : Int)))],[],[],[curF B g 95 (.slice A code.length cap) code.length,slF (.slice A code.length cap) 1 (code.map byteRow),frF w (fun b => b = g)]⟩) rfl) ?_
  try dsimp only at hi
  refine xw_seq ?_
  refine xw_seq ?_
  refine xw_region ?_
  refine xl_endS [0,3,4,11] [(0,.v (.pointer (some ⟨g,0,none⟩))),(3,.v (.int .i64 x)),(4,.v (.int .i64 (i : Int))),(11,.v (.bool (decide ((i : Int) < 4))))] (by kernel_rfl) ?_
  refine xw_cond (b := decide ((i : Int) < 4)) (by kernel_rfl) (fun h6 => ?_) (fun h6 => ?_)
  have h6p : ((i : Int) < 4) := of_decide_eq_true h6
  have hlt : i < 4 := by simp at h6; omega
  refine xw_skip ?_
  refine xw_seq ?_
  refine xw_block ?_
  refine xw_region ?_
  refine xl_callWS 3 [0,3,4,15,16] [(0,.v (.pointer (some ⟨g,0,none⟩))),(3,.v (.int .i64 x)),(4,.v (.int .i64 (i : Int))),(15,.v (.int .i64 (IntKind.i64.wrap (256 * x)))),(16,.v (.pointer (some ⟨g,0,none⟩)))] 83 [.pointer (some ⟨g,0,none⟩)] (some 17) 0 (curF B g 95 (.slice A code.length cap) code.length) (by kernel_rfl) rfl (by kernel_rfl) rfl (by kernel_rfl) rfl rfl (fun ww b h hb => Nat.le_trans (cutW_le w B) (cur_lo h hb)) (by kernel_rfl) (xcm_cur fun ww hw hf => l1Byte_c g code A cap  ww B (Nat.le_trans (by first | exact Nat.le_refl _ | exact Nat.le_of_eq (cutW_size hB).symm) hw) (hf (curF B g 95 (.slice A code.length cap) code.length) (by simp)) (hf (slF (.slice A code.length cap) 1 (code.map byteRow)) (by simp)) hap (by omega)  ) ?_
  rintro ⟨y7,hy7⟩
  refine xl_endS [0,3,4] [(0,.v (.pointer (some ⟨g,0,none⟩))),(3,.v (.int .i64 (IntKind.i64.wrap ((IntKind.i64.wrap (256 * x)) + y7)))),(4,.v (.int .i64 (i : Int)))] (by kernel_rfl) ?_
  refine xw_region ?_
  refine xl_runS 3 [0,3,4] [(0,.v (.pointer (some ⟨g,0,none⟩))),(3,.v (.int .i64 (IntKind.i64.wrap ((IntKind.i64.wrap (256 * x)) + y7)))),(4,.v (.int .i64 (IntKind.i64.wrap ((i : Int) + 1))))] (by kernel_rfl) ?_
  refine xl_eqS (t' := [(0,.v (.pointer (some ⟨g,0,none⟩))),(3,.v (.int .i64 (IntKind.i64.wrap ((IntKind.i64.wrap (256 * x)) + y7)))),(4,.v (.int .i64 ((i : Int) + 1)))]) (by rw [show (IntKind.i64.wrap ((i : Int) + 1)) = ((i : Int) + 1) from wrap_id (by omega) (by omega)]) ?_
  refine xl_endS [0,3,4] [(0,.v (.pointer (some ⟨g,0,none⟩))),(3,.v (.int .i64 (IntKind.i64.wrap ((IntKind.i64.wrap (256 * x)) + y7)))),(4,.v (.int .i64 ((i : Int) + 1)))] (by kernel_rfl) ?_
  exact ⟨⟨(i + 1,IntKind.i64.wrap ((IntKind.i64.wrap (256 * x)) + y7)),hlt⟩,wk_forget 0 0 [0,3,4] (by kernel_rfl) (by kernel_rfl) (by kernel_rfl),by show (fun (i : Nat) (x : Int) => 4 - i) (i + 1) (IntKind.i64.wrap ((IntKind.i64.wrap (256 * x)) + y7)) < 4 - i; (dsimp only; omega)⟩
  have h6p : ¬ ((i : Int) < 4) := of_decide_eq_false h6
  refine xw_exit ?_
  refine xw_seq ?_
  refine xw_region ?_
  refine xl_endS [2] [(2,.v (.int .i64 x))] (by kernel_rfl) ?_
  refine xw_ret ?_
  exact ⟨[.int .i64 x],by kernel_rfl,fun w' hb hf => ⟨⟨x,trivial⟩,rfl,hf (curF B g 95 (.slice A code.length cap) code.length) (by simp),frF_chgd (hf (frF w (fun b => b = g)) (by simp)) hb rfl rfl rfl⟩⟩
set_option maxHeartbeats 2000000 in
theorem l8Options_c (g : Nat) (code : List Int) (A : Option Addr) (cap : Nat)  (w : World) (B : Nat) (hB : B ≤ w.heap.size) (hc : (curF B g 95 (.slice A code.length cap) code.length).p w) (hl : Sl w (.slice A code.length cap) 1 (code.map byteRow)) (hap : ¬ (slF (.slice A code.length cap) 1 (code.map byteRow)).blk g) (hn : code.length ≤ 1048576)  : Calls Try.prog 74 #[.pointer (some ⟨g, 0, none⟩)] w fun e w' => ∃ y : {y : Opt // True}, e = .returned (.agg (optL y.1).toArray) ∧ (curF B g 95 (.slice A code.length cap) code.length).p w' ∧ Chgd (fun b => b = g) w w' := by
  have hq_code := Sl.capLe hl
  refine x_callsM (args := [.pointer (some ⟨g,0,none⟩)]) (fn := Try.f74) [curF B g 95 (.slice A code.length cap) code.length,slF (.slice A code.length cap) 1 (code.map byteRow),frF w (fun b => b = g)] B Try.func74 rfl Try.ntmps74 rfl hB (by simp only [List.mem_cons,List.not_mem_nil,or_false,forall_eq_or_imp,forall_eq]; exact ⟨hc,hl,frF_start w _⟩) (apart_cur hap rfl) ?_
  refine xw_seq ?_
  refine xw_region ?_
  refine xl_end [0,2] ⟨[(0,.v (.pointer (some ⟨g,0,none⟩))),(2,.p 0 0)],[⟨25,[.int .i64 0,.int .i64 0,.bool false,.bool false,.int .i64 0,.int .i64 0]⟩],[],[curF B g 95 (.slice A code.length cap) code.length,slF (.slice A code.length cap) 1 (code.map byteRow),frF w (fun b => b = g)]⟩ (by kernel_rfl) ?_
  refine xw_seq ?_
  refine xw_region ?_
  refine xl_callS 0 [0,2] [(0,.v (.pointer (some ⟨g,0,none⟩))),(2,.p 0 0)] 40 [] (some 4) (by kernel_rfl) rfl (by kernel_rfl) rfl (by kernel_rfl) (xc_b fun ww hf => sNoOptions_c  ww ) ?_
  intro _
  refine xl_end [0,2,3] ⟨[(0,.v (.pointer (some ⟨g,0,none⟩))),(2,.p 0 0),(3,.p 1 0)],[⟨25,[.int .i64 0,.int .i64 0,.bool false,.bool false,.int .i64 0,.int .i64 0]⟩,⟨25,[.int .i64 0,.int .i64 (-1),.bool false,.bool false,.int .i64 0,.int .i64 0]⟩],[],[curF B g 95 (.slice A code.length cap) code.length,slF (.slice A code.length cap) 1 (code.map byteRow),frF w (fun b => b = g)]⟩ (by kernel_rfl) ?_
  refine xw_seq ?_
  refine xw_seq ?_
  refine xw_region ?_
  refine xl_callWS 1 [0,2,3,5] [(0,.v (.pointer (some ⟨g,0,none⟩))),(2,.p 0 0),(3,.p 1 0),(5,.v (.pointer (some ⟨g,0,none⟩)))] 66 [.pointer (some ⟨g,0,none⟩),.int .i64 3] (some 6) 0 (curF B g 95 (.slice A code.length cap) code.length) (by kernel_rfl) rfl (by kernel_rfl) rfl (by kernel_rfl) rfl rfl (fun ww b h hb => Nat.le_trans (cutW_le w B) (cur_lo h hb)) (by kernel_rfl) (xcm_cur fun ww hw hf => l1Once_c g code A cap 3 ww B (Nat.le_trans (by first | exact Nat.le_refl _ | exact Nat.le_of_eq (cutW_size hB).symm) hw) (hf (curF B g 95 (.slice A code.length cap) code.length) (by simp)) (hf (slF (.slice A code.length cap) 1 (code.map byteRow)) (by simp)) hap (by omega)  ) ?_
  rintro ⟨y1,hy1⟩
  refine xl_endS [0,2,3,7] [(0,.v (.pointer (some ⟨g,0,none⟩))),(2,.p 0 0),(3,.p 1 0),(7,.v (.bool (!y1)))] (by kernel_rfl) ?_
  refine xw_cond (b := !y1) (by kernel_rfl) (fun h2 => ?_) (fun h2 => ?_)
  have h2n := not_t h2
  refine xw_region ?_
  refine xl_hvS 1 [0,2,3,8] [(0,.v (.pointer (some ⟨g,0,none⟩))),(2,.p 0 0),(3,.p 1 0),(8,.v (.pointer (some ⟨g,0,none⟩)))] (by kernel_rfl) rfl (by kernel_rfl) rfl (by kernel_rfl) (hv_build (e := 3) (K := 1) (bytes := 8) [.int .i64 536,.int .i64 1460,.int .i64 1300,.int .i64 64,.int .i64 65535,.int .i64 1] rfl (by kernel_rfl) (by kernel_rfl) (by kernel_rfl) (by kernel_rfl) (by kernel_rfl) (rs := ([536,1460,1300,64,65535,1] : List Int).map intRow) rfl) ?_
  intro g3
  refine xl_know (φ := ¬ (slF (.slice (some ⟨g3,0,none⟩) 6 6) 1 (([536,1460,1300,64,65535,1] : List Int).map intRow)).blk g) (fun _ _ _ _ hr => fun hb => hr.2.apart 0 1 (rowF (cutW w B).heap.size 3 1 (.slice (some ⟨g3,0,none⟩) 6 6) (([536,1460,1300,64,65535,1] : List Int).map intRow)) (curF B g 95 (.slice A code.length cap) code.length) rfl rfl (by decide) rfl g (rowF_sblk hb) rfl) (fun hk4 => ?_)
  refine xl_callWS 0 [0,2,3,8,9] [(0,.v (.pointer (some ⟨g,0,none⟩))),(2,.p 0 0),(3,.p 1 0),(8,.v (.pointer (some ⟨g,0,none⟩))),(9,.v (.slice (some ⟨g3,0,none⟩) 6 6))] 52 [.pointer (some ⟨g,0,none⟩),.slice (some ⟨g3,0,none⟩) 6 6] (some 10) 1 (curF B g 95 (.slice A code.length cap) code.length) (by kernel_rfl) rfl (by kernel_rfl) rfl (by kernel_rfl) rfl rfl (fun ww b h hb => Nat.le_trans (cutW_le w B) (cur_lo h hb)) (by kernel_rfl) (xcm_cur fun ww hw hf => l1PickInt_c g code A cap ([536,1460,1300,64,65535,1] : List Int) (.slice (some ⟨g3,0,none⟩) 6 6) ww B (Nat.le_trans (by first | exact Nat.le_refl _ | exact Nat.le_of_eq (cutW_size hB).symm) hw) (hf (curF B g 95 (.slice A code.length cap) code.length) (by simp)) (hf (slF (.slice A code.length cap) 1 (code.map byteRow)) (by simp)) hap (by omega) (rowF_sl (hf (rowF (cutW w B).heap.size 3 1 (.slice (some ⟨g3,0,none⟩) 6 6) (([536,1460,1300,64,65535,1] : List Int).map intRow)) (by simp))) hk4 (by simp)) ?_
  rintro ⟨y5,hy5⟩
  refine xl_end [0,2,3] ⟨[(0,.v (.pointer (some ⟨g,0,none⟩))),(2,.p 0 0),(3,.p 1 0)],[⟨25,[.int .i64 0,.int .i64 0,.bool false,.bool false,.int .i64 0,.int .i64 0]⟩,⟨25,[.int .i64 y5,.int .i64 (-1),.bool false,.bool false,.int .i64 0,.int .i64 0]⟩],[],[curF B g 95 (.slice A code.length cap) code.length,rowF (cutW w B).heap.size 3 1 (.slice (some ⟨g3,0,none⟩) 6 6) (([536,1460,1300,64,65535,1] : List Int).map intRow),slF (.slice A code.length cap) 1 (code.map byteRow),frF w (fun b => b = g)]⟩ (by kernel_rfl) ?_
  refine xw_seq ?_
  refine xw_seq ?_
  refine xw_region ?_
  refine xl_callWS 1 [0,2,3,12] [(0,.v (.pointer (some ⟨g,0,none⟩))),(2,.p 0 0),(3,.p 1 0),(12,.v (.pointer (some ⟨g,0,none⟩)))] 66 [.pointer (some ⟨g,0,none⟩),.int .i64 2] (some 13) 0 (curF B g 95 (.slice A code.length cap) code.length) (by kernel_rfl) rfl (by kernel_rfl) rfl (by kernel_rfl) rfl rfl (fun ww b h hb => Nat.le_trans (cutW_le w B) (cur_lo h hb)) (by kernel_rfl) (xcm_cur fun ww hw hf => l1Once_c g code A cap 2 ww B (Nat.le_trans (by first | exact Nat.le_refl _ | exact Nat.le_of_eq (cutW_size hB).symm) hw) (hf (curF B g 95 (.slice A code.length cap) code.length) (by simp)) (hf (slF (.slice A code.length cap) 1 (code.map byteRow)) (by simp)) hap (by omega)  ) ?_
  rintro ⟨y6,hy6⟩
  refine xl_endS [0,2,3,13] [(0,.v (.pointer (some ⟨g,0,none⟩))),(2,.p 0 0),(3,.p 1 0),(13,.v (.bool y6))] (by kernel_rfl) ?_
  refine xw_cond (b := y6) (by kernel_rfl) (fun h7 => ?_) (fun h7 => ?_)
  refine xw_region ?_
  refine xl_callWS 1 [0,2,3,14] [(0,.v (.pointer (some ⟨g,0,none⟩))),(2,.p 0 0),(3,.p 1 0),(14,.v (.pointer (some ⟨g,0,none⟩)))] 75 [.pointer (some ⟨g,0,none⟩),.int .i64 15] (some 15) 0 (curF B g 95 (.slice A code.length cap) code.length) (by kernel_rfl) rfl (by kernel_rfl) rfl (by kernel_rfl) rfl rfl (fun ww b h hb => Nat.le_trans (cutW_le w B) (cur_lo h hb)) (by kernel_rfl) (xcm_cur fun ww hw hf => l1Below_c g code A cap 15 ww B (Nat.le_trans (by first | exact Nat.le_refl _ | exact Nat.le_of_eq (cutW_size hB).symm) hw) (hf (curF B g 95 (.slice A code.length cap) code.length) (by simp)) (hf (slF (.slice A code.length cap) 1 (code.map byteRow)) (by simp)) hap (by omega)  ) ?_
  rintro ⟨y8,hy8⟩
  obtain ⟨hy80,hy81⟩ := hy8
  refine xl_end [0,2,3] ⟨[(0,.v (.pointer (some ⟨g,0,none⟩))),(2,.p 0 0),(3,.p 1 0)],[⟨25,[.int .i64 0,.int .i64 0,.bool false,.bool false,.int .i64 0,.int .i64 0]⟩,⟨25,[.int .i64 y5,.int .i64 y8,.bool false,.bool false,.int .i64 0,.int .i64 0]⟩],[],[curF B g 95 (.slice A code.length cap) code.length,rowF (cutW w B).heap.size 3 1 (.slice (some ⟨g3,0,none⟩) 6 6) (([536,1460,1300,64,65535,1] : List Int).map intRow),slF (.slice A code.length cap) 1 (code.map byteRow),frF w (fun b => b = g)]⟩ (by kernel_rfl) ?_
  refine xw_seq ?_
  refine xw_region ?_
  refine xl_callWS 1 [0,2,3,17] [(0,.v (.pointer (some ⟨g,0,none⟩))),(2,.p 0 0),(3,.p 1 0),(17,.v (.pointer (some ⟨g,0,none⟩)))] 66 [.pointer (some ⟨g,0,none⟩),.int .i64 2] (some 18) 0 (curF B g 95 (.slice A code.length cap) code.length) (by kernel_rfl) rfl (by kernel_rfl) rfl (by kernel_rfl) rfl rfl (fun ww b h hb => Nat.le_trans (cutW_le w B) (cur_lo h hb)) (by kernel_rfl) (xcm_cur fun ww hw hf => l1Once_c g code A cap 2 ww B (Nat.le_trans (by first | exact Nat.le_refl _ | exact Nat.le_of_eq (cutW_size hB).symm) hw) (hf (curF B g 95 (.slice A code.length cap) code.length) (by simp)) (hf (slF (.slice A code.length cap) 1 (code.map byteRow)) (by simp)) hap (by omega)  ) ?_
  rintro ⟨y9,hy9⟩
  refine xl_end [0,2,3] ⟨[(0,.v (.pointer (some ⟨g,0,none⟩))),(2,.p 0 0),(3,.p 1 0)],[⟨25,[.int .i64 0,.int .i64 0,.bool false,.bool false,.int .i64 0,.int .i64 0]⟩,⟨25,[.int .i64 y5,.int .i64 y8,.bool y9,.bool false,.int .i64 0,.int .i64 0]⟩],[],[curF B g 95 (.slice A code.length cap) code.length,rowF (cutW w B).heap.size 3 1 (.slice (some ⟨g3,0,none⟩) 6 6) (([536,1460,1300,64,65535,1] : List Int).map intRow),slF (.slice A code.length cap) 1 (code.map byteRow),frF w (fun b => b = g)]⟩ (by kernel_rfl) ?_
  refine xw_seq ?_
  refine xw_seq ?_
  refine xw_region ?_
  refine xl_callWS 1 [0,2,3,20] [(0,.v (.pointer (some ⟨g,0,none⟩))),(2,.p 0 0),(3,.p 1 0),(20,.v (.pointer (some ⟨g,0,none⟩)))] 66 [.pointer (some ⟨g,0,none⟩),.int .i64 2] (some 21) 0 (curF B g 95 (.slice A code.length cap) code.length) (by kernel_rfl) rfl (by kernel_rfl) rfl (by kernel_rfl) rfl rfl (fun ww b h hb => Nat.le_trans (cutW_le w B) (cur_lo h hb)) (by kernel_rfl) (xcm_cur fun ww hw hf => l1Once_c g code A cap 2 ww B (Nat.le_trans (by first | exact Nat.le_refl _ | exact Nat.le_of_eq (cutW_size hB).symm) hw) (hf (curF B g 95 (.slice A code.length cap) code.length) (by simp)) (hf (slF (.slice A code.length cap) 1 (code.map byteRow)) (by simp)) hap (by omega)  ) ?_
  rintro ⟨y10,hy10⟩
  refine xl_endS [0,2,3,21] [(0,.v (.pointer (some ⟨g,0,none⟩))),(2,.p 0 0),(3,.p 1 0),(21,.v (.bool y10))] (by kernel_rfl) ?_
  refine xw_cond (b := y10) (by kernel_rfl) (fun h11 => ?_) (fun h11 => ?_)
  refine xw_seq ?_
  refine xw_region ?_
  refine xl_end [0,2,3] ⟨[(0,.v (.pointer (some ⟨g,0,none⟩))),(2,.p 0 0),(3,.p 1 0)],[⟨25,[.int .i64 0,.int .i64 0,.bool false,.bool false,.int .i64 0,.int .i64 0]⟩,⟨25,[.int .i64 y5,.int .i64 y8,.bool y9,.bool true,.int .i64 0,.int .i64 0]⟩],[],[curF B g 95 (.slice A code.length cap) code.length,rowF (cutW w B).heap.size 3 1 (.slice (some ⟨g3,0,none⟩) 6 6) (([536,1460,1300,64,65535,1] : List Int).map intRow),slF (.slice A code.length cap) 1 (code.map byteRow),frF w (fun b => b = g)]⟩ (by kernel_rfl) ?_
  refine xw_seq ?_
  refine xw_region ?_
  refine xl_callWS 1 [0,2,3,23] [(0,.v (.pointer (some ⟨g,0,none⟩))),(2,.p 0 0),(3,.p 1 0),(23,.v (.pointer (some ⟨g,0,none⟩)))] 80 [.pointer (some ⟨g,0,none⟩)] (some 24) 0 (curF B g 95 (.slice A code.length cap) code.length) (by kernel_rfl) rfl (by kernel_rfl) rfl (by kernel_rfl) rfl rfl (fun ww b h hb => Nat.le_trans (cutW_le w B) (cur_lo h hb)) (by kernel_rfl) (xcm_cur fun ww hw hf => l2Deep_c g code A cap  ww B (Nat.le_trans (by first | exact Nat.le_refl _ | exact Nat.le_of_eq (cutW_size hB).symm) hw) (hf (curF B g 95 (.slice A code.length cap) code.length) (by simp)) (hf (slF (.slice A code.length cap) 1 (code.map byteRow)) (by simp)) hap (by omega)  ) ?_
  rintro ⟨y12,hy12⟩
  refine xl_end [0,2,3] ⟨[(0,.v (.pointer (some ⟨g,0,none⟩))),(2,.p 0 0),(3,.p 1 0)],[⟨25,[.int .i64 0,.int .i64 0,.bool false,.bool false,.int .i64 0,.int .i64 0]⟩,⟨25,[.int .i64 y5,.int .i64 y8,.bool y9,.bool true,.int .i64 y12,.int .i64 0]⟩],[],[curF B g 95 (.slice A code.length cap) code.length,rowF (cutW w B).heap.size 3 1 (.slice (some ⟨g3,0,none⟩) 6 6) (([536,1460,1300,64,65535,1] : List Int).map intRow),slF (.slice A code.length cap) 1 (code.map byteRow),frF w (fun b => b = g)]⟩ (by kernel_rfl) ?_
  refine xw_region ?_
  refine xl_callWS 1 [2,3,26] [(2,.p 0 0),(3,.p 1 0),(26,.v (.pointer (some ⟨g,0,none⟩)))] 80 [.pointer (some ⟨g,0,none⟩)] (some 27) 0 (curF B g 95 (.slice A code.length cap) code.length) (by kernel_rfl) rfl (by kernel_rfl) rfl (by kernel_rfl) rfl rfl (fun ww b h hb => Nat.le_trans (cutW_le w B) (cur_lo h hb)) (by kernel_rfl) (xcm_cur fun ww hw hf => l2Deep_c g code A cap  ww B (Nat.le_trans (by first | exact Nat.le_refl _ | exact Nat.le_of_eq (cutW_size hB).symm) hw) (hf (curF B g 95 (.slice A code.length cap) code.length) (by simp)) (hf (slF (.slice A code.length cap) 1 (code.map byteRow)) (by simp)) hap (by omega)  ) ?_
  rintro ⟨y13,hy13⟩
  refine xl_end [2,3] ⟨[(2,.p 0 0),(3,.p 1 0)],[⟨25,[.int .i64 0,.int .i64 0,.bool false,.bool false,.int .i64 0,.int .i64 0]⟩,⟨25,[.int .i64 y5,.int .i64 y8,.bool y9,.bool true,.int .i64 y12,.int .i64 y13]⟩],[],[curF B g 95 (.slice A code.length cap) code.length,rowF (cutW w B).heap.size 3 1 (.slice (some ⟨g3,0,none⟩) 6 6) (([536,1460,1300,64,65535,1] : List Int).map intRow),slF (.slice A code.length cap) 1 (code.map byteRow),frF w (fun b => b = g)]⟩ (by kernel_rfl) ?_
  refine xw_seq ?_
  refine xw_region ?_
  refine xl_end [2] ⟨[(2,.p 0 0)],[⟨25,[.int .i64 y5,.int .i64 y8,.bool y9,.bool true,.int .i64 y12,.int .i64 y13]⟩,⟨25,[.int .i64 y5,.int .i64 y8,.bool y9,.bool true,.int .i64 y12,.int .i64 y13]⟩],[],[curF B g 95 (.slice A code.length cap) code.length,rowF (cutW w B).heap.size 3 1 (.slice (some ⟨g3,0,none⟩) 6 6) (([536,1460,1300,64,65535,1] : List Int).map intRow),slF (.slice A code.length cap) 1 (code.map byteRow),frF w (fun b => b = g)]⟩ (by kernel_rfl) ?_
  refine xw_ret ?_
  exact ⟨[.agg #[.int .i64 y5,.int .i64 y8,.bool y9,.bool true,.int .i64 y12,.int .i64 y13]],by kernel_rfl,fun w' hb hf => ⟨⟨⟨y5,y8,y9,true,y12,y13⟩,trivial⟩,rfl,hf (curF B g 95 (.slice A code.length cap) code.length) (by simp),frF_chgd (hf (frF w (fun b => b = g)) (by simp)) hb rfl rfl rfl⟩⟩
  refine xw_skip ?_
  refine xw_seq ?_
  refine xw_region ?_
  refine xl_end [2] ⟨[(2,.p 0 0)],[⟨25,[.int .i64 y5,.int .i64 y8,.bool y9,.bool false,.int .i64 0,.int .i64 0]⟩,⟨25,[.int .i64 y5,.int .i64 y8,.bool y9,.bool false,.int .i64 0,.int .i64 0]⟩],[],[curF B g 95 (.slice A code.length cap) code.length,rowF (cutW w B).heap.size 3 1 (.slice (some ⟨g3,0,none⟩) 6 6) (([536,1460,1300,64,65535,1] : List Int).map intRow),slF (.slice A code.length cap) 1 (code.map byteRow),frF w (fun b => b = g)]⟩ (by kernel_rfl) ?_
  refine xw_ret ?_
  exact ⟨[.agg #[.int .i64 y5,.int .i64 y8,.bool y9,.bool false,.int .i64 0,.int .i64 0]],by kernel_rfl,fun w' hb hf => ⟨⟨⟨y5,y8,y9,false,0,0⟩,trivial⟩,rfl,hf (curF B g 95 (.slice A code.length cap) code.length) (by simp),frF_chgd (hf (frF w (fun b => b = g)) (by simp)) hb rfl rfl rfl⟩⟩
  refine xw_skip ?_
  refine xw_seq ?_
  refine xw_region ?_
  refine xl_callWS 1 [0,2,3,17] [(0,.v (.pointer (some ⟨g,0,none⟩))),(2,.p 0 0),(3,.p 1 0),(17,.v (.pointer (some ⟨g,0,none⟩)))] 66 [.pointer (some ⟨g,0,none⟩),.int .i64 2] (some 18) 0 (curF B g 95 (.slice A code.length cap) code.length) (by kernel_rfl) rfl (by kernel_rfl) rfl (by kernel_rfl) rfl rfl (fun ww b h hb => Nat.le_trans (cutW_le w B) (cur_lo h hb)) (by kernel_rfl) (xcm_cur fun ww hw hf => l1Once_c g code A cap 2 ww B (Nat.le_trans (by first | exact Nat.le_refl _ | exact Nat.le_of_eq (cutW_size hB).symm) hw) (hf (curF B g 95 (.slice A code.length cap) code.length) (by simp)) (hf (slF (.slice A code.length cap) 1 (code.map byteRow)) (by simp)) hap (by omega)  ) ?_
  rintro ⟨y14,hy14⟩
  refine xl_end [0,2,3] ⟨[(0,.v (.pointer (some ⟨g,0,none⟩))),(2,.p 0 0),(3,.p 1 0)],[⟨25,[.int .i64 0,.int .i64 0,.bool false,.bool false,.int .i64 0,.int .i64 0]⟩,⟨25,[.int .i64 y5,.int .i64 (-1),.bool y14,.bool false,.int .i64 0,.int .i64 0]⟩],[],[curF B g 95 (.slice A code.length cap) code.length,rowF (cutW w B).heap.size 3 1 (.slice (some ⟨g3,0,none⟩) 6 6) (([536,1460,1300,64,65535,1] : List Int).map intRow),slF (.slice A code.length cap) 1 (code.map byteRow),frF w (fun b => b = g)]⟩ (by kernel_rfl) ?_
  refine xw_seq ?_
  refine xw_seq ?_
  refine xw_region ?_
  refine xl_callWS 1 [0,2,3,20] [(0,.v (.pointer (some ⟨g,0,none⟩))),(2,.p 0 0),(3,.p 1 0),(20,.v (.pointer (some ⟨g,0,none⟩)))] 66 [.pointer (some ⟨g,0,none⟩),.int .i64 2] (some 21) 0 (curF B g 95 (.slice A code.length cap) code.length) (by kernel_rfl) rfl (by kernel_rfl) rfl (by kernel_rfl) rfl rfl (fun ww b h hb => Nat.le_trans (cutW_le w B) (cur_lo h hb)) (by kernel_rfl) (xcm_cur fun ww hw hf => l1Once_c g code A cap 2 ww B (Nat.le_trans (by first | exact Nat.le_refl _ | exact Nat.le_of_eq (cutW_size hB).symm) hw) (hf (curF B g 95 (.slice A code.length cap) code.length) (by simp)) (hf (slF (.slice A code.length cap) 1 (code.map byteRow)) (by simp)) hap (by omega)  ) ?_
  rintro ⟨y15,hy15⟩
  refine xl_endS [0,2,3,21] [(0,.v (.pointer (some ⟨g,0,none⟩))),(2,.p 0 0),(3,.p 1 0),(21,.v (.bool y15))] (by kernel_rfl) ?_
  refine xw_cond (b := y15) (by kernel_rfl) (fun h16 => ?_) (fun h16 => ?_)
  refine xw_seq ?_
  refine xw_region ?_
  refine xl_end [0,2,3] ⟨[(0,.v (.pointer (some ⟨g,0,none⟩))),(2,.p 0 0),(3,.p 1 0)],[⟨25,[.int .i64 0,.int .i64 0,.bool false,.bool false,.int .i64 0,.int .i64 0]⟩,⟨25,[.int .i64 y5,.int .i64 (-1),.bool y14,.bool true,.int .i64 0,.int .i64 0]⟩],[],[curF B g 95 (.slice A code.length cap) code.length,rowF (cutW w B).heap.size 3 1 (.slice (some ⟨g3,0,none⟩) 6 6) (([536,1460,1300,64,65535,1] : List Int).map intRow),slF (.slice A code.length cap) 1 (code.map byteRow),frF w (fun b => b = g)]⟩ (by kernel_rfl) ?_
  refine xw_seq ?_
  refine xw_region ?_
  refine xl_callWS 1 [0,2,3,23] [(0,.v (.pointer (some ⟨g,0,none⟩))),(2,.p 0 0),(3,.p 1 0),(23,.v (.pointer (some ⟨g,0,none⟩)))] 80 [.pointer (some ⟨g,0,none⟩)] (some 24) 0 (curF B g 95 (.slice A code.length cap) code.length) (by kernel_rfl) rfl (by kernel_rfl) rfl (by kernel_rfl) rfl rfl (fun ww b h hb => Nat.le_trans (cutW_le w B) (cur_lo h hb)) (by kernel_rfl) (xcm_cur fun ww hw hf => l2Deep_c g code A cap  ww B (Nat.le_trans (by first | exact Nat.le_refl _ | exact Nat.le_of_eq (cutW_size hB).symm) hw) (hf (curF B g 95 (.slice A code.length cap) code.length) (by simp)) (hf (slF (.slice A code.length cap) 1 (code.map byteRow)) (by simp)) hap (by omega)  ) ?_
  rintro ⟨y17,hy17⟩
  refine xl_end [0,2,3] ⟨[(0,.v (.pointer (some ⟨g,0,none⟩))),(2,.p 0 0),(3,.p 1 0)],[⟨25,[.int .i64 0,.int .i64 0,.bool false,.bool false,.int .i64 0,.int .i64 0]⟩,⟨25,[.int .i64 y5,.int .i64 (-1),.bool y14,.bool true,.int .i64 y17,.int .i64 0]⟩],[],[curF B g 95 (.slice A code.length cap) code.length,rowF (cutW w B).heap.size 3 1 (.slice (some ⟨g3,0,none⟩) 6 6) (([536,1460,1300,64,65535,1] : List Int).map intRow),slF (.slice A code.length cap) 1 (code.map byteRow),frF w (fun b => b = g)]⟩ (by kernel_rfl) ?_
  refine xw_region ?_
  refine xl_callWS 1 [2,3,26] [(2,.p 0 0),(3,.p 1 0),(26,.v (.pointer (some ⟨g,0,none⟩)))] 80 [.pointer (some ⟨g,0,none⟩)] (some 27) 0 (curF B g 95 (.slice A code.length cap) code.length) (by kernel_rfl) rfl (by kernel_rfl) rfl (by kernel_rfl) rfl rfl (fun ww b h hb => Nat.le_trans (cutW_le w B) (cur_lo h hb)) (by kernel_rfl) (xcm_cur fun ww hw hf => l2Deep_c g code A cap  ww B (Nat.le_trans (by first | exact Nat.le_refl _ | exact Nat.le_of_eq (cutW_size hB).symm) hw) (hf (curF B g 95 (.slice A code.length cap) code.length) (by simp)) (hf (slF (.slice A code.length cap) 1 (code.map byteRow)) (by simp)) hap (by omega)  ) ?_
  rintro ⟨y18,hy18⟩
  refine xl_end [2,3] ⟨[(2,.p 0 0),(3,.p 1 0)],[⟨25,[.int .i64 0,.int .i64 0,.bool false,.bool false,.int .i64 0,.int .i64 0]⟩,⟨25,[.int .i64 y5,.int .i64 (-1),.bool y14,.bool true,.int .i64 y17,.int .i64 y18]⟩],[],[curF B g 95 (.slice A code.length cap) code.length,rowF (cutW w B).heap.size 3 1 (.slice (some ⟨g3,0,none⟩) 6 6) (([536,1460,1300,64,65535,1] : List Int).map intRow),slF (.slice A code.length cap) 1 (code.map byteRow),frF w (fun b => b = g)]⟩ (by kernel_rfl) ?_
  refine xw_seq ?_
  refine xw_region ?_
  refine xl_end [2] ⟨[(2,.p 0 0)],[⟨25,[.int .i64 y5,.int .i64 (-1),.bool y14,.bool true,.int .i64 y17,.int .i64 y18]⟩,⟨25,[.int .i64 y5,.int .i64 (-1),.bool y14,.bool true,.int .i64 y17,.int .i64 y18]⟩],[],[curF B g 95 (.slice A code.length cap) code.length,rowF (cutW w B).heap.size 3 1 (.slice (some ⟨g3,0,none⟩) 6 6) (([536,1460,1300,64,65535,1] : List Int).map intRow),slF (.slice A code.length cap) 1 (code.map byteRow),frF w (fun b => b = g)]⟩ (by kernel_rfl) ?_
  refine xw_ret ?_
  exact ⟨[.agg #[.int .i64 y5,.int .i64 (-1),.bool y14,.bool true,.int .i64 y17,.int .i64 y18]],by kernel_rfl,fun w' hb hf => ⟨⟨⟨y5,(-1),y14,true,y17,y18⟩,trivial⟩,rfl,hf (curF B g 95 (.slice A code.length cap) code.length) (by simp),frF_chgd (hf (frF w (fun b => b = g)) (by simp)) hb rfl rfl rfl⟩⟩
  refine xw_skip ?_
  refine xw_seq ?_
  refine xw_region ?_
  refine xl_end [2] ⟨[(2,.p 0 0)],[⟨25,[.int .i64 y5,.int .i64 (-1),.bool y14,.bool false,.int .i64 0,.int .i64 0]⟩,⟨25,[.int .i64 y5,.int .i64 (-1),.bool y14,.bool false,.int .i64 0,.int .i64 0]⟩],[],[curF B g 95 (.slice A code.length cap) code.length,rowF (cutW w B).heap.size 3 1 (.slice (some ⟨g3,0,none⟩) 6 6) (([536,1460,1300,64,65535,1] : List Int).map intRow),slF (.slice A code.length cap) 1 (code.map byteRow),frF w (fun b => b = g)]⟩ (by kernel_rfl) ?_
  refine xw_ret ?_
  exact ⟨[.agg #[.int .i64 y5,.int .i64 (-1),.bool y14,.bool false,.int .i64 0,.int .i64 0]],by kernel_rfl,fun w' hb hf => ⟨⟨⟨y5,(-1),y14,false,0,0⟩,trivial⟩,rfl,hf (curF B g 95 (.slice A code.length cap) code.length) (by simp),frF_chgd (hf (frF w (fun b => b = g)) (by simp)) hb rfl rfl rfl⟩⟩
  have h2n := not_f h2
  refine xw_skip ?_
  refine xw_seq ?_
  refine xw_seq ?_
  refine xw_region ?_
  refine xl_callWS 1 [0,2,3,12] [(0,.v (.pointer (some ⟨g,0,none⟩))),(2,.p 0 0),(3,.p 1 0),(12,.v (.pointer (some ⟨g,0,none⟩)))] 66 [.pointer (some ⟨g,0,none⟩),.int .i64 2] (some 13) 0 (curF B g 95 (.slice A code.length cap) code.length) (by kernel_rfl) rfl (by kernel_rfl) rfl (by kernel_rfl) rfl rfl (fun ww b h hb => Nat.le_trans (cutW_le w B) (cur_lo h hb)) (by kernel_rfl) (xcm_cur fun ww hw hf => l1Once_c g code A cap 2 ww B (Nat.le_trans (by first | exact Nat.le_refl _ | exact Nat.le_of_eq (cutW_size hB).symm) hw) (hf (curF B g 95 (.slice A code.length cap) code.length) (by simp)) (hf (slF (.slice A code.length cap) 1 (code.map byteRow)) (by simp)) hap (by omega)  ) ?_
  rintro ⟨y19,hy19⟩
  refine xl_endS [0,2,3,13] [(0,.v (.pointer (some ⟨g,0,none⟩))),(2,.p 0 0),(3,.p 1 0),(13,.v (.bool y19))] (by kernel_rfl) ?_
  refine xw_cond (b := y19) (by kernel_rfl) (fun h20 => ?_) (fun h20 => ?_)
  refine xw_region ?_
  refine xl_callWS 1 [0,2,3,14] [(0,.v (.pointer (some ⟨g,0,none⟩))),(2,.p 0 0),(3,.p 1 0),(14,.v (.pointer (some ⟨g,0,none⟩)))] 75 [.pointer (some ⟨g,0,none⟩),.int .i64 15] (some 15) 0 (curF B g 95 (.slice A code.length cap) code.length) (by kernel_rfl) rfl (by kernel_rfl) rfl (by kernel_rfl) rfl rfl (fun ww b h hb => Nat.le_trans (cutW_le w B) (cur_lo h hb)) (by kernel_rfl) (xcm_cur fun ww hw hf => l1Below_c g code A cap 15 ww B (Nat.le_trans (by first | exact Nat.le_refl _ | exact Nat.le_of_eq (cutW_size hB).symm) hw) (hf (curF B g 95 (.slice A code.length cap) code.length) (by simp)) (hf (slF (.slice A code.length cap) 1 (code.map byteRow)) (by simp)) hap (by omega)  ) ?_
  rintro ⟨y21,hy21⟩
  obtain ⟨hy210,hy211⟩ := hy21
  refine xl_end [0,2,3] ⟨[(0,.v (.pointer (some ⟨g,0,none⟩))),(2,.p 0 0),(3,.p 1 0)],[⟨25,[.int .i64 0,.int .i64 0,.bool false,.bool false,.int .i64 0,.int .i64 0]⟩,⟨25,[.int .i64 0,.int .i64 y21,.bool false,.bool false,.int .i64 0,.int .i64 0]⟩],[],[curF B g 95 (.slice A code.length cap) code.length,slF (.slice A code.length cap) 1 (code.map byteRow),frF w (fun b => b = g)]⟩ (by kernel_rfl) ?_
  refine xw_seq ?_
  refine xw_region ?_
  refine xl_callWS 1 [0,2,3,17] [(0,.v (.pointer (some ⟨g,0,none⟩))),(2,.p 0 0),(3,.p 1 0),(17,.v (.pointer (some ⟨g,0,none⟩)))] 66 [.pointer (some ⟨g,0,none⟩),.int .i64 2] (some 18) 0 (curF B g 95 (.slice A code.length cap) code.length) (by kernel_rfl) rfl (by kernel_rfl) rfl (by kernel_rfl) rfl rfl (fun ww b h hb => Nat.le_trans (cutW_le w B) (cur_lo h hb)) (by kernel_rfl) (xcm_cur fun ww hw hf => l1Once_c g code A cap 2 ww B (Nat.le_trans (by first | exact Nat.le_refl _ | exact Nat.le_of_eq (cutW_size hB).symm) hw) (hf (curF B g 95 (.slice A code.length cap) code.length) (by simp)) (hf (slF (.slice A code.length cap) 1 (code.map byteRow)) (by simp)) hap (by omega)  ) ?_
  rintro ⟨y22,hy22⟩
  refine xl_end [0,2,3] ⟨[(0,.v (.pointer (some ⟨g,0,none⟩))),(2,.p 0 0),(3,.p 1 0)],[⟨25,[.int .i64 0,.int .i64 0,.bool false,.bool false,.int .i64 0,.int .i64 0]⟩,⟨25,[.int .i64 0,.int .i64 y21,.bool y22,.bool false,.int .i64 0,.int .i64 0]⟩],[],[curF B g 95 (.slice A code.length cap) code.length,slF (.slice A code.length cap) 1 (code.map byteRow),frF w (fun b => b = g)]⟩ (by kernel_rfl) ?_
  refine xw_seq ?_
  refine xw_seq ?_
  refine xw_region ?_
  refine xl_callWS 1 [0,2,3,20] [(0,.v (.pointer (some ⟨g,0,none⟩))),(2,.p 0 0),(3,.p 1 0),(20,.v (.pointer (some ⟨g,0,none⟩)))] 66 [.pointer (some ⟨g,0,none⟩),.int .i64 2] (some 21) 0 (curF B g 95 (.slice A code.length cap) code.length) (by kernel_rfl) rfl (by kernel_rfl) rfl (by kernel_rfl) rfl rfl (fun ww b h hb => Nat.le_trans (cutW_le w B) (cur_lo h hb)) (by kernel_rfl) (xcm_cur fun ww hw hf => l1Once_c g code A cap 2 ww B (Nat.le_trans (by first | exact Nat.le_refl _ | exact Nat.le_of_eq (cutW_size hB).symm) hw) (hf (curF B g 95 (.slice A code.length cap) code.length) (by simp)) (hf (slF (.slice A code.length cap) 1 (code.map byteRow)) (by simp)) hap (by omega)  ) ?_
  rintro ⟨y23,hy23⟩
  refine xl_endS [0,2,3,21] [(0,.v (.pointer (some ⟨g,0,none⟩))),(2,.p 0 0),(3,.p 1 0),(21,.v (.bool y23))] (by kernel_rfl) ?_
  refine xw_cond (b := y23) (by kernel_rfl) (fun h24 => ?_) (fun h24 => ?_)
  refine xw_seq ?_
  refine xw_region ?_
  refine xl_end [0,2,3] ⟨[(0,.v (.pointer (some ⟨g,0,none⟩))),(2,.p 0 0),(3,.p 1 0)],[⟨25,[.int .i64 0,.int .i64 0,.bool false,.bool false,.int .i64 0,.int .i64 0]⟩,⟨25,[.int .i64 0,.int .i64 y21,.bool y22,.bool true,.int .i64 0,.int .i64 0]⟩],[],[curF B g 95 (.slice A code.length cap) code.length,slF (.slice A code.length cap) 1 (code.map byteRow),frF w (fun b => b = g)]⟩ (by kernel_rfl) ?_
  refine xw_seq ?_
  refine xw_region ?_
  refine xl_callWS 1 [0,2,3,23] [(0,.v (.pointer (some ⟨g,0,none⟩))),(2,.p 0 0),(3,.p 1 0),(23,.v (.pointer (some ⟨g,0,none⟩)))] 80 [.pointer (some ⟨g,0,none⟩)] (some 24) 0 (curF B g 95 (.slice A code.length cap) code.length) (by kernel_rfl) rfl (by kernel_rfl) rfl (by kernel_rfl) rfl rfl (fun ww b h hb => Nat.le_trans (cutW_le w B) (cur_lo h hb)) (by kernel_rfl) (xcm_cur fun ww hw hf => l2Deep_c g code A cap  ww B (Nat.le_trans (by first | exact Nat.le_refl _ | exact Nat.le_of_eq (cutW_size hB).symm) hw) (hf (curF B g 95 (.slice A code.length cap) code.length) (by simp)) (hf (slF (.slice A code.length cap) 1 (code.map byteRow)) (by simp)) hap (by omega)  ) ?_
  rintro ⟨y25,hy25⟩
  refine xl_end [0,2,3] ⟨[(0,.v (.pointer (some ⟨g,0,none⟩))),(2,.p 0 0),(3,.p 1 0)],[⟨25,[.int .i64 0,.int .i64 0,.bool false,.bool false,.int .i64 0,.int .i64 0]⟩,⟨25,[.int .i64 0,.int .i64 y21,.bool y22,.bool true,.int .i64 y25,.int .i64 0]⟩],[],[curF B g 95 (.slice A code.length cap) code.length,slF (.slice A code.length cap) 1 (code.map byteRow),frF w (fun b => b = g)]⟩ (by kernel_rfl) ?_
  refine xw_region ?_
  refine xl_callWS 1 [2,3,26] [(2,.p 0 0),(3,.p 1 0),(26,.v (.pointer (some ⟨g,0,none⟩)))] 80 [.pointer (some ⟨g,0,none⟩)] (some 27) 0 (curF B g 95 (.slice A code.length cap) code.length) (by kernel_rfl) rfl (by kernel_rfl) rfl (by kernel_rfl) rfl rfl (fun ww b h hb => Nat.le_trans (cutW_le w B) (cur_lo h hb)) (by kernel_rfl) (xcm_cur fun ww hw hf => l2Deep_c g code A cap  ww B (Nat.le_trans (by first | exact Nat.le_refl _ | exact Nat.le_of_eq (cutW_size hB).symm) hw) (hf (curF B g 95 (.slice A code.length cap) code.length) (by simp)) (hf (slF (.slice A code.length cap) 1 (code.map byteRow)) (by simp)) hap (by omega)  ) ?_
  rintro ⟨y26,hy26⟩
  refine xl_end [2,3] ⟨[(2,.p 0 0),(3,.p 1 0)],[⟨25,[.int .i64 0,.int .i64 0,.bool false,.bool false,.int .i64 0,.int .i64 0]⟩,⟨25,[.int .i64 0,.int .i64 y21,.bool y22,.bool true,.int .i64 y25,.int .i64 y26]⟩],[],[curF B g 95 (.slice A code.length cap) code.length,slF (.slice A code.length cap) 1 (code.map byteRow),frF w (fun b => b = g)]⟩ (by kernel_rfl) ?_
  refine xw_seq ?_
  refine xw_region ?_
  refine xl_end [2] ⟨[(2,.p 0 0)],[⟨25,[.int .i64 0,.int .i64 y21,.bool y22,.bool true,.int .i64 y25,.int .i64 y26]⟩,⟨25,[.int .i64 0,.int .i64 y21,.bool y22,.bool true,.int .i64 y25,.int .i64 y26]⟩],[],[curF B g 95 (.slice A code.length cap) code.length,slF (.slice A code.length cap) 1 (code.map byteRow),frF w (fun b => b = g)]⟩ (by kernel_rfl) ?_
  refine xw_ret ?_
  exact ⟨[.agg #[.int .i64 0,.int .i64 y21,.bool y22,.bool true,.int .i64 y25,.int .i64 y26]],by kernel_rfl,fun w' hb hf => ⟨⟨⟨0,y21,y22,true,y25,y26⟩,trivial⟩,rfl,hf (curF B g 95 (.slice A code.length cap) code.length) (by simp),frF_chgd (hf (frF w (fun b => b = g)) (by simp)) hb rfl rfl rfl⟩⟩
  refine xw_skip ?_
  refine xw_seq ?_
  refine xw_region ?_
  refine xl_end [2] ⟨[(2,.p 0 0)],[⟨25,[.int .i64 0,.int .i64 y21,.bool y22,.bool false,.int .i64 0,.int .i64 0]⟩,⟨25,[.int .i64 0,.int .i64 y21,.bool y22,.bool false,.int .i64 0,.int .i64 0]⟩],[],[curF B g 95 (.slice A code.length cap) code.length,slF (.slice A code.length cap) 1 (code.map byteRow),frF w (fun b => b = g)]⟩ (by kernel_rfl) ?_
  refine xw_ret ?_
  exact ⟨[.agg #[.int .i64 0,.int .i64 y21,.bool y22,.bool false,.int .i64 0,.int .i64 0]],by kernel_rfl,fun w' hb hf => ⟨⟨⟨0,y21,y22,false,0,0⟩,trivial⟩,rfl,hf (curF B g 95 (.slice A code.length cap) code.length) (by simp),frF_chgd (hf (frF w (fun b => b = g)) (by simp)) hb rfl rfl rfl⟩⟩
  refine xw_skip ?_
  refine xw_seq ?_
  refine xw_region ?_
  refine xl_callWS 1 [0,2,3,17] [(0,.v (.pointer (some ⟨g,0,none⟩))),(2,.p 0 0),(3,.p 1 0),(17,.v (.pointer (some ⟨g,0,none⟩)))] 66 [.pointer (some ⟨g,0,none⟩),.int .i64 2] (some 18) 0 (curF B g 95 (.slice A code.length cap) code.length) (by kernel_rfl) rfl (by kernel_rfl) rfl (by kernel_rfl) rfl rfl (fun ww b h hb => Nat.le_trans (cutW_le w B) (cur_lo h hb)) (by kernel_rfl) (xcm_cur fun ww hw hf => l1Once_c g code A cap 2 ww B (Nat.le_trans (by first | exact Nat.le_refl _ | exact Nat.le_of_eq (cutW_size hB).symm) hw) (hf (curF B g 95 (.slice A code.length cap) code.length) (by simp)) (hf (slF (.slice A code.length cap) 1 (code.map byteRow)) (by simp)) hap (by omega)  ) ?_
  rintro ⟨y27,hy27⟩
  refine xl_end [0,2,3] ⟨[(0,.v (.pointer (some ⟨g,0,none⟩))),(2,.p 0 0),(3,.p 1 0)],[⟨25,[.int .i64 0,.int .i64 0,.bool false,.bool false,.int .i64 0,.int .i64 0]⟩,⟨25,[.int .i64 0,.int .i64 (-1),.bool y27,.bool false,.int .i64 0,.int .i64 0]⟩],[],[curF B g 95 (.slice A code.length cap) code.length,slF (.slice A code.length cap) 1 (code.map byteRow),frF w (fun b => b = g)]⟩ (by kernel_rfl) ?_
  refine xw_seq ?_
  refine xw_seq ?_
  refine xw_region ?_
  refine xl_callWS 1 [0,2,3,20] [(0,.v (.pointer (some ⟨g,0,none⟩))),(2,.p 0 0),(3,.p 1 0),(20,.v (.pointer (some ⟨g,0,none⟩)))] 66 [.pointer (some ⟨g,0,none⟩),.int .i64 2] (some 21) 0 (curF B g 95 (.slice A code.length cap) code.length) (by kernel_rfl) rfl (by kernel_rfl) rfl (by kernel_rfl) rfl rfl (fun ww b h hb => Nat.le_trans (cutW_le w B) (cur_lo h hb)) (by kernel_rfl) (xcm_cur fun ww hw hf => l1Once_c g code A cap 2 ww B (Nat.le_trans (by first | exact Nat.le_refl _ | exact Nat.le_of_eq (cutW_size hB).symm) hw) (hf (curF B g 95 (.slice A code.length cap) code.length) (by simp)) (hf (slF (.slice A code.length cap) 1 (code.map byteRow)) (by simp)) hap (by omega)  ) ?_
  rintro ⟨y28,hy28⟩
  refine xl_endS [0,2,3,21] [(0,.v (.pointer (some ⟨g,0,none⟩))),(2,.p 0 0),(3,.p 1 0),(21,.v (.bool y28))] (by kernel_rfl) ?_
  refine xw_cond (b := y28) (by kernel_rfl) (fun h29 => ?_) (fun h29 => ?_)
  refine xw_seq ?_
  refine xw_region ?_
  refine xl_end [0,2,3] ⟨[(0,.v (.pointer (some ⟨g,0,none⟩))),(2,.p 0 0),(3,.p 1 0)],[⟨25,[.int .i64 0,.int .i64 0,.bool false,.bool false,.int .i64 0,.int .i64 0]⟩,⟨25,[.int .i64 0,.int .i64 (-1),.bool y27,.bool true,.int .i64 0,.int .i64 0]⟩],[],[curF B g 95 (.slice A code.length cap) code.length,slF (.slice A code.length cap) 1 (code.map byteRow),frF w (fun b => b = g)]⟩ (by kernel_rfl) ?_
  refine xw_seq ?_
  refine xw_region ?_
  refine xl_callWS 1 [0,2,3,23] [(0,.v (.pointer (some ⟨g,0,none⟩))),(2,.p 0 0),(3,.p 1 0),(23,.v (.pointer (some ⟨g,0,none⟩)))] 80 [.pointer (some ⟨g,0,none⟩)] (some 24) 0 (curF B g 95 (.slice A code.length cap) code.length) (by kernel_rfl) rfl (by kernel_rfl) rfl (by kernel_rfl) rfl rfl (fun ww b h hb => Nat.le_trans (cutW_le w B) (cur_lo h hb)) (by kernel_rfl) (xcm_cur fun ww hw hf => l2Deep_c g code A cap  ww B (Nat.le_trans (by first | exact Nat.le_refl _ | exact Nat.le_of_eq (cutW_size hB).symm) hw) (hf (curF B g 95 (.slice A code.length cap) code.length) (by simp)) (hf (slF (.slice A code.length cap) 1 (code.map byteRow)) (by simp)) hap (by omega)  ) ?_
  rintro ⟨y30,hy30⟩
  refine xl_end [0,2,3] ⟨[(0,.v (.pointer (some ⟨g,0,none⟩))),(2,.p 0 0),(3,.p 1 0)],[⟨25,[.int .i64 0,.int .i64 0,.bool false,.bool false,.int .i64 0,.int .i64 0]⟩,⟨25,[.int .i64 0,.int .i64 (-1),.bool y27,.bool true,.int .i64 y30,.int .i64 0]⟩],[],[curF B g 95 (.slice A code.length cap) code.length,slF (.slice A code.length cap) 1 (code.map byteRow),frF w (fun b => b = g)]⟩ (by kernel_rfl) ?_
  refine xw_region ?_
  refine xl_callWS 1 [2,3,26] [(2,.p 0 0),(3,.p 1 0),(26,.v (.pointer (some ⟨g,0,none⟩)))] 80 [.pointer (some ⟨g,0,none⟩)] (some 27) 0 (curF B g 95 (.slice A code.length cap) code.length) (by kernel_rfl) rfl (by kernel_rfl) rfl (by kernel_rfl) rfl rfl (fun ww b h hb => Nat.le_trans (cutW_le w B) (cur_lo h hb)) (by kernel_rfl) (xcm_cur fun ww hw hf => l2Deep_c g code A cap  ww B (Nat.le_trans (by first | exact Nat.le_refl _ | exact Nat.le_of_eq (cutW_size hB).symm) hw) (hf (curF B g 95 (.slice A code.length cap) code.length) (by simp)) (hf (slF (.slice A code.length cap) 1 (code.map byteRow)) (by simp)) hap (by omega)  ) ?_
  rintro ⟨y31,hy31⟩
  refine xl_end [2,3] ⟨[(2,.p 0 0),(3,.p 1 0)],[⟨25,[.int .i64 0,.int .i64 0,.bool false,.bool false,.int .i64 0,.int .i64 0]⟩,⟨25,[.int .i64 0,.int .i64 (-1),.bool y27,.bool true,.int .i64 y30,.int .i64 y31]⟩],[],[curF B g 95 (.slice A code.length cap) code.length,slF (.slice A code.length cap) 1 (code.map byteRow),frF w (fun b => b = g)]⟩ (by kernel_rfl) ?_
  refine xw_seq ?_
  refine xw_region ?_
  refine xl_end [2] ⟨[(2,.p 0 0)],[⟨25,[.int .i64 0,.int .i64 (-1),.bool y27,.bool true,.int .i64 y30,.int .i64 y31]⟩,⟨25,[.int .i64 0,.int .i64 (-1),.bool y27,.bool true,.int .i64 y30,.int .i64 y31]⟩],[],[curF B g 95 (.slice A code.length cap) code.length,slF (.slice A code.length cap) 1 (code.map byteRow),frF w (fun b => b = g)]⟩ (by kernel_rfl) ?_
  refine xw_ret ?_
  exact ⟨[.agg #[.int .i64 0,.int .i64 (-1),.bool y27,.bool true,.int .i64 y30,.int .i64 y31]],by kernel_rfl,fun w' hb hf => ⟨⟨⟨0,(-1),y27,true,y30,y31⟩,trivial⟩,rfl,hf (curF B g 95 (.slice A code.length cap) code.length) (by simp),frF_chgd (hf (frF w (fun b => b = g)) (by simp)) hb rfl rfl rfl⟩⟩
  refine xw_skip ?_
  refine xw_seq ?_
  refine xw_region ?_
  refine xl_end [2] ⟨[(2,.p 0 0)],[⟨25,[.int .i64 0,.int .i64 (-1),.bool y27,.bool false,.int .i64 0,.int .i64 0]⟩,⟨25,[.int .i64 0,.int .i64 (-1),.bool y27,.bool false,.int .i64 0,.int .i64 0]⟩],[],[curF B g 95 (.slice A code.length cap) code.length,slF (.slice A code.length cap) 1 (code.map byteRow),frF w (fun b => b = g)]⟩ (by kernel_rfl) ?_
  refine xw_ret ?_
  exact ⟨[.agg #[.int .i64 0,.int .i64 (-1),.bool y27,.bool false,.int .i64 0,.int .i64 0]],by kernel_rfl,fun w' hb hf => ⟨⟨⟨0,(-1),y27,false,0,0⟩,trivial⟩,rfl,hf (curF B g 95 (.slice A code.length cap) code.length) (by simp),frF_chgd (hf (frF w (fun b => b = g)) (by simp)) hb rfl rfl rfl⟩⟩
set_option maxHeartbeats 2000000 in
theorem l8Bent_c (g : Nat) (code : List Int) (A : Option Addr) (cap : Nat)  (w : World) (B : Nat) (hB : B ≤ w.heap.size) (hc : (curF B g 95 (.slice A code.length cap) code.length).p w) (hl : Sl w (.slice A code.length cap) 1 (code.map byteRow)) (hap : ¬ (slF (.slice A code.length cap) 1 (code.map byteRow)).blk g) (hn : code.length ≤ 1048576)  : Calls Try.prog 37 #[.pointer (some ⟨g, 0, none⟩)] w fun e w' => ∃ y : {y : Opt // True}, e = .returned (.agg (optL y.1).toArray) ∧ (curF B g 95 (.slice A code.length cap) code.length).p w' ∧ Chgd (fun b => b = g) w w' := by
  have hq_code := Sl.capLe hl
  refine x_callsM (args := [.pointer (some ⟨g,0,none⟩)]) (fn := Try.f37) [curF B g 95 (.slice A code.length cap) code.length,slF (.slice A code.length cap) 1 (code.map byteRow),frF w (fun b => b = g)] B Try.func37 rfl Try.ntmps37 rfl hB (by simp only [List.mem_cons,List.not_mem_nil,or_false,forall_eq_or_imp,forall_eq]; exact ⟨hc,hl,frF_start w _⟩) (apart_cur hap rfl) ?_
  refine xw_seq ?_
  refine xw_region ?_
  refine xl_end [0,2] ⟨[(0,.v (.pointer (some ⟨g,0,none⟩))),(2,.p 0 0)],[⟨25,[.int .i64 0,.int .i64 0,.bool false,.bool false,.int .i64 0,.int .i64 0]⟩],[],[curF B g 95 (.slice A code.length cap) code.length,slF (.slice A code.length cap) 1 (code.map byteRow),frF w (fun b => b = g)]⟩ (by kernel_rfl) ?_
  refine xw_seq ?_
  refine xw_region ?_
  refine xl_callWS 1 [0,2,4] [(0,.v (.pointer (some ⟨g,0,none⟩))),(2,.p 0 0),(4,.v (.pointer (some ⟨g,0,none⟩)))] 74 [.pointer (some ⟨g,0,none⟩)] (some 5) 0 (curF B g 95 (.slice A code.length cap) code.length) (by kernel_rfl) rfl (by kernel_rfl) rfl (by kernel_rfl) rfl rfl (fun ww b h hb => Nat.le_trans (cutW_le w B) (cur_lo h hb)) (by kernel_rfl) (xcm_cur fun ww hw hf => l8Options_c g code A cap  ww B (Nat.le_trans (by first | exact Nat.le_refl _ | exact Nat.le_of_eq (cutW_size hB).symm) hw) (hf (curF B g 95 (.slice A code.length cap) code.length) (by simp)) (hf (slF (.slice A code.length cap) 1 (code.map byteRow)) (by simp)) hap (by omega)  ) ?_
  rintro ⟨y1,hy1⟩
  refine xl_end [0,2,3] ⟨[(0,.v (.pointer (some ⟨g,0,none⟩))),(2,.p 0 0),(3,.p 1 0)],[⟨25,[.int .i64 0,.int .i64 0,.bool false,.bool false,.int .i64 0,.int .i64 0]⟩,⟨25,optL y1⟩],[],[curF B g 95 (.slice A code.length cap) code.length,slF (.slice A code.length cap) 1 (code.map byteRow),frF w (fun b => b = g)]⟩ (by kernel_rfl) ?_
  refine xw_seq ?_
  refine xw_seq ?_
  refine xw_region ?_
  refine xl_callWS 1 [0,2,3,6] [(0,.v (.pointer (some ⟨g,0,none⟩))),(2,.p 0 0),(3,.p 1 0),(6,.v (.pointer (some ⟨g,0,none⟩)))] 75 [.pointer (some ⟨g,0,none⟩),.int .i64 10] (some 7) 0 (curF B g 95 (.slice A code.length cap) code.length) (by kernel_rfl) rfl (by kernel_rfl) rfl (by kernel_rfl) rfl rfl (fun ww b h hb => Nat.le_trans (cutW_le w B) (cur_lo h hb)) (by kernel_rfl) (xcm_cur fun ww hw hf => l1Below_c g code A cap 10 ww B (Nat.le_trans (by first | exact Nat.le_refl _ | exact Nat.le_of_eq (cutW_size hB).symm) hw) (hf (curF B g 95 (.slice A code.length cap) code.length) (by simp)) (hf (slF (.slice A code.length cap) 1 (code.map byteRow)) (by simp)) hap (by omega)  ) ?_
  rintro ⟨y2,hy2⟩
  obtain ⟨hy20,hy21⟩ := hy2
  refine xl_endS [0,2,3,7] [(0,.v (.pointer (some ⟨g,0,none⟩))),(2,.p 0 0),(3,.p 1 0),(7,.v (.int .i64 y2))] (by kernel_rfl) ?_
  refine xw_block ?_
  refine xw_seq ?_
  refine xw_region ?_
  refine xl_endS [0,2,3,7,8] [(0,.v (.pointer (some ⟨g,0,none⟩))),(2,.p 0 0),(3,.p 1 0),(7,.v (.int .i64 y2)),(8,.v (.bool (y2 == 0)))] (by kernel_rfl) ?_
  refine xw_cond (b := y2 == 0) (by kernel_rfl) (fun h3 => ?_) (fun h3 => ?_)
  have h3p := eqT h3
  refine xw_region ?_
  refine xl_callWS 1 [2,3,10] [(2,.p 0 0),(3,.p 1 0),(10,.v (.pointer (some ⟨g,0,none⟩)))] 67 [.pointer (some ⟨g,0,none⟩)] (some 11) 0 (curF B g 95 (.slice A code.length cap) code.length) (by kernel_rfl) rfl (by kernel_rfl) rfl (by kernel_rfl) rfl rfl (fun ww b h hb => Nat.le_trans (cutW_le w B) (cur_lo h hb)) (by kernel_rfl) (xcm_cur fun ww hw hf => l2Word_c g code A cap  ww B (Nat.le_trans (by first | exact Nat.le_refl _ | exact Nat.le_of_eq (cutW_size hB).symm) hw) (hf (curF B g 95 (.slice A code.length cap) code.length) (by simp)) (hf (slF (.slice A code.length cap) 1 (code.map byteRow)) (by simp)) hap (by omega)  ) ?_
  rintro ⟨y4,hy4⟩
  refine xl_end [2,3] ⟨[(2,.p 0 0),(3,.p 1 0)],[⟨25,[.int .i64 0,.int .i64 0,.bool false,.bool false,.int .i64 0,.int .i64 0]⟩,⟨25,optL { y1 with mss := y4 }⟩],[],[curF B g 95 (.slice A code.length cap) code.length,slF (.slice A code.length cap) 1 (code.map byteRow),frF w (fun b => b = g)]⟩ (by kernel_rfl) ?_
  refine xw_seq ?_
  refine xw_region ?_
  refine xl_end [2] ⟨[(2,.p 0 0)],[⟨25,optL { y1 with mss := y4 }⟩,⟨25,optL { y1 with mss := y4 }⟩],[],[curF B g 95 (.slice A code.length cap) code.length,slF (.slice A code.length cap) 1 (code.map byteRow),frF w (fun b => b = g)]⟩ (by kernel_rfl) ?_
  refine xw_ret ?_
  exact ⟨[.agg (optL { y1 with mss := y4 }).toArray],by kernel_rfl,fun w' hb hf => ⟨⟨{ y1 with mss := y4 },trivial⟩,rfl,hf (curF B g 95 (.slice A code.length cap) code.length) (by simp),frF_chgd (hf (frF w (fun b => b = g)) (by simp)) hb rfl rfl rfl⟩⟩
  have h3p := eqF h3
  refine xw_seq ?_
  refine xw_region ?_
  refine xl_endS [0,2,3,7,13] [(0,.v (.pointer (some ⟨g,0,none⟩))),(2,.p 0 0),(3,.p 1 0),(7,.v (.int .i64 y2)),(13,.v (.bool (y2 == 1)))] (by kernel_rfl) ?_
  refine xw_cond (b := y2 == 1) (by kernel_rfl) (fun h5 => ?_) (fun h5 => ?_)
  have h5p := eqT h5
  refine xw_region ?_
  refine xl_hvS 1 [2,3,15] [(2,.p 0 0),(3,.p 1 0),(15,.v (.pointer (some ⟨g,0,none⟩)))] (by kernel_rfl) rfl (by kernel_rfl) rfl (by kernel_rfl) (hv_build (e := 3) (K := 1) (bytes := 8) [.int .i64 (-2),.int .i64 (-1),.int .i64 14,.int .i64 15] rfl (by kernel_rfl) (by kernel_rfl) (by kernel_rfl) (by kernel_rfl) (by kernel_rfl) (rs := ([(-2),(-1),14,15] : List Int).map intRow) rfl) ?_
  intro g6
  refine xl_know (φ := ¬ (slF (.slice (some ⟨g6,0,none⟩) 4 4) 1 (([(-2),(-1),14,15] : List Int).map intRow)).blk g) (fun _ _ _ _ hr => fun hb => hr.2.apart 0 1 (rowF (cutW w B).heap.size 3 1 (.slice (some ⟨g6,0,none⟩) 4 4) (([(-2),(-1),14,15] : List Int).map intRow)) (curF B g 95 (.slice A code.length cap) code.length) rfl rfl (by decide) rfl g (rowF_sblk hb) rfl) (fun hk7 => ?_)
  refine xl_callWS 0 [2,3,15,16] [(2,.p 0 0),(3,.p 1 0),(15,.v (.pointer (some ⟨g,0,none⟩))),(16,.v (.slice (some ⟨g6,0,none⟩) 4 4))] 52 [.pointer (some ⟨g,0,none⟩),.slice (some ⟨g6,0,none⟩) 4 4] (some 17) 1 (curF B g 95 (.slice A code.length cap) code.length) (by kernel_rfl) rfl (by kernel_rfl) rfl (by kernel_rfl) rfl rfl (fun ww b h hb => Nat.le_trans (cutW_le w B) (cur_lo h hb)) (by kernel_rfl) (xcm_cur fun ww hw hf => l1PickInt_c g code A cap ([(-2),(-1),14,15] : List Int) (.slice (some ⟨g6,0,none⟩) 4 4) ww B (Nat.le_trans (by first | exact Nat.le_refl _ | exact Nat.le_of_eq (cutW_size hB).symm) hw) (hf (curF B g 95 (.slice A code.length cap) code.length) (by simp)) (hf (slF (.slice A code.length cap) 1 (code.map byteRow)) (by simp)) hap (by omega) (rowF_sl (hf (rowF (cutW w B).heap.size 3 1 (.slice (some ⟨g6,0,none⟩) 4 4) (([(-2),(-1),14,15] : List Int).map intRow)) (by simp))) hk7 (by simp)) ?_
  rintro ⟨y8,hy8⟩
  refine xl_end [2,3] ⟨[(2,.p 0 0),(3,.p 1 0)],[⟨25,[.int .i64 0,.int .i64 0,.bool false,.bool false,.int .i64 0,.int .i64 0]⟩,⟨25,optL { y1 with scale := y8 }⟩],[],[curF B g 95 (.slice A code.length cap) code.length,rowF (cutW w B).heap.size 3 1 (.slice (some ⟨g6,0,none⟩) 4 4) (([(-2),(-1),14,15] : List Int).map intRow),slF (.slice A code.length cap) 1 (code.map byteRow),frF w (fun b => b = g)]⟩ (by kernel_rfl) ?_
  refine xw_seq ?_
  refine xw_region ?_
  refine xl_end [2] ⟨[(2,.p 0 0)],[⟨25,optL { y1 with scale := y8 }⟩,⟨25,optL { y1 with scale := y8 }⟩],[],[curF B g 95 (.slice A code.length cap) code.length,rowF (cutW w B).heap.size 3 1 (.slice (some ⟨g6,0,none⟩) 4 4) (([(-2),(-1),14,15] : List Int).map intRow),slF (.slice A code.length cap) 1 (code.map byteRow),frF w (fun b => b = g)]⟩ (by kernel_rfl) ?_
  refine xw_ret ?_
  exact ⟨[.agg (optL { y1 with scale := y8 }).toArray],by kernel_rfl,fun w' hb hf => ⟨⟨{ y1 with scale := y8 },trivial⟩,rfl,hf (curF B g 95 (.slice A code.length cap) code.length) (by simp),frF_chgd (hf (frF w (fun b => b = g)) (by simp)) hb rfl rfl rfl⟩⟩
  have h5p := eqF h5
  refine xw_seq ?_
  refine xw_region ?_
  refine xl_endS [0,2,3,7,19] [(0,.v (.pointer (some ⟨g,0,none⟩))),(2,.p 0 0),(3,.p 1 0),(7,.v (.int .i64 y2)),(19,.v (.bool (y2 == 2)))] (by kernel_rfl) ?_
  refine xw_cond (b := y2 == 2) (by kernel_rfl) (fun h9 => ?_) (fun h9 => ?_)
  have h9p := eqT h9
  refine xw_region ?_
  refine xl_end [2,3] ⟨[(2,.p 0 0),(3,.p 1 0)],[⟨25,[.int .i64 0,.int .i64 0,.bool false,.bool false,.int .i64 0,.int .i64 0]⟩,⟨25,optL { y1 with stamp := !y1.stamp }⟩],[],[curF B g 95 (.slice A code.length cap) code.length,slF (.slice A code.length cap) 1 (code.map byteRow),frF w (fun b => b = g)]⟩ (by kernel_rfl) ?_
  refine xw_seq ?_
  refine xw_region ?_
  refine xl_end [2] ⟨[(2,.p 0 0)],[⟨25,optL { y1 with stamp := !y1.stamp }⟩,⟨25,optL { y1 with stamp := !y1.stamp }⟩],[],[curF B g 95 (.slice A code.length cap) code.length,slF (.slice A code.length cap) 1 (code.map byteRow),frF w (fun b => b = g)]⟩ (by kernel_rfl) ?_
  refine xw_ret ?_
  exact ⟨[.agg (optL { y1 with stamp := !y1.stamp }).toArray],by kernel_rfl,fun w' hb hf => ⟨⟨{ y1 with stamp := !y1.stamp },trivial⟩,rfl,hf (curF B g 95 (.slice A code.length cap) code.length) (by simp),frF_chgd (hf (frF w (fun b => b = g)) (by simp)) hb rfl rfl rfl⟩⟩
  have h9p := eqF h9
  refine xw_seq ?_
  refine xw_region ?_
  refine xl_endS [0,2,3,25] [(0,.v (.pointer (some ⟨g,0,none⟩))),(2,.p 0 0),(3,.p 1 0),(25,.v (.bool (y2 == 3)))] (by kernel_rfl) ?_
  refine xw_cond (b := y2 == 3) (by kernel_rfl) (fun h10 => ?_) (fun h10 => ?_)
  have h10p := eqT h10
  refine xw_region ?_
  refine xl_callWS 1 [2,3,27] [(2,.p 0 0),(3,.p 1 0),(27,.v (.pointer (some ⟨g,0,none⟩)))] 67 [.pointer (some ⟨g,0,none⟩)] (some 28) 0 (curF B g 95 (.slice A code.length cap) code.length) (by kernel_rfl) rfl (by kernel_rfl) rfl (by kernel_rfl) rfl rfl (fun ww b h hb => Nat.le_trans (cutW_le w B) (cur_lo h hb)) (by kernel_rfl) (xcm_cur fun ww hw hf => l2Word_c g code A cap  ww B (Nat.le_trans (by first | exact Nat.le_refl _ | exact Nat.le_of_eq (cutW_size hB).symm) hw) (hf (curF B g 95 (.slice A code.length cap) code.length) (by simp)) (hf (slF (.slice A code.length cap) 1 (code.map byteRow)) (by simp)) hap (by omega)  ) ?_
  rintro ⟨y11,hy11⟩
  refine xl_end [2,3] ⟨[(2,.p 0 0),(3,.p 1 0)],[⟨25,[.int .i64 0,.int .i64 0,.bool false,.bool false,.int .i64 0,.int .i64 0]⟩,⟨25,optL { y1 with val := y11 }⟩],[],[curF B g 95 (.slice A code.length cap) code.length,slF (.slice A code.length cap) 1 (code.map byteRow),frF w (fun b => b = g)]⟩ (by kernel_rfl) ?_
  refine xw_seq ?_
  refine xw_region ?_
  refine xl_end [2] ⟨[(2,.p 0 0)],[⟨25,optL { y1 with val := y11 }⟩,⟨25,optL { y1 with val := y11 }⟩],[],[curF B g 95 (.slice A code.length cap) code.length,slF (.slice A code.length cap) 1 (code.map byteRow),frF w (fun b => b = g)]⟩ (by kernel_rfl) ?_
  refine xw_ret ?_
  exact ⟨[.agg (optL { y1 with val := y11 }).toArray],by kernel_rfl,fun w' hb hf => ⟨⟨{ y1 with val := y11 },trivial⟩,rfl,hf (curF B g 95 (.slice A code.length cap) code.length) (by simp),frF_chgd (hf (frF w (fun b => b = g)) (by simp)) hb rfl rfl rfl⟩⟩
  have h10p := eqF h10
  refine xw_skip ?_
  refine xw_seq ?_
  refine xw_region ?_
  refine xl_end [2] ⟨[(2,.p 0 0)],[⟨25,optL y1⟩,⟨25,optL y1⟩],[],[curF B g 95 (.slice A code.length cap) code.length,slF (.slice A code.length cap) 1 (code.map byteRow),frF w (fun b => b = g)]⟩ (by kernel_rfl) ?_
  refine xw_ret ?_
  exact ⟨[.agg (optL y1).toArray],by kernel_rfl,fun w' hb hf => ⟨⟨y1,trivial⟩,rfl,hf (curF B g 95 (.slice A code.length cap) code.length) (by simp),frF_chgd (hf (frF w (fun b => b = g)) (by simp)) hb rfl rfl rfl⟩⟩
theorem big_c (code : List Int) (A : Option Addr) (cap : Nat) (w : World) (hl : Sl w (.slice A code.length cap) 1 (code.map byteRow)) : Calls Try.prog 7 #[.slice A code.length cap] w fun e w' => e = .returned (.bool (decide (((code.length : Nat) : Int) > 1048576))) ∧ Below w.heap.size w w' := by
  refine x_calls (args := [.slice A code.length cap]) (fn := Try.f7) [slF (.slice A code.length cap) 1 (code.map byteRow)] Try.func7 rfl Try.ntmps7 rfl (by simp only [List.mem_cons,List.not_mem_nil,or_false,forall_eq]; exact ⟨rfl,hl⟩) ?_
  refine xw_seq ?_
  refine xw_region ?_
  refine xl_end [0] ⟨[(0,.v (.slice A code.length cap))],[],[],[slF (.slice A code.length cap) 1 (code.map byteRow)]⟩ (by kernel_rfl) ?_
  refine xw_seq ?_
  refine xw_region ?_
  refine xl_endS [2] [(2,.v (.bool (decide (((code.length : Nat) : Int) > 1048576))))] (by kernel_rfl) ?_
  refine xw_ret ?_
  exact ⟨[.bool (decide (((code.length : Nat) : Int) > 1048576))],by kernel_rfl,fun w' hb hf => ⟨rfl,hb⟩⟩
@[simp] theorem inB18_1 : inB 1 1 8 = true := rfl
@[simp] theorem inB18_2 : inB 2 1 8 = true := rfl
@[simp] theorem inB18_3 : inB 3 1 8 = true := rfl
@[simp] theorem inB18_4 : inB 4 1 8 = true := rfl
@[simp] theorem inB18_5 : inB 5 1 8 = true := rfl
@[simp] theorem inB18_6 : inB 6 1 8 = true := rfl
@[simp] theorem inB18_7 : inB 7 1 8 = true := rfl
@[simp] theorem inB18_8 : inB 8 1 8 = true := rfl
set_option maxHeartbeats 1000000 in
theorem ysResetFor_c (g : Seg) (w : World) (hgz : g.body.size ≤ 1048576) : Calls Try.prog 15 #[.agg (segL g).toArray] w fun e w' => e = .returned (.tuple #[.agg (segL (resetFor g).1).toArray, .bool ((resetFor g).2)]) ∧ Below w.heap.size w w' := by
  refine x_calls (args := [.agg (segL g).toArray]) (fn := Try.f15) [] Try.func15 rfl Try.ntmps15 rfl (by simp) ?_
  refine xw_seq ?_
  refine xw_region ?_
  refine xl_end [1,2] ⟨[(1,.p 0 0),(2,.p 1 0)],[⟨30,segL g⟩,⟨30,segZ⟩],[],[]⟩ (by kernel_rfl) ?_
  refine xw_seq ?_
  refine xw_seq ?_
  refine xw_region ?_
  refine xl_callS 1 [1,2,5] [(1,.p 0 0),(2,.p 1 0),(5,.v (.agg (segL g).toArray))] 48 [.agg (segL g).toArray,.int .i64 4] (some 6) (by kernel_rfl) rfl (by kernel_rfl) rfl (by kernel_rfl) (xc_b fun ww hf => sHas_c g.src g.dst g.seq g.ack g.flags g.window g.o.mss g.o.scale g.o.sack g.o.stamp g.o.val g.o.echo g.body 4 ww ) ?_
  intro _
  refine xl_endS [1,2,6] [(1,.p 0 0),(2,.p 1 0),(6,.v (.bool (hasF g.flags 4)))] (by kernel_rfl) ?_
  refine xw_cond (b := hasF g.flags 4) (by kernel_rfl) (fun h1 => ?_) (fun h1 => ?_)
  refine xw_seq ?_
  refine xw_region ?_
  refine xl_opS 0 [2] [(2,.p 1 0)] (.agg (segZ).toArray) (by kernel_rfl) rfl (by kernel_rfl) rfl (fun _ _ _ ww hr => act_build [] hr.1 rfl (by kernel_rfl) (by kernel_rfl) ww) ?_
  refine xl_endS [2,3] [(2,.p 1 0),(3,.v (.bool false))] (by kernel_rfl) ?_
  refine xw_ret ?_
  have hmod : resetFor g = ((⟨0,0,0,0,0,0,⟨0,0,false,false,0,0⟩,(⟨#[]⟩ : ByteArray)⟩),false) := by first | rfl | (simp [resetFor,zeroSeg, *]; done) | grind [resetFor,zeroSeg]
  exact ⟨[.agg (segZ).toArray,.bool false],by kernel_rfl,fun w' hb hf => by rw [hmod]; exact ⟨rfl,hb⟩⟩
  refine xw_skip ?_
  refine xw_seq ?_
  refine xw_join ⟨[(1,.p 0 0),(2,.p 1 0),(4,.p 2 0)],[⟨30,segL g⟩,⟨30,segZ⟩,⟨30,[.int .i64 g.dst,.int .i64 g.src,.int .i64 0,.int .i64 0,.int .i64 0,.int .i64 0,.int .i64 0,.int .i64 (-1),.bool false,.bool false,.int .i64 0,.int .i64 0,.string (⟨#[]⟩ : ByteArray)]⟩],[],[]⟩ ?_ ?_
  refine xe_region [] (by kernel_rfl) (fun ρ σ => ?_)
  refine xe_tkS [0,1,2,3] [11,9,1,2] 4 [(11,.v (.int .i64 g.src)),(9,.v (.int .i64 g.dst)),(1,.p 0 0),(2,.p 1 0)] (fun _ _ h => h) rfl (by kernel_rfl) ?_
  refine xe_all [4,6] (by kernel_rfl) (by simp) ⟨?_,?_⟩
  refine xs_call 4 40 [] (some 12) rfl (by kernel_rfl) rfl (by kernel_rfl) (xc_b fun ww hf => sNoOptions_c  ww ) ?_
  intro _
  refine xe_op 5 (.agg #[.int .i64 g.dst,.int .i64 g.src,.int .i64 0,.int .i64 0,.int .i64 0,.int .i64 0,.int .i64 0,.int .i64 (-1),.bool false,.bool false,.int .i64 0,.int .i64 0,.string (⟨#[]⟩ : ByteArray)]) _ rfl (by kernel_rfl) (by kernel_rfl) (by kernel_rfl) (fun _ _ h => h) (by kernel_rfl) rfl (fun _ _ ww hA => act_build [(0,.int .i64 g.dst),(1,.int .i64 g.src),(6,.agg #[.int .i64 0,.int .i64 (-1),.bool false,.bool false,.int .i64 0,.int .i64 0])] hA rfl (by kernel_rfl) (by kernel_rfl) ww) rfl ?_
  refine xe_all [6] (by kernel_rfl) (by simp) ?_
  refine xs_box 6 ⟨30,segZ⟩ _ rfl (by kernel_rfl) (by kernel_rfl) (by kernel_rfl) (by kernel_rfl) rfl ?_
  refine xe_all [7] (by kernel_rfl) (by simp) ?_
  refine xs_store 7 2 0 [.int .i64 g.dst,.int .i64 g.src,.int .i64 0,.int .i64 0,.int .i64 0,.int .i64 0,.int .i64 0,.int .i64 (-1),.bool false,.bool false,.int .i64 0,.int .i64 0,.string (⟨#[]⟩ : ByteArray)] _ rfl (by kernel_rfl) (by kernel_rfl) (by kernel_rfl) (by kernel_rfl) (by first | exact .inr rfl | exact .inl rfl) (by kernel_rfl) rfl ?_
  refine xe_done (by kernel_rfl) ?_
  exact wk_forget 3 0 [1,2,4] (by kernel_rfl) (by kernel_rfl) (by kernel_rfl)
  refine xs_box 6 ⟨30,segZ⟩ _ rfl (by kernel_rfl) (by kernel_rfl) (by kernel_rfl) (by kernel_rfl) rfl ?_
  refine xe_all [4] (by kernel_rfl) (by simp) ?_
  refine xs_call 4 40 [] (some 12) rfl (by kernel_rfl) rfl (by kernel_rfl) (xc_b fun ww hf => sNoOptions_c  ww ) ?_
  intro _
  refine xe_op 5 (.agg #[.int .i64 g.dst,.int .i64 g.src,.int .i64 0,.int .i64 0,.int .i64 0,.int .i64 0,.int .i64 0,.int .i64 (-1),.bool false,.bool false,.int .i64 0,.int .i64 0,.string (⟨#[]⟩ : ByteArray)]) _ rfl (by kernel_rfl) (by kernel_rfl) (by kernel_rfl) (fun _ _ h => h) (by kernel_rfl) rfl (fun _ _ ww hA => act_build [(0,.int .i64 g.dst),(1,.int .i64 g.src),(6,.agg #[.int .i64 0,.int .i64 (-1),.bool false,.bool false,.int .i64 0,.int .i64 0])] hA rfl (by kernel_rfl) (by kernel_rfl) ww) rfl ?_
  refine xe_all [7] (by kernel_rfl) (by simp) ?_
  refine xs_store 7 2 0 [.int .i64 g.dst,.int .i64 g.src,.int .i64 0,.int .i64 0,.int .i64 0,.int .i64 0,.int .i64 0,.int .i64 (-1),.bool false,.bool false,.int .i64 0,.int .i64 0,.string (⟨#[]⟩ : ByteArray)] _ rfl (by kernel_rfl) (by kernel_rfl) (by kernel_rfl) (by kernel_rfl) (by first | exact .inr rfl | exact .inl rfl) (by kernel_rfl) rfl ?_
  refine xe_done (by kernel_rfl) ?_
  exact wk_forget 3 0 [1,2,4] (by kernel_rfl) (by kernel_rfl) (by kernel_rfl)
  refine xw_seq ?_
  refine xw_seq ?_
  refine xw_region ?_
  refine xl_callS 1 [1,2,4,14] [(1,.p 0 0),(2,.p 1 0),(4,.p 2 0),(14,.v (.agg (segL g).toArray))] 48 [.agg (segL g).toArray,.int .i64 16] (some 15) (by kernel_rfl) rfl (by kernel_rfl) rfl (by kernel_rfl) (xc_b fun ww hf => sHas_c g.src g.dst g.seq g.ack g.flags g.window g.o.mss g.o.scale g.o.sack g.o.stamp g.o.val g.o.echo g.body 16 ww ) ?_
  intro _
  refine xl_endS [1,2,4,15] [(1,.p 0 0),(2,.p 1 0),(4,.p 2 0),(15,.v (.bool (hasF g.flags 16)))] (by kernel_rfl) ?_
  refine xw_cond (b := hasF g.flags 16) (by kernel_rfl) (fun h2 => ?_) (fun h2 => ?_)
  refine xw_seq ?_
  refine xw_region ?_
  refine xl_end [1,2,4] ⟨[(1,.p 0 0),(2,.p 1 0),(4,.p 2 0)],[⟨30,segL g⟩,⟨30,segZ⟩,⟨30,[.int .i64 g.dst,.int .i64 g.src,.int .i64 0,.int .i64 0,.int .i64 4,.int .i64 0,.int .i64 0,.int .i64 (-1),.bool false,.bool false,.int .i64 0,.int .i64 0,.string (⟨#[]⟩ : ByteArray)]⟩],[],[]⟩ (by kernel_rfl) ?_
  refine xw_region ?_
  refine xl_end [2,4] ⟨[(2,.p 1 0),(4,.p 2 0)],[⟨30,segL g⟩,⟨30,segZ⟩,⟨30,[.int .i64 g.dst,.int .i64 g.src,.int .i64 g.ack,.int .i64 0,.int .i64 4,.int .i64 0,.int .i64 0,.int .i64 (-1),.bool false,.bool false,.int .i64 0,.int .i64 0,.string (⟨#[]⟩ : ByteArray)]⟩],[],[]⟩ (by kernel_rfl) ?_
  refine xw_seq ?_
  refine xw_region ?_
  refine xl_end [2,3] ⟨[(2,.p 1 0),(3,.v (.bool true))],[⟨30,segL g⟩,⟨30,[.int .i64 g.dst,.int .i64 g.src,.int .i64 g.ack,.int .i64 0,.int .i64 4,.int .i64 0,.int .i64 0,.int .i64 (-1),.bool false,.bool false,.int .i64 0,.int .i64 0,.string (⟨#[]⟩ : ByteArray)]⟩,⟨30,[.int .i64 g.dst,.int .i64 g.src,.int .i64 g.ack,.int .i64 0,.int .i64 4,.int .i64 0,.int .i64 0,.int .i64 (-1),.bool false,.bool false,.int .i64 0,.int .i64 0,.string (⟨#[]⟩ : ByteArray)]⟩],[],[]⟩ (by kernel_rfl) ?_
  refine xw_ret ?_
  have hmod : resetFor g = ((⟨g.dst,g.src,g.ack,0,4,0,⟨0,(-1),false,false,0,0⟩,(⟨#[]⟩ : ByteArray)⟩),true) := by first | rfl | (simp [resetFor,zeroSeg, *]; done) | grind [resetFor,zeroSeg]
  exact ⟨[.agg #[.int .i64 g.dst,.int .i64 g.src,.int .i64 g.ack,.int .i64 0,.int .i64 4,.int .i64 0,.int .i64 0,.int .i64 (-1),.bool false,.bool false,.int .i64 0,.int .i64 0,.string (⟨#[]⟩ : ByteArray)],.bool true],by kernel_rfl,fun w' hb hf => by rw [hmod]; exact ⟨rfl,hb⟩⟩
  refine xw_seq ?_
  refine xw_region ?_
  refine xl_end [1,2,4] ⟨[(1,.p 0 0),(2,.p 1 0),(4,.p 2 0)],[⟨30,segL g⟩,⟨30,segZ⟩,⟨30,[.int .i64 g.dst,.int .i64 g.src,.int .i64 0,.int .i64 0,.int .i64 20,.int .i64 0,.int .i64 0,.int .i64 (-1),.bool false,.bool false,.int .i64 0,.int .i64 0,.string (⟨#[]⟩ : ByteArray)]⟩],[],[]⟩ (by kernel_rfl) ?_
  refine xe_region [true,true,false] (by kernel_rfl) (fun ρ σ => ?_)
  refine xe_tkS [0,1,2] [23,22,2,4] 4 [(23,.v (.agg (segL g).toArray)),(22,.v (.int .i64 g.seq)),(2,.p 1 0),(4,.p 2 0)] (fun _ _ h => h) rfl (by kernel_rfl) ?_
  refine xe_all [3] (by kernel_rfl) (by simp) ?_
  refine xs_call 3 49 [.agg (segL g).toArray] (some 24) rfl (by kernel_rfl) rfl (by kernel_rfl) (xc_b fun ww hf => sSegmentLen_c g.src g.dst g.seq g.ack g.flags g.window g.o.mss g.o.scale g.o.sack g.o.stamp g.o.val g.o.echo g.body ww (by omega)) ?_
  intro _
  refine xe_all [4] (by kernel_rfl) (by simp) ?_
  refine xs_call 4 24 [.int .i64 g.seq,.int .i64 (segLen g)] (some 25) rfl (by kernel_rfl) rfl (by kernel_rfl) (xc_s fun ww hf => sSeqAdd_c g.seq (segLen g) ww ) ?_
  intro _
  refine xe_tkS [5] [26,25,2,4] 1 [(26,.p 2 3),(25,.v (.int .i64 (seqAdd g.seq (segLen g)))),(2,.p 1 0),(4,.p 2 0)] (fun _ _ h => h) rfl (by kernel_rfl) ?_
  refine xe_all [6] (by kernel_rfl) (by simp) ?_
  refine xs_store 6 2 3 [.int .i64 (seqAdd g.seq (segLen g))] _ rfl (by kernel_rfl) (by kernel_rfl) (by kernel_rfl) (by kernel_rfl) (by first | exact .inr rfl | exact .inl rfl) (by kernel_rfl) rfl ?_
  refine xe_done (by kernel_rfl) ?_
  refine xw_seq ?_
  refine xw_region ?_
  refine xl_end [2,3] ⟨[(2,.p 1 0),(3,.v (.bool true))],[⟨30,segL g⟩,⟨30,[.int .i64 g.dst,.int .i64 g.src,.int .i64 0,.int .i64 (seqAdd g.seq (segLen g)),.int .i64 20,.int .i64 0,.int .i64 0,.int .i64 (-1),.bool false,.bool false,.int .i64 0,.int .i64 0,.string (⟨#[]⟩ : ByteArray)]⟩,⟨30,[.int .i64 g.dst,.int .i64 g.src,.int .i64 0,.int .i64 (seqAdd g.seq (segLen g)),.int .i64 20,.int .i64 0,.int .i64 0,.int .i64 (-1),.bool false,.bool false,.int .i64 0,.int .i64 0,.string (⟨#[]⟩ : ByteArray)]⟩],[],[]⟩ (by kernel_rfl) ?_
  refine xw_ret ?_
  have hmod : resetFor g = ((⟨g.dst,g.src,0,seqAdd g.seq (segLen g),20,0,⟨0,(-1),false,false,0,0⟩,(⟨#[]⟩ : ByteArray)⟩),true) := by first | rfl | (simp [resetFor,zeroSeg, *]; done) | grind [resetFor,zeroSeg]
  exact ⟨[.agg #[.int .i64 g.dst,.int .i64 g.src,.int .i64 0,.int .i64 (seqAdd g.seq (segLen g)),.int .i64 20,.int .i64 0,.int .i64 0,.int .i64 (-1),.bool false,.bool false,.int .i64 0,.int .i64 0,.string (⟨#[]⟩ : ByteArray)],.bool true],by kernel_rfl,fun w' hb hf => by rw [hmod]; exact ⟨rfl,hb⟩⟩
set_option maxHeartbeats 1000000 in
theorem yiResetFor_c (g : Seg) (w : World) (hgz : g.body.size ≤ 1048576) : Calls Try.prog 14 #[.agg (segL g).toArray] w fun e w' => e = .returned (.tuple #[.agg (segL (resetFor g).1).toArray, .bool ((resetFor g).2)]) ∧ Below w.heap.size w w' := by
  refine x_calls (args := [.agg (segL g).toArray]) (fn := Try.f14) [] Try.func14 rfl Try.ntmps14 rfl (by simp) ?_
  refine xw_seq ?_
  refine xw_region ?_
  refine xl_end [1,2] ⟨[(1,.p 0 0),(2,.p 1 0)],[⟨30,segL g⟩,⟨30,segZ⟩],[],[]⟩ (by kernel_rfl) ?_
  refine xw_seq ?_
  refine xw_seq ?_
  refine xw_region ?_
  refine xl_callS 1 [1,2,5] [(1,.p 0 0),(2,.p 1 0),(5,.v (.agg (segL g).toArray))] 16 [.agg (segL g).toArray,.int .i64 4] (some 6) (by kernel_rfl) rfl (by kernel_rfl) rfl (by kernel_rfl) (xc_b fun ww hf => iHas_c g.src g.dst g.seq g.ack g.flags g.window g.o.mss g.o.scale g.o.sack g.o.stamp g.o.val g.o.echo g.body 4 ww ) ?_
  intro _
  refine xl_endS [1,2,6] [(1,.p 0 0),(2,.p 1 0),(6,.v (.bool (hasF g.flags 4)))] (by kernel_rfl) ?_
  refine xw_cond (b := hasF g.flags 4) (by kernel_rfl) (fun h1 => ?_) (fun h1 => ?_)
  refine xw_seq ?_
  refine xw_region ?_
  refine xl_opS 0 [2] [(2,.p 1 0)] (.agg (segZ).toArray) (by kernel_rfl) rfl (by kernel_rfl) rfl (fun _ _ _ ww hr => act_build [] hr.1 rfl (by kernel_rfl) (by kernel_rfl) ww) ?_
  refine xl_endS [2,3] [(2,.p 1 0),(3,.v (.bool false))] (by kernel_rfl) ?_
  refine xw_ret ?_
  have hmod : resetFor g = ((⟨0,0,0,0,0,0,⟨0,0,false,false,0,0⟩,(⟨#[]⟩ : ByteArray)⟩),false) := by first | rfl | (simp [resetFor,zeroSeg, *]; done) | grind [resetFor,zeroSeg]
  exact ⟨[.agg (segZ).toArray,.bool false],by kernel_rfl,fun w' hb hf => by rw [hmod]; exact ⟨rfl,hb⟩⟩
  refine xw_skip ?_
  refine xw_seq ?_
  refine xw_join ⟨[(1,.p 0 0),(2,.p 1 0),(4,.p 2 0)],[⟨30,segL g⟩,⟨30,segZ⟩,⟨30,[.int .i64 g.dst,.int .i64 g.src,.int .i64 0,.int .i64 0,.int .i64 4,.int .i64 0,.int .i64 0,.int .i64 (-1),.bool false,.bool false,.int .i64 0,.int .i64 0,.string (⟨#[]⟩ : ByteArray)]⟩],[],[]⟩ ?_ ?_
  refine xe_region [] (by kernel_rfl) (fun ρ σ => ?_)
  refine xe_tkS [0,1,2,3] [11,9,1,2] 4 [(11,.v (.int .i64 g.src)),(9,.v (.int .i64 g.dst)),(1,.p 0 0),(2,.p 1 0)] (fun _ _ h => h) rfl (by kernel_rfl) ?_
  refine xe_all [4,6] (by kernel_rfl) (by simp) ⟨?_,?_⟩
  refine xs_call 4 39 [] (some 12) rfl (by kernel_rfl) rfl (by kernel_rfl) (xc_b fun ww hf => iNoOptions_c  ww ) ?_
  intro _
  refine xe_op 5 (.agg #[.int .i64 g.dst,.int .i64 g.src,.int .i64 0,.int .i64 0,.int .i64 4,.int .i64 0,.int .i64 0,.int .i64 (-1),.bool false,.bool false,.int .i64 0,.int .i64 0,.string (⟨#[]⟩ : ByteArray)]) _ rfl (by kernel_rfl) (by kernel_rfl) (by kernel_rfl) (fun _ _ h => h) (by kernel_rfl) rfl (fun _ _ ww hA => act_build [(0,.int .i64 g.dst),(1,.int .i64 g.src),(4,.int .i64 4),(6,.agg #[.int .i64 0,.int .i64 (-1),.bool false,.bool false,.int .i64 0,.int .i64 0])] hA rfl (by kernel_rfl) (by kernel_rfl) ww) rfl ?_
  refine xe_all [6] (by kernel_rfl) (by simp) ?_
  refine xs_box 6 ⟨30,segZ⟩ _ rfl (by kernel_rfl) (by kernel_rfl) (by kernel_rfl) (by kernel_rfl) rfl ?_
  refine xe_all [7] (by kernel_rfl) (by simp) ?_
  refine xs_store 7 2 0 [.int .i64 g.dst,.int .i64 g.src,.int .i64 0,.int .i64 0,.int .i64 4,.int .i64 0,.int .i64 0,.int .i64 (-1),.bool false,.bool false,.int .i64 0,.int .i64 0,.string (⟨#[]⟩ : ByteArray)] _ rfl (by kernel_rfl) (by kernel_rfl) (by kernel_rfl) (by kernel_rfl) (by first | exact .inr rfl | exact .inl rfl) (by kernel_rfl) rfl ?_
  refine xe_done (by kernel_rfl) ?_
  exact wk_forget 3 0 [1,2,4] (by kernel_rfl) (by kernel_rfl) (by kernel_rfl)
  refine xs_box 6 ⟨30,segZ⟩ _ rfl (by kernel_rfl) (by kernel_rfl) (by kernel_rfl) (by kernel_rfl) rfl ?_
  refine xe_all [4] (by kernel_rfl) (by simp) ?_
  refine xs_call 4 39 [] (some 12) rfl (by kernel_rfl) rfl (by kernel_rfl) (xc_b fun ww hf => iNoOptions_c  ww ) ?_
  intro _
  refine xe_op 5 (.agg #[.int .i64 g.dst,.int .i64 g.src,.int .i64 0,.int .i64 0,.int .i64 4,.int .i64 0,.int .i64 0,.int .i64 (-1),.bool false,.bool false,.int .i64 0,.int .i64 0,.string (⟨#[]⟩ : ByteArray)]) _ rfl (by kernel_rfl) (by kernel_rfl) (by kernel_rfl) (fun _ _ h => h) (by kernel_rfl) rfl (fun _ _ ww hA => act_build [(0,.int .i64 g.dst),(1,.int .i64 g.src),(4,.int .i64 4),(6,.agg #[.int .i64 0,.int .i64 (-1),.bool false,.bool false,.int .i64 0,.int .i64 0])] hA rfl (by kernel_rfl) (by kernel_rfl) ww) rfl ?_
  refine xe_all [7] (by kernel_rfl) (by simp) ?_
  refine xs_store 7 2 0 [.int .i64 g.dst,.int .i64 g.src,.int .i64 0,.int .i64 0,.int .i64 4,.int .i64 0,.int .i64 0,.int .i64 (-1),.bool false,.bool false,.int .i64 0,.int .i64 0,.string (⟨#[]⟩ : ByteArray)] _ rfl (by kernel_rfl) (by kernel_rfl) (by kernel_rfl) (by kernel_rfl) (by first | exact .inr rfl | exact .inl rfl) (by kernel_rfl) rfl ?_
  refine xe_done (by kernel_rfl) ?_
  exact wk_forget 3 0 [1,2,4] (by kernel_rfl) (by kernel_rfl) (by kernel_rfl)
  refine xw_seq ?_
  refine xw_seq ?_
  refine xw_region ?_
  refine xl_callS 1 [1,2,4,14] [(1,.p 0 0),(2,.p 1 0),(4,.p 2 0),(14,.v (.agg (segL g).toArray))] 16 [.agg (segL g).toArray,.int .i64 16] (some 15) (by kernel_rfl) rfl (by kernel_rfl) rfl (by kernel_rfl) (xc_b fun ww hf => iHas_c g.src g.dst g.seq g.ack g.flags g.window g.o.mss g.o.scale g.o.sack g.o.stamp g.o.val g.o.echo g.body 16 ww ) ?_
  intro _
  refine xl_endS [1,2,4,15] [(1,.p 0 0),(2,.p 1 0),(4,.p 2 0),(15,.v (.bool (hasF g.flags 16)))] (by kernel_rfl) ?_
  refine xw_cond (b := hasF g.flags 16) (by kernel_rfl) (fun h2 => ?_) (fun h2 => ?_)
  refine xw_region ?_
  refine xl_end [2,4] ⟨[(2,.p 1 0),(4,.p 2 0)],[⟨30,segL g⟩,⟨30,segZ⟩,⟨30,[.int .i64 g.dst,.int .i64 g.src,.int .i64 g.ack,.int .i64 0,.int .i64 4,.int .i64 0,.int .i64 0,.int .i64 (-1),.bool false,.bool false,.int .i64 0,.int .i64 0,.string (⟨#[]⟩ : ByteArray)]⟩],[],[]⟩ (by kernel_rfl) ?_
  refine xw_seq ?_
  refine xw_region ?_
  refine xl_end [2,3] ⟨[(2,.p 1 0),(3,.v (.bool true))],[⟨30,segL g⟩,⟨30,[.int .i64 g.dst,.int .i64 g.src,.int .i64 g.ack,.int .i64 0,.int .i64 4,.int .i64 0,.int .i64 0,.int .i64 (-1),.bool false,.bool false,.int .i64 0,.int .i64 0,.string (⟨#[]⟩ : ByteArray)]⟩,⟨30,[.int .i64 g.dst,.int .i64 g.src,.int .i64 g.ack,.int .i64 0,.int .i64 4,.int .i64 0,.int .i64 0,.int .i64 (-1),.bool false,.bool false,.int .i64 0,.int .i64 0,.string (⟨#[]⟩ : ByteArray)]⟩],[],[]⟩ (by kernel_rfl) ?_
  refine xw_ret ?_
  have hmod : resetFor g = ((⟨g.dst,g.src,g.ack,0,4,0,⟨0,(-1),false,false,0,0⟩,(⟨#[]⟩ : ByteArray)⟩),true) := by first | rfl | (simp [resetFor,zeroSeg, *]; done) | grind [resetFor,zeroSeg]
  exact ⟨[.agg #[.int .i64 g.dst,.int .i64 g.src,.int .i64 g.ack,.int .i64 0,.int .i64 4,.int .i64 0,.int .i64 0,.int .i64 (-1),.bool false,.bool false,.int .i64 0,.int .i64 0,.string (⟨#[]⟩ : ByteArray)],.bool true],by kernel_rfl,fun w' hb hf => by rw [hmod]; exact ⟨rfl,hb⟩⟩
  refine xw_seq ?_
  refine xw_region ?_
  refine xl_end [1,2,4] ⟨[(1,.p 0 0),(2,.p 1 0),(4,.p 2 0)],[⟨30,segL g⟩,⟨30,segZ⟩,⟨30,[.int .i64 g.dst,.int .i64 g.src,.int .i64 0,.int .i64 0,.int .i64 20,.int .i64 0,.int .i64 0,.int .i64 (-1),.bool false,.bool false,.int .i64 0,.int .i64 0,.string (⟨#[]⟩ : ByteArray)]⟩],[],[]⟩ (by kernel_rfl) ?_
  refine xe_region [true,true,false] (by kernel_rfl) (fun ρ σ => ?_)
  refine xe_tkS [0,1,2] [25,24,2,4] 4 [(25,.v (.agg (segL g).toArray)),(24,.v (.int .i64 g.seq)),(2,.p 1 0),(4,.p 2 0)] (fun _ _ h => h) rfl (by kernel_rfl) ?_
  refine xe_all [3] (by kernel_rfl) (by simp) ?_
  refine xs_call 3 47 [.agg (segL g).toArray] (some 26) rfl (by kernel_rfl) rfl (by kernel_rfl) (xc_b fun ww hf => iSegmentLen_c g.src g.dst g.seq g.ack g.flags g.window g.o.mss g.o.scale g.o.sack g.o.stamp g.o.val g.o.echo g.body ww (by omega)) ?_
  intro _
  refine xe_all [4] (by kernel_rfl) (by simp) ?_
  refine xs_call 4 46 [.int .i64 g.seq,.int .i64 (segLen g)] (some 27) rfl (by kernel_rfl) rfl (by kernel_rfl) (xc_s fun ww hf => iSeqAdd_c g.seq (segLen g) ww ) ?_
  intro _
  refine xe_tkS [5] [28,27,2,4] 1 [(28,.p 2 3),(27,.v (.int .i64 (seqAdd g.seq (segLen g)))),(2,.p 1 0),(4,.p 2 0)] (fun _ _ h => h) rfl (by kernel_rfl) ?_
  refine xe_all [6] (by kernel_rfl) (by simp) ?_
  refine xs_store 6 2 3 [.int .i64 (seqAdd g.seq (segLen g))] _ rfl (by kernel_rfl) (by kernel_rfl) (by kernel_rfl) (by kernel_rfl) (by first | exact .inr rfl | exact .inl rfl) (by kernel_rfl) rfl ?_
  refine xe_done (by kernel_rfl) ?_
  refine xw_seq ?_
  refine xw_region ?_
  refine xl_end [2,3] ⟨[(2,.p 1 0),(3,.v (.bool true))],[⟨30,segL g⟩,⟨30,[.int .i64 g.dst,.int .i64 g.src,.int .i64 0,.int .i64 (seqAdd g.seq (segLen g)),.int .i64 20,.int .i64 0,.int .i64 0,.int .i64 (-1),.bool false,.bool false,.int .i64 0,.int .i64 0,.string (⟨#[]⟩ : ByteArray)]⟩,⟨30,[.int .i64 g.dst,.int .i64 g.src,.int .i64 0,.int .i64 (seqAdd g.seq (segLen g)),.int .i64 20,.int .i64 0,.int .i64 0,.int .i64 (-1),.bool false,.bool false,.int .i64 0,.int .i64 0,.string (⟨#[]⟩ : ByteArray)]⟩],[],[]⟩ (by kernel_rfl) ?_
  refine xw_ret ?_
  have hmod : resetFor g = ((⟨g.dst,g.src,0,seqAdd g.seq (segLen g),20,0,⟨0,(-1),false,false,0,0⟩,(⟨#[]⟩ : ByteArray)⟩),true) := by first | rfl | (simp [resetFor,zeroSeg, *]; done) | grind [resetFor,zeroSeg]
  exact ⟨[.agg #[.int .i64 g.dst,.int .i64 g.src,.int .i64 0,.int .i64 (seqAdd g.seq (segLen g)),.int .i64 20,.int .i64 0,.int .i64 0,.int .i64 (-1),.bool false,.bool false,.int .i64 0,.int .i64 0,.string (⟨#[]⟩ : ByteArray)],.bool true],by kernel_rfl,fun w' hb hf => by rw [hmod]; exact ⟨rfl,hb⟩⟩
set_option maxHeartbeats 2000000 in
theorem l1Bytes_c (g : Nat) (code : List Int) (A : Option Addr) (cap : Nat) (n : Int) (w : World) (B : Nat) (hB : B ≤ w.heap.size) (hc : (curF B g 95 (.slice A code.length cap) code.length).p w) (hl : Sl w (.slice A code.length cap) 1 (code.map byteRow)) (hap : ¬ (slF (.slice A code.length cap) 1 (code.map byteRow)).blk g) (hn : code.length ≤ 1048576) (hn0 : 0 ≤ n ∧ n ≤ 4096) : Calls Try.prog 85 #[.pointer (some ⟨g, 0, none⟩), .int .i64 n] w fun e w' => ∃ y : {y : List Int × (Option Addr × Nat) // y.1.length ≤ 4096}, e = .returned (.slice y.1.2.1 y.1.1.length y.1.2.2) ∧ (curF B g 95 (.slice A code.length cap) code.length).p w' ∧ (rowF w.heap.size 5 1 (.slice y.1.2.1 y.1.1.length y.1.2.2) (y.1.1.map byteRow)).p w' ∧ g < w.heap.size ∧ Chgd (fun b => b = g) w w' := by
  have hq_code := Sl.capLe hl
  refine x_callsMA (args := [.pointer (some ⟨g,0,none⟩),.int .i64 n]) (fn := Try.f85) [curF B g 95 (.slice A code.length cap) code.length,slF (.slice A code.length cap) 1 (code.map byteRow),frF w (fun b => b = g)] B Try.func85 rfl Try.ntmps85 rfl hB (by simp only [List.mem_cons,List.not_mem_nil,or_false,forall_eq_or_imp,forall_eq]; exact ⟨hc,hl,frF_start w _⟩) (apart_cur hap rfl) ?_
  have hgl : g < w.heap.size := (curF B g 95 (.slice A code.length cap) code.length).lt w g hc rfl
  refine xw_seq ?_
  refine xw_region ?_
  refine xl_end [0,1] ⟨[(0,.v (.pointer (some ⟨g,0,none⟩))),(1,.v (.int .i64 n))],[],[],[curF B g 95 (.slice A code.length cap) code.length,slF (.slice A code.length cap) 1 (code.map byteRow),frF w (fun b => b = g)]⟩ (by kernel_rfl) ?_
  refine xw_seq ?_
  refine xw_region ?_
  refine xl_hvS 0 [0,1] [(0,.v (.pointer (some ⟨g,0,none⟩))),(1,.v (.int .i64 n))] (by kernel_rfl) rfl (by kernel_rfl) rfl (by kernel_rfl) (hv_build (e := 5) (K := 1) (bytes := 1) [] rfl (by kernel_rfl) (by kernel_rfl) (by kernel_rfl) (by kernel_rfl) (by kernel_rfl) (rs := ([] : List Int).map byteRow) rfl) ?_
  intro g1
  refine xl_endS [0,1,5] [(0,.v (.pointer (some ⟨g,0,none⟩))),(1,.v (.int .i64 n)),(5,.v (.slice (some ⟨g1,0,none⟩) 0 0))] (by kernel_rfl) ?_
  refine xw_seq ?_
  refine xw_seq ?_
  refine xw_region ?_
  refine xl_endS [0,1,5,6] [(0,.v (.pointer (some ⟨g,0,none⟩))),(1,.v (.int .i64 n)),(5,.v (.slice (some ⟨g1,0,none⟩) 0 0)),(6,.v (.int .i64 0))] (by kernel_rfl) ?_
  refine xw_block ?_
  refine xw_loopW (α := {x : Nat × List Int × Option Addr × Nat // (fun (i : Nat) (bs : List Int) (A1 : Option Addr) (c1 : Nat) => (i : Int) ≤ n ∧ bs.length = i) x.1 x.2.1 x.2.2.1 x.2.2.2}) (fun x => (fun (i : Nat) (bs : List Int) (A1 : Option Addr) (c1 : Nat) => (⟨[(0,.v (.pointer (some ⟨g,0,none⟩))),(1,.v (.int .i64 n)),(5,.v (.slice A1 bs.length c1)),(6,.v (.int .i64 (i : Int)))],[],[],[rowF (cutW w B).heap.size 5 1 (.slice A1 bs.length c1) (bs.map byteRow),curF B g 95 (.slice A code.length cap) code.length,slF (.slice A code.length cap) 1 (code.map byteRow),frF w (fun b => b = g)]⟩ : St)) x.1.1 x.1.2.1 x.1.2.2.1 x.1.2.2.2) (fun x => (fun (i : Nat) (bs : List Int) (A1 : Option Addr) (c1 : Nat) => n.toNat - i) x.1.1 x.1.2.1 x.1.2.2.1 x.1.2.2.2) ⟨(0,([] : List Int),(some ⟨g1,0,none⟩),0),⟨(by omega),rfl⟩⟩ ((wk_pick [0,1,2,3] [rowF (cutW w B).heap.size 5 1 (.slice (some ⟨g1,0,none⟩) 0 0) (([] : List Int).map byteRow),curF B g 95 (.slice A code.length cap) code.length,slF (.slice A code.length cap) 1 (code.map byteRow),frF w (fun b => b = g)] (by kernel_rfl) (by kernel_rfl)).trans <| wk_forget 0 0 [0,1,5,6] (by kernel_rfl) (by kernel_rfl) (by kernel_rfl)) ?_
  rintro ⟨⟨i,bs,A1,c1⟩,hi,hbl⟩
  refine xw_wk (Wk.of_eq (s' := ⟨[(0,.v (.pointer (some ⟨g,0,none⟩))),(1,.v (.int .i64 n)),(5,.v (.slice A1 bs.length c1)),(6,.v (.int .i64 (i : Int)))],[],[],[rowF (cutW w B).heap.size 5 1 (.slice A1 bs.length c1) (bs.map byteRow),curF B g 95 (.slice A code.length cap) code.length,slF (.slice A code.length cap) 1 (code.map byteRow),frF w (fun b => b = g)]⟩) rfl) ?_
  try dsimp only at hi hbl
  refine xw_seq ?_
  refine xw_seq ?_
  refine xw_region ?_
  refine xl_endS [0,1,5,6,10] [(0,.v (.pointer (some ⟨g,0,none⟩))),(1,.v (.int .i64 n)),(5,.v (.slice A1 bs.length c1)),(6,.v (.int .i64 (i : Int))),(10,.v (.bool (decide ((i : Int) < n))))] (by kernel_rfl) ?_
  refine xw_cond (b := decide ((i : Int) < n)) (by kernel_rfl) (fun h2 => ?_) (fun h2 => ?_)
  have h2p : ((i : Int) < n) := of_decide_eq_true h2
  have hlt : (i : Int) < n := of_decide_eq_true h2
  refine xw_skip ?_
  refine xw_seq ?_
  refine xw_block ?_
  refine xw_region ?_
  refine xl_callWS 2 [0,1,5,6,13,14] [(0,.v (.pointer (some ⟨g,0,none⟩))),(1,.v (.int .i64 n)),(5,.v (.slice A1 bs.length c1)),(6,.v (.int .i64 (i : Int))),(13,.v (.slice A1 bs.length c1)),(14,.v (.pointer (some ⟨g,0,none⟩)))] 83 [.pointer (some ⟨g,0,none⟩)] (some 15) 1 (curF B g 95 (.slice A code.length cap) code.length) (by kernel_rfl) rfl (by kernel_rfl) rfl (by kernel_rfl) rfl rfl (fun ww b h hb => Nat.le_trans (cutW_le w B) (cur_lo h hb)) (by kernel_rfl) (xcm_cur fun ww hw hf => l1Byte_c g code A cap  ww B (Nat.le_trans (by first | exact Nat.le_refl _ | exact Nat.le_of_eq (cutW_size hB).symm) hw) (hf (curF B g 95 (.slice A code.length cap) code.length) (by simp)) (hf (slF (.slice A code.length cap) 1 (code.map byteRow)) (by simp)) hap (by omega)  ) ?_
  rintro ⟨y3,hy3⟩
  refine xl_hvS 1 [0,1,5,6,13,16] [(0,.v (.pointer (some ⟨g,0,none⟩))),(1,.v (.int .i64 n)),(5,.v (.slice A1 bs.length c1)),(6,.v (.int .i64 (i : Int))),(13,.v (.slice A1 bs.length c1)),(16,.v (.int .u8 (IntKind.u8.wrap y3)))] (by kernel_rfl) rfl (by kernel_rfl) rfl (by kernel_rfl) (hv_build (e := 5) (K := 1) (bytes := 1) [.int .u8 (IntKind.u8.wrap y3)] rfl (by kernel_rfl) (by kernel_rfl) (by kernel_rfl) (by kernel_rfl) (by kernel_rfl) (rs := ([IntKind.u8.wrap y3] : List Int).map byteRow) rfl) ?_
  intro g4
  refine xl_hvS 0 [0,1,5,6,13,17] [(0,.v (.pointer (some ⟨g,0,none⟩))),(1,.v (.int .i64 n)),(5,.v (.slice A1 bs.length c1)),(6,.v (.int .i64 (i : Int))),(13,.v (.slice A1 bs.length c1)),(17,.v (.slice (some ⟨g4,0,none⟩) 1 1))] (by kernel_rfl) rfl (by kernel_rfl) rfl (by kernel_rfl) (hv_append (e := 5) (K := 1) (bytes := 1) (i := 2) (q := (bs ++ ([IntKind.u8.wrap y3] : List Int)).length) (new := ([IntKind.u8.wrap y3] : List Int).map byteRow) (rs' := (bs ++ ([IntKind.u8.wrap y3] : List Int)).map byteRow) rfl rfl rfl rfl (by kernel_rfl) (by kernel_rfl) (by kernel_rfl) rfl (by simp) (by rw [List.map_append]) (by simp) (fun ww hf => (rowF_sl (hf (rowF (cutW w B).heap.size 5 1 (.slice (some ⟨g4,0,none⟩) 1 1) (([IntKind.u8.wrap y3] : List Int).map byteRow)) (by simp)))) (by intro r hr; obtain ⟨x,hx,rfl⟩ := List.mem_map.1 hr; exact ⟨rfl,by simp [byteRow,Value.oneCell']⟩) (by (try simp only [List.length_map,List.length_append,List.length_cons,List.length_nil,List.length_take,List.length_drop,maxLen]); omega) (by (try simp only [List.length_map,List.length_append,List.length_cons,List.length_nil,List.length_take,List.length_drop,maxLen]); omega)) ?_
  rintro ⟨v5a,v5c⟩
  refine xl_endS [0,1,5,6] [(0,.v (.pointer (some ⟨g,0,none⟩))),(1,.v (.int .i64 n)),(5,.v (.slice v5a ((bs ++ ([IntKind.u8.wrap y3] : List Int)).length) v5c)),(6,.v (.int .i64 (i : Int)))] (by kernel_rfl) ?_
  refine xw_region ?_
  refine xl_runS 3 [0,1,5,6] [(0,.v (.pointer (some ⟨g,0,none⟩))),(1,.v (.int .i64 n)),(5,.v (.slice v5a ((bs ++ ([IntKind.u8.wrap y3] : List Int)).length) v5c)),(6,.v (.int .i64 (IntKind.i64.wrap ((i : Int) + 1))))] (by kernel_rfl) ?_
  refine xl_eqS (t' := [(0,.v (.pointer (some ⟨g,0,none⟩))),(1,.v (.int .i64 n)),(5,.v (.slice v5a ((bs ++ ([IntKind.u8.wrap y3] : List Int)).length) v5c)),(6,.v (.int .i64 ((i : Int) + 1)))]) (by rw [show (IntKind.i64.wrap ((i : Int) + 1)) = ((i : Int) + 1) from wrap_id (by omega) (by omega)]) ?_
  refine xl_endS [0,1,5,6] [(0,.v (.pointer (some ⟨g,0,none⟩))),(1,.v (.int .i64 n)),(5,.v (.slice v5a ((bs ++ ([IntKind.u8.wrap y3] : List Int)).length) v5c)),(6,.v (.int .i64 ((i : Int) + 1)))] (by kernel_rfl) ?_
  exact ⟨⟨(i + 1,(bs ++ ([IntKind.u8.wrap y3] : List Int)),v5a,v5c),⟨by omega,by simp [hbl]⟩⟩,(wk_pick [0,2,3,4] [rowF (cutW w B).heap.size 5 1 (.slice v5a ((bs ++ ([IntKind.u8.wrap y3] : List Int)).length) v5c) ((bs ++ ([IntKind.u8.wrap y3] : List Int)).map byteRow),curF B g 95 (.slice A code.length cap) code.length,slF (.slice A code.length cap) 1 (code.map byteRow),frF w (fun b => b = g)] (by kernel_rfl) (by kernel_rfl)).trans <| wk_forget 0 0 [0,1,5,6] (by kernel_rfl) (by kernel_rfl) (by kernel_rfl),by show (fun (i : Nat) (bs : List Int) (A1 : Option Addr) (c1 : Nat) => n.toNat - i) (i + 1) (bs ++ ([IntKind.u8.wrap y3] : List Int)) v5a v5c < n.toNat - i; (dsimp only; omega)⟩
  have h2p : ¬ ((i : Int) < n) := of_decide_eq_false h2
  have hge : ¬ (i : Int) < n := of_decide_eq_false h2
  refine xw_exit ?_
  refine xw_seq ?_
  refine xw_region ?_
  refine xl_endS [4] [(4,.v (.slice A1 bs.length c1))] (by kernel_rfl) ?_
  refine xw_ret ?_
  exact ⟨[.slice A1 bs.length c1],by kernel_rfl,fun w' hb hf ha => ⟨⟨(bs,A1,c1),by dsimp only; omega⟩,rfl,hf (curF B g 95 (.slice A code.length cap) code.length) (by simp),rowF_raise (hf (rowF (cutW w B).heap.size 5 1 (.slice A1 bs.length c1) (bs.map byteRow)) (by simp)) (row_new ha (i := 0) (j := 1) (k := 3) rfl rfl rfl (by decide) (by decide)),hgl,frF_chgd (hf (frF w (fun b => b = g)) (by simp)) hb rfl rfl rfl⟩⟩
theorem l5Long_c (n : Int) (w : World) (h0 : 0 ≤ n ∧ n ≤ 4096) : Calls Try.prog 77 #[.int .i64 n] w fun e w' => e = .returned (.string (bstr (List.replicate n.toNat 0))) ∧ Below w.heap.size w w' := by
  obtain ⟨m,rfl⟩ : ∃ m : Nat,n = (m : Int) := ⟨n.toNat,by omega⟩
  have hm : m ≤ 4096 := by omega
  refine x_calls (args := [.int .i64 (m : Int)]) (fn := Try.f77) [] Try.func77 rfl Try.ntmps77 rfl (by simp) ?_
  refine xw_seq ?_
  refine xw_region ?_
  refine xl_end [0] ⟨[(0,.v (.int .i64 (m : Int)))],[],[],[]⟩ (by kernel_rfl) ?_
  refine xw_seq ?_
  refine xw_region ?_
  refine xl_hvS 1 [4] [(4,.v (.int .i64 (m : Int)))] (by kernel_rfl) rfl (by kernel_rfl) rfl (by kernel_rfl) (hv_make (kl := .i64) (kc := .i64) (e := 5) (K := 1) (bytes := 1) (m := m) (z := .int .u8 0) (rs := (List.replicate m 0).map byteRow) rfl (by kernel_rfl) (by kernel_rfl) (by kernel_rfl) (by kernel_rfl) (by (try simp only [List.length_map,List.length_append,List.length_cons,List.length_nil,List.length_take,List.length_drop,maxLen]); omega) (by (try simp only [List.length_map,List.length_append,List.length_cons,List.length_nil,List.length_take,List.length_drop,maxLen]); omega) (by rw [List.map_replicate]; rfl)) ?_
  intro g1
  refine xl_endS [3] [(3,.v (.slice (some ⟨g1,0,none⟩) m m))] (by kernel_rfl) ?_
  refine xw_seq ?_
  refine xw_region ?_
  refine xl_opS 1 [6] [(6,.v (.slice (some ⟨g1,0,none⟩) m m))] (.string (bstr (List.replicate m 0))) (by kernel_rfl) rfl (by kernel_rfl) rfl (fun _ _ _ ww hr => act_b2s (e := 5) (List.replicate m 0) hr.1 rfl (by kernel_rfl) (by kernel_rfl) (by kernel_rfl) rfl (rowF_sl (hr.2.fact (rowF w.heap.size 5 1 (.slice (some ⟨g1,0,none⟩) m m) ((List.replicate m 0).map byteRow)) (by simp)).1)) ?_
  refine xl_endS [2] [(2,.v (.string (bstr (List.replicate m 0))))] (by kernel_rfl) ?_
  refine xw_ret ?_
  exact ⟨[.string (bstr (List.replicate m 0))],by kernel_rfl,fun w' hb hf => ⟨rfl,hb⟩⟩
set_option maxHeartbeats 2000000 in
theorem l9Flags_c (g : Nat) (code : List Int) (A : Option Addr) (cap : Nat)  (w : World) (B : Nat) (hB : B ≤ w.heap.size) (hc : (curF B g 95 (.slice A code.length cap) code.length).p w) (hl : Sl w (.slice A code.length cap) 1 (code.map byteRow)) (hap : ¬ (slF (.slice A code.length cap) 1 (code.map byteRow)).blk g) (hn : code.length ≤ 1048576)  : Calls Try.prog 84 #[.pointer (some ⟨g, 0, none⟩)] w fun e w' => ∃ y : {y : Int // True}, e = .returned (.int .i64 y.1) ∧ (curF B g 95 (.slice A code.length cap) code.length).p w' ∧ Chgd (fun b => b = g) w w' := by
  have hq_code := Sl.capLe hl
  refine x_callsM (args := [.pointer (some ⟨g,0,none⟩)]) (fn := Try.f84) [curF B g 95 (.slice A code.length cap) code.length,slF (.slice A code.length cap) 1 (code.map byteRow),frF w (fun b => b = g)] B Try.func84 rfl Try.ntmps84 rfl hB (by simp only [List.mem_cons,List.not_mem_nil,or_false,forall_eq_or_imp,forall_eq]; exact ⟨hc,hl,frF_start w _⟩) (apart_cur hap rfl) ?_
  refine xw_seq ?_
  refine xw_region ?_
  refine xl_end [0] ⟨[(0,.v (.pointer (some ⟨g,0,none⟩)))],[],[],[curF B g 95 (.slice A code.length cap) code.length,slF (.slice A code.length cap) 1 (code.map byteRow),frF w (fun b => b = g)]⟩ (by kernel_rfl) ?_
  refine xw_seq ?_
  refine xw_region ?_
  refine xl_callWS 2 [3,4] [(3,.v (.pointer (some ⟨g,0,none⟩))),(4,.v (.pointer (some ⟨g,0,none⟩)))] 75 [.pointer (some ⟨g,0,none⟩),.int .i64 64] (some 5) 0 (curF B g 95 (.slice A code.length cap) code.length) (by kernel_rfl) rfl (by kernel_rfl) rfl (by kernel_rfl) rfl rfl (fun ww b h hb => Nat.le_trans (cutW_le w B) (cur_lo h hb)) (by kernel_rfl) (xcm_cur fun ww hw hf => l1Below_c g code A cap 64 ww B (Nat.le_trans (by first | exact Nat.le_refl _ | exact Nat.le_of_eq (cutW_size hB).symm) hw) (hf (curF B g 95 (.slice A code.length cap) code.length) (by simp)) (hf (slF (.slice A code.length cap) 1 (code.map byteRow)) (by simp)) hap (by omega)  ) ?_
  rintro ⟨y1,hy1⟩
  obtain ⟨hy10,hy11⟩ := hy1
  refine xl_hvS 0 [3,5] [(3,.v (.pointer (some ⟨g,0,none⟩))),(5,.v (.int .i64 y1))] (by kernel_rfl) rfl (by kernel_rfl) rfl (by kernel_rfl) (hv_build (e := 3) (K := 1) (bytes := 8) [.int .i64 2,.int .i64 16,.int .i64 16,.int .i64 18,.int .i64 24,.int .i64 17,.int .i64 4,.int .i64 20,.int .i64 0,.int .i64 y1] rfl (by kernel_rfl) (by kernel_rfl) (by kernel_rfl) (by kernel_rfl) (by kernel_rfl) (rs := ([2,16,16,18,24,17,4,20,0,y1] : List Int).map intRow) rfl) ?_
  intro g2
  refine xl_know (φ := ¬ (slF (.slice (some ⟨g2,0,none⟩) 10 10) 1 (([2,16,16,18,24,17,4,20,0,y1] : List Int).map intRow)).blk g) (fun _ _ _ _ hr => fun hb => hr.2.apart 0 1 (rowF (cutW w B).heap.size 3 1 (.slice (some ⟨g2,0,none⟩) 10 10) (([2,16,16,18,24,17,4,20,0,y1] : List Int).map intRow)) (curF B g 95 (.slice A code.length cap) code.length) rfl rfl (by decide) rfl g (rowF_sblk hb) rfl) (fun hk3 => ?_)
  refine xl_callWS 0 [3,6] [(3,.v (.pointer (some ⟨g,0,none⟩))),(6,.v (.slice (some ⟨g2,0,none⟩) 10 10))] 52 [.pointer (some ⟨g,0,none⟩),.slice (some ⟨g2,0,none⟩) 10 10] (some 7) 1 (curF B g 95 (.slice A code.length cap) code.length) (by kernel_rfl) rfl (by kernel_rfl) rfl (by kernel_rfl) rfl rfl (fun ww b h hb => Nat.le_trans (cutW_le w B) (cur_lo h hb)) (by kernel_rfl) (xcm_cur fun ww hw hf => l1PickInt_c g code A cap ([2,16,16,18,24,17,4,20,0,y1] : List Int) (.slice (some ⟨g2,0,none⟩) 10 10) ww B (Nat.le_trans (by first | exact Nat.le_refl _ | exact Nat.le_of_eq (cutW_size hB).symm) hw) (hf (curF B g 95 (.slice A code.length cap) code.length) (by simp)) (hf (slF (.slice A code.length cap) 1 (code.map byteRow)) (by simp)) hap (by omega) (rowF_sl (hf (rowF (cutW w B).heap.size 3 1 (.slice (some ⟨g2,0,none⟩) 10 10) (([2,16,16,18,24,17,4,20,0,y1] : List Int).map intRow)) (by simp))) hk3 (by simp)) ?_
  rintro ⟨y4,hy4⟩
  refine xl_endS [2] [(2,.v (.int .i64 y4))] (by kernel_rfl) ?_
  refine xw_ret ?_
  exact ⟨[.int .i64 y4],by kernel_rfl,fun w' hb hf => ⟨⟨y4,trivial⟩,rfl,hf (curF B g 95 (.slice A code.length cap) code.length) (by simp),frF_chgd (hf (frF w (fun b => b = g)) (by simp)) hb rfl rfl rfl⟩⟩
set_option maxHeartbeats 2000000 in
theorem l9Segment_c (g : Nat) (code : List Int) (A : Option Addr) (cap : Nat)  (w : World) (B : Nat) (hB : B ≤ w.heap.size) (hc : (curF B g 95 (.slice A code.length cap) code.length).p w) (hl : Sl w (.slice A code.length cap) 1 (code.map byteRow)) (hap : ¬ (slF (.slice A code.length cap) 1 (code.map byteRow)).blk g) (hn : code.length ≤ 1048576)  : Calls Try.prog 76 #[.pointer (some ⟨g, 0, none⟩)] w fun e w' => ∃ y : {y : Seg // y.body.size ≤ 4096}, e = .returned (.agg (segL y.1).toArray) ∧ (curF B g 95 (.slice A code.length cap) code.length).p w' ∧ Chgd (fun b => b = g) w w' := by
  have hq_code := Sl.capLe hl
  refine x_callsM (args := [.pointer (some ⟨g,0,none⟩)]) (fn := Try.f76) [curF B g 95 (.slice A code.length cap) code.length,slF (.slice A code.length cap) 1 (code.map byteRow),frF w (fun b => b = g)] B Try.func76 rfl Try.ntmps76 rfl hB (by simp only [List.mem_cons,List.not_mem_nil,or_false,forall_eq_or_imp,forall_eq]; exact ⟨hc,hl,frF_start w _⟩) (apart_cur hap rfl) ?_
  refine xw_seq ?_
  refine xw_region ?_
  refine xl_end [0,2] ⟨[(0,.v (.pointer (some ⟨g,0,none⟩))),(2,.p 0 0)],[⟨30,segZ⟩],[],[curF B g 95 (.slice A code.length cap) code.length,slF (.slice A code.length cap) 1 (code.map byteRow),frF w (fun b => b = g)]⟩ (by kernel_rfl) ?_
  refine xw_seq ?_
  refine xw_region ?_
  refine xl_hvS 1 [0,2,3] [(0,.v (.pointer (some ⟨g,0,none⟩))),(2,.p 0 0),(3,.v (.pointer (some ⟨g,0,none⟩)))] (by kernel_rfl) rfl (by kernel_rfl) rfl (by kernel_rfl) (hv_build (e := 3) (K := 1) (bytes := 8) [.int .i64 40000,.int .i64 40001,.int .i64 80] rfl (by kernel_rfl) (by kernel_rfl) (by kernel_rfl) (by kernel_rfl) (by kernel_rfl) (rs := ([40000,40001,80] : List Int).map intRow) rfl) ?_
  intro g1
  refine xl_know (φ := ¬ (slF (.slice (some ⟨g1,0,none⟩) 3 3) 1 (([40000,40001,80] : List Int).map intRow)).blk g) (fun _ _ _ _ hr => fun hb => hr.2.apart 0 1 (rowF (cutW w B).heap.size 3 1 (.slice (some ⟨g1,0,none⟩) 3 3) (([40000,40001,80] : List Int).map intRow)) (curF B g 95 (.slice A code.length cap) code.length) rfl rfl (by decide) rfl g (rowF_sblk hb) rfl) (fun hk2 => ?_)
  refine xl_callWS 0 [0,2,3,4] [(0,.v (.pointer (some ⟨g,0,none⟩))),(2,.p 0 0),(3,.v (.pointer (some ⟨g,0,none⟩))),(4,.v (.slice (some ⟨g1,0,none⟩) 3 3))] 52 [.pointer (some ⟨g,0,none⟩),.slice (some ⟨g1,0,none⟩) 3 3] (some 5) 1 (curF B g 95 (.slice A code.length cap) code.length) (by kernel_rfl) rfl (by kernel_rfl) rfl (by kernel_rfl) rfl rfl (fun ww b h hb => Nat.le_trans (cutW_le w B) (cur_lo h hb)) (by kernel_rfl) (xcm_cur fun ww hw hf => l1PickInt_c g code A cap ([40000,40001,80] : List Int) (.slice (some ⟨g1,0,none⟩) 3 3) ww B (Nat.le_trans (by first | exact Nat.le_refl _ | exact Nat.le_of_eq (cutW_size hB).symm) hw) (hf (curF B g 95 (.slice A code.length cap) code.length) (by simp)) (hf (slF (.slice A code.length cap) 1 (code.map byteRow)) (by simp)) hap (by omega) (rowF_sl (hf (rowF (cutW w B).heap.size 3 1 (.slice (some ⟨g1,0,none⟩) 3 3) (([40000,40001,80] : List Int).map intRow)) (by simp))) hk2 (by simp)) ?_
  rintro ⟨y3,hy3⟩
  refine xl_hvS 1 [0,2,5,6] [(0,.v (.pointer (some ⟨g,0,none⟩))),(2,.p 0 0),(5,.v (.int .i64 y3)),(6,.v (.pointer (some ⟨g,0,none⟩)))] (by kernel_rfl) rfl (by kernel_rfl) rfl (by kernel_rfl) (hv_build (e := 3) (K := 1) (bytes := 8) [.int .i64 80,.int .i64 80,.int .i64 81] rfl (by kernel_rfl) (by kernel_rfl) (by kernel_rfl) (by kernel_rfl) (by kernel_rfl) (rs := ([80,80,81] : List Int).map intRow) rfl) ?_
  intro g4
  refine xl_know (φ := ¬ (slF (.slice (some ⟨g4,0,none⟩) 3 3) 1 (([80,80,81] : List Int).map intRow)).blk g) (fun _ _ _ _ hr => fun hb => hr.2.apart 0 1 (rowF (cutW w B).heap.size 3 1 (.slice (some ⟨g4,0,none⟩) 3 3) (([80,80,81] : List Int).map intRow)) (curF B g 95 (.slice A code.length cap) code.length) rfl rfl (by decide) rfl g (rowF_sblk hb) rfl) (fun hk5 => ?_)
  refine xl_callWS 0 [0,2,5,6,7] [(0,.v (.pointer (some ⟨g,0,none⟩))),(2,.p 0 0),(5,.v (.int .i64 y3)),(6,.v (.pointer (some ⟨g,0,none⟩))),(7,.v (.slice (some ⟨g4,0,none⟩) 3 3))] 52 [.pointer (some ⟨g,0,none⟩),.slice (some ⟨g4,0,none⟩) 3 3] (some 8) 1 (curF B g 95 (.slice A code.length cap) code.length) (by kernel_rfl) rfl (by kernel_rfl) rfl (by kernel_rfl) rfl rfl (fun ww b h hb => Nat.le_trans (cutW_le w B) (cur_lo h hb)) (by kernel_rfl) (xcm_cur fun ww hw hf => l1PickInt_c g code A cap ([80,80,81] : List Int) (.slice (some ⟨g4,0,none⟩) 3 3) ww B (Nat.le_trans (by first | exact Nat.le_refl _ | exact Nat.le_of_eq (cutW_size hB).symm) hw) (hf (curF B g 95 (.slice A code.length cap) code.length) (by simp)) (hf (slF (.slice A code.length cap) 1 (code.map byteRow)) (by simp)) hap (by omega) (rowF_sl (hf (rowF (cutW w B).heap.size 3 1 (.slice (some ⟨g4,0,none⟩) 3 3) (([80,80,81] : List Int).map intRow)) (by simp))) hk5 (by simp)) ?_
  rintro ⟨y6,hy6⟩
  refine xl_callWS 1 [0,2,5,8,9] [(0,.v (.pointer (some ⟨g,0,none⟩))),(2,.p 0 0),(5,.v (.int .i64 y3)),(8,.v (.int .i64 y6)),(9,.v (.pointer (some ⟨g,0,none⟩)))] 80 [.pointer (some ⟨g,0,none⟩)] (some 10) 0 (curF B g 95 (.slice A code.length cap) code.length) (by kernel_rfl) rfl (by kernel_rfl) rfl (by kernel_rfl) rfl rfl (fun ww b h hb => Nat.le_trans (cutW_le w B) (cur_lo h hb)) (by kernel_rfl) (xcm_cur fun ww hw hf => l2Deep_c g code A cap  ww B (Nat.le_trans (by first | exact Nat.le_refl _ | exact Nat.le_of_eq (cutW_size hB).symm) hw) (hf (curF B g 95 (.slice A code.length cap) code.length) (by simp)) (hf (slF (.slice A code.length cap) 1 (code.map byteRow)) (by simp)) hap (by omega)  ) ?_
  rintro ⟨y7,hy7⟩
  refine xl_callWS 1 [0,2,5,8,10,11] [(0,.v (.pointer (some ⟨g,0,none⟩))),(2,.p 0 0),(5,.v (.int .i64 y3)),(8,.v (.int .i64 y6)),(10,.v (.int .i64 y7)),(11,.v (.pointer (some ⟨g,0,none⟩)))] 80 [.pointer (some ⟨g,0,none⟩)] (some 12) 0 (curF B g 95 (.slice A code.length cap) code.length) (by kernel_rfl) rfl (by kernel_rfl) rfl (by kernel_rfl) rfl rfl (fun ww b h hb => Nat.le_trans (cutW_le w B) (cur_lo h hb)) (by kernel_rfl) (xcm_cur fun ww hw hf => l2Deep_c g code A cap  ww B (Nat.le_trans (by first | exact Nat.le_refl _ | exact Nat.le_of_eq (cutW_size hB).symm) hw) (hf (curF B g 95 (.slice A code.length cap) code.length) (by simp)) (hf (slF (.slice A code.length cap) 1 (code.map byteRow)) (by simp)) hap (by omega)  ) ?_
  rintro ⟨y8,hy8⟩
  refine xl_callWS 1 [0,2,5,8,10,12,13] [(0,.v (.pointer (some ⟨g,0,none⟩))),(2,.p 0 0),(5,.v (.int .i64 y3)),(8,.v (.int .i64 y6)),(10,.v (.int .i64 y7)),(12,.v (.int .i64 y8)),(13,.v (.pointer (some ⟨g,0,none⟩)))] 84 [.pointer (some ⟨g,0,none⟩)] (some 14) 0 (curF B g 95 (.slice A code.length cap) code.length) (by kernel_rfl) rfl (by kernel_rfl) rfl (by kernel_rfl) rfl rfl (fun ww b h hb => Nat.le_trans (cutW_le w B) (cur_lo h hb)) (by kernel_rfl) (xcm_cur fun ww hw hf => l9Flags_c g code A cap  ww B (Nat.le_trans (by first | exact Nat.le_refl _ | exact Nat.le_of_eq (cutW_size hB).symm) hw) (hf (curF B g 95 (.slice A code.length cap) code.length) (by simp)) (hf (slF (.slice A code.length cap) 1 (code.map byteRow)) (by simp)) hap (by omega)  ) ?_
  rintro ⟨y9,hy9⟩
  refine xl_hvS 1 [0,2,5,8,10,12,14,15] [(0,.v (.pointer (some ⟨g,0,none⟩))),(2,.p 0 0),(5,.v (.int .i64 y3)),(8,.v (.int .i64 y6)),(10,.v (.int .i64 y7)),(12,.v (.int .i64 y8)),(14,.v (.int .i64 y9)),(15,.v (.pointer (some ⟨g,0,none⟩)))] (by kernel_rfl) rfl (by kernel_rfl) rfl (by kernel_rfl) (hv_build (e := 3) (K := 1) (bytes := 8) [.int .i64 0,.int .i64 1,.int .i64 64,.int .i64 65535] rfl (by kernel_rfl) (by kernel_rfl) (by kernel_rfl) (by kernel_rfl) (by kernel_rfl) (rs := ([0,1,64,65535] : List Int).map intRow) rfl) ?_
  intro g10
  refine xl_know (φ := ¬ (slF (.slice (some ⟨g10,0,none⟩) 4 4) 1 (([0,1,64,65535] : List Int).map intRow)).blk g) (fun _ _ _ _ hr => fun hb => hr.2.apart 0 1 (rowF (cutW w B).heap.size 3 1 (.slice (some ⟨g10,0,none⟩) 4 4) (([0,1,64,65535] : List Int).map intRow)) (curF B g 95 (.slice A code.length cap) code.length) rfl rfl (by decide) rfl g (rowF_sblk hb) rfl) (fun hk11 => ?_)
  refine xl_callWS 0 [0,2,5,8,10,12,14,15,16] [(0,.v (.pointer (some ⟨g,0,none⟩))),(2,.p 0 0),(5,.v (.int .i64 y3)),(8,.v (.int .i64 y6)),(10,.v (.int .i64 y7)),(12,.v (.int .i64 y8)),(14,.v (.int .i64 y9)),(15,.v (.pointer (some ⟨g,0,none⟩))),(16,.v (.slice (some ⟨g10,0,none⟩) 4 4))] 52 [.pointer (some ⟨g,0,none⟩),.slice (some ⟨g10,0,none⟩) 4 4] (some 17) 1 (curF B g 95 (.slice A code.length cap) code.length) (by kernel_rfl) rfl (by kernel_rfl) rfl (by kernel_rfl) rfl rfl (fun ww b h hb => Nat.le_trans (cutW_le w B) (cur_lo h hb)) (by kernel_rfl) (xcm_cur fun ww hw hf => l1PickInt_c g code A cap ([0,1,64,65535] : List Int) (.slice (some ⟨g10,0,none⟩) 4 4) ww B (Nat.le_trans (by first | exact Nat.le_refl _ | exact Nat.le_of_eq (cutW_size hB).symm) hw) (hf (curF B g 95 (.slice A code.length cap) code.length) (by simp)) (hf (slF (.slice A code.length cap) 1 (code.map byteRow)) (by simp)) hap (by omega) (rowF_sl (hf (rowF (cutW w B).heap.size 3 1 (.slice (some ⟨g10,0,none⟩) 4 4) (([0,1,64,65535] : List Int).map intRow)) (by simp))) hk11 (by simp)) ?_
  rintro ⟨y12,hy12⟩
  refine xl_callWS 1 [0,2,5,8,10,12,14,17,18] [(0,.v (.pointer (some ⟨g,0,none⟩))),(2,.p 0 0),(5,.v (.int .i64 y3)),(8,.v (.int .i64 y6)),(10,.v (.int .i64 y7)),(12,.v (.int .i64 y8)),(14,.v (.int .i64 y9)),(17,.v (.int .i64 y12)),(18,.v (.pointer (some ⟨g,0,none⟩)))] 74 [.pointer (some ⟨g,0,none⟩)] (some 19) 0 (curF B g 95 (.slice A code.length cap) code.length) (by kernel_rfl) rfl (by kernel_rfl) rfl (by kernel_rfl) rfl rfl (fun ww b h hb => Nat.le_trans (cutW_le w B) (cur_lo h hb)) (by kernel_rfl) (xcm_cur fun ww hw hf => l8Options_c g code A cap  ww B (Nat.le_trans (by first | exact Nat.le_refl _ | exact Nat.le_of_eq (cutW_size hB).symm) hw) (hf (curF B g 95 (.slice A code.length cap) code.length) (by simp)) (hf (slF (.slice A code.length cap) 1 (code.map byteRow)) (by simp)) hap (by omega)  ) ?_
  rintro ⟨y13,hy13⟩
  refine xl_callWS 2 [2,5,8,10,12,14,17,19,20,21] [(2,.p 0 0),(5,.v (.int .i64 y3)),(8,.v (.int .i64 y6)),(10,.v (.int .i64 y7)),(12,.v (.int .i64 y8)),(14,.v (.int .i64 y9)),(17,.v (.int .i64 y12)),(19,.v (.agg (optL y13).toArray)),(20,.v (.pointer (some ⟨g,0,none⟩))),(21,.v (.pointer (some ⟨g,0,none⟩)))] 75 [.pointer (some ⟨g,0,none⟩),.int .i64 7] (some 22) 0 (curF B g 95 (.slice A code.length cap) code.length) (by kernel_rfl) rfl (by kernel_rfl) rfl (by kernel_rfl) rfl rfl (fun ww b h hb => Nat.le_trans (cutW_le w B) (cur_lo h hb)) (by kernel_rfl) (xcm_cur fun ww hw hf => l1Below_c g code A cap 7 ww B (Nat.le_trans (by first | exact Nat.le_refl _ | exact Nat.le_of_eq (cutW_size hB).symm) hw) (hf (curF B g 95 (.slice A code.length cap) code.length) (by simp)) (hf (slF (.slice A code.length cap) 1 (code.map byteRow)) (by simp)) hap (by omega)  ) ?_
  rintro ⟨y14,hy14⟩
  obtain ⟨hy140,hy141⟩ := hy14
  refine xl_callWS 0 [2,5,8,10,12,14,17,19,20,22] [(2,.p 0 0),(5,.v (.int .i64 y3)),(8,.v (.int .i64 y6)),(10,.v (.int .i64 y7)),(12,.v (.int .i64 y8)),(14,.v (.int .i64 y9)),(17,.v (.int .i64 y12)),(19,.v (.agg (optL y13).toArray)),(20,.v (.pointer (some ⟨g,0,none⟩))),(22,.v (.int .i64 y14))] 85 [.pointer (some ⟨g,0,none⟩),.int .i64 y14] (some 23) 0 (curF B g 95 (.slice A code.length cap) code.length) (by kernel_rfl) rfl (by kernel_rfl) rfl (by kernel_rfl) rfl rfl (fun ww b h hb => Nat.le_trans (cutW_le w B) (cur_lo h hb)) (by kernel_rfl) (xcm_curR fun ww hw hf => l1Bytes_c g code A cap y14 ww B (Nat.le_trans (by first | exact Nat.le_refl _ | exact Nat.le_of_eq (cutW_size hB).symm) hw) (hf (curF B g 95 (.slice A code.length cap) code.length) (by simp)) (hf (slF (.slice A code.length cap) 1 (code.map byteRow)) (by simp)) hap (by omega) (by omega)) ?_
  rintro ⟨⟨b15l,b15a,b15c⟩,hb15⟩
  dsimp only at hb15
  refine xl_opS 0 [2,5,8,10,12,14,17,19,23] [(2,.p 0 0),(5,.v (.int .i64 y3)),(8,.v (.int .i64 y6)),(10,.v (.int .i64 y7)),(12,.v (.int .i64 y8)),(14,.v (.int .i64 y9)),(17,.v (.int .i64 y12)),(19,.v (.agg (optL y13).toArray)),(23,.v (.slice b15a b15l.length b15c))] (.string (bstr b15l)) (by kernel_rfl) rfl (by kernel_rfl) rfl (fun _ _ _ ww hr => act_b2s (e := 5) b15l hr.1 rfl (by kernel_rfl) (by kernel_rfl) (by kernel_rfl) rfl (rowF_sl (hr.2.fact (rowF (cutW w B).heap.size 5 1 (.slice b15a b15l.length b15c) (b15l.map byteRow)) (by simp)).1)) ?_
  refine xl_opS 0 [2,5,8,10,12,14,17,19,24] [(2,.p 0 0),(5,.v (.int .i64 y3)),(8,.v (.int .i64 y6)),(10,.v (.int .i64 y7)),(12,.v (.int .i64 y8)),(14,.v (.int .i64 y9)),(17,.v (.int .i64 y12)),(19,.v (.agg (optL y13).toArray)),(24,.v (.string (bstr b15l)))] (.agg #[.int .i64 y3,.int .i64 y6,.int .i64 y7,.int .i64 y8,.int .i64 y9,.int .i64 y12,.int .i64 y13.mss,.int .i64 y13.scale,.bool y13.sack,.bool y13.stamp,.int .i64 y13.val,.int .i64 y13.echo,.string (bstr b15l)]) (by kernel_rfl) rfl (by kernel_rfl) rfl (fun _ _ _ ww hr => act_build [(0,.int .i64 y3),(1,.int .i64 y6),(2,.int .i64 y7),(3,.int .i64 y8),(4,.int .i64 y9),(5,.int .i64 y12),(6,.agg (optL y13).toArray),(7,.string (bstr b15l))] hr.1 rfl (by kernel_rfl) (by kernel_rfl) ww) ?_
  refine xl_end [2] ⟨[(2,.p 0 0)],[⟨30,[.int .i64 y3,.int .i64 y6,.int .i64 y7,.int .i64 y8,.int .i64 y9,.int .i64 y12,.int .i64 y13.mss,.int .i64 y13.scale,.bool y13.sack,.bool y13.stamp,.int .i64 y13.val,.int .i64 y13.echo,.string (bstr b15l)]⟩],[],[rowF (cutW w B).heap.size 5 1 (.slice b15a b15l.length b15c) (b15l.map byteRow),curF B g 95 (.slice A code.length cap) code.length,rowF (cutW w B).heap.size 3 1 (.slice (some ⟨g10,0,none⟩) 4 4) (([0,1,64,65535] : List Int).map intRow),rowF (cutW w B).heap.size 3 1 (.slice (some ⟨g4,0,none⟩) 3 3) (([80,80,81] : List Int).map intRow),rowF (cutW w B).heap.size 3 1 (.slice (some ⟨g1,0,none⟩) 3 3) (([40000,40001,80] : List Int).map intRow),slF (.slice A code.length cap) 1 (code.map byteRow),frF w (fun b => b = g)]⟩ (by kernel_rfl) ?_
  refine xw_ret ?_
  exact ⟨[.agg #[.int .i64 y3,.int .i64 y6,.int .i64 y7,.int .i64 y8,.int .i64 y9,.int .i64 y12,.int .i64 y13.mss,.int .i64 y13.scale,.bool y13.sack,.bool y13.stamp,.int .i64 y13.val,.int .i64 y13.echo,.string (bstr b15l)]],by kernel_rfl,fun w' hb hf => ⟨⟨⟨y3,y6,y7,y8,y9,y12,y13,bstr b15l⟩,(by first | assumption | (dsimp only; assumption) | (show (bstr _).size ≤ 4096; rw [bstr_size]; (try simp only [List.length_replicate]); omega))⟩,rfl,hf (curF B g 95 (.slice A code.length cap) code.length) (by simp),frF_chgd (hf (frF w (fun b => b = g)) (by simp)) hb rfl rfl rfl⟩⟩
set_option maxHeartbeats 2000000 in
theorem l9Bent_c (g : Nat) (code : List Int) (A : Option Addr) (cap : Nat)  (w : World) (B : Nat) (hB : B ≤ w.heap.size) (hc : (curF B g 95 (.slice A code.length cap) code.length).p w) (hl : Sl w (.slice A code.length cap) 1 (code.map byteRow)) (hap : ¬ (slF (.slice A code.length cap) 1 (code.map byteRow)).blk g) (hn : code.length ≤ 1048576)  : Calls Try.prog 45 #[.pointer (some ⟨g, 0, none⟩)] w fun e w' => ∃ y : {y : Seg // y.body.size ≤ 4096}, e = .returned (.agg (segL y.1).toArray) ∧ (curF B g 95 (.slice A code.length cap) code.length).p w' ∧ Chgd (fun b => b = g) w w' := by
  have hq_code := Sl.capLe hl
  refine x_callsM (args := [.pointer (some ⟨g,0,none⟩)]) (fn := Try.f45) [curF B g 95 (.slice A code.length cap) code.length,slF (.slice A code.length cap) 1 (code.map byteRow),frF w (fun b => b = g)] B Try.func45 rfl Try.ntmps45 rfl hB (by simp only [List.mem_cons,List.not_mem_nil,or_false,forall_eq_or_imp,forall_eq]; exact ⟨hc,hl,frF_start w _⟩) (apart_cur hap rfl) ?_
  refine xw_seq ?_
  refine xw_region ?_
  refine xl_end [0,2] ⟨[(0,.v (.pointer (some ⟨g,0,none⟩))),(2,.p 0 0)],[⟨30,segZ⟩],[],[curF B g 95 (.slice A code.length cap) code.length,slF (.slice A code.length cap) 1 (code.map byteRow),frF w (fun b => b = g)]⟩ (by kernel_rfl) ?_
  refine xw_seq ?_
  refine xw_region ?_
  refine xl_callWS 1 [0,2,4] [(0,.v (.pointer (some ⟨g,0,none⟩))),(2,.p 0 0),(4,.v (.pointer (some ⟨g,0,none⟩)))] 76 [.pointer (some ⟨g,0,none⟩)] (some 5) 0 (curF B g 95 (.slice A code.length cap) code.length) (by kernel_rfl) rfl (by kernel_rfl) rfl (by kernel_rfl) rfl rfl (fun ww b h hb => Nat.le_trans (cutW_le w B) (cur_lo h hb)) (by kernel_rfl) (xcm_cur fun ww hw hf => l9Segment_c g code A cap  ww B (Nat.le_trans (by first | exact Nat.le_refl _ | exact Nat.le_of_eq (cutW_size hB).symm) hw) (hf (curF B g 95 (.slice A code.length cap) code.length) (by simp)) (hf (slF (.slice A code.length cap) 1 (code.map byteRow)) (by simp)) hap (by omega)  ) ?_
  rintro ⟨y1,hy1⟩
  refine xl_end [0,2,3] ⟨[(0,.v (.pointer (some ⟨g,0,none⟩))),(2,.p 0 0),(3,.p 1 0)],[⟨30,segZ⟩,⟨30,segL y1⟩],[],[curF B g 95 (.slice A code.length cap) code.length,slF (.slice A code.length cap) 1 (code.map byteRow),frF w (fun b => b = g)]⟩ (by kernel_rfl) ?_
  refine xw_seq ?_
  refine xw_seq ?_
  refine xw_region ?_
  refine xl_callWS 1 [0,2,3,6] [(0,.v (.pointer (some ⟨g,0,none⟩))),(2,.p 0 0),(3,.p 1 0),(6,.v (.pointer (some ⟨g,0,none⟩)))] 75 [.pointer (some ⟨g,0,none⟩),.int .i64 12] (some 7) 0 (curF B g 95 (.slice A code.length cap) code.length) (by kernel_rfl) rfl (by kernel_rfl) rfl (by kernel_rfl) rfl rfl (fun ww b h hb => Nat.le_trans (cutW_le w B) (cur_lo h hb)) (by kernel_rfl) (xcm_cur fun ww hw hf => l1Below_c g code A cap 12 ww B (Nat.le_trans (by first | exact Nat.le_refl _ | exact Nat.le_of_eq (cutW_size hB).symm) hw) (hf (curF B g 95 (.slice A code.length cap) code.length) (by simp)) (hf (slF (.slice A code.length cap) 1 (code.map byteRow)) (by simp)) hap (by omega)  ) ?_
  rintro ⟨y2,hy2⟩
  obtain ⟨hy20,hy21⟩ := hy2
  refine xl_endS [0,2,3,7] [(0,.v (.pointer (some ⟨g,0,none⟩))),(2,.p 0 0),(3,.p 1 0),(7,.v (.int .i64 y2))] (by kernel_rfl) ?_
  refine xw_block ?_
  refine xw_seq ?_
  refine xw_region ?_
  refine xl_endS [0,2,3,7,8] [(0,.v (.pointer (some ⟨g,0,none⟩))),(2,.p 0 0),(3,.p 1 0),(7,.v (.int .i64 y2)),(8,.v (.bool (y2 == 0)))] (by kernel_rfl) ?_
  refine xw_cond (b := y2 == 0) (by kernel_rfl) (fun h3 => ?_) (fun h3 => ?_)
  have h3p := eqT h3
  refine xw_region ?_
  refine xl_callWS 1 [2,3,10] [(2,.p 0 0),(3,.p 1 0),(10,.v (.pointer (some ⟨g,0,none⟩)))] 67 [.pointer (some ⟨g,0,none⟩)] (some 11) 0 (curF B g 95 (.slice A code.length cap) code.length) (by kernel_rfl) rfl (by kernel_rfl) rfl (by kernel_rfl) rfl rfl (fun ww b h hb => Nat.le_trans (cutW_le w B) (cur_lo h hb)) (by kernel_rfl) (xcm_cur fun ww hw hf => l2Word_c g code A cap  ww B (Nat.le_trans (by first | exact Nat.le_refl _ | exact Nat.le_of_eq (cutW_size hB).symm) hw) (hf (curF B g 95 (.slice A code.length cap) code.length) (by simp)) (hf (slF (.slice A code.length cap) 1 (code.map byteRow)) (by simp)) hap (by omega)  ) ?_
  rintro ⟨y4,hy4⟩
  refine xl_end [2,3] ⟨[(2,.p 0 0),(3,.p 1 0)],[⟨30,segZ⟩,⟨30,segL { y1 with src := y4 }⟩],[],[curF B g 95 (.slice A code.length cap) code.length,slF (.slice A code.length cap) 1 (code.map byteRow),frF w (fun b => b = g)]⟩ (by kernel_rfl) ?_
  refine xw_seq ?_
  refine xw_region ?_
  refine xl_end [2] ⟨[(2,.p 0 0)],[⟨30,segL { y1 with src := y4 }⟩,⟨30,segL { y1 with src := y4 }⟩],[],[curF B g 95 (.slice A code.length cap) code.length,slF (.slice A code.length cap) 1 (code.map byteRow),frF w (fun b => b = g)]⟩ (by kernel_rfl) ?_
  refine xw_ret ?_
  exact ⟨[.agg (segL { y1 with src := y4 }).toArray],by kernel_rfl,fun w' hb hf => ⟨⟨{ y1 with src := y4 },(by first | assumption | (dsimp only; assumption) | (show (bstr _).size ≤ 4096; rw [bstr_size]; (try simp only [List.length_replicate]); omega))⟩,rfl,hf (curF B g 95 (.slice A code.length cap) code.length) (by simp),frF_chgd (hf (frF w (fun b => b = g)) (by simp)) hb rfl rfl rfl⟩⟩
  have h3p := eqF h3
  refine xw_seq ?_
  refine xw_region ?_
  refine xl_endS [0,2,3,7,13] [(0,.v (.pointer (some ⟨g,0,none⟩))),(2,.p 0 0),(3,.p 1 0),(7,.v (.int .i64 y2)),(13,.v (.bool (y2 == 1)))] (by kernel_rfl) ?_
  refine xw_cond (b := y2 == 1) (by kernel_rfl) (fun h5 => ?_) (fun h5 => ?_)
  have h5p := eqT h5
  refine xw_region ?_
  refine xl_callWS 1 [2,3,15] [(2,.p 0 0),(3,.p 1 0),(15,.v (.pointer (some ⟨g,0,none⟩)))] 67 [.pointer (some ⟨g,0,none⟩)] (some 16) 0 (curF B g 95 (.slice A code.length cap) code.length) (by kernel_rfl) rfl (by kernel_rfl) rfl (by kernel_rfl) rfl rfl (fun ww b h hb => Nat.le_trans (cutW_le w B) (cur_lo h hb)) (by kernel_rfl) (xcm_cur fun ww hw hf => l2Word_c g code A cap  ww B (Nat.le_trans (by first | exact Nat.le_refl _ | exact Nat.le_of_eq (cutW_size hB).symm) hw) (hf (curF B g 95 (.slice A code.length cap) code.length) (by simp)) (hf (slF (.slice A code.length cap) 1 (code.map byteRow)) (by simp)) hap (by omega)  ) ?_
  rintro ⟨y6,hy6⟩
  refine xl_end [2,3] ⟨[(2,.p 0 0),(3,.p 1 0)],[⟨30,segZ⟩,⟨30,segL { y1 with seq := y6 }⟩],[],[curF B g 95 (.slice A code.length cap) code.length,slF (.slice A code.length cap) 1 (code.map byteRow),frF w (fun b => b = g)]⟩ (by kernel_rfl) ?_
  refine xw_seq ?_
  refine xw_region ?_
  refine xl_end [2] ⟨[(2,.p 0 0)],[⟨30,segL { y1 with seq := y6 }⟩,⟨30,segL { y1 with seq := y6 }⟩],[],[curF B g 95 (.slice A code.length cap) code.length,slF (.slice A code.length cap) 1 (code.map byteRow),frF w (fun b => b = g)]⟩ (by kernel_rfl) ?_
  refine xw_ret ?_
  exact ⟨[.agg (segL { y1 with seq := y6 }).toArray],by kernel_rfl,fun w' hb hf => ⟨⟨{ y1 with seq := y6 },(by first | assumption | (dsimp only; assumption) | (show (bstr _).size ≤ 4096; rw [bstr_size]; (try simp only [List.length_replicate]); omega))⟩,rfl,hf (curF B g 95 (.slice A code.length cap) code.length) (by simp),frF_chgd (hf (frF w (fun b => b = g)) (by simp)) hb rfl rfl rfl⟩⟩
  have h5p := eqF h5
  refine xw_seq ?_
  refine xw_region ?_
  refine xl_endS [0,2,3,7,18] [(0,.v (.pointer (some ⟨g,0,none⟩))),(2,.p 0 0),(3,.p 1 0),(7,.v (.int .i64 y2)),(18,.v (.bool (y2 == 2)))] (by kernel_rfl) ?_
  refine xw_cond (b := y2 == 2) (by kernel_rfl) (fun h7 => ?_) (fun h7 => ?_)
  have h7p := eqT h7
  refine xw_region ?_
  refine xl_hvS 1 [2,3,20] [(2,.p 0 0),(3,.p 1 0),(20,.v (.pointer (some ⟨g,0,none⟩)))] (by kernel_rfl) rfl (by kernel_rfl) rfl (by kernel_rfl) (hv_build (e := 3) (K := 1) (bytes := 8) [.int .i64 63,.int .i64 64,.int .i64 (-1)] rfl (by kernel_rfl) (by kernel_rfl) (by kernel_rfl) (by kernel_rfl) (by kernel_rfl) (rs := ([63,64,(-1)] : List Int).map intRow) rfl) ?_
  intro g8
  refine xl_know (φ := ¬ (slF (.slice (some ⟨g8,0,none⟩) 3 3) 1 (([63,64,(-1)] : List Int).map intRow)).blk g) (fun _ _ _ _ hr => fun hb => hr.2.apart 0 1 (rowF (cutW w B).heap.size 3 1 (.slice (some ⟨g8,0,none⟩) 3 3) (([63,64,(-1)] : List Int).map intRow)) (curF B g 95 (.slice A code.length cap) code.length) rfl rfl (by decide) rfl g (rowF_sblk hb) rfl) (fun hk9 => ?_)
  refine xl_callWS 0 [2,3,20,21] [(2,.p 0 0),(3,.p 1 0),(20,.v (.pointer (some ⟨g,0,none⟩))),(21,.v (.slice (some ⟨g8,0,none⟩) 3 3))] 52 [.pointer (some ⟨g,0,none⟩),.slice (some ⟨g8,0,none⟩) 3 3] (some 22) 1 (curF B g 95 (.slice A code.length cap) code.length) (by kernel_rfl) rfl (by kernel_rfl) rfl (by kernel_rfl) rfl rfl (fun ww b h hb => Nat.le_trans (cutW_le w B) (cur_lo h hb)) (by kernel_rfl) (xcm_cur fun ww hw hf => l1PickInt_c g code A cap ([63,64,(-1)] : List Int) (.slice (some ⟨g8,0,none⟩) 3 3) ww B (Nat.le_trans (by first | exact Nat.le_refl _ | exact Nat.le_of_eq (cutW_size hB).symm) hw) (hf (curF B g 95 (.slice A code.length cap) code.length) (by simp)) (hf (slF (.slice A code.length cap) 1 (code.map byteRow)) (by simp)) hap (by omega) (rowF_sl (hf (rowF (cutW w B).heap.size 3 1 (.slice (some ⟨g8,0,none⟩) 3 3) (([63,64,(-1)] : List Int).map intRow)) (by simp))) hk9 (by simp)) ?_
  rintro ⟨y10,hy10⟩
  refine xl_end [2,3] ⟨[(2,.p 0 0),(3,.p 1 0)],[⟨30,segZ⟩,⟨30,segL { y1 with flags := y10 }⟩],[],[curF B g 95 (.slice A code.length cap) code.length,rowF (cutW w B).heap.size 3 1 (.slice (some ⟨g8,0,none⟩) 3 3) (([63,64,(-1)] : List Int).map intRow),slF (.slice A code.length cap) 1 (code.map byteRow),frF w (fun b => b = g)]⟩ (by kernel_rfl) ?_
  refine xw_seq ?_
  refine xw_region ?_
  refine xl_end [2] ⟨[(2,.p 0 0)],[⟨30,segL { y1 with flags := y10 }⟩,⟨30,segL { y1 with flags := y10 }⟩],[],[curF B g 95 (.slice A code.length cap) code.length,rowF (cutW w B).heap.size 3 1 (.slice (some ⟨g8,0,none⟩) 3 3) (([63,64,(-1)] : List Int).map intRow),slF (.slice A code.length cap) 1 (code.map byteRow),frF w (fun b => b = g)]⟩ (by kernel_rfl) ?_
  refine xw_ret ?_
  exact ⟨[.agg (segL { y1 with flags := y10 }).toArray],by kernel_rfl,fun w' hb hf => ⟨⟨{ y1 with flags := y10 },(by first | assumption | (dsimp only; assumption) | (show (bstr _).size ≤ 4096; rw [bstr_size]; (try simp only [List.length_replicate]); omega))⟩,rfl,hf (curF B g 95 (.slice A code.length cap) code.length) (by simp),frF_chgd (hf (frF w (fun b => b = g)) (by simp)) hb rfl rfl rfl⟩⟩
  have h7p := eqF h7
  refine xw_seq ?_
  refine xw_region ?_
  refine xl_endS [0,2,3,7,24] [(0,.v (.pointer (some ⟨g,0,none⟩))),(2,.p 0 0),(3,.p 1 0),(7,.v (.int .i64 y2)),(24,.v (.bool (y2 == 3)))] (by kernel_rfl) ?_
  refine xw_cond (b := y2 == 3) (by kernel_rfl) (fun h11 => ?_) (fun h11 => ?_)
  have h11p := eqT h11
  refine xw_region ?_
  refine xl_callWS 1 [2,3,26] [(2,.p 0 0),(3,.p 1 0),(26,.v (.pointer (some ⟨g,0,none⟩)))] 67 [.pointer (some ⟨g,0,none⟩)] (some 27) 0 (curF B g 95 (.slice A code.length cap) code.length) (by kernel_rfl) rfl (by kernel_rfl) rfl (by kernel_rfl) rfl rfl (fun ww b h hb => Nat.le_trans (cutW_le w B) (cur_lo h hb)) (by kernel_rfl) (xcm_cur fun ww hw hf => l2Word_c g code A cap  ww B (Nat.le_trans (by first | exact Nat.le_refl _ | exact Nat.le_of_eq (cutW_size hB).symm) hw) (hf (curF B g 95 (.slice A code.length cap) code.length) (by simp)) (hf (slF (.slice A code.length cap) 1 (code.map byteRow)) (by simp)) hap (by omega)  ) ?_
  rintro ⟨y12,hy12⟩
  refine xl_end [2,3] ⟨[(2,.p 0 0),(3,.p 1 0)],[⟨30,segZ⟩,⟨30,segL { y1 with window := y12 }⟩],[],[curF B g 95 (.slice A code.length cap) code.length,slF (.slice A code.length cap) 1 (code.map byteRow),frF w (fun b => b = g)]⟩ (by kernel_rfl) ?_
  refine xw_seq ?_
  refine xw_region ?_
  refine xl_end [2] ⟨[(2,.p 0 0)],[⟨30,segL { y1 with window := y12 }⟩,⟨30,segL { y1 with window := y12 }⟩],[],[curF B g 95 (.slice A code.length cap) code.length,slF (.slice A code.length cap) 1 (code.map byteRow),frF w (fun b => b = g)]⟩ (by kernel_rfl) ?_
  refine xw_ret ?_
  exact ⟨[.agg (segL { y1 with window := y12 }).toArray],by kernel_rfl,fun w' hb hf => ⟨⟨{ y1 with window := y12 },(by first | assumption | (dsimp only; assumption) | (show (bstr _).size ≤ 4096; rw [bstr_size]; (try simp only [List.length_replicate]); omega))⟩,rfl,hf (curF B g 95 (.slice A code.length cap) code.length) (by simp),frF_chgd (hf (frF w (fun b => b = g)) (by simp)) hb rfl rfl rfl⟩⟩
  have h11p := eqF h11
  refine xw_seq ?_
  refine xw_region ?_
  refine xl_endS [0,2,3,7,29] [(0,.v (.pointer (some ⟨g,0,none⟩))),(2,.p 0 0),(3,.p 1 0),(7,.v (.int .i64 y2)),(29,.v (.bool (y2 == 4)))] (by kernel_rfl) ?_
  refine xw_cond (b := y2 == 4) (by kernel_rfl) (fun h13 => ?_) (fun h13 => ?_)
  have h13p := eqT h13
  refine xw_region ?_
  refine xl_callWS 1 [2,3,31] [(2,.p 0 0),(3,.p 1 0),(31,.v (.pointer (some ⟨g,0,none⟩)))] 37 [.pointer (some ⟨g,0,none⟩)] (some 32) 0 (curF B g 95 (.slice A code.length cap) code.length) (by kernel_rfl) rfl (by kernel_rfl) rfl (by kernel_rfl) rfl rfl (fun ww b h hb => Nat.le_trans (cutW_le w B) (cur_lo h hb)) (by kernel_rfl) (xcm_cur fun ww hw hf => l8Bent_c g code A cap  ww B (Nat.le_trans (by first | exact Nat.le_refl _ | exact Nat.le_of_eq (cutW_size hB).symm) hw) (hf (curF B g 95 (.slice A code.length cap) code.length) (by simp)) (hf (slF (.slice A code.length cap) 1 (code.map byteRow)) (by simp)) hap (by omega)  ) ?_
  rintro ⟨y14,hy14⟩
  refine xl_end [2,3] ⟨[(2,.p 0 0),(3,.p 1 0)],[⟨30,segZ⟩,⟨30,segL { y1 with o := y14 }⟩],[],[curF B g 95 (.slice A code.length cap) code.length,slF (.slice A code.length cap) 1 (code.map byteRow),frF w (fun b => b = g)]⟩ (by kernel_rfl) ?_
  refine xw_seq ?_
  refine xw_region ?_
  refine xl_end [2] ⟨[(2,.p 0 0)],[⟨30,segL { y1 with o := y14 }⟩,⟨30,segL { y1 with o := y14 }⟩],[],[curF B g 95 (.slice A code.length cap) code.length,slF (.slice A code.length cap) 1 (code.map byteRow),frF w (fun b => b = g)]⟩ (by kernel_rfl) ?_
  refine xw_ret ?_
  exact ⟨[.agg (segL { y1 with o := y14 }).toArray],by kernel_rfl,fun w' hb hf => ⟨⟨{ y1 with o := y14 },(by first | assumption | (dsimp only; assumption) | (show (bstr _).size ≤ 4096; rw [bstr_size]; (try simp only [List.length_replicate]); omega))⟩,rfl,hf (curF B g 95 (.slice A code.length cap) code.length) (by simp),frF_chgd (hf (frF w (fun b => b = g)) (by simp)) hb rfl rfl rfl⟩⟩
  have h13p := eqF h13
  refine xw_seq ?_
  refine xw_region ?_
  refine xl_endS [0,2,3,34] [(0,.v (.pointer (some ⟨g,0,none⟩))),(2,.p 0 0),(3,.p 1 0),(34,.v (.bool (y2 == 5)))] (by kernel_rfl) ?_
  refine xw_cond (b := y2 == 5) (by kernel_rfl) (fun h15 => ?_) (fun h15 => ?_)
  have h15p := eqT h15
  refine xw_region ?_
  refine xl_callWS 1 [2,3,36] [(2,.p 0 0),(3,.p 1 0),(36,.v (.pointer (some ⟨g,0,none⟩)))] 75 [.pointer (some ⟨g,0,none⟩),.int .i64 3] (some 37) 0 (curF B g 95 (.slice A code.length cap) code.length) (by kernel_rfl) rfl (by kernel_rfl) rfl (by kernel_rfl) rfl rfl (fun ww b h hb => Nat.le_trans (cutW_le w B) (cur_lo h hb)) (by kernel_rfl) (xcm_cur fun ww hw hf => l1Below_c g code A cap 3 ww B (Nat.le_trans (by first | exact Nat.le_refl _ | exact Nat.le_of_eq (cutW_size hB).symm) hw) (hf (curF B g 95 (.slice A code.length cap) code.length) (by simp)) (hf (slF (.slice A code.length cap) 1 (code.map byteRow)) (by simp)) hap (by omega)  ) ?_
  rintro ⟨y16,hy16⟩
  obtain ⟨hy160,hy161⟩ := hy16
  refine xl_callS 1 [2,3,38] [(2,.p 0 0),(3,.p 1 0),(38,.v (.int .i64 (IntKind.i64.wrap (1419 + y16))))] 77 [.int .i64 (IntKind.i64.wrap (1419 + y16))] (some 39) (by kernel_rfl) rfl (by kernel_rfl) rfl (by kernel_rfl) (xc_b fun ww hf => l5Long_c (IntKind.i64.wrap (1419 + y16)) ww (by first | omega | (rw [wrap_id (by omega) (by omega)]; omega))) ?_
  intro _
  refine xl_run 2 [2,3] ⟨[(2,.p 0 0),(3,.p 1 0)],[⟨30,segZ⟩,⟨30,segL { y1 with body := bstr (List.replicate ((IntKind.i64.wrap (1419 + y16))).toNat 0) }⟩],[],[curF B g 95 (.slice A code.length cap) code.length,slF (.slice A code.length cap) 1 (code.map byteRow),frF w (fun b => b = g)]⟩ (by kernel_rfl) ?_
  refine xl_eq (st' := ⟨[(2,.p 0 0),(3,.p 1 0)],[⟨30,segZ⟩,⟨30,segL { y1 with body := bstr (List.replicate ((1419 + y16)).toNat 0) }⟩],[],[curF B g 95 (.slice A code.length cap) code.length,slF (.slice A code.length cap) 1 (code.map byteRow),frF w (fun b => b = g)]⟩) (by rw [show (IntKind.i64.wrap (1419 + y16)) = (1419 + y16) from wrap_id (by omega) (by omega)]) ?_
  refine xl_endS [2,3] [(2,.p 0 0),(3,.p 1 0)] (by kernel_rfl) ?_
  refine xw_seq ?_
  refine xw_region ?_
  refine xl_end [2] ⟨[(2,.p 0 0)],[⟨30,segL { y1 with body := bstr (List.replicate ((1419 + y16)).toNat 0) }⟩,⟨30,segL { y1 with body := bstr (List.replicate ((1419 + y16)).toNat 0) }⟩],[],[curF B g 95 (.slice A code.length cap) code.length,slF (.slice A code.length cap) 1 (code.map byteRow),frF w (fun b => b = g)]⟩ (by kernel_rfl) ?_
  refine xw_ret ?_
  exact ⟨[.agg (segL { y1 with body := bstr (List.replicate ((1419 + y16)).toNat 0) }).toArray],by kernel_rfl,fun w' hb hf => ⟨⟨{ y1 with body := bstr (List.replicate ((1419 + y16)).toNat 0) },(by first | assumption | (dsimp only; assumption) | (show (bstr _).size ≤ 4096; rw [bstr_size]; (try simp only [List.length_replicate]); omega))⟩,rfl,hf (curF B g 95 (.slice A code.length cap) code.length) (by simp),frF_chgd (hf (frF w (fun b => b = g)) (by simp)) hb rfl rfl rfl⟩⟩
  have h15p := eqF h15
  refine xw_skip ?_
  refine xw_seq ?_
  refine xw_region ?_
  refine xl_end [2] ⟨[(2,.p 0 0)],[⟨30,segL y1⟩,⟨30,segL y1⟩],[],[curF B g 95 (.slice A code.length cap) code.length,slF (.slice A code.length cap) 1 (code.map byteRow),frF w (fun b => b = g)]⟩ (by kernel_rfl) ?_
  refine xw_ret ?_
  exact ⟨[.agg (segL y1).toArray],by kernel_rfl,fun w' hb hf => ⟨⟨y1,(by first | assumption | (dsimp only; assumption) | (show (bstr _).size ≤ 4096; rw [bstr_size]; (try simp only [List.length_replicate]); omega))⟩,rfl,hf (curF B g 95 (.slice A code.length cap) code.length) (by simp),frF_chgd (hf (frF w (fun b => b = g)) (by simp)) hb rfl rfl rfl⟩⟩
set_option maxHeartbeats 2000000 in
theorem drawResetFor_c (code : List Int) (A : Option Addr) (cap : Nat) (w : World) (hl : Sl w (.slice A code.length cap) 1 (code.map byteRow)) (hn : code.length ≤ 1048576) : Calls Try.prog 13 #[.slice A code.length cap] w fun e w' => ∃ y : Seg, e = .returned (.agg (segL y).toArray) ∧ y.body.size ≤ 4096 ∧ Below w.heap.size w w' := by
  have hq_code := Sl.capLe hl
  refine x_calls (args := [.slice A code.length cap]) (fn := Try.f13) [slF (.slice A code.length cap) 1 (code.map byteRow)] Try.func13 rfl Try.ntmps13 rfl (by simp only [List.mem_cons,List.not_mem_nil,or_false,forall_eq]; exact ⟨rfl,hl⟩) ?_
  refine xw_seq ?_
  refine xw_region ?_
  refine xl_end [0,2] ⟨[(0,.v (.slice A code.length cap)),(2,.p 0 0)],[⟨30,segZ⟩],[],[slF (.slice A code.length cap) 1 (code.map byteRow)]⟩ (by kernel_rfl) ?_
  refine xw_seq ?_
  refine xw_region ?_
  refine xl_callS 1 [2,3] [(2,.p 0 0),(3,.v (.slice A code.length cap))] 38 [.slice A code.length cap] (some 4) (by kernel_rfl) rfl (by kernel_rfl) rfl (by kernel_rfl) (xc_new fun ww hw hf => l1New_c code A cap ww (hf (slF (.slice A code.length cap) 1 (code.map byteRow)) (by simp)) (by omega)) ?_
  rintro ⟨g1,hapg1⟩
  refine xl_callWS 0 [2,4] [(2,.p 0 0),(4,.v (.pointer (some ⟨g1,0,none⟩)))] 45 [.pointer (some ⟨g1,0,none⟩)] (some 5) 0 (curF w.heap.size g1 95 (.slice A code.length cap) code.length) (by kernel_rfl) rfl (by kernel_rfl) rfl (by kernel_rfl) rfl rfl (fun ww b h hb => cur_lo h hb) (by kernel_rfl) (xcm_cur fun ww hw hf => l9Bent_c g1 code A cap  ww w.heap.size hw (hf (curF w.heap.size g1 95 (.slice A code.length cap) code.length) (by simp)) (hf (slF (.slice A code.length cap) 1 (code.map byteRow)) (by simp)) hapg1 (by omega)  ) ?_
  rintro ⟨y2,hy2⟩
  refine xl_end [2] ⟨[(2,.p 0 0)],[⟨30,segL y2⟩],[],[curF w.heap.size g1 95 (.slice A code.length cap) code.length,slF (.slice A code.length cap) 1 (code.map byteRow)]⟩ (by kernel_rfl) ?_
  refine xw_ret ?_
  exact ⟨[.agg (segL y2).toArray],by kernel_rfl,fun w' hb hf => ⟨(y2),rfl,(by assumption),hb⟩⟩

end Go.Proofs.Ytcoppgllfipbeaa
