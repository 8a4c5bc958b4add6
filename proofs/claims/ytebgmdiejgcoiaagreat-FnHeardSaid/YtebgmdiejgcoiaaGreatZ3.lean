/- Contracts that this law needs, part 3. -/
import Derived.Test.YtebgmdiejgcoiaaGreatZ2
namespace Go.Proofs.YtebgmdiejgcoiaaGreat
open Go.RowKit
set_option linter.unusedVariables false
set_option linter.unusedSimpArgs false
set_option maxRecDepth 100000
set_option maxHeartbeats 2000000

theorem l1Byte_c (g : Nat) (J : List Int) (A : Option Addr) (cap : Nat)  (w : World) (B : Nat) (hB : B ≤ w.heap.size) (hc : (curF B g 137 (.slice A J.length cap) J.length).p w) (hl : Sl w (.slice A J.length cap) 1 (J.map bR)) (hap : ¬ (slF (.slice A J.length cap) 1 (J.map bR)).blk g) (hn : J.length ≤ 1048576)  : Calls Tryz.prog 155 #[.pointer (some ⟨g, 0, none⟩)] w fun e w' => ∃ y : {y : Int // 0 ≤ y ∧ y ≤ 255}, e = .returned (.int .i64 y.1) ∧ (curF B g 137 (.slice A J.length cap) J.length).p w' ∧ Chgd (fun b => b = g) w w' := by
 have hq_code := Sl.capLe hl
 obtain ⟨hBg,i,h,hi,hg⟩ := hc
 refine x_callsM (args := [.pointer (some ⟨g,0,none⟩)]) (fn := Tryz.f155) [cellF B g 137 [.slice A J.length cap,.int .i64 (i : Int),.int .i64 h],slF (.slice A J.length cap) 1 (J.map bR),frF w (fun b => b = g)] B Tryz.func155 rfl Tryz.ntmps155 rfl hB (by simp only [List.mem_cons,List.not_mem_nil,or_false,forall_eq_or_imp,forall_eq]; exact ⟨⟨hBg,hg⟩,hl,frF_start w _⟩) (apart_cell hap rfl) ?_
 refine kQ ?_
 refine kEF [0] ⟨[(0,.v (.pointer (some ⟨g,0,none⟩)))],[],[],[cellF B g 137 [.slice A J.length cap,.int .i64 (i : Int),.int .i64 h],slF (.slice A J.length cap) 1 (J.map bR),frF w (fun b => b = g)]⟩ ?_
 refine kQ ?_
 refine kOD 2 [0,4,5] [(4,.v (.pointer (some ⟨g,0,none⟩))),(5,.v (.pointer (some ⟨g,0,none⟩)))] (.pointer (some ⟨g,0,none⟩)) rfl (fun _ _ _ ww hr => act_nil (b := g) (m := 0) hr.1 rfl (by kernel_rfl) ww) ?_
 refine kOD 0 [0,4,6] [] (.pointer (some ⟨g,2,none⟩)) rfl (fun _ _ _ ww hr => act_fld (sz := 1) (b := g) (m := 0) hr.1 rfl Tryz.underlying137 rfl (by kernel_rfl) rfl (by kernel_rfl) rfl) ?_
 refine kOD 0 [0,4,7] [] (.int .i64 h) rfl (fun _ _ _ ww hr => ldP_run (off := 2) (B := B) (g := g) (T := 137) (cs := [.slice A J.length cap,.int .i64 (i : Int),.int .i64 h]) hr rfl (by kernel_rfl) (by simp) (by kernel_rfl)) ?_
 refine kOD 2 [0,4,10] [(10,.v (.int .i64 (IntKind.i64.wrap ((IntKind.i64.wrap (h * 6364136223846793005)) + 1442695040888963407))))] (.pointer (some ⟨g,0,none⟩)) rfl (fun _ _ _ ww hr => act_nil (b := g) (m := 0) hr.1 rfl (by kernel_rfl) ww) ?_
 refine kOD 0 [0,10,11] [] (.pointer (some ⟨g,2,none⟩)) rfl (fun _ _ _ ww hr => act_fld (sz := 1) (b := g) (m := 0) hr.1 rfl Tryz.underlying137 rfl (by kernel_rfl) rfl (by kernel_rfl) rfl) ?_
 refine xl_hs 0 [0,10,12] ⟨[(0,.v (.pointer (some ⟨g,0,none⟩))),(10,.v (.int .i64 (IntKind.i64.wrap ((IntKind.i64.wrap (h * 6364136223846793005)) + 1442695040888963407)))),(12,.v (.pointer (some ⟨g,2,none⟩)))],[],[],[cellF B g 137 [.slice A J.length cap,.int .i64 (i : Int),.int .i64 h],slF (.slice A J.length cap) 1 (J.map bR),frF w (fun b => b = g)]⟩ (by kernel_rfl) rfl (by kernel_rfl) rfl (by kernel_rfl) (hs_stP (g := g) (T := 137) (off := 2) (v := (.int .i64 (IntKind.i64.wrap ((IntKind.i64.wrap (h * 6364136223846793005)) + 1442695040888963407)))) (i := 0) (B := B) (cs := [.slice A J.length cap,.int .i64 (i : Int),.int .i64 h]) [.int .i64 (IntKind.i64.wrap ((IntKind.i64.wrap (h * 6364136223846793005)) + 1442695040888963407))] (cs' := [.slice A J.length cap,.int .i64 (i : Int),.int .i64 (IntKind.i64.wrap ((IntKind.i64.wrap (h * 6364136223846793005)) + 1442695040888963407))]) rfl (by kernel_rfl) (by kernel_rfl) rfl (by kernel_rfl) rfl (by kernel_rfl) rfl rfl (cutW_le w B)) ?_
 refine kED [0] [] ?_
 refine kS ?_
 refine xws_start ?_
 refine xws_cell (B := B) (g := g) (T := 137) (cs := [.slice A J.length cap,.int .i64 (i : Int),.int .i64 (IntKind.i64.wrap ((IntKind.i64.wrap (h * 6364136223846793005)) + 1442695040888963407))]) (fun _ _ h => h) (by simp) ?_
 refine xws_regionE [] (by kernel_rfl) (fun ρ σ hq1 => ?_)
 refine kTD [0,5] [18,13,0] 11 [(18,.v (.pointer (some ⟨g,0,none⟩))),(13,.v (.pointer (some ⟨g,0,none⟩)))] ?_
 refine kX 1 (.pointer (some ⟨g,0,none⟩)) rfl (fun _ _ ww hA => act_nil (b := g) (m := 0) hA rfl (by kernel_rfl) ww) ?_
 refine kX 2 (.pointer (some ⟨g,2,none⟩)) rfl (fun _ _ ww hA => act_fld (sz := 1) (b := g) (m := 0) hA rfl Tryz.underlying137 rfl (by kernel_rfl) rfl (by kernel_rfl) rfl) ?_
 refine xe_opH 3 (.int .i64 (IntKind.i64.wrap ((IntKind.i64.wrap (h * 6364136223846793005)) + 1442695040888963407))) _ rfl (by kernel_rfl) (by kernel_rfl) (by kernel_rfl) (fun _ _ h => h) (by kernel_rfl) rfl (fun _ _ ww hA hS => ld_range (g := g) (off := 2) (cs := [.slice A J.length cap,.int .i64 (i : Int),.int .i64 (IntKind.i64.wrap ((IntKind.i64.wrap (h * 6364136223846793005)) + 1442695040888963407))]) hA rfl (by kernel_rfl) (rd_row hS (h := 0) rfl hq1.2) (by kernel_rfl)) rfl ?_
 refine kX 4 (.int .i64 (Int.fdiv (IntKind.i64.wrap ((IntKind.i64.wrap (h * 6364136223846793005)) + 1442695040888963407)) (2 ^ (33 : Int).toNat))) rfl (fun _ _ ww hA => act_bin hA rfl (by kernel_rfl) (by kernel_rfl) (shr_run (k' := .u64) (by decide) (by decide) ww)) ?_
 refine kX 6 (.pointer (some ⟨g,0,none⟩)) rfl (fun _ _ ww hA => act_nil (b := g) (m := 0) hA rfl (by kernel_rfl) ww) ?_
 refine kX 7 (.pointer (some ⟨g,2,none⟩)) rfl (fun _ _ ww hA => act_fld (sz := 1) (b := g) (m := 0) hA rfl Tryz.underlying137 rfl (by kernel_rfl) rfl (by kernel_rfl) rfl) ?_
 refine xe_opH 8 (.int .i64 (IntKind.i64.wrap ((IntKind.i64.wrap (h * 6364136223846793005)) + 1442695040888963407))) _ rfl (by kernel_rfl) (by kernel_rfl) (by kernel_rfl) (fun _ _ h => h) (by kernel_rfl) rfl (fun _ _ ww hA hS => ld_range (g := g) (off := 2) (cs := [.slice A J.length cap,.int .i64 (i : Int),.int .i64 (IntKind.i64.wrap ((IntKind.i64.wrap (h * 6364136223846793005)) + 1442695040888963407))]) hA rfl (by kernel_rfl) (rd_row hS (h := 0) rfl hq1.2) (by kernel_rfl)) rfl ?_
 refine kX 9 (.int .i64 (Int.fdiv (IntKind.i64.wrap ((IntKind.i64.wrap (h * 6364136223846793005)) + 1442695040888963407)) (2 ^ (45 : Int).toNat))) rfl (fun _ _ ww hA => act_bin hA rfl (by kernel_rfl) (by kernel_rfl) (shr_run (k' := .u64) (by decide) (by decide) ww)) ?_
 refine kX 10 (.int .i64 (IntKind.i64.wrap (BitVec.ofInt 64 (Int.fdiv (IntKind.i64.wrap ((IntKind.i64.wrap (h * 6364136223846793005)) + 1442695040888963407)) (2 ^ (33 : Int).toNat)) ^^^ BitVec.ofInt 64 (Int.fdiv (IntKind.i64.wrap ((IntKind.i64.wrap (h * 6364136223846793005)) + 1442695040888963407)) (2 ^ (45 : Int).toNat))).toNat)) rfl (fun _ _ ww hA => act_bin hA rfl (by kernel_rfl) (by kernel_rfl) (xor_run ww)) ?_
 refine kTD [11,12] [3,0] 0 [(3,.v (.int .i64 (IntKind.i64.wrap (BitVec.ofInt 64 (IntKind.i64.wrap (BitVec.ofInt 64 (Int.fdiv (IntKind.i64.wrap ((IntKind.i64.wrap (h * 6364136223846793005)) + 1442695040888963407)) (2 ^ (33 : Int).toNat)) ^^^ BitVec.ofInt 64 (Int.fdiv (IntKind.i64.wrap ((IntKind.i64.wrap (h * 6364136223846793005)) + 1442695040888963407)) (2 ^ (45 : Int).toNat))).toNat) &&& BitVec.ofInt 64 255).toNat)))] ?_
 refine kZ ?_
 refine kS ?_
 refine kS ?_
 refine xw_wk (wkf (s' := ⟨[(3,.v (.int .i64 (IntKind.i64.wrap (BitVec.ofInt 64 (IntKind.i64.wrap (BitVec.ofInt 64 (Int.fdiv (IntKind.i64.wrap ((IntKind.i64.wrap (h * 6364136223846793005)) + 1442695040888963407)) (2 ^ (33 : Int).toNat)) ^^^ BitVec.ofInt 64 (Int.fdiv (IntKind.i64.wrap ((IntKind.i64.wrap (h * 6364136223846793005)) + 1442695040888963407)) (2 ^ (45 : Int).toNat))).toNat) &&& BitVec.ofInt 64 255).toNat))),(0,.v (.pointer (some ⟨g,0,none⟩)))],[],[],[cellF B g 137 [.slice A J.length cap,.int .i64 (i : Int),.int .i64 (IntKind.i64.wrap ((IntKind.i64.wrap (h * 6364136223846793005)) + 1442695040888963407))],slF (.slice A J.length cap) 1 (J.map bR),frF w (fun b => b = g)]⟩) 0 0 [3,0] (by kernel_rfl)) ?_
 refine xws_start ?_
 refine xws_cell (B := B) (g := g) (T := 137) (cs := [.slice A J.length cap,.int .i64 (i : Int),.int .i64 (IntKind.i64.wrap ((IntKind.i64.wrap (h * 6364136223846793005)) + 1442695040888963407))]) (fun _ _ h => h) (by simp) ?_
 refine xws_regionE [] (by kernel_rfl) (fun ρ σ hq2 => ?_)
 refine kTD [0,4] [29,25,3,0] 8 [(29,.v (.pointer (some ⟨g,0,none⟩))),(25,.v (.pointer (some ⟨g,0,none⟩)))] ?_
 refine kX 1 (.pointer (some ⟨g,0,none⟩)) rfl (fun _ _ ww hA => act_nil (b := g) (m := 0) hA rfl (by kernel_rfl) ww) ?_
 refine kX 2 (.pointer (some ⟨g,1,none⟩)) rfl (fun _ _ ww hA => act_fld (sz := 1) (b := g) (m := 0) hA rfl Tryz.underlying137 rfl (by kernel_rfl) rfl (by kernel_rfl) rfl) ?_
 refine xe_opH 3 (.int .i64 (i : Int)) _ rfl (by kernel_rfl) (by kernel_rfl) (by kernel_rfl) (fun _ _ h => h) (by kernel_rfl) rfl (fun _ _ ww hA hS => ld_range (g := g) (off := 1) (cs := [.slice A J.length cap,.int .i64 (i : Int),.int .i64 (IntKind.i64.wrap ((IntKind.i64.wrap (h * 6364136223846793005)) + 1442695040888963407))]) hA rfl (by kernel_rfl) (rd_row hS (h := 0) rfl hq2.2) (by kernel_rfl)) rfl ?_
 refine kX 5 (.pointer (some ⟨g,0,none⟩)) rfl (fun _ _ ww hA => act_nil (b := g) (m := 0) hA rfl (by kernel_rfl) ww) ?_
 refine kX 6 (.pointer (some ⟨g,0,none⟩)) rfl (fun _ _ ww hA => act_fld (sz := 1) (b := g) (m := 0) hA rfl Tryz.underlying137 rfl (by kernel_rfl) rfl (by kernel_rfl) rfl) ?_
 refine xe_opH 7 (.slice A J.length cap) _ rfl (by kernel_rfl) (by kernel_rfl) (by kernel_rfl) (fun _ _ h => h) (by kernel_rfl) rfl (fun _ _ ww hA hS => ld_range (g := g) (off := 0) (cs := [.slice A J.length cap,.int .i64 (i : Int),.int .i64 (IntKind.i64.wrap ((IntKind.i64.wrap (h * 6364136223846793005)) + 1442695040888963407))]) hA rfl (by kernel_rfl) (rd_row hS (h := 0) rfl hq2.2) (by kernel_rfl)) rfl ?_
 refine kTD [8,9] [34,3,0] 0 [(34,.v (.bool (decide ((i : Int) < ((J.length : Nat) : Int)))))] ?_
 refine kZ ?_
 refine kC (decide ((i : Int) < ((J.length : Nat) : Int))) (fun h3 => ?_) (fun h3 => ?_)
 have h3p := of_decide_eq_true h3
 have hlt : i < J.length := by simpa using h3
 obtain ⟨z,hz⟩ : ∃ z,J[i]? = some z := ⟨_,List.getElem?_eq_getElem hlt⟩
 refine kS ?_
 refine xw_wk (wkf (s' := ⟨[(34,.v (.bool (decide ((i : Int) < ((J.length : Nat) : Int))))),(3,.v (.int .i64 (IntKind.i64.wrap (BitVec.ofInt 64 (IntKind.i64.wrap (BitVec.ofInt 64 (Int.fdiv (IntKind.i64.wrap ((IntKind.i64.wrap (h * 6364136223846793005)) + 1442695040888963407)) (2 ^ (33 : Int).toNat)) ^^^ BitVec.ofInt 64 (Int.fdiv (IntKind.i64.wrap ((IntKind.i64.wrap (h * 6364136223846793005)) + 1442695040888963407)) (2 ^ (45 : Int).toNat))).toNat) &&& BitVec.ofInt 64 255).toNat))),(0,.v (.pointer (some ⟨g,0,none⟩)))],[],[],[cellF B g 137 [.slice A J.length cap,.int .i64 (i : Int),.int .i64 (IntKind.i64.wrap ((IntKind.i64.wrap (h * 6364136223846793005)) + 1442695040888963407))],slF (.slice A J.length cap) 1 (J.map bR),frF w (fun b => b = g)]⟩) 0 0 [34,3,0] (by kernel_rfl)) ?_
 refine xws_start ?_
 refine xws_row (K := 1) (j := i) [.int .u8 z] (slF (.slice A J.length cap) 1 (J.map bR)) (fun _ _ h => h) (by simp) (fun w h => h) (fun b h => h) (by simp only [List.getElem?_map,hz]; rfl) (fun bq4 offq4 hAq4 => ?_)
 refine xws_cell (B := B) (g := g) (T := 137) (cs := [.slice A J.length cap,.int .i64 (i : Int),.int .i64 (IntKind.i64.wrap ((IntKind.i64.wrap (h * 6364136223846793005)) + 1442695040888963407))]) (fun _ _ h => h) (by simp) ?_
 refine xws_regionE [] (by kernel_rfl) (fun ρ σ hq5 => ?_)
 refine kTS [0,1,5] [40,36,35,3,0] 12 [(40,.v (.pointer (some ⟨g,0,none⟩))),(36,.v (.pointer (some ⟨g,0,none⟩))),(35,.v (.int .i64 (IntKind.i64.wrap (BitVec.ofInt 64 (IntKind.i64.wrap (BitVec.ofInt 64 (Int.fdiv (IntKind.i64.wrap ((IntKind.i64.wrap (h * 6364136223846793005)) + 1442695040888963407)) (2 ^ (33 : Int).toNat)) ^^^ BitVec.ofInt 64 (Int.fdiv (IntKind.i64.wrap ((IntKind.i64.wrap (h * 6364136223846793005)) + 1442695040888963407)) (2 ^ (45 : Int).toNat))).toNat) &&& BitVec.ofInt 64 255).toNat))),(3,.v (.int .i64 (IntKind.i64.wrap (BitVec.ofInt 64 (IntKind.i64.wrap (BitVec.ofInt 64 (Int.fdiv (IntKind.i64.wrap ((IntKind.i64.wrap (h * 6364136223846793005)) + 1442695040888963407)) (2 ^ (33 : Int).toNat)) ^^^ BitVec.ofInt 64 (Int.fdiv (IntKind.i64.wrap ((IntKind.i64.wrap (h * 6364136223846793005)) + 1442695040888963407)) (2 ^ (45 : Int).toNat))).toNat) &&& BitVec.ofInt 64 255).toNat))),(0,.v (.pointer (some ⟨g,0,none⟩)))] ?_
 refine kX 2 (.pointer (some ⟨g,0,none⟩)) rfl (fun _ _ ww hA => act_nil (b := g) (m := 0) hA rfl (by kernel_rfl) ww) ?_
 refine kX 3 (.pointer (some ⟨g,0,none⟩)) rfl (fun _ _ ww hA => act_fld (sz := 1) (b := g) (m := 0) hA rfl Tryz.underlying137 rfl (by kernel_rfl) rfl (by kernel_rfl) rfl) ?_
 refine xe_opH 4 (.slice A J.length cap) _ rfl (by kernel_rfl) (by kernel_rfl) (by kernel_rfl) (fun _ _ h => h) (by kernel_rfl) rfl (fun _ _ ww hA hS => ld_range (g := g) (off := 0) (cs := [.slice A J.length cap,.int .i64 (i : Int),.int .i64 (IntKind.i64.wrap ((IntKind.i64.wrap (h * 6364136223846793005)) + 1442695040888963407))]) hA rfl (by kernel_rfl) (rd_row hS (h := 1) rfl hq5.2) (by kernel_rfl)) rfl ?_
 refine kX 6 (.pointer (some ⟨g,0,none⟩)) rfl (fun _ _ ww hA => act_nil (b := g) (m := 0) hA rfl (by kernel_rfl) ww) ?_
 refine kX 7 (.pointer (some ⟨g,1,none⟩)) rfl (fun _ _ ww hA => act_fld (sz := 1) (b := g) (m := 0) hA rfl Tryz.underlying137 rfl (by kernel_rfl) rfl (by kernel_rfl) rfl) ?_
 refine xe_opH 8 (.int .i64 (i : Int)) _ rfl (by kernel_rfl) (by kernel_rfl) (by kernel_rfl) (fun _ _ h => h) (by kernel_rfl) rfl (fun _ _ ww hA hS => ld_range (g := g) (off := 1) (cs := [.slice A J.length cap,.int .i64 (i : Int),.int .i64 (IntKind.i64.wrap ((IntKind.i64.wrap (h * 6364136223846793005)) + 1442695040888963407))]) hA rfl (by kernel_rfl) (rd_row hS (h := 1) rfl hq5.2) (by kernel_rfl)) rfl ?_
 refine xe_takeI (kd := .i64) (T := 57) (e := 5) (K := 1) (j := i) (A := A) (len := J.length) (cap := cap) 9 0 _ rfl (by kernel_rfl) (by kernel_rfl) (by kernel_rfl) (fun _ _ h => h) (by kernel_rfl) rfl rfl (by kernel_rfl) (by kernel_rfl) (by kernel_rfl) (by kernel_rfl) hlt hAq4 hq5.1.2 (by kernel_rfl) rfl ?_
 refine kTD [10,11,12,13,14] [3,0] 0 [(3,.v (.int .i64 (IntKind.i64.wrap (BitVec.ofInt 64 (IntKind.i64.wrap ((IntKind.i64.wrap (BitVec.ofInt 64 (IntKind.i64.wrap (BitVec.ofInt 64 (Int.fdiv (IntKind.i64.wrap ((IntKind.i64.wrap (h * 6364136223846793005)) + 1442695040888963407)) (2 ^ (33 : Int).toNat)) ^^^ BitVec.ofInt 64 (Int.fdiv (IntKind.i64.wrap ((IntKind.i64.wrap (h * 6364136223846793005)) + 1442695040888963407)) (2 ^ (45 : Int).toNat))).toNat) &&& BitVec.ofInt 64 255).toNat) + (IntKind.i64.wrap z))) &&& BitVec.ofInt 64 255).toNat)))] ?_
 refine kZ ?_
 refine kG ?_
 refine kOD 2 [3,49,50] [(49,.v (.pointer (some ⟨g,0,none⟩))),(50,.v (.pointer (some ⟨g,0,none⟩)))] (.pointer (some ⟨g,0,none⟩)) rfl (fun _ _ _ ww hr => act_nil (b := g) (m := 0) hr.1 rfl (by kernel_rfl) ww) ?_
 refine kOD 0 [3,49,51] [] (.pointer (some ⟨g,1,none⟩)) rfl (fun _ _ _ ww hr => act_fld (sz := 1) (b := g) (m := 0) hr.1 rfl Tryz.underlying137 rfl (by kernel_rfl) rfl (by kernel_rfl) rfl) ?_
 refine kOD 0 [3,49,52] [] (.int .i64 (i : Int)) rfl (fun _ _ _ ww hr => ldP_run (off := 1) (B := B) (g := g) (T := 137) (cs := [.slice A J.length cap,.int .i64 (i : Int),.int .i64 (IntKind.i64.wrap ((IntKind.i64.wrap (h * 6364136223846793005)) + 1442695040888963407))]) hr rfl (by kernel_rfl) (by simp) (by kernel_rfl)) ?_
 refine kOD 1 [3,49,54] [(54,.v (.int .i64 (IntKind.i64.wrap ((i : Int) + 1))))] (.pointer (some ⟨g,0,none⟩)) rfl (fun _ _ _ ww hr => act_nil (b := g) (m := 0) hr.1 rfl (by kernel_rfl) ww) ?_
 refine kOD 0 [3,54,55] [] (.pointer (some ⟨g,1,none⟩)) rfl (fun _ _ _ ww hr => act_fld (sz := 1) (b := g) (m := 0) hr.1 rfl Tryz.underlying137 rfl (by kernel_rfl) rfl (by kernel_rfl) rfl) ?_
 refine xl_hs 0 [3,54,56] ⟨[(3,.v (.int .i64 (IntKind.i64.wrap (BitVec.ofInt 64 (IntKind.i64.wrap ((IntKind.i64.wrap (BitVec.ofInt 64 (IntKind.i64.wrap (BitVec.ofInt 64 (Int.fdiv (IntKind.i64.wrap ((IntKind.i64.wrap (h * 6364136223846793005)) + 1442695040888963407)) (2 ^ (33 : Int).toNat)) ^^^ BitVec.ofInt 64 (Int.fdiv (IntKind.i64.wrap ((IntKind.i64.wrap (h * 6364136223846793005)) + 1442695040888963407)) (2 ^ (45 : Int).toNat))).toNat) &&& BitVec.ofInt 64 255).toNat) + (IntKind.i64.wrap z))) &&& BitVec.ofInt 64 255).toNat))),(54,.v (.int .i64 (IntKind.i64.wrap ((i : Int) + 1)))),(56,.v (.pointer (some ⟨g,1,none⟩)))],[],[[.int .u8 z],[.slice A J.length cap,.int .i64 (i : Int),.int .i64 (IntKind.i64.wrap ((IntKind.i64.wrap (h * 6364136223846793005)) + 1442695040888963407))]],[cellF B g 137 [.slice A J.length cap,.int .i64 (i : Int),.int .i64 (IntKind.i64.wrap ((IntKind.i64.wrap (h * 6364136223846793005)) + 1442695040888963407))],slF (.slice A J.length cap) 1 (J.map bR),frF w (fun b => b = g)]⟩ (by kernel_rfl) rfl (by kernel_rfl) rfl (by kernel_rfl) (hs_stP (g := g) (T := 137) (off := 1) (v := (.int .i64 (IntKind.i64.wrap ((i : Int) + 1)))) (i := 0) (B := B) (cs := [.slice A J.length cap,.int .i64 (i : Int),.int .i64 (IntKind.i64.wrap ((IntKind.i64.wrap (h * 6364136223846793005)) + 1442695040888963407))]) [.int .i64 (IntKind.i64.wrap ((i : Int) + 1))] (cs' := [.slice A J.length cap,.int .i64 (IntKind.i64.wrap ((i : Int) + 1)),.int .i64 (IntKind.i64.wrap ((IntKind.i64.wrap (h * 6364136223846793005)) + 1442695040888963407))]) rfl (by kernel_rfl) (by kernel_rfl) rfl (by kernel_rfl) rfl (by kernel_rfl) rfl rfl (cutW_le w B)) ?_
 refine kED [3] [] ?_
 refine kQ ?_
 refine kES [2] [(2,.v (.int .i64 (IntKind.i64.wrap (BitVec.ofInt 64 (IntKind.i64.wrap ((IntKind.i64.wrap (BitVec.ofInt 64 (IntKind.i64.wrap (BitVec.ofInt 64 (Int.fdiv (IntKind.i64.wrap ((IntKind.i64.wrap (h * 6364136223846793005)) + 1442695040888963407)) (2 ^ (33 : Int).toNat)) ^^^ BitVec.ofInt 64 (Int.fdiv (IntKind.i64.wrap ((IntKind.i64.wrap (h * 6364136223846793005)) + 1442695040888963407)) (2 ^ (45 : Int).toNat))).toNat) &&& BitVec.ofInt 64 255).toNat) + (IntKind.i64.wrap z))) &&& BitVec.ofInt 64 255).toNat)))] ?_
 refine kR ?_
 exact ⟨[.int .i64 (IntKind.i64.wrap (BitVec.ofInt 64 (IntKind.i64.wrap ((IntKind.i64.wrap (BitVec.ofInt 64 (IntKind.i64.wrap (BitVec.ofInt 64 (Int.fdiv (IntKind.i64.wrap ((IntKind.i64.wrap (h * 6364136223846793005)) + 1442695040888963407)) (2 ^ (33 : Int).toNat)) ^^^ BitVec.ofInt 64 (Int.fdiv (IntKind.i64.wrap ((IntKind.i64.wrap (h * 6364136223846793005)) + 1442695040888963407)) (2 ^ (45 : Int).toNat))).toNat) &&& BitVec.ofInt 64 255).toNat) + (IntKind.i64.wrap z))) &&& BitVec.ofInt 64 255).toNat)],by kernel_rfl,fun w' hb hf => ⟨⟨IntKind.i64.wrap (BitVec.ofInt 64 (IntKind.i64.wrap ((IntKind.i64.wrap (BitVec.ofInt 64 (IntKind.i64.wrap (BitVec.ofInt 64 (Int.fdiv (IntKind.i64.wrap ((IntKind.i64.wrap (h * 6364136223846793005)) + 1442695040888963407)) (2 ^ (33 : Int).toNat)) ^^^ BitVec.ofInt 64 (Int.fdiv (IntKind.i64.wrap ((IntKind.i64.wrap (h * 6364136223846793005)) + 1442695040888963407)) (2 ^ (45 : Int).toNat))).toNat) &&& BitVec.ofInt 64 255).toNat) + (IntKind.i64.wrap z))) &&& BitVec.ofInt 64 255).toNat,and255 _⟩,rfl,⟨hBg,i + 1,IntKind.i64.wrap ((IntKind.i64.wrap (h * 6364136223846793005)) + 1442695040888963407),by omega,by have := (hf (cellF B g 137 [.slice A J.length cap,.int .i64 (IntKind.i64.wrap ((i : Int) + 1)),.int .i64 (IntKind.i64.wrap ((IntKind.i64.wrap (h * 6364136223846793005)) + 1442695040888963407))]) (by simp)).2; rw [show IntKind.i64.wrap ((i : Int) + 1) = ((i + 1 : Nat) : Int) from by rw [wrap_id (by omega) (by omega)]; omega] at this; exact this⟩,frF_chgd (hf (frF w (fun b => b = g)) (by simp)) hb rfl rfl rfl⟩⟩
 have h3p := of_decide_eq_false h3
 refine kK ?_
 refine kQ ?_
 refine kES [2] [(2,.v (.int .i64 (IntKind.i64.wrap (BitVec.ofInt 64 (IntKind.i64.wrap (BitVec.ofInt 64 (Int.fdiv (IntKind.i64.wrap ((IntKind.i64.wrap (h * 6364136223846793005)) + 1442695040888963407)) (2 ^ (33 : Int).toNat)) ^^^ BitVec.ofInt 64 (Int.fdiv (IntKind.i64.wrap ((IntKind.i64.wrap (h * 6364136223846793005)) + 1442695040888963407)) (2 ^ (45 : Int).toNat))).toNat) &&& BitVec.ofInt 64 255).toNat)))] ?_
 refine kR ?_
 exact ⟨[.int .i64 (IntKind.i64.wrap (BitVec.ofInt 64 (IntKind.i64.wrap (BitVec.ofInt 64 (Int.fdiv (IntKind.i64.wrap ((IntKind.i64.wrap (h * 6364136223846793005)) + 1442695040888963407)) (2 ^ (33 : Int).toNat)) ^^^ BitVec.ofInt 64 (Int.fdiv (IntKind.i64.wrap ((IntKind.i64.wrap (h * 6364136223846793005)) + 1442695040888963407)) (2 ^ (45 : Int).toNat))).toNat) &&& BitVec.ofInt 64 255).toNat)],by kernel_rfl,fun w' hb hf => ⟨⟨IntKind.i64.wrap (BitVec.ofInt 64 (IntKind.i64.wrap (BitVec.ofInt 64 (Int.fdiv (IntKind.i64.wrap ((IntKind.i64.wrap (h * 6364136223846793005)) + 1442695040888963407)) (2 ^ (33 : Int).toNat)) ^^^ BitVec.ofInt 64 (Int.fdiv (IntKind.i64.wrap ((IntKind.i64.wrap (h * 6364136223846793005)) + 1442695040888963407)) (2 ^ (45 : Int).toNat))).toNat) &&& BitVec.ofInt 64 255).toNat,and255 _⟩,rfl,⟨hBg,i,IntKind.i64.wrap ((IntKind.i64.wrap (h * 6364136223846793005)) + 1442695040888963407),hi,(hf (cellF B g 137 [.slice A J.length cap,.int .i64 (i : Int),.int .i64 (IntKind.i64.wrap ((IntKind.i64.wrap (h * 6364136223846793005)) + 1442695040888963407))]) (by simp)).2⟩,frF_chgd (hf (frF w (fun b => b = g)) (by simp)) hb rfl rfl rfl⟩⟩
theorem l1Byte_c_K {g : Nat} {J : List Int} {A : Option Addr} {cap : Nat}  {w0 : World} {fs : List Fact} {B : Nat} (hB : B ≤ w0.heap.size) (hap : ¬ (slF (.slice A J.length cap) 1 (J.map bR)).blk g)  (hn : J.length ≤ 1048576 := by omega) (h1 : curF B g 137 (.slice A J.length cap) J.length ∈ fs := by simp) (h2 : slF (.slice A J.length cap) 1 (J.map bR) ∈ fs := by simp) : XCM Tryz.prog w0 fs (curF B g 137 (.slice A J.length cap) J.length).blk 155 [.pointer (some ⟨g, 0, none⟩)] (α := {y : Int // 0 ≤ y ∧ y ≤ 255}) (fun y => .int .i64 y.1) (fun _ => [curF B g 137 (.slice A J.length cap) J.length]) := xcm_cur fun w hw hf => l1Byte_c g J A cap  w B (Nat.le_trans hB hw) (hf _ h1) (hf _ h2) hap hn  
theorem l1Below_c (g : Nat) (J : List Int) (A : Option Addr) (cap : Nat) (n : Int) (w : World) (B : Nat) (hB : B ≤ w.heap.size) (hc : (curF B g 137 (.slice A J.length cap) J.length).p w) (hl : Sl w (.slice A J.length cap) 1 (J.map bR)) (hap : ¬ (slF (.slice A J.length cap) 1 (J.map bR)).blk g) (hn : J.length ≤ 1048576)  : Calls Tryz.prog 133 #[.pointer (some ⟨g, 0, none⟩), .int .i64 n] w fun e w' => ∃ y : {y : Int // 0 ≤ y ∧ (0 < n → y < n)}, e = .returned (.int .i64 y.1) ∧ (curF B g 137 (.slice A J.length cap) J.length).p w' ∧ Chgd (fun b => b = g) w w' := by
 have hq_code := Sl.capLe hl
 have hBw : B ≤ (cutW w B).heap.size := Nat.le_of_eq (cutW_size hB).symm
 have hlo : ∀ (ww : World) (b : Nat),(curF B g 137 (.slice A J.length cap) J.length).p ww → (curF B g 137 (.slice A J.length cap) J.length).blk b → (cutW w B).heap.size ≤ b := fun ww b h hb => Nat.le_trans (cutW_le w B) (cur_lo h hb)
 refine x_callsM (args := [.pointer (some ⟨g,0,none⟩),.int .i64 n]) (fn := Tryz.f133) [curF B g 137 (.slice A J.length cap) J.length,slF (.slice A J.length cap) 1 (J.map bR),frF w (fun b => b = g)] B Tryz.func133 rfl Tryz.ntmps133 rfl hB (by simp only [List.mem_cons,List.not_mem_nil,or_false,forall_eq_or_imp,forall_eq]; exact ⟨hc,hl,frF_start w _⟩) (apart_cur hap rfl) ?_
 refine kQ ?_
 refine kEF [0,1] ⟨[(0,.v (.pointer (some ⟨g,0,none⟩))),(1,.v (.int .i64 n))],[],[],[curF B g 137 (.slice A J.length cap) J.length,slF (.slice A J.length cap) 1 (J.map bR),frF w (fun b => b = g)]⟩ ?_
 refine kS ?_
 refine kQ ?_
 refine kED [0,1,10] [(10,.v (.bool (decide (n ≤ 0))))] ?_
 refine kC (decide (n ≤ 0)) (fun h1 => ?_) (fun h1 => ?_)
 have h1p := of_decide_eq_true h1
 refine kQ ?_
 refine kES [4] [(4,.v (.int .i64 0))] ?_
 refine kR ?_
 exact ⟨[.int .i64 0],by kernel_rfl,fun w' hb hf => ⟨⟨0,(by first | (exact ⟨by omega,fun _ => by omega⟩) | (exact tmod_bd (by omega) (by omega)))⟩,rfl,hf (curF B g 137 (.slice A J.length cap) J.length) (by simp),frF_chgd (hf (frF w (fun b => b = g)) (by simp)) hb rfl rfl rfl⟩⟩
 have h1p := of_decide_eq_false h1
 refine kK ?_
 refine kS ?_
 refine kQ ?_
 refine kED [0,1,12] [(12,.v (.bool (decide (n ≤ 256))))] ?_
 refine kC (decide (n ≤ 256)) (fun h2 => ?_) (fun h2 => ?_)
 have h2p := of_decide_eq_true h2
 refine kQ ?_
 refine kWD 1 [1,13] [(13,.v (.pointer (some ⟨g,0,none⟩)))] 155 [.pointer (some ⟨g,0,none⟩)] (some 14) 0 rfl rfl hlo (l1Byte_c_K hBw hap) ?_
 rintro ⟨y3,hy3⟩
 refine kOD 1 [14,15] [(15,.v (.int .i64 n))] (.int .i64 (Int.tmod y3 n)) rfl (fun _ _ _ ww hr => act_bin hr.1 rfl (by kernel_rfl) (by kernel_rfl) (rem_run (by first | decide | omega) ww)) ?_
 refine kES [4] [(4,.v (.int .i64 (Int.tmod y3 n)))] ?_
 refine kR ?_
 exact ⟨[.int .i64 (Int.tmod y3 n)],by kernel_rfl,fun w' hb hf => ⟨⟨Int.tmod y3 n,(by first | (exact ⟨by omega,fun _ => by omega⟩) | (exact tmod_bd (by omega) (by omega)))⟩,rfl,hf (curF B g 137 (.slice A J.length cap) J.length) (by simp),frF_chgd (hf (frF w (fun b => b = g)) (by simp)) hb rfl rfl rfl⟩⟩
 have h2p := of_decide_eq_false h2
 refine kK ?_
 refine kQ ?_
 refine kWD 1 [0,1,17] [(17,.v (.pointer (some ⟨g,0,none⟩)))] 155 [.pointer (some ⟨g,0,none⟩)] (some 18) 0 rfl rfl hlo (l1Byte_c_K hBw hap) ?_
 rintro ⟨y4,hy4⟩
 refine kED [0,1,5] [(5,.v (.int .i64 y4))] ?_
 refine kQ ?_
 refine kWD 1 [0,1,5,19] [(19,.v (.pointer (some ⟨g,0,none⟩)))] 155 [.pointer (some ⟨g,0,none⟩)] (some 20) 0 rfl rfl hlo (l1Byte_c_K hBw hap) ?_
 rintro ⟨y5,hy5⟩
 refine kED [0,1,5,6] [(6,.v (.int .i64 y5))] ?_
 refine kQ ?_
 refine kWD 1 [0,1,5,6,21] [(21,.v (.pointer (some ⟨g,0,none⟩)))] 155 [.pointer (some ⟨g,0,none⟩)] (some 22) 0 rfl rfl hlo (l1Byte_c_K hBw hap) ?_
 rintro ⟨y6,hy6⟩
 refine kED [0,1,5,6,7] [(7,.v (.int .i64 y6))] ?_
 refine kQ ?_
 refine kWD 1 [1,5,6,7,23] [(23,.v (.pointer (some ⟨g,0,none⟩)))] 155 [.pointer (some ⟨g,0,none⟩)] (some 24) 0 rfl rfl hlo (l1Byte_c_K hBw hap) ?_
 rintro ⟨y7,hy7⟩
 refine kED [1,5,6,7,8] [(8,.v (.int .i64 y7))] ?_
 refine kQ ?_
 refine kOS 11 [34,35] [(34,.v (.int .i64 (IntKind.i64.wrap ((IntKind.i64.wrap ((IntKind.i64.wrap ((IntKind.i64.wrap (y4 * 16777216)) + (IntKind.i64.wrap (y5 * 65536)))) + (IntKind.i64.wrap (y6 * 256)))) + y7)))),(35,.v (.int .i64 n))] (.int .i64 (Int.tmod (IntKind.i64.wrap ((IntKind.i64.wrap ((IntKind.i64.wrap ((IntKind.i64.wrap (y4 * 16777216)) + (IntKind.i64.wrap (y5 * 65536)))) + (IntKind.i64.wrap (y6 * 256)))) + y7)) n)) rfl (fun _ _ _ ww hr => act_bin hr.1 rfl (by kernel_rfl) (by kernel_rfl) (rem_run (by first | decide | omega) ww)) ?_
 refine kRS 1 [4] [(4,.v (.int .i64 (Int.tmod (IntKind.i64.wrap ((IntKind.i64.wrap ((IntKind.i64.wrap ((IntKind.i64.wrap (y4 * 16777216)) + (IntKind.i64.wrap (y5 * 65536)))) + (IntKind.i64.wrap (y6 * 256)))) + y7)) n)))] ?_
 refine xl_nv [4] [(4,.v (.int .i64 (Int.tmod (IntKind.i64.wrap ((IntKind.i64.wrap ((IntKind.i64.wrap ((IntKind.i64.wrap (y4 * 16777216)) + (IntKind.i64.wrap (y5 * 65536)))) + (IntKind.i64.wrap (y6 * 256)))) + y7)) n)))] [(4,.v (.int .i64 (Int.tmod ((((y4 * 16777216) + (y5 * 65536)) + (y6 * 256)) + y7) n)))] (by rw [show (IntKind.i64.wrap (y6 * 256)) = (y6 * 256) from wrap_id (by omega) (by omega),show (IntKind.i64.wrap (y5 * 65536)) = (y5 * 65536) from wrap_id (by omega) (by omega),show (IntKind.i64.wrap (y4 * 16777216)) = (y4 * 16777216) from wrap_id (by omega) (by omega),show (IntKind.i64.wrap ((y4 * 16777216) + (y5 * 65536))) = ((y4 * 16777216) + (y5 * 65536)) from wrap_id (by omega) (by omega),show (IntKind.i64.wrap (((y4 * 16777216) + (y5 * 65536)) + (y6 * 256))) = (((y4 * 16777216) + (y5 * 65536)) + (y6 * 256)) from wrap_id (by omega) (by omega),show (IntKind.i64.wrap ((((y4 * 16777216) + (y5 * 65536)) + (y6 * 256)) + y7)) = ((((y4 * 16777216) + (y5 * 65536)) + (y6 * 256)) + y7) from wrap_id (by omega) (by omega)]) (by kernel_rfl) ?_
 refine kED [4] [] ?_
 refine kR ?_
 exact ⟨[.int .i64 (Int.tmod ((((y4 * 16777216) + (y5 * 65536)) + (y6 * 256)) + y7) n)],by kernel_rfl,fun w' hb hf => ⟨⟨Int.tmod ((((y4 * 16777216) + (y5 * 65536)) + (y6 * 256)) + y7) n,(by first | (exact ⟨by omega,fun _ => by omega⟩) | (exact tmod_bd (by omega) (by omega)))⟩,rfl,hf (curF B g 137 (.slice A J.length cap) J.length) (by simp),frF_chgd (hf (frF w (fun b => b = g)) (by simp)) hb rfl rfl rfl⟩⟩
theorem l1Below_c_K {g : Nat} {J : List Int} {A : Option Addr} {cap : Nat} {n : Int} {w0 : World} {fs : List Fact} {B : Nat} (hB : B ≤ w0.heap.size) (hap : ¬ (slF (.slice A J.length cap) 1 (J.map bR)).blk g)  (hn : J.length ≤ 1048576 := by omega) (h1 : curF B g 137 (.slice A J.length cap) J.length ∈ fs := by simp) (h2 : slF (.slice A J.length cap) 1 (J.map bR) ∈ fs := by simp) : XCM Tryz.prog w0 fs (curF B g 137 (.slice A J.length cap) J.length).blk 133 [.pointer (some ⟨g, 0, none⟩), .int .i64 n] (α := {y : Int // 0 ≤ y ∧ (0 < n → y < n)}) (fun y => .int .i64 y.1) (fun _ => [curF B g 137 (.slice A J.length cap) J.length]) := xcm_cur fun w hw hf => l1Below_c g J A cap n w B (Nat.le_trans hB hw) (hf _ h1) (hf _ h2) hap hn  
theorem l1Once_c (g : Nat) (J : List Int) (A : Option Addr) (cap : Nat) (n : Int) (w : World) (B : Nat) (hB : B ≤ w.heap.size) (hc : (curF B g 137 (.slice A J.length cap) J.length).p w) (hl : Sl w (.slice A J.length cap) 1 (J.map bR)) (hap : ¬ (slF (.slice A J.length cap) 1 (J.map bR)).blk g) (hn : J.length ≤ 1048576)  : Calls Tryz.prog 110 #[.pointer (some ⟨g, 0, none⟩), .int .i64 n] w fun e w' => ∃ y : {y : Bool // True}, e = .returned (.bool y.1) ∧ (curF B g 137 (.slice A J.length cap) J.length).p w' ∧ Chgd (fun b => b = g) w w' := by
 have hq_code := Sl.capLe hl
 have hBw : B ≤ (cutW w B).heap.size := Nat.le_of_eq (cutW_size hB).symm
 have hlo : ∀ (ww : World) (b : Nat),(curF B g 137 (.slice A J.length cap) J.length).p ww → (curF B g 137 (.slice A J.length cap) J.length).blk b → (cutW w B).heap.size ≤ b := fun ww b h hb => Nat.le_trans (cutW_le w B) (cur_lo h hb)
 refine x_callsM (args := [.pointer (some ⟨g,0,none⟩),.int .i64 n]) (fn := Tryz.f110) [curF B g 137 (.slice A J.length cap) J.length,slF (.slice A J.length cap) 1 (J.map bR),frF w (fun b => b = g)] B Tryz.func110 rfl Tryz.ntmps110 rfl hB (by simp only [List.mem_cons,List.not_mem_nil,or_false,forall_eq_or_imp,forall_eq]; exact ⟨hc,hl,frF_start w _⟩) (apart_cur hap rfl) ?_
 refine kQ ?_
 refine kEF [0,1] ⟨[(0,.v (.pointer (some ⟨g,0,none⟩))),(1,.v (.int .i64 n))],[],[],[curF B g 137 (.slice A J.length cap) J.length,slF (.slice A J.length cap) 1 (J.map bR),frF w (fun b => b = g)]⟩ ?_
 refine kQ ?_
 refine kWS 2 [5,6] [(5,.v (.pointer (some ⟨g,0,none⟩))),(6,.v (.int .i64 n))] 133 [.pointer (some ⟨g,0,none⟩),.int .i64 n] (some 7) 0 rfl rfl hlo (l1Below_c_K hBw hap) ?_
 rintro ⟨y1,hy1⟩
 obtain ⟨hy10,hy11⟩ := hy1
 refine kES [4] [(4,.v (.bool (y1 == 0)))] ?_
 refine kR ?_
 exact ⟨[.bool (y1 == 0)],by kernel_rfl,fun w' hb hf => ⟨⟨y1 == 0,trivial⟩,rfl,hf (curF B g 137 (.slice A J.length cap) J.length) (by simp),frF_chgd (hf (frF w (fun b => b = g)) (by simp)) hb rfl rfl rfl⟩⟩
theorem l1Once_c_K {g : Nat} {J : List Int} {A : Option Addr} {cap : Nat} {n : Int} {w0 : World} {fs : List Fact} {B : Nat} (hB : B ≤ w0.heap.size) (hap : ¬ (slF (.slice A J.length cap) 1 (J.map bR)).blk g)  (hn : J.length ≤ 1048576 := by omega) (h1 : curF B g 137 (.slice A J.length cap) J.length ∈ fs := by simp) (h2 : slF (.slice A J.length cap) 1 (J.map bR) ∈ fs := by simp) : XCM Tryz.prog w0 fs (curF B g 137 (.slice A J.length cap) J.length).blk 110 [.pointer (some ⟨g, 0, none⟩), .int .i64 n] (α := {y : Bool // True}) (fun y => .bool y.1) (fun _ => [curF B g 137 (.slice A J.length cap) J.length]) := xcm_cur fun w hw hf => l1Once_c g J A cap n w B (Nat.le_trans hB hw) (hf _ h1) (hf _ h2) hap hn  
theorem l1PickInt_c (g : Nat) (J : List Int) (A : Option Addr) (cap : Nat) (list : List Int) (listV : Value) (w : World) (B : Nat) (hB : B ≤ w.heap.size) (hc : (curF B g 137 (.slice A J.length cap) J.length).p w) (hl : Sl w (.slice A J.length cap) 1 (J.map bR)) (hap : ¬ (slF (.slice A J.length cap) 1 (J.map bR)).blk g) (hn : J.length ≤ 1048576) (hl_listV : Sl w listV 1 (list.map intRow)) (hap2 : ¬ (slF listV 1 (list.map intRow)).blk g) (hne : 0 < list.length) : Calls Tryz.prog 136 #[.pointer (some ⟨g, 0, none⟩), listV] w fun e w' => ∃ y : {y : Int // y ∈ list}, e = .returned (.int .i64 y.1) ∧ (curF B g 137 (.slice A J.length cap) J.length).p w' ∧ Chgd (fun b => b = g) w w' := by
 have hq_code := Sl.capLe hl
 have hBw : B ≤ (cutW w B).heap.size := Nat.le_of_eq (cutW_size hB).symm
 have hlo : ∀ (ww : World) (b : Nat),(curF B g 137 (.slice A J.length cap) J.length).p ww → (curF B g 137 (.slice A J.length cap) J.length).blk b → (cutW w B).heap.size ≤ b := fun ww b h hb => Nat.le_trans (cutW_le w B) (cur_lo h hb)
 obtain ⟨Al,Cl,hvl⟩ := hl_listV.form
 rw [List.length_map] at hvl; subst hvl
 have hnl := hl_listV.len; rw [List.length_map] at hnl
 have hql := Sl.capLe hl_listV
 refine x_callsM (args := [.pointer (some ⟨g,0,none⟩),.slice Al list.length Cl]) (fn := Tryz.f136) [curF B g 137 (.slice A J.length cap) J.length,slF (.slice A J.length cap) 1 (J.map bR),frF w (fun b => b = g),slF (.slice Al list.length Cl) 1 (list.map intRow)] B Tryz.func136 rfl Tryz.ntmps136 rfl hB (by simp only [List.mem_cons,List.not_mem_nil,or_false,forall_eq_or_imp,forall_eq]; exact ⟨hc,hl,frF_start w _,hl_listV⟩) (apart_cur2 hap rfl hap2 rfl) ?_
 refine kQ ?_
 refine kEF [0,1] ⟨[(0,.v (.pointer (some ⟨g,0,none⟩))),(1,.v (.slice Al list.length Cl))],[],[],[curF B g 137 (.slice A J.length cap) J.length,slF (.slice A J.length cap) 1 (J.map bR),frF w (fun b => b = g),slF (.slice Al list.length Cl) 1 (list.map intRow)]⟩ ?_
 refine kQ ?_
 refine kWS 4 [5,6,8] [(5,.v (.slice Al list.length Cl)),(6,.v (.pointer (some ⟨g,0,none⟩))),(8,.v (.int .i64 ((list.length : Nat) : Int)))] 133 [.pointer (some ⟨g,0,none⟩),.int .i64 ((list.length : Nat) : Int)] (some 9) 0 rfl rfl hlo (l1Below_c_K hBw hap) ?_
 rintro ⟨y1,hy1⟩
 obtain ⟨hy10,hy11⟩ := hy1
 obtain ⟨j2,hj2⟩ : ∃ j : Nat,y1 = (j : Int) := ⟨y1.toNat,by omega⟩
 subst hj2
 have hlt : j2 < list.length := by omega
 obtain ⟨z,hz⟩ : ∃ z,list[j2]? = some z := ⟨_,List.getElem?_eq_getElem hlt⟩
 refine xl_indexD (kd := .i64) (T := 125) (e := 3) (K := 1) 0 [5,9] [] j2 [.int .i64 z] (slF (.slice Al list.length Cl) 1 (list.map intRow)) (by kernel_rfl) rfl (by kernel_rfl) rfl rfl (by kernel_rfl) (by kernel_rfl) (by kernel_rfl) (by kernel_rfl) hlt (by simp) (fun w h => h) (fun b h => h) (by simp only [List.getElem?_map,hz]; rfl) ?_
 refine kES [4] [(4,.v (.int .i64 z))] ?_
 refine kR ?_
 exact ⟨[.int .i64 z],by kernel_rfl,fun w' hb hf => ⟨⟨z,List.mem_of_getElem? hz⟩,rfl,hf (curF B g 137 (.slice A J.length cap) J.length) (by simp),frF_chgd (hf (frF w (fun b => b = g)) (by simp)) hb rfl rfl rfl⟩⟩
theorem l1PickInt_c_K {g : Nat} {J : List Int} {A : Option Addr} {cap : Nat} {list : List Int} {listV : Value} {w0 : World} {fs : List Fact} {B : Nat} (hB : B ≤ w0.heap.size) (hap : ¬ (slF (.slice A J.length cap) 1 (J.map bR)).blk g) (hs0 : ∀ w : World, w0.heap.size ≤ w.heap.size → (∀ f ∈ fs, f.p w) → Sl w listV 1 (list.map intRow)) (hq0 : ¬ (slF listV 1 (list.map intRow)).blk g) (hne : 0 < list.length) (hn : J.length ≤ 1048576 := by omega) (h1 : curF B g 137 (.slice A J.length cap) J.length ∈ fs := by simp) (h2 : slF (.slice A J.length cap) 1 (J.map bR) ∈ fs := by simp) : XCM Tryz.prog w0 fs (curF B g 137 (.slice A J.length cap) J.length).blk 136 [.pointer (some ⟨g, 0, none⟩), listV] (α := {y : Int // y ∈ list}) (fun y => .int .i64 y.1) (fun _ => [curF B g 137 (.slice A J.length cap) J.length]) := xcm_cur fun w hw hf => l1PickInt_c g J A cap list listV w B (Nat.le_trans hB hw) (hf _ h1) (hf _ h2) hap hn (hs0 w hw hf) hq0 hne
theorem l1Whole_c (g : Nat) (J : List Int) (A : Option Addr) (cap : Nat)  (w : World) (B : Nat) (hB : B ≤ w.heap.size) (hc : (curF B g 137 (.slice A J.length cap) J.length).p w) (hl : Sl w (.slice A J.length cap) 1 (J.map bR)) (hap : ¬ (slF (.slice A J.length cap) 1 (J.map bR)).blk g) (hn : J.length ≤ 1048576)  : Calls Tryz.prog 160 #[.pointer (some ⟨g, 0, none⟩)] w fun e w' => ∃ y : {y : Int // True}, e = .returned (.int .i64 y.1) ∧ (curF B g 137 (.slice A J.length cap) J.length).p w' ∧ Chgd (fun b => b = g) w w' := by
 have hq_code := Sl.capLe hl
 have hBw : B ≤ (cutW w B).heap.size := Nat.le_of_eq (cutW_size hB).symm
 have hlo : ∀ (ww : World) (b : Nat),(curF B g 137 (.slice A J.length cap) J.length).p ww → (curF B g 137 (.slice A J.length cap) J.length).blk b → (cutW w B).heap.size ≤ b := fun ww b h hb => Nat.le_trans (cutW_le w B) (cur_lo h hb)
 refine x_callsM (args := [.pointer (some ⟨g,0,none⟩)]) (fn := Tryz.f160) [curF B g 137 (.slice A J.length cap) J.length,slF (.slice A J.length cap) 1 (J.map bR),frF w (fun b => b = g)] B Tryz.func160 rfl Tryz.ntmps160 rfl hB (by simp only [List.mem_cons,List.not_mem_nil,or_false,forall_eq_or_imp,forall_eq]; exact ⟨hc,hl,frF_start w _⟩) (apart_cur hap rfl) ?_
 refine kQ ?_
 refine kEF [0] ⟨[(0,.v (.pointer (some ⟨g,0,none⟩)))],[],[],[curF B g 137 (.slice A J.length cap) J.length,slF (.slice A J.length cap) 1 (J.map bR),frF w (fun b => b = g)]⟩ ?_
 refine kS ?_
 refine kQ ?_
 refine kWD 1 [0,3] [(3,.v (.pointer (some ⟨g,0,none⟩)))] 133 [.pointer (some ⟨g,0,none⟩),.int .i64 3] (some 4) 0 rfl rfl hlo (l1Below_c_K hBw hap) ?_
 rintro ⟨y1,hy1⟩
 obtain ⟨hy10,hy11⟩ := hy1
 refine kED [0,4] [] ?_
 refine xw_block ?_
 refine kQ ?_
 refine kED [0,4,5] [(5,.v (.bool (y1 == 0)))] ?_
 refine kC (y1 == 0) (fun h2 => ?_) (fun h2 => ?_)
 have h2p := eqT h2
 refine kQ ?_
 refine kHS 1 [7] [(7,.v (.pointer (some ⟨g,0,none⟩)))] rfl (hv_build (e := 3) (K := 1) (bytes := 8) [.int .i64 0,.int .i64 1,.int .i64 (-1),.int .i64 9,.int .i64 10,.int .i64 999999999999,.int .i64 1000000000000,.int .i64 9223372036854775807,.int .i64 4294967295,.int .i64 4294967296,.int .i64 65535,.int .i64 65536,.int .i64 (-9223372036854775808)] rfl (by kernel_rfl) (by kernel_rfl) (by kernel_rfl) (by kernel_rfl) (by kernel_rfl) (rs := ([0,1,(-1),9,10,999999999999,1000000000000,9223372036854775807,4294967295,4294967296,65535,65536,(-9223372036854775808)] : List Int).map intRow) rfl) ?_
 intro g3
 refine xl_know (φ := ¬ (slF (.slice (some ⟨g3,0,none⟩) 13 13) 1 (([0,1,(-1),9,10,999999999999,1000000000000,9223372036854775807,4294967295,4294967296,65535,65536,(-9223372036854775808)] : List Int).map intRow)).blk g) (fun _ _ _ _ hr => fun hb => hr.2.apart 0 1 (rowF (cutW w B).heap.size 3 1 (.slice (some ⟨g3,0,none⟩) 13 13) (([0,1,(-1),9,10,999999999999,1000000000000,9223372036854775807,4294967295,4294967296,65535,65536,(-9223372036854775808)] : List Int).map intRow)) (curF B g 137 (.slice A J.length cap) J.length) rfl rfl (by decide) rfl g (rowF_sblk hb) rfl) (fun hk4 => ?_)
 refine kWD 0 [7,8] [] 136 [.pointer (some ⟨g,0,none⟩),.slice (some ⟨g3,0,none⟩) 13 13] (some 9) 1 rfl rfl hlo (l1PickInt_c_K hBw hap (fun ww hw hf => (rowF_sl (hf _ m0))) hk4 (by simp)) ?_
 rintro ⟨y5,hy5⟩
 refine kES [2] [(2,.v (.int .i64 y5))] ?_
 refine kR ?_
 exact ⟨[.int .i64 y5],by kernel_rfl,fun w' hb hf => ⟨⟨y5,trivial⟩,rfl,hf (curF B g 137 (.slice A J.length cap) J.length) (by simp),frF_chgd (hf (frF w (fun b => b = g)) (by simp)) hb rfl rfl rfl⟩⟩
 have h2p := eqF h2
 refine kQ ?_
 refine kED [0,10] [(10,.v (.bool (y1 == 1)))] ?_
 refine kC (y1 == 1) (fun h6 => ?_) (fun h6 => ?_)
 have h6p := eqT h6
 refine kQ ?_
 refine kWS 1 [12] [(12,.v (.pointer (some ⟨g,0,none⟩)))] 133 [.pointer (some ⟨g,0,none⟩),.int .i64 1000000] (some 13) 0 rfl rfl hlo (l1Below_c_K hBw hap) ?_
 rintro ⟨y7,hy7⟩
 obtain ⟨hy70,hy71⟩ := hy7
 refine kRS 2 [2] [(2,.v (.int .i64 (IntKind.i64.wrap (y7 - 500000))))] ?_
 refine xl_nv [2] [(2,.v (.int .i64 (IntKind.i64.wrap (y7 - 500000))))] [(2,.v (.int .i64 (y7 - 500000)))] (by rw [show (IntKind.i64.wrap (y7 - 500000)) = (y7 - 500000) from wrap_id (by omega) (by omega)]) (by kernel_rfl) ?_
 refine kED [2] [] ?_
 refine kR ?_
 exact ⟨[.int .i64 (y7 - 500000)],by kernel_rfl,fun w' hb hf => ⟨⟨y7 - 500000,trivial⟩,rfl,hf (curF B g 137 (.slice A J.length cap) J.length) (by simp),frF_chgd (hf (frF w (fun b => b = g)) (by simp)) hb rfl rfl rfl⟩⟩
 have h6p := eqF h6
 refine kK ?_
 refine kQ ?_
 refine kWS 1 [15] [(15,.v (.pointer (some ⟨g,0,none⟩)))] 133 [.pointer (some ⟨g,0,none⟩),.int .i64 20] (some 16) 0 rfl rfl hlo (l1Below_c_K hBw hap) ?_
 rintro ⟨y8,hy8⟩
 obtain ⟨hy80,hy81⟩ := hy8
 refine kES [2] [(2,.v (.int .i64 y8))] ?_
 refine kR ?_
 exact ⟨[.int .i64 y8],by kernel_rfl,fun w' hb hf => ⟨⟨y8,trivial⟩,rfl,hf (curF B g 137 (.slice A J.length cap) J.length) (by simp),frF_chgd (hf (frF w (fun b => b = g)) (by simp)) hb rfl rfl rfl⟩⟩
theorem l1Whole_c_K {g : Nat} {J : List Int} {A : Option Addr} {cap : Nat}  {w0 : World} {fs : List Fact} {B : Nat} (hB : B ≤ w0.heap.size) (hap : ¬ (slF (.slice A J.length cap) 1 (J.map bR)).blk g)  (hn : J.length ≤ 1048576 := by omega) (h1 : curF B g 137 (.slice A J.length cap) J.length ∈ fs := by simp) (h2 : slF (.slice A J.length cap) 1 (J.map bR) ∈ fs := by simp) : XCM Tryz.prog w0 fs (curF B g 137 (.slice A J.length cap) J.length).blk 160 [.pointer (some ⟨g, 0, none⟩)] (α := {y : Int // True}) (fun y => .int .i64 y.1) (fun _ => [curF B g 137 (.slice A J.length cap) J.length]) := xcm_cur fun w hw hf => l1Whole_c g J A cap  w B (Nat.le_trans hB hw) (hf _ h1) (hf _ h2) hap hn  
theorem l2Word_c (g : Nat) (J : List Int) (A : Option Addr) (cap : Nat)  (w : World) (B : Nat) (hB : B ≤ w.heap.size) (hc : (curF B g 137 (.slice A J.length cap) J.length).p w) (hl : Sl w (.slice A J.length cap) 1 (J.map bR)) (hap : ¬ (slF (.slice A J.length cap) 1 (J.map bR)).blk g) (hn : J.length ≤ 1048576)  : Calls Tryz.prog 143 #[.pointer (some ⟨g, 0, none⟩)] w fun e w' => ∃ y : {y : Int // True}, e = .returned (.int .i64 y.1) ∧ (curF B g 137 (.slice A J.length cap) J.length).p w' ∧ Chgd (fun b => b = g) w w' := by
 have hq_code := Sl.capLe hl
 have hBw : B ≤ (cutW w B).heap.size := Nat.le_of_eq (cutW_size hB).symm
 have hlo : ∀ (ww : World) (b : Nat),(curF B g 137 (.slice A J.length cap) J.length).p ww → (curF B g 137 (.slice A J.length cap) J.length).blk b → (cutW w B).heap.size ≤ b := fun ww b h hb => Nat.le_trans (cutW_le w B) (cur_lo h hb)
 refine x_callsM (args := [.pointer (some ⟨g,0,none⟩)]) (fn := Tryz.f143) [curF B g 137 (.slice A J.length cap) J.length,slF (.slice A J.length cap) 1 (J.map bR),frF w (fun b => b = g)] B Tryz.func143 rfl Tryz.ntmps143 rfl hB (by simp only [List.mem_cons,List.not_mem_nil,or_false,forall_eq_or_imp,forall_eq]; exact ⟨hc,hl,frF_start w _⟩) (apart_cur hap rfl) ?_
 refine kQ ?_
 refine kEF [0] ⟨[(0,.v (.pointer (some ⟨g,0,none⟩)))],[],[],[curF B g 137 (.slice A J.length cap) J.length,slF (.slice A J.length cap) 1 (J.map bR),frF w (fun b => b = g)]⟩ ?_
 refine kS ?_
 refine kQ ?_
 refine kWD 1 [0,3] [(3,.v (.pointer (some ⟨g,0,none⟩)))] 133 [.pointer (some ⟨g,0,none⟩),.int .i64 3] (some 4) 0 rfl rfl hlo (l1Below_c_K hBw hap) ?_
 rintro ⟨y1,hy1⟩
 obtain ⟨hy10,hy11⟩ := hy1
 refine kED [0,4] [] ?_
 refine xw_block ?_
 refine kQ ?_
 refine kED [0,4,5] [(5,.v (.bool (y1 == 0)))] ?_
 refine kC (y1 == 0) (fun h2 => ?_) (fun h2 => ?_)
 have h2p := eqT h2
 refine kQ ?_
 refine kWS 1 [7] [(7,.v (.pointer (some ⟨g,0,none⟩)))] 160 [.pointer (some ⟨g,0,none⟩)] (some 8) 0 rfl rfl hlo (l1Whole_c_K hBw hap) ?_
 rintro ⟨y3,hy3⟩
 refine kES [2] [(2,.v (.int .i64 y3))] ?_
 refine kR ?_
 exact ⟨[.int .i64 y3],by kernel_rfl,fun w' hb hf => ⟨⟨y3,trivial⟩,rfl,hf (curF B g 137 (.slice A J.length cap) J.length) (by simp),frF_chgd (hf (frF w (fun b => b = g)) (by simp)) hb rfl rfl rfl⟩⟩
 have h2p := eqF h2
 refine kQ ?_
 refine kED [0,9] [(9,.v (.bool (y1 == 1)))] ?_
 refine kC (y1 == 1) (fun h4 => ?_) (fun h4 => ?_)
 have h4p := eqT h4
 refine kQ ?_
 refine kHS 1 [11] [(11,.v (.pointer (some ⟨g,0,none⟩)))] rfl (hv_build (e := 3) (K := 1) (bytes := 8) [.int .i64 0,.int .i64 1,.int .i64 255,.int .i64 256,.int .i64 65535,.int .i64 65536,.int .i64 16777215,.int .i64 4294967295,.int .i64 4294967296,.int .i64 281474976710655,.int .i64 281474976710656] rfl (by kernel_rfl) (by kernel_rfl) (by kernel_rfl) (by kernel_rfl) (by kernel_rfl) (rs := ([0,1,255,256,65535,65536,16777215,4294967295,4294967296,281474976710655,281474976710656] : List Int).map intRow) rfl) ?_
 intro g5
 refine xl_know (φ := ¬ (slF (.slice (some ⟨g5,0,none⟩) 11 11) 1 (([0,1,255,256,65535,65536,16777215,4294967295,4294967296,281474976710655,281474976710656] : List Int).map intRow)).blk g) (fun _ _ _ _ hr => fun hb => hr.2.apart 0 1 (rowF (cutW w B).heap.size 3 1 (.slice (some ⟨g5,0,none⟩) 11 11) (([0,1,255,256,65535,65536,16777215,4294967295,4294967296,281474976710655,281474976710656] : List Int).map intRow)) (curF B g 137 (.slice A J.length cap) J.length) rfl rfl (by decide) rfl g (rowF_sblk hb) rfl) (fun hk6 => ?_)
 refine kWD 0 [11,12] [] 136 [.pointer (some ⟨g,0,none⟩),.slice (some ⟨g5,0,none⟩) 11 11] (some 13) 1 rfl rfl hlo (l1PickInt_c_K hBw hap (fun ww hw hf => (rowF_sl (hf _ m0))) hk6 (by simp)) ?_
 rintro ⟨y7,hy7⟩
 refine kES [2] [(2,.v (.int .i64 y7))] ?_
 refine kR ?_
 exact ⟨[.int .i64 y7],by kernel_rfl,fun w' hb hf => ⟨⟨y7,trivial⟩,rfl,hf (curF B g 137 (.slice A J.length cap) J.length) (by simp),frF_chgd (hf (frF w (fun b => b = g)) (by simp)) hb rfl rfl rfl⟩⟩
 have h4p := eqF h4
 refine kK ?_
 refine kQ ?_
 refine kWS 1 [14] [(14,.v (.pointer (some ⟨g,0,none⟩)))] 133 [.pointer (some ⟨g,0,none⟩),.int .i64 65536] (some 15) 0 rfl rfl hlo (l1Below_c_K hBw hap) ?_
 rintro ⟨y8,hy8⟩
 obtain ⟨hy80,hy81⟩ := hy8
 refine kES [2] [(2,.v (.int .i64 y8))] ?_
 refine kR ?_
 exact ⟨[.int .i64 y8],by kernel_rfl,fun w' hb hf => ⟨⟨y8,trivial⟩,rfl,hf (curF B g 137 (.slice A J.length cap) J.length) (by simp),frF_chgd (hf (frF w (fun b => b = g)) (by simp)) hb rfl rfl rfl⟩⟩
theorem l2Word_c_K {g : Nat} {J : List Int} {A : Option Addr} {cap : Nat}  {w0 : World} {fs : List Fact} {B : Nat} (hB : B ≤ w0.heap.size) (hap : ¬ (slF (.slice A J.length cap) 1 (J.map bR)).blk g)  (hn : J.length ≤ 1048576 := by omega) (h1 : curF B g 137 (.slice A J.length cap) J.length ∈ fs := by simp) (h2 : slF (.slice A J.length cap) 1 (J.map bR) ∈ fs := by simp) : XCM Tryz.prog w0 fs (curF B g 137 (.slice A J.length cap) J.length).blk 143 [.pointer (some ⟨g, 0, none⟩)] (α := {y : Int // True}) (fun y => .int .i64 y.1) (fun _ => [curF B g 137 (.slice A J.length cap) J.length]) := xcm_cur fun w hw hf => l2Word_c g J A cap  w B (Nat.le_trans hB hw) (hf _ h1) (hf _ h2) hap hn  
theorem l2Deep_c (g : Nat) (J : List Int) (A : Option Addr) (cap : Nat)  (w : World) (B : Nat) (hB : B ≤ w.heap.size) (hc : (curF B g 137 (.slice A J.length cap) J.length).p w) (hl : Sl w (.slice A J.length cap) 1 (J.map bR)) (hap : ¬ (slF (.slice A J.length cap) 1 (J.map bR)).blk g) (hn : J.length ≤ 1048576)  : Calls Tryz.prog 148 #[.pointer (some ⟨g, 0, none⟩)] w fun e w' => ∃ y : {y : Int // True}, e = .returned (.int .i64 y.1) ∧ (curF B g 137 (.slice A J.length cap) J.length).p w' ∧ Chgd (fun b => b = g) w w' := by
 have hq_code := Sl.capLe hl
 have hBw : B ≤ (cutW w B).heap.size := Nat.le_of_eq (cutW_size hB).symm
 have hlo : ∀ (ww : World) (b : Nat),(curF B g 137 (.slice A J.length cap) J.length).p ww → (curF B g 137 (.slice A J.length cap) J.length).blk b → (cutW w B).heap.size ≤ b := fun ww b h hb => Nat.le_trans (cutW_le w B) (cur_lo h hb)
 refine x_callsM (args := [.pointer (some ⟨g,0,none⟩)]) (fn := Tryz.f148) [curF B g 137 (.slice A J.length cap) J.length,slF (.slice A J.length cap) 1 (J.map bR),frF w (fun b => b = g)] B Tryz.func148 rfl Tryz.ntmps148 rfl hB (by simp only [List.mem_cons,List.not_mem_nil,or_false,forall_eq_or_imp,forall_eq]; exact ⟨hc,hl,frF_start w _⟩) (apart_cur hap rfl) ?_
 refine kQ ?_
 refine kEF [0] ⟨[(0,.v (.pointer (some ⟨g,0,none⟩)))],[],[],[curF B g 137 (.slice A J.length cap) J.length,slF (.slice A J.length cap) 1 (J.map bR),frF w (fun b => b = g)]⟩ ?_
 refine kS ?_
 refine kQ ?_
 refine kWD 1 [0,5] [(5,.v (.pointer (some ⟨g,0,none⟩)))] 110 [.pointer (some ⟨g,0,none⟩),.int .i64 3] (some 6) 0 rfl rfl hlo (l1Once_c_K hBw hap) ?_
 rintro ⟨y1,hy1⟩
 refine kED [0,6] [] ?_
 refine kC (y1) (fun h2 => ?_) (fun h2 => ?_)
 refine kQ ?_
 refine kHS 1 [7] [(7,.v (.pointer (some ⟨g,0,none⟩)))] rfl (hv_build (e := 3) (K := 1) (bytes := 8) [.int .i64 0,.int .i64 1,.int .i64 4294967295,.int .i64 2147483647,.int .i64 2147483648,.int .i64 4294967294] rfl (by kernel_rfl) (by kernel_rfl) (by kernel_rfl) (by kernel_rfl) (by kernel_rfl) (rs := ([0,1,4294967295,2147483647,2147483648,4294967294] : List Int).map intRow) rfl) ?_
 intro g3
 refine xl_know (φ := ¬ (slF (.slice (some ⟨g3,0,none⟩) 6 6) 1 (([0,1,4294967295,2147483647,2147483648,4294967294] : List Int).map intRow)).blk g) (fun _ _ _ _ hr => fun hb => hr.2.apart 0 1 (rowF (cutW w B).heap.size 3 1 (.slice (some ⟨g3,0,none⟩) 6 6) (([0,1,4294967295,2147483647,2147483648,4294967294] : List Int).map intRow)) (curF B g 137 (.slice A J.length cap) J.length) rfl rfl (by decide) rfl g (rowF_sblk hb) rfl) (fun hk4 => ?_)
 refine kWD 0 [7,8] [] 136 [.pointer (some ⟨g,0,none⟩),.slice (some ⟨g3,0,none⟩) 6 6] (some 9) 1 rfl rfl hlo (l1PickInt_c_K hBw hap (fun ww hw hf => (rowF_sl (hf _ m0))) hk4 (by simp)) ?_
 rintro ⟨y5,hy5⟩
 refine kES [2] [(2,.v (.int .i64 y5))] ?_
 refine kR ?_
 exact ⟨[.int .i64 y5],by kernel_rfl,fun w' hb hf => ⟨⟨y5,trivial⟩,rfl,hf (curF B g 137 (.slice A J.length cap) J.length) (by simp),frF_chgd (hf (frF w (fun b => b = g)) (by simp)) hb rfl rfl rfl⟩⟩
 refine kK ?_
 refine kQ ?_
 refine kED [0,3] [(3,.v (.int .i64 0))] ?_
 refine kS ?_
 refine kQ ?_
 refine kED [0,3,4] [(4,.v (.int .i64 0))] ?_
 refine xw_block ?_
 refine xw_loopW (α := {x : Nat × Int // (fun (i : Nat) (x : Int) => i ≤ 4) x.1 x.2}) (fun x => (fun (i : Nat) (x : Int) => (⟨[(0,.v (.pointer (some ⟨g,0,none⟩))),(3,.v (.int .i64 x)),(4,.v (.int .i64 (i : Int)))],[],[],[curF B g 137 (.slice A J.length cap) J.length,slF (.slice A J.length cap) 1 (J.map bR),frF w (fun b => b = g)]⟩ : St)) x.1.1 x.1.2) (fun x => (fun (i : Nat) (x : Int) => 4 - i) x.1.1 x.1.2) ⟨(0,0),Nat.zero_le _⟩ (kF 0 0 [0,3,4]) ?_
 rintro ⟨⟨i,x⟩,hi⟩
 try dsimp only
 try dsimp only at hi
 refine kS ?_
 refine kQ ?_
 refine kED [0,3,4,11] [(11,.v (.bool (decide ((i : Int) < 4))))] ?_
 refine kC (decide ((i : Int) < 4)) (fun h6 => ?_) (fun h6 => ?_)
 have h6p := of_decide_eq_true h6
 have hlt : i < 4 := by simp at h6; omega
 refine kK ?_
 refine kS ?_
 refine xw_block ?_
 refine kG ?_
 refine kWD 3 [0,3,4,15,16] [(15,.v (.int .i64 (IntKind.i64.wrap (256 * x)))),(16,.v (.pointer (some ⟨g,0,none⟩)))] 155 [.pointer (some ⟨g,0,none⟩)] (some 17) 0 rfl rfl hlo (l1Byte_c_K hBw hap) ?_
 rintro ⟨y7,hy7⟩
 refine kED [0,3,4] [(3,.v (.int .i64 (IntKind.i64.wrap ((IntKind.i64.wrap (256 * x)) + y7))))] ?_
 refine kG ?_
 refine kRD 3 [0,3,4] [(4,.v (.int .i64 (IntKind.i64.wrap ((i : Int) + 1))))] ?_
 refine xl_nv [0,3,4] [(4,.v (.int .i64 (IntKind.i64.wrap ((i : Int) + 1))))] [(4,.v (.int .i64 ((i : Int) + 1)))] (by rw [show (IntKind.i64.wrap ((i : Int) + 1)) = ((i : Int) + 1) from wrap_id (by omega) (by omega)]) (by kernel_rfl) ?_
 refine kED [0,3,4] [] ?_
 exact ⟨⟨(i + 1,IntKind.i64.wrap ((IntKind.i64.wrap (256 * x)) + y7)),hlt⟩,kF 0 0 [0,3,4],by show (fun (i : Nat) (x : Int) => 4 - i) (i + 1) (IntKind.i64.wrap ((IntKind.i64.wrap (256 * x)) + y7)) < 4 - i; (dsimp only; omega)⟩
 have h6p := of_decide_eq_false h6
 refine xw_exit ?_
 refine kQ ?_
 refine kES [2] [(2,.v (.int .i64 x))] ?_
 refine kR ?_
 exact ⟨[.int .i64 x],by kernel_rfl,fun w' hb hf => ⟨⟨x,trivial⟩,rfl,hf (curF B g 137 (.slice A J.length cap) J.length) (by simp),frF_chgd (hf (frF w (fun b => b = g)) (by simp)) hb rfl rfl rfl⟩⟩
theorem l2Deep_c_K {g : Nat} {J : List Int} {A : Option Addr} {cap : Nat}  {w0 : World} {fs : List Fact} {B : Nat} (hB : B ≤ w0.heap.size) (hap : ¬ (slF (.slice A J.length cap) 1 (J.map bR)).blk g)  (hn : J.length ≤ 1048576 := by omega) (h1 : curF B g 137 (.slice A J.length cap) J.length ∈ fs := by simp) (h2 : slF (.slice A J.length cap) 1 (J.map bR) ∈ fs := by simp) : XCM Tryz.prog w0 fs (curF B g 137 (.slice A J.length cap) J.length).blk 148 [.pointer (some ⟨g, 0, none⟩)] (α := {y : Int // True}) (fun y => .int .i64 y.1) (fun _ => [curF B g 137 (.slice A J.length cap) J.length]) := xcm_cur fun w hw hf => l2Deep_c g J A cap  w B (Nat.le_trans hB hw) (hf _ h1) (hf _ h2) hap hn  
theorem l4Place_c (g : Nat) (J : List Int) (A : Option Addr) (cap : Nat)  (w : World) (B : Nat) (hB : B ≤ w.heap.size) (hc : (curF B g 137 (.slice A J.length cap) J.length).p w) (hl : Sl w (.slice A J.length cap) 1 (J.map bR)) (hap : ¬ (slF (.slice A J.length cap) 1 (J.map bR)).blk g) (hn : J.length ≤ 1048576)  : Calls Tryz.prog 159 #[.pointer (some ⟨g, 0, none⟩)] w fun e w' => ∃ y : {y : Int // True}, e = .returned (.int .i64 y.1) ∧ (curF B g 137 (.slice A J.length cap) J.length).p w' ∧ Chgd (fun b => b = g) w w' := by
 have hq_code := Sl.capLe hl
 have hBw : B ≤ (cutW w B).heap.size := Nat.le_of_eq (cutW_size hB).symm
 have hlo : ∀ (ww : World) (b : Nat),(curF B g 137 (.slice A J.length cap) J.length).p ww → (curF B g 137 (.slice A J.length cap) J.length).blk b → (cutW w B).heap.size ≤ b := fun ww b h hb => Nat.le_trans (cutW_le w B) (cur_lo h hb)
 refine x_callsM (args := [.pointer (some ⟨g,0,none⟩)]) (fn := Tryz.f159) [curF B g 137 (.slice A J.length cap) J.length,slF (.slice A J.length cap) 1 (J.map bR),frF w (fun b => b = g)] B Tryz.func159 rfl Tryz.ntmps159 rfl hB (by simp only [List.mem_cons,List.not_mem_nil,or_false,forall_eq_or_imp,forall_eq]; exact ⟨hc,hl,frF_start w _⟩) (apart_cur hap rfl) ?_
 refine kQ ?_
 refine kEF [0] ⟨[(0,.v (.pointer (some ⟨g,0,none⟩)))],[],[],[curF B g 137 (.slice A J.length cap) J.length,slF (.slice A J.length cap) 1 (J.map bR),frF w (fun b => b = g)]⟩ ?_
 refine kS ?_
 refine kQ ?_
 refine kWD 1 [0,3] [(3,.v (.pointer (some ⟨g,0,none⟩)))] 110 [.pointer (some ⟨g,0,none⟩),.int .i64 12] (some 4) 0 rfl rfl hlo (l1Once_c_K hBw hap) ?_
 rintro ⟨y1,hy1⟩
 refine kED [0,4] [] ?_
 refine kC (y1) (fun h2 => ?_) (fun h2 => ?_)
 refine kQ ?_
 refine kWS 1 [5] [(5,.v (.pointer (some ⟨g,0,none⟩)))] 160 [.pointer (some ⟨g,0,none⟩)] (some 6) 0 rfl rfl hlo (l1Whole_c_K hBw hap) ?_
 rintro ⟨y3,hy3⟩
 refine kES [2] [(2,.v (.int .i64 y3))] ?_
 refine kR ?_
 exact ⟨[.int .i64 y3],by kernel_rfl,fun w' hb hf => ⟨⟨y3,trivial⟩,rfl,hf (curF B g 137 (.slice A J.length cap) J.length) (by simp),frF_chgd (hf (frF w (fun b => b = g)) (by simp)) hb rfl rfl rfl⟩⟩
 refine kK ?_
 refine kQ ?_
 refine kWS 1 [7] [(7,.v (.pointer (some ⟨g,0,none⟩)))] 148 [.pointer (some ⟨g,0,none⟩)] (some 8) 0 rfl rfl hlo (l2Deep_c_K hBw hap) ?_
 rintro ⟨y4,hy4⟩
 refine kES [2] [(2,.v (.int .i64 y4))] ?_
 refine kR ?_
 exact ⟨[.int .i64 y4],by kernel_rfl,fun w' hb hf => ⟨⟨y4,trivial⟩,rfl,hf (curF B g 137 (.slice A J.length cap) J.length) (by simp),frF_chgd (hf (frF w (fun b => b = g)) (by simp)) hb rfl rfl rfl⟩⟩
theorem l4Place_c_K {g : Nat} {J : List Int} {A : Option Addr} {cap : Nat}  {w0 : World} {fs : List Fact} {B : Nat} (hB : B ≤ w0.heap.size) (hap : ¬ (slF (.slice A J.length cap) 1 (J.map bR)).blk g)  (hn : J.length ≤ 1048576 := by omega) (h1 : curF B g 137 (.slice A J.length cap) J.length ∈ fs := by simp) (h2 : slF (.slice A J.length cap) 1 (J.map bR) ∈ fs := by simp) : XCM Tryz.prog w0 fs (curF B g 137 (.slice A J.length cap) J.length).blk 159 [.pointer (some ⟨g, 0, none⟩)] (α := {y : Int // True}) (fun y => .int .i64 y.1) (fun _ => [curF B g 137 (.slice A J.length cap) J.length]) := xcm_cur fun w hw hf => l4Place_c g J A cap  w B (Nat.le_trans hB hw) (hf _ h1) (hf _ h2) hap hn  
theorem l6Ip_c (g : Nat) (J : List Int) (A : Option Addr) (cap : Nat)  (w : World) (B : Nat) (hB : B ≤ w.heap.size) (hc : (curF B g 137 (.slice A J.length cap) J.length).p w) (hl : Sl w (.slice A J.length cap) 1 (J.map bR)) (hap : ¬ (slF (.slice A J.length cap) 1 (J.map bR)).blk g) (hn : J.length ≤ 1048576)  : Calls Tryz.prog 162 #[.pointer (some ⟨g, 0, none⟩)] w fun e w' => ∃ y : {y : Int // True}, e = .returned (.int .i64 y.1) ∧ (curF B g 137 (.slice A J.length cap) J.length).p w' ∧ Chgd (fun b => b = g) w w' := by
 have hq_code := Sl.capLe hl
 have hBw : B ≤ (cutW w B).heap.size := Nat.le_of_eq (cutW_size hB).symm
 have hlo : ∀ (ww : World) (b : Nat),(curF B g 137 (.slice A J.length cap) J.length).p ww → (curF B g 137 (.slice A J.length cap) J.length).blk b → (cutW w B).heap.size ≤ b := fun ww b h hb => Nat.le_trans (cutW_le w B) (cur_lo h hb)
 refine x_callsM (args := [.pointer (some ⟨g,0,none⟩)]) (fn := Tryz.f162) [curF B g 137 (.slice A J.length cap) J.length,slF (.slice A J.length cap) 1 (J.map bR),frF w (fun b => b = g)] B Tryz.func162 rfl Tryz.ntmps162 rfl hB (by simp only [List.mem_cons,List.not_mem_nil,or_false,forall_eq_or_imp,forall_eq]; exact ⟨hc,hl,frF_start w _⟩) (apart_cur hap rfl) ?_
 refine kQ ?_
 refine kEF [0] ⟨[(0,.v (.pointer (some ⟨g,0,none⟩)))],[],[],[curF B g 137 (.slice A J.length cap) J.length,slF (.slice A J.length cap) 1 (J.map bR),frF w (fun b => b = g)]⟩ ?_
 refine kQ ?_
 refine kHS 1 [3] [(3,.v (.pointer (some ⟨g,0,none⟩)))] rfl (hv_build (e := 3) (K := 1) (bytes := 8) [.int .i64 167772161,.int .i64 167772162,.int .i64 167772163,.int .i64 0,.int .i64 4294967295] rfl (by kernel_rfl) (by kernel_rfl) (by kernel_rfl) (by kernel_rfl) (by kernel_rfl) (rs := ([167772161,167772162,167772163,0,4294967295] : List Int).map intRow) rfl) ?_
 intro g1
 refine xl_know (φ := ¬ (slF (.slice (some ⟨g1,0,none⟩) 5 5) 1 (([167772161,167772162,167772163,0,4294967295] : List Int).map intRow)).blk g) (fun _ _ _ _ hr => fun hb => hr.2.apart 0 1 (rowF (cutW w B).heap.size 3 1 (.slice (some ⟨g1,0,none⟩) 5 5) (([167772161,167772162,167772163,0,4294967295] : List Int).map intRow)) (curF B g 137 (.slice A J.length cap) J.length) rfl rfl (by decide) rfl g (rowF_sblk hb) rfl) (fun hk2 => ?_)
 refine kWD 0 [3,4] [] 136 [.pointer (some ⟨g,0,none⟩),.slice (some ⟨g1,0,none⟩) 5 5] (some 5) 1 rfl rfl hlo (l1PickInt_c_K hBw hap (fun ww hw hf => (rowF_sl (hf _ m0))) hk2 (by simp)) ?_
 rintro ⟨y3,hy3⟩
 refine kES [2] [(2,.v (.int .i64 y3))] ?_
 refine kR ?_
 exact ⟨[.int .i64 y3],by kernel_rfl,fun w' hb hf => ⟨⟨y3,trivial⟩,rfl,hf (curF B g 137 (.slice A J.length cap) J.length) (by simp),frF_chgd (hf (frF w (fun b => b = g)) (by simp)) hb rfl rfl rfl⟩⟩
theorem l6Ip_c_K {g : Nat} {J : List Int} {A : Option Addr} {cap : Nat}  {w0 : World} {fs : List Fact} {B : Nat} (hB : B ≤ w0.heap.size) (hap : ¬ (slF (.slice A J.length cap) 1 (J.map bR)).blk g)  (hn : J.length ≤ 1048576 := by omega) (h1 : curF B g 137 (.slice A J.length cap) J.length ∈ fs := by simp) (h2 : slF (.slice A J.length cap) 1 (J.map bR) ∈ fs := by simp) : XCM Tryz.prog w0 fs (curF B g 137 (.slice A J.length cap) J.length).blk 162 [.pointer (some ⟨g, 0, none⟩)] (α := {y : Int // True}) (fun y => .int .i64 y.1) (fun _ => [curF B g 137 (.slice A J.length cap) J.length]) := xcm_cur fun w hw hf => l6Ip_c g J A cap  w B (Nat.le_trans hB hw) (hf _ h1) (hf _ h2) hap hn  
theorem l8Options_c (g : Nat) (J : List Int) (A : Option Addr) (cap : Nat)  (w : World) (B : Nat) (hB : B ≤ w.heap.size) (hc : (curF B g 137 (.slice A J.length cap) J.length).p w) (hl : Sl w (.slice A J.length cap) 1 (J.map bR)) (hap : ¬ (slF (.slice A J.length cap) 1 (J.map bR)).blk g) (hn : J.length ≤ 1048576)  : Calls Tryz.prog 149 #[.pointer (some ⟨g, 0, none⟩)] w fun e w' => ∃ y : {y : Opt // True}, e = .returned (.agg (optL y.1).toArray) ∧ (curF B g 137 (.slice A J.length cap) J.length).p w' ∧ Chgd (fun b => b = g) w w' := by
 have hq_code := Sl.capLe hl
 have hBw : B ≤ (cutW w B).heap.size := Nat.le_of_eq (cutW_size hB).symm
 have hlo : ∀ (ww : World) (b : Nat),(curF B g 137 (.slice A J.length cap) J.length).p ww → (curF B g 137 (.slice A J.length cap) J.length).blk b → (cutW w B).heap.size ≤ b := fun ww b h hb => Nat.le_trans (cutW_le w B) (cur_lo h hb)
 refine x_callsM (args := [.pointer (some ⟨g,0,none⟩)]) (fn := Tryz.f149) [curF B g 137 (.slice A J.length cap) J.length,slF (.slice A J.length cap) 1 (J.map bR),frF w (fun b => b = g)] B Tryz.func149 rfl Tryz.ntmps149 rfl hB (by simp only [List.mem_cons,List.not_mem_nil,or_false,forall_eq_or_imp,forall_eq]; exact ⟨hc,hl,frF_start w _⟩) (apart_cur hap rfl) ?_
 refine kQ ?_
 refine kEF [0,2] ⟨[(0,.v (.pointer (some ⟨g,0,none⟩))),(2,.p 0 0)],[⟨42,[.int .i64 0,.int .i64 0,.bool false,.bool false,.int .i64 0,.int .i64 0]⟩],[],[curF B g 137 (.slice A J.length cap) J.length,slF (.slice A J.length cap) 1 (J.map bR),frF w (fun b => b = g)]⟩ ?_
 refine kQ ?_
 refine kCD 0 [0,2] [] 88 [] (some 4) rfl (xc_b fun ww hf => sNoOptions_c  ww ) ?_
 intro _
 refine kEA [0,2,3] [(3,.p 1 0)] [⟨42,[.int .i64 0,.int .i64 (-1),.bool false,.bool false,.int .i64 0,.int .i64 0]⟩] ?_
 refine kS ?_
 refine kQ ?_
 refine kWD 1 [0,2,3,5] [(5,.v (.pointer (some ⟨g,0,none⟩)))] 110 [.pointer (some ⟨g,0,none⟩),.int .i64 3] (some 6) 0 rfl rfl hlo (l1Once_c_K hBw hap) ?_
 rintro ⟨y1,hy1⟩
 refine kED [0,2,3,7] [(7,.v (.bool (!y1)))] ?_
 refine kC (!y1) (fun h2 => ?_) (fun h2 => ?_)
 have h2n := not_t h2
 refine kG ?_
 refine kHD 1 [0,2,3,8] [(8,.v (.pointer (some ⟨g,0,none⟩)))] rfl (hv_build (e := 3) (K := 1) (bytes := 8) [.int .i64 536,.int .i64 1460,.int .i64 1300,.int .i64 64,.int .i64 65535,.int .i64 1] rfl (by kernel_rfl) (by kernel_rfl) (by kernel_rfl) (by kernel_rfl) (by kernel_rfl) (rs := ([536,1460,1300,64,65535,1] : List Int).map intRow) rfl) ?_
 intro g3
 refine xl_know (φ := ¬ (slF (.slice (some ⟨g3,0,none⟩) 6 6) 1 (([536,1460,1300,64,65535,1] : List Int).map intRow)).blk g) (fun _ _ _ _ hr => fun hb => hr.2.apart 0 1 (rowF (cutW w B).heap.size 3 1 (.slice (some ⟨g3,0,none⟩) 6 6) (([536,1460,1300,64,65535,1] : List Int).map intRow)) (curF B g 137 (.slice A J.length cap) J.length) rfl rfl (by decide) rfl g (rowF_sblk hb) rfl) (fun hk4 => ?_)
 refine kWD 0 [0,2,3,8,9] [] 136 [.pointer (some ⟨g,0,none⟩),.slice (some ⟨g3,0,none⟩) 6 6] (some 10) 1 rfl rfl hlo (l1PickInt_c_K hBw hap (fun ww hw hf => (rowF_sl (hf _ m0))) hk4 (by simp)) ?_
 rintro ⟨y5,hy5⟩
 refine kEU [0,2,3] [] 1 ⟨42,[.int .i64 y5,.int .i64 (-1),.bool false,.bool false,.int .i64 0,.int .i64 0]⟩ ?_
 refine kS ?_
 refine kQ ?_
 refine kWD 1 [0,2,3,12] [(12,.v (.pointer (some ⟨g,0,none⟩)))] 110 [.pointer (some ⟨g,0,none⟩),.int .i64 2] (some 13) 0 rfl rfl hlo (l1Once_c_K hBw hap) ?_
 rintro ⟨y6,hy6⟩
 refine kED [0,2,3,13] [] ?_
 refine kC (y6) (fun h7 => ?_) (fun h7 => ?_)
 refine kG ?_
 refine kWD 1 [0,2,3,14] [(14,.v (.pointer (some ⟨g,0,none⟩)))] 133 [.pointer (some ⟨g,0,none⟩),.int .i64 15] (some 15) 0 rfl rfl hlo (l1Below_c_K hBw hap) ?_
 rintro ⟨y8,hy8⟩
 obtain ⟨hy80,hy81⟩ := hy8
 refine kEF [0,2,3] ⟨[(0,.v (.pointer (some ⟨g,0,none⟩))),(2,.p 0 0),(3,.p 1 0)],[⟨42,[.int .i64 0,.int .i64 0,.bool false,.bool false,.int .i64 0,.int .i64 0]⟩,⟨42,[.int .i64 y5,.int .i64 y8,.bool false,.bool false,.int .i64 0,.int .i64 0]⟩],[],[curF B g 137 (.slice A J.length cap) J.length,rowF (cutW w B).heap.size 3 1 (.slice (some ⟨g3,0,none⟩) 6 6) (([536,1460,1300,64,65535,1] : List Int).map intRow),slF (.slice A J.length cap) 1 (J.map bR),frF w (fun b => b = g)]⟩ ?_
 refine kQ ?_
 refine kWD 1 [0,2,3,17] [(17,.v (.pointer (some ⟨g,0,none⟩)))] 110 [.pointer (some ⟨g,0,none⟩),.int .i64 2] (some 18) 0 rfl rfl hlo (l1Once_c_K hBw hap) ?_
 rintro ⟨y9,hy9⟩
 refine kEU [0,2,3] [] 1 ⟨42,[.int .i64 y5,.int .i64 y8,.bool y9,.bool false,.int .i64 0,.int .i64 0]⟩ ?_
 refine kS ?_
 refine kQ ?_
 refine kWD 1 [0,2,3,20] [(20,.v (.pointer (some ⟨g,0,none⟩)))] 110 [.pointer (some ⟨g,0,none⟩),.int .i64 2] (some 21) 0 rfl rfl hlo (l1Once_c_K hBw hap) ?_
 rintro ⟨y10,hy10⟩
 refine kED [0,2,3,21] [] ?_
 refine kC (y10) (fun h11 => ?_) (fun h11 => ?_)
 refine kQ ?_
 refine kEU [0,2,3] [] 1 ⟨42,[.int .i64 y5,.int .i64 y8,.bool y9,.bool true,.int .i64 0,.int .i64 0]⟩ ?_
 refine kQ ?_
 refine kWD 1 [0,2,3,23] [(23,.v (.pointer (some ⟨g,0,none⟩)))] 148 [.pointer (some ⟨g,0,none⟩)] (some 24) 0 rfl rfl hlo (l2Deep_c_K hBw hap) ?_
 rintro ⟨y12,hy12⟩
 refine kEU [0,2,3] [] 1 ⟨42,[.int .i64 y5,.int .i64 y8,.bool y9,.bool true,.int .i64 y12,.int .i64 0]⟩ ?_
 refine kG ?_
 refine kWD 1 [2,3,26] [(26,.v (.pointer (some ⟨g,0,none⟩)))] 148 [.pointer (some ⟨g,0,none⟩)] (some 27) 0 rfl rfl hlo (l2Deep_c_K hBw hap) ?_
 rintro ⟨y13,hy13⟩
 refine kEU [2,3] [] 1 ⟨42,[.int .i64 y5,.int .i64 y8,.bool y9,.bool true,.int .i64 y12,.int .i64 y13]⟩ ?_
 refine kQ ?_
 refine kEU [2] [(2,.p 0 0)] 0 ⟨42,[.int .i64 y5,.int .i64 y8,.bool y9,.bool true,.int .i64 y12,.int .i64 y13]⟩ ?_
 refine kR ?_
 exact ⟨[.agg #[.int .i64 y5,.int .i64 y8,.bool y9,.bool true,.int .i64 y12,.int .i64 y13]],by kernel_rfl,fun w' hb hf => ⟨⟨⟨y5,y8,y9,true,y12,y13⟩,trivial⟩,rfl,hf (curF B g 137 (.slice A J.length cap) J.length) (by simp),frF_chgd (hf (frF w (fun b => b = g)) (by simp)) hb rfl rfl rfl⟩⟩
 refine kK ?_
 refine kQ ?_
 refine kEU [2] [(2,.p 0 0)] 0 ⟨42,[.int .i64 y5,.int .i64 y8,.bool y9,.bool false,.int .i64 0,.int .i64 0]⟩ ?_
 refine kR ?_
 exact ⟨[.agg #[.int .i64 y5,.int .i64 y8,.bool y9,.bool false,.int .i64 0,.int .i64 0]],by kernel_rfl,fun w' hb hf => ⟨⟨⟨y5,y8,y9,false,0,0⟩,trivial⟩,rfl,hf (curF B g 137 (.slice A J.length cap) J.length) (by simp),frF_chgd (hf (frF w (fun b => b = g)) (by simp)) hb rfl rfl rfl⟩⟩
 refine kK ?_
 refine kQ ?_
 refine kWD 1 [0,2,3,17] [(17,.v (.pointer (some ⟨g,0,none⟩)))] 110 [.pointer (some ⟨g,0,none⟩),.int .i64 2] (some 18) 0 rfl rfl hlo (l1Once_c_K hBw hap) ?_
 rintro ⟨y14,hy14⟩
 refine kEF [0,2,3] ⟨[(0,.v (.pointer (some ⟨g,0,none⟩))),(2,.p 0 0),(3,.p 1 0)],[⟨42,[.int .i64 0,.int .i64 0,.bool false,.bool false,.int .i64 0,.int .i64 0]⟩,⟨42,[.int .i64 y5,.int .i64 (-1),.bool y14,.bool false,.int .i64 0,.int .i64 0]⟩],[],[curF B g 137 (.slice A J.length cap) J.length,rowF (cutW w B).heap.size 3 1 (.slice (some ⟨g3,0,none⟩) 6 6) (([536,1460,1300,64,65535,1] : List Int).map intRow),slF (.slice A J.length cap) 1 (J.map bR),frF w (fun b => b = g)]⟩ ?_
 refine kS ?_
 refine kQ ?_
 refine kWD 1 [0,2,3,20] [(20,.v (.pointer (some ⟨g,0,none⟩)))] 110 [.pointer (some ⟨g,0,none⟩),.int .i64 2] (some 21) 0 rfl rfl hlo (l1Once_c_K hBw hap) ?_
 rintro ⟨y15,hy15⟩
 refine kED [0,2,3,21] [] ?_
 refine kC (y15) (fun h16 => ?_) (fun h16 => ?_)
 refine kQ ?_
 refine kEU [0,2,3] [] 1 ⟨42,[.int .i64 y5,.int .i64 (-1),.bool y14,.bool true,.int .i64 0,.int .i64 0]⟩ ?_
 refine kQ ?_
 refine kWD 1 [0,2,3,23] [(23,.v (.pointer (some ⟨g,0,none⟩)))] 148 [.pointer (some ⟨g,0,none⟩)] (some 24) 0 rfl rfl hlo (l2Deep_c_K hBw hap) ?_
 rintro ⟨y17,hy17⟩
 refine kEU [0,2,3] [] 1 ⟨42,[.int .i64 y5,.int .i64 (-1),.bool y14,.bool true,.int .i64 y17,.int .i64 0]⟩ ?_
 refine kG ?_
 refine kWD 1 [2,3,26] [(26,.v (.pointer (some ⟨g,0,none⟩)))] 148 [.pointer (some ⟨g,0,none⟩)] (some 27) 0 rfl rfl hlo (l2Deep_c_K hBw hap) ?_
 rintro ⟨y18,hy18⟩
 refine kEU [2,3] [] 1 ⟨42,[.int .i64 y5,.int .i64 (-1),.bool y14,.bool true,.int .i64 y17,.int .i64 y18]⟩ ?_
 refine kQ ?_
 refine kEU [2] [(2,.p 0 0)] 0 ⟨42,[.int .i64 y5,.int .i64 (-1),.bool y14,.bool true,.int .i64 y17,.int .i64 y18]⟩ ?_
 refine kR ?_
 exact ⟨[.agg #[.int .i64 y5,.int .i64 (-1),.bool y14,.bool true,.int .i64 y17,.int .i64 y18]],by kernel_rfl,fun w' hb hf => ⟨⟨⟨y5,(-1),y14,true,y17,y18⟩,trivial⟩,rfl,hf (curF B g 137 (.slice A J.length cap) J.length) (by simp),frF_chgd (hf (frF w (fun b => b = g)) (by simp)) hb rfl rfl rfl⟩⟩
 refine kK ?_
 refine kQ ?_
 refine kEU [2] [(2,.p 0 0)] 0 ⟨42,[.int .i64 y5,.int .i64 (-1),.bool y14,.bool false,.int .i64 0,.int .i64 0]⟩ ?_
 refine kR ?_
 exact ⟨[.agg #[.int .i64 y5,.int .i64 (-1),.bool y14,.bool false,.int .i64 0,.int .i64 0]],by kernel_rfl,fun w' hb hf => ⟨⟨⟨y5,(-1),y14,false,0,0⟩,trivial⟩,rfl,hf (curF B g 137 (.slice A J.length cap) J.length) (by simp),frF_chgd (hf (frF w (fun b => b = g)) (by simp)) hb rfl rfl rfl⟩⟩
 have h2n := not_f h2
 refine kK ?_
 refine kS ?_
 refine kQ ?_
 refine kWD 1 [0,2,3,12] [(12,.v (.pointer (some ⟨g,0,none⟩)))] 110 [.pointer (some ⟨g,0,none⟩),.int .i64 2] (some 13) 0 rfl rfl hlo (l1Once_c_K hBw hap) ?_
 rintro ⟨y19,hy19⟩
 refine kED [0,2,3,13] [] ?_
 refine kC (y19) (fun h20 => ?_) (fun h20 => ?_)
 refine kG ?_
 refine kWD 1 [0,2,3,14] [(14,.v (.pointer (some ⟨g,0,none⟩)))] 133 [.pointer (some ⟨g,0,none⟩),.int .i64 15] (some 15) 0 rfl rfl hlo (l1Below_c_K hBw hap) ?_
 rintro ⟨y21,hy21⟩
 obtain ⟨hy210,hy211⟩ := hy21
 refine kEU [0,2,3] [] 1 ⟨42,[.int .i64 0,.int .i64 y21,.bool false,.bool false,.int .i64 0,.int .i64 0]⟩ ?_
 refine kQ ?_
 refine kWD 1 [0,2,3,17] [(17,.v (.pointer (some ⟨g,0,none⟩)))] 110 [.pointer (some ⟨g,0,none⟩),.int .i64 2] (some 18) 0 rfl rfl hlo (l1Once_c_K hBw hap) ?_
 rintro ⟨y22,hy22⟩
 refine kEU [0,2,3] [] 1 ⟨42,[.int .i64 0,.int .i64 y21,.bool y22,.bool false,.int .i64 0,.int .i64 0]⟩ ?_
 refine kS ?_
 refine kQ ?_
 refine kWS 1 [0,2,3,20] [(0,.v (.pointer (some ⟨g,0,none⟩))),(2,.p 0 0),(3,.p 1 0),(20,.v (.pointer (some ⟨g,0,none⟩)))] 110 [.pointer (some ⟨g,0,none⟩),.int .i64 2] (some 21) 0 rfl rfl hlo (l1Once_c_K hBw hap) ?_
 rintro ⟨y23,hy23⟩
 refine kED [0,2,3,21] [] ?_
 refine kC (y23) (fun h24 => ?_) (fun h24 => ?_)
 refine kQ ?_
 refine kEU [0,2,3] [] 1 ⟨42,[.int .i64 0,.int .i64 y21,.bool y22,.bool true,.int .i64 0,.int .i64 0]⟩ ?_
 refine kQ ?_
 refine kWD 1 [0,2,3,23] [(23,.v (.pointer (some ⟨g,0,none⟩)))] 148 [.pointer (some ⟨g,0,none⟩)] (some 24) 0 rfl rfl hlo (l2Deep_c_K hBw hap) ?_
 rintro ⟨y25,hy25⟩
 refine kEU [0,2,3] [] 1 ⟨42,[.int .i64 0,.int .i64 y21,.bool y22,.bool true,.int .i64 y25,.int .i64 0]⟩ ?_
 refine kG ?_
 refine kWD 1 [2,3,26] [(26,.v (.pointer (some ⟨g,0,none⟩)))] 148 [.pointer (some ⟨g,0,none⟩)] (some 27) 0 rfl rfl hlo (l2Deep_c_K hBw hap) ?_
 rintro ⟨y26,hy26⟩
 refine kEU [2,3] [] 1 ⟨42,[.int .i64 0,.int .i64 y21,.bool y22,.bool true,.int .i64 y25,.int .i64 y26]⟩ ?_
 refine kQ ?_
 refine kEU [2] [(2,.p 0 0)] 0 ⟨42,[.int .i64 0,.int .i64 y21,.bool y22,.bool true,.int .i64 y25,.int .i64 y26]⟩ ?_
 refine kR ?_
 exact ⟨[.agg #[.int .i64 0,.int .i64 y21,.bool y22,.bool true,.int .i64 y25,.int .i64 y26]],by kernel_rfl,fun w' hb hf => ⟨⟨⟨0,y21,y22,true,y25,y26⟩,trivial⟩,rfl,hf (curF B g 137 (.slice A J.length cap) J.length) (by simp),frF_chgd (hf (frF w (fun b => b = g)) (by simp)) hb rfl rfl rfl⟩⟩
 refine kK ?_
 refine kQ ?_
 refine kEU [2] [(2,.p 0 0)] 0 ⟨42,[.int .i64 0,.int .i64 y21,.bool y22,.bool false,.int .i64 0,.int .i64 0]⟩ ?_
 refine kR ?_
 exact ⟨[.agg #[.int .i64 0,.int .i64 y21,.bool y22,.bool false,.int .i64 0,.int .i64 0]],by kernel_rfl,fun w' hb hf => ⟨⟨⟨0,y21,y22,false,0,0⟩,trivial⟩,rfl,hf (curF B g 137 (.slice A J.length cap) J.length) (by simp),frF_chgd (hf (frF w (fun b => b = g)) (by simp)) hb rfl rfl rfl⟩⟩
 refine kK ?_
 refine kQ ?_
 refine kWD 1 [0,2,3,17] [(17,.v (.pointer (some ⟨g,0,none⟩)))] 110 [.pointer (some ⟨g,0,none⟩),.int .i64 2] (some 18) 0 rfl rfl hlo (l1Once_c_K hBw hap) ?_
 rintro ⟨y27,hy27⟩
 refine kEU [0,2,3] [] 1 ⟨42,[.int .i64 0,.int .i64 (-1),.bool y27,.bool false,.int .i64 0,.int .i64 0]⟩ ?_
 refine kS ?_
 refine kQ ?_
 refine kWD 1 [0,2,3,20] [(20,.v (.pointer (some ⟨g,0,none⟩)))] 110 [.pointer (some ⟨g,0,none⟩),.int .i64 2] (some 21) 0 rfl rfl hlo (l1Once_c_K hBw hap) ?_
 rintro ⟨y28,hy28⟩
 refine kED [0,2,3,21] [] ?_
 refine kC (y28) (fun h29 => ?_) (fun h29 => ?_)
 refine kQ ?_
 refine kEF [0,2,3] ⟨[(0,.v (.pointer (some ⟨g,0,none⟩))),(2,.p 0 0),(3,.p 1 0)],[⟨42,[.int .i64 0,.int .i64 0,.bool false,.bool false,.int .i64 0,.int .i64 0]⟩,⟨42,[.int .i64 0,.int .i64 (-1),.bool y27,.bool true,.int .i64 0,.int .i64 0]⟩],[],[curF B g 137 (.slice A J.length cap) J.length,slF (.slice A J.length cap) 1 (J.map bR),frF w (fun b => b = g)]⟩ ?_
 refine kQ ?_
 refine kWD 1 [0,2,3,23] [(23,.v (.pointer (some ⟨g,0,none⟩)))] 148 [.pointer (some ⟨g,0,none⟩)] (some 24) 0 rfl rfl hlo (l2Deep_c_K hBw hap) ?_
 rintro ⟨y30,hy30⟩
 refine kEU [0,2,3] [] 1 ⟨42,[.int .i64 0,.int .i64 (-1),.bool y27,.bool true,.int .i64 y30,.int .i64 0]⟩ ?_
 refine kG ?_
 refine kWD 1 [2,3,26] [(26,.v (.pointer (some ⟨g,0,none⟩)))] 148 [.pointer (some ⟨g,0,none⟩)] (some 27) 0 rfl rfl hlo (l2Deep_c_K hBw hap) ?_
 rintro ⟨y31,hy31⟩
 refine kEU [2,3] [] 1 ⟨42,[.int .i64 0,.int .i64 (-1),.bool y27,.bool true,.int .i64 y30,.int .i64 y31]⟩ ?_
 refine kQ ?_
 refine kEU [2] [(2,.p 0 0)] 0 ⟨42,[.int .i64 0,.int .i64 (-1),.bool y27,.bool true,.int .i64 y30,.int .i64 y31]⟩ ?_
 refine kR ?_
 exact ⟨[.agg #[.int .i64 0,.int .i64 (-1),.bool y27,.bool true,.int .i64 y30,.int .i64 y31]],by kernel_rfl,fun w' hb hf => ⟨⟨⟨0,(-1),y27,true,y30,y31⟩,trivial⟩,rfl,hf (curF B g 137 (.slice A J.length cap) J.length) (by simp),frF_chgd (hf (frF w (fun b => b = g)) (by simp)) hb rfl rfl rfl⟩⟩
 refine kK ?_
 refine kQ ?_
 refine kEF [2] ⟨[(2,.p 0 0)],[⟨42,[.int .i64 0,.int .i64 (-1),.bool y27,.bool false,.int .i64 0,.int .i64 0]⟩,⟨42,[.int .i64 0,.int .i64 (-1),.bool y27,.bool false,.int .i64 0,.int .i64 0]⟩],[],[curF B g 137 (.slice A J.length cap) J.length,slF (.slice A J.length cap) 1 (J.map bR),frF w (fun b => b = g)]⟩ ?_
 refine kR ?_
 exact ⟨[.agg #[.int .i64 0,.int .i64 (-1),.bool y27,.bool false,.int .i64 0,.int .i64 0]],by kernel_rfl,fun w' hb hf => ⟨⟨⟨0,(-1),y27,false,0,0⟩,trivial⟩,rfl,hf (curF B g 137 (.slice A J.length cap) J.length) (by simp),frF_chgd (hf (frF w (fun b => b = g)) (by simp)) hb rfl rfl rfl⟩⟩
theorem l8Options_c_K {g : Nat} {J : List Int} {A : Option Addr} {cap : Nat}  {w0 : World} {fs : List Fact} {B : Nat} (hB : B ≤ w0.heap.size) (hap : ¬ (slF (.slice A J.length cap) 1 (J.map bR)).blk g)  (hn : J.length ≤ 1048576 := by omega) (h1 : curF B g 137 (.slice A J.length cap) J.length ∈ fs := by simp) (h2 : slF (.slice A J.length cap) 1 (J.map bR) ∈ fs := by simp) : XCM Tryz.prog w0 fs (curF B g 137 (.slice A J.length cap) J.length).blk 149 [.pointer (some ⟨g, 0, none⟩)] (α := {y : Opt // True}) (fun y => .agg (optL y.1).toArray) (fun _ => [curF B g 137 (.slice A J.length cap) J.length]) := xcm_cur fun w hw hf => l8Options_c g J A cap  w B (Nat.le_trans hB hw) (hf _ h1) (hf _ h2) hap hn  
theorem l8Bent_c (g : Nat) (J : List Int) (A : Option Addr) (cap : Nat)  (w : World) (B : Nat) (hB : B ≤ w.heap.size) (hc : (curF B g 137 (.slice A J.length cap) J.length).p w) (hl : Sl w (.slice A J.length cap) 1 (J.map bR)) (hap : ¬ (slF (.slice A J.length cap) 1 (J.map bR)).blk g) (hn : J.length ≤ 1048576)  : Calls Tryz.prog 137 #[.pointer (some ⟨g, 0, none⟩)] w fun e w' => ∃ y : {y : Opt // True}, e = .returned (.agg (optL y.1).toArray) ∧ (curF B g 137 (.slice A J.length cap) J.length).p w' ∧ Chgd (fun b => b = g) w w' := by
 have hq_code := Sl.capLe hl
 have hBw : B ≤ (cutW w B).heap.size := Nat.le_of_eq (cutW_size hB).symm
 have hlo : ∀ (ww : World) (b : Nat),(curF B g 137 (.slice A J.length cap) J.length).p ww → (curF B g 137 (.slice A J.length cap) J.length).blk b → (cutW w B).heap.size ≤ b := fun ww b h hb => Nat.le_trans (cutW_le w B) (cur_lo h hb)
 refine x_callsM (args := [.pointer (some ⟨g,0,none⟩)]) (fn := Tryz.f137) [curF B g 137 (.slice A J.length cap) J.length,slF (.slice A J.length cap) 1 (J.map bR),frF w (fun b => b = g)] B Tryz.func137 rfl Tryz.ntmps137 rfl hB (by simp only [List.mem_cons,List.not_mem_nil,or_false,forall_eq_or_imp,forall_eq]; exact ⟨hc,hl,frF_start w _⟩) (apart_cur hap rfl) ?_
 refine kQ ?_
 refine kEF [0,2] ⟨[(0,.v (.pointer (some ⟨g,0,none⟩))),(2,.p 0 0)],[⟨42,[.int .i64 0,.int .i64 0,.bool false,.bool false,.int .i64 0,.int .i64 0]⟩],[],[curF B g 137 (.slice A J.length cap) J.length,slF (.slice A J.length cap) 1 (J.map bR),frF w (fun b => b = g)]⟩ ?_
 refine kQ ?_
 refine kWD 1 [0,2,4] [(4,.v (.pointer (some ⟨g,0,none⟩)))] 149 [.pointer (some ⟨g,0,none⟩)] (some 5) 0 rfl rfl hlo (l8Options_c_K hBw hap) ?_
 rintro ⟨y1,hy1⟩
 refine kEA [0,2,3] [(3,.p 1 0)] [⟨42,optL y1⟩] ?_
 refine kS ?_
 refine kQ ?_
 refine kWD 1 [0,2,3,6] [(6,.v (.pointer (some ⟨g,0,none⟩)))] 133 [.pointer (some ⟨g,0,none⟩),.int .i64 10] (some 7) 0 rfl rfl hlo (l1Below_c_K hBw hap) ?_
 rintro ⟨y2,hy2⟩
 obtain ⟨hy20,hy21⟩ := hy2
 refine kED [0,2,3,7] [] ?_
 refine xw_block ?_
 refine kQ ?_
 refine kED [0,2,3,7,8] [(8,.v (.bool (y2 == 0)))] ?_
 refine kC (y2 == 0) (fun h3 => ?_) (fun h3 => ?_)
 have h3p := eqT h3
 refine kG ?_
 refine kWD 1 [2,3,10] [(10,.v (.pointer (some ⟨g,0,none⟩)))] 143 [.pointer (some ⟨g,0,none⟩)] (some 11) 0 rfl rfl hlo (l2Word_c_K hBw hap) ?_
 rintro ⟨y4,hy4⟩
 refine kEU [2,3] [] 1 ⟨42,optL { y1 with mss := y4 }⟩ ?_
 refine kQ ?_
 refine kEU [2] [(2,.p 0 0)] 0 ⟨42,optL { y1 with mss := y4 }⟩ ?_
 refine kR ?_
 exact ⟨[.agg (optL { y1 with mss := y4 }).toArray],by kernel_rfl,fun w' hb hf => ⟨⟨{ y1 with mss := y4 },trivial⟩,rfl,hf (curF B g 137 (.slice A J.length cap) J.length) (by simp),frF_chgd (hf (frF w (fun b => b = g)) (by simp)) hb rfl rfl rfl⟩⟩
 have h3p := eqF h3
 refine kQ ?_
 refine kED [0,2,3,7,13] [(13,.v (.bool (y2 == 1)))] ?_
 refine kC (y2 == 1) (fun h5 => ?_) (fun h5 => ?_)
 have h5p := eqT h5
 refine kG ?_
 refine kHD 1 [2,3,15] [(15,.v (.pointer (some ⟨g,0,none⟩)))] rfl (hv_build (e := 3) (K := 1) (bytes := 8) [.int .i64 (-2),.int .i64 (-1),.int .i64 14,.int .i64 15] rfl (by kernel_rfl) (by kernel_rfl) (by kernel_rfl) (by kernel_rfl) (by kernel_rfl) (rs := ([(-2),(-1),14,15] : List Int).map intRow) rfl) ?_
 intro g6
 refine xl_know (φ := ¬ (slF (.slice (some ⟨g6,0,none⟩) 4 4) 1 (([(-2),(-1),14,15] : List Int).map intRow)).blk g) (fun _ _ _ _ hr => fun hb => hr.2.apart 0 1 (rowF (cutW w B).heap.size 3 1 (.slice (some ⟨g6,0,none⟩) 4 4) (([(-2),(-1),14,15] : List Int).map intRow)) (curF B g 137 (.slice A J.length cap) J.length) rfl rfl (by decide) rfl g (rowF_sblk hb) rfl) (fun hk7 => ?_)
 refine kWD 0 [2,3,15,16] [] 136 [.pointer (some ⟨g,0,none⟩),.slice (some ⟨g6,0,none⟩) 4 4] (some 17) 1 rfl rfl hlo (l1PickInt_c_K hBw hap (fun ww hw hf => (rowF_sl (hf _ m0))) hk7 (by simp)) ?_
 rintro ⟨y8,hy8⟩
 refine kEU [2,3] [] 1 ⟨42,optL { y1 with scale := y8 }⟩ ?_
 refine kQ ?_
 refine kEU [2] [(2,.p 0 0)] 0 ⟨42,optL { y1 with scale := y8 }⟩ ?_
 refine kR ?_
 exact ⟨[.agg (optL { y1 with scale := y8 }).toArray],by kernel_rfl,fun w' hb hf => ⟨⟨{ y1 with scale := y8 },trivial⟩,rfl,hf (curF B g 137 (.slice A J.length cap) J.length) (by simp),frF_chgd (hf (frF w (fun b => b = g)) (by simp)) hb rfl rfl rfl⟩⟩
 have h5p := eqF h5
 refine kQ ?_
 refine kED [0,2,3,7,19] [(19,.v (.bool (y2 == 2)))] ?_
 refine kC (y2 == 2) (fun h9 => ?_) (fun h9 => ?_)
 have h9p := eqT h9
 refine kG ?_
 refine kEU [2,3] [] 1 ⟨42,optL { y1 with stamp := !y1.stamp }⟩ ?_
 refine kQ ?_
 refine kEU [2] [(2,.p 0 0)] 0 ⟨42,optL { y1 with stamp := !y1.stamp }⟩ ?_
 refine kR ?_
 exact ⟨[.agg (optL { y1 with stamp := !y1.stamp }).toArray],by kernel_rfl,fun w' hb hf => ⟨⟨{ y1 with stamp := !y1.stamp },trivial⟩,rfl,hf (curF B g 137 (.slice A J.length cap) J.length) (by simp),frF_chgd (hf (frF w (fun b => b = g)) (by simp)) hb rfl rfl rfl⟩⟩
 have h9p := eqF h9
 refine kQ ?_
 refine kED [0,2,3,25] [(25,.v (.bool (y2 == 3)))] ?_
 refine kC (y2 == 3) (fun h10 => ?_) (fun h10 => ?_)
 have h10p := eqT h10
 refine kG ?_
 refine kWD 1 [2,3,27] [(27,.v (.pointer (some ⟨g,0,none⟩)))] 143 [.pointer (some ⟨g,0,none⟩)] (some 28) 0 rfl rfl hlo (l2Word_c_K hBw hap) ?_
 rintro ⟨y11,hy11⟩
 refine kEU [2,3] [] 1 ⟨42,optL { y1 with val := y11 }⟩ ?_
 refine kQ ?_
 refine kEF [2] ⟨[(2,.p 0 0)],[⟨42,optL { y1 with val := y11 }⟩,⟨42,optL { y1 with val := y11 }⟩],[],[curF B g 137 (.slice A J.length cap) J.length,slF (.slice A J.length cap) 1 (J.map bR),frF w (fun b => b = g)]⟩ ?_
 refine kR ?_
 exact ⟨[.agg (optL { y1 with val := y11 }).toArray],by kernel_rfl,fun w' hb hf => ⟨⟨{ y1 with val := y11 },trivial⟩,rfl,hf (curF B g 137 (.slice A J.length cap) J.length) (by simp),frF_chgd (hf (frF w (fun b => b = g)) (by simp)) hb rfl rfl rfl⟩⟩
 have h10p := eqF h10
 refine kK ?_
 refine kQ ?_
 refine kEU [2] [(2,.p 0 0)] 0 ⟨42,optL y1⟩ ?_
 refine kR ?_
 exact ⟨[.agg (optL y1).toArray],by kernel_rfl,fun w' hb hf => ⟨⟨y1,trivial⟩,rfl,hf (curF B g 137 (.slice A J.length cap) J.length) (by simp),frF_chgd (hf (frF w (fun b => b = g)) (by simp)) hb rfl rfl rfl⟩⟩
theorem l8Bent_c_K {g : Nat} {J : List Int} {A : Option Addr} {cap : Nat}  {w0 : World} {fs : List Fact} {B : Nat} (hB : B ≤ w0.heap.size) (hap : ¬ (slF (.slice A J.length cap) 1 (J.map bR)).blk g)  (hn : J.length ≤ 1048576 := by omega) (h1 : curF B g 137 (.slice A J.length cap) J.length ∈ fs := by simp) (h2 : slF (.slice A J.length cap) 1 (J.map bR) ∈ fs := by simp) : XCM Tryz.prog w0 fs (curF B g 137 (.slice A J.length cap) J.length).blk 137 [.pointer (some ⟨g, 0, none⟩)] (α := {y : Opt // True}) (fun y => .agg (optL y.1).toArray) (fun _ => [curF B g 137 (.slice A J.length cap) J.length]) := xcm_cur fun w hw hf => l8Bent_c g J A cap  w B (Nat.le_trans hB hw) (hf _ h1) (hf _ h2) hap hn  
theorem l12Tuple_c (g : Nat) (J : List Int) (A : Option Addr) (cap : Nat)  (w : World) (B : Nat) (hB : B ≤ w.heap.size) (hc : (curF B g 137 (.slice A J.length cap) J.length).p w) (hl : Sl w (.slice A J.length cap) 1 (J.map bR)) (hap : ¬ (slF (.slice A J.length cap) 1 (J.map bR)).blk g) (hn : J.length ≤ 1048576)  : Calls Tryz.prog 147 #[.pointer (some ⟨g, 0, none⟩)] w fun e w' => ∃ y : {y : Tup // True}, e = .returned (.agg (tupL y.1).toArray) ∧ (curF B g 137 (.slice A J.length cap) J.length).p w' ∧ Chgd (fun b => b = g) w w' := by
 have hq_code := Sl.capLe hl
 have hBw : B ≤ (cutW w B).heap.size := Nat.le_of_eq (cutW_size hB).symm
 have hlo : ∀ (ww : World) (b : Nat),(curF B g 137 (.slice A J.length cap) J.length).p ww → (curF B g 137 (.slice A J.length cap) J.length).blk b → (cutW w B).heap.size ≤ b := fun ww b h hb => Nat.le_trans (cutW_le w B) (cur_lo h hb)
 refine x_callsM (args := [.pointer (some ⟨g,0,none⟩)]) (fn := Tryz.f147) [curF B g 137 (.slice A J.length cap) J.length,slF (.slice A J.length cap) 1 (J.map bR),frF w (fun b => b = g)] B Tryz.func147 rfl Tryz.ntmps147 rfl hB (by simp only [List.mem_cons,List.not_mem_nil,or_false,forall_eq_or_imp,forall_eq]; exact ⟨hc,hl,frF_start w _⟩) (apart_cur hap rfl) ?_
 refine kQ ?_
 refine kEF [0,2] ⟨[(0,.v (.pointer (some ⟨g,0,none⟩))),(2,.p 0 0)],[⟨37,tupL (⟨0,0,0⟩ : Tup)⟩],[],[curF B g 137 (.slice A J.length cap) J.length,slF (.slice A J.length cap) 1 (J.map bR),frF w (fun b => b = g)]⟩ ?_
 refine kQ ?_
 refine kWD 1 [0,2,3] [(3,.v (.pointer (some ⟨g,0,none⟩)))] 162 [.pointer (some ⟨g,0,none⟩)] (some 4) 0 rfl rfl hlo (l6Ip_c_K hBw hap) ?_
 rintro ⟨y1,hy1⟩
 refine kHD 1 [2,4,5] [(5,.v (.pointer (some ⟨g,0,none⟩)))] rfl (hv_build (e := 3) (K := 1) (bytes := 8) [.int .i64 40000,.int .i64 40001,.int .i64 40002] rfl (by kernel_rfl) (by kernel_rfl) (by kernel_rfl) (by kernel_rfl) (by kernel_rfl) (rs := ([40000,40001,40002] : List Int).map intRow) rfl) ?_
 intro g2
 refine xl_know (φ := ¬ (slF (.slice (some ⟨g2,0,none⟩) 3 3) 1 (([40000,40001,40002] : List Int).map intRow)).blk g) (fun _ _ _ _ hr => fun hb => hr.2.apart 0 1 (rowF (cutW w B).heap.size 3 1 (.slice (some ⟨g2,0,none⟩) 3 3) (([40000,40001,40002] : List Int).map intRow)) (curF B g 137 (.slice A J.length cap) J.length) rfl rfl (by decide) rfl g (rowF_sblk hb) rfl) (fun hk3 => ?_)
 refine kWD 0 [2,4,5,6] [] 136 [.pointer (some ⟨g,0,none⟩),.slice (some ⟨g2,0,none⟩) 3 3] (some 7) 1 rfl rfl hlo (l1PickInt_c_K hBw hap (fun ww hw hf => (rowF_sl (hf _ m0))) hk3 (by simp)) ?_
 rintro ⟨y4,hy4⟩
 refine kOD 0 [2,4,7] [] (.agg (tupL (⟨y1,y4,80⟩ : Tup)).toArray) rfl (fun _ _ _ ww hr => act_build [(0,.int .i64 y1),(1,.int .i64 y4),(2,.int .i64 80)] hr.1 rfl (by kernel_rfl) (by kernel_rfl) ww) ?_
 refine kEU [2] [(2,.p 0 0)] 0 ⟨37,tupL (⟨y1,y4,80⟩ : Tup)⟩ ?_
 refine kR ?_
 exact ⟨[.agg (tupL (⟨y1,y4,80⟩ : Tup)).toArray],by kernel_rfl,fun w' hb hf => ⟨⟨⟨y1,y4,80⟩,trivial⟩,rfl,hf (curF B g 137 (.slice A J.length cap) J.length) (by simp),frF_chgd (hf (frF w (fun b => b = g)) (by simp)) hb rfl rfl rfl⟩⟩
theorem l12Tuple_c_K {g : Nat} {J : List Int} {A : Option Addr} {cap : Nat}  {w0 : World} {fs : List Fact} {B : Nat} (hB : B ≤ w0.heap.size) (hap : ¬ (slF (.slice A J.length cap) 1 (J.map bR)).blk g)  (hn : J.length ≤ 1048576 := by omega) (h1 : curF B g 137 (.slice A J.length cap) J.length ∈ fs := by simp) (h2 : slF (.slice A J.length cap) 1 (J.map bR) ∈ fs := by simp) : XCM Tryz.prog w0 fs (curF B g 137 (.slice A J.length cap) J.length).blk 147 [.pointer (some ⟨g, 0, none⟩)] (α := {y : Tup // True}) (fun y => .agg (tupL y.1).toArray) (fun _ => [curF B g 137 (.slice A J.length cap) J.length]) := xcm_cur fun w hw hf => l12Tuple_c g J A cap  w B (Nat.le_trans hB hw) (hf _ h1) (hf _ h2) hap hn  
theorem l12Bent_c (g : Nat) (J : List Int) (A : Option Addr) (cap : Nat)  (w : World) (B : Nat) (hB : B ≤ w.heap.size) (hc : (curF B g 137 (.slice A J.length cap) J.length).p w) (hl : Sl w (.slice A J.length cap) 1 (J.map bR)) (hap : ¬ (slF (.slice A J.length cap) 1 (J.map bR)).blk g) (hn : J.length ≤ 1048576)  : Calls Tryz.prog 138 #[.pointer (some ⟨g, 0, none⟩)] w fun e w' => ∃ y : {y : Tup // True}, e = .returned (.agg (tupL y.1).toArray) ∧ (curF B g 137 (.slice A J.length cap) J.length).p w' ∧ Chgd (fun b => b = g) w w' := by
 have hq_code := Sl.capLe hl
 have hBw : B ≤ (cutW w B).heap.size := Nat.le_of_eq (cutW_size hB).symm
 have hlo : ∀ (ww : World) (b : Nat),(curF B g 137 (.slice A J.length cap) J.length).p ww → (curF B g 137 (.slice A J.length cap) J.length).blk b → (cutW w B).heap.size ≤ b := fun ww b h hb => Nat.le_trans (cutW_le w B) (cur_lo h hb)
 refine x_callsM (args := [.pointer (some ⟨g,0,none⟩)]) (fn := Tryz.f138) [curF B g 137 (.slice A J.length cap) J.length,slF (.slice A J.length cap) 1 (J.map bR),frF w (fun b => b = g)] B Tryz.func138 rfl Tryz.ntmps138 rfl hB (by simp only [List.mem_cons,List.not_mem_nil,or_false,forall_eq_or_imp,forall_eq]; exact ⟨hc,hl,frF_start w _⟩) (apart_cur hap rfl) ?_
 refine kQ ?_
 refine kEF [0,2] ⟨[(0,.v (.pointer (some ⟨g,0,none⟩))),(2,.p 0 0)],[⟨37,tupL (⟨0,0,0⟩ : Tup)⟩],[],[curF B g 137 (.slice A J.length cap) J.length,slF (.slice A J.length cap) 1 (J.map bR),frF w (fun b => b = g)]⟩ ?_
 refine kQ ?_
 refine kWD 1 [0,2,4] [(4,.v (.pointer (some ⟨g,0,none⟩)))] 147 [.pointer (some ⟨g,0,none⟩)] (some 5) 0 rfl rfl hlo (l12Tuple_c_K hBw hap) ?_
 rintro ⟨y1,hy1⟩
 refine kEA [0,2,3] [(3,.p 1 0)] [⟨37,tupL y1⟩] ?_
 refine kS ?_
 refine kQ ?_
 refine kWD 1 [0,2,3,6] [(6,.v (.pointer (some ⟨g,0,none⟩)))] 133 [.pointer (some ⟨g,0,none⟩),.int .i64 10] (some 7) 0 rfl rfl hlo (l1Below_c_K hBw hap) ?_
 rintro ⟨y2,hy2⟩
 obtain ⟨hy20,hy21⟩ := hy2
 refine kED [0,2,3,7] [] ?_
 refine xw_block ?_
 refine kQ ?_
 refine kED [0,2,3,7,8] [(8,.v (.bool (y2 == 0)))] ?_
 refine kC (y2 == 0) (fun h3 => ?_) (fun h3 => ?_)
 have h3p := eqT h3
 refine kG ?_
 refine kWD 1 [2,3,10] [(10,.v (.pointer (some ⟨g,0,none⟩)))] 143 [.pointer (some ⟨g,0,none⟩)] (some 11) 0 rfl rfl hlo (l2Word_c_K hBw hap) ?_
 rintro ⟨y4,hy4⟩
 refine kEU [2,3] [] 1 ⟨37,tupL { y1 with ip := y4 }⟩ ?_
 refine kQ ?_
 refine kEU [2] [(2,.p 0 0)] 0 ⟨37,tupL { y1 with ip := y4 }⟩ ?_
 refine kR ?_
 exact ⟨[.agg (tupL { y1 with ip := y4 }).toArray],by kernel_rfl,fun w' hb hf => ⟨⟨{ y1 with ip := y4 },trivial⟩,rfl,hf (curF B g 137 (.slice A J.length cap) J.length) (by simp),frF_chgd (hf (frF w (fun b => b = g)) (by simp)) hb rfl rfl rfl⟩⟩
 have h3p := eqF h3
 refine kQ ?_
 refine kED [0,2,3,7,13] [(13,.v (.bool (y2 == 1)))] ?_
 refine kC (y2 == 1) (fun h5 => ?_) (fun h5 => ?_)
 have h5p := eqT h5
 refine kG ?_
 refine kWD 1 [2,3,15] [(15,.v (.pointer (some ⟨g,0,none⟩)))] 143 [.pointer (some ⟨g,0,none⟩)] (some 16) 0 rfl rfl hlo (l2Word_c_K hBw hap) ?_
 rintro ⟨y6,hy6⟩
 refine kEU [2,3] [] 1 ⟨37,tupL { y1 with port := y6 }⟩ ?_
 refine kQ ?_
 refine kEU [2] [(2,.p 0 0)] 0 ⟨37,tupL { y1 with port := y6 }⟩ ?_
 refine kR ?_
 exact ⟨[.agg (tupL { y1 with port := y6 }).toArray],by kernel_rfl,fun w' hb hf => ⟨⟨{ y1 with port := y6 },trivial⟩,rfl,hf (curF B g 137 (.slice A J.length cap) J.length) (by simp),frF_chgd (hf (frF w (fun b => b = g)) (by simp)) hb rfl rfl rfl⟩⟩
 have h5p := eqF h5
 refine kQ ?_
 refine kED [0,2,3,18] [(18,.v (.bool (y2 == 2)))] ?_
 refine kC (y2 == 2) (fun h7 => ?_) (fun h7 => ?_)
 have h7p := eqT h7
 refine kG ?_
 refine kWD 1 [2,3,20] [(20,.v (.pointer (some ⟨g,0,none⟩)))] 143 [.pointer (some ⟨g,0,none⟩)] (some 21) 0 rfl rfl hlo (l2Word_c_K hBw hap) ?_
 rintro ⟨y8,hy8⟩
 refine kEU [2,3] [] 1 ⟨37,tupL { y1 with my := y8 }⟩ ?_
 refine kQ ?_
 refine kEU [2] [(2,.p 0 0)] 0 ⟨37,tupL { y1 with my := y8 }⟩ ?_
 refine kR ?_
 exact ⟨[.agg (tupL { y1 with my := y8 }).toArray],by kernel_rfl,fun w' hb hf => ⟨⟨{ y1 with my := y8 },trivial⟩,rfl,hf (curF B g 137 (.slice A J.length cap) J.length) (by simp),frF_chgd (hf (frF w (fun b => b = g)) (by simp)) hb rfl rfl rfl⟩⟩
 have h7p := eqF h7
 refine kK ?_
 refine kQ ?_
 refine kEU [2] [(2,.p 0 0)] 0 ⟨37,tupL y1⟩ ?_
 refine kR ?_
 exact ⟨[.agg (tupL y1).toArray],by kernel_rfl,fun w' hb hf => ⟨⟨y1,trivial⟩,rfl,hf (curF B g 137 (.slice A J.length cap) J.length) (by simp),frF_chgd (hf (frF w (fun b => b = g)) (by simp)) hb rfl rfl rfl⟩⟩
theorem l12Bent_c_K {g : Nat} {J : List Int} {A : Option Addr} {cap : Nat}  {w0 : World} {fs : List Fact} {B : Nat} (hB : B ≤ w0.heap.size) (hap : ¬ (slF (.slice A J.length cap) 1 (J.map bR)).blk g)  (hn : J.length ≤ 1048576 := by omega) (h1 : curF B g 137 (.slice A J.length cap) J.length ∈ fs := by simp) (h2 : slF (.slice A J.length cap) 1 (J.map bR) ∈ fs := by simp) : XCM Tryz.prog w0 fs (curF B g 137 (.slice A J.length cap) J.length).blk 138 [.pointer (some ⟨g, 0, none⟩)] (α := {y : Tup // True}) (fun y => .agg (tupL y.1).toArray) (fun _ => [curF B g 137 (.slice A J.length cap) J.length]) := xcm_cur fun w hw hf => l12Bent_c g J A cap  w B (Nat.le_trans hB hw) (hf _ h1) (hf _ h2) hap hn  
theorem big_c (J : List Int) (A : Option Addr) (cap : Nat) (w : World) (hl : Sl w (.slice A J.length cap) 1 (J.map bR)) : Calls Tryz.prog 18 #[.slice A J.length cap] w fun e w' => e = .returned (.bool (decide (((J.length : Nat) : Int) > 1048576))) ∧ Below w.heap.size w w' := by
 refine x_calls (args := [.slice A J.length cap]) (fn := Tryz.f18) [slF (.slice A J.length cap) 1 (J.map bR)] Tryz.func18 rfl Tryz.ntmps18 rfl (by simp only [List.mem_cons,List.not_mem_nil,or_false,forall_eq]; exact ⟨rfl,hl⟩) ?_
 refine kQ ?_
 refine kEF [0] ⟨[(0,.v (.slice A J.length cap))],[],[],[slF (.slice A J.length cap) 1 (J.map bR)]⟩ ?_
 refine kQ ?_
 refine kES [2] [(2,.v (.bool (decide (((J.length : Nat) : Int) > 1048576))))] ?_
 refine kR ?_
 exact ⟨[.bool (decide (((J.length : Nat) : Int) > 1048576))],by kernel_rfl,fun w' hb hf => ⟨rfl,hb⟩⟩
theorem l1Bytes_c (g : Nat) (J : List Int) (A : Option Addr) (cap : Nat) (n : Int) (w : World) (B : Nat) (hB : B ≤ w.heap.size) (hc : (curF B g 137 (.slice A J.length cap) J.length).p w) (hl : Sl w (.slice A J.length cap) 1 (J.map bR)) (hap : ¬ (slF (.slice A J.length cap) 1 (J.map bR)).blk g) (hn : J.length ≤ 1048576) (hn0 : 0 ≤ n ∧ n ≤ 4096) : Calls Tryz.prog 151 #[.pointer (some ⟨g, 0, none⟩), .int .i64 n] w fun e w' => ∃ y : {y : List Int × (Option Addr × Nat) // y.1.length ≤ 4096}, e = .returned (.slice y.1.2.1 y.1.1.length y.1.2.2) ∧ (curF B g 137 (.slice A J.length cap) J.length).p w' ∧ (rowF w.heap.size 5 1 (.slice y.1.2.1 y.1.1.length y.1.2.2) (y.1.1.map bR)).p w' ∧ g < w.heap.size ∧ Chgd (fun b => b = g) w w' := by
 have hq_code := Sl.capLe hl
 have hBw : B ≤ (cutW w B).heap.size := Nat.le_of_eq (cutW_size hB).symm
 have hlo : ∀ (ww : World) (b : Nat),(curF B g 137 (.slice A J.length cap) J.length).p ww → (curF B g 137 (.slice A J.length cap) J.length).blk b → (cutW w B).heap.size ≤ b := fun ww b h hb => Nat.le_trans (cutW_le w B) (cur_lo h hb)
 refine x_callsMA (args := [.pointer (some ⟨g,0,none⟩),.int .i64 n]) (fn := Tryz.f151) [curF B g 137 (.slice A J.length cap) J.length,slF (.slice A J.length cap) 1 (J.map bR),frF w (fun b => b = g)] B Tryz.func151 rfl Tryz.ntmps151 rfl hB (by simp only [List.mem_cons,List.not_mem_nil,or_false,forall_eq_or_imp,forall_eq]; exact ⟨hc,hl,frF_start w _⟩) (apart_cur hap rfl) ?_
 have hgl : g < w.heap.size := (curF B g 137 (.slice A J.length cap) J.length).lt w g hc rfl
 refine kQ ?_
 refine kEF [0,1] ⟨[(0,.v (.pointer (some ⟨g,0,none⟩))),(1,.v (.int .i64 n))],[],[],[curF B g 137 (.slice A J.length cap) J.length,slF (.slice A J.length cap) 1 (J.map bR),frF w (fun b => b = g)]⟩ ?_
 refine kQ ?_
 refine kHD 0 [0,1] [] rfl (hv_build (e := 5) (K := 1) (bytes := 1) [] rfl (by kernel_rfl) (by kernel_rfl) (by kernel_rfl) (by kernel_rfl) (by kernel_rfl) (rs := ([] : List Int).map bR) rfl) ?_
 intro g1
 refine kED [0,1,5] [(5,.v (.slice (some ⟨g1,0,none⟩) 0 0))] ?_
 refine kS ?_
 refine kQ ?_
 refine kED [0,1,5,6] [(6,.v (.int .i64 0))] ?_
 refine xw_block ?_
 refine xw_loopW (α := {x : Nat × List Int × Option Addr × Nat // (fun (i : Nat) (bs : List Int) (A1 : Option Addr) (c1 : Nat) => (i : Int) ≤ n ∧ bs.length = i) x.1 x.2.1 x.2.2.1 x.2.2.2}) (fun x => (fun (i : Nat) (bs : List Int) (A1 : Option Addr) (c1 : Nat) => (⟨[(0,.v (.pointer (some ⟨g,0,none⟩))),(1,.v (.int .i64 n)),(5,.v (.slice A1 bs.length c1)),(6,.v (.int .i64 (i : Int)))],[],[],[rowF (cutW w B).heap.size 5 1 (.slice A1 bs.length c1) (bs.map bR),curF B g 137 (.slice A J.length cap) J.length,slF (.slice A J.length cap) 1 (J.map bR),frF w (fun b => b = g)]⟩ : St)) x.1.1 x.1.2.1 x.1.2.2.1 x.1.2.2.2) (fun x => (fun (i : Nat) (bs : List Int) (A1 : Option Addr) (c1 : Nat) => n.toNat - i) x.1.1 x.1.2.1 x.1.2.2.1 x.1.2.2.2) ⟨(0,([] : List Int),(some ⟨g1,0,none⟩),0),⟨(by omega),rfl⟩⟩ (kPk [0,1,2,3] <| kF 0 0 [0,1,5,6]) ?_
 rintro ⟨⟨i,bs,A1,c1⟩,hi,hbl⟩
 try dsimp only
 try dsimp only at hi hbl
 refine kS ?_
 refine kQ ?_
 refine kED [0,1,5,6,10] [(10,.v (.bool (decide ((i : Int) < n))))] ?_
 refine kC (decide ((i : Int) < n)) (fun h2 => ?_) (fun h2 => ?_)
 have h2p := of_decide_eq_true h2
 have hlt : (i : Int) < n := of_decide_eq_true h2
 refine kK ?_
 refine kS ?_
 refine xw_block ?_
 refine kG ?_
 refine kWD 2 [0,1,5,6,13,14] [(13,.v (.slice A1 bs.length c1)),(14,.v (.pointer (some ⟨g,0,none⟩)))] 155 [.pointer (some ⟨g,0,none⟩)] (some 15) 1 rfl rfl hlo (l1Byte_c_K hBw hap) ?_
 rintro ⟨y3,hy3⟩
 refine kHD 1 [0,1,5,6,13,16] [(16,.v (.int .u8 (IntKind.u8.wrap y3)))] rfl (hv_build (e := 5) (K := 1) (bytes := 1) [.int .u8 (IntKind.u8.wrap y3)] rfl (by kernel_rfl) (by kernel_rfl) (by kernel_rfl) (by kernel_rfl) (by kernel_rfl) (rs := ([IntKind.u8.wrap y3] : List Int).map bR) rfl) ?_
 intro g4
 refine kHD 0 [0,1,5,6,13,17] [] rfl (hv_append (e := 5) (K := 1) (bytes := 1) (i := 2) (q := (bs ++ ([IntKind.u8.wrap y3] : List Int)).length) (new := ([IntKind.u8.wrap y3] : List Int).map bR) (rs' := (bs ++ ([IntKind.u8.wrap y3] : List Int)).map bR) rfl rfl rfl rfl (by kernel_rfl) (by kernel_rfl) (by kernel_rfl) rfl (by simp) (by rw [List.map_append]) (by simp) (fun ww hf => (rowF_sl (hf (rowF (cutW w B).heap.size 5 1 (.slice (some ⟨g4,0,none⟩) 1 1) (([IntKind.u8.wrap y3] : List Int).map bR)) (by simp)))) (by intro r hr; obtain ⟨x,hx,rfl⟩ := List.mem_map.1 hr; exact ⟨rfl,by simp [bR,Value.oneCell']⟩) (by (try simp only [List.length_map,List.length_append,List.length_cons,List.length_nil,List.length_take,List.length_drop,maxLen]); omega) (by (try simp only [List.length_map,List.length_append,List.length_cons,List.length_nil,List.length_take,List.length_drop,maxLen]); omega)) ?_
 rintro ⟨v5a,v5c⟩
 refine kED [0,1,5,6] [(5,.v (.slice v5a ((bs ++ ([IntKind.u8.wrap y3] : List Int)).length) v5c))] ?_
 refine kG ?_
 refine kRD 3 [0,1,5,6] [(6,.v (.int .i64 (IntKind.i64.wrap ((i : Int) + 1))))] ?_
 refine xl_nv [0,1,5,6] [(6,.v (.int .i64 (IntKind.i64.wrap ((i : Int) + 1))))] [(6,.v (.int .i64 ((i : Int) + 1)))] (by rw [show (IntKind.i64.wrap ((i : Int) + 1)) = ((i : Int) + 1) from wrap_id (by omega) (by omega)]) (by kernel_rfl) ?_
 refine kES [0,1,5,6] [(0,.v (.pointer (some ⟨g,0,none⟩))),(1,.v (.int .i64 n)),(5,.v (.slice v5a ((bs ++ ([IntKind.u8.wrap y3] : List Int)).length) v5c)),(6,.v (.int .i64 ((i : Int) + 1)))] ?_
 exact ⟨⟨(i + 1,(bs ++ ([IntKind.u8.wrap y3] : List Int)),v5a,v5c),⟨by omega,by simp [hbl]⟩⟩,kPk [0,2,3,4] <| kF 0 0 [0,1,5,6],by show (fun (i : Nat) (bs : List Int) (A1 : Option Addr) (c1 : Nat) => n.toNat - i) (i + 1) (bs ++ ([IntKind.u8.wrap y3] : List Int)) v5a v5c < n.toNat - i; (dsimp only; omega)⟩
 have h2p := of_decide_eq_false h2
 have hge : ¬ (i : Int) < n := of_decide_eq_false h2
 refine xw_exit ?_
 refine kQ ?_
 refine kES [4] [(4,.v (.slice A1 bs.length c1))] ?_
 refine kR ?_
 exact ⟨[.slice A1 bs.length c1],by kernel_rfl,fun w' hb hf ha => ⟨⟨(bs,A1,c1),by dsimp only; omega⟩,rfl,hf (curF B g 137 (.slice A J.length cap) J.length) (by simp),rowF_raise (hf (rowF (cutW w B).heap.size 5 1 (.slice A1 bs.length c1) (bs.map bR)) (by simp)) (row_new ha (i := 0) (j := 1) (k := 3) rfl rfl rfl (by decide) (by decide)),hgl,frF_chgd (hf (frF w (fun b => b = g)) (by simp)) hb rfl rfl rfl⟩⟩
theorem l5Long_c (n : Int) (w : World) (h0 : 0 ≤ n ∧ n ≤ 4096) : Calls Tryz.prog 144 #[.int .i64 n] w fun e w' => e = .returned (.string (bstr (List.replicate n.toNat 0))) ∧ Below w.heap.size w w' := by
 obtain ⟨m,rfl⟩ : ∃ m : Nat,n = (m : Int) := ⟨n.toNat,by omega⟩
 have hm : m ≤ 4096 := by omega
 refine x_calls (args := [.int .i64 (m : Int)]) (fn := Tryz.f144) [] Tryz.func144 rfl Tryz.ntmps144 rfl (by simp) ?_
 refine kQ ?_
 refine kEF [0] ⟨[(0,.v (.int .i64 (m : Int)))],[],[],[]⟩ ?_
 refine kQ ?_
 refine kHS 1 [4] [(4,.v (.int .i64 (m : Int)))] rfl (hv_make (kl := .i64) (kc := .i64) (e := 5) (K := 1) (bytes := 1) (m := m) (z := .int .u8 0) (rs := (List.replicate m 0).map bR) rfl (by kernel_rfl) (by kernel_rfl) (by kernel_rfl) (by kernel_rfl) (by (try simp only [List.length_map,List.length_append,List.length_cons,List.length_nil,List.length_take,List.length_drop,maxLen]); omega) (by (try simp only [List.length_map,List.length_append,List.length_cons,List.length_nil,List.length_take,List.length_drop,maxLen]); omega) (by rw [List.map_replicate]; rfl)) ?_
 intro g1
 refine kES [3] [(3,.v (.slice (some ⟨g1,0,none⟩) m m))] ?_
 refine kQ ?_
 refine kOS 1 [6] [(6,.v (.slice (some ⟨g1,0,none⟩) m m))] (.string (bstr (List.replicate m 0))) rfl (fun _ _ _ ww hr => act_b2s (e := 5) (List.replicate m 0) hr.1 rfl (by kernel_rfl) (by kernel_rfl) (by kernel_rfl) rfl (rowF_sl (hr.2.fact (rowF w.heap.size 5 1 (.slice (some ⟨g1,0,none⟩) m m) ((List.replicate m 0).map bR)) (by simp)).1)) ?_
 refine kES [2] [(2,.v (.string (bstr (List.replicate m 0))))] ?_
 refine kR ?_
 exact ⟨[.string (bstr (List.replicate m 0))],by kernel_rfl,fun w' hb hf => ⟨rfl,hb⟩⟩
theorem l9Flags_c (g : Nat) (J : List Int) (A : Option Addr) (cap : Nat)  (w : World) (B : Nat) (hB : B ≤ w.heap.size) (hc : (curF B g 137 (.slice A J.length cap) J.length).p w) (hl : Sl w (.slice A J.length cap) 1 (J.map bR)) (hap : ¬ (slF (.slice A J.length cap) 1 (J.map bR)).blk g) (hn : J.length ≤ 1048576)  : Calls Tryz.prog 140 #[.pointer (some ⟨g, 0, none⟩)] w fun e w' => ∃ y : {y : Int // True}, e = .returned (.int .i64 y.1) ∧ (curF B g 137 (.slice A J.length cap) J.length).p w' ∧ Chgd (fun b => b = g) w w' := by
 have hq_code := Sl.capLe hl
 have hBw : B ≤ (cutW w B).heap.size := Nat.le_of_eq (cutW_size hB).symm
 have hlo : ∀ (ww : World) (b : Nat),(curF B g 137 (.slice A J.length cap) J.length).p ww → (curF B g 137 (.slice A J.length cap) J.length).blk b → (cutW w B).heap.size ≤ b := fun ww b h hb => Nat.le_trans (cutW_le w B) (cur_lo h hb)
 refine x_callsM (args := [.pointer (some ⟨g,0,none⟩)]) (fn := Tryz.f140) [curF B g 137 (.slice A J.length cap) J.length,slF (.slice A J.length cap) 1 (J.map bR),frF w (fun b => b = g)] B Tryz.func140 rfl Tryz.ntmps140 rfl hB (by simp only [List.mem_cons,List.not_mem_nil,or_false,forall_eq_or_imp,forall_eq]; exact ⟨hc,hl,frF_start w _⟩) (apart_cur hap rfl) ?_
 refine kQ ?_
 refine kEF [0] ⟨[(0,.v (.pointer (some ⟨g,0,none⟩)))],[],[],[curF B g 137 (.slice A J.length cap) J.length,slF (.slice A J.length cap) 1 (J.map bR),frF w (fun b => b = g)]⟩ ?_
 refine kQ ?_
 refine kWS 2 [3,4] [(3,.v (.pointer (some ⟨g,0,none⟩))),(4,.v (.pointer (some ⟨g,0,none⟩)))] 133 [.pointer (some ⟨g,0,none⟩),.int .i64 64] (some 5) 0 rfl rfl hlo (l1Below_c_K hBw hap) ?_
 rintro ⟨y1,hy1⟩
 obtain ⟨hy10,hy11⟩ := hy1
 refine kHD 0 [3,5] [] rfl (hv_build (e := 3) (K := 1) (bytes := 8) [.int .i64 2,.int .i64 16,.int .i64 16,.int .i64 18,.int .i64 24,.int .i64 17,.int .i64 4,.int .i64 20,.int .i64 0,.int .i64 y1] rfl (by kernel_rfl) (by kernel_rfl) (by kernel_rfl) (by kernel_rfl) (by kernel_rfl) (rs := ([2,16,16,18,24,17,4,20,0,y1] : List Int).map intRow) rfl) ?_
 intro g2
 refine xl_know (φ := ¬ (slF (.slice (some ⟨g2,0,none⟩) 10 10) 1 (([2,16,16,18,24,17,4,20,0,y1] : List Int).map intRow)).blk g) (fun _ _ _ _ hr => fun hb => hr.2.apart 0 1 (rowF (cutW w B).heap.size 3 1 (.slice (some ⟨g2,0,none⟩) 10 10) (([2,16,16,18,24,17,4,20,0,y1] : List Int).map intRow)) (curF B g 137 (.slice A J.length cap) J.length) rfl rfl (by decide) rfl g (rowF_sblk hb) rfl) (fun hk3 => ?_)
 refine kWD 0 [3,6] [] 136 [.pointer (some ⟨g,0,none⟩),.slice (some ⟨g2,0,none⟩) 10 10] (some 7) 1 rfl rfl hlo (l1PickInt_c_K hBw hap (fun ww hw hf => (rowF_sl (hf _ m0))) hk3 (by simp)) ?_
 rintro ⟨y4,hy4⟩
 refine kES [2] [(2,.v (.int .i64 y4))] ?_
 refine kR ?_
 exact ⟨[.int .i64 y4],by kernel_rfl,fun w' hb hf => ⟨⟨y4,trivial⟩,rfl,hf (curF B g 137 (.slice A J.length cap) J.length) (by simp),frF_chgd (hf (frF w (fun b => b = g)) (by simp)) hb rfl rfl rfl⟩⟩
theorem l9Flags_c_K {g : Nat} {J : List Int} {A : Option Addr} {cap : Nat}  {w0 : World} {fs : List Fact} {B : Nat} (hB : B ≤ w0.heap.size) (hap : ¬ (slF (.slice A J.length cap) 1 (J.map bR)).blk g)  (hn : J.length ≤ 1048576 := by omega) (h1 : curF B g 137 (.slice A J.length cap) J.length ∈ fs := by simp) (h2 : slF (.slice A J.length cap) 1 (J.map bR) ∈ fs := by simp) : XCM Tryz.prog w0 fs (curF B g 137 (.slice A J.length cap) J.length).blk 140 [.pointer (some ⟨g, 0, none⟩)] (α := {y : Int // True}) (fun y => .int .i64 y.1) (fun _ => [curF B g 137 (.slice A J.length cap) J.length]) := xcm_cur fun w hw hf => l9Flags_c g J A cap  w B (Nat.le_trans hB hw) (hf _ h1) (hf _ h2) hap hn  
theorem l9Segment_c (g : Nat) (J : List Int) (A : Option Addr) (cap : Nat)  (w : World) (B : Nat) (hB : B ≤ w.heap.size) (hc : (curF B g 137 (.slice A J.length cap) J.length).p w) (hl : Sl w (.slice A J.length cap) 1 (J.map bR)) (hap : ¬ (slF (.slice A J.length cap) 1 (J.map bR)).blk g) (hn : J.length ≤ 1048576)  : Calls Tryz.prog 142 #[.pointer (some ⟨g, 0, none⟩)] w fun e w' => ∃ y : {y : Seg // y.body.size ≤ 4096}, e = .returned (.agg (segL y.1).toArray) ∧ (curF B g 137 (.slice A J.length cap) J.length).p w' ∧ Chgd (fun b => b = g) w w' := by
 have hq_code := Sl.capLe hl
 have hBw : B ≤ (cutW w B).heap.size := Nat.le_of_eq (cutW_size hB).symm
 have hlo : ∀ (ww : World) (b : Nat),(curF B g 137 (.slice A J.length cap) J.length).p ww → (curF B g 137 (.slice A J.length cap) J.length).blk b → (cutW w B).heap.size ≤ b := fun ww b h hb => Nat.le_trans (cutW_le w B) (cur_lo h hb)
 refine x_callsM (args := [.pointer (some ⟨g,0,none⟩)]) (fn := Tryz.f142) [curF B g 137 (.slice A J.length cap) J.length,slF (.slice A J.length cap) 1 (J.map bR),frF w (fun b => b = g)] B Tryz.func142 rfl Tryz.ntmps142 rfl hB (by simp only [List.mem_cons,List.not_mem_nil,or_false,forall_eq_or_imp,forall_eq]; exact ⟨hc,hl,frF_start w _⟩) (apart_cur hap rfl) ?_
 refine kQ ?_
 refine kEF [0,2] ⟨[(0,.v (.pointer (some ⟨g,0,none⟩))),(2,.p 0 0)],[⟨50,segZ⟩],[],[curF B g 137 (.slice A J.length cap) J.length,slF (.slice A J.length cap) 1 (J.map bR),frF w (fun b => b = g)]⟩ ?_
 refine kQ ?_
 refine kHD 1 [0,2,3] [(3,.v (.pointer (some ⟨g,0,none⟩)))] rfl (hv_build (e := 3) (K := 1) (bytes := 8) [.int .i64 40000,.int .i64 40001,.int .i64 80] rfl (by kernel_rfl) (by kernel_rfl) (by kernel_rfl) (by kernel_rfl) (by kernel_rfl) (rs := ([40000,40001,80] : List Int).map intRow) rfl) ?_
 intro g1
 refine xl_know (φ := ¬ (slF (.slice (some ⟨g1,0,none⟩) 3 3) 1 (([40000,40001,80] : List Int).map intRow)).blk g) (fun _ _ _ _ hr => fun hb => hr.2.apart 0 1 (rowF (cutW w B).heap.size 3 1 (.slice (some ⟨g1,0,none⟩) 3 3) (([40000,40001,80] : List Int).map intRow)) (curF B g 137 (.slice A J.length cap) J.length) rfl rfl (by decide) rfl g (rowF_sblk hb) rfl) (fun hk2 => ?_)
 refine kWD 0 [0,2,3,4] [] 136 [.pointer (some ⟨g,0,none⟩),.slice (some ⟨g1,0,none⟩) 3 3] (some 5) 1 rfl rfl hlo (l1PickInt_c_K hBw hap (fun ww hw hf => (rowF_sl (hf _ m0))) hk2 (by simp)) ?_
 rintro ⟨y3,hy3⟩
 refine kHD 1 [0,2,5,6] [(6,.v (.pointer (some ⟨g,0,none⟩)))] rfl (hv_build (e := 3) (K := 1) (bytes := 8) [.int .i64 80,.int .i64 80,.int .i64 81] rfl (by kernel_rfl) (by kernel_rfl) (by kernel_rfl) (by kernel_rfl) (by kernel_rfl) (rs := ([80,80,81] : List Int).map intRow) rfl) ?_
 intro g4
 refine xl_know (φ := ¬ (slF (.slice (some ⟨g4,0,none⟩) 3 3) 1 (([80,80,81] : List Int).map intRow)).blk g) (fun _ _ _ _ hr => fun hb => hr.2.apart 0 1 (rowF (cutW w B).heap.size 3 1 (.slice (some ⟨g4,0,none⟩) 3 3) (([80,80,81] : List Int).map intRow)) (curF B g 137 (.slice A J.length cap) J.length) rfl rfl (by decide) rfl g (rowF_sblk hb) rfl) (fun hk5 => ?_)
 refine kWD 0 [0,2,5,6,7] [] 136 [.pointer (some ⟨g,0,none⟩),.slice (some ⟨g4,0,none⟩) 3 3] (some 8) 1 rfl rfl hlo (l1PickInt_c_K hBw hap (fun ww hw hf => (rowF_sl (hf _ m0))) hk5 (by simp)) ?_
 rintro ⟨y6,hy6⟩
 refine kWD 1 [0,2,5,8,9] [(9,.v (.pointer (some ⟨g,0,none⟩)))] 148 [.pointer (some ⟨g,0,none⟩)] (some 10) 0 rfl rfl hlo (l2Deep_c_K hBw hap) ?_
 rintro ⟨y7,hy7⟩
 refine kWD 1 [0,2,5,8,10,11] [(11,.v (.pointer (some ⟨g,0,none⟩)))] 148 [.pointer (some ⟨g,0,none⟩)] (some 12) 0 rfl rfl hlo (l2Deep_c_K hBw hap) ?_
 rintro ⟨y8,hy8⟩
 refine kWD 1 [0,2,5,8,10,12,13] [(13,.v (.pointer (some ⟨g,0,none⟩)))] 140 [.pointer (some ⟨g,0,none⟩)] (some 14) 0 rfl rfl hlo (l9Flags_c_K hBw hap) ?_
 rintro ⟨y9,hy9⟩
 refine kHD 1 [0,2,5,8,10,12,14,15] [(15,.v (.pointer (some ⟨g,0,none⟩)))] rfl (hv_build (e := 3) (K := 1) (bytes := 8) [.int .i64 0,.int .i64 1,.int .i64 64,.int .i64 65535] rfl (by kernel_rfl) (by kernel_rfl) (by kernel_rfl) (by kernel_rfl) (by kernel_rfl) (rs := ([0,1,64,65535] : List Int).map intRow) rfl) ?_
 intro g10
 refine xl_know (φ := ¬ (slF (.slice (some ⟨g10,0,none⟩) 4 4) 1 (([0,1,64,65535] : List Int).map intRow)).blk g) (fun _ _ _ _ hr => fun hb => hr.2.apart 0 1 (rowF (cutW w B).heap.size 3 1 (.slice (some ⟨g10,0,none⟩) 4 4) (([0,1,64,65535] : List Int).map intRow)) (curF B g 137 (.slice A J.length cap) J.length) rfl rfl (by decide) rfl g (rowF_sblk hb) rfl) (fun hk11 => ?_)
 refine kWD 0 [0,2,5,8,10,12,14,15,16] [] 136 [.pointer (some ⟨g,0,none⟩),.slice (some ⟨g10,0,none⟩) 4 4] (some 17) 1 rfl rfl hlo (l1PickInt_c_K hBw hap (fun ww hw hf => (rowF_sl (hf _ m0))) hk11 (by simp)) ?_
 rintro ⟨y12,hy12⟩
 refine kWD 1 [0,2,5,8,10,12,14,17,18] [(18,.v (.pointer (some ⟨g,0,none⟩)))] 149 [.pointer (some ⟨g,0,none⟩)] (some 19) 0 rfl rfl hlo (l8Options_c_K hBw hap) ?_
 rintro ⟨y13,hy13⟩
 refine kWS 2 [2,5,8,10,12,14,17,19,20,21] [(2,.p 0 0),(5,.v (.int .i64 y3)),(8,.v (.int .i64 y6)),(10,.v (.int .i64 y7)),(12,.v (.int .i64 y8)),(14,.v (.int .i64 y9)),(17,.v (.int .i64 y12)),(19,.v (.agg (optL y13).toArray)),(20,.v (.pointer (some ⟨g,0,none⟩))),(21,.v (.pointer (some ⟨g,0,none⟩)))] 133 [.pointer (some ⟨g,0,none⟩),.int .i64 7] (some 22) 0 rfl rfl hlo (l1Below_c_K hBw hap) ?_
 rintro ⟨y14,hy14⟩
 obtain ⟨hy140,hy141⟩ := hy14
 refine kWD 0 [2,5,8,10,12,14,17,19,20,22] [] 151 [.pointer (some ⟨g,0,none⟩),.int .i64 y14] (some 23) 0 rfl rfl hlo (xcm_curR fun ww hw hf => l1Bytes_c g J A cap y14 ww B (Nat.le_trans (by first | exact Nat.le_refl _ | exact Nat.le_of_eq (cutW_size hB).symm) hw) (hf (curF B g 137 (.slice A J.length cap) J.length) (by simp)) (hf _ m4) hap (by omega) (by omega)) ?_
 rintro ⟨⟨b15l,b15a,b15c⟩,hb15⟩
 dsimp only at hb15
 refine kOD 0 [2,5,8,10,12,14,17,19,23] [] (.string (bstr b15l)) rfl (fun _ _ _ ww hr => act_b2s (e := 5) b15l hr.1 rfl (by kernel_rfl) (by kernel_rfl) (by kernel_rfl) rfl (rowF_sl (hr.2.fact (rowF (cutW w B).heap.size 5 1 (.slice b15a b15l.length b15c) (b15l.map bR)) (by simp)).1)) ?_
 refine kOD 0 [2,5,8,10,12,14,17,19,24] [] (.agg #[.int .i64 y3,.int .i64 y6,.int .i64 y7,.int .i64 y8,.int .i64 y9,.int .i64 y12,.int .i64 y13.mss,.int .i64 y13.scale,.bool y13.sack,.bool y13.stamp,.int .i64 y13.val,.int .i64 y13.echo,.string (bstr b15l)]) rfl (fun _ _ _ ww hr => act_build [(0,.int .i64 y3),(1,.int .i64 y6),(2,.int .i64 y7),(3,.int .i64 y8),(4,.int .i64 y9),(5,.int .i64 y12),(6,.agg (optL y13).toArray),(7,.string (bstr b15l))] hr.1 rfl (by kernel_rfl) (by kernel_rfl) ww) ?_
 refine kEU [2] [(2,.p 0 0)] 0 ⟨50,[.int .i64 y3,.int .i64 y6,.int .i64 y7,.int .i64 y8,.int .i64 y9,.int .i64 y12,.int .i64 y13.mss,.int .i64 y13.scale,.bool y13.sack,.bool y13.stamp,.int .i64 y13.val,.int .i64 y13.echo,.string (bstr b15l)]⟩ ?_
 refine kR ?_
 exact ⟨[.agg #[.int .i64 y3,.int .i64 y6,.int .i64 y7,.int .i64 y8,.int .i64 y9,.int .i64 y12,.int .i64 y13.mss,.int .i64 y13.scale,.bool y13.sack,.bool y13.stamp,.int .i64 y13.val,.int .i64 y13.echo,.string (bstr b15l)]],by kernel_rfl,fun w' hb hf => ⟨⟨⟨y3,y6,y7,y8,y9,y12,y13,bstr b15l⟩,(by first | assumption | (dsimp only; assumption) | (show (bstr _).size ≤ 4096; rw [bstr_size]; (try simp only [List.length_replicate]); omega))⟩,rfl,hf (curF B g 137 (.slice A J.length cap) J.length) (by simp),frF_chgd (hf (frF w (fun b => b = g)) (by simp)) hb rfl rfl rfl⟩⟩
theorem l9Segment_c_K {g : Nat} {J : List Int} {A : Option Addr} {cap : Nat}  {w0 : World} {fs : List Fact} {B : Nat} (hB : B ≤ w0.heap.size) (hap : ¬ (slF (.slice A J.length cap) 1 (J.map bR)).blk g)  (hn : J.length ≤ 1048576 := by omega) (h1 : curF B g 137 (.slice A J.length cap) J.length ∈ fs := by simp) (h2 : slF (.slice A J.length cap) 1 (J.map bR) ∈ fs := by simp) : XCM Tryz.prog w0 fs (curF B g 137 (.slice A J.length cap) J.length).blk 142 [.pointer (some ⟨g, 0, none⟩)] (α := {y : Seg // y.body.size ≤ 4096}) (fun y => .agg (segL y.1).toArray) (fun _ => [curF B g 137 (.slice A J.length cap) J.length]) := xcm_cur fun w hw hf => l9Segment_c g J A cap  w B (Nat.le_trans hB hw) (hf _ h1) (hf _ h2) hap hn  
theorem l9Bent_c (g : Nat) (J : List Int) (A : Option Addr) (cap : Nat)  (w : World) (B : Nat) (hB : B ≤ w.heap.size) (hc : (curF B g 137 (.slice A J.length cap) J.length).p w) (hl : Sl w (.slice A J.length cap) 1 (J.map bR)) (hap : ¬ (slF (.slice A J.length cap) 1 (J.map bR)).blk g) (hn : J.length ≤ 1048576)  : Calls Tryz.prog 111 #[.pointer (some ⟨g, 0, none⟩)] w fun e w' => ∃ y : {y : Seg // y.body.size ≤ 4096}, e = .returned (.agg (segL y.1).toArray) ∧ (curF B g 137 (.slice A J.length cap) J.length).p w' ∧ Chgd (fun b => b = g) w w' := by
 have hq_code := Sl.capLe hl
 have hBw : B ≤ (cutW w B).heap.size := Nat.le_of_eq (cutW_size hB).symm
 have hlo : ∀ (ww : World) (b : Nat),(curF B g 137 (.slice A J.length cap) J.length).p ww → (curF B g 137 (.slice A J.length cap) J.length).blk b → (cutW w B).heap.size ≤ b := fun ww b h hb => Nat.le_trans (cutW_le w B) (cur_lo h hb)
 refine x_callsM (args := [.pointer (some ⟨g,0,none⟩)]) (fn := Tryz.f111) [curF B g 137 (.slice A J.length cap) J.length,slF (.slice A J.length cap) 1 (J.map bR),frF w (fun b => b = g)] B Tryz.func111 rfl Tryz.ntmps111 rfl hB (by simp only [List.mem_cons,List.not_mem_nil,or_false,forall_eq_or_imp,forall_eq]; exact ⟨hc,hl,frF_start w _⟩) (apart_cur hap rfl) ?_
 refine kQ ?_
 refine kEF [0,2] ⟨[(0,.v (.pointer (some ⟨g,0,none⟩))),(2,.p 0 0)],[⟨50,segZ⟩],[],[curF B g 137 (.slice A J.length cap) J.length,slF (.slice A J.length cap) 1 (J.map bR),frF w (fun b => b = g)]⟩ ?_
 refine kQ ?_
 refine kWD 1 [0,2,4] [(4,.v (.pointer (some ⟨g,0,none⟩)))] 142 [.pointer (some ⟨g,0,none⟩)] (some 5) 0 rfl rfl hlo (l9Segment_c_K hBw hap) ?_
 rintro ⟨y1,hy1⟩
 refine kEA [0,2,3] [(3,.p 1 0)] [⟨50,segL y1⟩] ?_
 refine kS ?_
 refine kQ ?_
 refine kWD 1 [0,2,3,6] [(6,.v (.pointer (some ⟨g,0,none⟩)))] 133 [.pointer (some ⟨g,0,none⟩),.int .i64 12] (some 7) 0 rfl rfl hlo (l1Below_c_K hBw hap) ?_
 rintro ⟨y2,hy2⟩
 obtain ⟨hy20,hy21⟩ := hy2
 refine kED [0,2,3,7] [] ?_
 refine xw_block ?_
 refine kQ ?_
 refine kED [0,2,3,7,8] [(8,.v (.bool (y2 == 0)))] ?_
 refine kC (y2 == 0) (fun h3 => ?_) (fun h3 => ?_)
 have h3p := eqT h3
 refine kG ?_
 refine kWD 1 [2,3,10] [(10,.v (.pointer (some ⟨g,0,none⟩)))] 143 [.pointer (some ⟨g,0,none⟩)] (some 11) 0 rfl rfl hlo (l2Word_c_K hBw hap) ?_
 rintro ⟨y4,hy4⟩
 refine kEU [2,3] [] 1 ⟨50,segL { y1 with src := y4 }⟩ ?_
 refine kQ ?_
 refine kEU [2] [(2,.p 0 0)] 0 ⟨50,segL { y1 with src := y4 }⟩ ?_
 refine kR ?_
 exact ⟨[.agg (segL { y1 with src := y4 }).toArray],by kernel_rfl,fun w' hb hf => ⟨⟨{ y1 with src := y4 },(by first | assumption | (dsimp only; assumption) | (show (bstr _).size ≤ 4096; rw [bstr_size]; (try simp only [List.length_replicate]); omega))⟩,rfl,hf (curF B g 137 (.slice A J.length cap) J.length) (by simp),frF_chgd (hf (frF w (fun b => b = g)) (by simp)) hb rfl rfl rfl⟩⟩
 have h3p := eqF h3
 refine kQ ?_
 refine kED [0,2,3,7,13] [(13,.v (.bool (y2 == 1)))] ?_
 refine kC (y2 == 1) (fun h5 => ?_) (fun h5 => ?_)
 have h5p := eqT h5
 refine kG ?_
 refine kWD 1 [2,3,15] [(15,.v (.pointer (some ⟨g,0,none⟩)))] 143 [.pointer (some ⟨g,0,none⟩)] (some 16) 0 rfl rfl hlo (l2Word_c_K hBw hap) ?_
 rintro ⟨y6,hy6⟩
 refine kEU [2,3] [] 1 ⟨50,segL { y1 with seq := y6 }⟩ ?_
 refine kQ ?_
 refine kEU [2] [(2,.p 0 0)] 0 ⟨50,segL { y1 with seq := y6 }⟩ ?_
 refine kR ?_
 exact ⟨[.agg (segL { y1 with seq := y6 }).toArray],by kernel_rfl,fun w' hb hf => ⟨⟨{ y1 with seq := y6 },(by first | assumption | (dsimp only; assumption) | (show (bstr _).size ≤ 4096; rw [bstr_size]; (try simp only [List.length_replicate]); omega))⟩,rfl,hf (curF B g 137 (.slice A J.length cap) J.length) (by simp),frF_chgd (hf (frF w (fun b => b = g)) (by simp)) hb rfl rfl rfl⟩⟩
 have h5p := eqF h5
 refine kQ ?_
 refine kED [0,2,3,7,18] [(18,.v (.bool (y2 == 2)))] ?_
 refine kC (y2 == 2) (fun h7 => ?_) (fun h7 => ?_)
 have h7p := eqT h7
 refine kG ?_
 refine kHD 1 [2,3,20] [(20,.v (.pointer (some ⟨g,0,none⟩)))] rfl (hv_build (e := 3) (K := 1) (bytes := 8) [.int .i64 63,.int .i64 64,.int .i64 (-1)] rfl (by kernel_rfl) (by kernel_rfl) (by kernel_rfl) (by kernel_rfl) (by kernel_rfl) (rs := ([63,64,(-1)] : List Int).map intRow) rfl) ?_
 intro g8
 refine xl_know (φ := ¬ (slF (.slice (some ⟨g8,0,none⟩) 3 3) 1 (([63,64,(-1)] : List Int).map intRow)).blk g) (fun _ _ _ _ hr => fun hb => hr.2.apart 0 1 (rowF (cutW w B).heap.size 3 1 (.slice (some ⟨g8,0,none⟩) 3 3) (([63,64,(-1)] : List Int).map intRow)) (curF B g 137 (.slice A J.length cap) J.length) rfl rfl (by decide) rfl g (rowF_sblk hb) rfl) (fun hk9 => ?_)
 refine kWD 0 [2,3,20,21] [] 136 [.pointer (some ⟨g,0,none⟩),.slice (some ⟨g8,0,none⟩) 3 3] (some 22) 1 rfl rfl hlo (l1PickInt_c_K hBw hap (fun ww hw hf => (rowF_sl (hf _ m0))) hk9 (by simp)) ?_
 rintro ⟨y10,hy10⟩
 refine kEU [2,3] [] 1 ⟨50,segL { y1 with flags := y10 }⟩ ?_
 refine kQ ?_
 refine kEF [2] ⟨[(2,.p 0 0)],[⟨50,segL { y1 with flags := y10 }⟩,⟨50,segL { y1 with flags := y10 }⟩],[],[curF B g 137 (.slice A J.length cap) J.length,rowF (cutW w B).heap.size 3 1 (.slice (some ⟨g8,0,none⟩) 3 3) (([63,64,(-1)] : List Int).map intRow),slF (.slice A J.length cap) 1 (J.map bR),frF w (fun b => b = g)]⟩ ?_
 refine kR ?_
 exact ⟨[.agg (segL { y1 with flags := y10 }).toArray],by kernel_rfl,fun w' hb hf => ⟨⟨{ y1 with flags := y10 },(by first | assumption | (dsimp only; assumption) | (show (bstr _).size ≤ 4096; rw [bstr_size]; (try simp only [List.length_replicate]); omega))⟩,rfl,hf (curF B g 137 (.slice A J.length cap) J.length) (by simp),frF_chgd (hf (frF w (fun b => b = g)) (by simp)) hb rfl rfl rfl⟩⟩
 have h7p := eqF h7
 refine kQ ?_
 refine kED [0,2,3,7,24] [(24,.v (.bool (y2 == 3)))] ?_
 refine kC (y2 == 3) (fun h11 => ?_) (fun h11 => ?_)
 have h11p := eqT h11
 refine kG ?_
 refine kWD 1 [2,3,26] [(26,.v (.pointer (some ⟨g,0,none⟩)))] 143 [.pointer (some ⟨g,0,none⟩)] (some 27) 0 rfl rfl hlo (l2Word_c_K hBw hap) ?_
 rintro ⟨y12,hy12⟩
 refine kEU [2,3] [] 1 ⟨50,segL { y1 with window := y12 }⟩ ?_
 refine kQ ?_
 refine kEF [2] ⟨[(2,.p 0 0)],[⟨50,segL { y1 with window := y12 }⟩,⟨50,segL { y1 with window := y12 }⟩],[],[curF B g 137 (.slice A J.length cap) J.length,slF (.slice A J.length cap) 1 (J.map bR),frF w (fun b => b = g)]⟩ ?_
 refine kR ?_
 exact ⟨[.agg (segL { y1 with window := y12 }).toArray],by kernel_rfl,fun w' hb hf => ⟨⟨{ y1 with window := y12 },(by first | assumption | (dsimp only; assumption) | (show (bstr _).size ≤ 4096; rw [bstr_size]; (try simp only [List.length_replicate]); omega))⟩,rfl,hf (curF B g 137 (.slice A J.length cap) J.length) (by simp),frF_chgd (hf (frF w (fun b => b = g)) (by simp)) hb rfl rfl rfl⟩⟩
 have h11p := eqF h11
 refine kQ ?_
 refine kED [0,2,3,7,29] [(29,.v (.bool (y2 == 4)))] ?_
 refine kC (y2 == 4) (fun h13 => ?_) (fun h13 => ?_)
 have h13p := eqT h13
 refine kG ?_
 refine kWD 1 [2,3,31] [(31,.v (.pointer (some ⟨g,0,none⟩)))] 137 [.pointer (some ⟨g,0,none⟩)] (some 32) 0 rfl rfl hlo (l8Bent_c_K hBw hap) ?_
 rintro ⟨y14,hy14⟩
 refine kEF [2,3] ⟨[(2,.p 0 0),(3,.p 1 0)],[⟨50,segZ⟩,⟨50,segL { y1 with o := y14 }⟩],[],[curF B g 137 (.slice A J.length cap) J.length,slF (.slice A J.length cap) 1 (J.map bR),frF w (fun b => b = g)]⟩ ?_
 refine kQ ?_
 refine kEU [2] [(2,.p 0 0)] 0 ⟨50,segL { y1 with o := y14 }⟩ ?_
 refine kR ?_
 exact ⟨[.agg (segL { y1 with o := y14 }).toArray],by kernel_rfl,fun w' hb hf => ⟨⟨{ y1 with o := y14 },(by first | assumption | (dsimp only; assumption) | (show (bstr _).size ≤ 4096; rw [bstr_size]; (try simp only [List.length_replicate]); omega))⟩,rfl,hf (curF B g 137 (.slice A J.length cap) J.length) (by simp),frF_chgd (hf (frF w (fun b => b = g)) (by simp)) hb rfl rfl rfl⟩⟩
 have h13p := eqF h13
 refine kQ ?_
 refine kED [0,2,3,34] [(34,.v (.bool (y2 == 5)))] ?_
 refine kC (y2 == 5) (fun h15 => ?_) (fun h15 => ?_)
 have h15p := eqT h15
 refine kG ?_
 refine kWS 1 [2,3,36] [(2,.p 0 0),(3,.p 1 0),(36,.v (.pointer (some ⟨g,0,none⟩)))] 133 [.pointer (some ⟨g,0,none⟩),.int .i64 3] (some 37) 0 rfl rfl hlo (l1Below_c_K hBw hap) ?_
 rintro ⟨y16,hy16⟩
 obtain ⟨hy160,hy161⟩ := hy16
 refine kCD 1 [2,3,38] [(38,.v (.int .i64 (IntKind.i64.wrap (1419 + y16))))] 144 [.int .i64 (IntKind.i64.wrap (1419 + y16))] (some 39) rfl (xc_b fun ww hf => l5Long_c (IntKind.i64.wrap (1419 + y16)) ww (by first | omega | (rw [wrap_id (by omega) (by omega)]; omega))) ?_
 intro _
 refine kRB 2 [2,3] [(2,.p 0 0),(3,.p 1 0)] [⟨50,segZ⟩,⟨50,segL { y1 with body := bstr (List.replicate ((IntKind.i64.wrap (1419 + y16))).toNat 0) }⟩] ?_
 refine xl_eq (st' := ⟨[(2,.p 0 0),(3,.p 1 0)],[⟨50,segZ⟩,⟨50,segL { y1 with body := bstr (List.replicate ((1419 + y16)).toNat 0) }⟩],[],[curF B g 137 (.slice A J.length cap) J.length,slF (.slice A J.length cap) 1 (J.map bR),frF w (fun b => b = g)]⟩) (by rw [show (IntKind.i64.wrap (1419 + y16)) = (1419 + y16) from wrap_id (by omega) (by omega)] <;> rfl) ?_
 refine kED [2,3] [] ?_
 refine kQ ?_
 refine kEU [2] [(2,.p 0 0)] 0 ⟨50,segL { y1 with body := bstr (List.replicate ((1419 + y16)).toNat 0) }⟩ ?_
 refine kR ?_
 exact ⟨[.agg (segL { y1 with body := bstr (List.replicate ((1419 + y16)).toNat 0) }).toArray],by kernel_rfl,fun w' hb hf => ⟨⟨{ y1 with body := bstr (List.replicate ((1419 + y16)).toNat 0) },(by first | assumption | (dsimp only; assumption) | (show (bstr _).size ≤ 4096; rw [bstr_size]; (try simp only [List.length_replicate]); omega))⟩,rfl,hf (curF B g 137 (.slice A J.length cap) J.length) (by simp),frF_chgd (hf (frF w (fun b => b = g)) (by simp)) hb rfl rfl rfl⟩⟩
 have h15p := eqF h15
 refine kK ?_
 refine kQ ?_
 refine kEF [2] ⟨[(2,.p 0 0)],[⟨50,segL y1⟩,⟨50,segL y1⟩],[],[curF B g 137 (.slice A J.length cap) J.length,slF (.slice A J.length cap) 1 (J.map bR),frF w (fun b => b = g)]⟩ ?_
 refine kR ?_
 exact ⟨[.agg (segL y1).toArray],by kernel_rfl,fun w' hb hf => ⟨⟨y1,(by first | assumption | (dsimp only; assumption) | (show (bstr _).size ≤ 4096; rw [bstr_size]; (try simp only [List.length_replicate]); omega))⟩,rfl,hf (curF B g 137 (.slice A J.length cap) J.length) (by simp),frF_chgd (hf (frF w (fun b => b = g)) (by simp)) hb rfl rfl rfl⟩⟩
theorem l9Bent_c_K {g : Nat} {J : List Int} {A : Option Addr} {cap : Nat}  {w0 : World} {fs : List Fact} {B : Nat} (hB : B ≤ w0.heap.size) (hap : ¬ (slF (.slice A J.length cap) 1 (J.map bR)).blk g)  (hn : J.length ≤ 1048576 := by omega) (h1 : curF B g 137 (.slice A J.length cap) J.length ∈ fs := by simp) (h2 : slF (.slice A J.length cap) 1 (J.map bR) ∈ fs := by simp) : XCM Tryz.prog w0 fs (curF B g 137 (.slice A J.length cap) J.length).blk 111 [.pointer (some ⟨g, 0, none⟩)] (α := {y : Seg // y.body.size ≤ 4096}) (fun y => .agg (segL y.1).toArray) (fun _ => [curF B g 137 (.slice A J.length cap) J.length]) := xcm_cur fun w hw hf => l9Bent_c g J A cap  w B (Nat.le_trans hB hw) (hf _ h1) (hf _ h2) hap hn  
theorem l1Pick_c (g : Nat) (J : List Int) (A : Option Addr) (cap : Nat) (list : List ByteArray) (listV : Value) (w : World) (B : Nat) (hB : B ≤ w.heap.size) (hc : (curF B g 137 (.slice A J.length cap) J.length).p w) (hl : Sl w (.slice A J.length cap) 1 (J.map bR)) (hap : ¬ (slF (.slice A J.length cap) 1 (J.map bR)).blk g) (hn : J.length ≤ 1048576) (hl_listV : Sl w listV 1 (list.map strRow)) (hap2 : ¬ (slF listV 1 (list.map strRow)).blk g) (hne : 0 < list.length) : Calls Tryz.prog 158 #[.pointer (some ⟨g, 0, none⟩), listV] w fun e w' => ∃ y : {y : ByteArray // y ∈ list}, e = .returned (.string y.1) ∧ (curF B g 137 (.slice A J.length cap) J.length).p w' ∧ Chgd (fun b => b = g) w w' := by
 have hq_code := Sl.capLe hl
 have hBw : B ≤ (cutW w B).heap.size := Nat.le_of_eq (cutW_size hB).symm
 have hlo : ∀ (ww : World) (b : Nat),(curF B g 137 (.slice A J.length cap) J.length).p ww → (curF B g 137 (.slice A J.length cap) J.length).blk b → (cutW w B).heap.size ≤ b := fun ww b h hb => Nat.le_trans (cutW_le w B) (cur_lo h hb)
 obtain ⟨Al,Cl,hvl⟩ := hl_listV.form
 rw [List.length_map] at hvl; subst hvl
 have hnl := hl_listV.len; rw [List.length_map] at hnl
 have hql := Sl.capLe hl_listV
 refine x_callsM (args := [.pointer (some ⟨g,0,none⟩),.slice Al list.length Cl]) (fn := Tryz.f158) [curF B g 137 (.slice A J.length cap) J.length,slF (.slice A J.length cap) 1 (J.map bR),frF w (fun b => b = g),slF (.slice Al list.length Cl) 1 (list.map strRow)] B Tryz.func158 rfl Tryz.ntmps158 rfl hB (by simp only [List.mem_cons,List.not_mem_nil,or_false,forall_eq_or_imp,forall_eq]; exact ⟨hc,hl,frF_start w _,hl_listV⟩) (apart_cur2 hap rfl hap2 rfl) ?_
 refine kQ ?_
 refine kEF [0,1] ⟨[(0,.v (.pointer (some ⟨g,0,none⟩))),(1,.v (.slice Al list.length Cl))],[],[],[curF B g 137 (.slice A J.length cap) J.length,slF (.slice A J.length cap) 1 (J.map bR),frF w (fun b => b = g),slF (.slice Al list.length Cl) 1 (list.map strRow)]⟩ ?_
 refine kQ ?_
 refine kWS 4 [5,6,8] [(5,.v (.slice Al list.length Cl)),(6,.v (.pointer (some ⟨g,0,none⟩))),(8,.v (.int .i64 ((list.length : Nat) : Int)))] 133 [.pointer (some ⟨g,0,none⟩),.int .i64 ((list.length : Nat) : Int)] (some 9) 0 rfl rfl hlo (l1Below_c_K hBw hap) ?_
 rintro ⟨y1,hy1⟩
 obtain ⟨hy10,hy11⟩ := hy1
 obtain ⟨j2,hj2⟩ : ∃ j : Nat,y1 = (j : Int) := ⟨y1.toNat,by omega⟩
 subst hj2
 have hlt : j2 < list.length := by omega
 obtain ⟨z,hz⟩ : ∃ z,list[j2]? = some z := ⟨_,List.getElem?_eq_getElem hlt⟩
 refine xl_indexD (kd := .i64) (T := 156) (e := 9) (K := 1) 0 [5,9] [] j2 [.string z] (slF (.slice Al list.length Cl) 1 (list.map strRow)) (by kernel_rfl) rfl (by kernel_rfl) rfl rfl (by kernel_rfl) (by kernel_rfl) (by kernel_rfl) (by kernel_rfl) hlt (by simp) (fun w h => h) (fun b h => h) (by simp only [List.getElem?_map,hz]; rfl) ?_
 refine kES [4] [(4,.v (.string z))] ?_
 refine kR ?_
 exact ⟨[.string z],by kernel_rfl,fun w' hb hf => ⟨⟨z,List.mem_of_getElem? hz⟩,rfl,hf (curF B g 137 (.slice A J.length cap) J.length) (by simp),frF_chgd (hf (frF w (fun b => b = g)) (by simp)) hb rfl rfl rfl⟩⟩
theorem l1Pick_c_K {g : Nat} {J : List Int} {A : Option Addr} {cap : Nat} {list : List ByteArray} {listV : Value} {w0 : World} {fs : List Fact} {B : Nat} (hB : B ≤ w0.heap.size) (hap : ¬ (slF (.slice A J.length cap) 1 (J.map bR)).blk g) (hs0 : ∀ w : World, w0.heap.size ≤ w.heap.size → (∀ f ∈ fs, f.p w) → Sl w listV 1 (list.map strRow)) (hq0 : ¬ (slF listV 1 (list.map strRow)).blk g) (hne : 0 < list.length) (hn : J.length ≤ 1048576 := by omega) (h1 : curF B g 137 (.slice A J.length cap) J.length ∈ fs := by simp) (h2 : slF (.slice A J.length cap) 1 (J.map bR) ∈ fs := by simp) : XCM Tryz.prog w0 fs (curF B g 137 (.slice A J.length cap) J.length).blk 158 [.pointer (some ⟨g, 0, none⟩), listV] (α := {y : ByteArray // y ∈ list}) (fun y => .string y.1) (fun _ => [curF B g 137 (.slice A J.length cap) J.length]) := xcm_cur fun w hw hf => l1Pick_c g J A cap list listV w B (Nat.le_trans hB hw) (hf _ h1) (hf _ h2) hap hn (hs0 w hw hf) hq0 hne
theorem l18Stream_c (g : Nat) (J : List Int) (A : Option Addr) (cap : Nat) (r : Rcv) (r_heldV : Value) (w : World) (B : Nat) (hB : B ≤ w.heap.size) (hc : (curF B g 137 (.slice A J.length cap) J.length).p w) (hl : Sl w (.slice A J.length cap) 1 (J.map bR)) (hap : ¬ (slF (.slice A J.length cap) 1 (J.map bR)).blk g) (hn : J.length ≤ 1048576)  : Calls Tryz.prog 139 #[.pointer (some ⟨g, 0, none⟩), .agg (rcvL r r_heldV).toArray] w fun e w' => ∃ y : {y : Int × ByteArray × Bool // y.2.1.size ≤ 4096}, e = .returned (.tuple #[.int .i64 y.1.1, .string y.1.2.1, .bool y.1.2.2]) ∧ (curF B g 137 (.slice A J.length cap) J.length).p w' ∧ Chgd (fun b => b = g) w w' := by
 have hq_code := Sl.capLe hl
 have hBw : B ≤ (cutW w B).heap.size := Nat.le_of_eq (cutW_size hB).symm
 have hlo : ∀ (ww : World) (b : Nat),(curF B g 137 (.slice A J.length cap) J.length).p ww → (curF B g 137 (.slice A J.length cap) J.length).blk b → (cutW w B).heap.size ≤ b := fun ww b h hb => Nat.le_trans (cutW_le w B) (cur_lo h hb)
 refine x_callsM (args := [.pointer (some ⟨g,0,none⟩),.agg (rcvL r r_heldV).toArray]) (fn := Tryz.f139) [curF B g 137 (.slice A J.length cap) J.length,slF (.slice A J.length cap) 1 (J.map bR),frF w (fun b => b = g)] B Tryz.func139 rfl Tryz.ntmps139 rfl hB (by simp only [List.mem_cons,List.not_mem_nil,or_false,forall_eq_or_imp,forall_eq]; exact ⟨hc,hl,frF_start w _⟩) (apart_cur hap rfl) ?_
 refine kQ ?_
 refine kEF [0,3] ⟨[(0,.v (.pointer (some ⟨g,0,none⟩))),(3,.p 0 0)],[⟨41,rcvL r r_heldV⟩],[],[curF B g 137 (.slice A J.length cap) J.length,slF (.slice A J.length cap) 1 (J.map bR),frF w (fun b => b = g)]⟩ ?_
 refine kQ ?_
 refine kWD 1 [0,3,11] [(11,.v (.pointer (some ⟨g,0,none⟩)))] 133 [.pointer (some ⟨g,0,none⟩),.int .i64 40] (some 12) 0 rfl rfl hlo (l1Below_c_K hBw hap) ?_
 rintro ⟨y1,hy1⟩
 obtain ⟨hy10,hy11⟩ := hy1
 refine kED [0,3,7] [(7,.v (.int .i64 (IntKind.i64.wrap (y1 - 6))))] ?_
 refine kQ ?_
 refine kWD 1 [0,3,7,14] [(14,.v (.pointer (some ⟨g,0,none⟩)))] 133 [.pointer (some ⟨g,0,none⟩),.int .i64 9] (some 15) 0 rfl rfl hlo (l1Below_c_K hBw hap) ?_
 rintro ⟨y2,hy2⟩
 obtain ⟨hy20,hy21⟩ := hy2
 refine kED [0,3,7,8] [(8,.v (.int .i64 y2))] ?_
 refine kQ ?_
 refine kHD 0 [0,3,7,8] [] rfl (hv_build (e := 5) (K := 1) (bytes := 1) [] rfl (by kernel_rfl) (by kernel_rfl) (by kernel_rfl) (by kernel_rfl) (by kernel_rfl) (rs := ([] : List Int).map bR) rfl) ?_
 intro g3
 refine kED [0,3,7,8,9] [(9,.v (.slice (some ⟨g3,0,none⟩) 0 0))] ?_
 refine kS ?_
 refine kQ ?_
 refine kED [0,3,7,8,9,10] [(10,.v (.int .i64 0))] ?_
 refine xw_block ?_
 refine xw_loopW (α := {x : Nat × List Int × Option Addr × Nat // (fun (i : Nat) (bs : List Int) (A1 : Option Addr) (c1 : Nat) => (i : Int) ≤ y2 ∧ bs.length = i) x.1 x.2.1 x.2.2.1 x.2.2.2}) (fun x => (fun (i : Nat) (bs : List Int) (A1 : Option Addr) (c1 : Nat) => (⟨[(0,.v (.pointer (some ⟨g,0,none⟩))),(3,.p 0 0),(7,.v (.int .i64 (IntKind.i64.wrap (y1 - 6)))),(8,.v (.int .i64 y2)),(9,.v (.slice A1 bs.length c1)),(10,.v (.int .i64 (i : Int)))],[⟨41,rcvL r r_heldV⟩],[],[rowF (cutW w B).heap.size 5 1 (.slice A1 bs.length c1) (bs.map bR),curF B g 137 (.slice A J.length cap) J.length,slF (.slice A J.length cap) 1 (J.map bR),frF w (fun b => b = g)]⟩ : St)) x.1.1 x.1.2.1 x.1.2.2.1 x.1.2.2.2) (fun x => (fun (i : Nat) (bs : List Int) (A1 : Option Addr) (c1 : Nat) => (y2).toNat - i) x.1.1 x.1.2.1 x.1.2.2.1 x.1.2.2.2) ⟨(0,([] : List Int),(some ⟨g3,0,none⟩),0),⟨(by omega),rfl⟩⟩ (kPk [0,1,2,3] <| kF 1 0 [0,3,7,8,9,10]) ?_
 rintro ⟨⟨i,bs,A1,c1⟩,hi,hbl⟩
 try dsimp only
 try dsimp only at hi hbl
 refine kS ?_
 refine kQ ?_
 refine kED [0,3,7,8,9,10,19] [(19,.v (.bool (decide ((i : Int) < y2))))] ?_
 refine kC (decide ((i : Int) < y2)) (fun h4 => ?_) (fun h4 => ?_)
 have h4p := of_decide_eq_true h4
 have hlt :  (i : Int) < y2 := of_decide_eq_true h4
 refine kK ?_
 refine kS ?_
 refine xw_block ?_
 refine kG ?_
 refine kCD 7 [0,3,7,8,9,10,22,28] [(22,.v (.slice A1 bs.length c1)),(28,.v (.int .i64 (IntKind.i64.wrap ((IntKind.i64.wrap (r.next + (IntKind.i64.wrap (y1 - 6)))) + (i : Int)))))] 122 [.int .i64 (IntKind.i64.wrap ((IntKind.i64.wrap (r.next + (IntKind.i64.wrap (y1 - 6)))) + (i : Int)))] (some 29) rfl (xc_s fun ww hf => sRest_c (IntKind.i64.wrap ((IntKind.i64.wrap (r.next + (IntKind.i64.wrap (y1 - 6)))) + (i : Int))) ww ) ?_
 intro _
 refine kOD 0 [0,3,7,8,9,10,22,29] [] (.int .i64 (Int.tmod ((IntKind.i64.wrap ((IntKind.i64.wrap (r.next + (IntKind.i64.wrap (y1 - 6)))) + (i : Int))) % 4294967296) 26)) rfl (fun _ _ _ ww hr => act_bin hr.1 rfl (by kernel_rfl) (by kernel_rfl) (rem_run (by first | decide | omega) ww)) ?_
 refine kHS 2 [0,3,7,8,9,10,22,32] [(0,.v (.pointer (some ⟨g,0,none⟩))),(3,.p 0 0),(7,.v (.int .i64 (IntKind.i64.wrap (y1 - 6)))),(8,.v (.int .i64 y2)),(9,.v (.slice A1 bs.length c1)),(10,.v (.int .i64 (i : Int))),(22,.v (.slice A1 bs.length c1)),(32,.v (.int .u8 (IntKind.u8.wrap (IntKind.i64.wrap (97 + (Int.tmod ((IntKind.i64.wrap ((IntKind.i64.wrap (r.next + (IntKind.i64.wrap (y1 - 6)))) + (i : Int))) % 4294967296) 26))))))] rfl (hv_build (e := 5) (K := 1) (bytes := 1) [.int .u8 (IntKind.u8.wrap (IntKind.i64.wrap (97 + (Int.tmod ((IntKind.i64.wrap ((IntKind.i64.wrap (r.next + (IntKind.i64.wrap (y1 - 6)))) + (i : Int))) % 4294967296) 26))))] rfl (by kernel_rfl) (by kernel_rfl) (by kernel_rfl) (by kernel_rfl) (by kernel_rfl) (rs := ([IntKind.u8.wrap (IntKind.i64.wrap (97 + (Int.tmod ((IntKind.i64.wrap ((IntKind.i64.wrap (r.next + (IntKind.i64.wrap (y1 - 6)))) + (i : Int))) % 4294967296) 26)))] : List Int).map bR) rfl) ?_
 intro g5
 refine kHD 0 [0,3,7,8,9,10,22,33] [] rfl (hv_append (e := 5) (K := 1) (bytes := 1) (i := 1) (q := (bs ++ ([IntKind.u8.wrap (IntKind.i64.wrap (97 + (Int.tmod ((IntKind.i64.wrap ((IntKind.i64.wrap (r.next + (IntKind.i64.wrap (y1 - 6)))) + (i : Int))) % 4294967296) 26)))] : List Int)).length) (new := ([IntKind.u8.wrap (IntKind.i64.wrap (97 + (Int.tmod ((IntKind.i64.wrap ((IntKind.i64.wrap (r.next + (IntKind.i64.wrap (y1 - 6)))) + (i : Int))) % 4294967296) 26)))] : List Int).map bR) (rs' := (bs ++ ([IntKind.u8.wrap (IntKind.i64.wrap (97 + (Int.tmod ((IntKind.i64.wrap ((IntKind.i64.wrap (r.next + (IntKind.i64.wrap (y1 - 6)))) + (i : Int))) % 4294967296) 26)))] : List Int)).map bR) rfl rfl rfl rfl (by kernel_rfl) (by kernel_rfl) (by kernel_rfl) rfl (by simp) (by rw [List.map_append]) (by simp) (fun ww hf => (rowF_sl (hf (rowF (cutW w B).heap.size 5 1 (.slice (some ⟨g5,0,none⟩) 1 1) (([IntKind.u8.wrap (IntKind.i64.wrap (97 + (Int.tmod ((IntKind.i64.wrap ((IntKind.i64.wrap (r.next + (IntKind.i64.wrap (y1 - 6)))) + (i : Int))) % 4294967296) 26)))] : List Int).map bR)) (by simp)))) (by intro r hr; obtain ⟨x,hx,rfl⟩ := List.mem_map.1 hr; exact ⟨rfl,by simp [bR,Value.oneCell']⟩) (by (try simp only [List.length_map,List.length_append,List.length_cons,List.length_nil,List.length_take,List.length_drop,maxLen]); omega) (by (try simp only [List.length_map,List.length_append,List.length_cons,List.length_nil,List.length_take,List.length_drop,maxLen]); omega)) ?_
 rintro ⟨v6a,v6c⟩
 refine kED [0,3,7,8,9,10] [(9,.v (.slice v6a ((bs ++ ([IntKind.u8.wrap (IntKind.i64.wrap (97 + (Int.tmod ((IntKind.i64.wrap ((IntKind.i64.wrap (r.next + (IntKind.i64.wrap (y1 - 6)))) + (i : Int))) % 4294967296) 26)))] : List Int)).length) v6c))] ?_
 refine kG ?_
 refine kRD 3 [0,3,7,8,9,10] [(10,.v (.int .i64 (IntKind.i64.wrap ((i : Int) + 1))))] ?_
 refine xl_nv [0,3,7,8,9,10] [(10,.v (.int .i64 (IntKind.i64.wrap ((i : Int) + 1))))] [(10,.v (.int .i64 ((i : Int) + 1)))] (by rw [show (IntKind.i64.wrap ((i : Int) + 1)) = ((i : Int) + 1) from wrap_id (by omega) (by omega)]) (by kernel_rfl) ?_
 refine kED [0,3,7,8,9,10] [] ?_
 exact ⟨⟨(i + 1,(bs ++ ([IntKind.u8.wrap (IntKind.i64.wrap (97 + (Int.tmod ((IntKind.i64.wrap ((IntKind.i64.wrap (r.next + (IntKind.i64.wrap (y1 - 6)))) + (i : Int))) % 4294967296) 26)))] : List Int)),v6a,v6c),⟨(by omega),(by simp [hbl])⟩⟩,kPk [0,2,3,4] <| kF 1 0 [0,3,7,8,9,10],by show (fun (i : Nat) (bs : List Int) (A1 : Option Addr) (c1 : Nat) => (y2).toNat - i) (i + 1) (bs ++ ([IntKind.u8.wrap (IntKind.i64.wrap (97 + (Int.tmod ((IntKind.i64.wrap ((IntKind.i64.wrap (r.next + (IntKind.i64.wrap (y1 - 6)))) + (i : Int))) % 4294967296) 26)))] : List Int)) v6a v6c < (y2).toNat - i; (dsimp only; omega)⟩
 have h4p := of_decide_eq_false h4
 have hge : ¬ (i : Int) < y2 := of_decide_eq_false h4
 refine xw_exit ?_
 refine kS ?_
 refine kQ ?_
 refine kWD 1 [0,3,7,8,9,35] [(35,.v (.pointer (some ⟨g,0,none⟩)))] 110 [.pointer (some ⟨g,0,none⟩),.int .i64 6] (some 36) 1 rfl rfl hlo (l1Once_c_K hBw hap) ?_
 rintro ⟨y7,hy7⟩
 refine kED [0,3,7,8,9,36] [] ?_
 refine kC (y7) (fun h8 => ?_) (fun h8 => ?_)
 refine kG ?_
 refine kWS 2 [0,3,7,9,37,38] [(0,.v (.pointer (some ⟨g,0,none⟩))),(3,.p 0 0),(7,.v (.int .i64 (IntKind.i64.wrap (y1 - 6)))),(9,.v (.slice A1 bs.length c1)),(37,.v (.pointer (some ⟨g,0,none⟩))),(38,.v (.int .i64 y2))] 151 [.pointer (some ⟨g,0,none⟩),.int .i64 y2] (some 39) 0 rfl rfl hlo (xcm_curR fun ww hw hf => l1Bytes_c g J A cap y2 ww B (Nat.le_trans (by first | exact Nat.le_refl _ | exact Nat.le_of_eq (cutW_size hB).symm) hw) (hf (curF B g 137 (.slice A J.length cap) J.length) (by simp)) (hf _ m2) hap (by omega) (by omega)) ?_
 rintro ⟨⟨b9l,b9a,b9c⟩,hb9⟩
 dsimp only at hb9
 refine kED [0,3,7,9] [(9,.v (.slice b9a b9l.length b9c))] ?_
 refine kS ?_
 refine xe_region0 [] (by kernel_rfl) (fun ρ σ => ?_)
 refine kTS [0,1,2,4,6] [46,44,42,41] 6 [(46,.v (.pointer (some ⟨g,0,none⟩))),(44,.v (.slice b9a b9l.length b9c)),(42,.v (.int .i64 (IntKind.i64.wrap (y1 - 6)))),(41,.v (.int .i64 r.next))] ?_
 refine kA [3,5] ⟨?_,?_⟩
 refine kSC 3 120 [.int .i64 r.next,.int .i64 (IntKind.i64.wrap (y1 - 6))] (some 43) rfl (xc_s fun ww hf => sSeqAdd_c r.next (IntKind.i64.wrap (y1 - 6)) ww ) ?_
 intro _
 refine kA [5,7] ⟨?_,?_⟩
 refine kSR 5 (.string (bstr b9l)) rfl (fun _ _ ww hr => act_b2s (e := 5) b9l hr.1 rfl (by kernel_rfl) (by kernel_rfl) (by kernel_rfl) rfl (rowF_sl (hr.2.fact (rowF (cutW w B).heap.size 5 1 (.slice b9a b9l.length b9c) (b9l.map bR)) (by simp)).1)) ?_
 refine kA [7] ?_
 refine kSW 7 110 [.pointer (some ⟨g,0,none⟩),.int .i64 6] (some 47) 1 rfl rfl hlo (under_t under_nil) (l1Once_c_K hBw hap) ?_
 rintro ⟨y10,hy10⟩
 refine kTS [8,9,10] [6,5,4] 0 [(6,.v (.bool y10)),(5,.v (.string (bstr b9l))),(4,.v (.int .i64 (sA r.next (IntKind.i64.wrap (y1 - 6)))))] ?_
 refine kZ ?_
 refine kR ?_
 exact ⟨[.int .i64 (sA r.next (IntKind.i64.wrap (y1 - 6))),.string (bstr b9l),.bool y10],by kernel_rfl,fun w' hb hf => ⟨⟨(sA r.next (IntKind.i64.wrap (y1 - 6)),bstr b9l,y10),(by show (bstr _).size ≤ 4096; rw [bstr_size]; omega)⟩,rfl,hf (curF B g 137 (.slice A J.length cap) J.length) (by simp),frF_chgd (hf (frF w (fun b => b = g)) (by simp)) hb rfl rfl rfl⟩⟩
 refine kSW 7 110 [.pointer (some ⟨g,0,none⟩),.int .i64 6] (some 47) 1 rfl rfl hlo (under_t under_nil) (l1Once_c_K hBw hap) ?_
 rintro ⟨y11,hy11⟩
 refine kTD [8] [4,47,44] 3 [(4,.v (.int .i64 (sA r.next (IntKind.i64.wrap (y1 - 6))))),(47,.v (.bool y11))] ?_
 refine kA [5] ?_
 refine kSR 5 (.string (bstr b9l)) rfl (fun _ _ ww hr => act_b2s (e := 5) b9l hr.1 rfl (by kernel_rfl) (by kernel_rfl) (by kernel_rfl) rfl (rowF_sl (hr.2.fact (rowF (cutW w B).heap.size 5 1 (.slice b9a b9l.length b9c) (b9l.map bR)) (by simp)).1)) ?_
 refine kTD [9,10] [6,5,4] 0 [(6,.v (.bool y11)),(5,.v (.string (bstr b9l)))] ?_
 refine kZ ?_
 refine kR ?_
 exact ⟨[.int .i64 (sA r.next (IntKind.i64.wrap (y1 - 6))),.string (bstr b9l),.bool y11],by kernel_rfl,fun w' hb hf => ⟨⟨(sA r.next (IntKind.i64.wrap (y1 - 6)),bstr b9l,y11),(by show (bstr _).size ≤ 4096; rw [bstr_size]; omega)⟩,rfl,hf (curF B g 137 (.slice A J.length cap) J.length) (by simp),frF_chgd (hf (frF w (fun b => b = g)) (by simp)) hb rfl rfl rfl⟩⟩
 refine kSR 5 (.string (bstr b9l)) rfl (fun _ _ ww hr => act_b2s (e := 5) b9l hr.1 rfl (by kernel_rfl) (by kernel_rfl) (by kernel_rfl) rfl (rowF_sl (hr.2.fact (rowF (cutW w B).heap.size 5 1 (.slice b9a b9l.length b9c) (b9l.map bR)) (by simp)).1)) ?_
 refine kA [3] ?_
 refine kSC 3 120 [.int .i64 r.next,.int .i64 (IntKind.i64.wrap (y1 - 6))] (some 43) rfl (xc_s fun ww hf => sSeqAdd_c r.next (IntKind.i64.wrap (y1 - 6)) ww ) ?_
 intro _
 refine kA [7] ?_
 refine kSW 7 110 [.pointer (some ⟨g,0,none⟩),.int .i64 6] (some 47) 1 rfl rfl hlo (under_t under_nil) (l1Once_c_K hBw hap) ?_
 rintro ⟨y12,hy12⟩
 refine kTS [8,9,10] [6,5,4] 0 [(6,.v (.bool y12)),(5,.v (.string (bstr b9l))),(4,.v (.int .i64 (sA r.next (IntKind.i64.wrap (y1 - 6)))))] ?_
 refine kZ ?_
 refine kR ?_
 exact ⟨[.int .i64 (sA r.next (IntKind.i64.wrap (y1 - 6))),.string (bstr b9l),.bool y12],by kernel_rfl,fun w' hb hf => ⟨⟨(sA r.next (IntKind.i64.wrap (y1 - 6)),bstr b9l,y12),(by show (bstr _).size ≤ 4096; rw [bstr_size]; omega)⟩,rfl,hf (curF B g 137 (.slice A J.length cap) J.length) (by simp),frF_chgd (hf (frF w (fun b => b = g)) (by simp)) hb rfl rfl rfl⟩⟩
 refine kK ?_
 refine kS ?_
 refine xe_region0 [] (by kernel_rfl) (fun ρ σ => ?_)
 refine kTS [0,1,2,4,6] [46,44,42,41] 6 [(46,.v (.pointer (some ⟨g,0,none⟩))),(44,.v (.slice A1 bs.length c1)),(42,.v (.int .i64 (IntKind.i64.wrap (y1 - 6)))),(41,.v (.int .i64 r.next))] ?_
 refine kA [3,5] ⟨?_,?_⟩
 refine kSC 3 120 [.int .i64 r.next,.int .i64 (IntKind.i64.wrap (y1 - 6))] (some 43) rfl (xc_s fun ww hf => sSeqAdd_c r.next (IntKind.i64.wrap (y1 - 6)) ww ) ?_
 intro _
 refine kA [5,7] ⟨?_,?_⟩
 refine kSR 5 (.string (bstr bs)) rfl (fun _ _ ww hr => act_b2s (e := 5) bs hr.1 rfl (by kernel_rfl) (by kernel_rfl) (by kernel_rfl) rfl (rowF_sl (hr.2.fact (rowF (cutW w B).heap.size 5 1 (.slice A1 bs.length c1) (bs.map bR)) (by simp)).1)) ?_
 refine kA [7] ?_
 refine kSW 7 110 [.pointer (some ⟨g,0,none⟩),.int .i64 6] (some 47) 0 rfl rfl hlo (under_t under_nil) (l1Once_c_K hBw hap) ?_
 rintro ⟨y13,hy13⟩
 refine kTS [8,9,10] [6,5,4] 0 [(6,.v (.bool y13)),(5,.v (.string (bstr bs))),(4,.v (.int .i64 (sA r.next (IntKind.i64.wrap (y1 - 6)))))] ?_
 refine kZ ?_
 refine kR ?_
 exact ⟨[.int .i64 (sA r.next (IntKind.i64.wrap (y1 - 6))),.string (bstr bs),.bool y13],by kernel_rfl,fun w' hb hf => ⟨⟨(sA r.next (IntKind.i64.wrap (y1 - 6)),bstr bs,y13),(by show (bstr _).size ≤ 4096; rw [bstr_size]; omega)⟩,rfl,hf (curF B g 137 (.slice A J.length cap) J.length) (by simp),frF_chgd (hf (frF w (fun b => b = g)) (by simp)) hb rfl rfl rfl⟩⟩
 refine kSW 7 110 [.pointer (some ⟨g,0,none⟩),.int .i64 6] (some 47) 0 rfl rfl hlo (under_t under_nil) (l1Once_c_K hBw hap) ?_
 rintro ⟨y14,hy14⟩
 refine kTD [8] [4,47,44] 3 [(4,.v (.int .i64 (sA r.next (IntKind.i64.wrap (y1 - 6))))),(47,.v (.bool y14))] ?_
 refine kA [5] ?_
 refine kSR 5 (.string (bstr bs)) rfl (fun _ _ ww hr => act_b2s (e := 5) bs hr.1 rfl (by kernel_rfl) (by kernel_rfl) (by kernel_rfl) rfl (rowF_sl (hr.2.fact (rowF (cutW w B).heap.size 5 1 (.slice A1 bs.length c1) (bs.map bR)) (by simp)).1)) ?_
 refine kTD [9,10] [6,5,4] 0 [(6,.v (.bool y14)),(5,.v (.string (bstr bs)))] ?_
 refine kZ ?_
 refine kR ?_
 exact ⟨[.int .i64 (sA r.next (IntKind.i64.wrap (y1 - 6))),.string (bstr bs),.bool y14],by kernel_rfl,fun w' hb hf => ⟨⟨(sA r.next (IntKind.i64.wrap (y1 - 6)),bstr bs,y14),(by show (bstr _).size ≤ 4096; rw [bstr_size]; omega)⟩,rfl,hf (curF B g 137 (.slice A J.length cap) J.length) (by simp),frF_chgd (hf (frF w (fun b => b = g)) (by simp)) hb rfl rfl rfl⟩⟩
 refine kSR 5 (.string (bstr bs)) rfl (fun _ _ ww hr => act_b2s (e := 5) bs hr.1 rfl (by kernel_rfl) (by kernel_rfl) (by kernel_rfl) rfl (rowF_sl (hr.2.fact (rowF (cutW w B).heap.size 5 1 (.slice A1 bs.length c1) (bs.map bR)) (by simp)).1)) ?_
 refine kA [3] ?_
 refine kSC 3 120 [.int .i64 r.next,.int .i64 (IntKind.i64.wrap (y1 - 6))] (some 43) rfl (xc_s fun ww hf => sSeqAdd_c r.next (IntKind.i64.wrap (y1 - 6)) ww ) ?_
 intro _
 refine kA [7] ?_
 refine kSW 7 110 [.pointer (some ⟨g,0,none⟩),.int .i64 6] (some 47) 0 rfl rfl hlo (under_t under_nil) (l1Once_c_K hBw hap) ?_
 rintro ⟨y15,hy15⟩
 refine kTS [8,9,10] [6,5,4] 0 [(6,.v (.bool y15)),(5,.v (.string (bstr bs))),(4,.v (.int .i64 (sA r.next (IntKind.i64.wrap (y1 - 6)))))] ?_
 refine kZ ?_
 refine kR ?_
 exact ⟨[.int .i64 (sA r.next (IntKind.i64.wrap (y1 - 6))),.string (bstr bs),.bool y15],by kernel_rfl,fun w' hb hf => ⟨⟨(sA r.next (IntKind.i64.wrap (y1 - 6)),bstr bs,y15),(by show (bstr _).size ≤ 4096; rw [bstr_size]; omega)⟩,rfl,hf (curF B g 137 (.slice A J.length cap) J.length) (by simp),frF_chgd (hf (frF w (fun b => b = g)) (by simp)) hb rfl rfl rfl⟩⟩
theorem l18Stream_c_K {g : Nat} {J : List Int} {A : Option Addr} {cap : Nat} {r : Rcv} {r_heldV : Value} {w0 : World} {fs : List Fact} {B : Nat} (hB : B ≤ w0.heap.size) (hap : ¬ (slF (.slice A J.length cap) 1 (J.map bR)).blk g)  (hn : J.length ≤ 1048576 := by omega) (h1 : curF B g 137 (.slice A J.length cap) J.length ∈ fs := by simp) (h2 : slF (.slice A J.length cap) 1 (J.map bR) ∈ fs := by simp) : XCM Tryz.prog w0 fs (curF B g 137 (.slice A J.length cap) J.length).blk 139 [.pointer (some ⟨g, 0, none⟩), .agg (rcvL r r_heldV).toArray] (α := {y : Int × ByteArray × Bool // y.2.1.size ≤ 4096}) (fun y => .tuple #[.int .i64 y.1.1, .string y.1.2.1, .bool y.1.2.2]) (fun _ => [curF B g 137 (.slice A J.length cap) J.length]) := xcm_cur fun w hw hf => l18Stream_c g J A cap r r_heldV w B (Nat.le_trans hB hw) (hf _ h1) (hf _ h2) hap hn  
theorem l18Receiver_c (g : Nat) (J : List Int) (A : Option Addr) (cap : Nat) (w : World) (B : Nat) (hB : B ≤ w.heap.size) (hc : (curF B g 137 (.slice A J.length cap) J.length).p w) (hl : Sl w (.slice A J.length cap) 1 (J.map bR)) (hap : ¬ (slF (.slice A J.length cap) 1 (J.map bR)).blk g) (hn : J.length ≤ 1048576) : Calls Tryz.prog 157 #[.pointer (some ⟨g, 0, none⟩)] w fun e w' => ∃ y : {y : Rcv × (Option Addr × Nat) // RB 3 y.1}, e = .returned (.agg (rcvL y.1.1 (.slice y.1.2.1 y.1.1.held.length y.1.2.2)).toArray) ∧ (curF B g 137 (.slice A J.length cap) J.length).p w' ∧ (rowF w.heap.size 85 2 (.slice y.1.2.1 y.1.1.held.length y.1.2.2) (y.1.1.held.map pC)).p w' ∧ g < w.heap.size ∧ Chgd (fun b => b = g) w w' := by
 have hq_code := Sl.capLe hl
 have hBw : B ≤ (cutW w B).heap.size := Nat.le_of_eq (cutW_size hB).symm
 have hlo : ∀ (ww : World) (b : Nat),(curF B g 137 (.slice A J.length cap) J.length).p ww → (curF B g 137 (.slice A J.length cap) J.length).blk b → (cutW w B).heap.size ≤ b := fun ww b h hb => Nat.le_trans (cutW_le w B) (cur_lo h hb)
 refine x_callsMA (args := [.pointer (some ⟨g,0,none⟩)]) (fn := Tryz.f157) [curF B g 137 (.slice A J.length cap) J.length,slF (.slice A J.length cap) 1 (J.map bR),frF w (fun b => b = g)] B Tryz.func157 rfl Tryz.ntmps157 rfl hB (by simp only [List.mem_cons,List.not_mem_nil,or_false,forall_eq_or_imp,forall_eq]; exact ⟨hc,hl,frF_start w _⟩) (apart_cur hap rfl) ?_
 have hgl : g < w.heap.size := (curF B g 137 (.slice A J.length cap) J.length).lt w g hc rfl
 refine kQ ?_
 refine kEF [0,2] ⟨[(0,.v (.pointer (some ⟨g,0,none⟩))),(2,.p 0 0)],[⟨41,rcvZ⟩],[],[curF B g 137 (.slice A J.length cap) J.length,slF (.slice A J.length cap) 1 (J.map bR),frF w (fun b => b = g)]⟩ ?_
 refine kQ ?_
 refine kWD 1 [0,2,9] [(9,.v (.pointer (some ⟨g,0,none⟩)))] 148 [.pointer (some ⟨g,0,none⟩)] (some 10) 0 rfl rfl hlo (l2Deep_c_K hBw hap) ?_
 rintro ⟨y1,hy1⟩
 refine kCD 0 [0,2,10] [] 161 [.int .i64 y1] (some 11) rfl (xc_r fun ww hw hf => ysReceiverNew_c y1 ww   ((cutW w B).heap.size) hw) ?_
 rintro ⟨v2a,v2c⟩
 refine kEA [0,2,3] [(3,.p 1 0)] [⟨41,rcvL (rN y1) (.slice v2a ((rN y1).held.length) v2c)⟩] ?_
 refine kQ ?_
 refine kWD 1 [0,2,3,12] [(12,.v (.pointer (some ⟨g,0,none⟩)))] 133 [.pointer (some ⟨g,0,none⟩),.int .i64 7] (some 13) 1 rfl rfl hlo (l1Below_c_K hBw hap) ?_
 rintro ⟨y3,hy3⟩
 obtain ⟨hy30,hy31⟩ := hy3
 refine kED [0,2,3,4] [(4,.v (.int .i64 y3))] ?_
 refine kS ?_
 refine kQ ?_
 refine kED [0,2,3,4,5] [(5,.v (.int .i64 0))] ?_
 refine xw_block ?_
 refine xw_loopW (α := {x : Nat × Rcv × Option Addr × Nat // (fun (i : Nat) (r : Rcv) (A1 : Option Addr) (c1 : Nat) => (i : Int) ≤ y3 ∧ RB 3 r) x.1 x.2.1 x.2.2.1 x.2.2.2}) (fun x => (fun (i : Nat) (r : Rcv) (A1 : Option Addr) (c1 : Nat) => (⟨[(0,.v (.pointer (some ⟨g,0,none⟩))),(2,.p 0 0),(3,.p 1 0),(4,.v (.int .i64 y3)),(5,.v (.int .i64 (i : Int)))],[⟨41,rcvZ⟩,⟨41,rcvL r (.slice A1 r.held.length c1)⟩],[],[rowF (cutW w B).heap.size 85 2 (.slice A1 r.held.length c1) (r.held.map pC),curF B g 137 (.slice A J.length cap) J.length,slF (.slice A J.length cap) 1 (J.map bR),frF w (fun b => b = g)]⟩ : St)) x.1.1 x.1.2.1 x.1.2.2.1 x.1.2.2.2) (fun x => (fun (i : Nat) (r : Rcv) (A1 : Option Addr) (c1 : Nat) => (y3).toNat - i) x.1.1 x.1.2.1 x.1.2.2.1 x.1.2.2.2) ⟨(0,(rN y1),v2a,v2c),⟨(by omega),RB.new _⟩⟩ (kPk [1,0,2,3] <| kF 2 0 [0,2,3,4,5]) ?_
 rintro ⟨⟨i,r,A1,c1⟩,hi,hrb⟩
 try dsimp only
 try dsimp only at hi hrb
 have hkn := hrb.up.kn; have hm := hrb.hm; have hsz := hrb.sz
 refine kS ?_
 refine kQ ?_
 refine kED [0,2,3,4,5,16] [(16,.v (.bool (decide ((i : Int) < y3))))] ?_
 refine kC (decide ((i : Int) < y3)) (fun h4 => ?_) (fun h4 => ?_)
 have h4p := of_decide_eq_true h4
 have hlt :  (i : Int) < y3 := of_decide_eq_true h4
 refine kK ?_
 refine kS ?_
 refine xw_block ?_
 refine kQ ?_
 refine kWD 2 [0,2,3,4,5,20,21] [(20,.v (.pointer (some ⟨g,0,none⟩))),(21,.v (.agg (rcvL r (.slice A1 r.held.length c1)).toArray))] 139 [.pointer (some ⟨g,0,none⟩),.agg (rcvL r (.slice A1 r.held.length c1)).toArray] (some 22) 1 rfl rfl hlo (l18Stream_c_K hBw hap) ?_
 rintro ⟨y5,hy5⟩
 refine kED [0,2,3,4,5,6,7,8] [(6,.v (.int .i64 y5.1)),(7,.v (.string y5.2.1)),(8,.v (.bool y5.2.2))] ?_
 refine kQ ?_
 refine kCD 4 [0,2,3,4,5,26,27,28,29] [(26,.v (.agg (rcvL r (.slice A1 r.held.length c1)).toArray)),(27,.v (.int .i64 y5.1)),(28,.v (.string y5.2.1)),(29,.v (.bool y5.2.2))] 78 [.agg (rcvL r (.slice A1 r.held.length c1)).toArray,.int .i64 y5.1,.string y5.2.1,.bool y5.2.2] (some 30) rfl (xc_r fun ww hw hf => ysArrived_c r (.slice A1 r.held.length c1) y5.1 y5.2.1 y5.2.2 ww (rowF_sl (hf _ m1)) (by assumption) (by assumption) (by omega) (by omega) ((cutW w B).heap.size) hw) ?_
 rintro ⟨v6a,v6c⟩
 have hra := RB.arr hrb (by omega) y5.1 y5.2.1 y5.2.2; have hka := hra.up.kn; have hma := hra.hm; have hza := hra.sz
 refine kEF [0,2,3,4,5] ⟨[(0,.v (.pointer (some ⟨g,0,none⟩))),(2,.p 0 0),(3,.p 1 0),(4,.v (.int .i64 y3)),(5,.v (.int .i64 (i : Int)))],[⟨41,rcvZ⟩,⟨41,rcvL (arrived r y5.1 y5.2.1 y5.2.2) (.slice v6a ((arrived r y5.1 y5.2.1 y5.2.2).held.length) v6c)⟩],[],[rowF (cutW w B).heap.size 85 2 (.slice v6a ((arrived r y5.1 y5.2.1 y5.2.2).held.length) v6c) ((arrived r y5.1 y5.2.1 y5.2.2).held.map pC),curF B g 137 (.slice A J.length cap) J.length,rowF (cutW w B).heap.size 85 2 (.slice A1 r.held.length c1) (r.held.map pC),slF (.slice A J.length cap) 1 (J.map bR),frF w (fun b => b = g)]⟩ ?_
 refine kQ ?_
 refine kWD 1 [0,2,3,4,5,31] [(31,.v (.pointer (some ⟨g,0,none⟩)))] 110 [.pointer (some ⟨g,0,none⟩),.int .i64 3] (some 32) 1 rfl rfl hlo (l1Once_c_K hBw hap) ?_
 rintro ⟨y7,hy7⟩
 refine kED [0,2,3,4,5,32] [] ?_
 refine kC (y7) (fun h8 => ?_) (fun h8 => ?_)
 refine xe_region0 [true,false] (by kernel_rfl) (fun ρ σ => ?_)
 refine kTD [1] [35,0,2,3,4,5] 7 [(35,.v (.pointer (some ⟨g,0,none⟩)))] ?_
 refine kA [0,2] ⟨?_,?_⟩
 refine kSV 0 (.v (.agg (rcvL (arrived r y5.1 y5.2.1 y5.2.2) (.slice v6a ((arrived r y5.1 y5.2.1 y5.2.2).held.length) v6c)).toArray)) rfl ?_
 refine kA [2] ?_
 refine kSW 2 133 [.pointer (some ⟨g,0,none⟩),.int .i64 20] (some 36) 0 rfl rfl hlo (under_t (under_f rfl under_nil)) (l1Below_c_K hBw hap) ?_
 rintro ⟨y9,hy9⟩
 obtain ⟨hy90,hy91⟩ := hy9
 refine kA [3] ?_
 refine kSC 3 166 [.agg (rcvL (arrived r y5.1 y5.2.1 y5.2.2) (.slice v6a ((arrived r y5.1 y5.2.1 y5.2.2).held.length) v6c)).toArray,.int .i64 y9] (some 37) rfl (xc_r fun ww hw hf => ysTakenIn_c (arrived r y5.1 y5.2.1 y5.2.2) (.slice v6a ((arrived r y5.1 y5.2.1 y5.2.2).held.length) v6c) y9 ww (rowF_sl (hf _ m1)) (by assumption) (by assumption) (by omega) ((cutW w B).heap.size) hw) ?_
 rintro ⟨v10a,v10c⟩
 refine kTD [4,5,6] [38,0,2,3,4,5] 1 [(38,.v (.agg (rcvL (takenIn (arrived r y5.1 y5.2.1 y5.2.2) y9).1 (.slice v10a ((takenIn (arrived r y5.1 y5.2.1 y5.2.2) y9).1.held.length) v10c)).toArray))] ?_
 refine kA [7] ?_
 refine kSS 7 1 0 (rcvL (takenIn (arrived r y5.1 y5.2.1 y5.2.2) y9).1 (.slice v10a ((takenIn (arrived r y5.1 y5.2.1 y5.2.2) y9).1.held.length) v10c)) rfl ?_
 refine kZ ?_
 refine kG ?_
 refine kRD 3 [0,2,3,4,5] [(5,.v (.int .i64 (IntKind.i64.wrap ((i : Int) + 1))))] ?_
 refine xl_nv [0,2,3,4,5] [(5,.v (.int .i64 (IntKind.i64.wrap ((i : Int) + 1))))] [(5,.v (.int .i64 ((i : Int) + 1)))] (by rw [show (IntKind.i64.wrap ((i : Int) + 1)) = ((i : Int) + 1) from wrap_id (by omega) (by omega)]) (by kernel_rfl) ?_
 refine kED [0,2,3,4,5] [] ?_
 exact ⟨⟨(i + 1,(takenIn (arrived r y5.1 y5.2.1 y5.2.2) y9).1,v10a,v10c),⟨(by omega),(by first | exact hra | exact RB.taken hra _ | exact hrb)⟩⟩,kPk [0,1,4,5] <| kF 2 0 [0,2,3,4,5],by show (fun (i : Nat) (r : Rcv) (A1 : Option Addr) (c1 : Nat) => (y3).toNat - i) (i + 1) ((takenIn (arrived r y5.1 y5.2.1 y5.2.2) y9).1) v10a v10c < (y3).toNat - i; (dsimp only; omega)⟩
 refine kSW 2 133 [.pointer (some ⟨g,0,none⟩),.int .i64 20] (some 36) 0 rfl rfl hlo (under_t (under_f rfl under_nil)) (l1Below_c_K hBw hap) ?_
 rintro ⟨y11,hy11⟩
 obtain ⟨hy110,hy111⟩ := hy11
 refine kA [0] ?_
 refine kSV 0 (.v (.agg (rcvL (arrived r y5.1 y5.2.1 y5.2.2) (.slice v6a ((arrived r y5.1 y5.2.1 y5.2.2).held.length) v6c)).toArray)) rfl ?_
 refine kA [3] ?_
 refine kSC 3 166 [.agg (rcvL (arrived r y5.1 y5.2.1 y5.2.2) (.slice v6a ((arrived r y5.1 y5.2.1 y5.2.2).held.length) v6c)).toArray,.int .i64 y11] (some 37) rfl (xc_r fun ww hw hf => ysTakenIn_c (arrived r y5.1 y5.2.1 y5.2.2) (.slice v6a ((arrived r y5.1 y5.2.1 y5.2.2).held.length) v6c) y11 ww (rowF_sl (hf _ m1)) (by assumption) (by assumption) (by omega) ((cutW w B).heap.size) hw) ?_
 rintro ⟨v12a,v12c⟩
 refine kTD [4,5,6] [38,0,2,3,4,5] 1 [(38,.v (.agg (rcvL (takenIn (arrived r y5.1 y5.2.1 y5.2.2) y11).1 (.slice v12a ((takenIn (arrived r y5.1 y5.2.1 y5.2.2) y11).1.held.length) v12c)).toArray))] ?_
 refine kA [7] ?_
 refine kSS 7 1 0 (rcvL (takenIn (arrived r y5.1 y5.2.1 y5.2.2) y11).1 (.slice v12a ((takenIn (arrived r y5.1 y5.2.1 y5.2.2) y11).1.held.length) v12c)) rfl ?_
 refine kZ ?_
 refine kG ?_
 refine kRD 3 [0,2,3,4,5] [(5,.v (.int .i64 (IntKind.i64.wrap ((i : Int) + 1))))] ?_
 refine xl_nv [0,2,3,4,5] [(5,.v (.int .i64 (IntKind.i64.wrap ((i : Int) + 1))))] [(5,.v (.int .i64 ((i : Int) + 1)))] (by rw [show (IntKind.i64.wrap ((i : Int) + 1)) = ((i : Int) + 1) from wrap_id (by omega) (by omega)]) (by kernel_rfl) ?_
 refine kED [0,2,3,4,5] [] ?_
 exact ⟨⟨(i + 1,(takenIn (arrived r y5.1 y5.2.1 y5.2.2) y11).1,v12a,v12c),⟨(by omega),(by first | exact hra | exact RB.taken hra _ | exact hrb)⟩⟩,kPk [0,1,4,5] <| kF 2 0 [0,2,3,4,5],by show (fun (i : Nat) (r : Rcv) (A1 : Option Addr) (c1 : Nat) => (y3).toNat - i) (i + 1) ((takenIn (arrived r y5.1 y5.2.1 y5.2.2) y11).1) v12a v12c < (y3).toNat - i; (dsimp only; omega)⟩
 refine kK ?_
 refine kG ?_
 refine kRD 3 [0,2,3,4,5] [(5,.v (.int .i64 (IntKind.i64.wrap ((i : Int) + 1))))] ?_
 refine xl_nv [0,2,3,4,5] [(5,.v (.int .i64 (IntKind.i64.wrap ((i : Int) + 1))))] [(5,.v (.int .i64 ((i : Int) + 1)))] (by rw [show (IntKind.i64.wrap ((i : Int) + 1)) = ((i : Int) + 1) from wrap_id (by omega) (by omega)]) (by kernel_rfl) ?_
 refine kED [0,2,3,4,5] [] ?_
 exact ⟨⟨(i + 1,(arrived r y5.1 y5.2.1 y5.2.2),v6a,v6c),⟨(by omega),(by first | exact hra | exact RB.taken hra _ | exact hrb)⟩⟩,kPk [1,0,3,4] <| kF 2 0 [0,2,3,4,5],by show (fun (i : Nat) (r : Rcv) (A1 : Option Addr) (c1 : Nat) => (y3).toNat - i) (i + 1) (arrived r y5.1 y5.2.1 y5.2.2) v6a v6c < (y3).toNat - i; (dsimp only; omega)⟩
 have h4p := of_decide_eq_false h4
 have hge : ¬ (i : Int) < y3 := of_decide_eq_false h4
 refine xw_exit ?_
 refine kQ ?_
 refine kEU [2] [(2,.p 0 0)] 0 ⟨41,rcvL r (.slice A1 r.held.length c1)⟩ ?_
 refine kR ?_
 exact ⟨[.agg (rcvL r (.slice A1 r.held.length c1)).toArray],by kernel_rfl,fun w' hb hf ha => ⟨⟨(r,A1,c1),hrb⟩,rfl,hf (curF B g 137 (.slice A J.length cap) J.length) (by simp),rowF_raise (hf (rowF (cutW w B).heap.size 85 2 (.slice A1 r.held.length c1) (r.held.map pC)) (by simp)) (own_new ha (i := 0) (j := 1) (k := 3) rfl rfl rfl rfl (by decide) (by decide)),hgl,frF_chgd (hf (frF w (fun b => b = g)) (by simp)) hb rfl rfl rfl⟩⟩
theorem l18Bent_c (g : Nat) (J : List Int) (A : Option Addr) (cap : Nat) (w : World) (B : Nat) (hB : B ≤ w.heap.size) (hc : (curF B g 137 (.slice A J.length cap) J.length).p w) (hl : Sl w (.slice A J.length cap) 1 (J.map bR)) (hap : ¬ (slF (.slice A J.length cap) 1 (J.map bR)).blk g) (hn : J.length ≤ 1048576) : Calls Tryz.prog 135 #[.pointer (some ⟨g, 0, none⟩)] w fun e w' => ∃ y : {y : Rcv × (Option Addr × Nat) // RB 4 y.1}, e = .returned (.agg (rcvL y.1.1 (.slice y.1.2.1 y.1.1.held.length y.1.2.2)).toArray) ∧ (curF B g 137 (.slice A J.length cap) J.length).p w' ∧ (rowF w.heap.size 85 2 (.slice y.1.2.1 y.1.1.held.length y.1.2.2) (y.1.1.held.map pC)).p w' ∧ g < w.heap.size ∧ Chgd (fun b => b = g) w w' := by
 have hq_code := Sl.capLe hl
 have hBw : B ≤ (cutW w B).heap.size := Nat.le_of_eq (cutW_size hB).symm
 have hlo : ∀ (ww : World) (b : Nat),(curF B g 137 (.slice A J.length cap) J.length).p ww → (curF B g 137 (.slice A J.length cap) J.length).blk b → (cutW w B).heap.size ≤ b := fun ww b h hb => Nat.le_trans (cutW_le w B) (cur_lo h hb)
 refine x_callsMA (args := [.pointer (some ⟨g,0,none⟩)]) (fn := Tryz.f135) [curF B g 137 (.slice A J.length cap) J.length,slF (.slice A J.length cap) 1 (J.map bR),frF w (fun b => b = g)] B Tryz.func135 rfl Tryz.ntmps135 rfl hB (by simp only [List.mem_cons,List.not_mem_nil,or_false,forall_eq_or_imp,forall_eq]; exact ⟨hc,hl,frF_start w _⟩) (apart_cur hap rfl) ?_
 have hgl : g < w.heap.size := (curF B g 137 (.slice A J.length cap) J.length).lt w g hc rfl
 refine kQ ?_
 refine kEF [0,2] ⟨[(0,.v (.pointer (some ⟨g,0,none⟩))),(2,.p 0 0)],[⟨41,rcvZ⟩],[],[curF B g 137 (.slice A J.length cap) J.length,slF (.slice A J.length cap) 1 (J.map bR),frF w (fun b => b = g)]⟩ ?_
 refine kQ ?_
 refine kWD 1 [0,2,4] [(4,.v (.pointer (some ⟨g,0,none⟩)))] 157 [.pointer (some ⟨g,0,none⟩)] (some 5) 0 rfl rfl hlo (xcm_curR fun ww hw hf => l18Receiver_c g J A cap ww B (Nat.le_trans (by first | exact Nat.le_refl _ | exact Nat.le_of_eq (cutW_size hB).symm) hw) (hf (curF B g 137 (.slice A J.length cap) J.length) (by simp)) (hf _ m1) hap (by omega)) ?_
 rintro ⟨⟨b1m,b1a,b1c⟩,hb1⟩
 dsimp only at hb1
 have hb1n := hb1.1
 refine kEA [0,2,3] [(3,.p 1 0)] [⟨41,rcvL b1m (.slice b1a b1m.held.length b1c)⟩] ?_
 refine kS ?_
 refine xw_joinF (α := {zz : Rcv × Option Addr × Nat // (fun (q : Rcv) (A3 : Option Addr) (c3 : Nat) => RB 4 q) zz.1 zz.2.1 zz.2.2}) (fun zz => (fun (q : Rcv) (A3 : Option Addr) (c3 : Nat) => (⟨[(2,.p 0 0),(3,.p 1 0)],[⟨41,rcvZ⟩,⟨41,rcvL q (.slice A3 q.held.length c3)⟩],[],[rowF (cutW w B).heap.size 85 2 (.slice A3 q.held.length c3) (q.held.map pC),curF B g 137 (.slice A J.length cap) J.length,slF (.slice A J.length cap) 1 (J.map bR),frF w (fun b => b = g)]⟩ : St)) zz.1.1 zz.1.2.1 zz.1.2.2) ?_ ?_
 refine kQ ?_
 refine kWD 1 [0,2,3,6] [(6,.v (.pointer (some ⟨g,0,none⟩)))] 133 [.pointer (some ⟨g,0,none⟩),.int .i64 12] (some 7) 1 rfl rfl hlo (l1Below_c_K hBw hap) ?_
 rintro ⟨y2,hy2⟩
 obtain ⟨hy20,hy21⟩ := hy2
 refine kED [0,2,3,7] [] ?_
 refine xw_block ?_
 refine kQ ?_
 refine kED [0,2,3,7,8] [(8,.v (.bool (y2 == 0)))] ?_
 refine kC (y2 == 0) (fun h3 => ?_) (fun h3 => ?_)
 have h3p := eqT h3
 refine kG ?_
 refine kWD 1 [2,3,10] [(10,.v (.pointer (some ⟨g,0,none⟩)))] 143 [.pointer (some ⟨g,0,none⟩)] (some 11) 0 rfl rfl hlo (l2Word_c_K hBw hap) ?_
 rintro ⟨y4,hy4⟩
 refine kEU [2,3] [] 1 ⟨41,rcvL { b1m with next := y4 } (.slice b1a b1m.held.length b1c)⟩ ?_
 exact ⟨⟨({ b1m with next := y4 },b1a,b1c),⟨Nat.le_trans hb1.1 (by decide),hb1.2.1,hb1.2.2⟩⟩,kPk [1,0,2,3] <| kF 2 0 [2,3]⟩
 have h3p := eqF h3
 refine kQ ?_
 refine kED [0,2,3,7,13] [(13,.v (.bool (y2 == 1)))] ?_
 refine kC (y2 == 1) (fun h5 => ?_) (fun h5 => ?_)
 have h5p := eqT h5
 refine kG ?_
 refine kHD 1 [2,3,15] [(15,.v (.pointer (some ⟨g,0,none⟩)))] rfl (hv_build (e := 3) (K := 1) (bytes := 8) [.int .i64 (-2),.int .i64 (-1),.int .i64 0,.int .i64 5,.int .i64 32,.int .i64 33] rfl (by kernel_rfl) (by kernel_rfl) (by kernel_rfl) (by kernel_rfl) (by kernel_rfl) (rs := ([(-2),(-1),0,5,32,33] : List Int).map intRow) rfl) ?_
 intro g6
 refine xl_know (φ := ¬ (slF (.slice (some ⟨g6,0,none⟩) 6 6) 1 (([(-2),(-1),0,5,32,33] : List Int).map intRow)).blk g) (fun _ _ _ _ hr => fun hb => hr.2.apart 0 1 (rowF (cutW w B).heap.size 3 1 (.slice (some ⟨g6,0,none⟩) 6 6) (([(-2),(-1),0,5,32,33] : List Int).map intRow)) (curF B g 137 (.slice A J.length cap) J.length) rfl rfl (by decide) rfl g (rowF_sblk hb) rfl) (fun hk7 => ?_)
 refine kWD 0 [2,3,15,16] [] 136 [.pointer (some ⟨g,0,none⟩),.slice (some ⟨g6,0,none⟩) 6 6] (some 17) 1 rfl rfl hlo (l1PickInt_c_K hBw hap (fun ww hw hf => (rowF_sl (hf _ m0))) hk7 (by simp)) ?_
 rintro ⟨y8,hy8⟩
 refine kEU [2,3] [] 1 ⟨41,rcvL { b1m with fin := y8 } (.slice b1a b1m.held.length b1c)⟩ ?_
 exact ⟨⟨({ b1m with fin := y8 },b1a,b1c),⟨Nat.le_trans hb1.1 (by decide),hb1.2.1,hb1.2.2⟩⟩,kPk [2,0,3,4] <| kF 2 0 [2,3]⟩
 have h5p := eqF h5
 refine kQ ?_
 refine kED [0,2,3,7,19] [(19,.v (.bool (y2 == 2)))] ?_
 refine kC (y2 == 2) (fun h9 => ?_) (fun h9 => ?_)
 have h9p := eqT h9
 refine kG ?_
 refine kEU [2,3] [] 1 ⟨41,rcvL { b1m with done := !b1m.done } (.slice b1a b1m.held.length b1c)⟩ ?_
 exact ⟨⟨({ b1m with done := !b1m.done },b1a,b1c),⟨Nat.le_trans hb1.1 (by decide),hb1.2.1,hb1.2.2⟩⟩,kPk [1,0,2,3] <| kF 2 0 [2,3]⟩
 have h9p := eqF h9
 refine kQ ?_
 refine kED [0,2,3,7,25] [(25,.v (.bool (y2 == 3)))] ?_
 refine kC (y2 == 3) (fun h10 => ?_) (fun h10 => ?_)
 have h10p := eqT h10
 refine xe_region0 [true,false] (by kernel_rfl) (fun ρ σ => ?_)
 refine xe_cut (α := {zz : Nat × Int × Nat × ByteArray × Nat × Option Addr × Nat // (fun (g162 : Nat) (y213 : Int) (g312 : Nat) (y363 : ByteArray) (g462 : Nat) (v512a : Option Addr) (v512c : Nat) => y363 ∈ ([(⟨#[]⟩ : ByteArray),(⟨#[120]⟩ : ByteArray),(⟨#[121,122]⟩ : ByteArray)] : List ByteArray)) zz.1 zz.2.1 zz.2.2.1 zz.2.2.2.1 zz.2.2.2.2.1 zz.2.2.2.2.2.1 zz.2.2.2.2.2.2}) (fun zz => (fun (g162 : Nat) (y213 : Int) (g312 : Nat) (y363 : ByteArray) (g462 : Nat) (v512a : Option Addr) (v512c : Nat) => (⟨[(2,.p 0 0),(3,.p 1 0)],[⟨41,rcvZ⟩,⟨41,rcvL { b1m with held := (b1m.held ++ ([⟨y213,y363⟩] : List Pce)) } (.slice v512a ((b1m.held ++ ([⟨y213,y363⟩] : List Pce)).length) v512c)⟩],[],[curF B g 137 (.slice A J.length cap) J.length,slF (.slice A J.length cap) 1 (J.map bR),frF w (fun b => b = g),rowF (cutW w B).heap.size 3 1 (.slice (some ⟨g162,0,none⟩) 7 7) (([0,1,20,31,32,(-1),9223372036854775807] : List Int).map intRow),rowF (cutW w B).heap.size 85 2 (.slice (some ⟨g462,0,none⟩) 1 1) (([⟨y213,y363⟩] : List Pce).map pC),rowF (cutW w B).heap.size 85 2 (.slice v512a ((b1m.held ++ ([⟨y213,y363⟩] : List Pce)).length) v512c) ((b1m.held ++ ([⟨y213,y363⟩] : List Pce)).map pC),rowF (cutW w B).heap.size 9 1 (.slice (some ⟨g312,0,none⟩) 3 3) (([(⟨#[]⟩ : ByteArray),(⟨#[120]⟩ : ByteArray),(⟨#[121,122]⟩ : ByteArray)] : List ByteArray).map strRow)]⟩ : St)) zz.1.1 zz.1.2.1 zz.1.2.2.1 zz.1.2.2.2.1 zz.1.2.2.2.2.1 zz.1.2.2.2.2.2.1 zz.1.2.2.2.2.2.2) 0 (listB 13 8191) ?_ (fun hD7 => ?_)
 rintro ⟨⟨g162,y213,g312,y363,g462,v512a,v512c⟩,hy363⟩
 dsimp only
 try dsimp only at hy363
 refine kZ ?_
 exact ⟨⟨({ b1m with held := (b1m.held ++ ([⟨y213,y363⟩] : List Pce)) },v512a,v512c),(RB.more hb1 _ (by have hq := hy363; simp only [List.mem_cons,List.not_mem_nil,or_false] at hq; rcases hq with h | h | h <;> subst h <;> (dsimp only; decide)) hb1.2.2)⟩,kPk [5,0,1,2] <| kF 2 0 [2,3]⟩
 refine xe_cut (α := {zz : Nat × Int × Nat × ByteArray × Nat × Option Addr × Nat // (fun (g162 : Nat) (y213 : Int) (g312 : Nat) (y363 : ByteArray) (g462 : Nat) (v512a : Option Addr) (v512c : Nat) => y363 ∈ ([(⟨#[]⟩ : ByteArray),(⟨#[120]⟩ : ByteArray),(⟨#[121,122]⟩ : ByteArray)] : List ByteArray)) zz.1 zz.2.1 zz.2.2.1 zz.2.2.2.1 zz.2.2.2.2.1 zz.2.2.2.2.2.1 zz.2.2.2.2.2.2}) (fun zz => (fun (g162 : Nat) (y213 : Int) (g312 : Nat) (y363 : ByteArray) (g462 : Nat) (v512a : Option Addr) (v512c : Nat) => (⟨[(2,.p 0 0),(3,.p 1 0),(37,.v (.slice v512a ((b1m.held ++ ([⟨y213,y363⟩] : List Pce)).length) v512c))],[⟨41,rcvZ⟩,⟨41,rcvL b1m (.slice b1a b1m.held.length b1c)⟩],[],[curF B g 137 (.slice A J.length cap) J.length,slF (.slice A J.length cap) 1 (J.map bR),frF w (fun b => b = g),rowF (cutW w B).heap.size 3 1 (.slice (some ⟨g162,0,none⟩) 7 7) (([0,1,20,31,32,(-1),9223372036854775807] : List Int).map intRow),rowF (cutW w B).heap.size 85 2 (.slice (some ⟨g462,0,none⟩) 1 1) (([⟨y213,y363⟩] : List Pce).map pC),rowF (cutW w B).heap.size 85 2 (.slice v512a ((b1m.held ++ ([⟨y213,y363⟩] : List Pce)).length) v512c) ((b1m.held ++ ([⟨y213,y363⟩] : List Pce)).map pC),rowF (cutW w B).heap.size 9 1 (.slice (some ⟨g312,0,none⟩) 3 3) (([(⟨#[]⟩ : ByteArray),(⟨#[120]⟩ : ByteArray),(⟨#[121,122]⟩ : ByteArray)] : List ByteArray).map strRow)]⟩ : St)) zz.1.1 zz.1.2.1 zz.1.2.2.1 zz.1.2.2.2.1 zz.1.2.2.2.2.1 zz.1.2.2.2.2.2.1 zz.1.2.2.2.2.2.2) 2 (listB 13 2047) ?_ (fun hD6 => ?_)
 rintro ⟨⟨g162,y213,g312,y363,g462,v512a,v512c⟩,hy363⟩
 dsimp only
 try dsimp only at hy363
 refine kTS [11] [38,2,3,37] 1 [(38,.p 1 2),(2,.p 0 0),(3,.p 1 0),(37,.v (.slice v512a ((b1m.held ++ ([⟨y213,y363⟩] : List Pce)).length) v512c))] ?_
 refine kA [12] ?_
 refine kSS 12 1 2 [.slice v512a ((b1m.held ++ ([⟨y213,y363⟩] : List Pce)).length) v512c] rfl ?_
 exact xe_wkL (kF 2 0 [2,3]) (by kernel_rfl) (hD7 ⟨(g162,y213,g312,y363,g462,v512a,v512c),hy363⟩)
 refine xe_cut (α := {zz : Nat × Int × Nat × ByteArray × Nat // (fun (g162 : Nat) (y213 : Int) (g312 : Nat) (y363 : ByteArray) (g462 : Nat) => y363 ∈ ([(⟨#[]⟩ : ByteArray),(⟨#[120]⟩ : ByteArray),(⟨#[121,122]⟩ : ByteArray)] : List ByteArray)) zz.1 zz.2.1 zz.2.2.1 zz.2.2.2.1 zz.2.2.2.2}) (fun zz => (fun (g162 : Nat) (y213 : Int) (g312 : Nat) (y363 : ByteArray) (g462 : Nat) => (⟨[(2,.p 0 0),(3,.p 1 0),(28,.v (.slice b1a b1m.held.length b1c)),(36,.v (.slice (some ⟨g462,0,none⟩) 1 1))],[⟨41,rcvZ⟩,⟨41,rcvL b1m (.slice b1a b1m.held.length b1c)⟩],[],[curF B g 137 (.slice A J.length cap) J.length,rowF (cutW w B).heap.size 85 2 (.slice b1a b1m.held.length b1c) (b1m.held.map pC),slF (.slice A J.length cap) 1 (J.map bR),frF w (fun b => b = g),rowF (cutW w B).heap.size 3 1 (.slice (some ⟨g162,0,none⟩) 7 7) (([0,1,20,31,32,(-1),9223372036854775807] : List Int).map intRow),rowF (cutW w B).heap.size 85 2 (.slice (some ⟨g462,0,none⟩) 1 1) (([⟨y213,y363⟩] : List Pce).map pC),rowF (cutW w B).heap.size 9 1 (.slice (some ⟨g312,0,none⟩) 3 3) (([(⟨#[]⟩ : ByteArray),(⟨#[120]⟩ : ByteArray),(⟨#[121,122]⟩ : ByteArray)] : List ByteArray).map strRow)]⟩ : St)) zz.1.1 zz.1.2.1 zz.1.2.2.1 zz.1.2.2.2.1 zz.1.2.2.2.2) 3 (listB 13 1023) ?_ (fun hD5 => ?_)
 rintro ⟨⟨g162,y213,g312,y363,g462⟩,hy363⟩
 dsimp only
 try dsimp only at hy363
 refine kA [10] ?_
 refine kSH 10 rfl (under_t (under_f rfl under_nil)) (hv_append (e := 85) (K := 2) (bytes := 24) (i := 1) (q := (b1m.held ++ ([⟨y213,y363⟩] : List Pce)).length) (new := ([⟨y213,y363⟩] : List Pce).map pC) (rs' := (b1m.held ++ ([⟨y213,y363⟩] : List Pce)).map pC) rfl rfl rfl rfl (by kernel_rfl) (by kernel_rfl) (by kernel_rfl) rfl (by simp) (by rw [List.map_append]) (by simp) (fun ww hf => (rowF_sl (hf (rowF (cutW w B).heap.size 85 2 (.slice (some ⟨g462,0,none⟩) 1 1) (([⟨y213,y363⟩] : List Pce).map pC)) (by simp)))) (by intro r hr; obtain ⟨x,hx,rfl⟩ := List.mem_map.1 hr; exact ⟨rfl,by simp [pC,Value.oneCell']⟩) (by (try simp only [List.length_map,List.length_append,List.length_cons,List.length_nil,List.length_take,List.length_drop,maxLen]); omega) (by (try simp only [List.length_map,List.length_append,List.length_cons,List.length_nil,List.length_take,List.length_drop,maxLen]); omega)) ?_
 rintro ⟨v512a,v512c⟩
 exact xe_wkL (kPk [1,2,3,4,5,0,6] <| kF 2 0 [2,3,37]) (by kernel_rfl) (hD6 ⟨(g162,y213,g312,y363,g462,v512a,v512c),hy363⟩)
 refine xe_cut (α := {zz : Nat × Int × Nat × ByteArray // (fun (g162 : Nat) (y213 : Int) (g312 : Nat) (y363 : ByteArray) => y363 ∈ ([(⟨#[]⟩ : ByteArray),(⟨#[120]⟩ : ByteArray),(⟨#[121,122]⟩ : ByteArray)] : List ByteArray)) zz.1 zz.2.1 zz.2.2.1 zz.2.2.2}) (fun zz => (fun (g162 : Nat) (y213 : Int) (g312 : Nat) (y363 : ByteArray) => (⟨[(2,.p 0 0),(3,.p 1 0),(28,.v (.slice b1a b1m.held.length b1c)),(31,.v (.int .i64 y213)),(34,.v (.string y363))],[⟨41,rcvZ⟩,⟨41,rcvL b1m (.slice b1a b1m.held.length b1c)⟩],[],[curF B g 137 (.slice A J.length cap) J.length,rowF (cutW w B).heap.size 85 2 (.slice b1a b1m.held.length b1c) (b1m.held.map pC),slF (.slice A J.length cap) 1 (J.map bR),frF w (fun b => b = g),rowF (cutW w B).heap.size 3 1 (.slice (some ⟨g162,0,none⟩) 7 7) (([0,1,20,31,32,(-1),9223372036854775807] : List Int).map intRow),rowF (cutW w B).heap.size 9 1 (.slice (some ⟨g312,0,none⟩) 3 3) (([(⟨#[]⟩ : ByteArray),(⟨#[120]⟩ : ByteArray),(⟨#[121,122]⟩ : ByteArray)] : List ByteArray).map strRow)]⟩ : St)) zz.1.1 zz.1.2.1 zz.1.2.2.1 zz.1.2.2.2) 5 (listB 13 255) ?_ (fun hD4 => ?_)
 rintro ⟨⟨g162,y213,g312,y363⟩,hy363⟩
 dsimp only
 try dsimp only at hy363
 refine kX 8 (.agg (pceL (⟨y213,y363⟩ : Pce)).toArray) rfl (fun _ _ ww hA => act_build [(0,.int .i64 y213),(1,.string y363)] hA rfl (by kernel_rfl) (by kernel_rfl) ww) ?_
 refine kA [9] ?_
 refine kSH 9 rfl (under_t (under_f rfl under_nil)) (hv_build (e := 85) (K := 2) (bytes := 24) [.agg (pceL (⟨y213,y363⟩ : Pce)).toArray] rfl (by kernel_rfl) (by kernel_rfl) (by kernel_rfl) (by kernel_rfl) (by kernel_rfl) (rs := ([⟨y213,y363⟩] : List Pce).map pC) rfl) ?_
 intro g462
 exact xe_wkL (kPk [1,2,3,4,5,0,6] <| kF 2 0 [2,3,28,36]) (by kernel_rfl) (hD5 ⟨(g162,y213,g312,y363,g462),hy363⟩)
 refine xe_cut (α := Nat × Int × Nat) (fun zz => (fun (g162 : Nat) (y213 : Int) (g312 : Nat) => (⟨[(2,.p 0 0),(3,.p 1 0),(28,.v (.slice b1a b1m.held.length b1c)),(31,.v (.int .i64 y213)),(32,.v (.pointer (some ⟨g,0,none⟩))),(33,.v (.slice (some ⟨g312,0,none⟩) 3 3))],[⟨41,rcvZ⟩,⟨41,rcvL b1m (.slice b1a b1m.held.length b1c)⟩],[],[curF B g 137 (.slice A J.length cap) J.length,rowF (cutW w B).heap.size 85 2 (.slice b1a b1m.held.length b1c) (b1m.held.map pC),slF (.slice A J.length cap) 1 (J.map bR),frF w (fun b => b = g),rowF (cutW w B).heap.size 3 1 (.slice (some ⟨g162,0,none⟩) 7 7) (([0,1,20,31,32,(-1),9223372036854775807] : List Int).map intRow),rowF (cutW w B).heap.size 9 1 (.slice (some ⟨g312,0,none⟩) 3 3) (([(⟨#[]⟩ : ByteArray),(⟨#[120]⟩ : ByteArray),(⟨#[121,122]⟩ : ByteArray)] : List ByteArray).map strRow)]⟩ : St)) zz.1 zz.2.1 zz.2.2) 6 (listB 13 127) ?_ (fun hD3 => ?_)
 rintro ⟨g162,y213,g312⟩
 dsimp only
 refine kA [7] ?_
 refine xs_know (φ := ¬ (slF (.slice (some ⟨g312,0,none⟩) 3 3) 1 (([(⟨#[]⟩ : ByteArray),(⟨#[120]⟩ : ByteArray),(⟨#[121,122]⟩ : ByteArray)] : List ByteArray).map strRow)).blk g) (fun _ _ _ _ hr => fun hb => hr.2.apart 5 0 (rowF (cutW w B).heap.size 9 1 (.slice (some ⟨g312,0,none⟩) 3 3) (([(⟨#[]⟩ : ByteArray),(⟨#[120]⟩ : ByteArray),(⟨#[121,122]⟩ : ByteArray)] : List ByteArray).map strRow)) (curF B g 137 (.slice A J.length cap) J.length) rfl rfl (by decide) rfl g (rowF_sblk hb) rfl) (fun hk362 => ?_)
 refine kSW 7 158 [.pointer (some ⟨g,0,none⟩),.slice (some ⟨g312,0,none⟩) 3 3] (some 34) 0 rfl rfl hlo (under_t (under_f rfl under_nil)) (l1Pick_c_K hBw hap (fun ww hw hf => (rowF_sl (hf _ m5))) hk362 (by simp)) ?_
 rintro ⟨y363,hy363⟩
 exact xe_wkL (kF 2 0 [2,3,28,31,34]) (by kernel_rfl) (hD4 ⟨(g162,y213,g312,y363),hy363⟩)
 refine xe_cut (α := Nat × Int) (fun zz => (fun (g162 : Nat) (y213 : Int) => (⟨[(2,.p 0 0),(3,.p 1 0),(28,.v (.slice b1a b1m.held.length b1c)),(31,.v (.int .i64 y213)),(32,.v (.pointer (some ⟨g,0,none⟩)))],[⟨41,rcvZ⟩,⟨41,rcvL b1m (.slice b1a b1m.held.length b1c)⟩],[],[curF B g 137 (.slice A J.length cap) J.length,rowF (cutW w B).heap.size 85 2 (.slice b1a b1m.held.length b1c) (b1m.held.map pC),slF (.slice A J.length cap) 1 (J.map bR),frF w (fun b => b = g),rowF (cutW w B).heap.size 3 1 (.slice (some ⟨g162,0,none⟩) 7 7) (([0,1,20,31,32,(-1),9223372036854775807] : List Int).map intRow)]⟩ : St)) zz.1 zz.2) 7 (listB 13 63) ?_ (fun hD2 => ?_)
 rintro ⟨g162,y213⟩
 dsimp only
 refine kA [6] ?_
 refine kSH 6 rfl (under_t (under_f rfl under_nil)) (hv_build (e := 9) (K := 1) (bytes := 16) [.string (⟨#[]⟩ : ByteArray),.string (⟨#[120]⟩ : ByteArray),.string (⟨#[121,122]⟩ : ByteArray)] rfl (by kernel_rfl) (by kernel_rfl) (by kernel_rfl) (by kernel_rfl) (by kernel_rfl) (rs := ([(⟨#[]⟩ : ByteArray),(⟨#[120]⟩ : ByteArray),(⟨#[121,122]⟩ : ByteArray)] : List ByteArray).map strRow) rfl) ?_
 intro g312
 exact xe_wkL (kPk [1,2,3,4,5,0] <| kF 2 0 [2,3,28,31,32,33]) (by kernel_rfl) (hD3 (g162,y213,g312))
 refine xe_cut (α := Nat × Nat) (fun zz => (fun (g162 : Nat) (g312 : Nat) => (⟨[(2,.p 0 0),(3,.p 1 0),(28,.v (.slice b1a b1m.held.length b1c)),(29,.v (.pointer (some ⟨g,0,none⟩))),(30,.v (.slice (some ⟨g162,0,none⟩) 7 7)),(32,.v (.pointer (some ⟨g,0,none⟩))),(33,.v (.slice (some ⟨g312,0,none⟩) 3 3))],[⟨41,rcvZ⟩,⟨41,rcvL b1m (.slice b1a b1m.held.length b1c)⟩],[],[curF B g 137 (.slice A J.length cap) J.length,rowF (cutW w B).heap.size 85 2 (.slice b1a b1m.held.length b1c) (b1m.held.map pC),slF (.slice A J.length cap) 1 (J.map bR),frF w (fun b => b = g),rowF (cutW w B).heap.size 3 1 (.slice (some ⟨g162,0,none⟩) 7 7) (([0,1,20,31,32,(-1),9223372036854775807] : List Int).map intRow),rowF (cutW w B).heap.size 9 1 (.slice (some ⟨g312,0,none⟩) 3 3) (([(⟨#[]⟩ : ByteArray),(⟨#[120]⟩ : ByteArray),(⟨#[121,122]⟩ : ByteArray)] : List ByteArray).map strRow)]⟩ : St)) zz.1 zz.2) 7 (listB 13 111) ?_ (fun hD8 => ?_)
 rintro ⟨g162,g312⟩
 dsimp only
 refine kA [4] ?_
 refine xs_know (φ := ¬ (slF (.slice (some ⟨g162,0,none⟩) 7 7) 1 (([0,1,20,31,32,(-1),9223372036854775807] : List Int).map intRow)).blk g) (fun _ _ _ _ hr => fun hb => hr.2.apart 4 0 (rowF (cutW w B).heap.size 3 1 (.slice (some ⟨g162,0,none⟩) 7 7) (([0,1,20,31,32,(-1),9223372036854775807] : List Int).map intRow)) (curF B g 137 (.slice A J.length cap) J.length) rfl rfl (by decide) rfl g (rowF_sblk hb) rfl) (fun hk212 => ?_)
 refine kSW 4 136 [.pointer (some ⟨g,0,none⟩),.slice (some ⟨g162,0,none⟩) 7 7] (some 31) 0 rfl rfl hlo (under_t (under_f rfl under_nil)) (l1PickInt_c_K hBw hap (fun ww hw hf => (rowF_sl (hf _ m4))) hk212 (by simp)) ?_
 rintro ⟨y213,hy213⟩
 exact xe_wkL (kF 2 0 [2,3,28,31,32,33]) (by kernel_rfl) (hD3 (g162,y213,g312))
 refine xe_cut (α := Nat) (fun zz => (fun (g162 : Nat) => (⟨[(2,.p 0 0),(3,.p 1 0),(28,.v (.slice b1a b1m.held.length b1c)),(29,.v (.pointer (some ⟨g,0,none⟩))),(30,.v (.slice (some ⟨g162,0,none⟩) 7 7)),(32,.v (.pointer (some ⟨g,0,none⟩)))],[⟨41,rcvZ⟩,⟨41,rcvL b1m (.slice b1a b1m.held.length b1c)⟩],[],[curF B g 137 (.slice A J.length cap) J.length,rowF (cutW w B).heap.size 85 2 (.slice b1a b1m.held.length b1c) (b1m.held.map pC),slF (.slice A J.length cap) 1 (J.map bR),frF w (fun b => b = g),rowF (cutW w B).heap.size 3 1 (.slice (some ⟨g162,0,none⟩) 7 7) (([0,1,20,31,32,(-1),9223372036854775807] : List Int).map intRow)]⟩ : St)) zz) 8 (listB 13 47) ?_ (fun hD1 => ?_)
 intro g162
 try dsimp only
 refine kA [4,6] ⟨?_,?_⟩
 refine xs_know (φ := ¬ (slF (.slice (some ⟨g162,0,none⟩) 7 7) 1 (([0,1,20,31,32,(-1),9223372036854775807] : List Int).map intRow)).blk g) (fun _ _ _ _ hr => fun hb => hr.2.apart 4 0 (rowF (cutW w B).heap.size 3 1 (.slice (some ⟨g162,0,none⟩) 7 7) (([0,1,20,31,32,(-1),9223372036854775807] : List Int).map intRow)) (curF B g 137 (.slice A J.length cap) J.length) rfl rfl (by decide) rfl g (rowF_sblk hb) rfl) (fun hk212 => ?_)
 refine kSW 4 136 [.pointer (some ⟨g,0,none⟩),.slice (some ⟨g162,0,none⟩) 7 7] (some 31) 0 rfl rfl hlo (under_t (under_f rfl under_nil)) (l1PickInt_c_K hBw hap (fun ww hw hf => (rowF_sl (hf _ m4))) hk212 (by simp)) ?_
 rintro ⟨y213,hy213⟩
 exact xe_wkL (kF 2 0 [2,3,28,31,32]) (by kernel_rfl) (hD2 (g162,y213))
 refine kSH 6 rfl (under_t (under_f rfl under_nil)) (hv_build (e := 9) (K := 1) (bytes := 16) [.string (⟨#[]⟩ : ByteArray),.string (⟨#[120]⟩ : ByteArray),.string (⟨#[121,122]⟩ : ByteArray)] rfl (by kernel_rfl) (by kernel_rfl) (by kernel_rfl) (by kernel_rfl) (by kernel_rfl) (rs := ([(⟨#[]⟩ : ByteArray),(⟨#[120]⟩ : ByteArray),(⟨#[121,122]⟩ : ByteArray)] : List ByteArray).map strRow) rfl) ?_
 intro g312
 exact xe_wkL (kPk [1,2,3,4,5,0] <| kF 2 0 [2,3,28,29,30,32,33]) (by kernel_rfl) (hD8 (g162,g312))
 refine xe_cut (α := Nat) (fun zz => (fun (g312 : Nat) => (⟨[(2,.p 0 0),(3,.p 1 0),(28,.v (.slice b1a b1m.held.length b1c)),(29,.v (.pointer (some ⟨g,0,none⟩))),(32,.v (.pointer (some ⟨g,0,none⟩))),(33,.v (.slice (some ⟨g312,0,none⟩) 3 3))],[⟨41,rcvZ⟩,⟨41,rcvL b1m (.slice b1a b1m.held.length b1c)⟩],[],[curF B g 137 (.slice A J.length cap) J.length,rowF (cutW w B).heap.size 85 2 (.slice b1a b1m.held.length b1c) (b1m.held.map pC),slF (.slice A J.length cap) 1 (J.map bR),frF w (fun b => b = g),rowF (cutW w B).heap.size 9 1 (.slice (some ⟨g312,0,none⟩) 3 3) (([(⟨#[]⟩ : ByteArray),(⟨#[120]⟩ : ByteArray),(⟨#[121,122]⟩ : ByteArray)] : List ByteArray).map strRow)]⟩ : St)) zz) 8 (listB 13 103) ?_ (fun hD9 => ?_)
 intro g312
 try dsimp only
 refine kA [3] ?_
 refine kSH 3 rfl (under_t (under_f rfl under_nil)) (hv_build (e := 3) (K := 1) (bytes := 8) [.int .i64 0,.int .i64 1,.int .i64 20,.int .i64 31,.int .i64 32,.int .i64 (-1),.int .i64 9223372036854775807] rfl (by kernel_rfl) (by kernel_rfl) (by kernel_rfl) (by kernel_rfl) (by kernel_rfl) (rs := ([0,1,20,31,32,(-1),9223372036854775807] : List Int).map intRow) rfl) ?_
 intro g162
 exact xe_wkL (kPk [1,2,3,4,0,5] <| kF 2 0 [2,3,28,29,30,32,33]) (by kernel_rfl) (hD8 (g162,g312))
 refine xe_cutT (α := Unit) (fun zz => (fun (u_ : Unit) => [(2,.p 0 0),(3,.p 1 0),(28,.v (.slice b1a b1m.held.length b1c)),(29,.v (.pointer (some ⟨g,0,none⟩))),(32,.v (.pointer (some ⟨g,0,none⟩)))]) zz) 9 (listB 13 39) ?_ (fun hD0 => ?_)
 intro u_
 try dsimp only
 refine kA [3,6] ⟨?_,?_⟩
 refine kSH 3 rfl (under_t (under_f rfl under_nil)) (hv_build (e := 3) (K := 1) (bytes := 8) [.int .i64 0,.int .i64 1,.int .i64 20,.int .i64 31,.int .i64 32,.int .i64 (-1),.int .i64 9223372036854775807] rfl (by kernel_rfl) (by kernel_rfl) (by kernel_rfl) (by kernel_rfl) (by kernel_rfl) (rs := ([0,1,20,31,32,(-1),9223372036854775807] : List Int).map intRow) rfl) ?_
 intro g162
 exact xe_wkL (kPk [1,2,3,4,0] <| kF 2 0 [2,3,28,29,30,32]) (by kernel_rfl) (hD1 (g162))
 refine kSH 6 rfl (under_t (under_f rfl under_nil)) (hv_build (e := 9) (K := 1) (bytes := 16) [.string (⟨#[]⟩ : ByteArray),.string (⟨#[120]⟩ : ByteArray),.string (⟨#[121,122]⟩ : ByteArray)] rfl (by kernel_rfl) (by kernel_rfl) (by kernel_rfl) (by kernel_rfl) (by kernel_rfl) (rs := ([(⟨#[]⟩ : ByteArray),(⟨#[120]⟩ : ByteArray),(⟨#[121,122]⟩ : ByteArray)] : List ByteArray).map strRow) rfl) ?_
 intro g312
 exact xe_wkL (kPk [1,2,3,4,0] <| kF 2 0 [2,3,28,29,32,33]) (by kernel_rfl) (hD9 (g312))
 refine xe_cut (α := {zz : Nat × Int × Nat × ByteArray // (fun (g162 : Nat) (y213 : Int) (g312 : Nat) (y363 : ByteArray) => y363 ∈ ([(⟨#[]⟩ : ByteArray),(⟨#[120]⟩ : ByteArray),(⟨#[121,122]⟩ : ByteArray)] : List ByteArray)) zz.1 zz.2.1 zz.2.2.1 zz.2.2.2}) (fun zz => (fun (g162 : Nat) (y213 : Int) (g312 : Nat) (y363 : ByteArray) => (⟨[(2,.p 0 0),(3,.p 1 0),(28,.v (.slice b1a b1m.held.length b1c)),(35,.v (.agg (pceL (⟨y213,y363⟩ : Pce)).toArray))],[⟨41,rcvZ⟩,⟨41,rcvL b1m (.slice b1a b1m.held.length b1c)⟩],[],[curF B g 137 (.slice A J.length cap) J.length,rowF (cutW w B).heap.size 85 2 (.slice b1a b1m.held.length b1c) (b1m.held.map pC),slF (.slice A J.length cap) 1 (J.map bR),frF w (fun b => b = g),rowF (cutW w B).heap.size 3 1 (.slice (some ⟨g162,0,none⟩) 7 7) (([0,1,20,31,32,(-1),9223372036854775807] : List Int).map intRow),rowF (cutW w B).heap.size 9 1 (.slice (some ⟨g312,0,none⟩) 3 3) (([(⟨#[]⟩ : ByteArray),(⟨#[120]⟩ : ByteArray),(⟨#[121,122]⟩ : ByteArray)] : List ByteArray).map strRow)]⟩ : St)) zz.1.1 zz.1.2.1 zz.1.2.2.1 zz.1.2.2.2) 4 (listB 13 511) ?_ (fun hD14 => ?_)
 rintro ⟨⟨g162,y213,g312,y363⟩,hy363⟩
 dsimp only
 try dsimp only at hy363
 refine kA [9] ?_
 refine kSH 9 rfl (under_t (under_f rfl under_nil)) (hv_build (e := 85) (K := 2) (bytes := 24) [.agg (pceL (⟨y213,y363⟩ : Pce)).toArray] rfl (by kernel_rfl) (by kernel_rfl) (by kernel_rfl) (by kernel_rfl) (by kernel_rfl) (rs := ([⟨y213,y363⟩] : List Pce).map pC) rfl) ?_
 intro g462
 exact xe_wkL (kPk [1,2,3,4,5,0,6] <| kF 2 0 [2,3,28,36]) (by kernel_rfl) (hD5 ⟨(g162,y213,g312,y363,g462),hy363⟩)
 refine xe_cut (α := {zz : Nat × Int × Nat × ByteArray × Nat // (fun (g162 : Nat) (y213 : Int) (g312 : Nat) (y363 : ByteArray) (g462 : Nat) => y363 ∈ ([(⟨#[]⟩ : ByteArray),(⟨#[120]⟩ : ByteArray),(⟨#[121,122]⟩ : ByteArray)] : List ByteArray)) zz.1 zz.2.1 zz.2.2.1 zz.2.2.2.1 zz.2.2.2.2}) (fun zz => (fun (g162 : Nat) (y213 : Int) (g312 : Nat) (y363 : ByteArray) (g462 : Nat) => (⟨[(2,.p 0 0),(3,.p 1 0),(27,.p 1 2),(36,.v (.slice (some ⟨g462,0,none⟩) 1 1))],[⟨41,rcvZ⟩,⟨41,rcvL b1m (.slice b1a b1m.held.length b1c)⟩],[],[curF B g 137 (.slice A J.length cap) J.length,rowF (cutW w B).heap.size 85 2 (.slice b1a b1m.held.length b1c) (b1m.held.map pC),slF (.slice A J.length cap) 1 (J.map bR),frF w (fun b => b = g),rowF (cutW w B).heap.size 3 1 (.slice (some ⟨g162,0,none⟩) 7 7) (([0,1,20,31,32,(-1),9223372036854775807] : List Int).map intRow),rowF (cutW w B).heap.size 85 2 (.slice (some ⟨g462,0,none⟩) 1 1) (([⟨y213,y363⟩] : List Pce).map pC),rowF (cutW w B).heap.size 9 1 (.slice (some ⟨g312,0,none⟩) 3 3) (([(⟨#[]⟩ : ByteArray),(⟨#[120]⟩ : ByteArray),(⟨#[121,122]⟩ : ByteArray)] : List ByteArray).map strRow)]⟩ : St)) zz.1.1 zz.1.2.1 zz.1.2.2.1 zz.1.2.2.2.1 zz.1.2.2.2.2) 4 (listB 13 1021) ?_ (fun hD15 => ?_)
 rintro ⟨⟨g162,y213,g312,y363,g462⟩,hy363⟩
 dsimp only
 try dsimp only at hy363
 refine kA [1] ?_
 refine kSV 1 (.v (.slice b1a b1m.held.length b1c)) rfl ?_
 exact xe_wkL (kF 2 0 [2,3,28,36]) (by kernel_rfl) (hD5 ⟨(g162,y213,g312,y363,g462),hy363⟩)
 refine xe_cut (α := {zz : Nat × Int × Nat × ByteArray // (fun (g162 : Nat) (y213 : Int) (g312 : Nat) (y363 : ByteArray) => y363 ∈ ([(⟨#[]⟩ : ByteArray),(⟨#[120]⟩ : ByteArray),(⟨#[121,122]⟩ : ByteArray)] : List ByteArray)) zz.1 zz.2.1 zz.2.2.1 zz.2.2.2}) (fun zz => (fun (g162 : Nat) (y213 : Int) (g312 : Nat) (y363 : ByteArray) => (⟨[(2,.p 0 0),(3,.p 1 0),(27,.p 1 2),(31,.v (.int .i64 y213)),(34,.v (.string y363))],[⟨41,rcvZ⟩,⟨41,rcvL b1m (.slice b1a b1m.held.length b1c)⟩],[],[curF B g 137 (.slice A J.length cap) J.length,rowF (cutW w B).heap.size 85 2 (.slice b1a b1m.held.length b1c) (b1m.held.map pC),slF (.slice A J.length cap) 1 (J.map bR),frF w (fun b => b = g),rowF (cutW w B).heap.size 3 1 (.slice (some ⟨g162,0,none⟩) 7 7) (([0,1,20,31,32,(-1),9223372036854775807] : List Int).map intRow),rowF (cutW w B).heap.size 9 1 (.slice (some ⟨g312,0,none⟩) 3 3) (([(⟨#[]⟩ : ByteArray),(⟨#[120]⟩ : ByteArray),(⟨#[121,122]⟩ : ByteArray)] : List ByteArray).map strRow)]⟩ : St)) zz.1.1 zz.1.2.1 zz.1.2.2.1 zz.1.2.2.2) 6 (listB 13 253) ?_ (fun hD13 => ?_)
 rintro ⟨⟨g162,y213,g312,y363⟩,hy363⟩
 dsimp only
 try dsimp only at hy363
 refine kX 8 (.agg (pceL (⟨y213,y363⟩ : Pce)).toArray) rfl (fun _ _ ww hA => act_build [(0,.int .i64 y213),(1,.string y363)] hA rfl (by kernel_rfl) (by kernel_rfl) ww) ?_
 refine kA [1,9] ⟨?_,?_⟩
 refine kSV 1 (.v (.slice b1a b1m.held.length b1c)) rfl ?_
 exact xe_wkL (kF 2 0 [2,3,28,35]) (by kernel_rfl) (hD14 ⟨(g162,y213,g312,y363),hy363⟩)
 refine kSH 9 rfl (under_t (under_f rfl under_nil)) (hv_build (e := 85) (K := 2) (bytes := 24) [.agg (pceL (⟨y213,y363⟩ : Pce)).toArray] rfl (by kernel_rfl) (by kernel_rfl) (by kernel_rfl) (by kernel_rfl) (by kernel_rfl) (rs := ([⟨y213,y363⟩] : List Pce).map pC) rfl) ?_
 intro g462
 exact xe_wkL (kPk [1,2,3,4,5,0,6] <| kF 2 0 [2,3,27,36]) (by kernel_rfl) (hD15 ⟨(g162,y213,g312,y363,g462),hy363⟩)
 refine xe_cut (α := Nat × Int × Nat) (fun zz => (fun (g162 : Nat) (y213 : Int) (g312 : Nat) => (⟨[(2,.p 0 0),(3,.p 1 0),(27,.p 1 2),(31,.v (.int .i64 y213)),(32,.v (.pointer (some ⟨g,0,none⟩))),(33,.v (.slice (some ⟨g312,0,none⟩) 3 3))],[⟨41,rcvZ⟩,⟨41,rcvL b1m (.slice b1a b1m.held.length b1c)⟩],[],[curF B g 137 (.slice A J.length cap) J.length,rowF (cutW w B).heap.size 85 2 (.slice b1a b1m.held.length b1c) (b1m.held.map pC),slF (.slice A J.length cap) 1 (J.map bR),frF w (fun b => b = g),rowF (cutW w B).heap.size 3 1 (.slice (some ⟨g162,0,none⟩) 7 7) (([0,1,20,31,32,(-1),9223372036854775807] : List Int).map intRow),rowF (cutW w B).heap.size 9 1 (.slice (some ⟨g312,0,none⟩) 3 3) (([(⟨#[]⟩ : ByteArray),(⟨#[120]⟩ : ByteArray),(⟨#[121,122]⟩ : ByteArray)] : List ByteArray).map strRow)]⟩ : St)) zz.1 zz.2.1 zz.2.2) 7 (listB 13 125) ?_ (fun hD12 => ?_)
 rintro ⟨g162,y213,g312⟩
 dsimp only
 refine kA [1,7] ⟨?_,?_⟩
 refine kSV 1 (.v (.slice b1a b1m.held.length b1c)) rfl ?_
 exact xe_wkL (kF 2 0 [2,3,28,31,32,33]) (by kernel_rfl) (hD3 (g162,y213,g312))
 refine xs_know (φ := ¬ (slF (.slice (some ⟨g312,0,none⟩) 3 3) 1 (([(⟨#[]⟩ : ByteArray),(⟨#[120]⟩ : ByteArray),(⟨#[121,122]⟩ : ByteArray)] : List ByteArray).map strRow)).blk g) (fun _ _ _ _ hr => fun hb => hr.2.apart 5 0 (rowF (cutW w B).heap.size 9 1 (.slice (some ⟨g312,0,none⟩) 3 3) (([(⟨#[]⟩ : ByteArray),(⟨#[120]⟩ : ByteArray),(⟨#[121,122]⟩ : ByteArray)] : List ByteArray).map strRow)) (curF B g 137 (.slice A J.length cap) J.length) rfl rfl (by decide) rfl g (rowF_sblk hb) rfl) (fun hk362 => ?_)
 refine kSW 7 158 [.pointer (some ⟨g,0,none⟩),.slice (some ⟨g312,0,none⟩) 3 3] (some 34) 0 rfl rfl hlo (under_t (under_f rfl under_nil)) (l1Pick_c_K hBw hap (fun ww hw hf => (rowF_sl (hf _ m5))) hk362 (by simp)) ?_
 rintro ⟨y363,hy363⟩
 exact xe_wkL (kF 2 0 [2,3,27,31,34]) (by kernel_rfl) (hD13 ⟨(g162,y213,g312,y363),hy363⟩)
 refine xe_cut (α := Nat × Int) (fun zz => (fun (g162 : Nat) (y213 : Int) => (⟨[(2,.p 0 0),(3,.p 1 0),(27,.p 1 2),(31,.v (.int .i64 y213)),(32,.v (.pointer (some ⟨g,0,none⟩)))],[⟨41,rcvZ⟩,⟨41,rcvL b1m (.slice b1a b1m.held.length b1c)⟩],[],[curF B g 137 (.slice A J.length cap) J.length,rowF (cutW w B).heap.size 85 2 (.slice b1a b1m.held.length b1c) (b1m.held.map pC),slF (.slice A J.length cap) 1 (J.map bR),frF w (fun b => b = g),rowF (cutW w B).heap.size 3 1 (.slice (some ⟨g162,0,none⟩) 7 7) (([0,1,20,31,32,(-1),9223372036854775807] : List Int).map intRow)]⟩ : St)) zz.1 zz.2) 8 (listB 13 61) ?_ (fun hD11 => ?_)
 rintro ⟨g162,y213⟩
 dsimp only
 refine kA [1,6] ⟨?_,?_⟩
 refine kSV 1 (.v (.slice b1a b1m.held.length b1c)) rfl ?_
 exact xe_wkL (kF 2 0 [2,3,28,31,32]) (by kernel_rfl) (hD2 (g162,y213))
 refine kSH 6 rfl (under_t (under_f rfl under_nil)) (hv_build (e := 9) (K := 1) (bytes := 16) [.string (⟨#[]⟩ : ByteArray),.string (⟨#[120]⟩ : ByteArray),.string (⟨#[121,122]⟩ : ByteArray)] rfl (by kernel_rfl) (by kernel_rfl) (by kernel_rfl) (by kernel_rfl) (by kernel_rfl) (rs := ([(⟨#[]⟩ : ByteArray),(⟨#[120]⟩ : ByteArray),(⟨#[121,122]⟩ : ByteArray)] : List ByteArray).map strRow) rfl) ?_
 intro g312
 exact xe_wkL (kPk [1,2,3,4,5,0] <| kF 2 0 [2,3,27,31,32,33]) (by kernel_rfl) (hD12 (g162,y213,g312))
 refine xe_cut (α := Nat × Nat) (fun zz => (fun (g162 : Nat) (g312 : Nat) => (⟨[(2,.p 0 0),(3,.p 1 0),(27,.p 1 2),(29,.v (.pointer (some ⟨g,0,none⟩))),(30,.v (.slice (some ⟨g162,0,none⟩) 7 7)),(32,.v (.pointer (some ⟨g,0,none⟩))),(33,.v (.slice (some ⟨g312,0,none⟩) 3 3))],[⟨41,rcvZ⟩,⟨41,rcvL b1m (.slice b1a b1m.held.length b1c)⟩],[],[curF B g 137 (.slice A J.length cap) J.length,rowF (cutW w B).heap.size 85 2 (.slice b1a b1m.held.length b1c) (b1m.held.map pC),slF (.slice A J.length cap) 1 (J.map bR),frF w (fun b => b = g),rowF (cutW w B).heap.size 3 1 (.slice (some ⟨g162,0,none⟩) 7 7) (([0,1,20,31,32,(-1),9223372036854775807] : List Int).map intRow),rowF (cutW w B).heap.size 9 1 (.slice (some ⟨g312,0,none⟩) 3 3) (([(⟨#[]⟩ : ByteArray),(⟨#[120]⟩ : ByteArray),(⟨#[121,122]⟩ : ByteArray)] : List ByteArray).map strRow)]⟩ : St)) zz.1 zz.2) 8 (listB 13 109) ?_ (fun hD16 => ?_)
 rintro ⟨g162,g312⟩
 dsimp only
 refine kA [1,4] ⟨?_,?_⟩
 refine kSV 1 (.v (.slice b1a b1m.held.length b1c)) rfl ?_
 exact xe_wkL (kF 2 0 [2,3,28,29,30,32,33]) (by kernel_rfl) (hD8 (g162,g312))
 refine xs_know (φ := ¬ (slF (.slice (some ⟨g162,0,none⟩) 7 7) 1 (([0,1,20,31,32,(-1),9223372036854775807] : List Int).map intRow)).blk g) (fun _ _ _ _ hr => fun hb => hr.2.apart 4 0 (rowF (cutW w B).heap.size 3 1 (.slice (some ⟨g162,0,none⟩) 7 7) (([0,1,20,31,32,(-1),9223372036854775807] : List Int).map intRow)) (curF B g 137 (.slice A J.length cap) J.length) rfl rfl (by decide) rfl g (rowF_sblk hb) rfl) (fun hk212 => ?_)
 refine kSW 4 136 [.pointer (some ⟨g,0,none⟩),.slice (some ⟨g162,0,none⟩) 7 7] (some 31) 0 rfl rfl hlo (under_t (under_f rfl under_nil)) (l1PickInt_c_K hBw hap (fun ww hw hf => (rowF_sl (hf _ m4))) hk212 (by simp)) ?_
 rintro ⟨y213,hy213⟩
 exact xe_wkL (kF 2 0 [2,3,27,31,32,33]) (by kernel_rfl) (hD12 (g162,y213,g312))
 refine xe_cut (α := Nat) (fun zz => (fun (g162 : Nat) => (⟨[(2,.p 0 0),(3,.p 1 0),(27,.p 1 2),(29,.v (.pointer (some ⟨g,0,none⟩))),(30,.v (.slice (some ⟨g162,0,none⟩) 7 7)),(32,.v (.pointer (some ⟨g,0,none⟩)))],[⟨41,rcvZ⟩,⟨41,rcvL b1m (.slice b1a b1m.held.length b1c)⟩],[],[curF B g 137 (.slice A J.length cap) J.length,rowF (cutW w B).heap.size 85 2 (.slice b1a b1m.held.length b1c) (b1m.held.map pC),slF (.slice A J.length cap) 1 (J.map bR),frF w (fun b => b = g),rowF (cutW w B).heap.size 3 1 (.slice (some ⟨g162,0,none⟩) 7 7) (([0,1,20,31,32,(-1),9223372036854775807] : List Int).map intRow)]⟩ : St)) zz) 9 (listB 13 45) ?_ (fun hD10 => ?_)
 intro g162
 try dsimp only
 refine kA [1,4,6] ⟨?_,?_,?_⟩
 refine kSV 1 (.v (.slice b1a b1m.held.length b1c)) rfl ?_
 exact xe_wkL (kF 2 0 [2,3,28,29,30,32]) (by kernel_rfl) (hD1 (g162))
 refine xs_know (φ := ¬ (slF (.slice (some ⟨g162,0,none⟩) 7 7) 1 (([0,1,20,31,32,(-1),9223372036854775807] : List Int).map intRow)).blk g) (fun _ _ _ _ hr => fun hb => hr.2.apart 4 0 (rowF (cutW w B).heap.size 3 1 (.slice (some ⟨g162,0,none⟩) 7 7) (([0,1,20,31,32,(-1),9223372036854775807] : List Int).map intRow)) (curF B g 137 (.slice A J.length cap) J.length) rfl rfl (by decide) rfl g (rowF_sblk hb) rfl) (fun hk212 => ?_)
 refine kSW 4 136 [.pointer (some ⟨g,0,none⟩),.slice (some ⟨g162,0,none⟩) 7 7] (some 31) 0 rfl rfl hlo (under_t (under_f rfl under_nil)) (l1PickInt_c_K hBw hap (fun ww hw hf => (rowF_sl (hf _ m4))) hk212 (by simp)) ?_
 rintro ⟨y213,hy213⟩
 exact xe_wkL (kF 2 0 [2,3,27,31,32]) (by kernel_rfl) (hD11 (g162,y213))
 refine kSH 6 rfl (under_t (under_f rfl under_nil)) (hv_build (e := 9) (K := 1) (bytes := 16) [.string (⟨#[]⟩ : ByteArray),.string (⟨#[120]⟩ : ByteArray),.string (⟨#[121,122]⟩ : ByteArray)] rfl (by kernel_rfl) (by kernel_rfl) (by kernel_rfl) (by kernel_rfl) (by kernel_rfl) (rs := ([(⟨#[]⟩ : ByteArray),(⟨#[120]⟩ : ByteArray),(⟨#[121,122]⟩ : ByteArray)] : List ByteArray).map strRow) rfl) ?_
 intro g312
 exact xe_wkL (kPk [1,2,3,4,5,0] <| kF 2 0 [2,3,27,29,30,32,33]) (by kernel_rfl) (hD16 (g162,g312))
 refine xe_cut (α := Nat) (fun zz => (fun (g312 : Nat) => (⟨[(2,.p 0 0),(3,.p 1 0),(27,.p 1 2),(29,.v (.pointer (some ⟨g,0,none⟩))),(32,.v (.pointer (some ⟨g,0,none⟩))),(33,.v (.slice (some ⟨g312,0,none⟩) 3 3))],[⟨41,rcvZ⟩,⟨41,rcvL b1m (.slice b1a b1m.held.length b1c)⟩],[],[curF B g 137 (.slice A J.length cap) J.length,rowF (cutW w B).heap.size 85 2 (.slice b1a b1m.held.length b1c) (b1m.held.map pC),slF (.slice A J.length cap) 1 (J.map bR),frF w (fun b => b = g),rowF (cutW w B).heap.size 9 1 (.slice (some ⟨g312,0,none⟩) 3 3) (([(⟨#[]⟩ : ByteArray),(⟨#[120]⟩ : ByteArray),(⟨#[121,122]⟩ : ByteArray)] : List ByteArray).map strRow)]⟩ : St)) zz) 9 (listB 13 101) ?_ (fun hD17 => ?_)
 intro g312
 try dsimp only
 refine kA [1,3] ⟨?_,?_⟩
 refine kSV 1 (.v (.slice b1a b1m.held.length b1c)) rfl ?_
 exact xe_wkL (kF 2 0 [2,3,28,29,32,33]) (by kernel_rfl) (hD9 (g312))
 refine kSH 3 rfl (under_t (under_f rfl under_nil)) (hv_build (e := 3) (K := 1) (bytes := 8) [.int .i64 0,.int .i64 1,.int .i64 20,.int .i64 31,.int .i64 32,.int .i64 (-1),.int .i64 9223372036854775807] rfl (by kernel_rfl) (by kernel_rfl) (by kernel_rfl) (by kernel_rfl) (by kernel_rfl) (rs := ([0,1,20,31,32,(-1),9223372036854775807] : List Int).map intRow) rfl) ?_
 intro g162
 exact xe_wkL (kPk [1,2,3,4,0,5] <| kF 2 0 [2,3,27,29,30,32,33]) (by kernel_rfl) (hD16 (g162,g312))
 refine kTS [0,2,5] [32,29,27,2,3] 10 [(32,.v (.pointer (some ⟨g,0,none⟩))),(29,.v (.pointer (some ⟨g,0,none⟩))),(27,.p 1 2),(2,.p 0 0),(3,.p 1 0)] ?_
 refine kA [1,3,6] ⟨?_,?_,?_⟩
 refine kSV 1 (.v (.slice b1a b1m.held.length b1c)) rfl ?_
 exact xe_wkL (kF 2 0 [2,3,28,29,32]) (by kernel_rfl) (hD0 ())
 refine kSH 3 rfl (under_t (under_f rfl under_nil)) (hv_build (e := 3) (K := 1) (bytes := 8) [.int .i64 0,.int .i64 1,.int .i64 20,.int .i64 31,.int .i64 32,.int .i64 (-1),.int .i64 9223372036854775807] rfl (by kernel_rfl) (by kernel_rfl) (by kernel_rfl) (by kernel_rfl) (by kernel_rfl) (rs := ([0,1,20,31,32,(-1),9223372036854775807] : List Int).map intRow) rfl) ?_
 intro g162
 exact xe_wkL (kPk [1,2,3,4,0] <| kF 2 0 [2,3,27,29,30,32]) (by kernel_rfl) (hD10 (g162))
 refine kSH 6 rfl (under_t (under_f rfl under_nil)) (hv_build (e := 9) (K := 1) (bytes := 16) [.string (⟨#[]⟩ : ByteArray),.string (⟨#[120]⟩ : ByteArray),.string (⟨#[121,122]⟩ : ByteArray)] rfl (by kernel_rfl) (by kernel_rfl) (by kernel_rfl) (by kernel_rfl) (by kernel_rfl) (rs := ([(⟨#[]⟩ : ByteArray),(⟨#[120]⟩ : ByteArray),(⟨#[121,122]⟩ : ByteArray)] : List ByteArray).map strRow) rfl) ?_
 intro g312
 exact xe_wkL (kPk [1,2,3,4,0] <| kF 2 0 [2,3,27,29,32,33]) (by kernel_rfl) (hD17 (g312))
 have h10p := eqF h10
 refine kQ ?_
 refine kED [0,2,3,39] [(39,.v (.bool (y2 == 4)))] ?_
 refine kC (y2 == 4) (fun h674 => ?_) (fun h674 => ?_)
 have h674p := eqT h674
 refine kG ?_
 refine kWD 1 [2,3,41] [(41,.v (.pointer (some ⟨g,0,none⟩)))] 133 [.pointer (some ⟨g,0,none⟩),.int .i64 3] (some 42) 0 rfl rfl hlo (l1Below_c_K hBw hap) ?_
 rintro ⟨y675,hy675⟩
 obtain ⟨hy6750,hy6751⟩ := hy675
 refine kCS 1 [2,3,43] [(2,.p 0 0),(3,.p 1 0),(43,.v (.int .i64 (IntKind.i64.wrap (31 + y675))))] 144 [.int .i64 (IntKind.i64.wrap (31 + y675))] (some 44) rfl (xc_b fun ww hf => l5Long_c (IntKind.i64.wrap (31 + y675)) ww (by first | omega | (rw [wrap_id (by omega) (by omega)]; omega))) ?_
 intro _
 refine kRB 2 [2,3] [(2,.p 0 0),(3,.p 1 0)] [⟨41,rcvZ⟩,⟨41,rcvL { b1m with data := bstr (List.replicate ((IntKind.i64.wrap (31 + y675))).toNat 0) } (.slice b1a b1m.held.length b1c)⟩] ?_
 refine xl_eq (st' := ⟨[(2,.p 0 0),(3,.p 1 0)],[⟨41,rcvZ⟩,⟨41,rcvL { b1m with data := bstr (List.replicate ((31 + y675)).toNat 0) } (.slice b1a b1m.held.length b1c)⟩],[],[curF B g 137 (.slice A J.length cap) J.length,rowF (cutW w B).heap.size 85 2 (.slice b1a b1m.held.length b1c) (b1m.held.map pC),slF (.slice A J.length cap) 1 (J.map bR),frF w (fun b => b = g)]⟩) (by rw [show (IntKind.i64.wrap (31 + y675)) = (31 + y675) from wrap_id (by omega) (by omega)] <;> rfl) ?_
 refine kED [2,3] [] ?_
 exact ⟨⟨({ b1m with data := bstr (List.replicate ((31 + y675)).toNat 0) },b1a,b1c),⟨Nat.le_trans hb1.1 (by decide),hb1.2.1,(by show (bstr _).size ≤ 65; rw [bstr_size,List.length_replicate]; omega)⟩⟩,kPk [1,0,2,3] <| kF 2 0 [2,3]⟩
 have h674p := eqF h674
 refine kK ?_
 exact ⟨⟨(b1m,b1a,b1c),⟨Nat.le_trans hb1.1 (by decide),hb1.2.1,hb1.2.2⟩⟩,kPk [1,0,2,3] <| kF 2 0 [2,3]⟩
 rintro ⟨⟨q,A3,c3⟩,hq⟩
 try dsimp only
 try dsimp only at hq
 refine kQ ?_
 refine kEU [2] [(2,.p 0 0)] 0 ⟨41,rcvL q (.slice A3 q.held.length c3)⟩ ?_
 refine kR ?_
 exact ⟨[.agg (rcvL q (.slice A3 q.held.length c3)).toArray],by kernel_rfl,fun w' hb hf ha => ⟨⟨(q,A3,c3),hq⟩,rfl,hf (curF B g 137 (.slice A J.length cap) J.length) (by simp),rowF_raise (hf (rowF (cutW w B).heap.size 85 2 (.slice A3 q.held.length c3) (q.held.map pC)) (by simp)) (own_new ha (i := 0) (j := 1) (k := 3) rfl rfl rfl rfl (by decide) (by decide)),hgl,frF_chgd (hf (frF w (fun b => b = g)) (by simp)) hb rfl rfl rfl⟩⟩
theorem l17Sender_c (g : Nat) (J : List Int) (A : Option Addr) (cap : Nat)  (w : World) (B : Nat) (hB : B ≤ w.heap.size) (hc : (curF B g 137 (.slice A J.length cap) J.length).p w) (hl : Sl w (.slice A J.length cap) 1 (J.map bR)) (hap : ¬ (slF (.slice A J.length cap) 1 (J.map bR)).blk g) (hn : J.length ≤ 1048576)  : Calls Tryz.prog 156 #[.pointer (some ⟨g, 0, none⟩)] w fun e w' => ∃ y : {y : Snd // True}, e = .returned (.agg (sndL y.1).toArray) ∧ (curF B g 137 (.slice A J.length cap) J.length).p w' ∧ Chgd (fun b => b = g) w w' := by
 have hq_code := Sl.capLe hl
 have hBw : B ≤ (cutW w B).heap.size := Nat.le_of_eq (cutW_size hB).symm
 have hlo : ∀ (ww : World) (b : Nat),(curF B g 137 (.slice A J.length cap) J.length).p ww → (curF B g 137 (.slice A J.length cap) J.length).blk b → (cutW w B).heap.size ≤ b := fun ww b h hb => Nat.le_trans (cutW_le w B) (cur_lo h hb)
 refine x_callsM (args := [.pointer (some ⟨g,0,none⟩)]) (fn := Tryz.f156) [curF B g 137 (.slice A J.length cap) J.length,slF (.slice A J.length cap) 1 (J.map bR),frF w (fun b => b = g)] B Tryz.func156 rfl Tryz.ntmps156 rfl hB (by simp only [List.mem_cons,List.not_mem_nil,or_false,forall_eq_or_imp,forall_eq]; exact ⟨hc,hl,frF_start w _⟩) (apart_cur hap rfl) ?_
 refine kQ ?_
 refine kEF [0,2] ⟨[(0,.v (.pointer (some ⟨g,0,none⟩))),(2,.p 0 0)],[⟨38,sndZ⟩],[],[curF B g 137 (.slice A J.length cap) J.length,slF (.slice A J.length cap) 1 (J.map bR),frF w (fun b => b = g)]⟩ ?_
 refine kQ ?_
 refine kWD 1 [0,2,8] [(8,.v (.pointer (some ⟨g,0,none⟩)))] 148 [.pointer (some ⟨g,0,none⟩)] (some 9) 0 rfl rfl hlo (l2Deep_c_K hBw hap) ?_
 rintro ⟨y1,hy1⟩
 refine kOD 0 [0,2,9] [] (.agg #[.int .i64 y1,.string (⟨#[]⟩ : ByteArray),.int .i64 0,.bool false,.bool false,.bool false]) rfl (fun _ _ _ ww hr => act_build [(0,.int .i64 y1)] hr.1 rfl (by kernel_rfl) (by kernel_rfl) ww) ?_
 refine kEA [0,2,3] [(3,.p 1 0)] [⟨38,[.int .i64 y1,.string (⟨#[]⟩ : ByteArray),.int .i64 0,.bool false,.bool false,.bool false]⟩] ?_
 refine kQ ?_
 refine kWD 1 [0,2,3,11] [(11,.v (.pointer (some ⟨g,0,none⟩)))] 133 [.pointer (some ⟨g,0,none⟩),.int .i64 6] (some 12) 0 rfl rfl hlo (l1Below_c_K hBw hap) ?_
 rintro ⟨y2,hy2⟩
 obtain ⟨hy20,hy21⟩ := hy2
 refine kED [0,2,3,4] [(4,.v (.int .i64 y2))] ?_
 refine kS ?_
 refine kQ ?_
 refine kED [0,2,3,4,5] [(5,.v (.int .i64 0))] ?_
 refine xw_block ?_
 refine xw_loopW (α := {x : Nat × Snd // (fun (i : Nat) (s : Snd) => (i : Int) ≤ y2) x.1 x.2}) (fun x => (fun (i : Nat) (s : Snd) => (⟨[(0,.v (.pointer (some ⟨g,0,none⟩))),(2,.p 0 0),(3,.p 1 0),(4,.v (.int .i64 y2)),(5,.v (.int .i64 (i : Int)))],[⟨38,sndZ⟩,⟨38,sndL s⟩],[],[curF B g 137 (.slice A J.length cap) J.length,slF (.slice A J.length cap) 1 (J.map bR),frF w (fun b => b = g)]⟩ : St)) x.1.1 x.1.2) (fun x => (fun (i : Nat) (s : Snd) => (y2).toNat - i) x.1.1 x.1.2) ⟨(0,⟨y1,(⟨#[]⟩ : ByteArray),0,false,false,false⟩),(by omega)⟩ (kF 2 0 [0,2,3,4,5]) ?_
 rintro ⟨⟨i,s⟩,hi⟩
 try dsimp only
 try dsimp only at hi
 refine kS ?_
 refine kQ ?_
 refine kED [0,2,3,4,5,15] [(15,.v (.bool (decide ((i : Int) < y2))))] ?_
 refine kC (decide ((i : Int) < y2)) (fun h3 => ?_) (fun h3 => ?_)
 have h3p := of_decide_eq_true h3
 have hlt :  (i : Int) < y2 := of_decide_eq_true h3
 refine kK ?_
 refine kS ?_
 refine xw_joinF (α := {zz : Snd // (fun (s2 : Snd) => True) zz}) (fun zz => (fun (s2 : Snd) => (⟨[(0,.v (.pointer (some ⟨g,0,none⟩))),(2,.p 0 0),(3,.p 1 0),(4,.v (.int .i64 y2)),(5,.v (.int .i64 (i : Int)))],[⟨38,sndZ⟩,⟨38,sndL s2⟩],[],[curF B g 137 (.slice A J.length cap) J.length,slF (.slice A J.length cap) 1 (J.map bR),frF w (fun b => b = g)]⟩ : St)) zz.1) ?_ ?_
 refine xw_block ?_
 refine kQ ?_
 refine kWD 1 [0,2,3,4,5,18] [(18,.v (.pointer (some ⟨g,0,none⟩)))] 133 [.pointer (some ⟨g,0,none⟩),.int .i64 4] (some 19) 0 rfl rfl hlo (l1Below_c_K hBw hap) ?_
 rintro ⟨y4,hy4⟩
 obtain ⟨hy40,hy41⟩ := hy4
 refine kED [0,2,3,4,5,19] [] ?_
 refine xw_block ?_
 refine kQ ?_
 refine kED [0,2,3,4,5,19,27] [(27,.v (.bool (y4 == 0)))] ?_
 refine kC (y4 == 0) (fun h5 => ?_) (fun h5 => ?_)
 have h5p := eqT h5
 refine xe_region0 [true,false] (by kernel_rfl) (fun ρ σ => ?_)
 refine kTS [1,2] [32,31,0,2,3,4,5] 9 [(32,.v (.pointer (some ⟨g,0,none⟩))),(31,.v (.pointer (some ⟨g,0,none⟩))),(0,.v (.pointer (some ⟨g,0,none⟩))),(2,.p 0 0),(3,.p 1 0),(4,.v (.int .i64 y2)),(5,.v (.int .i64 (i : Int)))] ?_
 refine kA [0,3] ⟨?_,?_⟩
 refine kSV 0 (.v (.agg (sndL s).toArray)) rfl ?_
 refine kA [3] ?_
 refine kSW 3 133 [.pointer (some ⟨g,0,none⟩),.int .i64 20] (some 33) 0 rfl rfl hlo (under_t (under_f rfl under_nil)) (l1Below_c_K hBw hap) ?_
 rintro ⟨y6,hy6⟩
 obtain ⟨hy60,hy61⟩ := hy6
 refine kA [4] ?_
 refine kSW 4 151 [.pointer (some ⟨g,0,none⟩),.int .i64 y6] (some 34) 0 rfl rfl hlo (under_t (under_f rfl under_nil)) (xcm_curR fun ww hw hf => l1Bytes_c g J A cap y6 ww B (Nat.le_trans (by first | exact Nat.le_refl _ | exact Nat.le_of_eq (cutW_size hB).symm) hw) (hf (curF B g 137 (.slice A J.length cap) J.length) (by simp)) (hf _ m1) hap (by omega) (by omega)) ?_
 rintro ⟨⟨b7l,b7a,b7c⟩,hb7⟩
 dsimp only at hb7
 refine kA [5] ?_
 refine kSR 5 (.string (bstr b7l)) rfl (fun _ _ ww hr => act_b2s (e := 5) b7l hr.1 rfl (by kernel_rfl) (by kernel_rfl) (by kernel_rfl) rfl (rowF_sl (hr.2.fact (rowF (cutW w B).heap.size 5 1 (.slice b7a b7l.length b7c) (b7l.map bR)) (by simp)).1)) ?_
 refine kA [6] ?_
 refine kSC 6 163 [.agg (sndL s).toArray,.string (bstr b7l)] (some 36) rfl (xc_b fun ww hf => ysQueued_c s (bstr b7l) ww  (by first | omega | (rw [bstr_size]; omega))) ?_
 intro _
 refine kTD [7,8,9] [37,0,2,3,4,5] 1 [(37,.v (.agg (sndL (queued s (bstr b7l)).1).toArray))] ?_
 refine kA [10] ?_
 refine kSS 10 1 0 (sndL (queued s (bstr b7l)).1) rfl ?_
 refine kZ ?_
 exact ⟨⟨((queued s (bstr b7l)).1),⟨⟩⟩,kPk [1,2,3] <| kF 2 0 [0,2,3,4,5]⟩
 refine kSW 3 133 [.pointer (some ⟨g,0,none⟩),.int .i64 20] (some 33) 0 rfl rfl hlo (under_t (under_f rfl under_nil)) (l1Below_c_K hBw hap) ?_
 rintro ⟨y8,hy8⟩
 obtain ⟨hy80,hy81⟩ := hy8
 refine kA [0,4] ⟨?_,?_⟩
 refine kSV 0 (.v (.agg (sndL s).toArray)) rfl ?_
 refine kA [4] ?_
 refine kSW 4 151 [.pointer (some ⟨g,0,none⟩),.int .i64 y8] (some 34) 0 rfl rfl hlo (under_t (under_f rfl under_nil)) (xcm_curR fun ww hw hf => l1Bytes_c g J A cap y8 ww B (Nat.le_trans (by first | exact Nat.le_refl _ | exact Nat.le_of_eq (cutW_size hB).symm) hw) (hf (curF B g 137 (.slice A J.length cap) J.length) (by simp)) (hf _ m1) hap (by omega) (by omega)) ?_
 rintro ⟨⟨b9l,b9a,b9c⟩,hb9⟩
 dsimp only at hb9
 refine kA [5] ?_
 refine kSR 5 (.string (bstr b9l)) rfl (fun _ _ ww hr => act_b2s (e := 5) b9l hr.1 rfl (by kernel_rfl) (by kernel_rfl) (by kernel_rfl) rfl (rowF_sl (hr.2.fact (rowF (cutW w B).heap.size 5 1 (.slice b9a b9l.length b9c) (b9l.map bR)) (by simp)).1)) ?_
 refine kA [6] ?_
 refine kSC 6 163 [.agg (sndL s).toArray,.string (bstr b9l)] (some 36) rfl (xc_b fun ww hf => ysQueued_c s (bstr b9l) ww  (by first | omega | (rw [bstr_size]; omega))) ?_
 intro _
 refine kTD [7,8,9] [37,0,2,3,4,5] 1 [(37,.v (.agg (sndL (queued s (bstr b9l)).1).toArray))] ?_
 refine kA [10] ?_
 refine kSS 10 1 0 (sndL (queued s (bstr b9l)).1) rfl ?_
 refine kZ ?_
 exact ⟨⟨((queued s (bstr b9l)).1),⟨⟩⟩,kPk [1,2,3] <| kF 2 0 [0,2,3,4,5]⟩
 refine kSW 4 151 [.pointer (some ⟨g,0,none⟩),.int .i64 y8] (some 34) 0 rfl rfl hlo (under_t (under_f rfl under_nil)) (xcm_curR fun ww hw hf => l1Bytes_c g J A cap y8 ww B (Nat.le_trans (by first | exact Nat.le_refl _ | exact Nat.le_of_eq (cutW_size hB).symm) hw) (hf (curF B g 137 (.slice A J.length cap) J.length) (by simp)) (hf _ m1) hap (by omega) (by omega)) ?_
 rintro ⟨⟨b10l,b10a,b10c⟩,hb10⟩
 dsimp only at hb10
 refine kA [0,5] ⟨?_,?_⟩
 refine kSV 0 (.v (.agg (sndL s).toArray)) rfl ?_
 refine kA [5] ?_
 refine kSR 5 (.string (bstr b10l)) rfl (fun _ _ ww hr => act_b2s (e := 5) b10l hr.1 rfl (by kernel_rfl) (by kernel_rfl) (by kernel_rfl) rfl (rowF_sl (hr.2.fact (rowF (cutW w B).heap.size 5 1 (.slice b10a b10l.length b10c) (b10l.map bR)) (by simp)).1)) ?_
 refine kA [6] ?_
 refine kSC 6 163 [.agg (sndL s).toArray,.string (bstr b10l)] (some 36) rfl (xc_b fun ww hf => ysQueued_c s (bstr b10l) ww  (by first | omega | (rw [bstr_size]; omega))) ?_
 intro _
 refine kTD [7,8,9] [37,0,2,3,4,5] 1 [(37,.v (.agg (sndL (queued s (bstr b10l)).1).toArray))] ?_
 refine kA [10] ?_
 refine kSS 10 1 0 (sndL (queued s (bstr b10l)).1) rfl ?_
 refine kZ ?_
 exact ⟨⟨((queued s (bstr b10l)).1),⟨⟩⟩,kPk [1,2,3] <| kF 2 0 [0,2,3,4,5]⟩
 refine kSR 5 (.string (bstr b10l)) rfl (fun _ _ ww hr => act_b2s (e := 5) b10l hr.1 rfl (by kernel_rfl) (by kernel_rfl) (by kernel_rfl) rfl (rowF_sl (hr.2.fact (rowF (cutW w B).heap.size 5 1 (.slice b10a b10l.length b10c) (b10l.map bR)) (by simp)).1)) ?_
 refine kA [0] ?_
 refine kSV 0 (.v (.agg (sndL s).toArray)) rfl ?_
 refine kA [6] ?_
 refine kSC 6 163 [.agg (sndL s).toArray,.string (bstr b10l)] (some 36) rfl (xc_b fun ww hf => ysQueued_c s (bstr b10l) ww  (by first | omega | (rw [bstr_size]; omega))) ?_
 intro _
 refine kTD [7,8,9] [37,0,2,3,4,5] 1 [(37,.v (.agg (sndL (queued s (bstr b10l)).1).toArray))] ?_
 refine kA [10] ?_
 refine kSS 10 1 0 (sndL (queued s (bstr b10l)).1) rfl ?_
 refine kZ ?_
 exact ⟨⟨((queued s (bstr b10l)).1),⟨⟩⟩,kPk [1,2,3] <| kF 2 0 [0,2,3,4,5]⟩
 have h5p := eqF h5
 refine kQ ?_
 refine kES [0,2,3,4,5,19,39] [(0,.v (.pointer (some ⟨g,0,none⟩))),(2,.p 0 0),(3,.p 1 0),(4,.v (.int .i64 y2)),(5,.v (.int .i64 (i : Int))),(19,.v (.int .i64 y4)),(39,.v (.bool (y4 == 1)))] ?_
 refine kC (y4 == 1) (fun h11 => ?_) (fun h11 => ?_)
 have h11p := eqT h11
 refine kS ?_
 refine xe_region0 [] (by kernel_rfl) (fun ρ σ => ?_)
 refine kTD [0,1,4] [46,43,42,0,2,3,4,5] 11 [(46,.v (.pointer (some ⟨g,0,none⟩))),(43,.v (.pointer (some ⟨g,0,none⟩))),(42,.v (.agg (sndL s).toArray))] ?_
 refine kA [2,11] ⟨?_,?_⟩
 refine kSW 2 133 [.pointer (some ⟨g,0,none⟩),.int .i64 40] (some 44) 0 rfl rfl hlo (under_t (under_t under_nil)) (l1Below_c_K hBw hap) ?_
 rintro ⟨y12,hy12⟩
 obtain ⟨hy120,hy121⟩ := hy12
 refine kTD [3] [45,46,42,0,2,3,4,5] 9 [(45,.v (.int .i64 (IntKind.i64.wrap (1 + y12))))] ?_
 refine kA [5,11] ⟨?_,?_⟩
 refine kSW 5 133 [.pointer (some ⟨g,0,none⟩),.int .i64 16] (some 47) 0 rfl rfl hlo (under_t (under_t under_nil)) (l1Below_c_K hBw hap) ?_
 rintro ⟨y13,hy13⟩
 obtain ⟨hy130,hy131⟩ := hy13
 refine kTD [6] [48,45,42,0,2,3,4,5] 7 [(48,.v (.int .i64 (IntKind.i64.wrap (1 + y13))))] ?_
 refine kA [7,11] ⟨?_,?_⟩
 refine kSC 7 89 [.agg (sndL s).toArray,.int .i64 (IntKind.i64.wrap (1 + y12)),.int .i64 (IntKind.i64.wrap (1 + y13))] (some 49) rfl (xc_b fun ww hf => ysNextChunk_c s (IntKind.i64.wrap (1 + y12)) (IntKind.i64.wrap (1 + y13)) ww  (by first | omega | (rw [wrap_id (by omega) (by omega)]; omega))) ?_
 intro _
 refine kTD [8,9,10] [51,50,0,2,3,4,5] 3 [(51,.v (.bool ((nC s (IntKind.i64.wrap (1 + y12)) (IntKind.i64.wrap (1 + y13))).2))),(50,.v (.agg (chkL (nC s (IntKind.i64.wrap (1 + y12)) (IntKind.i64.wrap (1 + y13))).1).toArray))] ?_
 refine kA [11] ?_
 refine xs_box 11 ⟨107,chkL (⟨0,(⟨#[]⟩ : ByteArray),false⟩ : Chk)⟩ _ rfl (by kernel_rfl) (by kernel_rfl) (by kernel_rfl) (by kernel_rfl) rfl ?_
 refine kA [12] ?_
 refine kSS 12 2 0 (chkL (nC s (IntKind.i64.wrap (1 + y12)) (IntKind.i64.wrap (1 + y13))).1) rfl ?_
 refine kTD [13] [7,6,0,2,3,4,5] 0 [(7,.v (.bool ((nC s (IntKind.i64.wrap (1 + y12)) (IntKind.i64.wrap (1 + y13))).2)))] ?_
 refine kZ ?_
 refine kQ ?_
 refine kED [0,2,3,4,5,6,52] [(52,.v (.bool ((nC s (IntKind.i64.wrap (1 + y12)) (IntKind.i64.wrap (1 + y13))).2)))] ?_
 refine kC ((nC s (IntKind.i64.wrap (1 + y12)) (IntKind.i64.wrap (1 + y13))).2) (fun h14 => ?_) (fun h14 => ?_)
 refine kG ?_
 refine kCD 2 [0,2,3,4,5,53,54] [(53,.v (.agg (sndL s).toArray)),(54,.v (.agg (chkL (nC s (IntKind.i64.wrap (1 + y12)) (IntKind.i64.wrap (1 + y13))).1).toArray))] 91 [.agg (sndL s).toArray,.agg (chkL (nC s (IntKind.i64.wrap (1 + y12)) (IntKind.i64.wrap (1 + y13))).1).toArray] (some 55) rfl (xc_b fun ww hf => ysSentOff_c s ((nC s (IntKind.i64.wrap (1 + y12)) (IntKind.i64.wrap (1 + y13))).1) ww  ) ?_
 intro _
 refine kEU [0,2,3,4,5] [] 1 ⟨38,sndL (sO s ((nC s (IntKind.i64.wrap (1 + y12)) (IntKind.i64.wrap (1 + y13))).1))⟩ ?_
 exact ⟨⟨((sO s ((nC s (IntKind.i64.wrap (1 + y12)) (IntKind.i64.wrap (1 + y13))).1))),⟨⟩⟩,kF 2 0 [0,2,3,4,5]⟩
 refine kK ?_
 exact ⟨⟨(s),⟨⟩⟩,kF 2 0 [0,2,3,4,5]⟩
 refine xs_box 11 ⟨107,chkL (⟨0,(⟨#[]⟩ : ByteArray),false⟩ : Chk)⟩ _ rfl (by kernel_rfl) (by kernel_rfl) (by kernel_rfl) (by kernel_rfl) rfl ?_
 refine kA [7] ?_
 refine kSC 7 89 [.agg (sndL s).toArray,.int .i64 (IntKind.i64.wrap (1 + y12)),.int .i64 (IntKind.i64.wrap (1 + y13))] (some 49) rfl (xc_b fun ww hf => ysNextChunk_c s (IntKind.i64.wrap (1 + y12)) (IntKind.i64.wrap (1 + y13)) ww  (by first | omega | (rw [wrap_id (by omega) (by omega)]; omega))) ?_
 intro _
 refine kTD [8,9,10] [51,50,6,0,2,3,4,5] 2 [(51,.v (.bool ((nC s (IntKind.i64.wrap (1 + y12)) (IntKind.i64.wrap (1 + y13))).2))),(50,.v (.agg (chkL (nC s (IntKind.i64.wrap (1 + y12)) (IntKind.i64.wrap (1 + y13))).1).toArray))] ?_
 refine kA [12] ?_
 refine kSS 12 2 0 (chkL (nC s (IntKind.i64.wrap (1 + y12)) (IntKind.i64.wrap (1 + y13))).1) rfl ?_
 refine kTD [13] [7,6,0,2,3,4,5] 0 [(7,.v (.bool ((nC s (IntKind.i64.wrap (1 + y12)) (IntKind.i64.wrap (1 + y13))).2)))] ?_
 refine kZ ?_
 refine kQ ?_
 refine kED [0,2,3,4,5,6,52] [(52,.v (.bool ((nC s (IntKind.i64.wrap (1 + y12)) (IntKind.i64.wrap (1 + y13))).2)))] ?_
 refine kC ((nC s (IntKind.i64.wrap (1 + y12)) (IntKind.i64.wrap (1 + y13))).2) (fun h15 => ?_) (fun h15 => ?_)
 refine kG ?_
 refine kCD 2 [0,2,3,4,5,53,54] [(53,.v (.agg (sndL s).toArray)),(54,.v (.agg (chkL (nC s (IntKind.i64.wrap (1 + y12)) (IntKind.i64.wrap (1 + y13))).1).toArray))] 91 [.agg (sndL s).toArray,.agg (chkL (nC s (IntKind.i64.wrap (1 + y12)) (IntKind.i64.wrap (1 + y13))).1).toArray] (some 55) rfl (xc_b fun ww hf => ysSentOff_c s ((nC s (IntKind.i64.wrap (1 + y12)) (IntKind.i64.wrap (1 + y13))).1) ww  ) ?_
 intro _
 refine kEU [0,2,3,4,5] [] 1 ⟨38,sndL (sO s ((nC s (IntKind.i64.wrap (1 + y12)) (IntKind.i64.wrap (1 + y13))).1))⟩ ?_
 exact ⟨⟨((sO s ((nC s (IntKind.i64.wrap (1 + y12)) (IntKind.i64.wrap (1 + y13))).1))),⟨⟩⟩,kF 2 0 [0,2,3,4,5]⟩
 refine kK ?_
 exact ⟨⟨(s),⟨⟩⟩,kF 2 0 [0,2,3,4,5]⟩
 refine xs_box 11 ⟨107,chkL (⟨0,(⟨#[]⟩ : ByteArray),false⟩ : Chk)⟩ _ rfl (by kernel_rfl) (by kernel_rfl) (by kernel_rfl) (by kernel_rfl) rfl ?_
 refine kA [5] ?_
 refine kSW 5 133 [.pointer (some ⟨g,0,none⟩),.int .i64 16] (some 47) 0 rfl rfl hlo (under_t (under_t under_nil)) (l1Below_c_K hBw hap) ?_
 rintro ⟨y16,hy16⟩
 obtain ⟨hy160,hy161⟩ := hy16
 refine kTD [6] [48,6,45,42,0,2,3,4,5] 6 [(48,.v (.int .i64 (IntKind.i64.wrap (1 + y16))))] ?_
 refine kA [7] ?_
 refine kSC 7 89 [.agg (sndL s).toArray,.int .i64 (IntKind.i64.wrap (1 + y12)),.int .i64 (IntKind.i64.wrap (1 + y16))] (some 49) rfl (xc_b fun ww hf => ysNextChunk_c s (IntKind.i64.wrap (1 + y12)) (IntKind.i64.wrap (1 + y16)) ww  (by first | omega | (rw [wrap_id (by omega) (by omega)]; omega))) ?_
 intro _
 refine kTD [8,9,10] [51,50,6,0,2,3,4,5] 2 [(51,.v (.bool ((nC s (IntKind.i64.wrap (1 + y12)) (IntKind.i64.wrap (1 + y16))).2))),(50,.v (.agg (chkL (nC s (IntKind.i64.wrap (1 + y12)) (IntKind.i64.wrap (1 + y16))).1).toArray))] ?_
 refine kA [12] ?_
 refine kSS 12 2 0 (chkL (nC s (IntKind.i64.wrap (1 + y12)) (IntKind.i64.wrap (1 + y16))).1) rfl ?_
 refine kTD [13] [7,6,0,2,3,4,5] 0 [(7,.v (.bool ((nC s (IntKind.i64.wrap (1 + y12)) (IntKind.i64.wrap (1 + y16))).2)))] ?_
 refine kZ ?_
 refine kQ ?_
 refine kED [0,2,3,4,5,6,52] [(52,.v (.bool ((nC s (IntKind.i64.wrap (1 + y12)) (IntKind.i64.wrap (1 + y16))).2)))] ?_
 refine kC ((nC s (IntKind.i64.wrap (1 + y12)) (IntKind.i64.wrap (1 + y16))).2) (fun h17 => ?_) (fun h17 => ?_)
 refine kG ?_
 refine kCD 2 [0,2,3,4,5,53,54] [(53,.v (.agg (sndL s).toArray)),(54,.v (.agg (chkL (nC s (IntKind.i64.wrap (1 + y12)) (IntKind.i64.wrap (1 + y16))).1).toArray))] 91 [.agg (sndL s).toArray,.agg (chkL (nC s (IntKind.i64.wrap (1 + y12)) (IntKind.i64.wrap (1 + y16))).1).toArray] (some 55) rfl (xc_b fun ww hf => ysSentOff_c s ((nC s (IntKind.i64.wrap (1 + y12)) (IntKind.i64.wrap (1 + y16))).1) ww  ) ?_
 intro _
 refine kEU [0,2,3,4,5] [] 1 ⟨38,sndL (sO s ((nC s (IntKind.i64.wrap (1 + y12)) (IntKind.i64.wrap (1 + y16))).1))⟩ ?_
 exact ⟨⟨((sO s ((nC s (IntKind.i64.wrap (1 + y12)) (IntKind.i64.wrap (1 + y16))).1))),⟨⟩⟩,kF 2 0 [0,2,3,4,5]⟩
 refine kK ?_
 exact ⟨⟨(s),⟨⟩⟩,kF 2 0 [0,2,3,4,5]⟩
 refine xs_box 11 ⟨107,chkL (⟨0,(⟨#[]⟩ : ByteArray),false⟩ : Chk)⟩ _ rfl (by kernel_rfl) (by kernel_rfl) (by kernel_rfl) (by kernel_rfl) rfl ?_
 refine kA [2] ?_
 refine kSW 2 133 [.pointer (some ⟨g,0,none⟩),.int .i64 40] (some 44) 0 rfl rfl hlo (under_t (under_t under_nil)) (l1Below_c_K hBw hap) ?_
 rintro ⟨y18,hy18⟩
 obtain ⟨hy180,hy181⟩ := hy18
 refine kTD [3] [45,6,46,42,0,2,3,4,5] 8 [(45,.v (.int .i64 (IntKind.i64.wrap (1 + y18))))] ?_
 refine kA [5] ?_
 refine kSW 5 133 [.pointer (some ⟨g,0,none⟩),.int .i64 16] (some 47) 0 rfl rfl hlo (under_t (under_t under_nil)) (l1Below_c_K hBw hap) ?_
 rintro ⟨y19,hy19⟩
 obtain ⟨hy190,hy191⟩ := hy19
 refine kTD [6] [48,45,6,42,0,2,3,4,5] 6 [(48,.v (.int .i64 (IntKind.i64.wrap (1 + y19))))] ?_
 refine kA [7] ?_
 refine kSC 7 89 [.agg (sndL s).toArray,.int .i64 (IntKind.i64.wrap (1 + y18)),.int .i64 (IntKind.i64.wrap (1 + y19))] (some 49) rfl (xc_b fun ww hf => ysNextChunk_c s (IntKind.i64.wrap (1 + y18)) (IntKind.i64.wrap (1 + y19)) ww  (by first | omega | (rw [wrap_id (by omega) (by omega)]; omega))) ?_
 intro _
 refine kTD [8,9,10] [51,50,6,0,2,3,4,5] 2 [(51,.v (.bool ((nC s (IntKind.i64.wrap (1 + y18)) (IntKind.i64.wrap (1 + y19))).2))),(50,.v (.agg (chkL (nC s (IntKind.i64.wrap (1 + y18)) (IntKind.i64.wrap (1 + y19))).1).toArray))] ?_
 refine kA [12] ?_
 refine kSS 12 2 0 (chkL (nC s (IntKind.i64.wrap (1 + y18)) (IntKind.i64.wrap (1 + y19))).1) rfl ?_
 refine kTD [13] [7,6,0,2,3,4,5] 0 [(7,.v (.bool ((nC s (IntKind.i64.wrap (1 + y18)) (IntKind.i64.wrap (1 + y19))).2)))] ?_
 refine kZ ?_
 refine kQ ?_
 refine kED [0,2,3,4,5,6,52] [(52,.v (.bool ((nC s (IntKind.i64.wrap (1 + y18)) (IntKind.i64.wrap (1 + y19))).2)))] ?_
 refine kC ((nC s (IntKind.i64.wrap (1 + y18)) (IntKind.i64.wrap (1 + y19))).2) (fun h20 => ?_) (fun h20 => ?_)
 refine kG ?_
 refine kCD 2 [0,2,3,4,5,53,54] [(53,.v (.agg (sndL s).toArray)),(54,.v (.agg (chkL (nC s (IntKind.i64.wrap (1 + y18)) (IntKind.i64.wrap (1 + y19))).1).toArray))] 91 [.agg (sndL s).toArray,.agg (chkL (nC s (IntKind.i64.wrap (1 + y18)) (IntKind.i64.wrap (1 + y19))).1).toArray] (some 55) rfl (xc_b fun ww hf => ysSentOff_c s ((nC s (IntKind.i64.wrap (1 + y18)) (IntKind.i64.wrap (1 + y19))).1) ww  ) ?_
 intro _
 refine kEU [0,2,3,4,5] [] 1 ⟨38,sndL (sO s ((nC s (IntKind.i64.wrap (1 + y18)) (IntKind.i64.wrap (1 + y19))).1))⟩ ?_
 exact ⟨⟨((sO s ((nC s (IntKind.i64.wrap (1 + y18)) (IntKind.i64.wrap (1 + y19))).1))),⟨⟩⟩,kF 2 0 [0,2,3,4,5]⟩
 refine kK ?_
 exact ⟨⟨(s),⟨⟩⟩,kF 2 0 [0,2,3,4,5]⟩
 have h11p := eqF h11
 refine kQ ?_
 refine kED [0,2,3,4,5,56] [(56,.v (.bool (y4 == 2)))] ?_
 refine kC (y4 == 2) (fun h21 => ?_) (fun h21 => ?_)
 have h21p := eqT h21
 refine xe_region0 [true,false] (by kernel_rfl) (fun ρ σ => ?_)
 refine xe_cut (α := {zz : Int // (fun (y373 : Int) => 0 ≤ y373 ∧ (0 < (IntKind.i64.wrap ((flown s) + 1)) → y373 < (IntKind.i64.wrap ((flown s) + 1)))) zz}) (fun zz => (fun (y373 : Int) => (⟨[(0,.v (.pointer (some ⟨g,0,none⟩))),(2,.p 0 0),(3,.p 1 0),(4,.v (.int .i64 y2)),(5,.v (.int .i64 (i : Int)))],[⟨38,sndZ⟩,⟨38,sndL (acked s (sA s.una y373)).1⟩],[],[curF B g 137 (.slice A J.length cap) J.length,slF (.slice A J.length cap) 1 (J.map bR),frF w (fun b => b = g)]⟩ : St)) zz.1) 0 (listB 14 16383) ?_ (fun hD7 => ?_)
 rintro ⟨y373,hy373⟩
 try dsimp only
 try dsimp only at hy373
 obtain ⟨hy3730,hy3731⟩ := hy373
 refine kZ ?_
 exact ⟨⟨((acked s (sA s.una y373)).1),⟨⟩⟩,kF 2 0 [0,2,3,4,5]⟩
 refine xe_cutT (α := {zz : Int // (fun (y373 : Int) => 0 ≤ y373 ∧ (0 < (IntKind.i64.wrap ((flown s) + 1)) → y373 < (IntKind.i64.wrap ((flown s) + 1)))) zz}) (fun zz => (fun (y373 : Int) => [(0,.v (.pointer (some ⟨g,0,none⟩))),(2,.p 0 0),(3,.p 1 0),(4,.v (.int .i64 y2)),(5,.v (.int .i64 (i : Int))),(68,.v (.tuple #[.agg (sndL (acked s (sA s.una y373)).1).toArray,.bool ((acked s (sA s.una y373)).2)]))]) zz.1) 4 (listB 14 1023) ?_ (fun hD6 => ?_)
 rintro ⟨y373,hy373⟩
 try dsimp only
 try dsimp only at hy373
 obtain ⟨hy3730,hy3731⟩ := hy373
 refine kTD [10,11,12] [69,0,2,3,4,5] 1 [(69,.v (.agg (sndL (acked s (sA s.una y373)).1).toArray))] ?_
 refine kA [13] ?_
 refine kSS 13 1 0 (sndL (acked s (sA s.una y373)).1) rfl ?_
 exact xe_wkL (kF 2 0 [0,2,3,4,5]) (by kernel_rfl) (hD7 ⟨(y373),⟨hy3730,hy3731⟩⟩)
 refine xe_cutT (α := {zz : Int // (fun (y373 : Int) => 0 ≤ y373 ∧ (0 < (IntKind.i64.wrap ((flown s) + 1)) → y373 < (IntKind.i64.wrap ((flown s) + 1)))) zz}) (fun zz => (fun (y373 : Int) => [(0,.v (.pointer (some ⟨g,0,none⟩))),(2,.p 0 0),(3,.p 1 0),(4,.v (.int .i64 y2)),(5,.v (.int .i64 (i : Int))),(59,.v (.agg (sndL s).toArray)),(67,.v (.int .i64 (sA s.una y373)))]) zz.1) 5 (listB 14 511) ?_ (fun hD5 => ?_)
 rintro ⟨y373,hy373⟩
 try dsimp only
 try dsimp only at hy373
 obtain ⟨hy3730,hy3731⟩ := hy373
 refine kA [9] ?_
 refine kSC 9 74 [.agg (sndL s).toArray,.int .i64 (sA s.una y373)] (some 68) rfl (xc_b fun ww hf => ysAcked_c s (sA s.una y373) ww  ) ?_
 intro _
 exact xe_wkL (kF 2 0 [0,2,3,4,5,68]) (by kernel_rfl) (hD6 ⟨(y373),⟨hy3730,hy3731⟩⟩)
 refine xe_cutT (α := {zz : Int // (fun (y373 : Int) => 0 ≤ y373 ∧ (0 < (IntKind.i64.wrap ((flown s) + 1)) → y373 < (IntKind.i64.wrap ((flown s) + 1)))) zz}) (fun zz => (fun (y373 : Int) => [(0,.v (.pointer (some ⟨g,0,none⟩))),(2,.p 0 0),(3,.p 1 0),(4,.v (.int .i64 y2)),(5,.v (.int .i64 (i : Int))),(59,.v (.agg (sndL s).toArray)),(61,.v (.int .i64 s.una)),(66,.v (.int .i64 y373))]) zz.1) 6 (listB 14 255) ?_ (fun hD4 => ?_)
 rintro ⟨y373,hy373⟩
 try dsimp only
 try dsimp only at hy373
 obtain ⟨hy3730,hy3731⟩ := hy373
 refine kA [8] ?_
 refine kSC 8 120 [.int .i64 s.una,.int .i64 y373] (some 67) rfl (xc_s fun ww hf => sSeqAdd_c s.una y373 ww ) ?_
 intro _
 exact xe_wkL (kF 2 0 [0,2,3,4,5,59,67]) (by kernel_rfl) (hD5 ⟨(y373),⟨hy3730,hy3731⟩⟩)
 refine xe_cutT (α := Unit) (fun zz => (fun (u_ : Unit) => [(0,.v (.pointer (some ⟨g,0,none⟩))),(2,.p 0 0),(3,.p 1 0),(4,.v (.int .i64 y2)),(5,.v (.int .i64 (i : Int))),(59,.v (.agg (sndL s).toArray)),(61,.v (.int .i64 s.una)),(62,.v (.pointer (some ⟨g,0,none⟩))),(64,.v (.int .i64 (flown s)))]) zz) 8 (listB 14 63) ?_ (fun hD3 => ?_)
 intro u_
 try dsimp only
 refine kTD [6] [65,0,2,3,4,5,59,61,62] 7 [(65,.v (.int .i64 (IntKind.i64.wrap ((flown s) + 1))))] ?_
 refine kA [7] ?_
 refine kSW 7 133 [.pointer (some ⟨g,0,none⟩),.int .i64 (IntKind.i64.wrap ((flown s) + 1))] (some 66) 0 rfl rfl hlo (under_t (under_f rfl under_nil)) (l1Below_c_K hBw hap) ?_
 rintro ⟨y373,hy373⟩
 obtain ⟨hy3730,hy3731⟩ := hy373
 exact xe_wkL (kF 2 0 [0,2,3,4,5,59,61,66]) (by kernel_rfl) (hD4 ⟨(y373),⟨hy3730,hy3731⟩⟩)
 refine xe_cutT (α := Unit) (fun zz => (fun (u_ : Unit) => [(0,.v (.pointer (some ⟨g,0,none⟩))),(2,.p 0 0),(3,.p 1 0),(4,.v (.int .i64 y2)),(5,.v (.int .i64 (i : Int))),(59,.v (.agg (sndL s).toArray)),(61,.v (.int .i64 s.una)),(62,.v (.pointer (some ⟨g,0,none⟩))),(63,.v (.agg (sndL s).toArray))]) zz) 9 (listB 14 31) ?_ (fun hD2 => ?_)
 intro u_
 try dsimp only
 refine kA [5] ?_
 refine kSC 5 77 [.agg (sndL s).toArray] (some 64) rfl (xc_b fun ww hf => sFlown_c s.una s.data s.sent s.fin s.finSent s.done ww ) ?_
 intro _
 exact xe_wkL (kF 2 0 [0,2,3,4,5,59,61,62,64]) (by kernel_rfl) (hD3 ())
 refine xe_cutT (α := Unit) (fun zz => (fun (u_ : Unit) => [(0,.v (.pointer (some ⟨g,0,none⟩))),(2,.p 0 0),(3,.p 1 0),(4,.v (.int .i64 y2)),(5,.v (.int .i64 (i : Int))),(59,.v (.agg (sndL s).toArray)),(61,.v (.int .i64 s.una)),(62,.v (.pointer (some ⟨g,0,none⟩)))]) zz) 10 (listB 14 15) ?_ (fun hD1 => ?_)
 intro u_
 try dsimp only
 refine kA [4] ?_
 refine kSV 4 (.v (.agg (sndL s).toArray)) rfl ?_
 exact xe_wkL (kF 2 0 [0,2,3,4,5,59,61,62,63]) (by kernel_rfl) (hD2 ())
 refine xe_cutT (α := Unit) (fun zz => (fun (u_ : Unit) => [(0,.v (.pointer (some ⟨g,0,none⟩))),(2,.p 0 0),(3,.p 1 0),(4,.v (.int .i64 y2)),(5,.v (.int .i64 (i : Int))),(59,.v (.agg (sndL s).toArray)),(61,.v (.int .i64 s.una)),(62,.v (.pointer (some ⟨g,0,none⟩))),(65,.v (.int .i64 (IntKind.i64.wrap ((flown s) + 1))))]) zz) 7 (listB 14 127) ?_ (fun hD10 => ?_)
 intro u_
 try dsimp only
 refine kA [7] ?_
 refine kSW 7 133 [.pointer (some ⟨g,0,none⟩),.int .i64 (IntKind.i64.wrap ((flown s) + 1))] (some 66) 0 rfl rfl hlo (under_t (under_f rfl under_nil)) (l1Below_c_K hBw hap) ?_
 rintro ⟨y373,hy373⟩
 obtain ⟨hy3730,hy3731⟩ := hy373
 exact xe_wkL (kF 2 0 [0,2,3,4,5,59,61,66]) (by kernel_rfl) (hD4 ⟨(y373),⟨hy3730,hy3731⟩⟩)
 refine xe_cutT (α := {zz : Int // (fun (y373 : Int) => 0 ≤ y373 ∧ (0 < (IntKind.i64.wrap ((flown s) + 1)) → y373 < (IntKind.i64.wrap ((flown s) + 1)))) zz}) (fun zz => (fun (y373 : Int) => [(0,.v (.pointer (some ⟨g,0,none⟩))),(2,.p 0 0),(3,.p 1 0),(4,.v (.int .i64 y2)),(5,.v (.int .i64 (i : Int))),(59,.v (.agg (sndL s).toArray)),(60,.p 1 0),(66,.v (.int .i64 y373))]) zz.1) 7 (listB 14 251) ?_ (fun hD11 => ?_)
 rintro ⟨y373,hy373⟩
 try dsimp only
 try dsimp only at hy373
 obtain ⟨hy3730,hy3731⟩ := hy373
 refine kA [2] ?_
 refine kSV 2 (.v (.int .i64 s.una)) rfl ?_
 exact xe_wkL (kF 2 0 [0,2,3,4,5,59,61,66]) (by kernel_rfl) (hD4 ⟨(y373),⟨hy3730,hy3731⟩⟩)
 refine xe_cutT (α := Unit) (fun zz => (fun (u_ : Unit) => [(0,.v (.pointer (some ⟨g,0,none⟩))),(2,.p 0 0),(3,.p 1 0),(4,.v (.int .i64 y2)),(5,.v (.int .i64 (i : Int))),(59,.v (.agg (sndL s).toArray)),(60,.p 1 0),(62,.v (.pointer (some ⟨g,0,none⟩))),(64,.v (.int .i64 (flown s)))]) zz) 9 (listB 14 59) ?_ (fun hD9 => ?_)
 intro u_
 try dsimp only
 refine kTD [6] [65,0,2,3,4,5,59,60,62] 8 [(65,.v (.int .i64 (IntKind.i64.wrap ((flown s) + 1))))] ?_
 refine kA [2,7] ⟨?_,?_⟩
 refine kSV 2 (.v (.int .i64 s.una)) rfl ?_
 exact xe_wkL (kF 2 0 [0,2,3,4,5,59,61,62,65]) (by kernel_rfl) (hD10 ())
 refine kSW 7 133 [.pointer (some ⟨g,0,none⟩),.int .i64 (IntKind.i64.wrap ((flown s) + 1))] (some 66) 0 rfl rfl hlo (under_t (under_f rfl under_nil)) (l1Below_c_K hBw hap) ?_
 rintro ⟨y373,hy373⟩
 obtain ⟨hy3730,hy3731⟩ := hy373
 exact xe_wkL (kF 2 0 [0,2,3,4,5,59,60,66]) (by kernel_rfl) (hD11 ⟨(y373),⟨hy3730,hy3731⟩⟩)
 refine xe_cutT (α := Unit) (fun zz => (fun (u_ : Unit) => [(0,.v (.pointer (some ⟨g,0,none⟩))),(2,.p 0 0),(3,.p 1 0),(4,.v (.int .i64 y2)),(5,.v (.int .i64 (i : Int))),(59,.v (.agg (sndL s).toArray)),(60,.p 1 0),(62,.v (.pointer (some ⟨g,0,none⟩))),(63,.v (.agg (sndL s).toArray))]) zz) 10 (listB 14 27) ?_ (fun hD8 => ?_)
 intro u_
 try dsimp only
 refine kA [2,5] ⟨?_,?_⟩
 refine kSV 2 (.v (.int .i64 s.una)) rfl ?_
 exact xe_wkL (kF 2 0 [0,2,3,4,5,59,61,62,63]) (by kernel_rfl) (hD2 ())
 refine kSC 5 77 [.agg (sndL s).toArray] (some 64) rfl (xc_b fun ww hf => sFlown_c s.una s.data s.sent s.fin s.finSent s.done ww ) ?_
 intro _
 exact xe_wkL (kF 2 0 [0,2,3,4,5,59,60,62,64]) (by kernel_rfl) (hD9 ())
 refine xe_cutT (α := Unit) (fun zz => (fun (u_ : Unit) => [(0,.v (.pointer (some ⟨g,0,none⟩))),(2,.p 0 0),(3,.p 1 0),(4,.v (.int .i64 y2)),(5,.v (.int .i64 (i : Int))),(59,.v (.agg (sndL s).toArray)),(60,.p 1 0),(62,.v (.pointer (some ⟨g,0,none⟩)))]) zz) 11 (listB 14 11) ?_ (fun hD0 => ?_)
 intro u_
 try dsimp only
 refine kA [2,4] ⟨?_,?_⟩
 refine kSV 2 (.v (.int .i64 s.una)) rfl ?_
 exact xe_wkL (kF 2 0 [0,2,3,4,5,59,61,62]) (by kernel_rfl) (hD1 ())
 refine kSV 4 (.v (.agg (sndL s).toArray)) rfl ?_
 exact xe_wkL (kF 2 0 [0,2,3,4,5,59,60,62,63]) (by kernel_rfl) (hD8 ())
 refine xe_cutT (α := {zz : Int // (fun (y373 : Int) => 0 ≤ y373 ∧ (0 < (IntKind.i64.wrap ((flown s) + 1)) → y373 < (IntKind.i64.wrap ((flown s) + 1)))) zz}) (fun zz => (fun (y373 : Int) => [(0,.v (.pointer (some ⟨g,0,none⟩))),(2,.p 0 0),(3,.p 1 0),(4,.v (.int .i64 y2)),(5,.v (.int .i64 (i : Int))),(67,.v (.int .i64 (sA s.una y373)))]) zz.1) 6 (listB 14 510) ?_ (fun hD16 => ?_)
 rintro ⟨y373,hy373⟩
 try dsimp only
 try dsimp only at hy373
 obtain ⟨hy3730,hy3731⟩ := hy373
 refine kA [0] ?_
 refine kSV 0 (.v (.agg (sndL s).toArray)) rfl ?_
 exact xe_wkL (kF 2 0 [0,2,3,4,5,59,67]) (by kernel_rfl) (hD5 ⟨(y373),⟨hy3730,hy3731⟩⟩)
 refine xe_cutT (α := {zz : Int // (fun (y373 : Int) => 0 ≤ y373 ∧ (0 < (IntKind.i64.wrap ((flown s) + 1)) → y373 < (IntKind.i64.wrap ((flown s) + 1)))) zz}) (fun zz => (fun (y373 : Int) => [(0,.v (.pointer (some ⟨g,0,none⟩))),(2,.p 0 0),(3,.p 1 0),(4,.v (.int .i64 y2)),(5,.v (.int .i64 (i : Int))),(61,.v (.int .i64 s.una)),(66,.v (.int .i64 y373))]) zz.1) 7 (listB 14 254) ?_ (fun hD15 => ?_)
 rintro ⟨y373,hy373⟩
 try dsimp only
 try dsimp only at hy373
 obtain ⟨hy3730,hy3731⟩ := hy373
 refine kA [0,8] ⟨?_,?_⟩
 refine kSV 0 (.v (.agg (sndL s).toArray)) rfl ?_
 exact xe_wkL (kF 2 0 [0,2,3,4,5,59,61,66]) (by kernel_rfl) (hD4 ⟨(y373),⟨hy3730,hy3731⟩⟩)
 refine kSC 8 120 [.int .i64 s.una,.int .i64 y373] (some 67) rfl (xc_s fun ww hf => sSeqAdd_c s.una y373 ww ) ?_
 intro _
 exact xe_wkL (kF 2 0 [0,2,3,4,5,67]) (by kernel_rfl) (hD16 ⟨(y373),⟨hy3730,hy3731⟩⟩)
 refine xe_cutT (α := Unit) (fun zz => (fun (u_ : Unit) => [(0,.v (.pointer (some ⟨g,0,none⟩))),(2,.p 0 0),(3,.p 1 0),(4,.v (.int .i64 y2)),(5,.v (.int .i64 (i : Int))),(61,.v (.int .i64 s.una)),(62,.v (.pointer (some ⟨g,0,none⟩))),(64,.v (.int .i64 (flown s)))]) zz) 9 (listB 14 62) ?_ (fun hD14 => ?_)
 intro u_
 try dsimp only
 refine kTD [6] [65,0,2,3,4,5,61,62] 8 [(65,.v (.int .i64 (IntKind.i64.wrap ((flown s) + 1))))] ?_
 refine kA [0,7] ⟨?_,?_⟩
 refine kSV 0 (.v (.agg (sndL s).toArray)) rfl ?_
 exact xe_wkL (kF 2 0 [0,2,3,4,5,59,61,62,65]) (by kernel_rfl) (hD10 ())
 refine kSW 7 133 [.pointer (some ⟨g,0,none⟩),.int .i64 (IntKind.i64.wrap ((flown s) + 1))] (some 66) 0 rfl rfl hlo (under_t (under_f rfl under_nil)) (l1Below_c_K hBw hap) ?_
 rintro ⟨y373,hy373⟩
 obtain ⟨hy3730,hy3731⟩ := hy373
 exact xe_wkL (kF 2 0 [0,2,3,4,5,61,66]) (by kernel_rfl) (hD15 ⟨(y373),⟨hy3730,hy3731⟩⟩)
 refine xe_cutT (α := Unit) (fun zz => (fun (u_ : Unit) => [(0,.v (.pointer (some ⟨g,0,none⟩))),(2,.p 0 0),(3,.p 1 0),(4,.v (.int .i64 y2)),(5,.v (.int .i64 (i : Int))),(61,.v (.int .i64 s.una)),(62,.v (.pointer (some ⟨g,0,none⟩))),(63,.v (.agg (sndL s).toArray))]) zz) 10 (listB 14 30) ?_ (fun hD13 => ?_)
 intro u_
 try dsimp only
 refine kA [0,5] ⟨?_,?_⟩
 refine kSV 0 (.v (.agg (sndL s).toArray)) rfl ?_
 exact xe_wkL (kF 2 0 [0,2,3,4,5,59,61,62,63]) (by kernel_rfl) (hD2 ())
 refine kSC 5 77 [.agg (sndL s).toArray] (some 64) rfl (xc_b fun ww hf => sFlown_c s.una s.data s.sent s.fin s.finSent s.done ww ) ?_
 intro _
 exact xe_wkL (kF 2 0 [0,2,3,4,5,61,62,64]) (by kernel_rfl) (hD14 ())
 refine xe_cutT (α := Unit) (fun zz => (fun (u_ : Unit) => [(0,.v (.pointer (some ⟨g,0,none⟩))),(2,.p 0 0),(3,.p 1 0),(4,.v (.int .i64 y2)),(5,.v (.int .i64 (i : Int))),(61,.v (.int .i64 s.una)),(62,.v (.pointer (some ⟨g,0,none⟩)))]) zz) 11 (listB 14 14) ?_ (fun hD12 => ?_)
 intro u_
 try dsimp only
 refine kA [0,4] ⟨?_,?_⟩
 refine kSV 0 (.v (.agg (sndL s).toArray)) rfl ?_
 exact xe_wkL (kF 2 0 [0,2,3,4,5,59,61,62]) (by kernel_rfl) (hD1 ())
 refine kSV 4 (.v (.agg (sndL s).toArray)) rfl ?_
 exact xe_wkL (kF 2 0 [0,2,3,4,5,61,62,63]) (by kernel_rfl) (hD13 ())
 refine xe_cutT (α := Unit) (fun zz => (fun (u_ : Unit) => [(0,.v (.pointer (some ⟨g,0,none⟩))),(2,.p 0 0),(3,.p 1 0),(4,.v (.int .i64 y2)),(5,.v (.int .i64 (i : Int))),(59,.v (.agg (sndL s).toArray)),(60,.p 1 0),(62,.v (.pointer (some ⟨g,0,none⟩))),(65,.v (.int .i64 (IntKind.i64.wrap ((flown s) + 1))))]) zz) 8 (listB 14 123) ?_ (fun hD19 => ?_)
 intro u_
 try dsimp only
 refine kA [2,7] ⟨?_,?_⟩
 refine kSV 2 (.v (.int .i64 s.una)) rfl ?_
 exact xe_wkL (kF 2 0 [0,2,3,4,5,59,61,62,65]) (by kernel_rfl) (hD10 ())
 refine kSW 7 133 [.pointer (some ⟨g,0,none⟩),.int .i64 (IntKind.i64.wrap ((flown s) + 1))] (some 66) 0 rfl rfl hlo (under_t (under_f rfl under_nil)) (l1Below_c_K hBw hap) ?_
 rintro ⟨y373,hy373⟩
 obtain ⟨hy3730,hy3731⟩ := hy373
 exact xe_wkL (kF 2 0 [0,2,3,4,5,59,60,66]) (by kernel_rfl) (hD11 ⟨(y373),⟨hy3730,hy3731⟩⟩)
 refine xe_cutT (α := Unit) (fun zz => (fun (u_ : Unit) => [(0,.v (.pointer (some ⟨g,0,none⟩))),(2,.p 0 0),(3,.p 1 0),(4,.v (.int .i64 y2)),(5,.v (.int .i64 (i : Int))),(61,.v (.int .i64 s.una)),(62,.v (.pointer (some ⟨g,0,none⟩))),(65,.v (.int .i64 (IntKind.i64.wrap ((flown s) + 1))))]) zz) 8 (listB 14 126) ?_ (fun hD20 => ?_)
 intro u_
 try dsimp only
 refine kA [0,7] ⟨?_,?_⟩
 refine kSV 0 (.v (.agg (sndL s).toArray)) rfl ?_
 exact xe_wkL (kF 2 0 [0,2,3,4,5,59,61,62,65]) (by kernel_rfl) (hD10 ())
 refine kSW 7 133 [.pointer (some ⟨g,0,none⟩),.int .i64 (IntKind.i64.wrap ((flown s) + 1))] (some 66) 0 rfl rfl hlo (under_t (under_f rfl under_nil)) (l1Below_c_K hBw hap) ?_
 rintro ⟨y373,hy373⟩
 obtain ⟨hy3730,hy3731⟩ := hy373
 exact xe_wkL (kF 2 0 [0,2,3,4,5,61,66]) (by kernel_rfl) (hD15 ⟨(y373),⟨hy3730,hy3731⟩⟩)
 refine xe_cutT (α := {zz : Int // (fun (y373 : Int) => 0 ≤ y373 ∧ (0 < (IntKind.i64.wrap ((flown s) + 1)) → y373 < (IntKind.i64.wrap ((flown s) + 1)))) zz}) (fun zz => (fun (y373 : Int) => [(0,.v (.pointer (some ⟨g,0,none⟩))),(2,.p 0 0),(3,.p 1 0),(4,.v (.int .i64 y2)),(5,.v (.int .i64 (i : Int))),(60,.p 1 0),(66,.v (.int .i64 y373))]) zz.1) 8 (listB 14 250) ?_ (fun hD21 => ?_)
 rintro ⟨y373,hy373⟩
 try dsimp only
 try dsimp only at hy373
 obtain ⟨hy3730,hy3731⟩ := hy373
 refine kA [0,2] ⟨?_,?_⟩
 refine kSV 0 (.v (.agg (sndL s).toArray)) rfl ?_
 exact xe_wkL (kF 2 0 [0,2,3,4,5,59,60,66]) (by kernel_rfl) (hD11 ⟨(y373),⟨hy3730,hy3731⟩⟩)
 refine kSV 2 (.v (.int .i64 s.una)) rfl ?_
 exact xe_wkL (kF 2 0 [0,2,3,4,5,61,66]) (by kernel_rfl) (hD15 ⟨(y373),⟨hy3730,hy3731⟩⟩)
 refine xe_cutT (α := Unit) (fun zz => (fun (u_ : Unit) => [(0,.v (.pointer (some ⟨g,0,none⟩))),(2,.p 0 0),(3,.p 1 0),(4,.v (.int .i64 y2)),(5,.v (.int .i64 (i : Int))),(60,.p 1 0),(62,.v (.pointer (some ⟨g,0,none⟩))),(64,.v (.int .i64 (flown s)))]) zz) 10 (listB 14 58) ?_ (fun hD18 => ?_)
 intro u_
 try dsimp only
 refine kTD [6] [65,0,2,3,4,5,60,62] 9 [(65,.v (.int .i64 (IntKind.i64.wrap ((flown s) + 1))))] ?_
 refine kA [0,2,7] ⟨?_,?_,?_⟩
 refine kSV 0 (.v (.agg (sndL s).toArray)) rfl ?_
 exact xe_wkL (kF 2 0 [0,2,3,4,5,59,60,62,65]) (by kernel_rfl) (hD19 ())
 refine kSV 2 (.v (.int .i64 s.una)) rfl ?_
 exact xe_wkL (kF 2 0 [0,2,3,4,5,61,62,65]) (by kernel_rfl) (hD20 ())
 refine kSW 7 133 [.pointer (some ⟨g,0,none⟩),.int .i64 (IntKind.i64.wrap ((flown s) + 1))] (some 66) 0 rfl rfl hlo (under_t (under_f rfl under_nil)) (l1Below_c_K hBw hap) ?_
 rintro ⟨y373,hy373⟩
 obtain ⟨hy3730,hy3731⟩ := hy373
 exact xe_wkL (kF 2 0 [0,2,3,4,5,60,66]) (by kernel_rfl) (hD21 ⟨(y373),⟨hy3730,hy3731⟩⟩)
 refine xe_cutT (α := Unit) (fun zz => (fun (u_ : Unit) => [(0,.v (.pointer (some ⟨g,0,none⟩))),(2,.p 0 0),(3,.p 1 0),(4,.v (.int .i64 y2)),(5,.v (.int .i64 (i : Int))),(60,.p 1 0),(62,.v (.pointer (some ⟨g,0,none⟩))),(63,.v (.agg (sndL s).toArray))]) zz) 11 (listB 14 26) ?_ (fun hD17 => ?_)
 intro u_
 try dsimp only
 refine kA [0,2,5] ⟨?_,?_,?_⟩
 refine kSV 0 (.v (.agg (sndL s).toArray)) rfl ?_
 exact xe_wkL (kF 2 0 [0,2,3,4,5,59,60,62,63]) (by kernel_rfl) (hD8 ())
 refine kSV 2 (.v (.int .i64 s.una)) rfl ?_
 exact xe_wkL (kF 2 0 [0,2,3,4,5,61,62,63]) (by kernel_rfl) (hD13 ())
 refine kSC 5 77 [.agg (sndL s).toArray] (some 64) rfl (xc_b fun ww hf => sFlown_c s.una s.data s.sent s.fin s.finSent s.done ww ) ?_
 intro _
 exact xe_wkL (kF 2 0 [0,2,3,4,5,60,62,64]) (by kernel_rfl) (hD18 ())
 refine kTD [1,3] [62,60,0,2,3,4,5] 12 [(62,.v (.pointer (some ⟨g,0,none⟩))),(60,.p 1 0)] ?_
 refine kA [0,2,4] ⟨?_,?_,?_⟩
 refine kSV 0 (.v (.agg (sndL s).toArray)) rfl ?_
 exact xe_wkL (kF 2 0 [0,2,3,4,5,59,60,62]) (by kernel_rfl) (hD0 ())
 refine kSV 2 (.v (.int .i64 s.una)) rfl ?_
 exact xe_wkL (kF 2 0 [0,2,3,4,5,61,62]) (by kernel_rfl) (hD12 ())
 refine kSV 4 (.v (.agg (sndL s).toArray)) rfl ?_
 exact xe_wkL (kF 2 0 [0,2,3,4,5,60,62,63]) (by kernel_rfl) (hD17 ())
 have h21p := eqF h21
 refine kG ?_
 refine kRD 3 [0,2,3,4,5,22] [(22,.v (.bool s.fin))] ?_
 refine kP 22 (s.fin) (fun h723 => ?_) (fun h723 => ?_)
 refine kEU [0,2,3,4,5] [] 1 ⟨38,sndL { s with fin := true }⟩ ?_
 exact ⟨⟨({ s with fin := true }),⟨⟩⟩,kF 2 0 [0,2,3,4,5]⟩
 refine kWD 1 [0,2,3,4,5,22,23] [(22,.v (.bool false)),(23,.v (.pointer (some ⟨g,0,none⟩)))] 110 [.pointer (some ⟨g,0,none⟩),.int .i64 2] (some 24) 0 rfl rfl hlo (l1Once_c_K hBw hap) ?_
 rintro ⟨y724,hy724⟩
 refine kEU [0,2,3,4,5] [] 1 ⟨38,sndL { s with fin := y724 }⟩ ?_
 exact ⟨⟨({ s with fin := y724 }),⟨⟩⟩,kF 2 0 [0,2,3,4,5]⟩
 rintro ⟨s2,-⟩
 try dsimp only
 refine kG ?_
 refine kRD 3 [0,2,3,4,5] [(5,.v (.int .i64 (IntKind.i64.wrap ((i : Int) + 1))))] ?_
 refine xl_nv [0,2,3,4,5] [(5,.v (.int .i64 (IntKind.i64.wrap ((i : Int) + 1))))] [(5,.v (.int .i64 ((i : Int) + 1)))] (by rw [show (IntKind.i64.wrap ((i : Int) + 1)) = ((i : Int) + 1) from wrap_id (by omega) (by omega)]) (by kernel_rfl) ?_
 refine kED [0,2,3,4,5] [] ?_
 exact ⟨⟨(i + 1,s2),(by omega)⟩,kF 2 0 [0,2,3,4,5],by show (fun (i : Nat) (s : Snd) => (y2).toNat - i) (i + 1) s2 < (y2).toNat - i; (dsimp only; omega)⟩
 have h3p := of_decide_eq_false h3
 have hge : ¬ (i : Int) < y2 := of_decide_eq_false h3
 refine xw_exit ?_
 refine kQ ?_
 refine kEU [2] [(2,.p 0 0)] 0 ⟨38,sndL s⟩ ?_
 refine kR ?_
 exact ⟨[.agg (sndL s).toArray],by kernel_rfl,fun w' hb hf => ⟨⟨s,trivial⟩,rfl,hf (curF B g 137 (.slice A J.length cap) J.length) (by simp),frF_chgd (hf (frF w (fun b => b = g)) (by simp)) hb rfl rfl rfl⟩⟩
theorem l17Sender_c_K {g : Nat} {J : List Int} {A : Option Addr} {cap : Nat}  {w0 : World} {fs : List Fact} {B : Nat} (hB : B ≤ w0.heap.size) (hap : ¬ (slF (.slice A J.length cap) 1 (J.map bR)).blk g)  (hn : J.length ≤ 1048576 := by omega) (h1 : curF B g 137 (.slice A J.length cap) J.length ∈ fs := by simp) (h2 : slF (.slice A J.length cap) 1 (J.map bR) ∈ fs := by simp) : XCM Tryz.prog w0 fs (curF B g 137 (.slice A J.length cap) J.length).blk 156 [.pointer (some ⟨g, 0, none⟩)] (α := {y : Snd // True}) (fun y => .agg (sndL y.1).toArray) (fun _ => [curF B g 137 (.slice A J.length cap) J.length]) := xcm_cur fun w hw hf => l17Sender_c g J A cap  w B (Nat.le_trans hB hw) (hf _ h1) (hf _ h2) hap hn  
theorem l17Bent_c (g : Nat) (J : List Int) (A : Option Addr) (cap : Nat)  (w : World) (B : Nat) (hB : B ≤ w.heap.size) (hc : (curF B g 137 (.slice A J.length cap) J.length).p w) (hl : Sl w (.slice A J.length cap) 1 (J.map bR)) (hap : ¬ (slF (.slice A J.length cap) 1 (J.map bR)).blk g) (hn : J.length ≤ 1048576)  : Calls Tryz.prog 134 #[.pointer (some ⟨g, 0, none⟩)] w fun e w' => ∃ y : {y : Snd // True}, e = .returned (.agg (sndL y.1).toArray) ∧ (curF B g 137 (.slice A J.length cap) J.length).p w' ∧ Chgd (fun b => b = g) w w' := by
 have hq_code := Sl.capLe hl
 have hBw : B ≤ (cutW w B).heap.size := Nat.le_of_eq (cutW_size hB).symm
 have hlo : ∀ (ww : World) (b : Nat),(curF B g 137 (.slice A J.length cap) J.length).p ww → (curF B g 137 (.slice A J.length cap) J.length).blk b → (cutW w B).heap.size ≤ b := fun ww b h hb => Nat.le_trans (cutW_le w B) (cur_lo h hb)
 refine x_callsM (args := [.pointer (some ⟨g,0,none⟩)]) (fn := Tryz.f134) [curF B g 137 (.slice A J.length cap) J.length,slF (.slice A J.length cap) 1 (J.map bR),frF w (fun b => b = g)] B Tryz.func134 rfl Tryz.ntmps134 rfl hB (by simp only [List.mem_cons,List.not_mem_nil,or_false,forall_eq_or_imp,forall_eq]; exact ⟨hc,hl,frF_start w _⟩) (apart_cur hap rfl) ?_
 refine kQ ?_
 refine kEF [0,2] ⟨[(0,.v (.pointer (some ⟨g,0,none⟩))),(2,.p 0 0)],[⟨38,sndZ⟩],[],[curF B g 137 (.slice A J.length cap) J.length,slF (.slice A J.length cap) 1 (J.map bR),frF w (fun b => b = g)]⟩ ?_
 refine kQ ?_
 refine kWD 1 [0,2,4] [(4,.v (.pointer (some ⟨g,0,none⟩)))] 156 [.pointer (some ⟨g,0,none⟩)] (some 5) 0 rfl rfl hlo (l17Sender_c_K hBw hap) ?_
 rintro ⟨y1,hy1⟩
 refine kEA [0,2,3] [(3,.p 1 0)] [⟨38,sndL y1⟩] ?_
 refine kS ?_
 refine kQ ?_
 refine kWD 1 [0,2,3,6] [(6,.v (.pointer (some ⟨g,0,none⟩)))] 133 [.pointer (some ⟨g,0,none⟩),.int .i64 10] (some 7) 0 rfl rfl hlo (l1Below_c_K hBw hap) ?_
 rintro ⟨y2,hy2⟩
 obtain ⟨hy20,hy21⟩ := hy2
 refine kED [0,2,3,7] [] ?_
 refine xw_block ?_
 refine kQ ?_
 refine kED [0,2,3,7,8] [(8,.v (.bool (y2 == 0)))] ?_
 refine kC (y2 == 0) (fun h3 => ?_) (fun h3 => ?_)
 have h3p := eqT h3
 refine kG ?_
 refine kWD 1 [2,3,10] [(10,.v (.pointer (some ⟨g,0,none⟩)))] 143 [.pointer (some ⟨g,0,none⟩)] (some 11) 0 rfl rfl hlo (l2Word_c_K hBw hap) ?_
 rintro ⟨y4,hy4⟩
 refine kEU [2,3] [] 1 ⟨38,sndL { y1 with una := y4 }⟩ ?_
 refine kQ ?_
 refine kEU [2] [(2,.p 0 0)] 0 ⟨38,sndL { y1 with una := y4 }⟩ ?_
 refine kR ?_
 exact ⟨[.agg (sndL { y1 with una := y4 }).toArray],by kernel_rfl,fun w' hb hf => ⟨⟨{ y1 with una := y4 },trivial⟩,rfl,hf (curF B g 137 (.slice A J.length cap) J.length) (by simp),frF_chgd (hf (frF w (fun b => b = g)) (by simp)) hb rfl rfl rfl⟩⟩
 have h3p := eqF h3
 refine kQ ?_
 refine kED [0,2,3,7,13] [(13,.v (.bool (y2 == 1)))] ?_
 refine kC (y2 == 1) (fun h5 => ?_) (fun h5 => ?_)
 have h5p := eqT h5
 refine kG ?_
 refine kHD 5 [2,3,15,19] [(15,.v (.pointer (some ⟨g,0,none⟩))),(19,.v (.int .i64 (IntKind.i64.wrap ((y1.data.size : Int) + 1))))] rfl (hv_build (e := 3) (K := 1) (bytes := 8) [.int .i64 (-1),.int .i64 0,.int .i64 48,.int .i64 49,.int .i64 (IntKind.i64.wrap ((y1.data.size : Int) + 1))] rfl (by kernel_rfl) (by kernel_rfl) (by kernel_rfl) (by kernel_rfl) (by kernel_rfl) (rs := ([(-1),0,48,49,IntKind.i64.wrap ((y1.data.size : Int) + 1)] : List Int).map intRow) rfl) ?_
 intro g6
 refine xl_know (φ := ¬ (slF (.slice (some ⟨g6,0,none⟩) 5 5) 1 (([(-1),0,48,49,IntKind.i64.wrap ((y1.data.size : Int) + 1)] : List Int).map intRow)).blk g) (fun _ _ _ _ hr => fun hb => hr.2.apart 0 1 (rowF (cutW w B).heap.size 3 1 (.slice (some ⟨g6,0,none⟩) 5 5) (([(-1),0,48,49,IntKind.i64.wrap ((y1.data.size : Int) + 1)] : List Int).map intRow)) (curF B g 137 (.slice A J.length cap) J.length) rfl rfl (by decide) rfl g (rowF_sblk hb) rfl) (fun hk7 => ?_)
 refine kWD 0 [2,3,15,20] [] 136 [.pointer (some ⟨g,0,none⟩),.slice (some ⟨g6,0,none⟩) 5 5] (some 21) 1 rfl rfl hlo (l1PickInt_c_K hBw hap (fun ww hw hf => (rowF_sl (hf _ m0))) hk7 (by simp)) ?_
 rintro ⟨y8,hy8⟩
 refine kEU [2,3] [] 1 ⟨38,sndL { y1 with sent := y8 }⟩ ?_
 refine kQ ?_
 refine kEU [2] [(2,.p 0 0)] 0 ⟨38,sndL { y1 with sent := y8 }⟩ ?_
 refine kR ?_
 exact ⟨[.agg (sndL { y1 with sent := y8 }).toArray],by kernel_rfl,fun w' hb hf => ⟨⟨{ y1 with sent := y8 },trivial⟩,rfl,hf (curF B g 137 (.slice A J.length cap) J.length) (by simp),frF_chgd (hf (frF w (fun b => b = g)) (by simp)) hb rfl rfl rfl⟩⟩
 have h5p := eqF h5
 refine kQ ?_
 refine kED [0,2,3,7,23] [(23,.v (.bool (y2 == 2)))] ?_
 refine kC (y2 == 2) (fun h9 => ?_) (fun h9 => ?_)
 have h9p := eqT h9
 refine kG ?_
 refine kEU [2,3] [] 1 ⟨38,sndL { y1 with finSent := !y1.finSent }⟩ ?_
 refine kQ ?_
 refine kEU [2] [(2,.p 0 0)] 0 ⟨38,sndL { y1 with finSent := !y1.finSent }⟩ ?_
 refine kR ?_
 exact ⟨[.agg (sndL { y1 with finSent := !y1.finSent }).toArray],by kernel_rfl,fun w' hb hf => ⟨⟨{ y1 with finSent := !y1.finSent },trivial⟩,rfl,hf (curF B g 137 (.slice A J.length cap) J.length) (by simp),frF_chgd (hf (frF w (fun b => b = g)) (by simp)) hb rfl rfl rfl⟩⟩
 have h9p := eqF h9
 refine kQ ?_
 refine kED [0,2,3,7,29] [(29,.v (.bool (y2 == 3)))] ?_
 refine kC (y2 == 3) (fun h10 => ?_) (fun h10 => ?_)
 have h10p := eqT h10
 refine kG ?_
 refine kEU [2,3] [] 1 ⟨38,sndL { y1 with done := !y1.done }⟩ ?_
 refine kQ ?_
 refine kEU [2] [(2,.p 0 0)] 0 ⟨38,sndL { y1 with done := !y1.done }⟩ ?_
 refine kR ?_
 exact ⟨[.agg (sndL { y1 with done := !y1.done }).toArray],by kernel_rfl,fun w' hb hf => ⟨⟨{ y1 with done := !y1.done },trivial⟩,rfl,hf (curF B g 137 (.slice A J.length cap) J.length) (by simp),frF_chgd (hf (frF w (fun b => b = g)) (by simp)) hb rfl rfl rfl⟩⟩
 have h10p := eqF h10
 refine kQ ?_
 refine kED [0,2,3,35] [(35,.v (.bool (y2 == 4)))] ?_
 refine kC (y2 == 4) (fun h11 => ?_) (fun h11 => ?_)
 have h11p := eqT h11
 refine kG ?_
 refine kWD 1 [2,3,37] [(37,.v (.pointer (some ⟨g,0,none⟩)))] 133 [.pointer (some ⟨g,0,none⟩),.int .i64 3] (some 38) 0 rfl rfl hlo (l1Below_c_K hBw hap) ?_
 rintro ⟨y12,hy12⟩
 obtain ⟨hy120,hy121⟩ := hy12
 refine kCS 1 [2,3,39] [(2,.p 0 0),(3,.p 1 0),(39,.v (.int .i64 (IntKind.i64.wrap (47 + y12))))] 144 [.int .i64 (IntKind.i64.wrap (47 + y12))] (some 40) rfl (xc_b fun ww hf => l5Long_c (IntKind.i64.wrap (47 + y12)) ww (by first | omega | (rw [wrap_id (by omega) (by omega)]; omega))) ?_
 intro _
 refine kEU [2,3] [] 1 ⟨38,sndL { y1 with data := bstr (List.replicate ((IntKind.i64.wrap (47 + y12))).toNat 0) }⟩ ?_
 refine kQ ?_
 refine kEU [2] [(2,.p 0 0)] 0 ⟨38,sndL { y1 with data := bstr (List.replicate ((IntKind.i64.wrap (47 + y12))).toNat 0) }⟩ ?_
 refine kR ?_
 exact ⟨[.agg (sndL { y1 with data := bstr (List.replicate ((IntKind.i64.wrap (47 + y12))).toNat 0) }).toArray],by kernel_rfl,fun w' hb hf => ⟨⟨{ y1 with data := bstr (List.replicate ((IntKind.i64.wrap (47 + y12))).toNat 0) },trivial⟩,rfl,hf (curF B g 137 (.slice A J.length cap) J.length) (by simp),frF_chgd (hf (frF w (fun b => b = g)) (by simp)) hb rfl rfl rfl⟩⟩
 have h11p := eqF h11
 refine kK ?_
 refine kQ ?_
 refine kEU [2] [(2,.p 0 0)] 0 ⟨38,sndL y1⟩ ?_
 refine kR ?_
 exact ⟨[.agg (sndL y1).toArray],by kernel_rfl,fun w' hb hf => ⟨⟨y1,trivial⟩,rfl,hf (curF B g 137 (.slice A J.length cap) J.length) (by simp),frF_chgd (hf (frF w (fun b => b = g)) (by simp)) hb rfl rfl rfl⟩⟩
theorem l17Bent_c_K {g : Nat} {J : List Int} {A : Option Addr} {cap : Nat}  {w0 : World} {fs : List Fact} {B : Nat} (hB : B ≤ w0.heap.size) (hap : ¬ (slF (.slice A J.length cap) 1 (J.map bR)).blk g)  (hn : J.length ≤ 1048576 := by omega) (h1 : curF B g 137 (.slice A J.length cap) J.length ∈ fs := by simp) (h2 : slF (.slice A J.length cap) 1 (J.map bR) ∈ fs := by simp) : XCM Tryz.prog w0 fs (curF B g 137 (.slice A J.length cap) J.length).blk 134 [.pointer (some ⟨g, 0, none⟩)] (α := {y : Snd // True}) (fun y => .agg (sndL y.1).toArray) (fun _ => [curF B g 137 (.slice A J.length cap) J.length]) := xcm_cur fun w hw hf => l17Bent_c g J A cap  w B (Nat.le_trans hB hw) (hf _ h1) (hf _ h2) hap hn  
theorem l4Near_c (g : Nat) (J : List Int) (A : Option Addr) (cap : Nat) (x : Int) (w : World) (B : Nat) (hB : B ≤ w.heap.size) (hc : (curF B g 137 (.slice A J.length cap) J.length).p w) (hl : Sl w (.slice A J.length cap) 1 (J.map bR)) (hap : ¬ (slF (.slice A J.length cap) 1 (J.map bR)).blk g) (hn : J.length ≤ 1048576)  : Calls Tryz.prog 141 #[.pointer (some ⟨g, 0, none⟩), .int .i64 x] w fun e w' => ∃ y : {y : Int // True}, e = .returned (.int .i64 y.1) ∧ (curF B g 137 (.slice A J.length cap) J.length).p w' ∧ Chgd (fun b => b = g) w w' := by
 have hq_code := Sl.capLe hl
 have hBw : B ≤ (cutW w B).heap.size := Nat.le_of_eq (cutW_size hB).symm
 have hlo : ∀ (ww : World) (b : Nat),(curF B g 137 (.slice A J.length cap) J.length).p ww → (curF B g 137 (.slice A J.length cap) J.length).blk b → (cutW w B).heap.size ≤ b := fun ww b h hb => Nat.le_trans (cutW_le w B) (cur_lo h hb)
 refine x_callsM (args := [.pointer (some ⟨g,0,none⟩),.int .i64 x]) (fn := Tryz.f141) [curF B g 137 (.slice A J.length cap) J.length,slF (.slice A J.length cap) 1 (J.map bR),frF w (fun b => b = g)] B Tryz.func141 rfl Tryz.ntmps141 rfl hB (by simp only [List.mem_cons,List.not_mem_nil,or_false,forall_eq_or_imp,forall_eq]; exact ⟨hc,hl,frF_start w _⟩) (apart_cur hap rfl) ?_
 refine kQ ?_
 refine kEF [0,1] ⟨[(0,.v (.pointer (some ⟨g,0,none⟩))),(1,.v (.int .i64 x))],[],[],[curF B g 137 (.slice A J.length cap) J.length,slF (.slice A J.length cap) 1 (J.map bR),frF w (fun b => b = g)]⟩ ?_
 refine kS ?_
 refine kQ ?_
 refine kWD 1 [0,1,5] [(5,.v (.pointer (some ⟨g,0,none⟩)))] 133 [.pointer (some ⟨g,0,none⟩),.int .i64 4] (some 6) 0 rfl rfl hlo (l1Below_c_K hBw hap) ?_
 rintro ⟨y1,hy1⟩
 obtain ⟨hy10,hy11⟩ := hy1
 refine kED [0,1,6] [] ?_
 refine xw_block ?_
 refine kQ ?_
 refine kED [0,1,6,7] [(7,.v (.bool (y1 == 0)))] ?_
 refine kC (y1 == 0) (fun h2 => ?_) (fun h2 => ?_)
 have h2p := eqT h2
 refine kQ ?_
 refine kWS 1 [9] [(9,.v (.pointer (some ⟨g,0,none⟩)))] 159 [.pointer (some ⟨g,0,none⟩)] (some 10) 0 rfl rfl hlo (l4Place_c_K hBw hap) ?_
 rintro ⟨y3,hy3⟩
 refine kES [4] [(4,.v (.int .i64 y3))] ?_
 refine kR ?_
 exact ⟨[.int .i64 y3],by kernel_rfl,fun w' hb hf => ⟨⟨y3,trivial⟩,rfl,hf (curF B g 137 (.slice A J.length cap) J.length) (by simp),frF_chgd (hf (frF w (fun b => b = g)) (by simp)) hb rfl rfl rfl⟩⟩
 have h2p := eqF h2
 refine kQ ?_
 refine kED [0,1,11] [(11,.v (.bool (y1 == 1)))] ?_
 refine kC (y1 == 1) (fun h4 => ?_) (fun h4 => ?_)
 have h4p := eqT h4
 refine kQ ?_
 refine kHS 2 [13,14] [(13,.v (.int .i64 x)),(14,.v (.pointer (some ⟨g,0,none⟩)))] rfl (hv_build (e := 3) (K := 1) (bytes := 8) [.int .i64 2147483647,.int .i64 2147483648,.int .i64 (-1),.int .i64 1,.int .i64 0] rfl (by kernel_rfl) (by kernel_rfl) (by kernel_rfl) (by kernel_rfl) (by kernel_rfl) (rs := ([2147483647,2147483648,(-1),1,0] : List Int).map intRow) rfl) ?_
 intro g5
 refine xl_know (φ := ¬ (slF (.slice (some ⟨g5,0,none⟩) 5 5) 1 (([2147483647,2147483648,(-1),1,0] : List Int).map intRow)).blk g) (fun _ _ _ _ hr => fun hb => hr.2.apart 0 1 (rowF (cutW w B).heap.size 3 1 (.slice (some ⟨g5,0,none⟩) 5 5) (([2147483647,2147483648,(-1),1,0] : List Int).map intRow)) (curF B g 137 (.slice A J.length cap) J.length) rfl rfl (by decide) rfl g (rowF_sblk hb) rfl) (fun hk6 => ?_)
 refine kWD 0 [13,14,15] [] 136 [.pointer (some ⟨g,0,none⟩),.slice (some ⟨g5,0,none⟩) 5 5] (some 16) 1 rfl rfl hlo (l1PickInt_c_K hBw hap (fun ww hw hf => (rowF_sl (hf _ m0))) hk6 (by simp)) ?_
 rintro ⟨y7,hy7⟩
 refine kCD 0 [13,16] [] 120 [.int .i64 x,.int .i64 y7] (some 17) rfl (xc_s fun ww hf => sSeqAdd_c x y7 ww ) ?_
 intro _
 refine kES [4] [(4,.v (.int .i64 (sA x y7)))] ?_
 refine kR ?_
 exact ⟨[.int .i64 (sA x y7)],by kernel_rfl,fun w' hb hf => ⟨⟨sA x y7,trivial⟩,rfl,hf (curF B g 137 (.slice A J.length cap) J.length) (by simp),frF_chgd (hf (frF w (fun b => b = g)) (by simp)) hb rfl rfl rfl⟩⟩
 have h4p := eqF h4
 refine kK ?_
 refine kQ ?_
 refine kWS 2 [18,19] [(18,.v (.int .i64 x)),(19,.v (.pointer (some ⟨g,0,none⟩)))] 133 [.pointer (some ⟨g,0,none⟩),.int .i64 41] (some 20) 0 rfl rfl hlo (l1Below_c_K hBw hap) ?_
 rintro ⟨y8,hy8⟩
 obtain ⟨hy80,hy81⟩ := hy8
 refine kCD 1 [18,21] [(21,.v (.int .i64 (IntKind.i64.wrap (y8 - 20))))] 120 [.int .i64 x,.int .i64 (IntKind.i64.wrap (y8 - 20))] (some 22) rfl (xc_s fun ww hf => sSeqAdd_c x (IntKind.i64.wrap (y8 - 20)) ww ) ?_
 intro _
 refine kES [4] [(4,.v (.int .i64 (sA x (IntKind.i64.wrap (y8 - 20)))))] ?_
 refine kR ?_
 exact ⟨[.int .i64 (sA x (IntKind.i64.wrap (y8 - 20)))],by kernel_rfl,fun w' hb hf => ⟨⟨sA x (IntKind.i64.wrap (y8 - 20)),trivial⟩,rfl,hf (curF B g 137 (.slice A J.length cap) J.length) (by simp),frF_chgd (hf (frF w (fun b => b = g)) (by simp)) hb rfl rfl rfl⟩⟩
theorem l4Near_c_K {g : Nat} {J : List Int} {A : Option Addr} {cap : Nat} {x : Int} {w0 : World} {fs : List Fact} {B : Nat} (hB : B ≤ w0.heap.size) (hap : ¬ (slF (.slice A J.length cap) 1 (J.map bR)).blk g)  (hn : J.length ≤ 1048576 := by omega) (h1 : curF B g 137 (.slice A J.length cap) J.length ∈ fs := by simp) (h2 : slF (.slice A J.length cap) 1 (J.map bR) ∈ fs := by simp) : XCM Tryz.prog w0 fs (curF B g 137 (.slice A J.length cap) J.length).blk 141 [.pointer (some ⟨g, 0, none⟩), .int .i64 x] (α := {y : Int // True}) (fun y => .int .i64 y.1) (fun _ => [curF B g 137 (.slice A J.length cap) J.length]) := xcm_cur fun w hw hf => l4Near_c g J A cap x w B (Nat.le_trans hB hw) (hf _ h1) (hf _ h2) hap hn  
end Go.Proofs.YtebgmdiejgcoiaaGreat
