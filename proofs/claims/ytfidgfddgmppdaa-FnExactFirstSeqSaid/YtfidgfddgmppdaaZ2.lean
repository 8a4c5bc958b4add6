/- Contracts that this law needs, part 2. -/
import Derived.Test.YtfidgfddgmppdaaZ1
namespace Go.Proofs.Ytfidgfddgmppdaa
open Go.RowKit
set_option linter.unusedVariables false
set_option linter.unusedSimpArgs false
set_option maxRecDepth 100000
set_option maxHeartbeats 2000000

theorem cg (n : Int) (size : Int) (w : World)  : Calls Try.prog 108 #[iI n, iI size] w fun e w' => e = .returned (.string (a9 n size)) ∧ Below w.heap.size w w' := by
 refine aq (args := [iI n,iI size]) (fn := Try.f108) [] Try.func108 rfl Try.ntmps108 rfl (by simp) ?_
 refine kQ <| bH [0,1] ⟨[(0,aI n),(1,aI size)],[],[],[]⟩ <| kS <| kQ <| ci 1 [0,1,7] [(7,aI size)] 46 [iI size,iI 1,iI 6] (some 8) rfl (xc_s fun ww hf => l1In_c size 1 6 ww ) ?_
 intro _
 refine kRD 2 [0,1,10] [(10,aB (!(bx size 1 6)))] <| kP 10 (!(bx size 1 6)) (fun h1 => ?_) (fun h1 => ?_)
 have h1n := cR h1
 have h1ni := inB_ff.1 (show bx size 1 6 = false from by simpa using h1n)
 have hno : a9 n size = ⟨#[]⟩ := pw_no h1n
 refine aH [0,1,16] [(16,aB true)] <| kT <| kQ <| bZ [4] [(4,.v (.string (⟨#[]⟩ : ByteArray)))] ?_
 refine kR ?_
 exact ⟨[.string (⟨#[]⟩ : ByteArray)],by kernel_rfl,fun w' hb hf => ⟨bM (show ((⟨#[]⟩ : ByteArray) : ByteArray) = a9 n size from by first | exact hno.symm | exact (pw_yes hin hwd (by rw [hN]; exact hend)).symm),hb⟩⟩
 have h1n := cV h1
 have h1ni := inB_tt.1 (show bx size 1 6 = true from by simpa using h1n)
 have hin := h1n
 obtain ⟨N,hN,hN6⟩ := inB16 h1n
 refine ci 3 [0,1,10,11,13] [(10,aB false),(11,aI n),(13,aI (K6.wrap (8 * size)))] 42 [iI n,iI (K6.wrap (8 * size))] (some 14) rfl (ai fun ww hf => ysWordOk_c n (K6.wrap (8 * size)) ww ) ?_
 intro _
 refine kRD 2 [0,1,16] [(16,aB (!(aw n (K6.wrap (8 * size)))))] <| bX [0,1,16] [(16,aB (!(aw n (K6.wrap (8 * size)))))] [(16,aB (!(aw n (8 * size))))] (by rw [show (K6.wrap (8 * size)) = (8 * size) from aY (by omega) (by omega)]) (by kernel_rfl) ?_
 refine aH [0,1,16] [] <| kC (!(aw n (8 * size))) (fun h2 => ?_) (fun h2 => ?_)
 have h2n := cR h2
 have hno : a9 n size = ⟨#[]⟩ := pw_no2 (by first | exact h2n | (rw [aY (by omega) (by omega)] at h2n; exact h2n))
 refine kQ <| bZ [4] [(4,.v (.string (⟨#[]⟩ : ByteArray)))] <| kR ?_
 exact ⟨[.string (⟨#[]⟩ : ByteArray)],by kernel_rfl,fun w' hb hf => ⟨bM (show ((⟨#[]⟩ : ByteArray) : ByteArray) = a9 n size from by first | exact hno.symm | exact (pw_yes hin hwd (by rw [hN]; exact hend)).symm),hb⟩⟩
 have h2n := cV h2
 have hwd : aw n (8 * size) = true := by first | exact h2n | (have hz := h2n; rw [aY (by omega) (by omega)] at hz; exact hz)
 have hn0 := word0 hwd
 refine kK <| kS <| xw_eq (st' := ⟨[(0,aI n),(1,aI (N : Int)),(16,aB (!(aw n (8 * size))))],[],[],[]⟩) (by rw [hN] <;> rfl) ?_
 refine kG <| kHD 1 [0,1,17] [(17,aI (N : Int))] rfl (hv_make (kl := .i64) (kc := .i64) (e := 5) (K := 1) (bytes := 1) (m := N) (z := .int .u8 0) (rs := (List.replicate N 0).map bR) rfl (by kernel_rfl) (by kernel_rfl) (by kernel_rfl) (by kernel_rfl) (by (try simp only [List.length_map,List.length_append,List.length_cons,List.length_nil,List.length_take,List.length_drop,maxLen]); omega) (by (try simp only [List.length_map,List.length_append,List.length_cons,List.length_nil,List.length_take,List.length_drop,maxLen]); omega) (by rw [List.map_replicate]; rfl)) ?_
 intro g3
 refine aH [0,1,5] [(5,.v (.slice (some ⟨g3,0,none⟩) N N))] <| kS <| kQ <| kRD 3 [0,5,6] [(6,aI (K6.wrap ((N : Int) - 1)))] ?_
 refine bX [0,5,6] [(6,aI (K6.wrap ((N : Int) - 1)))] [(6,aI ((N : Int) - 1))] (by rw [show (K6.wrap ((N : Int) - 1)) = ((N : Int) - 1) from aY (by omega) (by omega)]) (by kernel_rfl) ?_
 refine bZ [0,5,6] [(0,aI n),(5,.v (.slice (some ⟨g3,0,none⟩) N N)),(6,aI ((N : Int) - 1))] <| aZ <| bk (α := {x : Int × Int × List Int // (fun (i : Int) (m : Int) (l : List Int) => -1 ≤ i ∧ i < (N : Int) ∧ (0 ≤ m ∧ m ≤ 4611686018427387903) ∧ l.length = N ∧ pwL n N = pwL m (i + 1).toNat ++ l.drop (i + 1).toNat) x.1 x.2.1 x.2.2}) (fun x => (fun (i : Int) (m : Int) (l : List Int) => (⟨[(0,aI m),(5,.v (.slice (some ⟨g3,0,none⟩) N N)),(6,aI i)],[],[],[bU w.heap.size 5 1 (.slice (some ⟨g3,0,none⟩) N N) (l.map bR)]⟩ : St)) x.1.1 x.1.2.1 x.1.2.2) (fun x => (fun (i : Int) (m : Int) (l : List Int) => (i + 1).toNat) x.1.1 x.1.2.1 x.1.2.2) ⟨((N : Int) - 1,n,(List.replicate N 0)),⟨(by omega),(by omega),hn0,(by simp),(by have e : ((N : Int) - 1 + 1).toNat = N := (by omega); rw [e,List.drop_of_length_le (by simp),List.append_nil])⟩⟩ (kF 0 0 [0,5,6]) ?_
 rintro ⟨⟨i,m,l⟩,hi0,hiN,hm0,hll,HM⟩
 try dsimp only
 try dsimp only at hi0 hiN hm0 hll HM
 refine kS <| kQ <| aH [0,5,6,22] [(22,aB (decide (i ≥ 0)))] <| kC (decide (i ≥ 0)) (fun h4 => ?_) (fun h4 => ?_)
 have h4p := of_decide_eq_true h4
 obtain ⟨k,hik⟩ : ∃ k : Nat,i = (k : Int) := ⟨i.toNat,by have := of_decide_eq_true h4; omega⟩
 have hkN : k < N := by omega
 have HM1 : pwL n N = pwL m (k + 1) ++ l.drop (k + 1) := by have e : (i + 1).toNat = k + 1 := (by omega); rw [e] at HM; exact HM
 obtain ⟨y,hy⟩ : ∃ y,l[k]? = some y := ⟨_,List.getElem?_eq_getElem (by omega)⟩
 have hfd := pw_fd m; have htq := pw_tq hm0
 refine xw_eq (st' := ⟨[(0,aI m),(5,.v (.slice (some ⟨g3,0,none⟩) N N)),(6,aI (k : Int)),(22,aB (decide (i ≥ 0)))],[],[],[bU w.heap.size 5 1 (.slice (some ⟨g3,0,none⟩) N N) (l.map bR)]⟩) (by rw [hik] <;> rfl) ?_
 refine kK <| kS <| aZ <| kQ <| kOF 3 [0,5,6,25,26,27] ⟨[(0,aI m),(5,.v (.slice (some ⟨g3,0,none⟩) N N)),(6,aI (k : Int)),(25,.v (.slice (some ⟨g3,0,none⟩) N N)),(26,aI (k : Int)),(27,aI m)],[],[],[bU w.heap.size 5 1 (.slice (some ⟨g3,0,none⟩) N N) (l.map bR)]⟩ (iI (Int.tmod m 256)) rfl (fun _ _ _ ww hr => az hr.1 rfl (by kernel_rfl) (by kernel_rfl) (cH (by first | decide | omega) ww)) ?_
 refine cU 1 [0,5,6,25,26,29] [(29,.v (.int .u8 (IntKind.u8.wrap (Int.tmod m 256))))] (.pointer (some ⟨g3,k * 1,none⟩)) rfl (fun _ _ _ ww hr => act_ix (kd := .i64) (T := 168) (e := 5) (K := 1) (g := g3) (N := N) (cap := N) k rfl hr.1 rfl rfl (by kernel_rfl) (by kernel_rfl) (by kernel_rfl) (by omega) ww) ?_
 refine xl_hs 0 [0,5,6,29,30] ⟨[(0,aI m),(5,.v (.slice (some ⟨g3,0,none⟩) N N)),(6,aI (k : Int)),(29,.v (.int .u8 (IntKind.u8.wrap (Int.tmod m 256)))),(30,.v (.pointer (some ⟨g3,k * 1,none⟩)))],[],[],[bU w.heap.size 5 1 (.slice (some ⟨g3,0,none⟩) N N) (l.map bR)]⟩ (by kernel_rfl) rfl (by kernel_rfl) rfl (by kernel_rfl) (HSg.hs (hs_stR (g := g3) (B := w.heap.size) (e := 5) (K := 1) (N := N) (cap := N) (rs := (l.map bR)) (rs' := (l.set k (IntKind.u8.wrap (Int.tmod m 256))).map bR) (v := (.int .u8 (IntKind.u8.wrap (Int.tmod m 256)))) (i := 0) (off := k * 1) k 0 [.int .u8 y] (row' := [.int .u8 (IntKind.u8.wrap (Int.tmod m 256))]) rfl rfl (by kernel_rfl) rfl (by kernel_rfl) (by kernel_rfl) (by kernel_rfl) (by kernel_rfl) (Nat.le_refl _) (by simp only [List.getElem?_map,hy]; rfl) (by kernel_rfl) rfl (by rw [List.map_set]; rfl))) ?_
 refine aH [0,5,6] [] <| kG <| cU 1 [0,5,6,31] [(31,aI m)] (iI (K6.wrap (Int.tdiv m 256))) rfl (fun _ _ _ ww hr => az hr.1 rfl (by kernel_rfl) (by kernel_rfl) (quo_run (by decide) ww)) ?_
 refine kRD 1 [0,5,6] [(0,aI (K6.wrap (Int.tdiv m 256)))] <| bX [0,5,6] [(0,aI (K6.wrap (Int.tdiv m 256)))] [(0,aI (Int.tdiv m 256))] (by rw [show (K6.wrap (Int.tdiv m 256)) = (Int.tdiv m 256) from aY (by omega) (by omega)]) (by kernel_rfl) ?_
 refine aH [0,5,6] [] <| kG <| kRD 3 [0,5,6] [(6,aI (K6.wrap ((k : Int) - 1)))] <| bX [0,5,6] [(6,aI (K6.wrap ((k : Int) - 1)))] [(6,aI ((k : Int) - 1))] (by rw [show (K6.wrap ((k : Int) - 1)) = ((k : Int) - 1) from aY (by omega) (by omega)]) (by kernel_rfl) ?_
 refine aH [0,5,6] [] ?_
 exact ⟨⟨((k : Int) - 1,Int.tdiv m 256,(l.set k (IntKind.u8.wrap (Int.tmod m 256)))),⟨(by omega),(by omega),(by dsimp only; first | omega | (rw [pw_fd]; omega) | (rw [pw_td hm0]; omega)),(by rw [List.length_set]; exact hll),(by have e : ((k : Int) - 1 + 1).toNat = k := (by omega); rw [e]; exact pw_step HM1 hll hkN (by first | rfl | exact pw_b hm0) (by first | exact pw_fd m | exact pw_td hm0))⟩⟩,kF 0 0 [0,5,6],by show (fun (i : Int) (m : Int) (l : List Int) => (i + 1).toNat) ((k : Int) - 1) (Int.tdiv m 256) (l.set k (IntKind.u8.wrap (Int.tmod m 256))) < (i + 1).toNat; (dsimp only; omega)⟩
 have h4p := of_decide_eq_false h4
 have hend : pwL n N = l := by have hi1 := of_decide_eq_false h4; have e : (i + 1).toNat = 0 := (by omega); rw [HM,e]; rfl
 refine bF <| kQ <| kOS 1 [33] [(33,.v (.slice (some ⟨g3,0,none⟩) N N))] (.string (bstr l)) rfl (fun _ _ _ ww hr => act_b2s (e := 5) l hr.1 rfl (by kernel_rfl) (by kernel_rfl) (by kernel_rfl) rfl (cA (hr.2.fact (bU w.heap.size 5 1 (.slice (some ⟨g3,0,none⟩) N N) (l.map bR)) (by simp)).1)) ?_
 refine bZ [4] [(4,.v (.string (bstr l)))] <| kR ?_
 exact ⟨[.string (bstr l)],by kernel_rfl,fun w' hb hf => ⟨bM (show (bstr l : ByteArray) = a9 n size from by first | exact hno.symm | exact (pw_yes hin hwd (by rw [hN]; exact hend)).symm),hb⟩⟩
theorem cf (n : Int) (size : Int) (w : World)  : Calls Try.prog 110 #[iI n, iI size] w fun e w' => e = .returned (.string (a9 n size)) ∧ Below w.heap.size w w' := by
 refine aq (args := [iI n,iI size]) (fn := Try.f110) [] Try.func110 rfl Try.ntmps110 rfl (by simp) ?_
 refine kQ <| bH [0,1] ⟨[(0,aI n),(1,aI size)],[],[],[]⟩ <| kS <| kQ <| ci 1 [0,1,7] [(7,aI size)] 52 [iI size,iI 1,iI 6] (some 8) rfl (xc_s fun ww hf => cJ size 1 6 ww ) ?_
 intro _
 refine kRD 2 [0,1,10] [(10,aB (!(bx size 1 6)))] <| kP 10 (!(bx size 1 6)) (fun h1 => ?_) (fun h1 => ?_)
 have h1n := cR h1
 have h1ni := inB_ff.1 (show bx size 1 6 = false from by simpa using h1n)
 have hno : a9 n size = ⟨#[]⟩ := pw_no h1n
 refine aH [0,1,16] [(16,aB true)] <| kT <| kQ <| bZ [4] [(4,.v (.string (⟨#[]⟩ : ByteArray)))] ?_
 refine kR ?_
 exact ⟨[.string (⟨#[]⟩ : ByteArray)],by kernel_rfl,fun w' hb hf => ⟨bM (show ((⟨#[]⟩ : ByteArray) : ByteArray) = a9 n size from by first | exact hno.symm | exact (pw_yes hin hwd (by rw [hN]; exact hend)).symm),hb⟩⟩
 have h1n := cV h1
 have h1ni := inB_tt.1 (show bx size 1 6 = true from by simpa using h1n)
 have hin := h1n
 obtain ⟨N,hN,hN6⟩ := inB16 h1n
 refine ci 3 [0,1,10,11,13] [(10,aB false),(11,aI n),(13,aI (K6.wrap (8 * size)))] 48 [iI n,iI (K6.wrap (8 * size))] (some 14) rfl (ai fun ww hf => yiWordOk_c n (K6.wrap (8 * size)) ww ) ?_
 intro _
 refine kRD 2 [0,1,16] [(16,aB (!(aw n (K6.wrap (8 * size)))))] <| bX [0,1,16] [(16,aB (!(aw n (K6.wrap (8 * size)))))] [(16,aB (!(aw n (8 * size))))] (by rw [show (K6.wrap (8 * size)) = (8 * size) from aY (by omega) (by omega)]) (by kernel_rfl) ?_
 refine aH [0,1,16] [] <| kC (!(aw n (8 * size))) (fun h2 => ?_) (fun h2 => ?_)
 have h2n := cR h2
 have hno : a9 n size = ⟨#[]⟩ := pw_no2 (by first | exact h2n | (rw [aY (by omega) (by omega)] at h2n; exact h2n))
 refine kQ <| bZ [4] [(4,.v (.string (⟨#[]⟩ : ByteArray)))] <| kR ?_
 exact ⟨[.string (⟨#[]⟩ : ByteArray)],by kernel_rfl,fun w' hb hf => ⟨bM (show ((⟨#[]⟩ : ByteArray) : ByteArray) = a9 n size from by first | exact hno.symm | exact (pw_yes hin hwd (by rw [hN]; exact hend)).symm),hb⟩⟩
 have h2n := cV h2
 have hwd : aw n (8 * size) = true := by first | exact h2n | (have hz := h2n; rw [aY (by omega) (by omega)] at hz; exact hz)
 have hn0 := word0 hwd
 refine kK <| kS <| xw_eq (st' := ⟨[(0,aI n),(1,aI (N : Int)),(16,aB (!(aw n (8 * size))))],[],[],[]⟩) (by rw [hN] <;> rfl) ?_
 refine kG <| kHD 1 [0,1,17] [(17,aI (N : Int))] rfl (hv_make (kl := .i64) (kc := .i64) (e := 5) (K := 1) (bytes := 1) (m := N) (z := .int .u8 0) (rs := (List.replicate N 0).map bR) rfl (by kernel_rfl) (by kernel_rfl) (by kernel_rfl) (by kernel_rfl) (by (try simp only [List.length_map,List.length_append,List.length_cons,List.length_nil,List.length_take,List.length_drop,maxLen]); omega) (by (try simp only [List.length_map,List.length_append,List.length_cons,List.length_nil,List.length_take,List.length_drop,maxLen]); omega) (by rw [List.map_replicate]; rfl)) ?_
 intro g3
 refine aH [0,1,5] [(5,.v (.slice (some ⟨g3,0,none⟩) N N))] <| kS <| kQ <| kRD 3 [0,5,6] [(6,aI (K6.wrap ((N : Int) - 1)))] ?_
 refine bX [0,5,6] [(6,aI (K6.wrap ((N : Int) - 1)))] [(6,aI ((N : Int) - 1))] (by rw [show (K6.wrap ((N : Int) - 1)) = ((N : Int) - 1) from aY (by omega) (by omega)]) (by kernel_rfl) ?_
 refine bZ [0,5,6] [(0,aI n),(5,.v (.slice (some ⟨g3,0,none⟩) N N)),(6,aI ((N : Int) - 1))] <| aZ <| bk (α := {x : Int × Int × List Int // (fun (i : Int) (m : Int) (l : List Int) => -1 ≤ i ∧ i < (N : Int) ∧ (0 ≤ m ∧ m ≤ 4611686018427387903) ∧ l.length = N ∧ pwL n N = pwL m (i + 1).toNat ++ l.drop (i + 1).toNat) x.1 x.2.1 x.2.2}) (fun x => (fun (i : Int) (m : Int) (l : List Int) => (⟨[(0,aI m),(5,.v (.slice (some ⟨g3,0,none⟩) N N)),(6,aI i)],[],[],[bU w.heap.size 5 1 (.slice (some ⟨g3,0,none⟩) N N) (l.map bR)]⟩ : St)) x.1.1 x.1.2.1 x.1.2.2) (fun x => (fun (i : Int) (m : Int) (l : List Int) => (i + 1).toNat) x.1.1 x.1.2.1 x.1.2.2) ⟨((N : Int) - 1,n,(List.replicate N 0)),⟨(by omega),(by omega),hn0,(by simp),(by have e : ((N : Int) - 1 + 1).toNat = N := (by omega); rw [e,List.drop_of_length_le (by simp),List.append_nil])⟩⟩ (kF 0 0 [0,5,6]) ?_
 rintro ⟨⟨i,m,l⟩,hi0,hiN,hm0,hll,HM⟩
 try dsimp only
 try dsimp only at hi0 hiN hm0 hll HM
 refine kS <| kQ <| aH [0,5,6,22] [(22,aB (decide (i ≥ 0)))] <| kC (decide (i ≥ 0)) (fun h4 => ?_) (fun h4 => ?_)
 have h4p := of_decide_eq_true h4
 obtain ⟨k,hik⟩ : ∃ k : Nat,i = (k : Int) := ⟨i.toNat,by have := of_decide_eq_true h4; omega⟩
 have hkN : k < N := by omega
 have HM1 : pwL n N = pwL m (k + 1) ++ l.drop (k + 1) := by have e : (i + 1).toNat = k + 1 := (by omega); rw [e] at HM; exact HM
 obtain ⟨y,hy⟩ : ∃ y,l[k]? = some y := ⟨_,List.getElem?_eq_getElem (by omega)⟩
 have hfd := pw_fd m; have htq := pw_tq hm0
 refine xw_eq (st' := ⟨[(0,aI m),(5,.v (.slice (some ⟨g3,0,none⟩) N N)),(6,aI (k : Int)),(22,aB (decide (i ≥ 0)))],[],[],[bU w.heap.size 5 1 (.slice (some ⟨g3,0,none⟩) N N) (l.map bR)]⟩) (by rw [hik] <;> rfl) ?_
 refine kK <| kS <| aZ <| kQ <| kOF 4 [0,5,6,25,26,28] ⟨[(0,aI m),(5,.v (.slice (some ⟨g3,0,none⟩) N N)),(6,aI (k : Int)),(25,.v (.slice (some ⟨g3,0,none⟩) N N)),(26,aI (k : Int)),(28,.v (.int .u8 (IntKind.u8.wrap m)))],[],[],[bU w.heap.size 5 1 (.slice (some ⟨g3,0,none⟩) N N) (l.map bR)]⟩ (.pointer (some ⟨g3,k * 1,none⟩)) rfl (fun _ _ _ ww hr => act_ix (kd := .i64) (T := 168) (e := 5) (K := 1) (g := g3) (N := N) (cap := N) k rfl hr.1 rfl rfl (by kernel_rfl) (by kernel_rfl) (by kernel_rfl) (by omega) ww) ?_
 refine xl_hs 0 [0,5,6,28,29] ⟨[(0,aI m),(5,.v (.slice (some ⟨g3,0,none⟩) N N)),(6,aI (k : Int)),(28,.v (.int .u8 (IntKind.u8.wrap m))),(29,.v (.pointer (some ⟨g3,k * 1,none⟩)))],[],[],[bU w.heap.size 5 1 (.slice (some ⟨g3,0,none⟩) N N) (l.map bR)]⟩ (by kernel_rfl) rfl (by kernel_rfl) rfl (by kernel_rfl) (HSg.hs (hs_stR (g := g3) (B := w.heap.size) (e := 5) (K := 1) (N := N) (cap := N) (rs := (l.map bR)) (rs' := (l.set k (IntKind.u8.wrap m)).map bR) (v := (.int .u8 (IntKind.u8.wrap m))) (i := 0) (off := k * 1) k 0 [.int .u8 y] (row' := [.int .u8 (IntKind.u8.wrap m)]) rfl rfl (by kernel_rfl) rfl (by kernel_rfl) (by kernel_rfl) (by kernel_rfl) (by kernel_rfl) (Nat.le_refl _) (by simp only [List.getElem?_map,hy]; rfl) (by kernel_rfl) rfl (by rw [List.map_set]; rfl))) ?_
 refine aH [0,5,6] [] <| kG <| cU 1 [0,5,6,30] [(30,aI m)] (iI (Int.fdiv m (2 ^ (8 : Int).toNat))) rfl (fun _ _ _ ww hr => az hr.1 rfl (by kernel_rfl) (by kernel_rfl) (cY (k' := .u64) (by decide) (by decide) ww)) ?_
 refine aH [0,5,6] [(0,aI (Int.fdiv m (2 ^ (8 : Int).toNat)))] <| kG <| kRD 3 [0,5,6] [(6,aI (K6.wrap ((k : Int) - 1)))] <| bX [0,5,6] [(6,aI (K6.wrap ((k : Int) - 1)))] [(6,aI ((k : Int) - 1))] (by rw [show (K6.wrap ((k : Int) - 1)) = ((k : Int) - 1) from aY (by omega) (by omega)]) (by kernel_rfl) ?_
 refine aH [0,5,6] [] ?_
 exact ⟨⟨((k : Int) - 1,Int.fdiv m (2 ^ (8 : Int).toNat),(l.set k (IntKind.u8.wrap m))),⟨(by omega),(by omega),(by dsimp only; first | omega | (rw [pw_fd]; omega) | (rw [pw_td hm0]; omega)),(by rw [List.length_set]; exact hll),(by have e : ((k : Int) - 1 + 1).toNat = k := (by omega); rw [e]; exact pw_step HM1 hll hkN (by first | rfl | exact pw_b hm0) (by first | exact pw_fd m | exact pw_td hm0))⟩⟩,kF 0 0 [0,5,6],by show (fun (i : Int) (m : Int) (l : List Int) => (i + 1).toNat) ((k : Int) - 1) (Int.fdiv m (2 ^ (8 : Int).toNat)) (l.set k (IntKind.u8.wrap m)) < (i + 1).toNat; (dsimp only; omega)⟩
 have h4p := of_decide_eq_false h4
 have hend : pwL n N = l := by have hi1 := of_decide_eq_false h4; have e : (i + 1).toNat = 0 := (by omega); rw [HM,e]; rfl
 refine bF <| kQ <| kOS 1 [32] [(32,.v (.slice (some ⟨g3,0,none⟩) N N))] (.string (bstr l)) rfl (fun _ _ _ ww hr => act_b2s (e := 5) l hr.1 rfl (by kernel_rfl) (by kernel_rfl) (by kernel_rfl) rfl (cA (hr.2.fact (bU w.heap.size 5 1 (.slice (some ⟨g3,0,none⟩) N N) (l.map bR)) (by simp)).1)) ?_
 refine bZ [4] [(4,.v (.string (bstr l)))] <| kR ?_
 exact ⟨[.string (bstr l)],by kernel_rfl,fun w' hb hf => ⟨bM (show (bstr l : ByteArray) = a9 n size from by first | exact hno.symm | exact (pw_yes hin hwd (by rw [hN]; exact hend)).symm),hb⟩⟩
def ax (t : Tup) (seq epoch i : Int) : ByteArray := if bL t && (aw seq 32 && (aw epoch 32 && bx i 0 7)) then a9 t.ip 4 ++ a9 t.port 2 ++ a9 t.my 2 ++ a9 seq 4 ++ a9 epoch 4 ++ a9 i 1 else ⟨#[]⟩
theorem ysMacInput_c (t : Tup) (seq : Int) (epoch : Int) (i : Int) (w : World)  : Calls Try.prog 74 #[.agg (bP t).toArray, iI seq, iI epoch, iI i] w fun e w' => e = .returned (.string (ax t seq epoch i)) ∧ Below w.heap.size w w' := by
 refine aq (args := [.agg (bP t).toArray,iI seq,iI epoch,iI i]) (fn := Try.f74) [] Try.func74 rfl Try.ntmps74 rfl (by simp) ?_
 refine kQ <| bH [1,2,3,4] ⟨[(1,aI seq),(2,aI epoch),(3,aI i),(4,.p 0 0)],[⟨62,bP t⟩],[],[]⟩ <| kS <| kQ <| ci 1 [1,2,3,4,9] [(9,.v (.agg (bP t).toArray))] 84 [.agg (bP t).toArray] (some 10) rfl (ai fun ww hf => sTupleOk_c t.ip t.port t.my ww ) ?_
 intro _
 refine kRD 2 [1,2,3,4,12] [(12,aB (!(bL t)))] <| kP 12 (!(bL t)) (fun h1 => ?_) (fun h1 => ?_)
 have h1n := cR h1
 refine aH [1,2,3,4,26] [(26,aB true)] <| kT <| kQ <| bZ [8] [(8,.v (.string (⟨#[]⟩ : ByteArray)))] ?_
 refine kR ?_
 exact ⟨[.string (⟨#[]⟩ : ByteArray)],by kernel_rfl,fun w' hb hf => ⟨bM (show ((⟨#[]⟩ : ByteArray) : ByteArray) = ax t seq epoch i from by first | (unfold ax; simp [*]; done) | (unfold ax; simp_all; done)),hb⟩⟩
 have h1n := cV h1
 refine ci 1 [1,2,3,4,12,13] [(12,aB false),(13,aI seq)] 42 [iI seq,iI 32] (some 14) rfl (xc_s fun ww hf => sWordOk32_c seq ww) ?_
 intro _
 refine kRD 3 [1,2,3,4,17] [(17,aB (!(aw seq 32)))] <| kP 17 (!(aw seq 32)) (fun h2 => ?_) (fun h2 => ?_)
 have h2n := cR h2
 refine aH [1,2,3,4,26] [(26,aB true)] <| kT <| kQ <| bZ [8] [(8,.v (.string (⟨#[]⟩ : ByteArray)))] ?_
 refine kR ?_
 exact ⟨[.string (⟨#[]⟩ : ByteArray)],by kernel_rfl,fun w' hb hf => ⟨bM (show ((⟨#[]⟩ : ByteArray) : ByteArray) = ax t seq epoch i from by first | (unfold ax; simp [*]; done) | (unfold ax; simp_all; done)),hb⟩⟩
 have h2n := cV h2
 refine ci 1 [1,2,3,4,17,18] [(17,aB false),(18,aI epoch)] 42 [iI epoch,iI 32] (some 19) rfl (xc_s fun ww hf => sWordOk32_c epoch ww) ?_
 intro _
 refine kRD 3 [1,2,3,4,22] [(22,aB (!(aw epoch 32)))] <| kP 22 (!(aw epoch 32)) (fun h3 => ?_) (fun h3 => ?_)
 have h3n := cR h3
 refine aH [1,2,3,4,26] [(26,aB true)] <| kT <| kQ <| bZ [8] [(8,.v (.string (⟨#[]⟩ : ByteArray)))] ?_
 refine kR ?_
 exact ⟨[.string (⟨#[]⟩ : ByteArray)],by kernel_rfl,fun w' hb hf => ⟨bM (show ((⟨#[]⟩ : ByteArray) : ByteArray) = ax t seq epoch i from by first | (unfold ax; simp [*]; done) | (unfold ax; simp_all; done)),hb⟩⟩
 have h3n := cV h3
 refine ci 1 [1,2,3,4,22,23] [(22,aB false),(23,aI i)] 46 [iI i,iI 0,iI 7] (some 24) rfl (xc_s fun ww hf => l1In_c i 0 7 ww ) ?_
 intro _
 refine aH [1,2,3,4,26] [(26,aB (!(bx i 0 7)))] <| kC (!(bx i 0 7)) (fun h4 => ?_) (fun h4 => ?_)
 have h4n := cR h4
 have h4ni := inB_ff.1 (show bx i 0 7 = false from by simpa using h4n)
 refine kQ <| bZ [8] [(8,.v (.string (⟨#[]⟩ : ByteArray)))] <| kR ?_
 exact ⟨[.string (⟨#[]⟩ : ByteArray)],by kernel_rfl,fun w' hb hf => ⟨bM (show ((⟨#[]⟩ : ByteArray) : ByteArray) = ax t seq epoch i from by first | (unfold ax; simp [*]; done) | (unfold ax; simp_all; done)),hb⟩⟩
 have h4n := cV h4
 have h4ni := inB_tt.1 (show bx i 0 7 = true from by simpa using h4n)
 refine kK <| kS <| aN [] (by kernel_rfl) (fun ρ σ => ?_)
 refine kTS [0,1,3,4,7,8,11,14,17] [44,41,38,35,31,28] 12 [(44,aI i),(41,aI epoch),(38,aI seq),(35,aI t.my),(31,aI t.port),(28,aI t.ip)] <| kA [2] <| cw 2 108 [iI t.ip,iI 4] (some 29) rfl (ai fun ww hf => cg t.ip 4 ww ) ?_
 intro _
 refine kA [5] <| cw 5 108 [iI t.port,iI 2] (some 32) rfl (ai fun ww hf => cg t.port 2 ww ) ?_
 intro _
 refine kX 6 (.string ((a9 t.ip 4) ++ (a9 t.port 2))) rfl (fun _ _ ww hA => az hA rfl (by kernel_rfl) (by kernel_rfl) (cN (by have z1 := ah t.ip 4; have z2 := ah t.port 2; have z3 := ah t.my 2; have z4 := ah seq 4; have z5 := ah epoch 4; have z6 := ah i 1; (try simp only [ByteArray.size_append]); (try unfold maxLen); omega) ww)) ?_
 refine kA [9] <| cw 9 108 [iI t.my,iI 2] (some 36) rfl (ai fun ww hf => cg t.my 2 ww ) ?_
 intro _
 refine kX 10 (.string (((a9 t.ip 4) ++ (a9 t.port 2)) ++ (a9 t.my 2))) rfl (fun _ _ ww hA => az hA rfl (by kernel_rfl) (by kernel_rfl) (cN (by have z1 := ah t.ip 4; have z2 := ah t.port 2; have z3 := ah t.my 2; have z4 := ah seq 4; have z5 := ah epoch 4; have z6 := ah i 1; (try simp only [ByteArray.size_append]); (try unfold maxLen); omega) ww)) ?_
 refine kA [12] <| cw 12 108 [iI seq,iI 4] (some 39) rfl (ai fun ww hf => cg seq 4 ww ) ?_
 intro _
 refine kX 13 (.string ((((a9 t.ip 4) ++ (a9 t.port 2)) ++ (a9 t.my 2)) ++ (a9 seq 4))) rfl (fun _ _ ww hA => az hA rfl (by kernel_rfl) (by kernel_rfl) (cN (by have z1 := ah t.ip 4; have z2 := ah t.port 2; have z3 := ah t.my 2; have z4 := ah seq 4; have z5 := ah epoch 4; have z6 := ah i 1; (try simp only [ByteArray.size_append]); (try unfold maxLen); omega) ww)) ?_
 refine kA [15] <| cw 15 108 [iI epoch,iI 4] (some 42) rfl (ai fun ww hf => cg epoch 4 ww ) ?_
 intro _
 refine kX 16 (.string (((((a9 t.ip 4) ++ (a9 t.port 2)) ++ (a9 t.my 2)) ++ (a9 seq 4)) ++ (a9 epoch 4))) rfl (fun _ _ ww hA => az hA rfl (by kernel_rfl) (by kernel_rfl) (cN (by have z1 := ah t.ip 4; have z2 := ah t.port 2; have z3 := ah t.my 2; have z4 := ah seq 4; have z5 := ah epoch 4; have z6 := ah i 1; (try simp only [ByteArray.size_append]); (try unfold maxLen); omega) ww)) ?_
 refine kA [18] <| cw 18 108 [iI i,iI 1] (some 45) rfl (ai fun ww hf => cg i 1 ww ) ?_
 intro _
 refine kX 19 (.string ((((((a9 t.ip 4) ++ (a9 t.port 2)) ++ (a9 t.my 2)) ++ (a9 seq 4)) ++ (a9 epoch 4)) ++ (a9 i 1))) rfl (fun _ _ ww hA => az hA rfl (by kernel_rfl) (by kernel_rfl) (cN (by have z1 := ah t.ip 4; have z2 := ah t.port 2; have z3 := ah t.my 2; have z4 := ah seq 4; have z5 := ah epoch 4; have z6 := ah i 1; (try simp only [ByteArray.size_append]); (try unfold maxLen); omega) ww)) ?_
 refine kTS [20] [8] 0 [(8,.v (.string ((((((a9 t.ip 4) ++ (a9 t.port 2)) ++ (a9 t.my 2)) ++ (a9 seq 4)) ++ (a9 epoch 4)) ++ (a9 i 1))))] <| kZ <| kR ?_
 exact ⟨[.string ((((((a9 t.ip 4) ++ (a9 t.port 2)) ++ (a9 t.my 2)) ++ (a9 seq 4)) ++ (a9 epoch 4)) ++ (a9 i 1))],by kernel_rfl,fun w' hb hf => ⟨bM (show ((((((a9 t.ip 4) ++ (a9 t.port 2)) ++ (a9 t.my 2)) ++ (a9 seq 4)) ++ (a9 epoch 4)) ++ (a9 i 1) : ByteArray) = ax t seq epoch i from by first | (unfold ax; simp [*]; done) | (unfold ax; simp_all; done)),hb⟩⟩
theorem yiMacInput_c (t : Tup) (seq : Int) (epoch : Int) (i : Int) (w : World)  : Calls Try.prog 77 #[.agg (bP t).toArray, iI seq, iI epoch, iI i] w fun e w' => e = .returned (.string (ax t seq epoch i)) ∧ Below w.heap.size w w' := by
 refine aq (args := [.agg (bP t).toArray,iI seq,iI epoch,iI i]) (fn := Try.f77) [] Try.func77 rfl Try.ntmps77 rfl (by simp) ?_
 refine kQ <| bH [1,2,3,4] ⟨[(1,aI seq),(2,aI epoch),(3,aI i),(4,.p 0 0)],[⟨62,bP t⟩],[],[]⟩ <| kS <| kQ <| ci 1 [1,2,3,4,9] [(9,.v (.agg (bP t).toArray))] 91 [.agg (bP t).toArray] (some 10) rfl (ai fun ww hf => iTupleOk_c t.ip t.port t.my ww ) ?_
 intro _
 refine kRD 2 [1,2,3,4,12] [(12,aB (!(bL t)))] <| kP 12 (!(bL t)) (fun h1 => ?_) (fun h1 => ?_)
 have h1n := cR h1
 refine aH [1,2,3,4,26] [(26,aB true)] <| kT <| kQ <| bZ [8] [(8,.v (.string (⟨#[]⟩ : ByteArray)))] ?_
 refine kR ?_
 exact ⟨[.string (⟨#[]⟩ : ByteArray)],by kernel_rfl,fun w' hb hf => ⟨bM (show ((⟨#[]⟩ : ByteArray) : ByteArray) = ax t seq epoch i from by first | (unfold ax; simp [*]; done) | (unfold ax; simp_all; done)),hb⟩⟩
 have h1n := cV h1
 refine ci 1 [1,2,3,4,12,13] [(12,aB false),(13,aI seq)] 48 [iI seq,iI 32] (some 14) rfl (xc_s fun ww hf => iWordOk32_c seq ww) ?_
 intro _
 refine kRD 3 [1,2,3,4,17] [(17,aB (!(aw seq 32)))] <| kP 17 (!(aw seq 32)) (fun h2 => ?_) (fun h2 => ?_)
 have h2n := cR h2
 refine aH [1,2,3,4,26] [(26,aB true)] <| kT <| kQ <| bZ [8] [(8,.v (.string (⟨#[]⟩ : ByteArray)))] ?_
 refine kR ?_
 exact ⟨[.string (⟨#[]⟩ : ByteArray)],by kernel_rfl,fun w' hb hf => ⟨bM (show ((⟨#[]⟩ : ByteArray) : ByteArray) = ax t seq epoch i from by first | (unfold ax; simp [*]; done) | (unfold ax; simp_all; done)),hb⟩⟩
 have h2n := cV h2
 refine ci 1 [1,2,3,4,17,18] [(17,aB false),(18,aI epoch)] 48 [iI epoch,iI 32] (some 19) rfl (xc_s fun ww hf => iWordOk32_c epoch ww) ?_
 intro _
 refine kRD 3 [1,2,3,4,22] [(22,aB (!(aw epoch 32)))] <| kP 22 (!(aw epoch 32)) (fun h3 => ?_) (fun h3 => ?_)
 have h3n := cR h3
 refine aH [1,2,3,4,26] [(26,aB true)] <| kT <| kQ <| bZ [8] [(8,.v (.string (⟨#[]⟩ : ByteArray)))] ?_
 refine kR ?_
 exact ⟨[.string (⟨#[]⟩ : ByteArray)],by kernel_rfl,fun w' hb hf => ⟨bM (show ((⟨#[]⟩ : ByteArray) : ByteArray) = ax t seq epoch i from by first | (unfold ax; simp [*]; done) | (unfold ax; simp_all; done)),hb⟩⟩
 have h3n := cV h3
 refine ci 1 [1,2,3,4,22,23] [(22,aB false),(23,aI i)] 52 [iI i,iI 0,iI 7] (some 24) rfl (xc_s fun ww hf => cJ i 0 7 ww ) ?_
 intro _
 refine aH [1,2,3,4,26] [(26,aB (!(bx i 0 7)))] <| kC (!(bx i 0 7)) (fun h4 => ?_) (fun h4 => ?_)
 have h4n := cR h4
 have h4ni := inB_ff.1 (show bx i 0 7 = false from by simpa using h4n)
 refine kQ <| bZ [8] [(8,.v (.string (⟨#[]⟩ : ByteArray)))] <| kR ?_
 exact ⟨[.string (⟨#[]⟩ : ByteArray)],by kernel_rfl,fun w' hb hf => ⟨bM (show ((⟨#[]⟩ : ByteArray) : ByteArray) = ax t seq epoch i from by first | (unfold ax; simp [*]; done) | (unfold ax; simp_all; done)),hb⟩⟩
 have h4n := cV h4
 have h4ni := inB_tt.1 (show bx i 0 7 = true from by simpa using h4n)
 refine kK <| kS <| aN [] (by kernel_rfl) (fun ρ σ => ?_)
 refine kTS [0,1,3,4,7,8,11,14,17] [44,41,38,35,31,28] 12 [(44,aI i),(41,aI epoch),(38,aI seq),(35,aI t.my),(31,aI t.port),(28,aI t.ip)] <| kA [2] <| cw 2 110 [iI t.ip,iI 4] (some 29) rfl (ai fun ww hf => cf t.ip 4 ww ) ?_
 intro _
 refine kA [5] <| cw 5 110 [iI t.port,iI 2] (some 32) rfl (ai fun ww hf => cf t.port 2 ww ) ?_
 intro _
 refine kX 6 (.string ((a9 t.ip 4) ++ (a9 t.port 2))) rfl (fun _ _ ww hA => az hA rfl (by kernel_rfl) (by kernel_rfl) (cN (by have z1 := ah t.ip 4; have z2 := ah t.port 2; have z3 := ah t.my 2; have z4 := ah seq 4; have z5 := ah epoch 4; have z6 := ah i 1; (try simp only [ByteArray.size_append]); (try unfold maxLen); omega) ww)) ?_
 refine kA [9] <| cw 9 110 [iI t.my,iI 2] (some 36) rfl (ai fun ww hf => cf t.my 2 ww ) ?_
 intro _
 refine kX 10 (.string (((a9 t.ip 4) ++ (a9 t.port 2)) ++ (a9 t.my 2))) rfl (fun _ _ ww hA => az hA rfl (by kernel_rfl) (by kernel_rfl) (cN (by have z1 := ah t.ip 4; have z2 := ah t.port 2; have z3 := ah t.my 2; have z4 := ah seq 4; have z5 := ah epoch 4; have z6 := ah i 1; (try simp only [ByteArray.size_append]); (try unfold maxLen); omega) ww)) ?_
 refine kA [12] <| cw 12 110 [iI seq,iI 4] (some 39) rfl (ai fun ww hf => cf seq 4 ww ) ?_
 intro _
 refine kX 13 (.string ((((a9 t.ip 4) ++ (a9 t.port 2)) ++ (a9 t.my 2)) ++ (a9 seq 4))) rfl (fun _ _ ww hA => az hA rfl (by kernel_rfl) (by kernel_rfl) (cN (by have z1 := ah t.ip 4; have z2 := ah t.port 2; have z3 := ah t.my 2; have z4 := ah seq 4; have z5 := ah epoch 4; have z6 := ah i 1; (try simp only [ByteArray.size_append]); (try unfold maxLen); omega) ww)) ?_
 refine kA [15] <| cw 15 110 [iI epoch,iI 4] (some 42) rfl (ai fun ww hf => cf epoch 4 ww ) ?_
 intro _
 refine kX 16 (.string (((((a9 t.ip 4) ++ (a9 t.port 2)) ++ (a9 t.my 2)) ++ (a9 seq 4)) ++ (a9 epoch 4))) rfl (fun _ _ ww hA => az hA rfl (by kernel_rfl) (by kernel_rfl) (cN (by have z1 := ah t.ip 4; have z2 := ah t.port 2; have z3 := ah t.my 2; have z4 := ah seq 4; have z5 := ah epoch 4; have z6 := ah i 1; (try simp only [ByteArray.size_append]); (try unfold maxLen); omega) ww)) ?_
 refine kA [18] <| cw 18 110 [iI i,iI 1] (some 45) rfl (ai fun ww hf => cf i 1 ww ) ?_
 intro _
 refine kX 19 (.string ((((((a9 t.ip 4) ++ (a9 t.port 2)) ++ (a9 t.my 2)) ++ (a9 seq 4)) ++ (a9 epoch 4)) ++ (a9 i 1))) rfl (fun _ _ ww hA => az hA rfl (by kernel_rfl) (by kernel_rfl) (cN (by have z1 := ah t.ip 4; have z2 := ah t.port 2; have z3 := ah t.my 2; have z4 := ah seq 4; have z5 := ah epoch 4; have z6 := ah i 1; (try simp only [ByteArray.size_append]); (try unfold maxLen); omega) ww)) ?_
 refine kTS [20] [8] 0 [(8,.v (.string ((((((a9 t.ip 4) ++ (a9 t.port 2)) ++ (a9 t.my 2)) ++ (a9 seq 4)) ++ (a9 epoch 4)) ++ (a9 i 1))))] <| kZ <| kR ?_
 exact ⟨[.string ((((((a9 t.ip 4) ++ (a9 t.port 2)) ++ (a9 t.my 2)) ++ (a9 seq 4)) ++ (a9 epoch 4)) ++ (a9 i 1))],by kernel_rfl,fun w' hb hf => ⟨bM (show ((((((a9 t.ip 4) ++ (a9 t.port 2)) ++ (a9 t.my 2)) ++ (a9 seq 4)) ++ (a9 epoch 4)) ++ (a9 i 1) : ByteArray) = ax t seq epoch i from by first | (unfold ax; simp [*]; done) | (unfold ax; simp_all; done)),hb⟩⟩
def mrVal (l : List Mrw) (t : ByteArray) : Int := match l.find? (fun r => r.input.toList == t.toList) with | some r => r.value % 16777216 | none => 0
theorem mr_bd (v : Int) : -16777216 < Int.tmod v 16777216 ∧ Int.tmod v 16777216 < 16777216 := by
 rcases Int.le_total 0 v with h | h
 · rw [Int.tmod_eq_emod_of_nonneg h]; omega
 · obtain ⟨u,rfl⟩ : ∃ u,v = -u := ⟨-v,by omega⟩
   rw [Int.neg_tmod,Int.tmod_eq_emod_of_nonneg (by omega)]; omega
theorem mr_neg {v : Int} (h : Int.tmod v 16777216 < 0) : Int.tmod v 16777216 + 16777216 = v % 16777216 := by
 rcases Int.le_total 0 v with h0 | h0
 · rw [Int.tmod_eq_emod_of_nonneg h0] at h; omega
 · obtain ⟨u,rfl⟩ : ∃ u,v = -u := ⟨-v,by omega⟩
   rw [Int.neg_tmod,Int.tmod_eq_emod_of_nonneg (by omega)] at h ⊢; omega
theorem mr_pos {v : Int} (h : ¬ Int.tmod v 16777216 < 0) : Int.tmod v 16777216 = v % 16777216 := by
 rcases Int.le_total 0 v with h0 | h0
 · exact Int.tmod_eq_emod_of_nonneg h0
 · obtain ⟨u,rfl⟩ : ∃ u,v = -u := ⟨-v,by omega⟩
   rw [Int.neg_tmod,Int.tmod_eq_emod_of_nonneg (by omega)] at h ⊢; omega
theorem mr_i (v : Int) : Int.tmod (Int.tmod v 16777216 + 16777216) 16777216 = v % 16777216 := by
 have hb := mr_bd v
 rw [Int.tmod_eq_emod_of_nonneg (by omega)]
 by_cases h : Int.tmod v 16777216 < 0
 · rw [mr_neg h]; omega
 · rw [mr_pos h]; omega
theorem mr_yes {l : List Mrw} {t : ByteArray} {k : Nat} {x : Mrw} (hk : l[k]? = some x) (hp : (x.input.toList == t.toList) = true) (hno : ∀ (i : Nat) (h' : Mrw), i < k → l[i]? = some h' → (h'.input.toList == t.toList) = false) : mrVal l t = x.value % 16777216 ∧ (-16777216 < Int.tmod x.value 16777216 ∧ Int.tmod x.value 16777216 < 16777216) := by
 refine ⟨?_,mr_bd _⟩
 have : l.find? (fun r => r.input.toList == t.toList) = some x := by
   rw [List.find?_eq_some_iff_getElem]
   obtain ⟨hlt,rfl⟩ := List.getElem?_eq_some_iff.1 hk
   exact ⟨hp,k,hlt,rfl,fun j hj => by rw [hno j _ hj (List.getElem?_eq_getElem (by omega))]; rfl⟩
 unfold mrVal; rw [this]
theorem mr_no {l : List Mrw} {t : ByteArray} {k : Nat} (hk : k = l.length) (hno : ∀ (i : Nat) (h' : Mrw), i < k → l[i]? = some h' → (h'.input.toList == t.toList) = false) : mrVal l t = 0 := by
 have : l.find? (fun r => r.input.toList == t.toList) = none := by
   rw [List.find?_eq_none]
   intro x hx
   obtain ⟨j,hj⟩ := List.getElem?_of_mem hx
   rw [hno j x (by rw [hk]; exact (List.getElem?_eq_some_iff.1 hj).1) hj]; decide
 unfold mrVal; rw [this]
def ch (m : Mac) (t : ByteArray) : Int := if m.use = true then mrVal m.rows t else K6.wrap (Int.tmod (bN m.k m.l t) 16777216)
theorem bt {m : Mac} {t : ByteArray} (h : m.use = true) : ch m t = mrVal m.rows t := by unfold ch; rw [if_pos h]
theorem br {m : Mac} {t : ByteArray} (h : m.use = false) : ch m t = K6.wrap (Int.tmod (bN m.k m.l t) 16777216) := by unfold ch; rw [if_neg (by rw [h]; decide)]
theorem ysMacOf_c (m : Mac) (m_rowsV : Value) (t : ByteArray) (w : World) (hl_m_rowsV : Sl w m_rowsV 2 (m.rows.map a6)) (hti : t.size ≤ 1048576) : Calls Try.prog 75 #[.agg (b8 m m_rowsV).toArray, .string t] w fun e w' => e = .returned (iI (ch m t)) ∧ Below w.heap.size w w' := by
 obtain ⟨Amr,Cmr,hvmr⟩ := hl_m_rowsV.form
 rw [List.length_map] at hvmr; subst hvmr
 have hnmr := hl_m_rowsV.len; rw [List.length_map] at hnmr
 have hqmr := Sl.capLe hl_m_rowsV
 refine aq (args := [.agg (b8 m (.slice Amr m.rows.length Cmr)).toArray,.string t]) (fn := Try.f75) [ag (.slice Amr m.rows.length Cmr) 2 (m.rows.map a6)] Try.func75 rfl Try.ntmps75 rfl (by simp only [List.mem_cons,List.not_mem_nil,or_false,forall_eq_or_imp,forall_eq]; exact ⟨rfl,hl_m_rowsV⟩) ?_
 refine kQ <| bH [1,2] ⟨[(1,.v (.string t)),(2,.p 0 0)],[⟨41,b8 m (.slice Amr m.rows.length Cmr)⟩],[],[ag (.slice Amr m.rows.length Cmr) 2 (m.rows.map a6)]⟩ <| kS <| kQ <| aH [1,2,9] [(9,aB (!m.use))] ?_
 refine kC (!m.use) (fun h1 => ?_) (fun h1 => ?_)
 have h1n := cR h1
 have hu : m.use = false := h1n
 refine kQ <| kCS 5 [11,13,14] [(11,.v (.int .u64 m.k)),(13,.v (.int .u64 m.l)),(14,.v (.string t))] 109 [.int .u64 m.k,.int .u64 m.l,.string t] (some 15) rfl (ai fun ww hf => ysSipHash_c m.k m.l t ww hti) ?_
 intro _
 refine cU 0 [15] [] (.int .u64 (Int.tmod (bN m.k m.l t) 16777216)) rfl (fun _ _ _ ww hr => az hr.1 rfl (by kernel_rfl) (by kernel_rfl) (cH (by first | decide | omega) ww)) ?_
 refine bZ [4] [(4,aI (K6.wrap (Int.tmod (bN m.k m.l t) 16777216)))] <| kR ?_
 exact ⟨[iI (K6.wrap (Int.tmod (bN m.k m.l t) 16777216))],by kernel_rfl,fun w' hb hf => ⟨b9 (show (K6.wrap (Int.tmod (bN m.k m.l t) 16777216) : Int) = ch m t from by first | (rw [br hu]; done) | (rw [br hu]; rfl) | (rw [bt hu,hfn]; done) | (rw [bt hu,hfd.1]; first | exact mr_neg (by assumption) | exact mr_pos (by assumption) | exact mr_i _)),hb⟩⟩
 have h1n := cV h1
 have hu : m.use = true := h1n
 refine kK <| kS <| kQ <| aH [1,2,5] [(5,aI 0)] ?_
 refine aZ <| bk (α := {x : Nat // (fun (k : Nat) => k ≤ m.rows.length ∧ ∀ (i : Nat) (h' : Mrw),i < k → m.rows[i]? = some h' → (h'.input.toList == t.toList) = false) x}) (fun x => (fun (k : Nat) => (⟨[(1,.v (.string t)),(2,.p 0 0),(5,aI (k : Int))],[⟨41,b8 m (.slice Amr m.rows.length Cmr)⟩],[],[ag (.slice Amr m.rows.length Cmr) 2 (m.rows.map a6)]⟩ : St)) x.1) (fun x => m.rows.length - x.1) ⟨(0),⟨Nat.zero_le _,fun i x hi => by omega⟩⟩ (kF 1 0 [1,2,5]) ?_
 rintro ⟨k,hk,HK⟩
 try dsimp only
 try dsimp only at hk HK
 refine kS <| kQ <| aH [1,2,5,22] [(22,aB (decide ((k : Int) < ((m.rows.length : Nat) : Int))))] <| kC (decide ((k : Int) < ((m.rows.length : Nat) : Int))) (fun h2 => ?_) (fun h2 => ?_)
 have h2p := of_decide_eq_true h2
 have hlt : k < m.rows.length := by simpa using h2
 obtain ⟨x,hx⟩ : ∃ x,m.rows[k]? = some x := ⟨_,List.getElem?_eq_getElem hlt⟩
 refine kK <| kS <| aZ <| kQ <| cF (kd := .i64) (T := 39) (e := 141) (K := 2) 3 [1,2,5,26,27] [(26,.v (.slice Amr m.rows.length Cmr)),(27,aI (k : Int))] k [.string x.input,iI x.value] (ag (.slice Amr m.rows.length Cmr) 2 (m.rows.map a6)) (by kernel_rfl) rfl (by kernel_rfl) rfl rfl (by kernel_rfl) (by kernel_rfl) (by kernel_rfl) (by kernel_rfl) hlt (by simp) (fun w h => h) (fun b h => h) (by simp only [List.getElem?_map,hx]; rfl) ?_
 refine aH [1,2,5,32] [(32,aB (x.input.toList == t.toList))] <| kC (x.input.toList == t.toList) (fun h3 => ?_) (fun h3 => ?_)
 have h3p := h3; simp only [beq_iff_eq,bne_iff_ne,beq_eq_false_iff_ne,bne_eq_false_iff_eq,ne_eq,bI] at h3p
 have hfd := mr_yes hx (by exact h3) HK
 refine kQ <| xl_indexS (kd := .i64) (T := 39) (e := 141) (K := 2) 3 [34,35] [(34,.v (.slice Amr m.rows.length Cmr)),(35,aI (k : Int))] k [.string x.input,iI x.value] (ag (.slice Amr m.rows.length Cmr) 2 (m.rows.map a6)) (by kernel_rfl) rfl (by kernel_rfl) rfl rfl (by kernel_rfl) (by kernel_rfl) (by kernel_rfl) (by kernel_rfl) hlt (by simp) (fun w h => h) (fun b h => h) (by simp only [List.getElem?_map,hx]; rfl) ?_
 refine kOS 2 [38] [(38,aI x.value)] (iI (Int.tmod x.value 16777216)) rfl (fun _ _ _ ww hr => az hr.1 rfl (by kernel_rfl) (by kernel_rfl) (cH (by first | decide | omega) ww)) ?_
 refine bZ [6] [(6,aI (Int.tmod x.value 16777216))] <| kS <| kQ <| aH [6,41] [(41,aB (decide ((Int.tmod x.value 16777216) < 0)))] ?_
 refine kC (decide ((Int.tmod x.value 16777216) < 0)) (fun h4 => ?_) (fun h4 => ?_)
 have h4p := of_decide_eq_true h4
 refine kG <| kRS 3 [6] [(6,aI (K6.wrap ((Int.tmod x.value 16777216) + 16777216)))] <| bX [6] [(6,aI (K6.wrap ((Int.tmod x.value 16777216) + 16777216)))] [(6,aI ((Int.tmod x.value 16777216) + 16777216))] (by rw [show (K6.wrap ((Int.tmod x.value 16777216) + 16777216)) = ((Int.tmod x.value 16777216) + 16777216) from aY (by omega) (by omega)]) (by kernel_rfl) ?_
 refine aH [6] [] <| kQ <| bZ [4] [(4,aI ((Int.tmod x.value 16777216) + 16777216))] <| kR ?_
 exact ⟨[iI ((Int.tmod x.value 16777216) + 16777216)],by kernel_rfl,fun w' hb hf => ⟨b9 (show ((Int.tmod x.value 16777216) + 16777216 : Int) = ch m t from by first | (rw [br hu]; done) | (rw [br hu]; rfl) | (rw [bt hu,hfn]; done) | (rw [bt hu,hfd.1]; first | exact mr_neg (by assumption) | exact mr_pos (by assumption) | exact mr_i _)),hb⟩⟩
 have h4p := of_decide_eq_false h4
 refine kK <| kQ <| bZ [4] [(4,aI (Int.tmod x.value 16777216))] <| kR ?_
 exact ⟨[iI (Int.tmod x.value 16777216)],by kernel_rfl,fun w' hb hf => ⟨b9 (show (Int.tmod x.value 16777216 : Int) = ch m t from by first | (rw [br hu]; done) | (rw [br hu]; rfl) | (rw [bt hu,hfn]; done) | (rw [bt hu,hfd.1]; first | exact mr_neg (by assumption) | exact mr_pos (by assumption) | exact mr_i _)),hb⟩⟩
 have h3p := h3; simp only [beq_iff_eq,bne_iff_ne,beq_eq_false_iff_ne,bne_eq_false_iff_eq,ne_eq,bI] at h3p
 have hq : (x.input.toList == t.toList) = false := by exact h3
 refine kK <| kG <| kRD 3 [1,2,5] [(5,aI (K6.wrap ((k : Int) + 1)))] <| bX [1,2,5] [(5,aI (K6.wrap ((k : Int) + 1)))] [(5,aI ((k : Int) + 1))] (by rw [show (K6.wrap ((k : Int) + 1)) = ((k : Int) + 1) from aY (by omega) (by omega)]) (by kernel_rfl) ?_
 refine aH [1,2,5] [] ?_
 exact ⟨⟨(k + 1),⟨by omega,no_step (p := fun r : Mrw => (r.input.toList == t.toList)) hx hq HK⟩⟩,kF 1 0 [1,2,5],by show m.rows.length - (k + 1) < m.rows.length - k; omega⟩
 have h2p := of_decide_eq_false h2
 have hge : k = m.rows.length := by simp at h2; omega
 have hfn := mr_no hge HK
 refine bF <| kQ <| bZ [4] [(4,aI 0)] <| kR ?_
 exact ⟨[iI 0],by kernel_rfl,fun w' hb hf => ⟨b9 (show (0 : Int) = ch m t from by first | (rw [br hu]; done) | (rw [br hu]; rfl) | (rw [bt hu,hfn]; done) | (rw [bt hu,hfd.1]; first | exact mr_neg (by assumption) | exact mr_pos (by assumption) | exact mr_i _)),hb⟩⟩
theorem yiMacOf_c (m : Mac) (m_rowsV : Value) (t : ByteArray) (w : World) (hl_m_rowsV : Sl w m_rowsV 2 (m.rows.map a6)) (hti : t.size ≤ 1048576) : Calls Try.prog 78 #[.agg (b8 m m_rowsV).toArray, .string t] w fun e w' => e = .returned (iI (ch m t)) ∧ Below w.heap.size w w' := by
 obtain ⟨Amr,Cmr,hvmr⟩ := hl_m_rowsV.form
 rw [List.length_map] at hvmr; subst hvmr
 have hnmr := hl_m_rowsV.len; rw [List.length_map] at hnmr
 have hqmr := Sl.capLe hl_m_rowsV
 refine aq (args := [.agg (b8 m (.slice Amr m.rows.length Cmr)).toArray,.string t]) (fn := Try.f78) [ag (.slice Amr m.rows.length Cmr) 2 (m.rows.map a6)] Try.func78 rfl Try.ntmps78 rfl (by simp only [List.mem_cons,List.not_mem_nil,or_false,forall_eq_or_imp,forall_eq]; exact ⟨rfl,hl_m_rowsV⟩) ?_
 refine kQ <| bH [1,2] ⟨[(1,.v (.string t)),(2,.p 0 0)],[⟨41,b8 m (.slice Amr m.rows.length Cmr)⟩],[],[ag (.slice Amr m.rows.length Cmr) 2 (m.rows.map a6)]⟩ <| kS <| kQ <| aH [1,2,9] [(9,aB (!m.use))] ?_
 refine kC (!m.use) (fun h1 => ?_) (fun h1 => ?_)
 have h1n := cR h1
 have hu : m.use = false := h1n
 refine kQ <| kCS 5 [11,13,14] [(11,.v (.int .u64 m.k)),(13,.v (.int .u64 m.l)),(14,.v (.string t))] 111 [.int .u64 m.k,.int .u64 m.l,.string t] (some 15) rfl (ai fun ww hf => yiSipHash_c m.k m.l t ww hti) ?_
 intro _
 refine cU 0 [15] [] (.int .u64 (Int.tmod (bN m.k m.l t) 16777216)) rfl (fun _ _ _ ww hr => az hr.1 rfl (by kernel_rfl) (by kernel_rfl) (cH (by first | decide | omega) ww)) ?_
 refine bZ [4] [(4,aI (K6.wrap (Int.tmod (bN m.k m.l t) 16777216)))] <| kR ?_
 exact ⟨[iI (K6.wrap (Int.tmod (bN m.k m.l t) 16777216))],by kernel_rfl,fun w' hb hf => ⟨b9 (show (K6.wrap (Int.tmod (bN m.k m.l t) 16777216) : Int) = ch m t from by first | (rw [br hu]; done) | (rw [br hu]; rfl) | (rw [bt hu,hfn]; done) | (rw [bt hu,hfd.1]; first | exact mr_neg (by assumption) | exact mr_pos (by assumption) | exact mr_i _)),hb⟩⟩
 have h1n := cV h1
 have hu : m.use = true := h1n
 refine kK <| kS <| kQ <| aH [1,19,20,21] [(19,.v (.slice Amr m.rows.length Cmr)),(20,aI ((m.rows.length : Nat) : Int)),(21,aI 0)] ?_
 refine aZ <| bk (α := {x : Nat // (fun (k : Nat) => k ≤ m.rows.length ∧ ∀ (i : Nat) (h' : Mrw),i < k → m.rows[i]? = some h' → (h'.input.toList == t.toList) = false) x}) (fun x => (fun (k : Nat) => (⟨[(1,.v (.string t)),(19,.v (.slice Amr m.rows.length Cmr)),(20,aI ((m.rows.length : Nat) : Int)),(21,aI (k : Int))],[⟨41,b8 m (.slice Amr m.rows.length Cmr)⟩],[],[ag (.slice Amr m.rows.length Cmr) 2 (m.rows.map a6)]⟩ : St)) x.1) (fun x => m.rows.length - x.1) ⟨(0),⟨Nat.zero_le _,fun i x hi => by omega⟩⟩ (kF 1 0 [1,19,20,21]) ?_
 rintro ⟨k,hk,HK⟩
 try dsimp only
 try dsimp only at hk HK
 refine kQ <| aH [1,19,20,21,22] [(22,aB (decide ((k : Int) < ((m.rows.length : Nat) : Int))))] <| kS <| kC (decide ((k : Int) < ((m.rows.length : Nat) : Int))) (fun h2 => ?_) (fun h2 => ?_)
 have h2p := of_decide_eq_true h2
 have hlt : k < m.rows.length := by simpa using h2
 obtain ⟨x,hx⟩ : ∃ x,m.rows[k]? = some x := ⟨_,List.getElem?_eq_getElem hlt⟩
 refine kK <| kS <| aZ <| kQ <| cF (kd := .i64) (T := 39) (e := 141) (K := 2) 0 [1,19,20,21] [] k [.string x.input,iI x.value] (ag (.slice Amr m.rows.length Cmr) 2 (m.rows.map a6)) (by kernel_rfl) rfl (by kernel_rfl) rfl rfl (by kernel_rfl) (by kernel_rfl) (by kernel_rfl) (by kernel_rfl) hlt (by simp) (fun w h => h) (fun b h => h) (by simp only [List.getElem?_map,hx]; rfl) ?_
 refine kEA [1,6,19,20,21] [(6,.p 1 0)] [⟨141,mrwL x⟩] <| kQ <| aH [1,6,19,20,21,28] [(28,aB (x.input.toList == t.toList))] <| kC (x.input.toList == t.toList) (fun h3 => ?_) (fun h3 => ?_)
 have h3p := h3; simp only [beq_iff_eq,bne_iff_ne,beq_eq_false_iff_ne,bne_eq_false_iff_eq,ne_eq,bI] at h3p
 have hfd := mr_yes hx (by exact h3) HK
 refine kQ <| kOS 2 [30] [(30,aI x.value)] (iI (Int.tmod x.value 16777216)) rfl (fun _ _ _ ww hr => az hr.1 rfl (by kernel_rfl) (by kernel_rfl) (cH (by first | decide | omega) ww)) ?_
 refine kOS 1 [32] [(32,aI (K6.wrap ((Int.tmod x.value 16777216) + 16777216)))] (iI (Int.tmod (K6.wrap ((Int.tmod x.value 16777216) + 16777216)) 16777216)) rfl (fun _ _ _ ww hr => az hr.1 rfl (by kernel_rfl) (by kernel_rfl) (cH (by first | decide | omega) ww)) ?_
 refine kRS 1 [4] [(4,aI (Int.tmod (K6.wrap ((Int.tmod x.value 16777216) + 16777216)) 16777216))] <| bX [4] [(4,aI (Int.tmod (K6.wrap ((Int.tmod x.value 16777216) + 16777216)) 16777216))] [(4,aI (Int.tmod ((Int.tmod x.value 16777216) + 16777216) 16777216))] (by rw [show (K6.wrap ((Int.tmod x.value 16777216) + 16777216)) = ((Int.tmod x.value 16777216) + 16777216) from aY (by omega) (by omega)]) (by kernel_rfl) ?_
 refine aH [4] [] <| kR ?_
 exact ⟨[iI (Int.tmod ((Int.tmod x.value 16777216) + 16777216) 16777216)],by kernel_rfl,fun w' hb hf => ⟨b9 (show (Int.tmod ((Int.tmod x.value 16777216) + 16777216) 16777216 : Int) = ch m t from by first | (rw [br hu]; done) | (rw [br hu]; rfl) | (rw [bt hu,hfn]; done) | (rw [bt hu,hfd.1]; first | exact mr_neg (by assumption) | exact mr_pos (by assumption) | exact mr_i _)),hb⟩⟩
 have h3p := h3; simp only [beq_iff_eq,bne_iff_ne,beq_eq_false_iff_ne,bne_eq_false_iff_eq,ne_eq,bI] at h3p
 have hq : (x.input.toList == t.toList) = false := by exact h3
 refine kK <| kG <| kRD 2 [1,19,20,21] [(21,aI (K6.wrap ((k : Int) + 1)))] <| bX [1,19,20,21] [(21,aI (K6.wrap ((k : Int) + 1)))] [(21,aI ((k : Int) + 1))] (by rw [show (K6.wrap ((k : Int) + 1)) = ((k : Int) + 1) from aY (by omega) (by omega)]) (by kernel_rfl) ?_
 refine aH [1,19,20,21] [] ?_
 exact ⟨⟨(k + 1),⟨by omega,no_step (p := fun r : Mrw => (r.input.toList == t.toList)) hx hq HK⟩⟩,kF 1 0 [1,19,20,21],by show m.rows.length - (k + 1) < m.rows.length - k; omega⟩
 have h2p := of_decide_eq_false h2
 have hge : k = m.rows.length := by simp at h2; omega
 have hfn := mr_no hge HK
 refine bF <| kQ <| bZ [4] [(4,aI 0)] <| kR ?_
 exact ⟨[iI 0],by kernel_rfl,fun w' hb hf => ⟨b9 (show (0 : Int) = ch m t from by first | (rw [br hu]; done) | (rw [br hu]; rfl) | (rw [bt hu,hfn]; done) | (rw [bt hu,hfd.1]; first | exact mr_neg (by assumption) | exact mr_pos (by assumption) | exact mr_i _)),hb⟩⟩
theorem mai_sz (t : Tup) (seq epoch i : Int) : (ax t seq epoch i).size ≤ 1048576 := by
 unfold ax
 split
 · have z1 := ah t.ip 4; have z2 := ah t.port 2; have z3 := ah t.my 2; have z4 := ah seq 4; have z5 := ah epoch 4; have z6 := ah i 1
   simp only [ByteArray.size_append]; omega
 · exact Nat.zero_le _
def ao (m : Mac) (t : Tup) (seq epoch i : Int) : Int := if (ax t seq epoch i).toList == (⟨#[]⟩ : ByteArray).toList then -1 else K6.wrap (K6.wrap (K6.wrap (Int.tmod epoch 32 * 134217728) + K6.wrap (i * 16777216)) + ch m (ax t seq epoch i))
theorem ysCookieOf_c (m : Mac) (m_rowsV : Value) (t : Tup) (seq : Int) (epoch : Int) (i : Int) (w : World) (hl_m_rowsV : Sl w m_rowsV 2 (m.rows.map a6))  : Calls Try.prog 36 #[.agg (b8 m m_rowsV).toArray, .agg (bP t).toArray, iI seq, iI epoch, iI i] w fun e w' => e = .returned (iI (ao m t seq epoch i)) ∧ Below w.heap.size w w' := by
 obtain ⟨Amr,Cmr,hvmr⟩ := hl_m_rowsV.form
 rw [List.length_map] at hvmr; subst hvmr
 have hnmr := hl_m_rowsV.len; rw [List.length_map] at hnmr
 have hqmr := Sl.capLe hl_m_rowsV
 refine aq (args := [.agg (b8 m (.slice Amr m.rows.length Cmr)).toArray,.agg (bP t).toArray,iI seq,iI epoch,iI i]) (fn := Try.f36) [ag (.slice Amr m.rows.length Cmr) 2 (m.rows.map a6)] Try.func36 rfl Try.ntmps36 rfl (by simp only [List.mem_cons,List.not_mem_nil,or_false,forall_eq_or_imp,forall_eq]; exact ⟨rfl,hl_m_rowsV⟩) ?_
 refine kQ <| bH [2,3,4,5,6] ⟨[(2,aI seq),(3,aI epoch),(4,aI i),(5,.p 0 0),(6,.p 1 0)],[⟨41,b8 m (.slice Amr m.rows.length Cmr)⟩,⟨62,bP t⟩],[],[ag (.slice Amr m.rows.length Cmr) 2 (m.rows.map a6)]⟩ <| kQ <| ci 4 [3,4,5,12,13,14,15] [(12,.v (.agg (bP t).toArray)),(13,aI seq),(14,aI epoch),(15,aI i)] 74 [.agg (bP t).toArray,iI seq,iI epoch,iI i] (some 16) rfl (ai fun ww hf => ysMacInput_c t seq epoch i ww ) ?_
 intro _
 refine aH [3,4,5,11] [(11,.v (.string (ax t seq epoch i)))] <| kS <| kQ <| aH [3,4,5,11,18] [(18,aB ((ax t seq epoch i).toList == (⟨#[]⟩ : ByteArray).toList))] ?_
 refine kC ((ax t seq epoch i).toList == (⟨#[]⟩ : ByteArray).toList) (fun h1 => ?_) (fun h1 => ?_)
 have h1p := h1; simp only [beq_iff_eq,bne_iff_ne,beq_eq_false_iff_ne,bne_eq_false_iff_eq,ne_eq,bI] at h1p
 refine kQ <| bZ [10] [(10,aI (-1))] <| kR ?_
 exact ⟨[iI (-1)],by kernel_rfl,fun w' hb hf => ⟨b9 (show ((-1) : Int) = ao m t seq epoch i from by first | (unfold ao; rw [if_pos (by assumption)]; done) | (unfold ao; rw [if_neg (by simp [*])]; first | done | rfl) | (unfold ao; simp [*]; done)),hb⟩⟩
 have h1p := h1; simp only [beq_iff_eq,bne_iff_ne,beq_eq_false_iff_ne,bne_eq_false_iff_eq,ne_eq,bI] at h1p
 refine kK <| kQ <| cU 1 [4,5,11,19] [(19,aI epoch)] (iI (Int.tmod epoch 32)) rfl (fun _ _ _ ww hr => az hr.1 rfl (by kernel_rfl) (by kernel_rfl) (cH (by first | decide | omega) ww)) ?_
 refine kCS 6 [24,25,26] [(24,aI (K6.wrap ((K6.wrap ((Int.tmod epoch 32) * 134217728)) + (K6.wrap (i * 16777216))))),(25,.v (.agg (b8 m (.slice Amr m.rows.length Cmr)).toArray)),(26,.v (.string (ax t seq epoch i)))] 75 [.agg (b8 m (.slice Amr m.rows.length Cmr)).toArray,.string (ax t seq epoch i)] (some 27) rfl (ai fun ww hf => ysMacOf_c m (.slice Amr m.rows.length Cmr) (ax t seq epoch i) ww (hf _ m0) (mai_sz _ _ _ _)) ?_
 intro _
 refine bZ [10] [(10,aI (K6.wrap ((K6.wrap ((K6.wrap ((Int.tmod epoch 32) * 134217728)) + (K6.wrap (i * 16777216)))) + (ch m (ax t seq epoch i)))))] <| kR ?_
 exact ⟨[iI (K6.wrap ((K6.wrap ((K6.wrap ((Int.tmod epoch 32) * 134217728)) + (K6.wrap (i * 16777216)))) + (ch m (ax t seq epoch i))))],by kernel_rfl,fun w' hb hf => ⟨b9 (show (K6.wrap ((K6.wrap ((K6.wrap ((Int.tmod epoch 32) * 134217728)) + (K6.wrap (i * 16777216)))) + (ch m (ax t seq epoch i))) : Int) = ao m t seq epoch i from by first | (unfold ao; rw [if_pos (by assumption)]; done) | (unfold ao; rw [if_neg (by simp [*])]; first | done | rfl) | (unfold ao; simp [*]; done)),hb⟩⟩
theorem yiCookieOf_c (m : Mac) (m_rowsV : Value) (t : Tup) (seq : Int) (epoch : Int) (i : Int) (w : World) (hl_m_rowsV : Sl w m_rowsV 2 (m.rows.map a6))  : Calls Try.prog 39 #[.agg (b8 m m_rowsV).toArray, .agg (bP t).toArray, iI seq, iI epoch, iI i] w fun e w' => e = .returned (iI (ao m t seq epoch i)) ∧ Below w.heap.size w w' := by
 obtain ⟨Amr,Cmr,hvmr⟩ := hl_m_rowsV.form
 rw [List.length_map] at hvmr; subst hvmr
 have hnmr := hl_m_rowsV.len; rw [List.length_map] at hnmr
 have hqmr := Sl.capLe hl_m_rowsV
 refine aq (args := [.agg (b8 m (.slice Amr m.rows.length Cmr)).toArray,.agg (bP t).toArray,iI seq,iI epoch,iI i]) (fn := Try.f39) [ag (.slice Amr m.rows.length Cmr) 2 (m.rows.map a6)] Try.func39 rfl Try.ntmps39 rfl (by simp only [List.mem_cons,List.not_mem_nil,or_false,forall_eq_or_imp,forall_eq]; exact ⟨rfl,hl_m_rowsV⟩) ?_
 refine kQ <| bH [2,3,4,5,6] ⟨[(2,aI seq),(3,aI epoch),(4,aI i),(5,.p 0 0),(6,.p 1 0)],[⟨41,b8 m (.slice Amr m.rows.length Cmr)⟩,⟨62,bP t⟩],[],[ag (.slice Amr m.rows.length Cmr) 2 (m.rows.map a6)]⟩ <| kQ <| ci 4 [3,4,5,12,13,14,15] [(12,.v (.agg (bP t).toArray)),(13,aI seq),(14,aI epoch),(15,aI i)] 77 [.agg (bP t).toArray,iI seq,iI epoch,iI i] (some 16) rfl (ai fun ww hf => yiMacInput_c t seq epoch i ww ) ?_
 intro _
 refine aH [3,4,5,11] [(11,.v (.string (ax t seq epoch i)))] <| kS <| kQ <| aH [3,4,5,11,18] [(18,aB ((ax t seq epoch i).toList == (⟨#[]⟩ : ByteArray).toList))] ?_
 refine kC ((ax t seq epoch i).toList == (⟨#[]⟩ : ByteArray).toList) (fun h1 => ?_) (fun h1 => ?_)
 have h1p := h1; simp only [beq_iff_eq,bne_iff_ne,beq_eq_false_iff_ne,bne_eq_false_iff_eq,ne_eq,bI] at h1p
 refine kQ <| bZ [10] [(10,aI (-1))] <| kR ?_
 exact ⟨[iI (-1)],by kernel_rfl,fun w' hb hf => ⟨b9 (show ((-1) : Int) = ao m t seq epoch i from by first | (unfold ao; rw [if_pos (by assumption)]; done) | (unfold ao; rw [if_neg (by simp [*])]; first | done | rfl) | (unfold ao; simp [*]; done)),hb⟩⟩
 have h1p := h1; simp only [beq_iff_eq,bne_iff_ne,beq_eq_false_iff_ne,bne_eq_false_iff_eq,ne_eq,bI] at h1p
 refine kK <| kQ <| cU 1 [4,5,11,19] [(19,aI epoch)] (iI (Int.tmod epoch 32)) rfl (fun _ _ _ ww hr => az hr.1 rfl (by kernel_rfl) (by kernel_rfl) (cH (by first | decide | omega) ww)) ?_
 refine kCS 6 [24,25,26] [(24,aI (K6.wrap ((K6.wrap ((Int.tmod epoch 32) * 134217728)) + (K6.wrap (i * 16777216))))),(25,.v (.agg (b8 m (.slice Amr m.rows.length Cmr)).toArray)),(26,.v (.string (ax t seq epoch i)))] 78 [.agg (b8 m (.slice Amr m.rows.length Cmr)).toArray,.string (ax t seq epoch i)] (some 27) rfl (ai fun ww hf => yiMacOf_c m (.slice Amr m.rows.length Cmr) (ax t seq epoch i) ww (hf _ m0) (mai_sz _ _ _ _)) ?_
 intro _
 refine bZ [10] [(10,aI (K6.wrap ((K6.wrap ((K6.wrap ((Int.tmod epoch 32) * 134217728)) + (K6.wrap (i * 16777216)))) + (ch m (ax t seq epoch i)))))] <| kR ?_
 exact ⟨[iI (K6.wrap ((K6.wrap ((K6.wrap ((Int.tmod epoch 32) * 134217728)) + (K6.wrap (i * 16777216)))) + (ch m (ax t seq epoch i))))],by kernel_rfl,fun w' hb hf => ⟨b9 (show (K6.wrap ((K6.wrap ((K6.wrap ((Int.tmod epoch 32) * 134217728)) + (K6.wrap (i * 16777216)))) + (ch m (ax t seq epoch i))) : Int) = ao m t seq epoch i from by first | (unfold ao; rw [if_pos (by assumption)]; done) | (unfold ao; rw [if_neg (by simp [*])]; first | done | rfl) | (unfold ao; simp [*]; done)),hb⟩⟩
def bz (o : Opt) : Int := if o.mss = 0 then 536 else o.mss
def aL (d : Dor) (t : Tup) (g : Seg) : Int := max 0 (ao d.keys.now t g.seq d.keys.epoch (aj (bz g.o)))
theorem ypeerMss_c (o : Opt) (w : World)  : Calls Try.prog 41 #[.agg (optL o).toArray] w fun e w' => e = .returned (iI (bz o)) ∧ Below w.heap.size w w' := by
 refine aq (args := [.agg (optL o).toArray]) (fn := Try.f41) [] Try.func41 rfl Try.ntmps41 rfl (by simp) ?_
 refine kQ <| bH [1] ⟨[(1,.p 0 0)],[⟨64,optL o⟩],[],[]⟩ <| kS <| kQ <| aH [1,5] [(5,aB (o.mss == 0))] ?_
 refine kC (o.mss == 0) (fun h1 => ?_) (fun h1 => ?_)
 have h1p := eqT h1
 refine kQ <| bZ [2] [(2,aI 536)] <| kR ?_
 exact ⟨[iI 536],by kernel_rfl,fun w' hb hf => ⟨b9 (show (536 : Int) = bz o from by first | (unfold bz; simp_all; done)),hb⟩⟩
 have h1p := eqF h1
 refine kK <| kQ <| bZ [2] [(2,aI o.mss)] <| kR ?_
 exact ⟨[iI o.mss],by kernel_rfl,fun w' hb hf => ⟨b9 (show (o.mss : Int) = bz o from by first | (unfold bz; simp_all; done)),hb⟩⟩
theorem ysFirstSeq_c (d : Dor) (d_keys_now_rowsV : Value) (d_keys_before_rowsV : Value) (d_halvesV : Value) (d_table_connsV : Value) (d_table_waitingV : Value) (t : Tup) (g : Seg) (w : World) (hl_d_keys_now_rowsV : Sl w d_keys_now_rowsV 2 (d.keys.now.rows.map a6)) (hl_d_keys_before_rowsV : Sl w d_keys_before_rowsV 2 (d.keys.before.rows.map a6)) (hl_d_halvesV : Sl w d_halvesV 13 (d.halves.map av)) (hl_d_table_connsV : Sl w d_table_connsV 25 (d.table.conns.map aQ)) (hh_d_table_connsV : ∀ x ∈ d.table.conns, Sl w x.2 2 (x.1.r.held.map pC)) (hl_d_table_waitingV : Sl w d_table_waitingV 3 (d.table.waiting.map ay))  : Calls Try.prog 12 #[.agg (bT d d_keys_now_rowsV d_keys_before_rowsV d_halvesV d_table_connsV d_table_waitingV).toArray, .agg (bP t).toArray, .agg (segL g).toArray] w fun e w' => e = .returned (iI (aL d t g)) ∧ Below w.heap.size w w' := by
 obtain ⟨Adknr,Cdknr,hvdknr⟩ := hl_d_keys_now_rowsV.form
 rw [List.length_map] at hvdknr; subst hvdknr
 have hndknr := hl_d_keys_now_rowsV.len; rw [List.length_map] at hndknr
 have hqdknr := Sl.capLe hl_d_keys_now_rowsV
 obtain ⟨Adkbr,Cdkbr,hvdkbr⟩ := hl_d_keys_before_rowsV.form
 rw [List.length_map] at hvdkbr; subst hvdkbr
 have hndkbr := hl_d_keys_before_rowsV.len; rw [List.length_map] at hndkbr
 have hqdkbr := Sl.capLe hl_d_keys_before_rowsV
 obtain ⟨Adh,Cdh,hvdh⟩ := hl_d_halvesV.form
 rw [List.length_map] at hvdh; subst hvdh
 have hndh := hl_d_halvesV.len; rw [List.length_map] at hndh
 have hqdh := Sl.capLe hl_d_halvesV
 obtain ⟨Adtc,Cdtc,hvdtc⟩ := hl_d_table_connsV.form
 rw [List.length_map] at hvdtc; subst hvdtc
 have hndtc := hl_d_table_connsV.len; rw [List.length_map] at hndtc
 have hqdtc := Sl.capLe hl_d_table_connsV
 obtain ⟨Adtw,Cdtw,hvdtw⟩ := hl_d_table_waitingV.form
 rw [List.length_map] at hvdtw; subst hvdtw
 have hndtw := hl_d_table_waitingV.len; rw [List.length_map] at hndtw
 have hqdtw := Sl.capLe hl_d_table_waitingV
 refine aq (args := [.agg (bT d (.slice Adknr d.keys.now.rows.length Cdknr) (.slice Adkbr d.keys.before.rows.length Cdkbr) (.slice Adh d.halves.length Cdh) (.slice Adtc d.table.conns.length Cdtc) (.slice Adtw d.table.waiting.length Cdtw)).toArray,.agg (bP t).toArray,.agg (segL g).toArray]) (fn := Try.f12) [ag (.slice Adknr d.keys.now.rows.length Cdknr) 2 (d.keys.now.rows.map a6),ag (.slice Adkbr d.keys.before.rows.length Cdkbr) 2 (d.keys.before.rows.map a6),ag (.slice Adh d.halves.length Cdh) 13 (d.halves.map av),ag (.slice Adtc d.table.conns.length Cdtc) 25 (d.table.conns.map aQ),bJ d.table.conns,ag (.slice Adtw d.table.waiting.length Cdtw) 3 (d.table.waiting.map ay)] Try.func12 rfl Try.ntmps12 rfl (by simp only [List.mem_cons,List.not_mem_nil,or_false,forall_eq_or_imp,forall_eq]; exact ⟨⟨rfl,hl_d_keys_now_rowsV⟩,⟨rfl,hl_d_keys_before_rowsV⟩,⟨rfl,hl_d_halvesV⟩,⟨rfl,hl_d_table_connsV⟩,⟨rfl,hh_d_table_connsV⟩,⟨rfl,hl_d_table_waitingV⟩⟩) ?_
 refine kQ <| bH [3,4,5] ⟨[(3,.p 0 0),(4,.p 1 0),(5,.p 2 0)],[⟨51,bT d (.slice Adknr d.keys.now.rows.length Cdknr) (.slice Adkbr d.keys.before.rows.length Cdkbr) (.slice Adh d.halves.length Cdh) (.slice Adtc d.table.conns.length Cdtc) (.slice Adtw d.table.waiting.length Cdtw)⟩,⟨62,bP t⟩,⟨66,segL g⟩],[],[ag (.slice Adknr d.keys.now.rows.length Cdknr) 2 (d.keys.now.rows.map a6),ag (.slice Adkbr d.keys.before.rows.length Cdkbr) 2 (d.keys.before.rows.map a6),ag (.slice Adh d.halves.length Cdh) 13 (d.halves.map av),ag (.slice Adtc d.table.conns.length Cdtc) 25 (d.table.conns.map aQ),bJ d.table.conns,ag (.slice Adtw d.table.waiting.length Cdtw) 3 (d.table.waiting.map ay)]⟩ <| kQ <| aH [3,4,5,7] [(7,aI g.o.mss)] ?_
 refine kS <| kQ <| aH [3,4,5,7,12] [(12,aB (g.o.mss == 0))] <| kC (g.o.mss == 0) (fun h1 => ?_) (fun h1 => ?_)
 have h1p := eqT h1
 refine kG <| aH [3,4,5,7] [(7,aI 536)] <| kS <| aN [] (by kernel_rfl) (fun ρ σ => ?_)
 refine kTS [0,1,2,3,4,5,6,7,8,9] [22,21,18,16,15] 4 [(22,aI 536),(21,aI d.keys.epoch),(18,aI g.seq),(16,.v (.agg (bP t).toArray)),(15,.v (.agg (b8 d.keys.now (.slice Adknr d.keys.now.rows.length Cdknr)).toArray))] <| kA [10] <| cw 10 37 [iI 536] (some 23) rfl (ai fun ww hf => ysMssIndex_c 536 ww ) ?_
 intro _
 refine kA [11] <| cw 11 36 [.agg (b8 d.keys.now (.slice Adknr d.keys.now.rows.length Cdknr)).toArray,.agg (bP t).toArray,iI g.seq,iI d.keys.epoch,iI (aj 536)] (some 24) rfl (ai fun ww hf => ysCookieOf_c d.keys.now (.slice Adknr d.keys.now.rows.length Cdknr) t g.seq d.keys.epoch (aj 536) ww (hf _ m0) ) ?_
 intro _
 refine kA [12] <| cw 12 35 [iI 0,iI (ao d.keys.now t g.seq d.keys.epoch (aj 536))] (some 25) rfl (xc_s fun ww hf => l1Max_c 0 (ao d.keys.now t g.seq d.keys.epoch (aj 536)) ww ) ?_
 intro _
 refine kTS [13] [6] 0 [(6,aI (max 0 (ao d.keys.now t g.seq d.keys.epoch (aj 536))))] <| kZ <| kR ?_
 exact ⟨[iI (max 0 (ao d.keys.now t g.seq d.keys.epoch (aj 536)))],by kernel_rfl,fun w' hb hf => ⟨b9 (show (max 0 (ao d.keys.now t g.seq d.keys.epoch (aj 536)) : Int) = aL d t g from by first | rfl | (unfold aL; generalize ao _ _ _ _ _ = q; first | omega | (rw [Int.max_def]; split <;> (try split) <;> omega) | (split <;> omega)) | (unfold aL bz; simp [*]; done) | (unfold aL bz; simp_all; done)),hb⟩⟩
 have h1p := eqF h1
 refine kK <| kS <| aN [] (by kernel_rfl) (fun ρ σ => ?_)
 refine kTS [0,1,2,3,4,5,6,7,8,9] [22,21,18,16,15] 4 [(22,aI g.o.mss),(21,aI d.keys.epoch),(18,aI g.seq),(16,.v (.agg (bP t).toArray)),(15,.v (.agg (b8 d.keys.now (.slice Adknr d.keys.now.rows.length Cdknr)).toArray))] <| kA [10] <| cw 10 37 [iI g.o.mss] (some 23) rfl (ai fun ww hf => ysMssIndex_c g.o.mss ww ) ?_
 intro _
 refine kA [11] <| cw 11 36 [.agg (b8 d.keys.now (.slice Adknr d.keys.now.rows.length Cdknr)).toArray,.agg (bP t).toArray,iI g.seq,iI d.keys.epoch,iI (aj g.o.mss)] (some 24) rfl (ai fun ww hf => ysCookieOf_c d.keys.now (.slice Adknr d.keys.now.rows.length Cdknr) t g.seq d.keys.epoch (aj g.o.mss) ww (hf _ m0) ) ?_
 intro _
 refine kA [12] <| cw 12 35 [iI 0,iI (ao d.keys.now t g.seq d.keys.epoch (aj g.o.mss))] (some 25) rfl (xc_s fun ww hf => l1Max_c 0 (ao d.keys.now t g.seq d.keys.epoch (aj g.o.mss)) ww ) ?_
 intro _
 refine kTS [13] [6] 0 [(6,aI (max 0 (ao d.keys.now t g.seq d.keys.epoch (aj g.o.mss))))] <| kZ <| kR ?_
 exact ⟨[iI (max 0 (ao d.keys.now t g.seq d.keys.epoch (aj g.o.mss)))],by kernel_rfl,fun w' hb hf => ⟨b9 (show (max 0 (ao d.keys.now t g.seq d.keys.epoch (aj g.o.mss)) : Int) = aL d t g from by first | rfl | (unfold aL; generalize ao _ _ _ _ _ = q; first | omega | (rw [Int.max_def]; split <;> (try split) <;> omega) | (split <;> omega)) | (unfold aL bz; simp [*]; done) | (unfold aL bz; simp_all; done)),hb⟩⟩
theorem yiFirstSeq_c (d : Dor) (d_keys_now_rowsV : Value) (d_keys_before_rowsV : Value) (d_halvesV : Value) (d_table_connsV : Value) (d_table_waitingV : Value) (t : Tup) (g : Seg) (w : World) (hl_d_keys_now_rowsV : Sl w d_keys_now_rowsV 2 (d.keys.now.rows.map a6)) (hl_d_keys_before_rowsV : Sl w d_keys_before_rowsV 2 (d.keys.before.rows.map a6)) (hl_d_halvesV : Sl w d_halvesV 13 (d.halves.map av)) (hl_d_table_connsV : Sl w d_table_connsV 25 (d.table.conns.map aQ)) (hh_d_table_connsV : ∀ x ∈ d.table.conns, Sl w x.2 2 (x.1.r.held.map pC)) (hl_d_table_waitingV : Sl w d_table_waitingV 3 (d.table.waiting.map ay))  : Calls Try.prog 15 #[.agg (bT d d_keys_now_rowsV d_keys_before_rowsV d_halvesV d_table_connsV d_table_waitingV).toArray, .agg (bP t).toArray, .agg (segL g).toArray] w fun e w' => e = .returned (iI (aL d t g)) ∧ Below w.heap.size w w' := by
 obtain ⟨Adknr,Cdknr,hvdknr⟩ := hl_d_keys_now_rowsV.form
 rw [List.length_map] at hvdknr; subst hvdknr
 have hndknr := hl_d_keys_now_rowsV.len; rw [List.length_map] at hndknr
 have hqdknr := Sl.capLe hl_d_keys_now_rowsV
 obtain ⟨Adkbr,Cdkbr,hvdkbr⟩ := hl_d_keys_before_rowsV.form
 rw [List.length_map] at hvdkbr; subst hvdkbr
 have hndkbr := hl_d_keys_before_rowsV.len; rw [List.length_map] at hndkbr
 have hqdkbr := Sl.capLe hl_d_keys_before_rowsV
 obtain ⟨Adh,Cdh,hvdh⟩ := hl_d_halvesV.form
 rw [List.length_map] at hvdh; subst hvdh
 have hndh := hl_d_halvesV.len; rw [List.length_map] at hndh
 have hqdh := Sl.capLe hl_d_halvesV
 obtain ⟨Adtc,Cdtc,hvdtc⟩ := hl_d_table_connsV.form
 rw [List.length_map] at hvdtc; subst hvdtc
 have hndtc := hl_d_table_connsV.len; rw [List.length_map] at hndtc
 have hqdtc := Sl.capLe hl_d_table_connsV
 obtain ⟨Adtw,Cdtw,hvdtw⟩ := hl_d_table_waitingV.form
 rw [List.length_map] at hvdtw; subst hvdtw
 have hndtw := hl_d_table_waitingV.len; rw [List.length_map] at hndtw
 have hqdtw := Sl.capLe hl_d_table_waitingV
 refine aq (args := [.agg (bT d (.slice Adknr d.keys.now.rows.length Cdknr) (.slice Adkbr d.keys.before.rows.length Cdkbr) (.slice Adh d.halves.length Cdh) (.slice Adtc d.table.conns.length Cdtc) (.slice Adtw d.table.waiting.length Cdtw)).toArray,.agg (bP t).toArray,.agg (segL g).toArray]) (fn := Try.f15) [ag (.slice Adknr d.keys.now.rows.length Cdknr) 2 (d.keys.now.rows.map a6),ag (.slice Adkbr d.keys.before.rows.length Cdkbr) 2 (d.keys.before.rows.map a6),ag (.slice Adh d.halves.length Cdh) 13 (d.halves.map av),ag (.slice Adtc d.table.conns.length Cdtc) 25 (d.table.conns.map aQ),bJ d.table.conns,ag (.slice Adtw d.table.waiting.length Cdtw) 3 (d.table.waiting.map ay)] Try.func15 rfl Try.ntmps15 rfl (by simp only [List.mem_cons,List.not_mem_nil,or_false,forall_eq_or_imp,forall_eq]; exact ⟨⟨rfl,hl_d_keys_now_rowsV⟩,⟨rfl,hl_d_keys_before_rowsV⟩,⟨rfl,hl_d_halvesV⟩,⟨rfl,hl_d_table_connsV⟩,⟨rfl,hh_d_table_connsV⟩,⟨rfl,hl_d_table_waitingV⟩⟩) ?_
 refine kQ <| bH [3,4,5] ⟨[(3,.p 0 0),(4,.p 1 0),(5,.p 2 0)],[⟨51,bT d (.slice Adknr d.keys.now.rows.length Cdknr) (.slice Adkbr d.keys.before.rows.length Cdkbr) (.slice Adh d.halves.length Cdh) (.slice Adtc d.table.conns.length Cdtc) (.slice Adtw d.table.waiting.length Cdtw)⟩,⟨62,bP t⟩,⟨66,segL g⟩],[],[ag (.slice Adknr d.keys.now.rows.length Cdknr) 2 (d.keys.now.rows.map a6),ag (.slice Adkbr d.keys.before.rows.length Cdkbr) 2 (d.keys.before.rows.map a6),ag (.slice Adh d.halves.length Cdh) 13 (d.halves.map av),ag (.slice Adtc d.table.conns.length Cdtc) 25 (d.table.conns.map aQ),bJ d.table.conns,ag (.slice Adtw d.table.waiting.length Cdtw) 3 (d.table.waiting.map ay)]⟩ <| kS <| aN [] (by kernel_rfl) (fun ρ σ => ?_)
 refine kTS [0,1,2,3,4,5,6,7,8,9,10] [17,15,12,10,9] 5 [(17,.v (.agg (optL g.o).toArray)),(15,aI d.keys.epoch),(12,aI g.seq),(10,.v (.agg (bP t).toArray)),(9,.v (.agg (b8 d.keys.now (.slice Adknr d.keys.now.rows.length Cdknr)).toArray))] <| kA [11] <| cw 11 41 [.agg (optL g.o).toArray] (some 18) rfl (ai fun ww hf => ypeerMss_c g.o ww ) ?_
 intro _
 refine kA [12] <| cw 12 40 [iI (bz g.o)] (some 19) rfl (ai fun ww hf => yiMssIndex_c (bz g.o) ww ) ?_
 intro _
 refine kA [13] <| cw 13 39 [.agg (b8 d.keys.now (.slice Adknr d.keys.now.rows.length Cdknr)).toArray,.agg (bP t).toArray,iI g.seq,iI d.keys.epoch,iI (aj (bz g.o))] (some 20) rfl (ai fun ww hf => yiCookieOf_c d.keys.now (.slice Adknr d.keys.now.rows.length Cdknr) t g.seq d.keys.epoch (aj (bz g.o)) ww (hf _ m0) ) ?_
 intro _
 refine kTS [14,15] [6] 0 [(6,aI (if 0 < (ao d.keys.now t g.seq d.keys.epoch (aj (bz g.o))) then ao d.keys.now t g.seq d.keys.epoch (aj (bz g.o)) else 0))] <| kZ <| kR ?_
 exact ⟨[iI (if 0 < (ao d.keys.now t g.seq d.keys.epoch (aj (bz g.o))) then ao d.keys.now t g.seq d.keys.epoch (aj (bz g.o)) else 0)],by kernel_rfl,fun w' hb hf => ⟨b9 (show (if 0 < (ao d.keys.now t g.seq d.keys.epoch (aj (bz g.o))) then ao d.keys.now t g.seq d.keys.epoch (aj (bz g.o)) else 0 : Int) = aL d t g from by first | rfl | (unfold aL; generalize ao _ _ _ _ _ = q; first | omega | (rw [Int.max_def]; split <;> (try split) <;> omega) | (split <;> omega)) | (unfold aL bz; simp [*]; done) | (unfold aL bz; simp_all; done)),hb⟩⟩
end Go.Proofs.Ytfidgfddgmppdaa
