/- Contracts that this law needs, part 2. -/
import Derived.Test.YtfidgfddgmppdaaZ1
namespace Go.Proofs.Ytfidgfddgmppdaa
open Go.RowKit
set_option linter.unusedVariables false
set_option linter.unusedSimpArgs false
set_option maxRecDepth 100000
set_option maxHeartbeats 2000000

theorem ysMacOk_c (m : Mac) (m_rowsV : Value) (w : World) (hl_m_rowsV : Sl w m_rowsV 2 (m.rows.map a5))  : Calls Try.prog 80 #[.agg (aG m m_rowsV).toArray] w fun e w' => e = .returned (.bool (ad m)) ∧ Below w.heap.size w w' := by
 obtain ⟨Amr,Cmr,hvmr⟩ := hl_m_rowsV.form
 rw [List.length_map] at hvmr; subst hvmr
 have hnmr := hl_m_rowsV.len; rw [List.length_map] at hnmr
 have hqmr := Sl.capLe hl_m_rowsV
 refine aj (args := [.agg (aG m (.slice Amr m.rows.length Cmr)).toArray]) (fn := Try.f80) [av (.slice Amr m.rows.length Cmr) 2 (m.rows.map a5)] Try.func80 rfl Try.ntmps80 rfl (by simp only [List.mem_cons,List.not_mem_nil,or_false,forall_eq_or_imp,forall_eq]; exact ⟨rfl,hl_m_rowsV⟩) ?_
 refine kQ <| cY [1] ⟨[(1,.p 0 0)],[⟨41,aG m (.slice Amr m.rows.length Cmr)⟩],[],[av (.slice Amr m.rows.length Cmr) 2 (m.rows.map a5)]⟩ <| kS <| kQ <| ac [1,7] [(7,aB (!m.use))] ?_
 refine kC (!m.use) (fun h1 => ?_) (fun h1 => ?_)
 have h1n := aa h1
 have hu : m.use = false := h1n
 refine kQ <| am [2] [(2,aB (((m.rows.length : Nat) : Int) == 0))] <| kR ?_
 exact ⟨[.bool (((m.rows.length : Nat) : Int) == 0)],by kernel_rfl,fun w' hb hf => ⟨a7 (show (((m.rows.length : Nat) : Int) == 0 : Bool) = ad m from by first | exact hno.symm | (unfold ad; rw [if_neg (by rw [hu]; decide)]; first | rfl | (simp; done)) | (unfold ad; rw [if_pos hu,hall]; first | rfl | (simp [*]; done) | (simp_all; done)) | (unfold ad; rw [if_pos hu]; simp_all; done) | (unfold ad; rw [if_pos hu,decide_eq_false (p := (m.rows.length : Int) ≤ 64) (by omega)]; simp)),hb⟩⟩
 have h1n := ak h1
 have hu : m.use = true := h1n
 refine kK <| kS <| kQ <| ac [1,3] [(3,aI 0)] ?_
 refine au <| aA (α := {x : Nat // (fun (i : Nat) => i ≤ m.rows.length ∧ ∀ (j : Nat) (x : Mrw),j < i → m.rows[j]? = some x → dp m.rows j x = true) x}) (fun x => (fun (i : Nat) => (⟨[(1,.p 0 0),(3,aI (i : Int))],[⟨41,aG m (.slice Amr m.rows.length Cmr)⟩],[],[av (.slice Amr m.rows.length Cmr) 2 (m.rows.map a5)]⟩ : St)) x.1) (fun x => (fun (i : Nat) => m.rows.length - i) x.1) ⟨(0),⟨Nat.zero_le _,(fun j x hj => by omega)⟩⟩ (kF 1 0 [1,3]) ?_
 rintro ⟨i,hi,HK⟩
 try dsimp only
 try dsimp only at hi HK
 refine kS <| kQ <| ac [1,3,16] [(16,aB (decide ((i : Int) < ((m.rows.length : Nat) : Int))))] <| kC (decide ((i : Int) < ((m.rows.length : Nat) : Int))) (fun h2 => ?_) (fun h2 => ?_)
 have h2p := of_decide_eq_true h2
 have hlt : i < m.rows.length := by simpa using h2
 obtain ⟨xr,hx⟩ : ∃ x,m.rows[i]? = some x := ⟨_,List.getElem?_eq_getElem hlt⟩
 refine kK <| kS <| au <| kS <| kQ <| ba (kd := .i64) (T := 39) (e := 141) (K := 2) 3 [1,3,20,21] [(20,.v (.slice Amr m.rows.length Cmr)),(21,aI (i : Int))] i [.string xr.input,iI xr.value] (av (.slice Amr m.rows.length Cmr) 2 (m.rows.map a5)) (by kernel_rfl) rfl (by kernel_rfl) rfl rfl (by kernel_rfl) (by kernel_rfl) (by kernel_rfl) (by kernel_rfl) hlt (by simp) (fun w h => h) (fun b h => h) (by simp only [List.getElem?_map,hx]; rfl) ?_
 refine ch 2 [1,3,24] [(24,aI xr.value)] 46 [iI xr.value,iI 0,iI 16777215] (some 25) rfl (cw fun ww hf => ca xr.value 0 16777215 ww ) ?_
 intro _
 refine ac [1,3,26] [(26,aB (!(aX xr.value 0 16777215)))] <| kC (!(aX xr.value 0 16777215)) (fun h3 => ?_) (fun h3 => ?_)
 have h3n := aa h3
 have h3ni := inB_ff.1 (show aX xr.value 0 16777215 = false from by simpa using h3n)
 have hno := macOk_row hu hx (rowOk_val (x := xr) (fun hq => by have hz := h3n; unfold aX at hz; simp only [Bool.and_eq_false_iff,decide_eq_false_iff_not] at hz; omega))
 refine kQ <| am [2] [(2,aB false)] <| kR ?_
 exact ⟨[.bool false],by kernel_rfl,fun w' hb hf => ⟨a7 (show (false : Bool) = ad m from by first | exact hno.symm | (unfold ad; rw [if_neg (by rw [hu]; decide)]; first | rfl | (simp; done)) | (unfold ad; rw [if_pos hu,hall]; first | rfl | (simp [*]; done) | (simp_all; done)) | (unfold ad; rw [if_pos hu]; simp_all; done) | (unfold ad; rw [if_pos hu,decide_eq_false (p := (m.rows.length : Int) ≤ 64) (by omega)]; simp)),hb⟩⟩
 have h3n := ak h3
 have h3ni := inB_tt.1 (show aX xr.value 0 16777215 = true from by simpa using h3n)
 have hvr : 0 ≤ xr.value ∧ xr.value ≤ 16777215 := by have hz := h3n; unfold aX at hz; simp only [Bool.and_eq_true,decide_eq_true_eq] at hz; omega
 refine kK <| kQ <| ac [1,3,4] [(4,aI 0)] <| au <| aA (α := {x : Nat // (fun (k : Nat) => k ≤ i ∧ ∀ (j : Nat) (y : Mrw),j < k → m.rows[j]? = some y → (y.input.toList == xr.input.toList) = false) x}) (fun x => (fun (k : Nat) => (⟨[(1,.p 0 0),(3,aI (i : Int)),(4,aI (k : Int))],[⟨41,aG m (.slice Amr m.rows.length Cmr)⟩],[[.string xr.input,iI xr.value]],[av (.slice Amr m.rows.length Cmr) 2 (m.rows.map a5)]⟩ : St)) x.1) (fun x => (fun (k : Nat) => i - k) x.1) ⟨(0),⟨Nat.zero_le _,(fun j x hj => by omega)⟩⟩ (kF 1 1 [1,3,4]) ?_
 rintro ⟨k,hk,HI⟩
 try dsimp only
 try dsimp only at hk HI
 refine kS <| kQ <| ac [1,3,4,29] [(29,aB (decide ((k : Int) < (i : Int))))] <| kC (decide ((k : Int) < (i : Int))) (fun h4 => ?_) (fun h4 => ?_)
 have h4p := of_decide_eq_true h4
 have hki : k < i := by have := of_decide_eq_true h4; omega
 obtain ⟨y,hy⟩ : ∃ y,m.rows[k]? = some y := ⟨_,List.getElem?_eq_getElem (by omega)⟩
 refine kK <| kS <| au <| kS <| ci ?_
 refine cv (K := 2) (j := k) [.string y.input,iI y.value] (av (.slice Amr m.rows.length Cmr) 2 (m.rows.map a5)) (fun _ _ h => h) (by simp) (fun w h => h) (fun b h => h) (by simp only [List.getElem?_map,hy]; rfl) (fun bq5 offq5 hAq5 => ?_)
 refine cv (K := 2) (j := i) [.string xr.input,iI xr.value] (av (.slice Amr m.rows.length Cmr) 2 (m.rows.map a5)) (fun _ _ h => h) (by simp) (fun w h => h) (fun b h => h) (by simp only [List.getElem?_map,hx]; rfl) (fun bq6 offq6 hAq6 => ?_)
 refine bQ [] (by kernel_rfl) (fun ρ σ hq7 => ?_)
 refine kTS [0,1,2,6,7,8] [40,39,34,33,1,3,4] 7 [(40,aI (i : Int)),(39,.v (.slice Amr m.rows.length Cmr)),(34,aI (k : Int)),(33,.v (.slice Amr m.rows.length Cmr)),(1,.p 0 0),(3,aI (i : Int)),(4,aI (k : Int))] <| bU (kd := .i64) (T := 39) (e := 141) (K := 2) (j := k) (A := Amr) (len := m.rows.length) (cap := Cmr) 3 1 _ rfl (by kernel_rfl) (by kernel_rfl) (by kernel_rfl) (fun _ _ h => h) (by kernel_rfl) rfl rfl (by kernel_rfl) (by kernel_rfl) (by kernel_rfl) (by kernel_rfl) (by omega) hAq5 hq7.1.2 (by kernel_rfl) rfl ?_
 refine kTS [4,5] [37,40,39,1,3,4] 4 [(37,.v (.string y.input)),(40,aI (i : Int)),(39,.v (.slice Amr m.rows.length Cmr)),(1,.p 0 0),(3,aI (i : Int)),(4,aI (k : Int))] <| bU (kd := .i64) (T := 39) (e := 141) (K := 2) (j := i) (A := Amr) (len := m.rows.length) (cap := Cmr) 9 2 _ rfl (by kernel_rfl) (by kernel_rfl) (by kernel_rfl) (fun _ _ h => h) (by kernel_rfl) rfl rfl (by kernel_rfl) (by kernel_rfl) (by kernel_rfl) (by kernel_rfl) hlt hAq6 hq7.2 (by kernel_rfl) rfl ?_
 refine kTS [10,11,12] [44,1,3,4] 0 [(44,aB (y.input.toList == xr.input.toList)),(1,.p 0 0),(3,aI (i : Int)),(4,aI (k : Int))] <| kZ <| kC (y.input.toList == xr.input.toList) (fun h8 => ?_) (fun h8 => ?_)
 have h8p := h8; simp only [beq_iff_eq,bne_iff_ne,beq_eq_false_iff_ne,bne_eq_false_iff_eq,ne_eq,aK] at h8p
 have hno := macOk_row hu hx (rowOk_dup hki hy h8)
 refine kQ <| am [2] [(2,aB false)] <| kR ?_
 exact ⟨[.bool false],by kernel_rfl,fun w' hb hf => ⟨a7 (show (false : Bool) = ad m from by first | exact hno.symm | (unfold ad; rw [if_neg (by rw [hu]; decide)]; first | rfl | (simp; done)) | (unfold ad; rw [if_pos hu,hall]; first | rfl | (simp [*]; done) | (simp_all; done)) | (unfold ad; rw [if_pos hu]; simp_all; done) | (unfold ad; rw [if_pos hu,decide_eq_false (p := (m.rows.length : Int) ≤ 64) (by omega)]; simp)),hb⟩⟩
 have h8p := h8; simp only [beq_iff_eq,bne_iff_ne,beq_eq_false_iff_ne,bne_eq_false_iff_eq,ne_eq,aK] at h8p
 have hne := h8
 refine kK <| kG <| bB 3 [1,3,4] [(4,aI (K6.wrap ((k : Int) + 1)))] <| cz [1,3,4] [(4,aI (K6.wrap ((k : Int) + 1)))] [(4,aI ((k : Int) + 1))] (by rw [show (K6.wrap ((k : Int) + 1)) = ((k : Int) + 1) from aL (by omega) (by omega)]) (by kernel_rfl) ?_
 refine ac [1,3,4] [] ?_
 exact ⟨⟨(k + 1),⟨hki,dk (p := fun y : Mrw => (y.input.toList == xr.input.toList)) hy hne HI⟩⟩,kF 1 1 [1,3,4],by show (fun (k : Nat) => i - k) (k + 1) < i - k; (dsimp only; omega)⟩
 have h4p := of_decide_eq_false h4
 have hke : k = i := by have := of_decide_eq_false h4; omega
 have hro := rowOk_yes hvr (any_take hke HI)
 refine bu <| kG <| bB 3 [1,3] [(3,aI (K6.wrap ((i : Int) + 1)))] <| cz [1,3] [(3,aI (K6.wrap ((i : Int) + 1)))] [(3,aI ((i : Int) + 1))] (by rw [show (K6.wrap ((i : Int) + 1)) = ((i : Int) + 1) from aL (by omega) (by omega)]) (by kernel_rfl) ?_
 refine am [1,3] [(1,.p 0 0),(3,aI ((i : Int) + 1))] ?_
 exact ⟨⟨(i + 1),⟨hlt,df (p := dp m.rows) hx hro HK⟩⟩,kF 1 0 [1,3],by show (fun (i : Nat) => m.rows.length - i) (i + 1) < m.rows.length - i; (dsimp only; omega)⟩
 have h2p := of_decide_eq_false h2
 have hge : i = m.rows.length := by simp at h2; omega
 have hall := allI_all hge HK
 refine bu <| kQ <| bB 4 [1,48] [(48,aB (m.k == 0))] <| kP 48 (m.k == 0) (fun h9 => ?_) (fun h9 => ?_)
 have h9p := eqT h9
 refine bB 5 [1,53] [(53,aB (m.l == 0))] <| kP 53 (m.l == 0) (fun h10 => ?_) (fun h10 => ?_)
 have h10p := eqT h10
 refine am [2] [(2,aB (decide (((m.rows.length : Nat) : Int) ≤ 64)))] <| kR ?_
 exact ⟨[.bool (decide (((m.rows.length : Nat) : Int) ≤ 64))],by kernel_rfl,fun w' hb hf => ⟨a7 (show (decide (((m.rows.length : Nat) : Int) ≤ 64) : Bool) = ad m from by first | exact hno.symm | (unfold ad; rw [if_neg (by rw [hu]; decide)]; first | rfl | (simp; done)) | (unfold ad; rw [if_pos hu,hall]; first | rfl | (simp [*]; done) | (simp_all; done)) | (unfold ad; rw [if_pos hu]; simp_all; done) | (unfold ad; rw [if_pos hu,decide_eq_false (p := (m.rows.length : Int) ≤ 64) (by omega)]; simp)),hb⟩⟩
 have h10p := eqF h10
 refine am [2] [(2,aB false)] <| kR ?_
 exact ⟨[.bool false],by kernel_rfl,fun w' hb hf => ⟨a7 (show (false : Bool) = ad m from by first | exact hno.symm | (unfold ad; rw [if_neg (by rw [hu]; decide)]; first | rfl | (simp; done)) | (unfold ad; rw [if_pos hu,hall]; first | rfl | (simp [*]; done) | (simp_all; done)) | (unfold ad; rw [if_pos hu]; simp_all; done) | (unfold ad; rw [if_pos hu,decide_eq_false (p := (m.rows.length : Int) ≤ 64) (by omega)]; simp)),hb⟩⟩
 have h9p := eqF h9
 refine am [2] [(2,aB false)] <| kR ?_
 exact ⟨[.bool false],by kernel_rfl,fun w' hb hf => ⟨a7 (show (false : Bool) = ad m from by first | exact hno.symm | (unfold ad; rw [if_neg (by rw [hu]; decide)]; first | rfl | (simp; done)) | (unfold ad; rw [if_pos hu,hall]; first | rfl | (simp [*]; done) | (simp_all; done)) | (unfold ad; rw [if_pos hu]; simp_all; done) | (unfold ad; rw [if_pos hu,decide_eq_false (p := (m.rows.length : Int) ≤ 64) (by omega)]; simp)),hb⟩⟩
def mix (l : List Mrw) (u : Mrw) : Int := dl (l.findIdx? (fun y => y.input.toList == u.input.toList))
theorem mix_eq {l : List Mrw} {u y : Mrw} {k : Nat} (hk : l[k]? = some y) (hp : (y.input.toList == u.input.toList) = true) (hno : ∀ (i : Nat) (h' : Mrw), i < k → l[i]? = some h' → (h'.input.toList == u.input.toList) = false) : mix l u = (k : Int) := by
 unfold mix; rw [cE (p := fun y : Mrw => y.input.toList == u.input.toList) hk hp hno]; rfl
theorem mix_no {l : List Mrw} {u : Mrw} {k : Nat} (hk : k = l.length) (hno : ∀ (i : Nat) (h' : Mrw), i < k → l[i]? = some h' → (h'.input.toList == u.input.toList) = false) : mix l u = -1 := by
 unfold mix; rw [cB (p := fun y : Mrw => y.input.toList == u.input.toList) fun i h' hh => hno i h' (by rw [hk]; exact (List.getElem?_eq_some_iff.1 hh).1) hh]; rfl
theorem mix_any (l : List Mrw) (u : Mrw) : decide (mix l u ≥ 0) = l.any (fun y => y.input.toList == u.input.toList) := by
 unfold mix dl
 cases e : l.findIdx? (fun y => y.input.toList == u.input.toList) with
 | none =>
   rw [List.findIdx?_eq_none_iff] at e
   have : l.any (fun y => y.input.toList == u.input.toList) = false := by rw [List.any_eq_false]; intro y hy; simp [e y hy]
   rw [this]; rfl
 | some i =>
   rw [List.findIdx?_eq_some_iff_getElem] at e
   obtain ⟨hlt,hp,-⟩ := e
   have : l.any (fun y => y.input.toList == u.input.toList) = true := List.any_eq_true.2 ⟨_,List.getElem_mem hlt,hp⟩
   rw [this]; show decide ((i : Int) ≥ 0) = true; exact decide_eq_true (by omega)
theorem yMacOk1_c (c : Mrw) (u : Mrw) (g : Nat) (w : World) (hcell : (bZ g 141 [.string u.input, iI u.value]).p w) : Calls Try.prog 116 #[.agg (mrwL c).toArray, gP g] w fun e w' => e = .returned (.bool (c.input.toList == u.input.toList)) ∧ Below w.heap.size w w' := by
 refine aj (args := [.agg (mrwL c).toArray,gP g]) (fn := Try.f116) [bZ g 141 [.string u.input,iI u.value]] Try.func116 rfl Try.ntmps116 rfl (by simp only [List.mem_cons,List.not_mem_nil,or_false,forall_eq_or_imp,forall_eq]; exact ⟨rfl,hcell⟩) ?_
 refine kQ <| cY [1,2] ⟨[(1,aP g),(2,.p 0 0)],[⟨141,mrwL c⟩],[],[bZ g 141 [.string u.input,iI u.value]]⟩ <| kQ <| kOD 2 [1,5] [(5,.v (.string c.input))] (gP g) rfl (fun _ _ _ ww hr => act_fld (sz := 1) (b := g) (m := 0) hr.1 rfl Try.underlying141 rfl (by kernel_rfl) rfl (by kernel_rfl) rfl) ?_
 refine kOD 0 [5,6] [] (.string u.input) rfl (fun _ _ _ ww hr => ldK_run (off := 0) (g := g) (T := 141) (cs := [.string u.input,iI u.value]) hr rfl (by kernel_rfl) (by simp) (by kernel_rfl)) ?_
 refine am [3] [(3,aB (c.input.toList == u.input.toList))] <| kR ?_
 exact ⟨[.bool (c.input.toList == u.input.toList)],by kernel_rfl,fun w' hb hf => ⟨rfl,hb⟩⟩
theorem yIndexFMrw_c (l : List Mrw) (lV : Value) (u : Mrw) (g : Nat) (w : World) (hl_lV : Sl w lV 2 (l.map a5)) (hcell : (bZ g 141 [.string u.input, iI u.value]).p w) : Calls Try.prog 139 #[lV, .func (.func 116) #[] #[gP g]] w fun e w' => e = .returned (iI (mix l u)) ∧ Below w.heap.size w w' := by
 obtain ⟨Al,Cl,hvl⟩ := hl_lV.form
 rw [List.length_map] at hvl; subst hvl
 have hnl := hl_lV.len; rw [List.length_map] at hnl
 have hql := Sl.capLe hl_lV
 refine aj (args := [.slice Al l.length Cl,.func (.func 116) #[] #[gP g]]) (fn := Try.f139) [av (.slice Al l.length Cl) 2 (l.map a5),bZ g 141 [.string u.input,iI u.value]] Try.func139 rfl Try.ntmps139 rfl (by simp only [List.mem_cons,List.not_mem_nil,or_false,forall_eq_or_imp,forall_eq]; exact ⟨⟨rfl,hl_lV⟩,⟨rfl,hcell⟩⟩) ?_
 refine kQ <| cY [0,1] ⟨[(0,.v (.slice Al l.length Cl)),(1,.v (.func (.func 116) #[] #[gP g]))],[],[],[av (.slice Al l.length Cl) 2 (l.map a5),bZ g 141 [.string u.input,iI u.value]]⟩ <| kS <| kQ <| ac [0,1,7,8] [(7,aI ((l.length : Nat) : Int)),(8,aI 0)] ?_
 refine au <| aA (α := {x : Nat // (fun (k : Nat) => k ≤ l.length ∧ ∀ (i : Nat) (h' : Mrw),i < k → l[i]? = some h' → (h'.input.toList == u.input.toList) = false) x}) (fun x => (fun (k : Nat) => (⟨[(0,.v (.slice Al l.length Cl)),(1,.v (.func (.func 116) #[] #[gP g])),(7,aI ((l.length : Nat) : Int)),(8,aI (k : Int))],[],[],[av (.slice Al l.length Cl) 2 (l.map a5),bZ g 141 [.string u.input,iI u.value]]⟩ : St)) x.1) (fun x => l.length - x.1) ⟨(0),⟨Nat.zero_le _,fun i x hi => by omega⟩⟩ (kF 0 0 [0,1,7,8]) ?_
 rintro ⟨k,hk,HK⟩
 try dsimp only
 try dsimp only at hk HK
 refine kQ <| ac [0,1,7,8,9] [(9,aB (decide ((k : Int) < ((l.length : Nat) : Int))))] <| kS <| kC (decide ((k : Int) < ((l.length : Nat) : Int))) (fun h1 => ?_) (fun h1 => ?_)
 have h1p := of_decide_eq_true h1
 have hlt : k < l.length := by simpa using h1
 obtain ⟨x,hx⟩ : ∃ x,l[k]? = some x := ⟨_,List.getElem?_eq_getElem hlt⟩
 refine kK <| kS <| au <| kQ <| ac [0,1,5,7,8] [(5,aI (k : Int))] ?_
 refine kQ <| ba (kd := .i64) (T := 39) (e := 141) (K := 2) 3 [0,1,5,7,8,11,12,13] [(11,.v (.func (.func 116) #[] #[gP g])),(12,.v (.slice Al l.length Cl)),(13,aI (k : Int))] k [.string x.input,iI x.value] (av (.slice Al l.length Cl) 2 (l.map a5)) (by kernel_rfl) rfl (by kernel_rfl) rfl rfl (by kernel_rfl) (by kernel_rfl) (by kernel_rfl) (by kernel_rfl) hlt (by simp) (fun w h => h) (fun b h => h) (by simp only [List.getElem?_map,hx]; rfl) ?_
 refine xl_callC 1 [0,1,5,7,8,11,15] ⟨[(0,.v (.slice Al l.length Cl)),(1,.v (.func (.func 116) #[] #[gP g])),(5,aI (k : Int)),(7,aI ((l.length : Nat) : Int)),(8,aI (k : Int)),(11,.v (.func (.func 116) #[] #[gP g])),(15,.v (.agg (mrwL x).toArray))],[],[[.string x.input,iI x.value]],[av (.slice Al l.length Cl) 2 (l.map a5),bZ g 141 [.string u.input,iI u.value]]⟩ 116 [.agg (mrwL x).toArray,gP g] (some 16) (by kernel_rfl) rfl (by kernel_rfl) rfl (by kernel_rfl) (bw fun ww hf => yMacOk1_c x u g ww (hf (bZ g 141 [.string u.input,iI u.value]) (by simp))) ?_
 intro _
 refine ac [0,1,5,7,8,16] [] <| kC ((x.input.toList == u.input.toList)) (fun h2 => ?_) (fun h2 => ?_)
 have h2p := h2; simp only [beq_iff_eq,bne_iff_ne,beq_eq_false_iff_ne,bne_eq_false_iff_eq,ne_eq,aK] at h2p
 have hfd := mix_eq hx (by exact h2) HK
 refine kQ <| am [4] [(4,aI (k : Int))] <| kR ?_
 exact ⟨[iI (k : Int)],by kernel_rfl,fun w' hb hf => ⟨cG (by first | exact hfd.symm | exact hfn.symm),hb⟩⟩
 have h2p := h2; simp only [beq_iff_eq,bne_iff_ne,beq_eq_false_iff_ne,bne_eq_false_iff_eq,ne_eq,aK] at h2p
 have hq : (x.input.toList == u.input.toList) = false := by exact h2
 refine kK <| kG <| bB 2 [0,1,7,8] [(8,aI (K6.wrap ((k : Int) + 1)))] <| cz [0,1,7,8] [(8,aI (K6.wrap ((k : Int) + 1)))] [(8,aI ((k : Int) + 1))] (by rw [show (K6.wrap ((k : Int) + 1)) = ((k : Int) + 1) from aL (by omega) (by omega)]) (by kernel_rfl) ?_
 refine ac [0,1,7,8] [] ?_
 exact ⟨⟨(k + 1),⟨by omega,dk (p := fun y : Mrw => (y.input.toList == u.input.toList)) hx hq HK⟩⟩,kF 0 0 [0,1,7,8],by show l.length - (k + 1) < l.length - k; omega⟩
 have h1p := of_decide_eq_false h1
 have hge : k = l.length := by simp at h1; omega
 have hfn := mix_no hge HK
 refine bu <| kQ <| am [4] [(4,aI (-1))] <| kR ?_
 exact ⟨[iI (-1)],by kernel_rfl,fun w' hb hf => ⟨cG (by first | exact hfd.symm | exact hfn.symm),hb⟩⟩
theorem yContainsFMrw_c (l : List Mrw) (lV : Value) (u : Mrw) (g : Nat) (w : World) (hl_lV : Sl w lV 2 (l.map a5)) (hcell : (bZ g 141 [.string u.input, iI u.value]).p w) : Calls Try.prog 115 #[lV, .func (.func 116) #[] #[gP g]] w fun e w' => e = .returned (.bool (l.any (fun y => y.input.toList == u.input.toList))) ∧ Below w.heap.size w w' := by
 obtain ⟨Al,Cl,hvl⟩ := hl_lV.form
 rw [List.length_map] at hvl; subst hvl
 have hnl := hl_lV.len; rw [List.length_map] at hnl
 have hql := Sl.capLe hl_lV
 refine aj (args := [.slice Al l.length Cl,.func (.func 116) #[] #[gP g]]) (fn := Try.f115) [av (.slice Al l.length Cl) 2 (l.map a5),bZ g 141 [.string u.input,iI u.value]] Try.func115 rfl Try.ntmps115 rfl (by simp only [List.mem_cons,List.not_mem_nil,or_false,forall_eq_or_imp,forall_eq]; exact ⟨⟨rfl,hl_lV⟩,⟨rfl,hcell⟩⟩) ?_
 refine kQ <| cY [0,1] ⟨[(0,.v (.slice Al l.length Cl)),(1,.v (.func (.func 116) #[] #[gP g]))],[],[],[av (.slice Al l.length Cl) 2 (l.map a5),bZ g 141 [.string u.input,iI u.value]]⟩ <| kQ <| kCS 2 [5,6] [(5,.v (.slice Al l.length Cl)),(6,.v (.func (.func 116) #[] #[gP g]))] 139 [.slice Al l.length Cl,.func (.func 116) #[] #[gP g]] (some 7) rfl (bw fun ww hf => yIndexFMrw_c l (.slice Al l.length Cl) u g ww (hf _ m0) (hf (bZ g 141 [.string u.input,iI u.value]) (by simp))) ?_
 intro _
 refine am [4] [(4,aB (decide ((mix l u) ≥ 0)))] <| kR ?_
 exact ⟨[.bool (decide ((mix l u) ≥ 0))],by kernel_rfl,fun w' hb hf => ⟨a7 (mix_any l u),hb⟩⟩
theorem any_pre {l : List Mrw} {i : Nat} {x : Mrw} {b : Bool} (h : ((l.drop 0).take (i - 0)).any (fun y => y.input.toList == x.input.toList) = b) : (l.take i).any (fun y => y.input.toList == x.input.toList) = b := by
 rw [List.drop_zero,Nat.sub_zero] at h; exact h
theorem rowOk_any {l : List Mrw} {i : Nat} {x : Mrw} (h : ((l.drop 0).take (i - 0)).any (fun y => y.input.toList == x.input.toList) = true) : dp l i x = false := by
 unfold dp; rw [any_pre h]; simp
theorem cD {m : Mac} (hu : m.use = true) (h : ¬ (m.k = 0 ∧ m.l = 0 ∧ (m.rows.length : Int) ≤ 64)) : ad m = false := by
 unfold ad; rw [if_pos hu]
 by_cases h1 : m.k = 0
 · by_cases h2 : m.l = 0
   · rw [decide_eq_false (p := (m.rows.length : Int) ≤ 64) (fun h3 => h ⟨h1,h2,h3⟩)]; simp
   · simp [h2]
 · simp [h1]
theorem dz {m : Mac} (hu : m.use = true) (hall : allI (dp m.rows) m.rows 0 = true) (h1 : m.k = 0) (h2 : m.l = 0) (h3 : (m.rows.length : Int) ≤ 64) : ad m = true := by
 unfold ad; rw [if_pos hu,hall,decide_eq_true h3,h1,h2]; rfl
theorem yiMacOk_c (m : Mac) (m_rowsV : Value) (w : World) (hl_m_rowsV : Sl w m_rowsV 2 (m.rows.map a5))  : Calls Try.prog 87 #[.agg (aG m m_rowsV).toArray] w fun e w' => e = .returned (.bool (ad m)) ∧ Below w.heap.size w w' := by
 obtain ⟨Amr,Cmr,hvmr⟩ := hl_m_rowsV.form
 rw [List.length_map] at hvmr; subst hvmr
 have hnmr := hl_m_rowsV.len; rw [List.length_map] at hnmr
 have hqmr := Sl.capLe hl_m_rowsV
 refine aj (args := [.agg (aG m (.slice Amr m.rows.length Cmr)).toArray]) (fn := Try.f87) [av (.slice Amr m.rows.length Cmr) 2 (m.rows.map a5)] Try.func87 rfl Try.ntmps87 rfl (by simp only [List.mem_cons,List.not_mem_nil,or_false,forall_eq_or_imp,forall_eq]; exact ⟨rfl,hl_m_rowsV⟩) ?_
 refine kQ <| cY [1] ⟨[(1,.p 0 0)],[⟨41,aG m (.slice Amr m.rows.length Cmr)⟩],[],[av (.slice Amr m.rows.length Cmr) 2 (m.rows.map a5)]⟩ <| kS <| kQ <| ac [1,7] [(7,aB (!m.use))] ?_
 refine kC (!m.use) (fun h1 => ?_) (fun h1 => ?_)
 have h1n := aa h1
 have hu : m.use = false := h1n
 refine kQ <| am [2] [(2,aB (((m.rows.length : Nat) : Int) == 0))] <| kR ?_
 exact ⟨[.bool (((m.rows.length : Nat) : Int) == 0)],by kernel_rfl,fun w' hb hf => ⟨a7 (show (((m.rows.length : Nat) : Int) == 0 : Bool) = ad m from by first | exact hno.symm | (unfold ad; rw [if_neg (by rw [hu]; decide)]; first | rfl | (simp; done)) | exact (dz hu hall (by first | assumption | omega | (simp_all; done)) (by first | assumption | omega | (simp_all; done)) (by omega)).symm | exact (cD hu (by intro hq; obtain ⟨q1,q2,q3⟩ := hq; first | omega | (simp_all; done) | (simp_all; omega))).symm),hb⟩⟩
 have h1n := ak h1
 have hu : m.use = true := h1n
 refine kK <| kS <| kQ <| bB 4 [1,15] [(15,aB (m.k != 0))] ?_
 refine kP 15 (m.k != 0) (fun h2 => ?_) (fun h2 => ?_)
 have h2p := neT h2
 refine ac [1,25] [(25,aB true)] <| kT <| kQ <| am [2] [(2,aB false)] ?_
 refine kR ?_
 exact ⟨[.bool false],by kernel_rfl,fun w' hb hf => ⟨a7 (show (false : Bool) = ad m from by first | exact hno.symm | (unfold ad; rw [if_neg (by rw [hu]; decide)]; first | rfl | (simp; done)) | exact (dz hu hall (by first | assumption | omega | (simp_all; done)) (by first | assumption | omega | (simp_all; done)) (by omega)).symm | exact (cD hu (by intro hq; obtain ⟨q1,q2,q3⟩ := hq; first | omega | (simp_all; done) | (simp_all; omega))).symm),hb⟩⟩
 have h2p := neF h2
 refine bB 5 [1,20] [(20,aB (m.l != 0))] <| kP 20 (m.l != 0) (fun h3 => ?_) (fun h3 => ?_)
 have h3p := neT h3
 refine ac [1,25] [(25,aB true)] <| kT <| kQ <| am [2] [(2,aB false)] ?_
 refine kR ?_
 exact ⟨[.bool false],by kernel_rfl,fun w' hb hf => ⟨a7 (show (false : Bool) = ad m from by first | exact hno.symm | (unfold ad; rw [if_neg (by rw [hu]; decide)]; first | rfl | (simp; done)) | exact (dz hu hall (by first | assumption | omega | (simp_all; done)) (by first | assumption | omega | (simp_all; done)) (by omega)).symm | exact (cD hu (by intro hq; obtain ⟨q1,q2,q3⟩ := hq; first | omega | (simp_all; done) | (simp_all; omega))).symm),hb⟩⟩
 have h3p := neF h3
 refine ac [1,25] [(25,aB (decide (((m.rows.length : Nat) : Int) > 64)))] <| kC (decide (((m.rows.length : Nat) : Int) > 64)) (fun h4 => ?_) (fun h4 => ?_)
 have h4p := of_decide_eq_true h4
 refine kQ <| am [2] [(2,aB false)] <| kR ?_
 exact ⟨[.bool false],by kernel_rfl,fun w' hb hf => ⟨a7 (show (false : Bool) = ad m from by first | exact hno.symm | (unfold ad; rw [if_neg (by rw [hu]; decide)]; first | rfl | (simp; done)) | exact (dz hu hall (by first | assumption | omega | (simp_all; done)) (by first | assumption | omega | (simp_all; done)) (by omega)).symm | exact (cD hu (by intro hq; obtain ⟨q1,q2,q3⟩ := hq; first | omega | (simp_all; done) | (simp_all; omega))).symm),hb⟩⟩
 have h4p := of_decide_eq_false h4
 refine kK <| kS <| kQ <| ac [1,27,28,29] [(27,.v (.slice Amr m.rows.length Cmr)),(28,aI ((m.rows.length : Nat) : Int)),(29,aI 0)] ?_
 refine au <| aA (α := {x : Nat // (fun (i : Nat) => i ≤ m.rows.length ∧ ∀ (j : Nat) (x : Mrw),j < i → m.rows[j]? = some x → dp m.rows j x = true) x}) (fun x => (fun (i : Nat) => (⟨[(1,.p 0 0),(27,.v (.slice Amr m.rows.length Cmr)),(28,aI ((m.rows.length : Nat) : Int)),(29,aI (i : Int))],[⟨41,aG m (.slice Amr m.rows.length Cmr)⟩],[],[av (.slice Amr m.rows.length Cmr) 2 (m.rows.map a5)]⟩ : St)) x.1) (fun x => (fun (i : Nat) => m.rows.length - i) x.1) ⟨(0),⟨Nat.zero_le _,(fun j x hj => by omega)⟩⟩ (kF 1 0 [1,27,28,29]) ?_
 rintro ⟨i,hi,HK⟩
 try dsimp only
 try dsimp only at hi HK
 refine kQ <| ac [1,27,28,29,30] [(30,aB (decide ((i : Int) < ((m.rows.length : Nat) : Int))))] <| kS <| kC (decide ((i : Int) < ((m.rows.length : Nat) : Int))) (fun h5 => ?_) (fun h5 => ?_)
 have h5p := of_decide_eq_true h5
 have hlt : i < m.rows.length := by have := of_decide_eq_true h5; omega
 obtain ⟨xr,hx⟩ : ∃ x,m.rows[i]? = some x := ⟨_,List.getElem?_eq_getElem hlt⟩
 refine kK <| kS <| au <| kQ <| ba (kd := .i64) (T := 39) (e := 141) (K := 2) 1 [1,27,28,29,31] [(31,aI (i : Int))] i [.string xr.input,iI xr.value] (av (.slice Amr m.rows.length Cmr) 2 (m.rows.map a5)) (by kernel_rfl) rfl (by kernel_rfl) rfl rfl (by kernel_rfl) (by kernel_rfl) (by kernel_rfl) (by kernel_rfl) hlt (by simp) (fun w h => h) (fun b h => h) (by simp only [List.getElem?_map,hx]; rfl) ?_
 refine kEA [1,3,4,27,28,29] [(3,aI (i : Int)),(4,.p 1 0)] [⟨141,mrwL xr⟩] <| kS <| xw_pinB 4 141 [.string xr.input,iI xr.value] [⟨41,aG m (.slice Amr m.rows.length Cmr)⟩] rfl (by kernel_rfl) (by kernel_rfl) ?_
 intro g hg hgn
 refine kG <| kOF 0 [1,3,4,27,28,29] ⟨[(1,.p 0 0),(3,aI (i : Int)),(4,aP g),(27,.v (.slice Amr m.rows.length Cmr)),(28,aI ((m.rows.length : Nat) : Int)),(29,aI (i : Int))],[⟨41,aG m (.slice Amr m.rows.length Cmr)⟩],[],[cellF w.heap.size g 141 [.string xr.input,iI xr.value],av (.slice Amr m.rows.length Cmr) 2 (m.rows.map a5)]⟩ (.pointer (some ⟨g,1,none⟩)) rfl (fun _ _ _ ww hr => act_fld (sz := 1) (b := g) (m := 0) hr.1 rfl Try.underlying141 rfl (by kernel_rfl) rfl (by kernel_rfl) rfl) ?_
 refine kOD 0 [1,3,4,27,28,29,34] [] (iI xr.value) rfl (fun _ _ _ ww hr => ldP_run (off := 1) (B := w.heap.size) (g := g) (T := 141) (cs := [.string xr.input,iI xr.value]) hr rfl (by kernel_rfl) (by simp) (by kernel_rfl)) ?_
 refine ch 0 [1,3,4,27,28,29,35] [] 52 [iI xr.value,iI 0,iI 16777215] (some 36) rfl (cw fun ww hf => bk xr.value 0 16777215 ww ) ?_
 intro _
 refine bB 2 [1,3,4,27,28,29,38] [(38,aB (!(aX xr.value 0 16777215)))] <| kP 38 (!(aX xr.value 0 16777215)) (fun h6 => ?_) (fun h6 => ?_)
 have h6n := aa h6
 have h6ni := inB_ff.1 (show aX xr.value 0 16777215 = false from by simpa using h6n)
 have hno := macOk_row hu hx (rowOk_val (x := xr) (fun hq => by have hz := h6n; unfold aX at hz; simp only [Bool.and_eq_false_iff,decide_eq_false_iff_not] at hz; omega))
 refine ac [1,27,28,29,45] [(45,aB true)] <| kT <| kQ <| am [2] [(2,aB false)] ?_
 refine kR ?_
 exact ⟨[.bool false],by kernel_rfl,fun w' hb hf => ⟨a7 (show (false : Bool) = ad m from by first | exact hno.symm | (unfold ad; rw [if_neg (by rw [hu]; decide)]; first | rfl | (simp; done)) | exact (dz hu hall (by first | assumption | omega | (simp_all; done)) (by first | assumption | omega | (simp_all; done)) (by omega)).symm | exact (cD hu (by intro hq; obtain ⟨q1,q2,q3⟩ := hq; first | omega | (simp_all; done) | (simp_all; omega))).symm),hb⟩⟩
 have h6n := ak h6
 have h6ni := inB_tt.1 (show aX xr.value 0 16777215 = true from by simpa using h6n)
 have hvr : 0 ≤ xr.value ∧ xr.value ≤ 16777215 := by have hz := h6n; unfold aX at hz; simp only [Bool.and_eq_true,decide_eq_true_eq] at hz; omega
 refine kOD 3 [1,4,27,28,29,38,40,41] [(38,aB false),(40,.v (.slice Amr m.rows.length Cmr)),(41,aI (i : Int))] (.slice (if Cmr = 0 then Amr else Amr.map (·.add (0 * 2))) (i - 0) (Cmr - 0)) rfl (fun _ _ _ ww hr => act_slV0 (e := 141) i hr.1 rfl (by kernel_rfl) (by kernel_rfl) rfl rfl rfl (by omega) ww) ?_
 refine kOD 0 [1,4,27,28,29,38,42] [] (.func (.func 116) #[] #[gP g]) rfl (fun _ _ _ ww hr => act_mkf [gP g] hr.1 rfl (by kernel_rfl) ww) ?_
 refine ch 0 [1,27,28,29,38,42,43] [] 115 [.slice (if Cmr = 0 then Amr else Amr.map (·.add (0 * 2))) (i - 0) (Cmr - 0),.func (.func 116) #[] #[gP g]] (some 44) rfl (bw fun ww hf => yContainsFMrw_c ((m.rows.drop 0).take (i - 0)) (.slice (if Cmr = 0 then Amr else Amr.map (·.add (0 * 2))) (i - 0) (Cmr - 0)) xr g ww (Sl.partM (hf _ m1) 0 i (by omega) (by omega)) (hf (cellF w.heap.size g 141 [.string xr.input,iI xr.value]) (by simp)).2) ?_
 intro _
 refine ac [1,27,28,29,45] [(45,aB (((m.rows.drop 0).take (i - 0)).any (fun y => y.input.toList == xr.input.toList)))] <| kC ((((m.rows.drop 0).take (i - 0)).any (fun y => y.input.toList == xr.input.toList))) (fun h7 => ?_) (fun h7 => ?_)
 have hno := macOk_row hu hx (rowOk_any h7)
 refine kQ <| am [2] [(2,aB false)] <| kR ?_
 exact ⟨[.bool false],by kernel_rfl,fun w' hb hf => ⟨a7 (show (false : Bool) = ad m from by first | exact hno.symm | (unfold ad; rw [if_neg (by rw [hu]; decide)]; first | rfl | (simp; done)) | exact (dz hu hall (by first | assumption | omega | (simp_all; done)) (by first | assumption | omega | (simp_all; done)) (by omega)).symm | exact (cD hu (by intro hq; obtain ⟨q1,q2,q3⟩ := hq; first | omega | (simp_all; done) | (simp_all; omega))).symm),hb⟩⟩
 have hro := rowOk_yes hvr (any_pre h7)
 refine kK <| kG <| bB 2 [1,27,28,29] [(29,aI (K6.wrap ((i : Int) + 1)))] <| cz [1,27,28,29] [(29,aI (K6.wrap ((i : Int) + 1)))] [(29,aI ((i : Int) + 1))] (by rw [show (K6.wrap ((i : Int) + 1)) = ((i : Int) + 1) from aL (by omega) (by omega)]) (by kernel_rfl) ?_
 refine ac [1,27,28,29] [] ?_
 exact ⟨⟨(i + 1),⟨hlt,df (p := dp m.rows) hx hro HK⟩⟩,kPk [1] <| kF 1 0 [1,27,28,29],by show (fun (i : Nat) => m.rows.length - i) (i + 1) < m.rows.length - i; (dsimp only; omega)⟩
 have h5p := of_decide_eq_false h5
 have hge : i = m.rows.length := by have := of_decide_eq_false h5; omega
 have hall := allI_all hge HK
 refine bu <| kQ <| am [2] [(2,aB true)] <| kR ?_
 exact ⟨[.bool true],by kernel_rfl,fun w' hb hf => ⟨a7 (show (true : Bool) = ad m from by first | exact hno.symm | (unfold ad; rw [if_neg (by rw [hu]; decide)]; first | rfl | (simp; done)) | exact (dz hu hall (by first | assumption | omega | (simp_all; done)) (by first | assumption | omega | (simp_all; done)) (by omega)).symm | exact (cD hu (by intro hq; obtain ⟨q1,q2,q3⟩ := hq; first | omega | (simp_all; done) | (simp_all; omega))).symm),hb⟩⟩
def ae (k : Kys) : Bool := ar k.epoch 32 && (ad k.now && (ad k.before && (if k.two then decide (k.epoch ≥ 1) else ai k.before ⟨false, 0, 0, []⟩)))
theorem word32 (n : Int) : ar n 32 = aX n 0 4294967295 := by
 unfold ar
 rw [show aX 32 1 62 = true from rfl,Bool.true_and]
 rfl
theorem ao (k : Kys) : ae k = (aX k.epoch (if k.two then 1 else 0) 4294967295 && (ad k.now && (ad k.before && (k.two || ai k.before ⟨false, 0, 0, []⟩)))) := by
 unfold ae
 rw [word32]
 cases h : k.two with
 | false => simp
 | true =>
   simp only [if_pos,Bool.true_or,Bool.and_true]
   unfold aX
   by_cases h1 : 1 ≤ k.epoch
   · rw [decide_eq_true (p := k.epoch ≥ 1) h1,decide_eq_true (p := 0 ≤ k.epoch) (by omega)]; simp
   · rw [decide_eq_false (p := k.epoch ≥ 1) h1]; simp
theorem ysKeysOk_c (k : Kys) (k_now_rowsV : Value) (k_before_rowsV : Value) (w : World) (hl_k_now_rowsV : Sl w k_now_rowsV 2 (k.now.rows.map a5)) (hl_k_before_rowsV : Sl w k_before_rowsV 2 (k.before.rows.map a5))  : Calls Try.prog 43 #[.agg (cn k k_now_rowsV k_before_rowsV).toArray] w fun e w' => e = .returned (.bool (ae k)) ∧ Below w.heap.size w w' := by
 obtain ⟨Aknr,Cknr,hvknr⟩ := hl_k_now_rowsV.form
 rw [List.length_map] at hvknr; subst hvknr
 have hnknr := hl_k_now_rowsV.len; rw [List.length_map] at hnknr
 have hqknr := Sl.capLe hl_k_now_rowsV
 obtain ⟨Akbr,Ckbr,hvkbr⟩ := hl_k_before_rowsV.form
 rw [List.length_map] at hvkbr; subst hvkbr
 have hnkbr := hl_k_before_rowsV.len; rw [List.length_map] at hnkbr
 have hqkbr := Sl.capLe hl_k_before_rowsV
 refine aj (args := [.agg (cn k (.slice Aknr k.now.rows.length Cknr) (.slice Akbr k.before.rows.length Ckbr)).toArray]) (fn := Try.f43) [av (.slice Aknr k.now.rows.length Cknr) 2 (k.now.rows.map a5),av (.slice Akbr k.before.rows.length Ckbr) 2 (k.before.rows.map a5)] Try.func43 rfl Try.ntmps43 rfl (by simp only [List.mem_cons,List.not_mem_nil,or_false,forall_eq_or_imp,forall_eq]; exact ⟨⟨rfl,hl_k_now_rowsV⟩,⟨rfl,hl_k_before_rowsV⟩⟩) ?_
 refine kQ <| cY [1] ⟨[(1,.p 0 0)],[⟨43,cn k (.slice Aknr k.now.rows.length Cknr) (.slice Akbr k.before.rows.length Ckbr)⟩],[],[av (.slice Aknr k.now.rows.length Cknr) 2 (k.now.rows.map a5),av (.slice Akbr k.before.rows.length Ckbr) 2 (k.before.rows.map a5)]⟩ <| kS <| kQ <| ch 2 [1,4] [(4,aI k.epoch)] 42 [iI k.epoch,iI 32] (some 5) rfl (cw fun ww hf => cm k.epoch ww) ?_
 intro _
 refine bB 2 [1,7] [(7,aB (!(ar k.epoch 32)))] <| kP 7 (!(ar k.epoch 32)) (fun h1 => ?_) (fun h1 => ?_)
 have h1n := aa h1
 refine ac [1,18] [(18,aB true)] <| kT <| kQ <| am [2] [(2,aB false)] ?_
 refine kR ?_
 exact ⟨[.bool false],by kernel_rfl,fun w' hb hf => ⟨a7 (show (false : Bool) = ae k from by first | rfl | (unfold ae; simp [*]; done) | (rw [ao]; simp [*]; done) | (unfold ae; simp_all; done) | (rw [ao]; simp_all; done)),hb⟩⟩
 have h1n := ak h1
 refine ch 2 [1,7,9] [(7,aB false),(9,.v (.agg (aG k.now (.slice Aknr k.now.rows.length Cknr)).toArray))] 80 [.agg (aG k.now (.slice Aknr k.now.rows.length Cknr)).toArray] (some 10) rfl (bw fun ww hf => ysMacOk_c k.now (.slice Aknr k.now.rows.length Cknr) ww (hf _ m0) ) ?_
 intro _
 refine bB 3 [1,13] [(13,aB (!(ad k.now)))] <| kP 13 (!(ad k.now)) (fun h2 => ?_) (fun h2 => ?_)
 have h2n := aa h2
 refine ac [1,18] [(18,aB true)] <| kT <| kQ <| am [2] [(2,aB false)] ?_
 refine kR ?_
 exact ⟨[.bool false],by kernel_rfl,fun w' hb hf => ⟨a7 (show (false : Bool) = ae k from by first | rfl | (unfold ae; simp [*]; done) | (rw [ao]; simp [*]; done) | (unfold ae; simp_all; done) | (rw [ao]; simp_all; done)),hb⟩⟩
 have h2n := ak h2
 refine ch 2 [1,13,15] [(13,aB false),(15,.v (.agg (aG k.before (.slice Akbr k.before.rows.length Ckbr)).toArray))] 80 [.agg (aG k.before (.slice Akbr k.before.rows.length Ckbr)).toArray] (some 16) rfl (bw fun ww hf => ysMacOk_c k.before (.slice Akbr k.before.rows.length Ckbr) ww (hf _ m1) ) ?_
 intro _
 refine ac [1,18] [(18,aB (!(ad k.before)))] <| kC (!(ad k.before)) (fun h3 => ?_) (fun h3 => ?_)
 have h3n := aa h3
 refine kQ <| am [2] [(2,aB false)] <| kR ?_
 exact ⟨[.bool false],by kernel_rfl,fun w' hb hf => ⟨a7 (show (false : Bool) = ae k from by first | rfl | (unfold ae; simp [*]; done) | (rw [ao]; simp [*]; done) | (unfold ae; simp_all; done) | (rw [ao]; simp_all; done)),hb⟩⟩
 have h3n := ak h3
 refine kK <| kS <| kQ <| ac [1,20] [(20,aB k.two)] ?_
 refine kC (k.two) (fun h4 => ?_) (fun h4 => ?_)
 refine kQ <| am [2] [(2,aB (decide (k.epoch ≥ 1)))] <| kR ?_
 exact ⟨[.bool (decide (k.epoch ≥ 1))],by kernel_rfl,fun w' hb hf => ⟨a7 (show (decide (k.epoch ≥ 1) : Bool) = ae k from by first | rfl | (unfold ae; simp [*]; done) | (rw [ao]; simp [*]; done) | (unfold ae; simp_all; done) | (rw [ao]; simp_all; done)),hb⟩⟩
 refine kK <| kQ <| kOS 2 [25] [(25,.v (.agg (aG k.before (.slice Akbr k.before.rows.length Ckbr)).toArray))] (.agg #[.bool false,.int .u64 0,.int .u64 0,.slice none 0 0]) rfl (fun _ _ _ ww hr => act_build [] hr.1 rfl (by kernel_rfl) (by kernel_rfl) ww) ?_
 refine ch 0 [25,26] [] 59 [.agg (aG k.before (.slice Akbr k.before.rows.length Ckbr)).toArray,.agg #[.bool false,.int .u64 0,.int .u64 0,.slice none 0 0]] (some 27) rfl (bw fun ww hf => ysSameMac_c k.before (.slice Akbr k.before.rows.length Ckbr) (⟨false,0,0,([] : List Mrw)⟩) (.slice none 0 0) ww (hf _ m1) (Sl.nil _ _) ) ?_
 intro _
 refine am [2] [(2,aB (ai k.before (⟨false,0,0,([] : List Mrw)⟩)))] <| kR ?_
 exact ⟨[.bool (ai k.before (⟨false,0,0,([] : List Mrw)⟩))],by kernel_rfl,fun w' hb hf => ⟨a7 (show (ai k.before (⟨false,0,0,([] : List Mrw)⟩) : Bool) = ae k from by first | rfl | (unfold ae; simp [*]; done) | (rw [ao]; simp [*]; done) | (unfold ae; simp_all; done) | (rw [ao]; simp_all; done)),hb⟩⟩
theorem yiKeysOk_c (k : Kys) (k_now_rowsV : Value) (k_before_rowsV : Value) (w : World) (hl_k_now_rowsV : Sl w k_now_rowsV 2 (k.now.rows.map a5)) (hl_k_before_rowsV : Sl w k_before_rowsV 2 (k.before.rows.map a5))  : Calls Try.prog 49 #[.agg (cn k k_now_rowsV k_before_rowsV).toArray] w fun e w' => e = .returned (.bool (ae k)) ∧ Below w.heap.size w w' := by
 obtain ⟨Aknr,Cknr,hvknr⟩ := hl_k_now_rowsV.form
 rw [List.length_map] at hvknr; subst hvknr
 have hnknr := hl_k_now_rowsV.len; rw [List.length_map] at hnknr
 have hqknr := Sl.capLe hl_k_now_rowsV
 obtain ⟨Akbr,Ckbr,hvkbr⟩ := hl_k_before_rowsV.form
 rw [List.length_map] at hvkbr; subst hvkbr
 have hnkbr := hl_k_before_rowsV.len; rw [List.length_map] at hnkbr
 have hqkbr := Sl.capLe hl_k_before_rowsV
 refine aj (args := [.agg (cn k (.slice Aknr k.now.rows.length Cknr) (.slice Akbr k.before.rows.length Ckbr)).toArray]) (fn := Try.f49) [av (.slice Aknr k.now.rows.length Cknr) 2 (k.now.rows.map a5),av (.slice Akbr k.before.rows.length Ckbr) 2 (k.before.rows.map a5)] Try.func49 rfl Try.ntmps49 rfl (by simp only [List.mem_cons,List.not_mem_nil,or_false,forall_eq_or_imp,forall_eq]; exact ⟨⟨rfl,hl_k_now_rowsV⟩,⟨rfl,hl_k_before_rowsV⟩⟩) ?_
 refine kQ <| cY [1] ⟨[(1,.p 0 0)],[⟨43,cn k (.slice Aknr k.now.rows.length Cknr) (.slice Akbr k.before.rows.length Ckbr)⟩],[],[av (.slice Aknr k.now.rows.length Cknr) 2 (k.now.rows.map a5),av (.slice Akbr k.before.rows.length Ckbr) 2 (k.before.rows.map a5)]⟩ <| kQ <| ac [1,3] [(3,aI 0)] ?_
 refine kS <| kQ <| ac [1,3,5] [(5,aB k.two)] <| kC (k.two) (fun h1 => ?_) (fun h1 => ?_)
 refine kG <| ac [1,3] [(3,aI 1)] <| kQ <| ch 3 [1,7,8] [(7,aI k.epoch),(8,aI 1)] 52 [iI k.epoch,iI 1,iI 4294967295] (some 9) rfl (cw fun ww hf => bk k.epoch 1 4294967295 ww ) ?_
 intro _
 refine bB 1 [1,10] [(10,aB (aX k.epoch 1 4294967295))] <| kP 10 (aX k.epoch 1 4294967295) (fun h2 => ?_) (fun h2 => ?_)
 have h2i := inB_tt.1 (show aX k.epoch 1 4294967295 = true from by simpa using h2)
 refine ch 2 [1,10,12] [(10,aB true),(12,.v (.agg (aG k.now (.slice Aknr k.now.rows.length Cknr)).toArray))] 87 [.agg (aG k.now (.slice Aknr k.now.rows.length Cknr)).toArray] (some 13) rfl (bw fun ww hf => yiMacOk_c k.now (.slice Aknr k.now.rows.length Cknr) ww (hf _ m0) ) ?_
 intro _
 refine bB 2 [1,15] [(15,aB (ad k.now))] <| kP 15 (ad k.now) (fun h3 => ?_) (fun h3 => ?_)
 refine ch 2 [1,15,17] [(15,aB true),(17,.v (.agg (aG k.before (.slice Akbr k.before.rows.length Ckbr)).toArray))] 87 [.agg (aG k.before (.slice Akbr k.before.rows.length Ckbr)).toArray] (some 18) rfl (bw fun ww hf => yiMacOk_c k.before (.slice Akbr k.before.rows.length Ckbr) ww (hf _ m1) ) ?_
 intro _
 refine bB 2 [1,20] [(20,aB (ad k.before))] <| kP 20 (ad k.before) (fun h4 => ?_) (fun h4 => ?_)
 refine bB 3 [1,20,23] [(20,aB true),(23,aB k.two)] <| kP 23 (k.two) (fun h5 => ?_) (fun h5 => ?_)
 refine am [2] [(2,aB true)] <| kR ?_
 exact ⟨[.bool true],by kernel_rfl,fun w' hb hf => ⟨a7 (show (true : Bool) = ae k from by first | rfl | (unfold ae; simp [*]; done) | (rw [ao]; simp [*]; done) | (unfold ae; simp_all; done) | (rw [ao]; simp_all; done)),hb⟩⟩
 refine kOS 2 [20,23,25] [(20,aB true),(23,aB false),(25,.v (.agg (aG k.before (.slice Akbr k.before.rows.length Ckbr)).toArray))] (.agg #[.bool false,.int .u64 0,.int .u64 0,.slice none 0 0]) rfl (fun _ _ _ ww hr => act_build [] hr.1 rfl (by kernel_rfl) (by kernel_rfl) ww) ?_
 refine ch 0 [20,23,25,26] [] 65 [.agg (aG k.before (.slice Akbr k.before.rows.length Ckbr)).toArray,.agg #[.bool false,.int .u64 0,.int .u64 0,.slice none 0 0]] (some 27) rfl (bw fun ww hf => yiSameMac_c k.before (.slice Akbr k.before.rows.length Ckbr) (⟨false,0,0,([] : List Mrw)⟩) (.slice none 0 0) ww (hf _ m1) (Sl.nil _ _) ) ?_
 intro _
 refine am [2] [(2,aB (ai k.before (⟨false,0,0,([] : List Mrw)⟩)))] <| kR ?_
 exact ⟨[.bool (ai k.before (⟨false,0,0,([] : List Mrw)⟩))],by kernel_rfl,fun w' hb hf => ⟨a7 (show (ai k.before (⟨false,0,0,([] : List Mrw)⟩) : Bool) = ae k from by first | rfl | (unfold ae; simp [*]; done) | (rw [ao]; simp [*]; done) | (unfold ae; simp_all; done) | (rw [ao]; simp_all; done)),hb⟩⟩
 refine am [2] [(2,aB false)] <| kR ?_
 exact ⟨[.bool false],by kernel_rfl,fun w' hb hf => ⟨a7 (show (false : Bool) = ae k from by first | rfl | (unfold ae; simp [*]; done) | (rw [ao]; simp [*]; done) | (unfold ae; simp_all; done) | (rw [ao]; simp_all; done)),hb⟩⟩
 refine am [2] [(2,aB false)] <| kR ?_
 exact ⟨[.bool false],by kernel_rfl,fun w' hb hf => ⟨a7 (show (false : Bool) = ae k from by first | rfl | (unfold ae; simp [*]; done) | (rw [ao]; simp [*]; done) | (unfold ae; simp_all; done) | (rw [ao]; simp_all; done)),hb⟩⟩
 have h2i := inB_ff.1 (show aX k.epoch 1 4294967295 = false from by simpa using h2)
 refine am [2] [(2,aB false)] <| kR ?_
 exact ⟨[.bool false],by kernel_rfl,fun w' hb hf => ⟨a7 (show (false : Bool) = ae k from by first | rfl | (unfold ae; simp [*]; done) | (rw [ao]; simp [*]; done) | (unfold ae; simp_all; done) | (rw [ao]; simp_all; done)),hb⟩⟩
 refine kK <| kQ <| ch 3 [1,7,8] [(7,aI k.epoch),(8,aI 0)] 52 [iI k.epoch,iI 0,iI 4294967295] (some 9) rfl (cw fun ww hf => bk k.epoch 0 4294967295 ww ) ?_
 intro _
 refine bB 1 [1,10] [(10,aB (aX k.epoch 0 4294967295))] <| kP 10 (aX k.epoch 0 4294967295) (fun h6 => ?_) (fun h6 => ?_)
 have h6i := inB_tt.1 (show aX k.epoch 0 4294967295 = true from by simpa using h6)
 refine ch 2 [1,10,12] [(10,aB true),(12,.v (.agg (aG k.now (.slice Aknr k.now.rows.length Cknr)).toArray))] 87 [.agg (aG k.now (.slice Aknr k.now.rows.length Cknr)).toArray] (some 13) rfl (bw fun ww hf => yiMacOk_c k.now (.slice Aknr k.now.rows.length Cknr) ww (hf _ m0) ) ?_
 intro _
 refine bB 2 [1,15] [(15,aB (ad k.now))] <| kP 15 (ad k.now) (fun h7 => ?_) (fun h7 => ?_)
 refine ch 2 [1,15,17] [(15,aB true),(17,.v (.agg (aG k.before (.slice Akbr k.before.rows.length Ckbr)).toArray))] 87 [.agg (aG k.before (.slice Akbr k.before.rows.length Ckbr)).toArray] (some 18) rfl (bw fun ww hf => yiMacOk_c k.before (.slice Akbr k.before.rows.length Ckbr) ww (hf _ m1) ) ?_
 intro _
 refine bB 2 [1,20] [(20,aB (ad k.before))] <| kP 20 (ad k.before) (fun h8 => ?_) (fun h8 => ?_)
 refine bB 3 [1,20,23] [(20,aB true),(23,aB k.two)] <| kP 23 (k.two) (fun h9 => ?_) (fun h9 => ?_)
 refine am [2] [(2,aB true)] <| kR ?_
 exact ⟨[.bool true],by kernel_rfl,fun w' hb hf => ⟨a7 (show (true : Bool) = ae k from by first | rfl | (unfold ae; simp [*]; done) | (rw [ao]; simp [*]; done) | (unfold ae; simp_all; done) | (rw [ao]; simp_all; done)),hb⟩⟩
 refine kOD 2 [20,23,25] [(23,aB false),(25,.v (.agg (aG k.before (.slice Akbr k.before.rows.length Ckbr)).toArray))] (.agg #[.bool false,.int .u64 0,.int .u64 0,.slice none 0 0]) rfl (fun _ _ _ ww hr => act_build [] hr.1 rfl (by kernel_rfl) (by kernel_rfl) ww) ?_
 refine kCS 0 [20,23,25,26] [(20,aB true),(23,aB false),(25,.v (.agg (aG k.before (.slice Akbr k.before.rows.length Ckbr)).toArray)),(26,.v (.agg #[.bool false,.int .u64 0,.int .u64 0,.slice none 0 0]))] 65 [.agg (aG k.before (.slice Akbr k.before.rows.length Ckbr)).toArray,.agg #[.bool false,.int .u64 0,.int .u64 0,.slice none 0 0]] (some 27) rfl (bw fun ww hf => yiSameMac_c k.before (.slice Akbr k.before.rows.length Ckbr) (⟨false,0,0,([] : List Mrw)⟩) (.slice none 0 0) ww (hf _ m1) (Sl.nil _ _) ) ?_
 intro _
 refine am [2] [(2,aB (ai k.before (⟨false,0,0,([] : List Mrw)⟩)))] <| kR ?_
 exact ⟨[.bool (ai k.before (⟨false,0,0,([] : List Mrw)⟩))],by kernel_rfl,fun w' hb hf => ⟨a7 (show (ai k.before (⟨false,0,0,([] : List Mrw)⟩) : Bool) = ae k from by first | rfl | (unfold ae; simp [*]; done) | (rw [ao]; simp [*]; done) | (unfold ae; simp_all; done) | (rw [ao]; simp_all; done)),hb⟩⟩
 refine am [2] [(2,aB false)] <| kR ?_
 exact ⟨[.bool false],by kernel_rfl,fun w' hb hf => ⟨a7 (show (false : Bool) = ae k from by first | rfl | (unfold ae; simp [*]; done) | (rw [ao]; simp [*]; done) | (unfold ae; simp_all; done) | (rw [ao]; simp_all; done)),hb⟩⟩
 refine am [2] [(2,aB false)] <| kR ?_
 exact ⟨[.bool false],by kernel_rfl,fun w' hb hf => ⟨a7 (show (false : Bool) = ae k from by first | rfl | (unfold ae; simp [*]; done) | (rw [ao]; simp [*]; done) | (unfold ae; simp_all; done) | (rw [ao]; simp_all; done)),hb⟩⟩
 have h6i := inB_ff.1 (show aX k.epoch 0 4294967295 = false from by simpa using h6)
 refine am [2] [(2,aB false)] <| kR ?_
 exact ⟨[.bool false],by kernel_rfl,fun w' hb hf => ⟨a7 (show (false : Bool) = ae k from by first | rfl | (unfold ae; simp [*]; done) | (rw [ao]; simp [*]; done) | (unfold ae; simp_all; done) | (rw [ao]; simp_all; done)),hb⟩⟩
theorem hOne_dup {l : List Hlf} {k : Nat} {x : Hlf} (h : ¬ b8 l x.t = (k : Int)) : bv l k x = false := by
 unfold bv; rw [decide_eq_false h]; simp
theorem ysHalvesOk_c (l : List Hlf) (lV : Value) (w : World) (hl_lV : Sl w lV 13 (l.map a9))  : Calls Try.prog 45 #[lV] w fun e w' => e = .returned (.bool (aM l)) ∧ Below w.heap.size w w' := by
 obtain ⟨Al,Cl,hvl⟩ := hl_lV.form
 rw [List.length_map] at hvl; subst hvl
 have hnl := hl_lV.len; rw [List.length_map] at hnl
 have hql := Sl.capLe hl_lV
 refine aj (args := [.slice Al l.length Cl]) (fn := Try.f45) [av (.slice Al l.length Cl) 13 (l.map a9)] Try.func45 rfl Try.ntmps45 rfl (by simp only [List.mem_cons,List.not_mem_nil,or_false,forall_eq_or_imp,forall_eq]; exact ⟨rfl,hl_lV⟩) ?_
 refine kQ <| cY [0] ⟨[(0,.v (.slice Al l.length Cl))],[],[],[av (.slice Al l.length Cl) 13 (l.map a9)]⟩ <| kS <| kQ <| ac [0,3] [(3,aI 0)] ?_
 refine au <| aA (α := {x : Nat // (fun (k : Nat) => k ≤ l.length ∧ ∀ (i : Nat) (x : Hlf),i < k → l[i]? = some x → bv l i x = true) x}) (fun x => (fun (k : Nat) => (⟨[(0,.v (.slice Al l.length Cl)),(3,aI (k : Int))],[],[],[av (.slice Al l.length Cl) 13 (l.map a9)]⟩ : St)) x.1) (fun x => l.length - x.1) ⟨(0),⟨Nat.zero_le _,fun i x hi => by omega⟩⟩ (kF 0 0 [0,3]) ?_
 rintro ⟨k,hk,HK⟩
 try dsimp only
 try dsimp only at hk HK
 refine kS <| kQ <| ac [0,3,8] [(8,aB (decide ((k : Int) < ((l.length : Nat) : Int))))] <| kC (decide ((k : Int) < ((l.length : Nat) : Int))) (fun h1 => ?_) (fun h1 => ?_)
 have h1p := of_decide_eq_true h1
 have hlt : k < l.length := by simpa using h1
 obtain ⟨x,hx⟩ : ∃ x,l[k]? = some x := ⟨_,List.getElem?_eq_getElem hlt⟩
 have hft := findHalf_pre hx
 have hno := fun h => halvesOk_no hx h
 refine kK <| kS <| au <| kQ <| ba (kd := .i64) (T := 45) (e := 94) (K := 13) 2 [0,3,11,12] [(11,.v (.slice Al l.length Cl)),(12,aI (k : Int))] k [iI x.t.ip,iI x.t.port,iI x.t.my,iI x.iss,iI x.irs,iI x.o.mss,iI x.o.scale,.bool x.o.sack,.bool x.o.stamp,iI x.o.val,iI x.o.echo,iI x.age,iI x.window] (av (.slice Al l.length Cl) 13 (l.map a9)) (by kernel_rfl) rfl (by kernel_rfl) rfl rfl (by kernel_rfl) (by kernel_rfl) (by kernel_rfl) (by kernel_rfl) hlt (by simp) (fun w h => h) (fun b h => h) (by simp only [List.getElem?_map,hx]; rfl) ?_
 refine kEA [0,3,4] [(4,.p 0 0)] [⟨94,hlfL x⟩] <| kS <| xe_region [] (by kernel_rfl) (fun ρ σ => ?_)
 refine dm [0,1] [16,0,3,4] 41 [(16,.v (.agg (bX x.t).toArray))] <| kA [2] <| kSC 2 84 [.agg (bX x.t).toArray] (some 17) rfl (bw fun ww hf => sTupleOk_c x.t.ip x.t.port x.t.my ww ) ?_
 intro _
 refine dm [3,4] [19,0,3,4] 38 [(19,aB (!(bj x.t)))] <| kY 19 (!(bj x.t)) (fun h2 => ?_) (fun h2 => ?_)
 have h2n := aa h2
 refine dm [5,6,7,8,9,10,11,12,13,14,15,16,17,18,19,20,21,22,23,24,25,26,27,28,29,30,31,32,33,34,35,36,37,38,39,40,41,42] [57,0,3] 0 [(57,aB true)] <| kZ <| kT <| kQ <| am [2] [(2,aB false)] ?_
 refine kR ?_
 exact ⟨[.bool false],by kernel_rfl,fun w' hb hf => ⟨a7 (show (false : Bool) = aM l from by first | exact hno2.symm | exact (hno (by unfold bv; simp [*]; done)).symm | exact (hno (by simp only [bv]; clear HK hno; simp_all; done)).symm | (exact (hno (by simp only [bv]; clear HK hno; simp_all)).symm) | (exact hall.symm) | (rw [hall]; symm; simp; omega) | (exact (aZ (by omega)).symm)),hb⟩⟩
 have h2n := ak h2
 refine dm [5,6] [21,19,0,3,4] 36 [(21,aI x.iss),(19,aB false)] <| kA [7] <| kSC 7 42 [iI x.iss,iI 32] (some 22) rfl (cw fun ww hf => cm x.iss ww) ?_
 intro _
 refine dm [8,9,10] [25,0,3,4] 32 [(25,aB (!(ar x.iss 32)))] <| kY 25 (!(ar x.iss 32)) (fun h3 => ?_) (fun h3 => ?_)
 have h3n := aa h3
 refine dm [11,12,13,14,15,16,17,18,19,20,21,22,23,24,25,26,27,28,29,30,31,32,33,34,35,36,37,38,39,40,41,42] [57,0,3] 0 [(57,aB true)] <| kZ <| kT <| kQ <| am [2] [(2,aB false)] ?_
 refine kR ?_
 exact ⟨[.bool false],by kernel_rfl,fun w' hb hf => ⟨a7 (show (false : Bool) = aM l from by first | exact hno2.symm | exact (hno (by unfold bv; simp [*]; done)).symm | exact (hno (by simp only [bv]; clear HK hno; simp_all; done)).symm | (exact (hno (by simp only [bv]; clear HK hno; simp_all)).symm) | (exact hall.symm) | (rw [hall]; symm; simp; omega) | (exact (aZ (by omega)).symm)),hb⟩⟩
 have h3n := ak h3
 refine dm [11,12] [27,25,0,3,4] 30 [(27,aI x.irs),(25,aB false)] <| kA [13] <| kSC 13 42 [iI x.irs,iI 32] (some 28) rfl (cw fun ww hf => cm x.irs ww) ?_
 intro _
 refine dm [14,15,16] [31,0,3,4] 26 [(31,aB (!(ar x.irs 32)))] <| kY 31 (!(ar x.irs 32)) (fun h4 => ?_) (fun h4 => ?_)
 have h4n := aa h4
 refine kTS [17,18,19,20,21,22,23,24,25,26,27,28,29,30,31,32,33,34,35,36,37,38,39,40,41,42] [57,0,3] 0 [(57,aB true),(0,.v (.slice Al l.length Cl)),(3,aI (k : Int))] <| kZ <| kT <| kQ <| am [2] [(2,aB false)] ?_
 refine kR ?_
 exact ⟨[.bool false],by kernel_rfl,fun w' hb hf => ⟨a7 (show (false : Bool) = aM l from by first | exact hno2.symm | exact (hno (by unfold bv; simp [*]; done)).symm | exact (hno (by simp only [bv]; clear HK hno; simp_all; done)).symm | (exact (hno (by simp only [bv]; clear HK hno; simp_all)).symm) | (exact hall.symm) | (rw [hall]; symm; simp; omega) | (exact (aZ (by omega)).symm)),hb⟩⟩
 have h4n := ak h4
 refine kTS [17,18] [33,31,0,3,4] 24 [(33,aI x.window),(31,aB false),(0,.v (.slice Al l.length Cl)),(3,aI (k : Int)),(4,.p 0 0)] <| kA [19] <| kSC 19 42 [iI x.window,iI 16] (some 34) rfl (cw fun ww hf => dw x.window ww) ?_
 intro _
 refine dm [20,21,22] [37,0,3,4] 20 [(37,aB (!(ar x.window 16)))] <| kY 37 (!(ar x.window 16)) (fun h5 => ?_) (fun h5 => ?_)
 have h5n := aa h5
 refine dm [23,24,25,26,27,28,29,30,31,32,33,34,35,36,37,38,39,40,41,42] [57,0,3] 0 [(57,aB true)] <| kZ <| kT <| kQ <| am [2] [(2,aB false)] ?_
 refine kR ?_
 exact ⟨[.bool false],by kernel_rfl,fun w' hb hf => ⟨a7 (show (false : Bool) = aM l from by first | exact hno2.symm | exact (hno (by unfold bv; simp [*]; done)).symm | exact (hno (by simp only [bv]; clear HK hno; simp_all; done)).symm | (exact (hno (by simp only [bv]; clear HK hno; simp_all)).symm) | (exact hall.symm) | (rw [hall]; symm; simp; omega) | (exact (aZ (by omega)).symm)),hb⟩⟩
 have h5n := ak h5
 have h5nw := dj (by simpa using h5n)
 obtain ⟨h5nw0,h5nw1⟩ := h5nw
 refine dm [23,24] [39,37,0,3,4] 18 [(39,.v (.agg (optL x.o).toArray)),(37,aB false)] <| kA [25] <| kSC 25 85 [.agg (optL x.o).toArray] (some 40) rfl (bw fun ww hf => sOptionsOk_c x.o.mss x.o.scale x.o.sack x.o.stamp x.o.val x.o.echo ww ) ?_
 intro _
 refine dm [26,27,28] [43,0,3,4] 14 [(43,aB (!(aQ x.o)))] <| kY 43 (!(aQ x.o)) (fun h6 => ?_) (fun h6 => ?_)
 have h6n := aa h6
 refine dm [29,30,31,32,33,34,35,36,37,38,39,40,41,42] [57,0,3] 0 [(57,aB true)] <| kZ <| kT <| kQ <| am [2] [(2,aB false)] ?_
 refine kR ?_
 exact ⟨[.bool false],by kernel_rfl,fun w' hb hf => ⟨a7 (show (false : Bool) = aM l from by first | exact hno2.symm | exact (hno (by unfold bv; simp [*]; done)).symm | exact (hno (by simp only [bv]; clear HK hno; simp_all; done)).symm | (exact (hno (by simp only [bv]; clear HK hno; simp_all)).symm) | (exact hall.symm) | (rw [hall]; symm; simp; omega) | (exact (aZ (by omega)).symm)),hb⟩⟩
 have h6n := ak h6
 have h6nw := optionsOk_bd (by simpa using h6n)
 obtain ⟨h6nw0,h6nw1⟩ := h6nw
 refine dm [29,30] [45,43,0,3,4] 12 [(45,aI x.age),(43,aB false)] <| kA [31] <| kSC 31 46 [iI x.age,iI 0,iI 6] (some 46) rfl (cw fun ww hf => ca x.age 0 6 ww ) ?_
 intro _
 refine dm [32,33,34] [49,0,3,4] 8 [(49,aB (!(aX x.age 0 6)))] <| kY 49 (!(aX x.age 0 6)) (fun h7 => ?_) (fun h7 => ?_)
 have h7n := aa h7
 have h7ni := inB_ff.1 (show aX x.age 0 6 = false from by simpa using h7n)
 refine dm [35,36,37,38,39,40,41,42] [57,0,3] 0 [(57,aB true)] <| kZ <| kT <| kQ <| am [2] [(2,aB false)] ?_
 refine kR ?_
 exact ⟨[.bool false],by kernel_rfl,fun w' hb hf => ⟨a7 (show (false : Bool) = aM l from by first | exact hno2.symm | exact (hno (by unfold bv; simp [*]; done)).symm | exact (hno (by simp only [bv]; clear HK hno; simp_all; done)).symm | (exact (hno (by simp only [bv]; clear HK hno; simp_all)).symm) | (exact hall.symm) | (rw [hall]; symm; simp; omega) | (exact (aZ (by omega)).symm)),hb⟩⟩
 have h7n := ak h7
 have h7ni := inB_tt.1 (show aX x.age 0 6 = true from by simpa using h7n)
 refine dm [35,36,38,39] [54,51,50,49,0,3] 4 [(54,.v (.agg (bX x.t).toArray)),(51,aI (k : Int)),(50,.v (.slice Al l.length Cl)),(49,aB false)] <| kX 37 (.slice (if Cl = 0 then Al else Al.map (·.add (0 * 13))) (k - 0) (Cl - 0)) rfl (fun _ _ ww hA => act_slV0 (e := 94) k hA rfl (by kernel_rfl) (by kernel_rfl) rfl rfl rfl (by omega) ww) ?_
 refine kA [40] <| kSC 40 86 [.slice (if Cl = 0 then Al else Al.map (·.add (0 * 13))) (k - 0) (Cl - 0),.agg (bX x.t).toArray] (some 55) rfl (bw fun ww hf => sFindHalf_c (.slice (if Cl = 0 then Al else Al.map (·.add (0 * 13))) (k - 0) (Cl - 0)) ((l.drop 0).take (k - 0)) x.t.ip x.t.port x.t.my ww (Sl.partM (hf _ m0) 0 k (by omega) (by omega)) ) ?_
 intro _
 refine dm [41,42] [57,0,3] 0 [(57,aB (decide ((b8 ((l.drop 0).take (k - 0)) x.t) ≥ 0)))] <| kZ <| kC (decide ((b8 ((l.drop 0).take (k - 0)) x.t) ≥ 0)) (fun h8 => ?_) (fun h8 => ?_)
 have h8p := of_decide_eq_true h8
 have hno2 := hno (hOne_dup (hft.1 (of_decide_eq_true h8)))
 refine kQ <| am [2] [(2,aB false)] <| kR ?_
 exact ⟨[.bool false],by kernel_rfl,fun w' hb hf => ⟨a7 (show (false : Bool) = aM l from by first | exact hno2.symm | exact (hno (by unfold bv; simp [*]; done)).symm | exact (hno (by simp only [bv]; clear HK hno; simp_all; done)).symm | (exact (hno (by simp only [bv]; clear HK hno; simp_all)).symm) | (exact hall.symm) | (rw [hall]; symm; simp; omega) | (exact (aZ (by omega)).symm)),hb⟩⟩
 have h8p := of_decide_eq_false h8
 refine kK <| kG <| bB 3 [0,3] [(3,aI (K6.wrap ((k : Int) + 1)))] <| cz [0,3] [(3,aI (K6.wrap ((k : Int) + 1)))] [(3,aI ((k : Int) + 1))] (by rw [show (K6.wrap ((k : Int) + 1)) = ((k : Int) + 1) from aL (by omega) (by omega)]) (by kernel_rfl) ?_
 refine ac [0,3] [] ?_
 exact ⟨⟨(k + 1),⟨by omega,half_step hx (by simp only [bv]; clear HK; simp_all) HK⟩⟩,kF 0 0 [0,3],by show l.length - (k + 1) < l.length - k; omega⟩
 have h1p := of_decide_eq_false h1
 have hge : k = l.length := by simp at h1; omega
 have hall := halvesOk_all hge HK
 refine bu <| kQ <| am [2] [(2,aB (decide (((l.length : Nat) : Int) ≤ 64)))] <| kR ?_
 exact ⟨[.bool (decide (((l.length : Nat) : Int) ≤ 64))],by kernel_rfl,fun w' hb hf => ⟨a7 (show (decide (((l.length : Nat) : Int) ≤ 64) : Bool) = aM l from by first | exact hno2.symm | exact (hno (by unfold bv; simp [*]; done)).symm | exact (hno (by simp only [bv]; clear HK hno; simp_all; done)).symm | (exact (hno (by simp only [bv]; clear HK hno; simp_all)).symm) | (exact hall.symm) | (rw [hall]; symm; simp; omega) | (exact (aZ (by omega)).symm)),hb⟩⟩
theorem yiHalvesOk_c (l : List Hlf) (lV : Value) (w : World) (hl_lV : Sl w lV 13 (l.map a9))  : Calls Try.prog 51 #[lV] w fun e w' => e = .returned (.bool (aM l)) ∧ Below w.heap.size w w' := by
 obtain ⟨Al,Cl,hvl⟩ := hl_lV.form
 rw [List.length_map] at hvl; subst hvl
 have hnl := hl_lV.len; rw [List.length_map] at hnl
 have hql := Sl.capLe hl_lV
 refine aj (args := [.slice Al l.length Cl]) (fn := Try.f51) [av (.slice Al l.length Cl) 13 (l.map a9)] Try.func51 rfl Try.ntmps51 rfl (by simp only [List.mem_cons,List.not_mem_nil,or_false,forall_eq_or_imp,forall_eq]; exact ⟨rfl,hl_lV⟩) ?_
 refine kQ <| cY [0] ⟨[(0,.v (.slice Al l.length Cl))],[],[],[av (.slice Al l.length Cl) 13 (l.map a9)]⟩ <| kS <| kQ <| ac [0,7] [(7,aB (decide (((l.length : Nat) : Int) > 64)))] ?_
 refine kC (decide (((l.length : Nat) : Int) > 64)) (fun h1 => ?_) (fun h1 => ?_)
 have h1p := of_decide_eq_true h1
 refine kQ <| am [2] [(2,aB false)] <| kR ?_
 exact ⟨[.bool false],by kernel_rfl,fun w' hb hf => ⟨a7 (show (false : Bool) = aM l from by first | exact hno2.symm | exact (hno (by unfold bv; simp [*]; done)).symm | exact (hno (by simp only [bv]; clear HK hno; simp_all; done)).symm | (exact (hno (by simp only [bv]; clear HK hno; simp_all)).symm) | (exact hall.symm) | (rw [hall]; symm; simp; omega) | (exact (aZ (by omega)).symm)),hb⟩⟩
 have h1p := of_decide_eq_false h1
 refine kK <| kS <| kQ <| ac [0,8,9,10] [(8,.v (.slice Al l.length Cl)),(9,aI ((l.length : Nat) : Int)),(10,aI 0)] ?_
 refine au <| aA (α := {x : Nat // (fun (k : Nat) => k ≤ l.length ∧ ∀ (i : Nat) (x : Hlf),i < k → l[i]? = some x → bv l i x = true) x}) (fun x => (fun (k : Nat) => (⟨[(0,.v (.slice Al l.length Cl)),(8,.v (.slice Al l.length Cl)),(9,aI ((l.length : Nat) : Int)),(10,aI (k : Int))],[],[],[av (.slice Al l.length Cl) 13 (l.map a9)]⟩ : St)) x.1) (fun x => l.length - x.1) ⟨(0),⟨Nat.zero_le _,fun i x hi => by omega⟩⟩ (kF 0 0 [0,8,9,10]) ?_
 rintro ⟨k,hk,HK⟩
 try dsimp only
 try dsimp only at hk HK
 refine kQ <| ac [0,8,9,10,11] [(11,aB (decide ((k : Int) < ((l.length : Nat) : Int))))] <| kS <| kC (decide ((k : Int) < ((l.length : Nat) : Int))) (fun h2 => ?_) (fun h2 => ?_)
 have h2p := of_decide_eq_true h2
 have hlt : k < l.length := by simpa using h2
 obtain ⟨x,hx⟩ : ∃ x,l[k]? = some x := ⟨_,List.getElem?_eq_getElem hlt⟩
 have hft := findHalf_pre hx
 have hno := fun h => halvesOk_no hx h
 refine kK <| kS <| au <| kQ <| ba (kd := .i64) (T := 45) (e := 94) (K := 13) 1 [0,8,9,10,12] [(12,aI (k : Int))] k [iI x.t.ip,iI x.t.port,iI x.t.my,iI x.iss,iI x.irs,iI x.o.mss,iI x.o.scale,.bool x.o.sack,.bool x.o.stamp,iI x.o.val,iI x.o.echo,iI x.age,iI x.window] (av (.slice Al l.length Cl) 13 (l.map a9)) (by kernel_rfl) rfl (by kernel_rfl) rfl rfl (by kernel_rfl) (by kernel_rfl) (by kernel_rfl) (by kernel_rfl) hlt (by simp) (fun w h => h) (fun b h => h) (by simp only [List.getElem?_map,hx]; rfl) ?_
 refine kEA [0,3,4,8,9,10] [(3,aI (k : Int)),(4,.p 0 0)] [⟨94,hlfL x⟩] <| kQ <| ch 2 [0,3,4,8,9,10,16] [(16,.v (.agg (bX x.t).toArray))] 91 [.agg (bX x.t).toArray] (some 17) rfl (bw fun ww hf => iTupleOk_c x.t.ip x.t.port x.t.my ww ) ?_
 intro _
 refine bB 2 [0,3,4,8,9,10,19] [(19,aB (!(bj x.t)))] <| kP 19 (!(bj x.t)) (fun h3 => ?_) (fun h3 => ?_)
 have h3n := aa h3
 refine ac [0,8,9,10,56] [(56,aB true)] <| kT <| kQ <| am [2] [(2,aB false)] ?_
 refine kR ?_
 exact ⟨[.bool false],by kernel_rfl,fun w' hb hf => ⟨a7 (show (false : Bool) = aM l from by first | exact hno2.symm | exact (hno (by unfold bv; simp [*]; done)).symm | exact (hno (by simp only [bv]; clear HK hno; simp_all; done)).symm | (exact (hno (by simp only [bv]; clear HK hno; simp_all)).symm) | (exact hall.symm) | (rw [hall]; symm; simp; omega) | (exact (aZ (by omega)).symm)),hb⟩⟩
 have h3n := ak h3
 refine ch 2 [0,3,4,8,9,10,19,21] [(19,aB false),(21,aI x.iss)] 48 [iI x.iss,iI 32] (some 22) rfl (cw fun ww hf => cX x.iss ww) ?_
 intro _
 refine bB 3 [0,3,4,8,9,10,25] [(25,aB (!(ar x.iss 32)))] <| kP 25 (!(ar x.iss 32)) (fun h4 => ?_) (fun h4 => ?_)
 have h4n := aa h4
 refine ac [0,8,9,10,56] [(56,aB true)] <| kT <| kQ <| am [2] [(2,aB false)] ?_
 refine kR ?_
 exact ⟨[.bool false],by kernel_rfl,fun w' hb hf => ⟨a7 (show (false : Bool) = aM l from by first | exact hno2.symm | exact (hno (by unfold bv; simp [*]; done)).symm | exact (hno (by simp only [bv]; clear HK hno; simp_all; done)).symm | (exact (hno (by simp only [bv]; clear HK hno; simp_all)).symm) | (exact hall.symm) | (rw [hall]; symm; simp; omega) | (exact (aZ (by omega)).symm)),hb⟩⟩
 have h4n := ak h4
 refine ch 2 [0,3,4,8,9,10,25,27] [(25,aB false),(27,aI x.irs)] 48 [iI x.irs,iI 32] (some 28) rfl (cw fun ww hf => cX x.irs ww) ?_
 intro _
 refine dn 3 [0,3,4,8,9,10,31] [(0,.v (.slice Al l.length Cl)),(3,aI (k : Int)),(4,.p 0 0),(8,.v (.slice Al l.length Cl)),(9,aI ((l.length : Nat) : Int)),(10,aI (k : Int)),(31,aB (!(ar x.irs 32)))] <| kP 31 (!(ar x.irs 32)) (fun h5 => ?_) (fun h5 => ?_)
 have h5n := aa h5
 refine ac [0,8,9,10,56] [(56,aB true)] <| kT <| kQ <| am [2] [(2,aB false)] ?_
 refine kR ?_
 exact ⟨[.bool false],by kernel_rfl,fun w' hb hf => ⟨a7 (show (false : Bool) = aM l from by first | exact hno2.symm | exact (hno (by unfold bv; simp [*]; done)).symm | exact (hno (by simp only [bv]; clear HK hno; simp_all; done)).symm | (exact (hno (by simp only [bv]; clear HK hno; simp_all)).symm) | (exact hall.symm) | (rw [hall]; symm; simp; omega) | (exact (aZ (by omega)).symm)),hb⟩⟩
 have h5n := ak h5
 refine ch 2 [0,3,4,8,9,10,31,33] [(31,aB false),(33,aI x.window)] 48 [iI x.window,iI 16] (some 34) rfl (cw fun ww hf => du x.window ww) ?_
 intro _
 refine bB 3 [0,3,4,8,9,10,37] [(37,aB (!(ar x.window 16)))] <| kP 37 (!(ar x.window 16)) (fun h6 => ?_) (fun h6 => ?_)
 have h6n := aa h6
 refine ac [0,8,9,10,56] [(56,aB true)] <| kT <| kQ <| am [2] [(2,aB false)] ?_
 refine kR ?_
 exact ⟨[.bool false],by kernel_rfl,fun w' hb hf => ⟨a7 (show (false : Bool) = aM l from by first | exact hno2.symm | exact (hno (by unfold bv; simp [*]; done)).symm | exact (hno (by simp only [bv]; clear HK hno; simp_all; done)).symm | (exact (hno (by simp only [bv]; clear HK hno; simp_all)).symm) | (exact hall.symm) | (rw [hall]; symm; simp; omega) | (exact (aZ (by omega)).symm)),hb⟩⟩
 have h6n := ak h6
 have h6nw := dj (by simpa using h6n)
 obtain ⟨h6nw0,h6nw1⟩ := h6nw
 refine ch 2 [0,3,4,8,9,10,37,39] [(37,aB false),(39,.v (.agg (optL x.o).toArray))] 92 [.agg (optL x.o).toArray] (some 40) rfl (bw fun ww hf => iOptionsOk_c x.o.mss x.o.scale x.o.sack x.o.stamp x.o.val x.o.echo ww ) ?_
 intro _
 refine bB 3 [0,3,4,8,9,10,43] [(43,aB (!(aQ x.o)))] <| kP 43 (!(aQ x.o)) (fun h7 => ?_) (fun h7 => ?_)
 have h7n := aa h7
 refine ac [0,8,9,10,56] [(56,aB true)] <| kT <| kQ <| am [2] [(2,aB false)] ?_
 refine kR ?_
 exact ⟨[.bool false],by kernel_rfl,fun w' hb hf => ⟨a7 (show (false : Bool) = aM l from by first | exact hno2.symm | exact (hno (by unfold bv; simp [*]; done)).symm | exact (hno (by simp only [bv]; clear HK hno; simp_all; done)).symm | (exact (hno (by simp only [bv]; clear HK hno; simp_all)).symm) | (exact hall.symm) | (rw [hall]; symm; simp; omega) | (exact (aZ (by omega)).symm)),hb⟩⟩
 have h7n := ak h7
 have h7nw := optionsOk_bd (by simpa using h7n)
 obtain ⟨h7nw0,h7nw1⟩ := h7nw
 refine ch 2 [0,3,4,8,9,10,43,45] [(43,aB false),(45,aI x.age)] 52 [iI x.age,iI 0,iI 6] (some 46) rfl (cw fun ww hf => bk x.age 0 6 ww ) ?_
 intro _
 refine bB 3 [0,3,4,8,9,10,49] [(49,aB (!(aX x.age 0 6)))] <| kP 49 (!(aX x.age 0 6)) (fun h8 => ?_) (fun h8 => ?_)
 have h8n := aa h8
 have h8ni := inB_ff.1 (show aX x.age 0 6 = false from by simpa using h8n)
 refine ac [0,8,9,10,56] [(56,aB true)] <| kT <| kQ <| am [2] [(2,aB false)] ?_
 refine kR ?_
 exact ⟨[.bool false],by kernel_rfl,fun w' hb hf => ⟨a7 (show (false : Bool) = aM l from by first | exact hno2.symm | exact (hno (by unfold bv; simp [*]; done)).symm | exact (hno (by simp only [bv]; clear HK hno; simp_all; done)).symm | (exact (hno (by simp only [bv]; clear HK hno; simp_all)).symm) | (exact hall.symm) | (rw [hall]; symm; simp; omega) | (exact (aZ (by omega)).symm)),hb⟩⟩
 have h8n := ak h8
 have h8ni := inB_tt.1 (show aX x.age 0 6 = true from by simpa using h8n)
 refine ch 3 [0,3,8,9,10,49,50,52] [(49,aB false),(50,.v (.slice Al l.length Cl)),(52,.v (.agg (bX x.t).toArray))] 93 [.slice Al l.length Cl,.agg (bX x.t).toArray] (some 53) rfl (bw fun ww hf => iFindHalf_c (.slice Al l.length Cl) l x.t.ip x.t.port x.t.my ww (hf _ m0) ) ?_
 intro _
 refine ac [0,8,9,10,56] [(56,aB ((b8 l x.t) != (k : Int)))] <| kC ((b8 l x.t) != (k : Int)) (fun h9 => ?_) (fun h9 => ?_)
 have h9p := neT h9
 refine kQ <| am [2] [(2,aB false)] <| kR ?_
 exact ⟨[.bool false],by kernel_rfl,fun w' hb hf => ⟨a7 (show (false : Bool) = aM l from by first | exact hno2.symm | exact (hno (by unfold bv; simp [*]; done)).symm | exact (hno (by simp only [bv]; clear HK hno; simp_all; done)).symm | (exact (hno (by simp only [bv]; clear HK hno; simp_all)).symm) | (exact hall.symm) | (rw [hall]; symm; simp; omega) | (exact (aZ (by omega)).symm)),hb⟩⟩
 have h9p := neF h9
 refine kK <| kG <| bB 2 [0,8,9,10] [(10,aI (K6.wrap ((k : Int) + 1)))] <| cz [0,8,9,10] [(10,aI (K6.wrap ((k : Int) + 1)))] [(10,aI ((k : Int) + 1))] (by rw [show (K6.wrap ((k : Int) + 1)) = ((k : Int) + 1) from aL (by omega) (by omega)]) (by kernel_rfl) ?_
 refine am [0,8,9,10] [(0,.v (.slice Al l.length Cl)),(8,.v (.slice Al l.length Cl)),(9,aI ((l.length : Nat) : Int)),(10,aI ((k : Int) + 1))] ?_
 exact ⟨⟨(k + 1),⟨by omega,half_step hx (by simp only [bv]; clear HK; simp_all) HK⟩⟩,kF 0 0 [0,8,9,10],by show l.length - (k + 1) < l.length - k; omega⟩
 have h2p := of_decide_eq_false h2
 have hge : k = l.length := by simp at h2; omega
 have hall := halvesOk_all hge HK
 refine bu <| kQ <| am [2] [(2,aB true)] <| kR ?_
 exact ⟨[.bool true],by kernel_rfl,fun w' hb hf => ⟨a7 (show (true : Bool) = aM l from by first | exact hno2.symm | exact (hno (by unfold bv; simp [*]; done)).symm | exact (hno (by simp only [bv]; clear HK hno; simp_all; done)).symm | (exact (hno (by simp only [bv]; clear HK hno; simp_all)).symm) | (exact hall.symm) | (rw [hall]; symm; simp; omega) | (exact (aZ (by omega)).symm)),hb⟩⟩
def hix (t : Tab) (l : List Hlf) : Int := dl (l.findIdx? (fun h => decide (ay t h.t ≥ 0)))
theorem hix_eq {t : Tab} {l : List Hlf} {y : Hlf} {k : Nat} (hk : l[k]? = some y) (hp : decide (ay t y.t ≥ 0) = true) (hno : ∀ (i : Nat) (h' : Hlf), i < k → l[i]? = some h' → decide (ay t h'.t ≥ 0) = false) : hix t l = (k : Int) := by
 unfold hix; rw [cE (p := fun h : Hlf => decide (ay t h.t ≥ 0)) hk hp hno]; rfl
theorem hix_no {t : Tab} {l : List Hlf} {k : Nat} (hk : k = l.length) (hno : ∀ (i : Nat) (h' : Hlf), i < k → l[i]? = some h' → decide (ay t h'.t ≥ 0) = false) : hix t l = -1 := by
 unfold hix; rw [cB (p := fun h : Hlf => decide (ay t h.t ≥ 0)) fun i h' hh => hno i h' (by rw [hk]; exact (List.getElem?_eq_some_iff.1 hh).1) hh]; rfl
theorem hix_any (t : Tab) (l : List Hlf) : decide (hix t l ≥ 0) = l.any (fun h => decide (ay t h.t ≥ 0)) := by
 unfold hix dl
 cases e : l.findIdx? (fun h => decide (ay t h.t ≥ 0)) with
 | none =>
   rw [List.findIdx?_eq_none_iff] at e
   have : l.any (fun h => decide (ay t h.t ≥ 0)) = false := by rw [List.any_eq_false]; intro y hy; rw [e y hy]; decide
   rw [this]; rfl
 | some i =>
   rw [List.findIdx?_eq_some_iff_getElem] at e
   obtain ⟨hlt,hp,-⟩ := e
   have : l.any (fun h => decide (ay t h.t ≥ 0)) = true := List.any_eq_true.2 ⟨_,List.getElem_mem hlt,hp⟩
   rw [this]; show decide ((i : Int) ≥ 0) = true; exact decide_eq_true (by omega)
theorem any_hlf_yes {t : Tab} {l : List Hlf} {y : Hlf} {k : Nat} (hk : l[k]? = some y) (hp : decide (ay t y.t ≥ 0) = true) : l.any (fun h => decide (ay t h.t ≥ 0)) = true := List.any_eq_true.2 ⟨y, List.mem_of_getElem? hk, hp⟩
theorem any_hlf_no {t : Tab} {l : List Hlf} {k : Nat} (hk : k = l.length) (hno : ∀ (i : Nat) (h' : Hlf), i < k → l[i]? = some h' → decide (ay t h'.t ≥ 0) = false) : l.any (fun h => decide (ay t h.t ≥ 0)) = false := by
 rw [Bool.eq_false_iff]
 intro he
 obtain ⟨y,hy,hp⟩ := List.any_eq_true.1 he
 obtain ⟨j,hj⟩ := List.getElem?_of_mem hy
 rw [hno j y (by rw [hk]; exact (List.getElem?_eq_some_iff.1 hj).1) hj] at hp; cases hp
def ax (d : Dor) : Bool := (ar d.port 16 && (ar d.clock 32 && (ae d.keys && (aW d.table d.lim && (aM d.halves && (!decide ((d.halves.length : Int) > d.lim.halves) && aX d.chal 0 d.lim.chal)))))) && !(d.halves.any (fun h => decide (ay d.table h.t ≥ 0)))
theorem doorOk_hit {d : Dor} {k : Nat} {y : Hlf} (hk : d.halves[k]? = some y) (hp : decide (ay d.table y.t ≥ 0) = true) : ax d = false := by
 unfold ax; rw [any_hlf_yes hk hp]; simp
theorem doorOk_pl {d : Dor} {x : List CV} (h : pl x = pl d.table.conns) : ax { d with table := { d.table with conns := x } } = ax d := by
 have e : ∀ u,ay ⟨x,d.table.waiting⟩ u = ay d.table u := fun u => findConn_pl h u
 have e2 := tableOk_pl (t := ⟨x,d.table.waiting⟩) (t' := d.table) h rfl d.lim
 unfold ax; simp only [e,e2]
theorem ysDoorOk_c (d : Dor) (d_keys_now_rowsV : Value) (d_keys_before_rowsV : Value) (d_halvesV : Value) (d_table_connsV : Value) (d_table_waitingV : Value) (w : World) (hl_d_keys_now_rowsV : Sl w d_keys_now_rowsV 2 (d.keys.now.rows.map a5)) (hl_d_keys_before_rowsV : Sl w d_keys_before_rowsV 2 (d.keys.before.rows.map a5)) (hl_d_halvesV : Sl w d_halvesV 13 (d.halves.map a9)) (hl_d_table_connsV : Sl w d_table_connsV 25 (d.table.conns.map ah)) (hh_d_table_connsV : ∀ x ∈ d.table.conns, Sl w x.2 2 (x.1.r.held.map pC)) (hl_d_table_waitingV : Sl w d_table_waitingV 3 (d.table.waiting.map a8)) (hfit : ∀ x ∈ d.table.conns, cr x.1) (hhl : d.halves.length ≤ 1048576) : Calls Try.prog 16 #[.agg (cy d d_keys_now_rowsV d_keys_before_rowsV d_halvesV d_table_connsV d_table_waitingV).toArray] w fun e w' => e = .returned (.bool (ax d)) ∧ Below w.heap.size w w' := by
 obtain ⟨Adknr,Cdknr,hvdknr⟩ := hl_d_keys_now_rowsV.form
 rw [List.length_map] at hvdknr; subst hvdknr
 have hndknr := hl_d_keys_now_rowsV.len; rw [List.length_map] at hndknr
 have hqdknr := Sl.capLe hl_d_keys_now_rowsV
 obtain ⟨Adkbr,Cdkbr,hvdkbr⟩ := hl_d_keys_before_rowsV.form
 rw [List.length_map] at hvdkbr; subst hvdkbr
 have hndkbr := hl_d_keys_before_rowsV.len; rw [List.length_map] at hndkbr
 have hqdkbr := Sl.capLe hl_d_keys_before_rowsV
 obtain ⟨Adh,Cdh,hvdh⟩ := hl_d_halvesV.form
 rw [List.length_map] at hvdh; subst hvdh
 have hndh := hl_d_halvesV.len; rw [List.length_map] at hndh
 have hqdh := Sl.capLe hl_d_halvesV
 obtain ⟨Adtc,Cdtc,hvdtc⟩ := hl_d_table_connsV.form
 rw [List.length_map] at hvdtc; subst hvdtc
 have hndtc := hl_d_table_connsV.len; rw [List.length_map] at hndtc
 have hqdtc := Sl.capLe hl_d_table_connsV
 obtain ⟨Adtw,Cdtw,hvdtw⟩ := hl_d_table_waitingV.form
 rw [List.length_map] at hvdtw; subst hvdtw
 have hndtw := hl_d_table_waitingV.len; rw [List.length_map] at hndtw
 have hqdtw := Sl.capLe hl_d_table_waitingV
 refine aj (args := [.agg (cy d (.slice Adknr d.keys.now.rows.length Cdknr) (.slice Adkbr d.keys.before.rows.length Cdkbr) (.slice Adh d.halves.length Cdh) (.slice Adtc d.table.conns.length Cdtc) (.slice Adtw d.table.waiting.length Cdtw)).toArray]) (fn := Try.f16) [av (.slice Adknr d.keys.now.rows.length Cdknr) 2 (d.keys.now.rows.map a5),av (.slice Adkbr d.keys.before.rows.length Cdkbr) 2 (d.keys.before.rows.map a5),av (.slice Adh d.halves.length Cdh) 13 (d.halves.map a9),av (.slice Adtc d.table.conns.length Cdtc) 25 (d.table.conns.map ah),bx d.table.conns,av (.slice Adtw d.table.waiting.length Cdtw) 3 (d.table.waiting.map a8)] Try.func16 rfl Try.ntmps16 rfl (by simp only [List.mem_cons,List.not_mem_nil,or_false,forall_eq_or_imp,forall_eq]; exact ⟨⟨rfl,hl_d_keys_now_rowsV⟩,⟨rfl,hl_d_keys_before_rowsV⟩,⟨rfl,hl_d_halvesV⟩,⟨rfl,hl_d_table_connsV⟩,⟨rfl,hh_d_table_connsV⟩,⟨rfl,hl_d_table_waitingV⟩⟩) ?_
 refine kQ <| cY [1] ⟨[(1,.p 0 0)],[⟨51,cy d (.slice Adknr d.keys.now.rows.length Cdknr) (.slice Adkbr d.keys.before.rows.length Cdkbr) (.slice Adh d.halves.length Cdh) (.slice Adtc d.table.conns.length Cdtc) (.slice Adtw d.table.waiting.length Cdtw)⟩],[],[av (.slice Adknr d.keys.now.rows.length Cdknr) 2 (d.keys.now.rows.map a5),av (.slice Adkbr d.keys.before.rows.length Cdkbr) 2 (d.keys.before.rows.map a5),av (.slice Adh d.halves.length Cdh) 13 (d.halves.map a9),av (.slice Adtc d.table.conns.length Cdtc) 25 (d.table.conns.map ah),bx d.table.conns,av (.slice Adtw d.table.waiting.length Cdtw) 3 (d.table.waiting.map a8)]⟩ <| kS <| kQ <| ch 2 [1,5] [(5,aI d.port)] 42 [iI d.port,iI 16] (some 6) rfl (cw fun ww hf => dw d.port ww) ?_
 intro _
 refine bB 2 [1,8] [(8,aB (!(ar d.port 16)))] <| kP 8 (!(ar d.port 16)) (fun h1 => ?_) (fun h1 => ?_)
 have h1n := aa h1
 refine ac [1,51] [(51,aB true)] <| kT <| kQ <| am [2] [(2,aB false)] ?_
 refine kR ?_
 exact ⟨[.bool false],by kernel_rfl,fun w' hb hf => ⟨a7 (show (false : Bool) = ax d from by first | exact hno.symm | (unfold ax; rw [hall]; simp [*]; done) | (unfold ax; simp [*]; done) | (unfold ax; simp_all; done) | (unfold ax; simp_all; omega)),hb⟩⟩
 have h1n := ak h1
 have h1nw := dj (by simpa using h1n)
 obtain ⟨h1nw0,h1nw1⟩ := h1nw
 refine ch 2 [1,8,10] [(8,aB false),(10,aI d.clock)] 42 [iI d.clock,iI 32] (some 11) rfl (cw fun ww hf => cm d.clock ww) ?_
 intro _
 refine bB 3 [1,14] [(14,aB (!(ar d.clock 32)))] <| kP 14 (!(ar d.clock 32)) (fun h2 => ?_) (fun h2 => ?_)
 have h2n := aa h2
 refine ac [1,51] [(51,aB true)] <| kT <| kQ <| am [2] [(2,aB false)] ?_
 refine kR ?_
 exact ⟨[.bool false],by kernel_rfl,fun w' hb hf => ⟨a7 (show (false : Bool) = ax d from by first | exact hno.symm | (unfold ax; rw [hall]; simp [*]; done) | (unfold ax; simp [*]; done) | (unfold ax; simp_all; done) | (unfold ax; simp_all; omega)),hb⟩⟩
 have h2n := ak h2
 refine ch 2 [1,14,16] [(14,aB false),(16,.v (.agg (cn d.keys (.slice Adknr d.keys.now.rows.length Cdknr) (.slice Adkbr d.keys.before.rows.length Cdkbr)).toArray))] 43 [.agg (cn d.keys (.slice Adknr d.keys.now.rows.length Cdknr) (.slice Adkbr d.keys.before.rows.length Cdkbr)).toArray] (some 17) rfl (bw fun ww hf => ysKeysOk_c d.keys (.slice Adknr d.keys.now.rows.length Cdknr) (.slice Adkbr d.keys.before.rows.length Cdkbr) ww (hf _ m0) (hf _ m1) ) ?_
 intro _
 refine bB 3 [1,20] [(20,aB (!(ae d.keys)))] <| kP 20 (!(ae d.keys)) (fun h3 => ?_) (fun h3 => ?_)
 have h3n := aa h3
 refine ac [1,51] [(51,aB true)] <| kT <| kQ <| am [2] [(2,aB false)] ?_
 refine kR ?_
 exact ⟨[.bool false],by kernel_rfl,fun w' hb hf => ⟨a7 (show (false : Bool) = ax d from by first | exact hno.symm | (unfold ax; rw [hall]; simp [*]; done) | (unfold ax; simp [*]; done) | (unfold ax; simp_all; done) | (unfold ax; simp_all; omega)),hb⟩⟩
 have h3n := ak h3
 refine ch 4 [1,20,22,24] [(20,aB false),(22,.v (.agg (bY d.table (.slice Adtc d.table.conns.length Cdtc) (.slice Adtw d.table.waiting.length Cdtw)).toArray)),(24,.v (.agg (bg d.lim).toArray))] 44 [.agg (bY d.table (.slice Adtc d.table.conns.length Cdtc) (.slice Adtw d.table.waiting.length Cdtw)).toArray,.agg (bg d.lim).toArray] (some 25) rfl (bw fun ww hf => ysTableOk_c d.table (.slice Adtc d.table.conns.length Cdtc) (.slice Adtw d.table.waiting.length Cdtw) d.lim ww (hf _ m3) (hf _ m4) (hf _ m5) (by assumption)) ?_
 intro _
 refine bB 3 [1,28] [(28,aB (!(aW d.table d.lim)))] <| kP 28 (!(aW d.table d.lim)) (fun h4 => ?_) (fun h4 => ?_)
 have h4n := aa h4
 refine ac [1,51] [(51,aB true)] <| kT <| kQ <| am [2] [(2,aB false)] ?_
 refine kR ?_
 exact ⟨[.bool false],by kernel_rfl,fun w' hb hf => ⟨a7 (show (false : Bool) = ax d from by first | exact hno.symm | (unfold ax; rw [hall]; simp [*]; done) | (unfold ax; simp [*]; done) | (unfold ax; simp_all; done) | (unfold ax; simp_all; omega)),hb⟩⟩
 have h4n := ak h4
 refine ch 2 [1,28,30] [(28,aB false),(30,.v (.slice Adh d.halves.length Cdh))] 45 [.slice Adh d.halves.length Cdh] (some 31) rfl (bw fun ww hf => ysHalvesOk_c d.halves (.slice Adh d.halves.length Cdh) ww (hf _ m2) ) ?_
 intro _
 refine bB 3 [1,34] [(34,aB (!(aM d.halves)))] <| kP 34 (!(aM d.halves)) (fun h5 => ?_) (fun h5 => ?_)
 have h5n := aa h5
 refine am [1,51] [(1,.p 0 0),(51,aB true)] <| kT <| kQ <| am [2] [(2,aB false)] ?_
 refine kR ?_
 exact ⟨[.bool false],by kernel_rfl,fun w' hb hf => ⟨a7 (show (false : Bool) = ax d from by first | exact hno.symm | (unfold ax; rw [hall]; simp [*]; done) | (unfold ax; simp [*]; done) | (unfold ax; simp_all; done) | (unfold ax; simp_all; omega)),hb⟩⟩
 have h5n := ak h5
 refine dn 9 [1,43] [(1,.p 0 0),(43,aB (decide (((d.halves.length : Nat) : Int) > d.lim.halves)))] <| kP 43 (decide (((d.halves.length : Nat) : Int) > d.lim.halves)) (fun h6 => ?_) (fun h6 => ?_)
 have h6p := of_decide_eq_true h6
 refine ac [1,51] [(51,aB true)] <| kT <| kQ <| am [2] [(2,aB false)] ?_
 refine kR ?_
 exact ⟨[.bool false],by kernel_rfl,fun w' hb hf => ⟨a7 (show (false : Bool) = ax d from by first | exact hno.symm | (unfold ax; rw [hall]; simp [*]; done) | (unfold ax; simp [*]; done) | (unfold ax; simp_all; done) | (unfold ax; simp_all; omega)),hb⟩⟩
 have h6p := of_decide_eq_false h6
 refine ch 5 [1,43,45,48] [(43,aB false),(45,aI d.chal),(48,aI d.lim.chal)] 46 [iI d.chal,iI 0,iI d.lim.chal] (some 49) rfl (cw fun ww hf => ca d.chal 0 d.lim.chal ww ) ?_
 intro _
 refine ac [1,51] [(51,aB (!(aX d.chal 0 d.lim.chal)))] <| kC (!(aX d.chal 0 d.lim.chal)) (fun h7 => ?_) (fun h7 => ?_)
 have h7n := aa h7
 have h7ni := inB_ff.1 (show aX d.chal 0 d.lim.chal = false from by simpa using h7n)
 refine kQ <| am [2] [(2,aB false)] <| kR ?_
 exact ⟨[.bool false],by kernel_rfl,fun w' hb hf => ⟨a7 (show (false : Bool) = ax d from by first | exact hno.symm | (unfold ax; rw [hall]; simp [*]; done) | (unfold ax; simp [*]; done) | (unfold ax; simp_all; done) | (unfold ax; simp_all; omega)),hb⟩⟩
 have h7n := ak h7
 have h7ni := inB_tt.1 (show aX d.chal 0 d.lim.chal = true from by simpa using h7n)
 refine kK <| kS <| kQ <| ac [1,3] [(3,aI 0)] ?_
 refine au <| aA (α := {x : Nat // (fun (i : Nat) => i ≤ d.halves.length ∧ ∀ (j : Nat) (x : Hlf),j < i → d.halves[j]? = some x → decide (ay d.table x.t ≥ 0) = false) x}) (fun x => (fun (i : Nat) => (⟨[(1,.p 0 0),(3,aI (i : Int))],[⟨51,cy d (.slice Adknr d.keys.now.rows.length Cdknr) (.slice Adkbr d.keys.before.rows.length Cdkbr) (.slice Adh d.halves.length Cdh) (.slice Adtc d.table.conns.length Cdtc) (.slice Adtw d.table.waiting.length Cdtw)⟩],[],[av (.slice Adknr d.keys.now.rows.length Cdknr) 2 (d.keys.now.rows.map a5),av (.slice Adkbr d.keys.before.rows.length Cdkbr) 2 (d.keys.before.rows.map a5),av (.slice Adh d.halves.length Cdh) 13 (d.halves.map a9),av (.slice Adtc d.table.conns.length Cdtc) 25 (d.table.conns.map ah),bx d.table.conns,av (.slice Adtw d.table.waiting.length Cdtw) 3 (d.table.waiting.map a8)]⟩ : St)) x.1) (fun x => (fun (i : Nat) => d.halves.length - i) x.1) ⟨(0),⟨Nat.zero_le _,(fun j x hj => by omega)⟩⟩ (kF 1 0 [1,3]) ?_
 rintro ⟨i,hi,HK⟩
 try dsimp only
 try dsimp only at hi HK
 refine kS <| kQ <| ac [1,3,56] [(56,aB (decide ((i : Int) < ((d.halves.length : Nat) : Int))))] <| kC (decide ((i : Int) < ((d.halves.length : Nat) : Int))) (fun h8 => ?_) (fun h8 => ?_)
 have h8p := of_decide_eq_true h8
 have hlt : i < d.halves.length := by have := of_decide_eq_true h8; omega
 obtain ⟨x,hx⟩ : ∃ x,d.halves[i]? = some x := ⟨_,List.getElem?_eq_getElem hlt⟩
 refine kK <| kS <| au <| kS <| ci ?_
 refine cv (K := 13) (j := i) [iI x.t.ip,iI x.t.port,iI x.t.my,iI x.iss,iI x.irs,iI x.o.mss,iI x.o.scale,.bool x.o.sack,.bool x.o.stamp,iI x.o.val,iI x.o.echo,iI x.age,iI x.window] (av (.slice Adh d.halves.length Cdh) 13 (d.halves.map a9)) (fun _ _ h => h) (by simp) (fun w h => h) (fun b h => h) (by simp only [List.getElem?_map,hx]; rfl) (fun bq9 offq9 hAq9 => ?_)
 refine bQ [] (by kernel_rfl) (fun ρ σ hq10 => ?_)
 refine kTS [0,1,2,3,4] [63,62,60,1,3] 5 [(63,aI (i : Int)),(62,.v (.slice Adh d.halves.length Cdh)),(60,.v (.agg (bY d.table (.slice Adtc d.table.conns.length Cdtc) (.slice Adtw d.table.waiting.length Cdtw)).toArray)),(1,.p 0 0),(3,aI (i : Int))] <| bU (kd := .i64) (T := 45) (e := 94) (K := 13) (j := i) (A := Adh) (len := d.halves.length) (cap := Cdh) 5 0 _ rfl (by kernel_rfl) (by kernel_rfl) (by kernel_rfl) (fun _ _ h => h) (by kernel_rfl) rfl rfl (by kernel_rfl) (by kernel_rfl) (by kernel_rfl) (by kernel_rfl) hlt hAq9 hq10.2 (by kernel_rfl) rfl ?_
 refine kTS [6,7] [66,60,1,3] 2 [(66,.v (.agg (bX x.t).toArray)),(60,.v (.agg (bY d.table (.slice Adtc d.table.conns.length Cdtc) (.slice Adtw d.table.waiting.length Cdtw)).toArray)),(1,.p 0 0),(3,aI (i : Int))] <| kA [8] <| kSC 8 47 [.agg (bY d.table (.slice Adtc d.table.conns.length Cdtc) (.slice Adtw d.table.waiting.length Cdtw)).toArray,.agg (bX x.t).toArray] (some 67) rfl (bw fun ww hf => dZ d.table (.slice Adtc d.table.conns.length Cdtc) (.slice Adtw d.table.waiting.length Cdtw) x.t ww (hf _ m3) (hf _ m4) (hf _ m5) ) ?_
 intro _
 refine kTS [9] [68,1,3] 0 [(68,aB (decide ((ay d.table x.t) ≥ 0))),(1,.p 0 0),(3,aI (i : Int))] <| kZ <| kC (decide ((ay d.table x.t) ≥ 0)) (fun h11 => ?_) (fun h11 => ?_)
 have h11p := of_decide_eq_true h11
 have hno := doorOk_hit hx h11
 refine kQ <| am [2] [(2,aB false)] <| kR ?_
 exact ⟨[.bool false],by kernel_rfl,fun w' hb hf => ⟨a7 (show (false : Bool) = ax d from by first | exact hno.symm | (unfold ax; rw [hall]; simp [*]; done) | (unfold ax; simp [*]; done) | (unfold ax; simp_all; done) | (unfold ax; simp_all; omega)),hb⟩⟩
 have h11p := of_decide_eq_false h11
 have hne := h11
 refine kK <| kG <| bB 3 [1,3] [(3,aI (K6.wrap ((i : Int) + 1)))] <| cz [1,3] [(3,aI (K6.wrap ((i : Int) + 1)))] [(3,aI ((i : Int) + 1))] (by rw [show (K6.wrap ((i : Int) + 1)) = ((i : Int) + 1) from aL (by omega) (by omega)]) (by kernel_rfl) ?_
 refine ac [1,3] [] ?_
 exact ⟨⟨(i + 1),⟨hlt,dk (p := fun x : Hlf => decide (ay d.table x.t ≥ 0)) hx hne HK⟩⟩,kF 1 0 [1,3],by show (fun (i : Nat) => d.halves.length - i) (i + 1) < d.halves.length - i; (dsimp only; omega)⟩
 have h8p := of_decide_eq_false h8
 have hge : i = d.halves.length := by have := of_decide_eq_false h8; omega
 have hall := any_hlf_no hge HK
 refine bu <| kQ <| am [2] [(2,aB true)] <| kR ?_
 exact ⟨[.bool true],by kernel_rfl,fun w' hb hf => ⟨a7 (show (true : Bool) = ax d from by first | exact hno.symm | (unfold ax; rw [hall]; simp [*]; done) | (unfold ax; simp [*]; done) | (unfold ax; simp_all; done) | (unfold ax; simp_all; omega)),hb⟩⟩
theorem yDoorOk1_c (h : Hlf) (g : Nat) (d : Dor) (d_keys_now_rowsV : Value) (d_keys_before_rowsV : Value) (d_halvesV : Value) (d_table_connsV : Value) (d_table_waitingV : Value) (w : World) (hl_d_keys_now_rowsV : Sl w d_keys_now_rowsV 2 (d.keys.now.rows.map a5)) (hl_d_keys_before_rowsV : Sl w d_keys_before_rowsV 2 (d.keys.before.rows.map a5)) (hl_d_halvesV : Sl w d_halvesV 13 (d.halves.map a9)) (hl_d_table_connsV : Sl w d_table_connsV 25 (d.table.conns.map ah)) (hh_d_table_connsV : ∀ x ∈ d.table.conns, Sl w x.2 2 (x.1.r.held.map pC)) (hl_d_table_waitingV : Sl w d_table_waitingV 3 (d.table.waiting.map a8)) (hcell : (bZ g 51 [iI d.port, iI d.clock, iI d.keys.epoch, .bool d.keys.now.use, .int .u64 d.keys.now.k, .int .u64 d.keys.now.l, d_keys_now_rowsV, .bool d.keys.before.use, .int .u64 d.keys.before.k, .int .u64 d.keys.before.l, d_keys_before_rowsV, .bool d.keys.two, iI d.lim.halves, iI d.lim.waiting, iI d.lim.conns, iI d.lim.chal, d_halvesV, d_table_connsV, d_table_waitingV, iI d.chal]).p w) : Calls Try.prog 54 #[.agg (hlfL h).toArray, gP g] w fun e w' => e = .returned (.bool (decide (ay d.table h.t ≥ 0))) ∧ Below w.heap.size w w' := by
 obtain ⟨Adknr,Cdknr,hvdknr⟩ := hl_d_keys_now_rowsV.form
 rw [List.length_map] at hvdknr; subst hvdknr
 have hndknr := hl_d_keys_now_rowsV.len; rw [List.length_map] at hndknr
 have hqdknr := Sl.capLe hl_d_keys_now_rowsV
 obtain ⟨Adkbr,Cdkbr,hvdkbr⟩ := hl_d_keys_before_rowsV.form
 rw [List.length_map] at hvdkbr; subst hvdkbr
 have hndkbr := hl_d_keys_before_rowsV.len; rw [List.length_map] at hndkbr
 have hqdkbr := Sl.capLe hl_d_keys_before_rowsV
 obtain ⟨Adh,Cdh,hvdh⟩ := hl_d_halvesV.form
 rw [List.length_map] at hvdh; subst hvdh
 have hndh := hl_d_halvesV.len; rw [List.length_map] at hndh
 have hqdh := Sl.capLe hl_d_halvesV
 obtain ⟨Adtc,Cdtc,hvdtc⟩ := hl_d_table_connsV.form
 rw [List.length_map] at hvdtc; subst hvdtc
 have hndtc := hl_d_table_connsV.len; rw [List.length_map] at hndtc
 have hqdtc := Sl.capLe hl_d_table_connsV
 obtain ⟨Adtw,Cdtw,hvdtw⟩ := hl_d_table_waitingV.form
 rw [List.length_map] at hvdtw; subst hvdtw
 have hndtw := hl_d_table_waitingV.len; rw [List.length_map] at hndtw
 have hqdtw := Sl.capLe hl_d_table_waitingV
 refine aj (args := [.agg (hlfL h).toArray,gP g]) (fn := Try.f54) [av (.slice Adknr d.keys.now.rows.length Cdknr) 2 (d.keys.now.rows.map a5),av (.slice Adkbr d.keys.before.rows.length Cdkbr) 2 (d.keys.before.rows.map a5),av (.slice Adh d.halves.length Cdh) 13 (d.halves.map a9),av (.slice Adtc d.table.conns.length Cdtc) 25 (d.table.conns.map ah),bx d.table.conns,av (.slice Adtw d.table.waiting.length Cdtw) 3 (d.table.waiting.map a8),bZ g 51 [iI d.port,iI d.clock,iI d.keys.epoch,.bool d.keys.now.use,.int .u64 d.keys.now.k,.int .u64 d.keys.now.l,.slice Adknr d.keys.now.rows.length Cdknr,.bool d.keys.before.use,.int .u64 d.keys.before.k,.int .u64 d.keys.before.l,.slice Adkbr d.keys.before.rows.length Cdkbr,.bool d.keys.two,iI d.lim.halves,iI d.lim.waiting,iI d.lim.conns,iI d.lim.chal,.slice Adh d.halves.length Cdh,.slice Adtc d.table.conns.length Cdtc,.slice Adtw d.table.waiting.length Cdtw,iI d.chal]] Try.func54 rfl Try.ntmps54 rfl (by simp only [List.mem_cons,List.not_mem_nil,or_false,forall_eq_or_imp,forall_eq]; exact ⟨⟨rfl,hl_d_keys_now_rowsV⟩,⟨rfl,hl_d_keys_before_rowsV⟩,⟨rfl,hl_d_halvesV⟩,⟨rfl,hl_d_table_connsV⟩,⟨rfl,hh_d_table_connsV⟩,⟨rfl,hl_d_table_waitingV⟩,⟨rfl,hcell⟩⟩) ?_
 refine kQ <| cY [1,2] ⟨[(1,aP g),(2,.p 0 0)],[⟨94,hlfL h⟩],[],[av (.slice Adknr d.keys.now.rows.length Cdknr) 2 (d.keys.now.rows.map a5),av (.slice Adkbr d.keys.before.rows.length Cdkbr) 2 (d.keys.before.rows.map a5),av (.slice Adh d.halves.length Cdh) 13 (d.halves.map a9),av (.slice Adtc d.table.conns.length Cdtc) 25 (d.table.conns.map ah),bx d.table.conns,av (.slice Adtw d.table.waiting.length Cdtw) 3 (d.table.waiting.map a8),bZ g 51 [iI d.port,iI d.clock,iI d.keys.epoch,.bool d.keys.now.use,.int .u64 d.keys.now.k,.int .u64 d.keys.now.l,.slice Adknr d.keys.now.rows.length Cdknr,.bool d.keys.before.use,.int .u64 d.keys.before.k,.int .u64 d.keys.before.l,.slice Adkbr d.keys.before.rows.length Cdkbr,.bool d.keys.two,iI d.lim.halves,iI d.lim.waiting,iI d.lim.conns,iI d.lim.chal,.slice Adh d.halves.length Cdh,.slice Adtc d.table.conns.length Cdtc,.slice Adtw d.table.waiting.length Cdtw,iI d.chal]]⟩ <| kQ <| kOD 0 [1,2] [] (.pointer (some ⟨g,17,none⟩)) rfl (fun _ _ _ ww hr => act_fld (sz := 2) (b := g) (m := 0) hr.1 rfl Try.underlying51 rfl (by kernel_rfl) rfl (by kernel_rfl) rfl) ?_
 refine kOD 0 [2,4] [] (.agg (bY d.table (.slice Adtc d.table.conns.length Cdtc) (.slice Adtw d.table.waiting.length Cdtw)).toArray) rfl (fun _ _ _ ww hr => ldK_run (off := 17) (g := g) (T := 51) (cs := [iI d.port,iI d.clock,iI d.keys.epoch,.bool d.keys.now.use,.int .u64 d.keys.now.k,.int .u64 d.keys.now.l,.slice Adknr d.keys.now.rows.length Cdknr,.bool d.keys.before.use,.int .u64 d.keys.before.k,.int .u64 d.keys.before.l,.slice Adkbr d.keys.before.rows.length Cdkbr,.bool d.keys.two,iI d.lim.halves,iI d.lim.waiting,iI d.lim.conns,iI d.lim.chal,.slice Adh d.halves.length Cdh,.slice Adtc d.table.conns.length Cdtc,.slice Adtw d.table.waiting.length Cdtw,iI d.chal]) hr rfl (by kernel_rfl) (by simp) (by kernel_rfl)) ?_
 refine ch 2 [5,7] [(7,.v (.agg (bX h.t).toArray))] 55 [.agg (bY d.table (.slice Adtc d.table.conns.length Cdtc) (.slice Adtw d.table.waiting.length Cdtw)).toArray,.agg (bX h.t).toArray] (some 8) rfl (bw fun ww hf => dY d.table (.slice Adtc d.table.conns.length Cdtc) (.slice Adtw d.table.waiting.length Cdtw) h.t ww (hf _ m3) (hf _ m4) (hf _ m5) ) ?_
 intro _
 refine am [3] [(3,aB (decide ((ay d.table h.t) ≥ 0)))] <| kR ?_
 exact ⟨[.bool (decide ((ay d.table h.t) ≥ 0))],by kernel_rfl,fun w' hb hf => ⟨rfl,hb⟩⟩
theorem yIndexFHlf_c (l : List Hlf) (lV : Value) (g : Nat) (d : Dor) (d_keys_now_rowsV : Value) (d_keys_before_rowsV : Value) (d_halvesV : Value) (d_table_connsV : Value) (d_table_waitingV : Value) (w : World) (hl_lV : Sl w lV 13 (l.map a9)) (hl_d_keys_now_rowsV : Sl w d_keys_now_rowsV 2 (d.keys.now.rows.map a5)) (hl_d_keys_before_rowsV : Sl w d_keys_before_rowsV 2 (d.keys.before.rows.map a5)) (hl_d_halvesV : Sl w d_halvesV 13 (d.halves.map a9)) (hl_d_table_connsV : Sl w d_table_connsV 25 (d.table.conns.map ah)) (hh_d_table_connsV : ∀ x ∈ d.table.conns, Sl w x.2 2 (x.1.r.held.map pC)) (hl_d_table_waitingV : Sl w d_table_waitingV 3 (d.table.waiting.map a8)) (hcell : (bZ g 51 [iI d.port, iI d.clock, iI d.keys.epoch, .bool d.keys.now.use, .int .u64 d.keys.now.k, .int .u64 d.keys.now.l, d_keys_now_rowsV, .bool d.keys.before.use, .int .u64 d.keys.before.k, .int .u64 d.keys.before.l, d_keys_before_rowsV, .bool d.keys.two, iI d.lim.halves, iI d.lim.waiting, iI d.lim.conns, iI d.lim.chal, d_halvesV, d_table_connsV, d_table_waitingV, iI d.chal]).p w) : Calls Try.prog 94 #[lV, .func (.func 54) #[] #[gP g]] w fun e w' => e = .returned (iI (hix d.table l)) ∧ Below w.heap.size w w' := by
 obtain ⟨Al,Cl,hvl⟩ := hl_lV.form
 rw [List.length_map] at hvl; subst hvl
 have hnl := hl_lV.len; rw [List.length_map] at hnl
 have hql := Sl.capLe hl_lV
 obtain ⟨Adknr,Cdknr,hvdknr⟩ := hl_d_keys_now_rowsV.form
 rw [List.length_map] at hvdknr; subst hvdknr
 have hndknr := hl_d_keys_now_rowsV.len; rw [List.length_map] at hndknr
 have hqdknr := Sl.capLe hl_d_keys_now_rowsV
 obtain ⟨Adkbr,Cdkbr,hvdkbr⟩ := hl_d_keys_before_rowsV.form
 rw [List.length_map] at hvdkbr; subst hvdkbr
 have hndkbr := hl_d_keys_before_rowsV.len; rw [List.length_map] at hndkbr
 have hqdkbr := Sl.capLe hl_d_keys_before_rowsV
 obtain ⟨Adh,Cdh,hvdh⟩ := hl_d_halvesV.form
 rw [List.length_map] at hvdh; subst hvdh
 have hndh := hl_d_halvesV.len; rw [List.length_map] at hndh
 have hqdh := Sl.capLe hl_d_halvesV
 obtain ⟨Adtc,Cdtc,hvdtc⟩ := hl_d_table_connsV.form
 rw [List.length_map] at hvdtc; subst hvdtc
 have hndtc := hl_d_table_connsV.len; rw [List.length_map] at hndtc
 have hqdtc := Sl.capLe hl_d_table_connsV
 obtain ⟨Adtw,Cdtw,hvdtw⟩ := hl_d_table_waitingV.form
 rw [List.length_map] at hvdtw; subst hvdtw
 have hndtw := hl_d_table_waitingV.len; rw [List.length_map] at hndtw
 have hqdtw := Sl.capLe hl_d_table_waitingV
 refine aj (args := [.slice Al l.length Cl,.func (.func 54) #[] #[gP g]]) (fn := Try.f94) [av (.slice Al l.length Cl) 13 (l.map a9),av (.slice Adknr d.keys.now.rows.length Cdknr) 2 (d.keys.now.rows.map a5),av (.slice Adkbr d.keys.before.rows.length Cdkbr) 2 (d.keys.before.rows.map a5),av (.slice Adh d.halves.length Cdh) 13 (d.halves.map a9),av (.slice Adtc d.table.conns.length Cdtc) 25 (d.table.conns.map ah),bx d.table.conns,av (.slice Adtw d.table.waiting.length Cdtw) 3 (d.table.waiting.map a8),bZ g 51 [iI d.port,iI d.clock,iI d.keys.epoch,.bool d.keys.now.use,.int .u64 d.keys.now.k,.int .u64 d.keys.now.l,.slice Adknr d.keys.now.rows.length Cdknr,.bool d.keys.before.use,.int .u64 d.keys.before.k,.int .u64 d.keys.before.l,.slice Adkbr d.keys.before.rows.length Cdkbr,.bool d.keys.two,iI d.lim.halves,iI d.lim.waiting,iI d.lim.conns,iI d.lim.chal,.slice Adh d.halves.length Cdh,.slice Adtc d.table.conns.length Cdtc,.slice Adtw d.table.waiting.length Cdtw,iI d.chal]] Try.func94 rfl Try.ntmps94 rfl (by simp only [List.mem_cons,List.not_mem_nil,or_false,forall_eq_or_imp,forall_eq]; exact ⟨⟨rfl,hl_lV⟩,⟨rfl,hl_d_keys_now_rowsV⟩,⟨rfl,hl_d_keys_before_rowsV⟩,⟨rfl,hl_d_halvesV⟩,⟨rfl,hl_d_table_connsV⟩,⟨rfl,hh_d_table_connsV⟩,⟨rfl,hl_d_table_waitingV⟩,⟨rfl,hcell⟩⟩) ?_
 refine kQ <| cY [0,1] ⟨[(0,.v (.slice Al l.length Cl)),(1,.v (.func (.func 54) #[] #[gP g]))],[],[],[av (.slice Al l.length Cl) 13 (l.map a9),av (.slice Adknr d.keys.now.rows.length Cdknr) 2 (d.keys.now.rows.map a5),av (.slice Adkbr d.keys.before.rows.length Cdkbr) 2 (d.keys.before.rows.map a5),av (.slice Adh d.halves.length Cdh) 13 (d.halves.map a9),av (.slice Adtc d.table.conns.length Cdtc) 25 (d.table.conns.map ah),bx d.table.conns,av (.slice Adtw d.table.waiting.length Cdtw) 3 (d.table.waiting.map a8),bZ g 51 [iI d.port,iI d.clock,iI d.keys.epoch,.bool d.keys.now.use,.int .u64 d.keys.now.k,.int .u64 d.keys.now.l,.slice Adknr d.keys.now.rows.length Cdknr,.bool d.keys.before.use,.int .u64 d.keys.before.k,.int .u64 d.keys.before.l,.slice Adkbr d.keys.before.rows.length Cdkbr,.bool d.keys.two,iI d.lim.halves,iI d.lim.waiting,iI d.lim.conns,iI d.lim.chal,.slice Adh d.halves.length Cdh,.slice Adtc d.table.conns.length Cdtc,.slice Adtw d.table.waiting.length Cdtw,iI d.chal]]⟩ <| kS <| kQ <| ac [0,1,7,8] [(7,aI ((l.length : Nat) : Int)),(8,aI 0)] ?_
 refine au <| aA (α := {x : Nat // (fun (k : Nat) => k ≤ l.length ∧ ∀ (i : Nat) (h' : Hlf),i < k → l[i]? = some h' → decide (ay d.table h'.t ≥ 0) = false) x}) (fun x => (fun (k : Nat) => (⟨[(0,.v (.slice Al l.length Cl)),(1,.v (.func (.func 54) #[] #[gP g])),(7,aI ((l.length : Nat) : Int)),(8,aI (k : Int))],[],[],[av (.slice Al l.length Cl) 13 (l.map a9),av (.slice Adknr d.keys.now.rows.length Cdknr) 2 (d.keys.now.rows.map a5),av (.slice Adkbr d.keys.before.rows.length Cdkbr) 2 (d.keys.before.rows.map a5),av (.slice Adh d.halves.length Cdh) 13 (d.halves.map a9),av (.slice Adtc d.table.conns.length Cdtc) 25 (d.table.conns.map ah),bx d.table.conns,av (.slice Adtw d.table.waiting.length Cdtw) 3 (d.table.waiting.map a8),bZ g 51 [iI d.port,iI d.clock,iI d.keys.epoch,.bool d.keys.now.use,.int .u64 d.keys.now.k,.int .u64 d.keys.now.l,.slice Adknr d.keys.now.rows.length Cdknr,.bool d.keys.before.use,.int .u64 d.keys.before.k,.int .u64 d.keys.before.l,.slice Adkbr d.keys.before.rows.length Cdkbr,.bool d.keys.two,iI d.lim.halves,iI d.lim.waiting,iI d.lim.conns,iI d.lim.chal,.slice Adh d.halves.length Cdh,.slice Adtc d.table.conns.length Cdtc,.slice Adtw d.table.waiting.length Cdtw,iI d.chal]]⟩ : St)) x.1) (fun x => l.length - x.1) ⟨(0),⟨Nat.zero_le _,fun i x hi => by omega⟩⟩ (kF 0 0 [0,1,7,8]) ?_
 rintro ⟨k,hk,HK⟩
 try dsimp only
 try dsimp only at hk HK
 refine kQ <| ac [0,1,7,8,9] [(9,aB (decide ((k : Int) < ((l.length : Nat) : Int))))] <| kS <| kC (decide ((k : Int) < ((l.length : Nat) : Int))) (fun h1 => ?_) (fun h1 => ?_)
 have h1p := of_decide_eq_true h1
 have hlt : k < l.length := by simpa using h1
 obtain ⟨x,hx⟩ : ∃ x,l[k]? = some x := ⟨_,List.getElem?_eq_getElem hlt⟩
 refine kK <| kS <| au <| kQ <| ac [0,1,5,7,8] [(5,aI (k : Int))] ?_
 refine kQ <| ba (kd := .i64) (T := 45) (e := 94) (K := 13) 3 [0,1,5,7,8,11,12,13] [(11,.v (.func (.func 54) #[] #[gP g])),(12,.v (.slice Al l.length Cl)),(13,aI (k : Int))] k [iI x.t.ip,iI x.t.port,iI x.t.my,iI x.iss,iI x.irs,iI x.o.mss,iI x.o.scale,.bool x.o.sack,.bool x.o.stamp,iI x.o.val,iI x.o.echo,iI x.age,iI x.window] (av (.slice Al l.length Cl) 13 (l.map a9)) (by kernel_rfl) rfl (by kernel_rfl) rfl rfl (by kernel_rfl) (by kernel_rfl) (by kernel_rfl) (by kernel_rfl) hlt (by simp) (fun w h => h) (fun b h => h) (by simp only [List.getElem?_map,hx]; rfl) ?_
 refine xl_callC 1 [0,1,5,7,8,11,15] ⟨[(0,.v (.slice Al l.length Cl)),(1,.v (.func (.func 54) #[] #[gP g])),(5,aI (k : Int)),(7,aI ((l.length : Nat) : Int)),(8,aI (k : Int)),(11,.v (.func (.func 54) #[] #[gP g])),(15,.v (.agg (hlfL x).toArray))],[],[[iI x.t.ip,iI x.t.port,iI x.t.my,iI x.iss,iI x.irs,iI x.o.mss,iI x.o.scale,.bool x.o.sack,.bool x.o.stamp,iI x.o.val,iI x.o.echo,iI x.age,iI x.window]],[av (.slice Al l.length Cl) 13 (l.map a9),av (.slice Adknr d.keys.now.rows.length Cdknr) 2 (d.keys.now.rows.map a5),av (.slice Adkbr d.keys.before.rows.length Cdkbr) 2 (d.keys.before.rows.map a5),av (.slice Adh d.halves.length Cdh) 13 (d.halves.map a9),av (.slice Adtc d.table.conns.length Cdtc) 25 (d.table.conns.map ah),bx d.table.conns,av (.slice Adtw d.table.waiting.length Cdtw) 3 (d.table.waiting.map a8),bZ g 51 [iI d.port,iI d.clock,iI d.keys.epoch,.bool d.keys.now.use,.int .u64 d.keys.now.k,.int .u64 d.keys.now.l,.slice Adknr d.keys.now.rows.length Cdknr,.bool d.keys.before.use,.int .u64 d.keys.before.k,.int .u64 d.keys.before.l,.slice Adkbr d.keys.before.rows.length Cdkbr,.bool d.keys.two,iI d.lim.halves,iI d.lim.waiting,iI d.lim.conns,iI d.lim.chal,.slice Adh d.halves.length Cdh,.slice Adtc d.table.conns.length Cdtc,.slice Adtw d.table.waiting.length Cdtw,iI d.chal]]⟩ 54 [.agg (hlfL x).toArray,gP g] (some 16) (by kernel_rfl) rfl (by kernel_rfl) rfl (by kernel_rfl) (bw fun ww hf => yDoorOk1_c x g d (.slice Adknr d.keys.now.rows.length Cdknr) (.slice Adkbr d.keys.before.rows.length Cdkbr) (.slice Adh d.halves.length Cdh) (.slice Adtc d.table.conns.length Cdtc) (.slice Adtw d.table.waiting.length Cdtw) ww (hf _ m1) (hf _ m2) (hf _ m3) (hf _ m4) (hf _ m5) (hf _ m6) (hf (bZ g 51 [iI d.port,iI d.clock,iI d.keys.epoch,.bool d.keys.now.use,.int .u64 d.keys.now.k,.int .u64 d.keys.now.l,.slice Adknr d.keys.now.rows.length Cdknr,.bool d.keys.before.use,.int .u64 d.keys.before.k,.int .u64 d.keys.before.l,.slice Adkbr d.keys.before.rows.length Cdkbr,.bool d.keys.two,iI d.lim.halves,iI d.lim.waiting,iI d.lim.conns,iI d.lim.chal,.slice Adh d.halves.length Cdh,.slice Adtc d.table.conns.length Cdtc,.slice Adtw d.table.waiting.length Cdtw,iI d.chal]) (by simp))) ?_
 intro _
 refine ac [0,1,5,7,8,16] [] <| kC (decide (ay d.table x.t ≥ 0)) (fun h2 => ?_) (fun h2 => ?_)
 have h2p := of_decide_eq_true h2
 have hfd := hix_eq hx (by exact h2) HK
 refine kQ <| am [4] [(4,aI (k : Int))] <| kR ?_
 exact ⟨[iI (k : Int)],by kernel_rfl,fun w' hb hf => ⟨cG (by first | exact hfd.symm | exact hfn.symm),hb⟩⟩
 have h2p := of_decide_eq_false h2
 have hq : decide (ay d.table x.t ≥ 0) = false := by exact h2
 refine kK <| kG <| bB 2 [0,1,7,8] [(8,aI (K6.wrap ((k : Int) + 1)))] <| cz [0,1,7,8] [(8,aI (K6.wrap ((k : Int) + 1)))] [(8,aI ((k : Int) + 1))] (by rw [show (K6.wrap ((k : Int) + 1)) = ((k : Int) + 1) from aL (by omega) (by omega)]) (by kernel_rfl) ?_
 refine ac [0,1,7,8] [] ?_
 exact ⟨⟨(k + 1),⟨by omega,dk (p := fun h : Hlf => decide (ay d.table h.t ≥ 0)) hx hq HK⟩⟩,kF 0 0 [0,1,7,8],by show l.length - (k + 1) < l.length - k; omega⟩
 have h1p := of_decide_eq_false h1
 have hge : k = l.length := by simp at h1; omega
 have hfn := hix_no hge HK
 refine bu <| kQ <| am [4] [(4,aI (-1))] <| kR ?_
 exact ⟨[iI (-1)],by kernel_rfl,fun w' hb hf => ⟨cG (by first | exact hfd.symm | exact hfn.symm),hb⟩⟩
theorem yContainsFHlf_c (l : List Hlf) (lV : Value) (g : Nat) (d : Dor) (d_keys_now_rowsV : Value) (d_keys_before_rowsV : Value) (d_halvesV : Value) (d_table_connsV : Value) (d_table_waitingV : Value) (w : World) (hl_lV : Sl w lV 13 (l.map a9)) (hl_d_keys_now_rowsV : Sl w d_keys_now_rowsV 2 (d.keys.now.rows.map a5)) (hl_d_keys_before_rowsV : Sl w d_keys_before_rowsV 2 (d.keys.before.rows.map a5)) (hl_d_halvesV : Sl w d_halvesV 13 (d.halves.map a9)) (hl_d_table_connsV : Sl w d_table_connsV 25 (d.table.conns.map ah)) (hh_d_table_connsV : ∀ x ∈ d.table.conns, Sl w x.2 2 (x.1.r.held.map pC)) (hl_d_table_waitingV : Sl w d_table_waitingV 3 (d.table.waiting.map a8)) (hcell : (bZ g 51 [iI d.port, iI d.clock, iI d.keys.epoch, .bool d.keys.now.use, .int .u64 d.keys.now.k, .int .u64 d.keys.now.l, d_keys_now_rowsV, .bool d.keys.before.use, .int .u64 d.keys.before.k, .int .u64 d.keys.before.l, d_keys_before_rowsV, .bool d.keys.two, iI d.lim.halves, iI d.lim.waiting, iI d.lim.conns, iI d.lim.chal, d_halvesV, d_table_connsV, d_table_waitingV, iI d.chal]).p w) : Calls Try.prog 53 #[lV, .func (.func 54) #[] #[gP g]] w fun e w' => e = .returned (.bool (l.any (fun h => decide (ay d.table h.t ≥ 0)))) ∧ Below w.heap.size w w' := by
 obtain ⟨Al,Cl,hvl⟩ := hl_lV.form
 rw [List.length_map] at hvl; subst hvl
 have hnl := hl_lV.len; rw [List.length_map] at hnl
 have hql := Sl.capLe hl_lV
 obtain ⟨Adknr,Cdknr,hvdknr⟩ := hl_d_keys_now_rowsV.form
 rw [List.length_map] at hvdknr; subst hvdknr
 have hndknr := hl_d_keys_now_rowsV.len; rw [List.length_map] at hndknr
 have hqdknr := Sl.capLe hl_d_keys_now_rowsV
 obtain ⟨Adkbr,Cdkbr,hvdkbr⟩ := hl_d_keys_before_rowsV.form
 rw [List.length_map] at hvdkbr; subst hvdkbr
 have hndkbr := hl_d_keys_before_rowsV.len; rw [List.length_map] at hndkbr
 have hqdkbr := Sl.capLe hl_d_keys_before_rowsV
 obtain ⟨Adh,Cdh,hvdh⟩ := hl_d_halvesV.form
 rw [List.length_map] at hvdh; subst hvdh
 have hndh := hl_d_halvesV.len; rw [List.length_map] at hndh
 have hqdh := Sl.capLe hl_d_halvesV
 obtain ⟨Adtc,Cdtc,hvdtc⟩ := hl_d_table_connsV.form
 rw [List.length_map] at hvdtc; subst hvdtc
 have hndtc := hl_d_table_connsV.len; rw [List.length_map] at hndtc
 have hqdtc := Sl.capLe hl_d_table_connsV
 obtain ⟨Adtw,Cdtw,hvdtw⟩ := hl_d_table_waitingV.form
 rw [List.length_map] at hvdtw; subst hvdtw
 have hndtw := hl_d_table_waitingV.len; rw [List.length_map] at hndtw
 have hqdtw := Sl.capLe hl_d_table_waitingV
 refine aj (args := [.slice Al l.length Cl,.func (.func 54) #[] #[gP g]]) (fn := Try.f53) [av (.slice Al l.length Cl) 13 (l.map a9),av (.slice Adknr d.keys.now.rows.length Cdknr) 2 (d.keys.now.rows.map a5),av (.slice Adkbr d.keys.before.rows.length Cdkbr) 2 (d.keys.before.rows.map a5),av (.slice Adh d.halves.length Cdh) 13 (d.halves.map a9),av (.slice Adtc d.table.conns.length Cdtc) 25 (d.table.conns.map ah),bx d.table.conns,av (.slice Adtw d.table.waiting.length Cdtw) 3 (d.table.waiting.map a8),bZ g 51 [iI d.port,iI d.clock,iI d.keys.epoch,.bool d.keys.now.use,.int .u64 d.keys.now.k,.int .u64 d.keys.now.l,.slice Adknr d.keys.now.rows.length Cdknr,.bool d.keys.before.use,.int .u64 d.keys.before.k,.int .u64 d.keys.before.l,.slice Adkbr d.keys.before.rows.length Cdkbr,.bool d.keys.two,iI d.lim.halves,iI d.lim.waiting,iI d.lim.conns,iI d.lim.chal,.slice Adh d.halves.length Cdh,.slice Adtc d.table.conns.length Cdtc,.slice Adtw d.table.waiting.length Cdtw,iI d.chal]] Try.func53 rfl Try.ntmps53 rfl (by simp only [List.mem_cons,List.not_mem_nil,or_false,forall_eq_or_imp,forall_eq]; exact ⟨⟨rfl,hl_lV⟩,⟨rfl,hl_d_keys_now_rowsV⟩,⟨rfl,hl_d_keys_before_rowsV⟩,⟨rfl,hl_d_halvesV⟩,⟨rfl,hl_d_table_connsV⟩,⟨rfl,hh_d_table_connsV⟩,⟨rfl,hl_d_table_waitingV⟩,⟨rfl,hcell⟩⟩) ?_
 refine kQ <| cY [0,1] ⟨[(0,.v (.slice Al l.length Cl)),(1,.v (.func (.func 54) #[] #[gP g]))],[],[],[av (.slice Al l.length Cl) 13 (l.map a9),av (.slice Adknr d.keys.now.rows.length Cdknr) 2 (d.keys.now.rows.map a5),av (.slice Adkbr d.keys.before.rows.length Cdkbr) 2 (d.keys.before.rows.map a5),av (.slice Adh d.halves.length Cdh) 13 (d.halves.map a9),av (.slice Adtc d.table.conns.length Cdtc) 25 (d.table.conns.map ah),bx d.table.conns,av (.slice Adtw d.table.waiting.length Cdtw) 3 (d.table.waiting.map a8),bZ g 51 [iI d.port,iI d.clock,iI d.keys.epoch,.bool d.keys.now.use,.int .u64 d.keys.now.k,.int .u64 d.keys.now.l,.slice Adknr d.keys.now.rows.length Cdknr,.bool d.keys.before.use,.int .u64 d.keys.before.k,.int .u64 d.keys.before.l,.slice Adkbr d.keys.before.rows.length Cdkbr,.bool d.keys.two,iI d.lim.halves,iI d.lim.waiting,iI d.lim.conns,iI d.lim.chal,.slice Adh d.halves.length Cdh,.slice Adtc d.table.conns.length Cdtc,.slice Adtw d.table.waiting.length Cdtw,iI d.chal]]⟩ <| kQ <| kCS 2 [5,6] [(5,.v (.slice Al l.length Cl)),(6,.v (.func (.func 54) #[] #[gP g]))] 94 [.slice Al l.length Cl,.func (.func 54) #[] #[gP g]] (some 7) rfl (bw fun ww hf => yIndexFHlf_c l (.slice Al l.length Cl) g d (.slice Adknr d.keys.now.rows.length Cdknr) (.slice Adkbr d.keys.before.rows.length Cdkbr) (.slice Adh d.halves.length Cdh) (.slice Adtc d.table.conns.length Cdtc) (.slice Adtw d.table.waiting.length Cdtw) ww (hf _ m0) (hf _ m1) (hf _ m2) (hf _ m3) (hf _ m4) (hf _ m5) (hf _ m6) (hf (bZ g 51 [iI d.port,iI d.clock,iI d.keys.epoch,.bool d.keys.now.use,.int .u64 d.keys.now.k,.int .u64 d.keys.now.l,.slice Adknr d.keys.now.rows.length Cdknr,.bool d.keys.before.use,.int .u64 d.keys.before.k,.int .u64 d.keys.before.l,.slice Adkbr d.keys.before.rows.length Cdkbr,.bool d.keys.two,iI d.lim.halves,iI d.lim.waiting,iI d.lim.conns,iI d.lim.chal,.slice Adh d.halves.length Cdh,.slice Adtc d.table.conns.length Cdtc,.slice Adtw d.table.waiting.length Cdtw,iI d.chal]) (by simp))) ?_
 intro _
 refine am [4] [(4,aB (decide ((hix d.table l) ≥ 0)))] <| kR ?_
 exact ⟨[.bool (decide ((hix d.table l) ≥ 0))],by kernel_rfl,fun w' hb hf => ⟨a7 (hix_any d.table l),hb⟩⟩
theorem yiDoorOk_c (d : Dor) (d_keys_now_rowsV : Value) (d_keys_before_rowsV : Value) (d_halvesV : Value) (d_table_connsV : Value) (d_table_waitingV : Value) (w : World) (hl_d_keys_now_rowsV : Sl w d_keys_now_rowsV 2 (d.keys.now.rows.map a5)) (hl_d_keys_before_rowsV : Sl w d_keys_before_rowsV 2 (d.keys.before.rows.map a5)) (hl_d_halvesV : Sl w d_halvesV 13 (d.halves.map a9)) (hl_d_table_connsV : Sl w d_table_connsV 25 (d.table.conns.map ah)) (hh_d_table_connsV : ∀ x ∈ d.table.conns, Sl w x.2 2 (x.1.r.held.map pC)) (hl_d_table_waitingV : Sl w d_table_waitingV 3 (d.table.waiting.map a8)) (hfit : ∀ x ∈ d.table.conns, cr x.1) (hhl : d.halves.length ≤ 1048576) : Calls Try.prog 17 #[.agg (cy d d_keys_now_rowsV d_keys_before_rowsV d_halvesV d_table_connsV d_table_waitingV).toArray] w fun e w' => e = .returned (.bool (ax d)) ∧ Below w.heap.size w w' := by
 obtain ⟨Adknr,Cdknr,hvdknr⟩ := hl_d_keys_now_rowsV.form
 rw [List.length_map] at hvdknr; subst hvdknr
 have hndknr := hl_d_keys_now_rowsV.len; rw [List.length_map] at hndknr
 have hqdknr := Sl.capLe hl_d_keys_now_rowsV
 obtain ⟨Adkbr,Cdkbr,hvdkbr⟩ := hl_d_keys_before_rowsV.form
 rw [List.length_map] at hvdkbr; subst hvdkbr
 have hndkbr := hl_d_keys_before_rowsV.len; rw [List.length_map] at hndkbr
 have hqdkbr := Sl.capLe hl_d_keys_before_rowsV
 obtain ⟨Adh,Cdh,hvdh⟩ := hl_d_halvesV.form
 rw [List.length_map] at hvdh; subst hvdh
 have hndh := hl_d_halvesV.len; rw [List.length_map] at hndh
 have hqdh := Sl.capLe hl_d_halvesV
 obtain ⟨Adtc,Cdtc,hvdtc⟩ := hl_d_table_connsV.form
 rw [List.length_map] at hvdtc; subst hvdtc
 have hndtc := hl_d_table_connsV.len; rw [List.length_map] at hndtc
 have hqdtc := Sl.capLe hl_d_table_connsV
 obtain ⟨Adtw,Cdtw,hvdtw⟩ := hl_d_table_waitingV.form
 rw [List.length_map] at hvdtw; subst hvdtw
 have hndtw := hl_d_table_waitingV.len; rw [List.length_map] at hndtw
 have hqdtw := Sl.capLe hl_d_table_waitingV
 refine aj (args := [.agg (cy d (.slice Adknr d.keys.now.rows.length Cdknr) (.slice Adkbr d.keys.before.rows.length Cdkbr) (.slice Adh d.halves.length Cdh) (.slice Adtc d.table.conns.length Cdtc) (.slice Adtw d.table.waiting.length Cdtw)).toArray]) (fn := Try.f17) [av (.slice Adknr d.keys.now.rows.length Cdknr) 2 (d.keys.now.rows.map a5),av (.slice Adkbr d.keys.before.rows.length Cdkbr) 2 (d.keys.before.rows.map a5),av (.slice Adh d.halves.length Cdh) 13 (d.halves.map a9),av (.slice Adtc d.table.conns.length Cdtc) 25 (d.table.conns.map ah),bx d.table.conns,av (.slice Adtw d.table.waiting.length Cdtw) 3 (d.table.waiting.map a8)] Try.func17 rfl Try.ntmps17 rfl (by simp only [List.mem_cons,List.not_mem_nil,or_false,forall_eq_or_imp,forall_eq]; exact ⟨⟨rfl,hl_d_keys_now_rowsV⟩,⟨rfl,hl_d_keys_before_rowsV⟩,⟨rfl,hl_d_halvesV⟩,⟨rfl,hl_d_table_connsV⟩,⟨rfl,hh_d_table_connsV⟩,⟨rfl,hl_d_table_waitingV⟩⟩) ?_
 refine kQ <| cY [1] ⟨[(1,.p 0 0)],[⟨51,cy d (.slice Adknr d.keys.now.rows.length Cdknr) (.slice Adkbr d.keys.before.rows.length Cdkbr) (.slice Adh d.halves.length Cdh) (.slice Adtc d.table.conns.length Cdtc) (.slice Adtw d.table.waiting.length Cdtw)⟩],[],[av (.slice Adknr d.keys.now.rows.length Cdknr) 2 (d.keys.now.rows.map a5),av (.slice Adkbr d.keys.before.rows.length Cdkbr) 2 (d.keys.before.rows.map a5),av (.slice Adh d.halves.length Cdh) 13 (d.halves.map a9),av (.slice Adtc d.table.conns.length Cdtc) 25 (d.table.conns.map ah),bx d.table.conns,av (.slice Adtw d.table.waiting.length Cdtw) 3 (d.table.waiting.map a8)]⟩ <| kS <| kQ <| ch 2 [1,4] [(4,aI d.port)] 48 [iI d.port,iI 16] (some 5) rfl (cw fun ww hf => du d.port ww) ?_
 intro _
 refine bB 2 [1,7] [(7,aB (!(ar d.port 16)))] <| kP 7 (!(ar d.port 16)) (fun h1 => ?_) (fun h1 => ?_)
 have h1n := aa h1
 refine ac [1,50] [(50,aB true)] <| kT <| kQ <| am [2] [(2,aB false)] ?_
 refine kR ?_
 exact ⟨[.bool false],by kernel_rfl,fun w' hb hf => ⟨a7 (show (false : Bool) = ax d from by first | exact hno.symm | (unfold ax; rw [hall]; simp [*]; done) | (unfold ax; simp [*]; done) | (unfold ax; simp_all; done) | (unfold ax; simp_all; omega)),hb⟩⟩
 have h1n := ak h1
 have h1nw := dj (by simpa using h1n)
 obtain ⟨h1nw0,h1nw1⟩ := h1nw
 refine ch 2 [1,7,9] [(7,aB false),(9,aI d.clock)] 48 [iI d.clock,iI 32] (some 10) rfl (cw fun ww hf => cX d.clock ww) ?_
 intro _
 refine bB 3 [1,13] [(13,aB (!(ar d.clock 32)))] <| kP 13 (!(ar d.clock 32)) (fun h2 => ?_) (fun h2 => ?_)
 have h2n := aa h2
 refine ac [1,50] [(50,aB true)] <| kT <| kQ <| am [2] [(2,aB false)] ?_
 refine kR ?_
 exact ⟨[.bool false],by kernel_rfl,fun w' hb hf => ⟨a7 (show (false : Bool) = ax d from by first | exact hno.symm | (unfold ax; rw [hall]; simp [*]; done) | (unfold ax; simp [*]; done) | (unfold ax; simp_all; done) | (unfold ax; simp_all; omega)),hb⟩⟩
 have h2n := ak h2
 refine ch 2 [1,13,15] [(13,aB false),(15,.v (.agg (cn d.keys (.slice Adknr d.keys.now.rows.length Cdknr) (.slice Adkbr d.keys.before.rows.length Cdkbr)).toArray))] 49 [.agg (cn d.keys (.slice Adknr d.keys.now.rows.length Cdknr) (.slice Adkbr d.keys.before.rows.length Cdkbr)).toArray] (some 16) rfl (bw fun ww hf => yiKeysOk_c d.keys (.slice Adknr d.keys.now.rows.length Cdknr) (.slice Adkbr d.keys.before.rows.length Cdkbr) ww (hf _ m0) (hf _ m1) ) ?_
 intro _
 refine bB 3 [1,19] [(19,aB (!(ae d.keys)))] <| kP 19 (!(ae d.keys)) (fun h3 => ?_) (fun h3 => ?_)
 have h3n := aa h3
 refine ac [1,50] [(50,aB true)] <| kT <| kQ <| am [2] [(2,aB false)] ?_
 refine kR ?_
 exact ⟨[.bool false],by kernel_rfl,fun w' hb hf => ⟨a7 (show (false : Bool) = ax d from by first | exact hno.symm | (unfold ax; rw [hall]; simp [*]; done) | (unfold ax; simp [*]; done) | (unfold ax; simp_all; done) | (unfold ax; simp_all; omega)),hb⟩⟩
 have h3n := ak h3
 refine ch 4 [1,19,21,23] [(19,aB false),(21,.v (.agg (bY d.table (.slice Adtc d.table.conns.length Cdtc) (.slice Adtw d.table.waiting.length Cdtw)).toArray)),(23,.v (.agg (bg d.lim).toArray))] 50 [.agg (bY d.table (.slice Adtc d.table.conns.length Cdtc) (.slice Adtw d.table.waiting.length Cdtw)).toArray,.agg (bg d.lim).toArray] (some 24) rfl (bw fun ww hf => yiTableOk_c d.table (.slice Adtc d.table.conns.length Cdtc) (.slice Adtw d.table.waiting.length Cdtw) d.lim ww (hf _ m3) (hf _ m4) (hf _ m5) (by assumption)) ?_
 intro _
 refine bB 3 [1,27] [(27,aB (!(aW d.table d.lim)))] <| kP 27 (!(aW d.table d.lim)) (fun h4 => ?_) (fun h4 => ?_)
 have h4n := aa h4
 refine ac [1,50] [(50,aB true)] <| kT <| kQ <| am [2] [(2,aB false)] ?_
 refine kR ?_
 exact ⟨[.bool false],by kernel_rfl,fun w' hb hf => ⟨a7 (show (false : Bool) = ax d from by first | exact hno.symm | (unfold ax; rw [hall]; simp [*]; done) | (unfold ax; simp [*]; done) | (unfold ax; simp_all; done) | (unfold ax; simp_all; omega)),hb⟩⟩
 have h4n := ak h4
 refine ch 2 [1,27,29] [(27,aB false),(29,.v (.slice Adh d.halves.length Cdh))] 51 [.slice Adh d.halves.length Cdh] (some 30) rfl (bw fun ww hf => yiHalvesOk_c d.halves (.slice Adh d.halves.length Cdh) ww (hf _ m2) ) ?_
 intro _
 refine bB 3 [1,33] [(33,aB (!(aM d.halves)))] <| kP 33 (!(aM d.halves)) (fun h5 => ?_) (fun h5 => ?_)
 have h5n := aa h5
 refine am [1,50] [(1,.p 0 0),(50,aB true)] <| kT <| kQ <| am [2] [(2,aB false)] ?_
 refine kR ?_
 exact ⟨[.bool false],by kernel_rfl,fun w' hb hf => ⟨a7 (show (false : Bool) = ax d from by first | exact hno.symm | (unfold ax; rw [hall]; simp [*]; done) | (unfold ax; simp [*]; done) | (unfold ax; simp_all; done) | (unfold ax; simp_all; omega)),hb⟩⟩
 have h5n := ak h5
 refine dn 9 [1,42] [(1,.p 0 0),(42,aB (decide (((d.halves.length : Nat) : Int) > d.lim.halves)))] <| kP 42 (decide (((d.halves.length : Nat) : Int) > d.lim.halves)) (fun h6 => ?_) (fun h6 => ?_)
 have h6p := of_decide_eq_true h6
 refine ac [1,50] [(50,aB true)] <| kT <| kQ <| am [2] [(2,aB false)] ?_
 refine kR ?_
 exact ⟨[.bool false],by kernel_rfl,fun w' hb hf => ⟨a7 (show (false : Bool) = ax d from by first | exact hno.symm | (unfold ax; rw [hall]; simp [*]; done) | (unfold ax; simp [*]; done) | (unfold ax; simp_all; done) | (unfold ax; simp_all; omega)),hb⟩⟩
 have h6p := of_decide_eq_false h6
 refine ch 5 [1,42,44,47] [(42,aB false),(44,aI d.chal),(47,aI d.lim.chal)] 52 [iI d.chal,iI 0,iI d.lim.chal] (some 48) rfl (cw fun ww hf => bk d.chal 0 d.lim.chal ww ) ?_
 intro _
 refine ac [1,50] [(50,aB (!(aX d.chal 0 d.lim.chal)))] <| kC (!(aX d.chal 0 d.lim.chal)) (fun h7 => ?_) (fun h7 => ?_)
 have h7n := aa h7
 have h7ni := inB_ff.1 (show aX d.chal 0 d.lim.chal = false from by simpa using h7n)
 refine kQ <| am [2] [(2,aB false)] <| kR ?_
 exact ⟨[.bool false],by kernel_rfl,fun w' hb hf => ⟨a7 (show (false : Bool) = ax d from by first | exact hno.symm | (unfold ax; rw [hall]; simp [*]; done) | (unfold ax; simp [*]; done) | (unfold ax; simp_all; done) | (unfold ax; simp_all; omega)),hb⟩⟩
 have h7n := ak h7
 have h7ni := inB_tt.1 (show aX d.chal 0 d.lim.chal = true from by simpa using h7n)
 refine kK <| kS <| xw_pinB 1 51 [iI d.port,iI d.clock,iI d.keys.epoch,.bool d.keys.now.use,.int .u64 d.keys.now.k,.int .u64 d.keys.now.l,.slice Adknr d.keys.now.rows.length Cdknr,.bool d.keys.before.use,.int .u64 d.keys.before.k,.int .u64 d.keys.before.l,.slice Adkbr d.keys.before.rows.length Cdkbr,.bool d.keys.two,iI d.lim.halves,iI d.lim.waiting,iI d.lim.conns,iI d.lim.chal,.slice Adh d.halves.length Cdh,.slice Adtc d.table.conns.length Cdtc,.slice Adtw d.table.waiting.length Cdtw,iI d.chal] [] rfl (by kernel_rfl) (by kernel_rfl) ?_
 intro g hg hgn
 refine kG <| kOF 0 [1] ⟨[(1,aP g)],[],[],[cellF w.heap.size g 51 [iI d.port,iI d.clock,iI d.keys.epoch,.bool d.keys.now.use,.int .u64 d.keys.now.k,.int .u64 d.keys.now.l,.slice Adknr d.keys.now.rows.length Cdknr,.bool d.keys.before.use,.int .u64 d.keys.before.k,.int .u64 d.keys.before.l,.slice Adkbr d.keys.before.rows.length Cdkbr,.bool d.keys.two,iI d.lim.halves,iI d.lim.waiting,iI d.lim.conns,iI d.lim.chal,.slice Adh d.halves.length Cdh,.slice Adtc d.table.conns.length Cdtc,.slice Adtw d.table.waiting.length Cdtw,iI d.chal],av (.slice Adknr d.keys.now.rows.length Cdknr) 2 (d.keys.now.rows.map a5),av (.slice Adkbr d.keys.before.rows.length Cdkbr) 2 (d.keys.before.rows.map a5),av (.slice Adh d.halves.length Cdh) 13 (d.halves.map a9),av (.slice Adtc d.table.conns.length Cdtc) 25 (d.table.conns.map ah),bx d.table.conns,av (.slice Adtw d.table.waiting.length Cdtw) 3 (d.table.waiting.map a8)]⟩ (.pointer (some ⟨g,16,none⟩)) rfl (fun _ _ _ ww hr => act_fld (sz := 1) (b := g) (m := 0) hr.1 rfl Try.underlying51 rfl (by kernel_rfl) rfl (by kernel_rfl) rfl) ?_
 refine kOD 0 [1,51] [] (.slice Adh d.halves.length Cdh) rfl (fun _ _ _ ww hr => ldP_run (off := 16) (B := w.heap.size) (g := g) (T := 51) (cs := [iI d.port,iI d.clock,iI d.keys.epoch,.bool d.keys.now.use,.int .u64 d.keys.now.k,.int .u64 d.keys.now.l,.slice Adknr d.keys.now.rows.length Cdknr,.bool d.keys.before.use,.int .u64 d.keys.before.k,.int .u64 d.keys.before.l,.slice Adkbr d.keys.before.rows.length Cdkbr,.bool d.keys.two,iI d.lim.halves,iI d.lim.waiting,iI d.lim.conns,iI d.lim.chal,.slice Adh d.halves.length Cdh,.slice Adtc d.table.conns.length Cdtc,.slice Adtw d.table.waiting.length Cdtw,iI d.chal]) hr rfl (by kernel_rfl) (by simp) (by kernel_rfl)) ?_
 refine kOD 0 [1,52] [] (.func (.func 54) #[] #[gP g]) rfl (fun _ _ _ ww hr => act_mkf [gP g] hr.1 rfl (by kernel_rfl) ww) ?_
 refine ch 0 [52,53] [] 53 [.slice Adh d.halves.length Cdh,.func (.func 54) #[] #[gP g]] (some 54) rfl (bw fun ww hf => yContainsFHlf_c d.halves (.slice Adh d.halves.length Cdh) g d (.slice Adknr d.keys.now.rows.length Cdknr) (.slice Adkbr d.keys.before.rows.length Cdkbr) (.slice Adh d.halves.length Cdh) (.slice Adtc d.table.conns.length Cdtc) (.slice Adtw d.table.waiting.length Cdtw) ww (hf _ m3) (hf _ m1) (hf _ m2) (hf _ m3) (hf _ m4) (hf _ m5) (hf _ m6) (hf (cellF w.heap.size g 51 [iI d.port,iI d.clock,iI d.keys.epoch,.bool d.keys.now.use,.int .u64 d.keys.now.k,.int .u64 d.keys.now.l,.slice Adknr d.keys.now.rows.length Cdknr,.bool d.keys.before.use,.int .u64 d.keys.before.k,.int .u64 d.keys.before.l,.slice Adkbr d.keys.before.rows.length Cdkbr,.bool d.keys.two,iI d.lim.halves,iI d.lim.waiting,iI d.lim.conns,iI d.lim.chal,.slice Adh d.halves.length Cdh,.slice Adtc d.table.conns.length Cdtc,.slice Adtw d.table.waiting.length Cdtw,iI d.chal]) (by simp)).2) ?_
 intro _
 refine am [2] [(2,aB (!(d.halves.any (fun h => decide (ay d.table h.t ≥ 0)))))] <| kR ?_
 exact ⟨[.bool (!(d.halves.any (fun h => decide (ay d.table h.t ≥ 0))))],by kernel_rfl,fun w' hb hf => ⟨a7 (show (!(d.halves.any (fun h => decide (ay d.table h.t ≥ 0))) : Bool) = ax d from by first | exact hno.symm | (unfold ax; rw [hall]; simp [*]; done) | (unfold ax; simp [*]; done) | (unfold ax; simp_all; done) | (unfold ax; simp_all; omega)),hb⟩⟩
end Go.Proofs.Ytfidgfddgmppdaa
