/- The law FnWaiting holds: for every argument the program's function answers true and leaves its arguments as they were. Conditions: none beyond the given row's. -/
import Derived.Test.YtccijpdjfelbmaaZ4
import Derived.Test.YtccijpdjfelbmaaG2
namespace Go.Proofs.Ytccijpdjfelbmaa
open Go.RowKit Go.ChangeShapes Go.WideShapes Go.ChangeAt
set_option linter.unusedVariables false
set_option linter.unusedSimpArgs false

set_option maxRecDepth 100000 in
set_option maxHeartbeats 2000000 in
theorem fnWaiting_walk (J : List Int) (codeV : Value) (w : World) (hl_codeV : Sl w codeV 1 (J.map bR)) : Calls Try.prog 3 #[codeV] w fun e w' => e = .returned (.bool true) ∧ Below w.heap.size w w' := by
 obtain ⟨Ac,Cc,hvc⟩ := hl_codeV.form
 rw [List.length_map] at hvc; subst hvc
 have hnc := hl_codeV.len; rw [List.length_map] at hnc
 have hqc := Sl.capLe hl_codeV
 refine cn (args := [.slice Ac J.length Cc]) (fn := Try.f3) [bz (.slice Ac J.length Cc) 1 (J.map bR)] Try.func3 rfl Try.ntmps3 rfl (by simp only [List.mem_cons,List.not_mem_nil,or_false,forall_eq_or_imp,forall_eq]; exact ⟨rfl,hl_codeV⟩) ?_
 refine kQ <| cv [0] ⟨[(0,.v (.slice Ac J.length Cc))],[],[],[bz (.slice Ac J.length Cc) 1 (J.map bR)]⟩ <| kS <| kQ <| dZ 1 [0,10] [(10,.v (.slice Ac J.length Cc))] 4 [.slice Ac J.length Cc] (some 11) rfl (br fun ww hf => big_c J Ac Cc ww (hf _ m0)) ?_
 intro _
 refine aU [0,11] [] <| kC (decide (((J.length : Nat) : Int) > 1048576)) (fun h1 => ?_) (fun h1 => ?_)
 have h1p := of_decide_eq_true h1
 refine kQ <| aD [2] [(2,aB true)] <| kR ?_
 exact ⟨[.bool true],by kernel_rfl,fun w' hb hf => ⟨rfl,hb⟩⟩
 have h1p := of_decide_eq_false h1
 have hbig : J.length ≤ 1048576 := by simp at h1; omega
 refine kK <| kQ <| em 1 [12] [(12,.v (.slice Ac J.length Cc))] 5 [.slice Ac J.length Cc] (some 13) rfl (cm fun ww hw hf => drawTakeWaiting_c J Ac Cc ww (hf _ m0) (by omega) w.heap.size hw) ?_
 rintro ⟨⟨d2l,⟨d2A,d2C⟩,d2w,⟨d2D,d2E⟩⟩,hfit_d2l,hlen_d2l,hwl_d2l⟩
 dsimp only at hfit_d2l hlen_d2l hwl_d2l
 dsimp only
 refine kEA [3] [(3,.p 0 0)] [⟨27,[.slice d2A d2l.length d2C,.slice d2D d2w.length d2E]⟩] <| kQ <| dZ 1 [3,15] [(15,.v (.agg #[.slice d2A d2l.length d2C,.slice d2D d2w.length d2E]))] 6 [.agg #[.slice d2A d2l.length d2C,.slice d2D d2w.length d2E]] (some 16) rfl (cm fun ww hw hf => yiTakeWaiting_c (⟨d2l,d2w⟩) (.slice d2A d2l.length d2C) (.slice d2D d2w.length d2E) ww (au (hf _ m0)) (hwF_sl (hf _ m1)) (au (hf _ m2)) (by first | assumption | (dsimp only; assumption)) (by first | assumption | omega | (dsimp only; omega)) (by first | assumption | omega | (dsimp only; omega)) w.heap.size hw) ?_
 rintro ⟨⟨t3l,ht3l⟩,⟨t3a,t3c⟩,⟨t3d,t3e⟩⟩
 dsimp only
 refine kEA [3,4,5,6] [(4,.p 1 0),(5,.p 2 0),(6,aB (!d2w.isEmpty))] [⟨27,[.slice t3a t3l.length t3c,.slice t3d ((cq (⟨d2l,d2w⟩)).length) t3e]⟩,⟨30,bV (d2w.headD ⟨0,0,0⟩)⟩] <| kQ <| dZ 1 [3,4,5,6,21] [(21,.v (.agg #[.slice d2A d2l.length d2C,.slice d2D d2w.length d2E]))] 7 [.agg #[.slice d2A d2l.length d2C,.slice d2D d2w.length d2E]] (some 22) rfl (cm fun ww hw hf => ysTakeWaiting_c (⟨d2l,d2w⟩) (.slice d2A d2l.length d2C) (.slice d2D d2w.length d2E) ww (au (hf _ m3)) (hwF_sl (hf _ m4)) (au (hf _ m5)) (by first | assumption | (dsimp only; assumption)) (by first | assumption | omega | (dsimp only; omega)) (by first | assumption | omega | (dsimp only; omega)) w.heap.size hw) ?_
 rintro ⟨⟨t4l,ht4l⟩,⟨t4a,t4c⟩,⟨t4d,t4e⟩⟩
 dsimp only
 refine kEA [3,4,5,6,7,8,9] [(7,.p 3 0),(8,.p 4 0),(9,aB (!d2w.isEmpty))] [⟨27,[.slice t4a t4l.length t4c,.slice t4d ((cq (⟨d2l,d2w⟩)).length) t4e]⟩,⟨30,bV (d2w.headD ⟨0,0,0⟩)⟩] <| kS <| kQ <| dK 4 [3,4,5,6,7,8,29] [(29,aB (!((!d2w.isEmpty) == (!d2w.isEmpty))))] ?_
 refine kP 29 (!((!d2w.isEmpty) == (!d2w.isEmpty))) (fun h5 => ?_) (fun h5 => ?_)
 have h5n := co h5
 simp at h5n
 have h5n := bj h5
 have h5np := cN h5n
 refine fD 2 [3,4,5,6,7,29,30,31] [(29,aB false),(30,.v (.agg (bV (d2w.headD ⟨0,0,0⟩)).toArray)),(31,.v (.agg (bV (d2w.headD ⟨0,0,0⟩)).toArray))] (.bool (!bG (d2w.headD ⟨0,0,0⟩) (d2w.headD ⟨0,0,0⟩))) rfl (fun _ _ _ ww hr => ck hr.1 rfl (by kernel_rfl) (by kernel_rfl) (fl (by kernel_rfl) (run_neq_TUP ((d2w.headD ⟨0,0,0⟩).ip) ((d2w.headD ⟨0,0,0⟩).port) ((d2w.headD ⟨0,0,0⟩).my) ((d2w.headD ⟨0,0,0⟩).ip) ((d2w.headD ⟨0,0,0⟩).port) ((d2w.headD ⟨0,0,0⟩).my) ww))) ?_
 refine dK 2 [3,4,5,6,7,34] [(34,aB (!bG (d2w.headD ⟨0,0,0⟩) (d2w.headD ⟨0,0,0⟩)))] <| kP 34 (!bG (d2w.headD ⟨0,0,0⟩) (d2w.headD ⟨0,0,0⟩)) (fun h6 => ?_) (fun h6 => ?_)
 exfalso; rw [tupEq_refl] at h6; cases h6
 refine dZ 2 [3,4,5,6,34,35,36] [(34,aB false),(35,.v (.agg #[.slice t3a t3l.length t3c,.slice t3d ((cq (⟨d2l,d2w⟩)).length) t3e])),(36,.v (.agg #[.slice t4a t4l.length t4c,.slice t4d ((cq (⟨d2l,d2w⟩)).length) t4e]))] 8 [.agg #[.slice t3a t3l.length t3c,.slice t3d ((cq (⟨d2l,d2w⟩)).length) t3e],.agg #[.slice t4a t4l.length t4c,.slice t4d ((cq (⟨d2l,d2w⟩)).length) t4e]] (some 37) rfl (br fun ww hf => ysSameTable_c (⟨t3l,(cq (⟨d2l,d2w⟩))⟩) (.slice t3a t3l.length t3c) (.slice t3d ((cq (⟨d2l,d2w⟩)).length) t3e) (⟨t4l,(cq (⟨d2l,d2w⟩))⟩) (.slice t4a t4l.length t4c) (.slice t4d ((cq (⟨d2l,d2w⟩)).length) t4e) ww (au (hf _ m3)) (hownF_sl (hf _ m4)) (Own.sl (hf _ m5)) (au (hf _ m0)) (hownF_sl (hf _ m1)) (au (hf _ m2)) ) ?_
 intro _
 refine aU [3,4,5,6,39] [(39,aB (!(aO (⟨t3l,(cq (⟨d2l,d2w⟩))⟩) (⟨t4l,(cq (⟨d2l,d2w⟩))⟩))))] <| kC (!(aO (⟨t3l,(cq (⟨d2l,d2w⟩))⟩) (⟨t4l,(cq (⟨d2l,d2w⟩))⟩))) (fun h7 => ?_) (fun h7 => ?_)
 have h7n := co h7
 exfalso; rw [sameTable_eq (by dsimp only; exact (ht3l).trans (ht4l).symm) (by first | rfl | exact hputw | exact hputw.symm)] at h7n; cases h7n
 have h7n := bj h7
 refine kK <| kS <| kQ <| aD [3,4,5,41] [(3,.p 0 0),(4,.p 1 0),(5,.p 2 0),(41,aB (!(!d2w.isEmpty)))] ?_
 refine kC (!(!d2w.isEmpty)) (fun h8 => ?_) (fun h8 => ?_)
 have h8n := co h8
 have hem : d2w.isEmpty = true := nemp_f h8n
 have hnil : d2w = [] := List.isEmpty_iff.1 hem
 refine kQ <| aD [2] [(2,aB (((d2w.length : Nat) : Int) == 0))] <| kR ?_
 exact ⟨[.bool (((d2w.length : Nat) : Int) == 0)],by kernel_rfl,fun w' hb hf => ⟨aS (show (((d2w.length : Nat) : Int) == 0 : Bool) = true from by first | (rw [hnil]; rfl) | (have hq := pl_len (by assumption : pl t3l = _); dsimp only at hq; rw [hq]; simp) | (simp_all; done)),hb⟩⟩
 have h8n := bj h8
 have hem : d2w.isEmpty = false := nemp_t h8n
 have hpos : 0 < d2w.length := by cases hw : d2w with | nil => rw [hw] at hem; cases hem | cons y r => simp
 obtain ⟨x,hx⟩ : ∃ x,d2w[0]? = some x := ⟨_,List.getElem?_eq_getElem hpos⟩
 have hhd : d2w.headD ⟨0,0,0⟩ = x := by cases hw : d2w with | nil => rw [hw] at hx; cases hx | cons y r => rw [hw] at hx; simpa using hx
 have htwl : (cq ⟨d2l,d2w⟩).length = d2w.length - 1 := (takeW_len ⟨d2l,d2w⟩).symm
 refine kK <| kS <| d4 <| dm (K := 3) (j := 0) [iI x.ip,iI x.port,iI x.my] (a9 w.heap.size 30 3 (.slice d2D d2w.length d2E) (d2w.map a8)) (fun _ _ h => h) (by simp) (fun w h => au h) (fun b h => bl (B' := 0) h) (by simp only [List.getElem?_map,hx]; rfl) (fun bq9 offq9 hAq9 => ?_)
 refine cl [] (by kernel_rfl) (fun ρ σ hq10 => ?_)
 refine cK [0,1,2] [48,46,3,4] 23 [(48,.v (.slice d2D d2w.length d2E)),(46,.v (.agg (bV (d2w.headD ⟨0,0,0⟩)).toArray)),(3,.p 0 0),(4,.p 1 0)] <| cO (kd := .i64) (T := 25) (e := 30) (K := 3) (j := 0) (A := d2D) (len := d2w.length) (cap := d2E) 3 0 _ rfl (by kernel_rfl) (by kernel_rfl) (by kernel_rfl) (fun _ _ h => h) (by kernel_rfl) rfl rfl (by kernel_rfl) (by kernel_rfl) (by kernel_rfl) (by kernel_rfl) hpos hAq9 hq10.2 (by kernel_rfl) rfl ?_
 refine cK [4] [50,46,3,4] 21 [(50,.v (.agg (bV x).toArray)),(46,.v (.agg (bV (d2w.headD ⟨0,0,0⟩)).toArray)),(3,.p 0 0),(4,.p 1 0)] <| kX 5 (.bool (bG (d2w.headD ⟨0,0,0⟩) x)) rfl (fun _ _ ww hA => ck hA rfl (by kernel_rfl) (by kernel_rfl) (fl (by kernel_rfl) (fI ((d2w.headD ⟨0,0,0⟩).ip) ((d2w.headD ⟨0,0,0⟩).port) ((d2w.headD ⟨0,0,0⟩).my) x.ip x.port x.my ww))) ?_
 refine cK [6] [52,3,4] 19 [(52,aB (bG (d2w.headD ⟨0,0,0⟩) x)),(3,.p 0 0),(4,.p 1 0)] <| kY 52 (bG (d2w.headD ⟨0,0,0⟩) x) (fun h11 => ?_) (fun h11 => ?_)
 refine cK [7,8,9,10,11,12,13,14,15,16] [62,3,4] 9 [(62,aB ((((cq (⟨d2l,d2w⟩)).length : Nat) : Int) == (K6.wrap (((d2w.length : Nat) : Int) - 1)))),(3,.p 0 0),(4,.p 1 0)] <| xe_nv [62,3,4] [(62,aB ((((cq (⟨d2l,d2w⟩)).length : Nat) : Int) == (K6.wrap (((d2w.length : Nat) : Int) - 1))))] [(62,aB ((((cq (⟨d2l,d2w⟩)).length : Nat) : Int) == (((d2w.length : Nat) : Int) - 1)))] (by rw [show (K6.wrap (((d2w.length : Nat) : Int) - 1)) = (((d2w.length : Nat) : Int) - 1) from al (by omega) (by omega)]) (by kernel_rfl) ?_
 refine kY 62 ((((cq (⟨d2l,d2w⟩)).length : Nat) : Int) == (((d2w.length : Nat) : Int) - 1)) (fun h12 => ?_) (fun h12 => ?_)
 have h12p := cN h12
 refine cK [17,18,19,20,21,22,23,24,25] [2] 0 [(2,aB (((t3l.length : Nat) : Int) == ((d2l.length : Nat) : Int)))] <| kZ <| kR ?_
 exact ⟨[.bool (((t3l.length : Nat) : Int) == ((d2l.length : Nat) : Int))],by kernel_rfl,fun w' hb hf => ⟨aS (show (((t3l.length : Nat) : Int) == ((d2l.length : Nat) : Int) : Bool) = true from by first | (rw [hnil]; rfl) | (have hq := pl_len (by assumption : pl t3l = _); dsimp only at hq; rw [hq]; simp) | (simp_all; done)),hb⟩⟩
 have h12p := cI h12
 exfalso; have hq := cI h12; omega
 exfalso; rw [hhd,tupEq_refl] at h11; cases h11

set_option maxRecDepth 100000 in
theorem fnWaiting_lifted (os : Os) (started : os.Started) (H : Type) (enc : TypeId × Value → H) :
    ReturnsInHanded {} Try.checked os 3 .any (Rows.fnWaitingSpec.pre6 enc Try.prog Try.f3 Rows.fnWaitingRow.domain false) (Rows.fnWaitingSpec.post enc Try.prog Try.f3 false true false false) := by
  refine returnsInHanded_of_change (C := Try.checked) Try.ownK started (by kernel_rfl) Try.func3
    (ChangeSpec.witness6 (enc := enc) (C := Try.checked) false ⟨#[], #[.slice none 0 0], []⟩ 8 (by kernel_rfl) (by kernel_rfl) (by kernel_rfl) (by kernel_rfl)) ?_
  intro W base args ds gs before hval0 hW hcnd _
  have hval : ∀ (j : Nat) t v, Try.f3.params[j]? = some t → args[j]? = some v → Value.okWide Try.prog W .any base t v := hval0
  have hW' := hW
  obtain ⟨p, q, hA0, hV, rfl, hfz, hnd⟩ := hW
  have hA : DataW.TrodAll enc Try.prog W 0 (fun _ => true) true Try.f3.params.toList args.toList ds p := hA0
  rw [Try.params3] at hA hval
  obtain ⟨v0, vs0, d0, ds0, p0, q0, hargs, rfl, rfl, h0, r0⟩ := trodAll_cons hA
  obtain ⟨rfl, rfl, rfl⟩ := trodAll_nil r0
  obtain rfl : args = #[v0] := by cases args; simp_all
  obtain ⟨rfl, rfl⟩ := trodVars_none hV
  clear hA0 hval0
  have g0 := h0
  obtain ⟨l0, L0⟩ := openS_byte (hval 0 _ v0 rfl rfl) g0
  refine (fnWaiting_walk l0 v0 W L0).mono fun e W' ⟨he, hb⟩ => ?_
  subst he
  have hlt : ∀ x ∈ (p0 ++ ([])) ++ [], x.block < W.heap.size := fun x hx => hW'.lt x hx
  refine ⟨_, rfl, post_of_below (pa := (p0 ++ ([]))) (pv := []) hW' (fun _ _ _ => trodAll_cons_mk (shut_bool Try.underlying4 _) trodAll_mk0) (fun sp hsp => trodAll_cons_mk (WideElems.Trod_stays Try.laidOut (by kernel_rfl) (of_decide_eq_true (by kernel_rfl)) h0 (fun x hx => hb.same (hlt x (List.mem_append_left _ (List.mem_append_left _ hx)))) (fun x hx => hsp x (List.mem_append_left _ (List.mem_append_left _ hx)))) (trodAll_mk0)) (fun _ _ => rfl) rfl hb (ok_one (by kernel_rfl) rfl (okWide_bool_mk Try.underlying4 _))⟩

theorem fnWaiting_over : Rows.fnWaitingRow.holds Try.pinned (OpenSpec.ofChange Rows.fnWaitingSpec) :=
  OpenClaim.holds_of_wide 3 Try.f3 rfl rfl rfl rfl rfl rfl rfl ⟨rfl, rfl, rfl, rfl, rfl⟩ rfl rfl rfl rfl rfl (by kernel_rfl) Try.func3 (by kernel_rfl)
    (of_decide_eq_true (by kernel_rfl)) (by unfold Func.isWrapper; first | (rw [if_pos (by decide +kernel)]; kernel_rfl) | (rw [if_neg (by decide +kernel)]; exact ⟨rfl, rfl⟩))
    (fun os started H enc _ => fnWaiting_lifted os started H enc)

theorem fnWaiting_holds : Rows.FnWaitingSaid := fnWaiting_over
#print axioms fnWaiting_holds
end Go.Proofs.Ytccijpdjfelbmaa
