/- The law FnExactSameHalves holds: for every argument the program's function answers true and leaves its arguments as they were. Conditions: none beyond the given row's. -/
import Derived.Test.YtomllckfbkiolaaH1
import Derived.Test.YtomllckfbkiolaaSHalf
import Derived.Test.YtomllckfbkiolaaOS
namespace Go.Proofs.Ytomllckfbkiolaa
open Go.RowKit Go.ChangeShapes Go.WideShapes Go.ChangeAt
attribute [local go_sem] lt_gap le_gap eq_gap gap_eq
set_option linter.unusedVariables false
set_option linter.unusedSimpArgs false

set_option maxHeartbeats 1000000 in
theorem fnExactSameHalves_walk (v : Value) (l : List Hlf) (u : Value) (m : List Hlf) (w : World) (L : Sl w v 13 (l.map hlfCells)) (M : Sl w u 13 (m.map hlfCells)) :
    Calls Try.prog 9 #[v, u] w fun e w' => e = .returned (.bool true) ∧ Below w.heap.size w w' := by
  have HL := Lib.hid L; have HM := Lib.hid M; clear L M
  by_cases hn : (1048576 : Int) < l.length
  · go_enter Try.func9, Try.ntmps9
    go_wp2_with (go_at_call 25; with_reducible refine (szHalfS_c _ l _ _ HL.out (by omega) (by omega)).mono ?_; rintro e w1 ⟨rfl, rfl⟩; rw [if_pos (by omega)])
    refine bodyPost_ret (v := .bool true) (by simp [results, Try.results9]) rfl ⟨rfl, ?_⟩
    (repeat' (first | (with_reducible exact Below.refl _ _) | (with_reducible refine Below.alloc ?_ ?_ _) | (with_reducible refine Below.setCell ?_ ?_ _) | (with_reducible refine Below.drew ?_) | (with_reducible refine bdrewN ?_ _) | (with_reducible refine bstep ?_ (by assumption) ?_) | (simp only [World.size_alloc, World.size_setCell, World.size_drew, World.heap_drewN]; omega) | omega))
  have hn2 : (0 : Int) ≤ 1048576 - l.length := by omega
  by_cases hn3 : (1048576 : Int) - l.length < m.length
  · go_enter Try.func9, Try.ntmps9
    go_wp2_with fail
    refine (szHalfS_c _ l _ _ HL.out (by omega) (by omega)).mono ?_; rintro e w1 ⟨rfl, rfl⟩; rw [if_neg (by omega)]
    go_wp2_with fail
    refine (szHalfS_c _ m _ _ HM.out (by omega) (by omega)).mono ?_; rintro e w1 ⟨rfl, rfl⟩; rw [if_pos (by omega)]
    go_wp2_with fail
    refine bodyPost_ret (v := .bool true) (by simp [results, Try.results9]) rfl ⟨rfl, ?_⟩
    (repeat' (first | (with_reducible exact Below.refl _ _) | (with_reducible refine Below.alloc ?_ ?_ _) | (with_reducible refine Below.setCell ?_ ?_ _) | (with_reducible refine Below.drew ?_) | (with_reducible refine bdrewN ?_ _) | (with_reducible refine bstep ?_ (by assumption) ?_) | (simp only [World.size_alloc, World.size_setCell, World.size_drew, World.heap_drewN]; omega) | omega))
  · have hn4 : (0 : Int) ≤ 1048576 - l.length - m.length := by omega
    go_enter Try.func9, Try.ntmps9
    go_wp2_with fail
    refine (szHalfS_c _ l _ _ HL.out (by omega) (by omega)).mono ?_; rintro e w1 ⟨rfl, rfl⟩; rw [if_neg (by omega)]
    go_wp2_with fail
    refine (szHalfS_c _ m _ _ HM.out (by omega) (by omega)).mono ?_; rintro e w1 ⟨rfl, rfl⟩; rw [if_neg (by omega)]
    go_wp2_with fail
    refine (toHalfS_c _ l _ (HL.out.kept (by (repeat' (first | (with_reducible exact Below.refl _ _) | (with_reducible refine Below.alloc ?_ ?_ _) | (with_reducible refine Below.setCell ?_ ?_ _) | (with_reducible refine Below.drew ?_) | (with_reducible refine bdrewN ?_ _) | (with_reducible refine bstep ?_ (by assumption) ?_) | (simp only [World.size_alloc, World.size_setCell, World.size_drew, World.heap_drewN]; omega) | omega))) (Nat.le_refl _)) (by omega)).mono ?_
    rintro e w1 ⟨v1, rfl, hO1, hb1⟩
    obtain ⟨k1, hk1, hc1, hf1⟩ := after hb1 (by (try simp only [World.size_alloc, World.size_setCell, World.size_drew, World.heap_drewN, *]); rfl)
    go_wp2_with fail
    refine (toHalfS_c _ m _ (HM.out.kept (by (repeat' (first | (with_reducible exact Below.refl _ _) | (with_reducible refine Below.alloc ?_ ?_ _) | (with_reducible refine Below.setCell ?_ ?_ _) | (with_reducible refine Below.drew ?_) | (with_reducible refine bdrewN ?_ _) | (with_reducible refine bstep ?_ (by assumption) ?_) | (simp only [World.size_alloc, World.size_setCell, World.size_drew, World.heap_drewN]; omega) | omega))) (Nat.le_refl _)) (by omega)).mono ?_
    rintro e w2 ⟨v2, rfl, hO2, hb2⟩
    obtain ⟨k2, hk2, hc2, hf2⟩ := after hb2 (by (try simp only [World.size_alloc, World.size_setCell, World.size_drew, World.heap_drewN, *]); rfl)
    go_wp2_with fail
    refine (sSameHalves_c _ _ l m _ (hO1.sl.kept (by (repeat' (first | (with_reducible exact Below.refl _ _) | (with_reducible refine Below.alloc ?_ ?_ _) | (with_reducible refine Below.setCell ?_ ?_ _) | (with_reducible refine Below.drew ?_) | (with_reducible refine bdrewN ?_ _) | (with_reducible refine bstep ?_ (by assumption) ?_) | (simp only [World.size_alloc, World.size_setCell, World.size_drew, World.heap_drewN]; omega) | omega))) (Nat.le_refl _)) (hO2.sl.kept (by (repeat' (first | (with_reducible exact Below.refl _ _) | (with_reducible refine Below.alloc ?_ ?_ _) | (with_reducible refine Below.setCell ?_ ?_ _) | (with_reducible refine Below.drew ?_) | (with_reducible refine bdrewN ?_ _) | (with_reducible refine bstep ?_ (by assumption) ?_) | (simp only [World.size_alloc, World.size_setCell, World.size_drew, World.heap_drewN]; omega) | omega))) (Nat.le_refl _))).mono ?_
    rintro e w3 ⟨rfl, hb3⟩
    obtain ⟨k3, hk3, hc3, hf3⟩ := after hb3 (by (try simp only [World.size_alloc, World.size_setCell, World.size_drew, World.heap_drewN, *]); rfl)
    go_wp2_with fail
    refine (toHalfS_c _ l _ (HL.out.kept (by (repeat' (first | (with_reducible exact Below.refl _ _) | (with_reducible refine Below.alloc ?_ ?_ _) | (with_reducible refine Below.setCell ?_ ?_ _) | (with_reducible refine Below.drew ?_) | (with_reducible refine bdrewN ?_ _) | (with_reducible refine bstep ?_ (by assumption) ?_) | (simp only [World.size_alloc, World.size_setCell, World.size_drew, World.heap_drewN]; omega) | omega))) (Nat.le_refl _)) (by omega)).mono ?_
    rintro e w4 ⟨v4, rfl, hO4, hb4⟩
    obtain ⟨k4, hk4, hc4, hf4⟩ := after hb4 (by (try simp only [World.size_alloc, World.size_setCell, World.size_drew, World.heap_drewN, *]); rfl)
    go_wp2_with fail
    refine (toHalfS_c _ m _ (HM.out.kept (by (repeat' (first | (with_reducible exact Below.refl _ _) | (with_reducible refine Below.alloc ?_ ?_ _) | (with_reducible refine Below.setCell ?_ ?_ _) | (with_reducible refine Below.drew ?_) | (with_reducible refine bdrewN ?_ _) | (with_reducible refine bstep ?_ (by assumption) ?_) | (simp only [World.size_alloc, World.size_setCell, World.size_drew, World.heap_drewN]; omega) | omega))) (Nat.le_refl _)) (by omega)).mono ?_
    rintro e w5 ⟨v5, rfl, hO5, hb5⟩
    obtain ⟨k5, hk5, hc5, hf5⟩ := after hb5 (by (try simp only [World.size_alloc, World.size_setCell, World.size_drew, World.heap_drewN, *]); rfl)
    go_wp2_with fail
    refine (iSameHalves_c _ _ l m _ (hO4.sl.kept (by (repeat' (first | (with_reducible exact Below.refl _ _) | (with_reducible refine Below.alloc ?_ ?_ _) | (with_reducible refine Below.setCell ?_ ?_ _) | (with_reducible refine Below.drew ?_) | (with_reducible refine bdrewN ?_ _) | (with_reducible refine bstep ?_ (by assumption) ?_) | (simp only [World.size_alloc, World.size_setCell, World.size_drew, World.heap_drewN]; omega) | omega))) (Nat.le_refl _)) (hO5.sl.kept (by (repeat' (first | (with_reducible exact Below.refl _ _) | (with_reducible refine Below.alloc ?_ ?_ _) | (with_reducible refine Below.setCell ?_ ?_ _) | (with_reducible refine Below.drew ?_) | (with_reducible refine bdrewN ?_ _) | (with_reducible refine bstep ?_ (by assumption) ?_) | (simp only [World.size_alloc, World.size_setCell, World.size_drew, World.heap_drewN]; omega) | omega))) (Nat.le_refl _))).mono ?_
    rintro e w6 ⟨rfl, hb6⟩
    obtain ⟨k6, hk6, hc6, hf6⟩ := after hb6 (by (try simp only [World.size_alloc, World.size_setCell, World.size_drew, World.heap_drewN, *]); rfl)
    go_wp2_with fail
    refine (toHalfS_c _ l _ (HL.out.kept (by (repeat' (first | (with_reducible exact Below.refl _ _) | (with_reducible refine Below.alloc ?_ ?_ _) | (with_reducible refine Below.setCell ?_ ?_ _) | (with_reducible refine Below.drew ?_) | (with_reducible refine bdrewN ?_ _) | (with_reducible refine bstep ?_ (by assumption) ?_) | (simp only [World.size_alloc, World.size_setCell, World.size_drew, World.heap_drewN]; omega) | omega))) (Nat.le_refl _)) (by omega)).mono ?_
    rintro e w7 ⟨v7, rfl, hO7, hb7⟩
    obtain ⟨k7, hk7, hc7, hf7⟩ := after hb7 (by (try simp only [World.size_alloc, World.size_setCell, World.size_drew, World.heap_drewN, *]); rfl)
    go_wp2_with fail
    refine (eqHalfS_c _ _ l _ (hO4.sl.kept (by (repeat' (first | (with_reducible exact Below.refl _ _) | (with_reducible refine Below.alloc ?_ ?_ _) | (with_reducible refine Below.setCell ?_ ?_ _) | (with_reducible refine Below.drew ?_) | (with_reducible refine bdrewN ?_ _) | (with_reducible refine bstep ?_ (by assumption) ?_) | (simp only [World.size_alloc, World.size_setCell, World.size_drew, World.heap_drewN]; omega) | omega))) (Nat.le_refl _)) (hO7.sl.kept (by (repeat' (first | (with_reducible exact Below.refl _ _) | (with_reducible refine Below.alloc ?_ ?_ _) | (with_reducible refine Below.setCell ?_ ?_ _) | (with_reducible refine Below.drew ?_) | (with_reducible refine bdrewN ?_ _) | (with_reducible refine bstep ?_ (by assumption) ?_) | (simp only [World.size_alloc, World.size_setCell, World.size_drew, World.heap_drewN]; omega) | omega))) (Nat.le_refl _))).mono ?_
    rintro e w8 ⟨rfl, hb8⟩
    obtain ⟨k8, hk8, hc8, hf8⟩ := after hb8 (by (try simp only [World.size_alloc, World.size_setCell, World.size_drew, World.heap_drewN, *]); rfl)
    go_wp2_with fail
    refine (toHalfS_c _ m _ (HM.out.kept (by (repeat' (first | (with_reducible exact Below.refl _ _) | (with_reducible refine Below.alloc ?_ ?_ _) | (with_reducible refine Below.setCell ?_ ?_ _) | (with_reducible refine Below.drew ?_) | (with_reducible refine bdrewN ?_ _) | (with_reducible refine bstep ?_ (by assumption) ?_) | (simp only [World.size_alloc, World.size_setCell, World.size_drew, World.heap_drewN]; omega) | omega))) (Nat.le_refl _)) (by omega)).mono ?_
    rintro e w9 ⟨v9, rfl, hO9, hb9⟩
    obtain ⟨k9, hk9, hc9, hf9⟩ := after hb9 (by (try simp only [World.size_alloc, World.size_setCell, World.size_drew, World.heap_drewN, *]); rfl)
    go_wp2_with fail
    refine (eqHalfS_c _ _ m _ (hO5.sl.kept (by (repeat' (first | (with_reducible exact Below.refl _ _) | (with_reducible refine Below.alloc ?_ ?_ _) | (with_reducible refine Below.setCell ?_ ?_ _) | (with_reducible refine Below.drew ?_) | (with_reducible refine bdrewN ?_ _) | (with_reducible refine bstep ?_ (by assumption) ?_) | (simp only [World.size_alloc, World.size_setCell, World.size_drew, World.heap_drewN]; omega) | omega))) (Nat.le_refl _)) (hO9.sl.kept (by (repeat' (first | (with_reducible exact Below.refl _ _) | (with_reducible refine Below.alloc ?_ ?_ _) | (with_reducible refine Below.setCell ?_ ?_ _) | (with_reducible refine Below.drew ?_) | (with_reducible refine bdrewN ?_ _) | (with_reducible refine bstep ?_ (by assumption) ?_) | (simp only [World.size_alloc, World.size_setCell, World.size_drew, World.heap_drewN]; omega) | omega))) (Nat.le_refl _))).mono ?_
    rintro e w10 ⟨rfl, hb10⟩
    obtain ⟨k10, hk10, hc10, hf10⟩ := after hb10 (by (try simp only [World.size_alloc, World.size_setCell, World.size_drew, World.heap_drewN, *]); rfl)
    go_wp2_with fail
    refine bodyPost_ret (v := .bool true) (by simp [results, Try.results9]) rfl ⟨rfl, ?_⟩
    (repeat' (first | (with_reducible exact Below.refl _ _) | (with_reducible refine Below.alloc ?_ ?_ _) | (with_reducible refine Below.setCell ?_ ?_ _) | (with_reducible refine Below.drew ?_) | (with_reducible refine bdrewN ?_ _) | (with_reducible refine bstep ?_ (by assumption) ?_) | (simp only [World.size_alloc, World.size_setCell, World.size_drew, World.heap_drewN]; omega) | omega))

set_option maxRecDepth 100000 in
theorem fnExactSameHalves_lifted (os : Os) (started : os.Started) (H : Type) (enc : TypeId × Value → H) :
    ReturnsInHanded {} Try.checked os 9 .any (Rows.fnExactSameHalvesSpec.pre6 enc Try.prog Try.f9 Rows.fnExactSameHalvesRow.domain false) (Rows.fnExactSameHalvesSpec.post enc Try.prog Try.f9 false true false false) := by
  refine returnsInHanded_of_change (C := Try.checked) Try.ownK started (by kernel_rfl) Try.func9
    (ChangeSpec.witness6 (enc := enc) (C := Try.checked) false ⟨#[], #[.slice none 0 0, .slice none 0 0], []⟩ 8 (by kernel_rfl) (by kernel_rfl) (by kernel_rfl) (by kernel_rfl)) ?_
  intro W base args ds gs before hval0 hW hcnd _
  have hval : ∀ (j : Nat) t v, Try.f9.params[j]? = some t → args[j]? = some v → Value.okWide Try.prog W .any base t v := hval0
  have hW' := hW
  obtain ⟨p, q, hA0, hV, rfl, hfz, hnd⟩ := hW
  have hA : DataW.TrodAll enc Try.prog W 0 (fun _ => true) true Try.f9.params.toList args.toList ds p := hA0
  rw [Try.params9] at hA hval
  obtain ⟨v0, vs0, d0, ds0, p0, q0, hargs, rfl, rfl, h0, r0⟩ := trodAll_cons hA
  obtain ⟨v1, vs1, d1, ds1, p1, q1, rfl, rfl, rfl, h1, r1⟩ := trodAll_cons r0
  obtain ⟨rfl, rfl, rfl⟩ := trodAll_nil r1
  obtain rfl : args = #[v0, v1] := by cases args; simp_all
  obtain ⟨rfl, rfl⟩ := trodVars_none hV
  clear hA0 hval0
  have g0 := h0
  have g1 := h1
  obtain ⟨l0, L0⟩ := openS_HLF (hval 0 _ v0 rfl rfl) g0
  obtain ⟨l1, L1⟩ := openS_HLF (hval 1 _ v1 rfl rfl) g1
  refine (fnExactSameHalves_walk v0 l0 v1 l1 W L0 L1).mono fun e W' ⟨he, hb⟩ => ?_
  subst he
  have hlt : ∀ x ∈ (p0 ++ (p1 ++ ([]))) ++ [], x.block < W.heap.size := fun x hx => hW'.lt x hx
  refine ⟨_, rfl, post_of_below (pa := (p0 ++ (p1 ++ ([])))) (pv := []) hW' (fun _ _ _ => trodAll_cons_mk (shut_bool Try.underlying4 _) trodAll_mk0) (fun sp hsp => trodAll_cons_mk (WideElems.Trod_stays Try.laidOut (by kernel_rfl) (of_decide_eq_true (by kernel_rfl)) h0 (fun x hx => hb.same (hlt x (List.mem_append_left _ (List.mem_append_left _ hx)))) (fun x hx => hsp x (List.mem_append_left _ (List.mem_append_left _ hx)))) (trodAll_cons_mk (WideElems.Trod_stays Try.laidOut (by kernel_rfl) (of_decide_eq_true (by kernel_rfl)) h1 (fun x hx => hb.same (hlt x (List.mem_append_left _ (List.mem_append_right _ (List.mem_append_left _ hx))))) (fun x hx => hsp x (List.mem_append_left _ (List.mem_append_right _ (List.mem_append_left _ hx))))) (trodAll_mk0))) (fun _ _ => rfl) rfl hb (ok_one (by kernel_rfl) rfl (okWide_bool_mk Try.underlying4 _))⟩

theorem fnExactSameHalves_over : Rows.fnExactSameHalvesRow.holds Try.pinned (OpenSpec.ofChange Rows.fnExactSameHalvesSpec) :=
  OpenClaim.holds_of_wide 9 Try.f9 rfl rfl rfl rfl rfl rfl rfl ⟨rfl, rfl, rfl, rfl, rfl⟩ rfl rfl rfl rfl rfl (by kernel_rfl) Try.func9 (by kernel_rfl)
    (of_decide_eq_true (by kernel_rfl)) (by unfold Func.isWrapper; first | (rw [if_pos (by decide +kernel)]; kernel_rfl) | (rw [if_neg (by decide +kernel)]; exact ⟨rfl, rfl⟩))
    (fun os started H enc _ => fnExactSameHalves_lifted os started H enc)

theorem fnExactSameHalves_holds : Rows.FnExactSameHalvesSaid := fnExactSameHalves_over
#print axioms fnExactSameHalves_holds
end Go.Proofs.Ytomllckfbkiolaa
