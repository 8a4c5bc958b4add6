/- The law FnExactFindHalf holds: for every argument the program's function answers true and leaves its arguments as they were. Conditions: none beyond the given row's. -/
import Derived.Test.YtomllckfbkiolaaH1
import Derived.Test.YtomllckfbkiolaaSHalf
import Derived.Test.YtomllckfbkiolaaOS
namespace Go.Proofs.Ytomllckfbkiolaa
open Go.RowKit Go.ChangeShapes Go.WideShapes Go.ChangeAt
attribute [local go_sem] lt_gap le_gap eq_gap gap_eq
set_option linter.unusedVariables false
set_option linter.unusedSimpArgs false

set_option maxHeartbeats 1000000 in
theorem fnExactFindHalf_walk (v : Value) (l : List Hlf) (t_ip : Int) (t_port : Int) (t_my : Int) (w : World) (L : Sl w v 13 (l.map hlfCells)) (F_t_ip : I64 t_ip) (F_t_port : I64 t_port) (F_t_my : I64 t_my) :
    Calls Try.prog 7 #[v, .agg #[.int .i64 t_ip, .int .i64 t_port, .int .i64 t_my]] w fun e w' => e = .returned (.bool true) ∧ Below w.heap.size w w' := by
  have L0 : Sl (w.alloc (.cells #[.int .i64 t_ip, .int .i64 t_port, .int .i64 t_my] 39)) v 13 (l.map hlfCells) := L.kept ((Below.refl w.heap.size _).alloc (Nat.le_refl _) _) (Nat.le_refl _)
  have HL := Lib.hid L0; clear L0 L F_t_ip F_t_port F_t_my
  by_cases hn : (1048576 : Int) < l.length
  · go_enter Try.func7, Try.ntmps7
    go_wp2_with (go_at_call 25; with_reducible refine (szHalfS_c _ l _ _ HL.out (by omega) (by omega)).mono ?_; rintro e w1 ⟨rfl, rfl⟩; rw [if_pos (by omega)])
    refine bodyPost_ret (v := .bool true) (by simp [results, Try.results7]) rfl ⟨rfl, ?_⟩
    (repeat' (first | (with_reducible exact Below.refl _ _) | (with_reducible refine Below.alloc ?_ ?_ _) | (with_reducible refine Below.setCell ?_ ?_ _) | (with_reducible refine Below.drew ?_) | (with_reducible refine bdrewN ?_ _) | (with_reducible refine bstep ?_ (by assumption) ?_) | (simp only [World.size_alloc, World.size_setCell, World.size_drew, World.heap_drewN]; omega) | omega))
  · have hn2 : (0 : Int) ≤ 1048576 - l.length := by omega
    go_enter Try.func7, Try.ntmps7
    go_wp2_with (go_at_call 25; with_reducible refine (szHalfS_c _ l _ _ HL.out (by omega) (by omega)).mono ?_; rintro e w1 ⟨rfl, rfl⟩; rw [if_neg (by omega)])
    go_wp2_with fail
    go_region_held3 (fun w' => w'.cell? ⟨w.heap.size, 0, none⟩ = some (.int .i64 t_ip) ∧ w'.cell? ⟨w.heap.size, 1, none⟩ = some (.int .i64 t_port) ∧ w'.cell? ⟨w.heap.size, 2, none⟩ = some (.int .i64 t_my))
      (first | (simp [go_sem, hc1, hk1, hc2, hk2, hc3, hk3]; done) | (simp [go_sem, hc1, hk1, hc2, hk2]; done) | (simp [go_sem, hc1, hk1]; done) | go_keep)
      (first
        | (go_at_call 27; refine (toHalfS_c _ l _ (HL.out.kept (by (repeat' (first | (with_reducible exact Below.refl _ _) | (with_reducible refine Below.alloc ?_ ?_ _) | (with_reducible refine Below.setCell ?_ ?_ _) | (with_reducible refine Below.drew ?_) | (with_reducible refine bdrewN ?_ _) | (with_reducible refine bstep ?_ (by assumption) ?_) | (simp only [World.size_alloc, World.size_setCell, World.size_drew, World.heap_drewN]; omega) | omega))) (Nat.le_refl _)) (by omega)).mono ?_; rintro e w1 ⟨v1, rfl, hO1, hb1⟩; obtain ⟨k1, hk1, hc1, hf1⟩ := after hb1 (by (try simp only [World.size_alloc, World.size_setCell, World.size_drew, World.heap_drewN, *]); rfl))
        | (go_at_call 28; refine (toTuple_c _ _ _ _).mono ?_; rintro e w2 ⟨rfl, hb2⟩; obtain ⟨k2, hk2, hc2, hf2⟩ := after hb2 (by (try simp only [World.size_alloc, World.size_setCell, World.size_drew, World.heap_drewN, *]); rfl))
        | (go_at_call 26; refine (sFindHalf_c _ l t_ip t_port t_my _ (hO1.sl.kept (by (repeat' (first | (with_reducible exact Below.refl _ _) | (with_reducible refine Below.alloc ?_ ?_ _) | (with_reducible refine Below.setCell ?_ ?_ _) | (with_reducible refine Below.drew ?_) | (with_reducible refine bdrewN ?_ _) | (with_reducible refine bstep ?_ (by assumption) ?_) | (simp only [World.size_alloc, World.size_setCell, World.size_drew, World.heap_drewN]; omega) | omega))) (Nat.le_refl _))).mono ?_; rintro e w3 ⟨rfl, hb3⟩; obtain ⟨k3, hk3, hc3, hf3⟩ := after hb3 (by (try simp only [World.size_alloc, World.size_setCell, World.size_drew, World.heap_drewN, *]); rfl)))
    go_wp2_with fail
    refine (toHalfS_c _ l _ (HL.out.kept (by (repeat' (first | (with_reducible exact Below.refl _ _) | (with_reducible refine Below.alloc ?_ ?_ _) | (with_reducible refine Below.setCell ?_ ?_ _) | (with_reducible refine Below.drew ?_) | (with_reducible refine bdrewN ?_ _) | (with_reducible refine bstep ?_ (by assumption) ?_) | (simp only [World.size_alloc, World.size_setCell, World.size_drew, World.heap_drewN]; omega) | omega))) (Nat.le_refl _)) (by omega)).mono ?_
    rintro e w4 ⟨v4, rfl, hO4, hb4⟩
    obtain ⟨k4, hk4, hc4, hf4⟩ := after hb4 (by (try simp only [World.size_alloc, World.size_setCell, World.size_drew, World.heap_drewN, *]); rfl)
    go_wp2_with fail
    refine (toTuple_c _ _ _ _).mono ?_
    rintro e w5 ⟨rfl, hb5⟩
    obtain ⟨k5, hk5, hc5, hf5⟩ := after hb5 (by (try simp only [World.size_alloc, World.size_setCell, World.size_drew, World.heap_drewN, *]); rfl)
    go_wp2_with fail
    refine (iFindHalf_c _ l t_ip t_port t_my _ (hO4.sl.kept (by (repeat' (first | (with_reducible exact Below.refl _ _) | (with_reducible refine Below.alloc ?_ ?_ _) | (with_reducible refine Below.setCell ?_ ?_ _) | (with_reducible refine Below.drew ?_) | (with_reducible refine bdrewN ?_ _) | (with_reducible refine bstep ?_ (by assumption) ?_) | (simp only [World.size_alloc, World.size_setCell, World.size_drew, World.heap_drewN]; omega) | omega))) (Nat.le_refl _))).mono ?_
    rintro e w6 ⟨rfl, hb6⟩
    obtain ⟨k6, hk6, hc6, hf6⟩ := after hb6 (by (try simp only [World.size_alloc, World.size_setCell, World.size_drew, World.heap_drewN, *]); rfl)
    go_wp2_with fail
    refine (toHalfS_c _ l _ (HL.out.kept (by (repeat' (first | (with_reducible exact Below.refl _ _) | (with_reducible refine Below.alloc ?_ ?_ _) | (with_reducible refine Below.setCell ?_ ?_ _) | (with_reducible refine Below.drew ?_) | (with_reducible refine bdrewN ?_ _) | (with_reducible refine bstep ?_ (by assumption) ?_) | (simp only [World.size_alloc, World.size_setCell, World.size_drew, World.heap_drewN]; omega) | omega))) (Nat.le_refl _)) (by omega)).mono ?_
    rintro e w7 ⟨v7, rfl, hO7, hb7⟩
    obtain ⟨k7, hk7, hc7, hf7⟩ := after hb7 (by (try simp only [World.size_alloc, World.size_setCell, World.size_drew, World.heap_drewN, *]); rfl)
    go_wp2_with fail
    refine (eqHalfS_c _ _ l _ (hO4.sl.kept (by (repeat' (first | (with_reducible exact Below.refl _ _) | (with_reducible refine Below.alloc ?_ ?_ _) | (with_reducible refine Below.setCell ?_ ?_ _) | (with_reducible refine Below.drew ?_) | (with_reducible refine bdrewN ?_ _) | (with_reducible refine bstep ?_ (by assumption) ?_) | (simp only [World.size_alloc, World.size_setCell, World.size_drew, World.heap_drewN]; omega) | omega))) (Nat.le_refl _)) (hO7.sl.kept (by (repeat' (first | (with_reducible exact Below.refl _ _) | (with_reducible refine Below.alloc ?_ ?_ _) | (with_reducible refine Below.setCell ?_ ?_ _) | (with_reducible refine Below.drew ?_) | (with_reducible refine bdrewN ?_ _) | (with_reducible refine bstep ?_ (by assumption) ?_) | (simp only [World.size_alloc, World.size_setCell, World.size_drew, World.heap_drewN]; omega) | omega))) (Nat.le_refl _))).mono ?_
    rintro e w8 ⟨rfl, hb8⟩
    obtain ⟨k8, hk8, hc8, hf8⟩ := after hb8 (by (try simp only [World.size_alloc, World.size_setCell, World.size_drew, World.heap_drewN, *]); rfl)
    go_wp2_with fail
    refine bodyPost_ret (v := .bool true) (by simp [results, Try.results7]) rfl ⟨rfl, ?_⟩
    (repeat' (first | (with_reducible exact Below.refl _ _) | (with_reducible refine Below.alloc ?_ ?_ _) | (with_reducible refine Below.setCell ?_ ?_ _) | (with_reducible refine Below.drew ?_) | (with_reducible refine bdrewN ?_ _) | (with_reducible refine bstep ?_ (by assumption) ?_) | (simp only [World.size_alloc, World.size_setCell, World.size_drew, World.heap_drewN]; omega) | omega))

set_option maxRecDepth 100000 in
theorem fnExactFindHalf_lifted (os : Os) (started : os.Started) (H : Type) (enc : TypeId × Value → H) :
    ReturnsInHanded {} Try.checked os 7 .any (Rows.fnExactFindHalfSpec.pre6 enc Try.prog Try.f7 Rows.fnExactFindHalfRow.domain false) (Rows.fnExactFindHalfSpec.post enc Try.prog Try.f7 false true false false) := by
  refine returnsInHanded_of_change (C := Try.checked) Try.ownK started (by kernel_rfl) Try.func7
    (ChangeSpec.witness6 (enc := enc) (C := Try.checked) false ⟨#[], #[.slice none 0 0, .agg #[.int .i64 0, .int .i64 0, .int .i64 0]], []⟩ 8 (by kernel_rfl) (by kernel_rfl) (by kernel_rfl) (by kernel_rfl)) ?_
  intro W base args ds gs before hval0 hW hcnd _
  have hval : ∀ (j : Nat) t v, Try.f7.params[j]? = some t → args[j]? = some v → Value.okWide Try.prog W .any base t v := hval0
  have hW' := hW
  obtain ⟨p, q, hA0, hV, rfl, hfz, hnd⟩ := hW
  have hA : DataW.TrodAll enc Try.prog W 0 (fun _ => true) true Try.f7.params.toList args.toList ds p := hA0
  rw [Try.params7] at hA hval
  obtain ⟨v0, vs0, d0, ds0, p0, q0, hargs, rfl, rfl, h0, r0⟩ := trodAll_cons hA
  obtain ⟨v1, vs1, d1, ds1, p1, q1, rfl, rfl, rfl, h1, r1⟩ := trodAll_cons r0
  obtain ⟨rfl, rfl, rfl⟩ := trodAll_nil r1
  obtain rfl : args = #[v0, v1] := by cases args; simp_all
  obtain ⟨rfl, rfl⟩ := trodVars_none hV
  clear hA0 hval0
  have g0 := h0
  have g1 := h1
  obtain ⟨l0, L0⟩ := openS_HLF (hval 0 _ v0 rfl rfl) g0
  obtain ⟨cs1, rfl, -⟩ := okWide_struct Try.underlying39 (hval 1 _ v1 rfl rfl)
  obtain ⟨fuel1, f1⟩ := g1
  obtain ⟨t_ip, t_port, t_my, e1, F_t_ip, F_t_port, F_t_my⟩ := open_TUP f1
  obtain rfl : cs1 = #[.int .i64 t_ip, .int .i64 t_port, .int .i64 t_my] := by cases cs1; simpa [Value.cells] using e1
  clear e1
  refine (fnExactFindHalf_walk v0 l0 t_ip t_port t_my W L0 F_t_ip F_t_port F_t_my).mono fun e W' ⟨he, hb⟩ => ?_
  subst he
  have hlt : ∀ x ∈ (p0 ++ (p1 ++ ([]))) ++ [], x.block < W.heap.size := fun x hx => hW'.lt x hx
  refine ⟨_, rfl, post_of_below (pa := (p0 ++ (p1 ++ ([])))) (pv := []) hW' (fun _ _ _ => trodAll_cons_mk (shut_bool Try.underlying4 _) trodAll_mk0) (fun sp hsp => trodAll_cons_mk (WideElems.Trod_stays Try.laidOut (by kernel_rfl) (of_decide_eq_true (by kernel_rfl)) h0 (fun x hx => hb.same (hlt x (List.mem_append_left _ (List.mem_append_left _ hx)))) (fun x hx => hsp x (List.mem_append_left _ (List.mem_append_left _ hx)))) (trodAll_cons_mk (WideElems.Trod_stays Try.laidOut (by kernel_rfl) (of_decide_eq_true (by kernel_rfl)) h1 (fun x hx => hb.same (hlt x (List.mem_append_left _ (List.mem_append_right _ (List.mem_append_left _ hx))))) (fun x hx => hsp x (List.mem_append_left _ (List.mem_append_right _ (List.mem_append_left _ hx))))) (trodAll_mk0))) (fun _ _ => rfl) rfl hb (ok_one (by kernel_rfl) rfl (okWide_bool_mk Try.underlying4 _))⟩

theorem fnExactFindHalf_over : Rows.fnExactFindHalfRow.holds Try.pinned (OpenSpec.ofChange Rows.fnExactFindHalfSpec) :=
  OpenClaim.holds_of_wide 7 Try.f7 rfl rfl rfl rfl rfl rfl rfl ⟨rfl, rfl, rfl, rfl, rfl⟩ rfl rfl rfl rfl rfl (by kernel_rfl) Try.func7 (by kernel_rfl)
    (of_decide_eq_true (by kernel_rfl)) (by unfold Func.isWrapper; first | (rw [if_pos (by decide +kernel)]; kernel_rfl) | (rw [if_neg (by decide +kernel)]; exact ⟨rfl, rfl⟩))
    (fun os started H enc _ => fnExactFindHalf_lifted os started H enc)

theorem fnExactFindHalf_holds : Rows.FnExactFindHalfSaid := fnExactFindHalf_over
#print axioms fnExactFindHalf_holds
end Go.Proofs.Ytomllckfbkiolaa
