/- The law FnExactAckFits holds: for every argument the program's function answers true and leaves its arguments as they were. Conditions: none beyond the given row's. -/
import Derived.Test.YtnbmdmmlnpbjlaaC1
namespace Go.Proofs.Ytnbmdmmlnpbjlaa
open Go.RowKit Go.ChangeShapes Go.WideShapes Go.ChangeAt
attribute [local go_sem] lt_gap le_gap eq_gap gap_eq lt_ones2 lt_ones3 lt_ones4 lt_ones5 lt_ones6 lt_ones7 lt_ones8 lt_gap_1 lt_gap_2 lt_gap_3 lt_gap_4 lt_gap_5 lt_gap_6 size_grow cell?_grow frozen?_grow setCell_grow drew_grow drewN_grow
attribute [local go_sem] boxOf_alloc_at boxOf_alloc_past boxOf_grow boxOf_drew boxOf_drewN isBox_alloc_at isBox_alloc_past isBox_grow isBox_drew isBox_drewN putAt_all putAt setCells_alloc_at setCells_alloc_past setCells_grow setCells_drew
set_option linter.unusedVariables false
set_option linter.unusedSimpArgs false
attribute [local go_sem ↓] pload_implConn pstore_implConn pload_lawsConn pstore_lawsConn pload_implReceiver pstore_implReceiver pload_lawsReceiver pstore_lawsReceiver pload_implSegment pstore_implSegment pload_lawsSegment pstore_lawsSegment
attribute [local go_sem] Value.oneCell' load_implConn store_implConn load_lawsConn store_lawsConn load_implReceiver store_implReceiver load_lawsReceiver store_lawsReceiver load_implSegment store_implSegment load_lawsSegment store_lawsSegment

set_option maxRecDepth 100000 in
set_option maxHeartbeats 4000000 in
theorem fnExactAckFits_walk (c_t_ip : Int) (c_t_port : Int) (c_t_my : Int) (c_state : Int) (c_s_una : Int) (c_s_data : ByteArray) (c_s_sent : Int) (c_s_fin : Bool) (c_s_finSent : Bool) (c_s_done : Bool) (c_r_next : Int) (c_r_data : ByteArray) (c_r_held : List Pce) (c_r_held_v : Value) (c_r_fin : Int) (c_r_done : Bool) (c_window : Int) (c_most : Int) (c_o_mss : Int) (c_o_scale : Int) (c_o_sack : Bool) (c_o_stamp : Bool) (c_o_val : Int) (c_o_echo : Int) (c_timer : Int) (c_tries : Int) (ack : Int) (w : World) (F_c_t_ip : I64 c_t_ip) (F_c_t_port : I64 c_t_port) (F_c_t_my : I64 c_t_my) (F_c_state : I64 c_state) (F_c_s_una : I64 c_s_una) (F_c_s_data : c_s_data.size ≤ maxLen) (F_c_s_sent : I64 c_s_sent) (F_c_r_next : I64 c_r_next) (F_c_r_data : c_r_data.size ≤ maxLen) (L_c_r_held : Sl w c_r_held_v 2 (c_r_held.map pceCells)) (M_c_r_held : ∀ p ∈ c_r_held, p.text.size ≤ maxLen) (F_c_r_fin : I64 c_r_fin) (F_c_window : I64 c_window) (F_c_most : I64 c_most) (F_c_o_mss : I64 c_o_mss) (F_c_o_scale : I64 c_o_scale) (F_c_o_val : I64 c_o_val) (F_c_o_echo : I64 c_o_echo) (F_c_timer : I64 c_timer) (F_c_tries : I64 c_tries)  : Calls Try.prog 8 #[.agg #[.int .i64 c_t_ip, .int .i64 c_t_port, .int .i64 c_t_my, .int .i64 c_state, .int .i64 c_s_una, .string c_s_data, .int .i64 c_s_sent, .bool c_s_fin, .bool c_s_finSent, .bool c_s_done, .int .i64 c_r_next, .string c_r_data, c_r_held_v, .int .i64 c_r_fin, .bool c_r_done, .int .i64 c_window, .int .i64 c_most, .int .i64 c_o_mss, .int .i64 c_o_scale, .bool c_o_sack, .bool c_o_stamp, .int .i64 c_o_val, .int .i64 c_o_echo, .int .i64 c_timer, .int .i64 c_tries], .int .i64 ack] w fun e w' => e = .returned (.bool true) ∧ Below w.heap.size w w' := by
  have HL := Lib.hid L_c_r_held; have HM := Lib.hid M_c_r_held; clear L_c_r_held M_c_r_held
  go_enter Try.func8, Try.ntmps8
  go_wp2_with fail
  refine (szConn_c _ _ _ _ _ _ _ _ _ _ _ _ c_r_held _ _ _ _ _ _ _ _ _ _ _ _ _ _ _ (HL.out.kept (B := w.heap.size) (by (repeat' (first | (with_reducible exact Below.refl _ _) | (with_reducible refine Below.alloc ?_ ?_ _) | (with_reducible refine belowGrow ?_ ?_ _ _) | (with_reducible refine Below.setCell ?_ ?_ _) | (with_reducible refine Below.drew ?_) | (with_reducible refine bdrewN ?_ _) | (with_reducible assumption) | (with_reducible refine bstep ?_ (by assumption) ?_) | (simp only [World.size_alloc, World.size_setCell, World.size_drew, World.heap_drewN, size_grow]; done) | (simp only [World.size_alloc, World.size_setCell, World.size_drew, World.heap_drewN, size_grow]; omega) | omega))) (Nat.le_refl _)) HM.out (by omega) (by omega) F_c_r_data F_c_s_data).mono ?_
  rintro e w1 ⟨r, rfl, hr, hb1⟩
  obtain ⟨d1, os1, rfl⟩ := below_grow hb1; clear hb1
  rcases hr with rfl | ⟨hr0, hr1, hfit⟩
  · go_wp2
    refine bodyPost_ret (v := .bool true) (by simp [results, Try.results8]) rfl ⟨rfl, ?_⟩
    (repeat' (first | (with_reducible exact Below.refl _ _) | (with_reducible refine Below.alloc ?_ ?_ _) | (with_reducible refine belowGrow ?_ ?_ _ _) | (with_reducible refine Below.setCell ?_ ?_ _) | (with_reducible refine Below.drew ?_) | (with_reducible refine bdrewN ?_ _) | (with_reducible assumption) | (with_reducible refine bstep ?_ (by assumption) ?_) | (simp only [World.size_alloc, World.size_setCell, World.size_drew, World.heap_drewN, size_grow]; done) | (simp only [World.size_alloc, World.size_setCell, World.size_drew, World.heap_drewN, size_grow]; omega) | omega))
  · obtain ⟨hf1, hf2, hf3, hf4⟩ := hfit
    simp only at hf1 hf2 hf3
    clear hf4
    have hlen : c_r_held.length ≤ 1048576 := by omega
    have hdat : c_r_data.size ≤ 4611686018427387904 := by omega
    go_wp2_with fail
    refine (toConn_c _ _ _ _ _ _ _ _ _ _ _ _ c_r_held _ _ _ _ _ _ _ _ _ _ _ _ _ _ (HL.out.kept (B := w.heap.size) (by (repeat' (first | (with_reducible exact Below.refl _ _) | (with_reducible refine Below.alloc ?_ ?_ _) | (with_reducible refine belowGrow ?_ ?_ _ _) | (with_reducible refine Below.setCell ?_ ?_ _) | (with_reducible refine Below.drew ?_) | (with_reducible refine bdrewN ?_ _) | (with_reducible assumption) | (with_reducible refine bstep ?_ (by assumption) ?_) | (simp only [World.size_alloc, World.size_setCell, World.size_drew, World.heap_drewN, size_grow]; done) | (simp only [World.size_alloc, World.size_setCell, World.size_drew, World.heap_drewN, size_grow]; omega) | omega))) (Nat.le_refl _)) hlen).mono ?_
    rintro e w2 ⟨v2, rfl, hO2, hb2⟩
    obtain ⟨a2, cap2, hv2⟩ := hO2.form
    rw [List.length_map] at hv2; subst hv2
    obtain ⟨d2, os2, rfl⟩ := below_grow hb2; clear hb2
    go_wp2_with fail
    refine (sAckFits_c _ _ _ _ _ _ _ _ _ _ _ _ c_r_held _ _ _ _ _ _ _ _ _ _ _ _ _ _ _).mono ?_
    rintro e w3 ⟨rfl, hb3⟩
    obtain ⟨d3, os3, rfl⟩ := below_grow hb3; clear hb3
    go_wp2_with fail
    refine (toConn_c _ _ _ _ _ _ _ _ _ _ _ _ c_r_held _ _ _ _ _ _ _ _ _ _ _ _ _ _ (HL.out.kept (B := w.heap.size) (by (repeat' (first | (with_reducible exact Below.refl _ _) | (with_reducible refine Below.alloc ?_ ?_ _) | (with_reducible refine belowGrow ?_ ?_ _ _) | (with_reducible refine Below.setCell ?_ ?_ _) | (with_reducible refine Below.drew ?_) | (with_reducible refine bdrewN ?_ _) | (with_reducible assumption) | (with_reducible refine bstep ?_ (by assumption) ?_) | (simp only [World.size_alloc, World.size_setCell, World.size_drew, World.heap_drewN, size_grow]; done) | (simp only [World.size_alloc, World.size_setCell, World.size_drew, World.heap_drewN, size_grow]; omega) | omega))) (Nat.le_refl _)) hlen).mono ?_
    rintro e w4 ⟨v4, rfl, hO4, hb4⟩
    obtain ⟨a4, cap4, hv4⟩ := hO4.form
    rw [List.length_map] at hv4; subst hv4
    obtain ⟨d4, os4, rfl⟩ := below_grow hb4; clear hb4
    go_wp2_with fail
    refine (iAckFits_c _ _ _ _ _ _ _ _ _ _ _ _ c_r_held _ _ _ _ _ _ _ _ _ _ _ _ _ _ _).mono ?_
    rintro e w5 ⟨rfl, hb5⟩
    obtain ⟨d5, os5, rfl⟩ := below_grow hb5; clear hb5
    go_wp2_with fail
    go_region_held3 (fun w' => isBox w' (w.heap.size) 25 = true ∧ boxOf w' (w.heap.size) = #[.int .i64 c_t_ip, .int .i64 c_t_port, .int .i64 c_t_my, .int .i64 c_state, .int .i64 c_s_una, .string c_s_data, .int .i64 c_s_sent, .bool c_s_fin, .bool c_s_finSent, .bool c_s_done, .int .i64 c_r_next, .string c_r_data, c_r_held_v, .int .i64 c_r_fin, .bool c_r_done, .int .i64 c_window, .int .i64 c_most, .int .i64 c_o_mss, .int .i64 c_o_scale, .bool c_o_sack, .bool c_o_stamp, .int .i64 c_o_val, .int .i64 c_o_echo, .int .i64 c_timer, .int .i64 c_tries] ∧ isBox w' (w.heap.size + 1 + gap os1.length + gap os2.length + gap os3.length + gap os4.length) 25 = true ∧ boxOf w' (w.heap.size + 1 + gap os1.length + gap os2.length + gap os3.length + gap os4.length) = #[.int .i64 c_t_ip, .int .i64 c_t_port, .int .i64 c_t_my, .int .i64 c_state, .int .i64 c_s_una, .string c_s_data, .int .i64 c_s_sent, .bool c_s_fin, .bool c_s_finSent, .bool c_s_done, .int .i64 c_r_next, .string c_r_data, .slice a4 c_r_held.length cap4, .int .i64 c_r_fin, .bool c_r_done, .int .i64 c_window, .int .i64 c_most, .int .i64 c_o_mss, .int .i64 c_o_scale, .bool c_o_sack, .bool c_o_stamp, .int .i64 c_o_val, .int .i64 c_o_echo, .int .i64 c_timer, .int .i64 c_tries])
      (first | (simp [go_sem]; done) | go_keep)
      (first
        | (go_at_call 34; refine (toConn_c _ _ _ _ _ _ _ _ _ _ _ _ c_r_held _ _ _ _ _ _ _ _ _ _ _ _ _ _ (HL.out.kept (B := w.heap.size) (by (repeat' (first | (with_reducible exact Below.refl _ _) | (with_reducible refine Below.alloc ?_ ?_ _) | (with_reducible refine belowGrow ?_ ?_ _ _) | (with_reducible refine Below.setCell ?_ ?_ _) | (with_reducible refine Below.drew ?_) | (with_reducible refine bdrewN ?_ _) | (with_reducible assumption) | (with_reducible refine bstep ?_ (by assumption) ?_) | (simp only [World.size_alloc, World.size_setCell, World.size_drew, World.heap_drewN, size_grow]; done) | (simp only [World.size_alloc, World.size_setCell, World.size_drew, World.heap_drewN, size_grow]; omega) | omega))) (Nat.le_refl _)) hlen).mono ?_; rintro e w6 ⟨v6, rfl, hO6, hb6⟩; obtain ⟨a6, cap6, hv6⟩ := hO6.form; rw [List.length_map] at hv6; subst hv6; obtain ⟨d6, os6, rfl⟩ := below_grow hb6; clear hb6)
        | (go_at_call 29; refine (eqConn_c _ _ _ _ _ _ _ _ _ _ _ _ c_r_held _ _ _ _ _ _ _ _ _ _ _ _ _ _ _ (hO4.mid (by (repeat' (first | (with_reducible exact Mid.refl _ _ _) | (with_reducible refine Mid.swap ?_) | (with_reducible refine Mid.grow ?_ ?_ _ _) | (with_reducible refine Mid.alloc ?_ ?_ _) | (with_reducible refine Mid.setCell ?_ ?_ _) | (with_reducible refine Mid.drew ?_) | (with_reducible refine Mid.drewN ?_ _) | (with_reducible refine Mid.below ?_ (by assumption) ?_) | (simp only [World.size_alloc, World.size_setCell, World.size_drew, World.heap_drewN, size_grow]; done) | (simp only [World.size_alloc, World.size_setCell, World.size_drew, World.heap_drewN, size_grow]; omega) | omega)))).sl (hO6.mid (by (repeat' (first | (with_reducible exact Mid.refl _ _ _) | (with_reducible refine Mid.swap ?_) | (with_reducible refine Mid.grow ?_ ?_ _ _) | (with_reducible refine Mid.alloc ?_ ?_ _) | (with_reducible refine Mid.setCell ?_ ?_ _) | (with_reducible refine Mid.drew ?_) | (with_reducible refine Mid.drewN ?_ _) | (with_reducible refine Mid.below ?_ (by assumption) ?_) | (simp only [World.size_alloc, World.size_setCell, World.size_drew, World.heap_drewN, size_grow]; done) | (simp only [World.size_alloc, World.size_setCell, World.size_drew, World.heap_drewN, size_grow]; omega) | omega)))).sl).mono ?_; rintro e w7 ⟨rfl, hb7⟩; obtain ⟨d7, os7, rfl⟩ := below_grow hb7; clear hb7))
    go_wp2_with fail
    refine bodyPost_ret (v := .bool true) (by simp [results, Try.results8]) rfl ⟨rfl, ?_⟩
    (repeat' (first | (with_reducible exact Below.refl _ _) | (with_reducible refine Below.alloc ?_ ?_ _) | (with_reducible refine belowGrow ?_ ?_ _ _) | (with_reducible refine Below.setCell ?_ ?_ _) | (with_reducible refine Below.drew ?_) | (with_reducible refine bdrewN ?_ _) | (with_reducible assumption) | (with_reducible refine bstep ?_ (by assumption) ?_) | (simp only [World.size_alloc, World.size_setCell, World.size_drew, World.heap_drewN, size_grow]; done) | (simp only [World.size_alloc, World.size_setCell, World.size_drew, World.heap_drewN, size_grow]; omega) | omega))

set_option maxRecDepth 100000 in
theorem fnExactAckFits_lifted (os : Os) (started : os.Started) (H : Type) (enc : TypeId × Value → H) :
    ReturnsInHanded {} Try.checked os 8 .any (Rows.fnExactAckFitsSpec.pre6 enc Try.prog Try.f8 Rows.fnExactAckFitsRow.domain false) (Rows.fnExactAckFitsSpec.post enc Try.prog Try.f8 false true false false) := by
  refine returnsInHanded_of_change (C := Try.checked) Try.ownK started (by kernel_rfl) Try.func8
    (ChangeSpec.witness6 (enc := enc) (C := Try.checked) false ⟨#[], #[.agg #[.int .i64 0, .int .i64 0, .int .i64 0, .int .i64 0, .int .i64 0, .string ⟨#[]⟩, .int .i64 0, .bool false, .bool false, .bool false, .int .i64 0, .string ⟨#[]⟩, .slice none 0 0, .int .i64 0, .bool false, .int .i64 0, .int .i64 0, .int .i64 0, .int .i64 0, .bool false, .bool false, .int .i64 0, .int .i64 0, .int .i64 0, .int .i64 0], .int .i64 0], []⟩ 8 (by kernel_rfl) (by kernel_rfl) (by kernel_rfl) (by kernel_rfl)) ?_
  intro W base args ds gs before hval0 hW hcnd _
  have hval : ∀ (j : Nat) t v, Try.f8.params[j]? = some t → args[j]? = some v → Value.okWide Try.prog W .any base t v := hval0
  have hW' := hW
  obtain ⟨p, q, hA0, hV, rfl, hfz, hnd⟩ := hW
  have hA : DataW.TrodAll enc Try.prog W 0 (fun _ => true) true Try.f8.params.toList args.toList ds p := hA0
  rw [Try.params8] at hA hval
  obtain ⟨v0, vs0, d0, ds0, p0, q0, hargs, rfl, rfl, h0, r0⟩ := trodAll_cons hA
  obtain ⟨v1, vs1, d1, ds1, p1, q1, rfl, rfl, rfl, h1, r1⟩ := trodAll_cons r0
  obtain ⟨rfl, rfl, rfl⟩ := trodAll_nil r1
  obtain rfl : args = #[v0, v1] := by cases args; simp_all
  obtain ⟨rfl, rfl⟩ := trodVars_none hV
  clear hA0 hval0
  have g0 := h0
  have g1 := h1
  obtain ⟨cs0, rfl, -⟩ := okWide_struct Try.underlying62 (hval 0 _ v0 rfl rfl)
  obtain ⟨fuel0, f0⟩ := g0
  obtain ⟨c_t_ip, c_t_port, c_t_my, c_state, c_s_una, c_s_data, c_s_sent, c_s_fin, c_s_finSent, c_s_done, c_r_next, c_r_data, c_r_held_v, c_r_fin, c_r_done, c_window, c_most, c_o_mss, c_o_scale, c_o_sack, c_o_stamp, c_o_val, c_o_echo, c_timer, c_tries, e0, F_c_t_ip, F_c_t_port, F_c_t_my, F_c_state, F_c_s_una, F_c_s_data, F_c_s_sent, F_c_r_next, F_c_r_data, F_c_r_held, F_c_r_fin, F_c_window, F_c_most, F_c_o_mss, F_c_o_scale, F_c_o_val, F_c_o_echo, F_c_timer, F_c_tries⟩ := open_CON f0
  obtain rfl : cs0 = #[.int .i64 c_t_ip, .int .i64 c_t_port, .int .i64 c_t_my, .int .i64 c_state, .int .i64 c_s_una, .string c_s_data, .int .i64 c_s_sent, .bool c_s_fin, .bool c_s_finSent, .bool c_s_done, .int .i64 c_r_next, .string c_r_data, c_r_held_v, .int .i64 c_r_fin, .bool c_r_done, .int .i64 c_window, .int .i64 c_most, .int .i64 c_o_mss, .int .i64 c_o_scale, .bool c_o_sack, .bool c_o_stamp, .int .i64 c_o_val, .int .i64 c_o_echo, .int .i64 c_timer, .int .i64 c_tries] := by cases cs0; simpa [Value.cells] using e0
  clear e0
  obtain ⟨_, _, T_c_r_held⟩ := F_c_r_held
  obtain ⟨c_r_held, L_c_r_held, M_c_r_held⟩ := openSc_PCE T_c_r_held
  obtain ⟨a1, rfl, rfl, rfl, w1⟩ := open_int Try.underlying3 (hval 1 _ v1 rfl rfl) g1
  refine (fnExactAckFits_walk c_t_ip c_t_port c_t_my c_state c_s_una c_s_data c_s_sent c_s_fin c_s_finSent c_s_done c_r_next c_r_data c_r_held c_r_held_v c_r_fin c_r_done c_window c_most c_o_mss c_o_scale c_o_sack c_o_stamp c_o_val c_o_echo c_timer c_tries a1 W F_c_t_ip F_c_t_port F_c_t_my F_c_state F_c_s_una F_c_s_data F_c_s_sent F_c_r_next F_c_r_data L_c_r_held M_c_r_held F_c_r_fin F_c_window F_c_most F_c_o_mss F_c_o_scale F_c_o_val F_c_o_echo F_c_timer F_c_tries).mono fun e W' ⟨he, hb⟩ => ?_
  subst he
  have hlt : ∀ x ∈ (p0 ++ (([] : List MemPlace) ++ ([]))) ++ [], x.block < W.heap.size := fun x hx => hW'.lt x hx
  refine ⟨_, rfl, post_of_below (pa := (p0 ++ (([] : List MemPlace) ++ ([])))) (pv := []) hW' (fun _ _ _ => trodAll_cons_mk (shut_bool Try.underlying4 _) trodAll_mk0) (fun sp hsp => trodAll_cons_mk (WideElems.Trod_stays Try.laidOut (by kernel_rfl) (of_decide_eq_true (by kernel_rfl)) h0 (fun x hx => hb.same (hlt x (List.mem_append_left _ (List.mem_append_left _ hx)))) (fun x hx => hsp x (List.mem_append_left _ (List.mem_append_left _ hx)))) (trodAll_cons_mk (WideElems.Trod_stays Try.laidOut (by kernel_rfl) (of_decide_eq_true (by kernel_rfl)) h1 (fun x hx => hb.same (hlt x (List.mem_append_left _ (List.mem_append_right _ (List.mem_append_left _ hx))))) (fun x hx => hsp x (List.mem_append_left _ (List.mem_append_right _ (List.mem_append_left _ hx))))) (trodAll_mk0))) (fun _ _ => rfl) rfl hb (ok_one (by kernel_rfl) rfl (okWide_bool_mk Try.underlying4 _))⟩

theorem fnExactAckFits_over : Rows.fnExactAckFitsRow.holds Try.pinned (OpenSpec.ofChange Rows.fnExactAckFitsSpec) :=
  OpenClaim.holds_of_wide 8 Try.f8 rfl rfl rfl rfl rfl rfl rfl ⟨rfl, rfl, rfl, rfl, rfl⟩ rfl rfl rfl rfl rfl (by kernel_rfl) Try.func8 (by kernel_rfl)
    (of_decide_eq_true (by kernel_rfl)) (by unfold Func.isWrapper; first | (rw [if_pos (by decide +kernel)]; kernel_rfl) | (rw [if_neg (by decide +kernel)]; exact ⟨rfl, rfl⟩))
    (fun os started H enc _ => fnExactAckFits_lifted os started H enc)

theorem fnExactAckFits_holds : Rows.FnExactAckFitsSaid := fnExactAckFits_over
#print axioms fnExactAckFits_holds
end Go.Proofs.Ytnbmdmmlnpbjlaa
