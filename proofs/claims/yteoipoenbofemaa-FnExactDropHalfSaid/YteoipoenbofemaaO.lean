/- Contracts (O). -/
import Derived.Test.YteoipoenbofemaaB
namespace Go.Proofs.Yteoipoenbofemaa
open Go.RowKit
attribute [local go_sem] lt_gap le_gap eq_gap gap_eq lt_ones2 lt_ones3 lt_ones4 lt_ones5 lt_ones6 lt_ones7 lt_ones8 lt_gap_1 lt_gap_2 lt_gap_3 lt_gap_4 lt_gap_5 lt_gap_6 size_grow cell?_grow frozen?_grow setCell_grow drew_grow drewN_grow
attribute [local go_sem] boxOf_alloc_at boxOf_alloc_past boxOf_grow boxOf_drew boxOf_drewN isBox_alloc_at isBox_alloc_past isBox_grow isBox_drew isBox_drewN putAt_all putAt setCells_alloc_at setCells_alloc_past setCells_grow setCells_drew
set_option linter.unusedVariables false
set_option linter.unusedSimpArgs false

theorem shape2 {l : List Value} (h : l.length = 2) : ∃ c0 c1, l = [c0, c1] := by
  match l, h with
  | [c0, c1], _ => exact ⟨_, _, rfl⟩
theorem shape3 {l : List Value} (h : l.length = 3) : ∃ c0 c1 c2, l = [c0, c1, c2] := by
  match l, h with
  | [c0, c1, c2], _ => exact ⟨_, _, _, rfl⟩
theorem shape4 {l : List Value} (h : l.length = 4) : ∃ c0 c1 c2 c3, l = [c0, c1, c2, c3] := by
  match l, h with
  | [c0, c1, c2, c3], _ => exact ⟨_, _, _, _, rfl⟩
theorem shape5 {l : List Value} (h : l.length = 5) : ∃ c0 c1 c2 c3 c4, l = [c0, c1, c2, c3, c4] := by
  match l, h with
  | [c0, c1, c2, c3, c4], _ => exact ⟨_, _, _, _, _, rfl⟩
theorem shape6 {l : List Value} (h : l.length = 6) : ∃ c0 c1 c2 c3 c4 c5, l = [c0, c1, c2, c3, c4, c5] := by
  match l, h with
  | [c0, c1, c2, c3, c4, c5], _ => exact ⟨_, _, _, _, _, _, rfl⟩
theorem shape10 {l : List Value} (h : l.length = 10) : ∃ c0 c1 c2 c3 c4 c5 c6 c7 c8 c9, l = [c0, c1, c2, c3, c4, c5, c6, c7, c8, c9] := by
  match l, h with
  | [c0, c1, c2, c3, c4, c5, c6, c7, c8, c9], _ => exact ⟨_, _, _, _, _, _, _, _, _, _, rfl⟩
theorem shape13 {l : List Value} (h : l.length = 13) : ∃ c0 c1 c2 c3 c4 c5 c6 c7 c8 c9 c10 c11 c12, l = [c0, c1, c2, c3, c4, c5, c6, c7, c8, c9, c10, c11, c12] := by
  match l, h with
  | [c0, c1, c2, c3, c4, c5, c6, c7, c8, c9, c10, c11, c12], _ => exact ⟨_, _, _, _, _, _, _, _, _, _, _, _, _, rfl⟩
theorem shape20 {l : List Value} (h : l.length = 20) : ∃ c0 c1 c2 c3 c4 c5 c6 c7 c8 c9 c10 c11 c12 c13 c14 c15 c16 c17 c18 c19, l = [c0, c1, c2, c3, c4, c5, c6, c7, c8, c9, c10, c11, c12, c13, c14, c15, c16, c17, c18, c19] := by
  match l, h with
  | [c0, c1, c2, c3, c4, c5, c6, c7, c8, c9, c10, c11, c12, c13, c14, c15, c16, c17, c18, c19], _ => exact ⟨_, _, _, _, _, _, _, _, _, _, _, _, _, _, _, _, _, _, _, _, rfl⟩
theorem shape25 {l : List Value} (h : l.length = 25) : ∃ c0 c1 c2 c3 c4 c5 c6 c7 c8 c9 c10 c11 c12 c13 c14 c15 c16 c17 c18 c19 c20 c21 c22 c23 c24, l = [c0, c1, c2, c3, c4, c5, c6, c7, c8, c9, c10, c11, c12, c13, c14, c15, c16, c17, c18, c19, c20, c21, c22, c23, c24] := by
  match l, h with
  | [c0, c1, c2, c3, c4, c5, c6, c7, c8, c9, c10, c11, c12, c13, c14, c15, c16, c17, c18, c19, c20, c21, c22, c23, c24], _ => exact ⟨_, _, _, _, _, _, _, _, _, _, _, _, _, _, _, _, _, _, _, _, _, _, _, _, _, rfl⟩
theorem wf_i64 {n : Int} (h : (Lit.int .i64 n).wf = true) : I64 n := by
  simp [Lit.wf, IntKind.min, IntKind.max, IntKind.signed, IntKind.bits] at h
  exact ⟨by omega, by omega⟩
theorem wf_u64 {n : Int} (h : (Lit.int .u64 n).wf = true) : U64 n := by
  simp [Lit.wf, IntKind.min, IntKind.max, IntKind.signed, IntKind.bits] at h
  exact ⟨by omega, by omega⟩
theorem Try.ownK : ownKnob Try.prog.godebug = none := by kernel_rfl
theorem Try.laidOut : laidOutB Try.prog = true := by kernel_rfl
section
variable {H : Type} {enc : TypeId × Value → H} {w : World} {base : Nat} {spare : Nat → Bool} {held : Bool} {fuel : Nat} {cs : List Value} {x : DataW H × List MemPlace}
theorem open_TUP (h : DataW.trod enc Try.prog w base spare held fuel 24 cs = some x) :
    ∃ (a_ip : Int) (a_port : Int) (a_my : Int), cs = [.int .i64 a_ip, .int .i64 a_port, .int .i64 a_my] ∧ I64 a_ip ∧ I64 a_port ∧ I64 a_my := by
  have cT : Try.prog.cellsOf 24 = 3 := by kernel_rfl
  have ct0 : Try.prog.cellsOf 3 = 1 := by kernel_rfl
  obtain ⟨xs, n, _, _, hl, hxl, hg⟩ := DataW.trod_struct Try.underlying24 h
  rw [cT] at hl
  obtain ⟨c0, c1, c2, rfl⟩ := shape3 hl
  obtain ⟨y0, hy0⟩ : ∃ y, xs[0]? = some y := ⟨_, List.getElem?_eq_getElem (by simp at hxl; omega)⟩
  have h0 : DataW.trod enc Try.prog w base spare held n 3 [c0] = some y0 := by rw [← hy0]; simpa [ct0] using hg 0 _ rfl
  obtain ⟨m0, e0, -, w0⟩ := DataW.trod_int Try.underlying3 h0
  obtain ⟨y1, hy1⟩ : ∃ y, xs[1]? = some y := ⟨_, List.getElem?_eq_getElem (by simp at hxl; omega)⟩
  have h1 : DataW.trod enc Try.prog w base spare held n 3 [c1] = some y1 := by rw [← hy1]; simpa [ct0] using hg 1 _ rfl
  obtain ⟨m1, e1, -, w1⟩ := DataW.trod_int Try.underlying3 h1
  obtain ⟨y2, hy2⟩ : ∃ y, xs[2]? = some y := ⟨_, List.getElem?_eq_getElem (by simp at hxl; omega)⟩
  have h2 : DataW.trod enc Try.prog w base spare held n 3 [c2] = some y2 := by rw [← hy2]; simpa [ct0] using hg 2 _ rfl
  obtain ⟨m2, e2, -, w2⟩ := DataW.trod_int Try.underlying3 h2
  simp only [List.cons.injEq, and_true] at e0 e1 e2
  subst e0
  subst e1
  subst e2
  exact ⟨_, _, _, rfl, wf_i64 w0, wf_i64 w1, wf_i64 w2⟩
theorem open_OPT (h : DataW.trod enc Try.prog w base spare held fuel 35 cs = some x) :
    ∃ (a_mss : Int) (a_scale : Int) (a_sack : Bool) (a_stamp : Bool) (a_val : Int) (a_echo : Int), cs = [.int .i64 a_mss, .int .i64 a_scale, .bool a_sack, .bool a_stamp, .int .i64 a_val, .int .i64 a_echo] ∧ I64 a_mss ∧ I64 a_scale ∧ I64 a_val ∧ I64 a_echo := by
  have cT : Try.prog.cellsOf 35 = 6 := by kernel_rfl
  have ct0 : Try.prog.cellsOf 4 = 1 := by kernel_rfl
  have ct1 : Try.prog.cellsOf 3 = 1 := by kernel_rfl
  obtain ⟨xs, n, _, _, hl, hxl, hg⟩ := DataW.trod_struct Try.underlying35 h
  rw [cT] at hl
  obtain ⟨c0, c1, c2, c3, c4, c5, rfl⟩ := shape6 hl
  obtain ⟨y0, hy0⟩ : ∃ y, xs[0]? = some y := ⟨_, List.getElem?_eq_getElem (by simp at hxl; omega)⟩
  have h0 : DataW.trod enc Try.prog w base spare held n 3 [c0] = some y0 := by rw [← hy0]; simpa [ct0, ct1] using hg 0 _ rfl
  obtain ⟨m0, e0, -, w0⟩ := DataW.trod_int Try.underlying3 h0
  obtain ⟨y1, hy1⟩ : ∃ y, xs[1]? = some y := ⟨_, List.getElem?_eq_getElem (by simp at hxl; omega)⟩
  have h1 : DataW.trod enc Try.prog w base spare held n 3 [c1] = some y1 := by rw [← hy1]; simpa [ct0, ct1] using hg 1 _ rfl
  obtain ⟨m1, e1, -, w1⟩ := DataW.trod_int Try.underlying3 h1
  obtain ⟨y2, hy2⟩ : ∃ y, xs[2]? = some y := ⟨_, List.getElem?_eq_getElem (by simp at hxl; omega)⟩
  have h2 : DataW.trod enc Try.prog w base spare held n 4 [c2] = some y2 := by rw [← hy2]; simpa [ct0, ct1] using hg 2 _ rfl
  obtain ⟨m2, e2, -⟩ := DataW.trod_bool Try.underlying4 h2
  obtain ⟨y3, hy3⟩ : ∃ y, xs[3]? = some y := ⟨_, List.getElem?_eq_getElem (by simp at hxl; omega)⟩
  have h3 : DataW.trod enc Try.prog w base spare held n 4 [c3] = some y3 := by rw [← hy3]; simpa [ct0, ct1] using hg 3 _ rfl
  obtain ⟨m3, e3, -⟩ := DataW.trod_bool Try.underlying4 h3
  obtain ⟨y4, hy4⟩ : ∃ y, xs[4]? = some y := ⟨_, List.getElem?_eq_getElem (by simp at hxl; omega)⟩
  have h4 : DataW.trod enc Try.prog w base spare held n 3 [c4] = some y4 := by rw [← hy4]; simpa [ct0, ct1] using hg 4 _ rfl
  obtain ⟨m4, e4, -, w4⟩ := DataW.trod_int Try.underlying3 h4
  obtain ⟨y5, hy5⟩ : ∃ y, xs[5]? = some y := ⟨_, List.getElem?_eq_getElem (by simp at hxl; omega)⟩
  have h5 : DataW.trod enc Try.prog w base spare held n 3 [c5] = some y5 := by rw [← hy5]; simpa [ct0, ct1] using hg 5 _ rfl
  obtain ⟨m5, e5, -, w5⟩ := DataW.trod_int Try.underlying3 h5
  simp only [List.cons.injEq, and_true] at e0 e1 e2 e3 e4 e5
  subst e0
  subst e1
  subst e2
  subst e3
  subst e4
  subst e5
  exact ⟨_, _, _, _, _, _, rfl, wf_i64 w0, wf_i64 w1, wf_i64 w4, wf_i64 w5⟩
theorem open_SND (h : DataW.trod enc Try.prog w base spare held fuel 91 cs = some x) :
    ∃ (a_una : Int) (a_data : ByteArray) (a_sent : Int) (a_fin : Bool) (a_finSent : Bool) (a_done : Bool), cs = [.int .i64 a_una, .string a_data, .int .i64 a_sent, .bool a_fin, .bool a_finSent, .bool a_done] ∧ I64 a_una ∧ a_data.size ≤ maxLen ∧ I64 a_sent := by
  have cT : Try.prog.cellsOf 91 = 6 := by kernel_rfl
  have ct0 : Try.prog.cellsOf 4 = 1 := by kernel_rfl
  have ct1 : Try.prog.cellsOf 3 = 1 := by kernel_rfl
  have ct2 : Try.prog.cellsOf 9 = 1 := by kernel_rfl
  obtain ⟨xs, n, _, _, hl, hxl, hg⟩ := DataW.trod_struct Try.underlying91 h
  rw [cT] at hl
  obtain ⟨c0, c1, c2, c3, c4, c5, rfl⟩ := shape6 hl
  obtain ⟨y0, hy0⟩ : ∃ y, xs[0]? = some y := ⟨_, List.getElem?_eq_getElem (by simp at hxl; omega)⟩
  have h0 : DataW.trod enc Try.prog w base spare held n 3 [c0] = some y0 := by rw [← hy0]; simpa [ct0, ct1, ct2] using hg 0 _ rfl
  obtain ⟨m0, e0, -, w0⟩ := DataW.trod_int Try.underlying3 h0
  obtain ⟨y1, hy1⟩ : ∃ y, xs[1]? = some y := ⟨_, List.getElem?_eq_getElem (by simp at hxl; omega)⟩
  have h1 : DataW.trod enc Try.prog w base spare held n 9 [c1] = some y1 := by rw [← hy1]; simpa [ct0, ct1, ct2] using hg 1 _ rfl
  obtain ⟨m1, e1, -, w1⟩ := DataW.trod_string Try.underlying9 h1
  obtain ⟨y2, hy2⟩ : ∃ y, xs[2]? = some y := ⟨_, List.getElem?_eq_getElem (by simp at hxl; omega)⟩
  have h2 : DataW.trod enc Try.prog w base spare held n 3 [c2] = some y2 := by rw [← hy2]; simpa [ct0, ct1, ct2] using hg 2 _ rfl
  obtain ⟨m2, e2, -, w2⟩ := DataW.trod_int Try.underlying3 h2
  obtain ⟨y3, hy3⟩ : ∃ y, xs[3]? = some y := ⟨_, List.getElem?_eq_getElem (by simp at hxl; omega)⟩
  have h3 : DataW.trod enc Try.prog w base spare held n 4 [c3] = some y3 := by rw [← hy3]; simpa [ct0, ct1, ct2] using hg 3 _ rfl
  obtain ⟨m3, e3, -⟩ := DataW.trod_bool Try.underlying4 h3
  obtain ⟨y4, hy4⟩ : ∃ y, xs[4]? = some y := ⟨_, List.getElem?_eq_getElem (by simp at hxl; omega)⟩
  have h4 : DataW.trod enc Try.prog w base spare held n 4 [c4] = some y4 := by rw [← hy4]; simpa [ct0, ct1, ct2] using hg 4 _ rfl
  obtain ⟨m4, e4, -⟩ := DataW.trod_bool Try.underlying4 h4
  obtain ⟨y5, hy5⟩ : ∃ y, xs[5]? = some y := ⟨_, List.getElem?_eq_getElem (by simp at hxl; omega)⟩
  have h5 : DataW.trod enc Try.prog w base spare held n 4 [c5] = some y5 := by rw [← hy5]; simpa [ct0, ct1, ct2] using hg 5 _ rfl
  obtain ⟨m5, e5, -⟩ := DataW.trod_bool Try.underlying4 h5
  simp only [List.cons.injEq, and_true] at e0 e1 e2 e3 e4 e5
  subst e0
  subst e1
  subst e2
  subst e3
  subst e4
  subst e5
  exact ⟨_, _, _, _, _, _, rfl, wf_i64 w0, w1, wf_i64 w2⟩
theorem open_PCE (h : DataW.trod enc Try.prog w base spare held fuel 158 cs = some x) :
    ∃ (a_off : Int) (a_text : ByteArray), cs = [.int .i64 a_off, .string a_text] ∧ I64 a_off ∧ a_text.size ≤ maxLen := by
  have cT : Try.prog.cellsOf 158 = 2 := by kernel_rfl
  have ct0 : Try.prog.cellsOf 3 = 1 := by kernel_rfl
  have ct1 : Try.prog.cellsOf 9 = 1 := by kernel_rfl
  obtain ⟨xs, n, _, _, hl, hxl, hg⟩ := DataW.trod_struct Try.underlying158 h
  rw [cT] at hl
  obtain ⟨c0, c1, rfl⟩ := shape2 hl
  obtain ⟨y0, hy0⟩ : ∃ y, xs[0]? = some y := ⟨_, List.getElem?_eq_getElem (by simp at hxl; omega)⟩
  have h0 : DataW.trod enc Try.prog w base spare held n 3 [c0] = some y0 := by rw [← hy0]; simpa [ct0, ct1] using hg 0 _ rfl
  obtain ⟨m0, e0, -, w0⟩ := DataW.trod_int Try.underlying3 h0
  obtain ⟨y1, hy1⟩ : ∃ y, xs[1]? = some y := ⟨_, List.getElem?_eq_getElem (by simp at hxl; omega)⟩
  have h1 : DataW.trod enc Try.prog w base spare held n 9 [c1] = some y1 := by rw [← hy1]; simpa [ct0, ct1] using hg 1 _ rfl
  obtain ⟨m1, e1, -, w1⟩ := DataW.trod_string Try.underlying9 h1
  simp only [List.cons.injEq, and_true] at e0 e1
  subst e0
  subst e1
  exact ⟨_, _, rfl, wf_i64 w0, w1⟩
theorem open_RCV (h : DataW.trod enc Try.prog w base spare held fuel 59 cs = some x) :
    ∃ (a_next : Int) (a_data : ByteArray) (a_held_v : Value) (a_fin : Int) (a_done : Bool), cs = [.int .i64 a_next, .string a_data, a_held_v, .int .i64 a_fin, .bool a_done] ∧ I64 a_next ∧ a_data.size ≤ maxLen ∧ (∃ m y, DataW.trod enc Try.prog w base spare held m 57 [a_held_v] = some y) ∧ I64 a_fin := by
  have cT : Try.prog.cellsOf 59 = 5 := by kernel_rfl
  have ct0 : Try.prog.cellsOf 4 = 1 := by kernel_rfl
  have ct1 : Try.prog.cellsOf 3 = 1 := by kernel_rfl
  have ct2 : Try.prog.cellsOf 9 = 1 := by kernel_rfl
  have ct3 : Try.prog.cellsOf 57 = 1 := by kernel_rfl
  obtain ⟨xs, n, _, _, hl, hxl, hg⟩ := DataW.trod_struct Try.underlying59 h
  rw [cT] at hl
  obtain ⟨c0, c1, c2, c3, c4, rfl⟩ := shape5 hl
  obtain ⟨y0, hy0⟩ : ∃ y, xs[0]? = some y := ⟨_, List.getElem?_eq_getElem (by simp at hxl; omega)⟩
  have h0 : DataW.trod enc Try.prog w base spare held n 3 [c0] = some y0 := by rw [← hy0]; simpa [ct0, ct1, ct2, ct3] using hg 0 _ rfl
  obtain ⟨m0, e0, -, w0⟩ := DataW.trod_int Try.underlying3 h0
  obtain ⟨y1, hy1⟩ : ∃ y, xs[1]? = some y := ⟨_, List.getElem?_eq_getElem (by simp at hxl; omega)⟩
  have h1 : DataW.trod enc Try.prog w base spare held n 9 [c1] = some y1 := by rw [← hy1]; simpa [ct0, ct1, ct2, ct3] using hg 1 _ rfl
  obtain ⟨m1, e1, -, w1⟩ := DataW.trod_string Try.underlying9 h1
  obtain ⟨y2, hy2⟩ : ∃ y, xs[2]? = some y := ⟨_, List.getElem?_eq_getElem (by simp at hxl; omega)⟩
  have h2 : DataW.trod enc Try.prog w base spare held n 57 [c2] = some y2 := by rw [← hy2]; simpa [ct0, ct1, ct2, ct3] using hg 2 _ rfl
  obtain ⟨y3, hy3⟩ : ∃ y, xs[3]? = some y := ⟨_, List.getElem?_eq_getElem (by simp at hxl; omega)⟩
  have h3 : DataW.trod enc Try.prog w base spare held n 3 [c3] = some y3 := by rw [← hy3]; simpa [ct0, ct1, ct2, ct3] using hg 3 _ rfl
  obtain ⟨m3, e3, -, w3⟩ := DataW.trod_int Try.underlying3 h3
  obtain ⟨y4, hy4⟩ : ∃ y, xs[4]? = some y := ⟨_, List.getElem?_eq_getElem (by simp at hxl; omega)⟩
  have h4 : DataW.trod enc Try.prog w base spare held n 4 [c4] = some y4 := by rw [← hy4]; simpa [ct0, ct1, ct2, ct3] using hg 4 _ rfl
  obtain ⟨m4, e4, -⟩ := DataW.trod_bool Try.underlying4 h4
  simp only [List.cons.injEq, and_true] at e0 e1 e3 e4
  subst e0
  subst e1
  subst e3
  subst e4
  exact ⟨_, _, _, _, _, rfl, wf_i64 w0, w1, ⟨_, _, h2⟩, wf_i64 w3⟩
theorem open_HLF (h : DataW.trod enc Try.prog w base spare held fuel 37 cs = some x) :
    ∃ (a_t_ip : Int) (a_t_port : Int) (a_t_my : Int) (a_iss : Int) (a_irs : Int) (a_o_mss : Int) (a_o_scale : Int) (a_o_sack : Bool) (a_o_stamp : Bool) (a_o_val : Int) (a_o_echo : Int) (a_age : Int) (a_window : Int), cs = [.int .i64 a_t_ip, .int .i64 a_t_port, .int .i64 a_t_my, .int .i64 a_iss, .int .i64 a_irs, .int .i64 a_o_mss, .int .i64 a_o_scale, .bool a_o_sack, .bool a_o_stamp, .int .i64 a_o_val, .int .i64 a_o_echo, .int .i64 a_age, .int .i64 a_window] ∧ I64 a_t_ip ∧ I64 a_t_port ∧ I64 a_t_my ∧ I64 a_iss ∧ I64 a_irs ∧ I64 a_o_mss ∧ I64 a_o_scale ∧ I64 a_o_val ∧ I64 a_o_echo ∧ I64 a_age ∧ I64 a_window := by
  have cT : Try.prog.cellsOf 37 = 13 := by kernel_rfl
  have ct0 : Try.prog.cellsOf 35 = 6 := by kernel_rfl
  have ct1 : Try.prog.cellsOf 24 = 3 := by kernel_rfl
  have ct2 : Try.prog.cellsOf 3 = 1 := by kernel_rfl
  obtain ⟨xs, n, _, _, hl, hxl, hg⟩ := DataW.trod_struct Try.underlying37 h
  rw [cT] at hl
  obtain ⟨c0, c1, c2, c3, c4, c5, c6, c7, c8, c9, c10, c11, c12, rfl⟩ := shape13 hl
  obtain ⟨y0, hy0⟩ : ∃ y, xs[0]? = some y := ⟨_, List.getElem?_eq_getElem (by simp at hxl; omega)⟩
  have h0 : DataW.trod enc Try.prog w base spare held n 24 [c0, c1, c2] = some y0 := by rw [← hy0]; simpa [ct0, ct1, ct2] using hg 0 _ rfl
  obtain ⟨q0_0, q0_1, q0_2, e0, g0_0, g0_1, g0_2⟩ := open_TUP h0
  obtain ⟨y1, hy1⟩ : ∃ y, xs[1]? = some y := ⟨_, List.getElem?_eq_getElem (by simp at hxl; omega)⟩
  have h1 : DataW.trod enc Try.prog w base spare held n 3 [c3] = some y1 := by rw [← hy1]; simpa [ct0, ct1, ct2] using hg 1 _ rfl
  obtain ⟨m1, e1, -, w1⟩ := DataW.trod_int Try.underlying3 h1
  obtain ⟨y2, hy2⟩ : ∃ y, xs[2]? = some y := ⟨_, List.getElem?_eq_getElem (by simp at hxl; omega)⟩
  have h2 : DataW.trod enc Try.prog w base spare held n 3 [c4] = some y2 := by rw [← hy2]; simpa [ct0, ct1, ct2] using hg 2 _ rfl
  obtain ⟨m2, e2, -, w2⟩ := DataW.trod_int Try.underlying3 h2
  obtain ⟨y3, hy3⟩ : ∃ y, xs[3]? = some y := ⟨_, List.getElem?_eq_getElem (by simp at hxl; omega)⟩
  have h3 : DataW.trod enc Try.prog w base spare held n 35 [c5, c6, c7, c8, c9, c10] = some y3 := by rw [← hy3]; simpa [ct0, ct1, ct2] using hg 3 _ rfl
  obtain ⟨q3_0, q3_1, q3_2, q3_3, q3_4, q3_5, e3, g3_0, g3_1, g3_2, g3_3⟩ := open_OPT h3
  obtain ⟨y4, hy4⟩ : ∃ y, xs[4]? = some y := ⟨_, List.getElem?_eq_getElem (by simp at hxl; omega)⟩
  have h4 : DataW.trod enc Try.prog w base spare held n 3 [c11] = some y4 := by rw [← hy4]; simpa [ct0, ct1, ct2] using hg 4 _ rfl
  obtain ⟨m4, e4, -, w4⟩ := DataW.trod_int Try.underlying3 h4
  obtain ⟨y5, hy5⟩ : ∃ y, xs[5]? = some y := ⟨_, List.getElem?_eq_getElem (by simp at hxl; omega)⟩
  have h5 : DataW.trod enc Try.prog w base spare held n 3 [c12] = some y5 := by rw [← hy5]; simpa [ct0, ct1, ct2] using hg 5 _ rfl
  obtain ⟨m5, e5, -, w5⟩ := DataW.trod_int Try.underlying3 h5
  simp only [List.cons.injEq, and_true] at e0 e1 e2 e3 e4 e5
  obtain ⟨rfl, rfl, rfl⟩ := e0
  subst e1
  subst e2
  obtain ⟨rfl, rfl, rfl, rfl, rfl, rfl⟩ := e3
  subst e4
  subst e5
  exact ⟨_, _, _, _, _, _, _, _, _, _, _, _, _, rfl, g0_0, g0_1, g0_2, wf_i64 w1, wf_i64 w2, g3_0, g3_1, g3_2, g3_3, wf_i64 w4, wf_i64 w5⟩
theorem open_LIM (h : DataW.trod enc Try.prog w base spare held fuel 81 cs = some x) :
    ∃ (a_halves : Int) (a_waiting : Int) (a_conns : Int) (a_chal : Int), cs = [.int .i64 a_halves, .int .i64 a_waiting, .int .i64 a_conns, .int .i64 a_chal] ∧ I64 a_halves ∧ I64 a_waiting ∧ I64 a_conns ∧ I64 a_chal := by
  have cT : Try.prog.cellsOf 81 = 4 := by kernel_rfl
  have ct0 : Try.prog.cellsOf 3 = 1 := by kernel_rfl
  obtain ⟨xs, n, _, _, hl, hxl, hg⟩ := DataW.trod_struct Try.underlying81 h
  rw [cT] at hl
  obtain ⟨c0, c1, c2, c3, rfl⟩ := shape4 hl
  obtain ⟨y0, hy0⟩ : ∃ y, xs[0]? = some y := ⟨_, List.getElem?_eq_getElem (by simp at hxl; omega)⟩
  have h0 : DataW.trod enc Try.prog w base spare held n 3 [c0] = some y0 := by rw [← hy0]; simpa [ct0] using hg 0 _ rfl
  obtain ⟨m0, e0, -, w0⟩ := DataW.trod_int Try.underlying3 h0
  obtain ⟨y1, hy1⟩ : ∃ y, xs[1]? = some y := ⟨_, List.getElem?_eq_getElem (by simp at hxl; omega)⟩
  have h1 : DataW.trod enc Try.prog w base spare held n 3 [c1] = some y1 := by rw [← hy1]; simpa [ct0] using hg 1 _ rfl
  obtain ⟨m1, e1, -, w1⟩ := DataW.trod_int Try.underlying3 h1
  obtain ⟨y2, hy2⟩ : ∃ y, xs[2]? = some y := ⟨_, List.getElem?_eq_getElem (by simp at hxl; omega)⟩
  have h2 : DataW.trod enc Try.prog w base spare held n 3 [c2] = some y2 := by rw [← hy2]; simpa [ct0] using hg 2 _ rfl
  obtain ⟨m2, e2, -, w2⟩ := DataW.trod_int Try.underlying3 h2
  obtain ⟨y3, hy3⟩ : ∃ y, xs[3]? = some y := ⟨_, List.getElem?_eq_getElem (by simp at hxl; omega)⟩
  have h3 : DataW.trod enc Try.prog w base spare held n 3 [c3] = some y3 := by rw [← hy3]; simpa [ct0] using hg 3 _ rfl
  obtain ⟨m3, e3, -, w3⟩ := DataW.trod_int Try.underlying3 h3
  simp only [List.cons.injEq, and_true] at e0 e1 e2 e3
  subst e0
  subst e1
  subst e2
  subst e3
  exact ⟨_, _, _, _, rfl, wf_i64 w0, wf_i64 w1, wf_i64 w2, wf_i64 w3⟩
theorem open_CON (h : DataW.trod enc Try.prog w base spare held fuel 93 cs = some x) :
    ∃ (a_t_ip : Int) (a_t_port : Int) (a_t_my : Int) (a_state : Int) (a_s_una : Int) (a_s_data : ByteArray) (a_s_sent : Int) (a_s_fin : Bool) (a_s_finSent : Bool) (a_s_done : Bool) (a_r_next : Int) (a_r_data : ByteArray) (a_r_held_v : Value) (a_r_fin : Int) (a_r_done : Bool) (a_window : Int) (a_most : Int) (a_o_mss : Int) (a_o_scale : Int) (a_o_sack : Bool) (a_o_stamp : Bool) (a_o_val : Int) (a_o_echo : Int) (a_timer : Int) (a_tries : Int), cs = [.int .i64 a_t_ip, .int .i64 a_t_port, .int .i64 a_t_my, .int .i64 a_state, .int .i64 a_s_una, .string a_s_data, .int .i64 a_s_sent, .bool a_s_fin, .bool a_s_finSent, .bool a_s_done, .int .i64 a_r_next, .string a_r_data, a_r_held_v, .int .i64 a_r_fin, .bool a_r_done, .int .i64 a_window, .int .i64 a_most, .int .i64 a_o_mss, .int .i64 a_o_scale, .bool a_o_sack, .bool a_o_stamp, .int .i64 a_o_val, .int .i64 a_o_echo, .int .i64 a_timer, .int .i64 a_tries] ∧ I64 a_t_ip ∧ I64 a_t_port ∧ I64 a_t_my ∧ I64 a_state ∧ I64 a_s_una ∧ a_s_data.size ≤ maxLen ∧ I64 a_s_sent ∧ I64 a_r_next ∧ a_r_data.size ≤ maxLen ∧ (∃ m y, DataW.trod enc Try.prog w base spare held m 57 [a_r_held_v] = some y) ∧ I64 a_r_fin ∧ I64 a_window ∧ I64 a_most ∧ I64 a_o_mss ∧ I64 a_o_scale ∧ I64 a_o_val ∧ I64 a_o_echo ∧ I64 a_timer ∧ I64 a_tries := by
  have cT : Try.prog.cellsOf 93 = 25 := by kernel_rfl
  have ct0 : Try.prog.cellsOf 35 = 6 := by kernel_rfl
  have ct1 : Try.prog.cellsOf 59 = 5 := by kernel_rfl
  have ct2 : Try.prog.cellsOf 91 = 6 := by kernel_rfl
  have ct3 : Try.prog.cellsOf 24 = 3 := by kernel_rfl
  have ct4 : Try.prog.cellsOf 3 = 1 := by kernel_rfl
  obtain ⟨xs, n, _, _, hl, hxl, hg⟩ := DataW.trod_struct Try.underlying93 h
  rw [cT] at hl
  obtain ⟨c0, c1, c2, c3, c4, c5, c6, c7, c8, c9, c10, c11, c12, c13, c14, c15, c16, c17, c18, c19, c20, c21, c22, c23, c24, rfl⟩ := shape25 hl
  obtain ⟨y0, hy0⟩ : ∃ y, xs[0]? = some y := ⟨_, List.getElem?_eq_getElem (by simp at hxl; omega)⟩
  have h0 : DataW.trod enc Try.prog w base spare held n 24 [c0, c1, c2] = some y0 := by rw [← hy0]; simpa [ct0, ct1, ct2, ct3, ct4] using hg 0 _ rfl
  obtain ⟨q0_0, q0_1, q0_2, e0, g0_0, g0_1, g0_2⟩ := open_TUP h0
  obtain ⟨y1, hy1⟩ : ∃ y, xs[1]? = some y := ⟨_, List.getElem?_eq_getElem (by simp at hxl; omega)⟩
  have h1 : DataW.trod enc Try.prog w base spare held n 3 [c3] = some y1 := by rw [← hy1]; simpa [ct0, ct1, ct2, ct3, ct4] using hg 1 _ rfl
  obtain ⟨m1, e1, -, w1⟩ := DataW.trod_int Try.underlying3 h1
  obtain ⟨y2, hy2⟩ : ∃ y, xs[2]? = some y := ⟨_, List.getElem?_eq_getElem (by simp at hxl; omega)⟩
  have h2 : DataW.trod enc Try.prog w base spare held n 91 [c4, c5, c6, c7, c8, c9] = some y2 := by rw [← hy2]; simpa [ct0, ct1, ct2, ct3, ct4] using hg 2 _ rfl
  obtain ⟨q2_0, q2_1, q2_2, q2_3, q2_4, q2_5, e2, g2_0, g2_1, g2_2⟩ := open_SND h2
  obtain ⟨y3, hy3⟩ : ∃ y, xs[3]? = some y := ⟨_, List.getElem?_eq_getElem (by simp at hxl; omega)⟩
  have h3 : DataW.trod enc Try.prog w base spare held n 59 [c10, c11, c12, c13, c14] = some y3 := by rw [← hy3]; simpa [ct0, ct1, ct2, ct3, ct4] using hg 3 _ rfl
  obtain ⟨q3_0, q3_1, q3_2, q3_3, q3_4, e3, g3_0, g3_1, g3_2, g3_3⟩ := open_RCV h3
  obtain ⟨y4, hy4⟩ : ∃ y, xs[4]? = some y := ⟨_, List.getElem?_eq_getElem (by simp at hxl; omega)⟩
  have h4 : DataW.trod enc Try.prog w base spare held n 3 [c15] = some y4 := by rw [← hy4]; simpa [ct0, ct1, ct2, ct3, ct4] using hg 4 _ rfl
  obtain ⟨m4, e4, -, w4⟩ := DataW.trod_int Try.underlying3 h4
  obtain ⟨y5, hy5⟩ : ∃ y, xs[5]? = some y := ⟨_, List.getElem?_eq_getElem (by simp at hxl; omega)⟩
  have h5 : DataW.trod enc Try.prog w base spare held n 3 [c16] = some y5 := by rw [← hy5]; simpa [ct0, ct1, ct2, ct3, ct4] using hg 5 _ rfl
  obtain ⟨m5, e5, -, w5⟩ := DataW.trod_int Try.underlying3 h5
  obtain ⟨y6, hy6⟩ : ∃ y, xs[6]? = some y := ⟨_, List.getElem?_eq_getElem (by simp at hxl; omega)⟩
  have h6 : DataW.trod enc Try.prog w base spare held n 35 [c17, c18, c19, c20, c21, c22] = some y6 := by rw [← hy6]; simpa [ct0, ct1, ct2, ct3, ct4] using hg 6 _ rfl
  obtain ⟨q6_0, q6_1, q6_2, q6_3, q6_4, q6_5, e6, g6_0, g6_1, g6_2, g6_3⟩ := open_OPT h6
  obtain ⟨y7, hy7⟩ : ∃ y, xs[7]? = some y := ⟨_, List.getElem?_eq_getElem (by simp at hxl; omega)⟩
  have h7 : DataW.trod enc Try.prog w base spare held n 3 [c23] = some y7 := by rw [← hy7]; simpa [ct0, ct1, ct2, ct3, ct4] using hg 7 _ rfl
  obtain ⟨m7, e7, -, w7⟩ := DataW.trod_int Try.underlying3 h7
  obtain ⟨y8, hy8⟩ : ∃ y, xs[8]? = some y := ⟨_, List.getElem?_eq_getElem (by simp at hxl; omega)⟩
  have h8 : DataW.trod enc Try.prog w base spare held n 3 [c24] = some y8 := by rw [← hy8]; simpa [ct0, ct1, ct2, ct3, ct4] using hg 8 _ rfl
  obtain ⟨m8, e8, -, w8⟩ := DataW.trod_int Try.underlying3 h8
  simp only [List.cons.injEq, and_true] at e0 e1 e2 e3 e4 e5 e6 e7 e8
  obtain ⟨rfl, rfl, rfl⟩ := e0
  subst e1
  obtain ⟨rfl, rfl, rfl, rfl, rfl, rfl⟩ := e2
  obtain ⟨rfl, rfl, rfl, rfl, rfl⟩ := e3
  subst e4
  subst e5
  obtain ⟨rfl, rfl, rfl, rfl, rfl, rfl⟩ := e6
  subst e7
  subst e8
  exact ⟨_, _, _, _, _, _, _, _, _, _, _, _, _, _, _, _, _, _, _, _, _, _, _, _, _, rfl, g0_0, g0_1, g0_2, wf_i64 w1, g2_0, g2_1, g2_2, g3_0, g3_1, g3_2, g3_3, wf_i64 w4, wf_i64 w5, g6_0, g6_1, g6_2, g6_3, wf_i64 w7, wf_i64 w8⟩
theorem open_TAB (h : DataW.trod enc Try.prog w base spare held fuel 69 cs = some x) :
    ∃ (a_conns_v : Value) (a_waiting_v : Value), cs = [a_conns_v, a_waiting_v] ∧ (∃ m y, DataW.trod enc Try.prog w base spare held m 66 [a_conns_v] = some y) ∧ (∃ m y, DataW.trod enc Try.prog w base spare held m 67 [a_waiting_v] = some y) := by
  have cT : Try.prog.cellsOf 69 = 2 := by kernel_rfl
  have ct0 : Try.prog.cellsOf 66 = 1 := by kernel_rfl
  have ct1 : Try.prog.cellsOf 67 = 1 := by kernel_rfl
  obtain ⟨xs, n, _, _, hl, hxl, hg⟩ := DataW.trod_struct Try.underlying69 h
  rw [cT] at hl
  obtain ⟨c0, c1, rfl⟩ := shape2 hl
  obtain ⟨y0, hy0⟩ : ∃ y, xs[0]? = some y := ⟨_, List.getElem?_eq_getElem (by simp at hxl; omega)⟩
  have h0 : DataW.trod enc Try.prog w base spare held n 66 [c0] = some y0 := by rw [← hy0]; simpa [ct0, ct1] using hg 0 _ rfl
  obtain ⟨y1, hy1⟩ : ∃ y, xs[1]? = some y := ⟨_, List.getElem?_eq_getElem (by simp at hxl; omega)⟩
  have h1 : DataW.trod enc Try.prog w base spare held n 67 [c1] = some y1 := by rw [← hy1]; simpa [ct0, ct1] using hg 1 _ rfl
  exact ⟨_, _, rfl, ⟨_, _, h0⟩, ⟨_, _, h1⟩⟩
end
end Go.Proofs.Yteoipoenbofemaa
