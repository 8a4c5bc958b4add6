/- Contracts (E). -/
import Derived.Test.YtnmmhbhdcplfmaaB
namespace Go.Proofs.Ytnmmhbhdcplfmaa
open Go.RowKit
attribute [local go_sem] lt_gap le_gap eq_gap gap_eq lt_ones2 lt_ones3 lt_ones4 lt_ones5 lt_ones6 lt_ones7 lt_ones8 lt_gap_1 lt_gap_2 lt_gap_3 lt_gap_4 lt_gap_5 lt_gap_6 size_grow cell?_grow frozen?_grow setCell_grow drew_grow drewN_grow
attribute [local go_sem] boxOf_alloc_at boxOf_alloc_past boxOf_grow boxOf_drew boxOf_drewN isBox_alloc_at isBox_alloc_past isBox_grow isBox_drew isBox_drewN putAt_all putAt setCells_alloc_at setCells_alloc_past setCells_grow setCells_drew
set_option linter.unusedVariables false
set_option linter.unusedSimpArgs false

theorem ite_res (c : Prop) [Decidable c] (x : Bool) (w : World) : (if c then Result.ok x w else Result.ok false w) = Result.ok (decide c && x) w := by by_cases h : c <;> simp [h]
theorem ite_res1 (c : Prop) [Decidable c] (w : World) : (if c then Result.ok true w else Result.ok false w) = Result.ok (decide c) w := by by_cases h : c <;> simp [h]
def tupEq (a b : Tup) : Bool := decide (a.ip = b.ip) && (decide (a.port = b.port) && (decide (a.my = b.my)))
theorem run_equalIn_TUP (d : Nat) (a_ip : Int) (a_port : Int) (a_my : Int) (b_ip : Int) (b_port : Int) (b_my : Int) (w : World) : (Op.equalIn (d + 3) 35 (.agg #[.int .i64 a_ip, .int .i64 a_port, .int .i64 a_my]) (.agg #[.int .i64 b_ip, .int .i64 b_port, .int .i64 b_my])).run Try.prog w = .ok (tupEq ⟨a_ip, a_port, a_my⟩ ⟨b_ip, b_port, b_my⟩) w := by
  have hu := Try.underlying35
  have hp : Try.prog.stoodInHeld 35 = false := by kernel_rfl
  have c_i : (Try.prog.info? 3).map (·.size) = some 1 := by kernel_rfl
  rw [run_equalIn_struct w (d + 2) _ _ _ (by simp [Program.fieldsOf, hu]) hp]
  simp [Program.fieldsOf, hu, go_sem]
  simp only [ite_res, ite_res1, tupEq, Bool.and_true, Bool.decide_eq_true, Bool.and_assoc]
theorem run_eql_TUP (a_ip : Int) (a_port : Int) (a_my : Int) (b_ip : Int) (b_port : Int) (b_my : Int) (w : World) : (binOp .eql 35 (.agg #[.int .i64 a_ip, .int .i64 a_port, .int .i64 a_my]) (.agg #[.int .i64 b_ip, .int .i64 b_port, .int .i64 b_my])).run Try.prog w = .ok (.bool (tupEq ⟨a_ip, a_port, a_my⟩ ⟨b_ip, b_port, b_my⟩)) w := by
  simp [binOp, Op.equal, Op.maxDepth, run_equalIn_TUP 9997]
def optEq (a b : Opt) : Bool := decide (a.mss = b.mss) && (decide (a.scale = b.scale) && (decide (a.sack = b.sack) && (decide (a.stamp = b.stamp) && (decide (a.val = b.val) && (decide (a.echo = b.echo))))))
theorem run_equalIn_OPT (d : Nat) (a_mss : Int) (a_scale : Int) (a_sack : Bool) (a_stamp : Bool) (a_val : Int) (a_echo : Int) (b_mss : Int) (b_scale : Int) (b_sack : Bool) (b_stamp : Bool) (b_val : Int) (b_echo : Int) (w : World) : (Op.equalIn (d + 3) 39 (.agg #[.int .i64 a_mss, .int .i64 a_scale, .bool a_sack, .bool a_stamp, .int .i64 a_val, .int .i64 a_echo]) (.agg #[.int .i64 b_mss, .int .i64 b_scale, .bool b_sack, .bool b_stamp, .int .i64 b_val, .int .i64 b_echo])).run Try.prog w = .ok (optEq ⟨a_mss, a_scale, a_sack, a_stamp, a_val, a_echo⟩ ⟨b_mss, b_scale, b_sack, b_stamp, b_val, b_echo⟩) w := by
  have hu := Try.underlying39
  have hp : Try.prog.stoodInHeld 39 = false := by kernel_rfl
  have c_b : (Try.prog.info? 4).map (·.size) = some 1 := by kernel_rfl
  have c_i : (Try.prog.info? 3).map (·.size) = some 1 := by kernel_rfl
  rw [run_equalIn_struct w (d + 2) _ _ _ (by simp [Program.fieldsOf, hu]) hp]
  simp [Program.fieldsOf, hu, go_sem]
  simp only [ite_res, ite_res1, optEq, Bool.and_true, Bool.decide_eq_true, Bool.and_assoc]
theorem run_eql_OPT (a_mss : Int) (a_scale : Int) (a_sack : Bool) (a_stamp : Bool) (a_val : Int) (a_echo : Int) (b_mss : Int) (b_scale : Int) (b_sack : Bool) (b_stamp : Bool) (b_val : Int) (b_echo : Int) (w : World) : (binOp .eql 39 (.agg #[.int .i64 a_mss, .int .i64 a_scale, .bool a_sack, .bool a_stamp, .int .i64 a_val, .int .i64 a_echo]) (.agg #[.int .i64 b_mss, .int .i64 b_scale, .bool b_sack, .bool b_stamp, .int .i64 b_val, .int .i64 b_echo])).run Try.prog w = .ok (.bool (optEq ⟨a_mss, a_scale, a_sack, a_stamp, a_val, a_echo⟩ ⟨b_mss, b_scale, b_sack, b_stamp, b_val, b_echo⟩)) w := by
  simp [binOp, Op.equal, Op.maxDepth, run_equalIn_OPT 9997]
def sndEq (a b : Snd) : Bool := decide (a.una = b.una) && (decide (a.data.toList = b.data.toList) && (decide (a.sent = b.sent) && (decide (a.fin = b.fin) && (decide (a.finSent = b.finSent) && (decide (a.done = b.done))))))
theorem run_equalIn_SND (d : Nat) (a_una : Int) (a_data : ByteArray) (a_sent : Int) (a_fin : Bool) (a_finSent : Bool) (a_done : Bool) (b_una : Int) (b_data : ByteArray) (b_sent : Int) (b_fin : Bool) (b_finSent : Bool) (b_done : Bool) (w : World) : (Op.equalIn (d + 3) 37 (.agg #[.int .i64 a_una, .string a_data, .int .i64 a_sent, .bool a_fin, .bool a_finSent, .bool a_done]) (.agg #[.int .i64 b_una, .string b_data, .int .i64 b_sent, .bool b_fin, .bool b_finSent, .bool b_done])).run Try.prog w = .ok (sndEq ⟨a_una, a_data, a_sent, a_fin, a_finSent, a_done⟩ ⟨b_una, b_data, b_sent, b_fin, b_finSent, b_done⟩) w := by
  have hu := Try.underlying37
  have hp : Try.prog.stoodInHeld 37 = false := by kernel_rfl
  have c_b : (Try.prog.info? 4).map (·.size) = some 1 := by kernel_rfl
  have c_i : (Try.prog.info? 3).map (·.size) = some 1 := by kernel_rfl
  have c_s : (Try.prog.info? 9).map (·.size) = some 1 := by kernel_rfl
  rw [run_equalIn_struct w (d + 2) _ _ _ (by simp [Program.fieldsOf, hu]) hp]
  simp [Program.fieldsOf, hu, go_sem]
  simp only [ite_res, ite_res1, sndEq, Bool.and_true, Bool.decide_eq_true, Bool.and_assoc]
theorem run_eql_SND (a_una : Int) (a_data : ByteArray) (a_sent : Int) (a_fin : Bool) (a_finSent : Bool) (a_done : Bool) (b_una : Int) (b_data : ByteArray) (b_sent : Int) (b_fin : Bool) (b_finSent : Bool) (b_done : Bool) (w : World) : (binOp .eql 37 (.agg #[.int .i64 a_una, .string a_data, .int .i64 a_sent, .bool a_fin, .bool a_finSent, .bool a_done]) (.agg #[.int .i64 b_una, .string b_data, .int .i64 b_sent, .bool b_fin, .bool b_finSent, .bool b_done])).run Try.prog w = .ok (.bool (sndEq ⟨a_una, a_data, a_sent, a_fin, a_finSent, a_done⟩ ⟨b_una, b_data, b_sent, b_fin, b_finSent, b_done⟩)) w := by
  simp [binOp, Op.equal, Op.maxDepth, run_equalIn_SND 9997]
def pceEq (a b : Pce) : Bool := decide (a.off = b.off) && (decide (a.text.toList = b.text.toList))
theorem run_equalIn_PCE (d : Nat) (a_off : Int) (a_text : ByteArray) (b_off : Int) (b_text : ByteArray) (w : World) : (Op.equalIn (d + 3) 65 (.agg #[.int .i64 a_off, .string a_text]) (.agg #[.int .i64 b_off, .string b_text])).run Try.prog w = .ok (pceEq ⟨a_off, a_text⟩ ⟨b_off, b_text⟩) w := by
  have hu := Try.underlying65
  have hp : Try.prog.stoodInHeld 65 = false := by kernel_rfl
  have c_i : (Try.prog.info? 3).map (·.size) = some 1 := by kernel_rfl
  have c_s : (Try.prog.info? 9).map (·.size) = some 1 := by kernel_rfl
  rw [run_equalIn_struct w (d + 2) _ _ _ (by simp [Program.fieldsOf, hu]) hp]
  simp [Program.fieldsOf, hu, go_sem]
  simp only [ite_res, ite_res1, pceEq, Bool.and_true, Bool.decide_eq_true, Bool.and_assoc]
theorem run_neq_PCE (a_off : Int) (a_text : ByteArray) (b_off : Int) (b_text : ByteArray) (w : World) : (binOp .neq 65 (.agg #[.int .i64 a_off, .string a_text]) (.agg #[.int .i64 b_off, .string b_text])).run Try.prog w = .ok (.bool (!pceEq ⟨a_off, a_text⟩ ⟨b_off, b_text⟩)) w := by
  simp [binOp, Op.equal, Op.maxDepth, run_equalIn_PCE 9997]
end Go.Proofs.Ytnmmhbhdcplfmaa
