/- Contracts that this law needs, part 2. -/
import Derived.Test.YtjfamgkkenccdaaZ1
namespace Go.Proofs.Ytjfamgkkenccdaa
open Go.RowKit
set_option linter.unusedVariables false
set_option linter.unusedSimpArgs false
set_option maxRecDepth 100000

theorem yheldConn_m (n : Nat) (x_t_ip : Int) (x_t_port : Int) (x_t_my : Int) (x_state : Int) (x_s_una : Int) (x_s_data : ByteArray) (x_s_sent : Int) (x_s_fin : Bool) (x_s_finSent : Bool) (x_s_done : Bool) (x_r_next : Int) (x_r_data : ByteArray) (x_r_fin : Int) (x_r_done : Bool) (x_window : Int) (x_most : Int) (x_o_mss : Int) (x_o_scale : Int) (x_o_sack : Bool) (x_o_stamp : Bool) (x_o_val : Int) (x_o_echo : Int) (x_timer : Int) (x_tries : Int) (v : Value) (k : Int) (w : World) (hs : Sl w v 2 ((marks mkP 2 k n).map pceCells)) (hk0 : 0 ≤ k) (hk : k ≤ 4503599627370496) (hl : n ≤ 1048576) : Calls Try.prog 35 #[.agg #[.int .i64 x_t_ip, .int .i64 x_t_port, .int .i64 x_t_my, .int .i64 x_state, .int .i64 x_s_una, .string x_s_data, .int .i64 x_s_sent, .bool x_s_fin, .bool x_s_finSent, .bool x_s_done, .int .i64 x_r_next, .string x_r_data, v, .int .i64 x_r_fin, .bool x_r_done, .int .i64 x_window, .int .i64 x_most, .int .i64 x_o_mss, .int .i64 x_o_scale, .bool x_o_sack, .bool x_o_stamp, .int .i64 x_o_val, .int .i64 x_o_echo, .int .i64 x_timer, .int .i64 x_tries], .int .i64 k] w fun e w' => e = .returned (.int .i64 (k + 2 * (n : Int))) ∧ Below w.heap.size w w' := by
  obtain ⟨A,cap,hv⟩ := hs.form
  rw [List.length_map,marks_len] at hv; subst hv
  refine x_calls (args := [.agg #[.int .i64 x_t_ip,.int .i64 x_t_port,.int .i64 x_t_my,.int .i64 x_state,.int .i64 x_s_una,.string x_s_data,.int .i64 x_s_sent,.bool x_s_fin,.bool x_s_finSent,.bool x_s_done,.int .i64 x_r_next,.string x_r_data,.slice A n cap,.int .i64 x_r_fin,.bool x_r_done,.int .i64 x_window,.int .i64 x_most,.int .i64 x_o_mss,.int .i64 x_o_scale,.bool x_o_sack,.bool x_o_stamp,.int .i64 x_o_val,.int .i64 x_o_echo,.int .i64 x_timer,.int .i64 x_tries],.int .i64 k]) (fn := Try.f35) [slF (.slice A n cap) 2 ((marks mkP 2 k n).map pceCells)] Try.func35 rfl Try.ntmps35 rfl (by simp only [List.mem_cons,List.not_mem_nil,or_false,forall_eq_or_imp,forall_eq]; exact ⟨rfl,hs⟩) ?_
  refine xw_seq ?_
  refine xw_region ?_
  refine xl_end [1,2] ⟨[(1,.v (.int .i64 k)),(2,.p 0 0)],[⟨42,[.int .i64 x_t_ip,.int .i64 x_t_port,.int .i64 x_t_my,.int .i64 x_state,.int .i64 x_s_una,.string x_s_data,.int .i64 x_s_sent,.bool x_s_fin,.bool x_s_finSent,.bool x_s_done,.int .i64 x_r_next,.string x_r_data,.slice A n cap,.int .i64 x_r_fin,.bool x_r_done,.int .i64 x_window,.int .i64 x_most,.int .i64 x_o_mss,.int .i64 x_o_scale,.bool x_o_sack,.bool x_o_stamp,.int .i64 x_o_val,.int .i64 x_o_echo,.int .i64 x_timer,.int .i64 x_tries]⟩],[],[slF (.slice A n cap) 2 ((marks mkP 2 k n).map pceCells)]⟩ (by kernel_rfl) ?_
  refine xw_seq ?_
  refine xw_region ?_
  refine xl_callS 3 [1,6,7] [(1,.v (.int .i64 k)),(6,.v (.agg #[.int .i64 x_r_next,.string x_r_data,.slice A n cap,.int .i64 x_r_fin,.bool x_r_done])),(7,.v (.int .i64 k))] 99 [.agg #[.int .i64 x_r_next,.string x_r_data,.slice A n cap,.int .i64 x_r_fin,.bool x_r_done],.int .i64 k] (some 8) (by kernel_rfl) rfl (by kernel_rfl) rfl (by kernel_rfl) (xc_b fun ww hf => yheldReceiver_m n x_r_next x_r_data x_r_fin x_r_done (.slice A n cap) k ww (hf (slF (.slice A n cap) 2 ((marks mkP 2 k n).map pceCells)) (by simp)) (by omega) (by omega) (by omega)) ?_
  intro _
  refine xl_endS [1] [(1,.v (.int .i64 (k + 2 * (n : Int))))] (by kernel_rfl) ?_
  refine xw_seq ?_
  refine xw_seq ?_
  refine xw_region ?_
  refine xl_endS [1,10] [(1,.v (.int .i64 (k + 2 * (n : Int)))),(10,.v (.bool (decide ((k + 2 * (n : Int)) < 0))))] (by kernel_rfl) ?_
  refine xw_cond (b := decide ((k + 2 * (n : Int)) < 0)) (by kernel_rfl) (fun h1 => ?_) (fun h1 => ?_)
  have h1p : ((k + 2 * (n : Int)) < 0) := of_decide_eq_true h1
  exfalso; have := of_decide_eq_true h1; omega
  have h1p : ¬ ((k + 2 * (n : Int)) < 0) := of_decide_eq_false h1
  refine xw_skip ?_
  refine xw_seq ?_
  refine xw_region ?_
  refine xl_endS [4] [(4,.v (.int .i64 (k + 2 * (n : Int))))] (by kernel_rfl) ?_
  refine xw_ret ?_
  exact ⟨[.int .i64 (k + 2 * (n : Int))],by kernel_rfl,fun w' hb hf => ⟨rfl,hb⟩⟩
set_option maxHeartbeats 1000000 in
theorem yeqSegmentS_c (a : List Seg) (aV : Value) (bV : Value) (w : World) (hl_aV : Sl w aV 13 (a.map segCells)) (hl_bV : Sl w bV 13 (a.map segCells))  : Calls Try.prog 38 #[aV, bV] w fun e w' => e = .returned (.bool true) ∧ Below w.heap.size w w' := by
  obtain ⟨Aa,Ca,hva⟩ := hl_aV.form
  rw [List.length_map] at hva; subst hva
  have hna := hl_aV.len; rw [List.length_map] at hna
  obtain ⟨Ab,Cb,hvb⟩ := hl_bV.form
  rw [List.length_map] at hvb; subst hvb
  have hnb := hl_bV.len; rw [List.length_map] at hnb
  refine x_calls (args := [.slice Aa a.length Ca,.slice Ab a.length Cb]) (fn := Try.f38) [slF (.slice Aa a.length Ca) 13 (a.map segCells),slF (.slice Ab a.length Cb) 13 (a.map segCells)] Try.func38 rfl Try.ntmps38 rfl (by simp only [List.mem_cons,List.not_mem_nil,or_false,forall_eq_or_imp,forall_eq]; exact ⟨⟨rfl,hl_aV⟩,⟨rfl,hl_bV⟩⟩) ?_
  refine xw_seq ?_
  refine xw_region ?_
  refine xl_end [0,1] ⟨[(0,.v (.slice Aa a.length Ca)),(1,.v (.slice Ab a.length Cb))],[],[],[slF (.slice Aa a.length Ca) 13 (a.map segCells),slF (.slice Ab a.length Cb) 13 (a.map segCells)]⟩ (by kernel_rfl) ?_
  refine xw_seq ?_
  refine xw_seq ?_
  refine xw_region ?_
  refine xl_endS [0,1,10] [(0,.v (.slice Aa a.length Ca)),(1,.v (.slice Ab a.length Cb)),(10,.v (.bool (((a.length : Nat) : Int) != ((a.length : Nat) : Int))))] (by kernel_rfl) ?_
  refine xw_cond (b := ((a.length : Nat) : Int) != ((a.length : Nat) : Int)) (by kernel_rfl) (fun h1 => ?_) (fun h1 => ?_)
  simp at h1
  have h1p := neF h1
  refine xw_skip ?_
  refine xw_seq ?_
  refine xw_seq ?_
  refine xw_region ?_
  refine xl_endS [0,1,5] [(0,.v (.slice Aa a.length Ca)),(1,.v (.slice Ab a.length Cb)),(5,.v (.int .i64 0))] (by kernel_rfl) ?_
  refine xw_block ?_
  refine xw_loopW (α := {x : Nat // (fun (i : Nat) => i ≤ a.length) x}) (fun x => (fun (i : Nat) => (⟨[(0,.v (.slice Aa a.length Ca)),(1,.v (.slice Ab a.length Cb)),(5,.v (.int .i64 (i : Int)))],[],[],[slF (.slice Aa a.length Ca) 13 (a.map segCells),slF (.slice Ab a.length Cb) 13 (a.map segCells)]⟩ : St)) x.1) (fun x => (fun (i : Nat) => a.length - i) x.1) ⟨(0),Nat.zero_le _⟩ (wk_forget 0 0 [0,1,5] (by kernel_rfl) (by kernel_rfl) (by kernel_rfl)) ?_
  rintro ⟨i,hi⟩
  refine xw_wk (Wk.of_eq (s' := ⟨[(0,.v (.slice Aa a.length Ca)),(1,.v (.slice Ab a.length Cb)),(5,.v (.int .i64 (i : Int)))],[],[],[slF (.slice Aa a.length Ca) 13 (a.map segCells),slF (.slice Ab a.length Cb) 13 (a.map segCells)]⟩) rfl) ?_
  try dsimp only at hi
  refine xw_seq ?_
  refine xw_seq ?_
  refine xw_region ?_
  refine xl_endS [0,1,5,14] [(0,.v (.slice Aa a.length Ca)),(1,.v (.slice Ab a.length Cb)),(5,.v (.int .i64 (i : Int))),(14,.v (.bool (decide ((i : Int) < ((a.length : Nat) : Int)))))] (by kernel_rfl) ?_
  refine xw_cond (b := decide ((i : Int) < ((a.length : Nat) : Int))) (by kernel_rfl) (fun h2 => ?_) (fun h2 => ?_)
  have h2p : ((i : Int) < ((a.length : Nat) : Int)) := of_decide_eq_true h2
  have hlt : i < a.length := by simpa using h2
  obtain ⟨x,hx⟩ : ∃ x,a[i]? = some x := ⟨_,List.getElem?_eq_getElem hlt⟩
  refine xw_skip ?_
  refine xw_seq ?_
  refine xw_block ?_
  refine xw_seq ?_
  refine xws_start ?_
  refine xws_row (K := 13) (j := i) [.int .i64 x.src,.int .i64 x.dst,.int .i64 x.seq,.int .i64 x.ack,.int .i64 x.flags,.int .i64 x.window,.int .i64 x.o.mss,.int .i64 x.o.scale,.bool x.o.sack,.bool x.o.stamp,.int .i64 x.o.val,.int .i64 x.o.echo,.string x.body] (slF (.slice Aa a.length Ca) 13 (a.map segCells)) (fun _ _ h => h) (by simp) (fun w h => h) (fun b h => h) (by simp only [List.getElem?_map,hx]; rfl) (fun bq3 offq3 hAq3 => ?_)
  refine xws_row (K := 13) (j := i) [.int .i64 x.src,.int .i64 x.dst,.int .i64 x.seq,.int .i64 x.ack,.int .i64 x.flags,.int .i64 x.window,.int .i64 x.o.mss,.int .i64 x.o.scale,.bool x.o.sack,.bool x.o.stamp,.int .i64 x.o.val,.int .i64 x.o.echo,.string x.body] (slF (.slice Ab a.length Cb) 13 (a.map segCells)) (fun _ _ h => h) (by simp) (fun w h => h) (fun b h => h) (by simp only [List.getElem?_map,hx]; rfl) (fun bq4 offq4 hAq4 => ?_)
  refine xws_regionE [] (by kernel_rfl) (fun ρ σ hq5 => ?_)
  refine xe_tkS [0,1,4,5] [22,21,18,17,0,1,5] 6 [(22,.v (.int .i64 (i : Int))),(21,.v (.slice Ab a.length Cb)),(18,.v (.int .i64 (i : Int))),(17,.v (.slice Aa a.length Ca)),(0,.v (.slice Aa a.length Ca)),(1,.v (.slice Ab a.length Cb)),(5,.v (.int .i64 (i : Int)))] (fun _ _ h => h) rfl (by kernel_rfl) ?_
  refine xe_takeI (kd := .i64) (T := 67) (e := 51) (K := 13) (j := i) (A := Aa) (len := a.length) (cap := Ca) 2 0 _ rfl (by kernel_rfl) (by kernel_rfl) (by kernel_rfl) (fun _ _ h => h) (by kernel_rfl) rfl rfl (by kernel_rfl) (by kernel_rfl) (by kernel_rfl) (by kernel_rfl) hlt hAq3 hq5.1.2 (by kernel_rfl) rfl ?_
  refine xe_tkS [3] [20,22,21,0,1,5] 4 [(20,.v (.agg (segL x).toArray)),(22,.v (.int .i64 (i : Int))),(21,.v (.slice Ab a.length Cb)),(0,.v (.slice Aa a.length Ca)),(1,.v (.slice Ab a.length Cb)),(5,.v (.int .i64 (i : Int)))] (fun _ _ h => h) rfl (by kernel_rfl) ?_
  refine xe_takeI (kd := .i64) (T := 67) (e := 51) (K := 13) (j := i) (A := Ab) (len := a.length) (cap := Cb) 6 1 _ rfl (by kernel_rfl) (by kernel_rfl) (by kernel_rfl) (fun _ _ h => h) (by kernel_rfl) rfl rfl (by kernel_rfl) (by kernel_rfl) (by kernel_rfl) (by kernel_rfl) hlt hAq4 hq5.2 (by kernel_rfl) rfl ?_
  refine xe_tkS [7] [24,20,0,1,5] 2 [(24,.v (.agg (segL x).toArray)),(20,.v (.agg (segL x).toArray)),(0,.v (.slice Aa a.length Ca)),(1,.v (.slice Ab a.length Cb)),(5,.v (.int .i64 (i : Int)))] (fun _ _ h => h) rfl (by kernel_rfl) ?_
  refine xe_all [8] (by kernel_rfl) (by simp) ?_
  refine xs_call 8 26 [.agg (segL x).toArray,.agg (segL x).toArray] (some 25) rfl (by kernel_rfl) rfl (by kernel_rfl) (xc_b fun ww hf => eqSegment_c x.src x.dst x.seq x.ack x.flags x.window x.o.mss x.o.scale x.o.sack x.o.stamp x.o.val x.o.echo x.body ww) ?_
  intro _
  refine xe_tkS [9] [26,0,1,5] 0 [(26,.v (.bool false)),(0,.v (.slice Aa a.length Ca)),(1,.v (.slice Ab a.length Cb)),(5,.v (.int .i64 (i : Int)))] (fun _ _ h => h) rfl (by kernel_rfl) ?_
  refine xe_done (by kernel_rfl) ?_
  refine xw_false (by kernel_rfl) ?_
  refine xw_skip ?_
  refine xw_region ?_
  refine xl_runS 3 [0,1,5] [(0,.v (.slice Aa a.length Ca)),(1,.v (.slice Ab a.length Cb)),(5,.v (.int .i64 (IntKind.i64.wrap ((i : Int) + 1))))] (by kernel_rfl) ?_
  refine xl_eqS (t' := [(0,.v (.slice Aa a.length Ca)),(1,.v (.slice Ab a.length Cb)),(5,.v (.int .i64 ((i : Int) + 1)))]) (by rw [show (IntKind.i64.wrap ((i : Int) + 1)) = ((i : Int) + 1) from wrap_id (by omega) (by omega)]) ?_
  refine xl_endS [0,1,5] [(0,.v (.slice Aa a.length Ca)),(1,.v (.slice Ab a.length Cb)),(5,.v (.int .i64 ((i : Int) + 1)))] (by kernel_rfl) ?_
  exact ⟨⟨(i + 1),hlt⟩,wk_forget 0 0 [0,1,5] (by kernel_rfl) (by kernel_rfl) (by kernel_rfl),by show (fun (i : Nat) => a.length - i) (i + 1) < a.length - i; (dsimp only; omega)⟩
  have h2p : ¬ ((i : Int) < ((a.length : Nat) : Int)) := of_decide_eq_false h2
  have hge : i = a.length := by simp at h2; omega
  refine xw_exit ?_
  refine xw_seq ?_
  refine xw_region ?_
  refine xl_endS [4] [(4,.v (.bool true))] (by kernel_rfl) ?_
  refine xw_ret ?_
  exact ⟨[.bool true],by kernel_rfl,fun w' hb hf => by exact ⟨rfl,hb⟩⟩
set_option maxHeartbeats 1000000 in
theorem ysNextChunk_c (s : Snd) (window : Int) (mss : Int) (w : World) (hwi : -9223372036854775808 ≤ window ∧ window ≤ 9223372036854775807) : Calls Try.prog 105 #[.agg (sndL s).toArray, .int .i64 window, .int .i64 mss] w fun e w' => e = .returned (.tuple #[.agg (chkL (nextChunk s window mss).1).toArray, .bool ((nextChunk s window mss).2)]) ∧ Below w.heap.size w w' := by
  refine x_calls (args := [.agg (sndL s).toArray,.int .i64 window,.int .i64 mss]) (fn := Try.f105) [] Try.func105 rfl Try.ntmps105 rfl (by simp) ?_
  refine xw_seq ?_
  refine xw_region ?_
  refine xl_end [1,2,3,6] ⟨[(1,.v (.int .i64 window)),(2,.v (.int .i64 mss)),(3,.p 0 0),(6,.p 1 0)],[⟨36,sndL s⟩,⟨116,chkL (⟨0,(⟨#[]⟩ : ByteArray),false⟩ : Chk)⟩],[],[]⟩ (by kernel_rfl) ?_
  refine xw_seq ?_
  refine xw_seq ?_
  refine xw_region ?_
  refine xl_callS 1 [1,2,3,6,11] [(1,.v (.int .i64 window)),(2,.v (.int .i64 mss)),(3,.p 0 0),(6,.p 1 0),(11,.v (.agg (sndL s).toArray))] 129 [.agg (sndL s).toArray] (some 12) (by kernel_rfl) rfl (by kernel_rfl) rfl (by kernel_rfl) (xc_b fun ww hf => sSenderOk_c s.una s.data s.sent s.fin s.finSent s.done ww ) ?_
  intro _
  refine xl_endS [1,2,3,6,13] [(1,.v (.int .i64 window)),(2,.v (.int .i64 mss)),(3,.p 0 0),(6,.p 1 0),(13,.v (.bool (!(senderOk s))))] (by kernel_rfl) ?_
  refine xw_cond (b := !(senderOk s)) (by kernel_rfl) (fun h1 => ?_) (fun h1 => ?_)
  have hsn := not_t h1
  refine xw_seq ?_
  refine xw_region ?_
  refine xl_opS 0 [6] [(6,.p 1 0)] (.agg (chkL (⟨0,(⟨#[]⟩ : ByteArray),false⟩ : Chk)).toArray) (by kernel_rfl) rfl (by kernel_rfl) rfl (fun _ _ _ ww hr => act_build [] hr.1 rfl (by kernel_rfl) (by kernel_rfl) ww) ?_
  refine xl_endS [6,7] [(6,.p 1 0),(7,.v (.bool false))] (by kernel_rfl) ?_
  refine xw_ret ?_
  have hmod : nextChunk s window mss = ((⟨0,(⟨#[]⟩ : ByteArray),false⟩),false) := by first | rfl | (simp [nextChunk,zeroChk,chunkFin, *]; done) | (simp [nextChunk,zeroChk,chunkFin, *]; omega) | grind [nextChunk,zeroChk,chunkFin]
  exact ⟨[.agg (chkL (⟨0,(⟨#[]⟩ : ByteArray),false⟩ : Chk)).toArray,.bool false],by kernel_rfl,fun w' hb hf => by rw [hmod]; exact ⟨rfl,hb⟩⟩
  have h1b := senderOk_bd (s := s) (by simpa using h1)
  obtain ⟨h1b0,h1b1,h1b2,h1b3,h1b4,h1b5,h1b6,h1b7,h1b8,h1b9,h1b10⟩ := h1b
  have hsn := not_f h1
  obtain ⟨c0,c1,c2,c3,c4⟩ := chunkN_bd (window := window) (mss := mss) hsn
  refine xw_skip ?_
  refine xw_seq ?_
  refine xe_region [] (by kernel_rfl) (fun ρ σ => ?_)
  refine xe_tkS [0,3] [18,15,2,3,6] 6 [(18,.v (.agg (sndL s).toArray)),(15,.v (.int .i64 window)),(2,.v (.int .i64 mss)),(3,.p 0 0),(6,.p 1 0)] (fun _ _ h => h) rfl (by kernel_rfl) ?_
  refine xe_all [1] (by kernel_rfl) (by simp) ?_
  refine xs_call 1 119 [.int .i64 window,.int .i64 1000000] (some 16) rfl (by kernel_rfl) rfl (by kernel_rfl) (xc_s fun ww hf => l1Min_c window 1000000 ww ) ?_
  intro _
  refine xe_all [2] (by kernel_rfl) (by simp) ?_
  refine xs_call 2 115 [.int .i64 0,.int .i64 (min window 1000000)] (some 17) rfl (by kernel_rfl) rfl (by kernel_rfl) (xc_s fun ww hf => l1Max_c 0 (min window 1000000) ww ) ?_
  intro _
  refine xe_all [4] (by kernel_rfl) (by simp) ?_
  refine xs_call 4 120 [.agg (sndL s).toArray] (some 19) rfl (by kernel_rfl) rfl (by kernel_rfl) (xc_b fun ww hf => sFlown_c s.una s.data s.sent s.fin s.finSent s.done ww ) ?_
  intro _
  refine xe_tkS [5] [20,2,3,6] 2 [(20,.v (.int .i64 (IntKind.i64.wrap ((max 0 (min window 1000000)) - (flown s))))),(2,.v (.int .i64 mss)),(3,.p 0 0),(6,.p 1 0)] (fun _ _ h => h) rfl (by kernel_rfl) ?_
  refine xe_eqS (t := [(20,.v (.int .i64 (IntKind.i64.wrap ((max 0 (min window 1000000)) - (flown s))))),(2,.v (.int .i64 mss)),(3,.p 0 0),(6,.p 1 0)]) (t' := [(20,.v (.int .i64 ((max 0 (min window 1000000)) - (flown s)))),(2,.v (.int .i64 mss)),(3,.p 0 0),(6,.p 1 0)]) (by rw [show (IntKind.i64.wrap ((max 0 (min window 1000000)) - (flown s))) = ((max 0 (min window 1000000)) - (flown s)) from wrap_id (by omega) (by omega)]) ?_
  refine xe_all [6] (by kernel_rfl) (by simp) ?_
  refine xs_call 6 115 [.int .i64 0,.int .i64 ((max 0 (min window 1000000)) - (flown s))] (some 21) rfl (by kernel_rfl) rfl (by kernel_rfl) (xc_s fun ww hf => l1Max_c 0 ((max 0 (min window 1000000)) - (flown s)) ww ) ?_
  intro _
  refine xe_eqS (t := [(21,.v (.int .i64 (max 0 ((max 0 (min window 1000000)) - (flown s))))),(20,.v (.int .i64 ((max 0 (min window 1000000)) - (flown s)))),(2,.v (.int .i64 mss)),(3,.p 0 0),(6,.p 1 0)]) (t' := [(21,.v (.int .i64 (wnd s window))),(20,.v (.int .i64 ((max 0 (min window 1000000)) - (flown s)))),(2,.v (.int .i64 mss)),(3,.p 0 0),(6,.p 1 0)]) (by rw [show (max 0 ((max 0 (min window 1000000)) - (flown s))) = (wnd s window) from wnd_s]) ?_
  refine xe_tkS [7] [8,2,3,6] 0 [(8,.v (.int .i64 (wnd s window))),(2,.v (.int .i64 mss)),(3,.p 0 0),(6,.p 1 0)] (fun _ _ h => h) rfl (by kernel_rfl) ?_
  refine xe_done (by kernel_rfl) ?_
  refine xw_seq ?_
  refine xe_region [] (by kernel_rfl) (fun ρ σ => ?_)
  refine xe_tkS [0,1,3,4,5,6,7,8] [30,23,22,8,3,6] 4 [(30,.v (.int .i64 (IntKind.i64.wrap ((s.data.size : Int) - s.sent)))),(23,.v (.int .i64 (wnd s window))),(22,.v (.int .i64 mss)),(8,.v (.int .i64 (wnd s window))),(3,.p 0 0),(6,.p 1 0)] (fun _ _ h => h) rfl (by kernel_rfl) ?_
  refine xe_eqS (t := [(30,.v (.int .i64 (IntKind.i64.wrap ((s.data.size : Int) - s.sent)))),(23,.v (.int .i64 (wnd s window))),(22,.v (.int .i64 mss)),(8,.v (.int .i64 (wnd s window))),(3,.p 0 0),(6,.p 1 0)]) (t' := [(30,.v (.int .i64 ((s.data.size : Int) - s.sent))),(23,.v (.int .i64 (wnd s window))),(22,.v (.int .i64 mss)),(8,.v (.int .i64 (wnd s window))),(3,.p 0 0),(6,.p 1 0)]) (by rw [show (IntKind.i64.wrap ((s.data.size : Int) - s.sent)) = ((s.data.size : Int) - s.sent) from wrap_id (by omega) (by omega)]) ?_
  refine xe_all [2] (by kernel_rfl) (by simp) ?_
  refine xs_call 2 119 [.int .i64 mss,.int .i64 (wnd s window)] (some 24) rfl (by kernel_rfl) rfl (by kernel_rfl) (xc_s fun ww hf => l1Min_c mss (wnd s window) ww ) ?_
  intro _
  refine xe_all [9] (by kernel_rfl) (by simp) ?_
  refine xs_call 9 119 [.int .i64 (min mss (wnd s window)),.int .i64 ((s.data.size : Int) - s.sent)] (some 31) rfl (by kernel_rfl) rfl (by kernel_rfl) (xc_s fun ww hf => l1Min_c (min mss (wnd s window)) ((s.data.size : Int) - s.sent) ww ) ?_
  intro _
  refine xe_all [10] (by kernel_rfl) (by simp) ?_
  refine xs_call 10 115 [.int .i64 0,.int .i64 (min (min mss (wnd s window)) ((s.data.size : Int) - s.sent))] (some 32) rfl (by kernel_rfl) rfl (by kernel_rfl) (xc_s fun ww hf => l1Max_c 0 (min (min mss (wnd s window)) ((s.data.size : Int) - s.sent)) ww ) ?_
  intro _
  refine xe_eqS (t := [(32,.v (.int .i64 (max 0 (min (min mss (wnd s window)) ((s.data.size : Int) - s.sent))))),(31,.v (.int .i64 (min (min mss (wnd s window)) ((s.data.size : Int) - s.sent)))),(24,.v (.int .i64 (min mss (wnd s window)))),(30,.v (.int .i64 ((s.data.size : Int) - s.sent))),(23,.v (.int .i64 (wnd s window))),(22,.v (.int .i64 mss)),(8,.v (.int .i64 (wnd s window))),(3,.p 0 0),(6,.p 1 0)]) (t' := [(32,.v (.int .i64 (chunkN s window mss))),(31,.v (.int .i64 (min (min mss (wnd s window)) ((s.data.size : Int) - s.sent)))),(24,.v (.int .i64 (min mss (wnd s window)))),(30,.v (.int .i64 ((s.data.size : Int) - s.sent))),(23,.v (.int .i64 (wnd s window))),(22,.v (.int .i64 mss)),(8,.v (.int .i64 (wnd s window))),(3,.p 0 0),(6,.p 1 0)]) (by rw [show (max 0 (min (min mss (wnd s window)) ((s.data.size : Int) - s.sent))) = (chunkN s window mss) from rfl]) ?_
  refine xe_tkS [11] [9,8,3,6] 0 [(9,.v (.int .i64 (chunkN s window mss))),(8,.v (.int .i64 (wnd s window))),(3,.p 0 0),(6,.p 1 0)] (fun _ _ h => h) rfl (by kernel_rfl) ?_
  refine xe_done (by kernel_rfl) ?_
  refine xw_seq ?_
  refine xw_join ⟨[(3,.p 0 0),(6,.p 1 0),(8,.v (.int .i64 (wnd s window))),(9,.v (.int .i64 (chunkN s window mss))),(10,.p 2 0)],[⟨36,sndL s⟩,⟨116,chkL (⟨0,(⟨#[]⟩ : ByteArray),false⟩ : Chk)⟩,⟨116,chkL (⟨nextOf s,s.data.extract (s.sent).toNat (s.sent + (chunkN s window mss)).toNat,false⟩ : Chk)⟩],[],[]⟩ ?_ ?_
  refine xe_region [] (by kernel_rfl) (fun ρ σ => ?_)
  refine xe_tkS [0,2,3,4,5,6,7,8,9] [42,38,36,33,9,8,3,6] 5 [(42,.v (.int .i64 (IntKind.i64.wrap (s.sent + (chunkN s window mss))))),(38,.v (.int .i64 s.sent)),(36,.v (.string s.data)),(33,.v (.agg (sndL s).toArray)),(9,.v (.int .i64 (chunkN s window mss))),(8,.v (.int .i64 (wnd s window))),(3,.p 0 0),(6,.p 1 0)] (fun _ _ h => h) rfl (by kernel_rfl) ?_
  refine xe_eqS (t := [(42,.v (.int .i64 (IntKind.i64.wrap (s.sent + (chunkN s window mss))))),(38,.v (.int .i64 s.sent)),(36,.v (.string s.data)),(33,.v (.agg (sndL s).toArray)),(9,.v (.int .i64 (chunkN s window mss))),(8,.v (.int .i64 (wnd s window))),(3,.p 0 0),(6,.p 1 0)]) (t' := [(42,.v (.int .i64 (s.sent + (chunkN s window mss)))),(38,.v (.int .i64 s.sent)),(36,.v (.string s.data)),(33,.v (.agg (sndL s).toArray)),(9,.v (.int .i64 (chunkN s window mss))),(8,.v (.int .i64 (wnd s window))),(3,.p 0 0),(6,.p 1 0)]) (by rw [show (IntKind.i64.wrap (s.sent + (chunkN s window mss))) = (s.sent + (chunkN s window mss)) from wrap_id (by omega) (by omega)]) ?_
  refine xe_op 10 (.string (s.data.extract (s.sent).toNat (s.sent + (chunkN s window mss)).toNat)) _ rfl (by kernel_rfl) (by kernel_rfl) (by kernel_rfl) (fun _ _ h => h) (by kernel_rfl) rfl (fun _ _ ww hA => act_slS (s.sent) (s.sent + (chunkN s window mss)) hA rfl (by kernel_rfl) rfl rfl rfl (by omega) (by omega) (by omega) ww) rfl ?_
  refine xe_all [1,12] (by kernel_rfl) (by simp) ⟨?_,?_⟩
  refine xs_call 1 146 [.agg (sndL s).toArray] (some 34) rfl (by kernel_rfl) rfl (by kernel_rfl) (xc_b fun ww hf => sNextOf_c s.una s.data s.sent s.fin s.finSent s.done ww ) ?_
  intro _
  refine xe_op 11 (.agg (chkL (⟨nextOf s,s.data.extract (s.sent).toNat (s.sent + (chunkN s window mss)).toNat,false⟩ : Chk)).toArray) _ rfl (by kernel_rfl) (by kernel_rfl) (by kernel_rfl) (fun _ _ h => h) (by kernel_rfl) rfl (fun _ _ ww hA => act_build [(0,.int .i64 (nextOf s)),(1,.string (s.data.extract (s.sent).toNat (s.sent + (chunkN s window mss)).toNat))] hA rfl (by kernel_rfl) (by kernel_rfl) ww) rfl ?_
  refine xe_all [12] (by kernel_rfl) (by simp) ?_
  refine xs_box 12 ⟨116,chkL (⟨0,(⟨#[]⟩ : ByteArray),false⟩ : Chk)⟩ _ rfl (by kernel_rfl) (by kernel_rfl) (by kernel_rfl) (by kernel_rfl) rfl ?_
  refine xe_all [13] (by kernel_rfl) (by simp) ?_
  refine xs_store 13 2 0 [.int .i64 (nextOf s),.string (s.data.extract (s.sent).toNat (s.sent + (chunkN s window mss)).toNat),.bool false] _ rfl (by kernel_rfl) (by kernel_rfl) (by kernel_rfl) (by kernel_rfl) (by first | exact .inr rfl | exact .inl rfl) (by kernel_rfl) rfl ?_
  refine xe_done (by kernel_rfl) ?_
  exact wk_forget 3 0 [3,6,8,9,10] (by kernel_rfl) (by kernel_rfl) (by kernel_rfl)
  refine xs_box 12 ⟨116,chkL (⟨0,(⟨#[]⟩ : ByteArray),false⟩ : Chk)⟩ _ rfl (by kernel_rfl) (by kernel_rfl) (by kernel_rfl) (by kernel_rfl) rfl ?_
  refine xe_all [1] (by kernel_rfl) (by simp) ?_
  refine xs_call 1 146 [.agg (sndL s).toArray] (some 34) rfl (by kernel_rfl) rfl (by kernel_rfl) (xc_b fun ww hf => sNextOf_c s.una s.data s.sent s.fin s.finSent s.done ww ) ?_
  intro _
  refine xe_op 11 (.agg (chkL (⟨nextOf s,s.data.extract (s.sent).toNat (s.sent + (chunkN s window mss)).toNat,false⟩ : Chk)).toArray) _ rfl (by kernel_rfl) (by kernel_rfl) (by kernel_rfl) (fun _ _ h => h) (by kernel_rfl) rfl (fun _ _ ww hA => act_build [(0,.int .i64 (nextOf s)),(1,.string (s.data.extract (s.sent).toNat (s.sent + (chunkN s window mss)).toNat))] hA rfl (by kernel_rfl) (by kernel_rfl) ww) rfl ?_
  refine xe_all [13] (by kernel_rfl) (by simp) ?_
  refine xs_store 13 2 0 [.int .i64 (nextOf s),.string (s.data.extract (s.sent).toNat (s.sent + (chunkN s window mss)).toNat),.bool false] _ rfl (by kernel_rfl) (by kernel_rfl) (by kernel_rfl) (by kernel_rfl) (by first | exact .inr rfl | exact .inl rfl) (by kernel_rfl) rfl ?_
  refine xe_done (by kernel_rfl) ?_
  exact wk_forget 3 0 [3,6,8,9,10] (by kernel_rfl) (by kernel_rfl) (by kernel_rfl)
  refine xw_seq ?_
  refine xw_region ?_
  refine xl_runS 3 [3,6,8,9,10,47] [(3,.p 0 0),(6,.p 1 0),(8,.v (.int .i64 (wnd s window))),(9,.v (.int .i64 (chunkN s window mss))),(10,.p 2 0),(47,.v (.bool s.fin))] (by kernel_rfl) ?_
  refine xl_split 47 (b := s.fin) (by kernel_rfl) (fun h2 => ?_) (fun h2 => ?_)
  refine xl_runS 5 [3,6,8,9,10,52] [(3,.p 0 0),(6,.p 1 0),(8,.v (.int .i64 (wnd s window))),(9,.v (.int .i64 (chunkN s window mss))),(10,.p 2 0),(52,.v (.bool (!s.finSent)))] (by kernel_rfl) ?_
  refine xl_split 52 (b := !s.finSent) (by kernel_rfl) (fun h3 => ?_) (fun h3 => ?_)
  have h3n := not_t h3
  refine xl_runS 5 [3,6,8,9,10,57] [(3,.p 0 0),(6,.p 1 0),(8,.v (.int .i64 (wnd s window))),(9,.v (.int .i64 (chunkN s window mss))),(10,.p 2 0),(57,.v (.bool (!s.done)))] (by kernel_rfl) ?_
  refine xl_split 57 (b := !s.done) (by kernel_rfl) (fun h4 => ?_) (fun h4 => ?_)
  have h4n := not_t h4
  refine xl_runS 10 [6,8,9,10,67] [(6,.p 1 0),(8,.v (.int .i64 (wnd s window))),(9,.v (.int .i64 (chunkN s window mss))),(10,.p 2 0),(67,.v (.bool ((IntKind.i64.wrap (s.sent + (chunkN s window mss))) == (s.data.size : Int))))] (by kernel_rfl) ?_
  refine xl_eqS (t' := [(6,.p 1 0),(8,.v (.int .i64 (wnd s window))),(9,.v (.int .i64 (chunkN s window mss))),(10,.p 2 0),(67,.v (.bool ((s.sent + (chunkN s window mss)) == (s.data.size : Int))))]) (by rw [show (IntKind.i64.wrap (s.sent + (chunkN s window mss))) = (s.sent + (chunkN s window mss)) from wrap_id (by omega) (by omega)]) ?_
  refine xl_split 67 (b := (s.sent + (chunkN s window mss)) == (s.data.size : Int)) (by kernel_rfl) (fun h5 => ?_) (fun h5 => ?_)
  have h5p := eqT h5
  refine xl_end [6,9,10] ⟨[(6,.p 1 0),(9,.v (.int .i64 (chunkN s window mss))),(10,.p 2 0)],[⟨36,sndL s⟩,⟨116,chkL (⟨0,(⟨#[]⟩ : ByteArray),false⟩ : Chk)⟩,⟨116,chkL (⟨nextOf s,s.data.extract (s.sent).toNat (s.sent + (chunkN s window mss)).toNat,decide ((wnd s window) > (chunkN s window mss))⟩ : Chk)⟩],[],[]⟩ (by kernel_rfl) ?_
  refine xw_seq ?_
  refine xw_seq ?_
  refine xw_region ?_
  refine xl_runS 3 [6,10,75] [(6,.p 1 0),(10,.p 2 0),(75,.v (.bool ((chunkN s window mss) == 0)))] (by kernel_rfl) ?_
  refine xl_split 75 (b := (chunkN s window mss) == 0) (by kernel_rfl) (fun h6 => ?_) (fun h6 => ?_)
  have h6p := eqT h6
  refine xl_endS [6,10,79] [(6,.p 1 0),(10,.p 2 0),(79,.v (.bool (!(decide ((wnd s window) > (chunkN s window mss))))))] (by kernel_rfl) ?_
  refine xw_cond (b := !(decide ((wnd s window) > (chunkN s window mss)))) (by kernel_rfl) (fun h7 => ?_) (fun h7 => ?_)
  have h7n := not_t h7
  refine xw_seq ?_
  refine xw_region ?_
  refine xl_opS 0 [6] [(6,.p 1 0)] (.agg (chkL (⟨0,(⟨#[]⟩ : ByteArray),false⟩ : Chk)).toArray) (by kernel_rfl) rfl (by kernel_rfl) rfl (fun _ _ _ ww hr => act_build [] hr.1 rfl (by kernel_rfl) (by kernel_rfl) ww) ?_
  refine xl_endS [6,7] [(6,.p 1 0),(7,.v (.bool false))] (by kernel_rfl) ?_
  refine xw_ret ?_
  have hmod : nextChunk s window mss = ((⟨0,(⟨#[]⟩ : ByteArray),false⟩),false) := by first | rfl | (simp [nextChunk,zeroChk,chunkFin, *]; done) | (simp [nextChunk,zeroChk,chunkFin, *]; omega) | grind [nextChunk,zeroChk,chunkFin]
  exact ⟨[.agg (chkL (⟨0,(⟨#[]⟩ : ByteArray),false⟩ : Chk)).toArray,.bool false],by kernel_rfl,fun w' hb hf => by rw [hmod]; exact ⟨rfl,hb⟩⟩
  have h7n := not_f h7
  refine xw_skip ?_
  refine xw_seq ?_
  refine xw_region ?_
  refine xl_end [6,7] ⟨[(6,.p 1 0),(7,.v (.bool true))],[⟨36,sndL s⟩,⟨116,chkL (⟨nextOf s,s.data.extract (s.sent).toNat (s.sent + (chunkN s window mss)).toNat,decide ((wnd s window) > (chunkN s window mss))⟩ : Chk)⟩,⟨116,chkL (⟨nextOf s,s.data.extract (s.sent).toNat (s.sent + (chunkN s window mss)).toNat,decide ((wnd s window) > (chunkN s window mss))⟩ : Chk)⟩],[],[]⟩ (by kernel_rfl) ?_
  refine xw_ret ?_
  have hmod : nextChunk s window mss = ((⟨nextOf s,s.data.extract (s.sent).toNat (s.sent + (chunkN s window mss)).toNat,decide ((wnd s window) > (chunkN s window mss))⟩),true) := by first | rfl | (simp [nextChunk,zeroChk,chunkFin, *]; done) | (simp [nextChunk,zeroChk,chunkFin, *]; omega) | grind [nextChunk,zeroChk,chunkFin]
  exact ⟨[.agg (chkL (⟨nextOf s,s.data.extract (s.sent).toNat (s.sent + (chunkN s window mss)).toNat,decide ((wnd s window) > (chunkN s window mss))⟩ : Chk)).toArray,.bool true],by kernel_rfl,fun w' hb hf => by rw [hmod]; exact ⟨rfl,hb⟩⟩
  have h6p := eqF h6
  refine xl_endS [6,10,79] [(6,.p 1 0),(10,.p 2 0),(79,.v (.bool false))] (by kernel_rfl) ?_
  refine xw_false (by kernel_rfl) ?_
  refine xw_skip ?_
  refine xw_seq ?_
  refine xw_region ?_
  refine xl_end [6,7] ⟨[(6,.p 1 0),(7,.v (.bool true))],[⟨36,sndL s⟩,⟨116,chkL (⟨nextOf s,s.data.extract (s.sent).toNat (s.sent + (chunkN s window mss)).toNat,decide ((wnd s window) > (chunkN s window mss))⟩ : Chk)⟩,⟨116,chkL (⟨nextOf s,s.data.extract (s.sent).toNat (s.sent + (chunkN s window mss)).toNat,decide ((wnd s window) > (chunkN s window mss))⟩ : Chk)⟩],[],[]⟩ (by kernel_rfl) ?_
  refine xw_ret ?_
  have hmod : nextChunk s window mss = ((⟨nextOf s,s.data.extract (s.sent).toNat (s.sent + (chunkN s window mss)).toNat,decide ((wnd s window) > (chunkN s window mss))⟩),true) := by first | rfl | (simp [nextChunk,zeroChk,chunkFin, *]; done) | (simp [nextChunk,zeroChk,chunkFin, *]; omega) | grind [nextChunk,zeroChk,chunkFin]
  exact ⟨[.agg (chkL (⟨nextOf s,s.data.extract (s.sent).toNat (s.sent + (chunkN s window mss)).toNat,decide ((wnd s window) > (chunkN s window mss))⟩ : Chk)).toArray,.bool true],by kernel_rfl,fun w' hb hf => by rw [hmod]; exact ⟨rfl,hb⟩⟩
  have h5p := eqF h5
  refine xl_endS [6,9,10] [(6,.p 1 0),(9,.v (.int .i64 (chunkN s window mss))),(10,.p 2 0)] (by kernel_rfl) ?_
  refine xw_seq ?_
  refine xw_seq ?_
  refine xw_region ?_
  refine xl_runS 3 [6,10,75] [(6,.p 1 0),(10,.p 2 0),(75,.v (.bool ((chunkN s window mss) == 0)))] (by kernel_rfl) ?_
  refine xl_split 75 (b := (chunkN s window mss) == 0) (by kernel_rfl) (fun h8 => ?_) (fun h8 => ?_)
  have h8p := eqT h8
  refine xl_endS [6,10,79] [(6,.p 1 0),(10,.p 2 0),(79,.v (.bool true))] (by kernel_rfl) ?_
  refine xw_true (by kernel_rfl) ?_
  refine xw_seq ?_
  refine xw_region ?_
  refine xl_opS 0 [6] [(6,.p 1 0)] (.agg (chkL (⟨0,(⟨#[]⟩ : ByteArray),false⟩ : Chk)).toArray) (by kernel_rfl) rfl (by kernel_rfl) rfl (fun _ _ _ ww hr => act_build [] hr.1 rfl (by kernel_rfl) (by kernel_rfl) ww) ?_
  refine xl_endS [6,7] [(6,.p 1 0),(7,.v (.bool false))] (by kernel_rfl) ?_
  refine xw_ret ?_
  have hmod : nextChunk s window mss = ((⟨0,(⟨#[]⟩ : ByteArray),false⟩),false) := by first | rfl | (simp [nextChunk,zeroChk,chunkFin, *]; done) | (simp [nextChunk,zeroChk,chunkFin, *]; omega) | grind [nextChunk,zeroChk,chunkFin]
  exact ⟨[.agg (chkL (⟨0,(⟨#[]⟩ : ByteArray),false⟩ : Chk)).toArray,.bool false],by kernel_rfl,fun w' hb hf => by rw [hmod]; exact ⟨rfl,hb⟩⟩
  have h8p := eqF h8
  refine xl_endS [6,10,79] [(6,.p 1 0),(10,.p 2 0),(79,.v (.bool false))] (by kernel_rfl) ?_
  refine xw_false (by kernel_rfl) ?_
  refine xw_skip ?_
  refine xw_seq ?_
  refine xw_region ?_
  refine xl_end [6,7] ⟨[(6,.p 1 0),(7,.v (.bool true))],[⟨36,sndL s⟩,⟨116,chkL (⟨nextOf s,s.data.extract (s.sent).toNat (s.sent + (chunkN s window mss)).toNat,false⟩ : Chk)⟩,⟨116,chkL (⟨nextOf s,s.data.extract (s.sent).toNat (s.sent + (chunkN s window mss)).toNat,false⟩ : Chk)⟩],[],[]⟩ (by kernel_rfl) ?_
  refine xw_ret ?_
  have hmod : nextChunk s window mss = ((⟨nextOf s,s.data.extract (s.sent).toNat (s.sent + (chunkN s window mss)).toNat,false⟩),true) := by first | rfl | (simp [nextChunk,zeroChk,chunkFin, *]; done) | (simp [nextChunk,zeroChk,chunkFin, *]; omega) | grind [nextChunk,zeroChk,chunkFin]
  exact ⟨[.agg (chkL (⟨nextOf s,s.data.extract (s.sent).toNat (s.sent + (chunkN s window mss)).toNat,false⟩ : Chk)).toArray,.bool true],by kernel_rfl,fun w' hb hf => by rw [hmod]; exact ⟨rfl,hb⟩⟩
  have h4n := not_f h4
  refine xl_endS [6,9,10] [(6,.p 1 0),(9,.v (.int .i64 (chunkN s window mss))),(10,.p 2 0)] (by kernel_rfl) ?_
  refine xw_seq ?_
  refine xw_seq ?_
  refine xw_region ?_
  refine xl_runS 3 [6,10,75] [(6,.p 1 0),(10,.p 2 0),(75,.v (.bool ((chunkN s window mss) == 0)))] (by kernel_rfl) ?_
  refine xl_split 75 (b := (chunkN s window mss) == 0) (by kernel_rfl) (fun h9 => ?_) (fun h9 => ?_)
  have h9p := eqT h9
  refine xl_endS [6,10,79] [(6,.p 1 0),(10,.p 2 0),(79,.v (.bool true))] (by kernel_rfl) ?_
  refine xw_true (by kernel_rfl) ?_
  refine xw_seq ?_
  refine xw_region ?_
  refine xl_opS 0 [6] [(6,.p 1 0)] (.agg (chkL (⟨0,(⟨#[]⟩ : ByteArray),false⟩ : Chk)).toArray) (by kernel_rfl) rfl (by kernel_rfl) rfl (fun _ _ _ ww hr => act_build [] hr.1 rfl (by kernel_rfl) (by kernel_rfl) ww) ?_
  refine xl_endS [6,7] [(6,.p 1 0),(7,.v (.bool false))] (by kernel_rfl) ?_
  refine xw_ret ?_
  have hmod : nextChunk s window mss = ((⟨0,(⟨#[]⟩ : ByteArray),false⟩),false) := by first | rfl | (simp [nextChunk,zeroChk,chunkFin, *]; done) | (simp [nextChunk,zeroChk,chunkFin, *]; omega) | grind [nextChunk,zeroChk,chunkFin]
  exact ⟨[.agg (chkL (⟨0,(⟨#[]⟩ : ByteArray),false⟩ : Chk)).toArray,.bool false],by kernel_rfl,fun w' hb hf => by rw [hmod]; exact ⟨rfl,hb⟩⟩
  have h9p := eqF h9
  refine xl_endS [6,10,79] [(6,.p 1 0),(10,.p 2 0),(79,.v (.bool false))] (by kernel_rfl) ?_
  refine xw_false (by kernel_rfl) ?_
  refine xw_skip ?_
  refine xw_seq ?_
  refine xw_region ?_
  refine xl_end [6,7] ⟨[(6,.p 1 0),(7,.v (.bool true))],[⟨36,sndL s⟩,⟨116,chkL (⟨nextOf s,s.data.extract (s.sent).toNat (s.sent + (chunkN s window mss)).toNat,false⟩ : Chk)⟩,⟨116,chkL (⟨nextOf s,s.data.extract (s.sent).toNat (s.sent + (chunkN s window mss)).toNat,false⟩ : Chk)⟩],[],[]⟩ (by kernel_rfl) ?_
  refine xw_ret ?_
  have hmod : nextChunk s window mss = ((⟨nextOf s,s.data.extract (s.sent).toNat (s.sent + (chunkN s window mss)).toNat,false⟩),true) := by first | rfl | (simp [nextChunk,zeroChk,chunkFin, *]; done) | (simp [nextChunk,zeroChk,chunkFin, *]; omega) | grind [nextChunk,zeroChk,chunkFin]
  exact ⟨[.agg (chkL (⟨nextOf s,s.data.extract (s.sent).toNat (s.sent + (chunkN s window mss)).toNat,false⟩ : Chk)).toArray,.bool true],by kernel_rfl,fun w' hb hf => by rw [hmod]; exact ⟨rfl,hb⟩⟩
  have h3n := not_f h3
  refine xl_endS [6,9,10] [(6,.p 1 0),(9,.v (.int .i64 (chunkN s window mss))),(10,.p 2 0)] (by kernel_rfl) ?_
  refine xw_seq ?_
  refine xw_seq ?_
  refine xw_region ?_
  refine xl_runS 3 [6,10,75] [(6,.p 1 0),(10,.p 2 0),(75,.v (.bool ((chunkN s window mss) == 0)))] (by kernel_rfl) ?_
  refine xl_split 75 (b := (chunkN s window mss) == 0) (by kernel_rfl) (fun h10 => ?_) (fun h10 => ?_)
  have h10p := eqT h10
  refine xl_endS [6,10,79] [(6,.p 1 0),(10,.p 2 0),(79,.v (.bool true))] (by kernel_rfl) ?_
  refine xw_true (by kernel_rfl) ?_
  refine xw_seq ?_
  refine xw_region ?_
  refine xl_opS 0 [6] [(6,.p 1 0)] (.agg (chkL (⟨0,(⟨#[]⟩ : ByteArray),false⟩ : Chk)).toArray) (by kernel_rfl) rfl (by kernel_rfl) rfl (fun _ _ _ ww hr => act_build [] hr.1 rfl (by kernel_rfl) (by kernel_rfl) ww) ?_
  refine xl_endS [6,7] [(6,.p 1 0),(7,.v (.bool false))] (by kernel_rfl) ?_
  refine xw_ret ?_
  have hmod : nextChunk s window mss = ((⟨0,(⟨#[]⟩ : ByteArray),false⟩),false) := by first | rfl | (simp [nextChunk,zeroChk,chunkFin, *]; done) | (simp [nextChunk,zeroChk,chunkFin, *]; omega) | grind [nextChunk,zeroChk,chunkFin]
  exact ⟨[.agg (chkL (⟨0,(⟨#[]⟩ : ByteArray),false⟩ : Chk)).toArray,.bool false],by kernel_rfl,fun w' hb hf => by rw [hmod]; exact ⟨rfl,hb⟩⟩
  have h10p := eqF h10
  refine xl_endS [6,10,79] [(6,.p 1 0),(10,.p 2 0),(79,.v (.bool false))] (by kernel_rfl) ?_
  refine xw_false (by kernel_rfl) ?_
  refine xw_skip ?_
  refine xw_seq ?_
  refine xw_region ?_
  refine xl_end [6,7] ⟨[(6,.p 1 0),(7,.v (.bool true))],[⟨36,sndL s⟩,⟨116,chkL (⟨nextOf s,s.data.extract (s.sent).toNat (s.sent + (chunkN s window mss)).toNat,false⟩ : Chk)⟩,⟨116,chkL (⟨nextOf s,s.data.extract (s.sent).toNat (s.sent + (chunkN s window mss)).toNat,false⟩ : Chk)⟩],[],[]⟩ (by kernel_rfl) ?_
  refine xw_ret ?_
  have hmod : nextChunk s window mss = ((⟨nextOf s,s.data.extract (s.sent).toNat (s.sent + (chunkN s window mss)).toNat,false⟩),true) := by first | rfl | (simp [nextChunk,zeroChk,chunkFin, *]; done) | (simp [nextChunk,zeroChk,chunkFin, *]; omega) | grind [nextChunk,zeroChk,chunkFin]
  exact ⟨[.agg (chkL (⟨nextOf s,s.data.extract (s.sent).toNat (s.sent + (chunkN s window mss)).toNat,false⟩ : Chk)).toArray,.bool true],by kernel_rfl,fun w' hb hf => by rw [hmod]; exact ⟨rfl,hb⟩⟩
  refine xl_endS [6,9,10] [(6,.p 1 0),(9,.v (.int .i64 (chunkN s window mss))),(10,.p 2 0)] (by kernel_rfl) ?_
  refine xw_seq ?_
  refine xw_seq ?_
  refine xw_region ?_
  refine xl_runS 3 [6,10,75] [(6,.p 1 0),(10,.p 2 0),(75,.v (.bool ((chunkN s window mss) == 0)))] (by kernel_rfl) ?_
  refine xl_split 75 (b := (chunkN s window mss) == 0) (by kernel_rfl) (fun h11 => ?_) (fun h11 => ?_)
  have h11p := eqT h11
  refine xl_endS [6,10,79] [(6,.p 1 0),(10,.p 2 0),(79,.v (.bool true))] (by kernel_rfl) ?_
  refine xw_true (by kernel_rfl) ?_
  refine xw_seq ?_
  refine xw_region ?_
  refine xl_opS 0 [6] [(6,.p 1 0)] (.agg (chkL (⟨0,(⟨#[]⟩ : ByteArray),false⟩ : Chk)).toArray) (by kernel_rfl) rfl (by kernel_rfl) rfl (fun _ _ _ ww hr => act_build [] hr.1 rfl (by kernel_rfl) (by kernel_rfl) ww) ?_
  refine xl_endS [6,7] [(6,.p 1 0),(7,.v (.bool false))] (by kernel_rfl) ?_
  refine xw_ret ?_
  have hmod : nextChunk s window mss = ((⟨0,(⟨#[]⟩ : ByteArray),false⟩),false) := by first | rfl | (simp [nextChunk,zeroChk,chunkFin, *]; done) | (simp [nextChunk,zeroChk,chunkFin, *]; omega) | grind [nextChunk,zeroChk,chunkFin]
  exact ⟨[.agg (chkL (⟨0,(⟨#[]⟩ : ByteArray),false⟩ : Chk)).toArray,.bool false],by kernel_rfl,fun w' hb hf => by rw [hmod]; exact ⟨rfl,hb⟩⟩
  have h11p := eqF h11
  refine xl_endS [6,10,79] [(6,.p 1 0),(10,.p 2 0),(79,.v (.bool false))] (by kernel_rfl) ?_
  refine xw_false (by kernel_rfl) ?_
  refine xw_skip ?_
  refine xw_seq ?_
  refine xw_region ?_
  refine xl_end [6,7] ⟨[(6,.p 1 0),(7,.v (.bool true))],[⟨36,sndL s⟩,⟨116,chkL (⟨nextOf s,s.data.extract (s.sent).toNat (s.sent + (chunkN s window mss)).toNat,false⟩ : Chk)⟩,⟨116,chkL (⟨nextOf s,s.data.extract (s.sent).toNat (s.sent + (chunkN s window mss)).toNat,false⟩ : Chk)⟩],[],[]⟩ (by kernel_rfl) ?_
  refine xw_ret ?_
  have hmod : nextChunk s window mss = ((⟨nextOf s,s.data.extract (s.sent).toNat (s.sent + (chunkN s window mss)).toNat,false⟩),true) := by first | rfl | (simp [nextChunk,zeroChk,chunkFin, *]; done) | (simp [nextChunk,zeroChk,chunkFin, *]; omega) | grind [nextChunk,zeroChk,chunkFin]
  exact ⟨[.agg (chkL (⟨nextOf s,s.data.extract (s.sent).toNat (s.sent + (chunkN s window mss)).toNat,false⟩ : Chk)).toArray,.bool true],by kernel_rfl,fun w' hb hf => by rw [hmod]; exact ⟨rfl,hb⟩⟩
set_option maxHeartbeats 1000000 in
theorem ysSentOff_c (s : Snd) (c : Chk) (w : World)  : Calls Try.prog 107 #[.agg (sndL s).toArray, .agg (chkL c).toArray] w fun e w' => e = .returned (.agg (sndL (sentOff s c)).toArray) ∧ Below w.heap.size w w' := by
  have hsf := sentS_fin s c
  refine x_calls (args := [.agg (sndL s).toArray,.agg (chkL c).toArray]) (fn := Try.f107) [] Try.func107 rfl Try.ntmps107 rfl (by simp) ?_
  refine xw_seq ?_
  refine xw_region ?_
  refine xl_end [2,3,4] ⟨[(2,.p 0 0),(3,.p 1 0),(4,.p 2 0)],[⟨36,sndL s⟩,⟨116,chkL c⟩,⟨36,sndZ⟩],[],[]⟩ (by kernel_rfl) ?_
  refine xw_seq ?_
  refine xw_region ?_
  refine xl_end [2,3,4,5] ⟨[(2,.p 0 0),(3,.p 1 0),(4,.p 2 0),(5,.p 3 0)],[⟨36,sndL s⟩,⟨116,chkL c⟩,⟨36,sndZ⟩,⟨36,sndL s⟩],[],[]⟩ (by kernel_rfl) ?_
  refine xw_seq ?_
  refine xw_region ?_
  refine xl_end [2,3,4,5] ⟨[(2,.p 0 0),(3,.p 1 0),(4,.p 2 0),(5,.p 3 0)],[⟨36,sndL s⟩,⟨116,chkL c⟩,⟨36,sndZ⟩,⟨36,sndL { s with sent := IntKind.i64.wrap (s.sent + (c.text.size : Int)) }⟩],[],[]⟩ (by kernel_rfl) ?_
  refine xw_seq ?_
  refine xw_join ⟨[(2,.p 0 0),(3,.p 1 0),(4,.p 2 0),(5,.p 3 0)],[⟨36,sndL s⟩,⟨116,chkL c⟩,⟨36,sndZ⟩,⟨36,sndL { s with sent := IntKind.i64.wrap (s.sent + (c.text.size : Int)),finSent := s.finSent || c.fin }⟩],[],[]⟩ ?_ ?_
  refine xw_region ?_
  refine xl_runS 3 [2,3,4,5,16] [(2,.p 0 0),(3,.p 1 0),(4,.p 2 0),(5,.p 3 0),(16,.v (.bool s.finSent))] (by kernel_rfl) ?_
  refine xl_split 16 (b := s.finSent) (by kernel_rfl) (fun h1 => ?_) (fun h1 => ?_)
  refine xl_end [2,3,4,5] ⟨[(2,.p 0 0),(3,.p 1 0),(4,.p 2 0),(5,.p 3 0)],[⟨36,sndL s⟩,⟨116,chkL c⟩,⟨36,sndZ⟩,⟨36,sndL { s with sent := IntKind.i64.wrap (s.sent + (c.text.size : Int)),finSent := true }⟩],[],[]⟩ (by kernel_rfl) ?_
  show Wk _ _
  try rw [h1]
  exact wk_forget 4 0 [2,3,4,5] (by kernel_rfl) (by kernel_rfl) (by kernel_rfl)
  refine xl_end [2,3,4,5] ⟨[(2,.p 0 0),(3,.p 1 0),(4,.p 2 0),(5,.p 3 0)],[⟨36,sndL s⟩,⟨116,chkL c⟩,⟨36,sndZ⟩,⟨36,sndL { s with sent := IntKind.i64.wrap (s.sent + (c.text.size : Int)),finSent := c.fin }⟩],[],[]⟩ (by kernel_rfl) ?_
  show Wk _ _
  try rw [h1]
  exact wk_forget 4 0 [2,3,4,5] (by kernel_rfl) (by kernel_rfl) (by kernel_rfl)
  refine xw_seq ?_
  refine xw_seq ?_
  refine xw_join ⟨[(2,.p 0 0),(4,.p 2 0),(5,.p 3 0),(36,.v (.bool ((!(senderOk s)) || ((!(senderOk ({ s with sent := IntKind.i64.wrap (s.sent + (c.text.size : Int)),finSent := s.finSent || c.fin }))) || (c.fin && s.done)))))],[⟨36,sndL s⟩,⟨116,chkL c⟩,⟨36,sndZ⟩,⟨36,sndL { s with sent := IntKind.i64.wrap (s.sent + (c.text.size : Int)),finSent := s.finSent || c.fin }⟩],[],[]⟩ ?_ ?_
  refine xw_region ?_
  refine xl_callS 1 [2,3,4,5,21] [(2,.p 0 0),(3,.p 1 0),(4,.p 2 0),(5,.p 3 0),(21,.v (.agg (sndL s).toArray))] 129 [.agg (sndL s).toArray] (some 22) (by kernel_rfl) rfl (by kernel_rfl) rfl (by kernel_rfl) (xc_b fun ww hf => sSenderOk_c s.una s.data s.sent s.fin s.finSent s.done ww ) ?_
  intro _
  refine xl_runS 2 [2,3,4,5,24] [(2,.p 0 0),(3,.p 1 0),(4,.p 2 0),(5,.p 3 0),(24,.v (.bool (!(senderOk s))))] (by kernel_rfl) ?_
  refine xl_split 24 (b := !(senderOk s)) (by kernel_rfl) (fun h2 => ?_) (fun h2 => ?_)
  have h2n := not_t h2
  refine xl_endS [2,4,5,36] [(2,.p 0 0),(4,.p 2 0),(5,.p 3 0),(36,.v (.bool true))] (by kernel_rfl) ?_
  show Wk _ _
  try rw [h2]
  exact wk_forget 4 0 [2,4,5,36] (by kernel_rfl) (by kernel_rfl) (by kernel_rfl)
  have h2n := not_f h2
  have h2nb := senderOk_bd (s := s) (by simpa using h2n)
  obtain ⟨h2nb0,h2nb1,h2nb2,h2nb3,h2nb4,h2nb5,h2nb6,h2nb7,h2nb8,h2nb9,h2nb10⟩ := h2nb
  refine xl_callS 1 [2,3,4,5,24,25] [(2,.p 0 0),(3,.p 1 0),(4,.p 2 0),(5,.p 3 0),(24,.v (.bool false)),(25,.v (.agg (sndL { s with sent := IntKind.i64.wrap (s.sent + (c.text.size : Int)),finSent := s.finSent || c.fin }).toArray))] 129 [.agg (sndL { s with sent := IntKind.i64.wrap (s.sent + (c.text.size : Int)),finSent := s.finSent || c.fin }).toArray] (some 26) (by kernel_rfl) rfl (by kernel_rfl) rfl (by kernel_rfl) (xc_b fun ww hf => sSenderOk_c s.una s.data (IntKind.i64.wrap (s.sent + (c.text.size : Int))) s.fin (s.finSent || c.fin) s.done ww ) ?_
  intro _
  refine xl_runS 3 [2,3,4,5,29] [(2,.p 0 0),(3,.p 1 0),(4,.p 2 0),(5,.p 3 0),(29,.v (.bool (!(senderOk ({ s with sent := IntKind.i64.wrap (s.sent + (c.text.size : Int)),finSent := s.finSent || c.fin })))))] (by kernel_rfl) ?_
  refine xl_split 29 (b := !(senderOk ({ s with sent := IntKind.i64.wrap (s.sent + (c.text.size : Int)),finSent := s.finSent || c.fin }))) (by kernel_rfl) (fun h3 => ?_) (fun h3 => ?_)
  have h3n := not_t h3
  refine xl_endS [2,4,5,36] [(2,.p 0 0),(4,.p 2 0),(5,.p 3 0),(36,.v (.bool true))] (by kernel_rfl) ?_
  show Wk _ _
  try rw [h2]
  try rw [h3]
  exact wk_forget 4 0 [2,4,5,36] (by kernel_rfl) (by kernel_rfl) (by kernel_rfl)
  have h3n := not_f h3
  have h3nb := senderOk_bd (s := ({ s with sent := IntKind.i64.wrap (s.sent + (c.text.size : Int)),finSent := s.finSent || c.fin })) (by simpa using h3n)
  obtain ⟨h3nb0,h3nb1,h3nb2,h3nb3,h3nb4,h3nb5,h3nb6,h3nb7,h3nb8,h3nb9,h3nb10⟩ := h3nb
  refine xl_runS 3 [2,4,5,29,32] [(2,.p 0 0),(4,.p 2 0),(5,.p 3 0),(29,.v (.bool false)),(32,.v (.bool c.fin))] (by kernel_rfl) ?_
  refine xl_split 32 (b := c.fin) (by kernel_rfl) (fun h4 => ?_) (fun h4 => ?_)
  refine xl_endS [2,4,5,36] [(2,.p 0 0),(4,.p 2 0),(5,.p 3 0),(36,.v (.bool s.done))] (by kernel_rfl) ?_
  show Wk _ _
  try rw [h2]
  try rw [h3]
  try rw [h4]
  exact wk_forget 4 0 [2,4,5,36] (by kernel_rfl) (by kernel_rfl) (by kernel_rfl)
  refine xl_endS [2,4,5,36] [(2,.p 0 0),(4,.p 2 0),(5,.p 3 0),(36,.v (.bool false))] (by kernel_rfl) ?_
  show Wk _ _
  try rw [h2]
  try rw [h3]
  try rw [h4]
  exact wk_forget 4 0 [2,4,5,36] (by kernel_rfl) (by kernel_rfl) (by kernel_rfl)
  refine xw_cond (b := (!(senderOk s)) || ((!(senderOk ({ s with sent := IntKind.i64.wrap (s.sent + (c.text.size : Int)),finSent := s.finSent || c.fin }))) || (c.fin && s.done))) (by kernel_rfl) (fun h5 => ?_) (fun h5 => ?_)
  refine xw_seq ?_
  refine xw_region ?_
  refine xl_end [4] ⟨[(4,.p 2 0)],[⟨36,sndL s⟩,⟨116,chkL c⟩,⟨36,sndL s⟩,⟨36,sndL { s with sent := IntKind.i64.wrap (s.sent + (c.text.size : Int)),finSent := s.finSent || c.fin }⟩],[],[]⟩ (by kernel_rfl) ?_
  refine xw_ret ?_
  have hmod : sentOff s c = s := by first | rfl | (simp [sentOff,sentS, *]; done) | grind [sentOff,sentS]
  exact ⟨[.agg (sndL s).toArray],by kernel_rfl,fun w' hb hf => by rw [hmod]; exact ⟨rfl,hb⟩⟩
  have h5l := or_l h5
  have h5ln := not_f h5l
  have h5lnb := senderOk_bd (s := s) (by simpa using h5ln)
  obtain ⟨h5lnb0,h5lnb1,h5lnb2,h5lnb3,h5lnb4,h5lnb5,h5lnb6,h5lnb7,h5lnb8,h5lnb9,h5lnb10⟩ := h5lnb
  have h5r := or_r h5
  have h5rl := or_l h5r
  have h5rln := not_f h5rl
  have h5rlnb := senderOk_bd (s := ({ s with sent := IntKind.i64.wrap (s.sent + (c.text.size : Int)),finSent := s.finSent || c.fin })) (by simpa using h5rln)
  obtain ⟨h5rlnb0,h5rlnb1,h5rlnb2,h5rlnb3,h5rlnb4,h5rlnb5,h5rlnb6,h5rlnb7,h5rlnb8,h5rlnb9,h5rlnb10⟩ := h5rlnb
  have h5rr := or_r h5r
  refine xw_skip ?_
  refine xw_seq ?_
  refine xw_region ?_
  refine xl_end [4] ⟨[(4,.p 2 0)],[⟨36,sndL s⟩,⟨116,chkL c⟩,⟨36,sndL { s with sent := IntKind.i64.wrap (s.sent + (c.text.size : Int)),finSent := s.finSent || c.fin }⟩,⟨36,sndL { s with sent := IntKind.i64.wrap (s.sent + (c.text.size : Int)),finSent := s.finSent || c.fin }⟩],[],[]⟩ (by kernel_rfl) ?_
  refine xw_ret ?_
  have hmod : sentOff s c = ({ s with sent := IntKind.i64.wrap (s.sent + (c.text.size : Int)),finSent := s.finSent || c.fin }) := by first | rfl | (simp [sentOff,sentS, *]; done) | grind [sentOff,sentS]
  exact ⟨[.agg (sndL { s with sent := IntKind.i64.wrap (s.sent + (c.text.size : Int)),finSent := s.finSent || c.fin }).toArray],by kernel_rfl,fun w' hb hf => by rw [hmod]; exact ⟨rfl,hb⟩⟩
set_option maxHeartbeats 1000000 in
theorem yiNextChunk_c (s : Snd) (window : Int) (mss : Int) (w : World) (hwi : -9223372036854775808 ≤ window ∧ window ≤ 9223372036854775807) : Calls Try.prog 108 #[.agg (sndL s).toArray, .int .i64 window, .int .i64 mss] w fun e w' => e = .returned (.tuple #[.agg (chkL (nextChunk s window mss).1).toArray, .bool ((nextChunk s window mss).2)]) ∧ Below w.heap.size w w' := by
  refine x_calls (args := [.agg (sndL s).toArray,.int .i64 window,.int .i64 mss]) (fn := Try.f108) [] Try.func108 rfl Try.ntmps108 rfl (by simp) ?_
  refine xw_seq ?_
  refine xw_region ?_
  refine xl_end [1,2,3,6] ⟨[(1,.v (.int .i64 window)),(2,.v (.int .i64 mss)),(3,.p 0 0),(6,.p 1 0)],[⟨36,sndL s⟩,⟨116,chkL (⟨0,(⟨#[]⟩ : ByteArray),false⟩ : Chk)⟩],[],[]⟩ (by kernel_rfl) ?_
  refine xw_seq ?_
  refine xw_seq ?_
  refine xw_region ?_
  refine xl_callS 1 [1,2,3,6,12] [(1,.v (.int .i64 window)),(2,.v (.int .i64 mss)),(3,.p 0 0),(6,.p 1 0),(12,.v (.agg (sndL s).toArray))] 135 [.agg (sndL s).toArray] (some 13) (by kernel_rfl) rfl (by kernel_rfl) rfl (by kernel_rfl) (xc_b fun ww hf => iSenderOk_c s.una s.data s.sent s.fin s.finSent s.done ww ) ?_
  intro _
  refine xl_endS [1,2,3,6,14] [(1,.v (.int .i64 window)),(2,.v (.int .i64 mss)),(3,.p 0 0),(6,.p 1 0),(14,.v (.bool (!(senderOk s))))] (by kernel_rfl) ?_
  refine xw_cond (b := !(senderOk s)) (by kernel_rfl) (fun h1 => ?_) (fun h1 => ?_)
  have hsn := not_t h1
  refine xw_seq ?_
  refine xw_region ?_
  refine xl_opS 0 [6] [(6,.p 1 0)] (.agg (chkL (⟨0,(⟨#[]⟩ : ByteArray),false⟩ : Chk)).toArray) (by kernel_rfl) rfl (by kernel_rfl) rfl (fun _ _ _ ww hr => act_build [] hr.1 rfl (by kernel_rfl) (by kernel_rfl) ww) ?_
  refine xl_endS [6,7] [(6,.p 1 0),(7,.v (.bool false))] (by kernel_rfl) ?_
  refine xw_ret ?_
  have hmod : nextChunk s window mss = ((⟨0,(⟨#[]⟩ : ByteArray),false⟩),false) := by first | rfl | (simp [nextChunk,zeroChk,chunkFin, *]; done) | (simp [nextChunk,zeroChk,chunkFin, *]; omega) | grind [nextChunk,zeroChk,chunkFin]
  exact ⟨[.agg (chkL (⟨0,(⟨#[]⟩ : ByteArray),false⟩ : Chk)).toArray,.bool false],by kernel_rfl,fun w' hb hf => by rw [hmod]; exact ⟨rfl,hb⟩⟩
  have h1b := senderOk_bd (s := s) (by simpa using h1)
  obtain ⟨h1b0,h1b1,h1b2,h1b3,h1b4,h1b5,h1b6,h1b7,h1b8,h1b9,h1b10⟩ := h1b
  have hsn := not_f h1
  obtain ⟨c0,c1,c2,c3,c4⟩ := chunkN_bd (window := window) (mss := mss) hsn
  have hez := rest_size hsn; have hwl := wnd_lt (window := window) (mss := mss) hsn; have hcj := chunkN_j (window := window) (mss := mss) hsn; have hxt := chunk_ext (window := window) (mss := mss) hsn; have hte := chunk_nil (window := window) (mss := mss) hsn
  refine xw_skip ?_
  refine xw_seq ?_
  refine xw_region ?_
  refine xl_opS 1 [2,3,6,16] [(2,.v (.int .i64 mss)),(3,.p 0 0),(6,.p 1 0),(16,.v (.int .i64 window))] (.int .i64 (max window (-1))) (by kernel_rfl) rfl (by kernel_rfl) rfl (fun _ _ _ ww hr => act_max2 hr.1 rfl rfl rfl rfl rfl ww) ?_
  refine xl_callS 1 [2,3,6,17,18] [(2,.v (.int .i64 mss)),(3,.p 0 0),(6,.p 1 0),(17,.v (.int .i64 (max window (-1)))),(18,.v (.agg (sndL s).toArray))] 124 [.agg (sndL s).toArray] (some 19) (by kernel_rfl) rfl (by kernel_rfl) rfl (by kernel_rfl) (xc_b fun ww hf => iFlown_c s.una s.data s.sent s.fin s.finSent s.done ww ) ?_
  intro _
  refine xl_runS 2 [2,3,6,8] [(2,.v (.int .i64 mss)),(3,.p 0 0),(6,.p 1 0),(8,.v (.int .i64 (IntKind.i64.wrap ((max window (-1)) - (flown s)))))] (by kernel_rfl) ?_
  refine xl_eqS (t' := [(2,.v (.int .i64 mss)),(3,.p 0 0),(6,.p 1 0),(8,.v (.int .i64 ((max window (-1)) - (flown s))))]) (by rw [show (IntKind.i64.wrap ((max window (-1)) - (flown s))) = ((max window (-1)) - (flown s)) from wrap_id (by omega) (by omega)]) ?_
  refine xl_endS [2,3,6,8] [(2,.v (.int .i64 mss)),(3,.p 0 0),(6,.p 1 0),(8,.v (.int .i64 ((max window (-1)) - (flown s))))] (by kernel_rfl) ?_
  refine xw_seq ?_
  refine xw_region ?_
  refine xl_opS 4 [2,3,6,8,22,24] [(2,.v (.int .i64 mss)),(3,.p 0 0),(6,.p 1 0),(8,.v (.int .i64 ((max window (-1)) - (flown s)))),(22,.v (.string s.data)),(24,.v (.int .i64 s.sent))] (.string (s.data.extract (s.sent).toNat s.data.size)) (by kernel_rfl) rfl (by kernel_rfl) rfl (fun _ _ _ ww hr => act_slSe (s.sent) hr.1 rfl (by kernel_rfl) rfl rfl (by omega) (by omega) ww) ?_
  refine xl_endS [2,3,6,8,9] [(2,.v (.int .i64 mss)),(3,.p 0 0),(6,.p 1 0),(8,.v (.int .i64 ((max window (-1)) - (flown s)))),(9,.v (.string (s.data.extract (s.sent).toNat s.data.size)))] (by kernel_rfl) ?_
  refine xw_seq ?_
  refine xw_region ?_
  refine xl_opS 4 [3,6,8,9,27,28,29] [(3,.p 0 0),(6,.p 1 0),(8,.v (.int .i64 ((max window (-1)) - (flown s)))),(9,.v (.string (s.data.extract (s.sent).toNat s.data.size))),(27,.v (.int .i64 ((s.data.extract (s.sent).toNat s.data.size).size : Int))),(28,.v (.int .i64 mss)),(29,.v (.int .i64 ((max window (-1)) - (flown s))))] (.int .i64 (min (min ((s.data.extract (s.sent).toNat s.data.size).size : Int) mss) ((max window (-1)) - (flown s)))) (by kernel_rfl) rfl (by kernel_rfl) rfl (fun _ _ _ ww hr => act_min3 hr.1 rfl rfl rfl rfl rfl rfl ww) ?_
  refine xl_opS 0 [3,6,8,9,30] [(3,.p 0 0),(6,.p 1 0),(8,.v (.int .i64 ((max window (-1)) - (flown s)))),(9,.v (.string (s.data.extract (s.sent).toNat s.data.size))),(30,.v (.int .i64 (min (min ((s.data.extract (s.sent).toNat s.data.size).size : Int) mss) ((max window (-1)) - (flown s)))))] (.int .i64 (max 0 (min (min ((s.data.extract (s.sent).toNat s.data.size).size : Int) mss) ((max window (-1)) - (flown s))))) (by kernel_rfl) rfl (by kernel_rfl) rfl (fun _ _ _ ww hr => act_max2 hr.1 rfl rfl rfl rfl rfl ww) ?_
  refine xl_runS 1 [3,6,8,9,10] [(3,.p 0 0),(6,.p 1 0),(8,.v (.int .i64 ((max window (-1)) - (flown s)))),(9,.v (.string (s.data.extract (s.sent).toNat s.data.size))),(10,.v (.int .i64 (max 0 (min (min ((s.data.extract (s.sent).toNat s.data.size).size : Int) mss) ((max window (-1)) - (flown s))))))] (by kernel_rfl) ?_
  refine xl_eqS (t' := [(3,.p 0 0),(6,.p 1 0),(8,.v (.int .i64 ((max window (-1)) - (flown s)))),(9,.v (.string (s.data.extract (s.sent).toNat s.data.size))),(10,.v (.int .i64 (chunkN s window mss)))]) (by rw [show ((s.data.extract (s.sent).toNat s.data.size).size : Int) = ((s.data.size : Int) - s.sent) from hez,show (max 0 (min (min ((s.data.size : Int) - s.sent) mss) ((max window (-1)) - (flown s)))) = (chunkN s window mss) from hcj]) ?_
  refine xl_endS [3,6,8,9,10] [(3,.p 0 0),(6,.p 1 0),(8,.v (.int .i64 ((max window (-1)) - (flown s)))),(9,.v (.string (s.data.extract (s.sent).toNat s.data.size))),(10,.v (.int .i64 (chunkN s window mss)))] (by kernel_rfl) ?_
  refine xw_seq ?_
  refine xe_region [] (by kernel_rfl) (fun ρ σ => ?_)
  refine xe_tkS [0,2,3,5,6] [38,35,34,32,3,6,8,9,10] 26 [(38,.v (.bool s.fin)),(35,.v (.int .i64 (chunkN s window mss))),(34,.v (.string (s.data.extract (s.sent).toNat s.data.size))),(32,.v (.agg (sndL s).toArray)),(3,.p 0 0),(6,.p 1 0),(8,.v (.int .i64 ((max window (-1)) - (flown s)))),(9,.v (.string (s.data.extract (s.sent).toNat s.data.size))),(10,.v (.int .i64 (chunkN s window mss)))] (fun _ _ h => h) rfl (by kernel_rfl) ?_
  refine xe_op 4 (.string ((s.data.extract (s.sent).toNat s.data.size).extract 0 (chunkN s window mss).toNat)) _ rfl (by kernel_rfl) (by kernel_rfl) (by kernel_rfl) (fun _ _ h => h) (by kernel_rfl) rfl (fun _ _ ww hA => act_slS0 (chunkN s window mss) hA rfl (by kernel_rfl) rfl rfl (by omega) (by omega) ww) rfl ?_
  refine xe_eqS (t := [(36,.v (.string ((s.data.extract (s.sent).toNat s.data.size).extract 0 (chunkN s window mss).toNat))),(38,.v (.bool s.fin)),(35,.v (.int .i64 (chunkN s window mss))),(34,.v (.string (s.data.extract (s.sent).toNat s.data.size))),(32,.v (.agg (sndL s).toArray)),(3,.p 0 0),(6,.p 1 0),(8,.v (.int .i64 ((max window (-1)) - (flown s)))),(9,.v (.string (s.data.extract (s.sent).toNat s.data.size))),(10,.v (.int .i64 (chunkN s window mss)))]) (t' := [(36,.v (.string (s.data.extract (s.sent).toNat (s.sent + chunkN s window mss).toNat))),(38,.v (.bool s.fin)),(35,.v (.int .i64 (chunkN s window mss))),(34,.v (.string (s.data.extract (s.sent).toNat s.data.size))),(32,.v (.agg (sndL s).toArray)),(3,.p 0 0),(6,.p 1 0),(8,.v (.int .i64 ((max window (-1)) - (flown s)))),(9,.v (.string (s.data.extract (s.sent).toNat s.data.size))),(10,.v (.int .i64 (chunkN s window mss)))]) (by rw [show ((s.data.extract (s.sent).toNat s.data.size).extract 0 (chunkN s window mss).toNat) = (s.data.extract (s.sent).toNat (s.sent + chunkN s window mss).toNat) from hxt]) ?_
  refine xe_all [1,29] (by kernel_rfl) (by simp) ⟨?_,?_⟩
  refine xs_call 1 147 [.agg (sndL s).toArray] (some 33) rfl (by kernel_rfl) rfl (by kernel_rfl) (xc_b fun ww hf => iNextOf_c s.una s.data s.sent s.fin s.finSent s.done ww ) ?_
  intro _
  refine xe_tkS [7] [39,33,36,3,6,8,9,10] 23 [(39,.v (.bool s.fin)),(33,.v (.int .i64 (nextOf s))),(36,.v (.string (s.data.extract (s.sent).toNat (s.sent + chunkN s window mss).toNat))),(3,.p 0 0),(6,.p 1 0),(8,.v (.int .i64 ((max window (-1)) - (flown s)))),(9,.v (.string (s.data.extract (s.sent).toNat s.data.size))),(10,.v (.int .i64 (chunkN s window mss)))] (fun _ _ h => h) rfl (by kernel_rfl) ?_
  refine xe_split 39 (b := s.fin) (by kernel_rfl) (fun h2 => ?_) (fun h2 => ?_)
  refine xe_tkS [8,9,10,11,12] [44,33,36,3,6,8,9,10] 18 [(44,.v (.bool (!s.finSent))),(33,.v (.int .i64 (nextOf s))),(36,.v (.string (s.data.extract (s.sent).toNat (s.sent + chunkN s window mss).toNat))),(3,.p 0 0),(6,.p 1 0),(8,.v (.int .i64 ((max window (-1)) - (flown s)))),(9,.v (.string (s.data.extract (s.sent).toNat s.data.size))),(10,.v (.int .i64 (chunkN s window mss)))] (fun _ _ h => h) rfl (by kernel_rfl) ?_
  refine xe_split 44 (b := !s.finSent) (by kernel_rfl) (fun h3 => ?_) (fun h3 => ?_)
  have h3n := not_t h3
  refine xe_tkS [13,14,15,16,17] [49,33,36,6,8,9,10] 13 [(49,.v (.bool (!s.done))),(33,.v (.int .i64 (nextOf s))),(36,.v (.string (s.data.extract (s.sent).toNat (s.sent + chunkN s window mss).toNat))),(6,.p 1 0),(8,.v (.int .i64 ((max window (-1)) - (flown s)))),(9,.v (.string (s.data.extract (s.sent).toNat s.data.size))),(10,.v (.int .i64 (chunkN s window mss)))] (fun _ _ h => h) rfl (by kernel_rfl) ?_
  refine xe_split 49 (b := !s.done) (by kernel_rfl) (fun h4 => ?_) (fun h4 => ?_)
  have h4n := not_t h4
  refine xe_tkS [18,19,20,21,22,23] [55,33,36,6,8,10] 7 [(55,.v (.bool ((chunkN s window mss) == ((s.data.extract (s.sent).toNat s.data.size).size : Int)))),(33,.v (.int .i64 (nextOf s))),(36,.v (.string (s.data.extract (s.sent).toNat (s.sent + chunkN s window mss).toNat))),(6,.p 1 0),(8,.v (.int .i64 ((max window (-1)) - (flown s)))),(10,.v (.int .i64 (chunkN s window mss)))] (fun _ _ h => h) rfl (by kernel_rfl) ?_
  refine xe_eqS (t := [(55,.v (.bool ((chunkN s window mss) == ((s.data.extract (s.sent).toNat s.data.size).size : Int)))),(33,.v (.int .i64 (nextOf s))),(36,.v (.string (s.data.extract (s.sent).toNat (s.sent + chunkN s window mss).toNat))),(6,.p 1 0),(8,.v (.int .i64 ((max window (-1)) - (flown s)))),(10,.v (.int .i64 (chunkN s window mss)))]) (t' := [(55,.v (.bool ((chunkN s window mss) == ((s.data.size : Int) - s.sent)))),(33,.v (.int .i64 (nextOf s))),(36,.v (.string (s.data.extract (s.sent).toNat (s.sent + chunkN s window mss).toNat))),(6,.p 1 0),(8,.v (.int .i64 ((max window (-1)) - (flown s)))),(10,.v (.int .i64 (chunkN s window mss)))]) (by rw [show ((s.data.extract (s.sent).toNat s.data.size).size : Int) = ((s.data.size : Int) - s.sent) from hez]) ?_
  refine xe_split 55 (b := (chunkN s window mss) == ((s.data.size : Int) - s.sent)) (by kernel_rfl) (fun h5 => ?_) (fun h5 => ?_)
  have h5p := eqT h5
  refine xe_tkS [24,25,26,27] [59,33,36,6] 3 [(59,.v (.bool (decide (((max window (-1)) - (flown s)) > (chunkN s window mss))))),(33,.v (.int .i64 (nextOf s))),(36,.v (.string (s.data.extract (s.sent).toNat (s.sent + chunkN s window mss).toNat))),(6,.p 1 0)] (fun _ _ h => h) rfl (by kernel_rfl) ?_
  refine xe_op 28 (.agg (chkL (⟨nextOf s,s.data.extract (s.sent).toNat (s.sent + chunkN s window mss).toNat,decide (((max window (-1)) - (flown s)) > (chunkN s window mss))⟩ : Chk)).toArray) _ rfl (by kernel_rfl) (by kernel_rfl) (by kernel_rfl) (fun _ _ h => h) (by kernel_rfl) rfl (fun _ _ ww hA => act_build [(0,.int .i64 (nextOf s)),(1,.string (s.data.extract (s.sent).toNat (s.sent + chunkN s window mss).toNat)),(2,.bool (decide (((max window (-1)) - (flown s)) > (chunkN s window mss))))] hA rfl (by kernel_rfl) (by kernel_rfl) ww) rfl ?_
  refine xe_all [29] (by kernel_rfl) (by simp) ?_
  refine xs_box 29 ⟨116,chkL (⟨0,(⟨#[]⟩ : ByteArray),false⟩ : Chk)⟩ _ rfl (by kernel_rfl) (by kernel_rfl) (by kernel_rfl) (by kernel_rfl) rfl ?_
  refine xe_all [30] (by kernel_rfl) (by simp) ?_
  refine xs_store 30 2 0 [.int .i64 (nextOf s),.string (s.data.extract (s.sent).toNat (s.sent + chunkN s window mss).toNat),.bool (decide (((max window (-1)) - (flown s)) > (chunkN s window mss)))] _ rfl (by kernel_rfl) (by kernel_rfl) (by kernel_rfl) (by kernel_rfl) (by first | exact .inr rfl | exact .inl rfl) (by kernel_rfl) rfl ?_
  refine xe_done (by kernel_rfl) ?_
  refine xw_seq ?_
  refine xw_seq ?_
  refine xw_region ?_
  refine xl_runS 4 [6,11,64] [(6,.p 1 0),(11,.p 2 0),(64,.v (.bool ((s.data.extract (s.sent).toNat (s.sent + chunkN s window mss).toNat).toList == (⟨#[]⟩ : ByteArray).toList)))] (by kernel_rfl) ?_
  refine xl_eqS (t' := [(6,.p 1 0),(11,.p 2 0),(64,.v (.bool (chunkN s window mss == 0)))]) (by rw [show ((s.data.extract (s.sent).toNat (s.sent + chunkN s window mss).toNat).toList == (⟨#[]⟩ : ByteArray).toList) = (chunkN s window mss == 0) from hte]) ?_
  refine xl_split 64 (b := chunkN s window mss == 0) (by kernel_rfl) (fun h6 => ?_) (fun h6 => ?_)
  have h6p := eqT h6
  refine xl_endS [6,11,68] [(6,.p 1 0),(11,.p 2 0),(68,.v (.bool (!(decide (((max window (-1)) - (flown s)) > (chunkN s window mss))))))] (by kernel_rfl) ?_
  refine xw_cond (b := !(decide (((max window (-1)) - (flown s)) > (chunkN s window mss)))) (by kernel_rfl) (fun h7 => ?_) (fun h7 => ?_)
  have h7n := not_t h7
  refine xw_seq ?_
  refine xw_region ?_
  refine xl_opS 0 [6] [(6,.p 1 0)] (.agg (chkL (⟨0,(⟨#[]⟩ : ByteArray),false⟩ : Chk)).toArray) (by kernel_rfl) rfl (by kernel_rfl) rfl (fun _ _ _ ww hr => act_build [] hr.1 rfl (by kernel_rfl) (by kernel_rfl) ww) ?_
  refine xl_endS [6,7] [(6,.p 1 0),(7,.v (.bool false))] (by kernel_rfl) ?_
  refine xw_ret ?_
  have hmod : nextChunk s window mss = ((⟨0,(⟨#[]⟩ : ByteArray),false⟩),false) := by first | rfl | (simp [nextChunk,zeroChk,chunkFin, *]; done) | (simp [nextChunk,zeroChk,chunkFin, *]; omega) | grind [nextChunk,zeroChk,chunkFin]
  exact ⟨[.agg (chkL (⟨0,(⟨#[]⟩ : ByteArray),false⟩ : Chk)).toArray,.bool false],by kernel_rfl,fun w' hb hf => by rw [hmod]; exact ⟨rfl,hb⟩⟩
  have h7n := not_f h7
  refine xw_skip ?_
  refine xw_seq ?_
  refine xw_region ?_
  refine xl_end [6,7] ⟨[(6,.p 1 0),(7,.v (.bool true))],[⟨36,sndL s⟩,⟨116,chkL (⟨nextOf s,s.data.extract (s.sent).toNat (s.sent + chunkN s window mss).toNat,decide (((max window (-1)) - (flown s)) > (chunkN s window mss))⟩ : Chk)⟩,⟨116,chkL (⟨nextOf s,s.data.extract (s.sent).toNat (s.sent + chunkN s window mss).toNat,decide (((max window (-1)) - (flown s)) > (chunkN s window mss))⟩ : Chk)⟩],[],[]⟩ (by kernel_rfl) ?_
  refine xw_ret ?_
  have hmod : nextChunk s window mss = ((⟨nextOf s,s.data.extract (s.sent).toNat (s.sent + chunkN s window mss).toNat,decide (((max window (-1)) - (flown s)) > (chunkN s window mss))⟩),true) := by first | rfl | (simp [nextChunk,zeroChk,chunkFin, *]; done) | (simp [nextChunk,zeroChk,chunkFin, *]; omega) | grind [nextChunk,zeroChk,chunkFin]
  exact ⟨[.agg (chkL (⟨nextOf s,s.data.extract (s.sent).toNat (s.sent + chunkN s window mss).toNat,decide (((max window (-1)) - (flown s)) > (chunkN s window mss))⟩ : Chk)).toArray,.bool true],by kernel_rfl,fun w' hb hf => by rw [hmod]; exact ⟨rfl,hb⟩⟩
  have h6p := eqF h6
  refine xl_endS [6,11,68] [(6,.p 1 0),(11,.p 2 0),(68,.v (.bool false))] (by kernel_rfl) ?_
  refine xw_false (by kernel_rfl) ?_
  refine xw_skip ?_
  refine xw_seq ?_
  refine xw_region ?_
  refine xl_end [6,7] ⟨[(6,.p 1 0),(7,.v (.bool true))],[⟨36,sndL s⟩,⟨116,chkL (⟨nextOf s,s.data.extract (s.sent).toNat (s.sent + chunkN s window mss).toNat,decide (((max window (-1)) - (flown s)) > (chunkN s window mss))⟩ : Chk)⟩,⟨116,chkL (⟨nextOf s,s.data.extract (s.sent).toNat (s.sent + chunkN s window mss).toNat,decide (((max window (-1)) - (flown s)) > (chunkN s window mss))⟩ : Chk)⟩],[],[]⟩ (by kernel_rfl) ?_
  refine xw_ret ?_
  have hmod : nextChunk s window mss = ((⟨nextOf s,s.data.extract (s.sent).toNat (s.sent + chunkN s window mss).toNat,decide (((max window (-1)) - (flown s)) > (chunkN s window mss))⟩),true) := by first | rfl | (simp [nextChunk,zeroChk,chunkFin, *]; done) | (simp [nextChunk,zeroChk,chunkFin, *]; omega) | grind [nextChunk,zeroChk,chunkFin]
  exact ⟨[.agg (chkL (⟨nextOf s,s.data.extract (s.sent).toNat (s.sent + chunkN s window mss).toNat,decide (((max window (-1)) - (flown s)) > (chunkN s window mss))⟩ : Chk)).toArray,.bool true],by kernel_rfl,fun w' hb hf => by rw [hmod]; exact ⟨rfl,hb⟩⟩
  have h5p := eqF h5
  refine xe_tkS [24,25,26,27] [59,33,36,6] 3 [(59,.v (.bool false)),(33,.v (.int .i64 (nextOf s))),(36,.v (.string (s.data.extract (s.sent).toNat (s.sent + chunkN s window mss).toNat))),(6,.p 1 0)] (fun _ _ h => h) rfl (by kernel_rfl) ?_
  refine xe_op 28 (.agg (chkL (⟨nextOf s,s.data.extract (s.sent).toNat (s.sent + chunkN s window mss).toNat,false⟩ : Chk)).toArray) _ rfl (by kernel_rfl) (by kernel_rfl) (by kernel_rfl) (fun _ _ h => h) (by kernel_rfl) rfl (fun _ _ ww hA => act_build [(0,.int .i64 (nextOf s)),(1,.string (s.data.extract (s.sent).toNat (s.sent + chunkN s window mss).toNat)),(2,.bool false)] hA rfl (by kernel_rfl) (by kernel_rfl) ww) rfl ?_
  refine xe_all [29] (by kernel_rfl) (by simp) ?_
  refine xs_box 29 ⟨116,chkL (⟨0,(⟨#[]⟩ : ByteArray),false⟩ : Chk)⟩ _ rfl (by kernel_rfl) (by kernel_rfl) (by kernel_rfl) (by kernel_rfl) rfl ?_
  refine xe_all [30] (by kernel_rfl) (by simp) ?_
  refine xs_store 30 2 0 [.int .i64 (nextOf s),.string (s.data.extract (s.sent).toNat (s.sent + chunkN s window mss).toNat),.bool false] _ rfl (by kernel_rfl) (by kernel_rfl) (by kernel_rfl) (by kernel_rfl) (by first | exact .inr rfl | exact .inl rfl) (by kernel_rfl) rfl ?_
  refine xe_done (by kernel_rfl) ?_
  refine xw_seq ?_
  refine xw_seq ?_
  refine xw_region ?_
  refine xl_runS 4 [6,11,64] [(6,.p 1 0),(11,.p 2 0),(64,.v (.bool ((s.data.extract (s.sent).toNat (s.sent + chunkN s window mss).toNat).toList == (⟨#[]⟩ : ByteArray).toList)))] (by kernel_rfl) ?_
  refine xl_eqS (t' := [(6,.p 1 0),(11,.p 2 0),(64,.v (.bool (chunkN s window mss == 0)))]) (by rw [show ((s.data.extract (s.sent).toNat (s.sent + chunkN s window mss).toNat).toList == (⟨#[]⟩ : ByteArray).toList) = (chunkN s window mss == 0) from hte]) ?_
  refine xl_split 64 (b := chunkN s window mss == 0) (by kernel_rfl) (fun h8 => ?_) (fun h8 => ?_)
  have h8p := eqT h8
  refine xl_endS [6,11,68] [(6,.p 1 0),(11,.p 2 0),(68,.v (.bool true))] (by kernel_rfl) ?_
  refine xw_true (by kernel_rfl) ?_
  refine xw_seq ?_
  refine xw_region ?_
  refine xl_opS 0 [6] [(6,.p 1 0)] (.agg (chkL (⟨0,(⟨#[]⟩ : ByteArray),false⟩ : Chk)).toArray) (by kernel_rfl) rfl (by kernel_rfl) rfl (fun _ _ _ ww hr => act_build [] hr.1 rfl (by kernel_rfl) (by kernel_rfl) ww) ?_
  refine xl_endS [6,7] [(6,.p 1 0),(7,.v (.bool false))] (by kernel_rfl) ?_
  refine xw_ret ?_
  have hmod : nextChunk s window mss = ((⟨0,(⟨#[]⟩ : ByteArray),false⟩),false) := by first | rfl | (simp [nextChunk,zeroChk,chunkFin, *]; done) | (simp [nextChunk,zeroChk,chunkFin, *]; omega) | grind [nextChunk,zeroChk,chunkFin]
  exact ⟨[.agg (chkL (⟨0,(⟨#[]⟩ : ByteArray),false⟩ : Chk)).toArray,.bool false],by kernel_rfl,fun w' hb hf => by rw [hmod]; exact ⟨rfl,hb⟩⟩
  have h8p := eqF h8
  refine xl_endS [6,11,68] [(6,.p 1 0),(11,.p 2 0),(68,.v (.bool false))] (by kernel_rfl) ?_
  refine xw_false (by kernel_rfl) ?_
  refine xw_skip ?_
  refine xw_seq ?_
  refine xw_region ?_
  refine xl_end [6,7] ⟨[(6,.p 1 0),(7,.v (.bool true))],[⟨36,sndL s⟩,⟨116,chkL (⟨nextOf s,s.data.extract (s.sent).toNat (s.sent + chunkN s window mss).toNat,false⟩ : Chk)⟩,⟨116,chkL (⟨nextOf s,s.data.extract (s.sent).toNat (s.sent + chunkN s window mss).toNat,false⟩ : Chk)⟩],[],[]⟩ (by kernel_rfl) ?_
  refine xw_ret ?_
  have hmod : nextChunk s window mss = ((⟨nextOf s,s.data.extract (s.sent).toNat (s.sent + chunkN s window mss).toNat,false⟩),true) := by first | rfl | (simp [nextChunk,zeroChk,chunkFin, *]; done) | (simp [nextChunk,zeroChk,chunkFin, *]; omega) | grind [nextChunk,zeroChk,chunkFin]
  exact ⟨[.agg (chkL (⟨nextOf s,s.data.extract (s.sent).toNat (s.sent + chunkN s window mss).toNat,false⟩ : Chk)).toArray,.bool true],by kernel_rfl,fun w' hb hf => by rw [hmod]; exact ⟨rfl,hb⟩⟩
  have h4n := not_f h4
  refine xe_tkS [18,19,20,21,22,23,24,25,26,27] [59,33,36,6] 3 [(59,.v (.bool false)),(33,.v (.int .i64 (nextOf s))),(36,.v (.string (s.data.extract (s.sent).toNat (s.sent + chunkN s window mss).toNat))),(6,.p 1 0)] (fun _ _ h => h) rfl (by kernel_rfl) ?_
  refine xe_op 28 (.agg (chkL (⟨nextOf s,s.data.extract (s.sent).toNat (s.sent + chunkN s window mss).toNat,false⟩ : Chk)).toArray) _ rfl (by kernel_rfl) (by kernel_rfl) (by kernel_rfl) (fun _ _ h => h) (by kernel_rfl) rfl (fun _ _ ww hA => act_build [(0,.int .i64 (nextOf s)),(1,.string (s.data.extract (s.sent).toNat (s.sent + chunkN s window mss).toNat)),(2,.bool false)] hA rfl (by kernel_rfl) (by kernel_rfl) ww) rfl ?_
  refine xe_all [29] (by kernel_rfl) (by simp) ?_
  refine xs_box 29 ⟨116,chkL (⟨0,(⟨#[]⟩ : ByteArray),false⟩ : Chk)⟩ _ rfl (by kernel_rfl) (by kernel_rfl) (by kernel_rfl) (by kernel_rfl) rfl ?_
  refine xe_all [30] (by kernel_rfl) (by simp) ?_
  refine xs_store 30 2 0 [.int .i64 (nextOf s),.string (s.data.extract (s.sent).toNat (s.sent + chunkN s window mss).toNat),.bool false] _ rfl (by kernel_rfl) (by kernel_rfl) (by kernel_rfl) (by kernel_rfl) (by first | exact .inr rfl | exact .inl rfl) (by kernel_rfl) rfl ?_
  refine xe_done (by kernel_rfl) ?_
  refine xw_seq ?_
  refine xw_seq ?_
  refine xw_region ?_
  refine xl_runS 4 [6,11,64] [(6,.p 1 0),(11,.p 2 0),(64,.v (.bool ((s.data.extract (s.sent).toNat (s.sent + chunkN s window mss).toNat).toList == (⟨#[]⟩ : ByteArray).toList)))] (by kernel_rfl) ?_
  refine xl_eqS (t' := [(6,.p 1 0),(11,.p 2 0),(64,.v (.bool (chunkN s window mss == 0)))]) (by rw [show ((s.data.extract (s.sent).toNat (s.sent + chunkN s window mss).toNat).toList == (⟨#[]⟩ : ByteArray).toList) = (chunkN s window mss == 0) from hte]) ?_
  refine xl_split 64 (b := chunkN s window mss == 0) (by kernel_rfl) (fun h9 => ?_) (fun h9 => ?_)
  have h9p := eqT h9
  refine xl_endS [6,11,68] [(6,.p 1 0),(11,.p 2 0),(68,.v (.bool true))] (by kernel_rfl) ?_
  refine xw_true (by kernel_rfl) ?_
  refine xw_seq ?_
  refine xw_region ?_
  refine xl_opS 0 [6] [(6,.p 1 0)] (.agg (chkL (⟨0,(⟨#[]⟩ : ByteArray),false⟩ : Chk)).toArray) (by kernel_rfl) rfl (by kernel_rfl) rfl (fun _ _ _ ww hr => act_build [] hr.1 rfl (by kernel_rfl) (by kernel_rfl) ww) ?_
  refine xl_endS [6,7] [(6,.p 1 0),(7,.v (.bool false))] (by kernel_rfl) ?_
  refine xw_ret ?_
  have hmod : nextChunk s window mss = ((⟨0,(⟨#[]⟩ : ByteArray),false⟩),false) := by first | rfl | (simp [nextChunk,zeroChk,chunkFin, *]; done) | (simp [nextChunk,zeroChk,chunkFin, *]; omega) | grind [nextChunk,zeroChk,chunkFin]
  exact ⟨[.agg (chkL (⟨0,(⟨#[]⟩ : ByteArray),false⟩ : Chk)).toArray,.bool false],by kernel_rfl,fun w' hb hf => by rw [hmod]; exact ⟨rfl,hb⟩⟩
  have h9p := eqF h9
  refine xl_endS [6,11,68] [(6,.p 1 0),(11,.p 2 0),(68,.v (.bool false))] (by kernel_rfl) ?_
  refine xw_false (by kernel_rfl) ?_
  refine xw_skip ?_
  refine xw_seq ?_
  refine xw_region ?_
  refine xl_end [6,7] ⟨[(6,.p 1 0),(7,.v (.bool true))],[⟨36,sndL s⟩,⟨116,chkL (⟨nextOf s,s.data.extract (s.sent).toNat (s.sent + chunkN s window mss).toNat,false⟩ : Chk)⟩,⟨116,chkL (⟨nextOf s,s.data.extract (s.sent).toNat (s.sent + chunkN s window mss).toNat,false⟩ : Chk)⟩],[],[]⟩ (by kernel_rfl) ?_
  refine xw_ret ?_
  have hmod : nextChunk s window mss = ((⟨nextOf s,s.data.extract (s.sent).toNat (s.sent + chunkN s window mss).toNat,false⟩),true) := by first | rfl | (simp [nextChunk,zeroChk,chunkFin, *]; done) | (simp [nextChunk,zeroChk,chunkFin, *]; omega) | grind [nextChunk,zeroChk,chunkFin]
  exact ⟨[.agg (chkL (⟨nextOf s,s.data.extract (s.sent).toNat (s.sent + chunkN s window mss).toNat,false⟩ : Chk)).toArray,.bool true],by kernel_rfl,fun w' hb hf => by rw [hmod]; exact ⟨rfl,hb⟩⟩
  have h3n := not_f h3
  refine xe_tkS [13,14,15,16,17,18,19,20,21,22,23,24,25,26,27] [59,33,36,6] 3 [(59,.v (.bool false)),(33,.v (.int .i64 (nextOf s))),(36,.v (.string (s.data.extract (s.sent).toNat (s.sent + chunkN s window mss).toNat))),(6,.p 1 0)] (fun _ _ h => h) rfl (by kernel_rfl) ?_
  refine xe_op 28 (.agg (chkL (⟨nextOf s,s.data.extract (s.sent).toNat (s.sent + chunkN s window mss).toNat,false⟩ : Chk)).toArray) _ rfl (by kernel_rfl) (by kernel_rfl) (by kernel_rfl) (fun _ _ h => h) (by kernel_rfl) rfl (fun _ _ ww hA => act_build [(0,.int .i64 (nextOf s)),(1,.string (s.data.extract (s.sent).toNat (s.sent + chunkN s window mss).toNat)),(2,.bool false)] hA rfl (by kernel_rfl) (by kernel_rfl) ww) rfl ?_
  refine xe_all [29] (by kernel_rfl) (by simp) ?_
  refine xs_box 29 ⟨116,chkL (⟨0,(⟨#[]⟩ : ByteArray),false⟩ : Chk)⟩ _ rfl (by kernel_rfl) (by kernel_rfl) (by kernel_rfl) (by kernel_rfl) rfl ?_
  refine xe_all [30] (by kernel_rfl) (by simp) ?_
  refine xs_store 30 2 0 [.int .i64 (nextOf s),.string (s.data.extract (s.sent).toNat (s.sent + chunkN s window mss).toNat),.bool false] _ rfl (by kernel_rfl) (by kernel_rfl) (by kernel_rfl) (by kernel_rfl) (by first | exact .inr rfl | exact .inl rfl) (by kernel_rfl) rfl ?_
  refine xe_done (by kernel_rfl) ?_
  refine xw_seq ?_
  refine xw_seq ?_
  refine xw_region ?_
  refine xl_runS 4 [6,11,64] [(6,.p 1 0),(11,.p 2 0),(64,.v (.bool ((s.data.extract (s.sent).toNat (s.sent + chunkN s window mss).toNat).toList == (⟨#[]⟩ : ByteArray).toList)))] (by kernel_rfl) ?_
  refine xl_eqS (t' := [(6,.p 1 0),(11,.p 2 0),(64,.v (.bool (chunkN s window mss == 0)))]) (by rw [show ((s.data.extract (s.sent).toNat (s.sent + chunkN s window mss).toNat).toList == (⟨#[]⟩ : ByteArray).toList) = (chunkN s window mss == 0) from hte]) ?_
  refine xl_split 64 (b := chunkN s window mss == 0) (by kernel_rfl) (fun h10 => ?_) (fun h10 => ?_)
  have h10p := eqT h10
  refine xl_endS [6,11,68] [(6,.p 1 0),(11,.p 2 0),(68,.v (.bool true))] (by kernel_rfl) ?_
  refine xw_true (by kernel_rfl) ?_
  refine xw_seq ?_
  refine xw_region ?_
  refine xl_opS 0 [6] [(6,.p 1 0)] (.agg (chkL (⟨0,(⟨#[]⟩ : ByteArray),false⟩ : Chk)).toArray) (by kernel_rfl) rfl (by kernel_rfl) rfl (fun _ _ _ ww hr => act_build [] hr.1 rfl (by kernel_rfl) (by kernel_rfl) ww) ?_
  refine xl_endS [6,7] [(6,.p 1 0),(7,.v (.bool false))] (by kernel_rfl) ?_
  refine xw_ret ?_
  have hmod : nextChunk s window mss = ((⟨0,(⟨#[]⟩ : ByteArray),false⟩),false) := by first | rfl | (simp [nextChunk,zeroChk,chunkFin, *]; done) | (simp [nextChunk,zeroChk,chunkFin, *]; omega) | grind [nextChunk,zeroChk,chunkFin]
  exact ⟨[.agg (chkL (⟨0,(⟨#[]⟩ : ByteArray),false⟩ : Chk)).toArray,.bool false],by kernel_rfl,fun w' hb hf => by rw [hmod]; exact ⟨rfl,hb⟩⟩
  have h10p := eqF h10
  refine xl_endS [6,11,68] [(6,.p 1 0),(11,.p 2 0),(68,.v (.bool false))] (by kernel_rfl) ?_
  refine xw_false (by kernel_rfl) ?_
  refine xw_skip ?_
  refine xw_seq ?_
  refine xw_region ?_
  refine xl_end [6,7] ⟨[(6,.p 1 0),(7,.v (.bool true))],[⟨36,sndL s⟩,⟨116,chkL (⟨nextOf s,s.data.extract (s.sent).toNat (s.sent + chunkN s window mss).toNat,false⟩ : Chk)⟩,⟨116,chkL (⟨nextOf s,s.data.extract (s.sent).toNat (s.sent + chunkN s window mss).toNat,false⟩ : Chk)⟩],[],[]⟩ (by kernel_rfl) ?_
  refine xw_ret ?_
  have hmod : nextChunk s window mss = ((⟨nextOf s,s.data.extract (s.sent).toNat (s.sent + chunkN s window mss).toNat,false⟩),true) := by first | rfl | (simp [nextChunk,zeroChk,chunkFin, *]; done) | (simp [nextChunk,zeroChk,chunkFin, *]; omega) | grind [nextChunk,zeroChk,chunkFin]
  exact ⟨[.agg (chkL (⟨nextOf s,s.data.extract (s.sent).toNat (s.sent + chunkN s window mss).toNat,false⟩ : Chk)).toArray,.bool true],by kernel_rfl,fun w' hb hf => by rw [hmod]; exact ⟨rfl,hb⟩⟩
  refine xe_tkS [8,9,10,11,12,13,14,15,16,17,18,19,20,21,22,23,24,25,26,27] [59,33,36,6] 3 [(59,.v (.bool false)),(33,.v (.int .i64 (nextOf s))),(36,.v (.string (s.data.extract (s.sent).toNat (s.sent + chunkN s window mss).toNat))),(6,.p 1 0)] (fun _ _ h => h) rfl (by kernel_rfl) ?_
  refine xe_op 28 (.agg (chkL (⟨nextOf s,s.data.extract (s.sent).toNat (s.sent + chunkN s window mss).toNat,false⟩ : Chk)).toArray) _ rfl (by kernel_rfl) (by kernel_rfl) (by kernel_rfl) (fun _ _ h => h) (by kernel_rfl) rfl (fun _ _ ww hA => act_build [(0,.int .i64 (nextOf s)),(1,.string (s.data.extract (s.sent).toNat (s.sent + chunkN s window mss).toNat)),(2,.bool false)] hA rfl (by kernel_rfl) (by kernel_rfl) ww) rfl ?_
  refine xe_all [29] (by kernel_rfl) (by simp) ?_
  refine xs_box 29 ⟨116,chkL (⟨0,(⟨#[]⟩ : ByteArray),false⟩ : Chk)⟩ _ rfl (by kernel_rfl) (by kernel_rfl) (by kernel_rfl) (by kernel_rfl) rfl ?_
  refine xe_all [30] (by kernel_rfl) (by simp) ?_
  refine xs_store 30 2 0 [.int .i64 (nextOf s),.string (s.data.extract (s.sent).toNat (s.sent + chunkN s window mss).toNat),.bool false] _ rfl (by kernel_rfl) (by kernel_rfl) (by kernel_rfl) (by kernel_rfl) (by first | exact .inr rfl | exact .inl rfl) (by kernel_rfl) rfl ?_
  refine xe_done (by kernel_rfl) ?_
  refine xw_seq ?_
  refine xw_seq ?_
  refine xw_region ?_
  refine xl_runS 4 [6,11,64] [(6,.p 1 0),(11,.p 2 0),(64,.v (.bool ((s.data.extract (s.sent).toNat (s.sent + chunkN s window mss).toNat).toList == (⟨#[]⟩ : ByteArray).toList)))] (by kernel_rfl) ?_
  refine xl_eqS (t' := [(6,.p 1 0),(11,.p 2 0),(64,.v (.bool (chunkN s window mss == 0)))]) (by rw [show ((s.data.extract (s.sent).toNat (s.sent + chunkN s window mss).toNat).toList == (⟨#[]⟩ : ByteArray).toList) = (chunkN s window mss == 0) from hte]) ?_
  refine xl_split 64 (b := chunkN s window mss == 0) (by kernel_rfl) (fun h11 => ?_) (fun h11 => ?_)
  have h11p := eqT h11
  refine xl_endS [6,11,68] [(6,.p 1 0),(11,.p 2 0),(68,.v (.bool true))] (by kernel_rfl) ?_
  refine xw_true (by kernel_rfl) ?_
  refine xw_seq ?_
  refine xw_region ?_
  refine xl_opS 0 [6] [(6,.p 1 0)] (.agg (chkL (⟨0,(⟨#[]⟩ : ByteArray),false⟩ : Chk)).toArray) (by kernel_rfl) rfl (by kernel_rfl) rfl (fun _ _ _ ww hr => act_build [] hr.1 rfl (by kernel_rfl) (by kernel_rfl) ww) ?_
  refine xl_endS [6,7] [(6,.p 1 0),(7,.v (.bool false))] (by kernel_rfl) ?_
  refine xw_ret ?_
  have hmod : nextChunk s window mss = ((⟨0,(⟨#[]⟩ : ByteArray),false⟩),false) := by first | rfl | (simp [nextChunk,zeroChk,chunkFin, *]; done) | (simp [nextChunk,zeroChk,chunkFin, *]; omega) | grind [nextChunk,zeroChk,chunkFin]
  exact ⟨[.agg (chkL (⟨0,(⟨#[]⟩ : ByteArray),false⟩ : Chk)).toArray,.bool false],by kernel_rfl,fun w' hb hf => by rw [hmod]; exact ⟨rfl,hb⟩⟩
  have h11p := eqF h11
  refine xl_endS [6,11,68] [(6,.p 1 0),(11,.p 2 0),(68,.v (.bool false))] (by kernel_rfl) ?_
  refine xw_false (by kernel_rfl) ?_
  refine xw_skip ?_
  refine xw_seq ?_
  refine xw_region ?_
  refine xl_end [6,7] ⟨[(6,.p 1 0),(7,.v (.bool true))],[⟨36,sndL s⟩,⟨116,chkL (⟨nextOf s,s.data.extract (s.sent).toNat (s.sent + chunkN s window mss).toNat,false⟩ : Chk)⟩,⟨116,chkL (⟨nextOf s,s.data.extract (s.sent).toNat (s.sent + chunkN s window mss).toNat,false⟩ : Chk)⟩],[],[]⟩ (by kernel_rfl) ?_
  refine xw_ret ?_
  have hmod : nextChunk s window mss = ((⟨nextOf s,s.data.extract (s.sent).toNat (s.sent + chunkN s window mss).toNat,false⟩),true) := by first | rfl | (simp [nextChunk,zeroChk,chunkFin, *]; done) | (simp [nextChunk,zeroChk,chunkFin, *]; omega) | grind [nextChunk,zeroChk,chunkFin]
  exact ⟨[.agg (chkL (⟨nextOf s,s.data.extract (s.sent).toNat (s.sent + chunkN s window mss).toNat,false⟩ : Chk)).toArray,.bool true],by kernel_rfl,fun w' hb hf => by rw [hmod]; exact ⟨rfl,hb⟩⟩
  refine xs_box 29 ⟨116,chkL (⟨0,(⟨#[]⟩ : ByteArray),false⟩ : Chk)⟩ _ rfl (by kernel_rfl) (by kernel_rfl) (by kernel_rfl) (by kernel_rfl) rfl ?_
  refine xe_all [1] (by kernel_rfl) (by simp) ?_
  refine xs_call 1 147 [.agg (sndL s).toArray] (some 33) rfl (by kernel_rfl) rfl (by kernel_rfl) (xc_b fun ww hf => iNextOf_c s.una s.data s.sent s.fin s.finSent s.done ww ) ?_
  intro _
  refine xe_tkS [7] [39,33,11,36,3,6,8,9,10] 22 [(39,.v (.bool s.fin)),(33,.v (.int .i64 (nextOf s))),(11,.p 2 0),(36,.v (.string (s.data.extract (s.sent).toNat (s.sent + chunkN s window mss).toNat))),(3,.p 0 0),(6,.p 1 0),(8,.v (.int .i64 ((max window (-1)) - (flown s)))),(9,.v (.string (s.data.extract (s.sent).toNat s.data.size))),(10,.v (.int .i64 (chunkN s window mss)))] (fun _ _ h => h) rfl (by kernel_rfl) ?_
  refine xe_split 39 (b := s.fin) (by kernel_rfl) (fun h12 => ?_) (fun h12 => ?_)
  refine xe_tkS [8,9,10,11,12] [44,33,11,36,3,6,8,9,10] 17 [(44,.v (.bool (!s.finSent))),(33,.v (.int .i64 (nextOf s))),(11,.p 2 0),(36,.v (.string (s.data.extract (s.sent).toNat (s.sent + chunkN s window mss).toNat))),(3,.p 0 0),(6,.p 1 0),(8,.v (.int .i64 ((max window (-1)) - (flown s)))),(9,.v (.string (s.data.extract (s.sent).toNat s.data.size))),(10,.v (.int .i64 (chunkN s window mss)))] (fun _ _ h => h) rfl (by kernel_rfl) ?_
  refine xe_split 44 (b := !s.finSent) (by kernel_rfl) (fun h13 => ?_) (fun h13 => ?_)
  have h13n := not_t h13
  refine xe_tkS [13,14,15,16,17] [49,33,11,36,6,8,9,10] 12 [(49,.v (.bool (!s.done))),(33,.v (.int .i64 (nextOf s))),(11,.p 2 0),(36,.v (.string (s.data.extract (s.sent).toNat (s.sent + chunkN s window mss).toNat))),(6,.p 1 0),(8,.v (.int .i64 ((max window (-1)) - (flown s)))),(9,.v (.string (s.data.extract (s.sent).toNat s.data.size))),(10,.v (.int .i64 (chunkN s window mss)))] (fun _ _ h => h) rfl (by kernel_rfl) ?_
  refine xe_split 49 (b := !s.done) (by kernel_rfl) (fun h14 => ?_) (fun h14 => ?_)
  have h14n := not_t h14
  refine xe_tkS [18,19,20,21,22,23] [55,33,11,36,6,8,10] 6 [(55,.v (.bool ((chunkN s window mss) == ((s.data.extract (s.sent).toNat s.data.size).size : Int)))),(33,.v (.int .i64 (nextOf s))),(11,.p 2 0),(36,.v (.string (s.data.extract (s.sent).toNat (s.sent + chunkN s window mss).toNat))),(6,.p 1 0),(8,.v (.int .i64 ((max window (-1)) - (flown s)))),(10,.v (.int .i64 (chunkN s window mss)))] (fun _ _ h => h) rfl (by kernel_rfl) ?_
  refine xe_eqS (t := [(55,.v (.bool ((chunkN s window mss) == ((s.data.extract (s.sent).toNat s.data.size).size : Int)))),(33,.v (.int .i64 (nextOf s))),(11,.p 2 0),(36,.v (.string (s.data.extract (s.sent).toNat (s.sent + chunkN s window mss).toNat))),(6,.p 1 0),(8,.v (.int .i64 ((max window (-1)) - (flown s)))),(10,.v (.int .i64 (chunkN s window mss)))]) (t' := [(55,.v (.bool ((chunkN s window mss) == ((s.data.size : Int) - s.sent)))),(33,.v (.int .i64 (nextOf s))),(11,.p 2 0),(36,.v (.string (s.data.extract (s.sent).toNat (s.sent + chunkN s window mss).toNat))),(6,.p 1 0),(8,.v (.int .i64 ((max window (-1)) - (flown s)))),(10,.v (.int .i64 (chunkN s window mss)))]) (by rw [show ((s.data.extract (s.sent).toNat s.data.size).size : Int) = ((s.data.size : Int) - s.sent) from hez]) ?_
  refine xe_split 55 (b := (chunkN s window mss) == ((s.data.size : Int) - s.sent)) (by kernel_rfl) (fun h15 => ?_) (fun h15 => ?_)
  have h15p := eqT h15
  refine xe_tkS [24,25,26,27] [59,33,11,36,6] 2 [(59,.v (.bool (decide (((max window (-1)) - (flown s)) > (chunkN s window mss))))),(33,.v (.int .i64 (nextOf s))),(11,.p 2 0),(36,.v (.string (s.data.extract (s.sent).toNat (s.sent + chunkN s window mss).toNat))),(6,.p 1 0)] (fun _ _ h => h) rfl (by kernel_rfl) ?_
  refine xe_op 28 (.agg (chkL (⟨nextOf s,s.data.extract (s.sent).toNat (s.sent + chunkN s window mss).toNat,decide (((max window (-1)) - (flown s)) > (chunkN s window mss))⟩ : Chk)).toArray) _ rfl (by kernel_rfl) (by kernel_rfl) (by kernel_rfl) (fun _ _ h => h) (by kernel_rfl) rfl (fun _ _ ww hA => act_build [(0,.int .i64 (nextOf s)),(1,.string (s.data.extract (s.sent).toNat (s.sent + chunkN s window mss).toNat)),(2,.bool (decide (((max window (-1)) - (flown s)) > (chunkN s window mss))))] hA rfl (by kernel_rfl) (by kernel_rfl) ww) rfl ?_
  refine xe_all [30] (by kernel_rfl) (by simp) ?_
  refine xs_store 30 2 0 [.int .i64 (nextOf s),.string (s.data.extract (s.sent).toNat (s.sent + chunkN s window mss).toNat),.bool (decide (((max window (-1)) - (flown s)) > (chunkN s window mss)))] _ rfl (by kernel_rfl) (by kernel_rfl) (by kernel_rfl) (by kernel_rfl) (by first | exact .inr rfl | exact .inl rfl) (by kernel_rfl) rfl ?_
  refine xe_done (by kernel_rfl) ?_
  refine xw_seq ?_
  refine xw_seq ?_
  refine xw_region ?_
  refine xl_runS 4 [6,11,64] [(6,.p 1 0),(11,.p 2 0),(64,.v (.bool ((s.data.extract (s.sent).toNat (s.sent + chunkN s window mss).toNat).toList == (⟨#[]⟩ : ByteArray).toList)))] (by kernel_rfl) ?_
  refine xl_eqS (t' := [(6,.p 1 0),(11,.p 2 0),(64,.v (.bool (chunkN s window mss == 0)))]) (by rw [show ((s.data.extract (s.sent).toNat (s.sent + chunkN s window mss).toNat).toList == (⟨#[]⟩ : ByteArray).toList) = (chunkN s window mss == 0) from hte]) ?_
  refine xl_split 64 (b := chunkN s window mss == 0) (by kernel_rfl) (fun h16 => ?_) (fun h16 => ?_)
  have h16p := eqT h16
  refine xl_endS [6,11,68] [(6,.p 1 0),(11,.p 2 0),(68,.v (.bool (!(decide (((max window (-1)) - (flown s)) > (chunkN s window mss))))))] (by kernel_rfl) ?_
  refine xw_cond (b := !(decide (((max window (-1)) - (flown s)) > (chunkN s window mss)))) (by kernel_rfl) (fun h17 => ?_) (fun h17 => ?_)
  have h17n := not_t h17
  refine xw_seq ?_
  refine xw_region ?_
  refine xl_opS 0 [6] [(6,.p 1 0)] (.agg (chkL (⟨0,(⟨#[]⟩ : ByteArray),false⟩ : Chk)).toArray) (by kernel_rfl) rfl (by kernel_rfl) rfl (fun _ _ _ ww hr => act_build [] hr.1 rfl (by kernel_rfl) (by kernel_rfl) ww) ?_
  refine xl_endS [6,7] [(6,.p 1 0),(7,.v (.bool false))] (by kernel_rfl) ?_
  refine xw_ret ?_
  have hmod : nextChunk s window mss = ((⟨0,(⟨#[]⟩ : ByteArray),false⟩),false) := by first | rfl | (simp [nextChunk,zeroChk,chunkFin, *]; done) | (simp [nextChunk,zeroChk,chunkFin, *]; omega) | grind [nextChunk,zeroChk,chunkFin]
  exact ⟨[.agg (chkL (⟨0,(⟨#[]⟩ : ByteArray),false⟩ : Chk)).toArray,.bool false],by kernel_rfl,fun w' hb hf => by rw [hmod]; exact ⟨rfl,hb⟩⟩
  have h17n := not_f h17
  refine xw_skip ?_
  refine xw_seq ?_
  refine xw_region ?_
  refine xl_end [6,7] ⟨[(6,.p 1 0),(7,.v (.bool true))],[⟨36,sndL s⟩,⟨116,chkL (⟨nextOf s,s.data.extract (s.sent).toNat (s.sent + chunkN s window mss).toNat,decide (((max window (-1)) - (flown s)) > (chunkN s window mss))⟩ : Chk)⟩,⟨116,chkL (⟨nextOf s,s.data.extract (s.sent).toNat (s.sent + chunkN s window mss).toNat,decide (((max window (-1)) - (flown s)) > (chunkN s window mss))⟩ : Chk)⟩],[],[]⟩ (by kernel_rfl) ?_
  refine xw_ret ?_
  have hmod : nextChunk s window mss = ((⟨nextOf s,s.data.extract (s.sent).toNat (s.sent + chunkN s window mss).toNat,decide (((max window (-1)) - (flown s)) > (chunkN s window mss))⟩),true) := by first | rfl | (simp [nextChunk,zeroChk,chunkFin, *]; done) | (simp [nextChunk,zeroChk,chunkFin, *]; omega) | grind [nextChunk,zeroChk,chunkFin]
  exact ⟨[.agg (chkL (⟨nextOf s,s.data.extract (s.sent).toNat (s.sent + chunkN s window mss).toNat,decide (((max window (-1)) - (flown s)) > (chunkN s window mss))⟩ : Chk)).toArray,.bool true],by kernel_rfl,fun w' hb hf => by rw [hmod]; exact ⟨rfl,hb⟩⟩
  have h16p := eqF h16
  refine xl_endS [6,11,68] [(6,.p 1 0),(11,.p 2 0),(68,.v (.bool false))] (by kernel_rfl) ?_
  refine xw_false (by kernel_rfl) ?_
  refine xw_skip ?_
  refine xw_seq ?_
  refine xw_region ?_
  refine xl_end [6,7] ⟨[(6,.p 1 0),(7,.v (.bool true))],[⟨36,sndL s⟩,⟨116,chkL (⟨nextOf s,s.data.extract (s.sent).toNat (s.sent + chunkN s window mss).toNat,decide (((max window (-1)) - (flown s)) > (chunkN s window mss))⟩ : Chk)⟩,⟨116,chkL (⟨nextOf s,s.data.extract (s.sent).toNat (s.sent + chunkN s window mss).toNat,decide (((max window (-1)) - (flown s)) > (chunkN s window mss))⟩ : Chk)⟩],[],[]⟩ (by kernel_rfl) ?_
  refine xw_ret ?_
  have hmod : nextChunk s window mss = ((⟨nextOf s,s.data.extract (s.sent).toNat (s.sent + chunkN s window mss).toNat,decide (((max window (-1)) - (flown s)) > (chunkN s window mss))⟩),true) := by first | rfl | (simp [nextChunk,zeroChk,chunkFin, *]; done) | (simp [nextChunk,zeroChk,chunkFin, *]; omega) | grind [nextChunk,zeroChk,chunkFin]
  exact ⟨[.agg (chkL (⟨nextOf s,s.data.extract (s.sent).toNat (s.sent + chunkN s window mss).toNat,decide (((max window (-1)) - (flown s)) > (chunkN s window mss))⟩ : Chk)).toArray,.bool true],by kernel_rfl,fun w' hb hf => by rw [hmod]; exact ⟨rfl,hb⟩⟩
  have h15p := eqF h15
  refine xe_tkS [24,25,26,27] [59,33,11,36,6] 2 [(59,.v (.bool false)),(33,.v (.int .i64 (nextOf s))),(11,.p 2 0),(36,.v (.string (s.data.extract (s.sent).toNat (s.sent + chunkN s window mss).toNat))),(6,.p 1 0)] (fun _ _ h => h) rfl (by kernel_rfl) ?_
  refine xe_op 28 (.agg (chkL (⟨nextOf s,s.data.extract (s.sent).toNat (s.sent + chunkN s window mss).toNat,false⟩ : Chk)).toArray) _ rfl (by kernel_rfl) (by kernel_rfl) (by kernel_rfl) (fun _ _ h => h) (by kernel_rfl) rfl (fun _ _ ww hA => act_build [(0,.int .i64 (nextOf s)),(1,.string (s.data.extract (s.sent).toNat (s.sent + chunkN s window mss).toNat)),(2,.bool false)] hA rfl (by kernel_rfl) (by kernel_rfl) ww) rfl ?_
  refine xe_all [30] (by kernel_rfl) (by simp) ?_
  refine xs_store 30 2 0 [.int .i64 (nextOf s),.string (s.data.extract (s.sent).toNat (s.sent + chunkN s window mss).toNat),.bool false] _ rfl (by kernel_rfl) (by kernel_rfl) (by kernel_rfl) (by kernel_rfl) (by first | exact .inr rfl | exact .inl rfl) (by kernel_rfl) rfl ?_
  refine xe_done (by kernel_rfl) ?_
  refine xw_seq ?_
  refine xw_seq ?_
  refine xw_region ?_
  refine xl_runS 4 [6,11,64] [(6,.p 1 0),(11,.p 2 0),(64,.v (.bool ((s.data.extract (s.sent).toNat (s.sent + chunkN s window mss).toNat).toList == (⟨#[]⟩ : ByteArray).toList)))] (by kernel_rfl) ?_
  refine xl_eqS (t' := [(6,.p 1 0),(11,.p 2 0),(64,.v (.bool (chunkN s window mss == 0)))]) (by rw [show ((s.data.extract (s.sent).toNat (s.sent + chunkN s window mss).toNat).toList == (⟨#[]⟩ : ByteArray).toList) = (chunkN s window mss == 0) from hte]) ?_
  refine xl_split 64 (b := chunkN s window mss == 0) (by kernel_rfl) (fun h18 => ?_) (fun h18 => ?_)
  have h18p := eqT h18
  refine xl_endS [6,11,68] [(6,.p 1 0),(11,.p 2 0),(68,.v (.bool true))] (by kernel_rfl) ?_
  refine xw_true (by kernel_rfl) ?_
  refine xw_seq ?_
  refine xw_region ?_
  refine xl_opS 0 [6] [(6,.p 1 0)] (.agg (chkL (⟨0,(⟨#[]⟩ : ByteArray),false⟩ : Chk)).toArray) (by kernel_rfl) rfl (by kernel_rfl) rfl (fun _ _ _ ww hr => act_build [] hr.1 rfl (by kernel_rfl) (by kernel_rfl) ww) ?_
  refine xl_endS [6,7] [(6,.p 1 0),(7,.v (.bool false))] (by kernel_rfl) ?_
  refine xw_ret ?_
  have hmod : nextChunk s window mss = ((⟨0,(⟨#[]⟩ : ByteArray),false⟩),false) := by first | rfl | (simp [nextChunk,zeroChk,chunkFin, *]; done) | (simp [nextChunk,zeroChk,chunkFin, *]; omega) | grind [nextChunk,zeroChk,chunkFin]
  exact ⟨[.agg (chkL (⟨0,(⟨#[]⟩ : ByteArray),false⟩ : Chk)).toArray,.bool false],by kernel_rfl,fun w' hb hf => by rw [hmod]; exact ⟨rfl,hb⟩⟩
  have h18p := eqF h18
  refine xl_endS [6,11,68] [(6,.p 1 0),(11,.p 2 0),(68,.v (.bool false))] (by kernel_rfl) ?_
  refine xw_false (by kernel_rfl) ?_
  refine xw_skip ?_
  refine xw_seq ?_
  refine xw_region ?_
  refine xl_end [6,7] ⟨[(6,.p 1 0),(7,.v (.bool true))],[⟨36,sndL s⟩,⟨116,chkL (⟨nextOf s,s.data.extract (s.sent).toNat (s.sent + chunkN s window mss).toNat,false⟩ : Chk)⟩,⟨116,chkL (⟨nextOf s,s.data.extract (s.sent).toNat (s.sent + chunkN s window mss).toNat,false⟩ : Chk)⟩],[],[]⟩ (by kernel_rfl) ?_
  refine xw_ret ?_
  have hmod : nextChunk s window mss = ((⟨nextOf s,s.data.extract (s.sent).toNat (s.sent + chunkN s window mss).toNat,false⟩),true) := by first | rfl | (simp [nextChunk,zeroChk,chunkFin, *]; done) | (simp [nextChunk,zeroChk,chunkFin, *]; omega) | grind [nextChunk,zeroChk,chunkFin]
  exact ⟨[.agg (chkL (⟨nextOf s,s.data.extract (s.sent).toNat (s.sent + chunkN s window mss).toNat,false⟩ : Chk)).toArray,.bool true],by kernel_rfl,fun w' hb hf => by rw [hmod]; exact ⟨rfl,hb⟩⟩
  have h14n := not_f h14
  refine xe_tkS [18,19,20,21,22,23,24,25,26,27] [59,33,11,36,6] 2 [(59,.v (.bool false)),(33,.v (.int .i64 (nextOf s))),(11,.p 2 0),(36,.v (.string (s.data.extract (s.sent).toNat (s.sent + chunkN s window mss).toNat))),(6,.p 1 0)] (fun _ _ h => h) rfl (by kernel_rfl) ?_
  refine xe_op 28 (.agg (chkL (⟨nextOf s,s.data.extract (s.sent).toNat (s.sent + chunkN s window mss).toNat,false⟩ : Chk)).toArray) _ rfl (by kernel_rfl) (by kernel_rfl) (by kernel_rfl) (fun _ _ h => h) (by kernel_rfl) rfl (fun _ _ ww hA => act_build [(0,.int .i64 (nextOf s)),(1,.string (s.data.extract (s.sent).toNat (s.sent + chunkN s window mss).toNat)),(2,.bool false)] hA rfl (by kernel_rfl) (by kernel_rfl) ww) rfl ?_
  refine xe_all [30] (by kernel_rfl) (by simp) ?_
  refine xs_store 30 2 0 [.int .i64 (nextOf s),.string (s.data.extract (s.sent).toNat (s.sent + chunkN s window mss).toNat),.bool false] _ rfl (by kernel_rfl) (by kernel_rfl) (by kernel_rfl) (by kernel_rfl) (by first | exact .inr rfl | exact .inl rfl) (by kernel_rfl) rfl ?_
  refine xe_done (by kernel_rfl) ?_
  refine xw_seq ?_
  refine xw_seq ?_
  refine xw_region ?_
  refine xl_runS 4 [6,11,64] [(6,.p 1 0),(11,.p 2 0),(64,.v (.bool ((s.data.extract (s.sent).toNat (s.sent + chunkN s window mss).toNat).toList == (⟨#[]⟩ : ByteArray).toList)))] (by kernel_rfl) ?_
  refine xl_eqS (t' := [(6,.p 1 0),(11,.p 2 0),(64,.v (.bool (chunkN s window mss == 0)))]) (by rw [show ((s.data.extract (s.sent).toNat (s.sent + chunkN s window mss).toNat).toList == (⟨#[]⟩ : ByteArray).toList) = (chunkN s window mss == 0) from hte]) ?_
  refine xl_split 64 (b := chunkN s window mss == 0) (by kernel_rfl) (fun h19 => ?_) (fun h19 => ?_)
  have h19p := eqT h19
  refine xl_endS [6,11,68] [(6,.p 1 0),(11,.p 2 0),(68,.v (.bool true))] (by kernel_rfl) ?_
  refine xw_true (by kernel_rfl) ?_
  refine xw_seq ?_
  refine xw_region ?_
  refine xl_opS 0 [6] [(6,.p 1 0)] (.agg (chkL (⟨0,(⟨#[]⟩ : ByteArray),false⟩ : Chk)).toArray) (by kernel_rfl) rfl (by kernel_rfl) rfl (fun _ _ _ ww hr => act_build [] hr.1 rfl (by kernel_rfl) (by kernel_rfl) ww) ?_
  refine xl_endS [6,7] [(6,.p 1 0),(7,.v (.bool false))] (by kernel_rfl) ?_
  refine xw_ret ?_
  have hmod : nextChunk s window mss = ((⟨0,(⟨#[]⟩ : ByteArray),false⟩),false) := by first | rfl | (simp [nextChunk,zeroChk,chunkFin, *]; done) | (simp [nextChunk,zeroChk,chunkFin, *]; omega) | grind [nextChunk,zeroChk,chunkFin]
  exact ⟨[.agg (chkL (⟨0,(⟨#[]⟩ : ByteArray),false⟩ : Chk)).toArray,.bool false],by kernel_rfl,fun w' hb hf => by rw [hmod]; exact ⟨rfl,hb⟩⟩
  have h19p := eqF h19
  refine xl_endS [6,11,68] [(6,.p 1 0),(11,.p 2 0),(68,.v (.bool false))] (by kernel_rfl) ?_
  refine xw_false (by kernel_rfl) ?_
  refine xw_skip ?_
  refine xw_seq ?_
  refine xw_region ?_
  refine xl_end [6,7] ⟨[(6,.p 1 0),(7,.v (.bool true))],[⟨36,sndL s⟩,⟨116,chkL (⟨nextOf s,s.data.extract (s.sent).toNat (s.sent + chunkN s window mss).toNat,false⟩ : Chk)⟩,⟨116,chkL (⟨nextOf s,s.data.extract (s.sent).toNat (s.sent + chunkN s window mss).toNat,false⟩ : Chk)⟩],[],[]⟩ (by kernel_rfl) ?_
  refine xw_ret ?_
  have hmod : nextChunk s window mss = ((⟨nextOf s,s.data.extract (s.sent).toNat (s.sent + chunkN s window mss).toNat,false⟩),true) := by first | rfl | (simp [nextChunk,zeroChk,chunkFin, *]; done) | (simp [nextChunk,zeroChk,chunkFin, *]; omega) | grind [nextChunk,zeroChk,chunkFin]
  exact ⟨[.agg (chkL (⟨nextOf s,s.data.extract (s.sent).toNat (s.sent + chunkN s window mss).toNat,false⟩ : Chk)).toArray,.bool true],by kernel_rfl,fun w' hb hf => by rw [hmod]; exact ⟨rfl,hb⟩⟩
  have h13n := not_f h13
  refine xe_tkS [13,14,15,16,17,18,19,20,21,22,23,24,25,26,27] [59,33,11,36,6] 2 [(59,.v (.bool false)),(33,.v (.int .i64 (nextOf s))),(11,.p 2 0),(36,.v (.string (s.data.extract (s.sent).toNat (s.sent + chunkN s window mss).toNat))),(6,.p 1 0)] (fun _ _ h => h) rfl (by kernel_rfl) ?_
  refine xe_op 28 (.agg (chkL (⟨nextOf s,s.data.extract (s.sent).toNat (s.sent + chunkN s window mss).toNat,false⟩ : Chk)).toArray) _ rfl (by kernel_rfl) (by kernel_rfl) (by kernel_rfl) (fun _ _ h => h) (by kernel_rfl) rfl (fun _ _ ww hA => act_build [(0,.int .i64 (nextOf s)),(1,.string (s.data.extract (s.sent).toNat (s.sent + chunkN s window mss).toNat)),(2,.bool false)] hA rfl (by kernel_rfl) (by kernel_rfl) ww) rfl ?_
  refine xe_all [30] (by kernel_rfl) (by simp) ?_
  refine xs_store 30 2 0 [.int .i64 (nextOf s),.string (s.data.extract (s.sent).toNat (s.sent + chunkN s window mss).toNat),.bool false] _ rfl (by kernel_rfl) (by kernel_rfl) (by kernel_rfl) (by kernel_rfl) (by first | exact .inr rfl | exact .inl rfl) (by kernel_rfl) rfl ?_
  refine xe_done (by kernel_rfl) ?_
  refine xw_seq ?_
  refine xw_seq ?_
  refine xw_region ?_
  refine xl_runS 4 [6,11,64] [(6,.p 1 0),(11,.p 2 0),(64,.v (.bool ((s.data.extract (s.sent).toNat (s.sent + chunkN s window mss).toNat).toList == (⟨#[]⟩ : ByteArray).toList)))] (by kernel_rfl) ?_
  refine xl_eqS (t' := [(6,.p 1 0),(11,.p 2 0),(64,.v (.bool (chunkN s window mss == 0)))]) (by rw [show ((s.data.extract (s.sent).toNat (s.sent + chunkN s window mss).toNat).toList == (⟨#[]⟩ : ByteArray).toList) = (chunkN s window mss == 0) from hte]) ?_
  refine xl_split 64 (b := chunkN s window mss == 0) (by kernel_rfl) (fun h20 => ?_) (fun h20 => ?_)
  have h20p := eqT h20
  refine xl_endS [6,11,68] [(6,.p 1 0),(11,.p 2 0),(68,.v (.bool true))] (by kernel_rfl) ?_
  refine xw_true (by kernel_rfl) ?_
  refine xw_seq ?_
  refine xw_region ?_
  refine xl_opS 0 [6] [(6,.p 1 0)] (.agg (chkL (⟨0,(⟨#[]⟩ : ByteArray),false⟩ : Chk)).toArray) (by kernel_rfl) rfl (by kernel_rfl) rfl (fun _ _ _ ww hr => act_build [] hr.1 rfl (by kernel_rfl) (by kernel_rfl) ww) ?_
  refine xl_endS [6,7] [(6,.p 1 0),(7,.v (.bool false))] (by kernel_rfl) ?_
  refine xw_ret ?_
  have hmod : nextChunk s window mss = ((⟨0,(⟨#[]⟩ : ByteArray),false⟩),false) := by first | rfl | (simp [nextChunk,zeroChk,chunkFin, *]; done) | (simp [nextChunk,zeroChk,chunkFin, *]; omega) | grind [nextChunk,zeroChk,chunkFin]
  exact ⟨[.agg (chkL (⟨0,(⟨#[]⟩ : ByteArray),false⟩ : Chk)).toArray,.bool false],by kernel_rfl,fun w' hb hf => by rw [hmod]; exact ⟨rfl,hb⟩⟩
  have h20p := eqF h20
  refine xl_endS [6,11,68] [(6,.p 1 0),(11,.p 2 0),(68,.v (.bool false))] (by kernel_rfl) ?_
  refine xw_false (by kernel_rfl) ?_
  refine xw_skip ?_
  refine xw_seq ?_
  refine xw_region ?_
  refine xl_end [6,7] ⟨[(6,.p 1 0),(7,.v (.bool true))],[⟨36,sndL s⟩,⟨116,chkL (⟨nextOf s,s.data.extract (s.sent).toNat (s.sent + chunkN s window mss).toNat,false⟩ : Chk)⟩,⟨116,chkL (⟨nextOf s,s.data.extract (s.sent).toNat (s.sent + chunkN s window mss).toNat,false⟩ : Chk)⟩],[],[]⟩ (by kernel_rfl) ?_
  refine xw_ret ?_
  have hmod : nextChunk s window mss = ((⟨nextOf s,s.data.extract (s.sent).toNat (s.sent + chunkN s window mss).toNat,false⟩),true) := by first | rfl | (simp [nextChunk,zeroChk,chunkFin, *]; done) | (simp [nextChunk,zeroChk,chunkFin, *]; omega) | grind [nextChunk,zeroChk,chunkFin]
  exact ⟨[.agg (chkL (⟨nextOf s,s.data.extract (s.sent).toNat (s.sent + chunkN s window mss).toNat,false⟩ : Chk)).toArray,.bool true],by kernel_rfl,fun w' hb hf => by rw [hmod]; exact ⟨rfl,hb⟩⟩
  refine xe_tkS [8,9,10,11,12,13,14,15,16,17,18,19,20,21,22,23,24,25,26,27] [59,33,11,36,6] 2 [(59,.v (.bool false)),(33,.v (.int .i64 (nextOf s))),(11,.p 2 0),(36,.v (.string (s.data.extract (s.sent).toNat (s.sent + chunkN s window mss).toNat))),(6,.p 1 0)] (fun _ _ h => h) rfl (by kernel_rfl) ?_
  refine xe_op 28 (.agg (chkL (⟨nextOf s,s.data.extract (s.sent).toNat (s.sent + chunkN s window mss).toNat,false⟩ : Chk)).toArray) _ rfl (by kernel_rfl) (by kernel_rfl) (by kernel_rfl) (fun _ _ h => h) (by kernel_rfl) rfl (fun _ _ ww hA => act_build [(0,.int .i64 (nextOf s)),(1,.string (s.data.extract (s.sent).toNat (s.sent + chunkN s window mss).toNat)),(2,.bool false)] hA rfl (by kernel_rfl) (by kernel_rfl) ww) rfl ?_
  refine xe_all [30] (by kernel_rfl) (by simp) ?_
  refine xs_store 30 2 0 [.int .i64 (nextOf s),.string (s.data.extract (s.sent).toNat (s.sent + chunkN s window mss).toNat),.bool false] _ rfl (by kernel_rfl) (by kernel_rfl) (by kernel_rfl) (by kernel_rfl) (by first | exact .inr rfl | exact .inl rfl) (by kernel_rfl) rfl ?_
  refine xe_done (by kernel_rfl) ?_
  refine xw_seq ?_
  refine xw_seq ?_
  refine xw_region ?_
  refine xl_runS 4 [6,11,64] [(6,.p 1 0),(11,.p 2 0),(64,.v (.bool ((s.data.extract (s.sent).toNat (s.sent + chunkN s window mss).toNat).toList == (⟨#[]⟩ : ByteArray).toList)))] (by kernel_rfl) ?_
  refine xl_eqS (t' := [(6,.p 1 0),(11,.p 2 0),(64,.v (.bool (chunkN s window mss == 0)))]) (by rw [show ((s.data.extract (s.sent).toNat (s.sent + chunkN s window mss).toNat).toList == (⟨#[]⟩ : ByteArray).toList) = (chunkN s window mss == 0) from hte]) ?_
  refine xl_split 64 (b := chunkN s window mss == 0) (by kernel_rfl) (fun h21 => ?_) (fun h21 => ?_)
  have h21p := eqT h21
  refine xl_endS [6,11,68] [(6,.p 1 0),(11,.p 2 0),(68,.v (.bool true))] (by kernel_rfl) ?_
  refine xw_true (by kernel_rfl) ?_
  refine xw_seq ?_
  refine xw_region ?_
  refine xl_opS 0 [6] [(6,.p 1 0)] (.agg (chkL (⟨0,(⟨#[]⟩ : ByteArray),false⟩ : Chk)).toArray) (by kernel_rfl) rfl (by kernel_rfl) rfl (fun _ _ _ ww hr => act_build [] hr.1 rfl (by kernel_rfl) (by kernel_rfl) ww) ?_
  refine xl_endS [6,7] [(6,.p 1 0),(7,.v (.bool false))] (by kernel_rfl) ?_
  refine xw_ret ?_
  have hmod : nextChunk s window mss = ((⟨0,(⟨#[]⟩ : ByteArray),false⟩),false) := by first | rfl | (simp [nextChunk,zeroChk,chunkFin, *]; done) | (simp [nextChunk,zeroChk,chunkFin, *]; omega) | grind [nextChunk,zeroChk,chunkFin]
  exact ⟨[.agg (chkL (⟨0,(⟨#[]⟩ : ByteArray),false⟩ : Chk)).toArray,.bool false],by kernel_rfl,fun w' hb hf => by rw [hmod]; exact ⟨rfl,hb⟩⟩
  have h21p := eqF h21
  refine xl_endS [6,11,68] [(6,.p 1 0),(11,.p 2 0),(68,.v (.bool false))] (by kernel_rfl) ?_
  refine xw_false (by kernel_rfl) ?_
  refine xw_skip ?_
  refine xw_seq ?_
  refine xw_region ?_
  refine xl_end [6,7] ⟨[(6,.p 1 0),(7,.v (.bool true))],[⟨36,sndL s⟩,⟨116,chkL (⟨nextOf s,s.data.extract (s.sent).toNat (s.sent + chunkN s window mss).toNat,false⟩ : Chk)⟩,⟨116,chkL (⟨nextOf s,s.data.extract (s.sent).toNat (s.sent + chunkN s window mss).toNat,false⟩ : Chk)⟩],[],[]⟩ (by kernel_rfl) ?_
  refine xw_ret ?_
  have hmod : nextChunk s window mss = ((⟨nextOf s,s.data.extract (s.sent).toNat (s.sent + chunkN s window mss).toNat,false⟩),true) := by first | rfl | (simp [nextChunk,zeroChk,chunkFin, *]; done) | (simp [nextChunk,zeroChk,chunkFin, *]; omega) | grind [nextChunk,zeroChk,chunkFin]
  exact ⟨[.agg (chkL (⟨nextOf s,s.data.extract (s.sent).toNat (s.sent + chunkN s window mss).toNat,false⟩ : Chk)).toArray,.bool true],by kernel_rfl,fun w' hb hf => by rw [hmod]; exact ⟨rfl,hb⟩⟩
set_option maxHeartbeats 1000000 in
theorem yiSentOff_c (s : Snd) (c : Chk) (w : World)  : Calls Try.prog 110 #[.agg (sndL s).toArray, .agg (chkL c).toArray] w fun e w' => e = .returned (.agg (sndL (sentOff s c)).toArray) ∧ Below w.heap.size w w' := by
  have hsf := sentS_fin s c
  refine x_calls (args := [.agg (sndL s).toArray,.agg (chkL c).toArray]) (fn := Try.f110) [] Try.func110 rfl Try.ntmps110 rfl (by simp) ?_
  refine xw_seq ?_
  refine xw_region ?_
  refine xl_end [2,3,4] ⟨[(2,.p 0 0),(3,.p 1 0),(4,.p 2 0)],[⟨36,sndL s⟩,⟨116,chkL c⟩,⟨36,sndZ⟩],[],[]⟩ (by kernel_rfl) ?_
  refine xw_seq ?_
  refine xw_region ?_
  refine xl_end [2,3,4,5] ⟨[(2,.p 0 0),(3,.p 1 0),(4,.p 2 0),(5,.p 3 0)],[⟨36,sndL s⟩,⟨116,chkL c⟩,⟨36,sndZ⟩,⟨36,sndL s⟩],[],[]⟩ (by kernel_rfl) ?_
  refine xw_seq ?_
  refine xw_region ?_
  refine xl_end [2,3,4,5] ⟨[(2,.p 0 0),(3,.p 1 0),(4,.p 2 0),(5,.p 3 0)],[⟨36,sndL s⟩,⟨116,chkL c⟩,⟨36,sndZ⟩,⟨36,sndL { s with sent := IntKind.i64.wrap (s.sent + (c.text.size : Int)) }⟩],[],[]⟩ (by kernel_rfl) ?_
  refine xw_seq ?_
  refine xw_join ⟨[(2,.p 0 0),(3,.p 1 0),(4,.p 2 0),(5,.p 3 0)],[⟨36,sndL s⟩,⟨116,chkL c⟩,⟨36,sndZ⟩,⟨36,sndL { s with sent := IntKind.i64.wrap (s.sent + (c.text.size : Int)),finSent := s.finSent || c.fin }⟩],[],[]⟩ ?_ ?_
  refine xw_region ?_
  refine xl_runS 3 [2,3,4,5,16] [(2,.p 0 0),(3,.p 1 0),(4,.p 2 0),(5,.p 3 0),(16,.v (.bool s.finSent))] (by kernel_rfl) ?_
  refine xl_split 16 (b := s.finSent) (by kernel_rfl) (fun h1 => ?_) (fun h1 => ?_)
  refine xl_end [2,3,4,5] ⟨[(2,.p 0 0),(3,.p 1 0),(4,.p 2 0),(5,.p 3 0)],[⟨36,sndL s⟩,⟨116,chkL c⟩,⟨36,sndZ⟩,⟨36,sndL { s with sent := IntKind.i64.wrap (s.sent + (c.text.size : Int)),finSent := true }⟩],[],[]⟩ (by kernel_rfl) ?_
  show Wk _ _
  try rw [h1]
  exact wk_forget 4 0 [2,3,4,5] (by kernel_rfl) (by kernel_rfl) (by kernel_rfl)
  refine xl_end [2,3,4,5] ⟨[(2,.p 0 0),(3,.p 1 0),(4,.p 2 0),(5,.p 3 0)],[⟨36,sndL s⟩,⟨116,chkL c⟩,⟨36,sndZ⟩,⟨36,sndL { s with sent := IntKind.i64.wrap (s.sent + (c.text.size : Int)),finSent := c.fin }⟩],[],[]⟩ (by kernel_rfl) ?_
  show Wk _ _
  try rw [h1]
  exact wk_forget 4 0 [2,3,4,5] (by kernel_rfl) (by kernel_rfl) (by kernel_rfl)
  refine xw_seq ?_
  refine xw_seq ?_
  refine xw_join ⟨[(2,.p 0 0),(4,.p 2 0),(5,.p 3 0),(41,.v (.bool ((!(senderOk s)) || ((!(senderOk ({ s with sent := IntKind.i64.wrap (s.sent + (c.text.size : Int)),finSent := s.finSent || c.fin }))) || (c.fin && ((!s.fin) || s.done))))))],[⟨36,sndL s⟩,⟨116,chkL c⟩,⟨36,sndZ⟩,⟨36,sndL { s with sent := IntKind.i64.wrap (s.sent + (c.text.size : Int)),finSent := s.finSent || c.fin }⟩],[],[]⟩ ?_ ?_
  refine xw_region ?_
  refine xl_callS 1 [2,3,4,5,21] [(2,.p 0 0),(3,.p 1 0),(4,.p 2 0),(5,.p 3 0),(21,.v (.agg (sndL s).toArray))] 135 [.agg (sndL s).toArray] (some 22) (by kernel_rfl) rfl (by kernel_rfl) rfl (by kernel_rfl) (xc_b fun ww hf => iSenderOk_c s.una s.data s.sent s.fin s.finSent s.done ww ) ?_
  intro _
  refine xl_runS 2 [2,3,4,5,24] [(2,.p 0 0),(3,.p 1 0),(4,.p 2 0),(5,.p 3 0),(24,.v (.bool (!(senderOk s))))] (by kernel_rfl) ?_
  refine xl_split 24 (b := !(senderOk s)) (by kernel_rfl) (fun h2 => ?_) (fun h2 => ?_)
  have h2n := not_t h2
  refine xl_endS [2,4,5,41] [(2,.p 0 0),(4,.p 2 0),(5,.p 3 0),(41,.v (.bool true))] (by kernel_rfl) ?_
  show Wk _ _
  try rw [h2]
  exact wk_forget 4 0 [2,4,5,41] (by kernel_rfl) (by kernel_rfl) (by kernel_rfl)
  have h2n := not_f h2
  have h2nb := senderOk_bd (s := s) (by simpa using h2n)
  obtain ⟨h2nb0,h2nb1,h2nb2,h2nb3,h2nb4,h2nb5,h2nb6,h2nb7,h2nb8,h2nb9,h2nb10⟩ := h2nb
  refine xl_callS 1 [2,3,4,5,24,25] [(2,.p 0 0),(3,.p 1 0),(4,.p 2 0),(5,.p 3 0),(24,.v (.bool false)),(25,.v (.agg (sndL { s with sent := IntKind.i64.wrap (s.sent + (c.text.size : Int)),finSent := s.finSent || c.fin }).toArray))] 135 [.agg (sndL { s with sent := IntKind.i64.wrap (s.sent + (c.text.size : Int)),finSent := s.finSent || c.fin }).toArray] (some 26) (by kernel_rfl) rfl (by kernel_rfl) rfl (by kernel_rfl) (xc_b fun ww hf => iSenderOk_c s.una s.data (IntKind.i64.wrap (s.sent + (c.text.size : Int))) s.fin (s.finSent || c.fin) s.done ww ) ?_
  intro _
  refine xl_runS 3 [2,3,4,5,29] [(2,.p 0 0),(3,.p 1 0),(4,.p 2 0),(5,.p 3 0),(29,.v (.bool (!(senderOk ({ s with sent := IntKind.i64.wrap (s.sent + (c.text.size : Int)),finSent := s.finSent || c.fin })))))] (by kernel_rfl) ?_
  refine xl_split 29 (b := !(senderOk ({ s with sent := IntKind.i64.wrap (s.sent + (c.text.size : Int)),finSent := s.finSent || c.fin }))) (by kernel_rfl) (fun h3 => ?_) (fun h3 => ?_)
  have h3n := not_t h3
  refine xl_endS [2,4,5,41] [(2,.p 0 0),(4,.p 2 0),(5,.p 3 0),(41,.v (.bool true))] (by kernel_rfl) ?_
  show Wk _ _
  try rw [h2]
  try rw [h3]
  exact wk_forget 4 0 [2,4,5,41] (by kernel_rfl) (by kernel_rfl) (by kernel_rfl)
  have h3n := not_f h3
  have h3nb := senderOk_bd (s := ({ s with sent := IntKind.i64.wrap (s.sent + (c.text.size : Int)),finSent := s.finSent || c.fin })) (by simpa using h3n)
  obtain ⟨h3nb0,h3nb1,h3nb2,h3nb3,h3nb4,h3nb5,h3nb6,h3nb7,h3nb8,h3nb9,h3nb10⟩ := h3nb
  refine xl_runS 3 [2,4,5,29,32] [(2,.p 0 0),(4,.p 2 0),(5,.p 3 0),(29,.v (.bool false)),(32,.v (.bool c.fin))] (by kernel_rfl) ?_
  refine xl_split 32 (b := c.fin) (by kernel_rfl) (fun h4 => ?_) (fun h4 => ?_)
  refine xl_runS 4 [2,4,5,29,32,36] [(2,.p 0 0),(4,.p 2 0),(5,.p 3 0),(29,.v (.bool false)),(32,.v (.bool true)),(36,.v (.bool (!s.fin)))] (by kernel_rfl) ?_
  refine xl_split 36 (b := !s.fin) (by kernel_rfl) (fun h5 => ?_) (fun h5 => ?_)
  have h5n := not_t h5
  refine xl_endS [2,4,5,41] [(2,.p 0 0),(4,.p 2 0),(5,.p 3 0),(41,.v (.bool true))] (by kernel_rfl) ?_
  show Wk _ _
  try rw [h2]
  try rw [h3]
  try rw [h4]
  try rw [h5]
  exact wk_forget 4 0 [2,4,5,41] (by kernel_rfl) (by kernel_rfl) (by kernel_rfl)
  have h5n := not_f h5
  refine xl_endS [2,4,5,41] [(2,.p 0 0),(4,.p 2 0),(5,.p 3 0),(41,.v (.bool s.done))] (by kernel_rfl) ?_
  show Wk _ _
  try rw [h2]
  try rw [h3]
  try rw [h4]
  try rw [h5]
  exact wk_forget 4 0 [2,4,5,41] (by kernel_rfl) (by kernel_rfl) (by kernel_rfl)
  refine xl_endS [2,4,5,41] [(2,.p 0 0),(4,.p 2 0),(5,.p 3 0),(41,.v (.bool false))] (by kernel_rfl) ?_
  show Wk _ _
  try rw [h2]
  try rw [h3]
  try rw [h4]
  exact wk_forget 4 0 [2,4,5,41] (by kernel_rfl) (by kernel_rfl) (by kernel_rfl)
  refine xw_cond (b := (!(senderOk s)) || ((!(senderOk ({ s with sent := IntKind.i64.wrap (s.sent + (c.text.size : Int)),finSent := s.finSent || c.fin }))) || (c.fin && ((!s.fin) || s.done)))) (by kernel_rfl) (fun h6 => ?_) (fun h6 => ?_)
  refine xw_seq ?_
  refine xw_region ?_
  refine xl_end [4] ⟨[(4,.p 2 0)],[⟨36,sndL s⟩,⟨116,chkL c⟩,⟨36,sndL s⟩,⟨36,sndL { s with sent := IntKind.i64.wrap (s.sent + (c.text.size : Int)),finSent := s.finSent || c.fin }⟩],[],[]⟩ (by kernel_rfl) ?_
  refine xw_ret ?_
  have hmod : sentOff s c = s := by first | rfl | (simp [sentOff,sentS, *]; done) | grind [sentOff,sentS]
  exact ⟨[.agg (sndL s).toArray],by kernel_rfl,fun w' hb hf => by rw [hmod]; exact ⟨rfl,hb⟩⟩
  have h6l := or_l h6
  have h6ln := not_f h6l
  have h6lnb := senderOk_bd (s := s) (by simpa using h6ln)
  obtain ⟨h6lnb0,h6lnb1,h6lnb2,h6lnb3,h6lnb4,h6lnb5,h6lnb6,h6lnb7,h6lnb8,h6lnb9,h6lnb10⟩ := h6lnb
  have h6r := or_r h6
  have h6rl := or_l h6r
  have h6rln := not_f h6rl
  have h6rlnb := senderOk_bd (s := ({ s with sent := IntKind.i64.wrap (s.sent + (c.text.size : Int)),finSent := s.finSent || c.fin })) (by simpa using h6rln)
  obtain ⟨h6rlnb0,h6rlnb1,h6rlnb2,h6rlnb3,h6rlnb4,h6rlnb5,h6rlnb6,h6rlnb7,h6rlnb8,h6rlnb9,h6rlnb10⟩ := h6rlnb
  have h6rr := or_r h6r
  refine xw_skip ?_
  refine xw_seq ?_
  refine xw_region ?_
  refine xl_end [4] ⟨[(4,.p 2 0)],[⟨36,sndL s⟩,⟨116,chkL c⟩,⟨36,sndL { s with sent := IntKind.i64.wrap (s.sent + (c.text.size : Int)),finSent := s.finSent || c.fin }⟩,⟨36,sndL { s with sent := IntKind.i64.wrap (s.sent + (c.text.size : Int)),finSent := s.finSent || c.fin }⟩],[],[]⟩ (by kernel_rfl) ?_
  refine xw_ret ?_
  have hmod : sentOff s c = ({ s with sent := IntKind.i64.wrap (s.sent + (c.text.size : Int)),finSent := s.finSent || c.fin }) := by first | rfl | (simp [sentOff,sentS, *]; done) | grind [sentOff,sentS]
  exact ⟨[.agg (sndL { s with sent := IntKind.i64.wrap (s.sent + (c.text.size : Int)),finSent := s.finSent || c.fin }).toArray],by kernel_rfl,fun w' hb hf => by rw [hmod]; exact ⟨rfl,hb⟩⟩
set_option maxHeartbeats 1000000 in
theorem ysPump_c (c : Con) (c_r_heldV : Value) (window : Int) (w : World) (hl_c_r_heldV : Sl w c_r_heldV 2 (c.r.held.map pceCells)) (hkn : c.r.held.length ≤ 1048576)(hm : ∀ p ∈ c.r.held, p.text.size ≤ 1048576) (hsz : c.r.data.size ≤ 4611686018427387904) (hwi : -9223372036854775808 ≤ window ∧ window ≤ 9223372036854775807) (B : Nat) (hB : B ≤ w.heap.size) : Calls Try.prog 43 #[.agg (conL c c_r_heldV).toArray, .int .i64 window] w fun e w' => XRs w w' e (α := (Option Addr × Nat) × (Option Addr × Nat)) (fun y => .tuple #[.agg (conL (pump c window).1 (.slice y.1.1 ((pump c window).1.r.held.length) y.1.2)).toArray, .slice y.2.1 ((pump c window).2.length) y.2.2]) (fun y => [ownF B (.slice y.1.1 ((pump c window).1.r.held.length) y.1.2) 2 ((pump c window).1.r.held.map pceCells), ownF B (.slice y.2.1 ((pump c window).2.length) y.2.2) 13 ((pump c window).2.map segCells)]) := by
  obtain ⟨Acrh,Ccrh,hvcrh⟩ := hl_c_r_heldV.form
  rw [List.length_map] at hvcrh; subst hvcrh
  have hncrh := hl_c_r_heldV.len; rw [List.length_map] at hncrh
  refine x_callsA (args := [.agg (conL c (.slice Acrh c.r.held.length Ccrh)).toArray,.int .i64 window]) (fn := Try.f43) [slF (.slice Acrh c.r.held.length Ccrh) 2 (c.r.held.map pceCells)] Try.func43 rfl Try.ntmps43 rfl (by simp only [List.mem_cons,List.not_mem_nil,or_false,forall_eq_or_imp,forall_eq]; exact ⟨rfl,hl_c_r_heldV⟩) ?_
  refine xw_seq ?_
  refine xw_region ?_
  refine xl_end [1,2,4] ⟨[(1,.v (.int .i64 window)),(2,.p 0 0),(4,.p 1 0)],[⟨42,conL c (.slice Acrh c.r.held.length Ccrh)⟩,⟨42,conZ⟩],[],[slF (.slice Acrh c.r.held.length Ccrh) 2 (c.r.held.map pceCells)]⟩ (by kernel_rfl) ?_
  refine xw_seq ?_
  refine xw_region ?_
  refine xl_callS 1 [1,2,4,10] [(1,.v (.int .i64 window)),(2,.p 0 0),(4,.p 1 0),(10,.v (.agg (conL c (.slice Acrh c.r.held.length Ccrh)).toArray))] 95 [.agg (conL c (.slice Acrh c.r.held.length Ccrh)).toArray] (some 11) (by kernel_rfl) rfl (by kernel_rfl) rfl (by kernel_rfl) (xc_r fun ww hw hf => yl19Copy_c c (.slice Acrh c.r.held.length Ccrh) ww (hf (slF (.slice Acrh c.r.held.length Ccrh) 2 (c.r.held.map pceCells)) (by simp)) (by assumption) w.heap.size hw) ?_
  rintro ⟨v1a,v1c⟩
  refine xl_end [1,2,4] ⟨[(1,.v (.int .i64 window)),(2,.p 0 0),(4,.p 1 0)],[⟨42,conL c (.slice v1a c.r.held.length v1c)⟩,⟨42,conZ⟩],[],[ownF w.heap.size (.slice v1a c.r.held.length v1c) 2 (c.r.held.map pceCells),slF (.slice Acrh c.r.held.length Ccrh) 2 (c.r.held.map pceCells)]⟩ (by kernel_rfl) ?_
  refine xw_seq ?_
  refine xw_region ?_
  refine xl_hvS 0 [1,2,4] [(1,.v (.int .i64 window)),(2,.p 0 0),(4,.p 1 0)] (by kernel_rfl) rfl (by kernel_rfl) rfl (by kernel_rfl) (hv_build (e := 51) (K := 13) (bytes := 104) [] rfl (by kernel_rfl) (by kernel_rfl) (by kernel_rfl) (by kernel_rfl) (by kernel_rfl) (rs := ([] : List Seg).map segCells) rfl) ?_
  intro g2
  refine xl_endS [1,2,4,6] [(1,.v (.int .i64 window)),(2,.p 0 0),(4,.p 1 0),(6,.v (.slice (some ⟨g2,0,none⟩) 0 0))] (by kernel_rfl) ?_
  refine xw_seq ?_
  refine xw_seq ?_
  refine xw_region ?_
  refine xl_callS 1 [1,2,4,6,13] [(1,.v (.int .i64 window)),(2,.p 0 0),(4,.p 1 0),(6,.v (.slice (some ⟨g2,0,none⟩) 0 0)),(13,.v (.agg (conL c (.slice v1a c.r.held.length v1c)).toArray))] 63 [.agg (conL c (.slice v1a c.r.held.length v1c)).toArray] (some 14) (by kernel_rfl) rfl (by kernel_rfl) rfl (by kernel_rfl) (xc_b fun ww hf => ysConnOk_c c (.slice v1a c.r.held.length v1c) ww (Own.sl (hf (ownF w.heap.size (.slice v1a c.r.held.length v1c) 2 (c.r.held.map pceCells)) (by simp))) (by assumption) (by omega)) ?_
  intro _
  refine xl_runS 2 [1,2,4,6,16] [(1,.v (.int .i64 window)),(2,.p 0 0),(4,.p 1 0),(6,.v (.slice (some ⟨g2,0,none⟩) 0 0)),(16,.v (.bool (!(conOk c))))] (by kernel_rfl) ?_
  refine xl_split 16 (b := !(conOk c)) (by kernel_rfl) (fun h3 => ?_) (fun h3 => ?_)
  have h3n := not_t h3
  refine xl_endS [1,2,4,6,25] [(1,.v (.int .i64 window)),(2,.p 0 0),(4,.p 1 0),(6,.v (.slice (some ⟨g2,0,none⟩) 0 0)),(25,.v (.bool true))] (by kernel_rfl) ?_
  refine xw_true (by kernel_rfl) ?_
  refine xw_seq ?_
  refine xw_region ?_
  refine xl_end [4,5] ⟨[(4,.p 1 0),(5,.v (.slice (some ⟨g2,0,none⟩) 0 0))],[⟨42,conL c (.slice v1a c.r.held.length v1c)⟩,⟨42,conL c (.slice v1a c.r.held.length v1c)⟩],[],[rowF w.heap.size 51 13 (.slice (some ⟨g2,0,none⟩) 0 0) (([] : List Seg).map segCells),ownF w.heap.size (.slice v1a c.r.held.length v1c) 2 (c.r.held.map pceCells),slF (.slice Acrh c.r.held.length Ccrh) 2 (c.r.held.map pceCells)]⟩ (by kernel_rfl) ?_
  refine xw_ret ?_
  have hmod : pump c window = (c,([] : List Seg)) := by first | (simp [pump, *]; done) | exact pump_yes hok hs8 hs7 hS hL (by first | exact HT.symm | (unfold tmr; rw [show L.isEmpty = decide (L.length = 0) from by cases L <;> rfl]; simp only [decide_eq_true_eq]; split <;> (try split) <;> omega))
  exact ⟨[.agg (conL c (.slice v1a c.r.held.length v1c)).toArray,.slice (some ⟨g2,0,none⟩) 0 0],by kernel_rfl,fun w' hb hf ha => by rw [hmod]; exact xr_two ((v1a,v1c),((some ⟨g2,0,none⟩),0)) rfl rfl (ownF_ownF (hf (ownF w.heap.size (.slice v1a c.r.held.length v1c) 2 (c.r.held.map pceCells)) (by simp)) hB) (fun b hb => ownF_lo (hf (ownF w.heap.size (.slice v1a c.r.held.length v1c) 2 (c.r.held.map pceCells)) (by simp)) hb) (rowF_ownF (hf (rowF w.heap.size 51 13 (.slice (some ⟨g2,0,none⟩) 0 0) (([] : List Seg).map segCells)) (by simp)) hB) (fun b hb => rowF_lo (hf (rowF w.heap.size 51 13 (.slice (some ⟨g2,0,none⟩) 0 0) (([] : List Seg).map segCells)) (by simp)) (rowF_blk hb)) (Apart.sub2 ha (i := 1) (j := 0) rfl rfl (by decide) rfl (fun b h => h) (fun b h => rowF_blk h)) hb⟩
  have h3n := not_f h3
  refine xl_runS 5 [1,2,4,6,21] [(1,.v (.int .i64 window)),(2,.p 0 0),(4,.p 1 0),(6,.v (.slice (some ⟨g2,0,none⟩) 0 0)),(21,.v (.bool (c.state == 8)))] (by kernel_rfl) ?_
  refine xl_split 21 (b := c.state == 8) (by kernel_rfl) (fun h4 => ?_) (fun h4 => ?_)
  have h4p := eqT h4
  refine xl_endS [1,2,4,6,25] [(1,.v (.int .i64 window)),(2,.p 0 0),(4,.p 1 0),(6,.v (.slice (some ⟨g2,0,none⟩) 0 0)),(25,.v (.bool true))] (by kernel_rfl) ?_
  refine xw_true (by kernel_rfl) ?_
  refine xw_seq ?_
  refine xw_region ?_
  refine xl_end [4,5] ⟨[(4,.p 1 0),(5,.v (.slice (some ⟨g2,0,none⟩) 0 0))],[⟨42,conL c (.slice v1a c.r.held.length v1c)⟩,⟨42,conL c (.slice v1a c.r.held.length v1c)⟩],[],[rowF w.heap.size 51 13 (.slice (some ⟨g2,0,none⟩) 0 0) (([] : List Seg).map segCells),ownF w.heap.size (.slice v1a c.r.held.length v1c) 2 (c.r.held.map pceCells),slF (.slice Acrh c.r.held.length Ccrh) 2 (c.r.held.map pceCells)]⟩ (by kernel_rfl) ?_
  refine xw_ret ?_
  have hmod : pump c window = (c,([] : List Seg)) := by first | (simp [pump, *]; done) | exact pump_yes hok hs8 hs7 hS hL (by first | exact HT.symm | (unfold tmr; rw [show L.isEmpty = decide (L.length = 0) from by cases L <;> rfl]; simp only [decide_eq_true_eq]; split <;> (try split) <;> omega))
  exact ⟨[.agg (conL c (.slice v1a c.r.held.length v1c)).toArray,.slice (some ⟨g2,0,none⟩) 0 0],by kernel_rfl,fun w' hb hf ha => by rw [hmod]; exact xr_two ((v1a,v1c),((some ⟨g2,0,none⟩),0)) rfl rfl (ownF_ownF (hf (ownF w.heap.size (.slice v1a c.r.held.length v1c) 2 (c.r.held.map pceCells)) (by simp)) hB) (fun b hb => ownF_lo (hf (ownF w.heap.size (.slice v1a c.r.held.length v1c) 2 (c.r.held.map pceCells)) (by simp)) hb) (rowF_ownF (hf (rowF w.heap.size 51 13 (.slice (some ⟨g2,0,none⟩) 0 0) (([] : List Seg).map segCells)) (by simp)) hB) (fun b hb => rowF_lo (hf (rowF w.heap.size 51 13 (.slice (some ⟨g2,0,none⟩) 0 0) (([] : List Seg).map segCells)) (by simp)) (rowF_blk hb)) (Apart.sub2 ha (i := 1) (j := 0) rfl rfl (by decide) rfl (fun b h => h) (fun b h => rowF_blk h)) hb⟩
  have h4p := eqF h4
  refine xl_endS [1,2,4,6,25] [(1,.v (.int .i64 window)),(2,.p 0 0),(4,.p 1 0),(6,.v (.slice (some ⟨g2,0,none⟩) 0 0)),(25,.v (.bool (c.state == 7)))] (by kernel_rfl) ?_
  refine xw_cond (b := c.state == 7) (by kernel_rfl) (fun h5 => ?_) (fun h5 => ?_)
  have h5p := eqT h5
  refine xw_seq ?_
  refine xw_region ?_
  refine xl_end [4,5] ⟨[(4,.p 1 0),(5,.v (.slice (some ⟨g2,0,none⟩) 0 0))],[⟨42,conL c (.slice v1a c.r.held.length v1c)⟩,⟨42,conL c (.slice v1a c.r.held.length v1c)⟩],[],[rowF w.heap.size 51 13 (.slice (some ⟨g2,0,none⟩) 0 0) (([] : List Seg).map segCells),ownF w.heap.size (.slice v1a c.r.held.length v1c) 2 (c.r.held.map pceCells),slF (.slice Acrh c.r.held.length Ccrh) 2 (c.r.held.map pceCells)]⟩ (by kernel_rfl) ?_
  refine xw_ret ?_
  have hmod : pump c window = (c,([] : List Seg)) := by first | (simp [pump, *]; done) | exact pump_yes hok hs8 hs7 hS hL (by first | exact HT.symm | (unfold tmr; rw [show L.isEmpty = decide (L.length = 0) from by cases L <;> rfl]; simp only [decide_eq_true_eq]; split <;> (try split) <;> omega))
  exact ⟨[.agg (conL c (.slice v1a c.r.held.length v1c)).toArray,.slice (some ⟨g2,0,none⟩) 0 0],by kernel_rfl,fun w' hb hf ha => by rw [hmod]; exact xr_two ((v1a,v1c),((some ⟨g2,0,none⟩),0)) rfl rfl (ownF_ownF (hf (ownF w.heap.size (.slice v1a c.r.held.length v1c) 2 (c.r.held.map pceCells)) (by simp)) hB) (fun b hb => ownF_lo (hf (ownF w.heap.size (.slice v1a c.r.held.length v1c) 2 (c.r.held.map pceCells)) (by simp)) hb) (rowF_ownF (hf (rowF w.heap.size 51 13 (.slice (some ⟨g2,0,none⟩) 0 0) (([] : List Seg).map segCells)) (by simp)) hB) (fun b hb => rowF_lo (hf (rowF w.heap.size 51 13 (.slice (some ⟨g2,0,none⟩) 0 0) (([] : List Seg).map segCells)) (by simp)) (rowF_blk hb)) (Apart.sub2 ha (i := 1) (j := 0) rfl rfl (by decide) rfl (fun b h => h) (fun b h => rowF_blk h)) hb⟩
  have h5p := eqF h5
  refine xw_skip ?_
  refine xw_block ?_
  have hok : conOk c = true := by simp_all
  have hs8 : ¬ c.state = 8 := by simp_all
  have hs7 : ¬ c.state = 7 := by simp_all
  refine xw_loopW (α := {x : Snd × List Seg × Int × Option Addr × Nat // (fun (s : Snd) (L : List Seg) (t : Int) (A : Option Addr) (cap : Nat) => (pumpC c.s window (mssO c.o)).1 = (pumpC s window (mssO c.o)).1 ∧ (pumpC c.s window (mssO c.o)).2.map (segOf c) = L ++ (pumpC s window (mssO c.o)).2.map (segOf c) ∧ L.length + meas s ≤ 49 ∧ t = tmr c L) x.1 x.2.1 x.2.2.1 x.2.2.2.1 x.2.2.2.2}) (fun x => (fun (s : Snd) (L : List Seg) (t : Int) (A : Option Addr) (cap : Nat) => (⟨[(1,.v (.int .i64 window)),(2,.p 0 0),(4,.p 1 0),(6,.v (.slice A L.length cap))],[⟨42,conL { c with s := s,timer := t } (.slice v1a c.r.held.length v1c)⟩,⟨42,conZ⟩],[],[rowF w.heap.size 51 13 (.slice A L.length cap) (L.map segCells),ownF w.heap.size (.slice v1a c.r.held.length v1c) 2 (c.r.held.map pceCells),slF (.slice Acrh c.r.held.length Ccrh) 2 (c.r.held.map pceCells)]⟩ : St)) x.1.1 x.1.2.1 x.1.2.2.1 x.1.2.2.2.1 x.1.2.2.2.2) (fun x => (fun (s : Snd) (L : List Seg) (t : Int) (A : Option Addr) (cap : Nat) => meas s) x.1.1 x.1.2.1 x.1.2.2.1 x.1.2.2.2.1 x.1.2.2.2.2) ⟨(c.s,([] : List Seg),c.timer,(some ⟨g2,0,none⟩),0),⟨rfl,rfl,(by have := meas_le (conOk_s hok); simp only [List.length_nil]; omega),rfl⟩⟩ ((wk_pick [0,1,2] [rowF w.heap.size 51 13 (.slice (some ⟨g2,0,none⟩) 0 0) (([] : List Seg).map segCells),ownF w.heap.size (.slice v1a c.r.held.length v1c) 2 (c.r.held.map pceCells),slF (.slice Acrh c.r.held.length Ccrh) 2 (c.r.held.map pceCells)] (by kernel_rfl) (by kernel_rfl)).trans <| wk_forget 2 0 [1,2,4,6] (by kernel_rfl) (by kernel_rfl) (by kernel_rfl)) ?_
  rintro ⟨⟨s,L,t,A,cap⟩,HS,HL,HR,HT⟩
  refine xw_wk (Wk.of_eq (s' := ⟨[(1,.v (.int .i64 window)),(2,.p 0 0),(4,.p 1 0),(6,.v (.slice A L.length cap))],[⟨42,conL { c with s := s,timer := t } (.slice v1a c.r.held.length v1c)⟩,⟨42,conZ⟩],[],[rowF w.heap.size 51 13 (.slice A L.length cap) (L.map segCells),ownF w.heap.size (.slice v1a c.r.held.length v1c) 2 (c.r.held.map pceCells),slF (.slice Acrh c.r.held.length Ccrh) 2 (c.r.held.map pceCells)]⟩) rfl) ?_
  try dsimp only at HS HL HR HT
  refine xw_block ?_
  refine xw_seq ?_
  refine xw_join ⟨[(1,.v (.int .i64 window)),(2,.p 0 0),(4,.p 1 0),(6,.v (.slice A L.length cap)),(7,.p 2 0),(8,.v (.bool ((nextChunk s window (mssO c.o)).2)))],[⟨42,conL { c with s := s,timer := t } (.slice v1a c.r.held.length v1c)⟩,⟨42,conZ⟩,⟨116,chkL (nextChunk s window (mssO c.o)).1⟩],[],[rowF w.heap.size 51 13 (.slice A L.length cap) (L.map segCells),ownF w.heap.size (.slice v1a c.r.held.length v1c) 2 (c.r.held.map pceCells),slF (.slice Acrh c.r.held.length Ccrh) 2 (c.r.held.map pceCells)]⟩ ?_ ?_
  refine xe_region [] (by kernel_rfl) (fun ρ σ => ?_)
  refine xe_tkS [0,1,2,3] [32,31,30,1,2,4,6] 8 [(32,.v (.agg (conL { c with s := s,timer := t } (.slice v1a c.r.held.length v1c)).toArray)),(31,.v (.int .i64 window)),(30,.v (.agg (sndL s).toArray)),(1,.v (.int .i64 window)),(2,.p 0 0),(4,.p 1 0),(6,.v (.slice A L.length cap))] (fun _ _ h => h) rfl (by kernel_rfl) ?_
  refine xe_all [4,9] (by kernel_rfl) (by simp) ⟨?_,?_⟩
  refine xs_call 4 106 [.agg (conL { c with s := s,timer := t } (.slice v1a c.r.held.length v1c)).toArray] (some 33) rfl (by kernel_rfl) rfl (by kernel_rfl) (xc_b fun ww hf => ysMssFor_c ({ c with s := s,timer := t }) (.slice v1a c.r.held.length v1c) ww ) ?_
  intro _
  refine xe_all [5,9] (by kernel_rfl) (by simp) ⟨?_,?_⟩
  refine xs_call 5 105 [.agg (sndL s).toArray,.int .i64 window,.int .i64 (mssO c.o)] (some 34) rfl (by kernel_rfl) rfl (by kernel_rfl) (xc_b fun ww hf => ysNextChunk_c s window (mssO c.o) ww  (by omega)) ?_
  intro _
  refine xe_tkS [6,7,8] [36,35,1,2,4,6] 3 [(36,.v (.bool ((nextChunk s window (mssO c.o)).2))),(35,.v (.agg (chkL (nextChunk s window (mssO c.o)).1).toArray)),(1,.v (.int .i64 window)),(2,.p 0 0),(4,.p 1 0),(6,.v (.slice A L.length cap))] (fun _ _ h => h) rfl (by kernel_rfl) ?_
  refine xe_all [9] (by kernel_rfl) (by simp) ?_
  refine xs_box 9 ⟨116,chkL (⟨0,(⟨#[]⟩ : ByteArray),false⟩ : Chk)⟩ _ rfl (by kernel_rfl) (by kernel_rfl) (by kernel_rfl) (by kernel_rfl) rfl ?_
  refine xe_all [10] (by kernel_rfl) (by simp) ?_
  refine xs_store 10 2 0 [.int .i64 ((nextChunk s window (mssO c.o)).1.seq),.string ((nextChunk s window (mssO c.o)).1.text),.bool ((nextChunk s window (mssO c.o)).1.fin)] _ rfl (by kernel_rfl) (by kernel_rfl) (by kernel_rfl) (by kernel_rfl) (by first | exact .inr rfl | exact .inl rfl) (by kernel_rfl) rfl ?_
  refine xe_tkS [11] [8,7,1,2,4,6] 0 [(8,.v (.bool ((nextChunk s window (mssO c.o)).2))),(7,.p 2 0),(1,.v (.int .i64 window)),(2,.p 0 0),(4,.p 1 0),(6,.v (.slice A L.length cap))] (fun _ _ h => h) rfl (by kernel_rfl) ?_
  refine xe_done (by kernel_rfl) ?_
  exact wk_forget 3 0 [1,2,4,6,7,8] (by kernel_rfl) (by kernel_rfl) (by kernel_rfl)
  refine xs_box 9 ⟨116,chkL (⟨0,(⟨#[]⟩ : ByteArray),false⟩ : Chk)⟩ _ rfl (by kernel_rfl) (by kernel_rfl) (by kernel_rfl) (by kernel_rfl) rfl ?_
  refine xe_all [5] (by kernel_rfl) (by simp) ?_
  refine xs_call 5 105 [.agg (sndL s).toArray,.int .i64 window,.int .i64 (mssO c.o)] (some 34) rfl (by kernel_rfl) rfl (by kernel_rfl) (xc_b fun ww hf => ysNextChunk_c s window (mssO c.o) ww  (by omega)) ?_
  intro _
  refine xe_tkS [6,7,8] [36,35,7,1,2,4,6] 2 [(36,.v (.bool ((nextChunk s window (mssO c.o)).2))),(35,.v (.agg (chkL (nextChunk s window (mssO c.o)).1).toArray)),(7,.p 2 0),(1,.v (.int .i64 window)),(2,.p 0 0),(4,.p 1 0),(6,.v (.slice A L.length cap))] (fun _ _ h => h) rfl (by kernel_rfl) ?_
  refine xe_all [10] (by kernel_rfl) (by simp) ?_
  refine xs_store 10 2 0 [.int .i64 ((nextChunk s window (mssO c.o)).1.seq),.string ((nextChunk s window (mssO c.o)).1.text),.bool ((nextChunk s window (mssO c.o)).1.fin)] _ rfl (by kernel_rfl) (by kernel_rfl) (by kernel_rfl) (by kernel_rfl) (by first | exact .inr rfl | exact .inl rfl) (by kernel_rfl) rfl ?_
  refine xe_tkS [11] [8,7,1,2,4,6] 0 [(8,.v (.bool ((nextChunk s window (mssO c.o)).2))),(7,.p 2 0),(1,.v (.int .i64 window)),(2,.p 0 0),(4,.p 1 0),(6,.v (.slice A L.length cap))] (fun _ _ h => h) rfl (by kernel_rfl) ?_
  refine xe_done (by kernel_rfl) ?_
  exact wk_forget 3 0 [1,2,4,6,7,8] (by kernel_rfl) (by kernel_rfl) (by kernel_rfl)
  refine xs_box 9 ⟨116,chkL (⟨0,(⟨#[]⟩ : ByteArray),false⟩ : Chk)⟩ _ rfl (by kernel_rfl) (by kernel_rfl) (by kernel_rfl) (by kernel_rfl) rfl ?_
  refine xe_all [4] (by kernel_rfl) (by simp) ?_
  refine xs_call 4 106 [.agg (conL { c with s := s,timer := t } (.slice v1a c.r.held.length v1c)).toArray] (some 33) rfl (by kernel_rfl) rfl (by kernel_rfl) (xc_b fun ww hf => ysMssFor_c ({ c with s := s,timer := t }) (.slice v1a c.r.held.length v1c) ww ) ?_
  intro _
  refine xe_all [5] (by kernel_rfl) (by simp) ?_
  refine xs_call 5 105 [.agg (sndL s).toArray,.int .i64 window,.int .i64 (mssO c.o)] (some 34) rfl (by kernel_rfl) rfl (by kernel_rfl) (xc_b fun ww hf => ysNextChunk_c s window (mssO c.o) ww  (by omega)) ?_
  intro _
  refine xe_tkS [6,7,8] [36,35,7,1,2,4,6] 2 [(36,.v (.bool ((nextChunk s window (mssO c.o)).2))),(35,.v (.agg (chkL (nextChunk s window (mssO c.o)).1).toArray)),(7,.p 2 0),(1,.v (.int .i64 window)),(2,.p 0 0),(4,.p 1 0),(6,.v (.slice A L.length cap))] (fun _ _ h => h) rfl (by kernel_rfl) ?_
  refine xe_all [10] (by kernel_rfl) (by simp) ?_
  refine xs_store 10 2 0 [.int .i64 ((nextChunk s window (mssO c.o)).1.seq),.string ((nextChunk s window (mssO c.o)).1.text),.bool ((nextChunk s window (mssO c.o)).1.fin)] _ rfl (by kernel_rfl) (by kernel_rfl) (by kernel_rfl) (by kernel_rfl) (by first | exact .inr rfl | exact .inl rfl) (by kernel_rfl) rfl ?_
  refine xe_tkS [11] [8,7,1,2,4,6] 0 [(8,.v (.bool ((nextChunk s window (mssO c.o)).2))),(7,.p 2 0),(1,.v (.int .i64 window)),(2,.p 0 0),(4,.p 1 0),(6,.v (.slice A L.length cap))] (fun _ _ h => h) rfl (by kernel_rfl) ?_
  refine xe_done (by kernel_rfl) ?_
  exact wk_forget 3 0 [1,2,4,6,7,8] (by kernel_rfl) (by kernel_rfl) (by kernel_rfl)
  refine xw_seq ?_
  refine xw_seq ?_
  refine xw_region ?_
  refine xl_endS [1,2,4,6,7,38] [(1,.v (.int .i64 window)),(2,.p 0 0),(4,.p 1 0),(6,.v (.slice A L.length cap)),(7,.p 2 0),(38,.v (.bool (!((nextChunk s window (mssO c.o)).2))))] (by kernel_rfl) ?_
  refine xw_cond (b := !((nextChunk s window (mssO c.o)).2)) (by kernel_rfl) (fun h6 => ?_) (fun h6 => ?_)
  have hno := not_t h6
  have hS := pumpS_end hno HS
  have hL := pumpL_end hno HL
  refine xw_seq ?_
  refine xw_region ?_
  refine xl_end [4,5] ⟨[(4,.p 1 0),(5,.v (.slice A L.length cap))],[⟨42,conL { c with s := s,timer := t } (.slice v1a c.r.held.length v1c)⟩,⟨42,conL { c with s := s,timer := t } (.slice v1a c.r.held.length v1c)⟩,⟨116,chkL (nextChunk s window (mssO c.o)).1⟩],[],[rowF w.heap.size 51 13 (.slice A L.length cap) (L.map segCells),ownF w.heap.size (.slice v1a c.r.held.length v1c) 2 (c.r.held.map pceCells),slF (.slice Acrh c.r.held.length Ccrh) 2 (c.r.held.map pceCells)]⟩ (by kernel_rfl) ?_
  refine xw_ret ?_
  have hmod : pump c window = (({ c with s := s,timer := t }),L) := by first | (simp [pump, *]; done) | exact pump_yes hok hs8 hs7 hS hL (by first | exact HT.symm | (unfold tmr; rw [show L.isEmpty = decide (L.length = 0) from by cases L <;> rfl]; simp only [decide_eq_true_eq]; split <;> (try split) <;> omega))
  exact ⟨[.agg (conL { c with s := s,timer := t } (.slice v1a c.r.held.length v1c)).toArray,.slice A L.length cap],by kernel_rfl,fun w' hb hf ha => by rw [hmod]; exact xr_two ((v1a,v1c),(A,cap)) rfl rfl (ownF_ownF (hf (ownF w.heap.size (.slice v1a c.r.held.length v1c) 2 (c.r.held.map pceCells)) (by simp)) hB) (fun b hb => ownF_lo (hf (ownF w.heap.size (.slice v1a c.r.held.length v1c) 2 (c.r.held.map pceCells)) (by simp)) hb) (rowF_ownF (hf (rowF w.heap.size 51 13 (.slice A L.length cap) (L.map segCells)) (by simp)) hB) (fun b hb => rowF_lo (hf (rowF w.heap.size 51 13 (.slice A L.length cap) (L.map segCells)) (by simp)) (rowF_blk hb)) (Apart.sub2 ha (i := 1) (j := 0) rfl rfl (by decide) rfl (fun b h => h) (fun b h => rowF_blk h)) hb⟩
  have hyes := not_f h6
  refine xw_skip ?_
  refine xw_seq ?_
  refine xw_region ?_
  refine xl_callS 1 [1,2,4,6,7,41] [(1,.v (.int .i64 window)),(2,.p 0 0),(4,.p 1 0),(6,.v (.slice A L.length cap)),(7,.p 2 0),(41,.v (.agg (conL { c with s := s,timer := t } (.slice v1a c.r.held.length v1c)).toArray))] 100 [.agg (conL { c with s := s,timer := t } (.slice v1a c.r.held.length v1c)).toArray] (some 42) (by kernel_rfl) rfl (by kernel_rfl) rfl (by kernel_rfl) (xc_b fun ww hf => sAckOf_c c.t.ip c.t.port c.t.my c.state s.una s.data s.sent s.fin s.finSent s.done c.r.next c.r.data c.r.held (.slice v1a c.r.held.length v1c) c.r.fin c.r.done c.window c.most c.o.mss c.o.scale c.o.sack c.o.stamp c.o.val c.o.echo t c.tries ww (by omega)) ?_
  intro _
  refine xl_end [1,2,4,6,7,9] ⟨[(1,.v (.int .i64 window)),(2,.p 0 0),(4,.p 1 0),(6,.v (.slice A L.length cap)),(7,.p 2 0),(9,.p 3 0)],[⟨42,conL { c with s := s,timer := t } (.slice v1a c.r.held.length v1c)⟩,⟨42,conZ⟩,⟨116,chkL (nextChunk s window (mssO c.o)).1⟩,⟨51,[.int .i64 c.t.my,.int .i64 c.t.port,.int .i64 (nextOf s),.int .i64 c.r.next,.int .i64 16,.int .i64 (windowOf c.r),.int .i64 0,.int .i64 (-1),.bool false,.bool false,.int .i64 0,.int .i64 0,.string (⟨#[]⟩ : ByteArray)]⟩],[],[rowF w.heap.size 51 13 (.slice A L.length cap) (L.map segCells),ownF w.heap.size (.slice v1a c.r.held.length v1c) 2 (c.r.held.map pceCells),slF (.slice Acrh c.r.held.length Ccrh) 2 (c.r.held.map pceCells)]⟩ (by kernel_rfl) ?_
  refine xw_seq ?_
  refine xw_region ?_
  refine xl_end [1,2,4,6,7,9] ⟨[(1,.v (.int .i64 window)),(2,.p 0 0),(4,.p 1 0),(6,.v (.slice A L.length cap)),(7,.p 2 0),(9,.p 3 0)],[⟨42,conL { c with s := s,timer := t } (.slice v1a c.r.held.length v1c)⟩,⟨42,conZ⟩,⟨116,chkL (nextChunk s window (mssO c.o)).1⟩,⟨51,[.int .i64 c.t.my,.int .i64 c.t.port,.int .i64 ((nextChunk s window (mssO c.o)).1.seq),.int .i64 c.r.next,.int .i64 16,.int .i64 (windowOf c.r),.int .i64 0,.int .i64 (-1),.bool false,.bool false,.int .i64 0,.int .i64 0,.string (⟨#[]⟩ : ByteArray)]⟩],[],[rowF w.heap.size 51 13 (.slice A L.length cap) (L.map segCells),ownF w.heap.size (.slice v1a c.r.held.length v1c) 2 (c.r.held.map pceCells),slF (.slice Acrh c.r.held.length Ccrh) 2 (c.r.held.map pceCells)]⟩ (by kernel_rfl) ?_
  refine xw_seq ?_
  refine xw_region ?_
  refine xl_end [1,2,4,6,7,9] ⟨[(1,.v (.int .i64 window)),(2,.p 0 0),(4,.p 1 0),(6,.v (.slice A L.length cap)),(7,.p 2 0),(9,.p 3 0)],[⟨42,conL { c with s := s,timer := t } (.slice v1a c.r.held.length v1c)⟩,⟨42,conZ⟩,⟨116,chkL (nextChunk s window (mssO c.o)).1⟩,⟨51,[.int .i64 c.t.my,.int .i64 c.t.port,.int .i64 ((nextChunk s window (mssO c.o)).1.seq),.int .i64 c.r.next,.int .i64 16,.int .i64 (windowOf c.r),.int .i64 0,.int .i64 (-1),.bool false,.bool false,.int .i64 0,.int .i64 0,.string ((nextChunk s window (mssO c.o)).1.text)]⟩],[],[rowF w.heap.size 51 13 (.slice A L.length cap) (L.map segCells),ownF w.heap.size (.slice v1a c.r.held.length v1c) 2 (c.r.held.map pceCells),slF (.slice Acrh c.r.held.length Ccrh) 2 (c.r.held.map pceCells)]⟩ (by kernel_rfl) ?_
  refine xw_seq ?_
  refine xw_seq ?_
  refine xw_region ?_
  refine xl_endS [1,2,4,6,7,9,51] [(1,.v (.int .i64 window)),(2,.p 0 0),(4,.p 1 0),(6,.v (.slice A L.length cap)),(7,.p 2 0),(9,.p 3 0),(51,.v (.bool (!(((nextChunk s window (mssO c.o)).1.text).toList == (⟨#[]⟩ : ByteArray).toList))))] (by kernel_rfl) ?_
  refine xw_cond (b := !(((nextChunk s window (mssO c.o)).1.text).toList == (⟨#[]⟩ : ByteArray).toList)) (by kernel_rfl) (fun h7 => ?_) (fun h7 => ?_)
  have hT : (nextChunk s window (mssO c.o)).1.text.toList.isEmpty = false := by simpa [toList_lit0] using h7
  refine xw_region ?_
  refine xl_end [1,2,4,6,7,9] ⟨[(1,.v (.int .i64 window)),(2,.p 0 0),(4,.p 1 0),(6,.v (.slice A L.length cap)),(7,.p 2 0),(9,.p 3 0)],[⟨42,conL { c with s := s,timer := t } (.slice v1a c.r.held.length v1c)⟩,⟨42,conZ⟩,⟨116,chkL (nextChunk s window (mssO c.o)).1⟩,⟨51,[.int .i64 c.t.my,.int .i64 c.t.port,.int .i64 ((nextChunk s window (mssO c.o)).1.seq),.int .i64 c.r.next,.int .i64 24,.int .i64 (windowOf c.r),.int .i64 0,.int .i64 (-1),.bool false,.bool false,.int .i64 0,.int .i64 0,.string ((nextChunk s window (mssO c.o)).1.text)]⟩],[],[rowF w.heap.size 51 13 (.slice A L.length cap) (L.map segCells),ownF w.heap.size (.slice v1a c.r.held.length v1c) 2 (c.r.held.map pceCells),slF (.slice Acrh c.r.held.length Ccrh) 2 (c.r.held.map pceCells)]⟩ (by kernel_rfl) ?_
  refine xw_seq ?_
  refine xw_seq ?_
  refine xw_region ?_
  refine xl_endS [1,2,4,6,7,9,57] [(1,.v (.int .i64 window)),(2,.p 0 0),(4,.p 1 0),(6,.v (.slice A L.length cap)),(7,.p 2 0),(9,.p 3 0),(57,.v (.bool ((nextChunk s window (mssO c.o)).1.fin)))] (by kernel_rfl) ?_
  refine xw_cond (b := (nextChunk s window (mssO c.o)).1.fin) (by kernel_rfl) (fun h8 => ?_) (fun h8 => ?_)
  have hF := h8
  refine xw_region ?_
  refine xl_end [1,2,4,6,7,9] ⟨[(1,.v (.int .i64 window)),(2,.p 0 0),(4,.p 1 0),(6,.v (.slice A L.length cap)),(7,.p 2 0),(9,.p 3 0)],[⟨42,conL { c with s := s,timer := t } (.slice v1a c.r.held.length v1c)⟩,⟨42,conZ⟩,⟨116,chkL (nextChunk s window (mssO c.o)).1⟩,⟨51,[.int .i64 c.t.my,.int .i64 c.t.port,.int .i64 ((nextChunk s window (mssO c.o)).1.seq),.int .i64 c.r.next,.int .i64 25,.int .i64 (windowOf c.r),.int .i64 0,.int .i64 (-1),.bool false,.bool false,.int .i64 0,.int .i64 0,.string ((nextChunk s window (mssO c.o)).1.text)]⟩],[],[rowF w.heap.size 51 13 (.slice A L.length cap) (L.map segCells),ownF w.heap.size (.slice v1a c.r.held.length v1c) 2 (c.r.held.map pceCells),slF (.slice Acrh c.r.held.length Ccrh) 2 (c.r.held.map pceCells)]⟩ (by kernel_rfl) ?_
  refine xw_seq ?_
  refine xw_region ?_
  refine xl_hvS 2 [1,2,4,6,7,62,63] [(1,.v (.int .i64 window)),(2,.p 0 0),(4,.p 1 0),(6,.v (.slice A L.length cap)),(7,.p 2 0),(62,.v (.slice A L.length cap)),(63,.v (.agg #[.int .i64 c.t.my,.int .i64 c.t.port,.int .i64 ((nextChunk s window (mssO c.o)).1.seq),.int .i64 c.r.next,.int .i64 25,.int .i64 (windowOf c.r),.int .i64 0,.int .i64 (-1),.bool false,.bool false,.int .i64 0,.int .i64 0,.string ((nextChunk s window (mssO c.o)).1.text)]))] (by kernel_rfl) rfl (by kernel_rfl) rfl (by kernel_rfl) (hv_build (e := 51) (K := 13) (bytes := 104) [.agg #[.int .i64 c.t.my,.int .i64 c.t.port,.int .i64 ((nextChunk s window (mssO c.o)).1.seq),.int .i64 c.r.next,.int .i64 25,.int .i64 (windowOf c.r),.int .i64 0,.int .i64 (-1),.bool false,.bool false,.int .i64 0,.int .i64 0,.string ((nextChunk s window (mssO c.o)).1.text)]] rfl (by kernel_rfl) (by kernel_rfl) (by kernel_rfl) (by kernel_rfl) (by kernel_rfl) (rs := ([⟨c.t.my,c.t.port,(nextChunk s window (mssO c.o)).1.seq,c.r.next,25,windowOf c.r,⟨0,(-1),false,false,0,0⟩,(nextChunk s window (mssO c.o)).1.text⟩] : List Seg).map segCells) rfl) ?_
  intro g9
  refine xl_hvS 0 [1,2,4,6,7,62,64] [(1,.v (.int .i64 window)),(2,.p 0 0),(4,.p 1 0),(6,.v (.slice A L.length cap)),(7,.p 2 0),(62,.v (.slice A L.length cap)),(64,.v (.slice (some ⟨g9,0,none⟩) 1 1))] (by kernel_rfl) rfl (by kernel_rfl) rfl (by kernel_rfl) (hv_append (e := 51) (K := 13) (bytes := 104) (i := 1) (q := (L ++ ([⟨c.t.my,c.t.port,(nextChunk s window (mssO c.o)).1.seq,c.r.next,25,windowOf c.r,⟨0,(-1),false,false,0,0⟩,(nextChunk s window (mssO c.o)).1.text⟩] : List Seg)).length) (new := ([⟨c.t.my,c.t.port,(nextChunk s window (mssO c.o)).1.seq,c.r.next,25,windowOf c.r,⟨0,(-1),false,false,0,0⟩,(nextChunk s window (mssO c.o)).1.text⟩] : List Seg).map segCells) (rs' := (L ++ ([⟨c.t.my,c.t.port,(nextChunk s window (mssO c.o)).1.seq,c.r.next,25,windowOf c.r,⟨0,(-1),false,false,0,0⟩,(nextChunk s window (mssO c.o)).1.text⟩] : List Seg)).map segCells) rfl rfl rfl rfl (by kernel_rfl) (by kernel_rfl) (by kernel_rfl) rfl (by simp) (by rw [List.map_append]) (by simp) (fun ww hf => rowF_sl (hf (rowF w.heap.size 51 13 (.slice (some ⟨g9,0,none⟩) 1 1) (([⟨c.t.my,c.t.port,(nextChunk s window (mssO c.o)).1.seq,c.r.next,25,windowOf c.r,⟨0,(-1),false,false,0,0⟩,(nextChunk s window (mssO c.o)).1.text⟩] : List Seg).map segCells)) (by simp))) (by intro r hr; obtain ⟨x,hx,rfl⟩ := List.mem_map.1 hr; exact ⟨rfl,by simp [segCells,Value.oneCell']⟩) (by simp only [List.length_map,List.length_append,List.length_cons,List.length_nil,maxLen]; omega) (by simp only [List.length_map,List.length_append,List.length_cons,List.length_nil,maxLen]; omega)) ?_
  rintro ⟨v10a,v10c⟩
  refine xl_endS [1,2,4,6,7] [(1,.v (.int .i64 window)),(2,.p 0 0),(4,.p 1 0),(6,.v (.slice v10a ((L ++ ([⟨c.t.my,c.t.port,(nextChunk s window (mssO c.o)).1.seq,c.r.next,25,windowOf c.r,⟨0,(-1),false,false,0,0⟩,(nextChunk s window (mssO c.o)).1.text⟩] : List Seg)).length) v10c)),(7,.p 2 0)] (by kernel_rfl) ?_
  refine xw_seq ?_
  refine xw_region ?_
  refine xl_callS 3 [1,2,4,6,67,68] [(1,.v (.int .i64 window)),(2,.p 0 0),(4,.p 1 0),(6,.v (.slice v10a ((L ++ ([⟨c.t.my,c.t.port,(nextChunk s window (mssO c.o)).1.seq,c.r.next,25,windowOf c.r,⟨0,(-1),false,false,0,0⟩,(nextChunk s window (mssO c.o)).1.text⟩] : List Seg)).length) v10c)),(67,.v (.agg (sndL s).toArray)),(68,.v (.agg (chkL (nextChunk s window (mssO c.o)).1).toArray))] 107 [.agg (sndL s).toArray,.agg (chkL (nextChunk s window (mssO c.o)).1).toArray] (some 69) (by kernel_rfl) rfl (by kernel_rfl) rfl (by kernel_rfl) (xc_b fun ww hf => ysSentOff_c s ((nextChunk s window (mssO c.o)).1) ww  ) ?_
  intro _
  refine xl_end [1,2,4,6] ⟨[(1,.v (.int .i64 window)),(2,.p 0 0),(4,.p 1 0),(6,.v (.slice v10a ((L ++ ([⟨c.t.my,c.t.port,(nextChunk s window (mssO c.o)).1.seq,c.r.next,25,windowOf c.r,⟨0,(-1),false,false,0,0⟩,(nextChunk s window (mssO c.o)).1.text⟩] : List Seg)).length) v10c))],[⟨42,conL { c with s := (sentOff s ((nextChunk s window (mssO c.o)).1)),timer := t } (.slice v1a c.r.held.length v1c)⟩,⟨42,conZ⟩,⟨116,chkL (nextChunk s window (mssO c.o)).1⟩,⟨51,[.int .i64 c.t.my,.int .i64 c.t.port,.int .i64 ((nextChunk s window (mssO c.o)).1.seq),.int .i64 c.r.next,.int .i64 25,.int .i64 (windowOf c.r),.int .i64 0,.int .i64 (-1),.bool false,.bool false,.int .i64 0,.int .i64 0,.string ((nextChunk s window (mssO c.o)).1.text)]⟩],[],[rowF w.heap.size 51 13 (.slice v10a ((L ++ ([⟨c.t.my,c.t.port,(nextChunk s window (mssO c.o)).1.seq,c.r.next,25,windowOf c.r,⟨0,(-1),false,false,0,0⟩,(nextChunk s window (mssO c.o)).1.text⟩] : List Seg)).length) v10c) ((L ++ ([⟨c.t.my,c.t.port,(nextChunk s window (mssO c.o)).1.seq,c.r.next,25,windowOf c.r,⟨0,(-1),false,false,0,0⟩,(nextChunk s window (mssO c.o)).1.text⟩] : List Seg)).map segCells),rowF w.heap.size 51 13 (.slice (some ⟨g9,0,none⟩) 1 1) (([⟨c.t.my,c.t.port,(nextChunk s window (mssO c.o)).1.seq,c.r.next,25,windowOf c.r,⟨0,(-1),false,false,0,0⟩,(nextChunk s window (mssO c.o)).1.text⟩] : List Seg).map segCells),ownF w.heap.size (.slice v1a c.r.held.length v1c) 2 (c.r.held.map pceCells),slF (.slice Acrh c.r.held.length Ccrh) 2 (c.r.held.map pceCells)]⟩ (by kernel_rfl) ?_
  refine xw_seq ?_
  refine xw_region ?_
  refine xl_endS [1,2,4,6,73] [(1,.v (.int .i64 window)),(2,.p 0 0),(4,.p 1 0),(6,.v (.slice v10a ((L ++ ([⟨c.t.my,c.t.port,(nextChunk s window (mssO c.o)).1.seq,c.r.next,25,windowOf c.r,⟨0,(-1),false,false,0,0⟩,(nextChunk s window (mssO c.o)).1.text⟩] : List Seg)).length) v10c)),(73,.v (.bool (t == 0)))] (by kernel_rfl) ?_
  refine xw_cond (b := t == 0) (by kernel_rfl) (fun h11 => ?_) (fun h11 => ?_)
  have h11p := eqT h11
  refine xw_region ?_
  refine xl_end [1,2,4,6] ⟨[(1,.v (.int .i64 window)),(2,.p 0 0),(4,.p 1 0),(6,.v (.slice v10a ((L ++ ([⟨c.t.my,c.t.port,(nextChunk s window (mssO c.o)).1.seq,c.r.next,25,windowOf c.r,⟨0,(-1),false,false,0,0⟩,(nextChunk s window (mssO c.o)).1.text⟩] : List Seg)).length) v10c))],[⟨42,conL { c with s := (sentOff s ((nextChunk s window (mssO c.o)).1)),timer := 3 } (.slice v1a c.r.held.length v1c)⟩,⟨42,conZ⟩,⟨116,chkL (nextChunk s window (mssO c.o)).1⟩,⟨51,[.int .i64 c.t.my,.int .i64 c.t.port,.int .i64 ((nextChunk s window (mssO c.o)).1.seq),.int .i64 c.r.next,.int .i64 25,.int .i64 (windowOf c.r),.int .i64 0,.int .i64 (-1),.bool false,.bool false,.int .i64 0,.int .i64 0,.string ((nextChunk s window (mssO c.o)).1.text)]⟩],[],[rowF w.heap.size 51 13 (.slice v10a ((L ++ ([⟨c.t.my,c.t.port,(nextChunk s window (mssO c.o)).1.seq,c.r.next,25,windowOf c.r,⟨0,(-1),false,false,0,0⟩,(nextChunk s window (mssO c.o)).1.text⟩] : List Seg)).length) v10c) ((L ++ ([⟨c.t.my,c.t.port,(nextChunk s window (mssO c.o)).1.seq,c.r.next,25,windowOf c.r,⟨0,(-1),false,false,0,0⟩,(nextChunk s window (mssO c.o)).1.text⟩] : List Seg)).map segCells),rowF w.heap.size 51 13 (.slice (some ⟨g9,0,none⟩) 1 1) (([⟨c.t.my,c.t.port,(nextChunk s window (mssO c.o)).1.seq,c.r.next,25,windowOf c.r,⟨0,(-1),false,false,0,0⟩,(nextChunk s window (mssO c.o)).1.text⟩] : List Seg).map segCells),ownF w.heap.size (.slice v1a c.r.held.length v1c) 2 (c.r.held.map pceCells),slF (.slice Acrh c.r.held.length Ccrh) 2 (c.r.held.map pceCells)]⟩ (by kernel_rfl) ?_
  have hrow : segOf c (nextChunk s window (mssO c.o)).1 = ⟨c.t.my,c.t.port,(nextChunk s window (mssO c.o)).1.seq,c.r.next,25,windowOf c.r,⟨0,(-1),false,false,0,0⟩,(nextChunk s window (mssO c.o)).1.text⟩ := by simp [segOf,hT,hF]
  exact ⟨⟨(sentOff s (nextChunk s window (mssO c.o)).1,(L ++ ([⟨c.t.my,c.t.port,(nextChunk s window (mssO c.o)).1.seq,c.r.next,25,windowOf c.r,⟨0,(-1),false,false,0,0⟩,(nextChunk s window (mssO c.o)).1.text⟩] : List Seg)),3,v10a,v10c),⟨pumpS_step hyes HS,pumpL_step hyes hrow HL,row_len HR (meas_next hyes),tmr_next HT (by (try dsimp only); split <;> omega)⟩⟩,(wk_pick [0,2,3] [rowF w.heap.size 51 13 (.slice v10a ((L ++ ([⟨c.t.my,c.t.port,(nextChunk s window (mssO c.o)).1.seq,c.r.next,25,windowOf c.r,⟨0,(-1),false,false,0,0⟩,(nextChunk s window (mssO c.o)).1.text⟩] : List Seg)).length) v10c) ((L ++ ([⟨c.t.my,c.t.port,(nextChunk s window (mssO c.o)).1.seq,c.r.next,25,windowOf c.r,⟨0,(-1),false,false,0,0⟩,(nextChunk s window (mssO c.o)).1.text⟩] : List Seg)).map segCells),ownF w.heap.size (.slice v1a c.r.held.length v1c) 2 (c.r.held.map pceCells),slF (.slice Acrh c.r.held.length Ccrh) 2 (c.r.held.map pceCells)] (by kernel_rfl) (by kernel_rfl)).trans <| wk_forget 2 0 [1,2,4,6] (by kernel_rfl) (by kernel_rfl) (by kernel_rfl),by show (fun (s : Snd) (L : List Seg) (t : Int) (A : Option Addr) (cap : Nat) => meas s) (sentOff s (nextChunk s window (mssO c.o)).1) (L ++ ([⟨c.t.my,c.t.port,(nextChunk s window (mssO c.o)).1.seq,c.r.next,25,windowOf c.r,⟨0,(-1),false,false,0,0⟩,(nextChunk s window (mssO c.o)).1.text⟩] : List Seg)) 3 v10a v10c < meas s; exact meas_next hyes⟩
  have h11p := eqF h11
  refine xw_skip ?_
  have hrow : segOf c (nextChunk s window (mssO c.o)).1 = ⟨c.t.my,c.t.port,(nextChunk s window (mssO c.o)).1.seq,c.r.next,25,windowOf c.r,⟨0,(-1),false,false,0,0⟩,(nextChunk s window (mssO c.o)).1.text⟩ := by simp [segOf,hT,hF]
  exact ⟨⟨(sentOff s (nextChunk s window (mssO c.o)).1,(L ++ ([⟨c.t.my,c.t.port,(nextChunk s window (mssO c.o)).1.seq,c.r.next,25,windowOf c.r,⟨0,(-1),false,false,0,0⟩,(nextChunk s window (mssO c.o)).1.text⟩] : List Seg)),t,v10a,v10c),⟨pumpS_step hyes HS,pumpL_step hyes hrow HL,row_len HR (meas_next hyes),tmr_next HT (by (try dsimp only); split <;> omega)⟩⟩,(wk_pick [0,2,3] [rowF w.heap.size 51 13 (.slice v10a ((L ++ ([⟨c.t.my,c.t.port,(nextChunk s window (mssO c.o)).1.seq,c.r.next,25,windowOf c.r,⟨0,(-1),false,false,0,0⟩,(nextChunk s window (mssO c.o)).1.text⟩] : List Seg)).length) v10c) ((L ++ ([⟨c.t.my,c.t.port,(nextChunk s window (mssO c.o)).1.seq,c.r.next,25,windowOf c.r,⟨0,(-1),false,false,0,0⟩,(nextChunk s window (mssO c.o)).1.text⟩] : List Seg)).map segCells),ownF w.heap.size (.slice v1a c.r.held.length v1c) 2 (c.r.held.map pceCells),slF (.slice Acrh c.r.held.length Ccrh) 2 (c.r.held.map pceCells)] (by kernel_rfl) (by kernel_rfl)).trans <| wk_forget 2 0 [1,2,4,6] (by kernel_rfl) (by kernel_rfl) (by kernel_rfl),by show (fun (s : Snd) (L : List Seg) (t : Int) (A : Option Addr) (cap : Nat) => meas s) (sentOff s (nextChunk s window (mssO c.o)).1) (L ++ ([⟨c.t.my,c.t.port,(nextChunk s window (mssO c.o)).1.seq,c.r.next,25,windowOf c.r,⟨0,(-1),false,false,0,0⟩,(nextChunk s window (mssO c.o)).1.text⟩] : List Seg)) t v10a v10c < meas s; exact meas_next hyes⟩
  have hF := h8
  refine xw_skip ?_
  refine xw_seq ?_
  refine xw_region ?_
  refine xl_hvS 2 [1,2,4,6,7,62,63] [(1,.v (.int .i64 window)),(2,.p 0 0),(4,.p 1 0),(6,.v (.slice A L.length cap)),(7,.p 2 0),(62,.v (.slice A L.length cap)),(63,.v (.agg #[.int .i64 c.t.my,.int .i64 c.t.port,.int .i64 ((nextChunk s window (mssO c.o)).1.seq),.int .i64 c.r.next,.int .i64 24,.int .i64 (windowOf c.r),.int .i64 0,.int .i64 (-1),.bool false,.bool false,.int .i64 0,.int .i64 0,.string ((nextChunk s window (mssO c.o)).1.text)]))] (by kernel_rfl) rfl (by kernel_rfl) rfl (by kernel_rfl) (hv_build (e := 51) (K := 13) (bytes := 104) [.agg #[.int .i64 c.t.my,.int .i64 c.t.port,.int .i64 ((nextChunk s window (mssO c.o)).1.seq),.int .i64 c.r.next,.int .i64 24,.int .i64 (windowOf c.r),.int .i64 0,.int .i64 (-1),.bool false,.bool false,.int .i64 0,.int .i64 0,.string ((nextChunk s window (mssO c.o)).1.text)]] rfl (by kernel_rfl) (by kernel_rfl) (by kernel_rfl) (by kernel_rfl) (by kernel_rfl) (rs := ([⟨c.t.my,c.t.port,(nextChunk s window (mssO c.o)).1.seq,c.r.next,24,windowOf c.r,⟨0,(-1),false,false,0,0⟩,(nextChunk s window (mssO c.o)).1.text⟩] : List Seg).map segCells) rfl) ?_
  intro g12
  refine xl_hvS 0 [1,2,4,6,7,62,64] [(1,.v (.int .i64 window)),(2,.p 0 0),(4,.p 1 0),(6,.v (.slice A L.length cap)),(7,.p 2 0),(62,.v (.slice A L.length cap)),(64,.v (.slice (some ⟨g12,0,none⟩) 1 1))] (by kernel_rfl) rfl (by kernel_rfl) rfl (by kernel_rfl) (hv_append (e := 51) (K := 13) (bytes := 104) (i := 1) (q := (L ++ ([⟨c.t.my,c.t.port,(nextChunk s window (mssO c.o)).1.seq,c.r.next,24,windowOf c.r,⟨0,(-1),false,false,0,0⟩,(nextChunk s window (mssO c.o)).1.text⟩] : List Seg)).length) (new := ([⟨c.t.my,c.t.port,(nextChunk s window (mssO c.o)).1.seq,c.r.next,24,windowOf c.r,⟨0,(-1),false,false,0,0⟩,(nextChunk s window (mssO c.o)).1.text⟩] : List Seg).map segCells) (rs' := (L ++ ([⟨c.t.my,c.t.port,(nextChunk s window (mssO c.o)).1.seq,c.r.next,24,windowOf c.r,⟨0,(-1),false,false,0,0⟩,(nextChunk s window (mssO c.o)).1.text⟩] : List Seg)).map segCells) rfl rfl rfl rfl (by kernel_rfl) (by kernel_rfl) (by kernel_rfl) rfl (by simp) (by rw [List.map_append]) (by simp) (fun ww hf => rowF_sl (hf (rowF w.heap.size 51 13 (.slice (some ⟨g12,0,none⟩) 1 1) (([⟨c.t.my,c.t.port,(nextChunk s window (mssO c.o)).1.seq,c.r.next,24,windowOf c.r,⟨0,(-1),false,false,0,0⟩,(nextChunk s window (mssO c.o)).1.text⟩] : List Seg).map segCells)) (by simp))) (by intro r hr; obtain ⟨x,hx,rfl⟩ := List.mem_map.1 hr; exact ⟨rfl,by simp [segCells,Value.oneCell']⟩) (by simp only [List.length_map,List.length_append,List.length_cons,List.length_nil,maxLen]; omega) (by simp only [List.length_map,List.length_append,List.length_cons,List.length_nil,maxLen]; omega)) ?_
  rintro ⟨v13a,v13c⟩
  refine xl_endS [1,2,4,6,7] [(1,.v (.int .i64 window)),(2,.p 0 0),(4,.p 1 0),(6,.v (.slice v13a ((L ++ ([⟨c.t.my,c.t.port,(nextChunk s window (mssO c.o)).1.seq,c.r.next,24,windowOf c.r,⟨0,(-1),false,false,0,0⟩,(nextChunk s window (mssO c.o)).1.text⟩] : List Seg)).length) v13c)),(7,.p 2 0)] (by kernel_rfl) ?_
  refine xw_seq ?_
  refine xw_region ?_
  refine xl_callS 3 [1,2,4,6,67,68] [(1,.v (.int .i64 window)),(2,.p 0 0),(4,.p 1 0),(6,.v (.slice v13a ((L ++ ([⟨c.t.my,c.t.port,(nextChunk s window (mssO c.o)).1.seq,c.r.next,24,windowOf c.r,⟨0,(-1),false,false,0,0⟩,(nextChunk s window (mssO c.o)).1.text⟩] : List Seg)).length) v13c)),(67,.v (.agg (sndL s).toArray)),(68,.v (.agg (chkL (nextChunk s window (mssO c.o)).1).toArray))] 107 [.agg (sndL s).toArray,.agg (chkL (nextChunk s window (mssO c.o)).1).toArray] (some 69) (by kernel_rfl) rfl (by kernel_rfl) rfl (by kernel_rfl) (xc_b fun ww hf => ysSentOff_c s ((nextChunk s window (mssO c.o)).1) ww  ) ?_
  intro _
  refine xl_end [1,2,4,6] ⟨[(1,.v (.int .i64 window)),(2,.p 0 0),(4,.p 1 0),(6,.v (.slice v13a ((L ++ ([⟨c.t.my,c.t.port,(nextChunk s window (mssO c.o)).1.seq,c.r.next,24,windowOf c.r,⟨0,(-1),false,false,0,0⟩,(nextChunk s window (mssO c.o)).1.text⟩] : List Seg)).length) v13c))],[⟨42,conL { c with s := (sentOff s ((nextChunk s window (mssO c.o)).1)),timer := t } (.slice v1a c.r.held.length v1c)⟩,⟨42,conZ⟩,⟨116,chkL (nextChunk s window (mssO c.o)).1⟩,⟨51,[.int .i64 c.t.my,.int .i64 c.t.port,.int .i64 ((nextChunk s window (mssO c.o)).1.seq),.int .i64 c.r.next,.int .i64 24,.int .i64 (windowOf c.r),.int .i64 0,.int .i64 (-1),.bool false,.bool false,.int .i64 0,.int .i64 0,.string ((nextChunk s window (mssO c.o)).1.text)]⟩],[],[rowF w.heap.size 51 13 (.slice v13a ((L ++ ([⟨c.t.my,c.t.port,(nextChunk s window (mssO c.o)).1.seq,c.r.next,24,windowOf c.r,⟨0,(-1),false,false,0,0⟩,(nextChunk s window (mssO c.o)).1.text⟩] : List Seg)).length) v13c) ((L ++ ([⟨c.t.my,c.t.port,(nextChunk s window (mssO c.o)).1.seq,c.r.next,24,windowOf c.r,⟨0,(-1),false,false,0,0⟩,(nextChunk s window (mssO c.o)).1.text⟩] : List Seg)).map segCells),rowF w.heap.size 51 13 (.slice (some ⟨g12,0,none⟩) 1 1) (([⟨c.t.my,c.t.port,(nextChunk s window (mssO c.o)).1.seq,c.r.next,24,windowOf c.r,⟨0,(-1),false,false,0,0⟩,(nextChunk s window (mssO c.o)).1.text⟩] : List Seg).map segCells),ownF w.heap.size (.slice v1a c.r.held.length v1c) 2 (c.r.held.map pceCells),slF (.slice Acrh c.r.held.length Ccrh) 2 (c.r.held.map pceCells)]⟩ (by kernel_rfl) ?_
  refine xw_seq ?_
  refine xw_region ?_
  refine xl_endS [1,2,4,6,73] [(1,.v (.int .i64 window)),(2,.p 0 0),(4,.p 1 0),(6,.v (.slice v13a ((L ++ ([⟨c.t.my,c.t.port,(nextChunk s window (mssO c.o)).1.seq,c.r.next,24,windowOf c.r,⟨0,(-1),false,false,0,0⟩,(nextChunk s window (mssO c.o)).1.text⟩] : List Seg)).length) v13c)),(73,.v (.bool (t == 0)))] (by kernel_rfl) ?_
  refine xw_cond (b := t == 0) (by kernel_rfl) (fun h14 => ?_) (fun h14 => ?_)
  have h14p := eqT h14
  refine xw_region ?_
  refine xl_end [1,2,4,6] ⟨[(1,.v (.int .i64 window)),(2,.p 0 0),(4,.p 1 0),(6,.v (.slice v13a ((L ++ ([⟨c.t.my,c.t.port,(nextChunk s window (mssO c.o)).1.seq,c.r.next,24,windowOf c.r,⟨0,(-1),false,false,0,0⟩,(nextChunk s window (mssO c.o)).1.text⟩] : List Seg)).length) v13c))],[⟨42,conL { c with s := (sentOff s ((nextChunk s window (mssO c.o)).1)),timer := 3 } (.slice v1a c.r.held.length v1c)⟩,⟨42,conZ⟩,⟨116,chkL (nextChunk s window (mssO c.o)).1⟩,⟨51,[.int .i64 c.t.my,.int .i64 c.t.port,.int .i64 ((nextChunk s window (mssO c.o)).1.seq),.int .i64 c.r.next,.int .i64 24,.int .i64 (windowOf c.r),.int .i64 0,.int .i64 (-1),.bool false,.bool false,.int .i64 0,.int .i64 0,.string ((nextChunk s window (mssO c.o)).1.text)]⟩],[],[rowF w.heap.size 51 13 (.slice v13a ((L ++ ([⟨c.t.my,c.t.port,(nextChunk s window (mssO c.o)).1.seq,c.r.next,24,windowOf c.r,⟨0,(-1),false,false,0,0⟩,(nextChunk s window (mssO c.o)).1.text⟩] : List Seg)).length) v13c) ((L ++ ([⟨c.t.my,c.t.port,(nextChunk s window (mssO c.o)).1.seq,c.r.next,24,windowOf c.r,⟨0,(-1),false,false,0,0⟩,(nextChunk s window (mssO c.o)).1.text⟩] : List Seg)).map segCells),rowF w.heap.size 51 13 (.slice (some ⟨g12,0,none⟩) 1 1) (([⟨c.t.my,c.t.port,(nextChunk s window (mssO c.o)).1.seq,c.r.next,24,windowOf c.r,⟨0,(-1),false,false,0,0⟩,(nextChunk s window (mssO c.o)).1.text⟩] : List Seg).map segCells),ownF w.heap.size (.slice v1a c.r.held.length v1c) 2 (c.r.held.map pceCells),slF (.slice Acrh c.r.held.length Ccrh) 2 (c.r.held.map pceCells)]⟩ (by kernel_rfl) ?_
  have hrow : segOf c (nextChunk s window (mssO c.o)).1 = ⟨c.t.my,c.t.port,(nextChunk s window (mssO c.o)).1.seq,c.r.next,24,windowOf c.r,⟨0,(-1),false,false,0,0⟩,(nextChunk s window (mssO c.o)).1.text⟩ := by simp [segOf,hT,hF]
  exact ⟨⟨(sentOff s (nextChunk s window (mssO c.o)).1,(L ++ ([⟨c.t.my,c.t.port,(nextChunk s window (mssO c.o)).1.seq,c.r.next,24,windowOf c.r,⟨0,(-1),false,false,0,0⟩,(nextChunk s window (mssO c.o)).1.text⟩] : List Seg)),3,v13a,v13c),⟨pumpS_step hyes HS,pumpL_step hyes hrow HL,row_len HR (meas_next hyes),tmr_next HT (by (try dsimp only); split <;> omega)⟩⟩,(wk_pick [0,2,3] [rowF w.heap.size 51 13 (.slice v13a ((L ++ ([⟨c.t.my,c.t.port,(nextChunk s window (mssO c.o)).1.seq,c.r.next,24,windowOf c.r,⟨0,(-1),false,false,0,0⟩,(nextChunk s window (mssO c.o)).1.text⟩] : List Seg)).length) v13c) ((L ++ ([⟨c.t.my,c.t.port,(nextChunk s window (mssO c.o)).1.seq,c.r.next,24,windowOf c.r,⟨0,(-1),false,false,0,0⟩,(nextChunk s window (mssO c.o)).1.text⟩] : List Seg)).map segCells),ownF w.heap.size (.slice v1a c.r.held.length v1c) 2 (c.r.held.map pceCells),slF (.slice Acrh c.r.held.length Ccrh) 2 (c.r.held.map pceCells)] (by kernel_rfl) (by kernel_rfl)).trans <| wk_forget 2 0 [1,2,4,6] (by kernel_rfl) (by kernel_rfl) (by kernel_rfl),by show (fun (s : Snd) (L : List Seg) (t : Int) (A : Option Addr) (cap : Nat) => meas s) (sentOff s (nextChunk s window (mssO c.o)).1) (L ++ ([⟨c.t.my,c.t.port,(nextChunk s window (mssO c.o)).1.seq,c.r.next,24,windowOf c.r,⟨0,(-1),false,false,0,0⟩,(nextChunk s window (mssO c.o)).1.text⟩] : List Seg)) 3 v13a v13c < meas s; exact meas_next hyes⟩
  have h14p := eqF h14
  refine xw_skip ?_
  have hrow : segOf c (nextChunk s window (mssO c.o)).1 = ⟨c.t.my,c.t.port,(nextChunk s window (mssO c.o)).1.seq,c.r.next,24,windowOf c.r,⟨0,(-1),false,false,0,0⟩,(nextChunk s window (mssO c.o)).1.text⟩ := by simp [segOf,hT,hF]
  exact ⟨⟨(sentOff s (nextChunk s window (mssO c.o)).1,(L ++ ([⟨c.t.my,c.t.port,(nextChunk s window (mssO c.o)).1.seq,c.r.next,24,windowOf c.r,⟨0,(-1),false,false,0,0⟩,(nextChunk s window (mssO c.o)).1.text⟩] : List Seg)),t,v13a,v13c),⟨pumpS_step hyes HS,pumpL_step hyes hrow HL,row_len HR (meas_next hyes),tmr_next HT (by (try dsimp only); split <;> omega)⟩⟩,(wk_pick [0,2,3] [rowF w.heap.size 51 13 (.slice v13a ((L ++ ([⟨c.t.my,c.t.port,(nextChunk s window (mssO c.o)).1.seq,c.r.next,24,windowOf c.r,⟨0,(-1),false,false,0,0⟩,(nextChunk s window (mssO c.o)).1.text⟩] : List Seg)).length) v13c) ((L ++ ([⟨c.t.my,c.t.port,(nextChunk s window (mssO c.o)).1.seq,c.r.next,24,windowOf c.r,⟨0,(-1),false,false,0,0⟩,(nextChunk s window (mssO c.o)).1.text⟩] : List Seg)).map segCells),ownF w.heap.size (.slice v1a c.r.held.length v1c) 2 (c.r.held.map pceCells),slF (.slice Acrh c.r.held.length Ccrh) 2 (c.r.held.map pceCells)] (by kernel_rfl) (by kernel_rfl)).trans <| wk_forget 2 0 [1,2,4,6] (by kernel_rfl) (by kernel_rfl) (by kernel_rfl),by show (fun (s : Snd) (L : List Seg) (t : Int) (A : Option Addr) (cap : Nat) => meas s) (sentOff s (nextChunk s window (mssO c.o)).1) (L ++ ([⟨c.t.my,c.t.port,(nextChunk s window (mssO c.o)).1.seq,c.r.next,24,windowOf c.r,⟨0,(-1),false,false,0,0⟩,(nextChunk s window (mssO c.o)).1.text⟩] : List Seg)) t v13a v13c < meas s; exact meas_next hyes⟩
  have hT : (nextChunk s window (mssO c.o)).1.text.toList.isEmpty = true := by simpa [toList_lit0] using h7
  refine xw_skip ?_
  refine xw_seq ?_
  refine xw_seq ?_
  refine xw_region ?_
  refine xl_endS [1,2,4,6,7,9,57] [(1,.v (.int .i64 window)),(2,.p 0 0),(4,.p 1 0),(6,.v (.slice A L.length cap)),(7,.p 2 0),(9,.p 3 0),(57,.v (.bool ((nextChunk s window (mssO c.o)).1.fin)))] (by kernel_rfl) ?_
  refine xw_cond (b := (nextChunk s window (mssO c.o)).1.fin) (by kernel_rfl) (fun h15 => ?_) (fun h15 => ?_)
  have hF := h15
  refine xw_region ?_
  refine xl_end [1,2,4,6,7,9] ⟨[(1,.v (.int .i64 window)),(2,.p 0 0),(4,.p 1 0),(6,.v (.slice A L.length cap)),(7,.p 2 0),(9,.p 3 0)],[⟨42,conL { c with s := s,timer := t } (.slice v1a c.r.held.length v1c)⟩,⟨42,conZ⟩,⟨116,chkL (nextChunk s window (mssO c.o)).1⟩,⟨51,[.int .i64 c.t.my,.int .i64 c.t.port,.int .i64 ((nextChunk s window (mssO c.o)).1.seq),.int .i64 c.r.next,.int .i64 17,.int .i64 (windowOf c.r),.int .i64 0,.int .i64 (-1),.bool false,.bool false,.int .i64 0,.int .i64 0,.string ((nextChunk s window (mssO c.o)).1.text)]⟩],[],[rowF w.heap.size 51 13 (.slice A L.length cap) (L.map segCells),ownF w.heap.size (.slice v1a c.r.held.length v1c) 2 (c.r.held.map pceCells),slF (.slice Acrh c.r.held.length Ccrh) 2 (c.r.held.map pceCells)]⟩ (by kernel_rfl) ?_
  refine xw_seq ?_
  refine xw_region ?_
  refine xl_hvS 2 [1,2,4,6,7,62,63] [(1,.v (.int .i64 window)),(2,.p 0 0),(4,.p 1 0),(6,.v (.slice A L.length cap)),(7,.p 2 0),(62,.v (.slice A L.length cap)),(63,.v (.agg #[.int .i64 c.t.my,.int .i64 c.t.port,.int .i64 ((nextChunk s window (mssO c.o)).1.seq),.int .i64 c.r.next,.int .i64 17,.int .i64 (windowOf c.r),.int .i64 0,.int .i64 (-1),.bool false,.bool false,.int .i64 0,.int .i64 0,.string ((nextChunk s window (mssO c.o)).1.text)]))] (by kernel_rfl) rfl (by kernel_rfl) rfl (by kernel_rfl) (hv_build (e := 51) (K := 13) (bytes := 104) [.agg #[.int .i64 c.t.my,.int .i64 c.t.port,.int .i64 ((nextChunk s window (mssO c.o)).1.seq),.int .i64 c.r.next,.int .i64 17,.int .i64 (windowOf c.r),.int .i64 0,.int .i64 (-1),.bool false,.bool false,.int .i64 0,.int .i64 0,.string ((nextChunk s window (mssO c.o)).1.text)]] rfl (by kernel_rfl) (by kernel_rfl) (by kernel_rfl) (by kernel_rfl) (by kernel_rfl) (rs := ([⟨c.t.my,c.t.port,(nextChunk s window (mssO c.o)).1.seq,c.r.next,17,windowOf c.r,⟨0,(-1),false,false,0,0⟩,(nextChunk s window (mssO c.o)).1.text⟩] : List Seg).map segCells) rfl) ?_
  intro g16
  refine xl_hvS 0 [1,2,4,6,7,62,64] [(1,.v (.int .i64 window)),(2,.p 0 0),(4,.p 1 0),(6,.v (.slice A L.length cap)),(7,.p 2 0),(62,.v (.slice A L.length cap)),(64,.v (.slice (some ⟨g16,0,none⟩) 1 1))] (by kernel_rfl) rfl (by kernel_rfl) rfl (by kernel_rfl) (hv_append (e := 51) (K := 13) (bytes := 104) (i := 1) (q := (L ++ ([⟨c.t.my,c.t.port,(nextChunk s window (mssO c.o)).1.seq,c.r.next,17,windowOf c.r,⟨0,(-1),false,false,0,0⟩,(nextChunk s window (mssO c.o)).1.text⟩] : List Seg)).length) (new := ([⟨c.t.my,c.t.port,(nextChunk s window (mssO c.o)).1.seq,c.r.next,17,windowOf c.r,⟨0,(-1),false,false,0,0⟩,(nextChunk s window (mssO c.o)).1.text⟩] : List Seg).map segCells) (rs' := (L ++ ([⟨c.t.my,c.t.port,(nextChunk s window (mssO c.o)).1.seq,c.r.next,17,windowOf c.r,⟨0,(-1),false,false,0,0⟩,(nextChunk s window (mssO c.o)).1.text⟩] : List Seg)).map segCells) rfl rfl rfl rfl (by kernel_rfl) (by kernel_rfl) (by kernel_rfl) rfl (by simp) (by rw [List.map_append]) (by simp) (fun ww hf => rowF_sl (hf (rowF w.heap.size 51 13 (.slice (some ⟨g16,0,none⟩) 1 1) (([⟨c.t.my,c.t.port,(nextChunk s window (mssO c.o)).1.seq,c.r.next,17,windowOf c.r,⟨0,(-1),false,false,0,0⟩,(nextChunk s window (mssO c.o)).1.text⟩] : List Seg).map segCells)) (by simp))) (by intro r hr; obtain ⟨x,hx,rfl⟩ := List.mem_map.1 hr; exact ⟨rfl,by simp [segCells,Value.oneCell']⟩) (by simp only [List.length_map,List.length_append,List.length_cons,List.length_nil,maxLen]; omega) (by simp only [List.length_map,List.length_append,List.length_cons,List.length_nil,maxLen]; omega)) ?_
  rintro ⟨v17a,v17c⟩
  refine xl_endS [1,2,4,6,7] [(1,.v (.int .i64 window)),(2,.p 0 0),(4,.p 1 0),(6,.v (.slice v17a ((L ++ ([⟨c.t.my,c.t.port,(nextChunk s window (mssO c.o)).1.seq,c.r.next,17,windowOf c.r,⟨0,(-1),false,false,0,0⟩,(nextChunk s window (mssO c.o)).1.text⟩] : List Seg)).length) v17c)),(7,.p 2 0)] (by kernel_rfl) ?_
  refine xw_seq ?_
  refine xw_region ?_
  refine xl_callS 3 [1,2,4,6,67,68] [(1,.v (.int .i64 window)),(2,.p 0 0),(4,.p 1 0),(6,.v (.slice v17a ((L ++ ([⟨c.t.my,c.t.port,(nextChunk s window (mssO c.o)).1.seq,c.r.next,17,windowOf c.r,⟨0,(-1),false,false,0,0⟩,(nextChunk s window (mssO c.o)).1.text⟩] : List Seg)).length) v17c)),(67,.v (.agg (sndL s).toArray)),(68,.v (.agg (chkL (nextChunk s window (mssO c.o)).1).toArray))] 107 [.agg (sndL s).toArray,.agg (chkL (nextChunk s window (mssO c.o)).1).toArray] (some 69) (by kernel_rfl) rfl (by kernel_rfl) rfl (by kernel_rfl) (xc_b fun ww hf => ysSentOff_c s ((nextChunk s window (mssO c.o)).1) ww  ) ?_
  intro _
  refine xl_end [1,2,4,6] ⟨[(1,.v (.int .i64 window)),(2,.p 0 0),(4,.p 1 0),(6,.v (.slice v17a ((L ++ ([⟨c.t.my,c.t.port,(nextChunk s window (mssO c.o)).1.seq,c.r.next,17,windowOf c.r,⟨0,(-1),false,false,0,0⟩,(nextChunk s window (mssO c.o)).1.text⟩] : List Seg)).length) v17c))],[⟨42,conL { c with s := (sentOff s ((nextChunk s window (mssO c.o)).1)),timer := t } (.slice v1a c.r.held.length v1c)⟩,⟨42,conZ⟩,⟨116,chkL (nextChunk s window (mssO c.o)).1⟩,⟨51,[.int .i64 c.t.my,.int .i64 c.t.port,.int .i64 ((nextChunk s window (mssO c.o)).1.seq),.int .i64 c.r.next,.int .i64 17,.int .i64 (windowOf c.r),.int .i64 0,.int .i64 (-1),.bool false,.bool false,.int .i64 0,.int .i64 0,.string ((nextChunk s window (mssO c.o)).1.text)]⟩],[],[rowF w.heap.size 51 13 (.slice v17a ((L ++ ([⟨c.t.my,c.t.port,(nextChunk s window (mssO c.o)).1.seq,c.r.next,17,windowOf c.r,⟨0,(-1),false,false,0,0⟩,(nextChunk s window (mssO c.o)).1.text⟩] : List Seg)).length) v17c) ((L ++ ([⟨c.t.my,c.t.port,(nextChunk s window (mssO c.o)).1.seq,c.r.next,17,windowOf c.r,⟨0,(-1),false,false,0,0⟩,(nextChunk s window (mssO c.o)).1.text⟩] : List Seg)).map segCells),rowF w.heap.size 51 13 (.slice (some ⟨g16,0,none⟩) 1 1) (([⟨c.t.my,c.t.port,(nextChunk s window (mssO c.o)).1.seq,c.r.next,17,windowOf c.r,⟨0,(-1),false,false,0,0⟩,(nextChunk s window (mssO c.o)).1.text⟩] : List Seg).map segCells),ownF w.heap.size (.slice v1a c.r.held.length v1c) 2 (c.r.held.map pceCells),slF (.slice Acrh c.r.held.length Ccrh) 2 (c.r.held.map pceCells)]⟩ (by kernel_rfl) ?_
  refine xw_seq ?_
  refine xw_region ?_
  refine xl_endS [1,2,4,6,73] [(1,.v (.int .i64 window)),(2,.p 0 0),(4,.p 1 0),(6,.v (.slice v17a ((L ++ ([⟨c.t.my,c.t.port,(nextChunk s window (mssO c.o)).1.seq,c.r.next,17,windowOf c.r,⟨0,(-1),false,false,0,0⟩,(nextChunk s window (mssO c.o)).1.text⟩] : List Seg)).length) v17c)),(73,.v (.bool (t == 0)))] (by kernel_rfl) ?_
  refine xw_cond (b := t == 0) (by kernel_rfl) (fun h18 => ?_) (fun h18 => ?_)
  have h18p := eqT h18
  refine xw_region ?_
  refine xl_end [1,2,4,6] ⟨[(1,.v (.int .i64 window)),(2,.p 0 0),(4,.p 1 0),(6,.v (.slice v17a ((L ++ ([⟨c.t.my,c.t.port,(nextChunk s window (mssO c.o)).1.seq,c.r.next,17,windowOf c.r,⟨0,(-1),false,false,0,0⟩,(nextChunk s window (mssO c.o)).1.text⟩] : List Seg)).length) v17c))],[⟨42,conL { c with s := (sentOff s ((nextChunk s window (mssO c.o)).1)),timer := 3 } (.slice v1a c.r.held.length v1c)⟩,⟨42,conZ⟩,⟨116,chkL (nextChunk s window (mssO c.o)).1⟩,⟨51,[.int .i64 c.t.my,.int .i64 c.t.port,.int .i64 ((nextChunk s window (mssO c.o)).1.seq),.int .i64 c.r.next,.int .i64 17,.int .i64 (windowOf c.r),.int .i64 0,.int .i64 (-1),.bool false,.bool false,.int .i64 0,.int .i64 0,.string ((nextChunk s window (mssO c.o)).1.text)]⟩],[],[rowF w.heap.size 51 13 (.slice v17a ((L ++ ([⟨c.t.my,c.t.port,(nextChunk s window (mssO c.o)).1.seq,c.r.next,17,windowOf c.r,⟨0,(-1),false,false,0,0⟩,(nextChunk s window (mssO c.o)).1.text⟩] : List Seg)).length) v17c) ((L ++ ([⟨c.t.my,c.t.port,(nextChunk s window (mssO c.o)).1.seq,c.r.next,17,windowOf c.r,⟨0,(-1),false,false,0,0⟩,(nextChunk s window (mssO c.o)).1.text⟩] : List Seg)).map segCells),rowF w.heap.size 51 13 (.slice (some ⟨g16,0,none⟩) 1 1) (([⟨c.t.my,c.t.port,(nextChunk s window (mssO c.o)).1.seq,c.r.next,17,windowOf c.r,⟨0,(-1),false,false,0,0⟩,(nextChunk s window (mssO c.o)).1.text⟩] : List Seg).map segCells),ownF w.heap.size (.slice v1a c.r.held.length v1c) 2 (c.r.held.map pceCells),slF (.slice Acrh c.r.held.length Ccrh) 2 (c.r.held.map pceCells)]⟩ (by kernel_rfl) ?_
  have hrow : segOf c (nextChunk s window (mssO c.o)).1 = ⟨c.t.my,c.t.port,(nextChunk s window (mssO c.o)).1.seq,c.r.next,17,windowOf c.r,⟨0,(-1),false,false,0,0⟩,(nextChunk s window (mssO c.o)).1.text⟩ := by simp [segOf,hT,hF]
  exact ⟨⟨(sentOff s (nextChunk s window (mssO c.o)).1,(L ++ ([⟨c.t.my,c.t.port,(nextChunk s window (mssO c.o)).1.seq,c.r.next,17,windowOf c.r,⟨0,(-1),false,false,0,0⟩,(nextChunk s window (mssO c.o)).1.text⟩] : List Seg)),3,v17a,v17c),⟨pumpS_step hyes HS,pumpL_step hyes hrow HL,row_len HR (meas_next hyes),tmr_next HT (by (try dsimp only); split <;> omega)⟩⟩,(wk_pick [0,2,3] [rowF w.heap.size 51 13 (.slice v17a ((L ++ ([⟨c.t.my,c.t.port,(nextChunk s window (mssO c.o)).1.seq,c.r.next,17,windowOf c.r,⟨0,(-1),false,false,0,0⟩,(nextChunk s window (mssO c.o)).1.text⟩] : List Seg)).length) v17c) ((L ++ ([⟨c.t.my,c.t.port,(nextChunk s window (mssO c.o)).1.seq,c.r.next,17,windowOf c.r,⟨0,(-1),false,false,0,0⟩,(nextChunk s window (mssO c.o)).1.text⟩] : List Seg)).map segCells),ownF w.heap.size (.slice v1a c.r.held.length v1c) 2 (c.r.held.map pceCells),slF (.slice Acrh c.r.held.length Ccrh) 2 (c.r.held.map pceCells)] (by kernel_rfl) (by kernel_rfl)).trans <| wk_forget 2 0 [1,2,4,6] (by kernel_rfl) (by kernel_rfl) (by kernel_rfl),by show (fun (s : Snd) (L : List Seg) (t : Int) (A : Option Addr) (cap : Nat) => meas s) (sentOff s (nextChunk s window (mssO c.o)).1) (L ++ ([⟨c.t.my,c.t.port,(nextChunk s window (mssO c.o)).1.seq,c.r.next,17,windowOf c.r,⟨0,(-1),false,false,0,0⟩,(nextChunk s window (mssO c.o)).1.text⟩] : List Seg)) 3 v17a v17c < meas s; exact meas_next hyes⟩
  have h18p := eqF h18
  refine xw_skip ?_
  have hrow : segOf c (nextChunk s window (mssO c.o)).1 = ⟨c.t.my,c.t.port,(nextChunk s window (mssO c.o)).1.seq,c.r.next,17,windowOf c.r,⟨0,(-1),false,false,0,0⟩,(nextChunk s window (mssO c.o)).1.text⟩ := by simp [segOf,hT,hF]
  exact ⟨⟨(sentOff s (nextChunk s window (mssO c.o)).1,(L ++ ([⟨c.t.my,c.t.port,(nextChunk s window (mssO c.o)).1.seq,c.r.next,17,windowOf c.r,⟨0,(-1),false,false,0,0⟩,(nextChunk s window (mssO c.o)).1.text⟩] : List Seg)),t,v17a,v17c),⟨pumpS_step hyes HS,pumpL_step hyes hrow HL,row_len HR (meas_next hyes),tmr_next HT (by (try dsimp only); split <;> omega)⟩⟩,(wk_pick [0,2,3] [rowF w.heap.size 51 13 (.slice v17a ((L ++ ([⟨c.t.my,c.t.port,(nextChunk s window (mssO c.o)).1.seq,c.r.next,17,windowOf c.r,⟨0,(-1),false,false,0,0⟩,(nextChunk s window (mssO c.o)).1.text⟩] : List Seg)).length) v17c) ((L ++ ([⟨c.t.my,c.t.port,(nextChunk s window (mssO c.o)).1.seq,c.r.next,17,windowOf c.r,⟨0,(-1),false,false,0,0⟩,(nextChunk s window (mssO c.o)).1.text⟩] : List Seg)).map segCells),ownF w.heap.size (.slice v1a c.r.held.length v1c) 2 (c.r.held.map pceCells),slF (.slice Acrh c.r.held.length Ccrh) 2 (c.r.held.map pceCells)] (by kernel_rfl) (by kernel_rfl)).trans <| wk_forget 2 0 [1,2,4,6] (by kernel_rfl) (by kernel_rfl) (by kernel_rfl),by show (fun (s : Snd) (L : List Seg) (t : Int) (A : Option Addr) (cap : Nat) => meas s) (sentOff s (nextChunk s window (mssO c.o)).1) (L ++ ([⟨c.t.my,c.t.port,(nextChunk s window (mssO c.o)).1.seq,c.r.next,17,windowOf c.r,⟨0,(-1),false,false,0,0⟩,(nextChunk s window (mssO c.o)).1.text⟩] : List Seg)) t v17a v17c < meas s; exact meas_next hyes⟩
  have hF := h15
  refine xw_skip ?_
  refine xw_seq ?_
  refine xw_region ?_
  refine xl_hvS 2 [1,2,4,6,7,62,63] [(1,.v (.int .i64 window)),(2,.p 0 0),(4,.p 1 0),(6,.v (.slice A L.length cap)),(7,.p 2 0),(62,.v (.slice A L.length cap)),(63,.v (.agg #[.int .i64 c.t.my,.int .i64 c.t.port,.int .i64 ((nextChunk s window (mssO c.o)).1.seq),.int .i64 c.r.next,.int .i64 16,.int .i64 (windowOf c.r),.int .i64 0,.int .i64 (-1),.bool false,.bool false,.int .i64 0,.int .i64 0,.string ((nextChunk s window (mssO c.o)).1.text)]))] (by kernel_rfl) rfl (by kernel_rfl) rfl (by kernel_rfl) (hv_build (e := 51) (K := 13) (bytes := 104) [.agg #[.int .i64 c.t.my,.int .i64 c.t.port,.int .i64 ((nextChunk s window (mssO c.o)).1.seq),.int .i64 c.r.next,.int .i64 16,.int .i64 (windowOf c.r),.int .i64 0,.int .i64 (-1),.bool false,.bool false,.int .i64 0,.int .i64 0,.string ((nextChunk s window (mssO c.o)).1.text)]] rfl (by kernel_rfl) (by kernel_rfl) (by kernel_rfl) (by kernel_rfl) (by kernel_rfl) (rs := ([⟨c.t.my,c.t.port,(nextChunk s window (mssO c.o)).1.seq,c.r.next,16,windowOf c.r,⟨0,(-1),false,false,0,0⟩,(nextChunk s window (mssO c.o)).1.text⟩] : List Seg).map segCells) rfl) ?_
  intro g19
  refine xl_hvS 0 [1,2,4,6,7,62,64] [(1,.v (.int .i64 window)),(2,.p 0 0),(4,.p 1 0),(6,.v (.slice A L.length cap)),(7,.p 2 0),(62,.v (.slice A L.length cap)),(64,.v (.slice (some ⟨g19,0,none⟩) 1 1))] (by kernel_rfl) rfl (by kernel_rfl) rfl (by kernel_rfl) (hv_append (e := 51) (K := 13) (bytes := 104) (i := 1) (q := (L ++ ([⟨c.t.my,c.t.port,(nextChunk s window (mssO c.o)).1.seq,c.r.next,16,windowOf c.r,⟨0,(-1),false,false,0,0⟩,(nextChunk s window (mssO c.o)).1.text⟩] : List Seg)).length) (new := ([⟨c.t.my,c.t.port,(nextChunk s window (mssO c.o)).1.seq,c.r.next,16,windowOf c.r,⟨0,(-1),false,false,0,0⟩,(nextChunk s window (mssO c.o)).1.text⟩] : List Seg).map segCells) (rs' := (L ++ ([⟨c.t.my,c.t.port,(nextChunk s window (mssO c.o)).1.seq,c.r.next,16,windowOf c.r,⟨0,(-1),false,false,0,0⟩,(nextChunk s window (mssO c.o)).1.text⟩] : List Seg)).map segCells) rfl rfl rfl rfl (by kernel_rfl) (by kernel_rfl) (by kernel_rfl) rfl (by simp) (by rw [List.map_append]) (by simp) (fun ww hf => rowF_sl (hf (rowF w.heap.size 51 13 (.slice (some ⟨g19,0,none⟩) 1 1) (([⟨c.t.my,c.t.port,(nextChunk s window (mssO c.o)).1.seq,c.r.next,16,windowOf c.r,⟨0,(-1),false,false,0,0⟩,(nextChunk s window (mssO c.o)).1.text⟩] : List Seg).map segCells)) (by simp))) (by intro r hr; obtain ⟨x,hx,rfl⟩ := List.mem_map.1 hr; exact ⟨rfl,by simp [segCells,Value.oneCell']⟩) (by simp only [List.length_map,List.length_append,List.length_cons,List.length_nil,maxLen]; omega) (by simp only [List.length_map,List.length_append,List.length_cons,List.length_nil,maxLen]; omega)) ?_
  rintro ⟨v20a,v20c⟩
  refine xl_endS [1,2,4,6,7] [(1,.v (.int .i64 window)),(2,.p 0 0),(4,.p 1 0),(6,.v (.slice v20a ((L ++ ([⟨c.t.my,c.t.port,(nextChunk s window (mssO c.o)).1.seq,c.r.next,16,windowOf c.r,⟨0,(-1),false,false,0,0⟩,(nextChunk s window (mssO c.o)).1.text⟩] : List Seg)).length) v20c)),(7,.p 2 0)] (by kernel_rfl) ?_
  refine xw_seq ?_
  refine xw_region ?_
  refine xl_callS 3 [1,2,4,6,67,68] [(1,.v (.int .i64 window)),(2,.p 0 0),(4,.p 1 0),(6,.v (.slice v20a ((L ++ ([⟨c.t.my,c.t.port,(nextChunk s window (mssO c.o)).1.seq,c.r.next,16,windowOf c.r,⟨0,(-1),false,false,0,0⟩,(nextChunk s window (mssO c.o)).1.text⟩] : List Seg)).length) v20c)),(67,.v (.agg (sndL s).toArray)),(68,.v (.agg (chkL (nextChunk s window (mssO c.o)).1).toArray))] 107 [.agg (sndL s).toArray,.agg (chkL (nextChunk s window (mssO c.o)).1).toArray] (some 69) (by kernel_rfl) rfl (by kernel_rfl) rfl (by kernel_rfl) (xc_b fun ww hf => ysSentOff_c s ((nextChunk s window (mssO c.o)).1) ww  ) ?_
  intro _
  refine xl_end [1,2,4,6] ⟨[(1,.v (.int .i64 window)),(2,.p 0 0),(4,.p 1 0),(6,.v (.slice v20a ((L ++ ([⟨c.t.my,c.t.port,(nextChunk s window (mssO c.o)).1.seq,c.r.next,16,windowOf c.r,⟨0,(-1),false,false,0,0⟩,(nextChunk s window (mssO c.o)).1.text⟩] : List Seg)).length) v20c))],[⟨42,conL { c with s := (sentOff s ((nextChunk s window (mssO c.o)).1)),timer := t } (.slice v1a c.r.held.length v1c)⟩,⟨42,conZ⟩,⟨116,chkL (nextChunk s window (mssO c.o)).1⟩,⟨51,[.int .i64 c.t.my,.int .i64 c.t.port,.int .i64 ((nextChunk s window (mssO c.o)).1.seq),.int .i64 c.r.next,.int .i64 16,.int .i64 (windowOf c.r),.int .i64 0,.int .i64 (-1),.bool false,.bool false,.int .i64 0,.int .i64 0,.string ((nextChunk s window (mssO c.o)).1.text)]⟩],[],[rowF w.heap.size 51 13 (.slice v20a ((L ++ ([⟨c.t.my,c.t.port,(nextChunk s window (mssO c.o)).1.seq,c.r.next,16,windowOf c.r,⟨0,(-1),false,false,0,0⟩,(nextChunk s window (mssO c.o)).1.text⟩] : List Seg)).length) v20c) ((L ++ ([⟨c.t.my,c.t.port,(nextChunk s window (mssO c.o)).1.seq,c.r.next,16,windowOf c.r,⟨0,(-1),false,false,0,0⟩,(nextChunk s window (mssO c.o)).1.text⟩] : List Seg)).map segCells),rowF w.heap.size 51 13 (.slice (some ⟨g19,0,none⟩) 1 1) (([⟨c.t.my,c.t.port,(nextChunk s window (mssO c.o)).1.seq,c.r.next,16,windowOf c.r,⟨0,(-1),false,false,0,0⟩,(nextChunk s window (mssO c.o)).1.text⟩] : List Seg).map segCells),ownF w.heap.size (.slice v1a c.r.held.length v1c) 2 (c.r.held.map pceCells),slF (.slice Acrh c.r.held.length Ccrh) 2 (c.r.held.map pceCells)]⟩ (by kernel_rfl) ?_
  refine xw_seq ?_
  refine xw_region ?_
  refine xl_endS [1,2,4,6,73] [(1,.v (.int .i64 window)),(2,.p 0 0),(4,.p 1 0),(6,.v (.slice v20a ((L ++ ([⟨c.t.my,c.t.port,(nextChunk s window (mssO c.o)).1.seq,c.r.next,16,windowOf c.r,⟨0,(-1),false,false,0,0⟩,(nextChunk s window (mssO c.o)).1.text⟩] : List Seg)).length) v20c)),(73,.v (.bool (t == 0)))] (by kernel_rfl) ?_
  refine xw_cond (b := t == 0) (by kernel_rfl) (fun h21 => ?_) (fun h21 => ?_)
  have h21p := eqT h21
  refine xw_region ?_
  refine xl_end [1,2,4,6] ⟨[(1,.v (.int .i64 window)),(2,.p 0 0),(4,.p 1 0),(6,.v (.slice v20a ((L ++ ([⟨c.t.my,c.t.port,(nextChunk s window (mssO c.o)).1.seq,c.r.next,16,windowOf c.r,⟨0,(-1),false,false,0,0⟩,(nextChunk s window (mssO c.o)).1.text⟩] : List Seg)).length) v20c))],[⟨42,conL { c with s := (sentOff s ((nextChunk s window (mssO c.o)).1)),timer := 3 } (.slice v1a c.r.held.length v1c)⟩,⟨42,conZ⟩,⟨116,chkL (nextChunk s window (mssO c.o)).1⟩,⟨51,[.int .i64 c.t.my,.int .i64 c.t.port,.int .i64 ((nextChunk s window (mssO c.o)).1.seq),.int .i64 c.r.next,.int .i64 16,.int .i64 (windowOf c.r),.int .i64 0,.int .i64 (-1),.bool false,.bool false,.int .i64 0,.int .i64 0,.string ((nextChunk s window (mssO c.o)).1.text)]⟩],[],[rowF w.heap.size 51 13 (.slice v20a ((L ++ ([⟨c.t.my,c.t.port,(nextChunk s window (mssO c.o)).1.seq,c.r.next,16,windowOf c.r,⟨0,(-1),false,false,0,0⟩,(nextChunk s window (mssO c.o)).1.text⟩] : List Seg)).length) v20c) ((L ++ ([⟨c.t.my,c.t.port,(nextChunk s window (mssO c.o)).1.seq,c.r.next,16,windowOf c.r,⟨0,(-1),false,false,0,0⟩,(nextChunk s window (mssO c.o)).1.text⟩] : List Seg)).map segCells),rowF w.heap.size 51 13 (.slice (some ⟨g19,0,none⟩) 1 1) (([⟨c.t.my,c.t.port,(nextChunk s window (mssO c.o)).1.seq,c.r.next,16,windowOf c.r,⟨0,(-1),false,false,0,0⟩,(nextChunk s window (mssO c.o)).1.text⟩] : List Seg).map segCells),ownF w.heap.size (.slice v1a c.r.held.length v1c) 2 (c.r.held.map pceCells),slF (.slice Acrh c.r.held.length Ccrh) 2 (c.r.held.map pceCells)]⟩ (by kernel_rfl) ?_
  have hrow : segOf c (nextChunk s window (mssO c.o)).1 = ⟨c.t.my,c.t.port,(nextChunk s window (mssO c.o)).1.seq,c.r.next,16,windowOf c.r,⟨0,(-1),false,false,0,0⟩,(nextChunk s window (mssO c.o)).1.text⟩ := by simp [segOf,hT,hF]
  exact ⟨⟨(sentOff s (nextChunk s window (mssO c.o)).1,(L ++ ([⟨c.t.my,c.t.port,(nextChunk s window (mssO c.o)).1.seq,c.r.next,16,windowOf c.r,⟨0,(-1),false,false,0,0⟩,(nextChunk s window (mssO c.o)).1.text⟩] : List Seg)),3,v20a,v20c),⟨pumpS_step hyes HS,pumpL_step hyes hrow HL,row_len HR (meas_next hyes),tmr_next HT (by (try dsimp only); split <;> omega)⟩⟩,(wk_pick [0,2,3] [rowF w.heap.size 51 13 (.slice v20a ((L ++ ([⟨c.t.my,c.t.port,(nextChunk s window (mssO c.o)).1.seq,c.r.next,16,windowOf c.r,⟨0,(-1),false,false,0,0⟩,(nextChunk s window (mssO c.o)).1.text⟩] : List Seg)).length) v20c) ((L ++ ([⟨c.t.my,c.t.port,(nextChunk s window (mssO c.o)).1.seq,c.r.next,16,windowOf c.r,⟨0,(-1),false,false,0,0⟩,(nextChunk s window (mssO c.o)).1.text⟩] : List Seg)).map segCells),ownF w.heap.size (.slice v1a c.r.held.length v1c) 2 (c.r.held.map pceCells),slF (.slice Acrh c.r.held.length Ccrh) 2 (c.r.held.map pceCells)] (by kernel_rfl) (by kernel_rfl)).trans <| wk_forget 2 0 [1,2,4,6] (by kernel_rfl) (by kernel_rfl) (by kernel_rfl),by show (fun (s : Snd) (L : List Seg) (t : Int) (A : Option Addr) (cap : Nat) => meas s) (sentOff s (nextChunk s window (mssO c.o)).1) (L ++ ([⟨c.t.my,c.t.port,(nextChunk s window (mssO c.o)).1.seq,c.r.next,16,windowOf c.r,⟨0,(-1),false,false,0,0⟩,(nextChunk s window (mssO c.o)).1.text⟩] : List Seg)) 3 v20a v20c < meas s; exact meas_next hyes⟩
  have h21p := eqF h21
  refine xw_skip ?_
  have hrow : segOf c (nextChunk s window (mssO c.o)).1 = ⟨c.t.my,c.t.port,(nextChunk s window (mssO c.o)).1.seq,c.r.next,16,windowOf c.r,⟨0,(-1),false,false,0,0⟩,(nextChunk s window (mssO c.o)).1.text⟩ := by simp [segOf,hT,hF]
  exact ⟨⟨(sentOff s (nextChunk s window (mssO c.o)).1,(L ++ ([⟨c.t.my,c.t.port,(nextChunk s window (mssO c.o)).1.seq,c.r.next,16,windowOf c.r,⟨0,(-1),false,false,0,0⟩,(nextChunk s window (mssO c.o)).1.text⟩] : List Seg)),t,v20a,v20c),⟨pumpS_step hyes HS,pumpL_step hyes hrow HL,row_len HR (meas_next hyes),tmr_next HT (by (try dsimp only); split <;> omega)⟩⟩,(wk_pick [0,2,3] [rowF w.heap.size 51 13 (.slice v20a ((L ++ ([⟨c.t.my,c.t.port,(nextChunk s window (mssO c.o)).1.seq,c.r.next,16,windowOf c.r,⟨0,(-1),false,false,0,0⟩,(nextChunk s window (mssO c.o)).1.text⟩] : List Seg)).length) v20c) ((L ++ ([⟨c.t.my,c.t.port,(nextChunk s window (mssO c.o)).1.seq,c.r.next,16,windowOf c.r,⟨0,(-1),false,false,0,0⟩,(nextChunk s window (mssO c.o)).1.text⟩] : List Seg)).map segCells),ownF w.heap.size (.slice v1a c.r.held.length v1c) 2 (c.r.held.map pceCells),slF (.slice Acrh c.r.held.length Ccrh) 2 (c.r.held.map pceCells)] (by kernel_rfl) (by kernel_rfl)).trans <| wk_forget 2 0 [1,2,4,6] (by kernel_rfl) (by kernel_rfl) (by kernel_rfl),by show (fun (s : Snd) (L : List Seg) (t : Int) (A : Option Addr) (cap : Nat) => meas s) (sentOff s (nextChunk s window (mssO c.o)).1) (L ++ ([⟨c.t.my,c.t.port,(nextChunk s window (mssO c.o)).1.seq,c.r.next,16,windowOf c.r,⟨0,(-1),false,false,0,0⟩,(nextChunk s window (mssO c.o)).1.text⟩] : List Seg)) t v20a v20c < meas s; exact meas_next hyes⟩
set_option maxHeartbeats 1000000 in
theorem yiPump_c (c : Con) (c_r_heldV : Value) (window : Int) (w : World) (hl_c_r_heldV : Sl w c_r_heldV 2 (c.r.held.map pceCells)) (hkn : c.r.held.length ≤ 1048576)(hm : ∀ p ∈ c.r.held, p.text.size ≤ 1048576) (hsz : c.r.data.size ≤ 4611686018427387904) (hwi : -9223372036854775808 ≤ window ∧ window ≤ 9223372036854775807) (B : Nat) (hB : B ≤ w.heap.size) : Calls Try.prog 44 #[.agg (conL c c_r_heldV).toArray, .int .i64 window] w fun e w' => XRs w w' e (α := (Option Addr × Nat) × (Option Addr × Nat)) (fun y => .tuple #[.agg (conL (pump c window).1 (.slice y.1.1 ((pump c window).1.r.held.length) y.1.2)).toArray, .slice y.2.1 ((pump c window).2.length) y.2.2]) (fun y => [ownF B (.slice y.1.1 ((pump c window).1.r.held.length) y.1.2) 2 ((pump c window).1.r.held.map pceCells), ownF B (.slice y.2.1 ((pump c window).2.length) y.2.2) 13 ((pump c window).2.map segCells)]) := by
  obtain ⟨Acrh,Ccrh,hvcrh⟩ := hl_c_r_heldV.form
  rw [List.length_map] at hvcrh; subst hvcrh
  have hncrh := hl_c_r_heldV.len; rw [List.length_map] at hncrh
  refine x_callsA (args := [.agg (conL c (.slice Acrh c.r.held.length Ccrh)).toArray,.int .i64 window]) (fn := Try.f44) [slF (.slice Acrh c.r.held.length Ccrh) 2 (c.r.held.map pceCells)] Try.func44 rfl Try.ntmps44 rfl (by simp only [List.mem_cons,List.not_mem_nil,or_false,forall_eq_or_imp,forall_eq]; exact ⟨rfl,hl_c_r_heldV⟩) ?_
  refine xw_seq ?_
  refine xw_region ?_
  refine xl_end [1,2,4] ⟨[(1,.v (.int .i64 window)),(2,.p 0 0),(4,.p 1 0)],[⟨42,conL c (.slice Acrh c.r.held.length Ccrh)⟩,⟨42,conZ⟩],[],[slF (.slice Acrh c.r.held.length Ccrh) 2 (c.r.held.map pceCells)]⟩ (by kernel_rfl) ?_
  refine xw_seq ?_
  refine xw_region ?_
  refine xl_callS 1 [1,2,4,11] [(1,.v (.int .i64 window)),(2,.p 0 0),(4,.p 1 0),(11,.v (.agg (conL c (.slice Acrh c.r.held.length Ccrh)).toArray))] 97 [.agg (conL c (.slice Acrh c.r.held.length Ccrh)).toArray] (some 12) (by kernel_rfl) rfl (by kernel_rfl) rfl (by kernel_rfl) (xc_r fun ww hw hf => ycloneConn_c c (.slice Acrh c.r.held.length Ccrh) ww (hf (slF (.slice Acrh c.r.held.length Ccrh) 2 (c.r.held.map pceCells)) (by simp)) (by assumption) w.heap.size hw) ?_
  rintro ⟨v1a,v1c⟩
  refine xl_end [1,2,4,6] ⟨[(1,.v (.int .i64 window)),(2,.p 0 0),(4,.p 1 0),(6,.p 2 0)],[⟨42,conL c (.slice Acrh c.r.held.length Ccrh)⟩,⟨42,conZ⟩,⟨42,conL c (.slice v1a c.r.held.length v1c)⟩],[],[ownF w.heap.size (.slice v1a c.r.held.length v1c) 2 (c.r.held.map pceCells),slF (.slice Acrh c.r.held.length Ccrh) 2 (c.r.held.map pceCells)]⟩ (by kernel_rfl) ?_
  refine xw_seq ?_
  refine xw_seq ?_
  refine xw_region ?_
  refine xl_callS 1 [1,2,4,6,13] [(1,.v (.int .i64 window)),(2,.p 0 0),(4,.p 1 0),(6,.p 2 0),(13,.v (.agg (conL c (.slice Acrh c.r.held.length Ccrh)).toArray))] 70 [.agg (conL c (.slice Acrh c.r.held.length Ccrh)).toArray] (some 14) (by kernel_rfl) rfl (by kernel_rfl) rfl (by kernel_rfl) (xc_b fun ww hf => yiConnOk_c c (.slice Acrh c.r.held.length Ccrh) ww (hf (slF (.slice Acrh c.r.held.length Ccrh) 2 (c.r.held.map pceCells)) (by simp)) (by assumption) (by omega)) ?_
  intro _
  refine xl_runS 2 [1,2,4,6,16] [(1,.v (.int .i64 window)),(2,.p 0 0),(4,.p 1 0),(6,.p 2 0),(16,.v (.bool (!(conOk c))))] (by kernel_rfl) ?_
  refine xl_split 16 (b := !(conOk c)) (by kernel_rfl) (fun h2 => ?_) (fun h2 => ?_)
  have h2n := not_t h2
  refine xl_endS [1,4,6,25] [(1,.v (.int .i64 window)),(4,.p 1 0),(6,.p 2 0),(25,.v (.bool true))] (by kernel_rfl) ?_
  refine xw_true (by kernel_rfl) ?_
  refine xw_seq ?_
  refine xw_region ?_
  refine xl_end [4,5] ⟨[(4,.p 1 0),(5,.v (.slice none 0 0))],[⟨42,conL c (.slice Acrh c.r.held.length Ccrh)⟩,⟨42,conL c (.slice v1a c.r.held.length v1c)⟩,⟨42,conL c (.slice v1a c.r.held.length v1c)⟩],[],[ownF w.heap.size (.slice v1a c.r.held.length v1c) 2 (c.r.held.map pceCells),slF (.slice Acrh c.r.held.length Ccrh) 2 (c.r.held.map pceCells)]⟩ (by kernel_rfl) ?_
  refine xw_ret ?_
  have hmod : pump c window = (c,[]) := by first | (simp [pump, *]; done) | exact pump_yes hok hs8 hs7 hS hL (by first | exact HT.symm | (unfold tmr; rw [show L.isEmpty = decide (L.length = 0) from by cases L <;> rfl]; simp only [decide_eq_true_eq]; split <;> (try split) <;> omega))
  exact ⟨[.agg (conL c (.slice v1a c.r.held.length v1c)).toArray,.slice none 0 0],by kernel_rfl,fun w' hb hf ha => by rw [hmod]; exact xr_two ((v1a,v1c),(none,0)) rfl rfl (ownF_ownF (hf (ownF w.heap.size (.slice v1a c.r.held.length v1c) 2 (c.r.held.map pceCells)) (by simp)) hB) (fun b hb => ownF_lo (hf (ownF w.heap.size (.slice v1a c.r.held.length v1c) 2 (c.r.held.map pceCells)) (by simp)) hb) (.inl ⟨rfl,_,rfl⟩) (fun b hb => (hb.1 rfl).elim) (apart_nil2 rfl) hb⟩
  have h2n := not_f h2
  refine xl_runS 5 [1,2,4,6,21] [(1,.v (.int .i64 window)),(2,.p 0 0),(4,.p 1 0),(6,.p 2 0),(21,.v (.bool (c.state == 8)))] (by kernel_rfl) ?_
  refine xl_split 21 (b := c.state == 8) (by kernel_rfl) (fun h3 => ?_) (fun h3 => ?_)
  have h3p := eqT h3
  refine xl_endS [1,4,6,25] [(1,.v (.int .i64 window)),(4,.p 1 0),(6,.p 2 0),(25,.v (.bool true))] (by kernel_rfl) ?_
  refine xw_true (by kernel_rfl) ?_
  refine xw_seq ?_
  refine xw_region ?_
  refine xl_end [4,5] ⟨[(4,.p 1 0),(5,.v (.slice none 0 0))],[⟨42,conL c (.slice Acrh c.r.held.length Ccrh)⟩,⟨42,conL c (.slice v1a c.r.held.length v1c)⟩,⟨42,conL c (.slice v1a c.r.held.length v1c)⟩],[],[ownF w.heap.size (.slice v1a c.r.held.length v1c) 2 (c.r.held.map pceCells),slF (.slice Acrh c.r.held.length Ccrh) 2 (c.r.held.map pceCells)]⟩ (by kernel_rfl) ?_
  refine xw_ret ?_
  have hmod : pump c window = (c,[]) := by first | (simp [pump, *]; done) | exact pump_yes hok hs8 hs7 hS hL (by first | exact HT.symm | (unfold tmr; rw [show L.isEmpty = decide (L.length = 0) from by cases L <;> rfl]; simp only [decide_eq_true_eq]; split <;> (try split) <;> omega))
  exact ⟨[.agg (conL c (.slice v1a c.r.held.length v1c)).toArray,.slice none 0 0],by kernel_rfl,fun w' hb hf ha => by rw [hmod]; exact xr_two ((v1a,v1c),(none,0)) rfl rfl (ownF_ownF (hf (ownF w.heap.size (.slice v1a c.r.held.length v1c) 2 (c.r.held.map pceCells)) (by simp)) hB) (fun b hb => ownF_lo (hf (ownF w.heap.size (.slice v1a c.r.held.length v1c) 2 (c.r.held.map pceCells)) (by simp)) hb) (.inl ⟨rfl,_,rfl⟩) (fun b hb => (hb.1 rfl).elim) (apart_nil2 rfl) hb⟩
  have h3p := eqF h3
  refine xl_endS [1,4,6,25] [(1,.v (.int .i64 window)),(4,.p 1 0),(6,.p 2 0),(25,.v (.bool (c.state == 7)))] (by kernel_rfl) ?_
  refine xw_cond (b := c.state == 7) (by kernel_rfl) (fun h4 => ?_) (fun h4 => ?_)
  have h4p := eqT h4
  refine xw_seq ?_
  refine xw_region ?_
  refine xl_end [4,5] ⟨[(4,.p 1 0),(5,.v (.slice none 0 0))],[⟨42,conL c (.slice Acrh c.r.held.length Ccrh)⟩,⟨42,conL c (.slice v1a c.r.held.length v1c)⟩,⟨42,conL c (.slice v1a c.r.held.length v1c)⟩],[],[ownF w.heap.size (.slice v1a c.r.held.length v1c) 2 (c.r.held.map pceCells),slF (.slice Acrh c.r.held.length Ccrh) 2 (c.r.held.map pceCells)]⟩ (by kernel_rfl) ?_
  refine xw_ret ?_
  have hmod : pump c window = (c,[]) := by first | (simp [pump, *]; done) | exact pump_yes hok hs8 hs7 hS hL (by first | exact HT.symm | (unfold tmr; rw [show L.isEmpty = decide (L.length = 0) from by cases L <;> rfl]; simp only [decide_eq_true_eq]; split <;> (try split) <;> omega))
  exact ⟨[.agg (conL c (.slice v1a c.r.held.length v1c)).toArray,.slice none 0 0],by kernel_rfl,fun w' hb hf ha => by rw [hmod]; exact xr_two ((v1a,v1c),(none,0)) rfl rfl (ownF_ownF (hf (ownF w.heap.size (.slice v1a c.r.held.length v1c) 2 (c.r.held.map pceCells)) (by simp)) hB) (fun b hb => ownF_lo (hf (ownF w.heap.size (.slice v1a c.r.held.length v1c) 2 (c.r.held.map pceCells)) (by simp)) hb) (.inl ⟨rfl,_,rfl⟩) (fun b hb => (hb.1 rfl).elim) (apart_nil2 rfl) hb⟩
  have h4p := eqF h4
  refine xw_skip ?_
  refine xw_seq ?_
  refine xw_region ?_
  refine xl_hvS 0 [1,4,6] [(1,.v (.int .i64 window)),(4,.p 1 0),(6,.p 2 0)] (by kernel_rfl) rfl (by kernel_rfl) rfl (by kernel_rfl) (hv_build (e := 51) (K := 13) (bytes := 104) [] rfl (by kernel_rfl) (by kernel_rfl) (by kernel_rfl) (by kernel_rfl) (by kernel_rfl) (rs := ([] : List Seg).map segCells) rfl) ?_
  intro g5
  refine xl_endS [1,4,6,7] [(1,.v (.int .i64 window)),(4,.p 1 0),(6,.p 2 0),(7,.v (.slice (some ⟨g5,0,none⟩) 0 0))] (by kernel_rfl) ?_
  refine xw_seq ?_
  refine xw_block ?_
  have hok : conOk c = true := by simp_all
  have hs8 : ¬ c.state = 8 := by simp_all
  have hs7 : ¬ c.state = 7 := by simp_all
  refine xw_loopW (α := {x : Snd × List Seg × Option Addr × Nat // (fun (s : Snd) (L : List Seg) (A : Option Addr) (cap : Nat) => (pumpC c.s window (mssO c.o)).1 = (pumpC s window (mssO c.o)).1 ∧ (pumpC c.s window (mssO c.o)).2.map (segOf c) = L ++ (pumpC s window (mssO c.o)).2.map (segOf c) ∧ L.length + meas s ≤ 49) x.1 x.2.1 x.2.2.1 x.2.2.2}) (fun x => (fun (s : Snd) (L : List Seg) (A : Option Addr) (cap : Nat) => (⟨[(1,.v (.int .i64 window)),(4,.p 1 0),(6,.p 2 0),(7,.v (.slice A L.length cap))],[⟨42,conL c (.slice Acrh c.r.held.length Ccrh)⟩,⟨42,conZ⟩,⟨42,conL { c with s := s } (.slice v1a c.r.held.length v1c)⟩],[],[rowF w.heap.size 51 13 (.slice A L.length cap) (L.map segCells),ownF w.heap.size (.slice v1a c.r.held.length v1c) 2 (c.r.held.map pceCells),slF (.slice Acrh c.r.held.length Ccrh) 2 (c.r.held.map pceCells)]⟩ : St)) x.1.1 x.1.2.1 x.1.2.2.1 x.1.2.2.2) (fun x => (fun (s : Snd) (L : List Seg) (A : Option Addr) (cap : Nat) => meas s) x.1.1 x.1.2.1 x.1.2.2.1 x.1.2.2.2) ⟨(c.s,([] : List Seg),(some ⟨g5,0,none⟩),0),⟨rfl,rfl,(by have := meas_le (conOk_s hok); simp only [List.length_nil]; omega)⟩⟩ ((wk_pick [0,1,2] [rowF w.heap.size 51 13 (.slice (some ⟨g5,0,none⟩) 0 0) (([] : List Seg).map segCells),ownF w.heap.size (.slice v1a c.r.held.length v1c) 2 (c.r.held.map pceCells),slF (.slice Acrh c.r.held.length Ccrh) 2 (c.r.held.map pceCells)] (by kernel_rfl) (by kernel_rfl)).trans <| wk_forget 3 0 [1,4,6,7] (by kernel_rfl) (by kernel_rfl) (by kernel_rfl)) ?_
  rintro ⟨⟨s,L,A,cap⟩,HS,HL,HR⟩
  refine xw_wk (Wk.of_eq (s' := ⟨[(1,.v (.int .i64 window)),(4,.p 1 0),(6,.p 2 0),(7,.v (.slice A L.length cap))],[⟨42,conL c (.slice Acrh c.r.held.length Ccrh)⟩,⟨42,conZ⟩,⟨42,conL { c with s := s } (.slice v1a c.r.held.length v1c)⟩],[],[rowF w.heap.size 51 13 (.slice A L.length cap) (L.map segCells),ownF w.heap.size (.slice v1a c.r.held.length v1c) 2 (c.r.held.map pceCells),slF (.slice Acrh c.r.held.length Ccrh) 2 (c.r.held.map pceCells)]⟩) rfl) ?_
  try dsimp only at HS HL HR
  refine xw_block ?_
  refine xw_seq ?_
  refine xw_join ⟨[(1,.v (.int .i64 window)),(4,.p 1 0),(6,.p 2 0),(7,.v (.slice A L.length cap)),(8,.p 3 0),(9,.v (.bool ((nextChunk s window (mssO c.o)).2)))],[⟨42,conL c (.slice Acrh c.r.held.length Ccrh)⟩,⟨42,conZ⟩,⟨42,conL { c with s := s } (.slice v1a c.r.held.length v1c)⟩,⟨116,chkL (nextChunk s window (mssO c.o)).1⟩],[],[rowF w.heap.size 51 13 (.slice A L.length cap) (L.map segCells),ownF w.heap.size (.slice v1a c.r.held.length v1c) 2 (c.r.held.map pceCells),slF (.slice Acrh c.r.held.length Ccrh) 2 (c.r.held.map pceCells)]⟩ ?_ ?_
  refine xe_region [] (by kernel_rfl) (fun ρ σ => ?_)
  refine xe_tkS [0,1,2,3] [32,31,30,1,4,6,7] 8 [(32,.v (.agg (conL { c with s := s } (.slice v1a c.r.held.length v1c)).toArray)),(31,.v (.int .i64 window)),(30,.v (.agg (sndL s).toArray)),(1,.v (.int .i64 window)),(4,.p 1 0),(6,.p 2 0),(7,.v (.slice A L.length cap))] (fun _ _ h => h) rfl (by kernel_rfl) ?_
  refine xe_all [4,9] (by kernel_rfl) (by simp) ⟨?_,?_⟩
  refine xs_call 4 109 [.agg (conL { c with s := s } (.slice v1a c.r.held.length v1c)).toArray] (some 33) rfl (by kernel_rfl) rfl (by kernel_rfl) (xc_b fun ww hf => yiMssFor_c ({ c with s := s }) (.slice v1a c.r.held.length v1c) ww ) ?_
  intro _
  refine xe_all [5,9] (by kernel_rfl) (by simp) ⟨?_,?_⟩
  refine xs_call 5 108 [.agg (sndL s).toArray,.int .i64 window,.int .i64 (mssO c.o)] (some 34) rfl (by kernel_rfl) rfl (by kernel_rfl) (xc_b fun ww hf => yiNextChunk_c s window (mssO c.o) ww  (by omega)) ?_
  intro _
  refine xe_tkS [6,7,8] [36,35,1,4,6,7] 3 [(36,.v (.bool ((nextChunk s window (mssO c.o)).2))),(35,.v (.agg (chkL (nextChunk s window (mssO c.o)).1).toArray)),(1,.v (.int .i64 window)),(4,.p 1 0),(6,.p 2 0),(7,.v (.slice A L.length cap))] (fun _ _ h => h) rfl (by kernel_rfl) ?_
  refine xe_all [9] (by kernel_rfl) (by simp) ?_
  refine xs_box 9 ⟨116,chkL (⟨0,(⟨#[]⟩ : ByteArray),false⟩ : Chk)⟩ _ rfl (by kernel_rfl) (by kernel_rfl) (by kernel_rfl) (by kernel_rfl) rfl ?_
  refine xe_all [10] (by kernel_rfl) (by simp) ?_
  refine xs_store 10 3 0 [.int .i64 ((nextChunk s window (mssO c.o)).1.seq),.string ((nextChunk s window (mssO c.o)).1.text),.bool ((nextChunk s window (mssO c.o)).1.fin)] _ rfl (by kernel_rfl) (by kernel_rfl) (by kernel_rfl) (by kernel_rfl) (by first | exact .inr rfl | exact .inl rfl) (by kernel_rfl) rfl ?_
  refine xe_tkS [11] [9,8,1,4,6,7] 0 [(9,.v (.bool ((nextChunk s window (mssO c.o)).2))),(8,.p 3 0),(1,.v (.int .i64 window)),(4,.p 1 0),(6,.p 2 0),(7,.v (.slice A L.length cap))] (fun _ _ h => h) rfl (by kernel_rfl) ?_
  refine xe_done (by kernel_rfl) ?_
  exact wk_forget 4 0 [1,4,6,7,8,9] (by kernel_rfl) (by kernel_rfl) (by kernel_rfl)
  refine xs_box 9 ⟨116,chkL (⟨0,(⟨#[]⟩ : ByteArray),false⟩ : Chk)⟩ _ rfl (by kernel_rfl) (by kernel_rfl) (by kernel_rfl) (by kernel_rfl) rfl ?_
  refine xe_all [5] (by kernel_rfl) (by simp) ?_
  refine xs_call 5 108 [.agg (sndL s).toArray,.int .i64 window,.int .i64 (mssO c.o)] (some 34) rfl (by kernel_rfl) rfl (by kernel_rfl) (xc_b fun ww hf => yiNextChunk_c s window (mssO c.o) ww  (by omega)) ?_
  intro _
  refine xe_tkS [6,7,8] [36,35,8,1,4,6,7] 2 [(36,.v (.bool ((nextChunk s window (mssO c.o)).2))),(35,.v (.agg (chkL (nextChunk s window (mssO c.o)).1).toArray)),(8,.p 3 0),(1,.v (.int .i64 window)),(4,.p 1 0),(6,.p 2 0),(7,.v (.slice A L.length cap))] (fun _ _ h => h) rfl (by kernel_rfl) ?_
  refine xe_all [10] (by kernel_rfl) (by simp) ?_
  refine xs_store 10 3 0 [.int .i64 ((nextChunk s window (mssO c.o)).1.seq),.string ((nextChunk s window (mssO c.o)).1.text),.bool ((nextChunk s window (mssO c.o)).1.fin)] _ rfl (by kernel_rfl) (by kernel_rfl) (by kernel_rfl) (by kernel_rfl) (by first | exact .inr rfl | exact .inl rfl) (by kernel_rfl) rfl ?_
  refine xe_tkS [11] [9,8,1,4,6,7] 0 [(9,.v (.bool ((nextChunk s window (mssO c.o)).2))),(8,.p 3 0),(1,.v (.int .i64 window)),(4,.p 1 0),(6,.p 2 0),(7,.v (.slice A L.length cap))] (fun _ _ h => h) rfl (by kernel_rfl) ?_
  refine xe_done (by kernel_rfl) ?_
  exact wk_forget 4 0 [1,4,6,7,8,9] (by kernel_rfl) (by kernel_rfl) (by kernel_rfl)
  refine xs_box 9 ⟨116,chkL (⟨0,(⟨#[]⟩ : ByteArray),false⟩ : Chk)⟩ _ rfl (by kernel_rfl) (by kernel_rfl) (by kernel_rfl) (by kernel_rfl) rfl ?_
  refine xe_all [4] (by kernel_rfl) (by simp) ?_
  refine xs_call 4 109 [.agg (conL { c with s := s } (.slice v1a c.r.held.length v1c)).toArray] (some 33) rfl (by kernel_rfl) rfl (by kernel_rfl) (xc_b fun ww hf => yiMssFor_c ({ c with s := s }) (.slice v1a c.r.held.length v1c) ww ) ?_
  intro _
  refine xe_all [5] (by kernel_rfl) (by simp) ?_
  refine xs_call 5 108 [.agg (sndL s).toArray,.int .i64 window,.int .i64 (mssO c.o)] (some 34) rfl (by kernel_rfl) rfl (by kernel_rfl) (xc_b fun ww hf => yiNextChunk_c s window (mssO c.o) ww  (by omega)) ?_
  intro _
  refine xe_tkS [6,7,8] [36,35,8,1,4,6,7] 2 [(36,.v (.bool ((nextChunk s window (mssO c.o)).2))),(35,.v (.agg (chkL (nextChunk s window (mssO c.o)).1).toArray)),(8,.p 3 0),(1,.v (.int .i64 window)),(4,.p 1 0),(6,.p 2 0),(7,.v (.slice A L.length cap))] (fun _ _ h => h) rfl (by kernel_rfl) ?_
  refine xe_all [10] (by kernel_rfl) (by simp) ?_
  refine xs_store 10 3 0 [.int .i64 ((nextChunk s window (mssO c.o)).1.seq),.string ((nextChunk s window (mssO c.o)).1.text),.bool ((nextChunk s window (mssO c.o)).1.fin)] _ rfl (by kernel_rfl) (by kernel_rfl) (by kernel_rfl) (by kernel_rfl) (by first | exact .inr rfl | exact .inl rfl) (by kernel_rfl) rfl ?_
  refine xe_tkS [11] [9,8,1,4,6,7] 0 [(9,.v (.bool ((nextChunk s window (mssO c.o)).2))),(8,.p 3 0),(1,.v (.int .i64 window)),(4,.p 1 0),(6,.p 2 0),(7,.v (.slice A L.length cap))] (fun _ _ h => h) rfl (by kernel_rfl) ?_
  refine xe_done (by kernel_rfl) ?_
  exact wk_forget 4 0 [1,4,6,7,8,9] (by kernel_rfl) (by kernel_rfl) (by kernel_rfl)
  refine xw_seq ?_
  refine xw_seq ?_
  refine xw_region ?_
  refine xl_endS [1,4,6,7,8,38] [(1,.v (.int .i64 window)),(4,.p 1 0),(6,.p 2 0),(7,.v (.slice A L.length cap)),(8,.p 3 0),(38,.v (.bool (!((nextChunk s window (mssO c.o)).2))))] (by kernel_rfl) ?_
  refine xw_cond (b := !((nextChunk s window (mssO c.o)).2)) (by kernel_rfl) (fun h6 => ?_) (fun h6 => ?_)
  have hno := not_t h6
  have hS := pumpS_end hno HS
  have hL := pumpL_end hno HL
  refine xw_exit ?_
  refine xw_seq ?_
  refine xw_seq ?_
  refine xw_region ?_
  refine xl_runS 4 [4,6,7,72] [(4,.p 1 0),(6,.p 2 0),(7,.v (.slice A L.length cap)),(72,.v (.bool (decide (((L.length : Nat) : Int) > 0))))] (by kernel_rfl) ?_
  refine xl_split 72 (b := decide (((L.length : Nat) : Int) > 0)) (by kernel_rfl) (fun h7 => ?_) (fun h7 => ?_)
  have h7p : (((L.length : Nat) : Int) > 0) := of_decide_eq_true h7
  refine xl_endS [4,6,7,76] [(4,.p 1 0),(6,.p 2 0),(7,.v (.slice A L.length cap)),(76,.v (.bool (c.timer == 0)))] (by kernel_rfl) ?_
  refine xw_cond (b := c.timer == 0) (by kernel_rfl) (fun h8 => ?_) (fun h8 => ?_)
  have h8p := eqT h8
  refine xw_region ?_
  refine xl_end [4,6,7] ⟨[(4,.p 1 0),(6,.p 2 0),(7,.v (.slice A L.length cap))],[⟨42,conL c (.slice Acrh c.r.held.length Ccrh)⟩,⟨42,conZ⟩,⟨42,conL { c with s := s,timer := 3 } (.slice v1a c.r.held.length v1c)⟩,⟨116,chkL (nextChunk s window (mssO c.o)).1⟩],[],[rowF w.heap.size 51 13 (.slice A L.length cap) (L.map segCells),ownF w.heap.size (.slice v1a c.r.held.length v1c) 2 (c.r.held.map pceCells),slF (.slice Acrh c.r.held.length Ccrh) 2 (c.r.held.map pceCells)]⟩ (by kernel_rfl) ?_
  refine xw_seq ?_
  refine xw_region ?_
  refine xl_end [4,5] ⟨[(4,.p 1 0),(5,.v (.slice A L.length cap))],[⟨42,conL c (.slice Acrh c.r.held.length Ccrh)⟩,⟨42,conL { c with s := s,timer := 3 } (.slice v1a c.r.held.length v1c)⟩,⟨42,conL { c with s := s,timer := 3 } (.slice v1a c.r.held.length v1c)⟩,⟨116,chkL (nextChunk s window (mssO c.o)).1⟩],[],[rowF w.heap.size 51 13 (.slice A L.length cap) (L.map segCells),ownF w.heap.size (.slice v1a c.r.held.length v1c) 2 (c.r.held.map pceCells),slF (.slice Acrh c.r.held.length Ccrh) 2 (c.r.held.map pceCells)]⟩ (by kernel_rfl) ?_
  refine xw_ret ?_
  have hmod : pump c window = (({ c with s := s,timer := 3 }),L) := by first | (simp [pump, *]; done) | exact pump_yes hok hs8 hs7 hS hL (by first | exact HT.symm | (unfold tmr; rw [show L.isEmpty = decide (L.length = 0) from by cases L <;> rfl]; simp only [decide_eq_true_eq]; split <;> (try split) <;> omega))
  exact ⟨[.agg (conL { c with s := s,timer := 3 } (.slice v1a c.r.held.length v1c)).toArray,.slice A L.length cap],by kernel_rfl,fun w' hb hf ha => by rw [hmod]; exact xr_two ((v1a,v1c),(A,cap)) rfl rfl (ownF_ownF (hf (ownF w.heap.size (.slice v1a c.r.held.length v1c) 2 (c.r.held.map pceCells)) (by simp)) hB) (fun b hb => ownF_lo (hf (ownF w.heap.size (.slice v1a c.r.held.length v1c) 2 (c.r.held.map pceCells)) (by simp)) hb) (rowF_ownF (hf (rowF w.heap.size 51 13 (.slice A L.length cap) (L.map segCells)) (by simp)) hB) (fun b hb => rowF_lo (hf (rowF w.heap.size 51 13 (.slice A L.length cap) (L.map segCells)) (by simp)) (rowF_blk hb)) (Apart.sub2 ha (i := 1) (j := 0) rfl rfl (by decide) rfl (fun b h => h) (fun b h => rowF_blk h)) hb⟩
  have h8p := eqF h8
  refine xw_skip ?_
  refine xw_seq ?_
  refine xw_region ?_
  refine xl_end [4,5] ⟨[(4,.p 1 0),(5,.v (.slice A L.length cap))],[⟨42,conL c (.slice Acrh c.r.held.length Ccrh)⟩,⟨42,conL { c with s := s } (.slice v1a c.r.held.length v1c)⟩,⟨42,conL { c with s := s } (.slice v1a c.r.held.length v1c)⟩,⟨116,chkL (nextChunk s window (mssO c.o)).1⟩],[],[rowF w.heap.size 51 13 (.slice A L.length cap) (L.map segCells),ownF w.heap.size (.slice v1a c.r.held.length v1c) 2 (c.r.held.map pceCells),slF (.slice Acrh c.r.held.length Ccrh) 2 (c.r.held.map pceCells)]⟩ (by kernel_rfl) ?_
  refine xw_ret ?_
  have hmod : pump c window = (({ c with s := s }),L) := by first | (simp [pump, *]; done) | exact pump_yes hok hs8 hs7 hS hL (by first | exact HT.symm | (unfold tmr; rw [show L.isEmpty = decide (L.length = 0) from by cases L <;> rfl]; simp only [decide_eq_true_eq]; split <;> (try split) <;> omega))
  exact ⟨[.agg (conL { c with s := s } (.slice v1a c.r.held.length v1c)).toArray,.slice A L.length cap],by kernel_rfl,fun w' hb hf ha => by rw [hmod]; exact xr_two ((v1a,v1c),(A,cap)) rfl rfl (ownF_ownF (hf (ownF w.heap.size (.slice v1a c.r.held.length v1c) 2 (c.r.held.map pceCells)) (by simp)) hB) (fun b hb => ownF_lo (hf (ownF w.heap.size (.slice v1a c.r.held.length v1c) 2 (c.r.held.map pceCells)) (by simp)) hb) (rowF_ownF (hf (rowF w.heap.size 51 13 (.slice A L.length cap) (L.map segCells)) (by simp)) hB) (fun b hb => rowF_lo (hf (rowF w.heap.size 51 13 (.slice A L.length cap) (L.map segCells)) (by simp)) (rowF_blk hb)) (Apart.sub2 ha (i := 1) (j := 0) rfl rfl (by decide) rfl (fun b h => h) (fun b h => rowF_blk h)) hb⟩
  have h7p : ¬ (((L.length : Nat) : Int) > 0) := of_decide_eq_false h7
  refine xl_endS [4,6,7,76] [(4,.p 1 0),(6,.p 2 0),(7,.v (.slice A L.length cap)),(76,.v (.bool false))] (by kernel_rfl) ?_
  refine xw_false (by kernel_rfl) ?_
  refine xw_skip ?_
  refine xw_seq ?_
  refine xw_region ?_
  refine xl_end [4,5] ⟨[(4,.p 1 0),(5,.v (.slice A L.length cap))],[⟨42,conL c (.slice Acrh c.r.held.length Ccrh)⟩,⟨42,conL { c with s := s } (.slice v1a c.r.held.length v1c)⟩,⟨42,conL { c with s := s } (.slice v1a c.r.held.length v1c)⟩,⟨116,chkL (nextChunk s window (mssO c.o)).1⟩],[],[rowF w.heap.size 51 13 (.slice A L.length cap) (L.map segCells),ownF w.heap.size (.slice v1a c.r.held.length v1c) 2 (c.r.held.map pceCells),slF (.slice Acrh c.r.held.length Ccrh) 2 (c.r.held.map pceCells)]⟩ (by kernel_rfl) ?_
  refine xw_ret ?_
  have hmod : pump c window = (({ c with s := s }),L) := by first | (simp [pump, *]; done) | exact pump_yes hok hs8 hs7 hS hL (by first | exact HT.symm | (unfold tmr; rw [show L.isEmpty = decide (L.length = 0) from by cases L <;> rfl]; simp only [decide_eq_true_eq]; split <;> (try split) <;> omega))
  exact ⟨[.agg (conL { c with s := s } (.slice v1a c.r.held.length v1c)).toArray,.slice A L.length cap],by kernel_rfl,fun w' hb hf ha => by rw [hmod]; exact xr_two ((v1a,v1c),(A,cap)) rfl rfl (ownF_ownF (hf (ownF w.heap.size (.slice v1a c.r.held.length v1c) 2 (c.r.held.map pceCells)) (by simp)) hB) (fun b hb => ownF_lo (hf (ownF w.heap.size (.slice v1a c.r.held.length v1c) 2 (c.r.held.map pceCells)) (by simp)) hb) (rowF_ownF (hf (rowF w.heap.size 51 13 (.slice A L.length cap) (L.map segCells)) (by simp)) hB) (fun b hb => rowF_lo (hf (rowF w.heap.size 51 13 (.slice A L.length cap) (L.map segCells)) (by simp)) (rowF_blk hb)) (Apart.sub2 ha (i := 1) (j := 0) rfl rfl (by decide) rfl (fun b h => h) (fun b h => rowF_blk h)) hb⟩
  have hyes := not_f h6
  refine xw_skip ?_
  refine xw_seq ?_
  refine xw_region ?_
  refine xl_callS 1 [1,4,6,7,8,39] [(1,.v (.int .i64 window)),(4,.p 1 0),(6,.p 2 0),(7,.v (.slice A L.length cap)),(8,.p 3 0),(39,.v (.agg (conL { c with s := s } (.slice v1a c.r.held.length v1c)).toArray))] 101 [.agg (conL { c with s := s } (.slice v1a c.r.held.length v1c)).toArray] (some 40) (by kernel_rfl) rfl (by kernel_rfl) rfl (by kernel_rfl) (xc_b fun ww hf => iAckOf_c c.t.ip c.t.port c.t.my c.state s.una s.data s.sent s.fin s.finSent s.done c.r.next c.r.data c.r.held (.slice v1a c.r.held.length v1c) c.r.fin c.r.done c.window c.most c.o.mss c.o.scale c.o.sack c.o.stamp c.o.val c.o.echo c.timer c.tries ww (by omega)) ?_
  intro _
  refine xl_end [1,4,6,7,8,10] ⟨[(1,.v (.int .i64 window)),(4,.p 1 0),(6,.p 2 0),(7,.v (.slice A L.length cap)),(8,.p 3 0),(10,.p 4 0)],[⟨42,conL c (.slice Acrh c.r.held.length Ccrh)⟩,⟨42,conZ⟩,⟨42,conL { c with s := s } (.slice v1a c.r.held.length v1c)⟩,⟨116,chkL (nextChunk s window (mssO c.o)).1⟩,⟨51,[.int .i64 c.t.my,.int .i64 c.t.port,.int .i64 (nextOf s),.int .i64 c.r.next,.int .i64 16,.int .i64 (windowOf c.r),.int .i64 0,.int .i64 (-1),.bool false,.bool false,.int .i64 0,.int .i64 0,.string (⟨#[]⟩ : ByteArray)]⟩],[],[rowF w.heap.size 51 13 (.slice A L.length cap) (L.map segCells),ownF w.heap.size (.slice v1a c.r.held.length v1c) 2 (c.r.held.map pceCells),slF (.slice Acrh c.r.held.length Ccrh) 2 (c.r.held.map pceCells)]⟩ (by kernel_rfl) ?_
  refine xw_seq ?_
  refine xw_region ?_
  refine xl_end [1,4,6,7,8,10] ⟨[(1,.v (.int .i64 window)),(4,.p 1 0),(6,.p 2 0),(7,.v (.slice A L.length cap)),(8,.p 3 0),(10,.p 4 0)],[⟨42,conL c (.slice Acrh c.r.held.length Ccrh)⟩,⟨42,conZ⟩,⟨42,conL { c with s := s } (.slice v1a c.r.held.length v1c)⟩,⟨116,chkL (nextChunk s window (mssO c.o)).1⟩,⟨51,[.int .i64 c.t.my,.int .i64 c.t.port,.int .i64 ((nextChunk s window (mssO c.o)).1.seq),.int .i64 c.r.next,.int .i64 16,.int .i64 (windowOf c.r),.int .i64 0,.int .i64 (-1),.bool false,.bool false,.int .i64 0,.int .i64 0,.string (⟨#[]⟩ : ByteArray)]⟩],[],[rowF w.heap.size 51 13 (.slice A L.length cap) (L.map segCells),ownF w.heap.size (.slice v1a c.r.held.length v1c) 2 (c.r.held.map pceCells),slF (.slice Acrh c.r.held.length Ccrh) 2 (c.r.held.map pceCells)]⟩ (by kernel_rfl) ?_
  refine xw_seq ?_
  refine xw_region ?_
  refine xl_end [1,4,6,7,8,10] ⟨[(1,.v (.int .i64 window)),(4,.p 1 0),(6,.p 2 0),(7,.v (.slice A L.length cap)),(8,.p 3 0),(10,.p 4 0)],[⟨42,conL c (.slice Acrh c.r.held.length Ccrh)⟩,⟨42,conZ⟩,⟨42,conL { c with s := s } (.slice v1a c.r.held.length v1c)⟩,⟨116,chkL (nextChunk s window (mssO c.o)).1⟩,⟨51,[.int .i64 c.t.my,.int .i64 c.t.port,.int .i64 ((nextChunk s window (mssO c.o)).1.seq),.int .i64 c.r.next,.int .i64 16,.int .i64 (windowOf c.r),.int .i64 0,.int .i64 (-1),.bool false,.bool false,.int .i64 0,.int .i64 0,.string ((nextChunk s window (mssO c.o)).1.text)]⟩],[],[rowF w.heap.size 51 13 (.slice A L.length cap) (L.map segCells),ownF w.heap.size (.slice v1a c.r.held.length v1c) 2 (c.r.held.map pceCells),slF (.slice Acrh c.r.held.length Ccrh) 2 (c.r.held.map pceCells)]⟩ (by kernel_rfl) ?_
  refine xw_seq ?_
  refine xw_seq ?_
  refine xw_region ?_
  refine xl_endS [1,4,6,7,8,10,49] [(1,.v (.int .i64 window)),(4,.p 1 0),(6,.p 2 0),(7,.v (.slice A L.length cap)),(8,.p 3 0),(10,.p 4 0),(49,.v (.bool (!(((nextChunk s window (mssO c.o)).1.text).toList == (⟨#[]⟩ : ByteArray).toList))))] (by kernel_rfl) ?_
  refine xw_cond (b := !(((nextChunk s window (mssO c.o)).1.text).toList == (⟨#[]⟩ : ByteArray).toList)) (by kernel_rfl) (fun h9 => ?_) (fun h9 => ?_)
  have hT : (nextChunk s window (mssO c.o)).1.text.toList.isEmpty = false := by simpa [toList_lit0] using h9
  refine xw_region ?_
  refine xl_end [1,4,6,7,8,10] ⟨[(1,.v (.int .i64 window)),(4,.p 1 0),(6,.p 2 0),(7,.v (.slice A L.length cap)),(8,.p 3 0),(10,.p 4 0)],[⟨42,conL c (.slice Acrh c.r.held.length Ccrh)⟩,⟨42,conZ⟩,⟨42,conL { c with s := s } (.slice v1a c.r.held.length v1c)⟩,⟨116,chkL (nextChunk s window (mssO c.o)).1⟩,⟨51,[.int .i64 c.t.my,.int .i64 c.t.port,.int .i64 ((nextChunk s window (mssO c.o)).1.seq),.int .i64 c.r.next,.int .i64 24,.int .i64 (windowOf c.r),.int .i64 0,.int .i64 (-1),.bool false,.bool false,.int .i64 0,.int .i64 0,.string ((nextChunk s window (mssO c.o)).1.text)]⟩],[],[rowF w.heap.size 51 13 (.slice A L.length cap) (L.map segCells),ownF w.heap.size (.slice v1a c.r.held.length v1c) 2 (c.r.held.map pceCells),slF (.slice Acrh c.r.held.length Ccrh) 2 (c.r.held.map pceCells)]⟩ (by kernel_rfl) ?_
  refine xw_seq ?_
  refine xw_seq ?_
  refine xw_region ?_
  refine xl_endS [1,4,6,7,8,10,55] [(1,.v (.int .i64 window)),(4,.p 1 0),(6,.p 2 0),(7,.v (.slice A L.length cap)),(8,.p 3 0),(10,.p 4 0),(55,.v (.bool ((nextChunk s window (mssO c.o)).1.fin)))] (by kernel_rfl) ?_
  refine xw_cond (b := (nextChunk s window (mssO c.o)).1.fin) (by kernel_rfl) (fun h10 => ?_) (fun h10 => ?_)
  have hF := h10
  refine xw_region ?_
  refine xl_end [1,4,6,7,8,10] ⟨[(1,.v (.int .i64 window)),(4,.p 1 0),(6,.p 2 0),(7,.v (.slice A L.length cap)),(8,.p 3 0),(10,.p 4 0)],[⟨42,conL c (.slice Acrh c.r.held.length Ccrh)⟩,⟨42,conZ⟩,⟨42,conL { c with s := s } (.slice v1a c.r.held.length v1c)⟩,⟨116,chkL (nextChunk s window (mssO c.o)).1⟩,⟨51,[.int .i64 c.t.my,.int .i64 c.t.port,.int .i64 ((nextChunk s window (mssO c.o)).1.seq),.int .i64 c.r.next,.int .i64 25,.int .i64 (windowOf c.r),.int .i64 0,.int .i64 (-1),.bool false,.bool false,.int .i64 0,.int .i64 0,.string ((nextChunk s window (mssO c.o)).1.text)]⟩],[],[rowF w.heap.size 51 13 (.slice A L.length cap) (L.map segCells),ownF w.heap.size (.slice v1a c.r.held.length v1c) 2 (c.r.held.map pceCells),slF (.slice Acrh c.r.held.length Ccrh) 2 (c.r.held.map pceCells)]⟩ (by kernel_rfl) ?_
  refine xw_seq ?_
  refine xw_region ?_
  refine xl_hvS 2 [1,4,6,7,8,60,61] [(1,.v (.int .i64 window)),(4,.p 1 0),(6,.p 2 0),(7,.v (.slice A L.length cap)),(8,.p 3 0),(60,.v (.slice A L.length cap)),(61,.v (.agg #[.int .i64 c.t.my,.int .i64 c.t.port,.int .i64 ((nextChunk s window (mssO c.o)).1.seq),.int .i64 c.r.next,.int .i64 25,.int .i64 (windowOf c.r),.int .i64 0,.int .i64 (-1),.bool false,.bool false,.int .i64 0,.int .i64 0,.string ((nextChunk s window (mssO c.o)).1.text)]))] (by kernel_rfl) rfl (by kernel_rfl) rfl (by kernel_rfl) (hv_build (e := 51) (K := 13) (bytes := 104) [.agg #[.int .i64 c.t.my,.int .i64 c.t.port,.int .i64 ((nextChunk s window (mssO c.o)).1.seq),.int .i64 c.r.next,.int .i64 25,.int .i64 (windowOf c.r),.int .i64 0,.int .i64 (-1),.bool false,.bool false,.int .i64 0,.int .i64 0,.string ((nextChunk s window (mssO c.o)).1.text)]] rfl (by kernel_rfl) (by kernel_rfl) (by kernel_rfl) (by kernel_rfl) (by kernel_rfl) (rs := ([⟨c.t.my,c.t.port,(nextChunk s window (mssO c.o)).1.seq,c.r.next,25,windowOf c.r,⟨0,(-1),false,false,0,0⟩,(nextChunk s window (mssO c.o)).1.text⟩] : List Seg).map segCells) rfl) ?_
  intro g11
  refine xl_hvS 0 [1,4,6,7,8,60,62] [(1,.v (.int .i64 window)),(4,.p 1 0),(6,.p 2 0),(7,.v (.slice A L.length cap)),(8,.p 3 0),(60,.v (.slice A L.length cap)),(62,.v (.slice (some ⟨g11,0,none⟩) 1 1))] (by kernel_rfl) rfl (by kernel_rfl) rfl (by kernel_rfl) (hv_append (e := 51) (K := 13) (bytes := 104) (i := 1) (q := (L ++ ([⟨c.t.my,c.t.port,(nextChunk s window (mssO c.o)).1.seq,c.r.next,25,windowOf c.r,⟨0,(-1),false,false,0,0⟩,(nextChunk s window (mssO c.o)).1.text⟩] : List Seg)).length) (new := ([⟨c.t.my,c.t.port,(nextChunk s window (mssO c.o)).1.seq,c.r.next,25,windowOf c.r,⟨0,(-1),false,false,0,0⟩,(nextChunk s window (mssO c.o)).1.text⟩] : List Seg).map segCells) (rs' := (L ++ ([⟨c.t.my,c.t.port,(nextChunk s window (mssO c.o)).1.seq,c.r.next,25,windowOf c.r,⟨0,(-1),false,false,0,0⟩,(nextChunk s window (mssO c.o)).1.text⟩] : List Seg)).map segCells) rfl rfl rfl rfl (by kernel_rfl) (by kernel_rfl) (by kernel_rfl) rfl (by simp) (by rw [List.map_append]) (by simp) (fun ww hf => rowF_sl (hf (rowF w.heap.size 51 13 (.slice (some ⟨g11,0,none⟩) 1 1) (([⟨c.t.my,c.t.port,(nextChunk s window (mssO c.o)).1.seq,c.r.next,25,windowOf c.r,⟨0,(-1),false,false,0,0⟩,(nextChunk s window (mssO c.o)).1.text⟩] : List Seg).map segCells)) (by simp))) (by intro r hr; obtain ⟨x,hx,rfl⟩ := List.mem_map.1 hr; exact ⟨rfl,by simp [segCells,Value.oneCell']⟩) (by simp only [List.length_map,List.length_append,List.length_cons,List.length_nil,maxLen]; omega) (by simp only [List.length_map,List.length_append,List.length_cons,List.length_nil,maxLen]; omega)) ?_
  rintro ⟨v12a,v12c⟩
  refine xl_endS [1,4,6,7,8] [(1,.v (.int .i64 window)),(4,.p 1 0),(6,.p 2 0),(7,.v (.slice v12a ((L ++ ([⟨c.t.my,c.t.port,(nextChunk s window (mssO c.o)).1.seq,c.r.next,25,windowOf c.r,⟨0,(-1),false,false,0,0⟩,(nextChunk s window (mssO c.o)).1.text⟩] : List Seg)).length) v12c)),(8,.p 3 0)] (by kernel_rfl) ?_
  refine xw_region ?_
  refine xl_callS 3 [1,4,6,7,65,66] [(1,.v (.int .i64 window)),(4,.p 1 0),(6,.p 2 0),(7,.v (.slice v12a ((L ++ ([⟨c.t.my,c.t.port,(nextChunk s window (mssO c.o)).1.seq,c.r.next,25,windowOf c.r,⟨0,(-1),false,false,0,0⟩,(nextChunk s window (mssO c.o)).1.text⟩] : List Seg)).length) v12c)),(65,.v (.agg (sndL s).toArray)),(66,.v (.agg (chkL (nextChunk s window (mssO c.o)).1).toArray))] 110 [.agg (sndL s).toArray,.agg (chkL (nextChunk s window (mssO c.o)).1).toArray] (some 67) (by kernel_rfl) rfl (by kernel_rfl) rfl (by kernel_rfl) (xc_b fun ww hf => yiSentOff_c s ((nextChunk s window (mssO c.o)).1) ww  ) ?_
  intro _
  refine xl_end [1,4,6,7] ⟨[(1,.v (.int .i64 window)),(4,.p 1 0),(6,.p 2 0),(7,.v (.slice v12a ((L ++ ([⟨c.t.my,c.t.port,(nextChunk s window (mssO c.o)).1.seq,c.r.next,25,windowOf c.r,⟨0,(-1),false,false,0,0⟩,(nextChunk s window (mssO c.o)).1.text⟩] : List Seg)).length) v12c))],[⟨42,conL c (.slice Acrh c.r.held.length Ccrh)⟩,⟨42,conZ⟩,⟨42,conL { c with s := (sentOff s ((nextChunk s window (mssO c.o)).1)) } (.slice v1a c.r.held.length v1c)⟩,⟨116,chkL (nextChunk s window (mssO c.o)).1⟩,⟨51,[.int .i64 c.t.my,.int .i64 c.t.port,.int .i64 ((nextChunk s window (mssO c.o)).1.seq),.int .i64 c.r.next,.int .i64 25,.int .i64 (windowOf c.r),.int .i64 0,.int .i64 (-1),.bool false,.bool false,.int .i64 0,.int .i64 0,.string ((nextChunk s window (mssO c.o)).1.text)]⟩],[],[rowF w.heap.size 51 13 (.slice v12a ((L ++ ([⟨c.t.my,c.t.port,(nextChunk s window (mssO c.o)).1.seq,c.r.next,25,windowOf c.r,⟨0,(-1),false,false,0,0⟩,(nextChunk s window (mssO c.o)).1.text⟩] : List Seg)).length) v12c) ((L ++ ([⟨c.t.my,c.t.port,(nextChunk s window (mssO c.o)).1.seq,c.r.next,25,windowOf c.r,⟨0,(-1),false,false,0,0⟩,(nextChunk s window (mssO c.o)).1.text⟩] : List Seg)).map segCells),rowF w.heap.size 51 13 (.slice (some ⟨g11,0,none⟩) 1 1) (([⟨c.t.my,c.t.port,(nextChunk s window (mssO c.o)).1.seq,c.r.next,25,windowOf c.r,⟨0,(-1),false,false,0,0⟩,(nextChunk s window (mssO c.o)).1.text⟩] : List Seg).map segCells),ownF w.heap.size (.slice v1a c.r.held.length v1c) 2 (c.r.held.map pceCells),slF (.slice Acrh c.r.held.length Ccrh) 2 (c.r.held.map pceCells)]⟩ (by kernel_rfl) ?_
  have hrow : segOf c (nextChunk s window (mssO c.o)).1 = ⟨c.t.my,c.t.port,(nextChunk s window (mssO c.o)).1.seq,c.r.next,25,windowOf c.r,⟨0,(-1),false,false,0,0⟩,(nextChunk s window (mssO c.o)).1.text⟩ := by simp [segOf,hT,hF]
  exact ⟨⟨(sentOff s (nextChunk s window (mssO c.o)).1,(L ++ ([⟨c.t.my,c.t.port,(nextChunk s window (mssO c.o)).1.seq,c.r.next,25,windowOf c.r,⟨0,(-1),false,false,0,0⟩,(nextChunk s window (mssO c.o)).1.text⟩] : List Seg)),v12a,v12c),⟨pumpS_step hyes HS,pumpL_step hyes hrow HL,row_len HR (meas_next hyes)⟩⟩,(wk_pick [0,2,3] [rowF w.heap.size 51 13 (.slice v12a ((L ++ ([⟨c.t.my,c.t.port,(nextChunk s window (mssO c.o)).1.seq,c.r.next,25,windowOf c.r,⟨0,(-1),false,false,0,0⟩,(nextChunk s window (mssO c.o)).1.text⟩] : List Seg)).length) v12c) ((L ++ ([⟨c.t.my,c.t.port,(nextChunk s window (mssO c.o)).1.seq,c.r.next,25,windowOf c.r,⟨0,(-1),false,false,0,0⟩,(nextChunk s window (mssO c.o)).1.text⟩] : List Seg)).map segCells),ownF w.heap.size (.slice v1a c.r.held.length v1c) 2 (c.r.held.map pceCells),slF (.slice Acrh c.r.held.length Ccrh) 2 (c.r.held.map pceCells)] (by kernel_rfl) (by kernel_rfl)).trans <| wk_forget 3 0 [1,4,6,7] (by kernel_rfl) (by kernel_rfl) (by kernel_rfl),by show (fun (s : Snd) (L : List Seg) (A : Option Addr) (cap : Nat) => meas s) (sentOff s (nextChunk s window (mssO c.o)).1) (L ++ ([⟨c.t.my,c.t.port,(nextChunk s window (mssO c.o)).1.seq,c.r.next,25,windowOf c.r,⟨0,(-1),false,false,0,0⟩,(nextChunk s window (mssO c.o)).1.text⟩] : List Seg)) v12a v12c < meas s; exact meas_next hyes⟩
  have hF := h10
  refine xw_skip ?_
  refine xw_seq ?_
  refine xw_region ?_
  refine xl_hvS 2 [1,4,6,7,8,60,61] [(1,.v (.int .i64 window)),(4,.p 1 0),(6,.p 2 0),(7,.v (.slice A L.length cap)),(8,.p 3 0),(60,.v (.slice A L.length cap)),(61,.v (.agg #[.int .i64 c.t.my,.int .i64 c.t.port,.int .i64 ((nextChunk s window (mssO c.o)).1.seq),.int .i64 c.r.next,.int .i64 24,.int .i64 (windowOf c.r),.int .i64 0,.int .i64 (-1),.bool false,.bool false,.int .i64 0,.int .i64 0,.string ((nextChunk s window (mssO c.o)).1.text)]))] (by kernel_rfl) rfl (by kernel_rfl) rfl (by kernel_rfl) (hv_build (e := 51) (K := 13) (bytes := 104) [.agg #[.int .i64 c.t.my,.int .i64 c.t.port,.int .i64 ((nextChunk s window (mssO c.o)).1.seq),.int .i64 c.r.next,.int .i64 24,.int .i64 (windowOf c.r),.int .i64 0,.int .i64 (-1),.bool false,.bool false,.int .i64 0,.int .i64 0,.string ((nextChunk s window (mssO c.o)).1.text)]] rfl (by kernel_rfl) (by kernel_rfl) (by kernel_rfl) (by kernel_rfl) (by kernel_rfl) (rs := ([⟨c.t.my,c.t.port,(nextChunk s window (mssO c.o)).1.seq,c.r.next,24,windowOf c.r,⟨0,(-1),false,false,0,0⟩,(nextChunk s window (mssO c.o)).1.text⟩] : List Seg).map segCells) rfl) ?_
  intro g13
  refine xl_hvS 0 [1,4,6,7,8,60,62] [(1,.v (.int .i64 window)),(4,.p 1 0),(6,.p 2 0),(7,.v (.slice A L.length cap)),(8,.p 3 0),(60,.v (.slice A L.length cap)),(62,.v (.slice (some ⟨g13,0,none⟩) 1 1))] (by kernel_rfl) rfl (by kernel_rfl) rfl (by kernel_rfl) (hv_append (e := 51) (K := 13) (bytes := 104) (i := 1) (q := (L ++ ([⟨c.t.my,c.t.port,(nextChunk s window (mssO c.o)).1.seq,c.r.next,24,windowOf c.r,⟨0,(-1),false,false,0,0⟩,(nextChunk s window (mssO c.o)).1.text⟩] : List Seg)).length) (new := ([⟨c.t.my,c.t.port,(nextChunk s window (mssO c.o)).1.seq,c.r.next,24,windowOf c.r,⟨0,(-1),false,false,0,0⟩,(nextChunk s window (mssO c.o)).1.text⟩] : List Seg).map segCells) (rs' := (L ++ ([⟨c.t.my,c.t.port,(nextChunk s window (mssO c.o)).1.seq,c.r.next,24,windowOf c.r,⟨0,(-1),false,false,0,0⟩,(nextChunk s window (mssO c.o)).1.text⟩] : List Seg)).map segCells) rfl rfl rfl rfl (by kernel_rfl) (by kernel_rfl) (by kernel_rfl) rfl (by simp) (by rw [List.map_append]) (by simp) (fun ww hf => rowF_sl (hf (rowF w.heap.size 51 13 (.slice (some ⟨g13,0,none⟩) 1 1) (([⟨c.t.my,c.t.port,(nextChunk s window (mssO c.o)).1.seq,c.r.next,24,windowOf c.r,⟨0,(-1),false,false,0,0⟩,(nextChunk s window (mssO c.o)).1.text⟩] : List Seg).map segCells)) (by simp))) (by intro r hr; obtain ⟨x,hx,rfl⟩ := List.mem_map.1 hr; exact ⟨rfl,by simp [segCells,Value.oneCell']⟩) (by simp only [List.length_map,List.length_append,List.length_cons,List.length_nil,maxLen]; omega) (by simp only [List.length_map,List.length_append,List.length_cons,List.length_nil,maxLen]; omega)) ?_
  rintro ⟨v14a,v14c⟩
  refine xl_endS [1,4,6,7,8] [(1,.v (.int .i64 window)),(4,.p 1 0),(6,.p 2 0),(7,.v (.slice v14a ((L ++ ([⟨c.t.my,c.t.port,(nextChunk s window (mssO c.o)).1.seq,c.r.next,24,windowOf c.r,⟨0,(-1),false,false,0,0⟩,(nextChunk s window (mssO c.o)).1.text⟩] : List Seg)).length) v14c)),(8,.p 3 0)] (by kernel_rfl) ?_
  refine xw_region ?_
  refine xl_callS 3 [1,4,6,7,65,66] [(1,.v (.int .i64 window)),(4,.p 1 0),(6,.p 2 0),(7,.v (.slice v14a ((L ++ ([⟨c.t.my,c.t.port,(nextChunk s window (mssO c.o)).1.seq,c.r.next,24,windowOf c.r,⟨0,(-1),false,false,0,0⟩,(nextChunk s window (mssO c.o)).1.text⟩] : List Seg)).length) v14c)),(65,.v (.agg (sndL s).toArray)),(66,.v (.agg (chkL (nextChunk s window (mssO c.o)).1).toArray))] 110 [.agg (sndL s).toArray,.agg (chkL (nextChunk s window (mssO c.o)).1).toArray] (some 67) (by kernel_rfl) rfl (by kernel_rfl) rfl (by kernel_rfl) (xc_b fun ww hf => yiSentOff_c s ((nextChunk s window (mssO c.o)).1) ww  ) ?_
  intro _
  refine xl_end [1,4,6,7] ⟨[(1,.v (.int .i64 window)),(4,.p 1 0),(6,.p 2 0),(7,.v (.slice v14a ((L ++ ([⟨c.t.my,c.t.port,(nextChunk s window (mssO c.o)).1.seq,c.r.next,24,windowOf c.r,⟨0,(-1),false,false,0,0⟩,(nextChunk s window (mssO c.o)).1.text⟩] : List Seg)).length) v14c))],[⟨42,conL c (.slice Acrh c.r.held.length Ccrh)⟩,⟨42,conZ⟩,⟨42,conL { c with s := (sentOff s ((nextChunk s window (mssO c.o)).1)) } (.slice v1a c.r.held.length v1c)⟩,⟨116,chkL (nextChunk s window (mssO c.o)).1⟩,⟨51,[.int .i64 c.t.my,.int .i64 c.t.port,.int .i64 ((nextChunk s window (mssO c.o)).1.seq),.int .i64 c.r.next,.int .i64 24,.int .i64 (windowOf c.r),.int .i64 0,.int .i64 (-1),.bool false,.bool false,.int .i64 0,.int .i64 0,.string ((nextChunk s window (mssO c.o)).1.text)]⟩],[],[rowF w.heap.size 51 13 (.slice v14a ((L ++ ([⟨c.t.my,c.t.port,(nextChunk s window (mssO c.o)).1.seq,c.r.next,24,windowOf c.r,⟨0,(-1),false,false,0,0⟩,(nextChunk s window (mssO c.o)).1.text⟩] : List Seg)).length) v14c) ((L ++ ([⟨c.t.my,c.t.port,(nextChunk s window (mssO c.o)).1.seq,c.r.next,24,windowOf c.r,⟨0,(-1),false,false,0,0⟩,(nextChunk s window (mssO c.o)).1.text⟩] : List Seg)).map segCells),rowF w.heap.size 51 13 (.slice (some ⟨g13,0,none⟩) 1 1) (([⟨c.t.my,c.t.port,(nextChunk s window (mssO c.o)).1.seq,c.r.next,24,windowOf c.r,⟨0,(-1),false,false,0,0⟩,(nextChunk s window (mssO c.o)).1.text⟩] : List Seg).map segCells),ownF w.heap.size (.slice v1a c.r.held.length v1c) 2 (c.r.held.map pceCells),slF (.slice Acrh c.r.held.length Ccrh) 2 (c.r.held.map pceCells)]⟩ (by kernel_rfl) ?_
  have hrow : segOf c (nextChunk s window (mssO c.o)).1 = ⟨c.t.my,c.t.port,(nextChunk s window (mssO c.o)).1.seq,c.r.next,24,windowOf c.r,⟨0,(-1),false,false,0,0⟩,(nextChunk s window (mssO c.o)).1.text⟩ := by simp [segOf,hT,hF]
  exact ⟨⟨(sentOff s (nextChunk s window (mssO c.o)).1,(L ++ ([⟨c.t.my,c.t.port,(nextChunk s window (mssO c.o)).1.seq,c.r.next,24,windowOf c.r,⟨0,(-1),false,false,0,0⟩,(nextChunk s window (mssO c.o)).1.text⟩] : List Seg)),v14a,v14c),⟨pumpS_step hyes HS,pumpL_step hyes hrow HL,row_len HR (meas_next hyes)⟩⟩,(wk_pick [0,2,3] [rowF w.heap.size 51 13 (.slice v14a ((L ++ ([⟨c.t.my,c.t.port,(nextChunk s window (mssO c.o)).1.seq,c.r.next,24,windowOf c.r,⟨0,(-1),false,false,0,0⟩,(nextChunk s window (mssO c.o)).1.text⟩] : List Seg)).length) v14c) ((L ++ ([⟨c.t.my,c.t.port,(nextChunk s window (mssO c.o)).1.seq,c.r.next,24,windowOf c.r,⟨0,(-1),false,false,0,0⟩,(nextChunk s window (mssO c.o)).1.text⟩] : List Seg)).map segCells),ownF w.heap.size (.slice v1a c.r.held.length v1c) 2 (c.r.held.map pceCells),slF (.slice Acrh c.r.held.length Ccrh) 2 (c.r.held.map pceCells)] (by kernel_rfl) (by kernel_rfl)).trans <| wk_forget 3 0 [1,4,6,7] (by kernel_rfl) (by kernel_rfl) (by kernel_rfl),by show (fun (s : Snd) (L : List Seg) (A : Option Addr) (cap : Nat) => meas s) (sentOff s (nextChunk s window (mssO c.o)).1) (L ++ ([⟨c.t.my,c.t.port,(nextChunk s window (mssO c.o)).1.seq,c.r.next,24,windowOf c.r,⟨0,(-1),false,false,0,0⟩,(nextChunk s window (mssO c.o)).1.text⟩] : List Seg)) v14a v14c < meas s; exact meas_next hyes⟩
  have hT : (nextChunk s window (mssO c.o)).1.text.toList.isEmpty = true := by simpa [toList_lit0] using h9
  refine xw_skip ?_
  refine xw_seq ?_
  refine xw_seq ?_
  refine xw_region ?_
  refine xl_endS [1,4,6,7,8,10,55] [(1,.v (.int .i64 window)),(4,.p 1 0),(6,.p 2 0),(7,.v (.slice A L.length cap)),(8,.p 3 0),(10,.p 4 0),(55,.v (.bool ((nextChunk s window (mssO c.o)).1.fin)))] (by kernel_rfl) ?_
  refine xw_cond (b := (nextChunk s window (mssO c.o)).1.fin) (by kernel_rfl) (fun h15 => ?_) (fun h15 => ?_)
  have hF := h15
  refine xw_region ?_
  refine xl_end [1,4,6,7,8,10] ⟨[(1,.v (.int .i64 window)),(4,.p 1 0),(6,.p 2 0),(7,.v (.slice A L.length cap)),(8,.p 3 0),(10,.p 4 0)],[⟨42,conL c (.slice Acrh c.r.held.length Ccrh)⟩,⟨42,conZ⟩,⟨42,conL { c with s := s } (.slice v1a c.r.held.length v1c)⟩,⟨116,chkL (nextChunk s window (mssO c.o)).1⟩,⟨51,[.int .i64 c.t.my,.int .i64 c.t.port,.int .i64 ((nextChunk s window (mssO c.o)).1.seq),.int .i64 c.r.next,.int .i64 17,.int .i64 (windowOf c.r),.int .i64 0,.int .i64 (-1),.bool false,.bool false,.int .i64 0,.int .i64 0,.string ((nextChunk s window (mssO c.o)).1.text)]⟩],[],[rowF w.heap.size 51 13 (.slice A L.length cap) (L.map segCells),ownF w.heap.size (.slice v1a c.r.held.length v1c) 2 (c.r.held.map pceCells),slF (.slice Acrh c.r.held.length Ccrh) 2 (c.r.held.map pceCells)]⟩ (by kernel_rfl) ?_
  refine xw_seq ?_
  refine xw_region ?_
  refine xl_hvS 2 [1,4,6,7,8,60,61] [(1,.v (.int .i64 window)),(4,.p 1 0),(6,.p 2 0),(7,.v (.slice A L.length cap)),(8,.p 3 0),(60,.v (.slice A L.length cap)),(61,.v (.agg #[.int .i64 c.t.my,.int .i64 c.t.port,.int .i64 ((nextChunk s window (mssO c.o)).1.seq),.int .i64 c.r.next,.int .i64 17,.int .i64 (windowOf c.r),.int .i64 0,.int .i64 (-1),.bool false,.bool false,.int .i64 0,.int .i64 0,.string ((nextChunk s window (mssO c.o)).1.text)]))] (by kernel_rfl) rfl (by kernel_rfl) rfl (by kernel_rfl) (hv_build (e := 51) (K := 13) (bytes := 104) [.agg #[.int .i64 c.t.my,.int .i64 c.t.port,.int .i64 ((nextChunk s window (mssO c.o)).1.seq),.int .i64 c.r.next,.int .i64 17,.int .i64 (windowOf c.r),.int .i64 0,.int .i64 (-1),.bool false,.bool false,.int .i64 0,.int .i64 0,.string ((nextChunk s window (mssO c.o)).1.text)]] rfl (by kernel_rfl) (by kernel_rfl) (by kernel_rfl) (by kernel_rfl) (by kernel_rfl) (rs := ([⟨c.t.my,c.t.port,(nextChunk s window (mssO c.o)).1.seq,c.r.next,17,windowOf c.r,⟨0,(-1),false,false,0,0⟩,(nextChunk s window (mssO c.o)).1.text⟩] : List Seg).map segCells) rfl) ?_
  intro g16
  refine xl_hvS 0 [1,4,6,7,8,60,62] [(1,.v (.int .i64 window)),(4,.p 1 0),(6,.p 2 0),(7,.v (.slice A L.length cap)),(8,.p 3 0),(60,.v (.slice A L.length cap)),(62,.v (.slice (some ⟨g16,0,none⟩) 1 1))] (by kernel_rfl) rfl (by kernel_rfl) rfl (by kernel_rfl) (hv_append (e := 51) (K := 13) (bytes := 104) (i := 1) (q := (L ++ ([⟨c.t.my,c.t.port,(nextChunk s window (mssO c.o)).1.seq,c.r.next,17,windowOf c.r,⟨0,(-1),false,false,0,0⟩,(nextChunk s window (mssO c.o)).1.text⟩] : List Seg)).length) (new := ([⟨c.t.my,c.t.port,(nextChunk s window (mssO c.o)).1.seq,c.r.next,17,windowOf c.r,⟨0,(-1),false,false,0,0⟩,(nextChunk s window (mssO c.o)).1.text⟩] : List Seg).map segCells) (rs' := (L ++ ([⟨c.t.my,c.t.port,(nextChunk s window (mssO c.o)).1.seq,c.r.next,17,windowOf c.r,⟨0,(-1),false,false,0,0⟩,(nextChunk s window (mssO c.o)).1.text⟩] : List Seg)).map segCells) rfl rfl rfl rfl (by kernel_rfl) (by kernel_rfl) (by kernel_rfl) rfl (by simp) (by rw [List.map_append]) (by simp) (fun ww hf => rowF_sl (hf (rowF w.heap.size 51 13 (.slice (some ⟨g16,0,none⟩) 1 1) (([⟨c.t.my,c.t.port,(nextChunk s window (mssO c.o)).1.seq,c.r.next,17,windowOf c.r,⟨0,(-1),false,false,0,0⟩,(nextChunk s window (mssO c.o)).1.text⟩] : List Seg).map segCells)) (by simp))) (by intro r hr; obtain ⟨x,hx,rfl⟩ := List.mem_map.1 hr; exact ⟨rfl,by simp [segCells,Value.oneCell']⟩) (by simp only [List.length_map,List.length_append,List.length_cons,List.length_nil,maxLen]; omega) (by simp only [List.length_map,List.length_append,List.length_cons,List.length_nil,maxLen]; omega)) ?_
  rintro ⟨v17a,v17c⟩
  refine xl_endS [1,4,6,7,8] [(1,.v (.int .i64 window)),(4,.p 1 0),(6,.p 2 0),(7,.v (.slice v17a ((L ++ ([⟨c.t.my,c.t.port,(nextChunk s window (mssO c.o)).1.seq,c.r.next,17,windowOf c.r,⟨0,(-1),false,false,0,0⟩,(nextChunk s window (mssO c.o)).1.text⟩] : List Seg)).length) v17c)),(8,.p 3 0)] (by kernel_rfl) ?_
  refine xw_region ?_
  refine xl_callS 3 [1,4,6,7,65,66] [(1,.v (.int .i64 window)),(4,.p 1 0),(6,.p 2 0),(7,.v (.slice v17a ((L ++ ([⟨c.t.my,c.t.port,(nextChunk s window (mssO c.o)).1.seq,c.r.next,17,windowOf c.r,⟨0,(-1),false,false,0,0⟩,(nextChunk s window (mssO c.o)).1.text⟩] : List Seg)).length) v17c)),(65,.v (.agg (sndL s).toArray)),(66,.v (.agg (chkL (nextChunk s window (mssO c.o)).1).toArray))] 110 [.agg (sndL s).toArray,.agg (chkL (nextChunk s window (mssO c.o)).1).toArray] (some 67) (by kernel_rfl) rfl (by kernel_rfl) rfl (by kernel_rfl) (xc_b fun ww hf => yiSentOff_c s ((nextChunk s window (mssO c.o)).1) ww  ) ?_
  intro _
  refine xl_end [1,4,6,7] ⟨[(1,.v (.int .i64 window)),(4,.p 1 0),(6,.p 2 0),(7,.v (.slice v17a ((L ++ ([⟨c.t.my,c.t.port,(nextChunk s window (mssO c.o)).1.seq,c.r.next,17,windowOf c.r,⟨0,(-1),false,false,0,0⟩,(nextChunk s window (mssO c.o)).1.text⟩] : List Seg)).length) v17c))],[⟨42,conL c (.slice Acrh c.r.held.length Ccrh)⟩,⟨42,conZ⟩,⟨42,conL { c with s := (sentOff s ((nextChunk s window (mssO c.o)).1)) } (.slice v1a c.r.held.length v1c)⟩,⟨116,chkL (nextChunk s window (mssO c.o)).1⟩,⟨51,[.int .i64 c.t.my,.int .i64 c.t.port,.int .i64 ((nextChunk s window (mssO c.o)).1.seq),.int .i64 c.r.next,.int .i64 17,.int .i64 (windowOf c.r),.int .i64 0,.int .i64 (-1),.bool false,.bool false,.int .i64 0,.int .i64 0,.string ((nextChunk s window (mssO c.o)).1.text)]⟩],[],[rowF w.heap.size 51 13 (.slice v17a ((L ++ ([⟨c.t.my,c.t.port,(nextChunk s window (mssO c.o)).1.seq,c.r.next,17,windowOf c.r,⟨0,(-1),false,false,0,0⟩,(nextChunk s window (mssO c.o)).1.text⟩] : List Seg)).length) v17c) ((L ++ ([⟨c.t.my,c.t.port,(nextChunk s window (mssO c.o)).1.seq,c.r.next,17,windowOf c.r,⟨0,(-1),false,false,0,0⟩,(nextChunk s window (mssO c.o)).1.text⟩] : List Seg)).map segCells),rowF w.heap.size 51 13 (.slice (some ⟨g16,0,none⟩) 1 1) (([⟨c.t.my,c.t.port,(nextChunk s window (mssO c.o)).1.seq,c.r.next,17,windowOf c.r,⟨0,(-1),false,false,0,0⟩,(nextChunk s window (mssO c.o)).1.text⟩] : List Seg).map segCells),ownF w.heap.size (.slice v1a c.r.held.length v1c) 2 (c.r.held.map pceCells),slF (.slice Acrh c.r.held.length Ccrh) 2 (c.r.held.map pceCells)]⟩ (by kernel_rfl) ?_
  have hrow : segOf c (nextChunk s window (mssO c.o)).1 = ⟨c.t.my,c.t.port,(nextChunk s window (mssO c.o)).1.seq,c.r.next,17,windowOf c.r,⟨0,(-1),false,false,0,0⟩,(nextChunk s window (mssO c.o)).1.text⟩ := by simp [segOf,hT,hF]
  exact ⟨⟨(sentOff s (nextChunk s window (mssO c.o)).1,(L ++ ([⟨c.t.my,c.t.port,(nextChunk s window (mssO c.o)).1.seq,c.r.next,17,windowOf c.r,⟨0,(-1),false,false,0,0⟩,(nextChunk s window (mssO c.o)).1.text⟩] : List Seg)),v17a,v17c),⟨pumpS_step hyes HS,pumpL_step hyes hrow HL,row_len HR (meas_next hyes)⟩⟩,(wk_pick [0,2,3] [rowF w.heap.size 51 13 (.slice v17a ((L ++ ([⟨c.t.my,c.t.port,(nextChunk s window (mssO c.o)).1.seq,c.r.next,17,windowOf c.r,⟨0,(-1),false,false,0,0⟩,(nextChunk s window (mssO c.o)).1.text⟩] : List Seg)).length) v17c) ((L ++ ([⟨c.t.my,c.t.port,(nextChunk s window (mssO c.o)).1.seq,c.r.next,17,windowOf c.r,⟨0,(-1),false,false,0,0⟩,(nextChunk s window (mssO c.o)).1.text⟩] : List Seg)).map segCells),ownF w.heap.size (.slice v1a c.r.held.length v1c) 2 (c.r.held.map pceCells),slF (.slice Acrh c.r.held.length Ccrh) 2 (c.r.held.map pceCells)] (by kernel_rfl) (by kernel_rfl)).trans <| wk_forget 3 0 [1,4,6,7] (by kernel_rfl) (by kernel_rfl) (by kernel_rfl),by show (fun (s : Snd) (L : List Seg) (A : Option Addr) (cap : Nat) => meas s) (sentOff s (nextChunk s window (mssO c.o)).1) (L ++ ([⟨c.t.my,c.t.port,(nextChunk s window (mssO c.o)).1.seq,c.r.next,17,windowOf c.r,⟨0,(-1),false,false,0,0⟩,(nextChunk s window (mssO c.o)).1.text⟩] : List Seg)) v17a v17c < meas s; exact meas_next hyes⟩
  have hF := h15
  refine xw_skip ?_
  refine xw_seq ?_
  refine xw_region ?_
  refine xl_hvS 2 [1,4,6,7,8,60,61] [(1,.v (.int .i64 window)),(4,.p 1 0),(6,.p 2 0),(7,.v (.slice A L.length cap)),(8,.p 3 0),(60,.v (.slice A L.length cap)),(61,.v (.agg #[.int .i64 c.t.my,.int .i64 c.t.port,.int .i64 ((nextChunk s window (mssO c.o)).1.seq),.int .i64 c.r.next,.int .i64 16,.int .i64 (windowOf c.r),.int .i64 0,.int .i64 (-1),.bool false,.bool false,.int .i64 0,.int .i64 0,.string ((nextChunk s window (mssO c.o)).1.text)]))] (by kernel_rfl) rfl (by kernel_rfl) rfl (by kernel_rfl) (hv_build (e := 51) (K := 13) (bytes := 104) [.agg #[.int .i64 c.t.my,.int .i64 c.t.port,.int .i64 ((nextChunk s window (mssO c.o)).1.seq),.int .i64 c.r.next,.int .i64 16,.int .i64 (windowOf c.r),.int .i64 0,.int .i64 (-1),.bool false,.bool false,.int .i64 0,.int .i64 0,.string ((nextChunk s window (mssO c.o)).1.text)]] rfl (by kernel_rfl) (by kernel_rfl) (by kernel_rfl) (by kernel_rfl) (by kernel_rfl) (rs := ([⟨c.t.my,c.t.port,(nextChunk s window (mssO c.o)).1.seq,c.r.next,16,windowOf c.r,⟨0,(-1),false,false,0,0⟩,(nextChunk s window (mssO c.o)).1.text⟩] : List Seg).map segCells) rfl) ?_
  intro g18
  refine xl_hvS 0 [1,4,6,7,8,60,62] [(1,.v (.int .i64 window)),(4,.p 1 0),(6,.p 2 0),(7,.v (.slice A L.length cap)),(8,.p 3 0),(60,.v (.slice A L.length cap)),(62,.v (.slice (some ⟨g18,0,none⟩) 1 1))] (by kernel_rfl) rfl (by kernel_rfl) rfl (by kernel_rfl) (hv_append (e := 51) (K := 13) (bytes := 104) (i := 1) (q := (L ++ ([⟨c.t.my,c.t.port,(nextChunk s window (mssO c.o)).1.seq,c.r.next,16,windowOf c.r,⟨0,(-1),false,false,0,0⟩,(nextChunk s window (mssO c.o)).1.text⟩] : List Seg)).length) (new := ([⟨c.t.my,c.t.port,(nextChunk s window (mssO c.o)).1.seq,c.r.next,16,windowOf c.r,⟨0,(-1),false,false,0,0⟩,(nextChunk s window (mssO c.o)).1.text⟩] : List Seg).map segCells) (rs' := (L ++ ([⟨c.t.my,c.t.port,(nextChunk s window (mssO c.o)).1.seq,c.r.next,16,windowOf c.r,⟨0,(-1),false,false,0,0⟩,(nextChunk s window (mssO c.o)).1.text⟩] : List Seg)).map segCells) rfl rfl rfl rfl (by kernel_rfl) (by kernel_rfl) (by kernel_rfl) rfl (by simp) (by rw [List.map_append]) (by simp) (fun ww hf => rowF_sl (hf (rowF w.heap.size 51 13 (.slice (some ⟨g18,0,none⟩) 1 1) (([⟨c.t.my,c.t.port,(nextChunk s window (mssO c.o)).1.seq,c.r.next,16,windowOf c.r,⟨0,(-1),false,false,0,0⟩,(nextChunk s window (mssO c.o)).1.text⟩] : List Seg).map segCells)) (by simp))) (by intro r hr; obtain ⟨x,hx,rfl⟩ := List.mem_map.1 hr; exact ⟨rfl,by simp [segCells,Value.oneCell']⟩) (by simp only [List.length_map,List.length_append,List.length_cons,List.length_nil,maxLen]; omega) (by simp only [List.length_map,List.length_append,List.length_cons,List.length_nil,maxLen]; omega)) ?_
  rintro ⟨v19a,v19c⟩
  refine xl_endS [1,4,6,7,8] [(1,.v (.int .i64 window)),(4,.p 1 0),(6,.p 2 0),(7,.v (.slice v19a ((L ++ ([⟨c.t.my,c.t.port,(nextChunk s window (mssO c.o)).1.seq,c.r.next,16,windowOf c.r,⟨0,(-1),false,false,0,0⟩,(nextChunk s window (mssO c.o)).1.text⟩] : List Seg)).length) v19c)),(8,.p 3 0)] (by kernel_rfl) ?_
  refine xw_region ?_
  refine xl_callS 3 [1,4,6,7,65,66] [(1,.v (.int .i64 window)),(4,.p 1 0),(6,.p 2 0),(7,.v (.slice v19a ((L ++ ([⟨c.t.my,c.t.port,(nextChunk s window (mssO c.o)).1.seq,c.r.next,16,windowOf c.r,⟨0,(-1),false,false,0,0⟩,(nextChunk s window (mssO c.o)).1.text⟩] : List Seg)).length) v19c)),(65,.v (.agg (sndL s).toArray)),(66,.v (.agg (chkL (nextChunk s window (mssO c.o)).1).toArray))] 110 [.agg (sndL s).toArray,.agg (chkL (nextChunk s window (mssO c.o)).1).toArray] (some 67) (by kernel_rfl) rfl (by kernel_rfl) rfl (by kernel_rfl) (xc_b fun ww hf => yiSentOff_c s ((nextChunk s window (mssO c.o)).1) ww  ) ?_
  intro _
  refine xl_end [1,4,6,7] ⟨[(1,.v (.int .i64 window)),(4,.p 1 0),(6,.p 2 0),(7,.v (.slice v19a ((L ++ ([⟨c.t.my,c.t.port,(nextChunk s window (mssO c.o)).1.seq,c.r.next,16,windowOf c.r,⟨0,(-1),false,false,0,0⟩,(nextChunk s window (mssO c.o)).1.text⟩] : List Seg)).length) v19c))],[⟨42,conL c (.slice Acrh c.r.held.length Ccrh)⟩,⟨42,conZ⟩,⟨42,conL { c with s := (sentOff s ((nextChunk s window (mssO c.o)).1)) } (.slice v1a c.r.held.length v1c)⟩,⟨116,chkL (nextChunk s window (mssO c.o)).1⟩,⟨51,[.int .i64 c.t.my,.int .i64 c.t.port,.int .i64 ((nextChunk s window (mssO c.o)).1.seq),.int .i64 c.r.next,.int .i64 16,.int .i64 (windowOf c.r),.int .i64 0,.int .i64 (-1),.bool false,.bool false,.int .i64 0,.int .i64 0,.string ((nextChunk s window (mssO c.o)).1.text)]⟩],[],[rowF w.heap.size 51 13 (.slice v19a ((L ++ ([⟨c.t.my,c.t.port,(nextChunk s window (mssO c.o)).1.seq,c.r.next,16,windowOf c.r,⟨0,(-1),false,false,0,0⟩,(nextChunk s window (mssO c.o)).1.text⟩] : List Seg)).length) v19c) ((L ++ ([⟨c.t.my,c.t.port,(nextChunk s window (mssO c.o)).1.seq,c.r.next,16,windowOf c.r,⟨0,(-1),false,false,0,0⟩,(nextChunk s window (mssO c.o)).1.text⟩] : List Seg)).map segCells),rowF w.heap.size 51 13 (.slice (some ⟨g18,0,none⟩) 1 1) (([⟨c.t.my,c.t.port,(nextChunk s window (mssO c.o)).1.seq,c.r.next,16,windowOf c.r,⟨0,(-1),false,false,0,0⟩,(nextChunk s window (mssO c.o)).1.text⟩] : List Seg).map segCells),ownF w.heap.size (.slice v1a c.r.held.length v1c) 2 (c.r.held.map pceCells),slF (.slice Acrh c.r.held.length Ccrh) 2 (c.r.held.map pceCells)]⟩ (by kernel_rfl) ?_
  have hrow : segOf c (nextChunk s window (mssO c.o)).1 = ⟨c.t.my,c.t.port,(nextChunk s window (mssO c.o)).1.seq,c.r.next,16,windowOf c.r,⟨0,(-1),false,false,0,0⟩,(nextChunk s window (mssO c.o)).1.text⟩ := by simp [segOf,hT,hF]
  exact ⟨⟨(sentOff s (nextChunk s window (mssO c.o)).1,(L ++ ([⟨c.t.my,c.t.port,(nextChunk s window (mssO c.o)).1.seq,c.r.next,16,windowOf c.r,⟨0,(-1),false,false,0,0⟩,(nextChunk s window (mssO c.o)).1.text⟩] : List Seg)),v19a,v19c),⟨pumpS_step hyes HS,pumpL_step hyes hrow HL,row_len HR (meas_next hyes)⟩⟩,(wk_pick [0,2,3] [rowF w.heap.size 51 13 (.slice v19a ((L ++ ([⟨c.t.my,c.t.port,(nextChunk s window (mssO c.o)).1.seq,c.r.next,16,windowOf c.r,⟨0,(-1),false,false,0,0⟩,(nextChunk s window (mssO c.o)).1.text⟩] : List Seg)).length) v19c) ((L ++ ([⟨c.t.my,c.t.port,(nextChunk s window (mssO c.o)).1.seq,c.r.next,16,windowOf c.r,⟨0,(-1),false,false,0,0⟩,(nextChunk s window (mssO c.o)).1.text⟩] : List Seg)).map segCells),ownF w.heap.size (.slice v1a c.r.held.length v1c) 2 (c.r.held.map pceCells),slF (.slice Acrh c.r.held.length Ccrh) 2 (c.r.held.map pceCells)] (by kernel_rfl) (by kernel_rfl)).trans <| wk_forget 3 0 [1,4,6,7] (by kernel_rfl) (by kernel_rfl) (by kernel_rfl),by show (fun (s : Snd) (L : List Seg) (A : Option Addr) (cap : Nat) => meas s) (sentOff s (nextChunk s window (mssO c.o)).1) (L ++ ([⟨c.t.my,c.t.port,(nextChunk s window (mssO c.o)).1.seq,c.r.next,16,windowOf c.r,⟨0,(-1),false,false,0,0⟩,(nextChunk s window (mssO c.o)).1.text⟩] : List Seg)) v19a v19c < meas s; exact meas_next hyes⟩
set_option maxHeartbeats 1000000 in
theorem ysShut_c (c : Con) (c_r_heldV : Value) (w : World) (hl_c_r_heldV : Sl w c_r_heldV 2 (c.r.held.map pceCells)) (hkn : c.r.held.length ≤ 1048576)(hm : ∀ p ∈ c.r.held, p.text.size ≤ 1048576) (hsz : c.r.data.size ≤ 4611686018427387904) (B : Nat) (hB : B ≤ w.heap.size) : Calls Try.prog 45 #[.agg (conL c c_r_heldV).toArray] w fun e w' => XRs w w' e (α := (Option Addr × Nat) × (Option Addr × Nat)) (fun y => .tuple #[.agg (conL (shut c).1 (.slice y.1.1 ((shut c).1.r.held.length) y.1.2)).toArray, .slice y.2.1 ((shut c).2.length) y.2.2]) (fun y => [ownF B (.slice y.1.1 ((shut c).1.r.held.length) y.1.2) 2 ((shut c).1.r.held.map pceCells), ownF B (.slice y.2.1 ((shut c).2.length) y.2.2) 13 ((shut c).2.map segCells)]) := by
  obtain ⟨Acrh,Ccrh,hvcrh⟩ := hl_c_r_heldV.form
  rw [List.length_map] at hvcrh; subst hvcrh
  have hncrh := hl_c_r_heldV.len; rw [List.length_map] at hncrh
  refine x_callsA (args := [.agg (conL c (.slice Acrh c.r.held.length Ccrh)).toArray]) (fn := Try.f45) [slF (.slice Acrh c.r.held.length Ccrh) 2 (c.r.held.map pceCells)] Try.func45 rfl Try.ntmps45 rfl (by simp only [List.mem_cons,List.not_mem_nil,or_false,forall_eq_or_imp,forall_eq]; exact ⟨rfl,hl_c_r_heldV⟩) ?_
  refine xw_seq ?_
  refine xw_region ?_
  refine xl_end [1,2] ⟨[(1,.p 0 0),(2,.p 1 0)],[⟨42,conL c (.slice Acrh c.r.held.length Ccrh)⟩,⟨42,conZ⟩],[],[slF (.slice Acrh c.r.held.length Ccrh) 2 (c.r.held.map pceCells)]⟩ (by kernel_rfl) ?_
  refine xw_seq ?_
  refine xw_region ?_
  refine xl_callS 1 [1,2,5] [(1,.p 0 0),(2,.p 1 0),(5,.v (.agg (conL c (.slice Acrh c.r.held.length Ccrh)).toArray))] 95 [.agg (conL c (.slice Acrh c.r.held.length Ccrh)).toArray] (some 6) (by kernel_rfl) rfl (by kernel_rfl) rfl (by kernel_rfl) (xc_r fun ww hw hf => yl19Copy_c c (.slice Acrh c.r.held.length Ccrh) ww (hf (slF (.slice Acrh c.r.held.length Ccrh) 2 (c.r.held.map pceCells)) (by simp)) (by assumption) w.heap.size hw) ?_
  rintro ⟨v1a,v1c⟩
  refine xl_end [1,2,4] ⟨[(1,.p 0 0),(2,.p 1 0),(4,.p 2 0)],[⟨42,conL c (.slice Acrh c.r.held.length Ccrh)⟩,⟨42,conZ⟩,⟨42,conL c (.slice v1a c.r.held.length v1c)⟩],[],[ownF w.heap.size (.slice v1a c.r.held.length v1c) 2 (c.r.held.map pceCells),slF (.slice Acrh c.r.held.length Ccrh) 2 (c.r.held.map pceCells)]⟩ (by kernel_rfl) ?_
  refine xw_seq ?_
  refine xw_seq ?_
  refine xw_join ⟨[(1,.p 0 0),(2,.p 1 0),(4,.p 2 0),(19,.v (.bool ((!(conOk c)) || ((c.state != 1) && (c.state != 4)))))],[⟨42,conL c (.slice Acrh c.r.held.length Ccrh)⟩,⟨42,conZ⟩,⟨42,conL c (.slice v1a c.r.held.length v1c)⟩],[],[ownF w.heap.size (.slice v1a c.r.held.length v1c) 2 (c.r.held.map pceCells),slF (.slice Acrh c.r.held.length Ccrh) 2 (c.r.held.map pceCells)]⟩ ?_ ?_
  refine xw_region ?_
  refine xl_callS 1 [1,2,4,7] [(1,.p 0 0),(2,.p 1 0),(4,.p 2 0),(7,.v (.agg (conL c (.slice Acrh c.r.held.length Ccrh)).toArray))] 63 [.agg (conL c (.slice Acrh c.r.held.length Ccrh)).toArray] (some 8) (by kernel_rfl) rfl (by kernel_rfl) rfl (by kernel_rfl) (xc_b fun ww hf => ysConnOk_c c (.slice Acrh c.r.held.length Ccrh) ww (hf (slF (.slice Acrh c.r.held.length Ccrh) 2 (c.r.held.map pceCells)) (by simp)) (by assumption) (by omega)) ?_
  intro _
  refine xl_runS 2 [1,2,4,10] [(1,.p 0 0),(2,.p 1 0),(4,.p 2 0),(10,.v (.bool (!(conOk c))))] (by kernel_rfl) ?_
  refine xl_split 10 (b := !(conOk c)) (by kernel_rfl) (fun h2 => ?_) (fun h2 => ?_)
  have h2n := not_t h2
  refine xl_endS [1,2,4,19] [(1,.p 0 0),(2,.p 1 0),(4,.p 2 0),(19,.v (.bool true))] (by kernel_rfl) ?_
  show Wk _ _
  try rw [h2]
  exact wk_forget 3 0 [1,2,4,19] (by kernel_rfl) (by kernel_rfl) (by kernel_rfl)
  have h2n := not_f h2
  have h2nc : conOk c = true := (by simpa using h2n)
  have h2nq := conOk_bd h2nc; obtain ⟨h2nq0,h2nq1,h2nq2,h2nq3,h2nq4,h2nq5,h2nq6,h2nq7,h2nq8,h2nq9⟩ := h2nq
  refine xl_runS 4 [1,2,4,10,14] [(1,.p 0 0),(2,.p 1 0),(4,.p 2 0),(10,.v (.bool false)),(14,.v (.bool (c.state != 1)))] (by kernel_rfl) ?_
  refine xl_split 14 (b := c.state != 1) (by kernel_rfl) (fun h3 => ?_) (fun h3 => ?_)
  have h3p := neT h3
  refine xl_endS [1,2,4,19] [(1,.p 0 0),(2,.p 1 0),(4,.p 2 0),(19,.v (.bool (c.state != 4)))] (by kernel_rfl) ?_
  show Wk _ _
  try rw [h2]
  try rw [h3]
  exact wk_forget 3 0 [1,2,4,19] (by kernel_rfl) (by kernel_rfl) (by kernel_rfl)
  have h3p := neF h3
  refine xl_endS [1,2,4,19] [(1,.p 0 0),(2,.p 1 0),(4,.p 2 0),(19,.v (.bool false))] (by kernel_rfl) ?_
  show Wk _ _
  try rw [h2]
  try rw [h3]
  exact wk_forget 3 0 [1,2,4,19] (by kernel_rfl) (by kernel_rfl) (by kernel_rfl)
  refine xw_cond (b := (!(conOk c)) || ((c.state != 1) && (c.state != 4))) (by kernel_rfl) (fun h4 => ?_) (fun h4 => ?_)
  refine xw_seq ?_
  refine xw_region ?_
  refine xl_hvS 1 [2,20] [(2,.p 1 0),(20,.v (.agg (conL c (.slice v1a c.r.held.length v1c)).toArray))] (by kernel_rfl) rfl (by kernel_rfl) rfl (by kernel_rfl) (hv_build (e := 51) (K := 13) (bytes := 104) [] rfl (by kernel_rfl) (by kernel_rfl) (by kernel_rfl) (by kernel_rfl) (by kernel_rfl) (rs := ([] : List Seg).map segCells) rfl) ?_
  intro g5
  refine xl_end [2,3] ⟨[(2,.p 1 0),(3,.v (.slice (some ⟨g5,0,none⟩) 0 0))],[⟨42,conL c (.slice Acrh c.r.held.length Ccrh)⟩,⟨42,conL c (.slice v1a c.r.held.length v1c)⟩,⟨42,conL c (.slice v1a c.r.held.length v1c)⟩],[],[rowF w.heap.size 51 13 (.slice (some ⟨g5,0,none⟩) 0 0) (([] : List Seg).map segCells),ownF w.heap.size (.slice v1a c.r.held.length v1c) 2 (c.r.held.map pceCells),slF (.slice Acrh c.r.held.length Ccrh) 2 (c.r.held.map pceCells)]⟩ (by kernel_rfl) ?_
  refine xw_ret ?_
  have hmod : shut c = (c,([] : List Seg)) := by first | rfl | (simp [shut, *]; done) | grind [shut]
  exact ⟨[.agg (conL c (.slice v1a c.r.held.length v1c)).toArray,.slice (some ⟨g5,0,none⟩) 0 0],by kernel_rfl,fun w' hb hf ha => by rw [hmod]; exact xr_two ((v1a,v1c),((some ⟨g5,0,none⟩),0)) rfl rfl (ownF_ownF (hf (ownF w.heap.size (.slice v1a c.r.held.length v1c) 2 (c.r.held.map pceCells)) (by simp)) hB) (fun b hb => ownF_lo (hf (ownF w.heap.size (.slice v1a c.r.held.length v1c) 2 (c.r.held.map pceCells)) (by simp)) hb) (rowF_ownF (hf (rowF w.heap.size 51 13 (.slice (some ⟨g5,0,none⟩) 0 0) (([] : List Seg).map segCells)) (by simp)) hB) (fun b hb => rowF_lo (hf (rowF w.heap.size 51 13 (.slice (some ⟨g5,0,none⟩) 0 0) (([] : List Seg).map segCells)) (by simp)) (rowF_blk hb)) (Apart.sub2 ha (i := 1) (j := 0) rfl rfl (by decide) rfl (fun b h => h) (fun b h => rowF_blk h)) hb⟩
  have h4l := or_l h4
  have h4ln := not_f h4l
  have h4lnc : conOk c = true := (by simpa using h4ln)
  have h4lnq := conOk_bd h4lnc; obtain ⟨h4lnq0,h4lnq1,h4lnq2,h4lnq3,h4lnq4,h4lnq5,h4lnq6,h4lnq7,h4lnq8,h4lnq9⟩ := h4lnq
  have h4r := or_r h4
  refine xw_skip ?_
  refine xw_seq ?_
  refine xw_region ?_
  refine xl_end [1,2,4] ⟨[(1,.p 0 0),(2,.p 1 0),(4,.p 2 0)],[⟨42,conL c (.slice Acrh c.r.held.length Ccrh)⟩,⟨42,conZ⟩,⟨42,conL { c with s := { c.s with fin := true } } (.slice v1a c.r.held.length v1c)⟩],[],[ownF w.heap.size (.slice v1a c.r.held.length v1c) 2 (c.r.held.map pceCells),slF (.slice Acrh c.r.held.length Ccrh) 2 (c.r.held.map pceCells)]⟩ (by kernel_rfl) ?_
  refine xw_seq ?_
  refine xw_region ?_
  refine xl_end [1,2,4] ⟨[(1,.p 0 0),(2,.p 1 0),(4,.p 2 0)],[⟨42,conL c (.slice Acrh c.r.held.length Ccrh)⟩,⟨42,conZ⟩,⟨42,conL { c with state := 2,s := { c.s with fin := true } } (.slice v1a c.r.held.length v1c)⟩],[],[ownF w.heap.size (.slice v1a c.r.held.length v1c) 2 (c.r.held.map pceCells),slF (.slice Acrh c.r.held.length Ccrh) 2 (c.r.held.map pceCells)]⟩ (by kernel_rfl) ?_
  refine xw_seq ?_
  refine xw_seq ?_
  refine xw_region ?_
  refine xl_endS [2,4,27] [(2,.p 1 0),(4,.p 2 0),(27,.v (.bool (c.state == 4)))] (by kernel_rfl) ?_
  refine xw_join ⟨[(2,.p 1 0),(4,.p 2 0)],[⟨42,conL c (.slice Acrh c.r.held.length Ccrh)⟩,⟨42,conZ⟩,⟨42,conL { c with state := if (c.state == 4) = true then 6 else 2,s := { c.s with fin := true } } (.slice v1a c.r.held.length v1c)⟩],[],[ownF w.heap.size (.slice v1a c.r.held.length v1c) 2 (c.r.held.map pceCells),slF (.slice Acrh c.r.held.length Ccrh) 2 (c.r.held.map pceCells)]⟩ ?_ ?_
  refine xw_cond (b := c.state == 4) (by kernel_rfl) (fun h6 => ?_) (fun h6 => ?_)
  have h6p := eqT h6
  refine xw_region ?_
  refine xl_end [2,4] ⟨[(2,.p 1 0),(4,.p 2 0)],[⟨42,conL c (.slice Acrh c.r.held.length Ccrh)⟩,⟨42,conZ⟩,⟨42,conL { c with state := 6,s := { c.s with fin := true } } (.slice v1a c.r.held.length v1c)⟩],[],[ownF w.heap.size (.slice v1a c.r.held.length v1c) 2 (c.r.held.map pceCells),slF (.slice Acrh c.r.held.length Ccrh) 2 (c.r.held.map pceCells)]⟩ (by kernel_rfl) ?_
  show Wk _ _; rw [h6]; exact wk_forget 3 0 [2,4] (by kernel_rfl) (by kernel_rfl) (by kernel_rfl)
  have h6p := eqF h6
  refine xw_skip ?_
  show Wk _ _; rw [h6]; exact wk_forget 3 0 [2,4] (by kernel_rfl) (by kernel_rfl) (by kernel_rfl)
  refine xw_seq ?_
  refine xw_region ?_
  refine xl_callS 3 [2,29,31] [(2,.p 1 0),(29,.v (.agg (conL { c with state := if (c.state == 4) = true then 6 else 2,s := { c.s with fin := true } } (.slice v1a c.r.held.length v1c)).toArray)),(31,.v (.int .i64 c.window))] 43 [.agg (conL { c with state := if (c.state == 4) = true then 6 else 2,s := { c.s with fin := true } } (.slice v1a c.r.held.length v1c)).toArray,.int .i64 c.window] (some 32) (by kernel_rfl) rfl (by kernel_rfl) rfl (by kernel_rfl) (xc_r fun ww hw hf => ysPump_c ({ c with state := if (c.state == 4) = true then 6 else 2,s := { c.s with fin := true } }) (.slice v1a c.r.held.length v1c) c.window ww (Own.sl (hf (ownF w.heap.size (.slice v1a c.r.held.length v1c) 2 (c.r.held.map pceCells)) (by simp))) (by assumption) (by assumption) (by omega) (by omega) w.heap.size hw) ?_
  rintro ⟨⟨v7a,v7c⟩,⟨v8a,v8c⟩⟩
  have hbd9 : (pump ({ c with state := if (c.state == 4) = true then 6 else 2,s := { c.s with fin := true } }) c.window).1.r.held.length ≤ 1048576 ∧ (pump ({ c with state := if (c.state == 4) = true then 6 else 2,s := { c.s with fin := true } }) c.window).2.length ≤ 49 := pump_bd _ _  (by omega)
  have hbd9a := hbd9.1; have hbd9b := hbd9.2
  refine xl_end [2,3] ⟨[(2,.p 1 0),(3,.v (.slice v8a ((pump ({ c with state := if (c.state == 4) = true then 6 else 2,s := { c.s with fin := true } }) c.window).2.length) v8c))],[⟨42,conL c (.slice Acrh c.r.held.length Ccrh)⟩,⟨42,conL (pump ({ c with state := if (c.state == 4) = true then 6 else 2,s := { c.s with fin := true } }) c.window).1 (.slice v7a ((pump ({ c with state := if (c.state == 4) = true then 6 else 2,s := { c.s with fin := true } }) c.window).1.r.held.length) v7c)⟩,⟨42,conL { c with state := if (c.state == 4) = true then 6 else 2,s := { c.s with fin := true } } (.slice v1a c.r.held.length v1c)⟩],[],[ownF w.heap.size (.slice v7a ((pump ({ c with state := if (c.state == 4) = true then 6 else 2,s := { c.s with fin := true } }) c.window).1.r.held.length) v7c) 2 ((pump ({ c with state := if (c.state == 4) = true then 6 else 2,s := { c.s with fin := true } }) c.window).1.r.held.map pceCells),ownF w.heap.size (.slice v8a ((pump ({ c with state := if (c.state == 4) = true then 6 else 2,s := { c.s with fin := true } }) c.window).2.length) v8c) 13 ((pump ({ c with state := if (c.state == 4) = true then 6 else 2,s := { c.s with fin := true } }) c.window).2.map segCells),ownF w.heap.size (.slice v1a c.r.held.length v1c) 2 (c.r.held.map pceCells),slF (.slice Acrh c.r.held.length Ccrh) 2 (c.r.held.map pceCells)]⟩ (by kernel_rfl) ?_
  refine xw_ret ?_
  have hmod : shut c = (((pump ({ c with state := if (c.state == 4) = true then 6 else 2,s := { c.s with fin := true } }) c.window).1),((pump ({ c with state := if (c.state == 4) = true then 6 else 2,s := { c.s with fin := true } }) c.window).2)) := by first | rfl | (simp [shut, *]; done) | grind [shut]
  exact ⟨[.agg (conL (pump ({ c with state := if (c.state == 4) = true then 6 else 2,s := { c.s with fin := true } }) c.window).1 (.slice v7a ((pump ({ c with state := if (c.state == 4) = true then 6 else 2,s := { c.s with fin := true } }) c.window).1.r.held.length) v7c)).toArray,.slice v8a ((pump ({ c with state := if (c.state == 4) = true then 6 else 2,s := { c.s with fin := true } }) c.window).2.length) v8c],by kernel_rfl,fun w' hb hf ha => by rw [hmod]; exact xr_two ((v7a,v7c),(v8a,v8c)) rfl rfl (ownF_ownF (hf (ownF w.heap.size (.slice v7a ((pump ({ c with state := if (c.state == 4) = true then 6 else 2,s := { c.s with fin := true } }) c.window).1.r.held.length) v7c) 2 ((pump ({ c with state := if (c.state == 4) = true then 6 else 2,s := { c.s with fin := true } }) c.window).1.r.held.map pceCells)) (by simp)) hB) (fun b hb => ownF_lo (hf (ownF w.heap.size (.slice v7a ((pump ({ c with state := if (c.state == 4) = true then 6 else 2,s := { c.s with fin := true } }) c.window).1.r.held.length) v7c) 2 ((pump ({ c with state := if (c.state == 4) = true then 6 else 2,s := { c.s with fin := true } }) c.window).1.r.held.map pceCells)) (by simp)) hb) (ownF_ownF (hf (ownF w.heap.size (.slice v8a ((pump ({ c with state := if (c.state == 4) = true then 6 else 2,s := { c.s with fin := true } }) c.window).2.length) v8c) 13 ((pump ({ c with state := if (c.state == 4) = true then 6 else 2,s := { c.s with fin := true } }) c.window).2.map segCells)) (by simp)) hB) (fun b hb => ownF_lo (hf (ownF w.heap.size (.slice v8a ((pump ({ c with state := if (c.state == 4) = true then 6 else 2,s := { c.s with fin := true } }) c.window).2.length) v8c) 13 ((pump ({ c with state := if (c.state == 4) = true then 6 else 2,s := { c.s with fin := true } }) c.window).2.map segCells)) (by simp)) hb) (Apart.sub2 ha (i := 0) (j := 1) rfl rfl (by decide) rfl (fun b h => h) (fun b h => h)) hb⟩
set_option maxHeartbeats 1000000 in
theorem yiShut_c (c : Con) (c_r_heldV : Value) (w : World) (hl_c_r_heldV : Sl w c_r_heldV 2 (c.r.held.map pceCells)) (hkn : c.r.held.length ≤ 1048576)(hm : ∀ p ∈ c.r.held, p.text.size ≤ 1048576) (hsz : c.r.data.size ≤ 4611686018427387904) (B : Nat) (hB : B ≤ w.heap.size) : Calls Try.prog 46 #[.agg (conL c c_r_heldV).toArray] w fun e w' => XRs w w' e (α := (Option Addr × Nat) × (Option Addr × Nat)) (fun y => .tuple #[.agg (conL (shut c).1 (.slice y.1.1 ((shut c).1.r.held.length) y.1.2)).toArray, .slice y.2.1 ((shut c).2.length) y.2.2]) (fun y => [ownF B (.slice y.1.1 ((shut c).1.r.held.length) y.1.2) 2 ((shut c).1.r.held.map pceCells), ownF B (.slice y.2.1 ((shut c).2.length) y.2.2) 13 ((shut c).2.map segCells)]) := by
  obtain ⟨Acrh,Ccrh,hvcrh⟩ := hl_c_r_heldV.form
  rw [List.length_map] at hvcrh; subst hvcrh
  have hncrh := hl_c_r_heldV.len; rw [List.length_map] at hncrh
  refine x_callsA (args := [.agg (conL c (.slice Acrh c.r.held.length Ccrh)).toArray]) (fn := Try.f46) [slF (.slice Acrh c.r.held.length Ccrh) 2 (c.r.held.map pceCells)] Try.func46 rfl Try.ntmps46 rfl (by simp only [List.mem_cons,List.not_mem_nil,or_false,forall_eq_or_imp,forall_eq]; exact ⟨rfl,hl_c_r_heldV⟩) ?_
  refine xw_seq ?_
  refine xw_region ?_
  refine xl_end [1,2] ⟨[(1,.p 0 0),(2,.p 1 0)],[⟨42,conL c (.slice Acrh c.r.held.length Ccrh)⟩,⟨42,conZ⟩],[],[slF (.slice Acrh c.r.held.length Ccrh) 2 (c.r.held.map pceCells)]⟩ (by kernel_rfl) ?_
  refine xw_seq ?_
  refine xw_region ?_
  refine xl_callS 1 [1,2,5] [(1,.p 0 0),(2,.p 1 0),(5,.v (.agg (conL c (.slice Acrh c.r.held.length Ccrh)).toArray))] 97 [.agg (conL c (.slice Acrh c.r.held.length Ccrh)).toArray] (some 6) (by kernel_rfl) rfl (by kernel_rfl) rfl (by kernel_rfl) (xc_r fun ww hw hf => ycloneConn_c c (.slice Acrh c.r.held.length Ccrh) ww (hf (slF (.slice Acrh c.r.held.length Ccrh) 2 (c.r.held.map pceCells)) (by simp)) (by assumption) w.heap.size hw) ?_
  rintro ⟨v1a,v1c⟩
  refine xl_end [1,2,4] ⟨[(1,.p 0 0),(2,.p 1 0),(4,.p 2 0)],[⟨42,conL c (.slice Acrh c.r.held.length Ccrh)⟩,⟨42,conZ⟩,⟨42,conL c (.slice v1a c.r.held.length v1c)⟩],[],[ownF w.heap.size (.slice v1a c.r.held.length v1c) 2 (c.r.held.map pceCells),slF (.slice Acrh c.r.held.length Ccrh) 2 (c.r.held.map pceCells)]⟩ (by kernel_rfl) ?_
  refine xw_seq ?_
  refine xw_seq ?_
  refine xw_region ?_
  refine xl_callS 1 [1,2,4,7] [(1,.p 0 0),(2,.p 1 0),(4,.p 2 0),(7,.v (.agg (conL c (.slice Acrh c.r.held.length Ccrh)).toArray))] 70 [.agg (conL c (.slice Acrh c.r.held.length Ccrh)).toArray] (some 8) (by kernel_rfl) rfl (by kernel_rfl) rfl (by kernel_rfl) (xc_b fun ww hf => yiConnOk_c c (.slice Acrh c.r.held.length Ccrh) ww (hf (slF (.slice Acrh c.r.held.length Ccrh) 2 (c.r.held.map pceCells)) (by simp)) (by assumption) (by omega)) ?_
  intro _
  refine xl_endS [1,2,4,9] [(1,.p 0 0),(2,.p 1 0),(4,.p 2 0),(9,.v (.bool (!(conOk c))))] (by kernel_rfl) ?_
  refine xw_cond (b := !(conOk c)) (by kernel_rfl) (fun h2 => ?_) (fun h2 => ?_)
  have h2n := not_t h2
  refine xw_seq ?_
  refine xw_region ?_
  refine xl_end [2,3] ⟨[(2,.p 1 0),(3,.v (.slice none 0 0))],[⟨42,conL c (.slice Acrh c.r.held.length Ccrh)⟩,⟨42,conL c (.slice v1a c.r.held.length v1c)⟩,⟨42,conL c (.slice v1a c.r.held.length v1c)⟩],[],[ownF w.heap.size (.slice v1a c.r.held.length v1c) 2 (c.r.held.map pceCells),slF (.slice Acrh c.r.held.length Ccrh) 2 (c.r.held.map pceCells)]⟩ (by kernel_rfl) ?_
  refine xw_ret ?_
  have hmod : shut c = (c,[]) := by first | rfl | (simp [shut, *]; done) | grind [shut]
  exact ⟨[.agg (conL c (.slice v1a c.r.held.length v1c)).toArray,.slice none 0 0],by kernel_rfl,fun w' hb hf ha => by rw [hmod]; exact xr_two ((v1a,v1c),(none,0)) rfl rfl (ownF_ownF (hf (ownF w.heap.size (.slice v1a c.r.held.length v1c) 2 (c.r.held.map pceCells)) (by simp)) hB) (fun b hb => ownF_lo (hf (ownF w.heap.size (.slice v1a c.r.held.length v1c) 2 (c.r.held.map pceCells)) (by simp)) hb) (.inl ⟨rfl,_,rfl⟩) (fun b hb => (hb.1 rfl).elim) (apart_nil2 rfl) hb⟩
  have h2n := not_f h2
  have h2nc : conOk c = true := (by simpa using h2n)
  have h2nq := conOk_bd h2nc; obtain ⟨h2nq0,h2nq1,h2nq2,h2nq3,h2nq4,h2nq5,h2nq6,h2nq7,h2nq8,h2nq9⟩ := h2nq
  refine xw_skip ?_
  refine xw_seq ?_
  refine xw_seq ?_
  refine xw_region ?_
  refine xl_endS [2,4,12] [(2,.p 1 0),(4,.p 2 0),(12,.v (.int .i64 c.state))] (by kernel_rfl) ?_
  refine xw_block ?_
  refine xw_seq ?_
  refine xw_region ?_
  refine xl_endS [2,4,12,14] [(2,.p 1 0),(4,.p 2 0),(12,.v (.int .i64 c.state)),(14,.v (.bool (c.state == 1)))] (by kernel_rfl) ?_
  refine xw_cond (b := c.state == 1) (by kernel_rfl) (fun h3 => ?_) (fun h3 => ?_)
  have h3p := eqT h3
  refine xw_region ?_
  refine xl_end [2,4] ⟨[(2,.p 1 0),(4,.p 2 0)],[⟨42,conL c (.slice Acrh c.r.held.length Ccrh)⟩,⟨42,conZ⟩,⟨42,conL { c with state := 2 } (.slice v1a c.r.held.length v1c)⟩],[],[ownF w.heap.size (.slice v1a c.r.held.length v1c) 2 (c.r.held.map pceCells),slF (.slice Acrh c.r.held.length Ccrh) 2 (c.r.held.map pceCells)]⟩ (by kernel_rfl) ?_
  refine xw_seq ?_
  refine xw_region ?_
  refine xl_end [2,4] ⟨[(2,.p 1 0),(4,.p 2 0)],[⟨42,conL c (.slice Acrh c.r.held.length Ccrh)⟩,⟨42,conZ⟩,⟨42,conL { c with state := 2,s := { c.s with fin := true } } (.slice v1a c.r.held.length v1c)⟩],[],[ownF w.heap.size (.slice v1a c.r.held.length v1c) 2 (c.r.held.map pceCells),slF (.slice Acrh c.r.held.length Ccrh) 2 (c.r.held.map pceCells)]⟩ (by kernel_rfl) ?_
  refine xw_seq ?_
  refine xw_region ?_
  refine xl_callS 3 [2,22,24] [(2,.p 1 0),(22,.v (.agg (conL { c with state := 2,s := { c.s with fin := true } } (.slice v1a c.r.held.length v1c)).toArray)),(24,.v (.int .i64 c.window))] 44 [.agg (conL { c with state := 2,s := { c.s with fin := true } } (.slice v1a c.r.held.length v1c)).toArray,.int .i64 c.window] (some 25) (by kernel_rfl) rfl (by kernel_rfl) rfl (by kernel_rfl) (xc_r fun ww hw hf => yiPump_c ({ c with state := 2,s := { c.s with fin := true } }) (.slice v1a c.r.held.length v1c) c.window ww (Own.sl (hf (ownF w.heap.size (.slice v1a c.r.held.length v1c) 2 (c.r.held.map pceCells)) (by simp))) (by assumption) (by assumption) (by omega) (by omega) w.heap.size hw) ?_
  rintro ⟨⟨v4a,v4c⟩,⟨v5a,v5c⟩⟩
  have hbd6 : (pump ({ c with state := 2,s := { c.s with fin := true } }) c.window).1.r.held.length ≤ 1048576 ∧ (pump ({ c with state := 2,s := { c.s with fin := true } }) c.window).2.length ≤ 49 := pump_bd _ _  (by omega)
  have hbd6a := hbd6.1; have hbd6b := hbd6.2
  refine xl_end [2,3] ⟨[(2,.p 1 0),(3,.v (.slice v5a ((pump ({ c with state := 2,s := { c.s with fin := true } }) c.window).2.length) v5c))],[⟨42,conL c (.slice Acrh c.r.held.length Ccrh)⟩,⟨42,conL (pump ({ c with state := 2,s := { c.s with fin := true } }) c.window).1 (.slice v4a ((pump ({ c with state := 2,s := { c.s with fin := true } }) c.window).1.r.held.length) v4c)⟩,⟨42,conL { c with state := 2,s := { c.s with fin := true } } (.slice v1a c.r.held.length v1c)⟩],[],[ownF w.heap.size (.slice v4a ((pump ({ c with state := 2,s := { c.s with fin := true } }) c.window).1.r.held.length) v4c) 2 ((pump ({ c with state := 2,s := { c.s with fin := true } }) c.window).1.r.held.map pceCells),ownF w.heap.size (.slice v5a ((pump ({ c with state := 2,s := { c.s with fin := true } }) c.window).2.length) v5c) 13 ((pump ({ c with state := 2,s := { c.s with fin := true } }) c.window).2.map segCells),ownF w.heap.size (.slice v1a c.r.held.length v1c) 2 (c.r.held.map pceCells),slF (.slice Acrh c.r.held.length Ccrh) 2 (c.r.held.map pceCells)]⟩ (by kernel_rfl) ?_
  refine xw_ret ?_
  have hmod : shut c = (((pump ({ c with state := 2,s := { c.s with fin := true } }) c.window).1),((pump ({ c with state := 2,s := { c.s with fin := true } }) c.window).2)) := by first | rfl | (simp [shut, *]; done) | grind [shut]
  exact ⟨[.agg (conL (pump ({ c with state := 2,s := { c.s with fin := true } }) c.window).1 (.slice v4a ((pump ({ c with state := 2,s := { c.s with fin := true } }) c.window).1.r.held.length) v4c)).toArray,.slice v5a ((pump ({ c with state := 2,s := { c.s with fin := true } }) c.window).2.length) v5c],by kernel_rfl,fun w' hb hf ha => by rw [hmod]; exact xr_two ((v4a,v4c),(v5a,v5c)) rfl rfl (ownF_ownF (hf (ownF w.heap.size (.slice v4a ((pump ({ c with state := 2,s := { c.s with fin := true } }) c.window).1.r.held.length) v4c) 2 ((pump ({ c with state := 2,s := { c.s with fin := true } }) c.window).1.r.held.map pceCells)) (by simp)) hB) (fun b hb => ownF_lo (hf (ownF w.heap.size (.slice v4a ((pump ({ c with state := 2,s := { c.s with fin := true } }) c.window).1.r.held.length) v4c) 2 ((pump ({ c with state := 2,s := { c.s with fin := true } }) c.window).1.r.held.map pceCells)) (by simp)) hb) (ownF_ownF (hf (ownF w.heap.size (.slice v5a ((pump ({ c with state := 2,s := { c.s with fin := true } }) c.window).2.length) v5c) 13 ((pump ({ c with state := 2,s := { c.s with fin := true } }) c.window).2.map segCells)) (by simp)) hB) (fun b hb => ownF_lo (hf (ownF w.heap.size (.slice v5a ((pump ({ c with state := 2,s := { c.s with fin := true } }) c.window).2.length) v5c) 13 ((pump ({ c with state := 2,s := { c.s with fin := true } }) c.window).2.map segCells)) (by simp)) hb) (Apart.sub2 ha (i := 0) (j := 1) rfl rfl (by decide) rfl (fun b h => h) (fun b h => h)) hb⟩
  have h3p := eqF h3
  refine xw_seq ?_
  refine xw_region ?_
  refine xl_endS [2,4,17] [(2,.p 1 0),(4,.p 2 0),(17,.v (.bool (c.state == 4)))] (by kernel_rfl) ?_
  refine xw_cond (b := c.state == 4) (by kernel_rfl) (fun h7 => ?_) (fun h7 => ?_)
  have h7p := eqT h7
  refine xw_region ?_
  refine xl_end [2,4] ⟨[(2,.p 1 0),(4,.p 2 0)],[⟨42,conL c (.slice Acrh c.r.held.length Ccrh)⟩,⟨42,conZ⟩,⟨42,conL { c with state := 6 } (.slice v1a c.r.held.length v1c)⟩],[],[ownF w.heap.size (.slice v1a c.r.held.length v1c) 2 (c.r.held.map pceCells),slF (.slice Acrh c.r.held.length Ccrh) 2 (c.r.held.map pceCells)]⟩ (by kernel_rfl) ?_
  refine xw_seq ?_
  refine xw_region ?_
  refine xl_end [2,4] ⟨[(2,.p 1 0),(4,.p 2 0)],[⟨42,conL c (.slice Acrh c.r.held.length Ccrh)⟩,⟨42,conZ⟩,⟨42,conL { c with state := 6,s := { c.s with fin := true } } (.slice v1a c.r.held.length v1c)⟩],[],[ownF w.heap.size (.slice v1a c.r.held.length v1c) 2 (c.r.held.map pceCells),slF (.slice Acrh c.r.held.length Ccrh) 2 (c.r.held.map pceCells)]⟩ (by kernel_rfl) ?_
  refine xw_seq ?_
  refine xw_region ?_
  refine xl_callS 3 [2,22,24] [(2,.p 1 0),(22,.v (.agg (conL { c with state := 6,s := { c.s with fin := true } } (.slice v1a c.r.held.length v1c)).toArray)),(24,.v (.int .i64 c.window))] 44 [.agg (conL { c with state := 6,s := { c.s with fin := true } } (.slice v1a c.r.held.length v1c)).toArray,.int .i64 c.window] (some 25) (by kernel_rfl) rfl (by kernel_rfl) rfl (by kernel_rfl) (xc_r fun ww hw hf => yiPump_c ({ c with state := 6,s := { c.s with fin := true } }) (.slice v1a c.r.held.length v1c) c.window ww (Own.sl (hf (ownF w.heap.size (.slice v1a c.r.held.length v1c) 2 (c.r.held.map pceCells)) (by simp))) (by assumption) (by assumption) (by omega) (by omega) w.heap.size hw) ?_
  rintro ⟨⟨v8a,v8c⟩,⟨v9a,v9c⟩⟩
  have hbd10 : (pump ({ c with state := 6,s := { c.s with fin := true } }) c.window).1.r.held.length ≤ 1048576 ∧ (pump ({ c with state := 6,s := { c.s with fin := true } }) c.window).2.length ≤ 49 := pump_bd _ _  (by omega)
  have hbd10a := hbd10.1; have hbd10b := hbd10.2
  refine xl_end [2,3] ⟨[(2,.p 1 0),(3,.v (.slice v9a ((pump ({ c with state := 6,s := { c.s with fin := true } }) c.window).2.length) v9c))],[⟨42,conL c (.slice Acrh c.r.held.length Ccrh)⟩,⟨42,conL (pump ({ c with state := 6,s := { c.s with fin := true } }) c.window).1 (.slice v8a ((pump ({ c with state := 6,s := { c.s with fin := true } }) c.window).1.r.held.length) v8c)⟩,⟨42,conL { c with state := 6,s := { c.s with fin := true } } (.slice v1a c.r.held.length v1c)⟩],[],[ownF w.heap.size (.slice v8a ((pump ({ c with state := 6,s := { c.s with fin := true } }) c.window).1.r.held.length) v8c) 2 ((pump ({ c with state := 6,s := { c.s with fin := true } }) c.window).1.r.held.map pceCells),ownF w.heap.size (.slice v9a ((pump ({ c with state := 6,s := { c.s with fin := true } }) c.window).2.length) v9c) 13 ((pump ({ c with state := 6,s := { c.s with fin := true } }) c.window).2.map segCells),ownF w.heap.size (.slice v1a c.r.held.length v1c) 2 (c.r.held.map pceCells),slF (.slice Acrh c.r.held.length Ccrh) 2 (c.r.held.map pceCells)]⟩ (by kernel_rfl) ?_
  refine xw_ret ?_
  have hmod : shut c = (((pump ({ c with state := 6,s := { c.s with fin := true } }) c.window).1),((pump ({ c with state := 6,s := { c.s with fin := true } }) c.window).2)) := by first | rfl | (simp [shut, *]; done) | grind [shut]
  exact ⟨[.agg (conL (pump ({ c with state := 6,s := { c.s with fin := true } }) c.window).1 (.slice v8a ((pump ({ c with state := 6,s := { c.s with fin := true } }) c.window).1.r.held.length) v8c)).toArray,.slice v9a ((pump ({ c with state := 6,s := { c.s with fin := true } }) c.window).2.length) v9c],by kernel_rfl,fun w' hb hf ha => by rw [hmod]; exact xr_two ((v8a,v8c),(v9a,v9c)) rfl rfl (ownF_ownF (hf (ownF w.heap.size (.slice v8a ((pump ({ c with state := 6,s := { c.s with fin := true } }) c.window).1.r.held.length) v8c) 2 ((pump ({ c with state := 6,s := { c.s with fin := true } }) c.window).1.r.held.map pceCells)) (by simp)) hB) (fun b hb => ownF_lo (hf (ownF w.heap.size (.slice v8a ((pump ({ c with state := 6,s := { c.s with fin := true } }) c.window).1.r.held.length) v8c) 2 ((pump ({ c with state := 6,s := { c.s with fin := true } }) c.window).1.r.held.map pceCells)) (by simp)) hb) (ownF_ownF (hf (ownF w.heap.size (.slice v9a ((pump ({ c with state := 6,s := { c.s with fin := true } }) c.window).2.length) v9c) 13 ((pump ({ c with state := 6,s := { c.s with fin := true } }) c.window).2.map segCells)) (by simp)) hB) (fun b hb => ownF_lo (hf (ownF w.heap.size (.slice v9a ((pump ({ c with state := 6,s := { c.s with fin := true } }) c.window).2.length) v9c) 13 ((pump ({ c with state := 6,s := { c.s with fin := true } }) c.window).2.map segCells)) (by simp)) hb) (Apart.sub2 ha (i := 0) (j := 1) rfl rfl (by decide) rfl (fun b h => h) (fun b h => h)) hb⟩
  have h7p := eqF h7
  refine xw_seq ?_
  refine xw_region ?_
  refine xl_end [2,3] ⟨[(2,.p 1 0),(3,.v (.slice none 0 0))],[⟨42,conL c (.slice Acrh c.r.held.length Ccrh)⟩,⟨42,conL c (.slice v1a c.r.held.length v1c)⟩,⟨42,conL c (.slice v1a c.r.held.length v1c)⟩],[],[ownF w.heap.size (.slice v1a c.r.held.length v1c) 2 (c.r.held.map pceCells),slF (.slice Acrh c.r.held.length Ccrh) 2 (c.r.held.map pceCells)]⟩ (by kernel_rfl) ?_
  refine xw_ret ?_
  have hmod : shut c = (c,[]) := by first | rfl | (simp [shut, *]; done) | grind [shut]
  exact ⟨[.agg (conL c (.slice v1a c.r.held.length v1c)).toArray,.slice none 0 0],by kernel_rfl,fun w' hb hf ha => by rw [hmod]; exact xr_two ((v1a,v1c),(none,0)) rfl rfl (ownF_ownF (hf (ownF w.heap.size (.slice v1a c.r.held.length v1c) 2 (c.r.held.map pceCells)) (by simp)) hB) (fun b hb => ownF_lo (hf (ownF w.heap.size (.slice v1a c.r.held.length v1c) 2 (c.r.held.map pceCells)) (by simp)) hb) (.inl ⟨rfl,_,rfl⟩) (fun b hb => (hb.1 rfl).elim) (apart_nil2 rfl) hb⟩
end Go.Proofs.Ytjfamgkkenccdaa
