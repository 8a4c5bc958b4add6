/- Contracts that this law needs, part 3. -/
import Derived.Test.YtebgmdiejgcoiaaGreatZ2
namespace Go.Proofs.YtebgmdiejgcoiaaGreat
open Go.RowKit
set_option linter.unusedVariables false
set_option linter.unusedSimpArgs false
set_option maxRecDepth 100000
set_option maxHeartbeats 2000000

theorem yiNextChunk_c (s : Snd) (window : Int) (mss : Int) (w : World) (hwi : -9223372036854775808 ≤ window ∧ window ≤ 9223372036854775807) : Calls Tryz.prog 101 #[.agg (sndL s).toArray, .int .i64 window, .int .i64 mss] w fun e w' => e = .returned (.tuple #[.agg (chkL (nextChunk s window mss).1).toArray, .bool ((nextChunk s window mss).2)]) ∧ Below w.heap.size w w' := by
 refine x_calls (args := [.agg (sndL s).toArray,.int .i64 window,.int .i64 mss]) (fn := Tryz.f101) [] Tryz.func101 rfl Tryz.ntmps101 rfl (by simp) ?_
 refine kQ ?_
 refine kEF [1,2,3,6] ⟨[(1,.v (.int .i64 window)),(2,.v (.int .i64 mss)),(3,.p 0 0),(6,.p 1 0)],[⟨38,sndL s⟩,⟨107,chkL (⟨0,(⟨#[]⟩ : ByteArray),false⟩ : Chk)⟩],[],[]⟩ ?_
 refine kS ?_
 refine kQ ?_
 refine kCD 1 [1,2,3,6,12] [(12,.v (.agg (sndL s).toArray))] 59 [.agg (sndL s).toArray] (some 13) rfl (xc_b fun ww hf => iSenderOk_c s.una s.data s.sent s.fin s.finSent s.done ww ) ?_
 intro _
 refine kED [1,2,3,6,14] [(14,.v (.bool (!(senderOk s))))] ?_
 refine kC (!(senderOk s)) (fun h1 => ?_) (fun h1 => ?_)
 have hsn := not_t h1
 refine kQ ?_
 refine kOS 0 [6] [(6,.p 1 0)] (.agg (chkL (⟨0,(⟨#[]⟩ : ByteArray),false⟩ : Chk)).toArray) rfl (fun _ _ _ ww hr => act_build [] hr.1 rfl (by kernel_rfl) (by kernel_rfl) ww) ?_
 refine kED [6,7] [(7,.v (.bool false))] ?_
 refine kR ?_
 have hmod : nextChunk s window mss = ((⟨0,(⟨#[]⟩ : ByteArray),false⟩),false) := by first | rfl | (simp [nextChunk,zeroChk,chunkFin, *]; done) | (simp [nextChunk,zeroChk,chunkFin, *]; omega) | grind [nextChunk,zeroChk,chunkFin]
 exact ⟨[.agg (chkL (⟨0,(⟨#[]⟩ : ByteArray),false⟩ : Chk)).toArray,.bool false],by kernel_rfl,fun w' hb hf => by rw [hmod]; exact ⟨rfl,hb⟩⟩
 have h1b := senderOk_bd (s := s) (by simpa using h1)
 obtain ⟨h1b0,h1b1,h1b2,h1b3,h1b4,h1b5,h1b6,h1b7,h1b8,h1b9,h1b10⟩ := h1b
 have hsn := not_f h1
 obtain ⟨c0,c1,c2,c3,c4⟩ := chunkN_bd (window := window) (mss := mss) hsn
 have hez := rest_size hsn; have hwl := wnd_lt (window := window) (mss := mss) hsn; have hcj := chunkN_j (window := window) (mss := mss) hsn; have hxt := chunk_ext (window := window) (mss := mss) hsn; have hte := chunk_nil (window := window) (mss := mss) hsn
 refine kK ?_
 refine kQ ?_
 refine kOD 1 [2,3,6,16] [(16,.v (.int .i64 window))] (.int .i64 (max window (-1))) rfl (fun _ _ _ ww hr => act_max2 (k := .i64) (k' := .i64) (p := window) (q := (-1)) hr.1 rfl rfl rfl (by kernel_rfl) (by kernel_rfl) ww) ?_
 refine kCD 1 [2,3,6,17,18] [(18,.v (.agg (sndL s).toArray))] 71 [.agg (sndL s).toArray] (some 19) rfl (xc_b fun ww hf => iFlown_c s.una s.data s.sent s.fin s.finSent s.done ww ) ?_
 intro _
 refine kRS 2 [2,3,6,8] [(2,.v (.int .i64 mss)),(3,.p 0 0),(6,.p 1 0),(8,.v (.int .i64 (IntKind.i64.wrap ((max window (-1)) - (flown s)))))] ?_
 refine xl_eqS (t' := [(2,.v (.int .i64 mss)),(3,.p 0 0),(6,.p 1 0),(8,.v (.int .i64 ((max window (-1)) - (flown s))))]) (by rw [show (IntKind.i64.wrap ((max window (-1)) - (flown s))) = ((max window (-1)) - (flown s)) from wrap_id (by omega) (by omega)]) ?_
 refine kED [2,3,6,8] [] ?_
 refine kQ ?_
 refine kOD 4 [2,3,6,8,22,24] [(22,.v (.string s.data)),(24,.v (.int .i64 s.sent))] (.string (s.data.extract (s.sent).toNat s.data.size)) rfl (fun _ _ _ ww hr => act_slSe (s.sent) hr.1 rfl (by kernel_rfl) rfl rfl (by omega) (by omega) ww) ?_
 refine kED [2,3,6,8,9] [(9,.v (.string (s.data.extract (s.sent).toNat s.data.size)))] ?_
 refine kQ ?_
 refine kOD 4 [3,6,8,9,27,28,29] [(27,.v (.int .i64 ((s.data.extract (s.sent).toNat s.data.size).size : Int))),(28,.v (.int .i64 mss)),(29,.v (.int .i64 ((max window (-1)) - (flown s))))] (.int .i64 (min (min ((s.data.extract (s.sent).toNat s.data.size).size : Int) mss) ((max window (-1)) - (flown s)))) rfl (fun _ _ _ ww hr => act_min3 (k := .i64) (k' := .i64) (k'' := .i64) (p := ((s.data.extract (s.sent).toNat s.data.size).size : Int)) (q := mss) (r := (max window (-1)) - (flown s)) hr.1 rfl rfl rfl (by kernel_rfl) (by kernel_rfl) (by kernel_rfl) ww) ?_
 refine kOD 0 [3,6,8,9,30] [] (.int .i64 (max 0 (min (min ((s.data.extract (s.sent).toNat s.data.size).size : Int) mss) ((max window (-1)) - (flown s))))) rfl (fun _ _ _ ww hr => act_max2 (k := .i64) (k' := .i64) (p := 0) (q := min (min ((s.data.extract (s.sent).toNat s.data.size).size : Int) mss) ((max window (-1)) - (flown s))) hr.1 rfl rfl rfl (by kernel_rfl) (by kernel_rfl) ww) ?_
 refine kRS 1 [3,6,8,9,10] [(3,.p 0 0),(6,.p 1 0),(8,.v (.int .i64 ((max window (-1)) - (flown s)))),(9,.v (.string (s.data.extract (s.sent).toNat s.data.size))),(10,.v (.int .i64 (max 0 (min (min ((s.data.extract (s.sent).toNat s.data.size).size : Int) mss) ((max window (-1)) - (flown s))))))] ?_
 refine xl_eqS (t' := [(3,.p 0 0),(6,.p 1 0),(8,.v (.int .i64 ((max window (-1)) - (flown s)))),(9,.v (.string (s.data.extract (s.sent).toNat s.data.size))),(10,.v (.int .i64 (chunkN s window mss)))]) (by rw [show ((s.data.extract (s.sent).toNat s.data.size).size : Int) = ((s.data.size : Int) - s.sent) from hez,show (max 0 (min (min ((s.data.size : Int) - s.sent) mss) ((max window (-1)) - (flown s)))) = (chunkN s window mss) from hcj]) ?_
 refine kED [3,6,8,9,10] [] ?_
 refine kS ?_
 refine xe_region [] (by kernel_rfl) (fun ρ σ => ?_)
 refine kTS [0,2,3,5,6] [38,35,34,32,3,6,8,9,10] 26 [(38,.v (.bool s.fin)),(35,.v (.int .i64 (chunkN s window mss))),(34,.v (.string (s.data.extract (s.sent).toNat s.data.size))),(32,.v (.agg (sndL s).toArray)),(3,.p 0 0),(6,.p 1 0),(8,.v (.int .i64 ((max window (-1)) - (flown s)))),(9,.v (.string (s.data.extract (s.sent).toNat s.data.size))),(10,.v (.int .i64 (chunkN s window mss)))] ?_
 refine kX 4 (.string ((s.data.extract (s.sent).toNat s.data.size).extract 0 (chunkN s window mss).toNat)) rfl (fun _ _ ww hA => act_slS0 (chunkN s window mss) hA rfl (by kernel_rfl) rfl rfl (by omega) (by omega) ww) ?_
 refine xe_eqS (t := [(36,.v (.string ((s.data.extract (s.sent).toNat s.data.size).extract 0 (chunkN s window mss).toNat))),(38,.v (.bool s.fin)),(35,.v (.int .i64 (chunkN s window mss))),(34,.v (.string (s.data.extract (s.sent).toNat s.data.size))),(32,.v (.agg (sndL s).toArray)),(3,.p 0 0),(6,.p 1 0),(8,.v (.int .i64 ((max window (-1)) - (flown s)))),(9,.v (.string (s.data.extract (s.sent).toNat s.data.size))),(10,.v (.int .i64 (chunkN s window mss)))]) (t' := [(36,.v (.string (s.data.extract (s.sent).toNat (s.sent + chunkN s window mss).toNat))),(38,.v (.bool s.fin)),(35,.v (.int .i64 (chunkN s window mss))),(34,.v (.string (s.data.extract (s.sent).toNat s.data.size))),(32,.v (.agg (sndL s).toArray)),(3,.p 0 0),(6,.p 1 0),(8,.v (.int .i64 ((max window (-1)) - (flown s)))),(9,.v (.string (s.data.extract (s.sent).toNat s.data.size))),(10,.v (.int .i64 (chunkN s window mss)))]) (by rw [show ((s.data.extract (s.sent).toNat s.data.size).extract 0 (chunkN s window mss).toNat) = (s.data.extract (s.sent).toNat (s.sent + chunkN s window mss).toNat) from hxt]) ?_
 refine kA [1,29] ⟨?_,?_⟩
 refine kSC 1 99 [.agg (sndL s).toArray] (some 33) rfl (xc_b fun ww hf => iNextOf_c s.una s.data s.sent s.fin s.finSent s.done ww ) ?_
 intro _
 refine kTS [7] [39,33,36,3,6,8,9,10] 23 [(39,.v (.bool s.fin)),(33,.v (.int .i64 (nextOf s))),(36,.v (.string (s.data.extract (s.sent).toNat (s.sent + chunkN s window mss).toNat))),(3,.p 0 0),(6,.p 1 0),(8,.v (.int .i64 ((max window (-1)) - (flown s)))),(9,.v (.string (s.data.extract (s.sent).toNat s.data.size))),(10,.v (.int .i64 (chunkN s window mss)))] ?_
 refine kY 39 (s.fin) (fun h2 => ?_) (fun h2 => ?_)
 refine kTS [8,9,10,11,12] [44,33,36,3,6,8,9,10] 18 [(44,.v (.bool (!s.finSent))),(33,.v (.int .i64 (nextOf s))),(36,.v (.string (s.data.extract (s.sent).toNat (s.sent + chunkN s window mss).toNat))),(3,.p 0 0),(6,.p 1 0),(8,.v (.int .i64 ((max window (-1)) - (flown s)))),(9,.v (.string (s.data.extract (s.sent).toNat s.data.size))),(10,.v (.int .i64 (chunkN s window mss)))] ?_
 refine kY 44 (!s.finSent) (fun h3 => ?_) (fun h3 => ?_)
 have h3n := not_t h3
 refine kTS [13,14,15,16,17] [49,33,36,6,8,9,10] 13 [(49,.v (.bool (!s.done))),(33,.v (.int .i64 (nextOf s))),(36,.v (.string (s.data.extract (s.sent).toNat (s.sent + chunkN s window mss).toNat))),(6,.p 1 0),(8,.v (.int .i64 ((max window (-1)) - (flown s)))),(9,.v (.string (s.data.extract (s.sent).toNat s.data.size))),(10,.v (.int .i64 (chunkN s window mss)))] ?_
 refine kY 49 (!s.done) (fun h4 => ?_) (fun h4 => ?_)
 have h4n := not_t h4
 refine kTS [18,19,20,21,22,23] [55,33,36,6,8,10] 7 [(55,.v (.bool ((chunkN s window mss) == ((s.data.extract (s.sent).toNat s.data.size).size : Int)))),(33,.v (.int .i64 (nextOf s))),(36,.v (.string (s.data.extract (s.sent).toNat (s.sent + chunkN s window mss).toNat))),(6,.p 1 0),(8,.v (.int .i64 ((max window (-1)) - (flown s)))),(10,.v (.int .i64 (chunkN s window mss)))] ?_
 refine xe_eqS (t := [(55,.v (.bool ((chunkN s window mss) == ((s.data.extract (s.sent).toNat s.data.size).size : Int)))),(33,.v (.int .i64 (nextOf s))),(36,.v (.string (s.data.extract (s.sent).toNat (s.sent + chunkN s window mss).toNat))),(6,.p 1 0),(8,.v (.int .i64 ((max window (-1)) - (flown s)))),(10,.v (.int .i64 (chunkN s window mss)))]) (t' := [(55,.v (.bool ((chunkN s window mss) == ((s.data.size : Int) - s.sent)))),(33,.v (.int .i64 (nextOf s))),(36,.v (.string (s.data.extract (s.sent).toNat (s.sent + chunkN s window mss).toNat))),(6,.p 1 0),(8,.v (.int .i64 ((max window (-1)) - (flown s)))),(10,.v (.int .i64 (chunkN s window mss)))]) (by rw [show ((s.data.extract (s.sent).toNat s.data.size).size : Int) = ((s.data.size : Int) - s.sent) from hez]) ?_
 refine kY 55 ((chunkN s window mss) == ((s.data.size : Int) - s.sent)) (fun h5 => ?_) (fun h5 => ?_)
 have h5p := eqT h5
 refine kTS [24,25,26,27] [59,33,36,6] 3 [(59,.v (.bool (decide (((max window (-1)) - (flown s)) > (chunkN s window mss))))),(33,.v (.int .i64 (nextOf s))),(36,.v (.string (s.data.extract (s.sent).toNat (s.sent + chunkN s window mss).toNat))),(6,.p 1 0)] ?_
 refine kX 28 (.agg (chkL (⟨nextOf s,s.data.extract (s.sent).toNat (s.sent + chunkN s window mss).toNat,decide (((max window (-1)) - (flown s)) > (chunkN s window mss))⟩ : Chk)).toArray) rfl (fun _ _ ww hA => act_build [(0,.int .i64 (nextOf s)),(1,.string (s.data.extract (s.sent).toNat (s.sent + chunkN s window mss).toNat)),(2,.bool (decide (((max window (-1)) - (flown s)) > (chunkN s window mss))))] hA rfl (by kernel_rfl) (by kernel_rfl) ww) ?_
 refine kA [29] ?_
 refine xs_box 29 ⟨107,chkL (⟨0,(⟨#[]⟩ : ByteArray),false⟩ : Chk)⟩ _ rfl (by kernel_rfl) (by kernel_rfl) (by kernel_rfl) (by kernel_rfl) rfl ?_
 refine kA [30] ?_
 refine kSS 30 2 0 (chkL (⟨nextOf s,s.data.extract (s.sent).toNat (s.sent + chunkN s window mss).toNat,decide (((max window (-1)) - (flown s)) > (chunkN s window mss))⟩ : Chk)) rfl ?_
 refine kZ ?_
 refine kS ?_
 refine kQ ?_
 refine kRS 4 [6,11,64] [(6,.p 1 0),(11,.p 2 0),(64,.v (.bool ((s.data.extract (s.sent).toNat (s.sent + chunkN s window mss).toNat).toList == (⟨#[]⟩ : ByteArray).toList)))] ?_
 refine xl_eqS (t' := [(6,.p 1 0),(11,.p 2 0),(64,.v (.bool (chunkN s window mss == 0)))]) (by rw [show ((s.data.extract (s.sent).toNat (s.sent + chunkN s window mss).toNat).toList == (⟨#[]⟩ : ByteArray).toList) = (chunkN s window mss == 0) from hte]) ?_
 refine kP 64 (chunkN s window mss == 0) (fun h6 => ?_) (fun h6 => ?_)
 have h6p := eqT h6
 refine kED [6,11,68] [(68,.v (.bool (!(decide (((max window (-1)) - (flown s)) > (chunkN s window mss))))))] ?_
 refine kC (!(decide (((max window (-1)) - (flown s)) > (chunkN s window mss)))) (fun h7 => ?_) (fun h7 => ?_)
 have h7n := not_t h7
 refine kQ ?_
 refine kOS 0 [6] [(6,.p 1 0)] (.agg (chkL (⟨0,(⟨#[]⟩ : ByteArray),false⟩ : Chk)).toArray) rfl (fun _ _ _ ww hr => act_build [] hr.1 rfl (by kernel_rfl) (by kernel_rfl) ww) ?_
 refine kED [6,7] [(7,.v (.bool false))] ?_
 refine kR ?_
 have hmod : nextChunk s window mss = ((⟨0,(⟨#[]⟩ : ByteArray),false⟩),false) := by first | rfl | (simp [nextChunk,zeroChk,chunkFin, *]; done) | (simp [nextChunk,zeroChk,chunkFin, *]; omega) | grind [nextChunk,zeroChk,chunkFin]
 exact ⟨[.agg (chkL (⟨0,(⟨#[]⟩ : ByteArray),false⟩ : Chk)).toArray,.bool false],by kernel_rfl,fun w' hb hf => by rw [hmod]; exact ⟨rfl,hb⟩⟩
 have h7n := not_f h7
 refine kK ?_
 refine kQ ?_
 refine kEU [6,7] [(7,.v (.bool true))] 1 ⟨107,chkL (⟨nextOf s,s.data.extract (s.sent).toNat (s.sent + chunkN s window mss).toNat,decide (((max window (-1)) - (flown s)) > (chunkN s window mss))⟩ : Chk)⟩ ?_
 refine kR ?_
 have hmod : nextChunk s window mss = ((⟨nextOf s,s.data.extract (s.sent).toNat (s.sent + chunkN s window mss).toNat,decide (((max window (-1)) - (flown s)) > (chunkN s window mss))⟩),true) := by first | rfl | (simp [nextChunk,zeroChk,chunkFin, *]; done) | (simp [nextChunk,zeroChk,chunkFin, *]; omega) | grind [nextChunk,zeroChk,chunkFin]
 exact ⟨[.agg (chkL (⟨nextOf s,s.data.extract (s.sent).toNat (s.sent + chunkN s window mss).toNat,decide (((max window (-1)) - (flown s)) > (chunkN s window mss))⟩ : Chk)).toArray,.bool true],by kernel_rfl,fun w' hb hf => by rw [hmod]; exact ⟨rfl,hb⟩⟩
 have h6p := eqF h6
 refine kED [6,11,68] [(68,.v (.bool false))] ?_
 refine kN ?_
 refine kK ?_
 refine kQ ?_
 refine kEU [6,7] [(7,.v (.bool true))] 1 ⟨107,chkL (⟨nextOf s,s.data.extract (s.sent).toNat (s.sent + chunkN s window mss).toNat,decide (((max window (-1)) - (flown s)) > (chunkN s window mss))⟩ : Chk)⟩ ?_
 refine kR ?_
 have hmod : nextChunk s window mss = ((⟨nextOf s,s.data.extract (s.sent).toNat (s.sent + chunkN s window mss).toNat,decide (((max window (-1)) - (flown s)) > (chunkN s window mss))⟩),true) := by first | rfl | (simp [nextChunk,zeroChk,chunkFin, *]; done) | (simp [nextChunk,zeroChk,chunkFin, *]; omega) | grind [nextChunk,zeroChk,chunkFin]
 exact ⟨[.agg (chkL (⟨nextOf s,s.data.extract (s.sent).toNat (s.sent + chunkN s window mss).toNat,decide (((max window (-1)) - (flown s)) > (chunkN s window mss))⟩ : Chk)).toArray,.bool true],by kernel_rfl,fun w' hb hf => by rw [hmod]; exact ⟨rfl,hb⟩⟩
 have h5p := eqF h5
 refine kTS [24,25,26,27] [59,33,36,6] 3 [(59,.v (.bool false)),(33,.v (.int .i64 (nextOf s))),(36,.v (.string (s.data.extract (s.sent).toNat (s.sent + chunkN s window mss).toNat))),(6,.p 1 0)] ?_
 refine kX 28 (.agg (chkL (⟨nextOf s,s.data.extract (s.sent).toNat (s.sent + chunkN s window mss).toNat,false⟩ : Chk)).toArray) rfl (fun _ _ ww hA => act_build [(0,.int .i64 (nextOf s)),(1,.string (s.data.extract (s.sent).toNat (s.sent + chunkN s window mss).toNat)),(2,.bool false)] hA rfl (by kernel_rfl) (by kernel_rfl) ww) ?_
 refine kA [29] ?_
 refine xs_box 29 ⟨107,chkL (⟨0,(⟨#[]⟩ : ByteArray),false⟩ : Chk)⟩ _ rfl (by kernel_rfl) (by kernel_rfl) (by kernel_rfl) (by kernel_rfl) rfl ?_
 refine kA [30] ?_
 refine kSS 30 2 0 (chkL (⟨nextOf s,s.data.extract (s.sent).toNat (s.sent + chunkN s window mss).toNat,false⟩ : Chk)) rfl ?_
 refine kZ ?_
 refine kS ?_
 refine kQ ?_
 refine kRS 4 [6,11,64] [(6,.p 1 0),(11,.p 2 0),(64,.v (.bool ((s.data.extract (s.sent).toNat (s.sent + chunkN s window mss).toNat).toList == (⟨#[]⟩ : ByteArray).toList)))] ?_
 refine xl_eqS (t' := [(6,.p 1 0),(11,.p 2 0),(64,.v (.bool (chunkN s window mss == 0)))]) (by rw [show ((s.data.extract (s.sent).toNat (s.sent + chunkN s window mss).toNat).toList == (⟨#[]⟩ : ByteArray).toList) = (chunkN s window mss == 0) from hte]) ?_
 refine kP 64 (chunkN s window mss == 0) (fun h8 => ?_) (fun h8 => ?_)
 have h8p := eqT h8
 refine kED [6,11,68] [(68,.v (.bool true))] ?_
 refine kT ?_
 refine kQ ?_
 refine kOS 0 [6] [(6,.p 1 0)] (.agg (chkL (⟨0,(⟨#[]⟩ : ByteArray),false⟩ : Chk)).toArray) rfl (fun _ _ _ ww hr => act_build [] hr.1 rfl (by kernel_rfl) (by kernel_rfl) ww) ?_
 refine kED [6,7] [(7,.v (.bool false))] ?_
 refine kR ?_
 have hmod : nextChunk s window mss = ((⟨0,(⟨#[]⟩ : ByteArray),false⟩),false) := by first | rfl | (simp [nextChunk,zeroChk,chunkFin, *]; done) | (simp [nextChunk,zeroChk,chunkFin, *]; omega) | grind [nextChunk,zeroChk,chunkFin]
 exact ⟨[.agg (chkL (⟨0,(⟨#[]⟩ : ByteArray),false⟩ : Chk)).toArray,.bool false],by kernel_rfl,fun w' hb hf => by rw [hmod]; exact ⟨rfl,hb⟩⟩
 have h8p := eqF h8
 refine kED [6,11,68] [(68,.v (.bool false))] ?_
 refine kN ?_
 refine kK ?_
 refine kQ ?_
 refine kEU [6,7] [(7,.v (.bool true))] 1 ⟨107,chkL (⟨nextOf s,s.data.extract (s.sent).toNat (s.sent + chunkN s window mss).toNat,false⟩ : Chk)⟩ ?_
 refine kR ?_
 have hmod : nextChunk s window mss = ((⟨nextOf s,s.data.extract (s.sent).toNat (s.sent + chunkN s window mss).toNat,false⟩),true) := by first | rfl | (simp [nextChunk,zeroChk,chunkFin, *]; done) | (simp [nextChunk,zeroChk,chunkFin, *]; omega) | grind [nextChunk,zeroChk,chunkFin]
 exact ⟨[.agg (chkL (⟨nextOf s,s.data.extract (s.sent).toNat (s.sent + chunkN s window mss).toNat,false⟩ : Chk)).toArray,.bool true],by kernel_rfl,fun w' hb hf => by rw [hmod]; exact ⟨rfl,hb⟩⟩
 have h4n := not_f h4
 refine kTS [18,19,20,21,22,23,24,25,26,27] [59,33,36,6] 3 [(59,.v (.bool false)),(33,.v (.int .i64 (nextOf s))),(36,.v (.string (s.data.extract (s.sent).toNat (s.sent + chunkN s window mss).toNat))),(6,.p 1 0)] ?_
 refine kX 28 (.agg (chkL (⟨nextOf s,s.data.extract (s.sent).toNat (s.sent + chunkN s window mss).toNat,false⟩ : Chk)).toArray) rfl (fun _ _ ww hA => act_build [(0,.int .i64 (nextOf s)),(1,.string (s.data.extract (s.sent).toNat (s.sent + chunkN s window mss).toNat)),(2,.bool false)] hA rfl (by kernel_rfl) (by kernel_rfl) ww) ?_
 refine kA [29] ?_
 refine xs_box 29 ⟨107,chkL (⟨0,(⟨#[]⟩ : ByteArray),false⟩ : Chk)⟩ _ rfl (by kernel_rfl) (by kernel_rfl) (by kernel_rfl) (by kernel_rfl) rfl ?_
 refine kA [30] ?_
 refine kSS 30 2 0 (chkL (⟨nextOf s,s.data.extract (s.sent).toNat (s.sent + chunkN s window mss).toNat,false⟩ : Chk)) rfl ?_
 refine kZ ?_
 refine kS ?_
 refine kQ ?_
 refine kRS 4 [6,11,64] [(6,.p 1 0),(11,.p 2 0),(64,.v (.bool ((s.data.extract (s.sent).toNat (s.sent + chunkN s window mss).toNat).toList == (⟨#[]⟩ : ByteArray).toList)))] ?_
 refine xl_eqS (t' := [(6,.p 1 0),(11,.p 2 0),(64,.v (.bool (chunkN s window mss == 0)))]) (by rw [show ((s.data.extract (s.sent).toNat (s.sent + chunkN s window mss).toNat).toList == (⟨#[]⟩ : ByteArray).toList) = (chunkN s window mss == 0) from hte]) ?_
 refine kP 64 (chunkN s window mss == 0) (fun h9 => ?_) (fun h9 => ?_)
 have h9p := eqT h9
 refine kED [6,11,68] [(68,.v (.bool true))] ?_
 refine kT ?_
 refine kQ ?_
 refine kOS 0 [6] [(6,.p 1 0)] (.agg (chkL (⟨0,(⟨#[]⟩ : ByteArray),false⟩ : Chk)).toArray) rfl (fun _ _ _ ww hr => act_build [] hr.1 rfl (by kernel_rfl) (by kernel_rfl) ww) ?_
 refine kED [6,7] [(7,.v (.bool false))] ?_
 refine kR ?_
 have hmod : nextChunk s window mss = ((⟨0,(⟨#[]⟩ : ByteArray),false⟩),false) := by first | rfl | (simp [nextChunk,zeroChk,chunkFin, *]; done) | (simp [nextChunk,zeroChk,chunkFin, *]; omega) | grind [nextChunk,zeroChk,chunkFin]
 exact ⟨[.agg (chkL (⟨0,(⟨#[]⟩ : ByteArray),false⟩ : Chk)).toArray,.bool false],by kernel_rfl,fun w' hb hf => by rw [hmod]; exact ⟨rfl,hb⟩⟩
 have h9p := eqF h9
 refine kED [6,11,68] [(68,.v (.bool false))] ?_
 refine kN ?_
 refine kK ?_
 refine kQ ?_
 refine kEU [6,7] [(7,.v (.bool true))] 1 ⟨107,chkL (⟨nextOf s,s.data.extract (s.sent).toNat (s.sent + chunkN s window mss).toNat,false⟩ : Chk)⟩ ?_
 refine kR ?_
 have hmod : nextChunk s window mss = ((⟨nextOf s,s.data.extract (s.sent).toNat (s.sent + chunkN s window mss).toNat,false⟩),true) := by first | rfl | (simp [nextChunk,zeroChk,chunkFin, *]; done) | (simp [nextChunk,zeroChk,chunkFin, *]; omega) | grind [nextChunk,zeroChk,chunkFin]
 exact ⟨[.agg (chkL (⟨nextOf s,s.data.extract (s.sent).toNat (s.sent + chunkN s window mss).toNat,false⟩ : Chk)).toArray,.bool true],by kernel_rfl,fun w' hb hf => by rw [hmod]; exact ⟨rfl,hb⟩⟩
 have h3n := not_f h3
 refine kTS [13,14,15,16,17,18,19,20,21,22,23,24,25,26,27] [59,33,36,6] 3 [(59,.v (.bool false)),(33,.v (.int .i64 (nextOf s))),(36,.v (.string (s.data.extract (s.sent).toNat (s.sent + chunkN s window mss).toNat))),(6,.p 1 0)] ?_
 refine kX 28 (.agg (chkL (⟨nextOf s,s.data.extract (s.sent).toNat (s.sent + chunkN s window mss).toNat,false⟩ : Chk)).toArray) rfl (fun _ _ ww hA => act_build [(0,.int .i64 (nextOf s)),(1,.string (s.data.extract (s.sent).toNat (s.sent + chunkN s window mss).toNat)),(2,.bool false)] hA rfl (by kernel_rfl) (by kernel_rfl) ww) ?_
 refine kA [29] ?_
 refine xs_box 29 ⟨107,chkL (⟨0,(⟨#[]⟩ : ByteArray),false⟩ : Chk)⟩ _ rfl (by kernel_rfl) (by kernel_rfl) (by kernel_rfl) (by kernel_rfl) rfl ?_
 refine kA [30] ?_
 refine kSS 30 2 0 (chkL (⟨nextOf s,s.data.extract (s.sent).toNat (s.sent + chunkN s window mss).toNat,false⟩ : Chk)) rfl ?_
 refine kZ ?_
 refine kS ?_
 refine kQ ?_
 refine kRS 4 [6,11,64] [(6,.p 1 0),(11,.p 2 0),(64,.v (.bool ((s.data.extract (s.sent).toNat (s.sent + chunkN s window mss).toNat).toList == (⟨#[]⟩ : ByteArray).toList)))] ?_
 refine xl_eqS (t' := [(6,.p 1 0),(11,.p 2 0),(64,.v (.bool (chunkN s window mss == 0)))]) (by rw [show ((s.data.extract (s.sent).toNat (s.sent + chunkN s window mss).toNat).toList == (⟨#[]⟩ : ByteArray).toList) = (chunkN s window mss == 0) from hte]) ?_
 refine kP 64 (chunkN s window mss == 0) (fun h10 => ?_) (fun h10 => ?_)
 have h10p := eqT h10
 refine kED [6,11,68] [(68,.v (.bool true))] ?_
 refine kT ?_
 refine kQ ?_
 refine kOS 0 [6] [(6,.p 1 0)] (.agg (chkL (⟨0,(⟨#[]⟩ : ByteArray),false⟩ : Chk)).toArray) rfl (fun _ _ _ ww hr => act_build [] hr.1 rfl (by kernel_rfl) (by kernel_rfl) ww) ?_
 refine kED [6,7] [(7,.v (.bool false))] ?_
 refine kR ?_
 have hmod : nextChunk s window mss = ((⟨0,(⟨#[]⟩ : ByteArray),false⟩),false) := by first | rfl | (simp [nextChunk,zeroChk,chunkFin, *]; done) | (simp [nextChunk,zeroChk,chunkFin, *]; omega) | grind [nextChunk,zeroChk,chunkFin]
 exact ⟨[.agg (chkL (⟨0,(⟨#[]⟩ : ByteArray),false⟩ : Chk)).toArray,.bool false],by kernel_rfl,fun w' hb hf => by rw [hmod]; exact ⟨rfl,hb⟩⟩
 have h10p := eqF h10
 refine kED [6,11,68] [(68,.v (.bool false))] ?_
 refine kN ?_
 refine kK ?_
 refine kQ ?_
 refine kEU [6,7] [(7,.v (.bool true))] 1 ⟨107,chkL (⟨nextOf s,s.data.extract (s.sent).toNat (s.sent + chunkN s window mss).toNat,false⟩ : Chk)⟩ ?_
 refine kR ?_
 have hmod : nextChunk s window mss = ((⟨nextOf s,s.data.extract (s.sent).toNat (s.sent + chunkN s window mss).toNat,false⟩),true) := by first | rfl | (simp [nextChunk,zeroChk,chunkFin, *]; done) | (simp [nextChunk,zeroChk,chunkFin, *]; omega) | grind [nextChunk,zeroChk,chunkFin]
 exact ⟨[.agg (chkL (⟨nextOf s,s.data.extract (s.sent).toNat (s.sent + chunkN s window mss).toNat,false⟩ : Chk)).toArray,.bool true],by kernel_rfl,fun w' hb hf => by rw [hmod]; exact ⟨rfl,hb⟩⟩
 refine kTS [8,9,10,11,12,13,14,15,16,17,18,19,20,21,22,23,24,25,26,27] [59,33,36,6] 3 [(59,.v (.bool false)),(33,.v (.int .i64 (nextOf s))),(36,.v (.string (s.data.extract (s.sent).toNat (s.sent + chunkN s window mss).toNat))),(6,.p 1 0)] ?_
 refine kX 28 (.agg (chkL (⟨nextOf s,s.data.extract (s.sent).toNat (s.sent + chunkN s window mss).toNat,false⟩ : Chk)).toArray) rfl (fun _ _ ww hA => act_build [(0,.int .i64 (nextOf s)),(1,.string (s.data.extract (s.sent).toNat (s.sent + chunkN s window mss).toNat)),(2,.bool false)] hA rfl (by kernel_rfl) (by kernel_rfl) ww) ?_
 refine kA [29] ?_
 refine xs_box 29 ⟨107,chkL (⟨0,(⟨#[]⟩ : ByteArray),false⟩ : Chk)⟩ _ rfl (by kernel_rfl) (by kernel_rfl) (by kernel_rfl) (by kernel_rfl) rfl ?_
 refine kA [30] ?_
 refine kSS 30 2 0 (chkL (⟨nextOf s,s.data.extract (s.sent).toNat (s.sent + chunkN s window mss).toNat,false⟩ : Chk)) rfl ?_
 refine kZ ?_
 refine kS ?_
 refine kQ ?_
 refine kRS 4 [6,11,64] [(6,.p 1 0),(11,.p 2 0),(64,.v (.bool ((s.data.extract (s.sent).toNat (s.sent + chunkN s window mss).toNat).toList == (⟨#[]⟩ : ByteArray).toList)))] ?_
 refine xl_eqS (t' := [(6,.p 1 0),(11,.p 2 0),(64,.v (.bool (chunkN s window mss == 0)))]) (by rw [show ((s.data.extract (s.sent).toNat (s.sent + chunkN s window mss).toNat).toList == (⟨#[]⟩ : ByteArray).toList) = (chunkN s window mss == 0) from hte]) ?_
 refine kP 64 (chunkN s window mss == 0) (fun h11 => ?_) (fun h11 => ?_)
 have h11p := eqT h11
 refine kED [6,11,68] [(68,.v (.bool true))] ?_
 refine kT ?_
 refine kQ ?_
 refine kOS 0 [6] [(6,.p 1 0)] (.agg (chkL (⟨0,(⟨#[]⟩ : ByteArray),false⟩ : Chk)).toArray) rfl (fun _ _ _ ww hr => act_build [] hr.1 rfl (by kernel_rfl) (by kernel_rfl) ww) ?_
 refine kED [6,7] [(7,.v (.bool false))] ?_
 refine kR ?_
 have hmod : nextChunk s window mss = ((⟨0,(⟨#[]⟩ : ByteArray),false⟩),false) := by first | rfl | (simp [nextChunk,zeroChk,chunkFin, *]; done) | (simp [nextChunk,zeroChk,chunkFin, *]; omega) | grind [nextChunk,zeroChk,chunkFin]
 exact ⟨[.agg (chkL (⟨0,(⟨#[]⟩ : ByteArray),false⟩ : Chk)).toArray,.bool false],by kernel_rfl,fun w' hb hf => by rw [hmod]; exact ⟨rfl,hb⟩⟩
 have h11p := eqF h11
 refine kED [6,11,68] [(68,.v (.bool false))] ?_
 refine kN ?_
 refine kK ?_
 refine kQ ?_
 refine kEU [6,7] [(7,.v (.bool true))] 1 ⟨107,chkL (⟨nextOf s,s.data.extract (s.sent).toNat (s.sent + chunkN s window mss).toNat,false⟩ : Chk)⟩ ?_
 refine kR ?_
 have hmod : nextChunk s window mss = ((⟨nextOf s,s.data.extract (s.sent).toNat (s.sent + chunkN s window mss).toNat,false⟩),true) := by first | rfl | (simp [nextChunk,zeroChk,chunkFin, *]; done) | (simp [nextChunk,zeroChk,chunkFin, *]; omega) | grind [nextChunk,zeroChk,chunkFin]
 exact ⟨[.agg (chkL (⟨nextOf s,s.data.extract (s.sent).toNat (s.sent + chunkN s window mss).toNat,false⟩ : Chk)).toArray,.bool true],by kernel_rfl,fun w' hb hf => by rw [hmod]; exact ⟨rfl,hb⟩⟩
 refine xs_box 29 ⟨107,chkL (⟨0,(⟨#[]⟩ : ByteArray),false⟩ : Chk)⟩ _ rfl (by kernel_rfl) (by kernel_rfl) (by kernel_rfl) (by kernel_rfl) rfl ?_
 refine kA [1] ?_
 refine kSC 1 99 [.agg (sndL s).toArray] (some 33) rfl (xc_b fun ww hf => iNextOf_c s.una s.data s.sent s.fin s.finSent s.done ww ) ?_
 intro _
 refine kTS [7] [39,33,11,36,3,6,8,9,10] 22 [(39,.v (.bool s.fin)),(33,.v (.int .i64 (nextOf s))),(11,.p 2 0),(36,.v (.string (s.data.extract (s.sent).toNat (s.sent + chunkN s window mss).toNat))),(3,.p 0 0),(6,.p 1 0),(8,.v (.int .i64 ((max window (-1)) - (flown s)))),(9,.v (.string (s.data.extract (s.sent).toNat s.data.size))),(10,.v (.int .i64 (chunkN s window mss)))] ?_
 refine kY 39 (s.fin) (fun h12 => ?_) (fun h12 => ?_)
 refine kTS [8,9,10,11,12] [44,33,11,36,3,6,8,9,10] 17 [(44,.v (.bool (!s.finSent))),(33,.v (.int .i64 (nextOf s))),(11,.p 2 0),(36,.v (.string (s.data.extract (s.sent).toNat (s.sent + chunkN s window mss).toNat))),(3,.p 0 0),(6,.p 1 0),(8,.v (.int .i64 ((max window (-1)) - (flown s)))),(9,.v (.string (s.data.extract (s.sent).toNat s.data.size))),(10,.v (.int .i64 (chunkN s window mss)))] ?_
 refine kY 44 (!s.finSent) (fun h13 => ?_) (fun h13 => ?_)
 have h13n := not_t h13
 refine kTS [13,14,15,16,17] [49,33,11,36,6,8,9,10] 12 [(49,.v (.bool (!s.done))),(33,.v (.int .i64 (nextOf s))),(11,.p 2 0),(36,.v (.string (s.data.extract (s.sent).toNat (s.sent + chunkN s window mss).toNat))),(6,.p 1 0),(8,.v (.int .i64 ((max window (-1)) - (flown s)))),(9,.v (.string (s.data.extract (s.sent).toNat s.data.size))),(10,.v (.int .i64 (chunkN s window mss)))] ?_
 refine kY 49 (!s.done) (fun h14 => ?_) (fun h14 => ?_)
 have h14n := not_t h14
 refine kTS [18,19,20,21,22,23] [55,33,11,36,6,8,10] 6 [(55,.v (.bool ((chunkN s window mss) == ((s.data.extract (s.sent).toNat s.data.size).size : Int)))),(33,.v (.int .i64 (nextOf s))),(11,.p 2 0),(36,.v (.string (s.data.extract (s.sent).toNat (s.sent + chunkN s window mss).toNat))),(6,.p 1 0),(8,.v (.int .i64 ((max window (-1)) - (flown s)))),(10,.v (.int .i64 (chunkN s window mss)))] ?_
 refine xe_eqS (t := [(55,.v (.bool ((chunkN s window mss) == ((s.data.extract (s.sent).toNat s.data.size).size : Int)))),(33,.v (.int .i64 (nextOf s))),(11,.p 2 0),(36,.v (.string (s.data.extract (s.sent).toNat (s.sent + chunkN s window mss).toNat))),(6,.p 1 0),(8,.v (.int .i64 ((max window (-1)) - (flown s)))),(10,.v (.int .i64 (chunkN s window mss)))]) (t' := [(55,.v (.bool ((chunkN s window mss) == ((s.data.size : Int) - s.sent)))),(33,.v (.int .i64 (nextOf s))),(11,.p 2 0),(36,.v (.string (s.data.extract (s.sent).toNat (s.sent + chunkN s window mss).toNat))),(6,.p 1 0),(8,.v (.int .i64 ((max window (-1)) - (flown s)))),(10,.v (.int .i64 (chunkN s window mss)))]) (by rw [show ((s.data.extract (s.sent).toNat s.data.size).size : Int) = ((s.data.size : Int) - s.sent) from hez]) ?_
 refine kY 55 ((chunkN s window mss) == ((s.data.size : Int) - s.sent)) (fun h15 => ?_) (fun h15 => ?_)
 have h15p := eqT h15
 refine kTS [24,25,26,27] [59,33,11,36,6] 2 [(59,.v (.bool (decide (((max window (-1)) - (flown s)) > (chunkN s window mss))))),(33,.v (.int .i64 (nextOf s))),(11,.p 2 0),(36,.v (.string (s.data.extract (s.sent).toNat (s.sent + chunkN s window mss).toNat))),(6,.p 1 0)] ?_
 refine kX 28 (.agg (chkL (⟨nextOf s,s.data.extract (s.sent).toNat (s.sent + chunkN s window mss).toNat,decide (((max window (-1)) - (flown s)) > (chunkN s window mss))⟩ : Chk)).toArray) rfl (fun _ _ ww hA => act_build [(0,.int .i64 (nextOf s)),(1,.string (s.data.extract (s.sent).toNat (s.sent + chunkN s window mss).toNat)),(2,.bool (decide (((max window (-1)) - (flown s)) > (chunkN s window mss))))] hA rfl (by kernel_rfl) (by kernel_rfl) ww) ?_
 refine kA [30] ?_
 refine kSS 30 2 0 (chkL (⟨nextOf s,s.data.extract (s.sent).toNat (s.sent + chunkN s window mss).toNat,decide (((max window (-1)) - (flown s)) > (chunkN s window mss))⟩ : Chk)) rfl ?_
 refine kZ ?_
 refine kS ?_
 refine kQ ?_
 refine kRS 4 [6,11,64] [(6,.p 1 0),(11,.p 2 0),(64,.v (.bool ((s.data.extract (s.sent).toNat (s.sent + chunkN s window mss).toNat).toList == (⟨#[]⟩ : ByteArray).toList)))] ?_
 refine xl_eqS (t' := [(6,.p 1 0),(11,.p 2 0),(64,.v (.bool (chunkN s window mss == 0)))]) (by rw [show ((s.data.extract (s.sent).toNat (s.sent + chunkN s window mss).toNat).toList == (⟨#[]⟩ : ByteArray).toList) = (chunkN s window mss == 0) from hte]) ?_
 refine kP 64 (chunkN s window mss == 0) (fun h16 => ?_) (fun h16 => ?_)
 have h16p := eqT h16
 refine kED [6,11,68] [(68,.v (.bool (!(decide (((max window (-1)) - (flown s)) > (chunkN s window mss))))))] ?_
 refine kC (!(decide (((max window (-1)) - (flown s)) > (chunkN s window mss)))) (fun h17 => ?_) (fun h17 => ?_)
 have h17n := not_t h17
 refine kQ ?_
 refine kOS 0 [6] [(6,.p 1 0)] (.agg (chkL (⟨0,(⟨#[]⟩ : ByteArray),false⟩ : Chk)).toArray) rfl (fun _ _ _ ww hr => act_build [] hr.1 rfl (by kernel_rfl) (by kernel_rfl) ww) ?_
 refine kED [6,7] [(7,.v (.bool false))] ?_
 refine kR ?_
 have hmod : nextChunk s window mss = ((⟨0,(⟨#[]⟩ : ByteArray),false⟩),false) := by first | rfl | (simp [nextChunk,zeroChk,chunkFin, *]; done) | (simp [nextChunk,zeroChk,chunkFin, *]; omega) | grind [nextChunk,zeroChk,chunkFin]
 exact ⟨[.agg (chkL (⟨0,(⟨#[]⟩ : ByteArray),false⟩ : Chk)).toArray,.bool false],by kernel_rfl,fun w' hb hf => by rw [hmod]; exact ⟨rfl,hb⟩⟩
 have h17n := not_f h17
 refine kK ?_
 refine kQ ?_
 refine kEU [6,7] [(7,.v (.bool true))] 1 ⟨107,chkL (⟨nextOf s,s.data.extract (s.sent).toNat (s.sent + chunkN s window mss).toNat,decide (((max window (-1)) - (flown s)) > (chunkN s window mss))⟩ : Chk)⟩ ?_
 refine kR ?_
 have hmod : nextChunk s window mss = ((⟨nextOf s,s.data.extract (s.sent).toNat (s.sent + chunkN s window mss).toNat,decide (((max window (-1)) - (flown s)) > (chunkN s window mss))⟩),true) := by first | rfl | (simp [nextChunk,zeroChk,chunkFin, *]; done) | (simp [nextChunk,zeroChk,chunkFin, *]; omega) | grind [nextChunk,zeroChk,chunkFin]
 exact ⟨[.agg (chkL (⟨nextOf s,s.data.extract (s.sent).toNat (s.sent + chunkN s window mss).toNat,decide (((max window (-1)) - (flown s)) > (chunkN s window mss))⟩ : Chk)).toArray,.bool true],by kernel_rfl,fun w' hb hf => by rw [hmod]; exact ⟨rfl,hb⟩⟩
 have h16p := eqF h16
 refine kED [6,11,68] [(68,.v (.bool false))] ?_
 refine kN ?_
 refine kK ?_
 refine kQ ?_
 refine kEU [6,7] [(7,.v (.bool true))] 1 ⟨107,chkL (⟨nextOf s,s.data.extract (s.sent).toNat (s.sent + chunkN s window mss).toNat,decide (((max window (-1)) - (flown s)) > (chunkN s window mss))⟩ : Chk)⟩ ?_
 refine kR ?_
 have hmod : nextChunk s window mss = ((⟨nextOf s,s.data.extract (s.sent).toNat (s.sent + chunkN s window mss).toNat,decide (((max window (-1)) - (flown s)) > (chunkN s window mss))⟩),true) := by first | rfl | (simp [nextChunk,zeroChk,chunkFin, *]; done) | (simp [nextChunk,zeroChk,chunkFin, *]; omega) | grind [nextChunk,zeroChk,chunkFin]
 exact ⟨[.agg (chkL (⟨nextOf s,s.data.extract (s.sent).toNat (s.sent + chunkN s window mss).toNat,decide (((max window (-1)) - (flown s)) > (chunkN s window mss))⟩ : Chk)).toArray,.bool true],by kernel_rfl,fun w' hb hf => by rw [hmod]; exact ⟨rfl,hb⟩⟩
 have h15p := eqF h15
 refine kTS [24,25,26,27] [59,33,11,36,6] 2 [(59,.v (.bool false)),(33,.v (.int .i64 (nextOf s))),(11,.p 2 0),(36,.v (.string (s.data.extract (s.sent).toNat (s.sent + chunkN s window mss).toNat))),(6,.p 1 0)] ?_
 refine kX 28 (.agg (chkL (⟨nextOf s,s.data.extract (s.sent).toNat (s.sent + chunkN s window mss).toNat,false⟩ : Chk)).toArray) rfl (fun _ _ ww hA => act_build [(0,.int .i64 (nextOf s)),(1,.string (s.data.extract (s.sent).toNat (s.sent + chunkN s window mss).toNat)),(2,.bool false)] hA rfl (by kernel_rfl) (by kernel_rfl) ww) ?_
 refine kA [30] ?_
 refine kSS 30 2 0 (chkL (⟨nextOf s,s.data.extract (s.sent).toNat (s.sent + chunkN s window mss).toNat,false⟩ : Chk)) rfl ?_
 refine kZ ?_
 refine kS ?_
 refine kQ ?_
 refine kRS 4 [6,11,64] [(6,.p 1 0),(11,.p 2 0),(64,.v (.bool ((s.data.extract (s.sent).toNat (s.sent + chunkN s window mss).toNat).toList == (⟨#[]⟩ : ByteArray).toList)))] ?_
 refine xl_eqS (t' := [(6,.p 1 0),(11,.p 2 0),(64,.v (.bool (chunkN s window mss == 0)))]) (by rw [show ((s.data.extract (s.sent).toNat (s.sent + chunkN s window mss).toNat).toList == (⟨#[]⟩ : ByteArray).toList) = (chunkN s window mss == 0) from hte]) ?_
 refine kP 64 (chunkN s window mss == 0) (fun h18 => ?_) (fun h18 => ?_)
 have h18p := eqT h18
 refine kED [6,11,68] [(68,.v (.bool true))] ?_
 refine kT ?_
 refine kQ ?_
 refine kOS 0 [6] [(6,.p 1 0)] (.agg (chkL (⟨0,(⟨#[]⟩ : ByteArray),false⟩ : Chk)).toArray) rfl (fun _ _ _ ww hr => act_build [] hr.1 rfl (by kernel_rfl) (by kernel_rfl) ww) ?_
 refine kED [6,7] [(7,.v (.bool false))] ?_
 refine kR ?_
 have hmod : nextChunk s window mss = ((⟨0,(⟨#[]⟩ : ByteArray),false⟩),false) := by first | rfl | (simp [nextChunk,zeroChk,chunkFin, *]; done) | (simp [nextChunk,zeroChk,chunkFin, *]; omega) | grind [nextChunk,zeroChk,chunkFin]
 exact ⟨[.agg (chkL (⟨0,(⟨#[]⟩ : ByteArray),false⟩ : Chk)).toArray,.bool false],by kernel_rfl,fun w' hb hf => by rw [hmod]; exact ⟨rfl,hb⟩⟩
 have h18p := eqF h18
 refine kED [6,11,68] [(68,.v (.bool false))] ?_
 refine kN ?_
 refine kK ?_
 refine kQ ?_
 refine kEU [6,7] [(7,.v (.bool true))] 1 ⟨107,chkL (⟨nextOf s,s.data.extract (s.sent).toNat (s.sent + chunkN s window mss).toNat,false⟩ : Chk)⟩ ?_
 refine kR ?_
 have hmod : nextChunk s window mss = ((⟨nextOf s,s.data.extract (s.sent).toNat (s.sent + chunkN s window mss).toNat,false⟩),true) := by first | rfl | (simp [nextChunk,zeroChk,chunkFin, *]; done) | (simp [nextChunk,zeroChk,chunkFin, *]; omega) | grind [nextChunk,zeroChk,chunkFin]
 exact ⟨[.agg (chkL (⟨nextOf s,s.data.extract (s.sent).toNat (s.sent + chunkN s window mss).toNat,false⟩ : Chk)).toArray,.bool true],by kernel_rfl,fun w' hb hf => by rw [hmod]; exact ⟨rfl,hb⟩⟩
 have h14n := not_f h14
 refine kTS [18,19,20,21,22,23,24,25,26,27] [59,33,11,36,6] 2 [(59,.v (.bool false)),(33,.v (.int .i64 (nextOf s))),(11,.p 2 0),(36,.v (.string (s.data.extract (s.sent).toNat (s.sent + chunkN s window mss).toNat))),(6,.p 1 0)] ?_
 refine kX 28 (.agg (chkL (⟨nextOf s,s.data.extract (s.sent).toNat (s.sent + chunkN s window mss).toNat,false⟩ : Chk)).toArray) rfl (fun _ _ ww hA => act_build [(0,.int .i64 (nextOf s)),(1,.string (s.data.extract (s.sent).toNat (s.sent + chunkN s window mss).toNat)),(2,.bool false)] hA rfl (by kernel_rfl) (by kernel_rfl) ww) ?_
 refine kA [30] ?_
 refine kSS 30 2 0 (chkL (⟨nextOf s,s.data.extract (s.sent).toNat (s.sent + chunkN s window mss).toNat,false⟩ : Chk)) rfl ?_
 refine kZ ?_
 refine kS ?_
 refine kQ ?_
 refine kRS 4 [6,11,64] [(6,.p 1 0),(11,.p 2 0),(64,.v (.bool ((s.data.extract (s.sent).toNat (s.sent + chunkN s window mss).toNat).toList == (⟨#[]⟩ : ByteArray).toList)))] ?_
 refine xl_eqS (t' := [(6,.p 1 0),(11,.p 2 0),(64,.v (.bool (chunkN s window mss == 0)))]) (by rw [show ((s.data.extract (s.sent).toNat (s.sent + chunkN s window mss).toNat).toList == (⟨#[]⟩ : ByteArray).toList) = (chunkN s window mss == 0) from hte]) ?_
 refine kP 64 (chunkN s window mss == 0) (fun h19 => ?_) (fun h19 => ?_)
 have h19p := eqT h19
 refine kED [6,11,68] [(68,.v (.bool true))] ?_
 refine kT ?_
 refine kQ ?_
 refine kOS 0 [6] [(6,.p 1 0)] (.agg (chkL (⟨0,(⟨#[]⟩ : ByteArray),false⟩ : Chk)).toArray) rfl (fun _ _ _ ww hr => act_build [] hr.1 rfl (by kernel_rfl) (by kernel_rfl) ww) ?_
 refine kED [6,7] [(7,.v (.bool false))] ?_
 refine kR ?_
 have hmod : nextChunk s window mss = ((⟨0,(⟨#[]⟩ : ByteArray),false⟩),false) := by first | rfl | (simp [nextChunk,zeroChk,chunkFin, *]; done) | (simp [nextChunk,zeroChk,chunkFin, *]; omega) | grind [nextChunk,zeroChk,chunkFin]
 exact ⟨[.agg (chkL (⟨0,(⟨#[]⟩ : ByteArray),false⟩ : Chk)).toArray,.bool false],by kernel_rfl,fun w' hb hf => by rw [hmod]; exact ⟨rfl,hb⟩⟩
 have h19p := eqF h19
 refine kED [6,11,68] [(68,.v (.bool false))] ?_
 refine kN ?_
 refine kK ?_
 refine kQ ?_
 refine kEU [6,7] [(7,.v (.bool true))] 1 ⟨107,chkL (⟨nextOf s,s.data.extract (s.sent).toNat (s.sent + chunkN s window mss).toNat,false⟩ : Chk)⟩ ?_
 refine kR ?_
 have hmod : nextChunk s window mss = ((⟨nextOf s,s.data.extract (s.sent).toNat (s.sent + chunkN s window mss).toNat,false⟩),true) := by first | rfl | (simp [nextChunk,zeroChk,chunkFin, *]; done) | (simp [nextChunk,zeroChk,chunkFin, *]; omega) | grind [nextChunk,zeroChk,chunkFin]
 exact ⟨[.agg (chkL (⟨nextOf s,s.data.extract (s.sent).toNat (s.sent + chunkN s window mss).toNat,false⟩ : Chk)).toArray,.bool true],by kernel_rfl,fun w' hb hf => by rw [hmod]; exact ⟨rfl,hb⟩⟩
 have h13n := not_f h13
 refine kTS [13,14,15,16,17,18,19,20,21,22,23,24,25,26,27] [59,33,11,36,6] 2 [(59,.v (.bool false)),(33,.v (.int .i64 (nextOf s))),(11,.p 2 0),(36,.v (.string (s.data.extract (s.sent).toNat (s.sent + chunkN s window mss).toNat))),(6,.p 1 0)] ?_
 refine kX 28 (.agg (chkL (⟨nextOf s,s.data.extract (s.sent).toNat (s.sent + chunkN s window mss).toNat,false⟩ : Chk)).toArray) rfl (fun _ _ ww hA => act_build [(0,.int .i64 (nextOf s)),(1,.string (s.data.extract (s.sent).toNat (s.sent + chunkN s window mss).toNat)),(2,.bool false)] hA rfl (by kernel_rfl) (by kernel_rfl) ww) ?_
 refine kA [30] ?_
 refine kSS 30 2 0 (chkL (⟨nextOf s,s.data.extract (s.sent).toNat (s.sent + chunkN s window mss).toNat,false⟩ : Chk)) rfl ?_
 refine kZ ?_
 refine kS ?_
 refine kQ ?_
 refine kRS 4 [6,11,64] [(6,.p 1 0),(11,.p 2 0),(64,.v (.bool ((s.data.extract (s.sent).toNat (s.sent + chunkN s window mss).toNat).toList == (⟨#[]⟩ : ByteArray).toList)))] ?_
 refine xl_eqS (t' := [(6,.p 1 0),(11,.p 2 0),(64,.v (.bool (chunkN s window mss == 0)))]) (by rw [show ((s.data.extract (s.sent).toNat (s.sent + chunkN s window mss).toNat).toList == (⟨#[]⟩ : ByteArray).toList) = (chunkN s window mss == 0) from hte]) ?_
 refine kP 64 (chunkN s window mss == 0) (fun h20 => ?_) (fun h20 => ?_)
 have h20p := eqT h20
 refine kED [6,11,68] [(68,.v (.bool true))] ?_
 refine kT ?_
 refine kQ ?_
 refine kOS 0 [6] [(6,.p 1 0)] (.agg (chkL (⟨0,(⟨#[]⟩ : ByteArray),false⟩ : Chk)).toArray) rfl (fun _ _ _ ww hr => act_build [] hr.1 rfl (by kernel_rfl) (by kernel_rfl) ww) ?_
 refine kED [6,7] [(7,.v (.bool false))] ?_
 refine kR ?_
 have hmod : nextChunk s window mss = ((⟨0,(⟨#[]⟩ : ByteArray),false⟩),false) := by first | rfl | (simp [nextChunk,zeroChk,chunkFin, *]; done) | (simp [nextChunk,zeroChk,chunkFin, *]; omega) | grind [nextChunk,zeroChk,chunkFin]
 exact ⟨[.agg (chkL (⟨0,(⟨#[]⟩ : ByteArray),false⟩ : Chk)).toArray,.bool false],by kernel_rfl,fun w' hb hf => by rw [hmod]; exact ⟨rfl,hb⟩⟩
 have h20p := eqF h20
 refine kED [6,11,68] [(68,.v (.bool false))] ?_
 refine kN ?_
 refine kK ?_
 refine kQ ?_
 refine kEU [6,7] [(7,.v (.bool true))] 1 ⟨107,chkL (⟨nextOf s,s.data.extract (s.sent).toNat (s.sent + chunkN s window mss).toNat,false⟩ : Chk)⟩ ?_
 refine kR ?_
 have hmod : nextChunk s window mss = ((⟨nextOf s,s.data.extract (s.sent).toNat (s.sent + chunkN s window mss).toNat,false⟩),true) := by first | rfl | (simp [nextChunk,zeroChk,chunkFin, *]; done) | (simp [nextChunk,zeroChk,chunkFin, *]; omega) | grind [nextChunk,zeroChk,chunkFin]
 exact ⟨[.agg (chkL (⟨nextOf s,s.data.extract (s.sent).toNat (s.sent + chunkN s window mss).toNat,false⟩ : Chk)).toArray,.bool true],by kernel_rfl,fun w' hb hf => by rw [hmod]; exact ⟨rfl,hb⟩⟩
 refine kTS [8,9,10,11,12,13,14,15,16,17,18,19,20,21,22,23,24,25,26,27] [59,33,11,36,6] 2 [(59,.v (.bool false)),(33,.v (.int .i64 (nextOf s))),(11,.p 2 0),(36,.v (.string (s.data.extract (s.sent).toNat (s.sent + chunkN s window mss).toNat))),(6,.p 1 0)] ?_
 refine kX 28 (.agg (chkL (⟨nextOf s,s.data.extract (s.sent).toNat (s.sent + chunkN s window mss).toNat,false⟩ : Chk)).toArray) rfl (fun _ _ ww hA => act_build [(0,.int .i64 (nextOf s)),(1,.string (s.data.extract (s.sent).toNat (s.sent + chunkN s window mss).toNat)),(2,.bool false)] hA rfl (by kernel_rfl) (by kernel_rfl) ww) ?_
 refine kA [30] ?_
 refine kSS 30 2 0 (chkL (⟨nextOf s,s.data.extract (s.sent).toNat (s.sent + chunkN s window mss).toNat,false⟩ : Chk)) rfl ?_
 refine kZ ?_
 refine kS ?_
 refine kQ ?_
 refine kRS 4 [6,11,64] [(6,.p 1 0),(11,.p 2 0),(64,.v (.bool ((s.data.extract (s.sent).toNat (s.sent + chunkN s window mss).toNat).toList == (⟨#[]⟩ : ByteArray).toList)))] ?_
 refine xl_eqS (t' := [(6,.p 1 0),(11,.p 2 0),(64,.v (.bool (chunkN s window mss == 0)))]) (by rw [show ((s.data.extract (s.sent).toNat (s.sent + chunkN s window mss).toNat).toList == (⟨#[]⟩ : ByteArray).toList) = (chunkN s window mss == 0) from hte]) ?_
 refine kP 64 (chunkN s window mss == 0) (fun h21 => ?_) (fun h21 => ?_)
 have h21p := eqT h21
 refine kED [6,11,68] [(68,.v (.bool true))] ?_
 refine kT ?_
 refine kQ ?_
 refine kOS 0 [6] [(6,.p 1 0)] (.agg (chkL (⟨0,(⟨#[]⟩ : ByteArray),false⟩ : Chk)).toArray) rfl (fun _ _ _ ww hr => act_build [] hr.1 rfl (by kernel_rfl) (by kernel_rfl) ww) ?_
 refine kED [6,7] [(7,.v (.bool false))] ?_
 refine kR ?_
 have hmod : nextChunk s window mss = ((⟨0,(⟨#[]⟩ : ByteArray),false⟩),false) := by first | rfl | (simp [nextChunk,zeroChk,chunkFin, *]; done) | (simp [nextChunk,zeroChk,chunkFin, *]; omega) | grind [nextChunk,zeroChk,chunkFin]
 exact ⟨[.agg (chkL (⟨0,(⟨#[]⟩ : ByteArray),false⟩ : Chk)).toArray,.bool false],by kernel_rfl,fun w' hb hf => by rw [hmod]; exact ⟨rfl,hb⟩⟩
 have h21p := eqF h21
 refine kED [6,11,68] [(68,.v (.bool false))] ?_
 refine kN ?_
 refine kK ?_
 refine kQ ?_
 refine kEU [6,7] [(7,.v (.bool true))] 1 ⟨107,chkL (⟨nextOf s,s.data.extract (s.sent).toNat (s.sent + chunkN s window mss).toNat,false⟩ : Chk)⟩ ?_
 refine kR ?_
 have hmod : nextChunk s window mss = ((⟨nextOf s,s.data.extract (s.sent).toNat (s.sent + chunkN s window mss).toNat,false⟩),true) := by first | rfl | (simp [nextChunk,zeroChk,chunkFin, *]; done) | (simp [nextChunk,zeroChk,chunkFin, *]; omega) | grind [nextChunk,zeroChk,chunkFin]
 exact ⟨[.agg (chkL (⟨nextOf s,s.data.extract (s.sent).toNat (s.sent + chunkN s window mss).toNat,false⟩ : Chk)).toArray,.bool true],by kernel_rfl,fun w' hb hf => by rw [hmod]; exact ⟨rfl,hb⟩⟩
theorem yiSentOff_c (s : Snd) (c : Chk) (w : World)  : Calls Tryz.prog 103 #[.agg (sndL s).toArray, .agg (chkL c).toArray] w fun e w' => e = .returned (.agg (sndL (sentOff s c)).toArray) ∧ Below w.heap.size w w' := by
 have hsf := sentS_fin s c
 refine x_calls (args := [.agg (sndL s).toArray,.agg (chkL c).toArray]) (fn := Tryz.f103) [] Tryz.func103 rfl Tryz.ntmps103 rfl (by simp) ?_
 refine kQ ?_
 refine kEF [2,3,4] ⟨[(2,.p 0 0),(3,.p 1 0),(4,.p 2 0)],[⟨38,sndL s⟩,⟨107,chkL c⟩,⟨38,sndZ⟩],[],[]⟩ ?_
 refine kQ ?_
 refine kEF [2,3,4,5] ⟨[(2,.p 0 0),(3,.p 1 0),(4,.p 2 0),(5,.p 3 0)],[⟨38,sndL s⟩,⟨107,chkL c⟩,⟨38,sndZ⟩,⟨38,sndL s⟩],[],[]⟩ ?_
 refine kQ ?_
 refine kEF [2,3,4,5] ⟨[(2,.p 0 0),(3,.p 1 0),(4,.p 2 0),(5,.p 3 0)],[⟨38,sndL s⟩,⟨107,chkL c⟩,⟨38,sndZ⟩,⟨38,sndL { s with sent := IntKind.i64.wrap (s.sent + (c.text.size : Int)) }⟩],[],[]⟩ ?_
 refine kS ?_
 refine xw_join ⟨[(2,.p 0 0),(3,.p 1 0),(4,.p 2 0),(5,.p 3 0)],[⟨38,sndL s⟩,⟨107,chkL c⟩,⟨38,sndZ⟩,⟨38,sndL { s with sent := IntKind.i64.wrap (s.sent + (c.text.size : Int)),finSent := s.finSent || c.fin }⟩],[],[]⟩ ?_ ?_
 refine kG ?_
 refine kRS 3 [2,3,4,5,16] [(2,.p 0 0),(3,.p 1 0),(4,.p 2 0),(5,.p 3 0),(16,.v (.bool s.finSent))] ?_
 refine kP 16 (s.finSent) (fun h1 => ?_) (fun h1 => ?_)
 refine kEF [2,3,4,5] ⟨[(2,.p 0 0),(3,.p 1 0),(4,.p 2 0),(5,.p 3 0)],[⟨38,sndL s⟩,⟨107,chkL c⟩,⟨38,sndZ⟩,⟨38,sndL { s with sent := IntKind.i64.wrap (s.sent + (c.text.size : Int)),finSent := true }⟩],[],[]⟩ ?_
 show Wk _ _
 try rw [h1]
 exact kF 4 0 [2,3,4,5]
 refine kEF [2,3,4,5] ⟨[(2,.p 0 0),(3,.p 1 0),(4,.p 2 0),(5,.p 3 0)],[⟨38,sndL s⟩,⟨107,chkL c⟩,⟨38,sndZ⟩,⟨38,sndL { s with sent := IntKind.i64.wrap (s.sent + (c.text.size : Int)),finSent := c.fin }⟩],[],[]⟩ ?_
 show Wk _ _
 try rw [h1]
 exact kF 4 0 [2,3,4,5]
 refine kS ?_
 refine kS ?_
 refine xw_join ⟨[(2,.p 0 0),(4,.p 2 0),(5,.p 3 0),(41,.v (.bool ((!(senderOk s)) || ((!(senderOk ({ s with sent := IntKind.i64.wrap (s.sent + (c.text.size : Int)),finSent := s.finSent || c.fin }))) || (c.fin && ((!s.fin) || s.done))))))],[⟨38,sndL s⟩,⟨107,chkL c⟩,⟨38,sndZ⟩,⟨38,sndL { s with sent := IntKind.i64.wrap (s.sent + (c.text.size : Int)),finSent := s.finSent || c.fin }⟩],[],[]⟩ ?_ ?_
 refine kG ?_
 refine kCS 1 [2,3,4,5,21] [(2,.p 0 0),(3,.p 1 0),(4,.p 2 0),(5,.p 3 0),(21,.v (.agg (sndL s).toArray))] 59 [.agg (sndL s).toArray] (some 22) rfl (xc_b fun ww hf => iSenderOk_c s.una s.data s.sent s.fin s.finSent s.done ww ) ?_
 intro _
 refine kRS 2 [2,3,4,5,24] [(2,.p 0 0),(3,.p 1 0),(4,.p 2 0),(5,.p 3 0),(24,.v (.bool (!(senderOk s))))] ?_
 refine kP 24 (!(senderOk s)) (fun h2 => ?_) (fun h2 => ?_)
 have h2n := not_t h2
 refine kES [2,4,5,41] [(2,.p 0 0),(4,.p 2 0),(5,.p 3 0),(41,.v (.bool true))] ?_
 show Wk _ _
 try rw [h2]
 exact kF 4 0 [2,4,5,41]
 have h2n := not_f h2
 have h2nb := senderOk_bd (s := s) (by simpa using h2n)
 obtain ⟨h2nb0,h2nb1,h2nb2,h2nb3,h2nb4,h2nb5,h2nb6,h2nb7,h2nb8,h2nb9,h2nb10⟩ := h2nb
 refine kCS 1 [2,3,4,5,24,25] [(2,.p 0 0),(3,.p 1 0),(4,.p 2 0),(5,.p 3 0),(24,.v (.bool false)),(25,.v (.agg (sndL { s with sent := IntKind.i64.wrap (s.sent + (c.text.size : Int)),finSent := s.finSent || c.fin }).toArray))] 59 [.agg (sndL { s with sent := IntKind.i64.wrap (s.sent + (c.text.size : Int)),finSent := s.finSent || c.fin }).toArray] (some 26) rfl (xc_b fun ww hf => iSenderOk_c s.una s.data (IntKind.i64.wrap (s.sent + (c.text.size : Int))) s.fin (s.finSent || c.fin) s.done ww ) ?_
 intro _
 refine kRS 3 [2,3,4,5,29] [(2,.p 0 0),(3,.p 1 0),(4,.p 2 0),(5,.p 3 0),(29,.v (.bool (!(senderOk ({ s with sent := IntKind.i64.wrap (s.sent + (c.text.size : Int)),finSent := s.finSent || c.fin })))))] ?_
 refine kP 29 (!(senderOk ({ s with sent := IntKind.i64.wrap (s.sent + (c.text.size : Int)),finSent := s.finSent || c.fin }))) (fun h3 => ?_) (fun h3 => ?_)
 have h3n := not_t h3
 refine kES [2,4,5,41] [(2,.p 0 0),(4,.p 2 0),(5,.p 3 0),(41,.v (.bool true))] ?_
 show Wk _ _
 try rw [h2]
 try rw [h3]
 exact kF 4 0 [2,4,5,41]
 have h3n := not_f h3
 have h3nb := senderOk_bd (s := ({ s with sent := IntKind.i64.wrap (s.sent + (c.text.size : Int)),finSent := s.finSent || c.fin })) (by simpa using h3n)
 obtain ⟨h3nb0,h3nb1,h3nb2,h3nb3,h3nb4,h3nb5,h3nb6,h3nb7,h3nb8,h3nb9,h3nb10⟩ := h3nb
 refine kRS 3 [2,4,5,29,32] [(2,.p 0 0),(4,.p 2 0),(5,.p 3 0),(29,.v (.bool false)),(32,.v (.bool c.fin))] ?_
 refine kP 32 (c.fin) (fun h4 => ?_) (fun h4 => ?_)
 refine kRS 4 [2,4,5,29,32,36] [(2,.p 0 0),(4,.p 2 0),(5,.p 3 0),(29,.v (.bool false)),(32,.v (.bool true)),(36,.v (.bool (!s.fin)))] ?_
 refine kP 36 (!s.fin) (fun h5 => ?_) (fun h5 => ?_)
 have h5n := not_t h5
 refine kES [2,4,5,41] [(2,.p 0 0),(4,.p 2 0),(5,.p 3 0),(41,.v (.bool true))] ?_
 show Wk _ _
 try rw [h2]
 try rw [h3]
 try rw [h4]
 try rw [h5]
 exact kF 4 0 [2,4,5,41]
 have h5n := not_f h5
 refine kES [2,4,5,41] [(2,.p 0 0),(4,.p 2 0),(5,.p 3 0),(41,.v (.bool s.done))] ?_
 show Wk _ _
 try rw [h2]
 try rw [h3]
 try rw [h4]
 try rw [h5]
 exact kF 4 0 [2,4,5,41]
 refine kES [2,4,5,41] [(2,.p 0 0),(4,.p 2 0),(5,.p 3 0),(41,.v (.bool false))] ?_
 show Wk _ _
 try rw [h2]
 try rw [h3]
 try rw [h4]
 exact kF 4 0 [2,4,5,41]
 refine kC ((!(senderOk s)) || ((!(senderOk ({ s with sent := IntKind.i64.wrap (s.sent + (c.text.size : Int)),finSent := s.finSent || c.fin }))) || (c.fin && ((!s.fin) || s.done)))) (fun h6 => ?_) (fun h6 => ?_)
 refine kQ ?_
 refine kEF [4] ⟨[(4,.p 2 0)],[⟨38,sndL s⟩,⟨107,chkL c⟩,⟨38,sndL s⟩,⟨38,sndL { s with sent := IntKind.i64.wrap (s.sent + (c.text.size : Int)),finSent := s.finSent || c.fin }⟩],[],[]⟩ ?_
 refine kR ?_
 have hmod : sentOff s c = s := by first | rfl | (simp [sentOff,sentS, *]; done) | grind [sentOff,sentS]
 exact ⟨[.agg (sndL s).toArray],by kernel_rfl,fun w' hb hf => by rw [hmod]; exact ⟨rfl,hb⟩⟩
 have h6l := or_l h6
 have h6ln := not_f h6l
 have h6lnb := senderOk_bd (s := s) (by simpa using h6ln)
 obtain ⟨h6lnb0,h6lnb1,h6lnb2,h6lnb3,h6lnb4,h6lnb5,h6lnb6,h6lnb7,h6lnb8,h6lnb9,h6lnb10⟩ := h6lnb
 have h6r := or_r h6
 have h6rl := or_l h6r
 have h6rln := not_f h6rl
 have h6rlnb := senderOk_bd (s := ({ s with sent := IntKind.i64.wrap (s.sent + (c.text.size : Int)),finSent := s.finSent || c.fin })) (by simpa using h6rln)
 obtain ⟨h6rlnb0,h6rlnb1,h6rlnb2,h6rlnb3,h6rlnb4,h6rlnb5,h6rlnb6,h6rlnb7,h6rlnb8,h6rlnb9,h6rlnb10⟩ := h6rlnb
 have h6rr := or_r h6r
 refine kK ?_
 refine kQ ?_
 refine kEF [4] ⟨[(4,.p 2 0)],[⟨38,sndL s⟩,⟨107,chkL c⟩,⟨38,sndL { s with sent := IntKind.i64.wrap (s.sent + (c.text.size : Int)),finSent := s.finSent || c.fin }⟩,⟨38,sndL { s with sent := IntKind.i64.wrap (s.sent + (c.text.size : Int)),finSent := s.finSent || c.fin }⟩],[],[]⟩ ?_
 refine kR ?_
 have hmod : sentOff s c = ({ s with sent := IntKind.i64.wrap (s.sent + (c.text.size : Int)),finSent := s.finSent || c.fin }) := by first | rfl | (simp [sentOff,sentS, *]; done) | grind [sentOff,sentS]
 exact ⟨[.agg (sndL { s with sent := IntKind.i64.wrap (s.sent + (c.text.size : Int)),finSent := s.finSent || c.fin }).toArray],by kernel_rfl,fun w' hb hf => by rw [hmod]; exact ⟨rfl,hb⟩⟩
theorem ysPump_c (c : Con) (c_r_heldV : Value) (window : Int) (w : World) (hl_c_r_heldV : Sl w c_r_heldV 2 (c.r.held.map pceCells)) (hkn : c.r.held.length ≤ 1048576)(hm : ∀ p ∈ c.r.held, p.text.size ≤ 1048576) (hsz : c.r.data.size ≤ 4611686018427387904) (hwi : -9223372036854775808 ≤ window ∧ window ≤ 9223372036854775807) (B : Nat) (hB : B ≤ w.heap.size) : Calls Tryz.prog 36 #[.agg (conL c c_r_heldV).toArray, .int .i64 window] w fun e w' => XRs w w' e (α := (Option Addr × Nat) × (Option Addr × Nat)) (fun y => .tuple #[.agg (conL (pump c window).1 (.slice y.1.1 ((pump c window).1.r.held.length) y.1.2)).toArray, .slice y.2.1 ((pump c window).2.length) y.2.2]) (fun y => [ownF B (.slice y.1.1 ((pump c window).1.r.held.length) y.1.2) 2 ((pump c window).1.r.held.map pceCells), rowF B 50 13 (.slice y.2.1 ((pump c window).2.length) y.2.2) ((pump c window).2.map segCells)]) := by
 obtain ⟨Acrh,Ccrh,hvcrh⟩ := hl_c_r_heldV.form
 rw [List.length_map] at hvcrh; subst hvcrh
 have hncrh := hl_c_r_heldV.len; rw [List.length_map] at hncrh
 have hqcrh := Sl.capLe hl_c_r_heldV
 refine x_callsA (args := [.agg (conL c (.slice Acrh c.r.held.length Ccrh)).toArray,.int .i64 window]) (fn := Tryz.f36) [slF (.slice Acrh c.r.held.length Ccrh) 2 (c.r.held.map pceCells)] Tryz.func36 rfl Tryz.ntmps36 rfl (by simp only [List.mem_cons,List.not_mem_nil,or_false,forall_eq_or_imp,forall_eq]; exact ⟨rfl,hl_c_r_heldV⟩) ?_
 refine kQ ?_
 refine kEF [1,2,4] ⟨[(1,.v (.int .i64 window)),(2,.p 0 0),(4,.p 1 0)],[⟨44,conL c (.slice Acrh c.r.held.length Ccrh)⟩,⟨44,conZ⟩],[],[slF (.slice Acrh c.r.held.length Ccrh) 2 (c.r.held.map pceCells)]⟩ ?_
 refine kQ ?_
 refine kCD 1 [1,2,4,10] [(10,.v (.agg (conL c (.slice Acrh c.r.held.length Ccrh)).toArray))] 33 [.agg (conL c (.slice Acrh c.r.held.length Ccrh)).toArray] (some 11) rfl (xc_r fun ww hw hf => yl19Copy_c c (.slice Acrh c.r.held.length Ccrh) ww (hf _ m0) (by assumption) w.heap.size hw) ?_
 rintro ⟨v1a,v1c⟩
 refine kEU [1,2,4] [] 0 ⟨44,conL c (.slice v1a c.r.held.length v1c)⟩ ?_
 refine kQ ?_
 refine kHD 0 [1,2,4] [] rfl (hv_build (e := 50) (K := 13) (bytes := 104) [] rfl (by kernel_rfl) (by kernel_rfl) (by kernel_rfl) (by kernel_rfl) (by kernel_rfl) (rs := ([] : List Seg).map segCells) rfl) ?_
 intro g2
 refine kED [1,2,4,6] [(6,.v (.slice (some ⟨g2,0,none⟩) 0 0))] ?_
 refine kS ?_
 refine kQ ?_
 refine kCD 1 [1,2,4,6,13] [(13,.v (.agg (conL c (.slice v1a c.r.held.length v1c)).toArray))] 25 [.agg (conL c (.slice v1a c.r.held.length v1c)).toArray] (some 14) rfl (xc_b fun ww hf => ysConnOk_c c (.slice v1a c.r.held.length v1c) ww (Own.sl (hf _ m1)) (by assumption) (by omega)) ?_
 intro _
 refine kRD 2 [1,2,4,6,16] [(16,.v (.bool (!(conOk c))))] ?_
 refine kP 16 (!(conOk c)) (fun h3 => ?_) (fun h3 => ?_)
 have h3n := not_t h3
 refine kED [1,2,4,6,25] [(25,.v (.bool true))] ?_
 refine kT ?_
 refine kQ ?_
 refine kEU [4,5] [(5,.v (.slice (some ⟨g2,0,none⟩) 0 0))] 1 ⟨44,conL c (.slice v1a c.r.held.length v1c)⟩ ?_
 refine kR ?_
 have hmod : pump c window = (c,([] : List Seg)) := by first | (simp [pump, *]; done) | exact pump_yes hok hs8 hs7 hS hL (by first | exact HT.symm | (unfold tmr; rw [show L.isEmpty = decide (L.length = 0) from by cases L <;> rfl]; simp only [decide_eq_true_eq]; split <;> (try split) <;> omega))
 exact ⟨[.agg (conL c (.slice v1a c.r.held.length v1c)).toArray,.slice (some ⟨g2,0,none⟩) 0 0],by kernel_rfl,fun w' hb hf ha => by rw [hmod]; exact xo2 ((v1a,v1c),(((some ⟨g2,0,none⟩) : Option Addr),0)) rfl rfl (pO (hf _ m1) hB) (pW (hf _ m0) hB) (Apart.sub2 ha (i := 1) (j := 0) rfl rfl (by decide) rfl (fun b h => h) (fun b h => h)) hb⟩
 have h3n := not_f h3
 refine kRD 5 [1,2,4,6,21] [(21,.v (.bool (c.state == 8)))] ?_
 refine kP 21 (c.state == 8) (fun h4 => ?_) (fun h4 => ?_)
 have h4p := eqT h4
 refine kED [1,2,4,6,25] [(25,.v (.bool true))] ?_
 refine kT ?_
 refine kQ ?_
 refine kEU [4,5] [(5,.v (.slice (some ⟨g2,0,none⟩) 0 0))] 1 ⟨44,conL c (.slice v1a c.r.held.length v1c)⟩ ?_
 refine kR ?_
 have hmod : pump c window = (c,([] : List Seg)) := by first | (simp [pump, *]; done) | exact pump_yes hok hs8 hs7 hS hL (by first | exact HT.symm | (unfold tmr; rw [show L.isEmpty = decide (L.length = 0) from by cases L <;> rfl]; simp only [decide_eq_true_eq]; split <;> (try split) <;> omega))
 exact ⟨[.agg (conL c (.slice v1a c.r.held.length v1c)).toArray,.slice (some ⟨g2,0,none⟩) 0 0],by kernel_rfl,fun w' hb hf ha => by rw [hmod]; exact xo2 ((v1a,v1c),(((some ⟨g2,0,none⟩) : Option Addr),0)) rfl rfl (pO (hf _ m1) hB) (pW (hf _ m0) hB) (Apart.sub2 ha (i := 1) (j := 0) rfl rfl (by decide) rfl (fun b h => h) (fun b h => h)) hb⟩
 have h4p := eqF h4
 refine kED [1,2,4,6,25] [(25,.v (.bool (c.state == 7)))] ?_
 refine kC (c.state == 7) (fun h5 => ?_) (fun h5 => ?_)
 have h5p := eqT h5
 refine kQ ?_
 refine kEU [4,5] [(5,.v (.slice (some ⟨g2,0,none⟩) 0 0))] 1 ⟨44,conL c (.slice v1a c.r.held.length v1c)⟩ ?_
 refine kR ?_
 have hmod : pump c window = (c,([] : List Seg)) := by first | (simp [pump, *]; done) | exact pump_yes hok hs8 hs7 hS hL (by first | exact HT.symm | (unfold tmr; rw [show L.isEmpty = decide (L.length = 0) from by cases L <;> rfl]; simp only [decide_eq_true_eq]; split <;> (try split) <;> omega))
 exact ⟨[.agg (conL c (.slice v1a c.r.held.length v1c)).toArray,.slice (some ⟨g2,0,none⟩) 0 0],by kernel_rfl,fun w' hb hf ha => by rw [hmod]; exact xo2 ((v1a,v1c),(((some ⟨g2,0,none⟩) : Option Addr),0)) rfl rfl (pO (hf _ m1) hB) (pW (hf _ m0) hB) (Apart.sub2 ha (i := 1) (j := 0) rfl rfl (by decide) rfl (fun b h => h) (fun b h => h)) hb⟩
 have h5p := eqF h5
 refine kK ?_
 refine xw_block ?_
 have hok : conOk c = true := by simp_all
 have hs8 : ¬ c.state = 8 := by simp_all
 have hs7 : ¬ c.state = 7 := by simp_all
 refine xw_loopW (α := {x : Snd × List Seg × Int × Option Addr × Nat // (fun (s : Snd) (L : List Seg) (t : Int) (A : Option Addr) (cap : Nat) => (pumpC c.s window (mssO c.o)).1 = (pumpC s window (mssO c.o)).1 ∧ (pumpC c.s window (mssO c.o)).2.map (segOf c) = L ++ (pumpC s window (mssO c.o)).2.map (segOf c) ∧ L.length + meas s ≤ 49 ∧ t = tmr c L) x.1 x.2.1 x.2.2.1 x.2.2.2.1 x.2.2.2.2}) (fun x => (fun (s : Snd) (L : List Seg) (t : Int) (A : Option Addr) (cap : Nat) => (⟨[(1,.v (.int .i64 window)),(2,.p 0 0),(4,.p 1 0),(6,.v (.slice A L.length cap))],[⟨44,conL { c with s := s,timer := t } (.slice v1a c.r.held.length v1c)⟩,⟨44,conZ⟩],[],[rowF w.heap.size 50 13 (.slice A L.length cap) (L.map segCells),ownF w.heap.size (.slice v1a c.r.held.length v1c) 2 (c.r.held.map pceCells),slF (.slice Acrh c.r.held.length Ccrh) 2 (c.r.held.map pceCells)]⟩ : St)) x.1.1 x.1.2.1 x.1.2.2.1 x.1.2.2.2.1 x.1.2.2.2.2) (fun x => (fun (s : Snd) (L : List Seg) (t : Int) (A : Option Addr) (cap : Nat) => meas s) x.1.1 x.1.2.1 x.1.2.2.1 x.1.2.2.2.1 x.1.2.2.2.2) ⟨(c.s,([] : List Seg),c.timer,(some ⟨g2,0,none⟩),0),⟨rfl,rfl,(by have := meas_le (conOk_s hok); simp only [List.length_nil]; omega),rfl⟩⟩ ((wk_pick [0,1,2] [rowF w.heap.size 50 13 (.slice (some ⟨g2,0,none⟩) 0 0) (([] : List Seg).map segCells),ownF w.heap.size (.slice v1a c.r.held.length v1c) 2 (c.r.held.map pceCells),slF (.slice Acrh c.r.held.length Ccrh) 2 (c.r.held.map pceCells)] (by kernel_rfl) (by kernel_rfl)).trans <| kF 2 0 [1,2,4,6]) ?_
 rintro ⟨⟨s,L,t,A,cap⟩,HS,HL,HR,HT⟩
 try dsimp only
 try dsimp only at HS HL HR HT
 refine xw_block ?_
 refine kS ?_
 refine xw_join ⟨[(1,.v (.int .i64 window)),(2,.p 0 0),(4,.p 1 0),(6,.v (.slice A L.length cap)),(7,.p 2 0),(8,.v (.bool ((nextChunk s window (mssO c.o)).2)))],[⟨44,conL { c with s := s,timer := t } (.slice v1a c.r.held.length v1c)⟩,⟨44,conZ⟩,⟨107,chkL (nextChunk s window (mssO c.o)).1⟩],[],[rowF w.heap.size 50 13 (.slice A L.length cap) (L.map segCells),ownF w.heap.size (.slice v1a c.r.held.length v1c) 2 (c.r.held.map pceCells),slF (.slice Acrh c.r.held.length Ccrh) 2 (c.r.held.map pceCells)]⟩ ?_ ?_
 refine xe_region [] (by kernel_rfl) (fun ρ σ => ?_)
 refine kTD [0,1,2,3] [32,31,30,1,2,4,6] 8 [(32,.v (.agg (conL { c with s := s,timer := t } (.slice v1a c.r.held.length v1c)).toArray)),(31,.v (.int .i64 window)),(30,.v (.agg (sndL s).toArray))] ?_
 refine kA [4,9] ⟨?_,?_⟩
 refine kSC 4 90 [.agg (conL { c with s := s,timer := t } (.slice v1a c.r.held.length v1c)).toArray] (some 33) rfl (xc_b fun ww hf => ysMssFor_c ({ c with s := s,timer := t }) (.slice v1a c.r.held.length v1c) ww ) ?_
 intro _
 refine kA [5,9] ⟨?_,?_⟩
 refine kSC 5 89 [.agg (sndL s).toArray,.int .i64 window,.int .i64 (mssO c.o)] (some 34) rfl (xc_b fun ww hf => ysNextChunk_c s window (mssO c.o) ww  (by first | omega | (rw [wrap_id (by omega) (by omega)]; omega))) ?_
 intro _
 refine kTD [6,7,8] [36,35,1,2,4,6] 3 [(36,.v (.bool ((nextChunk s window (mssO c.o)).2))),(35,.v (.agg (chkL (nextChunk s window (mssO c.o)).1).toArray))] ?_
 refine kA [9] ?_
 refine xs_box 9 ⟨107,chkL (⟨0,(⟨#[]⟩ : ByteArray),false⟩ : Chk)⟩ _ rfl (by kernel_rfl) (by kernel_rfl) (by kernel_rfl) (by kernel_rfl) rfl ?_
 refine kA [10] ?_
 refine kSS 10 2 0 (chkL (nextChunk s window (mssO c.o)).1) rfl ?_
 refine kTS [11] [8,7,1,2,4,6] 0 [(8,.v (.bool ((nextChunk s window (mssO c.o)).2))),(7,.p 2 0),(1,.v (.int .i64 window)),(2,.p 0 0),(4,.p 1 0),(6,.v (.slice A L.length cap))] ?_
 refine kZ ?_
 exact kF 3 0 [1,2,4,6,7,8]
 refine xs_box 9 ⟨107,chkL (⟨0,(⟨#[]⟩ : ByteArray),false⟩ : Chk)⟩ _ rfl (by kernel_rfl) (by kernel_rfl) (by kernel_rfl) (by kernel_rfl) rfl ?_
 refine kA [5] ?_
 refine kSC 5 89 [.agg (sndL s).toArray,.int .i64 window,.int .i64 (mssO c.o)] (some 34) rfl (xc_b fun ww hf => ysNextChunk_c s window (mssO c.o) ww  (by first | omega | (rw [wrap_id (by omega) (by omega)]; omega))) ?_
 intro _
 refine kTD [6,7,8] [36,35,7,1,2,4,6] 2 [(36,.v (.bool ((nextChunk s window (mssO c.o)).2))),(35,.v (.agg (chkL (nextChunk s window (mssO c.o)).1).toArray))] ?_
 refine kA [10] ?_
 refine kSS 10 2 0 (chkL (nextChunk s window (mssO c.o)).1) rfl ?_
 refine kTS [11] [8,7,1,2,4,6] 0 [(8,.v (.bool ((nextChunk s window (mssO c.o)).2))),(7,.p 2 0),(1,.v (.int .i64 window)),(2,.p 0 0),(4,.p 1 0),(6,.v (.slice A L.length cap))] ?_
 refine kZ ?_
 exact kF 3 0 [1,2,4,6,7,8]
 refine xs_box 9 ⟨107,chkL (⟨0,(⟨#[]⟩ : ByteArray),false⟩ : Chk)⟩ _ rfl (by kernel_rfl) (by kernel_rfl) (by kernel_rfl) (by kernel_rfl) rfl ?_
 refine kA [4] ?_
 refine kSC 4 90 [.agg (conL { c with s := s,timer := t } (.slice v1a c.r.held.length v1c)).toArray] (some 33) rfl (xc_b fun ww hf => ysMssFor_c ({ c with s := s,timer := t }) (.slice v1a c.r.held.length v1c) ww ) ?_
 intro _
 refine kA [5] ?_
 refine kSC 5 89 [.agg (sndL s).toArray,.int .i64 window,.int .i64 (mssO c.o)] (some 34) rfl (xc_b fun ww hf => ysNextChunk_c s window (mssO c.o) ww  (by first | omega | (rw [wrap_id (by omega) (by omega)]; omega))) ?_
 intro _
 refine kTD [6,7,8] [36,35,7,1,2,4,6] 2 [(36,.v (.bool ((nextChunk s window (mssO c.o)).2))),(35,.v (.agg (chkL (nextChunk s window (mssO c.o)).1).toArray))] ?_
 refine kA [10] ?_
 refine kSS 10 2 0 (chkL (nextChunk s window (mssO c.o)).1) rfl ?_
 refine kTS [11] [8,7,1,2,4,6] 0 [(8,.v (.bool ((nextChunk s window (mssO c.o)).2))),(7,.p 2 0),(1,.v (.int .i64 window)),(2,.p 0 0),(4,.p 1 0),(6,.v (.slice A L.length cap))] ?_
 refine kZ ?_
 exact kF 3 0 [1,2,4,6,7,8]
 refine kS ?_
 refine kQ ?_
 refine kED [1,2,4,6,7,38] [(38,.v (.bool (!((nextChunk s window (mssO c.o)).2))))] ?_
 refine kC (!((nextChunk s window (mssO c.o)).2)) (fun h6 => ?_) (fun h6 => ?_)
 have hno := not_t h6
 have hS := pumpS_end hno HS
 have hL := pumpL_end hno HL
 refine kQ ?_
 refine kEF [4,5] ⟨[(4,.p 1 0),(5,.v (.slice A L.length cap))],[⟨44,conL { c with s := s,timer := t } (.slice v1a c.r.held.length v1c)⟩,⟨44,conL { c with s := s,timer := t } (.slice v1a c.r.held.length v1c)⟩,⟨107,chkL (nextChunk s window (mssO c.o)).1⟩],[],[rowF w.heap.size 50 13 (.slice A L.length cap) (L.map segCells),ownF w.heap.size (.slice v1a c.r.held.length v1c) 2 (c.r.held.map pceCells),slF (.slice Acrh c.r.held.length Ccrh) 2 (c.r.held.map pceCells)]⟩ ?_
 refine kR ?_
 have hmod : pump c window = (({ c with s := s,timer := t }),L) := by first | (simp [pump, *]; done) | exact pump_yes hok hs8 hs7 hS hL (by first | exact HT.symm | (unfold tmr; rw [show L.isEmpty = decide (L.length = 0) from by cases L <;> rfl]; simp only [decide_eq_true_eq]; split <;> (try split) <;> omega))
 exact ⟨[.agg (conL { c with s := s,timer := t } (.slice v1a c.r.held.length v1c)).toArray,.slice A L.length cap],by kernel_rfl,fun w' hb hf ha => by rw [hmod]; exact xo2 ((v1a,v1c),(A,cap)) rfl rfl (pO (hf _ m1) hB) (pW (hf _ m0) hB) (Apart.sub2 ha (i := 1) (j := 0) rfl rfl (by decide) rfl (fun b h => h) (fun b h => h)) hb⟩
 have hyes := not_f h6
 refine kK ?_
 refine kQ ?_
 refine kCS 1 [1,2,4,6,7,41] [(1,.v (.int .i64 window)),(2,.p 0 0),(4,.p 1 0),(6,.v (.slice A L.length cap)),(7,.p 2 0),(41,.v (.agg (conL { c with s := s,timer := t } (.slice v1a c.r.held.length v1c)).toArray))] 35 [.agg (conL { c with s := s,timer := t } (.slice v1a c.r.held.length v1c)).toArray] (some 42) rfl (xc_b fun ww hf => sAckOf_c c.t.ip c.t.port c.t.my c.state s.una s.data s.sent s.fin s.finSent s.done c.r.next c.r.data c.r.held (.slice v1a c.r.held.length v1c) c.r.fin c.r.done c.window c.most c.o.mss c.o.scale c.o.sack c.o.stamp c.o.val c.o.echo t c.tries ww (by omega)) ?_
 intro _
 refine kEA [1,2,4,6,7,9] [(9,.p 3 0)] [⟨50,[.int .i64 c.t.my,.int .i64 c.t.port,.int .i64 (nextOf s),.int .i64 c.r.next,.int .i64 16,.int .i64 (windowOf c.r),.int .i64 0,.int .i64 (-1),.bool false,.bool false,.int .i64 0,.int .i64 0,.string (⟨#[]⟩ : ByteArray)]⟩] ?_
 refine kQ ?_
 refine kEU [1,2,4,6,7,9] [] 3 ⟨50,[.int .i64 c.t.my,.int .i64 c.t.port,.int .i64 ((nextChunk s window (mssO c.o)).1.seq),.int .i64 c.r.next,.int .i64 16,.int .i64 (windowOf c.r),.int .i64 0,.int .i64 (-1),.bool false,.bool false,.int .i64 0,.int .i64 0,.string (⟨#[]⟩ : ByteArray)]⟩ ?_
 refine kQ ?_
 refine kEU [1,2,4,6,7,9] [] 3 ⟨50,[.int .i64 c.t.my,.int .i64 c.t.port,.int .i64 ((nextChunk s window (mssO c.o)).1.seq),.int .i64 c.r.next,.int .i64 16,.int .i64 (windowOf c.r),.int .i64 0,.int .i64 (-1),.bool false,.bool false,.int .i64 0,.int .i64 0,.string ((nextChunk s window (mssO c.o)).1.text)]⟩ ?_
 refine kS ?_
 refine kQ ?_
 refine kED [1,2,4,6,7,9,51] [(51,.v (.bool (!(((nextChunk s window (mssO c.o)).1.text).toList == (⟨#[]⟩ : ByteArray).toList))))] ?_
 refine kC (!(((nextChunk s window (mssO c.o)).1.text).toList == (⟨#[]⟩ : ByteArray).toList)) (fun h7 => ?_) (fun h7 => ?_)
 have hT : (nextChunk s window (mssO c.o)).1.text.toList.isEmpty = false := by simpa [toList_lit0] using h7
 refine kG ?_
 refine kEU [1,2,4,6,7,9] [] 3 ⟨50,[.int .i64 c.t.my,.int .i64 c.t.port,.int .i64 ((nextChunk s window (mssO c.o)).1.seq),.int .i64 c.r.next,.int .i64 24,.int .i64 (windowOf c.r),.int .i64 0,.int .i64 (-1),.bool false,.bool false,.int .i64 0,.int .i64 0,.string ((nextChunk s window (mssO c.o)).1.text)]⟩ ?_
 refine kS ?_
 refine kQ ?_
 refine kED [1,2,4,6,7,9,57] [(57,.v (.bool ((nextChunk s window (mssO c.o)).1.fin)))] ?_
 refine kC ((nextChunk s window (mssO c.o)).1.fin) (fun h8 => ?_) (fun h8 => ?_)
 have hF := h8
 refine kG ?_
 refine kEU [1,2,4,6,7,9] [] 3 ⟨50,[.int .i64 c.t.my,.int .i64 c.t.port,.int .i64 ((nextChunk s window (mssO c.o)).1.seq),.int .i64 c.r.next,.int .i64 25,.int .i64 (windowOf c.r),.int .i64 0,.int .i64 (-1),.bool false,.bool false,.int .i64 0,.int .i64 0,.string ((nextChunk s window (mssO c.o)).1.text)]⟩ ?_
 refine kQ ?_
 refine kHD 2 [1,2,4,6,7,62,63] [(62,.v (.slice A L.length cap)),(63,.v (.agg #[.int .i64 c.t.my,.int .i64 c.t.port,.int .i64 ((nextChunk s window (mssO c.o)).1.seq),.int .i64 c.r.next,.int .i64 25,.int .i64 (windowOf c.r),.int .i64 0,.int .i64 (-1),.bool false,.bool false,.int .i64 0,.int .i64 0,.string ((nextChunk s window (mssO c.o)).1.text)]))] rfl (hv_build (e := 50) (K := 13) (bytes := 104) [.agg #[.int .i64 c.t.my,.int .i64 c.t.port,.int .i64 ((nextChunk s window (mssO c.o)).1.seq),.int .i64 c.r.next,.int .i64 25,.int .i64 (windowOf c.r),.int .i64 0,.int .i64 (-1),.bool false,.bool false,.int .i64 0,.int .i64 0,.string ((nextChunk s window (mssO c.o)).1.text)]] rfl (by kernel_rfl) (by kernel_rfl) (by kernel_rfl) (by kernel_rfl) (by kernel_rfl) (rs := ([⟨c.t.my,c.t.port,(nextChunk s window (mssO c.o)).1.seq,c.r.next,25,windowOf c.r,⟨0,(-1),false,false,0,0⟩,(nextChunk s window (mssO c.o)).1.text⟩] : List Seg).map segCells) rfl) ?_
 intro g9
 refine kHD 0 [1,2,4,6,7,62,64] [] rfl (hv_append (e := 50) (K := 13) (bytes := 104) (i := 1) (q := (L ++ ([⟨c.t.my,c.t.port,(nextChunk s window (mssO c.o)).1.seq,c.r.next,25,windowOf c.r,⟨0,(-1),false,false,0,0⟩,(nextChunk s window (mssO c.o)).1.text⟩] : List Seg)).length) (new := ([⟨c.t.my,c.t.port,(nextChunk s window (mssO c.o)).1.seq,c.r.next,25,windowOf c.r,⟨0,(-1),false,false,0,0⟩,(nextChunk s window (mssO c.o)).1.text⟩] : List Seg).map segCells) (rs' := (L ++ ([⟨c.t.my,c.t.port,(nextChunk s window (mssO c.o)).1.seq,c.r.next,25,windowOf c.r,⟨0,(-1),false,false,0,0⟩,(nextChunk s window (mssO c.o)).1.text⟩] : List Seg)).map segCells) rfl rfl rfl rfl (by kernel_rfl) (by kernel_rfl) (by kernel_rfl) rfl (by simp) (by rw [List.map_append]) (by simp) (fun ww hf => (rowF_sl (hf (rowF w.heap.size 50 13 (.slice (some ⟨g9,0,none⟩) 1 1) (([⟨c.t.my,c.t.port,(nextChunk s window (mssO c.o)).1.seq,c.r.next,25,windowOf c.r,⟨0,(-1),false,false,0,0⟩,(nextChunk s window (mssO c.o)).1.text⟩] : List Seg).map segCells)) (by simp)))) (by intro r hr; obtain ⟨x,hx,rfl⟩ := List.mem_map.1 hr; exact ⟨rfl,by simp [segCells,Value.oneCell']⟩) (by (try simp only [List.length_map,List.length_append,List.length_cons,List.length_nil,List.length_take,List.length_drop,maxLen]); omega) (by (try simp only [List.length_map,List.length_append,List.length_cons,List.length_nil,List.length_take,List.length_drop,maxLen]); omega)) ?_
 rintro ⟨v10a,v10c⟩
 refine kED [1,2,4,6,7] [(6,.v (.slice v10a ((L ++ ([⟨c.t.my,c.t.port,(nextChunk s window (mssO c.o)).1.seq,c.r.next,25,windowOf c.r,⟨0,(-1),false,false,0,0⟩,(nextChunk s window (mssO c.o)).1.text⟩] : List Seg)).length) v10c))] ?_
 refine kQ ?_
 refine kCS 3 [1,2,4,6,67,68] [(1,.v (.int .i64 window)),(2,.p 0 0),(4,.p 1 0),(6,.v (.slice v10a ((L ++ ([⟨c.t.my,c.t.port,(nextChunk s window (mssO c.o)).1.seq,c.r.next,25,windowOf c.r,⟨0,(-1),false,false,0,0⟩,(nextChunk s window (mssO c.o)).1.text⟩] : List Seg)).length) v10c)),(67,.v (.agg (sndL s).toArray)),(68,.v (.agg (chkL (nextChunk s window (mssO c.o)).1).toArray))] 91 [.agg (sndL s).toArray,.agg (chkL (nextChunk s window (mssO c.o)).1).toArray] (some 69) rfl (xc_b fun ww hf => ysSentOff_c s ((nextChunk s window (mssO c.o)).1) ww  ) ?_
 intro _
 refine kEU [1,2,4,6] [] 0 ⟨44,conL { c with s := (sentOff s ((nextChunk s window (mssO c.o)).1)),timer := t } (.slice v1a c.r.held.length v1c)⟩ ?_
 refine kQ ?_
 refine kED [1,2,4,6,73] [(73,.v (.bool (t == 0)))] ?_
 refine kC (t == 0) (fun h11 => ?_) (fun h11 => ?_)
 have h11p := eqT h11
 refine kG ?_
 refine kEU [1,2,4,6] [] 0 ⟨44,conL { c with s := (sentOff s ((nextChunk s window (mssO c.o)).1)),timer := 3 } (.slice v1a c.r.held.length v1c)⟩ ?_
 have hrow : segOf c (nextChunk s window (mssO c.o)).1 = ⟨c.t.my,c.t.port,(nextChunk s window (mssO c.o)).1.seq,c.r.next,25,windowOf c.r,⟨0,(-1),false,false,0,0⟩,(nextChunk s window (mssO c.o)).1.text⟩ := by simp [segOf,hT,hF]
 exact ⟨⟨(sentOff s (nextChunk s window (mssO c.o)).1,(L ++ ([⟨c.t.my,c.t.port,(nextChunk s window (mssO c.o)).1.seq,c.r.next,25,windowOf c.r,⟨0,(-1),false,false,0,0⟩,(nextChunk s window (mssO c.o)).1.text⟩] : List Seg)),3,v10a,v10c),⟨pumpS_step hyes HS,pumpL_step hyes hrow HL,row_len HR (meas_next hyes),tmr_next HT (by (try dsimp only); split <;> omega)⟩⟩,(wk_pick [0,2,3] [rowF w.heap.size 50 13 (.slice v10a ((L ++ ([⟨c.t.my,c.t.port,(nextChunk s window (mssO c.o)).1.seq,c.r.next,25,windowOf c.r,⟨0,(-1),false,false,0,0⟩,(nextChunk s window (mssO c.o)).1.text⟩] : List Seg)).length) v10c) ((L ++ ([⟨c.t.my,c.t.port,(nextChunk s window (mssO c.o)).1.seq,c.r.next,25,windowOf c.r,⟨0,(-1),false,false,0,0⟩,(nextChunk s window (mssO c.o)).1.text⟩] : List Seg)).map segCells),ownF w.heap.size (.slice v1a c.r.held.length v1c) 2 (c.r.held.map pceCells),slF (.slice Acrh c.r.held.length Ccrh) 2 (c.r.held.map pceCells)] (by kernel_rfl) (by kernel_rfl)).trans <| kF 2 0 [1,2,4,6],by show (fun (s : Snd) (L : List Seg) (t : Int) (A : Option Addr) (cap : Nat) => meas s) (sentOff s (nextChunk s window (mssO c.o)).1) (L ++ ([⟨c.t.my,c.t.port,(nextChunk s window (mssO c.o)).1.seq,c.r.next,25,windowOf c.r,⟨0,(-1),false,false,0,0⟩,(nextChunk s window (mssO c.o)).1.text⟩] : List Seg)) 3 v10a v10c < meas s; exact meas_next hyes⟩
 have h11p := eqF h11
 refine kK ?_
 have hrow : segOf c (nextChunk s window (mssO c.o)).1 = ⟨c.t.my,c.t.port,(nextChunk s window (mssO c.o)).1.seq,c.r.next,25,windowOf c.r,⟨0,(-1),false,false,0,0⟩,(nextChunk s window (mssO c.o)).1.text⟩ := by simp [segOf,hT,hF]
 exact ⟨⟨(sentOff s (nextChunk s window (mssO c.o)).1,(L ++ ([⟨c.t.my,c.t.port,(nextChunk s window (mssO c.o)).1.seq,c.r.next,25,windowOf c.r,⟨0,(-1),false,false,0,0⟩,(nextChunk s window (mssO c.o)).1.text⟩] : List Seg)),t,v10a,v10c),⟨pumpS_step hyes HS,pumpL_step hyes hrow HL,row_len HR (meas_next hyes),tmr_next HT (by (try dsimp only); split <;> omega)⟩⟩,(wk_pick [0,2,3] [rowF w.heap.size 50 13 (.slice v10a ((L ++ ([⟨c.t.my,c.t.port,(nextChunk s window (mssO c.o)).1.seq,c.r.next,25,windowOf c.r,⟨0,(-1),false,false,0,0⟩,(nextChunk s window (mssO c.o)).1.text⟩] : List Seg)).length) v10c) ((L ++ ([⟨c.t.my,c.t.port,(nextChunk s window (mssO c.o)).1.seq,c.r.next,25,windowOf c.r,⟨0,(-1),false,false,0,0⟩,(nextChunk s window (mssO c.o)).1.text⟩] : List Seg)).map segCells),ownF w.heap.size (.slice v1a c.r.held.length v1c) 2 (c.r.held.map pceCells),slF (.slice Acrh c.r.held.length Ccrh) 2 (c.r.held.map pceCells)] (by kernel_rfl) (by kernel_rfl)).trans <| kF 2 0 [1,2,4,6],by show (fun (s : Snd) (L : List Seg) (t : Int) (A : Option Addr) (cap : Nat) => meas s) (sentOff s (nextChunk s window (mssO c.o)).1) (L ++ ([⟨c.t.my,c.t.port,(nextChunk s window (mssO c.o)).1.seq,c.r.next,25,windowOf c.r,⟨0,(-1),false,false,0,0⟩,(nextChunk s window (mssO c.o)).1.text⟩] : List Seg)) t v10a v10c < meas s; exact meas_next hyes⟩
 have hF := h8
 refine kK ?_
 refine kQ ?_
 refine kHD 2 [1,2,4,6,7,62,63] [(62,.v (.slice A L.length cap)),(63,.v (.agg #[.int .i64 c.t.my,.int .i64 c.t.port,.int .i64 ((nextChunk s window (mssO c.o)).1.seq),.int .i64 c.r.next,.int .i64 24,.int .i64 (windowOf c.r),.int .i64 0,.int .i64 (-1),.bool false,.bool false,.int .i64 0,.int .i64 0,.string ((nextChunk s window (mssO c.o)).1.text)]))] rfl (hv_build (e := 50) (K := 13) (bytes := 104) [.agg #[.int .i64 c.t.my,.int .i64 c.t.port,.int .i64 ((nextChunk s window (mssO c.o)).1.seq),.int .i64 c.r.next,.int .i64 24,.int .i64 (windowOf c.r),.int .i64 0,.int .i64 (-1),.bool false,.bool false,.int .i64 0,.int .i64 0,.string ((nextChunk s window (mssO c.o)).1.text)]] rfl (by kernel_rfl) (by kernel_rfl) (by kernel_rfl) (by kernel_rfl) (by kernel_rfl) (rs := ([⟨c.t.my,c.t.port,(nextChunk s window (mssO c.o)).1.seq,c.r.next,24,windowOf c.r,⟨0,(-1),false,false,0,0⟩,(nextChunk s window (mssO c.o)).1.text⟩] : List Seg).map segCells) rfl) ?_
 intro g12
 refine kHD 0 [1,2,4,6,7,62,64] [] rfl (hv_append (e := 50) (K := 13) (bytes := 104) (i := 1) (q := (L ++ ([⟨c.t.my,c.t.port,(nextChunk s window (mssO c.o)).1.seq,c.r.next,24,windowOf c.r,⟨0,(-1),false,false,0,0⟩,(nextChunk s window (mssO c.o)).1.text⟩] : List Seg)).length) (new := ([⟨c.t.my,c.t.port,(nextChunk s window (mssO c.o)).1.seq,c.r.next,24,windowOf c.r,⟨0,(-1),false,false,0,0⟩,(nextChunk s window (mssO c.o)).1.text⟩] : List Seg).map segCells) (rs' := (L ++ ([⟨c.t.my,c.t.port,(nextChunk s window (mssO c.o)).1.seq,c.r.next,24,windowOf c.r,⟨0,(-1),false,false,0,0⟩,(nextChunk s window (mssO c.o)).1.text⟩] : List Seg)).map segCells) rfl rfl rfl rfl (by kernel_rfl) (by kernel_rfl) (by kernel_rfl) rfl (by simp) (by rw [List.map_append]) (by simp) (fun ww hf => (rowF_sl (hf (rowF w.heap.size 50 13 (.slice (some ⟨g12,0,none⟩) 1 1) (([⟨c.t.my,c.t.port,(nextChunk s window (mssO c.o)).1.seq,c.r.next,24,windowOf c.r,⟨0,(-1),false,false,0,0⟩,(nextChunk s window (mssO c.o)).1.text⟩] : List Seg).map segCells)) (by simp)))) (by intro r hr; obtain ⟨x,hx,rfl⟩ := List.mem_map.1 hr; exact ⟨rfl,by simp [segCells,Value.oneCell']⟩) (by (try simp only [List.length_map,List.length_append,List.length_cons,List.length_nil,List.length_take,List.length_drop,maxLen]); omega) (by (try simp only [List.length_map,List.length_append,List.length_cons,List.length_nil,List.length_take,List.length_drop,maxLen]); omega)) ?_
 rintro ⟨v13a,v13c⟩
 refine kED [1,2,4,6,7] [(6,.v (.slice v13a ((L ++ ([⟨c.t.my,c.t.port,(nextChunk s window (mssO c.o)).1.seq,c.r.next,24,windowOf c.r,⟨0,(-1),false,false,0,0⟩,(nextChunk s window (mssO c.o)).1.text⟩] : List Seg)).length) v13c))] ?_
 refine kQ ?_
 refine kCD 3 [1,2,4,6,67,68] [(67,.v (.agg (sndL s).toArray)),(68,.v (.agg (chkL (nextChunk s window (mssO c.o)).1).toArray))] 91 [.agg (sndL s).toArray,.agg (chkL (nextChunk s window (mssO c.o)).1).toArray] (some 69) rfl (xc_b fun ww hf => ysSentOff_c s ((nextChunk s window (mssO c.o)).1) ww  ) ?_
 intro _
 refine kEF [1,2,4,6] ⟨[(1,.v (.int .i64 window)),(2,.p 0 0),(4,.p 1 0),(6,.v (.slice v13a ((L ++ ([⟨c.t.my,c.t.port,(nextChunk s window (mssO c.o)).1.seq,c.r.next,24,windowOf c.r,⟨0,(-1),false,false,0,0⟩,(nextChunk s window (mssO c.o)).1.text⟩] : List Seg)).length) v13c))],[⟨44,conL { c with s := (sentOff s ((nextChunk s window (mssO c.o)).1)),timer := t } (.slice v1a c.r.held.length v1c)⟩,⟨44,conZ⟩,⟨107,chkL (nextChunk s window (mssO c.o)).1⟩,⟨50,[.int .i64 c.t.my,.int .i64 c.t.port,.int .i64 ((nextChunk s window (mssO c.o)).1.seq),.int .i64 c.r.next,.int .i64 24,.int .i64 (windowOf c.r),.int .i64 0,.int .i64 (-1),.bool false,.bool false,.int .i64 0,.int .i64 0,.string ((nextChunk s window (mssO c.o)).1.text)]⟩],[],[rowF w.heap.size 50 13 (.slice v13a ((L ++ ([⟨c.t.my,c.t.port,(nextChunk s window (mssO c.o)).1.seq,c.r.next,24,windowOf c.r,⟨0,(-1),false,false,0,0⟩,(nextChunk s window (mssO c.o)).1.text⟩] : List Seg)).length) v13c) ((L ++ ([⟨c.t.my,c.t.port,(nextChunk s window (mssO c.o)).1.seq,c.r.next,24,windowOf c.r,⟨0,(-1),false,false,0,0⟩,(nextChunk s window (mssO c.o)).1.text⟩] : List Seg)).map segCells),rowF w.heap.size 50 13 (.slice (some ⟨g12,0,none⟩) 1 1) (([⟨c.t.my,c.t.port,(nextChunk s window (mssO c.o)).1.seq,c.r.next,24,windowOf c.r,⟨0,(-1),false,false,0,0⟩,(nextChunk s window (mssO c.o)).1.text⟩] : List Seg).map segCells),ownF w.heap.size (.slice v1a c.r.held.length v1c) 2 (c.r.held.map pceCells),slF (.slice Acrh c.r.held.length Ccrh) 2 (c.r.held.map pceCells)]⟩ ?_
 refine kQ ?_
 refine kED [1,2,4,6,73] [(73,.v (.bool (t == 0)))] ?_
 refine kC (t == 0) (fun h14 => ?_) (fun h14 => ?_)
 have h14p := eqT h14
 refine kG ?_
 refine kEU [1,2,4,6] [] 0 ⟨44,conL { c with s := (sentOff s ((nextChunk s window (mssO c.o)).1)),timer := 3 } (.slice v1a c.r.held.length v1c)⟩ ?_
 have hrow : segOf c (nextChunk s window (mssO c.o)).1 = ⟨c.t.my,c.t.port,(nextChunk s window (mssO c.o)).1.seq,c.r.next,24,windowOf c.r,⟨0,(-1),false,false,0,0⟩,(nextChunk s window (mssO c.o)).1.text⟩ := by simp [segOf,hT,hF]
 exact ⟨⟨(sentOff s (nextChunk s window (mssO c.o)).1,(L ++ ([⟨c.t.my,c.t.port,(nextChunk s window (mssO c.o)).1.seq,c.r.next,24,windowOf c.r,⟨0,(-1),false,false,0,0⟩,(nextChunk s window (mssO c.o)).1.text⟩] : List Seg)),3,v13a,v13c),⟨pumpS_step hyes HS,pumpL_step hyes hrow HL,row_len HR (meas_next hyes),tmr_next HT (by (try dsimp only); split <;> omega)⟩⟩,(wk_pick [0,2,3] [rowF w.heap.size 50 13 (.slice v13a ((L ++ ([⟨c.t.my,c.t.port,(nextChunk s window (mssO c.o)).1.seq,c.r.next,24,windowOf c.r,⟨0,(-1),false,false,0,0⟩,(nextChunk s window (mssO c.o)).1.text⟩] : List Seg)).length) v13c) ((L ++ ([⟨c.t.my,c.t.port,(nextChunk s window (mssO c.o)).1.seq,c.r.next,24,windowOf c.r,⟨0,(-1),false,false,0,0⟩,(nextChunk s window (mssO c.o)).1.text⟩] : List Seg)).map segCells),ownF w.heap.size (.slice v1a c.r.held.length v1c) 2 (c.r.held.map pceCells),slF (.slice Acrh c.r.held.length Ccrh) 2 (c.r.held.map pceCells)] (by kernel_rfl) (by kernel_rfl)).trans <| kF 2 0 [1,2,4,6],by show (fun (s : Snd) (L : List Seg) (t : Int) (A : Option Addr) (cap : Nat) => meas s) (sentOff s (nextChunk s window (mssO c.o)).1) (L ++ ([⟨c.t.my,c.t.port,(nextChunk s window (mssO c.o)).1.seq,c.r.next,24,windowOf c.r,⟨0,(-1),false,false,0,0⟩,(nextChunk s window (mssO c.o)).1.text⟩] : List Seg)) 3 v13a v13c < meas s; exact meas_next hyes⟩
 have h14p := eqF h14
 refine kK ?_
 have hrow : segOf c (nextChunk s window (mssO c.o)).1 = ⟨c.t.my,c.t.port,(nextChunk s window (mssO c.o)).1.seq,c.r.next,24,windowOf c.r,⟨0,(-1),false,false,0,0⟩,(nextChunk s window (mssO c.o)).1.text⟩ := by simp [segOf,hT,hF]
 exact ⟨⟨(sentOff s (nextChunk s window (mssO c.o)).1,(L ++ ([⟨c.t.my,c.t.port,(nextChunk s window (mssO c.o)).1.seq,c.r.next,24,windowOf c.r,⟨0,(-1),false,false,0,0⟩,(nextChunk s window (mssO c.o)).1.text⟩] : List Seg)),t,v13a,v13c),⟨pumpS_step hyes HS,pumpL_step hyes hrow HL,row_len HR (meas_next hyes),tmr_next HT (by (try dsimp only); split <;> omega)⟩⟩,(wk_pick [0,2,3] [rowF w.heap.size 50 13 (.slice v13a ((L ++ ([⟨c.t.my,c.t.port,(nextChunk s window (mssO c.o)).1.seq,c.r.next,24,windowOf c.r,⟨0,(-1),false,false,0,0⟩,(nextChunk s window (mssO c.o)).1.text⟩] : List Seg)).length) v13c) ((L ++ ([⟨c.t.my,c.t.port,(nextChunk s window (mssO c.o)).1.seq,c.r.next,24,windowOf c.r,⟨0,(-1),false,false,0,0⟩,(nextChunk s window (mssO c.o)).1.text⟩] : List Seg)).map segCells),ownF w.heap.size (.slice v1a c.r.held.length v1c) 2 (c.r.held.map pceCells),slF (.slice Acrh c.r.held.length Ccrh) 2 (c.r.held.map pceCells)] (by kernel_rfl) (by kernel_rfl)).trans <| kF 2 0 [1,2,4,6],by show (fun (s : Snd) (L : List Seg) (t : Int) (A : Option Addr) (cap : Nat) => meas s) (sentOff s (nextChunk s window (mssO c.o)).1) (L ++ ([⟨c.t.my,c.t.port,(nextChunk s window (mssO c.o)).1.seq,c.r.next,24,windowOf c.r,⟨0,(-1),false,false,0,0⟩,(nextChunk s window (mssO c.o)).1.text⟩] : List Seg)) t v13a v13c < meas s; exact meas_next hyes⟩
 have hT : (nextChunk s window (mssO c.o)).1.text.toList.isEmpty = true := by simpa [toList_lit0] using h7
 refine kK ?_
 refine kS ?_
 refine kQ ?_
 refine kED [1,2,4,6,7,9,57] [(57,.v (.bool ((nextChunk s window (mssO c.o)).1.fin)))] ?_
 refine kC ((nextChunk s window (mssO c.o)).1.fin) (fun h15 => ?_) (fun h15 => ?_)
 have hF := h15
 refine kG ?_
 refine kEU [1,2,4,6,7,9] [] 3 ⟨50,[.int .i64 c.t.my,.int .i64 c.t.port,.int .i64 ((nextChunk s window (mssO c.o)).1.seq),.int .i64 c.r.next,.int .i64 17,.int .i64 (windowOf c.r),.int .i64 0,.int .i64 (-1),.bool false,.bool false,.int .i64 0,.int .i64 0,.string ((nextChunk s window (mssO c.o)).1.text)]⟩ ?_
 refine kQ ?_
 refine kHD 2 [1,2,4,6,7,62,63] [(62,.v (.slice A L.length cap)),(63,.v (.agg #[.int .i64 c.t.my,.int .i64 c.t.port,.int .i64 ((nextChunk s window (mssO c.o)).1.seq),.int .i64 c.r.next,.int .i64 17,.int .i64 (windowOf c.r),.int .i64 0,.int .i64 (-1),.bool false,.bool false,.int .i64 0,.int .i64 0,.string ((nextChunk s window (mssO c.o)).1.text)]))] rfl (hv_build (e := 50) (K := 13) (bytes := 104) [.agg #[.int .i64 c.t.my,.int .i64 c.t.port,.int .i64 ((nextChunk s window (mssO c.o)).1.seq),.int .i64 c.r.next,.int .i64 17,.int .i64 (windowOf c.r),.int .i64 0,.int .i64 (-1),.bool false,.bool false,.int .i64 0,.int .i64 0,.string ((nextChunk s window (mssO c.o)).1.text)]] rfl (by kernel_rfl) (by kernel_rfl) (by kernel_rfl) (by kernel_rfl) (by kernel_rfl) (rs := ([⟨c.t.my,c.t.port,(nextChunk s window (mssO c.o)).1.seq,c.r.next,17,windowOf c.r,⟨0,(-1),false,false,0,0⟩,(nextChunk s window (mssO c.o)).1.text⟩] : List Seg).map segCells) rfl) ?_
 intro g16
 refine kHD 0 [1,2,4,6,7,62,64] [] rfl (hv_append (e := 50) (K := 13) (bytes := 104) (i := 1) (q := (L ++ ([⟨c.t.my,c.t.port,(nextChunk s window (mssO c.o)).1.seq,c.r.next,17,windowOf c.r,⟨0,(-1),false,false,0,0⟩,(nextChunk s window (mssO c.o)).1.text⟩] : List Seg)).length) (new := ([⟨c.t.my,c.t.port,(nextChunk s window (mssO c.o)).1.seq,c.r.next,17,windowOf c.r,⟨0,(-1),false,false,0,0⟩,(nextChunk s window (mssO c.o)).1.text⟩] : List Seg).map segCells) (rs' := (L ++ ([⟨c.t.my,c.t.port,(nextChunk s window (mssO c.o)).1.seq,c.r.next,17,windowOf c.r,⟨0,(-1),false,false,0,0⟩,(nextChunk s window (mssO c.o)).1.text⟩] : List Seg)).map segCells) rfl rfl rfl rfl (by kernel_rfl) (by kernel_rfl) (by kernel_rfl) rfl (by simp) (by rw [List.map_append]) (by simp) (fun ww hf => (rowF_sl (hf (rowF w.heap.size 50 13 (.slice (some ⟨g16,0,none⟩) 1 1) (([⟨c.t.my,c.t.port,(nextChunk s window (mssO c.o)).1.seq,c.r.next,17,windowOf c.r,⟨0,(-1),false,false,0,0⟩,(nextChunk s window (mssO c.o)).1.text⟩] : List Seg).map segCells)) (by simp)))) (by intro r hr; obtain ⟨x,hx,rfl⟩ := List.mem_map.1 hr; exact ⟨rfl,by simp [segCells,Value.oneCell']⟩) (by (try simp only [List.length_map,List.length_append,List.length_cons,List.length_nil,List.length_take,List.length_drop,maxLen]); omega) (by (try simp only [List.length_map,List.length_append,List.length_cons,List.length_nil,List.length_take,List.length_drop,maxLen]); omega)) ?_
 rintro ⟨v17a,v17c⟩
 refine kED [1,2,4,6,7] [(6,.v (.slice v17a ((L ++ ([⟨c.t.my,c.t.port,(nextChunk s window (mssO c.o)).1.seq,c.r.next,17,windowOf c.r,⟨0,(-1),false,false,0,0⟩,(nextChunk s window (mssO c.o)).1.text⟩] : List Seg)).length) v17c))] ?_
 refine kQ ?_
 refine kCD 3 [1,2,4,6,67,68] [(67,.v (.agg (sndL s).toArray)),(68,.v (.agg (chkL (nextChunk s window (mssO c.o)).1).toArray))] 91 [.agg (sndL s).toArray,.agg (chkL (nextChunk s window (mssO c.o)).1).toArray] (some 69) rfl (xc_b fun ww hf => ysSentOff_c s ((nextChunk s window (mssO c.o)).1) ww  ) ?_
 intro _
 refine kEF [1,2,4,6] ⟨[(1,.v (.int .i64 window)),(2,.p 0 0),(4,.p 1 0),(6,.v (.slice v17a ((L ++ ([⟨c.t.my,c.t.port,(nextChunk s window (mssO c.o)).1.seq,c.r.next,17,windowOf c.r,⟨0,(-1),false,false,0,0⟩,(nextChunk s window (mssO c.o)).1.text⟩] : List Seg)).length) v17c))],[⟨44,conL { c with s := (sentOff s ((nextChunk s window (mssO c.o)).1)),timer := t } (.slice v1a c.r.held.length v1c)⟩,⟨44,conZ⟩,⟨107,chkL (nextChunk s window (mssO c.o)).1⟩,⟨50,[.int .i64 c.t.my,.int .i64 c.t.port,.int .i64 ((nextChunk s window (mssO c.o)).1.seq),.int .i64 c.r.next,.int .i64 17,.int .i64 (windowOf c.r),.int .i64 0,.int .i64 (-1),.bool false,.bool false,.int .i64 0,.int .i64 0,.string ((nextChunk s window (mssO c.o)).1.text)]⟩],[],[rowF w.heap.size 50 13 (.slice v17a ((L ++ ([⟨c.t.my,c.t.port,(nextChunk s window (mssO c.o)).1.seq,c.r.next,17,windowOf c.r,⟨0,(-1),false,false,0,0⟩,(nextChunk s window (mssO c.o)).1.text⟩] : List Seg)).length) v17c) ((L ++ ([⟨c.t.my,c.t.port,(nextChunk s window (mssO c.o)).1.seq,c.r.next,17,windowOf c.r,⟨0,(-1),false,false,0,0⟩,(nextChunk s window (mssO c.o)).1.text⟩] : List Seg)).map segCells),rowF w.heap.size 50 13 (.slice (some ⟨g16,0,none⟩) 1 1) (([⟨c.t.my,c.t.port,(nextChunk s window (mssO c.o)).1.seq,c.r.next,17,windowOf c.r,⟨0,(-1),false,false,0,0⟩,(nextChunk s window (mssO c.o)).1.text⟩] : List Seg).map segCells),ownF w.heap.size (.slice v1a c.r.held.length v1c) 2 (c.r.held.map pceCells),slF (.slice Acrh c.r.held.length Ccrh) 2 (c.r.held.map pceCells)]⟩ ?_
 refine kQ ?_
 refine kED [1,2,4,6,73] [(73,.v (.bool (t == 0)))] ?_
 refine kC (t == 0) (fun h18 => ?_) (fun h18 => ?_)
 have h18p := eqT h18
 refine kG ?_
 refine kEU [1,2,4,6] [] 0 ⟨44,conL { c with s := (sentOff s ((nextChunk s window (mssO c.o)).1)),timer := 3 } (.slice v1a c.r.held.length v1c)⟩ ?_
 have hrow : segOf c (nextChunk s window (mssO c.o)).1 = ⟨c.t.my,c.t.port,(nextChunk s window (mssO c.o)).1.seq,c.r.next,17,windowOf c.r,⟨0,(-1),false,false,0,0⟩,(nextChunk s window (mssO c.o)).1.text⟩ := by simp [segOf,hT,hF]
 exact ⟨⟨(sentOff s (nextChunk s window (mssO c.o)).1,(L ++ ([⟨c.t.my,c.t.port,(nextChunk s window (mssO c.o)).1.seq,c.r.next,17,windowOf c.r,⟨0,(-1),false,false,0,0⟩,(nextChunk s window (mssO c.o)).1.text⟩] : List Seg)),3,v17a,v17c),⟨pumpS_step hyes HS,pumpL_step hyes hrow HL,row_len HR (meas_next hyes),tmr_next HT (by (try dsimp only); split <;> omega)⟩⟩,(wk_pick [0,2,3] [rowF w.heap.size 50 13 (.slice v17a ((L ++ ([⟨c.t.my,c.t.port,(nextChunk s window (mssO c.o)).1.seq,c.r.next,17,windowOf c.r,⟨0,(-1),false,false,0,0⟩,(nextChunk s window (mssO c.o)).1.text⟩] : List Seg)).length) v17c) ((L ++ ([⟨c.t.my,c.t.port,(nextChunk s window (mssO c.o)).1.seq,c.r.next,17,windowOf c.r,⟨0,(-1),false,false,0,0⟩,(nextChunk s window (mssO c.o)).1.text⟩] : List Seg)).map segCells),ownF w.heap.size (.slice v1a c.r.held.length v1c) 2 (c.r.held.map pceCells),slF (.slice Acrh c.r.held.length Ccrh) 2 (c.r.held.map pceCells)] (by kernel_rfl) (by kernel_rfl)).trans <| kF 2 0 [1,2,4,6],by show (fun (s : Snd) (L : List Seg) (t : Int) (A : Option Addr) (cap : Nat) => meas s) (sentOff s (nextChunk s window (mssO c.o)).1) (L ++ ([⟨c.t.my,c.t.port,(nextChunk s window (mssO c.o)).1.seq,c.r.next,17,windowOf c.r,⟨0,(-1),false,false,0,0⟩,(nextChunk s window (mssO c.o)).1.text⟩] : List Seg)) 3 v17a v17c < meas s; exact meas_next hyes⟩
 have h18p := eqF h18
 refine kK ?_
 have hrow : segOf c (nextChunk s window (mssO c.o)).1 = ⟨c.t.my,c.t.port,(nextChunk s window (mssO c.o)).1.seq,c.r.next,17,windowOf c.r,⟨0,(-1),false,false,0,0⟩,(nextChunk s window (mssO c.o)).1.text⟩ := by simp [segOf,hT,hF]
 exact ⟨⟨(sentOff s (nextChunk s window (mssO c.o)).1,(L ++ ([⟨c.t.my,c.t.port,(nextChunk s window (mssO c.o)).1.seq,c.r.next,17,windowOf c.r,⟨0,(-1),false,false,0,0⟩,(nextChunk s window (mssO c.o)).1.text⟩] : List Seg)),t,v17a,v17c),⟨pumpS_step hyes HS,pumpL_step hyes hrow HL,row_len HR (meas_next hyes),tmr_next HT (by (try dsimp only); split <;> omega)⟩⟩,(wk_pick [0,2,3] [rowF w.heap.size 50 13 (.slice v17a ((L ++ ([⟨c.t.my,c.t.port,(nextChunk s window (mssO c.o)).1.seq,c.r.next,17,windowOf c.r,⟨0,(-1),false,false,0,0⟩,(nextChunk s window (mssO c.o)).1.text⟩] : List Seg)).length) v17c) ((L ++ ([⟨c.t.my,c.t.port,(nextChunk s window (mssO c.o)).1.seq,c.r.next,17,windowOf c.r,⟨0,(-1),false,false,0,0⟩,(nextChunk s window (mssO c.o)).1.text⟩] : List Seg)).map segCells),ownF w.heap.size (.slice v1a c.r.held.length v1c) 2 (c.r.held.map pceCells),slF (.slice Acrh c.r.held.length Ccrh) 2 (c.r.held.map pceCells)] (by kernel_rfl) (by kernel_rfl)).trans <| kF 2 0 [1,2,4,6],by show (fun (s : Snd) (L : List Seg) (t : Int) (A : Option Addr) (cap : Nat) => meas s) (sentOff s (nextChunk s window (mssO c.o)).1) (L ++ ([⟨c.t.my,c.t.port,(nextChunk s window (mssO c.o)).1.seq,c.r.next,17,windowOf c.r,⟨0,(-1),false,false,0,0⟩,(nextChunk s window (mssO c.o)).1.text⟩] : List Seg)) t v17a v17c < meas s; exact meas_next hyes⟩
 have hF := h15
 refine kK ?_
 refine kQ ?_
 refine kHD 2 [1,2,4,6,7,62,63] [(62,.v (.slice A L.length cap)),(63,.v (.agg #[.int .i64 c.t.my,.int .i64 c.t.port,.int .i64 ((nextChunk s window (mssO c.o)).1.seq),.int .i64 c.r.next,.int .i64 16,.int .i64 (windowOf c.r),.int .i64 0,.int .i64 (-1),.bool false,.bool false,.int .i64 0,.int .i64 0,.string ((nextChunk s window (mssO c.o)).1.text)]))] rfl (hv_build (e := 50) (K := 13) (bytes := 104) [.agg #[.int .i64 c.t.my,.int .i64 c.t.port,.int .i64 ((nextChunk s window (mssO c.o)).1.seq),.int .i64 c.r.next,.int .i64 16,.int .i64 (windowOf c.r),.int .i64 0,.int .i64 (-1),.bool false,.bool false,.int .i64 0,.int .i64 0,.string ((nextChunk s window (mssO c.o)).1.text)]] rfl (by kernel_rfl) (by kernel_rfl) (by kernel_rfl) (by kernel_rfl) (by kernel_rfl) (rs := ([⟨c.t.my,c.t.port,(nextChunk s window (mssO c.o)).1.seq,c.r.next,16,windowOf c.r,⟨0,(-1),false,false,0,0⟩,(nextChunk s window (mssO c.o)).1.text⟩] : List Seg).map segCells) rfl) ?_
 intro g19
 refine kHD 0 [1,2,4,6,7,62,64] [] rfl (hv_append (e := 50) (K := 13) (bytes := 104) (i := 1) (q := (L ++ ([⟨c.t.my,c.t.port,(nextChunk s window (mssO c.o)).1.seq,c.r.next,16,windowOf c.r,⟨0,(-1),false,false,0,0⟩,(nextChunk s window (mssO c.o)).1.text⟩] : List Seg)).length) (new := ([⟨c.t.my,c.t.port,(nextChunk s window (mssO c.o)).1.seq,c.r.next,16,windowOf c.r,⟨0,(-1),false,false,0,0⟩,(nextChunk s window (mssO c.o)).1.text⟩] : List Seg).map segCells) (rs' := (L ++ ([⟨c.t.my,c.t.port,(nextChunk s window (mssO c.o)).1.seq,c.r.next,16,windowOf c.r,⟨0,(-1),false,false,0,0⟩,(nextChunk s window (mssO c.o)).1.text⟩] : List Seg)).map segCells) rfl rfl rfl rfl (by kernel_rfl) (by kernel_rfl) (by kernel_rfl) rfl (by simp) (by rw [List.map_append]) (by simp) (fun ww hf => (rowF_sl (hf (rowF w.heap.size 50 13 (.slice (some ⟨g19,0,none⟩) 1 1) (([⟨c.t.my,c.t.port,(nextChunk s window (mssO c.o)).1.seq,c.r.next,16,windowOf c.r,⟨0,(-1),false,false,0,0⟩,(nextChunk s window (mssO c.o)).1.text⟩] : List Seg).map segCells)) (by simp)))) (by intro r hr; obtain ⟨x,hx,rfl⟩ := List.mem_map.1 hr; exact ⟨rfl,by simp [segCells,Value.oneCell']⟩) (by (try simp only [List.length_map,List.length_append,List.length_cons,List.length_nil,List.length_take,List.length_drop,maxLen]); omega) (by (try simp only [List.length_map,List.length_append,List.length_cons,List.length_nil,List.length_take,List.length_drop,maxLen]); omega)) ?_
 rintro ⟨v20a,v20c⟩
 refine kED [1,2,4,6,7] [(6,.v (.slice v20a ((L ++ ([⟨c.t.my,c.t.port,(nextChunk s window (mssO c.o)).1.seq,c.r.next,16,windowOf c.r,⟨0,(-1),false,false,0,0⟩,(nextChunk s window (mssO c.o)).1.text⟩] : List Seg)).length) v20c))] ?_
 refine kQ ?_
 refine kCD 3 [1,2,4,6,67,68] [(67,.v (.agg (sndL s).toArray)),(68,.v (.agg (chkL (nextChunk s window (mssO c.o)).1).toArray))] 91 [.agg (sndL s).toArray,.agg (chkL (nextChunk s window (mssO c.o)).1).toArray] (some 69) rfl (xc_b fun ww hf => ysSentOff_c s ((nextChunk s window (mssO c.o)).1) ww  ) ?_
 intro _
 refine kEU [1,2,4,6] [] 0 ⟨44,conL { c with s := (sentOff s ((nextChunk s window (mssO c.o)).1)),timer := t } (.slice v1a c.r.held.length v1c)⟩ ?_
 refine kQ ?_
 refine kES [1,2,4,6,73] [(1,.v (.int .i64 window)),(2,.p 0 0),(4,.p 1 0),(6,.v (.slice v20a ((L ++ ([⟨c.t.my,c.t.port,(nextChunk s window (mssO c.o)).1.seq,c.r.next,16,windowOf c.r,⟨0,(-1),false,false,0,0⟩,(nextChunk s window (mssO c.o)).1.text⟩] : List Seg)).length) v20c)),(73,.v (.bool (t == 0)))] ?_
 refine kC (t == 0) (fun h21 => ?_) (fun h21 => ?_)
 have h21p := eqT h21
 refine kG ?_
 refine kEU [1,2,4,6] [] 0 ⟨44,conL { c with s := (sentOff s ((nextChunk s window (mssO c.o)).1)),timer := 3 } (.slice v1a c.r.held.length v1c)⟩ ?_
 have hrow : segOf c (nextChunk s window (mssO c.o)).1 = ⟨c.t.my,c.t.port,(nextChunk s window (mssO c.o)).1.seq,c.r.next,16,windowOf c.r,⟨0,(-1),false,false,0,0⟩,(nextChunk s window (mssO c.o)).1.text⟩ := by simp [segOf,hT,hF]
 exact ⟨⟨(sentOff s (nextChunk s window (mssO c.o)).1,(L ++ ([⟨c.t.my,c.t.port,(nextChunk s window (mssO c.o)).1.seq,c.r.next,16,windowOf c.r,⟨0,(-1),false,false,0,0⟩,(nextChunk s window (mssO c.o)).1.text⟩] : List Seg)),3,v20a,v20c),⟨pumpS_step hyes HS,pumpL_step hyes hrow HL,row_len HR (meas_next hyes),tmr_next HT (by (try dsimp only); split <;> omega)⟩⟩,(wk_pick [0,2,3] [rowF w.heap.size 50 13 (.slice v20a ((L ++ ([⟨c.t.my,c.t.port,(nextChunk s window (mssO c.o)).1.seq,c.r.next,16,windowOf c.r,⟨0,(-1),false,false,0,0⟩,(nextChunk s window (mssO c.o)).1.text⟩] : List Seg)).length) v20c) ((L ++ ([⟨c.t.my,c.t.port,(nextChunk s window (mssO c.o)).1.seq,c.r.next,16,windowOf c.r,⟨0,(-1),false,false,0,0⟩,(nextChunk s window (mssO c.o)).1.text⟩] : List Seg)).map segCells),ownF w.heap.size (.slice v1a c.r.held.length v1c) 2 (c.r.held.map pceCells),slF (.slice Acrh c.r.held.length Ccrh) 2 (c.r.held.map pceCells)] (by kernel_rfl) (by kernel_rfl)).trans <| kF 2 0 [1,2,4,6],by show (fun (s : Snd) (L : List Seg) (t : Int) (A : Option Addr) (cap : Nat) => meas s) (sentOff s (nextChunk s window (mssO c.o)).1) (L ++ ([⟨c.t.my,c.t.port,(nextChunk s window (mssO c.o)).1.seq,c.r.next,16,windowOf c.r,⟨0,(-1),false,false,0,0⟩,(nextChunk s window (mssO c.o)).1.text⟩] : List Seg)) 3 v20a v20c < meas s; exact meas_next hyes⟩
 have h21p := eqF h21
 refine kK ?_
 have hrow : segOf c (nextChunk s window (mssO c.o)).1 = ⟨c.t.my,c.t.port,(nextChunk s window (mssO c.o)).1.seq,c.r.next,16,windowOf c.r,⟨0,(-1),false,false,0,0⟩,(nextChunk s window (mssO c.o)).1.text⟩ := by simp [segOf,hT,hF]
 exact ⟨⟨(sentOff s (nextChunk s window (mssO c.o)).1,(L ++ ([⟨c.t.my,c.t.port,(nextChunk s window (mssO c.o)).1.seq,c.r.next,16,windowOf c.r,⟨0,(-1),false,false,0,0⟩,(nextChunk s window (mssO c.o)).1.text⟩] : List Seg)),t,v20a,v20c),⟨pumpS_step hyes HS,pumpL_step hyes hrow HL,row_len HR (meas_next hyes),tmr_next HT (by (try dsimp only); split <;> omega)⟩⟩,(wk_pick [0,2,3] [rowF w.heap.size 50 13 (.slice v20a ((L ++ ([⟨c.t.my,c.t.port,(nextChunk s window (mssO c.o)).1.seq,c.r.next,16,windowOf c.r,⟨0,(-1),false,false,0,0⟩,(nextChunk s window (mssO c.o)).1.text⟩] : List Seg)).length) v20c) ((L ++ ([⟨c.t.my,c.t.port,(nextChunk s window (mssO c.o)).1.seq,c.r.next,16,windowOf c.r,⟨0,(-1),false,false,0,0⟩,(nextChunk s window (mssO c.o)).1.text⟩] : List Seg)).map segCells),ownF w.heap.size (.slice v1a c.r.held.length v1c) 2 (c.r.held.map pceCells),slF (.slice Acrh c.r.held.length Ccrh) 2 (c.r.held.map pceCells)] (by kernel_rfl) (by kernel_rfl)).trans <| kF 2 0 [1,2,4,6],by show (fun (s : Snd) (L : List Seg) (t : Int) (A : Option Addr) (cap : Nat) => meas s) (sentOff s (nextChunk s window (mssO c.o)).1) (L ++ ([⟨c.t.my,c.t.port,(nextChunk s window (mssO c.o)).1.seq,c.r.next,16,windowOf c.r,⟨0,(-1),false,false,0,0⟩,(nextChunk s window (mssO c.o)).1.text⟩] : List Seg)) t v20a v20c < meas s; exact meas_next hyes⟩
theorem yiPump_c (c : Con) (c_r_heldV : Value) (window : Int) (w : World) (hl_c_r_heldV : Sl w c_r_heldV 2 (c.r.held.map pceCells)) (hkn : c.r.held.length ≤ 1048576)(hm : ∀ p ∈ c.r.held, p.text.size ≤ 1048576) (hsz : c.r.data.size ≤ 4611686018427387904) (hwi : -9223372036854775808 ≤ window ∧ window ≤ 9223372036854775807) (B : Nat) (hB : B ≤ w.heap.size) : Calls Tryz.prog 46 #[.agg (conL c c_r_heldV).toArray, .int .i64 window] w fun e w' => XRs w w' e (α := (Option Addr × Nat) × (Option Addr × Nat)) (fun y => .tuple #[.agg (conL (pump c window).1 (.slice y.1.1 ((pump c window).1.r.held.length) y.1.2)).toArray, .slice y.2.1 ((pump c window).2.length) y.2.2]) (fun y => [ownF B (.slice y.1.1 ((pump c window).1.r.held.length) y.1.2) 2 ((pump c window).1.r.held.map pceCells), ownF B (.slice y.2.1 ((pump c window).2.length) y.2.2) 13 ((pump c window).2.map segCells)]) := by
 obtain ⟨Acrh,Ccrh,hvcrh⟩ := hl_c_r_heldV.form
 rw [List.length_map] at hvcrh; subst hvcrh
 have hncrh := hl_c_r_heldV.len; rw [List.length_map] at hncrh
 have hqcrh := Sl.capLe hl_c_r_heldV
 refine x_callsA (args := [.agg (conL c (.slice Acrh c.r.held.length Ccrh)).toArray,.int .i64 window]) (fn := Tryz.f46) [slF (.slice Acrh c.r.held.length Ccrh) 2 (c.r.held.map pceCells)] Tryz.func46 rfl Tryz.ntmps46 rfl (by simp only [List.mem_cons,List.not_mem_nil,or_false,forall_eq_or_imp,forall_eq]; exact ⟨rfl,hl_c_r_heldV⟩) ?_
 refine kQ ?_
 refine kEF [1,2,4] ⟨[(1,.v (.int .i64 window)),(2,.p 0 0),(4,.p 1 0)],[⟨44,conL c (.slice Acrh c.r.held.length Ccrh)⟩,⟨44,conZ⟩],[],[slF (.slice Acrh c.r.held.length Ccrh) 2 (c.r.held.map pceCells)]⟩ ?_
 refine kQ ?_
 refine kCD 1 [1,2,4,11] [(11,.v (.agg (conL c (.slice Acrh c.r.held.length Ccrh)).toArray))] 43 [.agg (conL c (.slice Acrh c.r.held.length Ccrh)).toArray] (some 12) rfl (xc_r fun ww hw hf => ycloneConn_c c (.slice Acrh c.r.held.length Ccrh) ww (hf _ m0) (by assumption) w.heap.size hw) ?_
 rintro ⟨v1a,v1c⟩
 refine kEA [1,2,4,6] [(6,.p 2 0)] [⟨44,conL c (.slice v1a c.r.held.length v1c)⟩] ?_
 refine kS ?_
 refine kQ ?_
 refine kCD 1 [1,2,4,6,13] [(13,.v (.agg (conL c (.slice Acrh c.r.held.length Ccrh)).toArray))] 24 [.agg (conL c (.slice Acrh c.r.held.length Ccrh)).toArray] (some 14) rfl (xc_b fun ww hf => yiConnOk_c c (.slice Acrh c.r.held.length Ccrh) ww (hf _ m1) (by assumption) (by omega)) ?_
 intro _
 refine kRD 2 [1,2,4,6,16] [(16,.v (.bool (!(conOk c))))] ?_
 refine kP 16 (!(conOk c)) (fun h2 => ?_) (fun h2 => ?_)
 have h2n := not_t h2
 refine kED [1,4,6,25] [(25,.v (.bool true))] ?_
 refine kT ?_
 refine kQ ?_
 refine kEU [4,5] [(5,.v (.slice none 0 0))] 1 ⟨44,conL c (.slice v1a c.r.held.length v1c)⟩ ?_
 refine kR ?_
 have hmod : pump c window = (c,[]) := by first | (simp [pump, *]; done) | exact pump_yes hok hs8 hs7 hS hL (by first | exact HT.symm | (unfold tmr; rw [show L.isEmpty = decide (L.length = 0) from by cases L <;> rfl]; simp only [decide_eq_true_eq]; split <;> (try split) <;> omega))
 exact ⟨[.agg (conL c (.slice v1a c.r.held.length v1c)).toArray,.slice none 0 0],by kernel_rfl,fun w' hb hf ha => by rw [hmod]; exact xo2 ((v1a,v1c),(none,0)) rfl rfl (pO (hf _ m0) hB) ⟨.inl ⟨rfl,_,rfl⟩,fun b hb => (hb.1 rfl).elim⟩ (apart_nil2 rfl) hb⟩
 have h2n := not_f h2
 refine kRD 5 [1,2,4,6,21] [(21,.v (.bool (c.state == 8)))] ?_
 refine kP 21 (c.state == 8) (fun h3 => ?_) (fun h3 => ?_)
 have h3p := eqT h3
 refine kED [1,4,6,25] [(25,.v (.bool true))] ?_
 refine kT ?_
 refine kQ ?_
 refine kEU [4,5] [(5,.v (.slice none 0 0))] 1 ⟨44,conL c (.slice v1a c.r.held.length v1c)⟩ ?_
 refine kR ?_
 have hmod : pump c window = (c,[]) := by first | (simp [pump, *]; done) | exact pump_yes hok hs8 hs7 hS hL (by first | exact HT.symm | (unfold tmr; rw [show L.isEmpty = decide (L.length = 0) from by cases L <;> rfl]; simp only [decide_eq_true_eq]; split <;> (try split) <;> omega))
 exact ⟨[.agg (conL c (.slice v1a c.r.held.length v1c)).toArray,.slice none 0 0],by kernel_rfl,fun w' hb hf ha => by rw [hmod]; exact xo2 ((v1a,v1c),(none,0)) rfl rfl (pO (hf _ m0) hB) ⟨.inl ⟨rfl,_,rfl⟩,fun b hb => (hb.1 rfl).elim⟩ (apart_nil2 rfl) hb⟩
 have h3p := eqF h3
 refine kED [1,4,6,25] [(25,.v (.bool (c.state == 7)))] ?_
 refine kC (c.state == 7) (fun h4 => ?_) (fun h4 => ?_)
 have h4p := eqT h4
 refine kQ ?_
 refine kEU [4,5] [(5,.v (.slice none 0 0))] 1 ⟨44,conL c (.slice v1a c.r.held.length v1c)⟩ ?_
 refine kR ?_
 have hmod : pump c window = (c,[]) := by first | (simp [pump, *]; done) | exact pump_yes hok hs8 hs7 hS hL (by first | exact HT.symm | (unfold tmr; rw [show L.isEmpty = decide (L.length = 0) from by cases L <;> rfl]; simp only [decide_eq_true_eq]; split <;> (try split) <;> omega))
 exact ⟨[.agg (conL c (.slice v1a c.r.held.length v1c)).toArray,.slice none 0 0],by kernel_rfl,fun w' hb hf ha => by rw [hmod]; exact xo2 ((v1a,v1c),(none,0)) rfl rfl (pO (hf _ m0) hB) ⟨.inl ⟨rfl,_,rfl⟩,fun b hb => (hb.1 rfl).elim⟩ (apart_nil2 rfl) hb⟩
 have h4p := eqF h4
 refine kK ?_
 refine kQ ?_
 refine kHD 0 [1,4,6] [] rfl (hv_build (e := 50) (K := 13) (bytes := 104) [] rfl (by kernel_rfl) (by kernel_rfl) (by kernel_rfl) (by kernel_rfl) (by kernel_rfl) (rs := ([] : List Seg).map segCells) rfl) ?_
 intro g5
 refine kED [1,4,6,7] [(7,.v (.slice (some ⟨g5,0,none⟩) 0 0))] ?_
 refine kS ?_
 refine xw_block ?_
 have hok : conOk c = true := by simp_all
 have hs8 : ¬ c.state = 8 := by simp_all
 have hs7 : ¬ c.state = 7 := by simp_all
 refine xw_loopW (α := {x : Snd × List Seg × Option Addr × Nat // (fun (s : Snd) (L : List Seg) (A : Option Addr) (cap : Nat) => (pumpC c.s window (mssO c.o)).1 = (pumpC s window (mssO c.o)).1 ∧ (pumpC c.s window (mssO c.o)).2.map (segOf c) = L ++ (pumpC s window (mssO c.o)).2.map (segOf c) ∧ L.length + meas s ≤ 49) x.1 x.2.1 x.2.2.1 x.2.2.2}) (fun x => (fun (s : Snd) (L : List Seg) (A : Option Addr) (cap : Nat) => (⟨[(1,.v (.int .i64 window)),(4,.p 1 0),(6,.p 2 0),(7,.v (.slice A L.length cap))],[⟨44,conL c (.slice Acrh c.r.held.length Ccrh)⟩,⟨44,conZ⟩,⟨44,conL { c with s := s } (.slice v1a c.r.held.length v1c)⟩],[],[rowF w.heap.size 50 13 (.slice A L.length cap) (L.map segCells),ownF w.heap.size (.slice v1a c.r.held.length v1c) 2 (c.r.held.map pceCells),slF (.slice Acrh c.r.held.length Ccrh) 2 (c.r.held.map pceCells)]⟩ : St)) x.1.1 x.1.2.1 x.1.2.2.1 x.1.2.2.2) (fun x => (fun (s : Snd) (L : List Seg) (A : Option Addr) (cap : Nat) => meas s) x.1.1 x.1.2.1 x.1.2.2.1 x.1.2.2.2) ⟨(c.s,([] : List Seg),(some ⟨g5,0,none⟩),0),⟨rfl,rfl,(by have := meas_le (conOk_s hok); simp only [List.length_nil]; omega)⟩⟩ ((wk_pick [0,1,2] [rowF w.heap.size 50 13 (.slice (some ⟨g5,0,none⟩) 0 0) (([] : List Seg).map segCells),ownF w.heap.size (.slice v1a c.r.held.length v1c) 2 (c.r.held.map pceCells),slF (.slice Acrh c.r.held.length Ccrh) 2 (c.r.held.map pceCells)] (by kernel_rfl) (by kernel_rfl)).trans <| kF 3 0 [1,4,6,7]) ?_
 rintro ⟨⟨s,L,A,cap⟩,HS,HL,HR⟩
 try dsimp only
 try dsimp only at HS HL HR
 refine xw_block ?_
 refine kS ?_
 refine xw_join ⟨[(1,.v (.int .i64 window)),(4,.p 1 0),(6,.p 2 0),(7,.v (.slice A L.length cap)),(8,.p 3 0),(9,.v (.bool ((nextChunk s window (mssO c.o)).2)))],[⟨44,conL c (.slice Acrh c.r.held.length Ccrh)⟩,⟨44,conZ⟩,⟨44,conL { c with s := s } (.slice v1a c.r.held.length v1c)⟩,⟨107,chkL (nextChunk s window (mssO c.o)).1⟩],[],[rowF w.heap.size 50 13 (.slice A L.length cap) (L.map segCells),ownF w.heap.size (.slice v1a c.r.held.length v1c) 2 (c.r.held.map pceCells),slF (.slice Acrh c.r.held.length Ccrh) 2 (c.r.held.map pceCells)]⟩ ?_ ?_
 refine xe_region [] (by kernel_rfl) (fun ρ σ => ?_)
 refine kTD [0,1,2,3] [32,31,30,1,4,6,7] 8 [(32,.v (.agg (conL { c with s := s } (.slice v1a c.r.held.length v1c)).toArray)),(31,.v (.int .i64 window)),(30,.v (.agg (sndL s).toArray))] ?_
 refine kA [4,9] ⟨?_,?_⟩
 refine kSC 4 102 [.agg (conL { c with s := s } (.slice v1a c.r.held.length v1c)).toArray] (some 33) rfl (xc_b fun ww hf => yiMssFor_c ({ c with s := s }) (.slice v1a c.r.held.length v1c) ww ) ?_
 intro _
 refine kA [5,9] ⟨?_,?_⟩
 refine kSC 5 101 [.agg (sndL s).toArray,.int .i64 window,.int .i64 (mssO c.o)] (some 34) rfl (xc_b fun ww hf => yiNextChunk_c s window (mssO c.o) ww  (by first | omega | (rw [wrap_id (by omega) (by omega)]; omega))) ?_
 intro _
 refine kTD [6,7,8] [36,35,1,4,6,7] 3 [(36,.v (.bool ((nextChunk s window (mssO c.o)).2))),(35,.v (.agg (chkL (nextChunk s window (mssO c.o)).1).toArray))] ?_
 refine kA [9] ?_
 refine xs_box 9 ⟨107,chkL (⟨0,(⟨#[]⟩ : ByteArray),false⟩ : Chk)⟩ _ rfl (by kernel_rfl) (by kernel_rfl) (by kernel_rfl) (by kernel_rfl) rfl ?_
 refine kA [10] ?_
 refine kSS 10 3 0 (chkL (nextChunk s window (mssO c.o)).1) rfl ?_
 refine kTS [11] [9,8,1,4,6,7] 0 [(9,.v (.bool ((nextChunk s window (mssO c.o)).2))),(8,.p 3 0),(1,.v (.int .i64 window)),(4,.p 1 0),(6,.p 2 0),(7,.v (.slice A L.length cap))] ?_
 refine kZ ?_
 exact kF 4 0 [1,4,6,7,8,9]
 refine xs_box 9 ⟨107,chkL (⟨0,(⟨#[]⟩ : ByteArray),false⟩ : Chk)⟩ _ rfl (by kernel_rfl) (by kernel_rfl) (by kernel_rfl) (by kernel_rfl) rfl ?_
 refine kA [5] ?_
 refine kSC 5 101 [.agg (sndL s).toArray,.int .i64 window,.int .i64 (mssO c.o)] (some 34) rfl (xc_b fun ww hf => yiNextChunk_c s window (mssO c.o) ww  (by first | omega | (rw [wrap_id (by omega) (by omega)]; omega))) ?_
 intro _
 refine kTD [6,7,8] [36,35,8,1,4,6,7] 2 [(36,.v (.bool ((nextChunk s window (mssO c.o)).2))),(35,.v (.agg (chkL (nextChunk s window (mssO c.o)).1).toArray))] ?_
 refine kA [10] ?_
 refine kSS 10 3 0 (chkL (nextChunk s window (mssO c.o)).1) rfl ?_
 refine kTS [11] [9,8,1,4,6,7] 0 [(9,.v (.bool ((nextChunk s window (mssO c.o)).2))),(8,.p 3 0),(1,.v (.int .i64 window)),(4,.p 1 0),(6,.p 2 0),(7,.v (.slice A L.length cap))] ?_
 refine kZ ?_
 exact kF 4 0 [1,4,6,7,8,9]
 refine xs_box 9 ⟨107,chkL (⟨0,(⟨#[]⟩ : ByteArray),false⟩ : Chk)⟩ _ rfl (by kernel_rfl) (by kernel_rfl) (by kernel_rfl) (by kernel_rfl) rfl ?_
 refine kA [4] ?_
 refine kSC 4 102 [.agg (conL { c with s := s } (.slice v1a c.r.held.length v1c)).toArray] (some 33) rfl (xc_b fun ww hf => yiMssFor_c ({ c with s := s }) (.slice v1a c.r.held.length v1c) ww ) ?_
 intro _
 refine kA [5] ?_
 refine kSC 5 101 [.agg (sndL s).toArray,.int .i64 window,.int .i64 (mssO c.o)] (some 34) rfl (xc_b fun ww hf => yiNextChunk_c s window (mssO c.o) ww  (by first | omega | (rw [wrap_id (by omega) (by omega)]; omega))) ?_
 intro _
 refine kTD [6,7,8] [36,35,8,1,4,6,7] 2 [(36,.v (.bool ((nextChunk s window (mssO c.o)).2))),(35,.v (.agg (chkL (nextChunk s window (mssO c.o)).1).toArray))] ?_
 refine kA [10] ?_
 refine kSS 10 3 0 (chkL (nextChunk s window (mssO c.o)).1) rfl ?_
 refine kTS [11] [9,8,1,4,6,7] 0 [(9,.v (.bool ((nextChunk s window (mssO c.o)).2))),(8,.p 3 0),(1,.v (.int .i64 window)),(4,.p 1 0),(6,.p 2 0),(7,.v (.slice A L.length cap))] ?_
 refine kZ ?_
 exact kF 4 0 [1,4,6,7,8,9]
 refine kS ?_
 refine kQ ?_
 refine kED [1,4,6,7,8,38] [(38,.v (.bool (!((nextChunk s window (mssO c.o)).2))))] ?_
 refine kC (!((nextChunk s window (mssO c.o)).2)) (fun h6 => ?_) (fun h6 => ?_)
 have hno := not_t h6
 have hS := pumpS_end hno HS
 have hL := pumpL_end hno HL
 refine xw_exit ?_
 refine kS ?_
 refine kQ ?_
 refine kRS 4 [4,6,7,72] [(4,.p 1 0),(6,.p 2 0),(7,.v (.slice A L.length cap)),(72,.v (.bool (decide (((L.length : Nat) : Int) > 0))))] ?_
 refine kP 72 (decide (((L.length : Nat) : Int) > 0)) (fun h7 => ?_) (fun h7 => ?_)
 have h7p := of_decide_eq_true h7
 refine kED [4,6,7,76] [(76,.v (.bool (c.timer == 0)))] ?_
 refine kC (c.timer == 0) (fun h8 => ?_) (fun h8 => ?_)
 have h8p := eqT h8
 refine kG ?_
 refine kEU [4,6,7] [] 2 ⟨44,conL { c with s := s,timer := 3 } (.slice v1a c.r.held.length v1c)⟩ ?_
 refine kQ ?_
 refine kEU [4,5] [(5,.v (.slice A L.length cap))] 1 ⟨44,conL { c with s := s,timer := 3 } (.slice v1a c.r.held.length v1c)⟩ ?_
 refine kR ?_
 have hmod : pump c window = (({ c with s := s,timer := 3 }),L) := by first | (simp [pump, *]; done) | exact pump_yes hok hs8 hs7 hS hL (by first | exact HT.symm | (unfold tmr; rw [show L.isEmpty = decide (L.length = 0) from by cases L <;> rfl]; simp only [decide_eq_true_eq]; split <;> (try split) <;> omega))
 exact ⟨[.agg (conL { c with s := s,timer := 3 } (.slice v1a c.r.held.length v1c)).toArray,.slice A L.length cap],by kernel_rfl,fun w' hb hf ha => by rw [hmod]; exact xo2 ((v1a,v1c),(A,cap)) rfl rfl (pO (hf _ m1) hB) (pR (hf _ m0) hB) (Apart.sub2 ha (i := 1) (j := 0) rfl rfl (by decide) rfl (fun b h => h) (fun b h => rowF_blk h)) hb⟩
 have h8p := eqF h8
 refine kK ?_
 refine kQ ?_
 refine kEU [4,5] [(5,.v (.slice A L.length cap))] 1 ⟨44,conL { c with s := s } (.slice v1a c.r.held.length v1c)⟩ ?_
 refine kR ?_
 have hmod : pump c window = (({ c with s := s }),L) := by first | (simp [pump, *]; done) | exact pump_yes hok hs8 hs7 hS hL (by first | exact HT.symm | (unfold tmr; rw [show L.isEmpty = decide (L.length = 0) from by cases L <;> rfl]; simp only [decide_eq_true_eq]; split <;> (try split) <;> omega))
 exact ⟨[.agg (conL { c with s := s } (.slice v1a c.r.held.length v1c)).toArray,.slice A L.length cap],by kernel_rfl,fun w' hb hf ha => by rw [hmod]; exact xo2 ((v1a,v1c),(A,cap)) rfl rfl (pO (hf _ m1) hB) (pR (hf _ m0) hB) (Apart.sub2 ha (i := 1) (j := 0) rfl rfl (by decide) rfl (fun b h => h) (fun b h => rowF_blk h)) hb⟩
 have h7p := of_decide_eq_false h7
 refine kED [4,6,7,76] [(76,.v (.bool false))] ?_
 refine kN ?_
 refine kK ?_
 refine kQ ?_
 refine kEU [4,5] [(5,.v (.slice A L.length cap))] 1 ⟨44,conL { c with s := s } (.slice v1a c.r.held.length v1c)⟩ ?_
 refine kR ?_
 have hmod : pump c window = (({ c with s := s }),L) := by first | (simp [pump, *]; done) | exact pump_yes hok hs8 hs7 hS hL (by first | exact HT.symm | (unfold tmr; rw [show L.isEmpty = decide (L.length = 0) from by cases L <;> rfl]; simp only [decide_eq_true_eq]; split <;> (try split) <;> omega))
 exact ⟨[.agg (conL { c with s := s } (.slice v1a c.r.held.length v1c)).toArray,.slice A L.length cap],by kernel_rfl,fun w' hb hf ha => by rw [hmod]; exact xo2 ((v1a,v1c),(A,cap)) rfl rfl (pO (hf _ m1) hB) (pR (hf _ m0) hB) (Apart.sub2 ha (i := 1) (j := 0) rfl rfl (by decide) rfl (fun b h => h) (fun b h => rowF_blk h)) hb⟩
 have hyes := not_f h6
 refine kK ?_
 refine kQ ?_
 refine kCS 1 [1,4,6,7,8,39] [(1,.v (.int .i64 window)),(4,.p 1 0),(6,.p 2 0),(7,.v (.slice A L.length cap)),(8,.p 3 0),(39,.v (.agg (conL { c with s := s } (.slice v1a c.r.held.length v1c)).toArray))] 45 [.agg (conL { c with s := s } (.slice v1a c.r.held.length v1c)).toArray] (some 40) rfl (xc_b fun ww hf => iAckOf_c c.t.ip c.t.port c.t.my c.state s.una s.data s.sent s.fin s.finSent s.done c.r.next c.r.data c.r.held (.slice v1a c.r.held.length v1c) c.r.fin c.r.done c.window c.most c.o.mss c.o.scale c.o.sack c.o.stamp c.o.val c.o.echo c.timer c.tries ww (by omega)) ?_
 intro _
 refine kEA [1,4,6,7,8,10] [(10,.p 4 0)] [⟨50,[.int .i64 c.t.my,.int .i64 c.t.port,.int .i64 (nextOf s),.int .i64 c.r.next,.int .i64 16,.int .i64 (windowOf c.r),.int .i64 0,.int .i64 (-1),.bool false,.bool false,.int .i64 0,.int .i64 0,.string (⟨#[]⟩ : ByteArray)]⟩] ?_
 refine kQ ?_
 refine kEU [1,4,6,7,8,10] [] 4 ⟨50,[.int .i64 c.t.my,.int .i64 c.t.port,.int .i64 ((nextChunk s window (mssO c.o)).1.seq),.int .i64 c.r.next,.int .i64 16,.int .i64 (windowOf c.r),.int .i64 0,.int .i64 (-1),.bool false,.bool false,.int .i64 0,.int .i64 0,.string (⟨#[]⟩ : ByteArray)]⟩ ?_
 refine kQ ?_
 refine kEU [1,4,6,7,8,10] [] 4 ⟨50,[.int .i64 c.t.my,.int .i64 c.t.port,.int .i64 ((nextChunk s window (mssO c.o)).1.seq),.int .i64 c.r.next,.int .i64 16,.int .i64 (windowOf c.r),.int .i64 0,.int .i64 (-1),.bool false,.bool false,.int .i64 0,.int .i64 0,.string ((nextChunk s window (mssO c.o)).1.text)]⟩ ?_
 refine kS ?_
 refine kQ ?_
 refine kED [1,4,6,7,8,10,49] [(49,.v (.bool (!(((nextChunk s window (mssO c.o)).1.text).toList == (⟨#[]⟩ : ByteArray).toList))))] ?_
 refine kC (!(((nextChunk s window (mssO c.o)).1.text).toList == (⟨#[]⟩ : ByteArray).toList)) (fun h9 => ?_) (fun h9 => ?_)
 have hT : (nextChunk s window (mssO c.o)).1.text.toList.isEmpty = false := by simpa [toList_lit0] using h9
 refine kG ?_
 refine kEU [1,4,6,7,8,10] [] 4 ⟨50,[.int .i64 c.t.my,.int .i64 c.t.port,.int .i64 ((nextChunk s window (mssO c.o)).1.seq),.int .i64 c.r.next,.int .i64 24,.int .i64 (windowOf c.r),.int .i64 0,.int .i64 (-1),.bool false,.bool false,.int .i64 0,.int .i64 0,.string ((nextChunk s window (mssO c.o)).1.text)]⟩ ?_
 refine kS ?_
 refine kQ ?_
 refine kED [1,4,6,7,8,10,55] [(55,.v (.bool ((nextChunk s window (mssO c.o)).1.fin)))] ?_
 refine kC ((nextChunk s window (mssO c.o)).1.fin) (fun h10 => ?_) (fun h10 => ?_)
 have hF := h10
 refine kG ?_
 refine kEU [1,4,6,7,8,10] [] 4 ⟨50,[.int .i64 c.t.my,.int .i64 c.t.port,.int .i64 ((nextChunk s window (mssO c.o)).1.seq),.int .i64 c.r.next,.int .i64 25,.int .i64 (windowOf c.r),.int .i64 0,.int .i64 (-1),.bool false,.bool false,.int .i64 0,.int .i64 0,.string ((nextChunk s window (mssO c.o)).1.text)]⟩ ?_
 refine kQ ?_
 refine kHD 2 [1,4,6,7,8,60,61] [(60,.v (.slice A L.length cap)),(61,.v (.agg #[.int .i64 c.t.my,.int .i64 c.t.port,.int .i64 ((nextChunk s window (mssO c.o)).1.seq),.int .i64 c.r.next,.int .i64 25,.int .i64 (windowOf c.r),.int .i64 0,.int .i64 (-1),.bool false,.bool false,.int .i64 0,.int .i64 0,.string ((nextChunk s window (mssO c.o)).1.text)]))] rfl (hv_build (e := 50) (K := 13) (bytes := 104) [.agg #[.int .i64 c.t.my,.int .i64 c.t.port,.int .i64 ((nextChunk s window (mssO c.o)).1.seq),.int .i64 c.r.next,.int .i64 25,.int .i64 (windowOf c.r),.int .i64 0,.int .i64 (-1),.bool false,.bool false,.int .i64 0,.int .i64 0,.string ((nextChunk s window (mssO c.o)).1.text)]] rfl (by kernel_rfl) (by kernel_rfl) (by kernel_rfl) (by kernel_rfl) (by kernel_rfl) (rs := ([⟨c.t.my,c.t.port,(nextChunk s window (mssO c.o)).1.seq,c.r.next,25,windowOf c.r,⟨0,(-1),false,false,0,0⟩,(nextChunk s window (mssO c.o)).1.text⟩] : List Seg).map segCells) rfl) ?_
 intro g11
 refine kHD 0 [1,4,6,7,8,60,62] [] rfl (hv_append (e := 50) (K := 13) (bytes := 104) (i := 1) (q := (L ++ ([⟨c.t.my,c.t.port,(nextChunk s window (mssO c.o)).1.seq,c.r.next,25,windowOf c.r,⟨0,(-1),false,false,0,0⟩,(nextChunk s window (mssO c.o)).1.text⟩] : List Seg)).length) (new := ([⟨c.t.my,c.t.port,(nextChunk s window (mssO c.o)).1.seq,c.r.next,25,windowOf c.r,⟨0,(-1),false,false,0,0⟩,(nextChunk s window (mssO c.o)).1.text⟩] : List Seg).map segCells) (rs' := (L ++ ([⟨c.t.my,c.t.port,(nextChunk s window (mssO c.o)).1.seq,c.r.next,25,windowOf c.r,⟨0,(-1),false,false,0,0⟩,(nextChunk s window (mssO c.o)).1.text⟩] : List Seg)).map segCells) rfl rfl rfl rfl (by kernel_rfl) (by kernel_rfl) (by kernel_rfl) rfl (by simp) (by rw [List.map_append]) (by simp) (fun ww hf => (rowF_sl (hf (rowF w.heap.size 50 13 (.slice (some ⟨g11,0,none⟩) 1 1) (([⟨c.t.my,c.t.port,(nextChunk s window (mssO c.o)).1.seq,c.r.next,25,windowOf c.r,⟨0,(-1),false,false,0,0⟩,(nextChunk s window (mssO c.o)).1.text⟩] : List Seg).map segCells)) (by simp)))) (by intro r hr; obtain ⟨x,hx,rfl⟩ := List.mem_map.1 hr; exact ⟨rfl,by simp [segCells,Value.oneCell']⟩) (by (try simp only [List.length_map,List.length_append,List.length_cons,List.length_nil,List.length_take,List.length_drop,maxLen]); omega) (by (try simp only [List.length_map,List.length_append,List.length_cons,List.length_nil,List.length_take,List.length_drop,maxLen]); omega)) ?_
 rintro ⟨v12a,v12c⟩
 refine kED [1,4,6,7,8] [(7,.v (.slice v12a ((L ++ ([⟨c.t.my,c.t.port,(nextChunk s window (mssO c.o)).1.seq,c.r.next,25,windowOf c.r,⟨0,(-1),false,false,0,0⟩,(nextChunk s window (mssO c.o)).1.text⟩] : List Seg)).length) v12c))] ?_
 refine kG ?_
 refine kCS 3 [1,4,6,7,65,66] [(1,.v (.int .i64 window)),(4,.p 1 0),(6,.p 2 0),(7,.v (.slice v12a ((L ++ ([⟨c.t.my,c.t.port,(nextChunk s window (mssO c.o)).1.seq,c.r.next,25,windowOf c.r,⟨0,(-1),false,false,0,0⟩,(nextChunk s window (mssO c.o)).1.text⟩] : List Seg)).length) v12c)),(65,.v (.agg (sndL s).toArray)),(66,.v (.agg (chkL (nextChunk s window (mssO c.o)).1).toArray))] 103 [.agg (sndL s).toArray,.agg (chkL (nextChunk s window (mssO c.o)).1).toArray] (some 67) rfl (xc_b fun ww hf => yiSentOff_c s ((nextChunk s window (mssO c.o)).1) ww  ) ?_
 intro _
 refine kEU [1,4,6,7] [] 2 ⟨44,conL { c with s := (sentOff s ((nextChunk s window (mssO c.o)).1)) } (.slice v1a c.r.held.length v1c)⟩ ?_
 have hrow : segOf c (nextChunk s window (mssO c.o)).1 = ⟨c.t.my,c.t.port,(nextChunk s window (mssO c.o)).1.seq,c.r.next,25,windowOf c.r,⟨0,(-1),false,false,0,0⟩,(nextChunk s window (mssO c.o)).1.text⟩ := by simp [segOf,hT,hF]
 exact ⟨⟨(sentOff s (nextChunk s window (mssO c.o)).1,(L ++ ([⟨c.t.my,c.t.port,(nextChunk s window (mssO c.o)).1.seq,c.r.next,25,windowOf c.r,⟨0,(-1),false,false,0,0⟩,(nextChunk s window (mssO c.o)).1.text⟩] : List Seg)),v12a,v12c),⟨pumpS_step hyes HS,pumpL_step hyes hrow HL,row_len HR (meas_next hyes)⟩⟩,(wk_pick [0,2,3] [rowF w.heap.size 50 13 (.slice v12a ((L ++ ([⟨c.t.my,c.t.port,(nextChunk s window (mssO c.o)).1.seq,c.r.next,25,windowOf c.r,⟨0,(-1),false,false,0,0⟩,(nextChunk s window (mssO c.o)).1.text⟩] : List Seg)).length) v12c) ((L ++ ([⟨c.t.my,c.t.port,(nextChunk s window (mssO c.o)).1.seq,c.r.next,25,windowOf c.r,⟨0,(-1),false,false,0,0⟩,(nextChunk s window (mssO c.o)).1.text⟩] : List Seg)).map segCells),ownF w.heap.size (.slice v1a c.r.held.length v1c) 2 (c.r.held.map pceCells),slF (.slice Acrh c.r.held.length Ccrh) 2 (c.r.held.map pceCells)] (by kernel_rfl) (by kernel_rfl)).trans <| kF 3 0 [1,4,6,7],by show (fun (s : Snd) (L : List Seg) (A : Option Addr) (cap : Nat) => meas s) (sentOff s (nextChunk s window (mssO c.o)).1) (L ++ ([⟨c.t.my,c.t.port,(nextChunk s window (mssO c.o)).1.seq,c.r.next,25,windowOf c.r,⟨0,(-1),false,false,0,0⟩,(nextChunk s window (mssO c.o)).1.text⟩] : List Seg)) v12a v12c < meas s; exact meas_next hyes⟩
 have hF := h10
 refine kK ?_
 refine kQ ?_
 refine kHD 2 [1,4,6,7,8,60,61] [(60,.v (.slice A L.length cap)),(61,.v (.agg #[.int .i64 c.t.my,.int .i64 c.t.port,.int .i64 ((nextChunk s window (mssO c.o)).1.seq),.int .i64 c.r.next,.int .i64 24,.int .i64 (windowOf c.r),.int .i64 0,.int .i64 (-1),.bool false,.bool false,.int .i64 0,.int .i64 0,.string ((nextChunk s window (mssO c.o)).1.text)]))] rfl (hv_build (e := 50) (K := 13) (bytes := 104) [.agg #[.int .i64 c.t.my,.int .i64 c.t.port,.int .i64 ((nextChunk s window (mssO c.o)).1.seq),.int .i64 c.r.next,.int .i64 24,.int .i64 (windowOf c.r),.int .i64 0,.int .i64 (-1),.bool false,.bool false,.int .i64 0,.int .i64 0,.string ((nextChunk s window (mssO c.o)).1.text)]] rfl (by kernel_rfl) (by kernel_rfl) (by kernel_rfl) (by kernel_rfl) (by kernel_rfl) (rs := ([⟨c.t.my,c.t.port,(nextChunk s window (mssO c.o)).1.seq,c.r.next,24,windowOf c.r,⟨0,(-1),false,false,0,0⟩,(nextChunk s window (mssO c.o)).1.text⟩] : List Seg).map segCells) rfl) ?_
 intro g13
 refine kHD 0 [1,4,6,7,8,60,62] [] rfl (hv_append (e := 50) (K := 13) (bytes := 104) (i := 1) (q := (L ++ ([⟨c.t.my,c.t.port,(nextChunk s window (mssO c.o)).1.seq,c.r.next,24,windowOf c.r,⟨0,(-1),false,false,0,0⟩,(nextChunk s window (mssO c.o)).1.text⟩] : List Seg)).length) (new := ([⟨c.t.my,c.t.port,(nextChunk s window (mssO c.o)).1.seq,c.r.next,24,windowOf c.r,⟨0,(-1),false,false,0,0⟩,(nextChunk s window (mssO c.o)).1.text⟩] : List Seg).map segCells) (rs' := (L ++ ([⟨c.t.my,c.t.port,(nextChunk s window (mssO c.o)).1.seq,c.r.next,24,windowOf c.r,⟨0,(-1),false,false,0,0⟩,(nextChunk s window (mssO c.o)).1.text⟩] : List Seg)).map segCells) rfl rfl rfl rfl (by kernel_rfl) (by kernel_rfl) (by kernel_rfl) rfl (by simp) (by rw [List.map_append]) (by simp) (fun ww hf => (rowF_sl (hf (rowF w.heap.size 50 13 (.slice (some ⟨g13,0,none⟩) 1 1) (([⟨c.t.my,c.t.port,(nextChunk s window (mssO c.o)).1.seq,c.r.next,24,windowOf c.r,⟨0,(-1),false,false,0,0⟩,(nextChunk s window (mssO c.o)).1.text⟩] : List Seg).map segCells)) (by simp)))) (by intro r hr; obtain ⟨x,hx,rfl⟩ := List.mem_map.1 hr; exact ⟨rfl,by simp [segCells,Value.oneCell']⟩) (by (try simp only [List.length_map,List.length_append,List.length_cons,List.length_nil,List.length_take,List.length_drop,maxLen]); omega) (by (try simp only [List.length_map,List.length_append,List.length_cons,List.length_nil,List.length_take,List.length_drop,maxLen]); omega)) ?_
 rintro ⟨v14a,v14c⟩
 refine kED [1,4,6,7,8] [(7,.v (.slice v14a ((L ++ ([⟨c.t.my,c.t.port,(nextChunk s window (mssO c.o)).1.seq,c.r.next,24,windowOf c.r,⟨0,(-1),false,false,0,0⟩,(nextChunk s window (mssO c.o)).1.text⟩] : List Seg)).length) v14c))] ?_
 refine kG ?_
 refine kCD 3 [1,4,6,7,65,66] [(65,.v (.agg (sndL s).toArray)),(66,.v (.agg (chkL (nextChunk s window (mssO c.o)).1).toArray))] 103 [.agg (sndL s).toArray,.agg (chkL (nextChunk s window (mssO c.o)).1).toArray] (some 67) rfl (xc_b fun ww hf => yiSentOff_c s ((nextChunk s window (mssO c.o)).1) ww  ) ?_
 intro _
 refine kEF [1,4,6,7] ⟨[(1,.v (.int .i64 window)),(4,.p 1 0),(6,.p 2 0),(7,.v (.slice v14a ((L ++ ([⟨c.t.my,c.t.port,(nextChunk s window (mssO c.o)).1.seq,c.r.next,24,windowOf c.r,⟨0,(-1),false,false,0,0⟩,(nextChunk s window (mssO c.o)).1.text⟩] : List Seg)).length) v14c))],[⟨44,conL c (.slice Acrh c.r.held.length Ccrh)⟩,⟨44,conZ⟩,⟨44,conL { c with s := (sentOff s ((nextChunk s window (mssO c.o)).1)) } (.slice v1a c.r.held.length v1c)⟩,⟨107,chkL (nextChunk s window (mssO c.o)).1⟩,⟨50,[.int .i64 c.t.my,.int .i64 c.t.port,.int .i64 ((nextChunk s window (mssO c.o)).1.seq),.int .i64 c.r.next,.int .i64 24,.int .i64 (windowOf c.r),.int .i64 0,.int .i64 (-1),.bool false,.bool false,.int .i64 0,.int .i64 0,.string ((nextChunk s window (mssO c.o)).1.text)]⟩],[],[rowF w.heap.size 50 13 (.slice v14a ((L ++ ([⟨c.t.my,c.t.port,(nextChunk s window (mssO c.o)).1.seq,c.r.next,24,windowOf c.r,⟨0,(-1),false,false,0,0⟩,(nextChunk s window (mssO c.o)).1.text⟩] : List Seg)).length) v14c) ((L ++ ([⟨c.t.my,c.t.port,(nextChunk s window (mssO c.o)).1.seq,c.r.next,24,windowOf c.r,⟨0,(-1),false,false,0,0⟩,(nextChunk s window (mssO c.o)).1.text⟩] : List Seg)).map segCells),rowF w.heap.size 50 13 (.slice (some ⟨g13,0,none⟩) 1 1) (([⟨c.t.my,c.t.port,(nextChunk s window (mssO c.o)).1.seq,c.r.next,24,windowOf c.r,⟨0,(-1),false,false,0,0⟩,(nextChunk s window (mssO c.o)).1.text⟩] : List Seg).map segCells),ownF w.heap.size (.slice v1a c.r.held.length v1c) 2 (c.r.held.map pceCells),slF (.slice Acrh c.r.held.length Ccrh) 2 (c.r.held.map pceCells)]⟩ ?_
 have hrow : segOf c (nextChunk s window (mssO c.o)).1 = ⟨c.t.my,c.t.port,(nextChunk s window (mssO c.o)).1.seq,c.r.next,24,windowOf c.r,⟨0,(-1),false,false,0,0⟩,(nextChunk s window (mssO c.o)).1.text⟩ := by simp [segOf,hT,hF]
 exact ⟨⟨(sentOff s (nextChunk s window (mssO c.o)).1,(L ++ ([⟨c.t.my,c.t.port,(nextChunk s window (mssO c.o)).1.seq,c.r.next,24,windowOf c.r,⟨0,(-1),false,false,0,0⟩,(nextChunk s window (mssO c.o)).1.text⟩] : List Seg)),v14a,v14c),⟨pumpS_step hyes HS,pumpL_step hyes hrow HL,row_len HR (meas_next hyes)⟩⟩,(wk_pick [0,2,3] [rowF w.heap.size 50 13 (.slice v14a ((L ++ ([⟨c.t.my,c.t.port,(nextChunk s window (mssO c.o)).1.seq,c.r.next,24,windowOf c.r,⟨0,(-1),false,false,0,0⟩,(nextChunk s window (mssO c.o)).1.text⟩] : List Seg)).length) v14c) ((L ++ ([⟨c.t.my,c.t.port,(nextChunk s window (mssO c.o)).1.seq,c.r.next,24,windowOf c.r,⟨0,(-1),false,false,0,0⟩,(nextChunk s window (mssO c.o)).1.text⟩] : List Seg)).map segCells),ownF w.heap.size (.slice v1a c.r.held.length v1c) 2 (c.r.held.map pceCells),slF (.slice Acrh c.r.held.length Ccrh) 2 (c.r.held.map pceCells)] (by kernel_rfl) (by kernel_rfl)).trans <| kF 3 0 [1,4,6,7],by show (fun (s : Snd) (L : List Seg) (A : Option Addr) (cap : Nat) => meas s) (sentOff s (nextChunk s window (mssO c.o)).1) (L ++ ([⟨c.t.my,c.t.port,(nextChunk s window (mssO c.o)).1.seq,c.r.next,24,windowOf c.r,⟨0,(-1),false,false,0,0⟩,(nextChunk s window (mssO c.o)).1.text⟩] : List Seg)) v14a v14c < meas s; exact meas_next hyes⟩
 have hT : (nextChunk s window (mssO c.o)).1.text.toList.isEmpty = true := by simpa [toList_lit0] using h9
 refine kK ?_
 refine kS ?_
 refine kQ ?_
 refine kED [1,4,6,7,8,10,55] [(55,.v (.bool ((nextChunk s window (mssO c.o)).1.fin)))] ?_
 refine kC ((nextChunk s window (mssO c.o)).1.fin) (fun h15 => ?_) (fun h15 => ?_)
 have hF := h15
 refine kG ?_
 refine kEU [1,4,6,7,8,10] [] 4 ⟨50,[.int .i64 c.t.my,.int .i64 c.t.port,.int .i64 ((nextChunk s window (mssO c.o)).1.seq),.int .i64 c.r.next,.int .i64 17,.int .i64 (windowOf c.r),.int .i64 0,.int .i64 (-1),.bool false,.bool false,.int .i64 0,.int .i64 0,.string ((nextChunk s window (mssO c.o)).1.text)]⟩ ?_
 refine kQ ?_
 refine kHD 2 [1,4,6,7,8,60,61] [(60,.v (.slice A L.length cap)),(61,.v (.agg #[.int .i64 c.t.my,.int .i64 c.t.port,.int .i64 ((nextChunk s window (mssO c.o)).1.seq),.int .i64 c.r.next,.int .i64 17,.int .i64 (windowOf c.r),.int .i64 0,.int .i64 (-1),.bool false,.bool false,.int .i64 0,.int .i64 0,.string ((nextChunk s window (mssO c.o)).1.text)]))] rfl (hv_build (e := 50) (K := 13) (bytes := 104) [.agg #[.int .i64 c.t.my,.int .i64 c.t.port,.int .i64 ((nextChunk s window (mssO c.o)).1.seq),.int .i64 c.r.next,.int .i64 17,.int .i64 (windowOf c.r),.int .i64 0,.int .i64 (-1),.bool false,.bool false,.int .i64 0,.int .i64 0,.string ((nextChunk s window (mssO c.o)).1.text)]] rfl (by kernel_rfl) (by kernel_rfl) (by kernel_rfl) (by kernel_rfl) (by kernel_rfl) (rs := ([⟨c.t.my,c.t.port,(nextChunk s window (mssO c.o)).1.seq,c.r.next,17,windowOf c.r,⟨0,(-1),false,false,0,0⟩,(nextChunk s window (mssO c.o)).1.text⟩] : List Seg).map segCells) rfl) ?_
 intro g16
 refine kHD 0 [1,4,6,7,8,60,62] [] rfl (hv_append (e := 50) (K := 13) (bytes := 104) (i := 1) (q := (L ++ ([⟨c.t.my,c.t.port,(nextChunk s window (mssO c.o)).1.seq,c.r.next,17,windowOf c.r,⟨0,(-1),false,false,0,0⟩,(nextChunk s window (mssO c.o)).1.text⟩] : List Seg)).length) (new := ([⟨c.t.my,c.t.port,(nextChunk s window (mssO c.o)).1.seq,c.r.next,17,windowOf c.r,⟨0,(-1),false,false,0,0⟩,(nextChunk s window (mssO c.o)).1.text⟩] : List Seg).map segCells) (rs' := (L ++ ([⟨c.t.my,c.t.port,(nextChunk s window (mssO c.o)).1.seq,c.r.next,17,windowOf c.r,⟨0,(-1),false,false,0,0⟩,(nextChunk s window (mssO c.o)).1.text⟩] : List Seg)).map segCells) rfl rfl rfl rfl (by kernel_rfl) (by kernel_rfl) (by kernel_rfl) rfl (by simp) (by rw [List.map_append]) (by simp) (fun ww hf => (rowF_sl (hf (rowF w.heap.size 50 13 (.slice (some ⟨g16,0,none⟩) 1 1) (([⟨c.t.my,c.t.port,(nextChunk s window (mssO c.o)).1.seq,c.r.next,17,windowOf c.r,⟨0,(-1),false,false,0,0⟩,(nextChunk s window (mssO c.o)).1.text⟩] : List Seg).map segCells)) (by simp)))) (by intro r hr; obtain ⟨x,hx,rfl⟩ := List.mem_map.1 hr; exact ⟨rfl,by simp [segCells,Value.oneCell']⟩) (by (try simp only [List.length_map,List.length_append,List.length_cons,List.length_nil,List.length_take,List.length_drop,maxLen]); omega) (by (try simp only [List.length_map,List.length_append,List.length_cons,List.length_nil,List.length_take,List.length_drop,maxLen]); omega)) ?_
 rintro ⟨v17a,v17c⟩
 refine kED [1,4,6,7,8] [(7,.v (.slice v17a ((L ++ ([⟨c.t.my,c.t.port,(nextChunk s window (mssO c.o)).1.seq,c.r.next,17,windowOf c.r,⟨0,(-1),false,false,0,0⟩,(nextChunk s window (mssO c.o)).1.text⟩] : List Seg)).length) v17c))] ?_
 refine kG ?_
 refine kCD 3 [1,4,6,7,65,66] [(65,.v (.agg (sndL s).toArray)),(66,.v (.agg (chkL (nextChunk s window (mssO c.o)).1).toArray))] 103 [.agg (sndL s).toArray,.agg (chkL (nextChunk s window (mssO c.o)).1).toArray] (some 67) rfl (xc_b fun ww hf => yiSentOff_c s ((nextChunk s window (mssO c.o)).1) ww  ) ?_
 intro _
 refine kEF [1,4,6,7] ⟨[(1,.v (.int .i64 window)),(4,.p 1 0),(6,.p 2 0),(7,.v (.slice v17a ((L ++ ([⟨c.t.my,c.t.port,(nextChunk s window (mssO c.o)).1.seq,c.r.next,17,windowOf c.r,⟨0,(-1),false,false,0,0⟩,(nextChunk s window (mssO c.o)).1.text⟩] : List Seg)).length) v17c))],[⟨44,conL c (.slice Acrh c.r.held.length Ccrh)⟩,⟨44,conZ⟩,⟨44,conL { c with s := (sentOff s ((nextChunk s window (mssO c.o)).1)) } (.slice v1a c.r.held.length v1c)⟩,⟨107,chkL (nextChunk s window (mssO c.o)).1⟩,⟨50,[.int .i64 c.t.my,.int .i64 c.t.port,.int .i64 ((nextChunk s window (mssO c.o)).1.seq),.int .i64 c.r.next,.int .i64 17,.int .i64 (windowOf c.r),.int .i64 0,.int .i64 (-1),.bool false,.bool false,.int .i64 0,.int .i64 0,.string ((nextChunk s window (mssO c.o)).1.text)]⟩],[],[rowF w.heap.size 50 13 (.slice v17a ((L ++ ([⟨c.t.my,c.t.port,(nextChunk s window (mssO c.o)).1.seq,c.r.next,17,windowOf c.r,⟨0,(-1),false,false,0,0⟩,(nextChunk s window (mssO c.o)).1.text⟩] : List Seg)).length) v17c) ((L ++ ([⟨c.t.my,c.t.port,(nextChunk s window (mssO c.o)).1.seq,c.r.next,17,windowOf c.r,⟨0,(-1),false,false,0,0⟩,(nextChunk s window (mssO c.o)).1.text⟩] : List Seg)).map segCells),rowF w.heap.size 50 13 (.slice (some ⟨g16,0,none⟩) 1 1) (([⟨c.t.my,c.t.port,(nextChunk s window (mssO c.o)).1.seq,c.r.next,17,windowOf c.r,⟨0,(-1),false,false,0,0⟩,(nextChunk s window (mssO c.o)).1.text⟩] : List Seg).map segCells),ownF w.heap.size (.slice v1a c.r.held.length v1c) 2 (c.r.held.map pceCells),slF (.slice Acrh c.r.held.length Ccrh) 2 (c.r.held.map pceCells)]⟩ ?_
 have hrow : segOf c (nextChunk s window (mssO c.o)).1 = ⟨c.t.my,c.t.port,(nextChunk s window (mssO c.o)).1.seq,c.r.next,17,windowOf c.r,⟨0,(-1),false,false,0,0⟩,(nextChunk s window (mssO c.o)).1.text⟩ := by simp [segOf,hT,hF]
 exact ⟨⟨(sentOff s (nextChunk s window (mssO c.o)).1,(L ++ ([⟨c.t.my,c.t.port,(nextChunk s window (mssO c.o)).1.seq,c.r.next,17,windowOf c.r,⟨0,(-1),false,false,0,0⟩,(nextChunk s window (mssO c.o)).1.text⟩] : List Seg)),v17a,v17c),⟨pumpS_step hyes HS,pumpL_step hyes hrow HL,row_len HR (meas_next hyes)⟩⟩,(wk_pick [0,2,3] [rowF w.heap.size 50 13 (.slice v17a ((L ++ ([⟨c.t.my,c.t.port,(nextChunk s window (mssO c.o)).1.seq,c.r.next,17,windowOf c.r,⟨0,(-1),false,false,0,0⟩,(nextChunk s window (mssO c.o)).1.text⟩] : List Seg)).length) v17c) ((L ++ ([⟨c.t.my,c.t.port,(nextChunk s window (mssO c.o)).1.seq,c.r.next,17,windowOf c.r,⟨0,(-1),false,false,0,0⟩,(nextChunk s window (mssO c.o)).1.text⟩] : List Seg)).map segCells),ownF w.heap.size (.slice v1a c.r.held.length v1c) 2 (c.r.held.map pceCells),slF (.slice Acrh c.r.held.length Ccrh) 2 (c.r.held.map pceCells)] (by kernel_rfl) (by kernel_rfl)).trans <| kF 3 0 [1,4,6,7],by show (fun (s : Snd) (L : List Seg) (A : Option Addr) (cap : Nat) => meas s) (sentOff s (nextChunk s window (mssO c.o)).1) (L ++ ([⟨c.t.my,c.t.port,(nextChunk s window (mssO c.o)).1.seq,c.r.next,17,windowOf c.r,⟨0,(-1),false,false,0,0⟩,(nextChunk s window (mssO c.o)).1.text⟩] : List Seg)) v17a v17c < meas s; exact meas_next hyes⟩
 have hF := h15
 refine kK ?_
 refine kQ ?_
 refine kHD 2 [1,4,6,7,8,60,61] [(60,.v (.slice A L.length cap)),(61,.v (.agg #[.int .i64 c.t.my,.int .i64 c.t.port,.int .i64 ((nextChunk s window (mssO c.o)).1.seq),.int .i64 c.r.next,.int .i64 16,.int .i64 (windowOf c.r),.int .i64 0,.int .i64 (-1),.bool false,.bool false,.int .i64 0,.int .i64 0,.string ((nextChunk s window (mssO c.o)).1.text)]))] rfl (hv_build (e := 50) (K := 13) (bytes := 104) [.agg #[.int .i64 c.t.my,.int .i64 c.t.port,.int .i64 ((nextChunk s window (mssO c.o)).1.seq),.int .i64 c.r.next,.int .i64 16,.int .i64 (windowOf c.r),.int .i64 0,.int .i64 (-1),.bool false,.bool false,.int .i64 0,.int .i64 0,.string ((nextChunk s window (mssO c.o)).1.text)]] rfl (by kernel_rfl) (by kernel_rfl) (by kernel_rfl) (by kernel_rfl) (by kernel_rfl) (rs := ([⟨c.t.my,c.t.port,(nextChunk s window (mssO c.o)).1.seq,c.r.next,16,windowOf c.r,⟨0,(-1),false,false,0,0⟩,(nextChunk s window (mssO c.o)).1.text⟩] : List Seg).map segCells) rfl) ?_
 intro g18
 refine kHD 0 [1,4,6,7,8,60,62] [] rfl (hv_append (e := 50) (K := 13) (bytes := 104) (i := 1) (q := (L ++ ([⟨c.t.my,c.t.port,(nextChunk s window (mssO c.o)).1.seq,c.r.next,16,windowOf c.r,⟨0,(-1),false,false,0,0⟩,(nextChunk s window (mssO c.o)).1.text⟩] : List Seg)).length) (new := ([⟨c.t.my,c.t.port,(nextChunk s window (mssO c.o)).1.seq,c.r.next,16,windowOf c.r,⟨0,(-1),false,false,0,0⟩,(nextChunk s window (mssO c.o)).1.text⟩] : List Seg).map segCells) (rs' := (L ++ ([⟨c.t.my,c.t.port,(nextChunk s window (mssO c.o)).1.seq,c.r.next,16,windowOf c.r,⟨0,(-1),false,false,0,0⟩,(nextChunk s window (mssO c.o)).1.text⟩] : List Seg)).map segCells) rfl rfl rfl rfl (by kernel_rfl) (by kernel_rfl) (by kernel_rfl) rfl (by simp) (by rw [List.map_append]) (by simp) (fun ww hf => (rowF_sl (hf (rowF w.heap.size 50 13 (.slice (some ⟨g18,0,none⟩) 1 1) (([⟨c.t.my,c.t.port,(nextChunk s window (mssO c.o)).1.seq,c.r.next,16,windowOf c.r,⟨0,(-1),false,false,0,0⟩,(nextChunk s window (mssO c.o)).1.text⟩] : List Seg).map segCells)) (by simp)))) (by intro r hr; obtain ⟨x,hx,rfl⟩ := List.mem_map.1 hr; exact ⟨rfl,by simp [segCells,Value.oneCell']⟩) (by (try simp only [List.length_map,List.length_append,List.length_cons,List.length_nil,List.length_take,List.length_drop,maxLen]); omega) (by (try simp only [List.length_map,List.length_append,List.length_cons,List.length_nil,List.length_take,List.length_drop,maxLen]); omega)) ?_
 rintro ⟨v19a,v19c⟩
 refine kED [1,4,6,7,8] [(7,.v (.slice v19a ((L ++ ([⟨c.t.my,c.t.port,(nextChunk s window (mssO c.o)).1.seq,c.r.next,16,windowOf c.r,⟨0,(-1),false,false,0,0⟩,(nextChunk s window (mssO c.o)).1.text⟩] : List Seg)).length) v19c))] ?_
 refine kG ?_
 refine kCD 3 [1,4,6,7,65,66] [(65,.v (.agg (sndL s).toArray)),(66,.v (.agg (chkL (nextChunk s window (mssO c.o)).1).toArray))] 103 [.agg (sndL s).toArray,.agg (chkL (nextChunk s window (mssO c.o)).1).toArray] (some 67) rfl (xc_b fun ww hf => yiSentOff_c s ((nextChunk s window (mssO c.o)).1) ww  ) ?_
 intro _
 refine kEU [1,4,6,7] [] 2 ⟨44,conL { c with s := (sentOff s ((nextChunk s window (mssO c.o)).1)) } (.slice v1a c.r.held.length v1c)⟩ ?_
 have hrow : segOf c (nextChunk s window (mssO c.o)).1 = ⟨c.t.my,c.t.port,(nextChunk s window (mssO c.o)).1.seq,c.r.next,16,windowOf c.r,⟨0,(-1),false,false,0,0⟩,(nextChunk s window (mssO c.o)).1.text⟩ := by simp [segOf,hT,hF]
 exact ⟨⟨(sentOff s (nextChunk s window (mssO c.o)).1,(L ++ ([⟨c.t.my,c.t.port,(nextChunk s window (mssO c.o)).1.seq,c.r.next,16,windowOf c.r,⟨0,(-1),false,false,0,0⟩,(nextChunk s window (mssO c.o)).1.text⟩] : List Seg)),v19a,v19c),⟨pumpS_step hyes HS,pumpL_step hyes hrow HL,row_len HR (meas_next hyes)⟩⟩,(wk_pick [0,2,3] [rowF w.heap.size 50 13 (.slice v19a ((L ++ ([⟨c.t.my,c.t.port,(nextChunk s window (mssO c.o)).1.seq,c.r.next,16,windowOf c.r,⟨0,(-1),false,false,0,0⟩,(nextChunk s window (mssO c.o)).1.text⟩] : List Seg)).length) v19c) ((L ++ ([⟨c.t.my,c.t.port,(nextChunk s window (mssO c.o)).1.seq,c.r.next,16,windowOf c.r,⟨0,(-1),false,false,0,0⟩,(nextChunk s window (mssO c.o)).1.text⟩] : List Seg)).map segCells),ownF w.heap.size (.slice v1a c.r.held.length v1c) 2 (c.r.held.map pceCells),slF (.slice Acrh c.r.held.length Ccrh) 2 (c.r.held.map pceCells)] (by kernel_rfl) (by kernel_rfl)).trans <| kF 3 0 [1,4,6,7],by show (fun (s : Snd) (L : List Seg) (A : Option Addr) (cap : Nat) => meas s) (sentOff s (nextChunk s window (mssO c.o)).1) (L ++ ([⟨c.t.my,c.t.port,(nextChunk s window (mssO c.o)).1.seq,c.r.next,16,windowOf c.r,⟨0,(-1),false,false,0,0⟩,(nextChunk s window (mssO c.o)).1.text⟩] : List Seg)) v19a v19c < meas s; exact meas_next hyes⟩
theorem yiscaled_c (window : Int) (o : Opt) (w : World) (h0 : 0 ≤ window ∧ window ≤ 65535) (h1 : o.scale ≤ 14) : Calls Tryz.prog 70 #[.int .i64 window, .agg (optL o).toArray] w fun e w' => e = .returned (.int .i64 (farW window o)) ∧ Below w.heap.size w w' := by
 refine x_calls (args := [.int .i64 window,.agg (optL o).toArray]) (fn := Tryz.f70) [] Tryz.func70 rfl Tryz.ntmps70 rfl (by simp) ?_
 refine kQ ?_
 refine kEF [0,3] ⟨[(0,.v (.int .i64 window)),(3,.p 0 0)],[⟨42,optL o⟩],[],[]⟩ ?_
 refine kQ ?_
 refine kOS 3 [5,7] [(5,.v (.int .i64 window)),(7,.v (.int .i64 o.scale))] (.int .i64 (max o.scale 0)) rfl (fun _ _ _ ww hr => act_max2 (k := .i64) (k' := .i64) (p := o.scale) (q := 0) hr.1 rfl rfl rfl (by kernel_rfl) (by kernel_rfl) ww) ?_
 refine kOS 0 [5,8] [(5,.v (.int .i64 window)),(8,.v (.int .i64 (max o.scale 0)))] (.int .i64 (IntKind.i64.wrap (window * 2 ^ (max o.scale 0).toNat))) rfl (fun _ _ _ ww hr => act_bin hr.1 rfl (by kernel_rfl) (by kernel_rfl) (shl_run (k' := .i64) (by have e : ((IntKind.i64.bits : Nat) : Int) = 64 := rfl; (try rw [u64_id (by omega) (by omega)]); omega) (by have e : ((IntKind.i64.bits : Nat) : Int) = 64 := rfl; (try rw [u64_id (by omega) (by omega)]); omega) ww)) ?_
 refine kOS 0 [9] [(9,.v (.int .i64 (IntKind.i64.wrap (window * 2 ^ (max o.scale 0).toNat))))] (.int .i64 (min (IntKind.i64.wrap (window * 2 ^ (max o.scale 0).toNat)) 1073725440)) rfl (fun _ _ _ ww hr => act_min2 (k := .i64) (k' := .i64) (p := IntKind.i64.wrap (window * 2 ^ (max o.scale 0).toNat)) (q := 1073725440) hr.1 rfl rfl rfl (by kernel_rfl) (by kernel_rfl) ww) ?_
 refine kRS 1 [4] [(4,.v (.int .i64 (min (IntKind.i64.wrap (window * 2 ^ (max o.scale 0).toNat)) 1073725440)))] ?_
 refine xl_eqS (t' := [(4,.v (.int .i64 (min (window * 2 ^ (max 0 o.scale).toNat) 1073725440)))]) (by rw [show (max o.scale 0) = (max 0 o.scale) from (by omega),show (IntKind.i64.wrap (window * 2 ^ (max 0 o.scale).toNat)) = (window * 2 ^ (max 0 o.scale).toNat) from far_wrap (by omega) (by omega) (by omega) (by omega)]) ?_
 refine kES [4] [(4,.v (.int .i64 (min (window * 2 ^ (max 0 o.scale).toNat) 1073725440)))] ?_
 refine kR ?_
 have hmod : farW window o = (min (window * 2 ^ (max 0 o.scale).toNat) 1073725440) := by (unfold farW; have := far_le (a := window) (b := max 0 o.scale) (by omega) (by omega) (by omega) (by omega); omega)
 exact ⟨[.int .i64 (min (window * 2 ^ (max 0 o.scale).toNat) 1073725440)],by kernel_rfl,fun w' hb hf => by rw [hmod]; exact ⟨rfl,hb⟩⟩
theorem ysHeard_c (c : Con) (c_r_heldV : Value) (g : Seg) (w : World) (hl_c_r_heldV : Sl w c_r_heldV 2 (c.r.held.map pceCells)) (hkn : c.r.held.length ≤ 1048576)(hgz : g.body.size ≤ 1048576) (hm : ∀ p ∈ c.r.held, p.text.size ≤ 1048576) (hsz : c.r.data.size ≤ 4611686018427387904) (B : Nat) (hB : B ≤ w.heap.size) : Calls Tryz.prog 28 #[.agg (conL c c_r_heldV).toArray, .agg (segL g).toArray] w fun e w' => XRs w w' e (α := Option Addr × Nat) (fun y => .agg (conL (heard c g) (.slice y.1 ((heard c g).r.held.length) y.2)).toArray) (fun y => [ownF B (.slice y.1 ((heard c g).r.held.length) y.2) 2 ((heard c g).r.held.map pceCells)]) := by
 obtain ⟨Acrh,Ccrh,hvcrh⟩ := hl_c_r_heldV.form
 rw [List.length_map] at hvcrh; subst hvcrh
 have hncrh := hl_c_r_heldV.len; rw [List.length_map] at hncrh
 have hqcrh := Sl.capLe hl_c_r_heldV
 refine x_callsA (args := [.agg (conL c (.slice Acrh c.r.held.length Ccrh)).toArray,.agg (segL g).toArray]) (fn := Tryz.f28) [slF (.slice Acrh c.r.held.length Ccrh) 2 (c.r.held.map pceCells)] Tryz.func28 rfl Tryz.ntmps28 rfl (by simp only [List.mem_cons,List.not_mem_nil,or_false,forall_eq_or_imp,forall_eq]; exact ⟨rfl,hl_c_r_heldV⟩) ?_
 refine kQ ?_
 refine kEF [2,3,4] ⟨[(2,.p 0 0),(3,.p 1 0),(4,.p 2 0)],[⟨44,conL c (.slice Acrh c.r.held.length Ccrh)⟩,⟨50,segL g⟩,⟨44,conZ⟩],[],[slF (.slice Acrh c.r.held.length Ccrh) 2 (c.r.held.map pceCells)]⟩ ?_
 refine kQ ?_
 refine kCD 1 [2,3,4,9] [(9,.v (.agg (conL c (.slice Acrh c.r.held.length Ccrh)).toArray))] 33 [.agg (conL c (.slice Acrh c.r.held.length Ccrh)).toArray] (some 10) rfl (xc_r fun ww hw hf => yl19Copy_c c (.slice Acrh c.r.held.length Ccrh) ww (hf _ m0) (by assumption) w.heap.size hw) ?_
 rintro ⟨v1a,v1c⟩
 refine kEA [2,3,4,5] [(5,.p 3 0)] [⟨44,conL c (.slice v1a c.r.held.length v1c)⟩] ?_
 refine kS ?_
 refine kQ ?_
 refine kCD 2 [2,3,4,5,11,12] [(11,.v (.agg (conL c (.slice Acrh c.r.held.length Ccrh)).toArray)),(12,.v (.agg (segL g).toArray))] 29 [.agg (conL c (.slice Acrh c.r.held.length Ccrh)).toArray,.agg (segL g).toArray] (some 13) rfl (xc_b fun ww hf => ysVerdict_c c (.slice Acrh c.r.held.length Ccrh) g ww (hf _ m1) (by omega) (by assumption) (by omega)) ?_
 intro _
 refine kED [2,3,4,5,14] [(14,.v (.bool ((verdict c g) != 5)))] ?_
 refine kC ((verdict c g) != 5) (fun h2 => ?_) (fun h2 => ?_)
 have h2p := neT h2
 have hv5 : ¬ verdict c g = 5 := by simpa using h2
 refine kQ ?_
 refine kEU [4] [(4,.p 2 0)] 2 ⟨44,conL c (.slice v1a c.r.held.length v1c)⟩ ?_
 refine kR ?_
 have hmod : heard c g = c := by first | (unfold heard; rw [if_pos hv5,← hm5]; unfold heardR; rw [if_pos (by assumption)]; done) | (unfold heard; rw [if_pos hv5,← hm5]; unfold heardR; rw [if_neg (by simp [*]; done),← hmr]; done) | (unfold heard; rw [if_neg hv5]; done)
 exact ⟨[.agg (conL c (.slice v1a c.r.held.length v1c)).toArray],by kernel_rfl,fun w' hb hf ha => by rw [hmod]; exact xo1 ((v1a,v1c)) rfl rfl (pO (hf _ m0) hB) hb⟩
 have h2p := neF h2
 have hv5 : verdict c g = 5 := by simpa using h2
 obtain ⟨hc1,hc2,hc3,-⟩ := verdict_fine hv5
 have hgw := segmentOk_w hc3
 have hsc := optionsOk_bd (conOk_r hc1).2.1
 have hfw := farW_bd hgw (conOk_r hc1).2.1
 refine kK ?_
 refine kQ ?_
 refine kCD 4 [2,3,4,5,18,20] [(18,.v (.agg (sndL c.s).toArray)),(20,.v (.int .i64 g.ack))] 74 [.agg (sndL c.s).toArray,.int .i64 g.ack] (some 21) rfl (xc_b fun ww hf => ysAcked_c c.s g.ack ww  ) ?_
 intro _
 refine kEA [2,3,4,5,6,7] [(6,.p 4 0),(7,.v (.bool ((acked c.s g.ack).2)))] [⟨38,sndL (acked c.s g.ack).1⟩] ?_
 refine kS ?_
 refine xw_joinF (α := {zz : Con // (fun (m : Con) => m = heardMid c g) zz}) (fun zz => (fun (m : Con) => (⟨[(2,.p 0 0),(3,.p 1 0),(4,.p 2 0),(5,.p 3 0)],[⟨44,conL c (.slice Acrh c.r.held.length Ccrh)⟩,⟨50,segL g⟩,⟨44,conZ⟩,⟨44,conL m (.slice v1a m.r.held.length v1c)⟩,⟨38,sndL (acked c.s g.ack).1⟩],[],[ownF w.heap.size (.slice v1a m.r.held.length v1c) 2 (m.r.held.map pceCells),slF (.slice Acrh c.r.held.length Ccrh) 2 (c.r.held.map pceCells)]⟩ : St)) zz.1) ?_ ?_
 refine kQ ?_
 refine kED [2,3,4,5,6,24] [(24,.v (.bool ((acked c.s g.ack).2)))] ?_
 refine kC ((acked c.s g.ack).2) (fun h3 => ?_) (fun h3 => ?_)
 refine kQ ?_
 refine kEU [2,3,4,5,6] [] 3 ⟨44,conL { c with s := (acked c.s g.ack).1 } (.slice v1a c.r.held.length v1c)⟩ ?_
 refine kS ?_
 refine xe_region0 [true,true,true,false,true] (by kernel_rfl) (fun ρ σ => ?_)
 refine kTS [0,1,2,3,4] [31,28,2,3,4,5,6] 6 [(31,.v (.int .i64 c.o.scale)),(28,.v (.int .i64 g.window)),(2,.p 0 0),(3,.p 1 0),(4,.p 2 0),(5,.p 3 0),(6,.p 4 0)] ?_
 refine kA [5] ?_
 refine kSC 5 76 [.int .i64 0,.int .i64 c.o.scale] (some 32) rfl (xc_s fun ww hf => l1Max_c 0 c.o.scale ww ) ?_
 intro _
 refine kTS [6] [33,28,2,3,4,5,6] 4 [(33,.v (.int .u64 (IntKind.u64.wrap (max 0 c.o.scale)))),(28,.v (.int .i64 g.window)),(2,.p 0 0),(3,.p 1 0),(4,.p 2 0),(5,.p 3 0),(6,.p 4 0)] ?_
 refine xe_eqS (t := [(33,.v (.int .u64 (IntKind.u64.wrap (max 0 c.o.scale)))),(28,.v (.int .i64 g.window)),(2,.p 0 0),(3,.p 1 0),(4,.p 2 0),(5,.p 3 0),(6,.p 4 0)]) (t' := [(33,.v (.int .u64 (max 0 c.o.scale))),(28,.v (.int .i64 g.window)),(2,.p 0 0),(3,.p 1 0),(4,.p 2 0),(5,.p 3 0),(6,.p 4 0)]) (by rw [show (IntKind.u64.wrap (max 0 c.o.scale)) = (max 0 c.o.scale) from u64_id (by omega) (by omega)]) ?_
 refine kX 7 (.int .i64 (IntKind.i64.wrap (g.window * 2 ^ (max 0 c.o.scale).toNat))) rfl (fun _ _ ww hA => act_bin hA rfl (by kernel_rfl) (by kernel_rfl) (shl_run (k' := .u64) (by have e : ((IntKind.i64.bits : Nat) : Int) = 64 := rfl; (try rw [u64_id (by omega) (by omega)]); omega) (by have e : ((IntKind.i64.bits : Nat) : Int) = 64 := rfl; (try rw [u64_id (by omega) (by omega)]); omega) ww)) ?_
 refine xe_eqS (t := [(34,.v (.int .i64 (IntKind.i64.wrap (g.window * 2 ^ (max 0 c.o.scale).toNat)))),(33,.v (.int .u64 (max 0 c.o.scale))),(28,.v (.int .i64 g.window)),(2,.p 0 0),(3,.p 1 0),(4,.p 2 0),(5,.p 3 0),(6,.p 4 0)]) (t' := [(34,.v (.int .i64 (farW g.window c.o))),(33,.v (.int .u64 (max 0 c.o.scale))),(28,.v (.int .i64 g.window)),(2,.p 0 0),(3,.p 1 0),(4,.p 2 0),(5,.p 3 0),(6,.p 4 0)]) (by rw [show (IntKind.i64.wrap (g.window * 2 ^ (max 0 c.o.scale).toNat)) = (farW g.window c.o) from (by unfold farW; exact far_wrap (by omega) (by omega) (by omega) (by omega))]) ?_
 refine kA [8] ?_
 refine kSC 8 75 [.int .i64 1073725440,.int .i64 (farW g.window c.o)] (some 35) rfl (xc_s fun ww hf => l1Min_c 1073725440 (farW g.window c.o) ww ) ?_
 intro _
 refine xe_eqS (t := [(35,.v (.int .i64 (min 1073725440 (farW g.window c.o)))),(34,.v (.int .i64 (farW g.window c.o))),(33,.v (.int .u64 (max 0 c.o.scale))),(28,.v (.int .i64 g.window)),(2,.p 0 0),(3,.p 1 0),(4,.p 2 0),(5,.p 3 0),(6,.p 4 0)]) (t' := [(35,.v (.int .i64 (farW g.window c.o))),(34,.v (.int .i64 (farW g.window c.o))),(33,.v (.int .u64 (max 0 c.o.scale))),(28,.v (.int .i64 g.window)),(2,.p 0 0),(3,.p 1 0),(4,.p 2 0),(5,.p 3 0),(6,.p 4 0)]) (by rw [show (min 1073725440 (farW g.window c.o)) = (farW g.window c.o) from (by omega)]) ?_
 refine kTS [9] [36,35,2,3,4,5,6] 1 [(36,.p 3 15),(35,.v (.int .i64 (farW g.window c.o))),(2,.p 0 0),(3,.p 1 0),(4,.p 2 0),(5,.p 3 0),(6,.p 4 0)] ?_
 refine kA [10] ?_
 refine kSS 10 3 15 [.int .i64 (farW g.window c.o)] rfl ?_
 refine kZ ?_
 refine kQ ?_
 refine kCD 4 [2,3,4,5,6,38,40] [(38,.v (.int .i64 c.most)),(40,.v (.int .i64 (farW g.window c.o)))] 76 [.int .i64 c.most,.int .i64 (farW g.window c.o)] (some 41) rfl (xc_s fun ww hf => l1Max_c c.most (farW g.window c.o) ww ) ?_
 intro _
 refine kEU [2,3,4,5,6] [] 3 ⟨44,conL { c with s := (acked c.s g.ack).1,window := farW g.window c.o,most := max c.most (farW g.window c.o) } (.slice v1a c.r.held.length v1c)⟩ ?_
 refine kQ ?_
 refine kCD 1 [2,3,4,5,6,43] [(43,.v (.agg (sndL (acked c.s g.ack).1).toArray))] 77 [.agg (sndL (acked c.s g.ack).1).toArray] (some 44) rfl (xc_b fun ww hf => sFlown_c ((acked c.s g.ack).1.una) ((acked c.s g.ack).1.data) ((acked c.s g.ack).1.sent) ((acked c.s g.ack).1.fin) ((acked c.s g.ack).1.finSent) ((acked c.s g.ack).1.done) ww ) ?_
 intro _
 refine kED [2,3,4,5,6,8] [(8,.v (.int .i64 (flown ((acked c.s g.ack).1))))] ?_
 refine kQ ?_
 refine kRD 7 [2,3,4,5,8,51] [(51,.v (.bool (((acked c.s g.ack).1.una) != c.s.una)))] ?_
 refine kP 51 (((acked c.s g.ack).1.una) != c.s.una) (fun h4 => ?_) (fun h4 => ?_)
 have h4p := neT h4
 refine kED [2,3,4,5,8,59] [(59,.v (.bool (c.state != 7)))] ?_
 refine kC (c.state != 7) (fun h5 => ?_) (fun h5 => ?_)
 have h5p := neT h5
 refine kQ ?_
 refine kEU [2,3,4,5,8] [] 3 ⟨44,conL { c with s := (acked c.s g.ack).1,window := farW g.window c.o,most := max c.most (farW g.window c.o),tries := 0 } (.slice v1a c.r.held.length v1c)⟩ ?_
 refine kQ ?_
 refine kEU [2,3,4,5,8] [] 3 ⟨44,[.int .i64 c.t.ip,.int .i64 c.t.port,.int .i64 c.t.my,.int .i64 c.state,.int .i64 ((acked c.s g.ack).1.una),.string ((acked c.s g.ack).1.data),.int .i64 ((acked c.s g.ack).1.sent),.bool ((acked c.s g.ack).1.fin),.bool ((acked c.s g.ack).1.finSent),.bool ((acked c.s g.ack).1.done),.int .i64 c.r.next,.string c.r.data,.slice v1a c.r.held.length v1c,.int .i64 c.r.fin,.bool c.r.done,.int .i64 (farW g.window c.o),.int .i64 (max c.most (farW g.window c.o)),.int .i64 c.o.mss,.int .i64 c.o.scale,.bool c.o.sack,.bool c.o.stamp,.int .i64 c.o.val,.int .i64 c.o.echo,.int .i64 0,.int .i64 0]⟩ ?_
 refine kQ ?_
 refine kED [2,3,4,5,63] [(63,.v (.bool (decide ((flown ((acked c.s g.ack).1)) > 0))))] ?_
 refine kC (decide ((flown ((acked c.s g.ack).1)) > 0)) (fun h6 => ?_) (fun h6 => ?_)
 have h6p := of_decide_eq_true h6
 refine kG ?_
 refine kEU [2,3,4,5] [] 3 ⟨44,[.int .i64 c.t.ip,.int .i64 c.t.port,.int .i64 c.t.my,.int .i64 c.state,.int .i64 ((acked c.s g.ack).1.una),.string ((acked c.s g.ack).1.data),.int .i64 ((acked c.s g.ack).1.sent),.bool ((acked c.s g.ack).1.fin),.bool ((acked c.s g.ack).1.finSent),.bool ((acked c.s g.ack).1.done),.int .i64 c.r.next,.string c.r.data,.slice v1a c.r.held.length v1c,.int .i64 c.r.fin,.bool c.r.done,.int .i64 (farW g.window c.o),.int .i64 (max c.most (farW g.window c.o)),.int .i64 c.o.mss,.int .i64 c.o.scale,.bool c.o.sack,.bool c.o.stamp,.int .i64 c.o.val,.int .i64 c.o.echo,.int .i64 3,.int .i64 0]⟩ ?_
 exact ⟨⟨(⟨c.t,c.state,(acked c.s g.ack).1,c.r,farW g.window c.o,max c.most (farW g.window c.o),c.o,3,0⟩),(by unfold heardMid; first | (simp [*]; done) | grind)⟩,kF 5 0 [2,3,4,5]⟩
 have h6p := of_decide_eq_false h6
 refine kK ?_
 exact ⟨⟨(⟨c.t,c.state,(acked c.s g.ack).1,c.r,farW g.window c.o,max c.most (farW g.window c.o),c.o,0,0⟩),(by unfold heardMid; first | (simp [*]; done) | grind)⟩,kF 5 0 [2,3,4,5]⟩
 have h5p := neF h5
 refine kK ?_
 exact ⟨⟨({ c with s := (acked c.s g.ack).1,window := farW g.window c.o,most := max c.most (farW g.window c.o) }),(by unfold heardMid; first | (simp [*]; done) | grind)⟩,kF 5 0 [2,3,4,5]⟩
 have h4p := neF h4
 refine kRD 4 [2,3,4,5,8,55] [(55,.v (.bool ((flown ((acked c.s g.ack).1)) == 0)))] ?_
 refine kP 55 ((flown ((acked c.s g.ack).1)) == 0) (fun h7 => ?_) (fun h7 => ?_)
 have h7p := eqT h7
 refine kED [2,3,4,5,8,59] [(59,.v (.bool (c.state != 7)))] ?_
 refine kC (c.state != 7) (fun h8 => ?_) (fun h8 => ?_)
 have h8p := neT h8
 refine kQ ?_
 refine kEU [2,3,4,5,8] [] 3 ⟨44,conL { c with s := (acked c.s g.ack).1,window := farW g.window c.o,most := max c.most (farW g.window c.o),tries := 0 } (.slice v1a c.r.held.length v1c)⟩ ?_
 refine kQ ?_
 refine kEU [2,3,4,5,8] [] 3 ⟨44,[.int .i64 c.t.ip,.int .i64 c.t.port,.int .i64 c.t.my,.int .i64 c.state,.int .i64 ((acked c.s g.ack).1.una),.string ((acked c.s g.ack).1.data),.int .i64 ((acked c.s g.ack).1.sent),.bool ((acked c.s g.ack).1.fin),.bool ((acked c.s g.ack).1.finSent),.bool ((acked c.s g.ack).1.done),.int .i64 c.r.next,.string c.r.data,.slice v1a c.r.held.length v1c,.int .i64 c.r.fin,.bool c.r.done,.int .i64 (farW g.window c.o),.int .i64 (max c.most (farW g.window c.o)),.int .i64 c.o.mss,.int .i64 c.o.scale,.bool c.o.sack,.bool c.o.stamp,.int .i64 c.o.val,.int .i64 c.o.echo,.int .i64 0,.int .i64 0]⟩ ?_
 refine kQ ?_
 refine kED [2,3,4,5,63] [(63,.v (.bool (decide ((flown ((acked c.s g.ack).1)) > 0))))] ?_
 refine kC (decide ((flown ((acked c.s g.ack).1)) > 0)) (fun h9 => ?_) (fun h9 => ?_)
 have h9p := of_decide_eq_true h9
 refine kG ?_
 refine kEF [2,3,4,5] ⟨[(2,.p 0 0),(3,.p 1 0),(4,.p 2 0),(5,.p 3 0)],[⟨44,conL c (.slice Acrh c.r.held.length Ccrh)⟩,⟨50,segL g⟩,⟨44,conZ⟩,⟨44,[.int .i64 c.t.ip,.int .i64 c.t.port,.int .i64 c.t.my,.int .i64 c.state,.int .i64 ((acked c.s g.ack).1.una),.string ((acked c.s g.ack).1.data),.int .i64 ((acked c.s g.ack).1.sent),.bool ((acked c.s g.ack).1.fin),.bool ((acked c.s g.ack).1.finSent),.bool ((acked c.s g.ack).1.done),.int .i64 c.r.next,.string c.r.data,.slice v1a c.r.held.length v1c,.int .i64 c.r.fin,.bool c.r.done,.int .i64 (farW g.window c.o),.int .i64 (max c.most (farW g.window c.o)),.int .i64 c.o.mss,.int .i64 c.o.scale,.bool c.o.sack,.bool c.o.stamp,.int .i64 c.o.val,.int .i64 c.o.echo,.int .i64 3,.int .i64 0]⟩,⟨38,sndL (acked c.s g.ack).1⟩],[],[ownF w.heap.size (.slice v1a c.r.held.length v1c) 2 (c.r.held.map pceCells),slF (.slice Acrh c.r.held.length Ccrh) 2 (c.r.held.map pceCells)]⟩ ?_
 exact ⟨⟨(⟨c.t,c.state,(acked c.s g.ack).1,c.r,farW g.window c.o,max c.most (farW g.window c.o),c.o,3,0⟩),(by unfold heardMid; first | (simp [*]; done) | grind)⟩,kF 5 0 [2,3,4,5]⟩
 have h9p := of_decide_eq_false h9
 refine kK ?_
 exact ⟨⟨(⟨c.t,c.state,(acked c.s g.ack).1,c.r,farW g.window c.o,max c.most (farW g.window c.o),c.o,0,0⟩),(by unfold heardMid; first | (simp [*]; done) | grind)⟩,kF 5 0 [2,3,4,5]⟩
 have h8p := neF h8
 refine kK ?_
 exact ⟨⟨({ c with s := (acked c.s g.ack).1,window := farW g.window c.o,most := max c.most (farW g.window c.o) }),(by unfold heardMid; first | (simp [*]; done) | grind)⟩,kF 5 0 [2,3,4,5]⟩
 have h7p := eqF h7
 refine kED [2,3,4,5,8,59] [(59,.v (.bool false))] ?_
 refine kN ?_
 refine kK ?_
 exact ⟨⟨({ c with s := (acked c.s g.ack).1,window := farW g.window c.o,most := max c.most (farW g.window c.o) }),(by unfold heardMid; first | (simp [*]; done) | grind)⟩,kF 5 0 [2,3,4,5]⟩
 refine kK ?_
 exact ⟨⟨(c),(by unfold heardMid; first | (simp [*]; done) | grind)⟩,kF 5 0 [2,3,4,5]⟩
 rintro ⟨m,hm5⟩
 try dsimp only
 try dsimp only at hm5
 have hmr : m.r = c.r := by rw [hm5]; exact (heardMid_eq c g).1
 have hm1 : m.r.held.length ≤ 1048576 := by rw [hmr]; exact hkn
 have hm2 : ∀ p ∈ m.r.held,p.text.size ≤ 1048576 := by rw [hmr]; exact hm
 have hm3 : m.r.data.size ≤ 4611686018427387904 := by rw [hmr]; exact hsz
 refine kS ?_
 refine kQ ?_
 refine kCD 2 [2,3,4,5,66] [(66,.v (.int .i64 c.state))] 67 [.int .i64 c.state,.int .i64 1,.int .i64 3] (some 67) rfl (xc_s fun ww hf => l1In_c c.state 1 3 ww ) ?_
 intro _
 refine kED [2,3,4,5,67] [] ?_
 refine kC (inB c.state 1 3) (fun h10 => ?_) (fun h10 => ?_)
 have h10i := inB_tt.1 (show inB c.state 1 3 = true from by simpa using h10)
 refine xe_region0 [true,true,true,false,true] (by kernel_rfl) (fun ρ σ => ?_)
 refine kTS [0,1,2,3,4,5,6] [74,73,71,69,4,5] 4 [(74,.v (.agg (segL g).toArray)),(73,.v (.string g.body)),(71,.v (.int .i64 g.seq)),(69,.v (.agg (rcvL c.r (.slice Acrh c.r.held.length Ccrh)).toArray)),(4,.p 2 0),(5,.p 3 0)] ?_
 refine kA [7] ?_
 refine kSC 7 34 [.agg (segL g).toArray,.int .i64 1] (some 75) rfl (xc_b fun ww hf => sHas_c g.src g.dst g.seq g.ack g.flags g.window g.o.mss g.o.scale g.o.sack g.o.stamp g.o.val g.o.echo g.body 1 ww ) ?_
 intro _
 refine kA [8] ?_
 refine kSC 8 78 [.agg (rcvL c.r (.slice Acrh c.r.held.length Ccrh)).toArray,.int .i64 g.seq,.string g.body,.bool (hasF g.flags 1)] (some 76) rfl (xc_r fun ww hw hf => ysArrived_c c.r (.slice Acrh c.r.held.length Ccrh) g.seq g.body (hasF g.flags 1) ww (hf _ m1) (by assumption) (by assumption) (by omega) (by omega) w.heap.size hw) ?_
 rintro ⟨v11a,v11c⟩
 have hz12 := arrived_sz (H := 1048576) (T := 1048576) (D := 4611686018427387904) (r := c.r) (seq := g.seq) (t := g.body) (fin := (hasF g.flags 1)) (by assumption) (by assumption) (by assumption) (by omega) (by omega) (by omega)
 obtain ⟨hz12a,hz12b,hz12c⟩ := hz12
 refine kTS [9] [77,76,4,5] 1 [(77,.p 3 10),(76,.v (.agg (rcvL (arrived c.r g.seq g.body (hasF g.flags 1)) (.slice v11a ((arrived c.r g.seq g.body (hasF g.flags 1)).held.length) v11c)).toArray)),(4,.p 2 0),(5,.p 3 0)] ?_
 refine kA [10] ?_
 refine kSS 10 3 10 (rcvL (arrived c.r g.seq g.body (hasF g.flags 1)) (.slice v11a ((arrived c.r g.seq g.body (hasF g.flags 1)).held.length) v11c)) rfl ?_
 refine kZ ?_
 refine kQ ?_
 refine kCD 1 [4,78] [(78,.v (.agg (conL { m with r := (arrived c.r g.seq g.body (hasF g.flags 1)) } (.slice v11a ((arrived c.r g.seq g.body (hasF g.flags 1)).held.length) v11c)).toArray))] 79 [.agg (conL { m with r := (arrived c.r g.seq g.body (hasF g.flags 1)) } (.slice v11a ((arrived c.r g.seq g.body (hasF g.flags 1)).held.length) v11c)).toArray] (some 79) rfl (xc_r fun ww hw hf => ysTurned_c ({ m with r := (arrived c.r g.seq g.body (hasF g.flags 1)) }) (.slice v11a ((arrived c.r g.seq g.body (hasF g.flags 1)).held.length) v11c) ww (rowF_sl (hf _ m0)) (by assumption) (by assumption) (by omega) w.heap.size hw) ?_
 rintro ⟨v13a,v13c⟩
 have hbd14 : (turned ({ m with r := (arrived c.r g.seq g.body (hasF g.flags 1)) })).r.held.length ≤ 1048576 := turned_bd _  (by omega)
 refine kEU [4] [(4,.p 2 0)] 2 ⟨44,conL (turned ({ m with r := (arrived c.r g.seq g.body (hasF g.flags 1)) })) (.slice v13a ((turned ({ m with r := (arrived c.r g.seq g.body (hasF g.flags 1)) })).r.held.length) v13c)⟩ ?_
 refine kR ?_
 have hmod : heard c g = (turned ({ m with r := (arrived c.r g.seq g.body (hasF g.flags 1)) })) := by first | (unfold heard; rw [if_pos hv5,← hm5]; unfold heardR; rw [if_pos (by assumption)]; done) | (unfold heard; rw [if_pos hv5,← hm5]; unfold heardR; rw [if_neg (by simp [*]; done),← hmr]; done) | (unfold heard; rw [if_neg hv5]; done)
 exact ⟨[.agg (conL (turned ({ m with r := (arrived c.r g.seq g.body (hasF g.flags 1)) })) (.slice v13a ((turned ({ m with r := (arrived c.r g.seq g.body (hasF g.flags 1)) })).r.held.length) v13c)).toArray],by kernel_rfl,fun w' hb hf ha => by rw [hmod]; exact xo1 ((v13a,v13c)) rfl rfl (pO (hf _ m0) hB) hb⟩
 have h10i := inB_ff.1 (show inB c.state 1 3 = false from by simpa using h10)
 refine kK ?_
 refine kQ ?_
 refine kCD 1 [4,78] [(78,.v (.agg (conL m (.slice v1a m.r.held.length v1c)).toArray))] 79 [.agg (conL m (.slice v1a m.r.held.length v1c)).toArray] (some 79) rfl (xc_r fun ww hw hf => ysTurned_c m (.slice v1a m.r.held.length v1c) ww (Own.sl (hf _ m0)) (by assumption) (by assumption) (by omega) w.heap.size hw) ?_
 rintro ⟨v15a,v15c⟩
 have hbd16 : (turned m).r.held.length ≤ 1048576 := turned_bd _  (by omega)
 refine kEU [4] [(4,.p 2 0)] 2 ⟨44,conL (turned m) (.slice v15a ((turned m).r.held.length) v15c)⟩ ?_
 refine kR ?_
 have hmod : heard c g = (turned m) := by first | (unfold heard; rw [if_pos hv5,← hm5]; unfold heardR; rw [if_pos (by assumption)]; done) | (unfold heard; rw [if_pos hv5,← hm5]; unfold heardR; rw [if_neg (by simp [*]; done),← hmr]; done) | (unfold heard; rw [if_neg hv5]; done)
 exact ⟨[.agg (conL (turned m) (.slice v15a ((turned m).r.held.length) v15c)).toArray],by kernel_rfl,fun w' hb hf ha => by rw [hmod]; exact xo1 ((v15a,v15c)) rfl rfl (pO (hf _ m0) hB) hb⟩
theorem ysReceive_c (c : Con) (c_r_heldV : Value) (g : Seg) (w : World) (hl_c_r_heldV : Sl w c_r_heldV 2 (c.r.held.map pceCells)) (hkn : c.r.held.length ≤ 1048576)(hgz : g.body.size ≤ 1048576) (hm : ∀ p ∈ c.r.held, p.text.size ≤ 1048576) (hsz : c.r.data.size ≤ 4611686018427387904) (B : Nat) (hB : B ≤ w.heap.size) : Calls Tryz.prog 8 #[.agg (conL c c_r_heldV).toArray, .agg (segL g).toArray] w fun e w' => XRs w w' e (α := (Option Addr × Nat) × (Option Addr × Nat)) (fun y => .tuple #[.agg (conL (received c g).1 (.slice y.1.1 ((received c g).1.r.held.length) y.1.2)).toArray, .slice y.2.1 ((received c g).2.1.length) y.2.2, .int .i64 ((received c g).2.2)]) (fun y => [ownF B (.slice y.1.1 ((received c g).1.r.held.length) y.1.2) 2 ((received c g).1.r.held.map pceCells), ownF B (.slice y.2.1 ((received c g).2.1.length) y.2.2) 13 ((received c g).2.1.map segCells)]) := by
 obtain ⟨Acrh,Ccrh,hvcrh⟩ := hl_c_r_heldV.form
 rw [List.length_map] at hvcrh; subst hvcrh
 have hncrh := hl_c_r_heldV.len; rw [List.length_map] at hncrh
 have hqcrh := Sl.capLe hl_c_r_heldV
 refine x_callsA (args := [.agg (conL c (.slice Acrh c.r.held.length Ccrh)).toArray,.agg (segL g).toArray]) (fn := Tryz.f8) [slF (.slice Acrh c.r.held.length Ccrh) 2 (c.r.held.map pceCells)] Tryz.func8 rfl Tryz.ntmps8 rfl (by simp only [List.mem_cons,List.not_mem_nil,or_false,forall_eq_or_imp,forall_eq]; exact ⟨rfl,hl_c_r_heldV⟩) ?_
 refine kQ ?_
 refine kEF [2,3,4] ⟨[(2,.p 0 0),(3,.p 1 0),(4,.p 2 0)],[⟨44,conL c (.slice Acrh c.r.held.length Ccrh)⟩,⟨50,segL g⟩,⟨44,conZ⟩],[],[slF (.slice Acrh c.r.held.length Ccrh) 2 (c.r.held.map pceCells)]⟩ ?_
 refine kQ ?_
 refine kCD 1 [2,3,4,13] [(13,.v (.agg (conL c (.slice Acrh c.r.held.length Ccrh)).toArray))] 33 [.agg (conL c (.slice Acrh c.r.held.length Ccrh)).toArray] (some 14) rfl (xc_r fun ww hw hf => yl19Copy_c c (.slice Acrh c.r.held.length Ccrh) ww (hf _ m0) (by assumption) w.heap.size hw) ?_
 rintro ⟨v1a,v1c⟩
 refine kEA [2,3,4,7] [(7,.p 3 0)] [⟨44,conL c (.slice v1a c.r.held.length v1c)⟩] ?_
 refine kQ ?_
 refine kHD 0 [2,3,4,7] [] rfl (hv_build (e := 50) (K := 13) (bytes := 104) [] rfl (by kernel_rfl) (by kernel_rfl) (by kernel_rfl) (by kernel_rfl) (by kernel_rfl) (rs := ([] : List Seg).map segCells) rfl) ?_
 intro g2
 refine kED [2,3,4,7,8] [(8,.v (.slice (some ⟨g2,0,none⟩) 0 0))] ?_
 refine kQ ?_
 refine kCD 2 [2,3,4,7,8,16,17] [(16,.v (.agg (conL c (.slice Acrh c.r.held.length Ccrh)).toArray)),(17,.v (.agg (segL g).toArray))] 29 [.agg (conL c (.slice Acrh c.r.held.length Ccrh)).toArray,.agg (segL g).toArray] (some 18) rfl (xc_b fun ww hf => ysVerdict_c c (.slice Acrh c.r.held.length Ccrh) g ww (hf _ m2) (by omega) (by assumption) (by omega)) ?_
 intro _
 refine kED [2,3,4,7,8,9] [(9,.v (.int .i64 (verdict c g)))] ?_
 refine kS ?_
 refine kQ ?_
 refine kED [2,3,4,7,8,9,19] [(19,.v (.int .i64 (verdict c g)))] ?_
 refine xw_block ?_
 refine kQ ?_
 refine kED [2,3,4,7,8,9,19,20] [(20,.v (.bool ((verdict c g) == 1)))] ?_
 refine kC ((verdict c g) == 1) (fun h3 => ?_) (fun h3 => ?_)
 have h3p := eqT h3
 refine kQ ?_
 refine kEU [4,5,6] [(5,.v (.slice (some ⟨g2,0,none⟩) 0 0)),(6,.v (.int .i64 (verdict c g)))] 2 ⟨44,conL c (.slice v1a c.r.held.length v1c)⟩ ?_
 refine kR ?_
 have hmod : received c g = (c,([] : List Seg),(verdict c g)) := by first | (simp [received,answered,ackOf, *]; done) | grind [received,answered,ackOf]
 exact ⟨[.agg (conL c (.slice v1a c.r.held.length v1c)).toArray,.slice (some ⟨g2,0,none⟩) 0 0,.int .i64 (verdict c g)],by kernel_rfl,fun w' hb hf ha => by rw [hmod]; exact xo2 ((v1a,v1c),(((some ⟨g2,0,none⟩) : Option Addr),0)) rfl rfl (pO (hf _ m1) hB) (pR (hf _ m0) hB) (Apart.sub2 ha (i := 1) (j := 0) rfl rfl (by decide) rfl (fun b h => h) (fun b h => rowF_blk h)) hb⟩
 have h3p := eqF h3
 refine kQ ?_
 refine kED [2,3,4,7,8,9,19,25] [(25,.v (.bool ((verdict c g) == 2)))] ?_
 refine kC ((verdict c g) == 2) (fun h4 => ?_) (fun h4 => ?_)
 have h4p := eqT h4
 refine kQ ?_
 refine kEU [4,7,8,9] [] 3 ⟨44,conL { c with state := 8 } (.slice v1a c.r.held.length v1c)⟩ ?_
 refine kQ ?_
 refine kEF [4,7,8,9] ⟨[(4,.p 2 0),(7,.p 3 0),(8,.v (.slice (some ⟨g2,0,none⟩) 0 0)),(9,.v (.int .i64 (verdict c g)))],[⟨44,conL c (.slice Acrh c.r.held.length Ccrh)⟩,⟨50,segL g⟩,⟨44,conZ⟩,⟨44,conL { c with state := 8,timer := 0 } (.slice v1a c.r.held.length v1c)⟩],[],[rowF w.heap.size 50 13 (.slice (some ⟨g2,0,none⟩) 0 0) (([] : List Seg).map segCells),ownF w.heap.size (.slice v1a c.r.held.length v1c) 2 (c.r.held.map pceCells),slF (.slice Acrh c.r.held.length Ccrh) 2 (c.r.held.map pceCells)]⟩ ?_
 refine kQ ?_
 refine kEU [4,7,8,9] [] 3 ⟨44,conL { c with state := 8,timer := 0,tries := 0 } (.slice v1a c.r.held.length v1c)⟩ ?_
 refine kQ ?_
 refine kEU [4,5,6] [(5,.v (.slice (some ⟨g2,0,none⟩) 0 0)),(6,.v (.int .i64 (verdict c g)))] 2 ⟨44,conL { c with state := 8,timer := 0,tries := 0 } (.slice v1a c.r.held.length v1c)⟩ ?_
 refine kR ?_
 have hmod : received c g = (({ c with state := 8,timer := 0,tries := 0 }),([] : List Seg),(verdict c g)) := by first | (simp [received,answered,ackOf, *]; done) | grind [received,answered,ackOf]
 exact ⟨[.agg (conL { c with state := 8,timer := 0,tries := 0 } (.slice v1a c.r.held.length v1c)).toArray,.slice (some ⟨g2,0,none⟩) 0 0,.int .i64 (verdict c g)],by kernel_rfl,fun w' hb hf ha => by rw [hmod]; exact xo2 ((v1a,v1c),(((some ⟨g2,0,none⟩) : Option Addr),0)) rfl rfl (pO (hf _ m1) hB) (pR (hf _ m0) hB) (Apart.sub2 ha (i := 1) (j := 0) rfl rfl (by decide) rfl (fun b h => h) (fun b h => rowF_blk h)) hb⟩
 have h4p := eqF h4
 refine kS ?_
 refine kQ ?_
 refine kED [2,3,4,7,8,9,19,33] [(33,.v (.bool ((verdict c g) == 3)))] ?_
 refine kC ((verdict c g) == 3) (fun h5 => ?_) (fun h5 => ?_)
 have h5p := eqT h5
 refine kK ?_
 refine kC ((verdict c g) == 3) (fun h6 => ?_) (fun h6 => ?_)
 have h6p := eqT h6
 refine kS ?_
 refine xw_joinF (α := {zz : Int // (fun (tm : Int) => tm = if verdict c g = 4 ∧ c.state = 7 ∧ hasF g.flags 1 = true then 4 else c.timer) zz}) (fun zz => (fun (tm : Int) => (⟨[(2,.p 0 0),(4,.p 2 0),(7,.p 3 0),(9,.v (.int .i64 (verdict c g)))],[⟨44,conL c (.slice Acrh c.r.held.length Ccrh)⟩,⟨50,segL g⟩,⟨44,conZ⟩,⟨44,conL { c with timer := tm } (.slice v1a c.r.held.length v1c)⟩],[],[rowF w.heap.size 50 13 (.slice (some ⟨g2,0,none⟩) 0 0) (([] : List Seg).map segCells),ownF w.heap.size (.slice v1a c.r.held.length v1c) 2 (c.r.held.map pceCells),slF (.slice Acrh c.r.held.length Ccrh) 2 (c.r.held.map pceCells)]⟩ : St)) zz.1) ?_ ?_
 refine kQ ?_
 refine kRS 3 [2,3,4,7,9,38] [(2,.p 0 0),(3,.p 1 0),(4,.p 2 0),(7,.p 3 0),(9,.v (.int .i64 (verdict c g))),(38,.v (.bool ((verdict c g) == 4)))] ?_
 refine kP 38 ((verdict c g) == 4) (fun h7 => ?_) (fun h7 => ?_)
 have h7p := eqT h7
 exfalso; omega
 have h7p := eqF h7
 refine kED [2,4,7,9,46] [(46,.v (.bool false))] ?_
 refine kN ?_
 refine kK ?_
 exact ⟨⟨(c.timer),(by first | (rw [if_neg (by rintro ⟨q1,q2,q3⟩; omega)]; done) | (rw [if_neg (by rintro ⟨q1,q2,q3⟩; simp_all; done)]; done) | (rw [if_pos ⟨by omega,by omega,by assumption⟩]; done))⟩,kF 4 0 [2,4,7,9]⟩
 rintro ⟨tm,htm⟩
 try dsimp only
 try dsimp only at htm
 refine kS ?_
 refine xw_joinE (α := Nat) (fun y => (fun (g9 : Nat) => (⟨[(4,.p 2 0),(5,.v (.slice (some ⟨g9,0,none⟩) 1 1)),(6,.v (.int .i64 (verdict c g)))],[⟨44,conL c (.slice Acrh c.r.held.length Ccrh)⟩,⟨50,segL g⟩,⟨44,conL { c with timer := tm } (.slice v1a c.r.held.length v1c)⟩,⟨44,conL { c with timer := tm } (.slice v1a c.r.held.length v1c)⟩],[],[rowF w.heap.size 50 13 (.slice (some ⟨g9,0,none⟩) 1 1) (([⟨c.t.my,c.t.port,nextOf c.s,c.r.next,16,windowOf c.r,⟨0,(-1),false,false,0,0⟩,(⟨#[]⟩ : ByteArray)⟩] : List Seg).map segCells),rowF w.heap.size 50 13 (.slice (some ⟨g2,0,none⟩) 0 0) (([] : List Seg).map segCells),ownF w.heap.size (.slice v1a c.r.held.length v1c) 2 (c.r.held.map pceCells),slF (.slice Acrh c.r.held.length Ccrh) 2 (c.r.held.map pceCells)]⟩ : St)) y) ?_ ?_
 refine xe_region0 [true,true,false,true] (by kernel_rfl) (fun ρ σ => ?_)
 refine kTS [0,1,4] [52,49,48,4] 5 [(52,.v (.int .i64 (verdict c g))),(49,.v (.agg (conL c (.slice Acrh c.r.held.length Ccrh)).toArray)),(48,.v (.agg (conL { c with timer := tm } (.slice v1a c.r.held.length v1c)).toArray)),(4,.p 2 0)] ?_
 refine kA [2] ?_
 refine kSC 2 35 [.agg (conL c (.slice Acrh c.r.held.length Ccrh)).toArray] (some 50) rfl (xc_b fun ww hf => sAckOf_c c.t.ip c.t.port c.t.my c.state c.s.una c.s.data c.s.sent c.s.fin c.s.finSent c.s.done c.r.next c.r.data c.r.held (.slice Acrh c.r.held.length Ccrh) c.r.fin c.r.done c.window c.most c.o.mss c.o.scale c.o.sack c.o.stamp c.o.val c.o.echo c.timer c.tries ww (by omega)) ?_
 intro _
 refine kA [3,5] ⟨?_,?_⟩
 refine kSH 3 rfl (under_t (under_t (under_f rfl (under_t under_nil)))) (hv_build (e := 50) (K := 13) (bytes := 104) [.agg #[.int .i64 c.t.my,.int .i64 c.t.port,.int .i64 (nextOf c.s),.int .i64 c.r.next,.int .i64 16,.int .i64 (windowOf c.r),.int .i64 0,.int .i64 (-1),.bool false,.bool false,.int .i64 0,.int .i64 0,.string (⟨#[]⟩ : ByteArray)]] rfl (by kernel_rfl) (by kernel_rfl) (by kernel_rfl) (by kernel_rfl) (by kernel_rfl) (rs := ([⟨c.t.my,c.t.port,nextOf c.s,c.r.next,16,windowOf c.r,⟨0,(-1),false,false,0,0⟩,(⟨#[]⟩ : ByteArray)⟩] : List Seg).map segCells) rfl) ?_
 intro g9
 refine kA [5] ?_
 refine kSS 5 2 0 (conL { c with timer := tm } (.slice v1a c.r.held.length v1c)) rfl ?_
 refine kTD [6,7] [6,5,4] 0 [(6,.v (.int .i64 (verdict c g))),(5,.v (.slice (some ⟨g9,0,none⟩) 1 1))] ?_
 refine kZ ?_
 exact ⟨(g9),kF 4 0 [4,5,6]⟩
 refine kSS 5 2 0 (conL { c with timer := tm } (.slice v1a c.r.held.length v1c)) rfl ?_
 refine kA [3] ?_
 refine kSH 3 rfl (under_t (under_t (under_f rfl (under_t under_nil)))) (hv_build (e := 50) (K := 13) (bytes := 104) [.agg #[.int .i64 c.t.my,.int .i64 c.t.port,.int .i64 (nextOf c.s),.int .i64 c.r.next,.int .i64 16,.int .i64 (windowOf c.r),.int .i64 0,.int .i64 (-1),.bool false,.bool false,.int .i64 0,.int .i64 0,.string (⟨#[]⟩ : ByteArray)]] rfl (by kernel_rfl) (by kernel_rfl) (by kernel_rfl) (by kernel_rfl) (by kernel_rfl) (rs := ([⟨c.t.my,c.t.port,nextOf c.s,c.r.next,16,windowOf c.r,⟨0,(-1),false,false,0,0⟩,(⟨#[]⟩ : ByteArray)⟩] : List Seg).map segCells) rfl) ?_
 intro g11
 refine kTD [6,7] [6,5,4] 0 [(6,.v (.int .i64 (verdict c g))),(5,.v (.slice (some ⟨g11,0,none⟩) 1 1))] ?_
 refine kZ ?_
 exact ⟨(g11),kF 4 0 [4,5,6]⟩
 intro g9
 refine kR ?_
 have hmod : received c g = (({ c with timer := tm }),([⟨c.t.my,c.t.port,nextOf c.s,c.r.next,16,windowOf c.r,⟨0,(-1),false,false,0,0⟩,(⟨#[]⟩ : ByteArray)⟩] : List Seg),(verdict c g)) := by first | (have hv4 : verdict c g = 4 := (by assumption); exact (received_ack hv4 htm).trans (by rw [hv4]; first | done | rfl)) | (have hv3 : verdict c g = 3 := (by assumption); exact (received_chal hv3 htm).trans (by rw [hv3]; first | done | rfl))
 exact ⟨[.agg (conL { c with timer := tm } (.slice v1a c.r.held.length v1c)).toArray,.slice (some ⟨g9,0,none⟩) 1 1,.int .i64 (verdict c g)],by kernel_rfl,fun w' hb hf ha => by rw [hmod]; exact xo2 ((v1a,v1c),(((some ⟨g9,0,none⟩) : Option Addr),1)) rfl rfl (pO (hf _ m2) hB) (pR (hf _ m0) hB) (Apart.sub2 ha (i := 2) (j := 0) rfl rfl (by decide) rfl (fun b h => h) (fun b h => rowF_blk h)) hb⟩
 have h6p := eqF h6
 refine kK ?_
 refine kQ ?_
 refine kCS 2 [3,4,7,8,9,53,54] [(3,.p 1 0),(4,.p 2 0),(7,.p 3 0),(8,.v (.slice (some ⟨g2,0,none⟩) 0 0)),(9,.v (.int .i64 (verdict c g))),(53,.v (.agg (conL c (.slice Acrh c.r.held.length Ccrh)).toArray)),(54,.v (.agg (segL g).toArray))] 28 [.agg (conL c (.slice Acrh c.r.held.length Ccrh)).toArray,.agg (segL g).toArray] (some 55) rfl (xc_r fun ww hw hf => ysHeard_c c (.slice Acrh c.r.held.length Ccrh) g ww (hf _ m2) (by assumption) (by omega) (by assumption) (by omega) w.heap.size hw) ?_
 rintro ⟨v12a,v12c⟩
 have hv5 : verdict c g = 5 := by have := verdict_rng c g; omega
 have hhw := heard_w hv5
 have hz13 := heard_sz (H := 1048576) (T := 1048576) (D := 4611686018427387904) (c := c) (g := g) (by assumption) (by assumption) (by assumption) (by omega) (by omega) (by omega)
 obtain ⟨hz13a,hz13b,hz13c⟩ := hz13
 refine kEU [3,4,7,8,9] [] 3 ⟨44,conL (heard c g) (.slice v12a ((heard c g).r.held.length) v12c)⟩ ?_
 refine kS ?_
 refine kQ ?_
 refine kED [3,4,7,8,9,58] [(58,.v (.bool (((heard c g).state) == 8)))] ?_
 refine kC (((heard c g).state) == 8) (fun h14 => ?_) (fun h14 => ?_)
 have h14p := eqT h14
 refine kQ ?_
 refine kEU [4,5,6] [(5,.v (.slice (some ⟨g2,0,none⟩) 0 0)),(6,.v (.int .i64 (verdict c g)))] 2 ⟨44,conL (heard c g) (.slice v12a ((heard c g).r.held.length) v12c)⟩ ?_
 refine kR ?_
 have hmod : received c g = ((heard c g),([] : List Seg),(verdict c g)) := by first | (simp [received,answered,ackOf, *]; done) | grind [received,answered,ackOf]
 exact ⟨[.agg (conL (heard c g) (.slice v12a ((heard c g).r.held.length) v12c)).toArray,.slice (some ⟨g2,0,none⟩) 0 0,.int .i64 (verdict c g)],by kernel_rfl,fun w' hb hf ha => by rw [hmod]; exact xo2 ((v12a,v12c),(((some ⟨g2,0,none⟩) : Option Addr),0)) rfl rfl (pO (hf _ m0) hB) (pR (hf _ m1) hB) (Apart.sub2 ha (i := 0) (j := 1) rfl rfl (by decide) rfl (fun b h => h) (fun b h => rowF_blk h)) hb⟩
 have h14p := eqF h14
 refine kK ?_
 refine kQ ?_
 refine kCD 1 [3,4,7,9,62] [(62,.v (.agg (conL (heard c g) (.slice v12a ((heard c g).r.held.length) v12c)).toArray))] 35 [.agg (conL (heard c g) (.slice v12a ((heard c g).r.held.length) v12c)).toArray] (some 63) rfl (xc_b fun ww hf => sAckOf_c ((heard c g).t.ip) ((heard c g).t.port) ((heard c g).t.my) ((heard c g).state) ((heard c g).s.una) ((heard c g).s.data) ((heard c g).s.sent) ((heard c g).s.fin) ((heard c g).s.finSent) ((heard c g).s.done) ((heard c g).r.next) ((heard c g).r.data) ((heard c g).r.held) (.slice v12a ((heard c g).r.held.length) v12c) ((heard c g).r.fin) ((heard c g).r.done) ((heard c g).window) ((heard c g).most) ((heard c g).o.mss) ((heard c g).o.scale) ((heard c g).o.sack) ((heard c g).o.stamp) ((heard c g).o.val) ((heard c g).o.echo) ((heard c g).timer) ((heard c g).tries) ww (by omega)) ?_
 intro _
 refine kEA [3,4,7,9,10] [(10,.p 4 0)] [⟨50,[.int .i64 ((heard c g).t.my),.int .i64 ((heard c g).t.port),.int .i64 (nextOf ((heard c g).s)),.int .i64 ((heard c g).r.next),.int .i64 16,.int .i64 (windowOf ((heard c g).r)),.int .i64 0,.int .i64 (-1),.bool false,.bool false,.int .i64 0,.int .i64 0,.string (⟨#[]⟩ : ByteArray)]⟩] ?_
 refine kQ ?_
 refine kCD 3 [3,4,9,10,65,67] [(65,.v (.agg (conL (heard c g) (.slice v12a ((heard c g).r.held.length) v12c)).toArray)),(67,.v (.int .i64 ((heard c g).window)))] 36 [.agg (conL (heard c g) (.slice v12a ((heard c g).r.held.length) v12c)).toArray,.int .i64 ((heard c g).window)] (some 68) rfl (xc_r fun ww hw hf => ysPump_c (heard c g) (.slice v12a ((heard c g).r.held.length) v12c) ((heard c g).window) ww (Own.sl (hf _ m0)) (by assumption) (by assumption) (by omega) (by omega) w.heap.size hw) ?_
 rintro ⟨⟨v15a,v15c⟩,⟨v16a,v16c⟩⟩
 have hbd17 : (pump (heard c g) ((heard c g).window)).1.r.held.length ≤ 1048576 ∧ (pump (heard c g) ((heard c g).window)).2.length ≤ 49 := pump_bd _ _  (by omega)
 have hbd17a := hbd17.1; have hbd17b := hbd17.2
 refine kEA [3,4,9,10,11,12] [(11,.p 5 0),(12,.v (.slice v16a ((pump (heard c g) ((heard c g).window)).2.length) v16c))] [⟨44,conL (pump (heard c g) ((heard c g).window)).1 (.slice v15a ((pump (heard c g) ((heard c g).window)).1.r.held.length) v15c)⟩] ?_
 refine kS ?_
 refine kQ ?_
 refine kCD 1 [4,9,10,11,12,71] [(71,.v (.agg (segL g).toArray))] 37 [.agg (segL g).toArray] (some 72) rfl (xc_b fun ww hf => sSegmentLen_c g.src g.dst g.seq g.ack g.flags g.window g.o.mss g.o.scale g.o.sack g.o.stamp g.o.val g.o.echo g.body ww (by omega)) ?_
 intro _
 refine kRD 2 [4,9,10,11,12,74] [(74,.v (.bool (decide ((segLen g) > 0))))] ?_
 refine kP 74 (decide ((segLen g) > 0)) (fun h18 => ?_) (fun h18 => ?_)
 have h18p := of_decide_eq_true h18
 refine kED [4,9,10,11,12,78] [(78,.v (.bool ((((pump (heard c g) ((heard c g).window)).2.length : Nat) : Int) == 0)))] ?_
 refine kC ((((pump (heard c g) ((heard c g).window)).2.length : Nat) : Int) == 0) (fun h19 => ?_) (fun h19 => ?_)
 have h19p := eqT h19
 refine kG ?_
 refine kHD 2 [4,9,11,12,79,80] [(79,.v (.slice v16a ((pump (heard c g) ((heard c g).window)).2.length) v16c)),(80,.v (.agg #[.int .i64 ((heard c g).t.my),.int .i64 ((heard c g).t.port),.int .i64 (nextOf ((heard c g).s)),.int .i64 ((heard c g).r.next),.int .i64 16,.int .i64 (windowOf ((heard c g).r)),.int .i64 0,.int .i64 (-1),.bool false,.bool false,.int .i64 0,.int .i64 0,.string (⟨#[]⟩ : ByteArray)]))] rfl (hv_build (e := 50) (K := 13) (bytes := 104) [.agg #[.int .i64 ((heard c g).t.my),.int .i64 ((heard c g).t.port),.int .i64 (nextOf ((heard c g).s)),.int .i64 ((heard c g).r.next),.int .i64 16,.int .i64 (windowOf ((heard c g).r)),.int .i64 0,.int .i64 (-1),.bool false,.bool false,.int .i64 0,.int .i64 0,.string (⟨#[]⟩ : ByteArray)]] rfl (by kernel_rfl) (by kernel_rfl) (by kernel_rfl) (by kernel_rfl) (by kernel_rfl) (rs := ([⟨(heard c g).t.my,(heard c g).t.port,nextOf ((heard c g).s),(heard c g).r.next,16,windowOf ((heard c g).r),⟨0,(-1),false,false,0,0⟩,(⟨#[]⟩ : ByteArray)⟩] : List Seg).map segCells) rfl) ?_
 intro g20
 refine kHS 0 [4,9,11,12,79,81] [(4,.p 2 0),(9,.v (.int .i64 (verdict c g))),(11,.p 5 0),(12,.v (.slice v16a ((pump (heard c g) ((heard c g).window)).2.length) v16c)),(79,.v (.slice v16a ((pump (heard c g) ((heard c g).window)).2.length) v16c)),(81,.v (.slice (some ⟨g20,0,none⟩) 1 1))] rfl (hv_append (e := 50) (K := 13) (bytes := 104) (i := 2) (q := ((pump (heard c g) ((heard c g).window)).2 ++ ([⟨(heard c g).t.my,(heard c g).t.port,nextOf ((heard c g).s),(heard c g).r.next,16,windowOf ((heard c g).r),⟨0,(-1),false,false,0,0⟩,(⟨#[]⟩ : ByteArray)⟩] : List Seg)).length) (new := ([⟨(heard c g).t.my,(heard c g).t.port,nextOf ((heard c g).s),(heard c g).r.next,16,windowOf ((heard c g).r),⟨0,(-1),false,false,0,0⟩,(⟨#[]⟩ : ByteArray)⟩] : List Seg).map segCells) (rs' := ((pump (heard c g) ((heard c g).window)).2 ++ ([⟨(heard c g).t.my,(heard c g).t.port,nextOf ((heard c g).s),(heard c g).r.next,16,windowOf ((heard c g).r),⟨0,(-1),false,false,0,0⟩,(⟨#[]⟩ : ByteArray)⟩] : List Seg)).map segCells) rfl rfl rfl rfl (by kernel_rfl) (by kernel_rfl) (by kernel_rfl) rfl (by simp) (by rw [List.map_append]) (by simp) (fun ww hf => (rowF_sl (hf (rowF w.heap.size 50 13 (.slice (some ⟨g20,0,none⟩) 1 1) (([⟨(heard c g).t.my,(heard c g).t.port,nextOf ((heard c g).s),(heard c g).r.next,16,windowOf ((heard c g).r),⟨0,(-1),false,false,0,0⟩,(⟨#[]⟩ : ByteArray)⟩] : List Seg).map segCells)) (by simp)))) (by intro r hr; obtain ⟨x,hx,rfl⟩ := List.mem_map.1 hr; exact ⟨rfl,by simp [segCells,Value.oneCell']⟩) (by (try simp only [List.length_map,List.length_append,List.length_cons,List.length_nil,List.length_take,List.length_drop,maxLen]); omega) (by (try simp only [List.length_map,List.length_append,List.length_cons,List.length_nil,List.length_take,List.length_drop,maxLen]); omega)) ?_
 rintro ⟨v21a,v21c⟩
 refine kED [4,9,11,12] [(12,.v (.slice v21a (((pump (heard c g) ((heard c g).window)).2 ++ ([⟨(heard c g).t.my,(heard c g).t.port,nextOf ((heard c g).s),(heard c g).r.next,16,windowOf ((heard c g).r),⟨0,(-1),false,false,0,0⟩,(⟨#[]⟩ : ByteArray)⟩] : List Seg)).length) v21c))] ?_
 refine kQ ?_
 refine kEU [4,5,6] [(5,.v (.slice v21a (((pump (heard c g) ((heard c g).window)).2 ++ ([⟨(heard c g).t.my,(heard c g).t.port,nextOf ((heard c g).s),(heard c g).r.next,16,windowOf ((heard c g).r),⟨0,(-1),false,false,0,0⟩,(⟨#[]⟩ : ByteArray)⟩] : List Seg)).length) v21c)),(6,.v (.int .i64 (verdict c g)))] 2 ⟨44,conL (pump (heard c g) ((heard c g).window)).1 (.slice v15a ((pump (heard c g) ((heard c g).window)).1.r.held.length) v15c)⟩ ?_
 refine kR ?_
 have hmod : received c g = (((pump (heard c g) ((heard c g).window)).1),((pump (heard c g) ((heard c g).window)).2 ++ ([⟨(heard c g).t.my,(heard c g).t.port,nextOf ((heard c g).s),(heard c g).r.next,16,windowOf ((heard c g).r),⟨0,(-1),false,false,0,0⟩,(⟨#[]⟩ : ByteArray)⟩] : List Seg)),(verdict c g)) := by first | (simp [received,answered,ackOf, *]; done) | grind [received,answered,ackOf]
 exact ⟨[.agg (conL (pump (heard c g) ((heard c g).window)).1 (.slice v15a ((pump (heard c g) ((heard c g).window)).1.r.held.length) v15c)).toArray,.slice v21a (((pump (heard c g) ((heard c g).window)).2 ++ ([⟨(heard c g).t.my,(heard c g).t.port,nextOf ((heard c g).s),(heard c g).r.next,16,windowOf ((heard c g).r),⟨0,(-1),false,false,0,0⟩,(⟨#[]⟩ : ByteArray)⟩] : List Seg)).length) v21c,.int .i64 (verdict c g)],by kernel_rfl,fun w' hb hf ha => by rw [hmod]; exact xo2 ((v15a,v15c),(v21a,v21c)) rfl rfl (pO (hf _ m2) hB) (pR (hf _ m0) hB) (Apart.sub2 ha (i := 2) (j := 0) rfl rfl (by decide) rfl (fun b h => h) (fun b h => rowF_blk h)) hb⟩
 have h19p := eqF h19
 refine kK ?_
 refine kQ ?_
 refine kEU [4,5,6] [(5,.v (.slice v16a ((pump (heard c g) ((heard c g).window)).2.length) v16c)),(6,.v (.int .i64 (verdict c g)))] 2 ⟨44,conL (pump (heard c g) ((heard c g).window)).1 (.slice v15a ((pump (heard c g) ((heard c g).window)).1.r.held.length) v15c)⟩ ?_
 refine kR ?_
 have hmod : received c g = (((pump (heard c g) ((heard c g).window)).1),((pump (heard c g) ((heard c g).window)).2),(verdict c g)) := by first | (simp [received,answered,ackOf, *]; done) | grind [received,answered,ackOf]
 exact ⟨[.agg (conL (pump (heard c g) ((heard c g).window)).1 (.slice v15a ((pump (heard c g) ((heard c g).window)).1.r.held.length) v15c)).toArray,.slice v16a ((pump (heard c g) ((heard c g).window)).2.length) v16c,.int .i64 (verdict c g)],by kernel_rfl,fun w' hb hf ha => by rw [hmod]; exact xo2 ((v15a,v15c),(v16a,v16c)) rfl rfl (pO (hf _ m0) hB) (pR (hf _ m1) hB) (Apart.sub2 ha (i := 0) (j := 1) rfl rfl (by decide) rfl (fun b h => h) (fun b h => rowF_blk h)) hb⟩
 have h18p := of_decide_eq_false h18
 refine kED [4,9,10,11,12,78] [(78,.v (.bool false))] ?_
 refine kN ?_
 refine kK ?_
 refine kQ ?_
 refine kEU [4,5,6] [(5,.v (.slice v16a ((pump (heard c g) ((heard c g).window)).2.length) v16c)),(6,.v (.int .i64 (verdict c g)))] 2 ⟨44,conL (pump (heard c g) ((heard c g).window)).1 (.slice v15a ((pump (heard c g) ((heard c g).window)).1.r.held.length) v15c)⟩ ?_
 refine kR ?_
 have hmod : received c g = (((pump (heard c g) ((heard c g).window)).1),((pump (heard c g) ((heard c g).window)).2),(verdict c g)) := by first | (simp [received,answered,ackOf, *]; done) | grind [received,answered,ackOf]
 exact ⟨[.agg (conL (pump (heard c g) ((heard c g).window)).1 (.slice v15a ((pump (heard c g) ((heard c g).window)).1.r.held.length) v15c)).toArray,.slice v16a ((pump (heard c g) ((heard c g).window)).2.length) v16c,.int .i64 (verdict c g)],by kernel_rfl,fun w' hb hf ha => by rw [hmod]; exact xo2 ((v15a,v15c),(v16a,v16c)) rfl rfl (pO (hf _ m0) hB) (pR (hf _ m1) hB) (Apart.sub2 ha (i := 0) (j := 1) rfl rfl (by decide) rfl (fun b h => h) (fun b h => rowF_blk h)) hb⟩
 have h5p := eqF h5
 refine kG ?_
 refine kES [2,3,4,7,8,9,33] [(2,.p 0 0),(3,.p 1 0),(4,.p 2 0),(7,.p 3 0),(8,.v (.slice (some ⟨g2,0,none⟩) 0 0)),(9,.v (.int .i64 (verdict c g))),(33,.v (.bool ((verdict c g) == 4)))] ?_
 refine kC ((verdict c g) == 4) (fun h22 => ?_) (fun h22 => ?_)
 have h22p := eqT h22
 refine kS ?_
 refine xw_joinF (α := {zz : Int // (fun (tm : Int) => tm = if verdict c g = 4 ∧ c.state = 7 ∧ hasF g.flags 1 = true then 4 else c.timer) zz}) (fun zz => (fun (tm : Int) => (⟨[(2,.p 0 0),(4,.p 2 0),(7,.p 3 0),(9,.v (.int .i64 (verdict c g)))],[⟨44,conL c (.slice Acrh c.r.held.length Ccrh)⟩,⟨50,segL g⟩,⟨44,conZ⟩,⟨44,conL { c with timer := tm } (.slice v1a c.r.held.length v1c)⟩],[],[rowF w.heap.size 50 13 (.slice (some ⟨g2,0,none⟩) 0 0) (([] : List Seg).map segCells),ownF w.heap.size (.slice v1a c.r.held.length v1c) 2 (c.r.held.map pceCells),slF (.slice Acrh c.r.held.length Ccrh) 2 (c.r.held.map pceCells)]⟩ : St)) zz.1) ?_ ?_
 refine kQ ?_
 refine kRD 3 [2,3,4,7,9,38] [(38,.v (.bool ((verdict c g) == 4)))] ?_
 refine kP 38 ((verdict c g) == 4) (fun h23 => ?_) (fun h23 => ?_)
 have h23p := eqT h23
 refine kRD 5 [2,3,4,7,9,43] [(43,.v (.bool (c.state == 7)))] ?_
 refine kP 43 (c.state == 7) (fun h24 => ?_) (fun h24 => ?_)
 have h24p := eqT h24
 refine kCD 1 [2,4,7,9,43,44] [(43,.v (.bool true)),(44,.v (.agg (segL g).toArray))] 34 [.agg (segL g).toArray,.int .i64 1] (some 45) rfl (xc_b fun ww hf => sHas_c g.src g.dst g.seq g.ack g.flags g.window g.o.mss g.o.scale g.o.sack g.o.stamp g.o.val g.o.echo g.body 1 ww ) ?_
 intro _
 refine kED [2,4,7,9,46] [(46,.v (.bool (hasF g.flags 1)))] ?_
 refine kC (hasF g.flags 1) (fun h25 => ?_) (fun h25 => ?_)
 refine kG ?_
 refine kEU [2,4,7,9] [] 3 ⟨44,conL { c with timer := 4 } (.slice v1a c.r.held.length v1c)⟩ ?_
 exact ⟨⟨(4),(by first | (rw [if_neg (by rintro ⟨q1,q2,q3⟩; omega)]; done) | (rw [if_neg (by rintro ⟨q1,q2,q3⟩; simp_all; done)]; done) | (rw [if_pos ⟨by omega,by omega,by assumption⟩]; done))⟩,kF 4 0 [2,4,7,9]⟩
 refine kK ?_
 exact ⟨⟨(c.timer),(by first | (rw [if_neg (by rintro ⟨q1,q2,q3⟩; omega)]; done) | (rw [if_neg (by rintro ⟨q1,q2,q3⟩; simp_all; done)]; done) | (rw [if_pos ⟨by omega,by omega,by assumption⟩]; done))⟩,kF 4 0 [2,4,7,9]⟩
 have h24p := eqF h24
 refine kED [2,4,7,9,46] [(46,.v (.bool false))] ?_
 refine kN ?_
 refine kK ?_
 exact ⟨⟨(c.timer),(by first | (rw [if_neg (by rintro ⟨q1,q2,q3⟩; omega)]; done) | (rw [if_neg (by rintro ⟨q1,q2,q3⟩; simp_all; done)]; done) | (rw [if_pos ⟨by omega,by omega,by assumption⟩]; done))⟩,kF 4 0 [2,4,7,9]⟩
 have h23p := eqF h23
 refine kED [2,4,7,9,46] [(46,.v (.bool false))] ?_
 refine kN ?_
 refine kK ?_
 exact ⟨⟨(c.timer),(by first | (rw [if_neg (by rintro ⟨q1,q2,q3⟩; omega)]; done) | (rw [if_neg (by rintro ⟨q1,q2,q3⟩; simp_all; done)]; done) | (rw [if_pos ⟨by omega,by omega,by assumption⟩]; done))⟩,kF 4 0 [2,4,7,9]⟩
 rintro ⟨tm,htm⟩
 try dsimp only
 try dsimp only at htm
 refine kS ?_
 refine xw_joinE (α := Nat) (fun y => (fun (g27 : Nat) => (⟨[(4,.p 2 0),(5,.v (.slice (some ⟨g27,0,none⟩) 1 1)),(6,.v (.int .i64 (verdict c g)))],[⟨44,conL c (.slice Acrh c.r.held.length Ccrh)⟩,⟨50,segL g⟩,⟨44,conL { c with timer := tm } (.slice v1a c.r.held.length v1c)⟩,⟨44,conL { c with timer := tm } (.slice v1a c.r.held.length v1c)⟩],[],[rowF w.heap.size 50 13 (.slice (some ⟨g27,0,none⟩) 1 1) (([⟨c.t.my,c.t.port,nextOf c.s,c.r.next,16,windowOf c.r,⟨0,(-1),false,false,0,0⟩,(⟨#[]⟩ : ByteArray)⟩] : List Seg).map segCells),rowF w.heap.size 50 13 (.slice (some ⟨g2,0,none⟩) 0 0) (([] : List Seg).map segCells),ownF w.heap.size (.slice v1a c.r.held.length v1c) 2 (c.r.held.map pceCells),slF (.slice Acrh c.r.held.length Ccrh) 2 (c.r.held.map pceCells)]⟩ : St)) y) ?_ ?_
 refine xe_region0 [true,true,false,true] (by kernel_rfl) (fun ρ σ => ?_)
 refine kTD [0,1,4] [52,49,48,4] 5 [(52,.v (.int .i64 (verdict c g))),(49,.v (.agg (conL c (.slice Acrh c.r.held.length Ccrh)).toArray)),(48,.v (.agg (conL { c with timer := tm } (.slice v1a c.r.held.length v1c)).toArray))] ?_
 refine kA [2] ?_
 refine kSC 2 35 [.agg (conL c (.slice Acrh c.r.held.length Ccrh)).toArray] (some 50) rfl (xc_b fun ww hf => sAckOf_c c.t.ip c.t.port c.t.my c.state c.s.una c.s.data c.s.sent c.s.fin c.s.finSent c.s.done c.r.next c.r.data c.r.held (.slice Acrh c.r.held.length Ccrh) c.r.fin c.r.done c.window c.most c.o.mss c.o.scale c.o.sack c.o.stamp c.o.val c.o.echo c.timer c.tries ww (by omega)) ?_
 intro _
 refine kA [3,5] ⟨?_,?_⟩
 refine kSH 3 rfl (under_t (under_t (under_f rfl (under_t under_nil)))) (hv_build (e := 50) (K := 13) (bytes := 104) [.agg #[.int .i64 c.t.my,.int .i64 c.t.port,.int .i64 (nextOf c.s),.int .i64 c.r.next,.int .i64 16,.int .i64 (windowOf c.r),.int .i64 0,.int .i64 (-1),.bool false,.bool false,.int .i64 0,.int .i64 0,.string (⟨#[]⟩ : ByteArray)]] rfl (by kernel_rfl) (by kernel_rfl) (by kernel_rfl) (by kernel_rfl) (by kernel_rfl) (rs := ([⟨c.t.my,c.t.port,nextOf c.s,c.r.next,16,windowOf c.r,⟨0,(-1),false,false,0,0⟩,(⟨#[]⟩ : ByteArray)⟩] : List Seg).map segCells) rfl) ?_
 intro g27
 refine kA [5] ?_
 refine kSS 5 2 0 (conL { c with timer := tm } (.slice v1a c.r.held.length v1c)) rfl ?_
 refine kTD [6,7] [6,5,4] 0 [(6,.v (.int .i64 (verdict c g))),(5,.v (.slice (some ⟨g27,0,none⟩) 1 1))] ?_
 refine kZ ?_
 exact ⟨(g27),kF 4 0 [4,5,6]⟩
 refine kSS 5 2 0 (conL { c with timer := tm } (.slice v1a c.r.held.length v1c)) rfl ?_
 refine kA [3] ?_
 refine kSH 3 rfl (under_t (under_t (under_f rfl (under_t under_nil)))) (hv_build (e := 50) (K := 13) (bytes := 104) [.agg #[.int .i64 c.t.my,.int .i64 c.t.port,.int .i64 (nextOf c.s),.int .i64 c.r.next,.int .i64 16,.int .i64 (windowOf c.r),.int .i64 0,.int .i64 (-1),.bool false,.bool false,.int .i64 0,.int .i64 0,.string (⟨#[]⟩ : ByteArray)]] rfl (by kernel_rfl) (by kernel_rfl) (by kernel_rfl) (by kernel_rfl) (by kernel_rfl) (rs := ([⟨c.t.my,c.t.port,nextOf c.s,c.r.next,16,windowOf c.r,⟨0,(-1),false,false,0,0⟩,(⟨#[]⟩ : ByteArray)⟩] : List Seg).map segCells) rfl) ?_
 intro g29
 refine kTD [6,7] [6,5,4] 0 [(6,.v (.int .i64 (verdict c g))),(5,.v (.slice (some ⟨g29,0,none⟩) 1 1))] ?_
 refine kZ ?_
 exact ⟨(g29),kF 4 0 [4,5,6]⟩
 intro g27
 refine kR ?_
 have hmod : received c g = (({ c with timer := tm }),([⟨c.t.my,c.t.port,nextOf c.s,c.r.next,16,windowOf c.r,⟨0,(-1),false,false,0,0⟩,(⟨#[]⟩ : ByteArray)⟩] : List Seg),(verdict c g)) := by first | (have hv4 : verdict c g = 4 := (by assumption); exact (received_ack hv4 htm).trans (by rw [hv4]; first | done | rfl)) | (have hv3 : verdict c g = 3 := (by assumption); exact (received_chal hv3 htm).trans (by rw [hv3]; first | done | rfl))
 exact ⟨[.agg (conL { c with timer := tm } (.slice v1a c.r.held.length v1c)).toArray,.slice (some ⟨g27,0,none⟩) 1 1,.int .i64 (verdict c g)],by kernel_rfl,fun w' hb hf ha => by rw [hmod]; exact xo2 ((v1a,v1c),(((some ⟨g27,0,none⟩) : Option Addr),1)) rfl rfl (pO (hf _ m2) hB) (pR (hf _ m0) hB) (Apart.sub2 ha (i := 2) (j := 0) rfl rfl (by decide) rfl (fun b h => h) (fun b h => rowF_blk h)) hb⟩
 have h22p := eqF h22
 refine kK ?_
 refine kQ ?_
 refine kCD 2 [3,4,7,8,9,53,54] [(53,.v (.agg (conL c (.slice Acrh c.r.held.length Ccrh)).toArray)),(54,.v (.agg (segL g).toArray))] 28 [.agg (conL c (.slice Acrh c.r.held.length Ccrh)).toArray,.agg (segL g).toArray] (some 55) rfl (xc_r fun ww hw hf => ysHeard_c c (.slice Acrh c.r.held.length Ccrh) g ww (hf _ m2) (by assumption) (by omega) (by assumption) (by omega) w.heap.size hw) ?_
 rintro ⟨v30a,v30c⟩
 have hv5 : verdict c g = 5 := by have := verdict_rng c g; omega
 have hhw := heard_w hv5
 have hz31 := heard_sz (H := 1048576) (T := 1048576) (D := 4611686018427387904) (c := c) (g := g) (by assumption) (by assumption) (by assumption) (by omega) (by omega) (by omega)
 obtain ⟨hz31a,hz31b,hz31c⟩ := hz31
 refine kEU [3,4,7,8,9] [] 3 ⟨44,conL (heard c g) (.slice v30a ((heard c g).r.held.length) v30c)⟩ ?_
 refine kS ?_
 refine kQ ?_
 refine kED [3,4,7,8,9,58] [(58,.v (.bool (((heard c g).state) == 8)))] ?_
 refine kC (((heard c g).state) == 8) (fun h32 => ?_) (fun h32 => ?_)
 have h32p := eqT h32
 refine kQ ?_
 refine kEU [4,5,6] [(5,.v (.slice (some ⟨g2,0,none⟩) 0 0)),(6,.v (.int .i64 (verdict c g)))] 2 ⟨44,conL (heard c g) (.slice v30a ((heard c g).r.held.length) v30c)⟩ ?_
 refine kR ?_
 have hmod : received c g = ((heard c g),([] : List Seg),(verdict c g)) := by first | (simp [received,answered,ackOf, *]; done) | grind [received,answered,ackOf]
 exact ⟨[.agg (conL (heard c g) (.slice v30a ((heard c g).r.held.length) v30c)).toArray,.slice (some ⟨g2,0,none⟩) 0 0,.int .i64 (verdict c g)],by kernel_rfl,fun w' hb hf ha => by rw [hmod]; exact xo2 ((v30a,v30c),(((some ⟨g2,0,none⟩) : Option Addr),0)) rfl rfl (pO (hf _ m0) hB) (pR (hf _ m1) hB) (Apart.sub2 ha (i := 0) (j := 1) rfl rfl (by decide) rfl (fun b h => h) (fun b h => rowF_blk h)) hb⟩
 have h32p := eqF h32
 refine kK ?_
 refine kQ ?_
 refine kCD 1 [3,4,7,9,62] [(62,.v (.agg (conL (heard c g) (.slice v30a ((heard c g).r.held.length) v30c)).toArray))] 35 [.agg (conL (heard c g) (.slice v30a ((heard c g).r.held.length) v30c)).toArray] (some 63) rfl (xc_b fun ww hf => sAckOf_c ((heard c g).t.ip) ((heard c g).t.port) ((heard c g).t.my) ((heard c g).state) ((heard c g).s.una) ((heard c g).s.data) ((heard c g).s.sent) ((heard c g).s.fin) ((heard c g).s.finSent) ((heard c g).s.done) ((heard c g).r.next) ((heard c g).r.data) ((heard c g).r.held) (.slice v30a ((heard c g).r.held.length) v30c) ((heard c g).r.fin) ((heard c g).r.done) ((heard c g).window) ((heard c g).most) ((heard c g).o.mss) ((heard c g).o.scale) ((heard c g).o.sack) ((heard c g).o.stamp) ((heard c g).o.val) ((heard c g).o.echo) ((heard c g).timer) ((heard c g).tries) ww (by omega)) ?_
 intro _
 refine kEA [3,4,7,9,10] [(10,.p 4 0)] [⟨50,[.int .i64 ((heard c g).t.my),.int .i64 ((heard c g).t.port),.int .i64 (nextOf ((heard c g).s)),.int .i64 ((heard c g).r.next),.int .i64 16,.int .i64 (windowOf ((heard c g).r)),.int .i64 0,.int .i64 (-1),.bool false,.bool false,.int .i64 0,.int .i64 0,.string (⟨#[]⟩ : ByteArray)]⟩] ?_
 refine kQ ?_
 refine kCD 3 [3,4,9,10,65,67] [(65,.v (.agg (conL (heard c g) (.slice v30a ((heard c g).r.held.length) v30c)).toArray)),(67,.v (.int .i64 ((heard c g).window)))] 36 [.agg (conL (heard c g) (.slice v30a ((heard c g).r.held.length) v30c)).toArray,.int .i64 ((heard c g).window)] (some 68) rfl (xc_r fun ww hw hf => ysPump_c (heard c g) (.slice v30a ((heard c g).r.held.length) v30c) ((heard c g).window) ww (Own.sl (hf _ m0)) (by assumption) (by assumption) (by omega) (by omega) w.heap.size hw) ?_
 rintro ⟨⟨v33a,v33c⟩,⟨v34a,v34c⟩⟩
 have hbd35 : (pump (heard c g) ((heard c g).window)).1.r.held.length ≤ 1048576 ∧ (pump (heard c g) ((heard c g).window)).2.length ≤ 49 := pump_bd _ _  (by omega)
 have hbd35a := hbd35.1; have hbd35b := hbd35.2
 refine kEA [3,4,9,10,11,12] [(11,.p 5 0),(12,.v (.slice v34a ((pump (heard c g) ((heard c g).window)).2.length) v34c))] [⟨44,conL (pump (heard c g) ((heard c g).window)).1 (.slice v33a ((pump (heard c g) ((heard c g).window)).1.r.held.length) v33c)⟩] ?_
 refine kS ?_
 refine kQ ?_
 refine kCD 1 [4,9,10,11,12,71] [(71,.v (.agg (segL g).toArray))] 37 [.agg (segL g).toArray] (some 72) rfl (xc_b fun ww hf => sSegmentLen_c g.src g.dst g.seq g.ack g.flags g.window g.o.mss g.o.scale g.o.sack g.o.stamp g.o.val g.o.echo g.body ww (by omega)) ?_
 intro _
 refine kRD 2 [4,9,10,11,12,74] [(74,.v (.bool (decide ((segLen g) > 0))))] ?_
 refine kP 74 (decide ((segLen g) > 0)) (fun h36 => ?_) (fun h36 => ?_)
 have h36p := of_decide_eq_true h36
 refine kED [4,9,10,11,12,78] [(78,.v (.bool ((((pump (heard c g) ((heard c g).window)).2.length : Nat) : Int) == 0)))] ?_
 refine kC ((((pump (heard c g) ((heard c g).window)).2.length : Nat) : Int) == 0) (fun h37 => ?_) (fun h37 => ?_)
 have h37p := eqT h37
 refine kG ?_
 refine kHS 2 [4,9,11,12,79,80] [(4,.p 2 0),(9,.v (.int .i64 (verdict c g))),(11,.p 5 0),(12,.v (.slice v34a ((pump (heard c g) ((heard c g).window)).2.length) v34c)),(79,.v (.slice v34a ((pump (heard c g) ((heard c g).window)).2.length) v34c)),(80,.v (.agg #[.int .i64 ((heard c g).t.my),.int .i64 ((heard c g).t.port),.int .i64 (nextOf ((heard c g).s)),.int .i64 ((heard c g).r.next),.int .i64 16,.int .i64 (windowOf ((heard c g).r)),.int .i64 0,.int .i64 (-1),.bool false,.bool false,.int .i64 0,.int .i64 0,.string (⟨#[]⟩ : ByteArray)]))] rfl (hv_build (e := 50) (K := 13) (bytes := 104) [.agg #[.int .i64 ((heard c g).t.my),.int .i64 ((heard c g).t.port),.int .i64 (nextOf ((heard c g).s)),.int .i64 ((heard c g).r.next),.int .i64 16,.int .i64 (windowOf ((heard c g).r)),.int .i64 0,.int .i64 (-1),.bool false,.bool false,.int .i64 0,.int .i64 0,.string (⟨#[]⟩ : ByteArray)]] rfl (by kernel_rfl) (by kernel_rfl) (by kernel_rfl) (by kernel_rfl) (by kernel_rfl) (rs := ([⟨(heard c g).t.my,(heard c g).t.port,nextOf ((heard c g).s),(heard c g).r.next,16,windowOf ((heard c g).r),⟨0,(-1),false,false,0,0⟩,(⟨#[]⟩ : ByteArray)⟩] : List Seg).map segCells) rfl) ?_
 intro g38
 refine kHD 0 [4,9,11,12,79,81] [] rfl (hv_append (e := 50) (K := 13) (bytes := 104) (i := 2) (q := ((pump (heard c g) ((heard c g).window)).2 ++ ([⟨(heard c g).t.my,(heard c g).t.port,nextOf ((heard c g).s),(heard c g).r.next,16,windowOf ((heard c g).r),⟨0,(-1),false,false,0,0⟩,(⟨#[]⟩ : ByteArray)⟩] : List Seg)).length) (new := ([⟨(heard c g).t.my,(heard c g).t.port,nextOf ((heard c g).s),(heard c g).r.next,16,windowOf ((heard c g).r),⟨0,(-1),false,false,0,0⟩,(⟨#[]⟩ : ByteArray)⟩] : List Seg).map segCells) (rs' := ((pump (heard c g) ((heard c g).window)).2 ++ ([⟨(heard c g).t.my,(heard c g).t.port,nextOf ((heard c g).s),(heard c g).r.next,16,windowOf ((heard c g).r),⟨0,(-1),false,false,0,0⟩,(⟨#[]⟩ : ByteArray)⟩] : List Seg)).map segCells) rfl rfl rfl rfl (by kernel_rfl) (by kernel_rfl) (by kernel_rfl) rfl (by simp) (by rw [List.map_append]) (by simp) (fun ww hf => (rowF_sl (hf (rowF w.heap.size 50 13 (.slice (some ⟨g38,0,none⟩) 1 1) (([⟨(heard c g).t.my,(heard c g).t.port,nextOf ((heard c g).s),(heard c g).r.next,16,windowOf ((heard c g).r),⟨0,(-1),false,false,0,0⟩,(⟨#[]⟩ : ByteArray)⟩] : List Seg).map segCells)) (by simp)))) (by intro r hr; obtain ⟨x,hx,rfl⟩ := List.mem_map.1 hr; exact ⟨rfl,by simp [segCells,Value.oneCell']⟩) (by (try simp only [List.length_map,List.length_append,List.length_cons,List.length_nil,List.length_take,List.length_drop,maxLen]); omega) (by (try simp only [List.length_map,List.length_append,List.length_cons,List.length_nil,List.length_take,List.length_drop,maxLen]); omega)) ?_
 rintro ⟨v39a,v39c⟩
 refine kED [4,9,11,12] [(12,.v (.slice v39a (((pump (heard c g) ((heard c g).window)).2 ++ ([⟨(heard c g).t.my,(heard c g).t.port,nextOf ((heard c g).s),(heard c g).r.next,16,windowOf ((heard c g).r),⟨0,(-1),false,false,0,0⟩,(⟨#[]⟩ : ByteArray)⟩] : List Seg)).length) v39c))] ?_
 refine kQ ?_
 refine kEU [4,5,6] [(5,.v (.slice v39a (((pump (heard c g) ((heard c g).window)).2 ++ ([⟨(heard c g).t.my,(heard c g).t.port,nextOf ((heard c g).s),(heard c g).r.next,16,windowOf ((heard c g).r),⟨0,(-1),false,false,0,0⟩,(⟨#[]⟩ : ByteArray)⟩] : List Seg)).length) v39c)),(6,.v (.int .i64 (verdict c g)))] 2 ⟨44,conL (pump (heard c g) ((heard c g).window)).1 (.slice v33a ((pump (heard c g) ((heard c g).window)).1.r.held.length) v33c)⟩ ?_
 refine kR ?_
 have hmod : received c g = (((pump (heard c g) ((heard c g).window)).1),((pump (heard c g) ((heard c g).window)).2 ++ ([⟨(heard c g).t.my,(heard c g).t.port,nextOf ((heard c g).s),(heard c g).r.next,16,windowOf ((heard c g).r),⟨0,(-1),false,false,0,0⟩,(⟨#[]⟩ : ByteArray)⟩] : List Seg)),(verdict c g)) := by first | (simp [received,answered,ackOf, *]; done) | grind [received,answered,ackOf]
 exact ⟨[.agg (conL (pump (heard c g) ((heard c g).window)).1 (.slice v33a ((pump (heard c g) ((heard c g).window)).1.r.held.length) v33c)).toArray,.slice v39a (((pump (heard c g) ((heard c g).window)).2 ++ ([⟨(heard c g).t.my,(heard c g).t.port,nextOf ((heard c g).s),(heard c g).r.next,16,windowOf ((heard c g).r),⟨0,(-1),false,false,0,0⟩,(⟨#[]⟩ : ByteArray)⟩] : List Seg)).length) v39c,.int .i64 (verdict c g)],by kernel_rfl,fun w' hb hf ha => by rw [hmod]; exact xo2 ((v33a,v33c),(v39a,v39c)) rfl rfl (pO (hf _ m2) hB) (pR (hf _ m0) hB) (Apart.sub2 ha (i := 2) (j := 0) rfl rfl (by decide) rfl (fun b h => h) (fun b h => rowF_blk h)) hb⟩
 have h37p := eqF h37
 refine kK ?_
 refine kQ ?_
 refine kEF [4,5,6] ⟨[(4,.p 2 0),(5,.v (.slice v34a ((pump (heard c g) ((heard c g).window)).2.length) v34c)),(6,.v (.int .i64 (verdict c g)))],[⟨44,conL c (.slice Acrh c.r.held.length Ccrh)⟩,⟨50,segL g⟩,⟨44,conL (pump (heard c g) ((heard c g).window)).1 (.slice v33a ((pump (heard c g) ((heard c g).window)).1.r.held.length) v33c)⟩,⟨44,conL (heard c g) (.slice v30a ((heard c g).r.held.length) v30c)⟩,⟨50,[.int .i64 ((heard c g).t.my),.int .i64 ((heard c g).t.port),.int .i64 (nextOf ((heard c g).s)),.int .i64 ((heard c g).r.next),.int .i64 16,.int .i64 (windowOf ((heard c g).r)),.int .i64 0,.int .i64 (-1),.bool false,.bool false,.int .i64 0,.int .i64 0,.string (⟨#[]⟩ : ByteArray)]⟩,⟨44,conL (pump (heard c g) ((heard c g).window)).1 (.slice v33a ((pump (heard c g) ((heard c g).window)).1.r.held.length) v33c)⟩],[],[ownF w.heap.size (.slice v33a ((pump (heard c g) ((heard c g).window)).1.r.held.length) v33c) 2 ((pump (heard c g) ((heard c g).window)).1.r.held.map pceCells),rowF w.heap.size 50 13 (.slice v34a ((pump (heard c g) ((heard c g).window)).2.length) v34c) ((pump (heard c g) ((heard c g).window)).2.map segCells),ownF w.heap.size (.slice v30a ((heard c g).r.held.length) v30c) 2 ((heard c g).r.held.map pceCells),rowF w.heap.size 50 13 (.slice (some ⟨g2,0,none⟩) 0 0) (([] : List Seg).map segCells),ownF w.heap.size (.slice v1a c.r.held.length v1c) 2 (c.r.held.map pceCells),slF (.slice Acrh c.r.held.length Ccrh) 2 (c.r.held.map pceCells)]⟩ ?_
 refine kR ?_
 have hmod : received c g = (((pump (heard c g) ((heard c g).window)).1),((pump (heard c g) ((heard c g).window)).2),(verdict c g)) := by first | (simp [received,answered,ackOf, *]; done) | grind [received,answered,ackOf]
 exact ⟨[.agg (conL (pump (heard c g) ((heard c g).window)).1 (.slice v33a ((pump (heard c g) ((heard c g).window)).1.r.held.length) v33c)).toArray,.slice v34a ((pump (heard c g) ((heard c g).window)).2.length) v34c,.int .i64 (verdict c g)],by kernel_rfl,fun w' hb hf ha => by rw [hmod]; exact xo2 ((v33a,v33c),(v34a,v34c)) rfl rfl (pO (hf _ m0) hB) (pR (hf _ m1) hB) (Apart.sub2 ha (i := 0) (j := 1) rfl rfl (by decide) rfl (fun b h => h) (fun b h => rowF_blk h)) hb⟩
 have h36p := of_decide_eq_false h36
 refine kED [4,9,10,11,12,78] [(78,.v (.bool false))] ?_
 refine kN ?_
 refine kK ?_
 refine kQ ?_
 refine kEF [4,5,6] ⟨[(4,.p 2 0),(5,.v (.slice v34a ((pump (heard c g) ((heard c g).window)).2.length) v34c)),(6,.v (.int .i64 (verdict c g)))],[⟨44,conL c (.slice Acrh c.r.held.length Ccrh)⟩,⟨50,segL g⟩,⟨44,conL (pump (heard c g) ((heard c g).window)).1 (.slice v33a ((pump (heard c g) ((heard c g).window)).1.r.held.length) v33c)⟩,⟨44,conL (heard c g) (.slice v30a ((heard c g).r.held.length) v30c)⟩,⟨50,[.int .i64 ((heard c g).t.my),.int .i64 ((heard c g).t.port),.int .i64 (nextOf ((heard c g).s)),.int .i64 ((heard c g).r.next),.int .i64 16,.int .i64 (windowOf ((heard c g).r)),.int .i64 0,.int .i64 (-1),.bool false,.bool false,.int .i64 0,.int .i64 0,.string (⟨#[]⟩ : ByteArray)]⟩,⟨44,conL (pump (heard c g) ((heard c g).window)).1 (.slice v33a ((pump (heard c g) ((heard c g).window)).1.r.held.length) v33c)⟩],[],[ownF w.heap.size (.slice v33a ((pump (heard c g) ((heard c g).window)).1.r.held.length) v33c) 2 ((pump (heard c g) ((heard c g).window)).1.r.held.map pceCells),rowF w.heap.size 50 13 (.slice v34a ((pump (heard c g) ((heard c g).window)).2.length) v34c) ((pump (heard c g) ((heard c g).window)).2.map segCells),ownF w.heap.size (.slice v30a ((heard c g).r.held.length) v30c) 2 ((heard c g).r.held.map pceCells),rowF w.heap.size 50 13 (.slice (some ⟨g2,0,none⟩) 0 0) (([] : List Seg).map segCells),ownF w.heap.size (.slice v1a c.r.held.length v1c) 2 (c.r.held.map pceCells),slF (.slice Acrh c.r.held.length Ccrh) 2 (c.r.held.map pceCells)]⟩ ?_
 refine kR ?_
 have hmod : received c g = (((pump (heard c g) ((heard c g).window)).1),((pump (heard c g) ((heard c g).window)).2),(verdict c g)) := by first | (simp [received,answered,ackOf, *]; done) | grind [received,answered,ackOf]
 exact ⟨[.agg (conL (pump (heard c g) ((heard c g).window)).1 (.slice v33a ((pump (heard c g) ((heard c g).window)).1.r.held.length) v33c)).toArray,.slice v34a ((pump (heard c g) ((heard c g).window)).2.length) v34c,.int .i64 (verdict c g)],by kernel_rfl,fun w' hb hf ha => by rw [hmod]; exact xo2 ((v33a,v33c),(v34a,v34c)) rfl rfl (pO (hf _ m0) hB) (pR (hf _ m1) hB) (Apart.sub2 ha (i := 0) (j := 1) rfl rfl (by decide) rfl (fun b h => h) (fun b h => rowF_blk h)) hb⟩
theorem arrStore_c (B gh gd bh bd W off : Nat) (sl : List Int) (x : Int) (w : World) (hB : B ≤ w.heap.size) (hF : (arrF B gh gd bh bd 122 57 4 5 W sl).p w) (hlen : W ≤ sl.length) (ho : off < W) (hx : 0 ≤ x ∧ x ≤ 255) : Calls Tryz.prog 116 #[.int .i64 (off : Int), .int .u8 x, .pointer (some ⟨gh, 0, none⟩), .pointer (some ⟨gd, 0, none⟩)] w fun e w' => e = .returned (.tuple #[]) ∧ (arrF B gh gd bh bd 122 57 4 5 W (stOne sl off x)).p w' ∧ Chgd (arrF B gh gd bh bd 122 57 4 5 W sl).blk w w' := by
 obtain ⟨hF4,hFa⟩ := hF
 simp only [List.mem_cons,List.not_mem_nil,or_false,forall_eq_or_imp,forall_eq] at hF4
 obtain ⟨hF1,hF2,hF3,hF5⟩ := hF4
 obtain ⟨z,hz⟩ : ∃ z,sl[off]? = some z := ⟨_,List.getElem?_eq_getElem (by omega)⟩
 refine x_callsMA (args := [.int .i64 (off : Int),.int .u8 x,.pointer (some ⟨gh,0,none⟩),.pointer (some ⟨gd,0,none⟩)]) (fn := Tryz.f116) [cellF B gh 122 [.slice (some ⟨bh,0,none⟩) W W],cellF B gd 57 [.slice (some ⟨bd,0,none⟩) W W],rowF B 4 1 (.slice (some ⟨bh,0,none⟩) W W) ((hvOf W sl).map boolRow),rowF B 5 1 (.slice (some ⟨bd,0,none⟩) W W) ((dtOf W sl).map byteRow),frF w (arrF B gh gd bh bd 122 57 4 5 W sl).blk] B Tryz.func116 rfl Tryz.ntmps116 rfl hB (by simp only [List.mem_cons,List.not_mem_nil,or_false,forall_eq_or_imp,forall_eq]; exact ⟨hF1,hF2,hF3,hF5,frF_start w _⟩) (apart_frS hFa fun g hg b hb => ⟨g,hg,hb⟩) ?_
 refine kQ ?_
 refine kOF 0 [0,1,2,3] ⟨[(0,.v (.int .i64 (off : Int))),(1,.v (.int .u8 x)),(2,.v (.pointer (some ⟨gh,0,none⟩))),(3,.v (.pointer (some ⟨gd,0,none⟩)))],[],[],[cellF B gh 122 [.slice (some ⟨bh,0,none⟩) W W],cellF B gd 57 [.slice (some ⟨bd,0,none⟩) W W],rowF B 4 1 (.slice (some ⟨bh,0,none⟩) W W) ((hvOf W sl).map boolRow),rowF B 5 1 (.slice (some ⟨bd,0,none⟩) W W) ((dtOf W sl).map byteRow),frF w (arrF B gh gd bh bd 122 57 4 5 W sl).blk]⟩ (.slice (some ⟨bh,0,none⟩) W W) rfl (fun _ _ _ ww hr => ldP_run (off := 0) (B := B) (g := gh) (T := 122) (cs := [.slice (some ⟨bh,0,none⟩) W W]) hr rfl (by kernel_rfl) (by simp) (by kernel_rfl)) ?_
 refine kOD 1 [0,1,2,3,6,7] [(7,.v (.int .i64 (off : Int)))] (.pointer (some ⟨bh,off * 1,none⟩)) rfl (fun _ _ _ ww hr => act_ix (kd := .i64) (T := 122) (e := 4) (K := 1) (g := bh) (N := W) (cap := W) off rfl hr.1 rfl rfl (by kernel_rfl) (by kernel_rfl) (by kernel_rfl) ho ww) ?_
 refine kOD 0 [0,1,2,3,8] [] (.bool (decide (0 ≤ z))) rfl (fun _ _ _ ww hr => ldR_run (po := 0) (j := off) (row := [.bool (decide (0 ≤ z))]) (rowF B 4 1 (.slice (some ⟨bh,0,none⟩) W W) ((hvOf W sl).map boolRow)) hr rfl (by kernel_rfl) (by simp) (by simp only [List.getElem?_map,hvOf_get ho hz]; rfl) (by kernel_rfl) rfl rfl rfl) ?_
 refine kED [0,1,2,3,10] [(10,.v (.bool (!(decide (0 ≤ z)))))] ?_
 refine kC (!(decide (0 ≤ z))) (fun h1 => ?_) (fun h1 => ?_)
 have h1n := not_t h1
 have hzz := of_decide_eq_false h1n
 refine kQ ?_
 refine kOD 0 [0,1,2,3] [] (.slice (some ⟨bh,0,none⟩) W W) rfl (fun _ _ _ ww hr => ldP_run (off := 0) (B := B) (g := gh) (T := 122) (cs := [.slice (some ⟨bh,0,none⟩) W W]) hr rfl (by kernel_rfl) (by simp) (by kernel_rfl)) ?_
 refine kOD 1 [0,1,3,11,12] [(12,.v (.int .i64 (off : Int)))] (.pointer (some ⟨bh,off * 1,none⟩)) rfl (fun _ _ _ ww hr => act_ix (kd := .i64) (T := 122) (e := 4) (K := 1) (g := bh) (N := W) (cap := W) off rfl hr.1 rfl rfl (by kernel_rfl) (by kernel_rfl) (by kernel_rfl) ho ww) ?_
 refine xl_hs 0 [0,1,3,13] ⟨[(0,.v (.int .i64 (off : Int))),(1,.v (.int .u8 x)),(3,.v (.pointer (some ⟨gd,0,none⟩))),(13,.v (.pointer (some ⟨bh,off * 1,none⟩)))],[],[],[cellF B gh 122 [.slice (some ⟨bh,0,none⟩) W W],cellF B gd 57 [.slice (some ⟨bd,0,none⟩) W W],rowF B 4 1 (.slice (some ⟨bh,0,none⟩) W W) ((hvOf W sl).map boolRow),rowF B 5 1 (.slice (some ⟨bd,0,none⟩) W W) ((dtOf W sl).map byteRow),frF w (arrF B gh gd bh bd 122 57 4 5 W sl).blk]⟩ (by kernel_rfl) rfl (by kernel_rfl) rfl (by kernel_rfl) (HSg.hs (hs_stR (g := bh) (B := B) (e := 4) (K := 1) (N := W) (cap := W) (rs := ((hvOf W sl).map boolRow)) (rs' := ((hvOf W sl).set off true).map boolRow) (v := (.bool true)) (i := 2) (off := off * 1) off 0 [.bool (decide (0 ≤ z))] (row' := [.bool true]) rfl rfl (by kernel_rfl) rfl (by kernel_rfl) (by kernel_rfl) (by kernel_rfl) (by kernel_rfl) (cutW_le w B) (by simp only [List.getElem?_map,hvOf_get ho hz]; rfl) (by kernel_rfl) rfl (by rw [List.map_set]; rfl))) ?_
 refine kED [0,1,3] [] ?_
 refine kG ?_
 refine kOD 0 [0,1,3] [] (.slice (some ⟨bd,0,none⟩) W W) rfl (fun _ _ _ ww hr => ldP_run (off := 0) (B := B) (g := gd) (T := 57) (cs := [.slice (some ⟨bd,0,none⟩) W W]) hr rfl (by kernel_rfl) (by simp) (by kernel_rfl)) ?_
 refine kOD 2 [14,15,16] [(15,.v (.int .i64 (off : Int))),(16,.v (.int .u8 x))] (.pointer (some ⟨bd,off * 1,none⟩)) rfl (fun _ _ _ ww hr => act_ix (kd := .i64) (T := 57) (e := 5) (K := 1) (g := bd) (N := W) (cap := W) off rfl hr.1 rfl rfl (by kernel_rfl) (by kernel_rfl) (by kernel_rfl) ho ww) ?_
 refine xl_hs 0 [16,17] ⟨[(16,.v (.int .u8 x)),(17,.v (.pointer (some ⟨bd,off * 1,none⟩)))],[],[],[rowF B 4 1 (.slice (some ⟨bh,0,none⟩) W W) (((hvOf W sl).set off true).map boolRow),cellF B gh 122 [.slice (some ⟨bh,0,none⟩) W W],cellF B gd 57 [.slice (some ⟨bd,0,none⟩) W W],rowF B 5 1 (.slice (some ⟨bd,0,none⟩) W W) ((dtOf W sl).map byteRow),frF w (arrF B gh gd bh bd 122 57 4 5 W sl).blk]⟩ (by kernel_rfl) rfl (by kernel_rfl) rfl (by kernel_rfl) (HSg.hs (hs_stR (g := bd) (B := B) (e := 5) (K := 1) (N := W) (cap := W) (rs := ((dtOf W sl).map byteRow)) (rs' := ((dtOf W sl).set off x).map byteRow) (v := (.int .u8 x)) (i := 3) (off := off * 1) off 0 [.int .u8 (max z 0)] (row' := [.int .u8 x]) rfl rfl (by kernel_rfl) rfl (by kernel_rfl) (by kernel_rfl) (by kernel_rfl) (by kernel_rfl) (cutW_le w B) (by simp only [List.getElem?_map,dtOf_get ho hz]; rfl) (by kernel_rfl) rfl (by rw [List.map_set]; rfl))) ?_
 refine kES [] [] ?_
 exact ⟨[],by kernel_rfl,fun w' hb hf ha => ⟨rfl,(by rw [stOne_free hz (by omega)]; unfold arrF; rw [← hvOf_set hx.1,← dtOf_set hx.1]; exact allF_pick [2,3,1,0] hf ha (by kernel_rfl) (by kernel_rfl)),frF_chgd (hf (frF w (arrF B gh gd bh bd 122 57 4 5 W sl).blk) (by simp)) hb rfl rfl rfl⟩⟩
 have h1n := not_f h1
 have hzz := of_decide_eq_true h1n
 refine kK ?_
 exact ⟨[],by kernel_rfl,fun w' hb hf ha => ⟨rfl,(by rw [stOne_full hz (by omega)]; exact allF_pick [0,1,2,3] hf ha (by kernel_rfl) (by kernel_rfl)),frF_chgd (hf (frF w (arrF B gh gd bh bd 122 57 4 5 W sl).blk) (by simp)) hb rfl rfl rfl⟩⟩
theorem yIndexB_c (l : List Bool) (lV : Value) (b : Bool) (w : World) (hl_lV : Sl w lV 1 (l.map boolRow))  : Calls Tryz.prog 145 #[lV, .bool b] w fun e w' => e = .returned (.int .i64 (idxL b l 0)) ∧ Below w.heap.size w w' := by
 obtain ⟨Al,Cl,hvl⟩ := hl_lV.form
 rw [List.length_map] at hvl; subst hvl
 have hnl := hl_lV.len; rw [List.length_map] at hnl
 have hql := Sl.capLe hl_lV
 refine x_calls (args := [.slice Al l.length Cl,.bool b]) (fn := Tryz.f145) [slF (.slice Al l.length Cl) 1 (l.map boolRow)] Tryz.func145 rfl Tryz.ntmps145 rfl (by simp only [List.mem_cons,List.not_mem_nil,or_false,forall_eq_or_imp,forall_eq]; exact ⟨rfl,hl_lV⟩) ?_
 refine kQ ?_
 refine kEF [0,1] ⟨[(0,.v (.slice Al l.length Cl)),(1,.v (.bool b))],[],[],[slF (.slice Al l.length Cl) 1 (l.map boolRow)]⟩ ?_
 refine kS ?_
 refine kQ ?_
 refine kED [0,1,7,8] [(7,.v (.int .i64 ((l.length : Nat) : Int))),(8,.v (.int .i64 0))] ?_
 refine xw_block ?_
 refine xw_loopW (α := {x : Nat // (fun (k : Nat) => k ≤ l.length ∧ idxL b l 0 = idxL b (l.drop k) k) x}) (fun x => (fun (k : Nat) => (⟨[(0,.v (.slice Al l.length Cl)),(1,.v (.bool b)),(7,.v (.int .i64 ((l.length : Nat) : Int))),(8,.v (.int .i64 (k : Int)))],[],[],[slF (.slice Al l.length Cl) 1 (l.map boolRow)]⟩ : St)) x.1) (fun x => l.length - x.1) ⟨(0),⟨Nat.zero_le _,rfl⟩⟩ (kF 0 0 [0,1,7,8]) ?_
 rintro ⟨k,hk,HK⟩
 try dsimp only
 try dsimp only at hk HK
 refine kQ ?_
 refine kED [0,1,7,8,9] [(9,.v (.bool (decide ((k : Int) < ((l.length : Nat) : Int)))))] ?_
 refine kS ?_
 refine kC (decide ((k : Int) < ((l.length : Nat) : Int))) (fun h1 => ?_) (fun h1 => ?_)
 have h1p := of_decide_eq_true h1
 have hlt : k < l.length := by simpa using h1
 obtain ⟨x,hx⟩ : ∃ x,l[k]? = some x := ⟨_,List.getElem?_eq_getElem hlt⟩
 refine kK ?_
 refine kS ?_
 refine xw_block ?_
 refine kQ ?_
 refine kED [0,1,5,7,8] [(5,.v (.int .i64 (k : Int)))] ?_
 refine kQ ?_
 refine xl_indexD (kd := .i64) (T := 122) (e := 4) (K := 1) 3 [0,1,5,7,8,11,12,13] [(11,.v (.bool b)),(12,.v (.slice Al l.length Cl)),(13,.v (.int .i64 (k : Int)))] k [.bool x] (slF (.slice Al l.length Cl) 1 (l.map boolRow)) (by kernel_rfl) rfl (by kernel_rfl) rfl rfl (by kernel_rfl) (by kernel_rfl) (by kernel_rfl) (by kernel_rfl) hlt (by simp) (fun w h => h) (fun b h => h) (by simp only [List.getElem?_map,hx]; rfl) ?_
 refine kED [0,1,5,7,8,16] [(16,.v (.bool (b == x)))] ?_
 refine kC (b == x) (fun h2 => ?_) (fun h2 => ?_)
 have h2p := eqT h2
 refine kQ ?_
 refine kES [4] [(4,.v (.int .i64 (k : Int)))] ?_
 refine kR ?_
 have hmod : idxL b l 0 = (k : Int) := by first | exact HK | (rw [HK,drop_cons_of hx,idxL,if_pos (by assumption)])
 exact ⟨[.int .i64 (k : Int)],by kernel_rfl,fun w' hb hf => by rw [hmod]; exact ⟨rfl,hb⟩⟩
 have h2p := eqF h2
 refine kK ?_
 refine kG ?_
 refine kRS 2 [0,1,7,8] [(0,.v (.slice Al l.length Cl)),(1,.v (.bool b)),(7,.v (.int .i64 ((l.length : Nat) : Int))),(8,.v (.int .i64 (IntKind.i64.wrap ((k : Int) + 1))))] ?_
 refine xl_eqS (t' := [(0,.v (.slice Al l.length Cl)),(1,.v (.bool b)),(7,.v (.int .i64 ((l.length : Nat) : Int))),(8,.v (.int .i64 ((k : Int) + 1)))]) (by rw [show (IntKind.i64.wrap ((k : Int) + 1)) = ((k : Int) + 1) from wrap_id (by omega) (by omega)]) ?_
 refine kED [0,1,7,8] [] ?_
 exact ⟨⟨(k + 1),⟨by omega,by rw [HK,drop_cons_of hx,idxL,if_neg (by assumption)]⟩⟩,kF 0 0 [0,1,7,8],by show l.length - (k + 1) < l.length - k; omega⟩
 have h1p := of_decide_eq_false h1
 have hge : k = l.length := by simp at h1; omega
 subst hge; rw [List.drop_length] at HK
 refine xw_exit ?_
 refine kQ ?_
 refine kES [4] [(4,.v (.int .i64 (-1)))] ?_
 refine kR ?_
 have hmod : idxL b l 0 = (-1) := by first | exact HK | (rw [HK,drop_cons_of hx,idxL,if_pos (by assumption)])
 exact ⟨[.int .i64 (-1)],by kernel_rfl,fun w' hb hf => by rw [hmod]; exact ⟨rfl,hb⟩⟩
theorem yContainsB_c (l : List Bool) (lV : Value) (b : Bool) (w : World) (hl_lV : Sl w lV 1 (l.map boolRow))  : Calls Tryz.prog 118 #[lV, .bool b] w fun e w' => e = .returned (.bool (hasB l b)) ∧ Below w.heap.size w w' := by
 obtain ⟨Al,Cl,hvl⟩ := hl_lV.form
 rw [List.length_map] at hvl; subst hvl
 have hnl := hl_lV.len; rw [List.length_map] at hnl
 have hql := Sl.capLe hl_lV
 refine x_calls (args := [.slice Al l.length Cl,.bool b]) (fn := Tryz.f118) [slF (.slice Al l.length Cl) 1 (l.map boolRow)] Tryz.func118 rfl Tryz.ntmps118 rfl (by simp only [List.mem_cons,List.not_mem_nil,or_false,forall_eq_or_imp,forall_eq]; exact ⟨rfl,hl_lV⟩) ?_
 refine kQ ?_
 refine kEF [0,1] ⟨[(0,.v (.slice Al l.length Cl)),(1,.v (.bool b))],[],[],[slF (.slice Al l.length Cl) 1 (l.map boolRow)]⟩ ?_
 refine kQ ?_
 refine kCS 2 [5,6] [(5,.v (.slice Al l.length Cl)),(6,.v (.bool b))] 145 [.slice Al l.length Cl,.bool b] (some 7) rfl (xc_b fun ww hf => yIndexB_c l (.slice Al l.length Cl) b ww (hf _ m0) ) ?_
 intro _
 refine kES [4] [(4,.v (.bool (decide ((idxL b l 0) ≥ 0))))] ?_
 refine kR ?_
 have hmod : hasB l b = (decide ((idxL b l 0) ≥ 0)) := by first | exact (idx_has _ _ _).symm
 exact ⟨[.bool (decide ((idxL b l 0) ≥ 0))],by kernel_rfl,fun w' hb hf => by rw [hmod]; exact ⟨rfl,hb⟩⟩
end Go.Proofs.YtebgmdiejgcoiaaGreat
