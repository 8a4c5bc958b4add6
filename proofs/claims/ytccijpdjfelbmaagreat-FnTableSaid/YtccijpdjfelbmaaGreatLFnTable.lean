/- The law FnTable holds: for every argument the program's function answers true and leaves its arguments as they were. Conditions: none beyond the given row's. -/
import Derived.Test.YtccijpdjfelbmaaGreatZ5
import Derived.Test.YtccijpdjfelbmaaGreatG2
namespace Go.Proofs.YtccijpdjfelbmaaGreat
open Go.RowKit Go.ChangeShapes Go.WideShapes Go.ChangeAt
set_option linter.unusedVariables false
set_option linter.unusedSimpArgs false

set_option maxRecDepth 100000 in
set_option maxHeartbeats 2000000 in
theorem fnTable_walk (J : List Int) (codeV : Value) (w : World) (hl_codeV : Sl w codeV 1 (J.map bR)) : Calls Tryz.prog 4 #[codeV] w fun e w' => e = .returned (.bool true) ∧ Below w.heap.size w w' := by
 obtain ⟨Ac,Cc,hvc⟩ := hl_codeV.form
 rw [List.length_map] at hvc; subst hvc
 have hnc := hl_codeV.len; rw [List.length_map] at hnc
 have hqc := Sl.capLe hl_codeV
 refine bZ (args := [.slice Ac J.length Cc]) (fn := Tryz.f4) [aJ (.slice Ac J.length Cc) 1 (J.map bR)] Tryz.func4 rfl Tryz.ntmps4 rfl (by simp only [List.mem_cons,List.not_mem_nil,or_false,forall_eq_or_imp,forall_eq]; exact ⟨rfl,hl_codeV⟩) ?_
 refine kQ <| cm [0] ⟨[(0,.v (.slice Ac J.length Cc))],[],[],[aJ (.slice Ac J.length Cc) 1 (J.map bR)]⟩ <| kS <| kQ <| dR 1 [0,11] [(11,.v (.slice Ac J.length Cc))] 5 [.slice Ac J.length Cc] (some 12) rfl (aA fun ww hf => big_c J Ac Cc ww (hf _ m0)) ?_
 intro _
 refine aW [0,12] [] <| kC (decide (((J.length : Nat) : Int) > 1048576)) (fun h1 => ?_) (fun h1 => ?_)
 have h1p := of_decide_eq_true h1
 refine kQ <| aT [2] [(2,aB true)] <| kR ?_
 exact ⟨[.bool true],by kernel_rfl,fun w' hb hf => ⟨rfl,hb⟩⟩
 have h1p := of_decide_eq_false h1
 have hbig : J.length ≤ 1048576 := by simp at h1; omega
 refine kK <| kQ <| dN 1 [14] [(14,.v (.slice Ac J.length Cc))] 10 [.slice Ac J.length Cc] (some 15) rfl (cb fun ww hw hf => drawPutConn_c J Ac Cc ww (hf _ m0) (by omega) w.heap.size hw) ?_
 rintro ⟨⟨d2l,⟨d2A,d2C⟩,d2w,⟨d2D,d2E⟩,d2c,⟨d2F,d2G⟩,d2m⟩,hfit_d2l,hlen_d2l,hwl_d2l,hfc⟩
 dsimp only at hfit_d2l hlen_d2l hwl_d2l hfc
 dsimp only
 refine gk [3,4,5] [(3,.p 0 0),(4,.p 1 0),(5,.p 2 0)] [⟨27,[.slice d2A d2l.length d2C,.slice d2D d2w.length d2E]⟩,⟨41,a6 d2c (cS d2F d2c d2G)⟩,⟨43,bd d2m⟩] <| kQ <| dR 3 [3,4,5,20,21,22] [(20,.v (.agg #[.slice d2A d2l.length d2C,.slice d2D d2w.length d2E])),(21,.v (.agg (a6 d2c (cS d2F d2c d2G)).toArray)),(22,.v (.agg (bd d2m).toArray))] 11 [.agg #[.slice d2A d2l.length d2C,.slice d2D d2w.length d2E],.agg (a6 d2c (cS d2F d2c d2G)).toArray,.agg (bd d2m).toArray] (some 23) rfl (cb fun ww hw hf => yiPutConn_c (⟨d2l,d2w⟩) (.slice d2A d2l.length d2C) (.slice d2D d2w.length d2E) d2c (cS d2F d2c d2G) d2m ww (ax (hf _ m0)) (fun x hx => gH (hf _ m1) x (List.mem_append_left _ hx)) (ax (hf _ m2)) ((gH (hf _ m1)) (d2c,.slice d2F d2c.r.held.length d2G) (by simp)) (by first | assumption | (dsimp only; assumption)) (by first | assumption | omega | (dsimp only; omega)) (by first | assumption | omega | (dsimp only; omega)) (by assumption) w.heap.size hw) ?_
 rintro ⟨⟨t3l,ht3l⟩,⟨t3a,t3c⟩,⟨t3d,t3e⟩⟩
 dsimp only
 have hfit_t3l : ∀ x ∈ t3l,bW x.1 := fit_of ht3l (putP_fit (t := (⟨d2l,d2w⟩)) hfit_d2l hfc)
 have hlen_t3l : t3l.length ≤ 1048576 := by have h1 := putP_len1 (⟨d2l,d2w⟩) d2c d2m; rw [← len_of ht3l] at h1; dsimp only at h1; omega
 have hwl_t3l : (bQ (⟨d2l,d2w⟩) d2c d2m).length ≤ 1048576 := by have h1 := putW_len1 (⟨d2l,d2w⟩) d2c d2m; dsimp only at h1; omega
 refine gk [3,4,5,6,7] [(6,.p 3 0),(7,aB (dn (⟨d2l,d2w⟩) d2c d2m))] [⟨27,[.slice t3a t3l.length t3c,.slice t3d ((bQ (⟨d2l,d2w⟩) d2c d2m).length) t3e]⟩] <| kQ <| dR 3 [3,4,5,6,7,27,28,29] [(27,.v (.agg #[.slice d2A d2l.length d2C,.slice d2D d2w.length d2E])),(28,.v (.agg (a6 d2c (cS d2F d2c d2G)).toArray)),(29,.v (.agg (bd d2m).toArray))] 12 [.agg #[.slice d2A d2l.length d2C,.slice d2D d2w.length d2E],.agg (a6 d2c (cS d2F d2c d2G)).toArray,.agg (bd d2m).toArray] (some 30) rfl (cb fun ww hw hf => ysPutConn_c (⟨d2l,d2w⟩) (.slice d2A d2l.length d2C) (.slice d2D d2w.length d2E) d2c (cS d2F d2c d2G) d2m ww (ax (hf _ m3)) (fun x hx => gH (hf _ m4) x (List.mem_append_left _ hx)) (ax (hf _ m5)) ((gH (hf _ m4)) (d2c,.slice d2F d2c.r.held.length d2G) (by simp)) (by first | assumption | (dsimp only; assumption)) (by first | assumption | omega | (dsimp only; omega)) (by first | assumption | omega | (dsimp only; omega)) (by assumption) w.heap.size hw) ?_
 rintro ⟨⟨t4l,ht4l⟩,⟨t4a,t4c⟩,⟨t4d,t4e⟩⟩
 dsimp only
 have hfit_t4l : ∀ x ∈ t4l,bW x.1 := fit_of ht4l (putP_fit (t := (⟨d2l,d2w⟩)) hfit_d2l hfc)
 have hlen_t4l : t4l.length ≤ 1048576 := by have h1 := putP_len1 (⟨d2l,d2w⟩) d2c d2m; rw [← len_of ht4l] at h1; dsimp only at h1; omega
 have hwl_t4l : (bQ (⟨d2l,d2w⟩) d2c d2m).length ≤ 1048576 := by have h1 := putW_len1 (⟨d2l,d2w⟩) d2c d2m; dsimp only at h1; omega
 refine gk [3,4,5,6,7,8,9] [(8,.p 4 0),(9,aB (dn (⟨d2l,d2w⟩) d2c d2m))] [⟨27,[.slice t4a t4l.length t4c,.slice t4d ((bQ (⟨d2l,d2w⟩) d2c d2m).length) t4e]⟩] <| kS <| kS <| bN [] (by kernel_rfl) (fun ρ σ => ?_)
 refine cJ [0,1,2,3] [36,3,4,5,6,7,8] 14 [(36,aB (!((dn (⟨d2l,d2w⟩) d2c d2m) == (dn (⟨d2l,d2w⟩) d2c d2m)))),(3,.p 0 0),(4,.p 1 0),(5,.p 2 0),(6,.p 3 0),(7,aB (dn (⟨d2l,d2w⟩) d2c d2m)),(8,.p 4 0)] <| kY 36 (!((dn (⟨d2l,d2w⟩) d2c d2m) == (dn (⟨d2l,d2w⟩) d2c d2m))) (fun h5 => ?_) (fun h5 => ?_)
 have h5n := bS h5
 simp at h5n
 have h5n := aF h5
 have h5np := cI h5n
 refine cJ [4,5] [38,37,36,3,4,5,6,7,8] 12 [(38,.v (.agg #[.slice t4a t4l.length t4c,.slice t4d ((bQ (⟨d2l,d2w⟩) d2c d2m).length) t4e])),(37,.v (.agg #[.slice t3a t3l.length t3c,.slice t3d ((bQ (⟨d2l,d2w⟩) d2c d2m).length) t3e])),(36,aB false),(3,.p 0 0),(4,.p 1 0),(5,.p 2 0),(6,.p 3 0),(7,aB (dn (⟨d2l,d2w⟩) d2c d2m)),(8,.p 4 0)] <| kA [6] <| du 6 8 [.agg #[.slice t3a t3l.length t3c,.slice t3d ((bQ (⟨d2l,d2w⟩) d2c d2m).length) t3e],.agg #[.slice t4a t4l.length t4c,.slice t4d ((bQ (⟨d2l,d2w⟩) d2c d2m).length) t4e]] (some 39) rfl (aA fun ww hf => ysSameTable_c (⟨t3l,(bQ (⟨d2l,d2w⟩) d2c d2m)⟩) (.slice t3a t3l.length t3c) (.slice t3d ((bQ (⟨d2l,d2w⟩) d2c d2m).length) t3e) (⟨t4l,(bQ (⟨d2l,d2w⟩) d2c d2m)⟩) (.slice t4a t4l.length t4c) (.slice t4d ((bQ (⟨d2l,d2w⟩) d2c d2m).length) t4e) ww (ax (hf _ m3)) (ew (hf _ m4)) (ax (hf _ m5)) (ax (hf _ m0)) (ew (hf _ m1)) (ax (hf _ m2)) ) ?_
 intro _
 refine cJ [7,8,9] [42,3,4,5,6,7,8] 8 [(42,aB (!(aQ (⟨t3l,(bQ (⟨d2l,d2w⟩) d2c d2m)⟩) (⟨t4l,(bQ (⟨d2l,d2w⟩) d2c d2m)⟩)))),(3,.p 0 0),(4,.p 1 0),(5,.p 2 0),(6,.p 3 0),(7,aB (dn (⟨d2l,d2w⟩) d2c d2m)),(8,.p 4 0)] <| kY 42 (!(aQ (⟨t3l,(bQ (⟨d2l,d2w⟩) d2c d2m)⟩) (⟨t4l,(bQ (⟨d2l,d2w⟩) d2c d2m)⟩))) (fun h6 => ?_) (fun h6 => ?_)
 have h6n := bS h6
 exfalso; rw [f0 (by dsimp only; exact (ht3l).trans (ht4l).symm) (by first | rfl | exact hputw | exact hputw.symm)] at h6n; cases h6n
 have h6n := aF h6
 refine cJ [10,11,13,14] [47,46,44,43,42,3,4,5,6,7,8] 4 [(47,.v (.agg (bd d2m).toArray)),(46,.v (.agg #[.slice d2A d2l.length d2C,.slice d2D d2w.length d2E])),(44,.v (.agg (bd d2m).toArray)),(43,.v (.agg #[.slice d2A d2l.length d2C,.slice d2D d2w.length d2E])),(42,aB false),(3,.p 0 0),(4,.p 1 0),(5,.p 2 0),(6,.p 3 0),(7,aB (dn (⟨d2l,d2w⟩) d2c d2m)),(8,.p 4 0)] <| kA [12] <| du 12 13 [.agg #[.slice d2A d2l.length d2C,.slice d2D d2w.length d2E],.agg (bd d2m).toArray] (some 45) rfl (aA fun ww hf => yiTableOk_c (⟨d2l,d2w⟩) (.slice d2A d2l.length d2C) (.slice d2D d2w.length d2E) d2m ww (ax (hf _ m6)) (fun x hx => gH (hf _ m7) x (List.mem_append_left _ hx)) (ax (hf (a9 w.heap.size 32 3 (.slice d2D d2w.length d2E) (d2w.map a7)) (by simp))) (by assumption)) ?_
 intro _
 refine kA [15] <| du 15 14 [.agg #[.slice d2A d2l.length d2C,.slice d2D d2w.length d2E],.agg (bd d2m).toArray] (some 48) rfl (aA fun ww hf => ysTableOk_c (⟨d2l,d2w⟩) (.slice d2A d2l.length d2C) (.slice d2D d2w.length d2E) d2m ww (ax (hf _ m6)) (fun x hx => gH (hf _ m7) x (List.mem_append_left _ hx)) (ax (hf (a9 w.heap.size 32 3 (.slice d2D d2w.length d2E) (d2w.map a7)) (by simp))) (by assumption)) ?_
 intro _
 refine cJ [16,17] [50,3,4,5,6,7,8] 0 [(50,aB (!((bp (⟨d2l,d2w⟩) d2m) == (bp (⟨d2l,d2w⟩) d2m)))),(3,.p 0 0),(4,.p 1 0),(5,.p 2 0),(6,.p 3 0),(7,aB (dn (⟨d2l,d2w⟩) d2c d2m)),(8,.p 4 0)] <| kZ <| kC (!((bp (⟨d2l,d2w⟩) d2m) == (bp (⟨d2l,d2w⟩) d2m))) (fun h7 => ?_) (fun h7 => ?_)
 have h7n := bS h7
 simp at h7n
 have h7n := aF h7
 have h7np := cI h7n
 refine kK <| kS <| kQ <| aW [3,4,5,6,8,52] [(52,aB (!(dn (⟨d2l,d2w⟩) d2c d2m)))] ?_
 refine kC (!(dn (⟨d2l,d2w⟩) d2c d2m)) (fun h8 => ?_) (fun h8 => ?_)
 have h8n := bS h8
 have hno : dn (⟨d2l,d2w⟩ : Tab) d2c d2m = false := h8n
 refine kQ <| dN 2 [53,54] [(53,.v (.agg #[.slice t3a t3l.length t3c,.slice t3d ((bQ (⟨d2l,d2w⟩) d2c d2m).length) t3e])),(54,.v (.agg #[.slice d2A d2l.length d2C,.slice d2D d2w.length d2E]))] 8 [.agg #[.slice t3a t3l.length t3c,.slice t3d ((bQ (⟨d2l,d2w⟩) d2c d2m).length) t3e],.agg #[.slice d2A d2l.length d2C,.slice d2D d2w.length d2E]] (some 55) rfl (aA fun ww hf => ysSameTable_c (⟨t3l,(bQ (⟨d2l,d2w⟩) d2c d2m)⟩) (.slice t3a t3l.length t3c) (.slice t3d ((bQ (⟨d2l,d2w⟩) d2c d2m).length) t3e) (⟨d2l,d2w⟩) (.slice d2A d2l.length d2C) (.slice d2D d2w.length d2E) ww (ax (hf _ m3)) (ew (hf _ m4)) (ax (hf _ m5)) (ax (hf _ m6)) (fun x hx => gH (hf _ m7) x (List.mem_append_left _ hx)) (ax (hf (a9 w.heap.size 32 3 (.slice d2D d2w.length d2E) (d2w.map a7)) (by simp))) ) ?_
 intro _
 refine aT [2] [(2,aB (aQ (⟨t3l,(bQ (⟨d2l,d2w⟩) d2c d2m)⟩) (⟨d2l,d2w⟩)))] <| kR ?_
 exact ⟨[.bool (aQ (⟨t3l,(bQ (⟨d2l,d2w⟩) d2c d2m)⟩) (⟨d2l,d2w⟩))],by kernel_rfl,fun w' hb hf => ⟨au (show (aQ (⟨t3l,(bQ (⟨d2l,d2w⟩) d2c d2m)⟩) (⟨d2l,d2w⟩) : Bool) = true from by first | exact f0 (by dsimp only; exact (by assumption : pl t3l = _).trans (put_no hno).1) (put_no hno).2 | exact f0 (by dsimp only; exact (by assumption : pl t3l = _).trans (by assumption : pl t4l = _).symm) rfl | (simp_all; done)),hb⟩⟩
 have h8n := aF h8
 have hyes : dn (⟨d2l,d2w⟩ : Tab) d2c d2m = true := h8n
 obtain ⟨v,hv⟩ := put_at hyes ht3l
 have hfk := put_find hyes ht3l; have htok := put_table hyes ht3l; obtain ⟨hpl1,hpl2⟩ := put_last hyes
 dsimp only at hv hfk hpl1 hpl2
 refine kK <| kQ <| dR 3 [3,4,5,6,8,56,58] [(56,.v (.agg #[.slice t3a t3l.length t3c,.slice t3d ((bQ (⟨d2l,d2w⟩) d2c d2m).length) t3e])),(58,.v (.agg (bX d2c.t).toArray))] 15 [.agg #[.slice t3a t3l.length t3c,.slice t3d ((bQ (⟨d2l,d2w⟩) d2c d2m).length) t3e],.agg (bX d2c.t).toArray] (some 59) rfl (aA fun ww hf => gI (⟨t3l,(bQ (⟨d2l,d2w⟩) d2c d2m)⟩) (.slice t3a t3l.length t3c) (.slice t3d ((bQ (⟨d2l,d2w⟩) d2c d2m).length) t3e) d2c.t ww (ax (hf _ m3)) (ew (hf _ m4)) (ax (hf _ m5)) ) ?_
 intro _
 refine aW [3,4,5,6,8,10] [(10,aI (bv (⟨t3l,(bQ (⟨d2l,d2w⟩) d2c d2m)⟩) d2c.t))] <| kS <| xw_eq (st' := ⟨[(3,.p 0 0),(4,.p 1 0),(5,.p 2 0),(6,.p 3 0),(8,.p 4 0),(10,aI ((d2l.length : Nat) : Int))],[⟨27,[.slice d2A d2l.length d2C,.slice d2D d2w.length d2E]⟩,⟨41,a6 d2c (cS d2F d2c d2G)⟩,⟨43,bd d2m⟩,⟨27,[.slice t3a t3l.length t3c,.slice t3d ((bQ (⟨d2l,d2w⟩) d2c d2m).length) t3e]⟩,⟨27,[.slice t4a t4l.length t4c,.slice t4d ((bQ (⟨d2l,d2w⟩) d2c d2m).length) t4e]⟩],[],[a9 w.heap.size 41 25 (.slice t4a t4l.length t4c) (t4l.map aq),cT w.heap.size t4l,a9 w.heap.size 32 3 (.slice t4d ((bQ (⟨d2l,d2w⟩) d2c d2m).length) t4e) ((bQ (⟨d2l,d2w⟩) d2c d2m).map a7),a9 w.heap.size 41 25 (.slice t3a t3l.length t3c) (t3l.map aq),cT w.heap.size t3l,a9 w.heap.size 32 3 (.slice t3d ((bQ (⟨d2l,d2w⟩) d2c d2m).length) t3e) ((bQ (⟨d2l,d2w⟩) d2c d2m).map a7),a9 w.heap.size 41 25 (.slice d2A d2l.length d2C) (d2l.map aq),fL w.heap.size (d2l ++ [(d2c,.slice d2F d2c.r.held.length d2G)]),a9 w.heap.size 32 3 (.slice d2D d2w.length d2E) (d2w.map a7),aJ (.slice Ac J.length Cc) 1 (J.map bR)]⟩) (by rw [hfk]; rfl) ?_
 refine d5 <| cA (K := 25) (j := d2l.length) [iI d2c.t.ip,iI d2c.t.port,iI d2c.t.my,iI d2c.state,iI d2c.s.una,.string d2c.s.data,iI d2c.s.sent,.bool d2c.s.fin,.bool d2c.s.finSent,.bool d2c.s.done,iI d2c.r.next,.string d2c.r.data,v,iI d2c.r.fin,.bool d2c.r.done,iI d2c.window,iI d2c.most,iI d2c.o.mss,iI d2c.o.scale,.bool d2c.o.sack,.bool d2c.o.stamp,iI d2c.o.val,iI d2c.o.echo,iI d2c.timer,iI d2c.tries] (a9 w.heap.size 41 25 (.slice t3a t3l.length t3c) (t3l.map aq)) (fun _ _ h => h) (by simp) (fun w h => ax h) (fun b h => bO (B' := 0) h) (by simp only [List.getElem?_map,hv]; rfl) (fun bq9 offq9 hAq9 => ?_)
 refine cA (K := 3) (j := d2w.length) [iI d2c.t.ip,iI d2c.t.port,iI d2c.t.my] (a9 w.heap.size 32 3 (.slice t3d ((bQ (⟨d2l,d2w⟩) d2c d2m).length) t3e) ((bQ (⟨d2l,d2w⟩) d2c d2m).map a7)) (fun _ _ h => h) (by simp) (fun w h => ax h) (fun b h => bO (B' := 0) h) (by simp only [List.getElem?_map,hpl2]; rfl) (fun bq10 offq10 hAq10 => ?_)
 refine ci [] (by kernel_rfl) (fun ρ σ hq11 => ?_)
 refine cJ [0,1] [61,60,3,4,6,8,10] 36 [(61,.v (.agg (bd d2m).toArray)),(60,.v (.agg #[.slice t3a t3l.length t3c,.slice t3d ((bQ (⟨d2l,d2w⟩) d2c d2m).length) t3e])),(3,.p 0 0),(4,.p 1 0),(6,.p 3 0),(8,.p 4 0),(10,aI ((d2l.length : Nat) : Int))] <| kA [2] <| du 2 13 [.agg #[.slice t3a t3l.length t3c,.slice t3d ((bQ (⟨d2l,d2w⟩) d2c d2m).length) t3e],.agg (bd d2m).toArray] (some 62) rfl (aA fun ww hf => yiTableOk_c (⟨t3l,(bQ (⟨d2l,d2w⟩) d2c d2m)⟩) (.slice t3a t3l.length t3c) (.slice t3d ((bQ (⟨d2l,d2w⟩) d2c d2m).length) t3e) d2m ww (ax (hf _ m3)) (ew (hf _ m4)) (ax (hf _ m5)) (by assumption)) ?_
 intro _
 refine cJ [3] [63,3,4,6,8,10] 34 [(63,aB (bp (⟨t3l,(bQ (⟨d2l,d2w⟩) d2c d2m)⟩) d2m)),(3,.p 0 0),(4,.p 1 0),(6,.p 3 0),(8,.p 4 0),(10,aI ((d2l.length : Nat) : Int))] <| kY 63 (bp (⟨t3l,(bQ (⟨d2l,d2w⟩) d2c d2m)⟩) d2m) (fun h12 => ?_) (fun h12 => ?_)
 refine cJ [4,5,6,7,8,9,10] [70,4,6,8,10] 27 [(70,aB (((d2l.length : Nat) : Int) == ((d2l.length : Nat) : Int))),(4,.p 1 0),(6,.p 3 0),(8,.p 4 0),(10,aI ((d2l.length : Nat) : Int))] <| kY 70 (((d2l.length : Nat) : Int) == ((d2l.length : Nat) : Int)) (fun h13 => ?_) (fun h13 => ?_)
 have h13p := cI h13
 refine cJ [11,12,13,16] [76,73,72,70,4,6,8] 23 [(76,.v (.agg (a6 d2c (cS d2F d2c d2G)).toArray)),(73,aI ((d2l.length : Nat) : Int)),(72,.v (.slice t3a t3l.length t3c)),(70,aB true),(4,.p 1 0),(6,.p 3 0),(8,.p 4 0)] <| cX (kd := .i64) (T := 24) (e := 41) (K := 25) (j := d2l.length) (A := t3a) (len := t3l.length) (cap := t3c) 14 0 _ rfl (by kernel_rfl) (by kernel_rfl) (by kernel_rfl) (fun _ _ h => h) (by kernel_rfl) rfl rfl (by kernel_rfl) (by kernel_rfl) (by kernel_rfl) (by kernel_rfl) (List.getElem?_eq_some_iff.1 hv).1 hAq9 hq11.1.2 (by kernel_rfl) rfl ?_
 refine cJ [15] [75,76,70,4,6,8] 21 [(75,.v (.agg (a6 d2c v).toArray)),(76,.v (.agg (a6 d2c (cS d2F d2c d2G)).toArray)),(70,aB true),(4,.p 1 0),(6,.p 3 0),(8,.p 4 0)] <| kA [17] <| du 17 16 [.agg (a6 d2c v).toArray,.agg (a6 d2c (cS d2F d2c d2G)).toArray] (some 77) rfl (aA fun ww hf => ysSameConn_c d2c v d2c (cS d2F d2c d2G) ww ((ew (hf _ m4)) (d2c,v) (List.mem_of_getElem? hv)) ((gH (hf _ m7)) (d2c,.slice d2F d2c.r.held.length d2G) (by simp)) ) ?_
 intro _
 refine cJ [18,19] [79,4,6,8] 18 [(79,aB (bU d2c d2c)),(4,.p 1 0),(6,.p 3 0),(8,.p 4 0)] <| kY 79 (bU d2c d2c) (fun h14 => ?_) (fun h14 => ?_)
 refine cJ [20,21,22,23,24,25,28,29] [89,85,81,79,6,8] 10 [(89,.v (.agg (bX d2c.t).toArray)),(85,aI (K6.wrap ((((bQ (⟨d2l,d2w⟩) d2c d2m).length : Nat) : Int) - 1))),(81,.v (.slice t3d ((bQ (⟨d2l,d2w⟩) d2c d2m).length) t3e)),(79,aB true),(6,.p 3 0),(8,.p 4 0)] <| xe_nv [89,85,81,79,6,8] [(85,aI (K6.wrap ((((bQ (⟨d2l,d2w⟩) d2c d2m).length : Nat) : Int) - 1)))] [(85,aI ((d2w.length : Nat) : Int))] (by rw [show (K6.wrap ((((bQ (⟨d2l,d2w⟩) d2c d2m).length : Nat) : Int) - 1)) = ((d2w.length : Nat) : Int) from (by rw [hpl1,al (by omega) (by omega)]; omega)]) (by kernel_rfl) ?_
 refine cX (kd := .i64) (T := 25) (e := 32) (K := 3) (j := d2w.length) (A := t3d) (len := (bQ (⟨d2l,d2w⟩) d2c d2m).length) (cap := t3e) 26 1 _ rfl (by kernel_rfl) (by kernel_rfl) (by kernel_rfl) (fun _ _ h => h) (by kernel_rfl) rfl rfl (by kernel_rfl) (by kernel_rfl) (by kernel_rfl) (by kernel_rfl) (by rw [hpl1]; omega) hAq10 hq11.2 (by kernel_rfl) rfl ?_
 refine cJ [27] [87,89,79,6,8] 8 [(87,.v (.agg (bX d2c.t).toArray)),(89,.v (.agg (bX d2c.t).toArray)),(79,aB true),(6,.p 3 0),(8,.p 4 0)] <| kX 30 (.bool (bz d2c.t d2c.t)) rfl (fun _ _ ww hA => co hA rfl (by kernel_rfl) (by kernel_rfl) (ez (by kernel_rfl) (ec d2c.t.ip d2c.t.port d2c.t.my d2c.t.ip d2c.t.port d2c.t.my ww))) ?_
 refine cJ [31,32] [92,6,8] 5 [(92,aB (bz d2c.t d2c.t)),(6,.p 3 0),(8,.p 4 0)] <| kY 92 (bz d2c.t d2c.t) (fun h15 => ?_) (fun h15 => ?_)
 refine cJ [33,34] [94,93,92] 3 [(94,.v (.agg #[.slice t4a t4l.length t4c,.slice t4d ((bQ (⟨d2l,d2w⟩) d2c d2m).length) t4e])),(93,.v (.agg #[.slice t3a t3l.length t3c,.slice t3d ((bQ (⟨d2l,d2w⟩) d2c d2m).length) t3e])),(92,aB true)] <| kA [35] <| du 35 17 [.agg #[.slice t3a t3l.length t3c,.slice t3d ((bQ (⟨d2l,d2w⟩) d2c d2m).length) t3e],.agg #[.slice t4a t4l.length t4c,.slice t4d ((bQ (⟨d2l,d2w⟩) d2c d2m).length) t4e]] (some 95) rfl (aA fun ww hf => yiSameTable_c (⟨t3l,(bQ (⟨d2l,d2w⟩) d2c d2m)⟩) (.slice t3a t3l.length t3c) (.slice t3d ((bQ (⟨d2l,d2w⟩) d2c d2m).length) t3e) (⟨t4l,(bQ (⟨d2l,d2w⟩) d2c d2m)⟩) (.slice t4a t4l.length t4c) (.slice t4d ((bQ (⟨d2l,d2w⟩) d2c d2m).length) t4e) ww (ax (hf _ m3)) (ew (hf _ m4)) (ax (hf _ m5)) (ax (hf _ m0)) (ew (hf _ m1)) (ax (hf _ m2)) ) ?_
 intro _
 refine cJ [36,37] [2] 0 [(2,aB (aQ (⟨t3l,(bQ (⟨d2l,d2w⟩) d2c d2m)⟩) (⟨t4l,(bQ (⟨d2l,d2w⟩) d2c d2m)⟩)))] <| kZ <| kR ?_
 exact ⟨[.bool (aQ (⟨t3l,(bQ (⟨d2l,d2w⟩) d2c d2m)⟩) (⟨t4l,(bQ (⟨d2l,d2w⟩) d2c d2m)⟩))],by kernel_rfl,fun w' hb hf => ⟨au (show (aQ (⟨t3l,(bQ (⟨d2l,d2w⟩) d2c d2m)⟩) (⟨t4l,(bQ (⟨d2l,d2w⟩) d2c d2m)⟩) : Bool) = true from by first | exact f0 (by dsimp only; exact (by assumption : pl t3l = _).trans (put_no hno).1) (put_no hno).2 | exact f0 (by dsimp only; exact (by assumption : pl t3l = _).trans (by assumption : pl t4l = _).symm) rfl | (simp_all; done)),hb⟩⟩
 exfalso; rw [tupEq_refl] at h15; cases h15
 exfalso; rw [sameConn_self] at h14; cases h14
 simp at h13
 exfalso; rw [htok] at h12; cases h12

set_option maxRecDepth 100000 in
theorem fnTable_lifted (os : Os) (started : os.Started) (H : Type) (enc : TypeId × Value → H) :
    ReturnsInHanded {} Tryz.checked os 4 .any (Rows.fnTableSpec.pre6 enc Tryz.prog Tryz.f4 Rows.fnTableRow.domain false) (Rows.fnTableSpec.post enc Tryz.prog Tryz.f4 false true false false) := by
  refine returnsInHanded_of_change (C := Tryz.checked) Tryz.ownK started (by kernel_rfl) Tryz.func4
    (ChangeSpec.witness6 (enc := enc) (C := Tryz.checked) false ⟨#[], #[.slice none 0 0], []⟩ 8 (by kernel_rfl) (by kernel_rfl) (by kernel_rfl) (by kernel_rfl)) ?_
  intro W base args ds gs before hval0 hW hcnd _
  have hval : ∀ (j : Nat) t v, Tryz.f4.params[j]? = some t → args[j]? = some v → Value.okWide Tryz.prog W .any base t v := hval0
  have hW' := hW
  obtain ⟨p, q, hA0, hV, rfl, hfz, hnd⟩ := hW
  have hA : DataW.TrodAll enc Tryz.prog W 0 (fun _ => true) true Tryz.f4.params.toList args.toList ds p := hA0
  rw [Tryz.params4] at hA hval
  obtain ⟨v0, vs0, d0, ds0, p0, q0, hargs, rfl, rfl, h0, r0⟩ := trodAll_cons hA
  obtain ⟨rfl, rfl, rfl⟩ := trodAll_nil r0
  obtain rfl : args = #[v0] := by cases args; simp_all
  obtain ⟨rfl, rfl⟩ := trodVars_none hV
  clear hA0 hval0
  have g0 := h0
  obtain ⟨l0, L0⟩ := openS_byte (hval 0 _ v0 rfl rfl) g0
  refine (fnTable_walk l0 v0 W L0).mono fun e W' ⟨he, hb⟩ => ?_
  subst he
  have hlt : ∀ x ∈ (p0 ++ ([])) ++ [], x.block < W.heap.size := fun x hx => hW'.lt x hx
  refine ⟨_, rfl, post_of_below (pa := (p0 ++ ([]))) (pv := []) hW' (fun _ _ _ => trodAll_cons_mk (shut_bool Tryz.underlying4 _) trodAll_mk0) (fun sp hsp => trodAll_cons_mk (WideElems.Trod_stays Tryz.laidOut (by kernel_rfl) (of_decide_eq_true (by kernel_rfl)) h0 (fun x hx => hb.same (hlt x (List.mem_append_left _ (List.mem_append_left _ hx)))) (fun x hx => hsp x (List.mem_append_left _ (List.mem_append_left _ hx)))) (trodAll_mk0)) (fun _ _ => rfl) rfl hb (ok_one (by kernel_rfl) rfl (okWide_bool_mk Tryz.underlying4 _))⟩

theorem fnTable_over : Rows.fnTableRow.holds Tryz.pinned (OpenSpec.ofChange Rows.fnTableSpec) :=
  OpenClaim.holds_of_wide 4 Tryz.f4 rfl rfl rfl rfl rfl rfl rfl ⟨rfl, rfl, rfl, rfl, rfl⟩ rfl rfl rfl rfl rfl (by kernel_rfl) Tryz.func4 (by kernel_rfl)
    (of_decide_eq_true (by kernel_rfl)) (by unfold Func.isWrapper; first | (rw [if_pos (by decide +kernel)]; kernel_rfl) | (rw [if_neg (by decide +kernel)]; exact ⟨rfl, rfl⟩))
    (fun os started H enc _ => fnTable_lifted os started H enc)

theorem fnTable_holds : Rows.FnTableSaid := fnTable_over
#print axioms fnTable_holds
end Go.Proofs.YtccijpdjfelbmaaGreat
