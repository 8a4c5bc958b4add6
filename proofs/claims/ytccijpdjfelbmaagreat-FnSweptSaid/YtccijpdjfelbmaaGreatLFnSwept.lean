/- The law FnSwept holds: for every argument the program's function answers true and leaves its arguments as they were. Conditions: none beyond the given row's. -/
import Derived.Test.YtccijpdjfelbmaaGreatZ5
import Derived.Test.YtccijpdjfelbmaaGreatG2
namespace Go.Proofs.YtccijpdjfelbmaaGreat
open Go.RowKit Go.ChangeShapes Go.WideShapes Go.ChangeAt
set_option linter.unusedVariables false
set_option linter.unusedSimpArgs false

set_option maxRecDepth 100000 in
set_option maxHeartbeats 2000000 in
theorem fnSwept_walk (J : List Int) (codeV : Value) (w : World) (hl_codeV : Sl w codeV 1 (J.map bR)) : Calls Tryz.prog 3 #[codeV] w fun e w' => e = .returned (.bool true) ∧ Below w.heap.size w w' := by
 obtain ⟨Ac,Cc,hvc⟩ := hl_codeV.form
 rw [List.length_map] at hvc; subst hvc
 have hnc := hl_codeV.len; rw [List.length_map] at hnc
 have hqc := Sl.capLe hl_codeV
 refine bL (args := [.slice Ac J.length Cc]) (fn := Tryz.f3) [aX (.slice Ac J.length Cc) 1 (J.map bR)] Tryz.func3 rfl Tryz.ntmps3 rfl (by simp only [List.mem_cons,List.not_mem_nil,or_false,forall_eq_or_imp,forall_eq]; exact ⟨rfl,hl_codeV⟩) ?_
 refine kQ <| cy [0] ⟨[(0,.v (.slice Ac J.length Cc))],[],[],[aX (.slice Ac J.length Cc) 1 (J.map bR)]⟩ <| kS <| kQ <| dS 1 [0,8] [(8,.v (.slice Ac J.length Cc))] 5 [.slice Ac J.length Cc] (some 9) rfl (bu fun ww hf => big_c J Ac Cc ww (hf _ m0)) ?_
 intro _
 refine aY [0,9] [] <| kC (decide (((J.length : Nat) : Int) > 1048576)) (fun h1 => ?_) (fun h1 => ?_)
 have h1p := of_decide_eq_true h1
 refine kQ <| aE [2] [(2,aB true)] <| kR ?_
 exact ⟨[.bool true],by kernel_rfl,fun w' hb hf => ⟨rfl,hb⟩⟩
 have h1p := of_decide_eq_false h1
 have hbig : J.length ≤ 1048576 := by simp at h1; omega
 refine kK <| kQ <| em 1 [10] [(10,.v (.slice Ac J.length Cc))] 6 [.slice Ac J.length Cc] (some 11) rfl (cx fun ww hw hf => drawSwept_c J Ac Cc ww (hf _ m0) (by omega) w.heap.size hw) ?_
 rintro ⟨⟨d2l,⟨d2A,d2C⟩,d2w,⟨d2D,d2E⟩⟩,hfit_d2l,hlen_d2l,hwl_d2l⟩
 dsimp only at hfit_d2l hlen_d2l hwl_d2l
 dsimp only
 refine gU [3] [(3,.p 0 0)] [⟨27,[.slice d2A d2l.length d2C,.slice d2D d2w.length d2E]⟩] <| kQ <| dS 1 [3,12] [(12,.v (.agg #[.slice d2A d2l.length d2C,.slice d2D d2w.length d2E]))] 7 [.agg #[.slice d2A d2l.length d2C,.slice d2D d2w.length d2E]] (some 13) rfl (cx fun ww hw hf => yiSwept_c (⟨d2l,d2w⟩) (.slice d2A d2l.length d2C) (.slice d2D d2w.length d2E) ww (aw (hf _ m0)) (hwF_sl (hf _ m1)) (aw (hf _ m2)) (by first | assumption | (dsimp only; assumption)) (by first | assumption | omega | (dsimp only; omega)) (by first | assumption | omega | (dsimp only; omega)) w.heap.size hw) ?_
 rintro ⟨⟨t3l,ht3l⟩,⟨t3a,t3c⟩,⟨t3d,t3e⟩⟩
 dsimp only
 have hfit_t3l : ∀ x ∈ t3l,bj x.1 := fit_of ht3l (gG (t := (⟨d2l,d2w⟩)) hfit_d2l)
 have hlen_t3l : t3l.length ≤ d2l.length := by have h1 := gH (⟨d2l,d2w⟩); rw [← len_of ht3l] at h1; exact h1
 have hwl_t3l : (al (⟨d2l,d2w⟩)).length ≤ 1048576 := by have h1 := go (⟨d2l,d2w⟩); dsimp only at h1; omega
 have hll_t3l : t3l.length ≤ 1048576 := by omega
 refine gU [3,4] [(4,.p 1 0)] [⟨27,[.slice t3a t3l.length t3c,.slice t3d ((al (⟨d2l,d2w⟩)).length) t3e]⟩] <| kS <| kS <| bP [] (by kernel_rfl) (fun ρ σ => ?_)
 refine cJ [0,1] [15,14,3,4] 11 [(15,.v (.agg #[.slice d2A d2l.length d2C,.slice d2D d2w.length d2E])),(14,.v (.agg #[.slice t3a t3l.length t3c,.slice t3d ((al (⟨d2l,d2w⟩)).length) t3e])),(3,.p 0 0),(4,.p 1 0)] <| kA [2] <| cE 2 9 [.agg #[.slice d2A d2l.length d2C,.slice d2D d2w.length d2E]] (some 16) rfl (cx fun ww hw hf => ysSwept_c (⟨d2l,d2w⟩) (.slice d2A d2l.length d2C) (.slice d2D d2w.length d2E) ww (aw (hf _ m3)) (hwF_sl (hf _ m4)) (aw (hf _ m5)) (by first | assumption | (dsimp only; assumption)) (by first | assumption | omega | (dsimp only; omega)) (by first | assumption | omega | (dsimp only; omega)) w.heap.size hw) ?_
 rintro ⟨⟨t4l,ht4l⟩,⟨t4a,t4c⟩,⟨t4d,t4e⟩⟩
 dsimp only
 have hfit_t4l : ∀ x ∈ t4l,bj x.1 := fit_of ht4l (gG (t := (⟨d2l,d2w⟩)) hfit_d2l)
 have hlen_t4l : t4l.length ≤ d2l.length := by have h1 := gH (⟨d2l,d2w⟩); rw [← len_of ht4l] at h1; exact h1
 have hwl_t4l : (al (⟨d2l,d2w⟩)).length ≤ 1048576 := by have h1 := go (⟨d2l,d2w⟩); dsimp only at h1; omega
 have hll_t4l : t4l.length ≤ 1048576 := by omega
 refine kA [3] <| cE 3 8 [.agg #[.slice t3a t3l.length t3c,.slice t3d ((al (⟨d2l,d2w⟩)).length) t3e],.agg #[.slice t4a t4l.length t4c,.slice t4d ((al (⟨d2l,d2w⟩)).length) t4e]] (some 17) rfl (bu fun ww hf => ysSameTable_c (⟨t3l,(al (⟨d2l,d2w⟩))⟩) (.slice t3a t3l.length t3c) (.slice t3d ((al (⟨d2l,d2w⟩)).length) t3e) (⟨t4l,(al (⟨d2l,d2w⟩))⟩) (.slice t4a t4l.length t4c) (.slice t4d ((al (⟨d2l,d2w⟩)).length) t4e) ww (aw (hf _ m3)) (eS (hf _ m4)) (aw (hf _ m5)) (aw (hf _ m0)) (eS (hf _ m1)) (aw (hf _ m2)) ) ?_
 intro _
 refine cJ [4,5] [19,3,4] 7 [(19,aB (!(aM (⟨t3l,(al (⟨d2l,d2w⟩))⟩) (⟨t4l,(al (⟨d2l,d2w⟩))⟩)))),(3,.p 0 0),(4,.p 1 0)] <| kY 19 (!(aM (⟨t3l,(al (⟨d2l,d2w⟩))⟩) (⟨t4l,(al (⟨d2l,d2w⟩))⟩))) (fun h5 => ?_) (fun h5 => ?_)
 have h5n := cd h5
 exfalso; rw [sameTable_eq (by dsimp only; exact (ht3l).trans (ht4l).symm) (by first | rfl | exact hputw | exact hputw.symm)] at h5n; cases h5n
 have h5n := bS h5
 refine cJ [6,8] [22,20,19,3,4] 5 [(22,.v (.agg #[.slice t3a t3l.length t3c,.slice t3d ((al (⟨d2l,d2w⟩)).length) t3e])),(20,.v (.agg #[.slice t3a t3l.length t3c,.slice t3d ((al (⟨d2l,d2w⟩)).length) t3e])),(19,aB false),(3,.p 0 0),(4,.p 1 0)] <| kA [7] <| cE 7 7 [.agg #[.slice t3a t3l.length t3c,.slice t3d ((al (⟨d2l,d2w⟩)).length) t3e]] (some 21) rfl (cx fun ww hw hf => yiSwept_c (⟨t3l,(al (⟨d2l,d2w⟩))⟩) (.slice t3a t3l.length t3c) (.slice t3d ((al (⟨d2l,d2w⟩)).length) t3e) ww (aw (hf _ m3)) (eS (hf _ m4)) (aw (hf _ m5)) (by first | assumption | (dsimp only; assumption)) (by first | assumption | omega | (dsimp only; omega)) (by first | assumption | omega | (dsimp only; omega)) w.heap.size hw) ?_
 rintro ⟨⟨t6l,ht6l⟩,⟨t6a,t6c⟩,⟨t6d,t6e⟩⟩
 dsimp only
 have hfit_t6l : ∀ x ∈ t6l,bj x.1 := fit_of ht6l (gG (t := (⟨t3l,(al (⟨d2l,d2w⟩))⟩)) hfit_t3l)
 have hlen_t6l : t6l.length ≤ t3l.length := by have h1 := gH (⟨t3l,(al (⟨d2l,d2w⟩))⟩); rw [← len_of ht6l] at h1; exact h1
 have hwl_t6l : (al (⟨t3l,(al (⟨d2l,d2w⟩))⟩)).length ≤ 1048576 := by have h1 := go (⟨t3l,(al (⟨d2l,d2w⟩))⟩); dsimp only at h1; omega
 have hll_t6l : t6l.length ≤ 1048576 := by omega
 refine kA [9] <| cE 9 9 [.agg #[.slice t3a t3l.length t3c,.slice t3d ((al (⟨d2l,d2w⟩)).length) t3e]] (some 23) rfl (cx fun ww hw hf => ysSwept_c (⟨t3l,(al (⟨d2l,d2w⟩))⟩) (.slice t3a t3l.length t3c) (.slice t3d ((al (⟨d2l,d2w⟩)).length) t3e) ww (aw (hf _ m6)) (eS (hf _ m7)) (aw (hf (a8 w.heap.size 32 3 (.slice t3d ((al (⟨d2l,d2w⟩)).length) t3e) ((al (⟨d2l,d2w⟩)).map a5)) (by simp))) (by first | assumption | (dsimp only; assumption)) (by first | assumption | omega | (dsimp only; omega)) (by first | assumption | omega | (dsimp only; omega)) w.heap.size hw) ?_
 rintro ⟨⟨t7l,ht7l⟩,⟨t7a,t7c⟩,⟨t7d,t7e⟩⟩
 dsimp only
 have hfit_t7l : ∀ x ∈ t7l,bj x.1 := fit_of ht7l (gG (t := (⟨t3l,(al (⟨d2l,d2w⟩))⟩)) hfit_t3l)
 have hlen_t7l : t7l.length ≤ t3l.length := by have h1 := gH (⟨t3l,(al (⟨d2l,d2w⟩))⟩); rw [← len_of ht7l] at h1; exact h1
 have hwl_t7l : (al (⟨t3l,(al (⟨d2l,d2w⟩))⟩)).length ≤ 1048576 := by have h1 := go (⟨t3l,(al (⟨d2l,d2w⟩))⟩); dsimp only at h1; omega
 have hll_t7l : t7l.length ≤ 1048576 := by omega
 refine kA [10] <| cE 10 8 [.agg #[.slice t6a t6l.length t6c,.slice t6d ((al (⟨t3l,(al (⟨d2l,d2w⟩))⟩)).length) t6e],.agg #[.slice t7a t7l.length t7c,.slice t7d ((al (⟨t3l,(al (⟨d2l,d2w⟩))⟩)).length) t7e]] (some 24) rfl (bu fun ww hf => ysSameTable_c (⟨t6l,(al (⟨t3l,(al (⟨d2l,d2w⟩))⟩))⟩) (.slice t6a t6l.length t6c) (.slice t6d ((al (⟨t3l,(al (⟨d2l,d2w⟩))⟩)).length) t6e) (⟨t7l,(al (⟨t3l,(al (⟨d2l,d2w⟩))⟩))⟩) (.slice t7a t7l.length t7c) (.slice t7d ((al (⟨t3l,(al (⟨d2l,d2w⟩))⟩)).length) t7e) ww (aw (hf _ m3)) (eS (hf _ m4)) (aw (hf _ m5)) (aw (hf _ m0)) (eS (hf _ m1)) (aw (hf _ m2)) ) ?_
 intro _
 refine cJ [11,12] [26,3,4] 0 [(26,aB (!(aM (⟨t6l,(al (⟨t3l,(al (⟨d2l,d2w⟩))⟩))⟩) (⟨t7l,(al (⟨t3l,(al (⟨d2l,d2w⟩))⟩))⟩)))),(3,.p 0 0),(4,.p 1 0)] <| kZ <| kC (!(aM (⟨t6l,(al (⟨t3l,(al (⟨d2l,d2w⟩))⟩))⟩) (⟨t7l,(al (⟨t3l,(al (⟨d2l,d2w⟩))⟩))⟩))) (fun h8 => ?_) (fun h8 => ?_)
 have h8n := cd h8
 exfalso; rw [sameTable_eq (by dsimp only; exact (ht6l).trans (ht7l).symm) (by first | rfl | exact hputw | exact hputw.symm)] at h8n; cases h8n
 have h8n := bS h8
 refine kK <| kS <| kQ <| aY [3,4,5] [(5,aI 0)] ?_
 refine ap <| bo (α := {x : Nat // (fun (i : Nat) => i ≤ t3l.length) x}) (fun x => (fun (i : Nat) => (⟨[(3,.p 0 0),(4,.p 1 0),(5,aI (i : Int))],[⟨27,[.slice d2A d2l.length d2C,.slice d2D d2w.length d2E]⟩,⟨27,[.slice t3a t3l.length t3c,.slice t3d ((al (⟨d2l,d2w⟩)).length) t3e]⟩],[],[a8 w.heap.size 41 25 (.slice t7a t7l.length t7c) (t7l.map az),bc w.heap.size t7l,a8 w.heap.size 32 3 (.slice t7d ((al (⟨t3l,(al (⟨d2l,d2w⟩))⟩)).length) t7e) ((al (⟨t3l,(al (⟨d2l,d2w⟩))⟩)).map a5),a8 w.heap.size 41 25 (.slice t6a t6l.length t6c) (t6l.map az),bc w.heap.size t6l,a8 w.heap.size 32 3 (.slice t6d ((al (⟨t3l,(al (⟨d2l,d2w⟩))⟩)).length) t6e) ((al (⟨t3l,(al (⟨d2l,d2w⟩))⟩)).map a5),a8 w.heap.size 41 25 (.slice t4a t4l.length t4c) (t4l.map az),bc w.heap.size t4l,a8 w.heap.size 32 3 (.slice t4d ((al (⟨d2l,d2w⟩)).length) t4e) ((al (⟨d2l,d2w⟩)).map a5),a8 w.heap.size 41 25 (.slice t3a t3l.length t3c) (t3l.map az),bc w.heap.size t3l,a8 w.heap.size 32 3 (.slice t3d ((al (⟨d2l,d2w⟩)).length) t3e) ((al (⟨d2l,d2w⟩)).map a5),a8 w.heap.size 41 25 (.slice d2A d2l.length d2C) (d2l.map az),eA w.heap.size d2l,a8 w.heap.size 32 3 (.slice d2D d2w.length d2E) (d2w.map a5),aX (.slice Ac J.length Cc) 1 (J.map bR)]⟩ : St)) x.1) (fun x => (fun (i : Nat) => t3l.length - i) x.1) ⟨(0),Nat.zero_le _⟩ (kF 2 0 [3,4,5]) ?_
 rintro ⟨i,hi⟩
 try dsimp only
 try dsimp only at hi
 refine kS <| kQ <| aY [3,4,5,31] [(31,aB (decide ((i : Int) < ((t3l.length : Nat) : Int))))] <| kC (decide ((i : Int) < ((t3l.length : Nat) : Int))) (fun h9 => ?_) (fun h9 => ?_)
 have h9p := of_decide_eq_true h9
 have hlt : i < t3l.length := by have := of_decide_eq_true h9; omega
 obtain ⟨z,hz⟩ : ∃ z,t3l[i]? = some z := ⟨_,List.getElem?_eq_getElem hlt⟩
 have hzs : eB d2w z.1 = false := swept_no (t := ⟨d2l,d2w⟩) ht3l hz
 refine kK <| kS <| ap <| kQ <| da (kd := .i64) (T := 24) (e := 41) (K := 25) 3 [3,4,5,35,36] [(35,.v (.slice t3a t3l.length t3c)),(36,aI (i : Int))] i [iI z.1.t.ip,iI z.1.t.port,iI z.1.t.my,iI z.1.state,iI z.1.s.una,.string z.1.s.data,iI z.1.s.sent,.bool z.1.s.fin,.bool z.1.s.finSent,.bool z.1.s.done,iI z.1.r.next,.string z.1.r.data,z.2,iI z.1.r.fin,.bool z.1.r.done,iI z.1.window,iI z.1.most,iI z.1.o.mss,iI z.1.o.scale,.bool z.1.o.sack,.bool z.1.o.stamp,iI z.1.o.val,iI z.1.o.echo,iI z.1.timer,iI z.1.tries] (a8 w.heap.size 41 25 (.slice t3a t3l.length t3c) (t3l.map az)) (by kernel_rfl) rfl (by kernel_rfl) rfl rfl (by kernel_rfl) (by kernel_rfl) (by kernel_rfl) (by kernel_rfl) hlt (by simp) (fun w h => aw h) (fun b h => bg (B' := 0) h) (by simp only [List.getElem?_map,hz]; rfl) ?_
 refine aY [3,4,5,6] [(6,aB (z.1.state != 8))] <| kS <| kQ <| aY [3,4,5,6,7] [(7,aI 0)] ?_
 refine ap <| bo (α := {x : Nat × Bool // (fun (k : Nat) (m : Bool) => k ≤ d2w.length ∧ m = ((z.1.state != 8) || cU (d2w.take k) z.1.t)) x.1 x.2}) (fun x => (fun (k : Nat) (m : Bool) => (⟨[(3,.p 0 0),(4,.p 1 0),(5,aI (i : Int)),(6,aB m),(7,aI (k : Int))],[⟨27,[.slice d2A d2l.length d2C,.slice d2D d2w.length d2E]⟩,⟨27,[.slice t3a t3l.length t3c,.slice t3d ((al (⟨d2l,d2w⟩)).length) t3e]⟩],[[iI z.1.t.ip,iI z.1.t.port,iI z.1.t.my,iI z.1.state,iI z.1.s.una,.string z.1.s.data,iI z.1.s.sent,.bool z.1.s.fin,.bool z.1.s.finSent,.bool z.1.s.done,iI z.1.r.next,.string z.1.r.data,z.2,iI z.1.r.fin,.bool z.1.r.done,iI z.1.window,iI z.1.most,iI z.1.o.mss,iI z.1.o.scale,.bool z.1.o.sack,.bool z.1.o.stamp,iI z.1.o.val,iI z.1.o.echo,iI z.1.timer,iI z.1.tries]],[a8 w.heap.size 41 25 (.slice t7a t7l.length t7c) (t7l.map az),bc w.heap.size t7l,a8 w.heap.size 32 3 (.slice t7d ((al (⟨t3l,(al (⟨d2l,d2w⟩))⟩)).length) t7e) ((al (⟨t3l,(al (⟨d2l,d2w⟩))⟩)).map a5),a8 w.heap.size 41 25 (.slice t6a t6l.length t6c) (t6l.map az),bc w.heap.size t6l,a8 w.heap.size 32 3 (.slice t6d ((al (⟨t3l,(al (⟨d2l,d2w⟩))⟩)).length) t6e) ((al (⟨t3l,(al (⟨d2l,d2w⟩))⟩)).map a5),a8 w.heap.size 41 25 (.slice t4a t4l.length t4c) (t4l.map az),bc w.heap.size t4l,a8 w.heap.size 32 3 (.slice t4d ((al (⟨d2l,d2w⟩)).length) t4e) ((al (⟨d2l,d2w⟩)).map a5),a8 w.heap.size 41 25 (.slice t3a t3l.length t3c) (t3l.map az),bc w.heap.size t3l,a8 w.heap.size 32 3 (.slice t3d ((al (⟨d2l,d2w⟩)).length) t3e) ((al (⟨d2l,d2w⟩)).map a5),a8 w.heap.size 41 25 (.slice d2A d2l.length d2C) (d2l.map az),eA w.heap.size d2l,a8 w.heap.size 32 3 (.slice d2D d2w.length d2E) (d2w.map a5),aX (.slice Ac J.length Cc) 1 (J.map bR)]⟩ : St)) x.1.1 x.1.2) (fun x => (fun (k : Nat) (m : Bool) => d2w.length - k) x.1.1 x.1.2) ⟨(0,z.1.state != 8),⟨Nat.zero_le _,(by simp [cU])⟩⟩ (kF 2 1 [3,4,5,6,7]) ?_
 rintro ⟨⟨k,m⟩,hk,hM⟩
 try dsimp only
 try dsimp only at hk hM
 refine kS <| kQ <| aY [3,4,5,6,7,45] [(45,aB (decide ((k : Int) < ((d2w.length : Nat) : Int))))] <| kC (decide ((k : Int) < ((d2w.length : Nat) : Int))) (fun h10 => ?_) (fun h10 => ?_)
 have h10p := of_decide_eq_true h10
 have hjt : k < d2w.length := by have := of_decide_eq_true h10; omega
 obtain ⟨y,hy⟩ : ∃ y,d2w[k]? = some y := ⟨_,List.getElem?_eq_getElem hjt⟩
 refine kK <| kS <| ap <| dx ?_
 refine dr (K := 3) (j := k) [iI y.ip,iI y.port,iI y.my] (a8 w.heap.size 32 3 (.slice d2D d2w.length d2E) (d2w.map a5)) (fun _ _ h => h) (by simp) (fun w h => aw h) (fun b h => bg (B' := 0) h) (by simp only [List.getElem?_map,hy]; rfl) (fun bq11 offq11 hAq11 => ?_)
 refine dr (K := 25) (j := i) [iI z.1.t.ip,iI z.1.t.port,iI z.1.t.my,iI z.1.state,iI z.1.s.una,.string z.1.s.data,iI z.1.s.sent,.bool z.1.s.fin,.bool z.1.s.finSent,.bool z.1.s.done,iI z.1.r.next,.string z.1.r.data,z.2,iI z.1.r.fin,.bool z.1.r.done,iI z.1.window,iI z.1.most,iI z.1.o.mss,iI z.1.o.scale,.bool z.1.o.sack,.bool z.1.o.stamp,iI z.1.o.val,iI z.1.o.echo,iI z.1.timer,iI z.1.tries] (a8 w.heap.size 41 25 (.slice t3a t3l.length t3c) (t3l.map az)) (fun _ _ h => h) (by simp) (fun w h => aw h) (fun b h => bg (B' := 0) h) (by simp only [List.getElem?_map,hz]; rfl) (fun bq12 offq12 hAq12 => ?_)
 refine ca [] (by kernel_rfl) (fun ρ σ hq13 => ?_)
 refine cJ [0,1] [49,3,4,5,6,7] 14 [(49,aB m),(3,.p 0 0),(4,.p 1 0),(5,aI (i : Int)),(6,aB m),(7,aI (k : Int))] <| kY 49 (m) (fun h14 => ?_) (fun h14 => ?_)
 refine cJ [2,3,4,7,8,9] [57,56,52,51,49,3,4,5,6,7] 8 [(57,.v undef),(56,.v undef),(52,.v undef),(51,.v undef),(49,aB true),(3,.p 0 0),(4,.p 1 0),(5,aI (i : Int)),(6,aB m),(7,aI (k : Int))] <| xe_skip 5 ⟨[(53,.v undef),(57,.v undef),(56,.v undef),(52,.v undef),(51,.v undef),(49,aB true),(3,.p 0 0),(4,.p 1 0),(5,aI (i : Int)),(6,aB m),(7,aI (k : Int))],[⟨27,[.slice d2A d2l.length d2C,.slice d2D d2w.length d2E]⟩,⟨27,[.slice t3a t3l.length t3c,.slice t3d ((al (⟨d2l,d2w⟩)).length) t3e]⟩],[[iI z.1.t.ip,iI z.1.t.port,iI z.1.t.my,iI z.1.state,iI z.1.s.una,.string z.1.s.data,iI z.1.s.sent,.bool z.1.s.fin,.bool z.1.s.finSent,.bool z.1.s.done,iI z.1.r.next,.string z.1.r.data,z.2,iI z.1.r.fin,.bool z.1.r.done,iI z.1.window,iI z.1.most,iI z.1.o.mss,iI z.1.o.scale,.bool z.1.o.sack,.bool z.1.o.stamp,iI z.1.o.val,iI z.1.o.echo,iI z.1.timer,iI z.1.tries],[iI y.ip,iI y.port,iI y.my],[iI z.1.t.ip,iI z.1.t.port,iI z.1.t.my,iI z.1.state,iI z.1.s.una,.string z.1.s.data,iI z.1.s.sent,.bool z.1.s.fin,.bool z.1.s.finSent,.bool z.1.s.done,iI z.1.r.next,.string z.1.r.data,z.2,iI z.1.r.fin,.bool z.1.r.done,iI z.1.window,iI z.1.most,iI z.1.o.mss,iI z.1.o.scale,.bool z.1.o.sack,.bool z.1.o.stamp,iI z.1.o.val,iI z.1.o.echo,iI z.1.timer,iI z.1.tries]],[a8 w.heap.size 41 25 (.slice t7a t7l.length t7c) (t7l.map az),bc w.heap.size t7l,a8 w.heap.size 32 3 (.slice t7d ((al (⟨t3l,(al (⟨d2l,d2w⟩))⟩)).length) t7e) ((al (⟨t3l,(al (⟨d2l,d2w⟩))⟩)).map a5),a8 w.heap.size 41 25 (.slice t6a t6l.length t6c) (t6l.map az),bc w.heap.size t6l,a8 w.heap.size 32 3 (.slice t6d ((al (⟨t3l,(al (⟨d2l,d2w⟩))⟩)).length) t6e) ((al (⟨t3l,(al (⟨d2l,d2w⟩))⟩)).map a5),a8 w.heap.size 41 25 (.slice t4a t4l.length t4c) (t4l.map az),bc w.heap.size t4l,a8 w.heap.size 32 3 (.slice t4d ((al (⟨d2l,d2w⟩)).length) t4e) ((al (⟨d2l,d2w⟩)).map a5),a8 w.heap.size 41 25 (.slice t3a t3l.length t3c) (t3l.map az),bc w.heap.size t3l,a8 w.heap.size 32 3 (.slice t3d ((al (⟨d2l,d2w⟩)).length) t3e) ((al (⟨d2l,d2w⟩)).map a5),a8 w.heap.size 41 25 (.slice d2A d2l.length d2C) (d2l.map az),eA w.heap.size d2l,a8 w.heap.size 32 3 (.slice d2D d2w.length d2E) (d2w.map a5),aX (.slice Ac J.length Cc) 1 (J.map bR)]⟩ rfl (by kernel_rfl) (by kernel_rfl) (by kernel_rfl) (fun _ _ h => h) (by kernel_rfl) rfl (by kernel_rfl) ?_
 refine cJ [6] [54,57,56,49,3,4,5,6,7] 6 [(54,.v undef),(57,.v undef),(56,.v undef),(49,aB true),(3,.p 0 0),(4,.p 1 0),(5,aI (i : Int)),(6,aB m),(7,aI (k : Int))] <| xe_skip 10 ⟨[(58,.v undef),(54,.v undef),(57,.v undef),(56,.v undef),(49,aB true),(3,.p 0 0),(4,.p 1 0),(5,aI (i : Int)),(6,aB m),(7,aI (k : Int))],[⟨27,[.slice d2A d2l.length d2C,.slice d2D d2w.length d2E]⟩,⟨27,[.slice t3a t3l.length t3c,.slice t3d ((al (⟨d2l,d2w⟩)).length) t3e]⟩],[[iI z.1.t.ip,iI z.1.t.port,iI z.1.t.my,iI z.1.state,iI z.1.s.una,.string z.1.s.data,iI z.1.s.sent,.bool z.1.s.fin,.bool z.1.s.finSent,.bool z.1.s.done,iI z.1.r.next,.string z.1.r.data,z.2,iI z.1.r.fin,.bool z.1.r.done,iI z.1.window,iI z.1.most,iI z.1.o.mss,iI z.1.o.scale,.bool z.1.o.sack,.bool z.1.o.stamp,iI z.1.o.val,iI z.1.o.echo,iI z.1.timer,iI z.1.tries],[iI y.ip,iI y.port,iI y.my],[iI z.1.t.ip,iI z.1.t.port,iI z.1.t.my,iI z.1.state,iI z.1.s.una,.string z.1.s.data,iI z.1.s.sent,.bool z.1.s.fin,.bool z.1.s.finSent,.bool z.1.s.done,iI z.1.r.next,.string z.1.r.data,z.2,iI z.1.r.fin,.bool z.1.r.done,iI z.1.window,iI z.1.most,iI z.1.o.mss,iI z.1.o.scale,.bool z.1.o.sack,.bool z.1.o.stamp,iI z.1.o.val,iI z.1.o.echo,iI z.1.timer,iI z.1.tries]],[a8 w.heap.size 41 25 (.slice t7a t7l.length t7c) (t7l.map az),bc w.heap.size t7l,a8 w.heap.size 32 3 (.slice t7d ((al (⟨t3l,(al (⟨d2l,d2w⟩))⟩)).length) t7e) ((al (⟨t3l,(al (⟨d2l,d2w⟩))⟩)).map a5),a8 w.heap.size 41 25 (.slice t6a t6l.length t6c) (t6l.map az),bc w.heap.size t6l,a8 w.heap.size 32 3 (.slice t6d ((al (⟨t3l,(al (⟨d2l,d2w⟩))⟩)).length) t6e) ((al (⟨t3l,(al (⟨d2l,d2w⟩))⟩)).map a5),a8 w.heap.size 41 25 (.slice t4a t4l.length t4c) (t4l.map az),bc w.heap.size t4l,a8 w.heap.size 32 3 (.slice t4d ((al (⟨d2l,d2w⟩)).length) t4e) ((al (⟨d2l,d2w⟩)).map a5),a8 w.heap.size 41 25 (.slice t3a t3l.length t3c) (t3l.map az),bc w.heap.size t3l,a8 w.heap.size 32 3 (.slice t3d ((al (⟨d2l,d2w⟩)).length) t3e) ((al (⟨d2l,d2w⟩)).map a5),a8 w.heap.size 41 25 (.slice d2A d2l.length d2C) (d2l.map az),eA w.heap.size d2l,a8 w.heap.size 32 3 (.slice d2D d2w.length d2E) (d2w.map a5),aX (.slice Ac J.length Cc) 1 (J.map bR)]⟩ rfl (by kernel_rfl) (by kernel_rfl) (by kernel_rfl) (fun _ _ h => h) (by kernel_rfl) rfl (by kernel_rfl) ?_
 refine cJ [11,12,13,14,15] [6,3,4,5,7] 0 [(6,aB true),(3,.p 0 0),(4,.p 1 0),(5,aI (i : Int)),(7,aI (k : Int))] <| kZ <| kG <| dl 3 [3,4,5,6,7] [(7,aI (K6.wrap ((k : Int) + 1)))] ?_
 refine bE [3,4,5,6,7] [(7,aI (K6.wrap ((k : Int) + 1)))] [(7,aI ((k : Int) + 1))] (by rw [show (K6.wrap ((k : Int) + 1)) = ((k : Int) + 1) from ao (by omega) (by omega)]) (by kernel_rfl) ?_
 refine aY [3,4,5,6,7] [] ?_
 exact ⟨⟨(k + 1,true),⟨hjt,met_s hy hM (by first | (rw [h14]; done) | (rw [h14]; rfl))⟩⟩,kF 2 1 [3,4,5,6,7],by show (fun (k : Nat) (m : Bool) => d2w.length - k) (k + 1) true < d2w.length - k; (dsimp only; omega)⟩
 refine cJ [2,3,4,7,8,9] [57,56,52,51,49,3,4,5,6,7] 8 [(57,aI (i : Int)),(56,.v (.slice t3a t3l.length t3c)),(52,aI (k : Int)),(51,.v (.slice d2D d2w.length d2E)),(49,aB false),(3,.p 0 0),(4,.p 1 0),(5,aI (i : Int)),(6,aB m),(7,aI (k : Int))] <| cM (kd := .i64) (T := 25) (e := 32) (K := 3) (j := k) (A := d2D) (len := d2w.length) (cap := d2E) 5 1 _ rfl (by kernel_rfl) (by kernel_rfl) (by kernel_rfl) (fun _ _ h => h) (by kernel_rfl) rfl rfl (by kernel_rfl) (by kernel_rfl) (by kernel_rfl) (by kernel_rfl) hjt hAq11 hq13.1.2 (by kernel_rfl) rfl ?_
 refine cJ [6] [54,57,56,49,3,4,5,6,7] 6 [(54,.v (.agg (bt y).toArray)),(57,aI (i : Int)),(56,.v (.slice t3a t3l.length t3c)),(49,aB false),(3,.p 0 0),(4,.p 1 0),(5,aI (i : Int)),(6,aB m),(7,aI (k : Int))] <| cM (kd := .i64) (T := 24) (e := 41) (K := 25) (j := i) (A := t3a) (len := t3l.length) (cap := t3c) 10 2 _ rfl (by kernel_rfl) (by kernel_rfl) (by kernel_rfl) (fun _ _ h => h) (by kernel_rfl) rfl rfl (by kernel_rfl) (by kernel_rfl) (by kernel_rfl) (by kernel_rfl) hlt hAq12 hq13.2 (by kernel_rfl) rfl ?_
 refine cJ [11,12] [60,54,49,3,4,5,6,7] 3 [(60,.v (.agg (bt z.1.t).toArray)),(54,.v (.agg (bt y).toArray)),(49,aB false),(3,.p 0 0),(4,.p 1 0),(5,aI (i : Int)),(6,aB m),(7,aI (k : Int))] <| kX 13 (.bool (bd y z.1.t)) rfl (fun _ _ ww hA => cb hA rfl (by kernel_rfl) (by kernel_rfl) (fZ (by kernel_rfl) (eJ y.ip y.port y.my z.1.t.ip z.1.t.port z.1.t.my ww))) ?_
 refine cJ [14,15] [6,3,4,5,7] 0 [(6,aB (bd y z.1.t)),(3,.p 0 0),(4,.p 1 0),(5,aI (i : Int)),(7,aI (k : Int))] <| kZ <| kG <| dl 3 [3,4,5,6,7] [(7,aI (K6.wrap ((k : Int) + 1)))] ?_
 refine bE [3,4,5,6,7] [(7,aI (K6.wrap ((k : Int) + 1)))] [(7,aI ((k : Int) + 1))] (by rw [show (K6.wrap ((k : Int) + 1)) = ((k : Int) + 1) from ao (by omega) (by omega)]) (by kernel_rfl) ?_
 refine aY [3,4,5,6,7] [] ?_
 exact ⟨⟨(k + 1,bd y z.1.t),⟨hjt,met_s hy hM (by first | (rw [h14]; done) | (rw [h14]; rfl))⟩⟩,kF 2 1 [3,4,5,6,7],by show (fun (k : Nat) (m : Bool) => d2w.length - k) (k + 1) (bd y z.1.t) < d2w.length - k; (dsimp only; omega)⟩
 have h10p := of_decide_eq_false h10
 have hjk : k = d2w.length := by have := of_decide_eq_false h10; omega
 have hmt : m = true := met_all hM hjk hzs
 refine bY <| kQ <| aY [3,4,5,64] [(64,aB (!m))] <| kC (!m) (fun h15 => ?_) (fun h15 => ?_)
 have h15n := cd h15
 exfalso; rw [hmt] at h15n; cases h15n
 have h15n := bS h15
 refine kK <| kG <| dl 3 [3,4,5] [(5,aI (K6.wrap ((i : Int) + 1)))] <| bE [3,4,5] [(5,aI (K6.wrap ((i : Int) + 1)))] [(5,aI ((i : Int) + 1))] (by rw [show (K6.wrap ((i : Int) + 1)) = ((i : Int) + 1) from ao (by omega) (by omega)]) (by kernel_rfl) ?_
 refine aY [3,4,5] [] ?_
 exact ⟨⟨(i + 1),hlt⟩,kF 2 0 [3,4,5],by show (fun (i : Nat) => t3l.length - i) (i + 1) < t3l.length - i; (dsimp only; omega)⟩
 have h9p := of_decide_eq_false h9
 refine bY <| kQ <| dl 8 [3,4,72] [(72,aB (decide (((t3l.length : Nat) : Int) ≤ ((d2l.length : Nat) : Int))))] <| kP 72 (decide (((t3l.length : Nat) : Int) ≤ ((d2l.length : Nat) : Int))) (fun h16 => ?_) (fun h16 => ?_)
 have h16p := of_decide_eq_true h16
 refine aE [2] [(2,aB (decide ((((al (⟨d2l,d2w⟩)).length : Nat) : Int) ≤ ((d2w.length : Nat) : Int))))] <| kR ?_
 exact ⟨[.bool (decide ((((al (⟨d2l,d2w⟩)).length : Nat) : Int) ≤ ((d2w.length : Nat) : Int)))],by kernel_rfl,fun w' hb hf => ⟨aQ (show (decide ((((al (⟨d2l,d2w⟩)).length : Nat) : Int) ≤ ((d2w.length : Nat) : Int)) : Bool) = true from by first | exact decide_eq_true (by have := go ⟨d2l,d2w⟩; dsimp only at this; omega) | (simp_all; done)),hb⟩⟩
 have h16p := of_decide_eq_false h16
 exfalso; have := of_decide_eq_false h16; omega

set_option maxRecDepth 100000 in
theorem fnSwept_lifted (os : Os) (started : os.Started) (H : Type) (enc : TypeId × Value → H) :
    ReturnsInHanded {} Tryz.checked os 3 .any (Rows.fnSweptSpec.pre6 enc Tryz.prog Tryz.f3 Rows.fnSweptRow.domain false) (Rows.fnSweptSpec.post enc Tryz.prog Tryz.f3 false true false false) := by
  refine returnsInHanded_of_change (C := Tryz.checked) Tryz.ownK started (by kernel_rfl) Tryz.func3
    (ChangeSpec.witness6 (enc := enc) (C := Tryz.checked) false ⟨#[], #[.slice none 0 0], []⟩ 8 (by kernel_rfl) (by kernel_rfl) (by kernel_rfl) (by kernel_rfl)) ?_
  intro W base args ds gs before hval0 hW hcnd _
  have hval : ∀ (j : Nat) t v, Tryz.f3.params[j]? = some t → args[j]? = some v → Value.okWide Tryz.prog W .any base t v := hval0
  have hW' := hW
  obtain ⟨p, q, hA0, hV, rfl, hfz, hnd⟩ := hW
  have hA : DataW.TrodAll enc Tryz.prog W 0 (fun _ => true) true Tryz.f3.params.toList args.toList ds p := hA0
  rw [Tryz.params3] at hA hval
  obtain ⟨v0, vs0, d0, ds0, p0, q0, hargs, rfl, rfl, h0, r0⟩ := trodAll_cons hA
  obtain ⟨rfl, rfl, rfl⟩ := trodAll_nil r0
  obtain rfl : args = #[v0] := by cases args; simp_all
  obtain ⟨rfl, rfl⟩ := trodVars_none hV
  clear hA0 hval0
  have g0 := h0
  obtain ⟨l0, L0⟩ := openS_byte (hval 0 _ v0 rfl rfl) g0
  refine (fnSwept_walk l0 v0 W L0).mono fun e W' ⟨he, hb⟩ => ?_
  subst he
  have hlt : ∀ x ∈ (p0 ++ ([])) ++ [], x.block < W.heap.size := fun x hx => hW'.lt x hx
  refine ⟨_, rfl, post_of_below (pa := (p0 ++ ([]))) (pv := []) hW' (fun _ _ _ => trodAll_cons_mk (shut_bool Tryz.underlying4 _) trodAll_mk0) (fun sp hsp => trodAll_cons_mk (WideElems.Trod_stays Tryz.laidOut (by kernel_rfl) (of_decide_eq_true (by kernel_rfl)) h0 (fun x hx => hb.same (hlt x (List.mem_append_left _ (List.mem_append_left _ hx)))) (fun x hx => hsp x (List.mem_append_left _ (List.mem_append_left _ hx)))) (trodAll_mk0)) (fun _ _ => rfl) rfl hb (ok_one (by kernel_rfl) rfl (okWide_bool_mk Tryz.underlying4 _))⟩

theorem fnSwept_over : Rows.fnSweptRow.holds Tryz.pinned (OpenSpec.ofChange Rows.fnSweptSpec) :=
  OpenClaim.holds_of_wide 3 Tryz.f3 rfl rfl rfl rfl rfl rfl rfl ⟨rfl, rfl, rfl, rfl, rfl⟩ rfl rfl rfl rfl rfl (by kernel_rfl) Tryz.func3 (by kernel_rfl)
    (of_decide_eq_true (by kernel_rfl)) (by unfold Func.isWrapper; first | (rw [if_pos (by decide +kernel)]; kernel_rfl) | (rw [if_neg (by decide +kernel)]; exact ⟨rfl, rfl⟩))
    (fun os started H enc _ => fnSwept_lifted os started H enc)

theorem fnSwept_holds : Rows.FnSweptSaid := fnSwept_over
#print axioms fnSwept_holds
end Go.Proofs.YtccijpdjfelbmaaGreat
