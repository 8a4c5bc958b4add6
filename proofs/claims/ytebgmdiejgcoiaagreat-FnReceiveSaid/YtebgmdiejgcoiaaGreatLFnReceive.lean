/- The law FnReceive holds: for every argument the program's function answers true and leaves its arguments as they were. Conditions: none beyond the given row's. -/
import Derived.Test.YtebgmdiejgcoiaaGreatZ5
import Derived.Test.YtebgmdiejgcoiaaGreatG3
import Derived.Test.YtebgmdiejgcoiaaGreatG2
namespace Go.Proofs.YtebgmdiejgcoiaaGreat
open Go.RowKit Go.ChangeShapes Go.WideShapes Go.ChangeAt
set_option linter.unusedVariables false
set_option linter.unusedSimpArgs false

set_option maxRecDepth 100000 in
set_option maxHeartbeats 2000000 in
theorem fnReceive_walk (J : List Int) (codeV : Value) (w : World) (hl_codeV : Sl w codeV 1 (J.map bR)) : Calls Tryz.prog 4 #[codeV] w fun e w' => e = .returned (.bool true) ∧ Below w.heap.size w w' := by
 obtain ⟨Ac,Cc,hvc⟩ := hl_codeV.form
 rw [List.length_map] at hvc; subst hvc
 have hnc := hl_codeV.len; rw [List.length_map] at hnc
 have hqc := Sl.capLe hl_codeV
 refine bH (args := [.slice Ac J.length Cc]) (fn := Tryz.f4) [c7 (.slice Ac J.length Cc) 1 (J.map bR)] Tryz.func4 rfl Tryz.ntmps4 rfl (by simp only [List.mem_cons,List.not_mem_nil,or_false,forall_eq_or_imp,forall_eq]; exact ⟨rfl,hl_codeV⟩) ?_
 refine kQ <| c8 [0] ⟨[(0,.v (.slice Ac J.length Cc))],[],[],[c7 (.slice Ac J.length Cc) 1 (J.map bR)]⟩ <| kS <| kQ <| dy 1 [0,11] [(11,.v (.slice Ac J.length Cc))] 18 [.slice Ac J.length Cc] (some 12) rfl (aA fun ww hf => big_c J Ac Cc ww (hf _ m0)) ?_
 intro _
 refine aR [0,12] [] <| kC (decide (((J.length : Nat) : Int) > 1048576)) (fun h1 => ?_) (fun h1 => ?_)
 have h1p := of_decide_eq_true h1
 refine kQ <| aJ [2] [(2,aB true)] <| kR ?_
 exact ⟨[.bool true],by kernel_rfl,fun w' hb hf => ⟨rfl,hb⟩⟩
 have h1p := of_decide_eq_false h1
 have hbig : J.length ≤ 1048576 := by simp at h1; omega
 refine kK <| kQ <| dh 1 [14] [(14,.v (.slice Ac J.length Cc))] 19 [.slice Ac J.length Cc] (some 15) rfl (xc_newF (α := {y : (Con × Seg) × (Option Addr × Nat) // RB 4 y.1.1.r ∧ y.1.2.body.size ≤ 4096}) (F := fun y => .tuple #[.agg #[iI y.1.1.1.t.ip,iI y.1.1.1.t.port,iI y.1.1.1.t.my,iI y.1.1.1.state,iI y.1.1.1.s.una,.string y.1.1.1.s.data,iI y.1.1.1.s.sent,.bool y.1.1.1.s.fin,.bool y.1.1.1.s.finSent,.bool y.1.1.1.s.done,iI y.1.1.1.r.next,.string y.1.1.1.r.data,.slice y.1.2.1 y.1.1.1.r.held.length y.1.2.2,iI y.1.1.1.r.fin,.bool y.1.1.1.r.done,iI y.1.1.1.window,iI y.1.1.1.most,iI y.1.1.1.o.mss,iI y.1.1.1.o.scale,.bool y.1.1.1.o.sack,.bool y.1.1.1.o.stamp,iI y.1.1.1.o.val,iI y.1.1.1.o.echo,iI y.1.1.1.timer,iI y.1.1.1.tries],.agg (aG y.1.1.2).toArray]) (v := fun y => .slice y.1.2.1 y.1.1.1.r.held.length y.1.2.2) (rs := fun y => y.1.1.1.r.held.map pC) fun ww hw hf => drawReceive_c J Ac Cc ww (hf _ m0) (by omega)) ?_
 rintro ⟨⟨⟨d2a,d2b⟩,d2A,d2C⟩,hd2⟩
 dsimp only at hd2
 have hkn := hd2.1.kn; have hm := hd2.1.hm; have hsz := hd2.1.sz
 have hrd1 := hd2.1.1; have hrd2 := hd2.1.2.2
 have hbs := hd2.2
 have hrv := rcd_v d2a d2b; have hrg := eQ d2a d2b
 refine i5 [3,4] [(3,.p 0 0),(4,.p 1 0)] [⟨44,a7 d2a (cS d2A d2a d2C)⟩,⟨50,aG d2b⟩] <| kQ <| dy 2 [3,4,19,20] [(19,.v (.agg (a7 d2a (cS d2A d2a d2C)).toArray)),(20,.v (.agg (aG d2b).toArray))] 11 [.agg (a7 d2a (cS d2A d2a d2C)).toArray,.agg (aG d2b).toArray] (some 21) rfl (cZ fun ww hw hf => yiReceive_c d2a (cS d2A d2a d2C) d2b ww (hf _ m0).1 (by assumption) (by omega) (by assumption) (by omega) w.heap.size hw) ?_
 rintro ⟨⟨v3a,v3c⟩,⟨v4a,v4c⟩⟩
 have hrb5 := RB.recv (hd2.1) (by omega) d2b; have hrb5a := hrb5.kn; have hrb5b := hrb5.hm; have hrb5c := hrb5.sz
 refine i5 [3,4,5,6,7] [(5,.p 2 0),(6,.v (.slice v4a ((a8 d2a d2b).2.1.length) v4c)),(7,aI ((a8 d2a d2b).2.2))] [⟨44,a7 (a8 d2a d2b).1 (.slice v3a ((a8 d2a d2b).1.r.held.length) v3c)⟩] <| kQ <| dy 2 [3,5,6,7,26,27] [(26,.v (.agg (a7 d2a (cS d2A d2a d2C)).toArray)),(27,.v (.agg (aG d2b).toArray))] 8 [.agg (a7 d2a (cS d2A d2a d2C)).toArray,.agg (aG d2b).toArray] (some 28) rfl (cZ fun ww hw hf => gH d2a (cS d2A d2a d2C) d2b ww (hf _ m2).1 (by assumption) (by omega) (by assumption) (by omega) w.heap.size hw) ?_
 rintro ⟨⟨v6a,v6c⟩,⟨v7a,v7c⟩⟩
 refine i5 [3,5,6,7,8,9,10] [(8,.p 3 0),(9,.v (.slice v7a ((a8 d2a d2b).2.1.length) v7c)),(10,aI ((a8 d2a d2b).2.2))] [⟨44,a7 (a8 d2a d2b).1 (.slice v6a ((a8 d2a d2b).1.r.held.length) v6c)⟩] <| kS <| kQ <| cA 4 [3,5,6,7,8,9,35] [(35,aB (((a8 d2a d2b).2.2) != ((a8 d2a d2b).2.2)))] ?_
 refine kP 35 (((a8 d2a d2b).2.2) != ((a8 d2a d2b).2.2)) (fun h8 => ?_) (fun h8 => ?_)
 simp at h8
 have h8p := neF h8
 refine dy 2 [3,5,6,7,8,9,35,36,37] [(35,aB false),(36,.v (.agg (a7 (a8 d2a d2b).1 (.slice v3a ((a8 d2a d2b).1.r.held.length) v3c)).toArray)),(37,.v (.agg (a7 (a8 d2a d2b).1 (.slice v6a ((a8 d2a d2b).1.r.held.length) v6c)).toArray))] 20 [.agg (a7 (a8 d2a d2b).1 (.slice v3a ((a8 d2a d2b).1.r.held.length) v3c)).toArray,.agg (a7 (a8 d2a d2b).1 (.slice v6a ((a8 d2a d2b).1.r.held.length) v6c)).toArray] (some 38) rfl (aA fun ww hf => iZ ((a8 d2a d2b).1) (.slice v3a ((a8 d2a d2b).1.r.held.length) v3c) ((a8 d2a d2b).1) (.slice v6a ((a8 d2a d2b).1.r.held.length) v6c) ww (Own.sl (hf _ m2)) (Own.sl (hf _ m0)) ) ?_
 intro _
 refine cA 3 [3,5,6,7,8,9,41] [(41,aB (!(dn ((a8 d2a d2b).1) ((a8 d2a d2b).1))))] <| kP 41 (!(dn ((a8 d2a d2b).1) ((a8 d2a d2b).1))) (fun h9 => ?_) (fun h9 => ?_)
 have h9n := bg h9
 exfalso; rw [em] at h9n; cases h9n
 have h9n := aD h9
 refine dy 2 [3,5,6,7,8,41,42,43] [(41,aB false),(42,.v (.slice v4a ((a8 d2a d2b).2.1.length) v4c)),(43,.v (.slice v7a ((a8 d2a d2b).2.1.length) v7c))] 21 [.slice v4a ((a8 d2a d2b).2.1.length) v4c,.slice v7a ((a8 d2a d2b).2.1.length) v7c] (some 44) rfl (aA fun ww hf => ysameSegments_c ((a8 d2a d2b).2.1) (.slice v4a ((a8 d2a d2b).2.1.length) v4c) ((a8 d2a d2b).2.1) (.slice v7a ((a8 d2a d2b).2.1.length) v7c) ww (Own.sl (hf _ m3)) (Own.sl (hf _ m1)) ) ?_
 intro _
 refine cA 3 [3,5,6,7,8,47] [(47,aB (!(ew gv (a8 d2a d2b).2.1 (a8 d2a d2b).2.1)))] <| kP 47 (!(ew gv (a8 d2a d2b).2.1 (a8 d2a d2b).2.1)) (fun h10 => ?_) (fun h10 => ?_)
 have h10n := bg h10
 exfalso; rw [sameSeg_self] at h10n; cases h10n
 have h10n := aD h10
 refine dh 2 [3,5,6,7,47,48,49] [(3,.p 0 0),(5,.p 2 0),(6,.v (.slice v4a ((a8 d2a d2b).2.1.length) v4c)),(7,aI ((a8 d2a d2b).2.2)),(47,aB false),(48,.v (.agg (a7 (a8 d2a d2b).1 (.slice v3a ((a8 d2a d2b).1.r.held.length) v3c)).toArray)),(49,.v (.agg (a7 (a8 d2a d2b).1 (.slice v6a ((a8 d2a d2b).1.r.held.length) v6c)).toArray))] 22 [.agg (a7 (a8 d2a d2b).1 (.slice v3a ((a8 d2a d2b).1.r.held.length) v3c)).toArray,.agg (a7 (a8 d2a d2b).1 (.slice v6a ((a8 d2a d2b).1.r.held.length) v6c)).toArray] (some 50) rfl (aA fun ww hf => yiSameConn_c ((a8 d2a d2b).1) (.slice v3a ((a8 d2a d2b).1.r.held.length) v3c) ((a8 d2a d2b).1) (.slice v6a ((a8 d2a d2b).1.r.held.length) v6c) ww (Own.sl (hf _ m2)) (Own.sl (hf _ m0)) ) ?_
 intro _
 refine aR [3,5,6,7,52] [(52,aB (!(dn ((a8 d2a d2b).1) ((a8 d2a d2b).1))))] <| kC (!(dn ((a8 d2a d2b).1) ((a8 d2a d2b).1))) (fun h11 => ?_) (fun h11 => ?_)
 have h11n := bg h11
 exfalso; rw [em] at h11n; cases h11n
 have h11n := aD h11
 refine kK <| kS <| kQ <| aR [3,5,6,53] [(53,aI ((a8 d2a d2b).2.2))] ?_
 refine aZ <| kQ <| aR [3,5,6,53,54] [(54,aB (((a8 d2a d2b).2.2) == 1))] <| kC (((a8 d2a d2b).2.2) == 1) (fun h12 => ?_) (fun h12 => ?_)
 have h12p := bC h12
 have hd1 := rcd_drop (hrv.symm.trans (bC h12))
 refine kQ <| dy 2 [6,56,57] [(56,.v (.agg (a7 (a8 d2a d2b).1 (.slice v3a ((a8 d2a d2b).1.r.held.length) v3c)).toArray)),(57,.v (.agg (a7 d2a (cS d2A d2a d2C)).toArray))] 20 [.agg (a7 (a8 d2a d2b).1 (.slice v3a ((a8 d2a d2b).1.r.held.length) v3c)).toArray,.agg (a7 d2a (cS d2A d2a d2C)).toArray] (some 58) rfl (aA fun ww hf => iZ ((a8 d2a d2b).1) (.slice v3a ((a8 d2a d2b).1.r.held.length) v3c) d2a (cS d2A d2a d2C) ww (Own.sl (hf _ m2)) (hf _ m4).1 ) ?_
 intro _
 refine cA 1 [6,59] [(59,aB (dn ((a8 d2a d2b).1) d2a))] <| kP 59 (dn ((a8 d2a d2b).1) d2a) (fun h13 => ?_) (fun h13 => ?_)
 refine aJ [2] [(2,aB ((((a8 d2a d2b).2.1.length : Nat) : Int) == 0))] <| kR ?_
 exact ⟨[.bool ((((a8 d2a d2b).2.1.length : Nat) : Int) == 0)],by kernel_rfl,fun w' hb hf => ⟨aU (show ((((a8 d2a d2b).2.1.length : Nat) : Int) == 0 : Bool) = true from by first | (rw [hd1]; rfl) | (rw [hd2.2]; rfl) | (rw [hd3.2]; rfl) | (rw [hd4.2.2.2]; exact gM _) | exact i9 (by omega)),hb⟩⟩
 exfalso; first | (rw [hd1,em] at h13; cases h13) | (rw [hd3.1,em] at h13; cases h13)
 have h12p := bA h12
 have hn1 : ¬ a9 d2a d2b = 1 := fun q => neq_of (bA h12) (hrv.trans q)
 refine kQ <| aR [3,5,6,53,64] [(64,aB (((a8 d2a d2b).2.2) == 2))] <| kC (((a8 d2a d2b).2.2) == 2) (fun h14 => ?_) (fun h14 => ?_)
 have h14p := bC h14
 have hd2 := rcd_reset (hrv.symm.trans (bC h14))
 refine kQ <| cA 4 [6,69] [(69,aB (((a8 d2a d2b).1.state) == 8))] <| kP 69 (((a8 d2a d2b).1.state) == 8) (fun h15 => ?_) (fun h15 => ?_)
 have h15p := bC h15
 refine aJ [2] [(2,aB ((((a8 d2a d2b).2.1.length : Nat) : Int) == 0))] <| kR ?_
 exact ⟨[.bool ((((a8 d2a d2b).2.1.length : Nat) : Int) == 0)],by kernel_rfl,fun w' hb hf => ⟨aU (show ((((a8 d2a d2b).2.1.length : Nat) : Int) == 0 : Bool) = true from by first | (rw [hd1]; rfl) | (rw [hd2.2]; rfl) | (rw [hd3.2]; rfl) | (rw [hd4.2.2.2]; exact gM _) | exact i9 (by omega)),hb⟩⟩
 have h15p := bA h15
 exfalso; rw [hd2.1] at h15; simp at h15
 have h14p := bA h14
 have hn2 : ¬ a9 d2a d2b = 2 := fun q => neq_of (bA h14) (hrv.trans q)
 refine kQ <| aR [3,5,6,53,74] [(74,aB (((a8 d2a d2b).2.2) == 3))] <| kC (((a8 d2a d2b).2.2) == 3) (fun h16 => ?_) (fun h16 => ?_)
 have h16p := bC h16
 have hd3 := rcd_chal (hrv.symm.trans (bC h16))
 refine kQ <| dy 2 [6,76,77] [(76,.v (.agg (a7 (a8 d2a d2b).1 (.slice v3a ((a8 d2a d2b).1.r.held.length) v3c)).toArray)),(77,.v (.agg (a7 d2a (cS d2A d2a d2C)).toArray))] 20 [.agg (a7 (a8 d2a d2b).1 (.slice v3a ((a8 d2a d2b).1.r.held.length) v3c)).toArray,.agg (a7 d2a (cS d2A d2a d2C)).toArray] (some 78) rfl (aA fun ww hf => iZ ((a8 d2a d2b).1) (.slice v3a ((a8 d2a d2b).1.r.held.length) v3c) d2a (cS d2A d2a d2C) ww (Own.sl (hf _ m2)) (hf _ m4).1 ) ?_
 intro _
 refine cA 1 [6,79] [(79,aB (dn ((a8 d2a d2b).1) d2a))] <| kP 79 (dn ((a8 d2a d2b).1) d2a) (fun h17 => ?_) (fun h17 => ?_)
 refine aJ [2] [(2,aB ((((a8 d2a d2b).2.1.length : Nat) : Int) == 1))] <| kR ?_
 exact ⟨[.bool ((((a8 d2a d2b).2.1.length : Nat) : Int) == 1)],by kernel_rfl,fun w' hb hf => ⟨aU (show ((((a8 d2a d2b).2.1.length : Nat) : Int) == 1 : Bool) = true from by first | (rw [hd1]; rfl) | (rw [hd2.2]; rfl) | (rw [hd3.2]; rfl) | (rw [hd4.2.2.2]; exact gM _) | exact i9 (by omega)),hb⟩⟩
 exfalso; first | (rw [hd1,em] at h17; cases h17) | (rw [hd3.1,em] at h17; cases h17)
 have h16p := bA h16
 have hn3 : ¬ a9 d2a d2b = 3 := fun q => neq_of (bA h16) (hrv.trans q)
 refine kQ <| aR [3,5,6,84] [(84,aB (((a8 d2a d2b).2.2) == 4))] <| kC (((a8 d2a d2b).2.2) == 4) (fun h18 => ?_) (fun h18 => ?_)
 have h18p := bC h18
 have hd4 := rcd_ack (hrv.symm.trans (bC h18))
 refine kQ <| cA 4 [3,5,89] [(89,aB ((((a8 d2a d2b).2.1.length : Nat) : Int) == 1))] <| kP 89 ((((a8 d2a d2b).2.1.length : Nat) : Int) == 1) (fun h19 => ?_) (fun h19 => ?_)
 have h19p := bC h19
 refine cA 7 [3,5,96] [(96,aB (((a8 d2a d2b).1.state) == d2a.state))] <| kP 96 (((a8 d2a d2b).1.state) == d2a.state) (fun h20 => ?_) (fun h20 => ?_)
 have h20p := bC h20
 refine fh 4 [3,5,96,98,100] [(96,aB true),(98,.v (.agg (ai (a8 d2a d2b).1.s).toArray)),(100,.v (.agg (ai d2a.s).toArray))] (.bool (eL ((a8 d2a d2b).1.s) d2a.s)) rfl (fun _ _ _ ww hr => cj hr.1 rfl (by kernel_rfl) (by kernel_rfl) (fJ (by kernel_rfl) (run_eql_SND ((a8 d2a d2b).1.s.una) ((a8 d2a d2b).1.s.data) ((a8 d2a d2b).1.s.sent) ((a8 d2a d2b).1.s.fin) ((a8 d2a d2b).1.s.finSent) ((a8 d2a d2b).1.s.done) d2a.s.una d2a.s.data d2a.s.sent d2a.s.fin d2a.s.finSent d2a.s.done ww))) ?_
 refine cA 2 [3,5,103] [(103,aB (eL ((a8 d2a d2b).1.s) d2a.s))] <| kP 103 (eL ((a8 d2a d2b).1.s) d2a.s) (fun h21 => ?_) (fun h21 => ?_)
 refine dh 4 [103,105,107] [(103,aB true),(105,.v (.agg (ah (a8 d2a d2b).1.r (.slice v3a ((a8 d2a d2b).1.r.held.length) v3c)).toArray)),(107,.v (.agg (ah d2a.r (cS d2A d2a d2C)).toArray))] 23 [.agg (ah (a8 d2a d2b).1.r (.slice v3a ((a8 d2a d2b).1.r.held.length) v3c)).toArray,.agg (ah d2a.r (cS d2A d2a d2C)).toArray] (some 108) rfl (aA fun ww hf => iy ((a8 d2a d2b).1.r) (.slice v3a ((a8 d2a d2b).1.r.held.length) v3c) d2a.r (cS d2A d2a d2C) ww (Own.sl (hf _ m2)) (hf _ m4).1 ) ?_
 intro _
 refine aJ [2] [(2,aB (bw ((a8 d2a d2b).1.r) d2a.r))] <| kR ?_
 exact ⟨[.bool (bw ((a8 d2a d2b).1.r) d2a.r)],by kernel_rfl,fun w' hb hf => ⟨aU (show (bw ((a8 d2a d2b).1.r) d2a.r : Bool) = true from by first | (rw [hd1]; rfl) | (rw [hd2.2]; rfl) | (rw [hd3.2]; rfl) | (rw [hd4.2.2.2]; exact gM _) | exact i9 (by omega)),hb⟩⟩
 exfalso; rw [hd4.2.2.1,sndEq_self] at h21; cases h21
 have h20p := bA h20
 exfalso; rw [hd4.1] at h20; simp at h20
 have h19p := bA h19
 exfalso; rw [hd4.2.1] at h19; simp at h19
 have h18p := bA h18
 have hn4 : ¬ a9 d2a d2b = 4 := fun q => neq_of (bA h18) (hrv.trans q)
 refine kK <| kQ <| dy 1 [5,110] [(110,.v (.agg (a7 (a8 d2a d2b).1 (.slice v3a ((a8 d2a d2b).1.r.held.length) v3c)).toArray))] 24 [.agg (a7 (a8 d2a d2b).1 (.slice v3a ((a8 d2a d2b).1.r.held.length) v3c)).toArray] (some 111) rfl (aA fun ww hf => iY ((a8 d2a d2b).1) (.slice v3a ((a8 d2a d2b).1.r.held.length) v3c) ww (Own.sl (hf _ m2)) (by assumption) (by omega)) ?_
 intro _
 refine cA 1 [5,112] [(112,aB (aW ((a8 d2a d2b).1)))] <| kP 112 (aW ((a8 d2a d2b).1)) (fun h22 => ?_) (fun h22 => ?_)
 refine dh 1 [112,113] [(112,aB true),(113,.v (.agg (a7 (a8 d2a d2b).1 (.slice v3a ((a8 d2a d2b).1.r.held.length) v3c)).toArray))] 25 [.agg (a7 (a8 d2a d2b).1 (.slice v3a ((a8 d2a d2b).1.r.held.length) v3c)).toArray] (some 114) rfl (aA fun ww hf => es ((a8 d2a d2b).1) (.slice v3a ((a8 d2a d2b).1.r.held.length) v3c) ww (Own.sl (hf _ m2)) (by assumption) (by omega)) ?_
 intro _
 refine aJ [2] [(2,aB (aW ((a8 d2a d2b).1)))] <| kR ?_
 exact ⟨[.bool (aW ((a8 d2a d2b).1))],by kernel_rfl,fun w' hb hf => ⟨aU (show (aW ((a8 d2a d2b).1) : Bool) = true from by first | (rw [hd1]; rfl) | (rw [hd2.2]; rfl) | (rw [hd3.2]; rfl) | (rw [hd4.2.2.2]; exact gM _) | exact i9 (by omega)),hb⟩⟩
 exfalso; rw [i9 (by omega)] at h22; cases h22

set_option maxRecDepth 100000 in
theorem fnReceive_lifted (os : Os) (started : os.Started) (H : Type) (enc : TypeId × Value → H) :
    ReturnsInHanded {} Tryz.checked os 4 .any (Rows.fnReceiveSpec.pre6 enc Tryz.prog Tryz.f4 Rows.fnReceiveRow.domain false) (Rows.fnReceiveSpec.post enc Tryz.prog Tryz.f4 false true false false) := by
  refine returnsInHanded_of_change (C := Tryz.checked) Tryz.ownK started (by kernel_rfl) Tryz.func4
    (ChangeSpec.witness6 (enc := enc) (C := Tryz.checked) false ⟨#[], #[.slice none 0 0], []⟩ 8 (by kernel_rfl) (by kernel_rfl) (by kernel_rfl) (by kernel_rfl)) ?_
  intro W base args ds gs before hval0 hW hcnd _
  have hval : ∀ (j : Nat) t v, Tryz.f4.params[j]? = some t → args[j]? = some v → Value.okWide Tryz.prog W .any base t v := hval0
  have hW' := hW
  obtain ⟨p, q, hA0, hV, rfl, hfz, hnd⟩ := hW
  have hA : DataW.TrodAll enc Tryz.prog W 0 (fun _ => true) true Tryz.f4.params.toList args.toList ds p := hA0
  rw [Tryz.params4] at hA hval
  obtain ⟨v0, vs0, d0, ds0, p0, q0, hargs, rfl, rfl, h0, r0⟩ := trodAll_cons hA
  obtain ⟨rfl, rfl, rfl⟩ := trodAll_nil r0
  obtain rfl : args = #[v0] := by cases args; simp_all
  obtain ⟨rfl, rfl⟩ := trodVars_none hV
  clear hA0 hval0
  have g0 := h0
  obtain ⟨l0, L0⟩ := openS_byte (hval 0 _ v0 rfl rfl) g0
  refine (fnReceive_walk l0 v0 W L0).mono fun e W' ⟨he, hb⟩ => ?_
  subst he
  have hlt : ∀ x ∈ (p0 ++ ([])) ++ [], x.block < W.heap.size := fun x hx => hW'.lt x hx
  refine ⟨_, rfl, post_of_below (pa := (p0 ++ ([]))) (pv := []) hW' (fun _ _ _ => trodAll_cons_mk (shut_bool Tryz.underlying4 _) trodAll_mk0) (fun sp hsp => trodAll_cons_mk (WideElems.Trod_stays Tryz.laidOut (by kernel_rfl) (of_decide_eq_true (by kernel_rfl)) h0 (fun x hx => hb.same (hlt x (List.mem_append_left _ (List.mem_append_left _ hx)))) (fun x hx => hsp x (List.mem_append_left _ (List.mem_append_left _ hx)))) (trodAll_mk0)) (fun _ _ => rfl) rfl hb (ok_one (by kernel_rfl) rfl (okWide_bool_mk Tryz.underlying4 _))⟩

theorem fnReceive_over : Rows.fnReceiveRow.holds Tryz.pinned (OpenSpec.ofChange Rows.fnReceiveSpec) :=
  OpenClaim.holds_of_wide 4 Tryz.f4 rfl rfl rfl rfl rfl rfl rfl ⟨rfl, rfl, rfl, rfl, rfl⟩ rfl rfl rfl rfl rfl (by kernel_rfl) Tryz.func4 (by kernel_rfl)
    (of_decide_eq_true (by kernel_rfl)) (by unfold Func.isWrapper; first | (rw [if_pos (by decide +kernel)]; kernel_rfl) | (rw [if_neg (by decide +kernel)]; exact ⟨rfl, rfl⟩))
    (fun os started H enc _ => fnReceive_lifted os started H enc)

theorem fnReceive_holds : Rows.FnReceiveSaid := fnReceive_over
#print axioms fnReceive_holds
end Go.Proofs.YtebgmdiejgcoiaaGreat
