/- Contracts that this law needs, part 3. -/
import Derived.Test.YtebgmdiejgcoiaaGreatZ2
namespace Go.Proofs.YtebgmdiejgcoiaaGreat
open Go.RowKit
set_option linter.unusedVariables false
set_option linter.unusedSimpArgs false
set_option maxRecDepth 100000
set_option maxHeartbeats 2000000

theorem ysShut_c (c : Con) (rV : Value) (w : World) (hZ : Sl w rV 2 (c.r.held.map pC)) (hkn : c.r.held.length ≤ 1048576)(hm : ∀ p ∈ c.r.held, p.text.size ≤ 1048576) (hsz : c.r.data.size ≤ 4611686018427387904) (B : Nat) (hB : B ≤ w.heap.size) : Calls Tryz.prog 153 #[.agg (a7 c rV).toArray] w fun e w' => XRs w w' e (α := (Option Addr × Nat) × (Option Addr × Nat)) (fun y => .tuple #[.agg (a7 (shut c).1 (.slice y.1.1 ((shut c).1.r.held.length) y.1.2)).toArray, .slice y.2.1 ((shut c).2.length) y.2.2]) (fun y => [aF B (.slice y.1.1 ((shut c).1.r.held.length) y.1.2) 2 ((shut c).1.r.held.map pC), aF B (.slice y.2.1 ((shut c).2.length) y.2.2) 13 ((shut c).2.map ak)]) := by
 obtain ⟨Z,Y,hY⟩ := hZ.form
 rw [List.length_map] at hY; subst hY
 have hJ := hZ.len; rw [List.length_map] at hJ
 have hqcrh := Sl.capLe hZ
 refine ck (args := [.agg (a7 c (cS Z c Y)).toArray]) (fn := Tryz.f153) [cH Z c Y] Tryz.func153 rfl Tryz.ntmps153 rfl (by simp only [List.mem_cons,List.not_mem_nil,or_false,forall_eq_or_imp,forall_eq]; exact ⟨rfl,hZ⟩) ?_
 refine kQ <| c8 [1,2] ⟨[(1,.p 0 0),(2,.p 1 0)],[⟨44,a7 c (cS Z c Y)⟩,⟨44,bN⟩],[],[cH Z c Y]⟩ <| kQ <| dh 1 [1,2,5] [(1,.p 0 0),(2,.p 1 0),(5,.v (.agg (a7 c (cS Z c Y)).toArray))] 33 [.agg (a7 c (cS Z c Y)).toArray] (some 6) rfl (cZ fun ww hw hf => eu c (cS Z c Y) ww (hf _ m0) (by assumption) w.heap.size hw) ?_
 rintro ⟨v1a,v1c⟩
 refine c8 [1,2,4] ⟨[(1,.p 0 0),(2,.p 1 0),(4,.p 2 0)],[⟨44,a7 c (cS Z c Y)⟩,⟨44,bN⟩,⟨44,a7 c (cS v1a c v1c)⟩],[],[aF w.heap.size (cS v1a c v1c) 2 (c.r.held.map pC),cH Z c Y]⟩ <| kS <| kS <| bo ⟨[(1,.p 0 0),(2,.p 1 0),(4,.p 2 0),(19,aB ((!(aW c)) || ((c.state != 1) && (c.state != 4))))],[⟨44,a7 c (cS Z c Y)⟩,⟨44,bN⟩,⟨44,a7 c (cS v1a c v1c)⟩],[],[aF w.heap.size (cS v1a c v1c) 2 (c.r.held.map pC),cH Z c Y]⟩ ?_ ?_
 refine kG <| dh 1 [1,2,4,7] [(1,.p 0 0),(2,.p 1 0),(4,.p 2 0),(7,.v (.agg (a7 c (cS Z c Y)).toArray))] 25 [.agg (a7 c (cS Z c Y)).toArray] (some 8) rfl (aA fun ww hf => es c (cS Z c Y) ww (hf _ m1) (by assumption) (by omega)) ?_
 intro _
 refine cR 2 [1,2,4,10] [(1,.p 0 0),(2,.p 1 0),(4,.p 2 0),(10,aB (!(aW c)))] <| kP 10 (!(aW c)) (fun h2 => ?_) (fun h2 => ?_)
 have h2n := bg h2
 refine aJ [1,2,4,19] [(1,.p 0 0),(2,.p 1 0),(4,.p 2 0),(19,aB true)] ?_
 show Wk _ _
 try rw [h2]
 exact kF 3 0 [1,2,4,19]
 have h2n := aD h2
 have h2nc : aW c = true := (by simpa using h2n)
 have h2nq := gQ h2nc; obtain ⟨h2nq0,h2nq1,h2nq2,h2nq3,h2nq4,h2nq5,h2nq6,h2nq7,h2nq8,h2nq9⟩ := h2nq
 refine cR 4 [1,2,4,10,14] [(1,.p 0 0),(2,.p 1 0),(4,.p 2 0),(10,aB false),(14,aB (c.state != 1))] <| kP 14 (c.state != 1) (fun h3 => ?_) (fun h3 => ?_)
 have h3p := neT h3
 refine aJ [1,2,4,19] [(1,.p 0 0),(2,.p 1 0),(4,.p 2 0),(19,aB (c.state != 4))] ?_
 show Wk _ _
 try rw [h2]
 try rw [h3]
 exact kF 3 0 [1,2,4,19]
 have h3p := neF h3
 refine aJ [1,2,4,19] [(1,.p 0 0),(2,.p 1 0),(4,.p 2 0),(19,aB false)] ?_
 show Wk _ _
 try rw [h2]
 try rw [h3]
 exact kF 3 0 [1,2,4,19]
 refine kC ((!(aW c)) || ((c.state != 1) && (c.state != 4))) (fun h4 => ?_) (fun h4 => ?_)
 refine kQ <| kHS 1 [2,20] [(2,.p 1 0),(20,.v (.agg (a7 c (cS v1a c v1c)).toArray))] rfl (bi (e := 50) (K := 13) (bytes := 104) [] (rs := ([] : List Seg).map ak) rfl rfl) ?_
 intro g5
 refine c8 [2,3] ⟨[(2,.p 1 0),(3,.v (.slice (some ⟨g5,0,none⟩) 0 0))],[⟨44,a7 c (cS Z c Y)⟩,⟨44,a7 c (cS v1a c v1c)⟩,⟨44,a7 c (cS v1a c v1c)⟩],[],[ap w.heap.size 50 13 (.slice (some ⟨g5,0,none⟩) 0 0) (([] : List Seg).map ak),aF w.heap.size (cS v1a c v1c) 2 (c.r.held.map pC),cH Z c Y]⟩ <| kR ?_
 have hmod : shut c = (c,([] : List Seg)) := by first | rfl | (simp [shut, *]; done) | grind [shut]
 exact ⟨[.agg (a7 c (cS v1a c v1c)).toArray,.slice (some ⟨g5,0,none⟩) 0 0],by kernel_rfl,fun w' hb hf ha => by rw [hmod]; exact gu ((v1a,v1c),(((some ⟨g5,0,none⟩) : Option Addr),0)) rfl rfl (pO (hf _ m1) hB) (pR (hf _ m0) hB) (Apart.sub2 ha (i := 1) (j := 0) rfl rfl (by decide) rfl (fun b h => h) (fun b h => bX h)) hb⟩
 have h4l := eA h4
 have h4ln := aD h4l
 have h4lnc : aW c = true := (by simpa using h4ln)
 have h4lnq := gQ h4lnc; obtain ⟨h4lnq0,h4lnq1,h4lnq2,h4lnq3,h4lnq4,h4lnq5,h4lnq6,h4lnq7,h4lnq8,h4lnq9⟩ := h4lnq
 have h4r := f6 h4
 refine kK <| kQ <| c8 [1,2,4] ⟨[(1,.p 0 0),(2,.p 1 0),(4,.p 2 0)],[⟨44,a7 c (cS Z c Y)⟩,⟨44,bN⟩,⟨44,a7 { c with s := { c.s with fin := true } } (cS v1a c v1c)⟩],[],[aF w.heap.size (cS v1a c v1c) 2 (c.r.held.map pC),cH Z c Y]⟩ <| kQ <| c8 [1,2,4] ⟨[(1,.p 0 0),(2,.p 1 0),(4,.p 2 0)],[⟨44,a7 c (cS Z c Y)⟩,⟨44,bN⟩,⟨44,a7 { c with state := 2,s := { c.s with fin := true } } (cS v1a c v1c)⟩],[],[aF w.heap.size (cS v1a c v1c) 2 (c.r.held.map pC),cH Z c Y]⟩ ?_
 refine kS <| kQ <| aJ [2,4,27] [(2,.p 1 0),(4,.p 2 0),(27,aB (c.state == 4))] <| bo ⟨[(2,.p 1 0),(4,.p 2 0)],[⟨44,a7 c (cS Z c Y)⟩,⟨44,bN⟩,⟨44,a7 { c with state := if (c.state == 4) = true then 6 else 2,s := { c.s with fin := true } } (cS v1a c v1c)⟩],[],[aF w.heap.size (cS v1a c v1c) 2 (c.r.held.map pC),cH Z c Y]⟩ ?_ ?_
 refine kC (c.state == 4) (fun h6 => ?_) (fun h6 => ?_)
 have h6p := bC h6
 refine kG <| c8 [2,4] ⟨[(2,.p 1 0),(4,.p 2 0)],[⟨44,a7 c (cS Z c Y)⟩,⟨44,bN⟩,⟨44,a7 { c with state := 6,s := { c.s with fin := true } } (cS v1a c v1c)⟩],[],[aF w.heap.size (cS v1a c v1c) 2 (c.r.held.map pC),cH Z c Y]⟩ ?_
 show Wk _ _; rw [h6]; exact kF 3 0 [2,4]
 have h6p := bA h6
 refine kK ?_
 show Wk _ _; rw [h6]; exact kF 3 0 [2,4]
 refine kQ <| dh 3 [2,29,31] [(2,.p 1 0),(29,.v (.agg (a7 { c with state := if (c.state == 4) = true then 6 else 2,s := { c.s with fin := true } } (cS v1a c v1c)).toArray)),(31,aI c.window)] 36 [.agg (a7 { c with state := if (c.state == 4) = true then 6 else 2,s := { c.s with fin := true } } (cS v1a c v1c)).toArray,iI c.window] (some 32) rfl (cZ fun ww hw hf => gZ ({ c with state := if (c.state == 4) = true then 6 else 2,s := { c.s with fin := true } }) (cS v1a c v1c) c.window ww (Own.sl (hf _ m0)) (by assumption) (by assumption) (by omega) (by omega) w.heap.size hw) ?_
 rintro ⟨⟨v7a,v7c⟩,⟨v8a,v8c⟩⟩
 have hbd9 : (pump ({ c with state := if (c.state == 4) = true then 6 else 2,s := { c.s with fin := true } }) c.window).1.r.held.length ≤ 1048576 ∧ (pump ({ c with state := if (c.state == 4) = true then 6 else 2,s := { c.s with fin := true } }) c.window).2.length ≤ 49 := eC _ _  (by omega)
 have hbd9a := hbd9.1; have hbd9b := hbd9.2
 refine c8 [2,3] ⟨[(2,.p 1 0),(3,.v (.slice v8a ((pump ({ c with state := if (c.state == 4) = true then 6 else 2,s := { c.s with fin := true } }) c.window).2.length) v8c))],[⟨44,a7 c (cS Z c Y)⟩,⟨44,a7 (pump ({ c with state := if (c.state == 4) = true then 6 else 2,s := { c.s with fin := true } }) c.window).1 (.slice v7a ((pump ({ c with state := if (c.state == 4) = true then 6 else 2,s := { c.s with fin := true } }) c.window).1.r.held.length) v7c)⟩,⟨44,a7 { c with state := if (c.state == 4) = true then 6 else 2,s := { c.s with fin := true } } (cS v1a c v1c)⟩],[],[aF w.heap.size (.slice v7a ((pump ({ c with state := if (c.state == 4) = true then 6 else 2,s := { c.s with fin := true } }) c.window).1.r.held.length) v7c) 2 ((pump ({ c with state := if (c.state == 4) = true then 6 else 2,s := { c.s with fin := true } }) c.window).1.r.held.map pC),ap w.heap.size 50 13 (.slice v8a ((pump ({ c with state := if (c.state == 4) = true then 6 else 2,s := { c.s with fin := true } }) c.window).2.length) v8c) ((pump ({ c with state := if (c.state == 4) = true then 6 else 2,s := { c.s with fin := true } }) c.window).2.map ak),aF w.heap.size (cS v1a c v1c) 2 (c.r.held.map pC),cH Z c Y]⟩ <| kR ?_
 have hmod : shut c = (((pump ({ c with state := if (c.state == 4) = true then 6 else 2,s := { c.s with fin := true } }) c.window).1),((pump ({ c with state := if (c.state == 4) = true then 6 else 2,s := { c.s with fin := true } }) c.window).2)) := by first | rfl | (simp [shut, *]; done) | grind [shut]
 exact ⟨[.agg (a7 (pump ({ c with state := if (c.state == 4) = true then 6 else 2,s := { c.s with fin := true } }) c.window).1 (.slice v7a ((pump ({ c with state := if (c.state == 4) = true then 6 else 2,s := { c.s with fin := true } }) c.window).1.r.held.length) v7c)).toArray,.slice v8a ((pump ({ c with state := if (c.state == 4) = true then 6 else 2,s := { c.s with fin := true } }) c.window).2.length) v8c],by kernel_rfl,fun w' hb hf ha => by rw [hmod]; exact gu ((v7a,v7c),(v8a,v8c)) rfl rfl (pO (hf _ m0) hB) (pR (hf _ m1) hB) (Apart.sub2 ha (i := 0) (j := 1) rfl rfl (by decide) rfl (fun b h => h) (fun b h => bX h)) hb⟩
theorem ysWrite_c (c : Con) (rV : Value) (text : ByteArray) (w : World) (hZ : Sl w rV 2 (c.r.held.map pC)) (hkn : c.r.held.length ≤ 1048576)(hm : ∀ p ∈ c.r.held, p.text.size ≤ 1048576) (hsz : c.r.data.size ≤ 4611686018427387904) (hts : text.size ≤ 4611686018427387904) (B : Nat) (hB : B ≤ w.heap.size) : Calls Tryz.prog 150 #[.agg (a7 c rV).toArray, .string text] w fun e w' => XRs w w' e (α := (Option Addr × Nat) × (Option Addr × Nat)) (fun y => .tuple #[.agg (a7 (write c text).1 (.slice y.1.1 ((write c text).1.r.held.length) y.1.2)).toArray, iI ((write c text).2.1), .slice y.2.1 ((write c text).2.2.length) y.2.2]) (fun y => [aF B (.slice y.1.1 ((write c text).1.r.held.length) y.1.2) 2 ((write c text).1.r.held.map pC), aF B (.slice y.2.1 ((write c text).2.2.length) y.2.2) 13 ((write c text).2.2.map ak)]) := by
 obtain ⟨Z,Y,hY⟩ := hZ.form
 rw [List.length_map] at hY; subst hY
 have hJ := hZ.len; rw [List.length_map] at hJ
 have hqcrh := Sl.capLe hZ
 refine ck (args := [.agg (a7 c (cS Z c Y)).toArray,.string text]) (fn := Tryz.f150) [cH Z c Y] Tryz.func150 rfl Tryz.ntmps150 rfl (by simp only [List.mem_cons,List.not_mem_nil,or_false,forall_eq_or_imp,forall_eq]; exact ⟨rfl,hZ⟩) ?_
 refine kQ <| c8 [1,2,4] ⟨[(1,.v (.string text)),(2,.p 0 0),(4,.p 1 0)],[⟨44,a7 c (cS Z c Y)⟩,⟨44,bN⟩],[],[cH Z c Y]⟩ <| kQ <| dh 1 [1,2,4,12] [(1,.v (.string text)),(2,.p 0 0),(4,.p 1 0),(12,.v (.agg (a7 c (cS Z c Y)).toArray))] 33 [.agg (a7 c (cS Z c Y)).toArray] (some 13) rfl (cZ fun ww hw hf => eu c (cS Z c Y) ww (hf _ m0) (by assumption) w.heap.size hw) ?_
 rintro ⟨v1a,v1c⟩
 refine c8 [1,2,4,7] ⟨[(1,.v (.string text)),(2,.p 0 0),(4,.p 1 0),(7,.p 2 0)],[⟨44,a7 c (cS Z c Y)⟩,⟨44,bN⟩,⟨44,a7 c (cS v1a c v1c)⟩],[],[aF w.heap.size (cS v1a c v1c) 2 (c.r.held.map pC),cH Z c Y]⟩ <| kS <| kS <| bo ⟨[(1,.v (.string text)),(2,.p 0 0),(4,.p 1 0),(7,.p 2 0),(26,aB ((!(aW c)) || ((c.state != 1) && (c.state != 4))))],[⟨44,a7 c (cS Z c Y)⟩,⟨44,bN⟩,⟨44,a7 c (cS v1a c v1c)⟩],[],[aF w.heap.size (cS v1a c v1c) 2 (c.r.held.map pC),cH Z c Y]⟩ ?_ ?_
 refine kG <| dh 1 [1,2,4,7,14] [(1,.v (.string text)),(2,.p 0 0),(4,.p 1 0),(7,.p 2 0),(14,.v (.agg (a7 c (cS Z c Y)).toArray))] 25 [.agg (a7 c (cS Z c Y)).toArray] (some 15) rfl (aA fun ww hf => es c (cS Z c Y) ww (hf _ m1) (by assumption) (by omega)) ?_
 intro _
 refine cR 2 [1,2,4,7,17] [(1,.v (.string text)),(2,.p 0 0),(4,.p 1 0),(7,.p 2 0),(17,aB (!(aW c)))] <| kP 17 (!(aW c)) (fun h2 => ?_) (fun h2 => ?_)
 have h2n := bg h2
 refine aJ [1,2,4,7,26] [(1,.v (.string text)),(2,.p 0 0),(4,.p 1 0),(7,.p 2 0),(26,aB true)] ?_
 show Wk _ _
 try rw [h2]
 exact kF 3 0 [1,2,4,7,26]
 have h2n := aD h2
 have h2nc : aW c = true := (by simpa using h2n)
 have h2nq := gQ h2nc; obtain ⟨h2nq0,h2nq1,h2nq2,h2nq3,h2nq4,h2nq5,h2nq6,h2nq7,h2nq8,h2nq9⟩ := h2nq
 refine cR 4 [1,2,4,7,17,21] [(1,.v (.string text)),(2,.p 0 0),(4,.p 1 0),(7,.p 2 0),(17,aB false),(21,aB (c.state != 1))] <| kP 21 (c.state != 1) (fun h3 => ?_) (fun h3 => ?_)
 have h3p := neT h3
 refine aJ [1,2,4,7,26] [(1,.v (.string text)),(2,.p 0 0),(4,.p 1 0),(7,.p 2 0),(26,aB (c.state != 4))] ?_
 show Wk _ _
 try rw [h2]
 try rw [h3]
 exact kF 3 0 [1,2,4,7,26]
 have h3p := neF h3
 refine aJ [1,2,4,7,26] [(1,.v (.string text)),(2,.p 0 0),(4,.p 1 0),(7,.p 2 0),(26,aB false)] ?_
 show Wk _ _
 try rw [h2]
 try rw [h3]
 exact kF 3 0 [1,2,4,7,26]
 refine kC ((!(aW c)) || ((c.state != 1) && (c.state != 4))) (fun h4 => ?_) (fun h4 => ?_)
 refine kQ <| kHS 1 [4,27] [(4,.p 1 0),(27,.v (.agg (a7 c (cS v1a c v1c)).toArray))] rfl (bi (e := 50) (K := 13) (bytes := 104) [] (rs := ([] : List Seg).map ak) rfl rfl) ?_
 intro g5
 refine c8 [4,5,6] ⟨[(4,.p 1 0),(5,aI 0),(6,.v (.slice (some ⟨g5,0,none⟩) 0 0))],[⟨44,a7 c (cS Z c Y)⟩,⟨44,a7 c (cS v1a c v1c)⟩,⟨44,a7 c (cS v1a c v1c)⟩],[],[ap w.heap.size 50 13 (.slice (some ⟨g5,0,none⟩) 0 0) (([] : List Seg).map ak),aF w.heap.size (cS v1a c v1c) 2 (c.r.held.map pC),cH Z c Y]⟩ <| kR ?_
 have hmod : write c text = (c,0,([] : List Seg)) := by first | rfl | (simp [write, *]; done) | grind [write]
 exact ⟨[.agg (a7 c (cS v1a c v1c)).toArray,iI 0,.slice (some ⟨g5,0,none⟩) 0 0],by kernel_rfl,fun w' hb hf ha => by rw [hmod]; exact gu ((v1a,v1c),(((some ⟨g5,0,none⟩) : Option Addr),0)) rfl rfl (pO (hf _ m1) hB) (pR (hf _ m0) hB) (Apart.sub2 ha (i := 1) (j := 0) rfl rfl (by decide) rfl (fun b h => h) (fun b h => bX h)) hb⟩
 have h4l := eA h4
 have h4ln := aD h4l
 have h4lnc : aW c = true := (by simpa using h4ln)
 have h4lnq := gQ h4lnc; obtain ⟨h4lnq0,h4lnq1,h4lnq2,h4lnq3,h4lnq4,h4lnq5,h4lnq6,h4lnq7,h4lnq8,h4lnq9⟩ := h4lnq
 have h4r := f6 h4
 refine kK <| kQ <| dh 3 [4,7,31,32] [(4,.p 1 0),(7,.p 2 0),(31,.v (.agg (ai c.s).toArray)),(32,.v (.string text))] 163 [.agg (ai c.s).toArray,.string text] (some 33) rfl (aA fun ww hf => gX c.s text ww  (by first | omega | (rw [bL]; omega))) ?_
 intro _
 refine c8 [4,7,8,9] ⟨[(4,.p 1 0),(7,.p 2 0),(8,.p 3 0),(9,aI ((bk c.s text).2))],[⟨44,a7 c (cS Z c Y)⟩,⟨44,bN⟩,⟨44,a7 c (cS v1a c v1c)⟩,⟨38,ai (bk c.s text).1⟩],[],[aF w.heap.size (cS v1a c v1c) 2 (c.r.held.map pC),cH Z c Y]⟩ <| kQ <| c8 [4,7,9] ⟨[(4,.p 1 0),(7,.p 2 0),(9,aI ((bk c.s text).2))],[⟨44,a7 c (cS Z c Y)⟩,⟨44,bN⟩,⟨44,a7 { c with s := (bk c.s text).1 } (cS v1a c v1c)⟩,⟨38,ai (bk c.s text).1⟩],[],[aF w.heap.size (cS v1a c v1c) 2 (c.r.held.map pC),cH Z c Y]⟩ <| kQ <| dh 3 [4,9,39,41] [(4,.p 1 0),(9,aI ((bk c.s text).2)),(39,.v (.agg (a7 { c with s := (bk c.s text).1 } (cS v1a c v1c)).toArray)),(41,aI c.window)] 36 [.agg (a7 { c with s := (bk c.s text).1 } (cS v1a c v1c)).toArray,iI c.window] (some 42) rfl (cZ fun ww hw hf => gZ ({ c with s := (bk c.s text).1 }) (cS v1a c v1c) c.window ww (Own.sl (hf _ m0)) (by assumption) (by assumption) (by omega) (by omega) w.heap.size hw) ?_
 rintro ⟨⟨v6a,v6c⟩,⟨v7a,v7c⟩⟩
 have hbd8 : (pump ({ c with s := (bk c.s text).1 }) c.window).1.r.held.length ≤ 1048576 ∧ (pump ({ c with s := (bk c.s text).1 }) c.window).2.length ≤ 49 := eC _ _  (by omega)
 have hbd8a := hbd8.1; have hbd8b := hbd8.2
 refine c8 [4,9,10,11] ⟨[(4,.p 1 0),(9,aI ((bk c.s text).2)),(10,.p 4 0),(11,.v (.slice v7a ((pump ({ c with s := (bk c.s text).1 }) c.window).2.length) v7c))],[⟨44,a7 c (cS Z c Y)⟩,⟨44,bN⟩,⟨44,a7 { c with s := (bk c.s text).1 } (cS v1a c v1c)⟩,⟨38,ai (bk c.s text).1⟩,⟨44,a7 (pump ({ c with s := (bk c.s text).1 }) c.window).1 (.slice v6a ((pump ({ c with s := (bk c.s text).1 }) c.window).1.r.held.length) v6c)⟩],[],[aF w.heap.size (.slice v6a ((pump ({ c with s := (bk c.s text).1 }) c.window).1.r.held.length) v6c) 2 ((pump ({ c with s := (bk c.s text).1 }) c.window).1.r.held.map pC),ap w.heap.size 50 13 (.slice v7a ((pump ({ c with s := (bk c.s text).1 }) c.window).2.length) v7c) ((pump ({ c with s := (bk c.s text).1 }) c.window).2.map ak),aF w.heap.size (cS v1a c v1c) 2 (c.r.held.map pC),cH Z c Y]⟩ <| kQ <| c8 [4,5,6] ⟨[(4,.p 1 0),(5,aI ((bk c.s text).2)),(6,.v (.slice v7a ((pump ({ c with s := (bk c.s text).1 }) c.window).2.length) v7c))],[⟨44,a7 c (cS Z c Y)⟩,⟨44,a7 (pump ({ c with s := (bk c.s text).1 }) c.window).1 (.slice v6a ((pump ({ c with s := (bk c.s text).1 }) c.window).1.r.held.length) v6c)⟩,⟨44,a7 { c with s := (bk c.s text).1 } (cS v1a c v1c)⟩,⟨38,ai (bk c.s text).1⟩,⟨44,a7 (pump ({ c with s := (bk c.s text).1 }) c.window).1 (.slice v6a ((pump ({ c with s := (bk c.s text).1 }) c.window).1.r.held.length) v6c)⟩],[],[aF w.heap.size (.slice v6a ((pump ({ c with s := (bk c.s text).1 }) c.window).1.r.held.length) v6c) 2 ((pump ({ c with s := (bk c.s text).1 }) c.window).1.r.held.map pC),ap w.heap.size 50 13 (.slice v7a ((pump ({ c with s := (bk c.s text).1 }) c.window).2.length) v7c) ((pump ({ c with s := (bk c.s text).1 }) c.window).2.map ak),aF w.heap.size (cS v1a c v1c) 2 (c.r.held.map pC),cH Z c Y]⟩ <| kR ?_
 have hmod : write c text = (((pump ({ c with s := (bk c.s text).1 }) c.window).1),((bk c.s text).2),((pump ({ c with s := (bk c.s text).1 }) c.window).2)) := by first | rfl | (simp [write, *]; done) | grind [write]
 exact ⟨[.agg (a7 (pump ({ c with s := (bk c.s text).1 }) c.window).1 (.slice v6a ((pump ({ c with s := (bk c.s text).1 }) c.window).1.r.held.length) v6c)).toArray,iI ((bk c.s text).2),.slice v7a ((pump ({ c with s := (bk c.s text).1 }) c.window).2.length) v7c],by kernel_rfl,fun w' hb hf ha => by rw [hmod]; exact gu ((v6a,v6c),(v7a,v7c)) rfl rfl (pO (hf _ m0) hB) (pR (hf _ m1) hB) (Apart.sub2 ha (i := 0) (j := 1) rfl rfl (by decide) rfl (fun b h => h) (fun b h => bX h)) hb⟩
theorem ysTickConn_c (c : Con) (rV : Value) (w : World) (hZ : Sl w rV 2 (c.r.held.map pC)) (hkn : c.r.held.length ≤ 1048576)(hm : ∀ p ∈ c.r.held, p.text.size ≤ 1048576) (hsz : c.r.data.size ≤ 4611686018427387904) (B : Nat) (hB : B ≤ w.heap.size) : Calls Tryz.prog 152 #[.agg (a7 c rV).toArray] w fun e w' => XRs w w' e (α := (Option Addr × Nat) × (Option Addr × Nat)) (fun y => .tuple #[.agg (a7 (bu c).1 (.slice y.1.1 ((bu c).1.r.held.length) y.1.2)).toArray, .slice y.2.1 ((bu c).2.length) y.2.2]) (fun y => [aF B (.slice y.1.1 ((bu c).1.r.held.length) y.1.2) 2 ((bu c).1.r.held.map pC), aF B (.slice y.2.1 ((bu c).2.length) y.2.2) 13 ((bu c).2.map ak)]) := by
 obtain ⟨Z,Y,hY⟩ := hZ.form
 rw [List.length_map] at hY; subst hY
 have hJ := hZ.len; rw [List.length_map] at hJ
 have hqcrh := Sl.capLe hZ
 refine ck (args := [.agg (a7 c (cS Z c Y)).toArray]) (fn := Tryz.f152) [cH Z c Y] Tryz.func152 rfl Tryz.ntmps152 rfl (by simp only [List.mem_cons,List.not_mem_nil,or_false,forall_eq_or_imp,forall_eq]; exact ⟨rfl,hZ⟩) ?_
 refine kQ <| c8 [1,2] ⟨[(1,.p 0 0),(2,.p 1 0)],[⟨44,a7 c (cS Z c Y)⟩,⟨44,bN⟩],[],[cH Z c Y]⟩ <| kQ <| dy 1 [1,2,9] [(9,.v (.agg (a7 c (cS Z c Y)).toArray))] 33 [.agg (a7 c (cS Z c Y)).toArray] (some 10) rfl (cZ fun ww hw hf => eu c (cS Z c Y) ww (hf _ m0) (by assumption) w.heap.size hw) ?_
 rintro ⟨v1a,v1c⟩
 refine i5 [1,2,4] [(4,.p 2 0)] [⟨44,a7 c (cS v1a c v1c)⟩] <| kQ <| kHD 0 [1,2,4] [] rfl (bi (e := 50) (K := 13) (bytes := 104) [] (rs := ([] : List Seg).map ak) rfl rfl) ?_
 intro g2
 refine aR [1,2,4,5] [(5,.v (.slice (some ⟨g2,0,none⟩) 0 0))] <| kS <| kQ <| dy 1 [1,2,4,5,12] [(12,.v (.agg (a7 c (cS Z c Y)).toArray))] 164 [.agg (a7 c (cS Z c Y)).toArray] (some 13) rfl (aA fun ww hf => ysWaits_c c (cS Z c Y) ww (hf _ m2) (by assumption) (by omega)) ?_
 intro _
 refine aR [1,2,4,5,14] [(14,aB (!(waits c)))] <| kC (!(waits c)) (fun h3 => ?_) (fun h3 => ?_)
 have h3n := bg h3
 refine kS <| kQ <| dy 1 [2,4,5,15] [(15,.v (.agg (a7 c (cS Z c Y)).toArray))] 25 [.agg (a7 c (cS Z c Y)).toArray] (some 16) rfl (aA fun ww hf => es c (cS Z c Y) ww (hf _ m2) (by assumption) (by omega)) ?_
 intro _
 refine aR [2,4,5,16] [] <| kC (aW c) (fun h4 => ?_) (fun h4 => ?_)
 have h4c : aW c = true := (by simpa using h4)
 have h4q := gQ h4c; obtain ⟨h4q0,h4q1,h4q2,h4q3,h4q4,h4q5,h4q6,h4q7,h4q8,h4q9⟩ := h4q
 refine kQ <| bf [2,4,5] [] 2 ⟨44,a7 { c with timer := 0 } (cS v1a c v1c)⟩ <| kG <| bf [2,4,5] [] 2 ⟨44,a7 { c with timer := 0,tries := 0 } (cS v1a c v1c)⟩ ?_
 refine kQ <| c8 [2,3] ⟨[(2,.p 1 0),(3,.v (.slice (some ⟨g2,0,none⟩) 0 0))],[⟨44,a7 c (cS Z c Y)⟩,⟨44,a7 { c with timer := 0,tries := 0 } (cS v1a c v1c)⟩,⟨44,a7 { c with timer := 0,tries := 0 } (cS v1a c v1c)⟩],[],[ap w.heap.size 50 13 (.slice (some ⟨g2,0,none⟩) 0 0) (([] : List Seg).map ak),aF w.heap.size (cS v1a c v1c) 2 (c.r.held.map pC),cH Z c Y]⟩ <| kR ?_
 have hmod : bu c = (({ c with timer := 0,tries := 0 }),([] : List Seg)) := by first | rfl | (simp [bu,bZ, *]; done) | (simp [bu,bZ, *]; omega) | grind [bu,bZ]
 exact ⟨[.agg (a7 { c with timer := 0,tries := 0 } (cS v1a c v1c)).toArray,.slice (some ⟨g2,0,none⟩) 0 0],by kernel_rfl,fun w' hb hf ha => by rw [hmod]; exact gu ((v1a,v1c),(((some ⟨g2,0,none⟩) : Option Addr),0)) rfl rfl (pO (hf _ m1) hB) (pR (hf _ m0) hB) (Apart.sub2 ha (i := 1) (j := 0) rfl rfl (by decide) rfl (fun b h => h) (fun b h => bX h)) hb⟩
 refine kK <| kQ <| bf [2,3] [(3,.v (.slice (some ⟨g2,0,none⟩) 0 0))] 1 ⟨44,a7 c (cS v1a c v1c)⟩ <| kR ?_
 have hmod : bu c = (c,([] : List Seg)) := by first | rfl | (simp [bu,bZ, *]; done) | (simp [bu,bZ, *]; omega) | grind [bu,bZ]
 exact ⟨[.agg (a7 c (cS v1a c v1c)).toArray,.slice (some ⟨g2,0,none⟩) 0 0],by kernel_rfl,fun w' hb hf ha => by rw [hmod]; exact gu ((v1a,v1c),(((some ⟨g2,0,none⟩) : Option Addr),0)) rfl rfl (pO (hf _ m1) hB) (pR (hf _ m0) hB) (Apart.sub2 ha (i := 1) (j := 0) rfl rfl (by decide) rfl (fun b h => h) (fun b h => bX h)) hb⟩
 have h3n := aD h3
 have h3nc : aW c = true := waits_ok (by simpa using h3n)
 have h3nq := gQ h3nc; obtain ⟨h3nq0,h3nq1,h3nq2,h3nq3,h3nq4,h3nq5,h3nq6,h3nq7,h3nq8,h3nq9⟩ := h3nq
 refine kK <| kS <| kQ <| aR [1,2,4,5,23] [(23,aB (c.timer == 0))] ?_
 refine kC (c.timer == 0) (fun h5 => ?_) (fun h5 => ?_)
 have h5p := bC h5
 refine kQ <| bf [1,2,4,5] [] 2 ⟨44,a7 { c with timer := 3 } (cS v1a c v1c)⟩ <| kQ <| aR [1,2,4,5,27] [(27,aB (c.state == 7))] ?_
 refine kC (c.state == 7) (fun h6 => ?_) (fun h6 => ?_)
 have h6p := bC h6
 refine kG <| bf [1,2,4,5] [] 2 ⟨44,a7 { c with timer := 4 } (cS v1a c v1c)⟩ <| kQ <| c8 [1,2,4,5] ⟨[(1,.p 0 0),(2,.p 1 0),(4,.p 2 0),(5,.v (.slice (some ⟨g2,0,none⟩) 0 0))],[⟨44,a7 c (cS Z c Y)⟩,⟨44,bN⟩,⟨44,a7 { c with timer := 3 } (cS v1a c v1c)⟩],[],[ap w.heap.size 50 13 (.slice (some ⟨g2,0,none⟩) 0 0) (([] : List Seg).map ak),aF w.heap.size (cS v1a c v1c) 2 (c.r.held.map pC),cH Z c Y]⟩ ?_
 refine kS <| kQ <| aR [1,2,4,5,35] [(35,aB true)] <| kT <| kQ <| bf [2,3] [(3,.v (.slice (some ⟨g2,0,none⟩) 0 0))] 1 ⟨44,a7 { c with timer := 3 } (cS v1a c v1c)⟩ ?_
 refine kR ?_
 have hmod : bu c = (({ c with timer := 3 }),([] : List Seg)) := by first | rfl | (simp [bu,bZ, *]; done) | (simp [bu,bZ, *]; omega) | grind [bu,bZ]
 exact ⟨[.agg (a7 { c with timer := 3 } (cS v1a c v1c)).toArray,.slice (some ⟨g2,0,none⟩) 0 0],by kernel_rfl,fun w' hb hf ha => by rw [hmod]; exact gu ((v1a,v1c),(((some ⟨g2,0,none⟩) : Option Addr),0)) rfl rfl (pO (hf _ m1) hB) (pR (hf _ m0) hB) (Apart.sub2 ha (i := 1) (j := 0) rfl rfl (by decide) rfl (fun b h => h) (fun b h => bX h)) hb⟩
 have h6p := bA h6
 refine kK <| kQ <| bf [1,2,4,5] [] 2 ⟨44,a7 { c with timer := 2 } (cS v1a c v1c)⟩ <| kS <| kQ <| aJ [1,2,4,5,35] [(1,.p 0 0),(2,.p 1 0),(4,.p 2 0),(5,.v (.slice (some ⟨g2,0,none⟩) 0 0)),(35,aB true)] ?_
 refine kT <| kQ <| bf [2,3] [(3,.v (.slice (some ⟨g2,0,none⟩) 0 0))] 1 ⟨44,a7 { c with timer := 2 } (cS v1a c v1c)⟩ <| kR ?_
 have hmod : bu c = (({ c with timer := 2 }),([] : List Seg)) := by first | rfl | (simp [bu,bZ, *]; done) | (simp [bu,bZ, *]; omega) | grind [bu,bZ]
 exact ⟨[.agg (a7 { c with timer := 2 } (cS v1a c v1c)).toArray,.slice (some ⟨g2,0,none⟩) 0 0],by kernel_rfl,fun w' hb hf ha => by rw [hmod]; exact gu ((v1a,v1c),(((some ⟨g2,0,none⟩) : Option Addr),0)) rfl rfl (pO (hf _ m1) hB) (pR (hf _ m0) hB) (Apart.sub2 ha (i := 1) (j := 0) rfl rfl (by decide) rfl (fun b h => h) (fun b h => bX h)) hb⟩
 have h5p := bA h5
 refine kK <| kQ <| kRB 5 [1,2,4,5] [(1,.p 0 0),(2,.p 1 0),(4,.p 2 0),(5,.v (.slice (some ⟨g2,0,none⟩) 0 0))] [⟨44,a7 c (cS Z c Y)⟩,⟨44,bN⟩,⟨44,a7 { c with timer := K6.wrap (c.timer - 1) } (cS v1a c v1c)⟩] <| gW (st' := ⟨[(1,.p 0 0),(2,.p 1 0),(4,.p 2 0),(5,.v (.slice (some ⟨g2,0,none⟩) 0 0))],[⟨44,a7 c (cS Z c Y)⟩,⟨44,bN⟩,⟨44,a7 { c with timer := c.timer - 1 } (cS v1a c v1c)⟩],[],[ap w.heap.size 50 13 (.slice (some ⟨g2,0,none⟩) 0 0) (([] : List Seg).map ak),aF w.heap.size (cS v1a c v1c) 2 (c.r.held.map pC),cH Z c Y]⟩) (by rw [show (K6.wrap (c.timer - 1)) = (c.timer - 1) from ab (by omega) (by omega)] <;> rfl) ?_
 refine aR [1,2,4,5] [] <| kS <| kQ <| aR [1,2,4,5,35] [(35,aB (decide ((c.timer - 1) > 0)))] ?_
 refine kC (decide ((c.timer - 1) > 0)) (fun h7 => ?_) (fun h7 => ?_)
 have h7p := of_decide_eq_true h7
 refine kQ <| bf [2,3] [(3,.v (.slice (some ⟨g2,0,none⟩) 0 0))] 1 ⟨44,a7 { c with timer := c.timer - 1 } (cS v1a c v1c)⟩ <| kR ?_
 have hmod : bu c = (({ c with timer := c.timer - 1 }),([] : List Seg)) := by first | rfl | (simp [bu,bZ, *]; done) | (simp [bu,bZ, *]; omega) | grind [bu,bZ]
 exact ⟨[.agg (a7 { c with timer := c.timer - 1 } (cS v1a c v1c)).toArray,.slice (some ⟨g2,0,none⟩) 0 0],by kernel_rfl,fun w' hb hf ha => by rw [hmod]; exact gu ((v1a,v1c),(((some ⟨g2,0,none⟩) : Option Addr),0)) rfl rfl (pO (hf _ m1) hB) (pR (hf _ m0) hB) (Apart.sub2 ha (i := 1) (j := 0) rfl rfl (by decide) rfl (fun b h => h) (fun b h => bX h)) hb⟩
 have h7p := of_decide_eq_false h7
 refine kK <| kS <| kQ <| aR [1,2,4,5,40] [(40,aB (c.state == 7))] ?_
 refine kC (c.state == 7) (fun h8 => ?_) (fun h8 => ?_)
 have h8p := bC h8
 refine kQ <| bf [2,4,5] [] 2 ⟨44,a7 { c with state := 8,timer := c.timer - 1 } (cS v1a c v1c)⟩ <| kQ <| bf [2,4,5] [] 2 ⟨44,a7 { c with state := 8,timer := c.timer - 1,tries := 0 } (cS v1a c v1c)⟩ ?_
 refine kQ <| bf [2,3] [(3,.v (.slice (some ⟨g2,0,none⟩) 0 0))] 1 ⟨44,a7 { c with state := 8,timer := c.timer - 1,tries := 0 } (cS v1a c v1c)⟩ <| kR ?_
 have hmod : bu c = (({ c with state := 8,timer := c.timer - 1,tries := 0 }),([] : List Seg)) := by first | rfl | (simp [bu,bZ, *]; done) | (simp [bu,bZ, *]; omega) | grind [bu,bZ]
 exact ⟨[.agg (a7 { c with state := 8,timer := c.timer - 1,tries := 0 } (cS v1a c v1c)).toArray,.slice (some ⟨g2,0,none⟩) 0 0],by kernel_rfl,fun w' hb hf ha => by rw [hmod]; exact gu ((v1a,v1c),(((some ⟨g2,0,none⟩) : Option Addr),0)) rfl rfl (pO (hf _ m1) hB) (pR (hf _ m0) hB) (Apart.sub2 ha (i := 1) (j := 0) rfl rfl (by decide) rfl (fun b h => h) (fun b h => bX h)) hb⟩
 have h8p := bA h8
 refine kK <| kS <| kQ <| aR [1,2,4,47] [(47,aB (c.tries == 3))] ?_
 refine kC (c.tries == 3) (fun h9 => ?_) (fun h9 => ?_)
 have h9p := bC h9
 refine kQ <| dy 1 [2,4,48] [(48,.v (.agg (a7 c (cS Z c Y)).toArray))] 35 [.agg (a7 c (cS Z c Y)).toArray] (some 49) rfl (aA fun ww hf => fQ c (cS Z c Y) ww (hf _ m2) (by first | omega | (dsimp only; omega))) ?_
 intro _
 refine i5 [2,4,6] [(6,.p 3 0)] [⟨50,[iI c.t.my,iI c.t.port,iI (ay c.s),iI c.r.next,iI 16,iI (wO c.r),iI 0,iI (-1),.bool false,.bool false,iI 0,iI 0,.string (⟨#[]⟩ : ByteArray)]⟩] <| kQ <| bf [2,4,6] [] 3 ⟨50,[iI c.t.my,iI c.t.port,iI (ay c.s),iI c.r.next,iI 20,iI (wO c.r),iI 0,iI (-1),.bool false,.bool false,iI 0,iI 0,.string (⟨#[]⟩ : ByteArray)]⟩ <| kQ <| bf [2,4,6] [] 2 ⟨44,a7 { c with state := 8,timer := c.timer - 1 } (cS v1a c v1c)⟩ ?_
 refine kQ <| bf [2,4,6] [] 2 ⟨44,a7 { c with state := 8,timer := c.timer - 1,tries := 0 } (cS v1a c v1c)⟩ <| kS <| fY (α := Nat) (fun y => (fun (g11 : Nat) => (⟨[(2,.p 1 0),(3,.v (.slice (some ⟨g11,0,none⟩) 1 1))],[⟨44,a7 c (cS Z c Y)⟩,⟨44,a7 { c with state := 8,timer := c.timer - 1,tries := 0 } (cS v1a c v1c)⟩,⟨44,a7 { c with state := 8,timer := c.timer - 1,tries := 0 } (cS v1a c v1c)⟩,⟨50,[iI c.t.my,iI c.t.port,iI (ay c.s),iI c.r.next,iI 20,iI (wO c.r),iI 0,iI (-1),.bool false,.bool false,iI 0,iI 0,.string (⟨#[]⟩ : ByteArray)]⟩],[],[ap w.heap.size 50 13 (.slice (some ⟨g11,0,none⟩) 1 1) (([⟨c.t.my,c.t.port,ay c.s,c.r.next,20,wO c.r,⟨0,(-1),false,false,0,0⟩,(⟨#[]⟩ : ByteArray)⟩] : List Seg).map ak),ap w.heap.size 50 13 (.slice (some ⟨g2,0,none⟩) 0 0) (([] : List Seg).map ak),aF w.heap.size (cS v1a c v1c) 2 (c.r.held.map pC),cH Z c Y]⟩ : St)) y) ?_ ?_
 refine bc [true,false,true,true] (by kernel_rfl) (fun ρ σ => ?_)
 refine ca [0,1] [57,56,2] 3 [(57,.v (.agg #[iI c.t.my,iI c.t.port,iI (ay c.s),iI c.r.next,iI 20,iI (wO c.r),iI 0,iI (-1),.bool false,.bool false,iI 0,iI 0,.string (⟨#[]⟩ : ByteArray)])),(56,.v (.agg (a7 { c with state := 8,timer := c.timer - 1,tries := 0 } (cS v1a c v1c)).toArray)),(2,.p 1 0)] <| kA [2,3] ⟨?_,?_⟩
 refine gj 2 rfl (ax (bz rfl (ax (ax ar)))) (bi (e := 50) (K := 13) (bytes := 104) [.agg #[iI c.t.my,iI c.t.port,iI (ay c.s),iI c.r.next,iI 20,iI (wO c.r),iI 0,iI (-1),.bool false,.bool false,iI 0,iI 0,.string (⟨#[]⟩ : ByteArray)]] (rs := ([⟨c.t.my,c.t.port,ay c.s,c.r.next,20,wO c.r,⟨0,(-1),false,false,0,0⟩,(⟨#[]⟩ : ByteArray)⟩] : List Seg).map ak) rfl rfl) ?_
 intro g11
 refine kA [3] <| e8 3 1 0 (a7 { c with state := 8,timer := c.timer - 1,tries := 0 } (cS v1a c v1c)) rfl <| ca [4] [3,2] 0 [(3,.v (.slice (some ⟨g11,0,none⟩) 1 1)),(2,.p 1 0)] <| kZ ?_
 exact ⟨(g11),kF 4 0 [2,3]⟩
 refine e8 3 1 0 (a7 { c with state := 8,timer := c.timer - 1,tries := 0 } (cS v1a c v1c)) rfl <| kA [2] <| gj 2 rfl (ax (bz rfl (ax (ax ar)))) (bi (e := 50) (K := 13) (bytes := 104) [.agg #[iI c.t.my,iI c.t.port,iI (ay c.s),iI c.r.next,iI 20,iI (wO c.r),iI 0,iI (-1),.bool false,.bool false,iI 0,iI 0,.string (⟨#[]⟩ : ByteArray)]] (rs := ([⟨c.t.my,c.t.port,ay c.s,c.r.next,20,wO c.r,⟨0,(-1),false,false,0,0⟩,(⟨#[]⟩ : ByteArray)⟩] : List Seg).map ak) rfl rfl) ?_
 intro g13
 refine ca [4] [3,2] 0 [(3,.v (.slice (some ⟨g13,0,none⟩) 1 1)),(2,.p 1 0)] <| kZ ?_
 exact ⟨(g13),kF 4 0 [2,3]⟩
 intro g11
 refine kR ?_
 have hmod : bu c = (({ c with state := 8,timer := c.timer - 1,tries := 0 }),([⟨c.t.my,c.t.port,ay c.s,c.r.next,20,wO c.r,⟨0,(-1),false,false,0,0⟩,(⟨#[]⟩ : ByteArray)⟩] : List Seg)) := by first | rfl | (simp [bu,bZ, *]; done) | (simp [bu,bZ, *]; omega) | grind [bu,bZ]
 exact ⟨[.agg (a7 { c with state := 8,timer := c.timer - 1,tries := 0 } (cS v1a c v1c)).toArray,.slice (some ⟨g11,0,none⟩) 1 1],by kernel_rfl,fun w' hb hf ha => by rw [hmod]; exact gu ((v1a,v1c),(((some ⟨g11,0,none⟩) : Option Addr),1)) rfl rfl (pO (hf _ m2) hB) (pR (hf _ m0) hB) (Apart.sub2 ha (i := 2) (j := 0) rfl rfl (by decide) rfl (fun b h => h) (fun b h => bX h)) hb⟩
 have h9p := bA h9
 refine kK <| kQ <| kRB 5 [1,2,4] [(1,.p 0 0),(2,.p 1 0),(4,.p 2 0)] [⟨44,a7 c (cS Z c Y)⟩,⟨44,bN⟩,⟨44,a7 { c with timer := c.timer - 1,tries := K6.wrap (c.tries + 1) } (cS v1a c v1c)⟩] <| gW (st' := ⟨[(1,.p 0 0),(2,.p 1 0),(4,.p 2 0)],[⟨44,a7 c (cS Z c Y)⟩,⟨44,bN⟩,⟨44,a7 { c with timer := c.timer - 1,tries := c.tries + 1 } (cS v1a c v1c)⟩],[],[ap w.heap.size 50 13 (.slice (some ⟨g2,0,none⟩) 0 0) (([] : List Seg).map ak),aF w.heap.size (cS v1a c v1c) 2 (c.r.held.map pC),cH Z c Y]⟩) (by rw [show (K6.wrap (c.tries + 1)) = (c.tries + 1) from ab (by omega) (by omega)] <;> rfl) ?_
 refine aR [1,2,4] [] <| kQ <| dy 2 [2,4,64] [(64,.v (.agg (ai c.s).toArray))] 165 [.agg (ai c.s).toArray] (some 65) rfl (aA fun ww hf => sRewound_c c.s.una c.s.data c.s.sent c.s.fin c.s.finSent c.s.done ww ) ?_
 intro _
 refine bf [2,4] [] 2 ⟨44,a7 { c with s := (aK c.s),timer := c.timer - 1,tries := c.tries + 1 } (cS v1a c v1c)⟩ <| kS <| fY (α := Option Addr × Nat × Option Addr × Nat) (fun y => (fun (v15a : Option Addr) (v15c : Nat) (v14a : Option Addr) (v14c : Nat) => (⟨[(2,.p 1 0),(7,.p 3 0),(8,.v (.slice v15a ((pump ({ c with s := (aK c.s),timer := c.timer - 1,tries := c.tries + 1 }) (max 1 c.window)).2.length) v15c))],[⟨44,a7 c (cS Z c Y)⟩,⟨44,bN⟩,⟨44,a7 { c with s := (aK c.s),timer := c.timer - 1,tries := c.tries + 1 } (cS v1a c v1c)⟩,⟨44,a7 (pump ({ c with s := (aK c.s),timer := c.timer - 1,tries := c.tries + 1 }) (max 1 c.window)).1 (.slice v14a ((pump ({ c with s := (aK c.s),timer := c.timer - 1,tries := c.tries + 1 }) (max 1 c.window)).1.r.held.length) v14c)⟩],[],[aF w.heap.size (.slice v14a ((pump ({ c with s := (aK c.s),timer := c.timer - 1,tries := c.tries + 1 }) (max 1 c.window)).1.r.held.length) v14c) 2 ((pump ({ c with s := (aK c.s),timer := c.timer - 1,tries := c.tries + 1 }) (max 1 c.window)).1.r.held.map pC),ap w.heap.size 50 13 (.slice v15a ((pump ({ c with s := (aK c.s),timer := c.timer - 1,tries := c.tries + 1 }) (max 1 c.window)).2.length) v15c) ((pump ({ c with s := (aK c.s),timer := c.timer - 1,tries := c.tries + 1 }) (max 1 c.window)).2.map ak),ap w.heap.size 50 13 (.slice (some ⟨g2,0,none⟩) 0 0) (([] : List Seg).map ak),aF w.heap.size (cS v1a c v1c) 2 (c.r.held.map pC),cH Z c Y]⟩ : St)) y.1 y.2.1 y.2.2.1 y.2.2.2) ?_ ?_
 refine cm [] (by kernel_rfl) (fun ρ σ => ?_)
 refine ca [0,1,2] [70,68,2] 8 [(70,aI c.window),(68,.v (.agg (a7 { c with s := (aK c.s),timer := c.timer - 1,tries := c.tries + 1 } (cS v1a c v1c)).toArray)),(2,.p 1 0)] <| kA [3,8] ⟨?_,?_⟩
 refine dr 3 76 [iI 1,iI c.window] (some 71) rfl (bM fun ww hf => eo 1 c.window ww ) ?_
 intro _
 refine kA [4,8] ⟨?_,?_⟩
 refine dr 4 36 [.agg (a7 { c with s := (aK c.s),timer := c.timer - 1,tries := c.tries + 1 } (cS v1a c v1c)).toArray,iI (max 1 c.window)] (some 72) rfl (cZ fun ww hw hf => gZ ({ c with s := (aK c.s),timer := c.timer - 1,tries := c.tries + 1 }) (cS v1a c v1c) (max 1 c.window) ww (Own.sl (hf _ m1)) (by assumption) (by assumption) (by omega) (by omega) w.heap.size hw) ?_
 rintro ⟨⟨v14a,v14c⟩,⟨v15a,v15c⟩⟩
 have hbd16 : (pump ({ c with s := (aK c.s),timer := c.timer - 1,tries := c.tries + 1 }) (max 1 c.window)).1.r.held.length ≤ 1048576 ∧ (pump ({ c with s := (aK c.s),timer := c.timer - 1,tries := c.tries + 1 }) (max 1 c.window)).2.length ≤ 49 := eC _ _  (by omega)
 have hbd16a := hbd16.1; have hbd16b := hbd16.2
 refine ca [5,6,7] [74,73,2] 3 [(74,.v (.slice v15a ((pump ({ c with s := (aK c.s),timer := c.timer - 1,tries := c.tries + 1 }) (max 1 c.window)).2.length) v15c)),(73,.v (.agg (a7 (pump ({ c with s := (aK c.s),timer := c.timer - 1,tries := c.tries + 1 }) (max 1 c.window)).1 (.slice v14a ((pump ({ c with s := (aK c.s),timer := c.timer - 1,tries := c.tries + 1 }) (max 1 c.window)).1.r.held.length) v14c)).toArray)),(2,.p 1 0)] <| kA [8] <| cK 8 ⟨44,bN⟩ _ rfl (by kernel_rfl) (by kernel_rfl) (by kernel_rfl) (by kernel_rfl) rfl ?_
 refine kA [9] <| e8 9 3 0 (a7 (pump ({ c with s := (aK c.s),timer := c.timer - 1,tries := c.tries + 1 }) (max 1 c.window)).1 (.slice v14a ((pump ({ c with s := (aK c.s),timer := c.timer - 1,tries := c.tries + 1 }) (max 1 c.window)).1.r.held.length) v14c)) rfl <| ca [10] [8,7,2] 0 [(8,.v (.slice v15a ((pump ({ c with s := (aK c.s),timer := c.timer - 1,tries := c.tries + 1 }) (max 1 c.window)).2.length) v15c)),(7,.p 3 0),(2,.p 1 0)] <| kZ ?_
 exact ⟨(v15a,v15c,v14a,v14c),kF 4 0 [2,7,8]⟩
 refine cK 8 ⟨44,bN⟩ _ rfl (by kernel_rfl) (by kernel_rfl) (by kernel_rfl) (by kernel_rfl) rfl ?_
 refine kA [4] <| dr 4 36 [.agg (a7 { c with s := (aK c.s),timer := c.timer - 1,tries := c.tries + 1 } (cS v1a c v1c)).toArray,iI (max 1 c.window)] (some 72) rfl (cZ fun ww hw hf => gZ ({ c with s := (aK c.s),timer := c.timer - 1,tries := c.tries + 1 }) (cS v1a c v1c) (max 1 c.window) ww (Own.sl (hf _ m1)) (by assumption) (by assumption) (by omega) (by omega) w.heap.size hw) ?_
 rintro ⟨⟨v17a,v17c⟩,⟨v18a,v18c⟩⟩
 have hbd19 : (pump ({ c with s := (aK c.s),timer := c.timer - 1,tries := c.tries + 1 }) (max 1 c.window)).1.r.held.length ≤ 1048576 ∧ (pump ({ c with s := (aK c.s),timer := c.timer - 1,tries := c.tries + 1 }) (max 1 c.window)).2.length ≤ 49 := eC _ _  (by omega)
 have hbd19a := hbd19.1; have hbd19b := hbd19.2
 refine ca [5,6,7] [74,73,7,2] 2 [(74,.v (.slice v18a ((pump ({ c with s := (aK c.s),timer := c.timer - 1,tries := c.tries + 1 }) (max 1 c.window)).2.length) v18c)),(73,.v (.agg (a7 (pump ({ c with s := (aK c.s),timer := c.timer - 1,tries := c.tries + 1 }) (max 1 c.window)).1 (.slice v17a ((pump ({ c with s := (aK c.s),timer := c.timer - 1,tries := c.tries + 1 }) (max 1 c.window)).1.r.held.length) v17c)).toArray)),(7,.p 3 0),(2,.p 1 0)] <| kA [9] <| e8 9 3 0 (a7 (pump ({ c with s := (aK c.s),timer := c.timer - 1,tries := c.tries + 1 }) (max 1 c.window)).1 (.slice v17a ((pump ({ c with s := (aK c.s),timer := c.timer - 1,tries := c.tries + 1 }) (max 1 c.window)).1.r.held.length) v17c)) rfl <| ca [10] [8,7,2] 0 [(8,.v (.slice v18a ((pump ({ c with s := (aK c.s),timer := c.timer - 1,tries := c.tries + 1 }) (max 1 c.window)).2.length) v18c)),(7,.p 3 0),(2,.p 1 0)] ?_
 refine kZ ?_
 exact ⟨(v18a,v18c,v17a,v17c),kF 4 0 [2,7,8]⟩
 refine cK 8 ⟨44,bN⟩ _ rfl (by kernel_rfl) (by kernel_rfl) (by kernel_rfl) (by kernel_rfl) rfl ?_
 refine kA [3] <| dr 3 76 [iI 1,iI c.window] (some 71) rfl (bM fun ww hf => eo 1 c.window ww ) ?_
 intro _
 refine kA [4] <| dr 4 36 [.agg (a7 { c with s := (aK c.s),timer := c.timer - 1,tries := c.tries + 1 } (cS v1a c v1c)).toArray,iI (max 1 c.window)] (some 72) rfl (cZ fun ww hw hf => gZ ({ c with s := (aK c.s),timer := c.timer - 1,tries := c.tries + 1 }) (cS v1a c v1c) (max 1 c.window) ww (Own.sl (hf _ m1)) (by assumption) (by assumption) (by omega) (by omega) w.heap.size hw) ?_
 rintro ⟨⟨v20a,v20c⟩,⟨v21a,v21c⟩⟩
 have hbd22 : (pump ({ c with s := (aK c.s),timer := c.timer - 1,tries := c.tries + 1 }) (max 1 c.window)).1.r.held.length ≤ 1048576 ∧ (pump ({ c with s := (aK c.s),timer := c.timer - 1,tries := c.tries + 1 }) (max 1 c.window)).2.length ≤ 49 := eC _ _  (by omega)
 have hbd22a := hbd22.1; have hbd22b := hbd22.2
 refine ca [5,6,7] [74,73,7,2] 2 [(74,.v (.slice v21a ((pump ({ c with s := (aK c.s),timer := c.timer - 1,tries := c.tries + 1 }) (max 1 c.window)).2.length) v21c)),(73,.v (.agg (a7 (pump ({ c with s := (aK c.s),timer := c.timer - 1,tries := c.tries + 1 }) (max 1 c.window)).1 (.slice v20a ((pump ({ c with s := (aK c.s),timer := c.timer - 1,tries := c.tries + 1 }) (max 1 c.window)).1.r.held.length) v20c)).toArray)),(7,.p 3 0),(2,.p 1 0)] <| kA [9] <| e8 9 3 0 (a7 (pump ({ c with s := (aK c.s),timer := c.timer - 1,tries := c.tries + 1 }) (max 1 c.window)).1 (.slice v20a ((pump ({ c with s := (aK c.s),timer := c.timer - 1,tries := c.tries + 1 }) (max 1 c.window)).1.r.held.length) v20c)) rfl <| ca [10] [8,7,2] 0 [(8,.v (.slice v21a ((pump ({ c with s := (aK c.s),timer := c.timer - 1,tries := c.tries + 1 }) (max 1 c.window)).2.length) v21c)),(7,.p 3 0),(2,.p 1 0)] ?_
 refine kZ ?_
 exact ⟨(v21a,v21c,v20a,v20c),kF 4 0 [2,7,8]⟩
 rintro ⟨v15a,v15c,v14a,v14c⟩
 refine kQ <| c8 [2,7,8] ⟨[(2,.p 1 0),(7,.p 3 0),(8,.v (.slice v15a ((pump ({ c with s := (aK c.s),timer := c.timer - 1,tries := c.tries + 1 }) (max 1 c.window)).2.length) v15c))],[⟨44,a7 c (cS Z c Y)⟩,⟨44,bN⟩,⟨44,a7 { c with s := (aK c.s),timer := c.timer - 1,tries := c.tries + 1 } (cS v1a c v1c)⟩,⟨44,a7 { (pump ({ c with s := (aK c.s),timer := c.timer - 1,tries := c.tries + 1 }) (max 1 c.window)).1 with timer := 3 } (.slice v14a ((pump ({ c with s := (aK c.s),timer := c.timer - 1,tries := c.tries + 1 }) (max 1 c.window)).1.r.held.length) v14c)⟩],[],[aF w.heap.size (.slice v14a ((pump ({ c with s := (aK c.s),timer := c.timer - 1,tries := c.tries + 1 }) (max 1 c.window)).1.r.held.length) v14c) 2 ((pump ({ c with s := (aK c.s),timer := c.timer - 1,tries := c.tries + 1 }) (max 1 c.window)).1.r.held.map pC),ap w.heap.size 50 13 (.slice v15a ((pump ({ c with s := (aK c.s),timer := c.timer - 1,tries := c.tries + 1 }) (max 1 c.window)).2.length) v15c) ((pump ({ c with s := (aK c.s),timer := c.timer - 1,tries := c.tries + 1 }) (max 1 c.window)).2.map ak),ap w.heap.size 50 13 (.slice (some ⟨g2,0,none⟩) 0 0) (([] : List Seg).map ak),aF w.heap.size (cS v1a c v1c) 2 (c.r.held.map pC),cH Z c Y]⟩ <| kQ <| bf [2,3] [(3,.v (.slice v15a ((pump ({ c with s := (aK c.s),timer := c.timer - 1,tries := c.tries + 1 }) (max 1 c.window)).2.length) v15c))] 1 ⟨44,a7 { (pump ({ c with s := (aK c.s),timer := c.timer - 1,tries := c.tries + 1 }) (max 1 c.window)).1 with timer := 3 } (.slice v14a ((pump ({ c with s := (aK c.s),timer := c.timer - 1,tries := c.tries + 1 }) (max 1 c.window)).1.r.held.length) v14c)⟩ ?_
 refine kR ?_
 have hmod : bu c = (({ (pump ({ c with s := (aK c.s),timer := c.timer - 1,tries := c.tries + 1 }) (max 1 c.window)).1 with timer := 3 }),((pump ({ c with s := (aK c.s),timer := c.timer - 1,tries := c.tries + 1 }) (max 1 c.window)).2)) := by first | rfl | (simp [bu,bZ, *]; done) | (simp [bu,bZ, *]; omega) | grind [bu,bZ]
 exact ⟨[.agg (a7 { (pump ({ c with s := (aK c.s),timer := c.timer - 1,tries := c.tries + 1 }) (max 1 c.window)).1 with timer := 3 } (.slice v14a ((pump ({ c with s := (aK c.s),timer := c.timer - 1,tries := c.tries + 1 }) (max 1 c.window)).1.r.held.length) v14c)).toArray,.slice v15a ((pump ({ c with s := (aK c.s),timer := c.timer - 1,tries := c.tries + 1 }) (max 1 c.window)).2.length) v15c],by kernel_rfl,fun w' hb hf ha => by rw [hmod]; exact gu ((v14a,v14c),(v15a,v15c)) rfl rfl (pO (hf _ m0) hB) (pR (hf _ m1) hB) (Apart.sub2 ha (i := 0) (j := 1) rfl rfl (by decide) rfl (fun b h => h) (fun b h => bX h)) hb⟩
theorem yiscaled_c (window : Int) (o : Opt) (w : World) (h0 : 0 ≤ window ∧ window ≤ 65535) (h1 : o.scale ≤ 14) : Calls Tryz.prog 70 #[iI window, .agg (df o).toArray] w fun e w' => e = .returned (iI (bI window o)) ∧ Below w.heap.size w w' := by
 refine bH (args := [iI window,.agg (df o).toArray]) (fn := Tryz.f70) [] Tryz.func70 rfl Tryz.ntmps70 rfl (by simp) ?_
 refine kQ <| c8 [0,3] ⟨[(0,aI window),(3,.p 0 0)],[⟨42,df o⟩],[],[]⟩ <| kQ <| i8 3 [5,7] [(5,aI window),(7,aI o.scale)] (iI (max o.scale 0)) rfl (fun _ _ _ ww hr => act_max2 (k := .i64) (k' := .i64) (p := o.scale) (q := 0) hr.1 rfl rfl rfl (by kernel_rfl) (by kernel_rfl) ww) ?_
 refine i8 0 [5,8] [(5,aI window),(8,aI (max o.scale 0))] (iI (K6.wrap (window * 2 ^ (max o.scale 0).toNat))) rfl (fun _ _ _ ww hr => cj hr.1 rfl (by kernel_rfl) (by kernel_rfl) (shl_run (k' := .i64) (by have e : ((IntKind.i64.bits : Nat) : Int) = 64 := rfl; (try rw [eU (by omega) (by omega)]); omega) (by have e : ((IntKind.i64.bits : Nat) : Int) = 64 := rfl; (try rw [eU (by omega) (by omega)]); omega) ww)) ?_
 refine i8 0 [9] [(9,aI (K6.wrap (window * 2 ^ (max o.scale 0).toNat)))] (iI (min (K6.wrap (window * 2 ^ (max o.scale 0).toNat)) 1073725440)) rfl (fun _ _ _ ww hr => act_min2 (k := .i64) (k' := .i64) (p := K6.wrap (window * 2 ^ (max o.scale 0).toNat)) (q := 1073725440) hr.1 rfl rfl rfl (by kernel_rfl) (by kernel_rfl) ww) ?_
 refine cR 1 [4] [(4,aI (min (K6.wrap (window * 2 ^ (max o.scale 0).toNat)) 1073725440))] <| dg (t' := [(4,aI (min (window * 2 ^ (max 0 o.scale).toNat) 1073725440))]) (by rw [show (max o.scale 0) = (max 0 o.scale) from (by omega),show (K6.wrap (window * 2 ^ (max 0 o.scale).toNat)) = (window * 2 ^ (max 0 o.scale).toNat) from ir (by omega) (by omega) (by omega) (by omega)]) ?_
 refine aJ [4] [(4,aI (min (window * 2 ^ (max 0 o.scale).toNat) 1073725440))] <| kR ?_
 have hmod : bI window o = (min (window * 2 ^ (max 0 o.scale).toNat) 1073725440) := by (unfold bI; have := far_le (a := window) (b := max 0 o.scale) (by omega) (by omega) (by omega) (by omega); omega)
 exact ⟨[iI (min (window * 2 ^ (max 0 o.scale).toNat) 1073725440)],by kernel_rfl,fun w' hb hf => by rw [hmod]; exact ⟨rfl,hb⟩⟩
theorem en (n : Int) (w : World)  (B : Nat) (hB : B ≤ w.heap.size) : Calls Tryz.prog 161 #[iI n] w fun e w' => XRs w w' e (α := Option Addr × Nat) (fun y => .agg (ah (rN n) (.slice y.1 ((rN n).held.length) y.2)).toArray) (fun y => [ap B 85 2 (.slice y.1 ((rN n).held.length) y.2) ((rN n).held.map pC)]) := by
 refine ck (args := [iI n]) (fn := Tryz.f161) [] Tryz.func161 rfl Tryz.ntmps161 rfl (by simp) ?_
 refine kQ <| c8 [0,2] ⟨[(0,aI n),(2,.p 0 0)],[⟨41,dl⟩],[],[]⟩ <| kQ <| dh 1 [2,3] [(2,.p 0 0),(3,aI n)] 122 [iI n] (some 4) rfl (bM fun ww hf => gr n ww ) ?_
 intro _
 refine i8 0 [2,4] [(2,.p 0 0),(4,aI (n % 4294967296))] (.agg #[iI (n % 4294967296),.string (⟨#[]⟩ : ByteArray),.slice none 0 0,iI (-1),.bool false]) rfl (fun _ _ _ ww hr => aN [(0,iI (n % 4294967296)),(3,iI (-1))] hr.1 rfl (by kernel_rfl) (by kernel_rfl) ww) ?_
 refine c8 [2] ⟨[(2,.p 0 0)],[⟨41,[iI (n % 4294967296),.string (⟨#[]⟩ : ByteArray),.slice none 0 0,iI (-1),.bool false]⟩],[],[]⟩ <| kR ?_
 have hmod : rN n = (⟨n % 4294967296,(⟨#[]⟩ : ByteArray),[],(-1),false⟩) := by first | rfl | (simp [rN,sA]; done)
 exact ⟨[.agg #[iI (n % 4294967296),.string (⟨#[]⟩ : ByteArray),.slice none 0 0,iI (-1),.bool false]],by kernel_rfl,fun w' hb hf ha => by rw [hmod]; exact im ((none,0)) rfl rfl ⟨rowF_nil _ _ _ _,fun b hb => (nilF_b _ _ _ _ hb).elim⟩ hb⟩
theorem ysConnNew_c (t : Tup) (iss : Int) (irs : Int) (o : Opt) (window : Int) (w : World)  (B : Nat) (hB : B ≤ w.heap.size) : Calls Tryz.prog 146 #[.agg (dI t).toArray, iI iss, iI irs, .agg (df o).toArray, iI window] w fun e w' => XRs w w' e (α := Option Addr × Nat) (fun y => .agg (a7 (cD t iss irs o window) (.slice y.1 ((cD t iss irs o window).r.held.length) y.2)).toArray) (fun y => [aF B (.slice y.1 ((cD t iss irs o window).r.held.length) y.2) 2 ((cD t iss irs o window).r.held.map pC)]) := by
 refine ck (args := [.agg (dI t).toArray,iI iss,iI irs,.agg (df o).toArray,iI window]) (fn := Tryz.f146) [] Tryz.func146 rfl Tryz.ntmps146 rfl (by simp) ?_
 refine kQ <| c8 [1,2,4,5,8,10] ⟨[(1,aI iss),(2,aI irs),(4,aI window),(5,.p 0 0),(8,.p 1 0),(10,.p 2 0)],[⟨37,dI t⟩,⟨42,df o⟩,⟨44,bN⟩],[],[]⟩ <| kS <| kQ <| dy 1 [1,2,4,5,8,10,12] [(12,.v (.agg (df o).toArray))] 66 [.agg (df o).toArray] (some 13) rfl (aA fun ww hf => ie o.mss o.scale o.sack o.stamp o.val o.echo ww ) ?_
 intro _
 refine aR [1,2,4,5,8,10,14] [(14,aB (!(bl o)))] <| kC (!(bl o)) (fun h1 => ?_) (fun h1 => ?_)
 have h1n := bg h1
 refine kG <| dy 0 [1,2,4,5,8,10] [] 88 [] (some 15) rfl (aA fun ww hf => fc  ww ) ?_
 intro _
 refine bf [1,2,4,5,8,10] [] 1 ⟨42,[iI 0,iI (-1),.bool false,.bool false,iI 0,iI 0]⟩ <| kS <| kQ <| dy 1 [1,2,4,5,8,10,16] [(16,aI window)] 114 [iI window,iI 16] (some 17) rfl (bM fun ww hf => ez window ww) ?_
 intro _
 refine aR [1,2,4,5,8,10,18] [(18,aB (!(ac window 16)))] <| kC (!(ac window 16)) (fun h2 => ?_) (fun h2 => ?_)
 have h2n := bg h2
 refine kG <| aR [1,2,4,5,8,10] [(4,aI 0)] <| kQ <| dy 3 [1,2,5,8,10,19,21] [(19,aI 0),(21,aI (-1))] 76 [iI 0,iI (-1)] (some 22) rfl (bM fun ww hf => eo 0 (-1) ww ) ?_
 intro _
 refine fh 1 [1,2,5,8,10,19,23] [(23,.v (.int .u64 (IntKind.u64.wrap (max 0 (-1)))))] (iI (K6.wrap (0 * 2 ^ (IntKind.u64.wrap (max 0 (-1))).toNat))) rfl (fun _ _ _ ww hr => cj hr.1 rfl (by kernel_rfl) (by kernel_rfl) (shl_run (k' := .u64) (by have e : ((IntKind.i64.bits : Nat) : Int) = 64 := rfl; (try rw [eU (by omega) (by omega)]); omega) (by have e : ((IntKind.i64.bits : Nat) : Int) = 64 := rfl; (try rw [eU (by omega) (by omega)]); omega) ww)) ?_
 refine cR 1 [1,2,5,8,10,11] [(1,aI iss),(2,aI irs),(5,.p 0 0),(8,.p 1 0),(10,.p 2 0),(11,aI (K6.wrap (0 * 2 ^ (IntKind.u64.wrap (max 0 (-1))).toNat)))] <| dg (t' := [(1,aI iss),(2,aI irs),(5,.p 0 0),(8,.p 1 0),(10,.p 2 0),(11,aI (0 * 2 ^ (max 0 (-1) : Int).toNat))]) (by rw [show (IntKind.u64.wrap (max 0 (-1))) = (max 0 (-1) : Int) from eU (by omega) (by omega),show (K6.wrap (0 * 2 ^ (max 0 (-1) : Int).toNat)) = (0 * 2 ^ (max 0 (-1) : Int).toNat) from ir (by omega) (by omega) (by omega) (by omega)]) ?_
 refine aR [1,2,5,8,10,11] [] <| kS <| cm [true,true,false] (by kernel_rfl) (fun ρ σ => ?_)
 refine ca [0,1,4,7,8,9] [34,33,32,29,26,25,10] 6 [(34,.v (.agg #[iI 0,iI (-1),.bool false,.bool false,iI 0,iI 0])),(33,aI (0 * 2 ^ (max 0 (-1) : Int).toNat)),(32,aI (0 * 2 ^ (max 0 (-1) : Int).toNat)),(29,aI irs),(26,aI iss),(25,.v (.agg (dI t).toArray)),(10,.p 2 0)] <| kA [2] <| dr 2 120 [iI iss,iI 1] (some 27) rfl (bM fun ww hf => bG iss 1 ww ) ?_
 intro _
 refine kX 3 (.agg #[iI (sA iss 1),.string (⟨#[]⟩ : ByteArray),iI 0,.bool false,.bool false,.bool false]) rfl (fun _ _ ww hA => aN [(0,iI (sA iss 1))] hA rfl (by kernel_rfl) (by kernel_rfl) ww) ?_
 refine kA [5] <| dr 5 120 [iI irs,iI 1] (some 30) rfl (bM fun ww hf => bG irs 1 ww ) ?_
 intro _
 refine kA [6] <| dr 6 161 [iI (sA irs 1)] (some 31) rfl (cZ fun ww hw hf => en (sA irs 1) ww   w.heap.size hw) ?_
 rintro ⟨v3a,v3c⟩
 refine kX 10 (.agg #[iI t.ip,iI t.port,iI t.my,iI 1,iI (sA iss 1),.string (⟨#[]⟩ : ByteArray),iI 0,.bool false,.bool false,.bool false,iI ((rN (sA irs 1)).next),.string ((rN (sA irs 1)).data),.slice v3a ((rN (sA irs 1)).held.length) v3c,iI ((rN (sA irs 1)).fin),.bool ((rN (sA irs 1)).done),iI (0 * 2 ^ (max 0 (-1) : Int).toNat),iI (0 * 2 ^ (max 0 (-1) : Int).toNat),iI 0,iI (-1),.bool false,.bool false,iI 0,iI 0,iI 0,iI 0]) rfl (fun _ _ ww hA => aN [(0,.agg (dI t).toArray),(1,iI 1),(2,.agg #[iI (sA iss 1),.string (⟨#[]⟩ : ByteArray),iI 0,.bool false,.bool false,.bool false]),(3,.agg (ah (rN (sA irs 1)) (.slice v3a ((rN (sA irs 1)).held.length) v3c)).toArray),(4,iI (0 * 2 ^ (max 0 (-1) : Int).toNat)),(5,iI (0 * 2 ^ (max 0 (-1) : Int).toNat)),(6,.agg #[iI 0,iI (-1),.bool false,.bool false,iI 0,iI 0])] hA rfl (by kernel_rfl) (by kernel_rfl) ww) ?_
 refine kA [11] <| e8 11 2 0 [iI t.ip,iI t.port,iI t.my,iI 1,iI (sA iss 1),.string (⟨#[]⟩ : ByteArray),iI 0,.bool false,.bool false,.bool false,iI ((rN (sA irs 1)).next),.string ((rN (sA irs 1)).data),.slice v3a ((rN (sA irs 1)).held.length) v3c,iI ((rN (sA irs 1)).fin),.bool ((rN (sA irs 1)).done),iI (0 * 2 ^ (max 0 (-1) : Int).toNat),iI (0 * 2 ^ (max 0 (-1) : Int).toNat),iI 0,iI (-1),.bool false,.bool false,iI 0,iI 0,iI 0,iI 0] rfl <| kZ <| kR ?_
 have hmod : cD t iss irs o window = (⟨t,1,⟨sA iss 1,(⟨#[]⟩ : ByteArray),0,false,false,false⟩,(rN (sA irs 1)),0 * 2 ^ (max 0 (-1) : Int).toNat,0 * 2 ^ (max 0 (-1) : Int).toNat,⟨0,(-1),false,false,0,0⟩,0,0⟩) := by first | rfl | (simp [cD,bI,rN, *]; done) | grind [cD,bI,rN]
 exact ⟨[.agg #[iI t.ip,iI t.port,iI t.my,iI 1,iI (sA iss 1),.string (⟨#[]⟩ : ByteArray),iI 0,.bool false,.bool false,.bool false,iI ((rN (sA irs 1)).next),.string ((rN (sA irs 1)).data),.slice v3a ((rN (sA irs 1)).held.length) v3c,iI ((rN (sA irs 1)).fin),.bool ((rN (sA irs 1)).done),iI (0 * 2 ^ (max 0 (-1) : Int).toNat),iI (0 * 2 ^ (max 0 (-1) : Int).toNat),iI 0,iI (-1),.bool false,.bool false,iI 0,iI 0,iI 0,iI 0]],by kernel_rfl,fun w' hb hf ha => by rw [hmod]; exact im ((v3a,v3c)) rfl rfl (pR (hf _ m0) hB) hb⟩
 have h2n := aD h2
 have h2nw := wordOk16_bd (by simpa using h2n)
 obtain ⟨h2nw0,h2nw1⟩ := h2nw
 refine kK <| kQ <| dy 3 [1,2,5,8,10,19,21] [(19,aI window),(21,aI (-1))] 76 [iI 0,iI (-1)] (some 22) rfl (bM fun ww hf => eo 0 (-1) ww ) ?_
 intro _
 refine fh 1 [1,2,5,8,10,19,23] [(23,.v (.int .u64 (IntKind.u64.wrap (max 0 (-1)))))] (iI (K6.wrap (window * 2 ^ (IntKind.u64.wrap (max 0 (-1))).toNat))) rfl (fun _ _ _ ww hr => cj hr.1 rfl (by kernel_rfl) (by kernel_rfl) (shl_run (k' := .u64) (by have e : ((IntKind.i64.bits : Nat) : Int) = 64 := rfl; (try rw [eU (by omega) (by omega)]); omega) (by have e : ((IntKind.i64.bits : Nat) : Int) = 64 := rfl; (try rw [eU (by omega) (by omega)]); omega) ww)) ?_
 refine cA 1 [1,2,5,8,10,11] [(11,aI (K6.wrap (window * 2 ^ (IntKind.u64.wrap (max 0 (-1))).toNat)))] <| cJ [1,2,5,8,10,11] [(11,aI (K6.wrap (window * 2 ^ (IntKind.u64.wrap (max 0 (-1))).toNat)))] [(11,aI (window * 2 ^ (max 0 (-1) : Int).toNat))] (by rw [show (IntKind.u64.wrap (max 0 (-1))) = (max 0 (-1) : Int) from eU (by omega) (by omega),show (K6.wrap (window * 2 ^ (max 0 (-1) : Int).toNat)) = (window * 2 ^ (max 0 (-1) : Int).toNat) from ir (by omega) (by omega) (by omega) (by omega)]) (by kernel_rfl) ?_
 refine aJ [1,2,5,8,10,11] [(1,aI iss),(2,aI irs),(5,.p 0 0),(8,.p 1 0),(10,.p 2 0),(11,aI (window * 2 ^ (max 0 (-1) : Int).toNat))] <| kS <| cm [true,true,false] (by kernel_rfl) (fun ρ σ => ?_)
 refine ca [0,1,4,7,8,9] [34,33,32,29,26,25,10] 6 [(34,.v (.agg #[iI 0,iI (-1),.bool false,.bool false,iI 0,iI 0])),(33,aI (window * 2 ^ (max 0 (-1) : Int).toNat)),(32,aI (window * 2 ^ (max 0 (-1) : Int).toNat)),(29,aI irs),(26,aI iss),(25,.v (.agg (dI t).toArray)),(10,.p 2 0)] <| kA [2] <| dr 2 120 [iI iss,iI 1] (some 27) rfl (bM fun ww hf => bG iss 1 ww ) ?_
 intro _
 refine kX 3 (.agg #[iI (sA iss 1),.string (⟨#[]⟩ : ByteArray),iI 0,.bool false,.bool false,.bool false]) rfl (fun _ _ ww hA => aN [(0,iI (sA iss 1))] hA rfl (by kernel_rfl) (by kernel_rfl) ww) ?_
 refine kA [5] <| dr 5 120 [iI irs,iI 1] (some 30) rfl (bM fun ww hf => bG irs 1 ww ) ?_
 intro _
 refine kA [6] <| dr 6 161 [iI (sA irs 1)] (some 31) rfl (cZ fun ww hw hf => en (sA irs 1) ww   w.heap.size hw) ?_
 rintro ⟨v4a,v4c⟩
 refine kX 10 (.agg #[iI t.ip,iI t.port,iI t.my,iI 1,iI (sA iss 1),.string (⟨#[]⟩ : ByteArray),iI 0,.bool false,.bool false,.bool false,iI ((rN (sA irs 1)).next),.string ((rN (sA irs 1)).data),.slice v4a ((rN (sA irs 1)).held.length) v4c,iI ((rN (sA irs 1)).fin),.bool ((rN (sA irs 1)).done),iI (window * 2 ^ (max 0 (-1) : Int).toNat),iI (window * 2 ^ (max 0 (-1) : Int).toNat),iI 0,iI (-1),.bool false,.bool false,iI 0,iI 0,iI 0,iI 0]) rfl (fun _ _ ww hA => aN [(0,.agg (dI t).toArray),(1,iI 1),(2,.agg #[iI (sA iss 1),.string (⟨#[]⟩ : ByteArray),iI 0,.bool false,.bool false,.bool false]),(3,.agg (ah (rN (sA irs 1)) (.slice v4a ((rN (sA irs 1)).held.length) v4c)).toArray),(4,iI (window * 2 ^ (max 0 (-1) : Int).toNat)),(5,iI (window * 2 ^ (max 0 (-1) : Int).toNat)),(6,.agg #[iI 0,iI (-1),.bool false,.bool false,iI 0,iI 0])] hA rfl (by kernel_rfl) (by kernel_rfl) ww) ?_
 refine kA [11] <| e8 11 2 0 [iI t.ip,iI t.port,iI t.my,iI 1,iI (sA iss 1),.string (⟨#[]⟩ : ByteArray),iI 0,.bool false,.bool false,.bool false,iI ((rN (sA irs 1)).next),.string ((rN (sA irs 1)).data),.slice v4a ((rN (sA irs 1)).held.length) v4c,iI ((rN (sA irs 1)).fin),.bool ((rN (sA irs 1)).done),iI (window * 2 ^ (max 0 (-1) : Int).toNat),iI (window * 2 ^ (max 0 (-1) : Int).toNat),iI 0,iI (-1),.bool false,.bool false,iI 0,iI 0,iI 0,iI 0] rfl <| kZ <| kR ?_
 have hmod : cD t iss irs o window = (⟨t,1,⟨sA iss 1,(⟨#[]⟩ : ByteArray),0,false,false,false⟩,(rN (sA irs 1)),window * 2 ^ (max 0 (-1) : Int).toNat,window * 2 ^ (max 0 (-1) : Int).toNat,⟨0,(-1),false,false,0,0⟩,0,0⟩) := by first | rfl | (simp [cD,bI,rN, *]; done) | grind [cD,bI,rN]
 exact ⟨[.agg #[iI t.ip,iI t.port,iI t.my,iI 1,iI (sA iss 1),.string (⟨#[]⟩ : ByteArray),iI 0,.bool false,.bool false,.bool false,iI ((rN (sA irs 1)).next),.string ((rN (sA irs 1)).data),.slice v4a ((rN (sA irs 1)).held.length) v4c,iI ((rN (sA irs 1)).fin),.bool ((rN (sA irs 1)).done),iI (window * 2 ^ (max 0 (-1) : Int).toNat),iI (window * 2 ^ (max 0 (-1) : Int).toNat),iI 0,iI (-1),.bool false,.bool false,iI 0,iI 0,iI 0,iI 0]],by kernel_rfl,fun w' hb hf ha => by rw [hmod]; exact im ((v4a,v4c)) rfl rfl (pR (hf _ m0) hB) hb⟩
 have h1n := aD h1
 have h1nw := gq (by simpa using h1n)
 obtain ⟨h1nw0,h1nw1⟩ := h1nw
 refine kK <| kS <| kQ <| dy 1 [1,2,4,5,8,10,16] [(16,aI window)] 114 [iI window,iI 16] (some 17) rfl (bM fun ww hf => ez window ww) ?_
 intro _
 refine aR [1,2,4,5,8,10,18] [(18,aB (!(ac window 16)))] <| kC (!(ac window 16)) (fun h5 => ?_) (fun h5 => ?_)
 have h5n := bg h5
 refine kG <| aR [1,2,4,5,8,10] [(4,aI 0)] <| kQ <| dy 3 [1,2,5,8,10,19,21] [(19,aI 0),(21,aI o.scale)] 76 [iI 0,iI o.scale] (some 22) rfl (bM fun ww hf => eo 0 o.scale ww ) ?_
 intro _
 refine fh 1 [1,2,5,8,10,19,23] [(23,.v (.int .u64 (IntKind.u64.wrap (max 0 o.scale))))] (iI (K6.wrap (0 * 2 ^ (IntKind.u64.wrap (max 0 o.scale)).toNat))) rfl (fun _ _ _ ww hr => cj hr.1 rfl (by kernel_rfl) (by kernel_rfl) (shl_run (k' := .u64) (by have e : ((IntKind.i64.bits : Nat) : Int) = 64 := rfl; (try rw [eU (by omega) (by omega)]); omega) (by have e : ((IntKind.i64.bits : Nat) : Int) = 64 := rfl; (try rw [eU (by omega) (by omega)]); omega) ww)) ?_
 refine cA 1 [1,2,5,8,10,11] [(11,aI (K6.wrap (0 * 2 ^ (IntKind.u64.wrap (max 0 o.scale)).toNat)))] <| cJ [1,2,5,8,10,11] [(11,aI (K6.wrap (0 * 2 ^ (IntKind.u64.wrap (max 0 o.scale)).toNat)))] [(11,aI (0 * 2 ^ (max 0 o.scale).toNat))] (by rw [show (IntKind.u64.wrap (max 0 o.scale)) = (max 0 o.scale) from eU (by omega) (by omega),show (K6.wrap (0 * 2 ^ (max 0 o.scale).toNat)) = (0 * 2 ^ (max 0 o.scale).toNat) from ir (by omega) (by omega) (by omega) (by omega)]) (by kernel_rfl) ?_
 refine aR [1,2,5,8,10,11] [] <| kS <| cm [true,true,false] (by kernel_rfl) (fun ρ σ => ?_)
 refine ca [0,1,4,7,8,9] [34,33,32,29,26,25,10] 6 [(34,.v (.agg (df o).toArray)),(33,aI (0 * 2 ^ (max 0 o.scale).toNat)),(32,aI (0 * 2 ^ (max 0 o.scale).toNat)),(29,aI irs),(26,aI iss),(25,.v (.agg (dI t).toArray)),(10,.p 2 0)] <| kA [2] <| dr 2 120 [iI iss,iI 1] (some 27) rfl (bM fun ww hf => bG iss 1 ww ) ?_
 intro _
 refine kX 3 (.agg #[iI (sA iss 1),.string (⟨#[]⟩ : ByteArray),iI 0,.bool false,.bool false,.bool false]) rfl (fun _ _ ww hA => aN [(0,iI (sA iss 1))] hA rfl (by kernel_rfl) (by kernel_rfl) ww) ?_
 refine kA [5] <| dr 5 120 [iI irs,iI 1] (some 30) rfl (bM fun ww hf => bG irs 1 ww ) ?_
 intro _
 refine kA [6] <| dr 6 161 [iI (sA irs 1)] (some 31) rfl (cZ fun ww hw hf => en (sA irs 1) ww   w.heap.size hw) ?_
 rintro ⟨v6a,v6c⟩
 refine kX 10 (.agg #[iI t.ip,iI t.port,iI t.my,iI 1,iI (sA iss 1),.string (⟨#[]⟩ : ByteArray),iI 0,.bool false,.bool false,.bool false,iI ((rN (sA irs 1)).next),.string ((rN (sA irs 1)).data),.slice v6a ((rN (sA irs 1)).held.length) v6c,iI ((rN (sA irs 1)).fin),.bool ((rN (sA irs 1)).done),iI (0 * 2 ^ (max 0 o.scale).toNat),iI (0 * 2 ^ (max 0 o.scale).toNat),iI o.mss,iI o.scale,.bool o.sack,.bool o.stamp,iI o.val,iI o.echo,iI 0,iI 0]) rfl (fun _ _ ww hA => aN [(0,.agg (dI t).toArray),(1,iI 1),(2,.agg #[iI (sA iss 1),.string (⟨#[]⟩ : ByteArray),iI 0,.bool false,.bool false,.bool false]),(3,.agg (ah (rN (sA irs 1)) (.slice v6a ((rN (sA irs 1)).held.length) v6c)).toArray),(4,iI (0 * 2 ^ (max 0 o.scale).toNat)),(5,iI (0 * 2 ^ (max 0 o.scale).toNat)),(6,.agg (df o).toArray)] hA rfl (by kernel_rfl) (by kernel_rfl) ww) ?_
 refine kA [11] <| e8 11 2 0 [iI t.ip,iI t.port,iI t.my,iI 1,iI (sA iss 1),.string (⟨#[]⟩ : ByteArray),iI 0,.bool false,.bool false,.bool false,iI ((rN (sA irs 1)).next),.string ((rN (sA irs 1)).data),.slice v6a ((rN (sA irs 1)).held.length) v6c,iI ((rN (sA irs 1)).fin),.bool ((rN (sA irs 1)).done),iI (0 * 2 ^ (max 0 o.scale).toNat),iI (0 * 2 ^ (max 0 o.scale).toNat),iI o.mss,iI o.scale,.bool o.sack,.bool o.stamp,iI o.val,iI o.echo,iI 0,iI 0] rfl <| kZ <| kR ?_
 have hmod : cD t iss irs o window = (⟨t,1,⟨sA iss 1,(⟨#[]⟩ : ByteArray),0,false,false,false⟩,(rN (sA irs 1)),0 * 2 ^ (max 0 o.scale).toNat,0 * 2 ^ (max 0 o.scale).toNat,o,0,0⟩) := by first | rfl | (simp [cD,bI,rN, *]; done) | grind [cD,bI,rN]
 exact ⟨[.agg #[iI t.ip,iI t.port,iI t.my,iI 1,iI (sA iss 1),.string (⟨#[]⟩ : ByteArray),iI 0,.bool false,.bool false,.bool false,iI ((rN (sA irs 1)).next),.string ((rN (sA irs 1)).data),.slice v6a ((rN (sA irs 1)).held.length) v6c,iI ((rN (sA irs 1)).fin),.bool ((rN (sA irs 1)).done),iI (0 * 2 ^ (max 0 o.scale).toNat),iI (0 * 2 ^ (max 0 o.scale).toNat),iI o.mss,iI o.scale,.bool o.sack,.bool o.stamp,iI o.val,iI o.echo,iI 0,iI 0]],by kernel_rfl,fun w' hb hf ha => by rw [hmod]; exact im ((v6a,v6c)) rfl rfl (pR (hf _ m0) hB) hb⟩
 have h5n := aD h5
 have h5nw := wordOk16_bd (by simpa using h5n)
 obtain ⟨h5nw0,h5nw1⟩ := h5nw
 refine kK <| kQ <| dy 3 [1,2,5,8,10,19,21] [(19,aI window),(21,aI o.scale)] 76 [iI 0,iI o.scale] (some 22) rfl (bM fun ww hf => eo 0 o.scale ww ) ?_
 intro _
 refine fh 1 [1,2,5,8,10,19,23] [(23,.v (.int .u64 (IntKind.u64.wrap (max 0 o.scale))))] (iI (K6.wrap (window * 2 ^ (IntKind.u64.wrap (max 0 o.scale)).toNat))) rfl (fun _ _ _ ww hr => cj hr.1 rfl (by kernel_rfl) (by kernel_rfl) (shl_run (k' := .u64) (by have e : ((IntKind.i64.bits : Nat) : Int) = 64 := rfl; (try rw [eU (by omega) (by omega)]); omega) (by have e : ((IntKind.i64.bits : Nat) : Int) = 64 := rfl; (try rw [eU (by omega) (by omega)]); omega) ww)) ?_
 refine cA 1 [1,2,5,8,10,11] [(11,aI (K6.wrap (window * 2 ^ (IntKind.u64.wrap (max 0 o.scale)).toNat)))] <| cJ [1,2,5,8,10,11] [(11,aI (K6.wrap (window * 2 ^ (IntKind.u64.wrap (max 0 o.scale)).toNat)))] [(11,aI (window * 2 ^ (max 0 o.scale).toNat))] (by rw [show (IntKind.u64.wrap (max 0 o.scale)) = (max 0 o.scale) from eU (by omega) (by omega),show (K6.wrap (window * 2 ^ (max 0 o.scale).toNat)) = (window * 2 ^ (max 0 o.scale).toNat) from ir (by omega) (by omega) (by omega) (by omega)]) (by kernel_rfl) ?_
 refine aR [1,2,5,8,10,11] [] <| kS <| cm [true,true,false] (by kernel_rfl) (fun ρ σ => ?_)
 refine ca [0,1,4,7,8,9] [34,33,32,29,26,25,10] 6 [(34,.v (.agg (df o).toArray)),(33,aI (window * 2 ^ (max 0 o.scale).toNat)),(32,aI (window * 2 ^ (max 0 o.scale).toNat)),(29,aI irs),(26,aI iss),(25,.v (.agg (dI t).toArray)),(10,.p 2 0)] <| kA [2] <| dr 2 120 [iI iss,iI 1] (some 27) rfl (bM fun ww hf => bG iss 1 ww ) ?_
 intro _
 refine kX 3 (.agg #[iI (sA iss 1),.string (⟨#[]⟩ : ByteArray),iI 0,.bool false,.bool false,.bool false]) rfl (fun _ _ ww hA => aN [(0,iI (sA iss 1))] hA rfl (by kernel_rfl) (by kernel_rfl) ww) ?_
 refine kA [5] <| dr 5 120 [iI irs,iI 1] (some 30) rfl (bM fun ww hf => bG irs 1 ww ) ?_
 intro _
 refine kA [6] <| dr 6 161 [iI (sA irs 1)] (some 31) rfl (cZ fun ww hw hf => en (sA irs 1) ww   w.heap.size hw) ?_
 rintro ⟨v7a,v7c⟩
 refine kX 10 (.agg #[iI t.ip,iI t.port,iI t.my,iI 1,iI (sA iss 1),.string (⟨#[]⟩ : ByteArray),iI 0,.bool false,.bool false,.bool false,iI ((rN (sA irs 1)).next),.string ((rN (sA irs 1)).data),.slice v7a ((rN (sA irs 1)).held.length) v7c,iI ((rN (sA irs 1)).fin),.bool ((rN (sA irs 1)).done),iI (window * 2 ^ (max 0 o.scale).toNat),iI (window * 2 ^ (max 0 o.scale).toNat),iI o.mss,iI o.scale,.bool o.sack,.bool o.stamp,iI o.val,iI o.echo,iI 0,iI 0]) rfl (fun _ _ ww hA => aN [(0,.agg (dI t).toArray),(1,iI 1),(2,.agg #[iI (sA iss 1),.string (⟨#[]⟩ : ByteArray),iI 0,.bool false,.bool false,.bool false]),(3,.agg (ah (rN (sA irs 1)) (.slice v7a ((rN (sA irs 1)).held.length) v7c)).toArray),(4,iI (window * 2 ^ (max 0 o.scale).toNat)),(5,iI (window * 2 ^ (max 0 o.scale).toNat)),(6,.agg (df o).toArray)] hA rfl (by kernel_rfl) (by kernel_rfl) ww) ?_
 refine kA [11] <| e8 11 2 0 [iI t.ip,iI t.port,iI t.my,iI 1,iI (sA iss 1),.string (⟨#[]⟩ : ByteArray),iI 0,.bool false,.bool false,.bool false,iI ((rN (sA irs 1)).next),.string ((rN (sA irs 1)).data),.slice v7a ((rN (sA irs 1)).held.length) v7c,iI ((rN (sA irs 1)).fin),.bool ((rN (sA irs 1)).done),iI (window * 2 ^ (max 0 o.scale).toNat),iI (window * 2 ^ (max 0 o.scale).toNat),iI o.mss,iI o.scale,.bool o.sack,.bool o.stamp,iI o.val,iI o.echo,iI 0,iI 0] rfl <| kZ <| kR ?_
 have hmod : cD t iss irs o window = (⟨t,1,⟨sA iss 1,(⟨#[]⟩ : ByteArray),0,false,false,false⟩,(rN (sA irs 1)),window * 2 ^ (max 0 o.scale).toNat,window * 2 ^ (max 0 o.scale).toNat,o,0,0⟩) := by first | rfl | (simp [cD,bI,rN, *]; done) | grind [cD,bI,rN]
 exact ⟨[.agg #[iI t.ip,iI t.port,iI t.my,iI 1,iI (sA iss 1),.string (⟨#[]⟩ : ByteArray),iI 0,.bool false,.bool false,.bool false,iI ((rN (sA irs 1)).next),.string ((rN (sA irs 1)).data),.slice v7a ((rN (sA irs 1)).held.length) v7c,iI ((rN (sA irs 1)).fin),.bool ((rN (sA irs 1)).done),iI (window * 2 ^ (max 0 o.scale).toNat),iI (window * 2 ^ (max 0 o.scale).toNat),iI o.mss,iI o.scale,.bool o.sack,.bool o.stamp,iI o.val,iI o.echo,iI 0,iI 0]],by kernel_rfl,fun w' hb hf ha => by rw [hmod]; exact im ((v7a,v7c)) rfl rfl (pR (hf _ m0) hB) hb⟩
theorem ysHeard_c (c : Con) (rV : Value) (g : Seg) (w : World) (hZ : Sl w rV 2 (c.r.held.map pC)) (hkn : c.r.held.length ≤ 1048576)(hgz : g.body.size ≤ 1048576) (hm : ∀ p ∈ c.r.held, p.text.size ≤ 1048576) (hsz : c.r.data.size ≤ 4611686018427387904) (B : Nat) (hB : B ≤ w.heap.size) : Calls Tryz.prog 28 #[.agg (a7 c rV).toArray, .agg (aG g).toArray] w fun e w' => XRs w w' e (α := Option Addr × Nat) (fun y => .agg (a7 (heard c g) (.slice y.1 ((heard c g).r.held.length) y.2)).toArray) (fun y => [aF B (.slice y.1 ((heard c g).r.held.length) y.2) 2 ((heard c g).r.held.map pC)]) := by
 obtain ⟨Z,Y,hY⟩ := hZ.form
 rw [List.length_map] at hY; subst hY
 have hJ := hZ.len; rw [List.length_map] at hJ
 have hqcrh := Sl.capLe hZ
 refine ck (args := [.agg (a7 c (cS Z c Y)).toArray,.agg (aG g).toArray]) (fn := Tryz.f28) [cH Z c Y] Tryz.func28 rfl Tryz.ntmps28 rfl (by simp only [List.mem_cons,List.not_mem_nil,or_false,forall_eq_or_imp,forall_eq]; exact ⟨rfl,hZ⟩) ?_
 refine kQ <| c8 [2,3,4] ⟨[(2,.p 0 0),(3,.p 1 0),(4,.p 2 0)],[⟨44,a7 c (cS Z c Y)⟩,⟨50,aG g⟩,⟨44,bN⟩],[],[cH Z c Y]⟩ <| kQ <| dy 1 [2,3,4,9] [(9,.v (.agg (a7 c (cS Z c Y)).toArray))] 33 [.agg (a7 c (cS Z c Y)).toArray] (some 10) rfl (cZ fun ww hw hf => eu c (cS Z c Y) ww (hf _ m0) (by assumption) w.heap.size hw) ?_
 rintro ⟨v1a,v1c⟩
 refine i5 [2,3,4,5] [(5,.p 3 0)] [⟨44,a7 c (cS v1a c v1c)⟩] <| kS <| kQ <| dy 2 [2,3,4,5,11,12] [(11,.v (.agg (a7 c (cS Z c Y)).toArray)),(12,.v (.agg (aG g).toArray))] 29 [.agg (a7 c (cS Z c Y)).toArray,.agg (aG g).toArray] (some 13) rfl (aA fun ww hf => ysVerdict_c c (cS Z c Y) g ww (hf _ m1) (by omega) (by assumption) (by omega)) ?_
 intro _
 refine aR [2,3,4,5,14] [(14,aB ((a9 c g) != 5))] <| kC ((a9 c g) != 5) (fun h2 => ?_) (fun h2 => ?_)
 have h2p := neT h2
 have hv5 : ¬ a9 c g = 5 := by simpa using h2
 refine kQ <| bf [4] [(4,.p 2 0)] 2 ⟨44,a7 c (cS v1a c v1c)⟩ <| kR ?_
 have hmod : heard c g = c := by first | (unfold heard; rw [if_pos hv5,← hm5]; unfold cW; rw [if_pos (by assumption)]; done) | (unfold heard; rw [if_pos hv5,← hm5]; unfold cW; rw [if_neg (by simp [*]; done),← hmr]; done) | (unfold heard; rw [if_neg hv5]; done)
 exact ⟨[.agg (a7 c (cS v1a c v1c)).toArray],by kernel_rfl,fun w' hb hf ha => by rw [hmod]; exact im ((v1a,v1c)) rfl rfl (pO (hf _ m0) hB) hb⟩
 have h2p := neF h2
 have hv5 : a9 c g = 5 := by simpa using h2
 obtain ⟨hc1,hc2,hc3,-⟩ := gl hv5
 have hgw := gF hc3
 have hsc := gq (conOk_r hc1).2.1
 have hfw := farW_bd hgw (conOk_r hc1).2.1
 refine kK <| kQ <| dy 4 [2,3,4,5,18,20] [(18,.v (.agg (ai c.s).toArray)),(20,aI g.ack)] 74 [.agg (ai c.s).toArray,iI g.ack] (some 21) rfl (aA fun ww hf => ysAcked_c c.s g.ack ww  ) ?_
 intro _
 refine i5 [2,3,4,5,6,7] [(6,.p 4 0),(7,aB ((ae c.s g.ack).2))] [⟨38,ai (ae c.s g.ack).1⟩] <| kS <| cf (α := {zz : Con // (fun (m : Con) => m = bm c g) zz}) (fun zz => (fun (m : Con) => (⟨[(2,.p 0 0),(3,.p 1 0),(4,.p 2 0),(5,.p 3 0)],[⟨44,a7 c (cS Z c Y)⟩,⟨50,aG g⟩,⟨44,bN⟩,⟨44,a7 m (cS v1a m v1c)⟩,⟨38,ai (ae c.s g.ack).1⟩],[],[aF w.heap.size (cS v1a m v1c) 2 (m.r.held.map pC),cH Z c Y]⟩ : St)) zz.1) ?_ ?_
 refine kQ <| aR [2,3,4,5,6,24] [(24,aB ((ae c.s g.ack).2))] <| kC ((ae c.s g.ack).2) (fun h3 => ?_) (fun h3 => ?_)
 refine kQ <| bf [2,3,4,5,6] [] 3 ⟨44,a7 { c with s := (ae c.s g.ack).1 } (cS v1a c v1c)⟩ <| kS <| bc [true,true,true,false,true] (by kernel_rfl) (fun ρ σ => ?_)
 refine ca [0,1,2,3,4] [31,28,2,3,4,5,6] 6 [(31,aI c.o.scale),(28,aI g.window),(2,.p 0 0),(3,.p 1 0),(4,.p 2 0),(5,.p 3 0),(6,.p 4 0)] <| kA [5] <| dr 5 76 [iI 0,iI c.o.scale] (some 32) rfl (bM fun ww hf => eo 0 c.o.scale ww ) ?_
 intro _
 refine ca [6] [33,28,2,3,4,5,6] 4 [(33,.v (.int .u64 (IntKind.u64.wrap (max 0 c.o.scale)))),(28,aI g.window),(2,.p 0 0),(3,.p 1 0),(4,.p 2 0),(5,.p 3 0),(6,.p 4 0)] <| gx [33,28,2,3,4,5,6] [(33,.v (.int .u64 (IntKind.u64.wrap (max 0 c.o.scale))))] [(33,.v (.int .u64 (max 0 c.o.scale)))] (by rw [show (IntKind.u64.wrap (max 0 c.o.scale)) = (max 0 c.o.scale) from eU (by omega) (by omega)]) (by kernel_rfl) ?_
 refine kX 7 (iI (K6.wrap (g.window * 2 ^ (max 0 c.o.scale).toNat))) rfl (fun _ _ ww hA => cj hA rfl (by kernel_rfl) (by kernel_rfl) (shl_run (k' := .u64) (by have e : ((IntKind.i64.bits : Nat) : Int) = 64 := rfl; (try rw [eU (by omega) (by omega)]); omega) (by have e : ((IntKind.i64.bits : Nat) : Int) = 64 := rfl; (try rw [eU (by omega) (by omega)]); omega) ww)) ?_
 refine gx [34,33,28,2,3,4,5,6] [(34,aI (K6.wrap (g.window * 2 ^ (max 0 c.o.scale).toNat)))] [(34,aI (bI g.window c.o))] (by rw [show (K6.wrap (g.window * 2 ^ (max 0 c.o.scale).toNat)) = (bI g.window c.o) from (by unfold bI; exact ir (by omega) (by omega) (by omega) (by omega))]) (by kernel_rfl) ?_
 refine kA [8] <| dr 8 75 [iI 1073725440,iI (bI g.window c.o)] (some 35) rfl (bM fun ww hf => go 1073725440 (bI g.window c.o) ww ) ?_
 intro _
 refine gx [35,34,33,28,2,3,4,5,6] [(35,aI (min 1073725440 (bI g.window c.o)))] [(35,aI (bI g.window c.o))] (by rw [show (min 1073725440 (bI g.window c.o)) = (bI g.window c.o) from (by omega)]) (by kernel_rfl) ?_
 refine ca [9] [36,35,2,3,4,5,6] 1 [(36,.p 3 15),(35,aI (bI g.window c.o)),(2,.p 0 0),(3,.p 1 0),(4,.p 2 0),(5,.p 3 0),(6,.p 4 0)] <| kA [10] <| e8 10 3 15 [iI (bI g.window c.o)] rfl <| kZ <| kQ <| dy 4 [2,3,4,5,6,38,40] [(38,aI c.most),(40,aI (bI g.window c.o))] 76 [iI c.most,iI (bI g.window c.o)] (some 41) rfl (bM fun ww hf => eo c.most (bI g.window c.o) ww ) ?_
 intro _
 refine bf [2,3,4,5,6] [] 3 ⟨44,a7 { c with s := (ae c.s g.ack).1,window := bI g.window c.o,most := max c.most (bI g.window c.o) } (cS v1a c v1c)⟩ <| kQ <| dy 1 [2,3,4,5,6,43] [(43,.v (.agg (ai (ae c.s g.ack).1).toArray))] 77 [.agg (ai (ae c.s g.ack).1).toArray] (some 44) rfl (aA fun ww hf => dB ((ae c.s g.ack).1.una) ((ae c.s g.ack).1.data) ((ae c.s g.ack).1.sent) ((ae c.s g.ack).1.fin) ((ae c.s g.ack).1.finSent) ((ae c.s g.ack).1.done) ww ) ?_
 intro _
 refine aR [2,3,4,5,6,8] [(8,aI (aj ((ae c.s g.ack).1)))] <| kQ <| cA 7 [2,3,4,5,8,51] [(51,aB (((ae c.s g.ack).1.una) != c.s.una))] <| kP 51 (((ae c.s g.ack).1.una) != c.s.una) (fun h4 => ?_) (fun h4 => ?_)
 have h4p := neT h4
 refine aR [2,3,4,5,8,59] [(59,aB (c.state != 7))] <| kC (c.state != 7) (fun h5 => ?_) (fun h5 => ?_)
 have h5p := neT h5
 refine kQ <| bf [2,3,4,5,8] [] 3 ⟨44,a7 { c with s := (ae c.s g.ack).1,window := bI g.window c.o,most := max c.most (bI g.window c.o),tries := 0 } (cS v1a c v1c)⟩ <| kQ <| bf [2,3,4,5,8] [] 3 ⟨44,[iI c.t.ip,iI c.t.port,iI c.t.my,iI c.state,iI ((ae c.s g.ack).1.una),.string ((ae c.s g.ack).1.data),iI ((ae c.s g.ack).1.sent),.bool ((ae c.s g.ack).1.fin),.bool ((ae c.s g.ack).1.finSent),.bool ((ae c.s g.ack).1.done),iI c.r.next,.string c.r.data,.slice v1a c.r.held.length v1c,iI c.r.fin,.bool c.r.done,iI (bI g.window c.o),iI (max c.most (bI g.window c.o)),iI c.o.mss,iI c.o.scale,.bool c.o.sack,.bool c.o.stamp,iI c.o.val,iI c.o.echo,iI 0,iI 0]⟩ ?_
 refine kQ <| aR [2,3,4,5,63] [(63,aB (decide ((aj ((ae c.s g.ack).1)) > 0)))] <| kC (decide ((aj ((ae c.s g.ack).1)) > 0)) (fun h6 => ?_) (fun h6 => ?_)
 have h6p := of_decide_eq_true h6
 refine kG <| bf [2,3,4,5] [] 3 ⟨44,[iI c.t.ip,iI c.t.port,iI c.t.my,iI c.state,iI ((ae c.s g.ack).1.una),.string ((ae c.s g.ack).1.data),iI ((ae c.s g.ack).1.sent),.bool ((ae c.s g.ack).1.fin),.bool ((ae c.s g.ack).1.finSent),.bool ((ae c.s g.ack).1.done),iI c.r.next,.string c.r.data,.slice v1a c.r.held.length v1c,iI c.r.fin,.bool c.r.done,iI (bI g.window c.o),iI (max c.most (bI g.window c.o)),iI c.o.mss,iI c.o.scale,.bool c.o.sack,.bool c.o.stamp,iI c.o.val,iI c.o.echo,iI 3,iI 0]⟩ ?_
 exact ⟨⟨(⟨c.t,c.state,(ae c.s g.ack).1,c.r,bI g.window c.o,max c.most (bI g.window c.o),c.o,3,0⟩),(by unfold bm; first | (simp [*]; done) | grind)⟩,kF 5 0 [2,3,4,5]⟩
 have h6p := of_decide_eq_false h6
 refine kK ?_
 exact ⟨⟨(⟨c.t,c.state,(ae c.s g.ack).1,c.r,bI g.window c.o,max c.most (bI g.window c.o),c.o,0,0⟩),(by unfold bm; first | (simp [*]; done) | grind)⟩,kF 5 0 [2,3,4,5]⟩
 have h5p := neF h5
 refine kK ?_
 exact ⟨⟨({ c with s := (ae c.s g.ack).1,window := bI g.window c.o,most := max c.most (bI g.window c.o) }),(by unfold bm; first | (simp [*]; done) | grind)⟩,kF 5 0 [2,3,4,5]⟩
 have h4p := neF h4
 refine cA 4 [2,3,4,5,8,55] [(55,aB ((aj ((ae c.s g.ack).1)) == 0))] <| kP 55 ((aj ((ae c.s g.ack).1)) == 0) (fun h7 => ?_) (fun h7 => ?_)
 have h7p := bC h7
 refine aR [2,3,4,5,8,59] [(59,aB (c.state != 7))] <| kC (c.state != 7) (fun h8 => ?_) (fun h8 => ?_)
 have h8p := neT h8
 refine kQ <| bf [2,3,4,5,8] [] 3 ⟨44,a7 { c with s := (ae c.s g.ack).1,window := bI g.window c.o,most := max c.most (bI g.window c.o),tries := 0 } (cS v1a c v1c)⟩ <| kQ <| bf [2,3,4,5,8] [] 3 ⟨44,[iI c.t.ip,iI c.t.port,iI c.t.my,iI c.state,iI ((ae c.s g.ack).1.una),.string ((ae c.s g.ack).1.data),iI ((ae c.s g.ack).1.sent),.bool ((ae c.s g.ack).1.fin),.bool ((ae c.s g.ack).1.finSent),.bool ((ae c.s g.ack).1.done),iI c.r.next,.string c.r.data,.slice v1a c.r.held.length v1c,iI c.r.fin,.bool c.r.done,iI (bI g.window c.o),iI (max c.most (bI g.window c.o)),iI c.o.mss,iI c.o.scale,.bool c.o.sack,.bool c.o.stamp,iI c.o.val,iI c.o.echo,iI 0,iI 0]⟩ ?_
 refine kQ <| aR [2,3,4,5,63] [(63,aB (decide ((aj ((ae c.s g.ack).1)) > 0)))] <| kC (decide ((aj ((ae c.s g.ack).1)) > 0)) (fun h9 => ?_) (fun h9 => ?_)
 have h9p := of_decide_eq_true h9
 refine kG <| c8 [2,3,4,5] ⟨[(2,.p 0 0),(3,.p 1 0),(4,.p 2 0),(5,.p 3 0)],[⟨44,a7 c (cS Z c Y)⟩,⟨50,aG g⟩,⟨44,bN⟩,⟨44,[iI c.t.ip,iI c.t.port,iI c.t.my,iI c.state,iI ((ae c.s g.ack).1.una),.string ((ae c.s g.ack).1.data),iI ((ae c.s g.ack).1.sent),.bool ((ae c.s g.ack).1.fin),.bool ((ae c.s g.ack).1.finSent),.bool ((ae c.s g.ack).1.done),iI c.r.next,.string c.r.data,.slice v1a c.r.held.length v1c,iI c.r.fin,.bool c.r.done,iI (bI g.window c.o),iI (max c.most (bI g.window c.o)),iI c.o.mss,iI c.o.scale,.bool c.o.sack,.bool c.o.stamp,iI c.o.val,iI c.o.echo,iI 3,iI 0]⟩,⟨38,ai (ae c.s g.ack).1⟩],[],[aF w.heap.size (cS v1a c v1c) 2 (c.r.held.map pC),cH Z c Y]⟩ ?_
 exact ⟨⟨(⟨c.t,c.state,(ae c.s g.ack).1,c.r,bI g.window c.o,max c.most (bI g.window c.o),c.o,3,0⟩),(by unfold bm; first | (simp [*]; done) | grind)⟩,kF 5 0 [2,3,4,5]⟩
 have h9p := of_decide_eq_false h9
 refine kK ?_
 exact ⟨⟨(⟨c.t,c.state,(ae c.s g.ack).1,c.r,bI g.window c.o,max c.most (bI g.window c.o),c.o,0,0⟩),(by unfold bm; first | (simp [*]; done) | grind)⟩,kF 5 0 [2,3,4,5]⟩
 have h8p := neF h8
 refine kK ?_
 exact ⟨⟨({ c with s := (ae c.s g.ack).1,window := bI g.window c.o,most := max c.most (bI g.window c.o) }),(by unfold bm; first | (simp [*]; done) | grind)⟩,kF 5 0 [2,3,4,5]⟩
 have h7p := bA h7
 refine aR [2,3,4,5,8,59] [(59,aB false)] <| kN <| kK ?_
 exact ⟨⟨({ c with s := (ae c.s g.ack).1,window := bI g.window c.o,most := max c.most (bI g.window c.o) }),(by unfold bm; first | (simp [*]; done) | grind)⟩,kF 5 0 [2,3,4,5]⟩
 refine kK ?_
 exact ⟨⟨(c),(by unfold bm; first | (simp [*]; done) | grind)⟩,kF 5 0 [2,3,4,5]⟩
 rintro ⟨m,hm5⟩
 try dsimp only
 try dsimp only at hm5
 have hmr : m.r = c.r := by rw [hm5]; exact (heardMid_eq c g).1
 have hm1 : m.r.held.length ≤ 1048576 := by rw [hmr]; exact hkn
 have hm2 : ∀ p ∈ m.r.held,p.text.size ≤ 1048576 := by rw [hmr]; exact hm
 have hm3 : m.r.data.size ≤ 4611686018427387904 := by rw [hmr]; exact hsz
 refine kS <| kQ <| dy 2 [2,3,4,5,66] [(66,aI c.state)] 67 [iI c.state,iI 1,iI 3] (some 67) rfl (bM fun ww hf => f0 c.state 1 3 ww ) ?_
 intro _
 refine aR [2,3,4,5,67] [] <| kC (ci c.state 1 3) (fun h10 => ?_) (fun h10 => ?_)
 have h10i := inB_tt.1 (show ci c.state 1 3 = true from by simpa using h10)
 refine bc [true,true,true,false,true] (by kernel_rfl) (fun ρ σ => ?_)
 refine ca [0,1,2,3,4,5,6] [74,73,71,69,4,5] 4 [(74,.v (.agg (aG g).toArray)),(73,.v (.string g.body)),(71,aI g.seq),(69,.v (.agg (ah c.r (cS Z c Y)).toArray)),(4,.p 2 0),(5,.p 3 0)] <| kA [7] <| dr 7 34 [.agg (aG g).toArray,iI 1] (some 75) rfl (aA fun ww hf => sHas_c g.src g.dst g.seq g.ack g.flags g.window g.o.mss g.o.scale g.o.sack g.o.stamp g.o.val g.o.echo g.body 1 ww ) ?_
 intro _
 refine kA [8] <| dr 8 78 [.agg (ah c.r (cS Z c Y)).toArray,iI g.seq,.string g.body,.bool (bj g.flags 1)] (some 76) rfl (cZ fun ww hw hf => ysArrived_c c.r (cS Z c Y) g.seq g.body (bj g.flags 1) ww (hf _ m1) (by assumption) (by assumption) (by omega) (by omega) w.heap.size hw) ?_
 rintro ⟨v11a,v11c⟩
 have hz12 := fP (H := 1048576) (T := 1048576) (D := 4611686018427387904) (r := c.r) (seq := g.seq) (t := g.body) (fin := (bj g.flags 1)) (by assumption) (by assumption) (by assumption) (by omega) (by omega) (by omega)
 obtain ⟨hz12a,hz12b,hz12c⟩ := hz12
 refine ca [9] [77,76,4,5] 1 [(77,.p 3 10),(76,.v (.agg (ah (av c.r g.seq g.body (bj g.flags 1)) (.slice v11a ((av c.r g.seq g.body (bj g.flags 1)).held.length) v11c)).toArray)),(4,.p 2 0),(5,.p 3 0)] <| kA [10] <| e8 10 3 10 (ah (av c.r g.seq g.body (bj g.flags 1)) (.slice v11a ((av c.r g.seq g.body (bj g.flags 1)).held.length) v11c)) rfl <| kZ <| kQ <| dy 1 [4,78] [(78,.v (.agg (a7 { m with r := (av c.r g.seq g.body (bj g.flags 1)) } (.slice v11a ((av c.r g.seq g.body (bj g.flags 1)).held.length) v11c)).toArray))] 79 [.agg (a7 { m with r := (av c.r g.seq g.body (bj g.flags 1)) } (.slice v11a ((av c.r g.seq g.body (bj g.flags 1)).held.length) v11c)).toArray] (some 79) rfl (cZ fun ww hw hf => ysTurned_c ({ m with r := (av c.r g.seq g.body (bj g.flags 1)) }) (.slice v11a ((av c.r g.seq g.body (bj g.flags 1)).held.length) v11c) ww (aS (hf _ m0)) (by assumption) (by assumption) (by omega) w.heap.size hw) ?_
 rintro ⟨v13a,v13c⟩
 have hbd14 : (aE ({ m with r := (av c.r g.seq g.body (bj g.flags 1)) })).r.held.length ≤ 1048576 := ga _  (by omega)
 refine bf [4] [(4,.p 2 0)] 2 ⟨44,a7 (aE ({ m with r := (av c.r g.seq g.body (bj g.flags 1)) })) (.slice v13a ((aE ({ m with r := (av c.r g.seq g.body (bj g.flags 1)) })).r.held.length) v13c)⟩ <| kR ?_
 have hmod : heard c g = (aE ({ m with r := (av c.r g.seq g.body (bj g.flags 1)) })) := by first | (unfold heard; rw [if_pos hv5,← hm5]; unfold cW; rw [if_pos (by assumption)]; done) | (unfold heard; rw [if_pos hv5,← hm5]; unfold cW; rw [if_neg (by simp [*]; done),← hmr]; done) | (unfold heard; rw [if_neg hv5]; done)
 exact ⟨[.agg (a7 (aE ({ m with r := (av c.r g.seq g.body (bj g.flags 1)) })) (.slice v13a ((aE ({ m with r := (av c.r g.seq g.body (bj g.flags 1)) })).r.held.length) v13c)).toArray],by kernel_rfl,fun w' hb hf ha => by rw [hmod]; exact im ((v13a,v13c)) rfl rfl (pO (hf _ m0) hB) hb⟩
 have h10i := inB_ff.1 (show ci c.state 1 3 = false from by simpa using h10)
 refine kK <| kQ <| dy 1 [4,78] [(78,.v (.agg (a7 m (cS v1a m v1c)).toArray))] 79 [.agg (a7 m (cS v1a m v1c)).toArray] (some 79) rfl (cZ fun ww hw hf => ysTurned_c m (cS v1a m v1c) ww (Own.sl (hf _ m0)) (by assumption) (by assumption) (by omega) w.heap.size hw) ?_
 rintro ⟨v15a,v15c⟩
 have hbd16 : (aE m).r.held.length ≤ 1048576 := ga _  (by omega)
 refine bf [4] [(4,.p 2 0)] 2 ⟨44,a7 (aE m) (.slice v15a ((aE m).r.held.length) v15c)⟩ <| kR ?_
 have hmod : heard c g = (aE m) := by first | (unfold heard; rw [if_pos hv5,← hm5]; unfold cW; rw [if_pos (by assumption)]; done) | (unfold heard; rw [if_pos hv5,← hm5]; unfold cW; rw [if_neg (by simp [*]; done),← hmr]; done) | (unfold heard; rw [if_neg hv5]; done)
 exact ⟨[.agg (a7 (aE m) (.slice v15a ((aE m).r.held.length) v15c)).toArray],by kernel_rfl,fun w' hb hf ha => by rw [hmod]; exact im ((v15a,v15c)) rfl rfl (pO (hf _ m0) hB) hb⟩
theorem gH (c : Con) (rV : Value) (g : Seg) (w : World) (hZ : Sl w rV 2 (c.r.held.map pC)) (hkn : c.r.held.length ≤ 1048576)(hgz : g.body.size ≤ 1048576) (hm : ∀ p ∈ c.r.held, p.text.size ≤ 1048576) (hsz : c.r.data.size ≤ 4611686018427387904) (B : Nat) (hB : B ≤ w.heap.size) : Calls Tryz.prog 8 #[.agg (a7 c rV).toArray, .agg (aG g).toArray] w fun e w' => XRs w w' e (α := (Option Addr × Nat) × (Option Addr × Nat)) (fun y => .tuple #[.agg (a7 (a8 c g).1 (.slice y.1.1 ((a8 c g).1.r.held.length) y.1.2)).toArray, .slice y.2.1 ((a8 c g).2.1.length) y.2.2, iI ((a8 c g).2.2)]) (fun y => [aF B (.slice y.1.1 ((a8 c g).1.r.held.length) y.1.2) 2 ((a8 c g).1.r.held.map pC), aF B (.slice y.2.1 ((a8 c g).2.1.length) y.2.2) 13 ((a8 c g).2.1.map ak)]) := by
 obtain ⟨Z,Y,hY⟩ := hZ.form
 rw [List.length_map] at hY; subst hY
 have hJ := hZ.len; rw [List.length_map] at hJ
 have hqcrh := Sl.capLe hZ
 refine ck (args := [.agg (a7 c (cS Z c Y)).toArray,.agg (aG g).toArray]) (fn := Tryz.f8) [cH Z c Y] Tryz.func8 rfl Tryz.ntmps8 rfl (by simp only [List.mem_cons,List.not_mem_nil,or_false,forall_eq_or_imp,forall_eq]; exact ⟨rfl,hZ⟩) ?_
 refine kQ <| c8 [2,3,4] ⟨[(2,.p 0 0),(3,.p 1 0),(4,.p 2 0)],[⟨44,a7 c (cS Z c Y)⟩,⟨50,aG g⟩,⟨44,bN⟩],[],[cH Z c Y]⟩ <| kQ <| dy 1 [2,3,4,13] [(13,.v (.agg (a7 c (cS Z c Y)).toArray))] 33 [.agg (a7 c (cS Z c Y)).toArray] (some 14) rfl (cZ fun ww hw hf => eu c (cS Z c Y) ww (hf _ m0) (by assumption) w.heap.size hw) ?_
 rintro ⟨v1a,v1c⟩
 refine i5 [2,3,4,7] [(7,.p 3 0)] [⟨44,a7 c (cS v1a c v1c)⟩] <| kQ <| kHD 0 [2,3,4,7] [] rfl (bi (e := 50) (K := 13) (bytes := 104) [] (rs := ([] : List Seg).map ak) rfl rfl) ?_
 intro g2
 refine aR [2,3,4,7,8] [(8,.v (.slice (some ⟨g2,0,none⟩) 0 0))] <| kQ <| dy 2 [2,3,4,7,8,16,17] [(16,.v (.agg (a7 c (cS Z c Y)).toArray)),(17,.v (.agg (aG g).toArray))] 29 [.agg (a7 c (cS Z c Y)).toArray,.agg (aG g).toArray] (some 18) rfl (aA fun ww hf => ysVerdict_c c (cS Z c Y) g ww (hf _ m2) (by omega) (by assumption) (by omega)) ?_
 intro _
 refine aR [2,3,4,7,8,9] [(9,aI (a9 c g))] <| kS <| kQ <| aR [2,3,4,7,8,9,19] [(19,aI (a9 c g))] ?_
 refine aZ <| kQ <| aR [2,3,4,7,8,9,19,20] [(20,aB ((a9 c g) == 1))] <| kC ((a9 c g) == 1) (fun h3 => ?_) (fun h3 => ?_)
 have h3p := bC h3
 refine kQ <| bf [4,5,6] [(5,.v (.slice (some ⟨g2,0,none⟩) 0 0)),(6,aI (a9 c g))] 2 ⟨44,a7 c (cS v1a c v1c)⟩ <| kR ?_
 have hmod : a8 c g = (c,([] : List Seg),(a9 c g)) := by first | (simp [a8,br,bZ, *]; done) | grind [a8,br,bZ]
 exact ⟨[.agg (a7 c (cS v1a c v1c)).toArray,.slice (some ⟨g2,0,none⟩) 0 0,iI (a9 c g)],by kernel_rfl,fun w' hb hf ha => by rw [hmod]; exact gu ((v1a,v1c),(((some ⟨g2,0,none⟩) : Option Addr),0)) rfl rfl (pO (hf _ m1) hB) (pR (hf _ m0) hB) (Apart.sub2 ha (i := 1) (j := 0) rfl rfl (by decide) rfl (fun b h => h) (fun b h => bX h)) hb⟩
 have h3p := bA h3
 refine kQ <| aR [2,3,4,7,8,9,19,25] [(25,aB ((a9 c g) == 2))] <| kC ((a9 c g) == 2) (fun h4 => ?_) (fun h4 => ?_)
 have h4p := bC h4
 refine kQ <| bf [4,7,8,9] [] 3 ⟨44,a7 { c with state := 8 } (cS v1a c v1c)⟩ <| kQ <| c8 [4,7,8,9] ⟨[(4,.p 2 0),(7,.p 3 0),(8,.v (.slice (some ⟨g2,0,none⟩) 0 0)),(9,aI (a9 c g))],[⟨44,a7 c (cS Z c Y)⟩,⟨50,aG g⟩,⟨44,bN⟩,⟨44,a7 { c with state := 8,timer := 0 } (cS v1a c v1c)⟩],[],[ap w.heap.size 50 13 (.slice (some ⟨g2,0,none⟩) 0 0) (([] : List Seg).map ak),aF w.heap.size (cS v1a c v1c) 2 (c.r.held.map pC),cH Z c Y]⟩ ?_
 refine kQ <| bf [4,7,8,9] [] 3 ⟨44,a7 { c with state := 8,timer := 0,tries := 0 } (cS v1a c v1c)⟩ <| kQ <| bf [4,5,6] [(5,.v (.slice (some ⟨g2,0,none⟩) 0 0)),(6,aI (a9 c g))] 2 ⟨44,a7 { c with state := 8,timer := 0,tries := 0 } (cS v1a c v1c)⟩ ?_
 refine kR ?_
 have hmod : a8 c g = (({ c with state := 8,timer := 0,tries := 0 }),([] : List Seg),(a9 c g)) := by first | (simp [a8,br,bZ, *]; done) | grind [a8,br,bZ]
 exact ⟨[.agg (a7 { c with state := 8,timer := 0,tries := 0 } (cS v1a c v1c)).toArray,.slice (some ⟨g2,0,none⟩) 0 0,iI (a9 c g)],by kernel_rfl,fun w' hb hf ha => by rw [hmod]; exact gu ((v1a,v1c),(((some ⟨g2,0,none⟩) : Option Addr),0)) rfl rfl (pO (hf _ m1) hB) (pR (hf _ m0) hB) (Apart.sub2 ha (i := 1) (j := 0) rfl rfl (by decide) rfl (fun b h => h) (fun b h => bX h)) hb⟩
 have h4p := bA h4
 refine kS <| kQ <| aR [2,3,4,7,8,9,19,33] [(33,aB ((a9 c g) == 3))] <| kC ((a9 c g) == 3) (fun h5 => ?_) (fun h5 => ?_)
 have h5p := bC h5
 refine kK <| kC ((a9 c g) == 3) (fun h6 => ?_) (fun h6 => ?_)
 have h6p := bC h6
 refine kS <| cf (α := {zz : Int // (fun (tm : Int) => tm = if a9 c g = 4 ∧ c.state = 7 ∧ bj g.flags 1 = true then 4 else c.timer) zz}) (fun zz => (fun (tm : Int) => (⟨[(2,.p 0 0),(4,.p 2 0),(7,.p 3 0),(9,aI (a9 c g))],[⟨44,a7 c (cS Z c Y)⟩,⟨50,aG g⟩,⟨44,bN⟩,⟨44,a7 { c with timer := tm } (cS v1a c v1c)⟩],[],[ap w.heap.size 50 13 (.slice (some ⟨g2,0,none⟩) 0 0) (([] : List Seg).map ak),aF w.heap.size (cS v1a c v1c) 2 (c.r.held.map pC),cH Z c Y]⟩ : St)) zz.1) ?_ ?_
 refine kQ <| cR 3 [2,3,4,7,9,38] [(2,.p 0 0),(3,.p 1 0),(4,.p 2 0),(7,.p 3 0),(9,aI (a9 c g)),(38,aB ((a9 c g) == 4))] <| kP 38 ((a9 c g) == 4) (fun h7 => ?_) (fun h7 => ?_)
 have h7p := bC h7
 exfalso; omega
 have h7p := bA h7
 refine aR [2,4,7,9,46] [(46,aB false)] <| kN <| kK ?_
 exact ⟨⟨(c.timer),(by first | (rw [if_neg (by rintro ⟨q1,q2,q3⟩; omega)]; done) | (rw [if_neg (by rintro ⟨q1,q2,q3⟩; simp_all; done)]; done) | (rw [if_pos ⟨by omega,by omega,by assumption⟩]; done))⟩,kF 4 0 [2,4,7,9]⟩
 rintro ⟨tm,htm⟩
 try dsimp only
 try dsimp only at htm
 refine kS <| fY (α := Nat) (fun y => (fun (g9 : Nat) => (⟨[(4,.p 2 0),(5,.v (.slice (some ⟨g9,0,none⟩) 1 1)),(6,aI (a9 c g))],[⟨44,a7 c (cS Z c Y)⟩,⟨50,aG g⟩,⟨44,a7 { c with timer := tm } (cS v1a c v1c)⟩,⟨44,a7 { c with timer := tm } (cS v1a c v1c)⟩],[],[ap w.heap.size 50 13 (.slice (some ⟨g9,0,none⟩) 1 1) (([⟨c.t.my,c.t.port,ay c.s,c.r.next,16,wO c.r,⟨0,(-1),false,false,0,0⟩,(⟨#[]⟩ : ByteArray)⟩] : List Seg).map ak),ap w.heap.size 50 13 (.slice (some ⟨g2,0,none⟩) 0 0) (([] : List Seg).map ak),aF w.heap.size (cS v1a c v1c) 2 (c.r.held.map pC),cH Z c Y]⟩ : St)) y) ?_ ?_
 refine bc [true,true,false,true] (by kernel_rfl) (fun ρ σ => ?_)
 refine ca [0,1,4] [52,49,48,4] 5 [(52,aI (a9 c g)),(49,.v (.agg (a7 c (cS Z c Y)).toArray)),(48,.v (.agg (a7 { c with timer := tm } (cS v1a c v1c)).toArray)),(4,.p 2 0)] <| kA [2] <| dr 2 35 [.agg (a7 c (cS Z c Y)).toArray] (some 50) rfl (aA fun ww hf => fQ c (cS Z c Y) ww (hf _ m2) (by first | omega | (dsimp only; omega))) ?_
 intro _
 refine kA [3,5] ⟨?_,?_⟩
 refine gj 3 rfl (ax (ax (bz rfl (ax ar)))) (bi (e := 50) (K := 13) (bytes := 104) [.agg #[iI c.t.my,iI c.t.port,iI (ay c.s),iI c.r.next,iI 16,iI (wO c.r),iI 0,iI (-1),.bool false,.bool false,iI 0,iI 0,.string (⟨#[]⟩ : ByteArray)]] (rs := ([⟨c.t.my,c.t.port,ay c.s,c.r.next,16,wO c.r,⟨0,(-1),false,false,0,0⟩,(⟨#[]⟩ : ByteArray)⟩] : List Seg).map ak) rfl rfl) ?_
 intro g9
 refine kA [5] <| e8 5 2 0 (a7 { c with timer := tm } (cS v1a c v1c)) rfl <| eI [6,7] [6,5,4] 0 [(6,aI (a9 c g)),(5,.v (.slice (some ⟨g9,0,none⟩) 1 1))] <| kZ ?_
 exact ⟨(g9),kF 4 0 [4,5,6]⟩
 refine e8 5 2 0 (a7 { c with timer := tm } (cS v1a c v1c)) rfl <| kA [3] <| gj 3 rfl (ax (ax (bz rfl (ax ar)))) (bi (e := 50) (K := 13) (bytes := 104) [.agg #[iI c.t.my,iI c.t.port,iI (ay c.s),iI c.r.next,iI 16,iI (wO c.r),iI 0,iI (-1),.bool false,.bool false,iI 0,iI 0,.string (⟨#[]⟩ : ByteArray)]] (rs := ([⟨c.t.my,c.t.port,ay c.s,c.r.next,16,wO c.r,⟨0,(-1),false,false,0,0⟩,(⟨#[]⟩ : ByteArray)⟩] : List Seg).map ak) rfl rfl) ?_
 intro g11
 refine eI [6,7] [6,5,4] 0 [(6,aI (a9 c g)),(5,.v (.slice (some ⟨g11,0,none⟩) 1 1))] <| kZ ?_
 exact ⟨(g11),kF 4 0 [4,5,6]⟩
 intro g9
 refine kR ?_
 have hmod : a8 c g = (({ c with timer := tm }),([⟨c.t.my,c.t.port,ay c.s,c.r.next,16,wO c.r,⟨0,(-1),false,false,0,0⟩,(⟨#[]⟩ : ByteArray)⟩] : List Seg),(a9 c g)) := by first | (have hv4 : a9 c g = 4 := (by assumption); exact (gp hv4 htm).trans (by rw [hv4]; first | done | rfl)) | (have hv3 : a9 c g = 3 := (by assumption); exact (fM hv3 htm).trans (by rw [hv3]; first | done | rfl))
 exact ⟨[.agg (a7 { c with timer := tm } (cS v1a c v1c)).toArray,.slice (some ⟨g9,0,none⟩) 1 1,iI (a9 c g)],by kernel_rfl,fun w' hb hf ha => by rw [hmod]; exact gu ((v1a,v1c),(((some ⟨g9,0,none⟩) : Option Addr),1)) rfl rfl (pO (hf _ m2) hB) (pR (hf _ m0) hB) (Apart.sub2 ha (i := 2) (j := 0) rfl rfl (by decide) rfl (fun b h => h) (fun b h => bX h)) hb⟩
 have h6p := bA h6
 refine kK <| kQ <| dh 2 [3,4,7,8,9,53,54] [(3,.p 1 0),(4,.p 2 0),(7,.p 3 0),(8,.v (.slice (some ⟨g2,0,none⟩) 0 0)),(9,aI (a9 c g)),(53,.v (.agg (a7 c (cS Z c Y)).toArray)),(54,.v (.agg (aG g).toArray))] 28 [.agg (a7 c (cS Z c Y)).toArray,.agg (aG g).toArray] (some 55) rfl (cZ fun ww hw hf => ysHeard_c c (cS Z c Y) g ww (hf _ m2) (by assumption) (by omega) (by assumption) (by omega) w.heap.size hw) ?_
 rintro ⟨v12a,v12c⟩
 have hv5 : a9 c g = 5 := by have := eQ c g; omega
 have hhw := heard_w hv5
 have hz13 := heard_sz (H := 1048576) (T := 1048576) (D := 4611686018427387904) (c := c) (g := g) (by assumption) (by assumption) (by assumption) (by omega) (by omega) (by omega)
 obtain ⟨hz13a,hz13b,hz13c⟩ := hz13
 refine bf [3,4,7,8,9] [] 3 ⟨44,a7 (heard c g) (.slice v12a ((heard c g).r.held.length) v12c)⟩ <| kS <| kQ <| aR [3,4,7,8,9,58] [(58,aB (((heard c g).state) == 8))] ?_
 refine kC (((heard c g).state) == 8) (fun h14 => ?_) (fun h14 => ?_)
 have h14p := bC h14
 refine kQ <| bf [4,5,6] [(5,.v (.slice (some ⟨g2,0,none⟩) 0 0)),(6,aI (a9 c g))] 2 ⟨44,a7 (heard c g) (.slice v12a ((heard c g).r.held.length) v12c)⟩ <| kR ?_
 have hmod : a8 c g = ((heard c g),([] : List Seg),(a9 c g)) := by first | (simp [a8,br,bZ, *]; done) | grind [a8,br,bZ]
 exact ⟨[.agg (a7 (heard c g) (.slice v12a ((heard c g).r.held.length) v12c)).toArray,.slice (some ⟨g2,0,none⟩) 0 0,iI (a9 c g)],by kernel_rfl,fun w' hb hf ha => by rw [hmod]; exact gu ((v12a,v12c),(((some ⟨g2,0,none⟩) : Option Addr),0)) rfl rfl (pO (hf _ m0) hB) (pR (hf _ m1) hB) (Apart.sub2 ha (i := 0) (j := 1) rfl rfl (by decide) rfl (fun b h => h) (fun b h => bX h)) hb⟩
 have h14p := bA h14
 refine kK <| kQ <| dy 1 [3,4,7,9,62] [(62,.v (.agg (a7 (heard c g) (.slice v12a ((heard c g).r.held.length) v12c)).toArray))] 35 [.agg (a7 (heard c g) (.slice v12a ((heard c g).r.held.length) v12c)).toArray] (some 63) rfl (aA fun ww hf => fQ (heard c g) (.slice v12a ((heard c g).r.held.length) v12c) ww (Own.sl (hf _ m0)) (by first | omega | (dsimp only; omega))) ?_
 intro _
 refine i5 [3,4,7,9,10] [(10,.p 4 0)] [⟨50,[iI ((heard c g).t.my),iI ((heard c g).t.port),iI (ay ((heard c g).s)),iI ((heard c g).r.next),iI 16,iI (wO ((heard c g).r)),iI 0,iI (-1),.bool false,.bool false,iI 0,iI 0,.string (⟨#[]⟩ : ByteArray)]⟩] <| kQ <| dy 3 [3,4,9,10,65,67] [(65,.v (.agg (a7 (heard c g) (.slice v12a ((heard c g).r.held.length) v12c)).toArray)),(67,aI ((heard c g).window))] 36 [.agg (a7 (heard c g) (.slice v12a ((heard c g).r.held.length) v12c)).toArray,iI ((heard c g).window)] (some 68) rfl (cZ fun ww hw hf => gZ (heard c g) (.slice v12a ((heard c g).r.held.length) v12c) ((heard c g).window) ww (Own.sl (hf _ m0)) (by assumption) (by assumption) (by omega) (by omega) w.heap.size hw) ?_
 rintro ⟨⟨v15a,v15c⟩,⟨v16a,v16c⟩⟩
 have hbd17 : (pump (heard c g) ((heard c g).window)).1.r.held.length ≤ 1048576 ∧ (pump (heard c g) ((heard c g).window)).2.length ≤ 49 := eC _ _  (by omega)
 have hbd17a := hbd17.1; have hbd17b := hbd17.2
 refine i5 [3,4,9,10,11,12] [(11,.p 5 0),(12,.v (.slice v16a ((pump (heard c g) ((heard c g).window)).2.length) v16c))] [⟨44,a7 (pump (heard c g) ((heard c g).window)).1 (.slice v15a ((pump (heard c g) ((heard c g).window)).1.r.held.length) v15c)⟩] <| kS <| kQ <| dy 1 [4,9,10,11,12,71] [(71,.v (.agg (aG g).toArray))] 37 [.agg (aG g).toArray] (some 72) rfl (aA fun ww hf => i4 g.src g.dst g.seq g.ack g.flags g.window g.o.mss g.o.scale g.o.sack g.o.stamp g.o.val g.o.echo g.body ww (by omega)) ?_
 intro _
 refine cA 2 [4,9,10,11,12,74] [(74,aB (decide ((bQ g) > 0)))] <| kP 74 (decide ((bQ g) > 0)) (fun h18 => ?_) (fun h18 => ?_)
 have h18p := of_decide_eq_true h18
 refine aR [4,9,10,11,12,78] [(78,aB ((((pump (heard c g) ((heard c g).window)).2.length : Nat) : Int) == 0))] <| kC ((((pump (heard c g) ((heard c g).window)).2.length : Nat) : Int) == 0) (fun h19 => ?_) (fun h19 => ?_)
 have h19p := bC h19
 refine kG <| kHD 2 [4,9,11,12,79,80] [(79,.v (.slice v16a ((pump (heard c g) ((heard c g).window)).2.length) v16c)),(80,.v (.agg #[iI ((heard c g).t.my),iI ((heard c g).t.port),iI (ay ((heard c g).s)),iI ((heard c g).r.next),iI 16,iI (wO ((heard c g).r)),iI 0,iI (-1),.bool false,.bool false,iI 0,iI 0,.string (⟨#[]⟩ : ByteArray)]))] rfl (bi (e := 50) (K := 13) (bytes := 104) [.agg #[iI ((heard c g).t.my),iI ((heard c g).t.port),iI (ay ((heard c g).s)),iI ((heard c g).r.next),iI 16,iI (wO ((heard c g).r)),iI 0,iI (-1),.bool false,.bool false,iI 0,iI 0,.string (⟨#[]⟩ : ByteArray)]] (rs := ([⟨(heard c g).t.my,(heard c g).t.port,ay ((heard c g).s),(heard c g).r.next,16,wO ((heard c g).r),⟨0,(-1),false,false,0,0⟩,(⟨#[]⟩ : ByteArray)⟩] : List Seg).map ak) rfl rfl) ?_
 intro g20
 refine kHS 0 [4,9,11,12,79,81] [(4,.p 2 0),(9,aI (a9 c g)),(11,.p 5 0),(12,.v (.slice v16a ((pump (heard c g) ((heard c g).window)).2.length) v16c)),(79,.v (.slice v16a ((pump (heard c g) ((heard c g).window)).2.length) v16c)),(81,.v (.slice (some ⟨g20,0,none⟩) 1 1))] rfl (dt (e := 50) (K := 13) (bytes := 104) (i := 2) (q := ((pump (heard c g) ((heard c g).window)).2 ++ ([⟨(heard c g).t.my,(heard c g).t.port,ay ((heard c g).s),(heard c g).r.next,16,wO ((heard c g).r),⟨0,(-1),false,false,0,0⟩,(⟨#[]⟩ : ByteArray)⟩] : List Seg)).length) (new := ([⟨(heard c g).t.my,(heard c g).t.port,ay ((heard c g).s),(heard c g).r.next,16,wO ((heard c g).r),⟨0,(-1),false,false,0,0⟩,(⟨#[]⟩ : ByteArray)⟩] : List Seg).map ak) (rs' := ((pump (heard c g) ((heard c g).window)).2 ++ ([⟨(heard c g).t.my,(heard c g).t.port,ay ((heard c g).s),(heard c g).r.next,16,wO ((heard c g).r),⟨0,(-1),false,false,0,0⟩,(⟨#[]⟩ : ByteArray)⟩] : List Seg)).map ak) rfl rfl rfl rfl (by kernel_rfl) (by kernel_rfl) (by kernel_rfl) rfl (by simp) (by rw [List.map_append]) (by simp) (fun ww hf => (aS (hf (ap w.heap.size 50 13 (.slice (some ⟨g20,0,none⟩) 1 1) (([⟨(heard c g).t.my,(heard c g).t.port,ay ((heard c g).s),(heard c g).r.next,16,wO ((heard c g).r),⟨0,(-1),false,false,0,0⟩,(⟨#[]⟩ : ByteArray)⟩] : List Seg).map ak)) (by simp)))) (by intro r hr; obtain ⟨x,hx,rfl⟩ := List.mem_map.1 hr; exact ⟨rfl,by simp [ak,Value.oneCell']⟩) (by (try simp only [List.length_map,List.length_append,List.length_cons,List.length_nil,List.length_take,List.length_drop,maxLen]); omega) (by (try simp only [List.length_map,List.length_append,List.length_cons,List.length_nil,List.length_take,List.length_drop,maxLen]); omega)) ?_
 rintro ⟨v21a,v21c⟩
 refine aR [4,9,11,12] [(12,.v (.slice v21a (((pump (heard c g) ((heard c g).window)).2 ++ ([⟨(heard c g).t.my,(heard c g).t.port,ay ((heard c g).s),(heard c g).r.next,16,wO ((heard c g).r),⟨0,(-1),false,false,0,0⟩,(⟨#[]⟩ : ByteArray)⟩] : List Seg)).length) v21c))] <| kQ <| bf [4,5,6] [(5,.v (.slice v21a (((pump (heard c g) ((heard c g).window)).2 ++ ([⟨(heard c g).t.my,(heard c g).t.port,ay ((heard c g).s),(heard c g).r.next,16,wO ((heard c g).r),⟨0,(-1),false,false,0,0⟩,(⟨#[]⟩ : ByteArray)⟩] : List Seg)).length) v21c)),(6,aI (a9 c g))] 2 ⟨44,a7 (pump (heard c g) ((heard c g).window)).1 (.slice v15a ((pump (heard c g) ((heard c g).window)).1.r.held.length) v15c)⟩ <| kR ?_
 have hmod : a8 c g = (((pump (heard c g) ((heard c g).window)).1),((pump (heard c g) ((heard c g).window)).2 ++ ([⟨(heard c g).t.my,(heard c g).t.port,ay ((heard c g).s),(heard c g).r.next,16,wO ((heard c g).r),⟨0,(-1),false,false,0,0⟩,(⟨#[]⟩ : ByteArray)⟩] : List Seg)),(a9 c g)) := by first | (simp [a8,br,bZ, *]; done) | grind [a8,br,bZ]
 exact ⟨[.agg (a7 (pump (heard c g) ((heard c g).window)).1 (.slice v15a ((pump (heard c g) ((heard c g).window)).1.r.held.length) v15c)).toArray,.slice v21a (((pump (heard c g) ((heard c g).window)).2 ++ ([⟨(heard c g).t.my,(heard c g).t.port,ay ((heard c g).s),(heard c g).r.next,16,wO ((heard c g).r),⟨0,(-1),false,false,0,0⟩,(⟨#[]⟩ : ByteArray)⟩] : List Seg)).length) v21c,iI (a9 c g)],by kernel_rfl,fun w' hb hf ha => by rw [hmod]; exact gu ((v15a,v15c),(v21a,v21c)) rfl rfl (pO (hf _ m2) hB) (pR (hf _ m0) hB) (Apart.sub2 ha (i := 2) (j := 0) rfl rfl (by decide) rfl (fun b h => h) (fun b h => bX h)) hb⟩
 have h19p := bA h19
 refine kK <| kQ <| bf [4,5,6] [(5,.v (.slice v16a ((pump (heard c g) ((heard c g).window)).2.length) v16c)),(6,aI (a9 c g))] 2 ⟨44,a7 (pump (heard c g) ((heard c g).window)).1 (.slice v15a ((pump (heard c g) ((heard c g).window)).1.r.held.length) v15c)⟩ <| kR ?_
 have hmod : a8 c g = (((pump (heard c g) ((heard c g).window)).1),((pump (heard c g) ((heard c g).window)).2),(a9 c g)) := by first | (simp [a8,br,bZ, *]; done) | grind [a8,br,bZ]
 exact ⟨[.agg (a7 (pump (heard c g) ((heard c g).window)).1 (.slice v15a ((pump (heard c g) ((heard c g).window)).1.r.held.length) v15c)).toArray,.slice v16a ((pump (heard c g) ((heard c g).window)).2.length) v16c,iI (a9 c g)],by kernel_rfl,fun w' hb hf ha => by rw [hmod]; exact gu ((v15a,v15c),(v16a,v16c)) rfl rfl (pO (hf _ m0) hB) (pR (hf _ m1) hB) (Apart.sub2 ha (i := 0) (j := 1) rfl rfl (by decide) rfl (fun b h => h) (fun b h => bX h)) hb⟩
 have h18p := of_decide_eq_false h18
 refine aR [4,9,10,11,12,78] [(78,aB false)] <| kN <| kK <| kQ <| bf [4,5,6] [(5,.v (.slice v16a ((pump (heard c g) ((heard c g).window)).2.length) v16c)),(6,aI (a9 c g))] 2 ⟨44,a7 (pump (heard c g) ((heard c g).window)).1 (.slice v15a ((pump (heard c g) ((heard c g).window)).1.r.held.length) v15c)⟩ ?_
 refine kR ?_
 have hmod : a8 c g = (((pump (heard c g) ((heard c g).window)).1),((pump (heard c g) ((heard c g).window)).2),(a9 c g)) := by first | (simp [a8,br,bZ, *]; done) | grind [a8,br,bZ]
 exact ⟨[.agg (a7 (pump (heard c g) ((heard c g).window)).1 (.slice v15a ((pump (heard c g) ((heard c g).window)).1.r.held.length) v15c)).toArray,.slice v16a ((pump (heard c g) ((heard c g).window)).2.length) v16c,iI (a9 c g)],by kernel_rfl,fun w' hb hf ha => by rw [hmod]; exact gu ((v15a,v15c),(v16a,v16c)) rfl rfl (pO (hf _ m0) hB) (pR (hf _ m1) hB) (Apart.sub2 ha (i := 0) (j := 1) rfl rfl (by decide) rfl (fun b h => h) (fun b h => bX h)) hb⟩
 have h5p := bA h5
 refine kG <| aJ [2,3,4,7,8,9,33] [(2,.p 0 0),(3,.p 1 0),(4,.p 2 0),(7,.p 3 0),(8,.v (.slice (some ⟨g2,0,none⟩) 0 0)),(9,aI (a9 c g)),(33,aB ((a9 c g) == 4))] <| kC ((a9 c g) == 4) (fun h22 => ?_) (fun h22 => ?_)
 have h22p := bC h22
 refine kS <| cf (α := {zz : Int // (fun (tm : Int) => tm = if a9 c g = 4 ∧ c.state = 7 ∧ bj g.flags 1 = true then 4 else c.timer) zz}) (fun zz => (fun (tm : Int) => (⟨[(2,.p 0 0),(4,.p 2 0),(7,.p 3 0),(9,aI (a9 c g))],[⟨44,a7 c (cS Z c Y)⟩,⟨50,aG g⟩,⟨44,bN⟩,⟨44,a7 { c with timer := tm } (cS v1a c v1c)⟩],[],[ap w.heap.size 50 13 (.slice (some ⟨g2,0,none⟩) 0 0) (([] : List Seg).map ak),aF w.heap.size (cS v1a c v1c) 2 (c.r.held.map pC),cH Z c Y]⟩ : St)) zz.1) ?_ ?_
 refine kQ <| cA 3 [2,3,4,7,9,38] [(38,aB ((a9 c g) == 4))] <| kP 38 ((a9 c g) == 4) (fun h23 => ?_) (fun h23 => ?_)
 have h23p := bC h23
 refine cA 5 [2,3,4,7,9,43] [(43,aB (c.state == 7))] <| kP 43 (c.state == 7) (fun h24 => ?_) (fun h24 => ?_)
 have h24p := bC h24
 refine dy 1 [2,4,7,9,43,44] [(43,aB true),(44,.v (.agg (aG g).toArray))] 34 [.agg (aG g).toArray,iI 1] (some 45) rfl (aA fun ww hf => sHas_c g.src g.dst g.seq g.ack g.flags g.window g.o.mss g.o.scale g.o.sack g.o.stamp g.o.val g.o.echo g.body 1 ww ) ?_
 intro _
 refine aR [2,4,7,9,46] [(46,aB (bj g.flags 1))] <| kC (bj g.flags 1) (fun h25 => ?_) (fun h25 => ?_)
 refine kG <| bf [2,4,7,9] [] 3 ⟨44,a7 { c with timer := 4 } (cS v1a c v1c)⟩ ?_
 exact ⟨⟨(4),(by first | (rw [if_neg (by rintro ⟨q1,q2,q3⟩; omega)]; done) | (rw [if_neg (by rintro ⟨q1,q2,q3⟩; simp_all; done)]; done) | (rw [if_pos ⟨by omega,by omega,by assumption⟩]; done))⟩,kF 4 0 [2,4,7,9]⟩
 refine kK ?_
 exact ⟨⟨(c.timer),(by first | (rw [if_neg (by rintro ⟨q1,q2,q3⟩; omega)]; done) | (rw [if_neg (by rintro ⟨q1,q2,q3⟩; simp_all; done)]; done) | (rw [if_pos ⟨by omega,by omega,by assumption⟩]; done))⟩,kF 4 0 [2,4,7,9]⟩
 have h24p := bA h24
 refine aR [2,4,7,9,46] [(46,aB false)] <| kN <| kK ?_
 exact ⟨⟨(c.timer),(by first | (rw [if_neg (by rintro ⟨q1,q2,q3⟩; omega)]; done) | (rw [if_neg (by rintro ⟨q1,q2,q3⟩; simp_all; done)]; done) | (rw [if_pos ⟨by omega,by omega,by assumption⟩]; done))⟩,kF 4 0 [2,4,7,9]⟩
 have h23p := bA h23
 refine aR [2,4,7,9,46] [(46,aB false)] <| kN <| kK ?_
 exact ⟨⟨(c.timer),(by first | (rw [if_neg (by rintro ⟨q1,q2,q3⟩; omega)]; done) | (rw [if_neg (by rintro ⟨q1,q2,q3⟩; simp_all; done)]; done) | (rw [if_pos ⟨by omega,by omega,by assumption⟩]; done))⟩,kF 4 0 [2,4,7,9]⟩
 rintro ⟨tm,htm⟩
 try dsimp only
 try dsimp only at htm
 refine kS <| fY (α := Nat) (fun y => (fun (g27 : Nat) => (⟨[(4,.p 2 0),(5,.v (.slice (some ⟨g27,0,none⟩) 1 1)),(6,aI (a9 c g))],[⟨44,a7 c (cS Z c Y)⟩,⟨50,aG g⟩,⟨44,a7 { c with timer := tm } (cS v1a c v1c)⟩,⟨44,a7 { c with timer := tm } (cS v1a c v1c)⟩],[],[ap w.heap.size 50 13 (.slice (some ⟨g27,0,none⟩) 1 1) (([⟨c.t.my,c.t.port,ay c.s,c.r.next,16,wO c.r,⟨0,(-1),false,false,0,0⟩,(⟨#[]⟩ : ByteArray)⟩] : List Seg).map ak),ap w.heap.size 50 13 (.slice (some ⟨g2,0,none⟩) 0 0) (([] : List Seg).map ak),aF w.heap.size (cS v1a c v1c) 2 (c.r.held.map pC),cH Z c Y]⟩ : St)) y) ?_ ?_
 refine bc [true,true,false,true] (by kernel_rfl) (fun ρ σ => ?_)
 refine eI [0,1,4] [52,49,48,4] 5 [(52,aI (a9 c g)),(49,.v (.agg (a7 c (cS Z c Y)).toArray)),(48,.v (.agg (a7 { c with timer := tm } (cS v1a c v1c)).toArray))] <| kA [2] <| dr 2 35 [.agg (a7 c (cS Z c Y)).toArray] (some 50) rfl (aA fun ww hf => fQ c (cS Z c Y) ww (hf _ m2) (by first | omega | (dsimp only; omega))) ?_
 intro _
 refine kA [3,5] ⟨?_,?_⟩
 refine gj 3 rfl (ax (ax (bz rfl (ax ar)))) (bi (e := 50) (K := 13) (bytes := 104) [.agg #[iI c.t.my,iI c.t.port,iI (ay c.s),iI c.r.next,iI 16,iI (wO c.r),iI 0,iI (-1),.bool false,.bool false,iI 0,iI 0,.string (⟨#[]⟩ : ByteArray)]] (rs := ([⟨c.t.my,c.t.port,ay c.s,c.r.next,16,wO c.r,⟨0,(-1),false,false,0,0⟩,(⟨#[]⟩ : ByteArray)⟩] : List Seg).map ak) rfl rfl) ?_
 intro g27
 refine kA [5] <| e8 5 2 0 (a7 { c with timer := tm } (cS v1a c v1c)) rfl <| eI [6,7] [6,5,4] 0 [(6,aI (a9 c g)),(5,.v (.slice (some ⟨g27,0,none⟩) 1 1))] <| kZ ?_
 exact ⟨(g27),kF 4 0 [4,5,6]⟩
 refine e8 5 2 0 (a7 { c with timer := tm } (cS v1a c v1c)) rfl <| kA [3] <| gj 3 rfl (ax (ax (bz rfl (ax ar)))) (bi (e := 50) (K := 13) (bytes := 104) [.agg #[iI c.t.my,iI c.t.port,iI (ay c.s),iI c.r.next,iI 16,iI (wO c.r),iI 0,iI (-1),.bool false,.bool false,iI 0,iI 0,.string (⟨#[]⟩ : ByteArray)]] (rs := ([⟨c.t.my,c.t.port,ay c.s,c.r.next,16,wO c.r,⟨0,(-1),false,false,0,0⟩,(⟨#[]⟩ : ByteArray)⟩] : List Seg).map ak) rfl rfl) ?_
 intro g29
 refine eI [6,7] [6,5,4] 0 [(6,aI (a9 c g)),(5,.v (.slice (some ⟨g29,0,none⟩) 1 1))] <| kZ ?_
 exact ⟨(g29),kF 4 0 [4,5,6]⟩
 intro g27
 refine kR ?_
 have hmod : a8 c g = (({ c with timer := tm }),([⟨c.t.my,c.t.port,ay c.s,c.r.next,16,wO c.r,⟨0,(-1),false,false,0,0⟩,(⟨#[]⟩ : ByteArray)⟩] : List Seg),(a9 c g)) := by first | (have hv4 : a9 c g = 4 := (by assumption); exact (gp hv4 htm).trans (by rw [hv4]; first | done | rfl)) | (have hv3 : a9 c g = 3 := (by assumption); exact (fM hv3 htm).trans (by rw [hv3]; first | done | rfl))
 exact ⟨[.agg (a7 { c with timer := tm } (cS v1a c v1c)).toArray,.slice (some ⟨g27,0,none⟩) 1 1,iI (a9 c g)],by kernel_rfl,fun w' hb hf ha => by rw [hmod]; exact gu ((v1a,v1c),(((some ⟨g27,0,none⟩) : Option Addr),1)) rfl rfl (pO (hf _ m2) hB) (pR (hf _ m0) hB) (Apart.sub2 ha (i := 2) (j := 0) rfl rfl (by decide) rfl (fun b h => h) (fun b h => bX h)) hb⟩
 have h22p := bA h22
 refine kK <| kQ <| dy 2 [3,4,7,8,9,53,54] [(53,.v (.agg (a7 c (cS Z c Y)).toArray)),(54,.v (.agg (aG g).toArray))] 28 [.agg (a7 c (cS Z c Y)).toArray,.agg (aG g).toArray] (some 55) rfl (cZ fun ww hw hf => ysHeard_c c (cS Z c Y) g ww (hf _ m2) (by assumption) (by omega) (by assumption) (by omega) w.heap.size hw) ?_
 rintro ⟨v30a,v30c⟩
 have hv5 : a9 c g = 5 := by have := eQ c g; omega
 have hhw := heard_w hv5
 have hz31 := heard_sz (H := 1048576) (T := 1048576) (D := 4611686018427387904) (c := c) (g := g) (by assumption) (by assumption) (by assumption) (by omega) (by omega) (by omega)
 obtain ⟨hz31a,hz31b,hz31c⟩ := hz31
 refine bf [3,4,7,8,9] [] 3 ⟨44,a7 (heard c g) (.slice v30a ((heard c g).r.held.length) v30c)⟩ <| kS <| kQ <| aR [3,4,7,8,9,58] [(58,aB (((heard c g).state) == 8))] ?_
 refine kC (((heard c g).state) == 8) (fun h32 => ?_) (fun h32 => ?_)
 have h32p := bC h32
 refine kQ <| bf [4,5,6] [(5,.v (.slice (some ⟨g2,0,none⟩) 0 0)),(6,aI (a9 c g))] 2 ⟨44,a7 (heard c g) (.slice v30a ((heard c g).r.held.length) v30c)⟩ <| kR ?_
 have hmod : a8 c g = ((heard c g),([] : List Seg),(a9 c g)) := by first | (simp [a8,br,bZ, *]; done) | grind [a8,br,bZ]
 exact ⟨[.agg (a7 (heard c g) (.slice v30a ((heard c g).r.held.length) v30c)).toArray,.slice (some ⟨g2,0,none⟩) 0 0,iI (a9 c g)],by kernel_rfl,fun w' hb hf ha => by rw [hmod]; exact gu ((v30a,v30c),(((some ⟨g2,0,none⟩) : Option Addr),0)) rfl rfl (pO (hf _ m0) hB) (pR (hf _ m1) hB) (Apart.sub2 ha (i := 0) (j := 1) rfl rfl (by decide) rfl (fun b h => h) (fun b h => bX h)) hb⟩
 have h32p := bA h32
 refine kK <| kQ <| dy 1 [3,4,7,9,62] [(62,.v (.agg (a7 (heard c g) (.slice v30a ((heard c g).r.held.length) v30c)).toArray))] 35 [.agg (a7 (heard c g) (.slice v30a ((heard c g).r.held.length) v30c)).toArray] (some 63) rfl (aA fun ww hf => fQ (heard c g) (.slice v30a ((heard c g).r.held.length) v30c) ww (Own.sl (hf _ m0)) (by first | omega | (dsimp only; omega))) ?_
 intro _
 refine i5 [3,4,7,9,10] [(10,.p 4 0)] [⟨50,[iI ((heard c g).t.my),iI ((heard c g).t.port),iI (ay ((heard c g).s)),iI ((heard c g).r.next),iI 16,iI (wO ((heard c g).r)),iI 0,iI (-1),.bool false,.bool false,iI 0,iI 0,.string (⟨#[]⟩ : ByteArray)]⟩] <| kQ <| dy 3 [3,4,9,10,65,67] [(65,.v (.agg (a7 (heard c g) (.slice v30a ((heard c g).r.held.length) v30c)).toArray)),(67,aI ((heard c g).window))] 36 [.agg (a7 (heard c g) (.slice v30a ((heard c g).r.held.length) v30c)).toArray,iI ((heard c g).window)] (some 68) rfl (cZ fun ww hw hf => gZ (heard c g) (.slice v30a ((heard c g).r.held.length) v30c) ((heard c g).window) ww (Own.sl (hf _ m0)) (by assumption) (by assumption) (by omega) (by omega) w.heap.size hw) ?_
 rintro ⟨⟨v33a,v33c⟩,⟨v34a,v34c⟩⟩
 have hbd35 : (pump (heard c g) ((heard c g).window)).1.r.held.length ≤ 1048576 ∧ (pump (heard c g) ((heard c g).window)).2.length ≤ 49 := eC _ _  (by omega)
 have hbd35a := hbd35.1; have hbd35b := hbd35.2
 refine i5 [3,4,9,10,11,12] [(11,.p 5 0),(12,.v (.slice v34a ((pump (heard c g) ((heard c g).window)).2.length) v34c))] [⟨44,a7 (pump (heard c g) ((heard c g).window)).1 (.slice v33a ((pump (heard c g) ((heard c g).window)).1.r.held.length) v33c)⟩] <| kS <| kQ <| dy 1 [4,9,10,11,12,71] [(71,.v (.agg (aG g).toArray))] 37 [.agg (aG g).toArray] (some 72) rfl (aA fun ww hf => i4 g.src g.dst g.seq g.ack g.flags g.window g.o.mss g.o.scale g.o.sack g.o.stamp g.o.val g.o.echo g.body ww (by omega)) ?_
 intro _
 refine cA 2 [4,9,10,11,12,74] [(74,aB (decide ((bQ g) > 0)))] <| kP 74 (decide ((bQ g) > 0)) (fun h36 => ?_) (fun h36 => ?_)
 have h36p := of_decide_eq_true h36
 refine aR [4,9,10,11,12,78] [(78,aB ((((pump (heard c g) ((heard c g).window)).2.length : Nat) : Int) == 0))] <| kC ((((pump (heard c g) ((heard c g).window)).2.length : Nat) : Int) == 0) (fun h37 => ?_) (fun h37 => ?_)
 have h37p := bC h37
 refine kG <| kHS 2 [4,9,11,12,79,80] [(4,.p 2 0),(9,aI (a9 c g)),(11,.p 5 0),(12,.v (.slice v34a ((pump (heard c g) ((heard c g).window)).2.length) v34c)),(79,.v (.slice v34a ((pump (heard c g) ((heard c g).window)).2.length) v34c)),(80,.v (.agg #[iI ((heard c g).t.my),iI ((heard c g).t.port),iI (ay ((heard c g).s)),iI ((heard c g).r.next),iI 16,iI (wO ((heard c g).r)),iI 0,iI (-1),.bool false,.bool false,iI 0,iI 0,.string (⟨#[]⟩ : ByteArray)]))] rfl (bi (e := 50) (K := 13) (bytes := 104) [.agg #[iI ((heard c g).t.my),iI ((heard c g).t.port),iI (ay ((heard c g).s)),iI ((heard c g).r.next),iI 16,iI (wO ((heard c g).r)),iI 0,iI (-1),.bool false,.bool false,iI 0,iI 0,.string (⟨#[]⟩ : ByteArray)]] (rs := ([⟨(heard c g).t.my,(heard c g).t.port,ay ((heard c g).s),(heard c g).r.next,16,wO ((heard c g).r),⟨0,(-1),false,false,0,0⟩,(⟨#[]⟩ : ByteArray)⟩] : List Seg).map ak) rfl rfl) ?_
 intro g38
 refine kHD 0 [4,9,11,12,79,81] [] rfl (dt (e := 50) (K := 13) (bytes := 104) (i := 2) (q := ((pump (heard c g) ((heard c g).window)).2 ++ ([⟨(heard c g).t.my,(heard c g).t.port,ay ((heard c g).s),(heard c g).r.next,16,wO ((heard c g).r),⟨0,(-1),false,false,0,0⟩,(⟨#[]⟩ : ByteArray)⟩] : List Seg)).length) (new := ([⟨(heard c g).t.my,(heard c g).t.port,ay ((heard c g).s),(heard c g).r.next,16,wO ((heard c g).r),⟨0,(-1),false,false,0,0⟩,(⟨#[]⟩ : ByteArray)⟩] : List Seg).map ak) (rs' := ((pump (heard c g) ((heard c g).window)).2 ++ ([⟨(heard c g).t.my,(heard c g).t.port,ay ((heard c g).s),(heard c g).r.next,16,wO ((heard c g).r),⟨0,(-1),false,false,0,0⟩,(⟨#[]⟩ : ByteArray)⟩] : List Seg)).map ak) rfl rfl rfl rfl (by kernel_rfl) (by kernel_rfl) (by kernel_rfl) rfl (by simp) (by rw [List.map_append]) (by simp) (fun ww hf => (aS (hf (ap w.heap.size 50 13 (.slice (some ⟨g38,0,none⟩) 1 1) (([⟨(heard c g).t.my,(heard c g).t.port,ay ((heard c g).s),(heard c g).r.next,16,wO ((heard c g).r),⟨0,(-1),false,false,0,0⟩,(⟨#[]⟩ : ByteArray)⟩] : List Seg).map ak)) (by simp)))) (by intro r hr; obtain ⟨x,hx,rfl⟩ := List.mem_map.1 hr; exact ⟨rfl,by simp [ak,Value.oneCell']⟩) (by (try simp only [List.length_map,List.length_append,List.length_cons,List.length_nil,List.length_take,List.length_drop,maxLen]); omega) (by (try simp only [List.length_map,List.length_append,List.length_cons,List.length_nil,List.length_take,List.length_drop,maxLen]); omega)) ?_
 rintro ⟨v39a,v39c⟩
 refine aR [4,9,11,12] [(12,.v (.slice v39a (((pump (heard c g) ((heard c g).window)).2 ++ ([⟨(heard c g).t.my,(heard c g).t.port,ay ((heard c g).s),(heard c g).r.next,16,wO ((heard c g).r),⟨0,(-1),false,false,0,0⟩,(⟨#[]⟩ : ByteArray)⟩] : List Seg)).length) v39c))] <| kQ <| bf [4,5,6] [(5,.v (.slice v39a (((pump (heard c g) ((heard c g).window)).2 ++ ([⟨(heard c g).t.my,(heard c g).t.port,ay ((heard c g).s),(heard c g).r.next,16,wO ((heard c g).r),⟨0,(-1),false,false,0,0⟩,(⟨#[]⟩ : ByteArray)⟩] : List Seg)).length) v39c)),(6,aI (a9 c g))] 2 ⟨44,a7 (pump (heard c g) ((heard c g).window)).1 (.slice v33a ((pump (heard c g) ((heard c g).window)).1.r.held.length) v33c)⟩ <| kR ?_
 have hmod : a8 c g = (((pump (heard c g) ((heard c g).window)).1),((pump (heard c g) ((heard c g).window)).2 ++ ([⟨(heard c g).t.my,(heard c g).t.port,ay ((heard c g).s),(heard c g).r.next,16,wO ((heard c g).r),⟨0,(-1),false,false,0,0⟩,(⟨#[]⟩ : ByteArray)⟩] : List Seg)),(a9 c g)) := by first | (simp [a8,br,bZ, *]; done) | grind [a8,br,bZ]
 exact ⟨[.agg (a7 (pump (heard c g) ((heard c g).window)).1 (.slice v33a ((pump (heard c g) ((heard c g).window)).1.r.held.length) v33c)).toArray,.slice v39a (((pump (heard c g) ((heard c g).window)).2 ++ ([⟨(heard c g).t.my,(heard c g).t.port,ay ((heard c g).s),(heard c g).r.next,16,wO ((heard c g).r),⟨0,(-1),false,false,0,0⟩,(⟨#[]⟩ : ByteArray)⟩] : List Seg)).length) v39c,iI (a9 c g)],by kernel_rfl,fun w' hb hf ha => by rw [hmod]; exact gu ((v33a,v33c),(v39a,v39c)) rfl rfl (pO (hf _ m2) hB) (pR (hf _ m0) hB) (Apart.sub2 ha (i := 2) (j := 0) rfl rfl (by decide) rfl (fun b h => h) (fun b h => bX h)) hb⟩
 have h37p := bA h37
 refine kK <| kQ <| c8 [4,5,6] ⟨[(4,.p 2 0),(5,.v (.slice v34a ((pump (heard c g) ((heard c g).window)).2.length) v34c)),(6,aI (a9 c g))],[⟨44,a7 c (cS Z c Y)⟩,⟨50,aG g⟩,⟨44,a7 (pump (heard c g) ((heard c g).window)).1 (.slice v33a ((pump (heard c g) ((heard c g).window)).1.r.held.length) v33c)⟩,⟨44,a7 (heard c g) (.slice v30a ((heard c g).r.held.length) v30c)⟩,⟨50,[iI ((heard c g).t.my),iI ((heard c g).t.port),iI (ay ((heard c g).s)),iI ((heard c g).r.next),iI 16,iI (wO ((heard c g).r)),iI 0,iI (-1),.bool false,.bool false,iI 0,iI 0,.string (⟨#[]⟩ : ByteArray)]⟩,⟨44,a7 (pump (heard c g) ((heard c g).window)).1 (.slice v33a ((pump (heard c g) ((heard c g).window)).1.r.held.length) v33c)⟩],[],[aF w.heap.size (.slice v33a ((pump (heard c g) ((heard c g).window)).1.r.held.length) v33c) 2 ((pump (heard c g) ((heard c g).window)).1.r.held.map pC),ap w.heap.size 50 13 (.slice v34a ((pump (heard c g) ((heard c g).window)).2.length) v34c) ((pump (heard c g) ((heard c g).window)).2.map ak),aF w.heap.size (.slice v30a ((heard c g).r.held.length) v30c) 2 ((heard c g).r.held.map pC),ap w.heap.size 50 13 (.slice (some ⟨g2,0,none⟩) 0 0) (([] : List Seg).map ak),aF w.heap.size (cS v1a c v1c) 2 (c.r.held.map pC),cH Z c Y]⟩ <| kR ?_
 have hmod : a8 c g = (((pump (heard c g) ((heard c g).window)).1),((pump (heard c g) ((heard c g).window)).2),(a9 c g)) := by first | (simp [a8,br,bZ, *]; done) | grind [a8,br,bZ]
 exact ⟨[.agg (a7 (pump (heard c g) ((heard c g).window)).1 (.slice v33a ((pump (heard c g) ((heard c g).window)).1.r.held.length) v33c)).toArray,.slice v34a ((pump (heard c g) ((heard c g).window)).2.length) v34c,iI (a9 c g)],by kernel_rfl,fun w' hb hf ha => by rw [hmod]; exact gu ((v33a,v33c),(v34a,v34c)) rfl rfl (pO (hf _ m0) hB) (pR (hf _ m1) hB) (Apart.sub2 ha (i := 0) (j := 1) rfl rfl (by decide) rfl (fun b h => h) (fun b h => bX h)) hb⟩
 have h36p := of_decide_eq_false h36
 refine aR [4,9,10,11,12,78] [(78,aB false)] <| kN <| kK <| kQ <| c8 [4,5,6] ⟨[(4,.p 2 0),(5,.v (.slice v34a ((pump (heard c g) ((heard c g).window)).2.length) v34c)),(6,aI (a9 c g))],[⟨44,a7 c (cS Z c Y)⟩,⟨50,aG g⟩,⟨44,a7 (pump (heard c g) ((heard c g).window)).1 (.slice v33a ((pump (heard c g) ((heard c g).window)).1.r.held.length) v33c)⟩,⟨44,a7 (heard c g) (.slice v30a ((heard c g).r.held.length) v30c)⟩,⟨50,[iI ((heard c g).t.my),iI ((heard c g).t.port),iI (ay ((heard c g).s)),iI ((heard c g).r.next),iI 16,iI (wO ((heard c g).r)),iI 0,iI (-1),.bool false,.bool false,iI 0,iI 0,.string (⟨#[]⟩ : ByteArray)]⟩,⟨44,a7 (pump (heard c g) ((heard c g).window)).1 (.slice v33a ((pump (heard c g) ((heard c g).window)).1.r.held.length) v33c)⟩],[],[aF w.heap.size (.slice v33a ((pump (heard c g) ((heard c g).window)).1.r.held.length) v33c) 2 ((pump (heard c g) ((heard c g).window)).1.r.held.map pC),ap w.heap.size 50 13 (.slice v34a ((pump (heard c g) ((heard c g).window)).2.length) v34c) ((pump (heard c g) ((heard c g).window)).2.map ak),aF w.heap.size (.slice v30a ((heard c g).r.held.length) v30c) 2 ((heard c g).r.held.map pC),ap w.heap.size 50 13 (.slice (some ⟨g2,0,none⟩) 0 0) (([] : List Seg).map ak),aF w.heap.size (cS v1a c v1c) 2 (c.r.held.map pC),cH Z c Y]⟩ ?_
 refine kR ?_
 have hmod : a8 c g = (((pump (heard c g) ((heard c g).window)).1),((pump (heard c g) ((heard c g).window)).2),(a9 c g)) := by first | (simp [a8,br,bZ, *]; done) | grind [a8,br,bZ]
 exact ⟨[.agg (a7 (pump (heard c g) ((heard c g).window)).1 (.slice v33a ((pump (heard c g) ((heard c g).window)).1.r.held.length) v33c)).toArray,.slice v34a ((pump (heard c g) ((heard c g).window)).2.length) v34c,iI (a9 c g)],by kernel_rfl,fun w' hb hf ha => by rw [hmod]; exact gu ((v33a,v33c),(v34a,v34c)) rfl rfl (pO (hf _ m0) hB) (pR (hf _ m1) hB) (Apart.sub2 ha (i := 0) (j := 1) rfl rfl (by decide) rfl (fun b h => h) (fun b h => bX h)) hb⟩
theorem l1New_c (J : List Int) (A : Option Addr) (cap : Nat) (w : World) (hl : Sl w (sJ A J cap) 1 (J.map bR)) (hn : J.length ≤ 1048576) : Calls Tryz.prog 107 #[.slice A J.length cap] w fun e w' => ∃ y : {g : Nat // ¬ (sQ A J cap).blk g}, e = .returned (gP y.1) ∧ (gm w.heap.size y.1 137 (sJ A J cap) J.length).p w' ∧ Below w.heap.size w w' := by
 have hq_code := Sl.capLe hl
 refine bH (args := [.slice A J.length cap]) (fn := Tryz.f107) [sQ A J cap] Tryz.func107 rfl Tryz.ntmps107 rfl (by simp only [List.mem_cons,List.not_mem_nil,or_false,forall_eq]; exact ⟨rfl,hl⟩) ?_
 refine kQ <| c8 [0] ⟨[(0,.v (sJ A J cap))],[],[],[sQ A J cap]⟩ <| kQ <| aR [0,3] [(3,aI (K6.wrap (28655 + ((J.length : Nat) : Int))))] ?_
 refine kS <| kQ <| aR [0,3,4] [(4,aI 0)] <| aZ <| cz (α := {x : Nat × Int // (fun (i : Nat) (h : Int) => i ≤ J.length) x.1 x.2}) (fun x => (fun (i : Nat) (h : Int) => (⟨[(0,.v (sJ A J cap)),(3,aI h),(4,aI (i : Int))],[],[],[sQ A J cap]⟩ : St)) x.1.1 x.1.2) (fun x => (fun (i : Nat) (h : Int) => J.length - i) x.1.1 x.1.2) ⟨(0,K6.wrap (28655 + ((J.length : Nat) : Int))),Nat.zero_le _⟩ (kF 0 0 [0,3,4]) ?_
 rintro ⟨⟨i,h⟩,hi⟩
 try dsimp only
 try dsimp only at hi
 refine kS <| kQ <| cA 5 [0,3,4,12] [(12,aB (decide ((i : Int) < ((J.length : Nat) : Int))))] <| kP 12 (decide ((i : Int) < ((J.length : Nat) : Int))) (fun h1 => ?_) (fun h1 => ?_)
 have h1p := of_decide_eq_true h1
 have hlt : i < J.length := by simpa using h1
 obtain ⟨z,hz⟩ : ∃ z,J[i]? = some z := ⟨_,List.getElem?_eq_getElem hlt⟩
 refine aR [0,3,4,15] [(15,aB (decide ((i : Int) < 4000)))] <| kC (decide ((i : Int) < 4000)) (fun h2 => ?_) (fun h2 => ?_)
 have h2p := of_decide_eq_true h2
 refine kK <| kS <| aZ <| kG <| eM (kd := .i64) (T := 57) (e := 5) (K := 1) 4 [0,3,4,19,20,21] [(19,aI (K6.wrap (h * 131))),(20,.v (sJ A J cap)),(21,aI (i : Int))] i [.int .u8 z] (sQ A J cap) (by kernel_rfl) rfl (by kernel_rfl) rfl rfl (by kernel_rfl) (by kernel_rfl) (by kernel_rfl) (by kernel_rfl) hlt (by simp) (fun w h => h) (fun b h => h) (by simp only [List.getElem?_map,hz]; rfl) ?_
 refine aR [0,3,4] [(3,aI (K6.wrap (BitVec.ofInt 64 (K6.wrap ((K6.wrap ((K6.wrap (h * 131)) + (K6.wrap z))) + 7)) &&& BitVec.ofInt 64 1073741823).toNat))] <| kG <| cA 3 [0,3,4] [(4,aI (K6.wrap ((i : Int) + 1)))] <| cJ [0,3,4] [(4,aI (K6.wrap ((i : Int) + 1)))] [(4,aI ((i : Int) + 1))] (by rw [show (K6.wrap ((i : Int) + 1)) = ((i : Int) + 1) from ab (by omega) (by omega)]) (by kernel_rfl) ?_
 refine aR [0,3,4] [] ?_
 exact ⟨⟨(i + 1,K6.wrap (BitVec.ofInt 64 (K6.wrap ((K6.wrap ((K6.wrap (h * 131)) + (K6.wrap z))) + 7)) &&& BitVec.ofInt 64 1073741823).toNat),hlt⟩,kF 0 0 [0,3,4],by show (fun (i : Nat) (h : Int) => J.length - i) (i + 1) (K6.wrap (BitVec.ofInt 64 (K6.wrap ((K6.wrap ((K6.wrap (h * 131)) + (K6.wrap z))) + 7)) &&& BitVec.ofInt 64 1073741823).toNat) < J.length - i; (dsimp only; omega)⟩
 have h2p := of_decide_eq_false h2
 refine cq <| kQ <| i8 2 [28,29] [(28,.v (sJ A J cap)),(29,aI h)] (.agg #[.slice A J.length cap,iI 0,iI h]) rfl (fun _ _ _ ww hr => aN [(0,.slice A J.length cap),(2,iI h)] hr.1 rfl (by kernel_rfl) (by kernel_rfl) ww) ?_
 refine i5 [2] [(2,.p 0 0)] [⟨137,[.slice A J.length cap,iI 0,iI h]⟩] <| xw_pin ?_
 intro g hg hgn
 refine kR ?_
 exact ⟨[gP g],by kernel_rfl,fun w' hb hf => ⟨⟨g,hgn _ (by simp)⟩,rfl,⟨hg,0,h,Nat.zero_le _,(hf (cy w.heap.size g 137 [.slice A J.length cap,iI 0,iI h]) (by simp)).2⟩,hb⟩⟩
 have h1p := of_decide_eq_false h1
 refine aR [0,3,4,15] [(15,aB false)] <| kN <| cq <| kQ <| i8 2 [28,29] [(28,.v (sJ A J cap)),(29,aI h)] (.agg #[.slice A J.length cap,iI 0,iI h]) rfl (fun _ _ _ ww hr => aN [(0,.slice A J.length cap),(2,iI h)] hr.1 rfl (by kernel_rfl) (by kernel_rfl) ww) ?_
 refine i5 [2] [(2,.p 0 0)] [⟨137,[.slice A J.length cap,iI 0,iI h]⟩] <| xw_pin ?_
 intro g hg hgn
 refine kR ?_
 exact ⟨[gP g],by kernel_rfl,fun w' hb hf => ⟨⟨g,hgn _ (by simp)⟩,rfl,⟨hg,0,h,Nat.zero_le _,(hf (cy w.heap.size g 137 [.slice A J.length cap,iI 0,iI h]) (by simp)).2⟩,hb⟩⟩
theorem l1Byte_c (g : Nat) (J : List Int) (A : Option Addr) (cap : Nat)  (w : World) (B : Nat) (hB : B ≤ w.heap.size) (hc : (cF B g A J cap).p w) (hl : Sl w (sJ A J cap) 1 (J.map bR)) (hap : ¬ (sQ A J cap).blk g) (hn : J.length ≤ 1048576)  : Calls Tryz.prog 155 #[gP g] w fun e w' => ∃ y : {y : Int // 0 ≤ y ∧ y ≤ 255}, e = .returned (iI y.1) ∧ (cF B g A J cap).p w' ∧ Chgd (fun b => b = g) w w' := by
 have hq_code := Sl.capLe hl
 obtain ⟨hBg,i,h,hi,hg⟩ := hc
 refine cO (args := [gP g]) (fn := Tryz.f155) [cy B g 137 [.slice A J.length cap,iI (i : Int),iI h],sQ A J cap,c9 w (fun b => b = g)] B Tryz.func155 rfl Tryz.ntmps155 rfl hB (by simp only [List.mem_cons,List.not_mem_nil,or_false,forall_eq_or_imp,forall_eq]; exact ⟨⟨hBg,hg⟩,hl,bJ w _⟩) (apart_cell hap rfl) ?_
 refine kQ <| c8 [0] ⟨[(0,aP g)],[],[],[cy B g 137 [.slice A J.length cap,iI (i : Int),iI h],sQ A J cap,c9 w (fun b => b = g)]⟩ <| kQ <| fh 2 [0,4,5] [(4,aP g),(5,aP g)] (gP g) rfl (fun _ _ _ ww hr => fL (b := g) (m := 0) hr.1 rfl (by kernel_rfl) ww) ?_
 refine fh 0 [0,4,6] [] (.pointer (some ⟨g,2,none⟩)) rfl (fun _ _ _ ww hr => dL (sz := 1) (b := g) (m := 0) hr.1 rfl Tryz.underlying137 rfl (by kernel_rfl) rfl (by kernel_rfl) rfl) ?_
 refine fh 0 [0,4,7] [] (iI h) rfl (fun _ _ _ ww hr => fX (off := 2) (B := B) (g := g) (T := 137) (cs := [.slice A J.length cap,iI (i : Int),iI h]) hr rfl (by kernel_rfl) (by simp) (by kernel_rfl)) ?_
 refine fh 2 [0,4,10] [(10,aI (K6.wrap ((K6.wrap (h * 6364136223846793005)) + 1442695040888963407)))] (gP g) rfl (fun _ _ _ ww hr => fL (b := g) (m := 0) hr.1 rfl (by kernel_rfl) ww) ?_
 refine fh 0 [0,10,11] [] (.pointer (some ⟨g,2,none⟩)) rfl (fun _ _ _ ww hr => dL (sz := 1) (b := g) (m := 0) hr.1 rfl Tryz.underlying137 rfl (by kernel_rfl) rfl (by kernel_rfl) rfl) ?_
 refine xl_hs 0 [0,10,12] ⟨[(0,aP g),(10,aI (K6.wrap ((K6.wrap (h * 6364136223846793005)) + 1442695040888963407))),(12,.v (.pointer (some ⟨g,2,none⟩)))],[],[],[cy B g 137 [.slice A J.length cap,iI (i : Int),iI h],sQ A J cap,c9 w (fun b => b = g)]⟩ (by kernel_rfl) rfl (by kernel_rfl) rfl (by kernel_rfl) (hs_stP (g := g) (T := 137) (off := 2) (v := (iI (K6.wrap ((K6.wrap (h * 6364136223846793005)) + 1442695040888963407)))) (i := 0) (B := B) (cs := [.slice A J.length cap,iI (i : Int),iI h]) [iI (K6.wrap ((K6.wrap (h * 6364136223846793005)) + 1442695040888963407))] (cs' := [.slice A J.length cap,iI (i : Int),iI (K6.wrap ((K6.wrap (h * 6364136223846793005)) + 1442695040888963407))]) rfl (by kernel_rfl) (by kernel_rfl) rfl (by kernel_rfl) rfl (by kernel_rfl) rfl rfl (ce w B)) ?_
 refine aR [0] [] <| kS <| fy <| xws_cell (B := B) (g := g) (T := 137) (cs := [.slice A J.length cap,iI (i : Int),iI (K6.wrap ((K6.wrap (h * 6364136223846793005)) + 1442695040888963407))]) (fun _ _ h => h) (by simp) ?_
 refine e9 [] (by kernel_rfl) (fun ρ σ hq1 => ?_)
 refine eI [0,5] [18,13,0] 11 [(18,aP g),(13,aP g)] <| kX 1 (gP g) rfl (fun _ _ ww hA => fL (b := g) (m := 0) hA rfl (by kernel_rfl) ww) ?_
 refine kX 2 (.pointer (some ⟨g,2,none⟩)) rfl (fun _ _ ww hA => dL (sz := 1) (b := g) (m := 0) hA rfl Tryz.underlying137 rfl (by kernel_rfl) rfl (by kernel_rfl) rfl) ?_
 refine xe_opH 3 (iI (K6.wrap ((K6.wrap (h * 6364136223846793005)) + 1442695040888963407))) _ rfl (by kernel_rfl) (by kernel_rfl) (by kernel_rfl) (fun _ _ h => h) (by kernel_rfl) rfl (fun _ _ ww hA hS => gy (g := g) (off := 2) (cs := [.slice A J.length cap,iI (i : Int),iI (K6.wrap ((K6.wrap (h * 6364136223846793005)) + 1442695040888963407))]) hA rfl (by kernel_rfl) (rd_row hS (h := 0) rfl hq1.2) (by kernel_rfl)) rfl ?_
 refine kX 4 (iI (Int.fdiv (K6.wrap ((K6.wrap (h * 6364136223846793005)) + 1442695040888963407)) (2 ^ (33 : Int).toNat))) rfl (fun _ _ ww hA => cj hA rfl (by kernel_rfl) (by kernel_rfl) (shr_run (k' := .u64) (by decide) (by decide) ww)) ?_
 refine kX 6 (gP g) rfl (fun _ _ ww hA => fL (b := g) (m := 0) hA rfl (by kernel_rfl) ww) ?_
 refine kX 7 (.pointer (some ⟨g,2,none⟩)) rfl (fun _ _ ww hA => dL (sz := 1) (b := g) (m := 0) hA rfl Tryz.underlying137 rfl (by kernel_rfl) rfl (by kernel_rfl) rfl) ?_
 refine xe_opH 8 (iI (K6.wrap ((K6.wrap (h * 6364136223846793005)) + 1442695040888963407))) _ rfl (by kernel_rfl) (by kernel_rfl) (by kernel_rfl) (fun _ _ h => h) (by kernel_rfl) rfl (fun _ _ ww hA hS => gy (g := g) (off := 2) (cs := [.slice A J.length cap,iI (i : Int),iI (K6.wrap ((K6.wrap (h * 6364136223846793005)) + 1442695040888963407))]) hA rfl (by kernel_rfl) (rd_row hS (h := 0) rfl hq1.2) (by kernel_rfl)) rfl ?_
 refine kX 9 (iI (Int.fdiv (K6.wrap ((K6.wrap (h * 6364136223846793005)) + 1442695040888963407)) (2 ^ (45 : Int).toNat))) rfl (fun _ _ ww hA => cj hA rfl (by kernel_rfl) (by kernel_rfl) (shr_run (k' := .u64) (by decide) (by decide) ww)) ?_
 refine kX 10 (iI (K6.wrap (BitVec.ofInt 64 (Int.fdiv (K6.wrap ((K6.wrap (h * 6364136223846793005)) + 1442695040888963407)) (2 ^ (33 : Int).toNat)) ^^^ BitVec.ofInt 64 (Int.fdiv (K6.wrap ((K6.wrap (h * 6364136223846793005)) + 1442695040888963407)) (2 ^ (45 : Int).toNat))).toNat)) rfl (fun _ _ ww hA => cj hA rfl (by kernel_rfl) (by kernel_rfl) (xor_run ww)) ?_
 refine eI [11,12] [3,0] 0 [(3,aI (K6.wrap (BitVec.ofInt 64 (K6.wrap (BitVec.ofInt 64 (Int.fdiv (K6.wrap ((K6.wrap (h * 6364136223846793005)) + 1442695040888963407)) (2 ^ (33 : Int).toNat)) ^^^ BitVec.ofInt 64 (Int.fdiv (K6.wrap ((K6.wrap (h * 6364136223846793005)) + 1442695040888963407)) (2 ^ (45 : Int).toNat))).toNat) &&& BitVec.ofInt 64 255).toNat))] <| kZ <| kS <| kS <| xw_wk (wkf (s' := ⟨[(3,aI (K6.wrap (BitVec.ofInt 64 (K6.wrap (BitVec.ofInt 64 (Int.fdiv (K6.wrap ((K6.wrap (h * 6364136223846793005)) + 1442695040888963407)) (2 ^ (33 : Int).toNat)) ^^^ BitVec.ofInt 64 (Int.fdiv (K6.wrap ((K6.wrap (h * 6364136223846793005)) + 1442695040888963407)) (2 ^ (45 : Int).toNat))).toNat) &&& BitVec.ofInt 64 255).toNat)),(0,aP g)],[],[],[cy B g 137 [.slice A J.length cap,iI (i : Int),iI (K6.wrap ((K6.wrap (h * 6364136223846793005)) + 1442695040888963407))],sQ A J cap,c9 w (fun b => b = g)]⟩) 0 0 [3,0] (by kernel_rfl)) ?_
 refine fy <| xws_cell (B := B) (g := g) (T := 137) (cs := [.slice A J.length cap,iI (i : Int),iI (K6.wrap ((K6.wrap (h * 6364136223846793005)) + 1442695040888963407))]) (fun _ _ h => h) (by simp) ?_
 refine e9 [] (by kernel_rfl) (fun ρ σ hq2 => ?_)
 refine eI [0,4] [29,25,3,0] 8 [(29,aP g),(25,aP g)] <| kX 1 (gP g) rfl (fun _ _ ww hA => fL (b := g) (m := 0) hA rfl (by kernel_rfl) ww) ?_
 refine kX 2 (.pointer (some ⟨g,1,none⟩)) rfl (fun _ _ ww hA => dL (sz := 1) (b := g) (m := 0) hA rfl Tryz.underlying137 rfl (by kernel_rfl) rfl (by kernel_rfl) rfl) ?_
 refine xe_opH 3 (iI (i : Int)) _ rfl (by kernel_rfl) (by kernel_rfl) (by kernel_rfl) (fun _ _ h => h) (by kernel_rfl) rfl (fun _ _ ww hA hS => gy (g := g) (off := 1) (cs := [.slice A J.length cap,iI (i : Int),iI (K6.wrap ((K6.wrap (h * 6364136223846793005)) + 1442695040888963407))]) hA rfl (by kernel_rfl) (rd_row hS (h := 0) rfl hq2.2) (by kernel_rfl)) rfl ?_
 refine kX 5 (gP g) rfl (fun _ _ ww hA => fL (b := g) (m := 0) hA rfl (by kernel_rfl) ww) ?_
 refine kX 6 (gP g) rfl (fun _ _ ww hA => dL (sz := 1) (b := g) (m := 0) hA rfl Tryz.underlying137 rfl (by kernel_rfl) rfl (by kernel_rfl) rfl) ?_
 refine xe_opH 7 (sJ A J cap) _ rfl (by kernel_rfl) (by kernel_rfl) (by kernel_rfl) (fun _ _ h => h) (by kernel_rfl) rfl (fun _ _ ww hA hS => gy (g := g) (off := 0) (cs := [.slice A J.length cap,iI (i : Int),iI (K6.wrap ((K6.wrap (h * 6364136223846793005)) + 1442695040888963407))]) hA rfl (by kernel_rfl) (rd_row hS (h := 0) rfl hq2.2) (by kernel_rfl)) rfl ?_
 refine eI [8,9] [34,3,0] 0 [(34,aB (decide ((i : Int) < ((J.length : Nat) : Int))))] <| kZ <| kC (decide ((i : Int) < ((J.length : Nat) : Int))) (fun h3 => ?_) (fun h3 => ?_)
 have h3p := of_decide_eq_true h3
 have hlt : i < J.length := by simpa using h3
 obtain ⟨z,hz⟩ : ∃ z,J[i]? = some z := ⟨_,List.getElem?_eq_getElem hlt⟩
 refine kS <| xw_wk (wkf (s' := ⟨[(34,aB (decide ((i : Int) < ((J.length : Nat) : Int)))),(3,aI (K6.wrap (BitVec.ofInt 64 (K6.wrap (BitVec.ofInt 64 (Int.fdiv (K6.wrap ((K6.wrap (h * 6364136223846793005)) + 1442695040888963407)) (2 ^ (33 : Int).toNat)) ^^^ BitVec.ofInt 64 (Int.fdiv (K6.wrap ((K6.wrap (h * 6364136223846793005)) + 1442695040888963407)) (2 ^ (45 : Int).toNat))).toNat) &&& BitVec.ofInt 64 255).toNat)),(0,aP g)],[],[],[cy B g 137 [.slice A J.length cap,iI (i : Int),iI (K6.wrap ((K6.wrap (h * 6364136223846793005)) + 1442695040888963407))],sQ A J cap,c9 w (fun b => b = g)]⟩) 0 0 [34,3,0] (by kernel_rfl)) ?_
 refine fy <| gn (K := 1) (j := i) [.int .u8 z] (sQ A J cap) (fun _ _ h => h) (by simp) (fun w h => h) (fun b h => h) (by simp only [List.getElem?_map,hz]; rfl) (fun bq4 offq4 hAq4 => ?_)
 refine xws_cell (B := B) (g := g) (T := 137) (cs := [.slice A J.length cap,iI (i : Int),iI (K6.wrap ((K6.wrap (h * 6364136223846793005)) + 1442695040888963407))]) (fun _ _ h => h) (by simp) ?_
 refine e9 [] (by kernel_rfl) (fun ρ σ hq5 => ?_)
 refine ca [0,1,5] [40,36,35,3,0] 12 [(40,aP g),(36,aP g),(35,aI (K6.wrap (BitVec.ofInt 64 (K6.wrap (BitVec.ofInt 64 (Int.fdiv (K6.wrap ((K6.wrap (h * 6364136223846793005)) + 1442695040888963407)) (2 ^ (33 : Int).toNat)) ^^^ BitVec.ofInt 64 (Int.fdiv (K6.wrap ((K6.wrap (h * 6364136223846793005)) + 1442695040888963407)) (2 ^ (45 : Int).toNat))).toNat) &&& BitVec.ofInt 64 255).toNat)),(3,aI (K6.wrap (BitVec.ofInt 64 (K6.wrap (BitVec.ofInt 64 (Int.fdiv (K6.wrap ((K6.wrap (h * 6364136223846793005)) + 1442695040888963407)) (2 ^ (33 : Int).toNat)) ^^^ BitVec.ofInt 64 (Int.fdiv (K6.wrap ((K6.wrap (h * 6364136223846793005)) + 1442695040888963407)) (2 ^ (45 : Int).toNat))).toNat) &&& BitVec.ofInt 64 255).toNat)),(0,aP g)] <| kX 2 (gP g) rfl (fun _ _ ww hA => fL (b := g) (m := 0) hA rfl (by kernel_rfl) ww) ?_
 refine kX 3 (gP g) rfl (fun _ _ ww hA => dL (sz := 1) (b := g) (m := 0) hA rfl Tryz.underlying137 rfl (by kernel_rfl) rfl (by kernel_rfl) rfl) ?_
 refine xe_opH 4 (sJ A J cap) _ rfl (by kernel_rfl) (by kernel_rfl) (by kernel_rfl) (fun _ _ h => h) (by kernel_rfl) rfl (fun _ _ ww hA hS => gy (g := g) (off := 0) (cs := [.slice A J.length cap,iI (i : Int),iI (K6.wrap ((K6.wrap (h * 6364136223846793005)) + 1442695040888963407))]) hA rfl (by kernel_rfl) (rd_row hS (h := 1) rfl hq5.2) (by kernel_rfl)) rfl ?_
 refine kX 6 (gP g) rfl (fun _ _ ww hA => fL (b := g) (m := 0) hA rfl (by kernel_rfl) ww) ?_
 refine kX 7 (.pointer (some ⟨g,1,none⟩)) rfl (fun _ _ ww hA => dL (sz := 1) (b := g) (m := 0) hA rfl Tryz.underlying137 rfl (by kernel_rfl) rfl (by kernel_rfl) rfl) ?_
 refine xe_opH 8 (iI (i : Int)) _ rfl (by kernel_rfl) (by kernel_rfl) (by kernel_rfl) (fun _ _ h => h) (by kernel_rfl) rfl (fun _ _ ww hA hS => gy (g := g) (off := 1) (cs := [.slice A J.length cap,iI (i : Int),iI (K6.wrap ((K6.wrap (h * 6364136223846793005)) + 1442695040888963407))]) hA rfl (by kernel_rfl) (rd_row hS (h := 1) rfl hq5.2) (by kernel_rfl)) rfl ?_
 refine fZ (kd := .i64) (T := 57) (e := 5) (K := 1) (j := i) (A := A) (len := J.length) (cap := cap) 9 0 _ rfl (by kernel_rfl) (by kernel_rfl) (by kernel_rfl) (fun _ _ h => h) (by kernel_rfl) rfl rfl (by kernel_rfl) (by kernel_rfl) (by kernel_rfl) (by kernel_rfl) hlt hAq4 hq5.1.2 (by kernel_rfl) rfl ?_
 refine eI [10,11,12,13,14] [3,0] 0 [(3,aI (K6.wrap (BitVec.ofInt 64 (K6.wrap ((K6.wrap (BitVec.ofInt 64 (K6.wrap (BitVec.ofInt 64 (Int.fdiv (K6.wrap ((K6.wrap (h * 6364136223846793005)) + 1442695040888963407)) (2 ^ (33 : Int).toNat)) ^^^ BitVec.ofInt 64 (Int.fdiv (K6.wrap ((K6.wrap (h * 6364136223846793005)) + 1442695040888963407)) (2 ^ (45 : Int).toNat))).toNat) &&& BitVec.ofInt 64 255).toNat) + (K6.wrap z))) &&& BitVec.ofInt 64 255).toNat))] <| kZ <| kG <| fh 2 [3,49,50] [(49,aP g),(50,aP g)] (gP g) rfl (fun _ _ _ ww hr => fL (b := g) (m := 0) hr.1 rfl (by kernel_rfl) ww) ?_
 refine fh 0 [3,49,51] [] (.pointer (some ⟨g,1,none⟩)) rfl (fun _ _ _ ww hr => dL (sz := 1) (b := g) (m := 0) hr.1 rfl Tryz.underlying137 rfl (by kernel_rfl) rfl (by kernel_rfl) rfl) ?_
 refine fh 0 [3,49,52] [] (iI (i : Int)) rfl (fun _ _ _ ww hr => fX (off := 1) (B := B) (g := g) (T := 137) (cs := [.slice A J.length cap,iI (i : Int),iI (K6.wrap ((K6.wrap (h * 6364136223846793005)) + 1442695040888963407))]) hr rfl (by kernel_rfl) (by simp) (by kernel_rfl)) ?_
 refine fh 1 [3,49,54] [(54,aI (K6.wrap ((i : Int) + 1)))] (gP g) rfl (fun _ _ _ ww hr => fL (b := g) (m := 0) hr.1 rfl (by kernel_rfl) ww) ?_
 refine fh 0 [3,54,55] [] (.pointer (some ⟨g,1,none⟩)) rfl (fun _ _ _ ww hr => dL (sz := 1) (b := g) (m := 0) hr.1 rfl Tryz.underlying137 rfl (by kernel_rfl) rfl (by kernel_rfl) rfl) ?_
 refine xl_hs 0 [3,54,56] ⟨[(3,aI (K6.wrap (BitVec.ofInt 64 (K6.wrap ((K6.wrap (BitVec.ofInt 64 (K6.wrap (BitVec.ofInt 64 (Int.fdiv (K6.wrap ((K6.wrap (h * 6364136223846793005)) + 1442695040888963407)) (2 ^ (33 : Int).toNat)) ^^^ BitVec.ofInt 64 (Int.fdiv (K6.wrap ((K6.wrap (h * 6364136223846793005)) + 1442695040888963407)) (2 ^ (45 : Int).toNat))).toNat) &&& BitVec.ofInt 64 255).toNat) + (K6.wrap z))) &&& BitVec.ofInt 64 255).toNat)),(54,aI (K6.wrap ((i : Int) + 1))),(56,.v (.pointer (some ⟨g,1,none⟩)))],[],[[.int .u8 z],[.slice A J.length cap,iI (i : Int),iI (K6.wrap ((K6.wrap (h * 6364136223846793005)) + 1442695040888963407))]],[cy B g 137 [.slice A J.length cap,iI (i : Int),iI (K6.wrap ((K6.wrap (h * 6364136223846793005)) + 1442695040888963407))],sQ A J cap,c9 w (fun b => b = g)]⟩ (by kernel_rfl) rfl (by kernel_rfl) rfl (by kernel_rfl) (hs_stP (g := g) (T := 137) (off := 1) (v := (iI (K6.wrap ((i : Int) + 1)))) (i := 0) (B := B) (cs := [.slice A J.length cap,iI (i : Int),iI (K6.wrap ((K6.wrap (h * 6364136223846793005)) + 1442695040888963407))]) [iI (K6.wrap ((i : Int) + 1))] (cs' := [.slice A J.length cap,iI (K6.wrap ((i : Int) + 1)),iI (K6.wrap ((K6.wrap (h * 6364136223846793005)) + 1442695040888963407))]) rfl (by kernel_rfl) (by kernel_rfl) rfl (by kernel_rfl) rfl (by kernel_rfl) rfl rfl (ce w B)) ?_
 refine aR [3] [] <| kQ <| aJ [2] [(2,aI (K6.wrap (BitVec.ofInt 64 (K6.wrap ((K6.wrap (BitVec.ofInt 64 (K6.wrap (BitVec.ofInt 64 (Int.fdiv (K6.wrap ((K6.wrap (h * 6364136223846793005)) + 1442695040888963407)) (2 ^ (33 : Int).toNat)) ^^^ BitVec.ofInt 64 (Int.fdiv (K6.wrap ((K6.wrap (h * 6364136223846793005)) + 1442695040888963407)) (2 ^ (45 : Int).toNat))).toNat) &&& BitVec.ofInt 64 255).toNat) + (K6.wrap z))) &&& BitVec.ofInt 64 255).toNat))] <| kR ?_
 exact ⟨[iI (K6.wrap (BitVec.ofInt 64 (K6.wrap ((K6.wrap (BitVec.ofInt 64 (K6.wrap (BitVec.ofInt 64 (Int.fdiv (K6.wrap ((K6.wrap (h * 6364136223846793005)) + 1442695040888963407)) (2 ^ (33 : Int).toNat)) ^^^ BitVec.ofInt 64 (Int.fdiv (K6.wrap ((K6.wrap (h * 6364136223846793005)) + 1442695040888963407)) (2 ^ (45 : Int).toNat))).toNat) &&& BitVec.ofInt 64 255).toNat) + (K6.wrap z))) &&& BitVec.ofInt 64 255).toNat)],by kernel_rfl,fun w' hb hf => ⟨⟨K6.wrap (BitVec.ofInt 64 (K6.wrap ((K6.wrap (BitVec.ofInt 64 (K6.wrap (BitVec.ofInt 64 (Int.fdiv (K6.wrap ((K6.wrap (h * 6364136223846793005)) + 1442695040888963407)) (2 ^ (33 : Int).toNat)) ^^^ BitVec.ofInt 64 (Int.fdiv (K6.wrap ((K6.wrap (h * 6364136223846793005)) + 1442695040888963407)) (2 ^ (45 : Int).toNat))).toNat) &&& BitVec.ofInt 64 255).toNat) + (K6.wrap z))) &&& BitVec.ofInt 64 255).toNat,and255 _⟩,rfl,⟨hBg,i + 1,K6.wrap ((K6.wrap (h * 6364136223846793005)) + 1442695040888963407),by omega,by have := (hf (cy B g 137 [.slice A J.length cap,iI (K6.wrap ((i : Int) + 1)),iI (K6.wrap ((K6.wrap (h * 6364136223846793005)) + 1442695040888963407))]) (by simp)).2; rw [show K6.wrap ((i : Int) + 1) = ((i + 1 : Nat) : Int) from by rw [ab (by omega) (by omega)]; omega] at this; exact this⟩,aY (hf (c9 w (fun b => b = g)) (by simp)) hb rfl rfl rfl⟩⟩
 have h3p := of_decide_eq_false h3
 refine kK <| kQ <| aJ [2] [(2,aI (K6.wrap (BitVec.ofInt 64 (K6.wrap (BitVec.ofInt 64 (Int.fdiv (K6.wrap ((K6.wrap (h * 6364136223846793005)) + 1442695040888963407)) (2 ^ (33 : Int).toNat)) ^^^ BitVec.ofInt 64 (Int.fdiv (K6.wrap ((K6.wrap (h * 6364136223846793005)) + 1442695040888963407)) (2 ^ (45 : Int).toNat))).toNat) &&& BitVec.ofInt 64 255).toNat))] <| kR ?_
 exact ⟨[iI (K6.wrap (BitVec.ofInt 64 (K6.wrap (BitVec.ofInt 64 (Int.fdiv (K6.wrap ((K6.wrap (h * 6364136223846793005)) + 1442695040888963407)) (2 ^ (33 : Int).toNat)) ^^^ BitVec.ofInt 64 (Int.fdiv (K6.wrap ((K6.wrap (h * 6364136223846793005)) + 1442695040888963407)) (2 ^ (45 : Int).toNat))).toNat) &&& BitVec.ofInt 64 255).toNat)],by kernel_rfl,fun w' hb hf => ⟨⟨K6.wrap (BitVec.ofInt 64 (K6.wrap (BitVec.ofInt 64 (Int.fdiv (K6.wrap ((K6.wrap (h * 6364136223846793005)) + 1442695040888963407)) (2 ^ (33 : Int).toNat)) ^^^ BitVec.ofInt 64 (Int.fdiv (K6.wrap ((K6.wrap (h * 6364136223846793005)) + 1442695040888963407)) (2 ^ (45 : Int).toNat))).toNat) &&& BitVec.ofInt 64 255).toNat,and255 _⟩,rfl,⟨hBg,i,K6.wrap ((K6.wrap (h * 6364136223846793005)) + 1442695040888963407),hi,(hf (cy B g 137 [.slice A J.length cap,iI (i : Int),iI (K6.wrap ((K6.wrap (h * 6364136223846793005)) + 1442695040888963407))]) (by simp)).2⟩,aY (hf (c9 w (fun b => b = g)) (by simp)) hb rfl rfl rfl⟩⟩
theorem f9 {g : Nat} {J : List Int} {A : Option Addr} {cap : Nat}  {w0 : World} {fs : List Fact} {B : Nat} (hB : B ≤ w0.heap.size) (hap : ¬ (sQ A J cap).blk g)  (hn : J.length ≤ 1048576 := by omega) (h1 : cF B g A J cap ∈ fs := by simp) (h2 : sQ A J cap ∈ fs := by simp) : XCM Tryz.prog w0 fs (cF B g A J cap).blk 155 [gP g] (α := {y : Int // 0 ≤ y ∧ y ≤ 255}) (fun y => iI y.1) (fun _ => [cF B g A J cap]) := dq fun w hw hf => l1Byte_c g J A cap  w B (Nat.le_trans hB hw) (hf _ h1) (hf _ h2) hap hn  
theorem l1Below_c (g : Nat) (J : List Int) (A : Option Addr) (cap : Nat) (n : Int) (w : World) (B : Nat) (hB : B ≤ w.heap.size) (hc : (cF B g A J cap).p w) (hl : Sl w (sJ A J cap) 1 (J.map bR)) (hap : ¬ (sQ A J cap).blk g) (hn : J.length ≤ 1048576)  : Calls Tryz.prog 133 #[gP g, iI n] w fun e w' => ∃ y : {y : Int // 0 ≤ y ∧ (0 < n → y < n)}, e = .returned (iI y.1) ∧ (cF B g A J cap).p w' ∧ Chgd (fun b => b = g) w w' := by
 have hq_code := Sl.capLe hl
 have hBw : B ≤ (aQ w B).heap.size := Nat.le_of_eq (bn hB).symm
 have hlo : ∀ (ww : World) (b : Nat),(cF B g A J cap).p ww → (cF B g A J cap).blk b → (aQ w B).heap.size ≤ b := fun ww b h hb => Nat.le_trans (ce w B) (cC h hb)
 refine cO (args := [gP g,iI n]) (fn := Tryz.f133) [cF B g A J cap,sQ A J cap,c9 w (fun b => b = g)] B Tryz.func133 rfl Tryz.ntmps133 rfl hB (by simp only [List.mem_cons,List.not_mem_nil,or_false,forall_eq_or_imp,forall_eq]; exact ⟨hc,hl,bJ w _⟩) (cu hap rfl) ?_
 refine kQ <| c8 [0,1] ⟨[(0,aP g),(1,aI n)],[],[],[cF B g A J cap,sQ A J cap,c9 w (fun b => b = g)]⟩ <| kS <| kQ <| aR [0,1,10] [(10,aB (decide (n ≤ 0)))] ?_
 refine kC (decide (n ≤ 0)) (fun h1 => ?_) (fun h1 => ?_)
 have h1p := of_decide_eq_true h1
 refine kQ <| aJ [4] [(4,aI 0)] <| kR ?_
 exact ⟨[iI 0],by kernel_rfl,fun w' hb hf => ⟨⟨0,(by first | (exact ⟨by omega,fun _ => by omega⟩) | (exact tmod_bd (by omega) (by omega)))⟩,rfl,hf (cF B g A J cap) (by simp),aY (hf (c9 w (fun b => b = g)) (by simp)) hb rfl rfl rfl⟩⟩
 have h1p := of_decide_eq_false h1
 refine kK <| kS <| kQ <| aR [0,1,12] [(12,aB (decide (n ≤ 256)))] ?_
 refine kC (decide (n ≤ 256)) (fun h2 => ?_) (fun h2 => ?_)
 have h2p := of_decide_eq_true h2
 refine kQ <| dp 1 [1,13] [(13,aP g)] 155 [gP g] (some 14) 0 rfl rfl hlo (f9 hBw hap) ?_
 rintro ⟨y3,hy3⟩
 refine fh 1 [14,15] [(15,aI n)] (iI (Int.tmod y3 n)) rfl (fun _ _ _ ww hr => cj hr.1 rfl (by kernel_rfl) (by kernel_rfl) (rem_run (by first | decide | omega) ww)) ?_
 refine aJ [4] [(4,aI (Int.tmod y3 n))] <| kR ?_
 exact ⟨[iI (Int.tmod y3 n)],by kernel_rfl,fun w' hb hf => ⟨⟨Int.tmod y3 n,(by first | (exact ⟨by omega,fun _ => by omega⟩) | (exact tmod_bd (by omega) (by omega)))⟩,rfl,hf (cF B g A J cap) (by simp),aY (hf (c9 w (fun b => b = g)) (by simp)) hb rfl rfl rfl⟩⟩
 have h2p := of_decide_eq_false h2
 refine kK <| kQ <| dp 1 [0,1,17] [(17,aP g)] 155 [gP g] (some 18) 0 rfl rfl hlo (f9 hBw hap) ?_
 rintro ⟨y4,hy4⟩
 refine aR [0,1,5] [(5,aI y4)] <| kQ <| dp 1 [0,1,5,19] [(19,aP g)] 155 [gP g] (some 20) 0 rfl rfl hlo (f9 hBw hap) ?_
 rintro ⟨y5,hy5⟩
 refine aR [0,1,5,6] [(6,aI y5)] <| kQ <| dp 1 [0,1,5,6,21] [(21,aP g)] 155 [gP g] (some 22) 0 rfl rfl hlo (f9 hBw hap) ?_
 rintro ⟨y6,hy6⟩
 refine aR [0,1,5,6,7] [(7,aI y6)] <| kQ <| dp 1 [1,5,6,7,23] [(23,aP g)] 155 [gP g] (some 24) 0 rfl rfl hlo (f9 hBw hap) ?_
 rintro ⟨y7,hy7⟩
 refine aR [1,5,6,7,8] [(8,aI y7)] <| kQ <| i8 11 [34,35] [(34,aI (K6.wrap ((K6.wrap ((K6.wrap ((K6.wrap (y4 * 16777216)) + (K6.wrap (y5 * 65536)))) + (K6.wrap (y6 * 256)))) + y7))),(35,aI n)] (iI (Int.tmod (K6.wrap ((K6.wrap ((K6.wrap ((K6.wrap (y4 * 16777216)) + (K6.wrap (y5 * 65536)))) + (K6.wrap (y6 * 256)))) + y7)) n)) rfl (fun _ _ _ ww hr => cj hr.1 rfl (by kernel_rfl) (by kernel_rfl) (rem_run (by first | decide | omega) ww)) ?_
 refine cR 1 [4] [(4,aI (Int.tmod (K6.wrap ((K6.wrap ((K6.wrap ((K6.wrap (y4 * 16777216)) + (K6.wrap (y5 * 65536)))) + (K6.wrap (y6 * 256)))) + y7)) n))] <| cJ [4] [(4,aI (Int.tmod (K6.wrap ((K6.wrap ((K6.wrap ((K6.wrap (y4 * 16777216)) + (K6.wrap (y5 * 65536)))) + (K6.wrap (y6 * 256)))) + y7)) n))] [(4,aI (Int.tmod ((((y4 * 16777216) + (y5 * 65536)) + (y6 * 256)) + y7) n))] (by rw [show (K6.wrap (y6 * 256)) = (y6 * 256) from ab (by omega) (by omega),show (K6.wrap (y5 * 65536)) = (y5 * 65536) from ab (by omega) (by omega),show (K6.wrap (y4 * 16777216)) = (y4 * 16777216) from ab (by omega) (by omega),show (K6.wrap ((y4 * 16777216) + (y5 * 65536))) = ((y4 * 16777216) + (y5 * 65536)) from ab (by omega) (by omega),show (K6.wrap (((y4 * 16777216) + (y5 * 65536)) + (y6 * 256))) = (((y4 * 16777216) + (y5 * 65536)) + (y6 * 256)) from ab (by omega) (by omega),show (K6.wrap ((((y4 * 16777216) + (y5 * 65536)) + (y6 * 256)) + y7)) = ((((y4 * 16777216) + (y5 * 65536)) + (y6 * 256)) + y7) from ab (by omega) (by omega)]) (by kernel_rfl) ?_
 refine aR [4] [] <| kR ?_
 exact ⟨[iI (Int.tmod ((((y4 * 16777216) + (y5 * 65536)) + (y6 * 256)) + y7) n)],by kernel_rfl,fun w' hb hf => ⟨⟨Int.tmod ((((y4 * 16777216) + (y5 * 65536)) + (y6 * 256)) + y7) n,(by first | (exact ⟨by omega,fun _ => by omega⟩) | (exact tmod_bd (by omega) (by omega)))⟩,rfl,hf (cF B g A J cap) (by simp),aY (hf (c9 w (fun b => b = g)) (by simp)) hb rfl rfl rfl⟩⟩
theorem ag {g : Nat} {J : List Int} {A : Option Addr} {cap : Nat} {n : Int} {w0 : World} {fs : List Fact} {B : Nat} (hB : B ≤ w0.heap.size) (hap : ¬ (sQ A J cap).blk g)  (hn : J.length ≤ 1048576 := by omega) (h1 : cF B g A J cap ∈ fs := by simp) (h2 : sQ A J cap ∈ fs := by simp) : XCM Tryz.prog w0 fs (cF B g A J cap).blk 133 [gP g, iI n] (α := {y : Int // 0 ≤ y ∧ (0 < n → y < n)}) (fun y => iI y.1) (fun _ => [cF B g A J cap]) := dq fun w hw hf => l1Below_c g J A cap n w B (Nat.le_trans hB hw) (hf _ h1) (hf _ h2) hap hn  
theorem l1Once_c (g : Nat) (J : List Int) (A : Option Addr) (cap : Nat) (n : Int) (w : World) (B : Nat) (hB : B ≤ w.heap.size) (hc : (cF B g A J cap).p w) (hl : Sl w (sJ A J cap) 1 (J.map bR)) (hap : ¬ (sQ A J cap).blk g) (hn : J.length ≤ 1048576)  : Calls Tryz.prog 110 #[gP g, iI n] w fun e w' => ∃ y : {y : Bool // True}, e = .returned (.bool y.1) ∧ (cF B g A J cap).p w' ∧ Chgd (fun b => b = g) w w' := by
 have hq_code := Sl.capLe hl
 have hBw : B ≤ (aQ w B).heap.size := Nat.le_of_eq (bn hB).symm
 have hlo : ∀ (ww : World) (b : Nat),(cF B g A J cap).p ww → (cF B g A J cap).blk b → (aQ w B).heap.size ≤ b := fun ww b h hb => Nat.le_trans (ce w B) (cC h hb)
 refine cO (args := [gP g,iI n]) (fn := Tryz.f110) [cF B g A J cap,sQ A J cap,c9 w (fun b => b = g)] B Tryz.func110 rfl Tryz.ntmps110 rfl hB (by simp only [List.mem_cons,List.not_mem_nil,or_false,forall_eq_or_imp,forall_eq]; exact ⟨hc,hl,bJ w _⟩) (cu hap rfl) ?_
 refine kQ <| c8 [0,1] ⟨[(0,aP g),(1,aI n)],[],[],[cF B g A J cap,sQ A J cap,c9 w (fun b => b = g)]⟩ <| kQ <| kWS 2 [5,6] [(5,aP g),(6,aI n)] 133 [gP g,iI n] (some 7) 0 rfl rfl hlo (ag hBw hap) ?_
 rintro ⟨y1,hy1⟩
 obtain ⟨hy10,hy11⟩ := hy1
 refine aJ [4] [(4,aB (y1 == 0))] <| kR ?_
 exact ⟨[.bool (y1 == 0)],by kernel_rfl,fun w' hb hf => ⟨⟨y1 == 0,trivial⟩,rfl,hf (cF B g A J cap) (by simp),aY (hf (c9 w (fun b => b = g)) (by simp)) hb rfl rfl rfl⟩⟩
theorem bO {g : Nat} {J : List Int} {A : Option Addr} {cap : Nat} {n : Int} {w0 : World} {fs : List Fact} {B : Nat} (hB : B ≤ w0.heap.size) (hap : ¬ (sQ A J cap).blk g)  (hn : J.length ≤ 1048576 := by omega) (h1 : cF B g A J cap ∈ fs := by simp) (h2 : sQ A J cap ∈ fs := by simp) : XCM Tryz.prog w0 fs (cF B g A J cap).blk 110 [gP g, iI n] (α := {y : Bool // True}) (fun y => .bool y.1) (fun _ => [cF B g A J cap]) := dq fun w hw hf => l1Once_c g J A cap n w B (Nat.le_trans hB hw) (hf _ h1) (hf _ h2) hap hn  
theorem l1PickInt_c (g : Nat) (J : List Int) (A : Option Addr) (cap : Nat) (list : List Int) (listV : Value) (w : World) (B : Nat) (hB : B ≤ w.heap.size) (hc : (cF B g A J cap).p w) (hl : Sl w (sJ A J cap) 1 (J.map bR)) (hap : ¬ (sQ A J cap).blk g) (hn : J.length ≤ 1048576) (hl_listV : Sl w listV 1 (list.map aq)) (hap2 : ¬ (c7 listV 1 (list.map aq)).blk g) (hne : 0 < list.length) : Calls Tryz.prog 136 #[gP g, listV] w fun e w' => ∃ y : {y : Int // y ∈ list}, e = .returned (iI y.1) ∧ (cF B g A J cap).p w' ∧ Chgd (fun b => b = g) w w' := by
 have hq_code := Sl.capLe hl
 have hBw : B ≤ (aQ w B).heap.size := Nat.le_of_eq (bn hB).symm
 have hlo : ∀ (ww : World) (b : Nat),(cF B g A J cap).p ww → (cF B g A J cap).blk b → (aQ w B).heap.size ≤ b := fun ww b h hb => Nat.le_trans (ce w B) (cC h hb)
 obtain ⟨Al,Cl,hvl⟩ := hl_listV.form
 rw [List.length_map] at hvl; subst hvl
 have hnl := hl_listV.len; rw [List.length_map] at hnl
 have hql := Sl.capLe hl_listV
 refine cO (args := [gP g,.slice Al list.length Cl]) (fn := Tryz.f136) [cF B g A J cap,sQ A J cap,c9 w (fun b => b = g),c7 (.slice Al list.length Cl) 1 (list.map aq)] B Tryz.func136 rfl Tryz.ntmps136 rfl hB (by simp only [List.mem_cons,List.not_mem_nil,or_false,forall_eq_or_imp,forall_eq]; exact ⟨hc,hl,bJ w _,hl_listV⟩) (apart_cur2 hap rfl hap2 rfl) ?_
 refine kQ <| c8 [0,1] ⟨[(0,aP g),(1,.v (.slice Al list.length Cl))],[],[],[cF B g A J cap,sQ A J cap,c9 w (fun b => b = g),c7 (.slice Al list.length Cl) 1 (list.map aq)]⟩ <| kQ <| kWS 4 [5,6,8] [(5,.v (.slice Al list.length Cl)),(6,aP g),(8,aI ((list.length : Nat) : Int))] 133 [gP g,iI ((list.length : Nat) : Int)] (some 9) 0 rfl rfl hlo (ag hBw hap) ?_
 rintro ⟨y1,hy1⟩
 obtain ⟨hy10,hy11⟩ := hy1
 obtain ⟨j2,hj2⟩ : ∃ j : Nat,y1 = (j : Int) := ⟨y1.toNat,by omega⟩
 subst hj2
 have hlt : j2 < list.length := by omega
 obtain ⟨z,hz⟩ : ∃ z,list[j2]? = some z := ⟨_,List.getElem?_eq_getElem hlt⟩
 refine eM (kd := .i64) (T := 125) (e := 3) (K := 1) 0 [5,9] [] j2 [iI z] (c7 (.slice Al list.length Cl) 1 (list.map aq)) (by kernel_rfl) rfl (by kernel_rfl) rfl rfl (by kernel_rfl) (by kernel_rfl) (by kernel_rfl) (by kernel_rfl) hlt (by simp) (fun w h => h) (fun b h => h) (by simp only [List.getElem?_map,hz]; rfl) ?_
 refine aJ [4] [(4,aI z)] <| kR ?_
 exact ⟨[iI z],by kernel_rfl,fun w' hb hf => ⟨⟨z,List.mem_of_getElem? hz⟩,rfl,hf (cF B g A J cap) (by simp),aY (hf (c9 w (fun b => b = g)) (by simp)) hb rfl rfl rfl⟩⟩
theorem bp {g : Nat} {J : List Int} {A : Option Addr} {cap : Nat} {list : List Int} {listV : Value} {w0 : World} {fs : List Fact} {B : Nat} (hB : B ≤ w0.heap.size) (hap : ¬ (sQ A J cap).blk g) (hs0 : ∀ w : World, w0.heap.size ≤ w.heap.size → (∀ f ∈ fs, f.p w) → Sl w listV 1 (list.map aq)) (hq0 : ¬ (c7 listV 1 (list.map aq)).blk g) (hne : 0 < list.length) (hn : J.length ≤ 1048576 := by omega) (h1 : cF B g A J cap ∈ fs := by simp) (h2 : sQ A J cap ∈ fs := by simp) : XCM Tryz.prog w0 fs (cF B g A J cap).blk 136 [gP g, listV] (α := {y : Int // y ∈ list}) (fun y => iI y.1) (fun _ => [cF B g A J cap]) := dq fun w hw hf => l1PickInt_c g J A cap list listV w B (Nat.le_trans hB hw) (hf _ h1) (hf _ h2) hap hn (hs0 w hw hf) hq0 hne
theorem l1Whole_c (g : Nat) (J : List Int) (A : Option Addr) (cap : Nat)  (w : World) (B : Nat) (hB : B ≤ w.heap.size) (hc : (cF B g A J cap).p w) (hl : Sl w (sJ A J cap) 1 (J.map bR)) (hap : ¬ (sQ A J cap).blk g) (hn : J.length ≤ 1048576)  : Calls Tryz.prog 160 #[gP g] w fun e w' => ∃ y : {y : Int // True}, e = .returned (iI y.1) ∧ (cF B g A J cap).p w' ∧ Chgd (fun b => b = g) w w' := by
 have hq_code := Sl.capLe hl
 have hBw : B ≤ (aQ w B).heap.size := Nat.le_of_eq (bn hB).symm
 have hlo : ∀ (ww : World) (b : Nat),(cF B g A J cap).p ww → (cF B g A J cap).blk b → (aQ w B).heap.size ≤ b := fun ww b h hb => Nat.le_trans (ce w B) (cC h hb)
 refine cO (args := [gP g]) (fn := Tryz.f160) [cF B g A J cap,sQ A J cap,c9 w (fun b => b = g)] B Tryz.func160 rfl Tryz.ntmps160 rfl hB (by simp only [List.mem_cons,List.not_mem_nil,or_false,forall_eq_or_imp,forall_eq]; exact ⟨hc,hl,bJ w _⟩) (cu hap rfl) ?_
 refine kQ <| c8 [0] ⟨[(0,aP g)],[],[],[cF B g A J cap,sQ A J cap,c9 w (fun b => b = g)]⟩ <| kS <| kQ <| dp 1 [0,3] [(3,aP g)] 133 [gP g,iI 3] (some 4) 0 rfl rfl hlo (ag hBw hap) ?_
 rintro ⟨y1,hy1⟩
 obtain ⟨hy10,hy11⟩ := hy1
 refine aR [0,4] [] <| aZ <| kQ <| aR [0,4,5] [(5,aB (y1 == 0))] ?_
 refine kC (y1 == 0) (fun h2 => ?_) (fun h2 => ?_)
 have h2p := bC h2
 refine kQ <| kHS 1 [7] [(7,aP g)] rfl (bi (e := 3) (K := 1) (bytes := 8) [iI 0,iI 1,iI (-1),iI 9,iI 10,iI 999999999999,iI 1000000000000,iI 9223372036854775807,iI 4294967295,iI 4294967296,iI 65535,iI 65536,iI (-9223372036854775808)] (rs := ([0,1,(-1),9,10,999999999999,1000000000000,9223372036854775807,4294967295,4294967296,65535,65536,(-9223372036854775808)] : List Int).map aq) rfl rfl) ?_
 intro g3
 refine dd (φ := ¬ (c7 (.slice (some ⟨g3,0,none⟩) 13 13) 1 (([0,1,(-1),9,10,999999999999,1000000000000,9223372036854775807,4294967295,4294967296,65535,65536,(-9223372036854775808)] : List Int).map aq)).blk g) (fun _ _ _ _ hr => fun hb => hr.2.apart 0 1 (ap (aQ w B).heap.size 3 1 (.slice (some ⟨g3,0,none⟩) 13 13) (([0,1,(-1),9,10,999999999999,1000000000000,9223372036854775807,4294967295,4294967296,65535,65536,(-9223372036854775808)] : List Int).map aq)) (cF B g A J cap) rfl rfl (by decide) rfl g (bK hb) rfl) (fun hk4 => ?_)
 refine dp 0 [7,8] [] 136 [gP g,.slice (some ⟨g3,0,none⟩) 13 13] (some 9) 1 rfl rfl hlo (bp hBw hap (fun ww hw hf => (aS (hf _ m0))) hk4 (by simp)) ?_
 rintro ⟨y5,hy5⟩
 refine aJ [2] [(2,aI y5)] <| kR ?_
 exact ⟨[iI y5],by kernel_rfl,fun w' hb hf => ⟨⟨y5,trivial⟩,rfl,hf (cF B g A J cap) (by simp),aY (hf (c9 w (fun b => b = g)) (by simp)) hb rfl rfl rfl⟩⟩
 have h2p := bA h2
 refine kQ <| aR [0,10] [(10,aB (y1 == 1))] <| kC (y1 == 1) (fun h6 => ?_) (fun h6 => ?_)
 have h6p := bC h6
 refine kQ <| kWS 1 [12] [(12,aP g)] 133 [gP g,iI 1000000] (some 13) 0 rfl rfl hlo (ag hBw hap) ?_
 rintro ⟨y7,hy7⟩
 obtain ⟨hy70,hy71⟩ := hy7
 refine cR 2 [2] [(2,aI (K6.wrap (y7 - 500000)))] <| cJ [2] [(2,aI (K6.wrap (y7 - 500000)))] [(2,aI (y7 - 500000))] (by rw [show (K6.wrap (y7 - 500000)) = (y7 - 500000) from ab (by omega) (by omega)]) (by kernel_rfl) ?_
 refine aR [2] [] <| kR ?_
 exact ⟨[iI (y7 - 500000)],by kernel_rfl,fun w' hb hf => ⟨⟨y7 - 500000,trivial⟩,rfl,hf (cF B g A J cap) (by simp),aY (hf (c9 w (fun b => b = g)) (by simp)) hb rfl rfl rfl⟩⟩
 have h6p := bA h6
 refine kK <| kQ <| kWS 1 [15] [(15,aP g)] 133 [gP g,iI 20] (some 16) 0 rfl rfl hlo (ag hBw hap) ?_
 rintro ⟨y8,hy8⟩
 obtain ⟨hy80,hy81⟩ := hy8
 refine aJ [2] [(2,aI y8)] <| kR ?_
 exact ⟨[iI y8],by kernel_rfl,fun w' hb hf => ⟨⟨y8,trivial⟩,rfl,hf (cF B g A J cap) (by simp),aY (hf (c9 w (fun b => b = g)) (by simp)) hb rfl rfl rfl⟩⟩
theorem l1Whole_c_K {g : Nat} {J : List Int} {A : Option Addr} {cap : Nat}  {w0 : World} {fs : List Fact} {B : Nat} (hB : B ≤ w0.heap.size) (hap : ¬ (sQ A J cap).blk g)  (hn : J.length ≤ 1048576 := by omega) (h1 : cF B g A J cap ∈ fs := by simp) (h2 : sQ A J cap ∈ fs := by simp) : XCM Tryz.prog w0 fs (cF B g A J cap).blk 160 [gP g] (α := {y : Int // True}) (fun y => iI y.1) (fun _ => [cF B g A J cap]) := dq fun w hw hf => l1Whole_c g J A cap  w B (Nat.le_trans hB hw) (hf _ h1) (hf _ h2) hap hn  
theorem l2Word_c (g : Nat) (J : List Int) (A : Option Addr) (cap : Nat)  (w : World) (B : Nat) (hB : B ≤ w.heap.size) (hc : (cF B g A J cap).p w) (hl : Sl w (sJ A J cap) 1 (J.map bR)) (hap : ¬ (sQ A J cap).blk g) (hn : J.length ≤ 1048576)  : Calls Tryz.prog 143 #[gP g] w fun e w' => ∃ y : {y : Int // True}, e = .returned (iI y.1) ∧ (cF B g A J cap).p w' ∧ Chgd (fun b => b = g) w w' := by
 have hq_code := Sl.capLe hl
 have hBw : B ≤ (aQ w B).heap.size := Nat.le_of_eq (bn hB).symm
 have hlo : ∀ (ww : World) (b : Nat),(cF B g A J cap).p ww → (cF B g A J cap).blk b → (aQ w B).heap.size ≤ b := fun ww b h hb => Nat.le_trans (ce w B) (cC h hb)
 refine cO (args := [gP g]) (fn := Tryz.f143) [cF B g A J cap,sQ A J cap,c9 w (fun b => b = g)] B Tryz.func143 rfl Tryz.ntmps143 rfl hB (by simp only [List.mem_cons,List.not_mem_nil,or_false,forall_eq_or_imp,forall_eq]; exact ⟨hc,hl,bJ w _⟩) (cu hap rfl) ?_
 refine kQ <| c8 [0] ⟨[(0,aP g)],[],[],[cF B g A J cap,sQ A J cap,c9 w (fun b => b = g)]⟩ <| kS <| kQ <| dp 1 [0,3] [(3,aP g)] 133 [gP g,iI 3] (some 4) 0 rfl rfl hlo (ag hBw hap) ?_
 rintro ⟨y1,hy1⟩
 obtain ⟨hy10,hy11⟩ := hy1
 refine aR [0,4] [] <| aZ <| kQ <| aR [0,4,5] [(5,aB (y1 == 0))] ?_
 refine kC (y1 == 0) (fun h2 => ?_) (fun h2 => ?_)
 have h2p := bC h2
 refine kQ <| kWS 1 [7] [(7,aP g)] 160 [gP g] (some 8) 0 rfl rfl hlo (l1Whole_c_K hBw hap) ?_
 rintro ⟨y3,hy3⟩
 refine aJ [2] [(2,aI y3)] <| kR ?_
 exact ⟨[iI y3],by kernel_rfl,fun w' hb hf => ⟨⟨y3,trivial⟩,rfl,hf (cF B g A J cap) (by simp),aY (hf (c9 w (fun b => b = g)) (by simp)) hb rfl rfl rfl⟩⟩
 have h2p := bA h2
 refine kQ <| aR [0,9] [(9,aB (y1 == 1))] <| kC (y1 == 1) (fun h4 => ?_) (fun h4 => ?_)
 have h4p := bC h4
 refine kQ <| kHS 1 [11] [(11,aP g)] rfl (bi (e := 3) (K := 1) (bytes := 8) [iI 0,iI 1,iI 255,iI 256,iI 65535,iI 65536,iI 16777215,iI 4294967295,iI 4294967296,iI 281474976710655,iI 281474976710656] (rs := ([0,1,255,256,65535,65536,16777215,4294967295,4294967296,281474976710655,281474976710656] : List Int).map aq) rfl rfl) ?_
 intro g5
 refine dd (φ := ¬ (c7 (.slice (some ⟨g5,0,none⟩) 11 11) 1 (([0,1,255,256,65535,65536,16777215,4294967295,4294967296,281474976710655,281474976710656] : List Int).map aq)).blk g) (fun _ _ _ _ hr => fun hb => hr.2.apart 0 1 (ap (aQ w B).heap.size 3 1 (.slice (some ⟨g5,0,none⟩) 11 11) (([0,1,255,256,65535,65536,16777215,4294967295,4294967296,281474976710655,281474976710656] : List Int).map aq)) (cF B g A J cap) rfl rfl (by decide) rfl g (bK hb) rfl) (fun hk6 => ?_)
 refine dp 0 [11,12] [] 136 [gP g,.slice (some ⟨g5,0,none⟩) 11 11] (some 13) 1 rfl rfl hlo (bp hBw hap (fun ww hw hf => (aS (hf _ m0))) hk6 (by simp)) ?_
 rintro ⟨y7,hy7⟩
 refine aJ [2] [(2,aI y7)] <| kR ?_
 exact ⟨[iI y7],by kernel_rfl,fun w' hb hf => ⟨⟨y7,trivial⟩,rfl,hf (cF B g A J cap) (by simp),aY (hf (c9 w (fun b => b = g)) (by simp)) hb rfl rfl rfl⟩⟩
 have h4p := bA h4
 refine kK <| kQ <| kWS 1 [14] [(14,aP g)] 133 [gP g,iI 65536] (some 15) 0 rfl rfl hlo (ag hBw hap) ?_
 rintro ⟨y8,hy8⟩
 obtain ⟨hy80,hy81⟩ := hy8
 refine aJ [2] [(2,aI y8)] <| kR ?_
 exact ⟨[iI y8],by kernel_rfl,fun w' hb hf => ⟨⟨y8,trivial⟩,rfl,hf (cF B g A J cap) (by simp),aY (hf (c9 w (fun b => b = g)) (by simp)) hb rfl rfl rfl⟩⟩
theorem dK {g : Nat} {J : List Int} {A : Option Addr} {cap : Nat}  {w0 : World} {fs : List Fact} {B : Nat} (hB : B ≤ w0.heap.size) (hap : ¬ (sQ A J cap).blk g)  (hn : J.length ≤ 1048576 := by omega) (h1 : cF B g A J cap ∈ fs := by simp) (h2 : sQ A J cap ∈ fs := by simp) : XCM Tryz.prog w0 fs (cF B g A J cap).blk 143 [gP g] (α := {y : Int // True}) (fun y => iI y.1) (fun _ => [cF B g A J cap]) := dq fun w hw hf => l2Word_c g J A cap  w B (Nat.le_trans hB hw) (hf _ h1) (hf _ h2) hap hn  
theorem l2Deep_c (g : Nat) (J : List Int) (A : Option Addr) (cap : Nat)  (w : World) (B : Nat) (hB : B ≤ w.heap.size) (hc : (cF B g A J cap).p w) (hl : Sl w (sJ A J cap) 1 (J.map bR)) (hap : ¬ (sQ A J cap).blk g) (hn : J.length ≤ 1048576)  : Calls Tryz.prog 148 #[gP g] w fun e w' => ∃ y : {y : Int // True}, e = .returned (iI y.1) ∧ (cF B g A J cap).p w' ∧ Chgd (fun b => b = g) w w' := by
 have hq_code := Sl.capLe hl
 have hBw : B ≤ (aQ w B).heap.size := Nat.le_of_eq (bn hB).symm
 have hlo : ∀ (ww : World) (b : Nat),(cF B g A J cap).p ww → (cF B g A J cap).blk b → (aQ w B).heap.size ≤ b := fun ww b h hb => Nat.le_trans (ce w B) (cC h hb)
 refine cO (args := [gP g]) (fn := Tryz.f148) [cF B g A J cap,sQ A J cap,c9 w (fun b => b = g)] B Tryz.func148 rfl Tryz.ntmps148 rfl hB (by simp only [List.mem_cons,List.not_mem_nil,or_false,forall_eq_or_imp,forall_eq]; exact ⟨hc,hl,bJ w _⟩) (cu hap rfl) ?_
 refine kQ <| c8 [0] ⟨[(0,aP g)],[],[],[cF B g A J cap,sQ A J cap,c9 w (fun b => b = g)]⟩ <| kS <| kQ <| dp 1 [0,5] [(5,aP g)] 110 [gP g,iI 3] (some 6) 0 rfl rfl hlo (bO hBw hap) ?_
 rintro ⟨y1,hy1⟩
 refine aR [0,6] [] <| kC (y1) (fun h2 => ?_) (fun h2 => ?_)
 refine kQ <| kHS 1 [7] [(7,aP g)] rfl (bi (e := 3) (K := 1) (bytes := 8) [iI 0,iI 1,iI 4294967295,iI 2147483647,iI 2147483648,iI 4294967294] (rs := ([0,1,4294967295,2147483647,2147483648,4294967294] : List Int).map aq) rfl rfl) ?_
 intro g3
 refine dd (φ := ¬ (c7 (.slice (some ⟨g3,0,none⟩) 6 6) 1 (([0,1,4294967295,2147483647,2147483648,4294967294] : List Int).map aq)).blk g) (fun _ _ _ _ hr => fun hb => hr.2.apart 0 1 (ap (aQ w B).heap.size 3 1 (.slice (some ⟨g3,0,none⟩) 6 6) (([0,1,4294967295,2147483647,2147483648,4294967294] : List Int).map aq)) (cF B g A J cap) rfl rfl (by decide) rfl g (bK hb) rfl) (fun hk4 => ?_)
 refine dp 0 [7,8] [] 136 [gP g,.slice (some ⟨g3,0,none⟩) 6 6] (some 9) 1 rfl rfl hlo (bp hBw hap (fun ww hw hf => (aS (hf _ m0))) hk4 (by simp)) ?_
 rintro ⟨y5,hy5⟩
 refine aJ [2] [(2,aI y5)] <| kR ?_
 exact ⟨[iI y5],by kernel_rfl,fun w' hb hf => ⟨⟨y5,trivial⟩,rfl,hf (cF B g A J cap) (by simp),aY (hf (c9 w (fun b => b = g)) (by simp)) hb rfl rfl rfl⟩⟩
 refine kK <| kQ <| aR [0,3] [(3,aI 0)] <| kS <| kQ <| aR [0,3,4] [(4,aI 0)] ?_
 refine aZ <| cz (α := {x : Nat × Int // (fun (i : Nat) (x : Int) => i ≤ 4) x.1 x.2}) (fun x => (fun (i : Nat) (x : Int) => (⟨[(0,aP g),(3,aI x),(4,aI (i : Int))],[],[],[cF B g A J cap,sQ A J cap,c9 w (fun b => b = g)]⟩ : St)) x.1.1 x.1.2) (fun x => (fun (i : Nat) (x : Int) => 4 - i) x.1.1 x.1.2) ⟨(0,0),Nat.zero_le _⟩ (kF 0 0 [0,3,4]) ?_
 rintro ⟨⟨i,x⟩,hi⟩
 try dsimp only
 try dsimp only at hi
 refine kS <| kQ <| aR [0,3,4,11] [(11,aB (decide ((i : Int) < 4)))] <| kC (decide ((i : Int) < 4)) (fun h6 => ?_) (fun h6 => ?_)
 have h6p := of_decide_eq_true h6
 have hlt : i < 4 := by simp at h6; omega
 refine kK <| kS <| aZ <| kG <| dp 3 [0,3,4,15,16] [(15,aI (K6.wrap (256 * x))),(16,aP g)] 155 [gP g] (some 17) 0 rfl rfl hlo (f9 hBw hap) ?_
 rintro ⟨y7,hy7⟩
 refine aR [0,3,4] [(3,aI (K6.wrap ((K6.wrap (256 * x)) + y7)))] <| kG <| cA 3 [0,3,4] [(4,aI (K6.wrap ((i : Int) + 1)))] <| cJ [0,3,4] [(4,aI (K6.wrap ((i : Int) + 1)))] [(4,aI ((i : Int) + 1))] (by rw [show (K6.wrap ((i : Int) + 1)) = ((i : Int) + 1) from ab (by omega) (by omega)]) (by kernel_rfl) ?_
 refine aR [0,3,4] [] ?_
 exact ⟨⟨(i + 1,K6.wrap ((K6.wrap (256 * x)) + y7)),hlt⟩,kF 0 0 [0,3,4],by show (fun (i : Nat) (x : Int) => 4 - i) (i + 1) (K6.wrap ((K6.wrap (256 * x)) + y7)) < 4 - i; (dsimp only; omega)⟩
 have h6p := of_decide_eq_false h6
 refine cq <| kQ <| aJ [2] [(2,aI x)] <| kR ?_
 exact ⟨[iI x],by kernel_rfl,fun w' hb hf => ⟨⟨x,trivial⟩,rfl,hf (cF B g A J cap) (by simp),aY (hf (c9 w (fun b => b = g)) (by simp)) hb rfl rfl rfl⟩⟩
theorem cE {g : Nat} {J : List Int} {A : Option Addr} {cap : Nat}  {w0 : World} {fs : List Fact} {B : Nat} (hB : B ≤ w0.heap.size) (hap : ¬ (sQ A J cap).blk g)  (hn : J.length ≤ 1048576 := by omega) (h1 : cF B g A J cap ∈ fs := by simp) (h2 : sQ A J cap ∈ fs := by simp) : XCM Tryz.prog w0 fs (cF B g A J cap).blk 148 [gP g] (α := {y : Int // True}) (fun y => iI y.1) (fun _ => [cF B g A J cap]) := dq fun w hw hf => l2Deep_c g J A cap  w B (Nat.le_trans hB hw) (hf _ h1) (hf _ h2) hap hn  
theorem l4Place_c (g : Nat) (J : List Int) (A : Option Addr) (cap : Nat)  (w : World) (B : Nat) (hB : B ≤ w.heap.size) (hc : (cF B g A J cap).p w) (hl : Sl w (sJ A J cap) 1 (J.map bR)) (hap : ¬ (sQ A J cap).blk g) (hn : J.length ≤ 1048576)  : Calls Tryz.prog 159 #[gP g] w fun e w' => ∃ y : {y : Int // True}, e = .returned (iI y.1) ∧ (cF B g A J cap).p w' ∧ Chgd (fun b => b = g) w w' := by
 have hq_code := Sl.capLe hl
 have hBw : B ≤ (aQ w B).heap.size := Nat.le_of_eq (bn hB).symm
 have hlo : ∀ (ww : World) (b : Nat),(cF B g A J cap).p ww → (cF B g A J cap).blk b → (aQ w B).heap.size ≤ b := fun ww b h hb => Nat.le_trans (ce w B) (cC h hb)
 refine cO (args := [gP g]) (fn := Tryz.f159) [cF B g A J cap,sQ A J cap,c9 w (fun b => b = g)] B Tryz.func159 rfl Tryz.ntmps159 rfl hB (by simp only [List.mem_cons,List.not_mem_nil,or_false,forall_eq_or_imp,forall_eq]; exact ⟨hc,hl,bJ w _⟩) (cu hap rfl) ?_
 refine kQ <| c8 [0] ⟨[(0,aP g)],[],[],[cF B g A J cap,sQ A J cap,c9 w (fun b => b = g)]⟩ <| kS <| kQ <| dp 1 [0,3] [(3,aP g)] 110 [gP g,iI 12] (some 4) 0 rfl rfl hlo (bO hBw hap) ?_
 rintro ⟨y1,hy1⟩
 refine aR [0,4] [] <| kC (y1) (fun h2 => ?_) (fun h2 => ?_)
 refine kQ <| kWS 1 [5] [(5,aP g)] 160 [gP g] (some 6) 0 rfl rfl hlo (l1Whole_c_K hBw hap) ?_
 rintro ⟨y3,hy3⟩
 refine aJ [2] [(2,aI y3)] <| kR ?_
 exact ⟨[iI y3],by kernel_rfl,fun w' hb hf => ⟨⟨y3,trivial⟩,rfl,hf (cF B g A J cap) (by simp),aY (hf (c9 w (fun b => b = g)) (by simp)) hb rfl rfl rfl⟩⟩
 refine kK <| kQ <| kWS 1 [7] [(7,aP g)] 148 [gP g] (some 8) 0 rfl rfl hlo (cE hBw hap) ?_
 rintro ⟨y4,hy4⟩
 refine aJ [2] [(2,aI y4)] <| kR ?_
 exact ⟨[iI y4],by kernel_rfl,fun w' hb hf => ⟨⟨y4,trivial⟩,rfl,hf (cF B g A J cap) (by simp),aY (hf (c9 w (fun b => b = g)) (by simp)) hb rfl rfl rfl⟩⟩
theorem l4Place_c_K {g : Nat} {J : List Int} {A : Option Addr} {cap : Nat}  {w0 : World} {fs : List Fact} {B : Nat} (hB : B ≤ w0.heap.size) (hap : ¬ (sQ A J cap).blk g)  (hn : J.length ≤ 1048576 := by omega) (h1 : cF B g A J cap ∈ fs := by simp) (h2 : sQ A J cap ∈ fs := by simp) : XCM Tryz.prog w0 fs (cF B g A J cap).blk 159 [gP g] (α := {y : Int // True}) (fun y => iI y.1) (fun _ => [cF B g A J cap]) := dq fun w hw hf => l4Place_c g J A cap  w B (Nat.le_trans hB hw) (hf _ h1) (hf _ h2) hap hn  
theorem l6Ip_c (g : Nat) (J : List Int) (A : Option Addr) (cap : Nat)  (w : World) (B : Nat) (hB : B ≤ w.heap.size) (hc : (cF B g A J cap).p w) (hl : Sl w (sJ A J cap) 1 (J.map bR)) (hap : ¬ (sQ A J cap).blk g) (hn : J.length ≤ 1048576)  : Calls Tryz.prog 162 #[gP g] w fun e w' => ∃ y : {y : Int // True}, e = .returned (iI y.1) ∧ (cF B g A J cap).p w' ∧ Chgd (fun b => b = g) w w' := by
 have hq_code := Sl.capLe hl
 have hBw : B ≤ (aQ w B).heap.size := Nat.le_of_eq (bn hB).symm
 have hlo : ∀ (ww : World) (b : Nat),(cF B g A J cap).p ww → (cF B g A J cap).blk b → (aQ w B).heap.size ≤ b := fun ww b h hb => Nat.le_trans (ce w B) (cC h hb)
 refine cO (args := [gP g]) (fn := Tryz.f162) [cF B g A J cap,sQ A J cap,c9 w (fun b => b = g)] B Tryz.func162 rfl Tryz.ntmps162 rfl hB (by simp only [List.mem_cons,List.not_mem_nil,or_false,forall_eq_or_imp,forall_eq]; exact ⟨hc,hl,bJ w _⟩) (cu hap rfl) ?_
 refine kQ <| c8 [0] ⟨[(0,aP g)],[],[],[cF B g A J cap,sQ A J cap,c9 w (fun b => b = g)]⟩ <| kQ <| kHS 1 [3] [(3,aP g)] rfl (bi (e := 3) (K := 1) (bytes := 8) [iI 167772161,iI 167772162,iI 167772163,iI 0,iI 4294967295] (rs := ([167772161,167772162,167772163,0,4294967295] : List Int).map aq) rfl rfl) ?_
 intro g1
 refine dd (φ := ¬ (c7 (.slice (some ⟨g1,0,none⟩) 5 5) 1 (([167772161,167772162,167772163,0,4294967295] : List Int).map aq)).blk g) (fun _ _ _ _ hr => fun hb => hr.2.apart 0 1 (ap (aQ w B).heap.size 3 1 (.slice (some ⟨g1,0,none⟩) 5 5) (([167772161,167772162,167772163,0,4294967295] : List Int).map aq)) (cF B g A J cap) rfl rfl (by decide) rfl g (bK hb) rfl) (fun hk2 => ?_)
 refine dp 0 [3,4] [] 136 [gP g,.slice (some ⟨g1,0,none⟩) 5 5] (some 5) 1 rfl rfl hlo (bp hBw hap (fun ww hw hf => (aS (hf _ m0))) hk2 (by simp)) ?_
 rintro ⟨y3,hy3⟩
 refine aJ [2] [(2,aI y3)] <| kR ?_
 exact ⟨[iI y3],by kernel_rfl,fun w' hb hf => ⟨⟨y3,trivial⟩,rfl,hf (cF B g A J cap) (by simp),aY (hf (c9 w (fun b => b = g)) (by simp)) hb rfl rfl rfl⟩⟩
theorem l6Ip_c_K {g : Nat} {J : List Int} {A : Option Addr} {cap : Nat}  {w0 : World} {fs : List Fact} {B : Nat} (hB : B ≤ w0.heap.size) (hap : ¬ (sQ A J cap).blk g)  (hn : J.length ≤ 1048576 := by omega) (h1 : cF B g A J cap ∈ fs := by simp) (h2 : sQ A J cap ∈ fs := by simp) : XCM Tryz.prog w0 fs (cF B g A J cap).blk 162 [gP g] (α := {y : Int // True}) (fun y => iI y.1) (fun _ => [cF B g A J cap]) := dq fun w hw hf => l6Ip_c g J A cap  w B (Nat.le_trans hB hw) (hf _ h1) (hf _ h2) hap hn  
theorem l8Options_c (g : Nat) (J : List Int) (A : Option Addr) (cap : Nat)  (w : World) (B : Nat) (hB : B ≤ w.heap.size) (hc : (cF B g A J cap).p w) (hl : Sl w (sJ A J cap) 1 (J.map bR)) (hap : ¬ (sQ A J cap).blk g) (hn : J.length ≤ 1048576)  : Calls Tryz.prog 149 #[gP g] w fun e w' => ∃ y : {y : Opt // True}, e = .returned (.agg (df y.1).toArray) ∧ (cF B g A J cap).p w' ∧ Chgd (fun b => b = g) w w' := by
 have hq_code := Sl.capLe hl
 have hBw : B ≤ (aQ w B).heap.size := Nat.le_of_eq (bn hB).symm
 have hlo : ∀ (ww : World) (b : Nat),(cF B g A J cap).p ww → (cF B g A J cap).blk b → (aQ w B).heap.size ≤ b := fun ww b h hb => Nat.le_trans (ce w B) (cC h hb)
 refine cO (args := [gP g]) (fn := Tryz.f149) [cF B g A J cap,sQ A J cap,c9 w (fun b => b = g)] B Tryz.func149 rfl Tryz.ntmps149 rfl hB (by simp only [List.mem_cons,List.not_mem_nil,or_false,forall_eq_or_imp,forall_eq]; exact ⟨hc,hl,bJ w _⟩) (cu hap rfl) ?_
 refine kQ <| c8 [0,2] ⟨[(0,aP g),(2,.p 0 0)],[⟨42,[iI 0,iI 0,.bool false,.bool false,iI 0,iI 0]⟩],[],[cF B g A J cap,sQ A J cap,c9 w (fun b => b = g)]⟩ <| kQ <| dy 0 [0,2] [] 88 [] (some 4) rfl (aA fun ww hf => fc  ww ) ?_
 intro _
 refine i5 [0,2,3] [(3,.p 1 0)] [⟨42,[iI 0,iI (-1),.bool false,.bool false,iI 0,iI 0]⟩] <| kS <| kQ <| dp 1 [0,2,3,5] [(5,aP g)] 110 [gP g,iI 3] (some 6) 0 rfl rfl hlo (bO hBw hap) ?_
 rintro ⟨y1,hy1⟩
 refine aR [0,2,3,7] [(7,aB (!y1))] <| kC (!y1) (fun h2 => ?_) (fun h2 => ?_)
 have h2n := bg h2
 refine kG <| kHD 1 [0,2,3,8] [(8,aP g)] rfl (bi (e := 3) (K := 1) (bytes := 8) [iI 536,iI 1460,iI 1300,iI 64,iI 65535,iI 1] (rs := ([536,1460,1300,64,65535,1] : List Int).map aq) rfl rfl) ?_
 intro g3
 refine dd (φ := ¬ (c7 (.slice (some ⟨g3,0,none⟩) 6 6) 1 (([536,1460,1300,64,65535,1] : List Int).map aq)).blk g) (fun _ _ _ _ hr => fun hb => hr.2.apart 0 1 (ap (aQ w B).heap.size 3 1 (.slice (some ⟨g3,0,none⟩) 6 6) (([536,1460,1300,64,65535,1] : List Int).map aq)) (cF B g A J cap) rfl rfl (by decide) rfl g (bK hb) rfl) (fun hk4 => ?_)
 refine dp 0 [0,2,3,8,9] [] 136 [gP g,.slice (some ⟨g3,0,none⟩) 6 6] (some 10) 1 rfl rfl hlo (bp hBw hap (fun ww hw hf => (aS (hf _ m0))) hk4 (by simp)) ?_
 rintro ⟨y5,hy5⟩
 refine bf [0,2,3] [] 1 ⟨42,[iI y5,iI (-1),.bool false,.bool false,iI 0,iI 0]⟩ <| kS <| kQ <| dp 1 [0,2,3,12] [(12,aP g)] 110 [gP g,iI 2] (some 13) 0 rfl rfl hlo (bO hBw hap) ?_
 rintro ⟨y6,hy6⟩
 refine aR [0,2,3,13] [] <| kC (y6) (fun h7 => ?_) (fun h7 => ?_)
 refine kG <| dp 1 [0,2,3,14] [(14,aP g)] 133 [gP g,iI 15] (some 15) 0 rfl rfl hlo (ag hBw hap) ?_
 rintro ⟨y8,hy8⟩
 obtain ⟨hy80,hy81⟩ := hy8
 refine c8 [0,2,3] ⟨[(0,aP g),(2,.p 0 0),(3,.p 1 0)],[⟨42,[iI 0,iI 0,.bool false,.bool false,iI 0,iI 0]⟩,⟨42,[iI y5,iI y8,.bool false,.bool false,iI 0,iI 0]⟩],[],[cF B g A J cap,ap (aQ w B).heap.size 3 1 (.slice (some ⟨g3,0,none⟩) 6 6) (([536,1460,1300,64,65535,1] : List Int).map aq),sQ A J cap,c9 w (fun b => b = g)]⟩ <| kQ <| dp 1 [0,2,3,17] [(17,aP g)] 110 [gP g,iI 2] (some 18) 0 rfl rfl hlo (bO hBw hap) ?_
 rintro ⟨y9,hy9⟩
 refine bf [0,2,3] [] 1 ⟨42,[iI y5,iI y8,.bool y9,.bool false,iI 0,iI 0]⟩ <| kS <| kQ <| dp 1 [0,2,3,20] [(20,aP g)] 110 [gP g,iI 2] (some 21) 0 rfl rfl hlo (bO hBw hap) ?_
 rintro ⟨y10,hy10⟩
 refine aR [0,2,3,21] [] <| kC (y10) (fun h11 => ?_) (fun h11 => ?_)
 refine kQ <| bf [0,2,3] [] 1 ⟨42,[iI y5,iI y8,.bool y9,.bool true,iI 0,iI 0]⟩ <| kQ <| dp 1 [0,2,3,23] [(23,aP g)] 148 [gP g] (some 24) 0 rfl rfl hlo (cE hBw hap) ?_
 rintro ⟨y12,hy12⟩
 refine bf [0,2,3] [] 1 ⟨42,[iI y5,iI y8,.bool y9,.bool true,iI y12,iI 0]⟩ <| kG <| dp 1 [2,3,26] [(26,aP g)] 148 [gP g] (some 27) 0 rfl rfl hlo (cE hBw hap) ?_
 rintro ⟨y13,hy13⟩
 refine bf [2,3] [] 1 ⟨42,[iI y5,iI y8,.bool y9,.bool true,iI y12,iI y13]⟩ <| kQ <| bf [2] [(2,.p 0 0)] 0 ⟨42,[iI y5,iI y8,.bool y9,.bool true,iI y12,iI y13]⟩ <| kR ?_
 exact ⟨[.agg #[iI y5,iI y8,.bool y9,.bool true,iI y12,iI y13]],by kernel_rfl,fun w' hb hf => ⟨⟨⟨y5,y8,y9,true,y12,y13⟩,trivial⟩,rfl,hf (cF B g A J cap) (by simp),aY (hf (c9 w (fun b => b = g)) (by simp)) hb rfl rfl rfl⟩⟩
 refine kK <| kQ <| bf [2] [(2,.p 0 0)] 0 ⟨42,[iI y5,iI y8,.bool y9,.bool false,iI 0,iI 0]⟩ <| kR ?_
 exact ⟨[.agg #[iI y5,iI y8,.bool y9,.bool false,iI 0,iI 0]],by kernel_rfl,fun w' hb hf => ⟨⟨⟨y5,y8,y9,false,0,0⟩,trivial⟩,rfl,hf (cF B g A J cap) (by simp),aY (hf (c9 w (fun b => b = g)) (by simp)) hb rfl rfl rfl⟩⟩
 refine kK <| kQ <| dp 1 [0,2,3,17] [(17,aP g)] 110 [gP g,iI 2] (some 18) 0 rfl rfl hlo (bO hBw hap) ?_
 rintro ⟨y14,hy14⟩
 refine c8 [0,2,3] ⟨[(0,aP g),(2,.p 0 0),(3,.p 1 0)],[⟨42,[iI 0,iI 0,.bool false,.bool false,iI 0,iI 0]⟩,⟨42,[iI y5,iI (-1),.bool y14,.bool false,iI 0,iI 0]⟩],[],[cF B g A J cap,ap (aQ w B).heap.size 3 1 (.slice (some ⟨g3,0,none⟩) 6 6) (([536,1460,1300,64,65535,1] : List Int).map aq),sQ A J cap,c9 w (fun b => b = g)]⟩ <| kS <| kQ <| dp 1 [0,2,3,20] [(20,aP g)] 110 [gP g,iI 2] (some 21) 0 rfl rfl hlo (bO hBw hap) ?_
 rintro ⟨y15,hy15⟩
 refine aR [0,2,3,21] [] <| kC (y15) (fun h16 => ?_) (fun h16 => ?_)
 refine kQ <| bf [0,2,3] [] 1 ⟨42,[iI y5,iI (-1),.bool y14,.bool true,iI 0,iI 0]⟩ <| kQ <| dp 1 [0,2,3,23] [(23,aP g)] 148 [gP g] (some 24) 0 rfl rfl hlo (cE hBw hap) ?_
 rintro ⟨y17,hy17⟩
 refine bf [0,2,3] [] 1 ⟨42,[iI y5,iI (-1),.bool y14,.bool true,iI y17,iI 0]⟩ <| kG <| dp 1 [2,3,26] [(26,aP g)] 148 [gP g] (some 27) 0 rfl rfl hlo (cE hBw hap) ?_
 rintro ⟨y18,hy18⟩
 refine bf [2,3] [] 1 ⟨42,[iI y5,iI (-1),.bool y14,.bool true,iI y17,iI y18]⟩ <| kQ <| bf [2] [(2,.p 0 0)] 0 ⟨42,[iI y5,iI (-1),.bool y14,.bool true,iI y17,iI y18]⟩ <| kR ?_
 exact ⟨[.agg #[iI y5,iI (-1),.bool y14,.bool true,iI y17,iI y18]],by kernel_rfl,fun w' hb hf => ⟨⟨⟨y5,(-1),y14,true,y17,y18⟩,trivial⟩,rfl,hf (cF B g A J cap) (by simp),aY (hf (c9 w (fun b => b = g)) (by simp)) hb rfl rfl rfl⟩⟩
 refine kK <| kQ <| bf [2] [(2,.p 0 0)] 0 ⟨42,[iI y5,iI (-1),.bool y14,.bool false,iI 0,iI 0]⟩ <| kR ?_
 exact ⟨[.agg #[iI y5,iI (-1),.bool y14,.bool false,iI 0,iI 0]],by kernel_rfl,fun w' hb hf => ⟨⟨⟨y5,(-1),y14,false,0,0⟩,trivial⟩,rfl,hf (cF B g A J cap) (by simp),aY (hf (c9 w (fun b => b = g)) (by simp)) hb rfl rfl rfl⟩⟩
 have h2n := aD h2
 refine kK <| kS <| kQ <| dp 1 [0,2,3,12] [(12,aP g)] 110 [gP g,iI 2] (some 13) 0 rfl rfl hlo (bO hBw hap) ?_
 rintro ⟨y19,hy19⟩
 refine aR [0,2,3,13] [] <| kC (y19) (fun h20 => ?_) (fun h20 => ?_)
 refine kG <| dp 1 [0,2,3,14] [(14,aP g)] 133 [gP g,iI 15] (some 15) 0 rfl rfl hlo (ag hBw hap) ?_
 rintro ⟨y21,hy21⟩
 obtain ⟨hy210,hy211⟩ := hy21
 refine bf [0,2,3] [] 1 ⟨42,[iI 0,iI y21,.bool false,.bool false,iI 0,iI 0]⟩ <| kQ <| dp 1 [0,2,3,17] [(17,aP g)] 110 [gP g,iI 2] (some 18) 0 rfl rfl hlo (bO hBw hap) ?_
 rintro ⟨y22,hy22⟩
 refine bf [0,2,3] [] 1 ⟨42,[iI 0,iI y21,.bool y22,.bool false,iI 0,iI 0]⟩ <| kS <| kQ <| kWS 1 [0,2,3,20] [(0,aP g),(2,.p 0 0),(3,.p 1 0),(20,aP g)] 110 [gP g,iI 2] (some 21) 0 rfl rfl hlo (bO hBw hap) ?_
 rintro ⟨y23,hy23⟩
 refine aR [0,2,3,21] [] <| kC (y23) (fun h24 => ?_) (fun h24 => ?_)
 refine kQ <| bf [0,2,3] [] 1 ⟨42,[iI 0,iI y21,.bool y22,.bool true,iI 0,iI 0]⟩ <| kQ <| dp 1 [0,2,3,23] [(23,aP g)] 148 [gP g] (some 24) 0 rfl rfl hlo (cE hBw hap) ?_
 rintro ⟨y25,hy25⟩
 refine bf [0,2,3] [] 1 ⟨42,[iI 0,iI y21,.bool y22,.bool true,iI y25,iI 0]⟩ <| kG <| dp 1 [2,3,26] [(26,aP g)] 148 [gP g] (some 27) 0 rfl rfl hlo (cE hBw hap) ?_
 rintro ⟨y26,hy26⟩
 refine bf [2,3] [] 1 ⟨42,[iI 0,iI y21,.bool y22,.bool true,iI y25,iI y26]⟩ <| kQ <| bf [2] [(2,.p 0 0)] 0 ⟨42,[iI 0,iI y21,.bool y22,.bool true,iI y25,iI y26]⟩ <| kR ?_
 exact ⟨[.agg #[iI 0,iI y21,.bool y22,.bool true,iI y25,iI y26]],by kernel_rfl,fun w' hb hf => ⟨⟨⟨0,y21,y22,true,y25,y26⟩,trivial⟩,rfl,hf (cF B g A J cap) (by simp),aY (hf (c9 w (fun b => b = g)) (by simp)) hb rfl rfl rfl⟩⟩
 refine kK <| kQ <| bf [2] [(2,.p 0 0)] 0 ⟨42,[iI 0,iI y21,.bool y22,.bool false,iI 0,iI 0]⟩ <| kR ?_
 exact ⟨[.agg #[iI 0,iI y21,.bool y22,.bool false,iI 0,iI 0]],by kernel_rfl,fun w' hb hf => ⟨⟨⟨0,y21,y22,false,0,0⟩,trivial⟩,rfl,hf (cF B g A J cap) (by simp),aY (hf (c9 w (fun b => b = g)) (by simp)) hb rfl rfl rfl⟩⟩
 refine kK <| kQ <| dp 1 [0,2,3,17] [(17,aP g)] 110 [gP g,iI 2] (some 18) 0 rfl rfl hlo (bO hBw hap) ?_
 rintro ⟨y27,hy27⟩
 refine bf [0,2,3] [] 1 ⟨42,[iI 0,iI (-1),.bool y27,.bool false,iI 0,iI 0]⟩ <| kS <| kQ <| dp 1 [0,2,3,20] [(20,aP g)] 110 [gP g,iI 2] (some 21) 0 rfl rfl hlo (bO hBw hap) ?_
 rintro ⟨y28,hy28⟩
 refine aR [0,2,3,21] [] <| kC (y28) (fun h29 => ?_) (fun h29 => ?_)
 refine kQ <| c8 [0,2,3] ⟨[(0,aP g),(2,.p 0 0),(3,.p 1 0)],[⟨42,[iI 0,iI 0,.bool false,.bool false,iI 0,iI 0]⟩,⟨42,[iI 0,iI (-1),.bool y27,.bool true,iI 0,iI 0]⟩],[],[cF B g A J cap,sQ A J cap,c9 w (fun b => b = g)]⟩ <| kQ <| dp 1 [0,2,3,23] [(23,aP g)] 148 [gP g] (some 24) 0 rfl rfl hlo (cE hBw hap) ?_
 rintro ⟨y30,hy30⟩
 refine bf [0,2,3] [] 1 ⟨42,[iI 0,iI (-1),.bool y27,.bool true,iI y30,iI 0]⟩ <| kG <| dp 1 [2,3,26] [(26,aP g)] 148 [gP g] (some 27) 0 rfl rfl hlo (cE hBw hap) ?_
 rintro ⟨y31,hy31⟩
 refine bf [2,3] [] 1 ⟨42,[iI 0,iI (-1),.bool y27,.bool true,iI y30,iI y31]⟩ <| kQ <| bf [2] [(2,.p 0 0)] 0 ⟨42,[iI 0,iI (-1),.bool y27,.bool true,iI y30,iI y31]⟩ <| kR ?_
 exact ⟨[.agg #[iI 0,iI (-1),.bool y27,.bool true,iI y30,iI y31]],by kernel_rfl,fun w' hb hf => ⟨⟨⟨0,(-1),y27,true,y30,y31⟩,trivial⟩,rfl,hf (cF B g A J cap) (by simp),aY (hf (c9 w (fun b => b = g)) (by simp)) hb rfl rfl rfl⟩⟩
 refine kK <| kQ <| c8 [2] ⟨[(2,.p 0 0)],[⟨42,[iI 0,iI (-1),.bool y27,.bool false,iI 0,iI 0]⟩,⟨42,[iI 0,iI (-1),.bool y27,.bool false,iI 0,iI 0]⟩],[],[cF B g A J cap,sQ A J cap,c9 w (fun b => b = g)]⟩ <| kR ?_
 exact ⟨[.agg #[iI 0,iI (-1),.bool y27,.bool false,iI 0,iI 0]],by kernel_rfl,fun w' hb hf => ⟨⟨⟨0,(-1),y27,false,0,0⟩,trivial⟩,rfl,hf (cF B g A J cap) (by simp),aY (hf (c9 w (fun b => b = g)) (by simp)) hb rfl rfl rfl⟩⟩
theorem hO {g : Nat} {J : List Int} {A : Option Addr} {cap : Nat}  {w0 : World} {fs : List Fact} {B : Nat} (hB : B ≤ w0.heap.size) (hap : ¬ (sQ A J cap).blk g)  (hn : J.length ≤ 1048576 := by omega) (h1 : cF B g A J cap ∈ fs := by simp) (h2 : sQ A J cap ∈ fs := by simp) : XCM Tryz.prog w0 fs (cF B g A J cap).blk 149 [gP g] (α := {y : Opt // True}) (fun y => .agg (df y.1).toArray) (fun _ => [cF B g A J cap]) := dq fun w hw hf => l8Options_c g J A cap  w B (Nat.le_trans hB hw) (hf _ h1) (hf _ h2) hap hn  
theorem l8Bent_c (g : Nat) (J : List Int) (A : Option Addr) (cap : Nat)  (w : World) (B : Nat) (hB : B ≤ w.heap.size) (hc : (cF B g A J cap).p w) (hl : Sl w (sJ A J cap) 1 (J.map bR)) (hap : ¬ (sQ A J cap).blk g) (hn : J.length ≤ 1048576)  : Calls Tryz.prog 137 #[gP g] w fun e w' => ∃ y : {y : Opt // True}, e = .returned (.agg (df y.1).toArray) ∧ (cF B g A J cap).p w' ∧ Chgd (fun b => b = g) w w' := by
 have hq_code := Sl.capLe hl
 have hBw : B ≤ (aQ w B).heap.size := Nat.le_of_eq (bn hB).symm
 have hlo : ∀ (ww : World) (b : Nat),(cF B g A J cap).p ww → (cF B g A J cap).blk b → (aQ w B).heap.size ≤ b := fun ww b h hb => Nat.le_trans (ce w B) (cC h hb)
 refine cO (args := [gP g]) (fn := Tryz.f137) [cF B g A J cap,sQ A J cap,c9 w (fun b => b = g)] B Tryz.func137 rfl Tryz.ntmps137 rfl hB (by simp only [List.mem_cons,List.not_mem_nil,or_false,forall_eq_or_imp,forall_eq]; exact ⟨hc,hl,bJ w _⟩) (cu hap rfl) ?_
 refine kQ <| c8 [0,2] ⟨[(0,aP g),(2,.p 0 0)],[⟨42,[iI 0,iI 0,.bool false,.bool false,iI 0,iI 0]⟩],[],[cF B g A J cap,sQ A J cap,c9 w (fun b => b = g)]⟩ <| kQ <| dp 1 [0,2,4] [(4,aP g)] 149 [gP g] (some 5) 0 rfl rfl hlo (hO hBw hap) ?_
 rintro ⟨y1,hy1⟩
 refine i5 [0,2,3] [(3,.p 1 0)] [⟨42,df y1⟩] <| kS <| kQ <| dp 1 [0,2,3,6] [(6,aP g)] 133 [gP g,iI 10] (some 7) 0 rfl rfl hlo (ag hBw hap) ?_
 rintro ⟨y2,hy2⟩
 obtain ⟨hy20,hy21⟩ := hy2
 refine aR [0,2,3,7] [] <| aZ <| kQ <| aR [0,2,3,7,8] [(8,aB (y2 == 0))] ?_
 refine kC (y2 == 0) (fun h3 => ?_) (fun h3 => ?_)
 have h3p := bC h3
 refine kG <| dp 1 [2,3,10] [(10,aP g)] 143 [gP g] (some 11) 0 rfl rfl hlo (dK hBw hap) ?_
 rintro ⟨y4,hy4⟩
 refine bf [2,3] [] 1 ⟨42,df { y1 with mss := y4 }⟩ <| kQ <| bf [2] [(2,.p 0 0)] 0 ⟨42,df { y1 with mss := y4 }⟩ <| kR ?_
 exact ⟨[.agg (df { y1 with mss := y4 }).toArray],by kernel_rfl,fun w' hb hf => ⟨⟨{ y1 with mss := y4 },trivial⟩,rfl,hf (cF B g A J cap) (by simp),aY (hf (c9 w (fun b => b = g)) (by simp)) hb rfl rfl rfl⟩⟩
 have h3p := bA h3
 refine kQ <| aR [0,2,3,7,13] [(13,aB (y2 == 1))] <| kC (y2 == 1) (fun h5 => ?_) (fun h5 => ?_)
 have h5p := bC h5
 refine kG <| kHD 1 [2,3,15] [(15,aP g)] rfl (bi (e := 3) (K := 1) (bytes := 8) [iI (-2),iI (-1),iI 14,iI 15] (rs := ([(-2),(-1),14,15] : List Int).map aq) rfl rfl) ?_
 intro g6
 refine dd (φ := ¬ (c7 (.slice (some ⟨g6,0,none⟩) 4 4) 1 (([(-2),(-1),14,15] : List Int).map aq)).blk g) (fun _ _ _ _ hr => fun hb => hr.2.apart 0 1 (ap (aQ w B).heap.size 3 1 (.slice (some ⟨g6,0,none⟩) 4 4) (([(-2),(-1),14,15] : List Int).map aq)) (cF B g A J cap) rfl rfl (by decide) rfl g (bK hb) rfl) (fun hk7 => ?_)
 refine dp 0 [2,3,15,16] [] 136 [gP g,.slice (some ⟨g6,0,none⟩) 4 4] (some 17) 1 rfl rfl hlo (bp hBw hap (fun ww hw hf => (aS (hf _ m0))) hk7 (by simp)) ?_
 rintro ⟨y8,hy8⟩
 refine bf [2,3] [] 1 ⟨42,df { y1 with scale := y8 }⟩ <| kQ <| bf [2] [(2,.p 0 0)] 0 ⟨42,df { y1 with scale := y8 }⟩ <| kR ?_
 exact ⟨[.agg (df { y1 with scale := y8 }).toArray],by kernel_rfl,fun w' hb hf => ⟨⟨{ y1 with scale := y8 },trivial⟩,rfl,hf (cF B g A J cap) (by simp),aY (hf (c9 w (fun b => b = g)) (by simp)) hb rfl rfl rfl⟩⟩
 have h5p := bA h5
 refine kQ <| aR [0,2,3,7,19] [(19,aB (y2 == 2))] <| kC (y2 == 2) (fun h9 => ?_) (fun h9 => ?_)
 have h9p := bC h9
 refine kG <| bf [2,3] [] 1 ⟨42,df { y1 with stamp := !y1.stamp }⟩ <| kQ <| bf [2] [(2,.p 0 0)] 0 ⟨42,df { y1 with stamp := !y1.stamp }⟩ ?_
 refine kR ?_
 exact ⟨[.agg (df { y1 with stamp := !y1.stamp }).toArray],by kernel_rfl,fun w' hb hf => ⟨⟨{ y1 with stamp := !y1.stamp },trivial⟩,rfl,hf (cF B g A J cap) (by simp),aY (hf (c9 w (fun b => b = g)) (by simp)) hb rfl rfl rfl⟩⟩
 have h9p := bA h9
 refine kQ <| aR [0,2,3,25] [(25,aB (y2 == 3))] <| kC (y2 == 3) (fun h10 => ?_) (fun h10 => ?_)
 have h10p := bC h10
 refine kG <| dp 1 [2,3,27] [(27,aP g)] 143 [gP g] (some 28) 0 rfl rfl hlo (dK hBw hap) ?_
 rintro ⟨y11,hy11⟩
 refine bf [2,3] [] 1 ⟨42,df { y1 with val := y11 }⟩ <| kQ <| c8 [2] ⟨[(2,.p 0 0)],[⟨42,df { y1 with val := y11 }⟩,⟨42,df { y1 with val := y11 }⟩],[],[cF B g A J cap,sQ A J cap,c9 w (fun b => b = g)]⟩ <| kR ?_
 exact ⟨[.agg (df { y1 with val := y11 }).toArray],by kernel_rfl,fun w' hb hf => ⟨⟨{ y1 with val := y11 },trivial⟩,rfl,hf (cF B g A J cap) (by simp),aY (hf (c9 w (fun b => b = g)) (by simp)) hb rfl rfl rfl⟩⟩
 have h10p := bA h10
 refine kK <| kQ <| bf [2] [(2,.p 0 0)] 0 ⟨42,df y1⟩ <| kR ?_
 exact ⟨[.agg (df y1).toArray],by kernel_rfl,fun w' hb hf => ⟨⟨y1,trivial⟩,rfl,hf (cF B g A J cap) (by simp),aY (hf (c9 w (fun b => b = g)) (by simp)) hb rfl rfl rfl⟩⟩
theorem l8Bent_c_K {g : Nat} {J : List Int} {A : Option Addr} {cap : Nat}  {w0 : World} {fs : List Fact} {B : Nat} (hB : B ≤ w0.heap.size) (hap : ¬ (sQ A J cap).blk g)  (hn : J.length ≤ 1048576 := by omega) (h1 : cF B g A J cap ∈ fs := by simp) (h2 : sQ A J cap ∈ fs := by simp) : XCM Tryz.prog w0 fs (cF B g A J cap).blk 137 [gP g] (α := {y : Opt // True}) (fun y => .agg (df y.1).toArray) (fun _ => [cF B g A J cap]) := dq fun w hw hf => l8Bent_c g J A cap  w B (Nat.le_trans hB hw) (hf _ h1) (hf _ h2) hap hn  
theorem l12Tuple_c (g : Nat) (J : List Int) (A : Option Addr) (cap : Nat)  (w : World) (B : Nat) (hB : B ≤ w.heap.size) (hc : (cF B g A J cap).p w) (hl : Sl w (sJ A J cap) 1 (J.map bR)) (hap : ¬ (sQ A J cap).blk g) (hn : J.length ≤ 1048576)  : Calls Tryz.prog 147 #[gP g] w fun e w' => ∃ y : {y : Tup // True}, e = .returned (.agg (dI y.1).toArray) ∧ (cF B g A J cap).p w' ∧ Chgd (fun b => b = g) w w' := by
 have hq_code := Sl.capLe hl
 have hBw : B ≤ (aQ w B).heap.size := Nat.le_of_eq (bn hB).symm
 have hlo : ∀ (ww : World) (b : Nat),(cF B g A J cap).p ww → (cF B g A J cap).blk b → (aQ w B).heap.size ≤ b := fun ww b h hb => Nat.le_trans (ce w B) (cC h hb)
 refine cO (args := [gP g]) (fn := Tryz.f147) [cF B g A J cap,sQ A J cap,c9 w (fun b => b = g)] B Tryz.func147 rfl Tryz.ntmps147 rfl hB (by simp only [List.mem_cons,List.not_mem_nil,or_false,forall_eq_or_imp,forall_eq]; exact ⟨hc,hl,bJ w _⟩) (cu hap rfl) ?_
 refine kQ <| c8 [0,2] ⟨[(0,aP g),(2,.p 0 0)],[⟨37,dI (⟨0,0,0⟩ : Tup)⟩],[],[cF B g A J cap,sQ A J cap,c9 w (fun b => b = g)]⟩ <| kQ <| dp 1 [0,2,3] [(3,aP g)] 162 [gP g] (some 4) 0 rfl rfl hlo (l6Ip_c_K hBw hap) ?_
 rintro ⟨y1,hy1⟩
 refine kHD 1 [2,4,5] [(5,aP g)] rfl (bi (e := 3) (K := 1) (bytes := 8) [iI 40000,iI 40001,iI 40002] (rs := ([40000,40001,40002] : List Int).map aq) rfl rfl) ?_
 intro g2
 refine dd (φ := ¬ (c7 (.slice (some ⟨g2,0,none⟩) 3 3) 1 (([40000,40001,40002] : List Int).map aq)).blk g) (fun _ _ _ _ hr => fun hb => hr.2.apart 0 1 (ap (aQ w B).heap.size 3 1 (.slice (some ⟨g2,0,none⟩) 3 3) (([40000,40001,40002] : List Int).map aq)) (cF B g A J cap) rfl rfl (by decide) rfl g (bK hb) rfl) (fun hk3 => ?_)
 refine dp 0 [2,4,5,6] [] 136 [gP g,.slice (some ⟨g2,0,none⟩) 3 3] (some 7) 1 rfl rfl hlo (bp hBw hap (fun ww hw hf => (aS (hf _ m0))) hk3 (by simp)) ?_
 rintro ⟨y4,hy4⟩
 refine fh 0 [2,4,7] [] (.agg (dI (⟨y1,y4,80⟩ : Tup)).toArray) rfl (fun _ _ _ ww hr => aN [(0,iI y1),(1,iI y4),(2,iI 80)] hr.1 rfl (by kernel_rfl) (by kernel_rfl) ww) ?_
 refine bf [2] [(2,.p 0 0)] 0 ⟨37,dI (⟨y1,y4,80⟩ : Tup)⟩ <| kR ?_
 exact ⟨[.agg (dI (⟨y1,y4,80⟩ : Tup)).toArray],by kernel_rfl,fun w' hb hf => ⟨⟨⟨y1,y4,80⟩,trivial⟩,rfl,hf (cF B g A J cap) (by simp),aY (hf (c9 w (fun b => b = g)) (by simp)) hb rfl rfl rfl⟩⟩
theorem l12Tuple_c_K {g : Nat} {J : List Int} {A : Option Addr} {cap : Nat}  {w0 : World} {fs : List Fact} {B : Nat} (hB : B ≤ w0.heap.size) (hap : ¬ (sQ A J cap).blk g)  (hn : J.length ≤ 1048576 := by omega) (h1 : cF B g A J cap ∈ fs := by simp) (h2 : sQ A J cap ∈ fs := by simp) : XCM Tryz.prog w0 fs (cF B g A J cap).blk 147 [gP g] (α := {y : Tup // True}) (fun y => .agg (dI y.1).toArray) (fun _ => [cF B g A J cap]) := dq fun w hw hf => l12Tuple_c g J A cap  w B (Nat.le_trans hB hw) (hf _ h1) (hf _ h2) hap hn  
theorem l12Bent_c (g : Nat) (J : List Int) (A : Option Addr) (cap : Nat)  (w : World) (B : Nat) (hB : B ≤ w.heap.size) (hc : (cF B g A J cap).p w) (hl : Sl w (sJ A J cap) 1 (J.map bR)) (hap : ¬ (sQ A J cap).blk g) (hn : J.length ≤ 1048576)  : Calls Tryz.prog 138 #[gP g] w fun e w' => ∃ y : {y : Tup // True}, e = .returned (.agg (dI y.1).toArray) ∧ (cF B g A J cap).p w' ∧ Chgd (fun b => b = g) w w' := by
 have hq_code := Sl.capLe hl
 have hBw : B ≤ (aQ w B).heap.size := Nat.le_of_eq (bn hB).symm
 have hlo : ∀ (ww : World) (b : Nat),(cF B g A J cap).p ww → (cF B g A J cap).blk b → (aQ w B).heap.size ≤ b := fun ww b h hb => Nat.le_trans (ce w B) (cC h hb)
 refine cO (args := [gP g]) (fn := Tryz.f138) [cF B g A J cap,sQ A J cap,c9 w (fun b => b = g)] B Tryz.func138 rfl Tryz.ntmps138 rfl hB (by simp only [List.mem_cons,List.not_mem_nil,or_false,forall_eq_or_imp,forall_eq]; exact ⟨hc,hl,bJ w _⟩) (cu hap rfl) ?_
 refine kQ <| c8 [0,2] ⟨[(0,aP g),(2,.p 0 0)],[⟨37,dI (⟨0,0,0⟩ : Tup)⟩],[],[cF B g A J cap,sQ A J cap,c9 w (fun b => b = g)]⟩ <| kQ <| dp 1 [0,2,4] [(4,aP g)] 147 [gP g] (some 5) 0 rfl rfl hlo (l12Tuple_c_K hBw hap) ?_
 rintro ⟨y1,hy1⟩
 refine i5 [0,2,3] [(3,.p 1 0)] [⟨37,dI y1⟩] <| kS <| kQ <| dp 1 [0,2,3,6] [(6,aP g)] 133 [gP g,iI 10] (some 7) 0 rfl rfl hlo (ag hBw hap) ?_
 rintro ⟨y2,hy2⟩
 obtain ⟨hy20,hy21⟩ := hy2
 refine aR [0,2,3,7] [] <| aZ <| kQ <| aR [0,2,3,7,8] [(8,aB (y2 == 0))] ?_
 refine kC (y2 == 0) (fun h3 => ?_) (fun h3 => ?_)
 have h3p := bC h3
 refine kG <| dp 1 [2,3,10] [(10,aP g)] 143 [gP g] (some 11) 0 rfl rfl hlo (dK hBw hap) ?_
 rintro ⟨y4,hy4⟩
 refine bf [2,3] [] 1 ⟨37,dI { y1 with ip := y4 }⟩ <| kQ <| bf [2] [(2,.p 0 0)] 0 ⟨37,dI { y1 with ip := y4 }⟩ <| kR ?_
 exact ⟨[.agg (dI { y1 with ip := y4 }).toArray],by kernel_rfl,fun w' hb hf => ⟨⟨{ y1 with ip := y4 },trivial⟩,rfl,hf (cF B g A J cap) (by simp),aY (hf (c9 w (fun b => b = g)) (by simp)) hb rfl rfl rfl⟩⟩
 have h3p := bA h3
 refine kQ <| aR [0,2,3,7,13] [(13,aB (y2 == 1))] <| kC (y2 == 1) (fun h5 => ?_) (fun h5 => ?_)
 have h5p := bC h5
 refine kG <| dp 1 [2,3,15] [(15,aP g)] 143 [gP g] (some 16) 0 rfl rfl hlo (dK hBw hap) ?_
 rintro ⟨y6,hy6⟩
 refine bf [2,3] [] 1 ⟨37,dI { y1 with port := y6 }⟩ <| kQ <| bf [2] [(2,.p 0 0)] 0 ⟨37,dI { y1 with port := y6 }⟩ <| kR ?_
 exact ⟨[.agg (dI { y1 with port := y6 }).toArray],by kernel_rfl,fun w' hb hf => ⟨⟨{ y1 with port := y6 },trivial⟩,rfl,hf (cF B g A J cap) (by simp),aY (hf (c9 w (fun b => b = g)) (by simp)) hb rfl rfl rfl⟩⟩
 have h5p := bA h5
 refine kQ <| aR [0,2,3,18] [(18,aB (y2 == 2))] <| kC (y2 == 2) (fun h7 => ?_) (fun h7 => ?_)
 have h7p := bC h7
 refine kG <| dp 1 [2,3,20] [(20,aP g)] 143 [gP g] (some 21) 0 rfl rfl hlo (dK hBw hap) ?_
 rintro ⟨y8,hy8⟩
 refine bf [2,3] [] 1 ⟨37,dI { y1 with my := y8 }⟩ <| kQ <| bf [2] [(2,.p 0 0)] 0 ⟨37,dI { y1 with my := y8 }⟩ <| kR ?_
 exact ⟨[.agg (dI { y1 with my := y8 }).toArray],by kernel_rfl,fun w' hb hf => ⟨⟨{ y1 with my := y8 },trivial⟩,rfl,hf (cF B g A J cap) (by simp),aY (hf (c9 w (fun b => b = g)) (by simp)) hb rfl rfl rfl⟩⟩
 have h7p := bA h7
 refine kK <| kQ <| bf [2] [(2,.p 0 0)] 0 ⟨37,dI y1⟩ <| kR ?_
 exact ⟨[.agg (dI y1).toArray],by kernel_rfl,fun w' hb hf => ⟨⟨y1,trivial⟩,rfl,hf (cF B g A J cap) (by simp),aY (hf (c9 w (fun b => b = g)) (by simp)) hb rfl rfl rfl⟩⟩
theorem l12Bent_c_K {g : Nat} {J : List Int} {A : Option Addr} {cap : Nat}  {w0 : World} {fs : List Fact} {B : Nat} (hB : B ≤ w0.heap.size) (hap : ¬ (sQ A J cap).blk g)  (hn : J.length ≤ 1048576 := by omega) (h1 : cF B g A J cap ∈ fs := by simp) (h2 : sQ A J cap ∈ fs := by simp) : XCM Tryz.prog w0 fs (cF B g A J cap).blk 138 [gP g] (α := {y : Tup // True}) (fun y => .agg (dI y.1).toArray) (fun _ => [cF B g A J cap]) := dq fun w hw hf => l12Bent_c g J A cap  w B (Nat.le_trans hB hw) (hf _ h1) (hf _ h2) hap hn  
theorem big_c (J : List Int) (A : Option Addr) (cap : Nat) (w : World) (hl : Sl w (sJ A J cap) 1 (J.map bR)) : Calls Tryz.prog 18 #[.slice A J.length cap] w fun e w' => e = .returned (.bool (decide (((J.length : Nat) : Int) > 1048576))) ∧ Below w.heap.size w w' := by
 refine bH (args := [.slice A J.length cap]) (fn := Tryz.f18) [sQ A J cap] Tryz.func18 rfl Tryz.ntmps18 rfl (by simp only [List.mem_cons,List.not_mem_nil,or_false,forall_eq]; exact ⟨rfl,hl⟩) ?_
 refine kQ <| c8 [0] ⟨[(0,.v (sJ A J cap))],[],[],[sQ A J cap]⟩ <| kQ <| aJ [2] [(2,aB (decide (((J.length : Nat) : Int) > 1048576)))] ?_
 refine kR ?_
 exact ⟨[.bool (decide (((J.length : Nat) : Int) > 1048576))],by kernel_rfl,fun w' hb hf => ⟨rfl,hb⟩⟩
theorem fk (g : Nat) (J : List Int) (A : Option Addr) (cap : Nat) (n : Int) (w : World) (B : Nat) (hB : B ≤ w.heap.size) (hc : (cF B g A J cap).p w) (hl : Sl w (sJ A J cap) 1 (J.map bR)) (hap : ¬ (sQ A J cap).blk g) (hn : J.length ≤ 1048576) (hn0 : 0 ≤ n ∧ n ≤ 4096) : Calls Tryz.prog 151 #[gP g, iI n] w fun e w' => ∃ y : {y : List Int × (Option Addr × Nat) // y.1.length ≤ 4096}, e = .returned (.slice y.1.2.1 y.1.1.length y.1.2.2) ∧ (cF B g A J cap).p w' ∧ (ap w.heap.size 5 1 (.slice y.1.2.1 y.1.1.length y.1.2.2) (y.1.1.map bR)).p w' ∧ g < w.heap.size ∧ Chgd (fun b => b = g) w w' := by
 have hq_code := Sl.capLe hl
 have hBw : B ≤ (aQ w B).heap.size := Nat.le_of_eq (bn hB).symm
 have hlo : ∀ (ww : World) (b : Nat),(cF B g A J cap).p ww → (cF B g A J cap).blk b → (aQ w B).heap.size ≤ b := fun ww b h hb => Nat.le_trans (ce w B) (cC h hb)
 refine ge (args := [gP g,iI n]) (fn := Tryz.f151) [cF B g A J cap,sQ A J cap,c9 w (fun b => b = g)] B Tryz.func151 rfl Tryz.ntmps151 rfl hB (by simp only [List.mem_cons,List.not_mem_nil,or_false,forall_eq_or_imp,forall_eq]; exact ⟨hc,hl,bJ w _⟩) (cu hap rfl) ?_
 have hgl : g < w.heap.size := (cF B g A J cap).lt w g hc rfl
 refine kQ <| c8 [0,1] ⟨[(0,aP g),(1,aI n)],[],[],[cF B g A J cap,sQ A J cap,c9 w (fun b => b = g)]⟩ <| kQ <| kHD 0 [0,1] [] rfl (bi (e := 5) (K := 1) (bytes := 1) [] (rs := ([] : List Int).map bR) rfl rfl) ?_
 intro g1
 refine aR [0,1,5] [(5,.v (.slice (some ⟨g1,0,none⟩) 0 0))] <| kS <| kQ <| aR [0,1,5,6] [(6,aI 0)] ?_
 refine aZ <| cz (α := {x : Nat × List Int × Option Addr × Nat // (fun (i : Nat) (bs : List Int) (A1 : Option Addr) (c1 : Nat) => (i : Int) ≤ n ∧ bs.length = i) x.1 x.2.1 x.2.2.1 x.2.2.2}) (fun x => (fun (i : Nat) (bs : List Int) (A1 : Option Addr) (c1 : Nat) => (⟨[(0,aP g),(1,aI n),(5,.v (.slice A1 bs.length c1)),(6,aI (i : Int))],[],[],[ap (aQ w B).heap.size 5 1 (.slice A1 bs.length c1) (bs.map bR),cF B g A J cap,sQ A J cap,c9 w (fun b => b = g)]⟩ : St)) x.1.1 x.1.2.1 x.1.2.2.1 x.1.2.2.2) (fun x => (fun (i : Nat) (bs : List Int) (A1 : Option Addr) (c1 : Nat) => n.toNat - i) x.1.1 x.1.2.1 x.1.2.2.1 x.1.2.2.2) ⟨(0,([] : List Int),(some ⟨g1,0,none⟩),0),⟨(by omega),rfl⟩⟩ (ei [0,1,2,3] <| kF 0 0 [0,1,5,6]) ?_
 rintro ⟨⟨i,bs,A1,c1⟩,hi,hbl⟩
 try dsimp only
 try dsimp only at hi hbl
 refine kS <| kQ <| aR [0,1,5,6,10] [(10,aB (decide ((i : Int) < n)))] <| kC (decide ((i : Int) < n)) (fun h2 => ?_) (fun h2 => ?_)
 have h2p := of_decide_eq_true h2
 have hlt : (i : Int) < n := of_decide_eq_true h2
 refine kK <| kS <| aZ <| kG <| dp 2 [0,1,5,6,13,14] [(13,.v (.slice A1 bs.length c1)),(14,aP g)] 155 [gP g] (some 15) 1 rfl rfl hlo (f9 hBw hap) ?_
 rintro ⟨y3,hy3⟩
 refine kHD 1 [0,1,5,6,13,16] [(16,.v (.int .u8 (IntKind.u8.wrap y3)))] rfl (bi (e := 5) (K := 1) (bytes := 1) [.int .u8 (IntKind.u8.wrap y3)] (rs := ([IntKind.u8.wrap y3] : List Int).map bR) rfl rfl) ?_
 intro g4
 refine kHD 0 [0,1,5,6,13,17] [] rfl (dt (e := 5) (K := 1) (bytes := 1) (i := 2) (q := (bs ++ ([IntKind.u8.wrap y3] : List Int)).length) (new := ([IntKind.u8.wrap y3] : List Int).map bR) (rs' := (bs ++ ([IntKind.u8.wrap y3] : List Int)).map bR) rfl rfl rfl rfl (by kernel_rfl) (by kernel_rfl) (by kernel_rfl) rfl (by simp) (by rw [List.map_append]) (by simp) (fun ww hf => (aS (hf (ap (aQ w B).heap.size 5 1 (.slice (some ⟨g4,0,none⟩) 1 1) (([IntKind.u8.wrap y3] : List Int).map bR)) (by simp)))) (by intro r hr; obtain ⟨x,hx,rfl⟩ := List.mem_map.1 hr; exact ⟨rfl,by simp [bR,Value.oneCell']⟩) (by (try simp only [List.length_map,List.length_append,List.length_cons,List.length_nil,List.length_take,List.length_drop,maxLen]); omega) (by (try simp only [List.length_map,List.length_append,List.length_cons,List.length_nil,List.length_take,List.length_drop,maxLen]); omega)) ?_
 rintro ⟨v5a,v5c⟩
 refine aR [0,1,5,6] [(5,.v (.slice v5a ((bs ++ ([IntKind.u8.wrap y3] : List Int)).length) v5c))] <| kG <| cA 3 [0,1,5,6] [(6,aI (K6.wrap ((i : Int) + 1)))] <| cJ [0,1,5,6] [(6,aI (K6.wrap ((i : Int) + 1)))] [(6,aI ((i : Int) + 1))] (by rw [show (K6.wrap ((i : Int) + 1)) = ((i : Int) + 1) from ab (by omega) (by omega)]) (by kernel_rfl) ?_
 refine aJ [0,1,5,6] [(0,aP g),(1,aI n),(5,.v (.slice v5a ((bs ++ ([IntKind.u8.wrap y3] : List Int)).length) v5c)),(6,aI ((i : Int) + 1))] ?_
 exact ⟨⟨(i + 1,(bs ++ ([IntKind.u8.wrap y3] : List Int)),v5a,v5c),⟨by omega,by simp [hbl]⟩⟩,ei [0,2,3,4] <| kF 0 0 [0,1,5,6],by show (fun (i : Nat) (bs : List Int) (A1 : Option Addr) (c1 : Nat) => n.toNat - i) (i + 1) (bs ++ ([IntKind.u8.wrap y3] : List Int)) v5a v5c < n.toNat - i; (dsimp only; omega)⟩
 have h2p := of_decide_eq_false h2
 have hge : ¬ (i : Int) < n := of_decide_eq_false h2
 refine cq <| kQ <| aJ [4] [(4,.v (.slice A1 bs.length c1))] <| kR ?_
 exact ⟨[.slice A1 bs.length c1],by kernel_rfl,fun w' hb hf ha => ⟨⟨(bs,A1,c1),by dsimp only; omega⟩,rfl,hf (cF B g A J cap) (by simp),rowF_raise (hf (ap (aQ w B).heap.size 5 1 (.slice A1 bs.length c1) (bs.map bR)) (by simp)) (row_new ha (i := 0) (j := 1) (k := 3) rfl rfl rfl (by decide) (by decide)),hgl,aY (hf (c9 w (fun b => b = g)) (by simp)) hb rfl rfl rfl⟩⟩
theorem l5Long_c (n : Int) (w : World) (h0 : 0 ≤ n ∧ n ≤ 4096) : Calls Tryz.prog 144 #[iI n] w fun e w' => e = .returned (.string (am (List.replicate n.toNat 0))) ∧ Below w.heap.size w w' := by
 obtain ⟨m,rfl⟩ : ∃ m : Nat,n = (m : Int) := ⟨n.toNat,by omega⟩
 have hm : m ≤ 4096 := by omega
 refine bH (args := [iI (m : Int)]) (fn := Tryz.f144) [] Tryz.func144 rfl Tryz.ntmps144 rfl (by simp) ?_
 refine kQ <| c8 [0] ⟨[(0,aI (m : Int))],[],[],[]⟩ <| kQ <| kHS 1 [4] [(4,aI (m : Int))] rfl (hv_make (kl := .i64) (kc := .i64) (e := 5) (K := 1) (bytes := 1) (m := m) (z := .int .u8 0) (rs := (List.replicate m 0).map bR) rfl (by kernel_rfl) (by kernel_rfl) (by kernel_rfl) (by kernel_rfl) (by (try simp only [List.length_map,List.length_append,List.length_cons,List.length_nil,List.length_take,List.length_drop,maxLen]); omega) (by (try simp only [List.length_map,List.length_append,List.length_cons,List.length_nil,List.length_take,List.length_drop,maxLen]); omega) (by rw [List.map_replicate]; rfl)) ?_
 intro g1
 refine aJ [3] [(3,.v (.slice (some ⟨g1,0,none⟩) m m))] <| kQ <| i8 1 [6] [(6,.v (.slice (some ⟨g1,0,none⟩) m m))] (.string (am (List.replicate m 0))) rfl (fun _ _ _ ww hr => cb (e := 5) (List.replicate m 0) hr.1 rfl (by kernel_rfl) (by kernel_rfl) (by kernel_rfl) rfl (aS (hr.2.fact (ap w.heap.size 5 1 (.slice (some ⟨g1,0,none⟩) m m) ((List.replicate m 0).map bR)) (by simp)).1)) ?_
 refine aJ [2] [(2,.v (.string (am (List.replicate m 0))))] <| kR ?_
 exact ⟨[.string (am (List.replicate m 0))],by kernel_rfl,fun w' hb hf => ⟨rfl,hb⟩⟩
theorem l9Flags_c (g : Nat) (J : List Int) (A : Option Addr) (cap : Nat)  (w : World) (B : Nat) (hB : B ≤ w.heap.size) (hc : (cF B g A J cap).p w) (hl : Sl w (sJ A J cap) 1 (J.map bR)) (hap : ¬ (sQ A J cap).blk g) (hn : J.length ≤ 1048576)  : Calls Tryz.prog 140 #[gP g] w fun e w' => ∃ y : {y : Int // True}, e = .returned (iI y.1) ∧ (cF B g A J cap).p w' ∧ Chgd (fun b => b = g) w w' := by
 have hq_code := Sl.capLe hl
 have hBw : B ≤ (aQ w B).heap.size := Nat.le_of_eq (bn hB).symm
 have hlo : ∀ (ww : World) (b : Nat),(cF B g A J cap).p ww → (cF B g A J cap).blk b → (aQ w B).heap.size ≤ b := fun ww b h hb => Nat.le_trans (ce w B) (cC h hb)
 refine cO (args := [gP g]) (fn := Tryz.f140) [cF B g A J cap,sQ A J cap,c9 w (fun b => b = g)] B Tryz.func140 rfl Tryz.ntmps140 rfl hB (by simp only [List.mem_cons,List.not_mem_nil,or_false,forall_eq_or_imp,forall_eq]; exact ⟨hc,hl,bJ w _⟩) (cu hap rfl) ?_
 refine kQ <| c8 [0] ⟨[(0,aP g)],[],[],[cF B g A J cap,sQ A J cap,c9 w (fun b => b = g)]⟩ <| kQ <| kWS 2 [3,4] [(3,aP g),(4,aP g)] 133 [gP g,iI 64] (some 5) 0 rfl rfl hlo (ag hBw hap) ?_
 rintro ⟨y1,hy1⟩
 obtain ⟨hy10,hy11⟩ := hy1
 refine kHD 0 [3,5] [] rfl (bi (e := 3) (K := 1) (bytes := 8) [iI 2,iI 16,iI 16,iI 18,iI 24,iI 17,iI 4,iI 20,iI 0,iI y1] (rs := ([2,16,16,18,24,17,4,20,0,y1] : List Int).map aq) rfl rfl) ?_
 intro g2
 refine dd (φ := ¬ (c7 (.slice (some ⟨g2,0,none⟩) 10 10) 1 (([2,16,16,18,24,17,4,20,0,y1] : List Int).map aq)).blk g) (fun _ _ _ _ hr => fun hb => hr.2.apart 0 1 (ap (aQ w B).heap.size 3 1 (.slice (some ⟨g2,0,none⟩) 10 10) (([2,16,16,18,24,17,4,20,0,y1] : List Int).map aq)) (cF B g A J cap) rfl rfl (by decide) rfl g (bK hb) rfl) (fun hk3 => ?_)
 refine dp 0 [3,6] [] 136 [gP g,.slice (some ⟨g2,0,none⟩) 10 10] (some 7) 1 rfl rfl hlo (bp hBw hap (fun ww hw hf => (aS (hf _ m0))) hk3 (by simp)) ?_
 rintro ⟨y4,hy4⟩
 refine aJ [2] [(2,aI y4)] <| kR ?_
 exact ⟨[iI y4],by kernel_rfl,fun w' hb hf => ⟨⟨y4,trivial⟩,rfl,hf (cF B g A J cap) (by simp),aY (hf (c9 w (fun b => b = g)) (by simp)) hb rfl rfl rfl⟩⟩
theorem l9Flags_c_K {g : Nat} {J : List Int} {A : Option Addr} {cap : Nat}  {w0 : World} {fs : List Fact} {B : Nat} (hB : B ≤ w0.heap.size) (hap : ¬ (sQ A J cap).blk g)  (hn : J.length ≤ 1048576 := by omega) (h1 : cF B g A J cap ∈ fs := by simp) (h2 : sQ A J cap ∈ fs := by simp) : XCM Tryz.prog w0 fs (cF B g A J cap).blk 140 [gP g] (α := {y : Int // True}) (fun y => iI y.1) (fun _ => [cF B g A J cap]) := dq fun w hw hf => l9Flags_c g J A cap  w B (Nat.le_trans hB hw) (hf _ h1) (hf _ h2) hap hn  
theorem l9Segment_c (g : Nat) (J : List Int) (A : Option Addr) (cap : Nat)  (w : World) (B : Nat) (hB : B ≤ w.heap.size) (hc : (cF B g A J cap).p w) (hl : Sl w (sJ A J cap) 1 (J.map bR)) (hap : ¬ (sQ A J cap).blk g) (hn : J.length ≤ 1048576)  : Calls Tryz.prog 142 #[gP g] w fun e w' => ∃ y : {y : Seg // y.body.size ≤ 4096}, e = .returned (.agg (aG y.1).toArray) ∧ (cF B g A J cap).p w' ∧ Chgd (fun b => b = g) w w' := by
 have hq_code := Sl.capLe hl
 have hBw : B ≤ (aQ w B).heap.size := Nat.le_of_eq (bn hB).symm
 have hlo : ∀ (ww : World) (b : Nat),(cF B g A J cap).p ww → (cF B g A J cap).blk b → (aQ w B).heap.size ≤ b := fun ww b h hb => Nat.le_trans (ce w B) (cC h hb)
 refine cO (args := [gP g]) (fn := Tryz.f142) [cF B g A J cap,sQ A J cap,c9 w (fun b => b = g)] B Tryz.func142 rfl Tryz.ntmps142 rfl hB (by simp only [List.mem_cons,List.not_mem_nil,or_false,forall_eq_or_imp,forall_eq]; exact ⟨hc,hl,bJ w _⟩) (cu hap rfl) ?_
 refine kQ <| c8 [0,2] ⟨[(0,aP g),(2,.p 0 0)],[⟨50,er⟩],[],[cF B g A J cap,sQ A J cap,c9 w (fun b => b = g)]⟩ <| kQ <| kHD 1 [0,2,3] [(3,aP g)] rfl (bi (e := 3) (K := 1) (bytes := 8) [iI 40000,iI 40001,iI 80] (rs := ([40000,40001,80] : List Int).map aq) rfl rfl) ?_
 intro g1
 refine dd (φ := ¬ (c7 (.slice (some ⟨g1,0,none⟩) 3 3) 1 (([40000,40001,80] : List Int).map aq)).blk g) (fun _ _ _ _ hr => fun hb => hr.2.apart 0 1 (ap (aQ w B).heap.size 3 1 (.slice (some ⟨g1,0,none⟩) 3 3) (([40000,40001,80] : List Int).map aq)) (cF B g A J cap) rfl rfl (by decide) rfl g (bK hb) rfl) (fun hk2 => ?_)
 refine dp 0 [0,2,3,4] [] 136 [gP g,.slice (some ⟨g1,0,none⟩) 3 3] (some 5) 1 rfl rfl hlo (bp hBw hap (fun ww hw hf => (aS (hf _ m0))) hk2 (by simp)) ?_
 rintro ⟨y3,hy3⟩
 refine kHD 1 [0,2,5,6] [(6,aP g)] rfl (bi (e := 3) (K := 1) (bytes := 8) [iI 80,iI 80,iI 81] (rs := ([80,80,81] : List Int).map aq) rfl rfl) ?_
 intro g4
 refine dd (φ := ¬ (c7 (.slice (some ⟨g4,0,none⟩) 3 3) 1 (([80,80,81] : List Int).map aq)).blk g) (fun _ _ _ _ hr => fun hb => hr.2.apart 0 1 (ap (aQ w B).heap.size 3 1 (.slice (some ⟨g4,0,none⟩) 3 3) (([80,80,81] : List Int).map aq)) (cF B g A J cap) rfl rfl (by decide) rfl g (bK hb) rfl) (fun hk5 => ?_)
 refine dp 0 [0,2,5,6,7] [] 136 [gP g,.slice (some ⟨g4,0,none⟩) 3 3] (some 8) 1 rfl rfl hlo (bp hBw hap (fun ww hw hf => (aS (hf _ m0))) hk5 (by simp)) ?_
 rintro ⟨y6,hy6⟩
 refine dp 1 [0,2,5,8,9] [(9,aP g)] 148 [gP g] (some 10) 0 rfl rfl hlo (cE hBw hap) ?_
 rintro ⟨y7,hy7⟩
 refine dp 1 [0,2,5,8,10,11] [(11,aP g)] 148 [gP g] (some 12) 0 rfl rfl hlo (cE hBw hap) ?_
 rintro ⟨y8,hy8⟩
 refine dp 1 [0,2,5,8,10,12,13] [(13,aP g)] 140 [gP g] (some 14) 0 rfl rfl hlo (l9Flags_c_K hBw hap) ?_
 rintro ⟨y9,hy9⟩
 refine kHD 1 [0,2,5,8,10,12,14,15] [(15,aP g)] rfl (bi (e := 3) (K := 1) (bytes := 8) [iI 0,iI 1,iI 64,iI 65535] (rs := ([0,1,64,65535] : List Int).map aq) rfl rfl) ?_
 intro g10
 refine dd (φ := ¬ (c7 (.slice (some ⟨g10,0,none⟩) 4 4) 1 (([0,1,64,65535] : List Int).map aq)).blk g) (fun _ _ _ _ hr => fun hb => hr.2.apart 0 1 (ap (aQ w B).heap.size 3 1 (.slice (some ⟨g10,0,none⟩) 4 4) (([0,1,64,65535] : List Int).map aq)) (cF B g A J cap) rfl rfl (by decide) rfl g (bK hb) rfl) (fun hk11 => ?_)
 refine dp 0 [0,2,5,8,10,12,14,15,16] [] 136 [gP g,.slice (some ⟨g10,0,none⟩) 4 4] (some 17) 1 rfl rfl hlo (bp hBw hap (fun ww hw hf => (aS (hf _ m0))) hk11 (by simp)) ?_
 rintro ⟨y12,hy12⟩
 refine dp 1 [0,2,5,8,10,12,14,17,18] [(18,aP g)] 149 [gP g] (some 19) 0 rfl rfl hlo (hO hBw hap) ?_
 rintro ⟨y13,hy13⟩
 refine kWS 2 [2,5,8,10,12,14,17,19,20,21] [(2,.p 0 0),(5,aI y3),(8,aI y6),(10,aI y7),(12,aI y8),(14,aI y9),(17,aI y12),(19,.v (.agg (df y13).toArray)),(20,aP g),(21,aP g)] 133 [gP g,iI 7] (some 22) 0 rfl rfl hlo (ag hBw hap) ?_
 rintro ⟨y14,hy14⟩
 obtain ⟨hy140,hy141⟩ := hy14
 refine dp 0 [2,5,8,10,12,14,17,19,20,22] [] 151 [gP g,iI y14] (some 23) 0 rfl rfl hlo (eE fun ww hw hf => fk g J A cap y14 ww B (Nat.le_trans (by first | exact Nat.le_refl _ | exact Nat.le_of_eq (bn hB).symm) hw) (hf (cF B g A J cap) (by simp)) (hf _ m4) hap (by omega) (by omega)) ?_
 rintro ⟨⟨b15l,b15a,b15c⟩,hb15⟩
 dsimp only at hb15
 refine fh 0 [2,5,8,10,12,14,17,19,23] [] (.string (am b15l)) rfl (fun _ _ _ ww hr => cb (e := 5) b15l hr.1 rfl (by kernel_rfl) (by kernel_rfl) (by kernel_rfl) rfl (aS (hr.2.fact (ap (aQ w B).heap.size 5 1 (.slice b15a b15l.length b15c) (b15l.map bR)) (by simp)).1)) ?_
 refine fh 0 [2,5,8,10,12,14,17,19,24] [] (.agg #[iI y3,iI y6,iI y7,iI y8,iI y9,iI y12,iI y13.mss,iI y13.scale,.bool y13.sack,.bool y13.stamp,iI y13.val,iI y13.echo,.string (am b15l)]) rfl (fun _ _ _ ww hr => aN [(0,iI y3),(1,iI y6),(2,iI y7),(3,iI y8),(4,iI y9),(5,iI y12),(6,.agg (df y13).toArray),(7,.string (am b15l))] hr.1 rfl (by kernel_rfl) (by kernel_rfl) ww) ?_
 refine bf [2] [(2,.p 0 0)] 0 ⟨50,[iI y3,iI y6,iI y7,iI y8,iI y9,iI y12,iI y13.mss,iI y13.scale,.bool y13.sack,.bool y13.stamp,iI y13.val,iI y13.echo,.string (am b15l)]⟩ <| kR ?_
 exact ⟨[.agg #[iI y3,iI y6,iI y7,iI y8,iI y9,iI y12,iI y13.mss,iI y13.scale,.bool y13.sack,.bool y13.stamp,iI y13.val,iI y13.echo,.string (am b15l)]],by kernel_rfl,fun w' hb hf => ⟨⟨⟨y3,y6,y7,y8,y9,y12,y13,am b15l⟩,(by first | assumption | (dsimp only; assumption) | (show (am _).size ≤ 4096; rw [bL]; (try simp only [List.length_replicate]); omega))⟩,rfl,hf (cF B g A J cap) (by simp),aY (hf (c9 w (fun b => b = g)) (by simp)) hb rfl rfl rfl⟩⟩
theorem l9Segment_c_K {g : Nat} {J : List Int} {A : Option Addr} {cap : Nat}  {w0 : World} {fs : List Fact} {B : Nat} (hB : B ≤ w0.heap.size) (hap : ¬ (sQ A J cap).blk g)  (hn : J.length ≤ 1048576 := by omega) (h1 : cF B g A J cap ∈ fs := by simp) (h2 : sQ A J cap ∈ fs := by simp) : XCM Tryz.prog w0 fs (cF B g A J cap).blk 142 [gP g] (α := {y : Seg // y.body.size ≤ 4096}) (fun y => .agg (aG y.1).toArray) (fun _ => [cF B g A J cap]) := dq fun w hw hf => l9Segment_c g J A cap  w B (Nat.le_trans hB hw) (hf _ h1) (hf _ h2) hap hn  
end Go.Proofs.YtebgmdiejgcoiaaGreat
