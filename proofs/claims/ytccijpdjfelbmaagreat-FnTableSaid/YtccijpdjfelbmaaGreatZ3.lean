/- Contracts that this law needs, part 3. -/
import Derived.Test.YtccijpdjfelbmaaGreatZ2
namespace Go.Proofs.YtccijpdjfelbmaaGreat
open Go.RowKit
set_option linter.unusedVariables false
set_option linter.unusedSimpArgs false
set_option maxRecDepth 100000
set_option maxHeartbeats 2000000

theorem fY (s : Snd) (c : Chk) (w : World)  : Calls Tryz.prog 114 #[.agg (ai s).toArray, .agg (cq c).toArray] w fun e w' => e = .returned (.agg (ai (sO s c)).toArray) ∧ Below w.heap.size w w' := by
 have hsf := sentS_fin s c
 refine bZ (args := [.agg (ai s).toArray,.agg (cq c).toArray]) (fn := Tryz.f114) [] Tryz.func114 rfl Tryz.ntmps114 rfl (by simp) ?_
 refine kQ <| cm [2,3,4] ⟨[(2,.p 0 0),(3,.p 1 0),(4,.p 2 0)],[⟨34,ai s⟩,⟨134,cq c⟩,⟨34,sndZ⟩],[],[]⟩ <| kQ <| cm [2,3,4,5] ⟨[(2,.p 0 0),(3,.p 1 0),(4,.p 2 0),(5,.p 3 0)],[⟨34,ai s⟩,⟨134,cq c⟩,⟨34,sndZ⟩,⟨34,ai s⟩],[],[]⟩ ?_
 refine kQ <| cm [2,3,4,5] ⟨[(2,.p 0 0),(3,.p 1 0),(4,.p 2 0),(5,.p 3 0)],[⟨34,ai s⟩,⟨134,cq c⟩,⟨34,sndZ⟩,⟨34,ai { s with sent := K6.wrap (s.sent + (c.text.size : Int)) }⟩],[],[]⟩ <| kS <| ba ⟨[(2,.p 0 0),(3,.p 1 0),(4,.p 2 0),(5,.p 3 0)],[⟨34,ai s⟩,⟨134,cq c⟩,⟨34,sndZ⟩,⟨34,ai { s with sent := K6.wrap (s.sent + (c.text.size : Int)),finSent := s.finSent || c.fin }⟩],[],[]⟩ ?_ ?_
 refine kG <| dt 3 [2,3,4,5,16] [(2,.p 0 0),(3,.p 1 0),(4,.p 2 0),(5,.p 3 0),(16,aB s.finSent)] <| kP 16 (s.finSent) (fun h1 => ?_) (fun h1 => ?_)
 refine cm [2,3,4,5] ⟨[(2,.p 0 0),(3,.p 1 0),(4,.p 2 0),(5,.p 3 0)],[⟨34,ai s⟩,⟨134,cq c⟩,⟨34,sndZ⟩,⟨34,ai { s with sent := K6.wrap (s.sent + (c.text.size : Int)),finSent := true }⟩],[],[]⟩ ?_
 show Wk _ _
 try rw [h1]
 exact kF 4 0 [2,3,4,5]
 refine cm [2,3,4,5] ⟨[(2,.p 0 0),(3,.p 1 0),(4,.p 2 0),(5,.p 3 0)],[⟨34,ai s⟩,⟨134,cq c⟩,⟨34,sndZ⟩,⟨34,ai { s with sent := K6.wrap (s.sent + (c.text.size : Int)),finSent := c.fin }⟩],[],[]⟩ ?_
 show Wk _ _
 try rw [h1]
 exact kF 4 0 [2,3,4,5]
 refine kS <| kS <| ba ⟨[(2,.p 0 0),(4,.p 2 0),(5,.p 3 0),(36,aB ((!(aO s)) || ((!(aO ({ s with sent := K6.wrap (s.sent + (c.text.size : Int)),finSent := s.finSent || c.fin }))) || (c.fin && s.done))))],[⟨34,ai s⟩,⟨134,cq c⟩,⟨34,sndZ⟩,⟨34,ai { s with sent := K6.wrap (s.sent + (c.text.size : Int)),finSent := s.finSent || c.fin }⟩],[],[]⟩ ?_ ?_
 refine kG <| dN 1 [2,3,4,5,21] [(2,.p 0 0),(3,.p 1 0),(4,.p 2 0),(5,.p 3 0),(21,.v (.agg (ai s).toArray))] 65 [.agg (ai s).toArray] (some 22) rfl (aA fun ww hf => ea s.una s.data s.sent s.fin s.finSent s.done ww ) ?_
 intro _
 refine dt 2 [2,3,4,5,24] [(2,.p 0 0),(3,.p 1 0),(4,.p 2 0),(5,.p 3 0),(24,aB (!(aO s)))] <| kP 24 (!(aO s)) (fun h2 => ?_) (fun h2 => ?_)
 have h2n := bS h2
 refine aT [2,4,5,36] [(2,.p 0 0),(4,.p 2 0),(5,.p 3 0),(36,aB true)] ?_
 show Wk _ _
 try rw [h2]
 exact kF 4 0 [2,4,5,36]
 have h2n := aF h2
 have h2nb := cE (s := s) (by simpa using h2n)
 obtain ⟨h2nb0,h2nb1,h2nb2,h2nb3,h2nb4,h2nb5,h2nb6,h2nb7,h2nb8,h2nb9,h2nb10⟩ := h2nb
 refine dN 1 [2,3,4,5,24,25] [(2,.p 0 0),(3,.p 1 0),(4,.p 2 0),(5,.p 3 0),(24,aB false),(25,.v (.agg (ai { s with sent := K6.wrap (s.sent + (c.text.size : Int)),finSent := s.finSent || c.fin }).toArray))] 65 [.agg (ai { s with sent := K6.wrap (s.sent + (c.text.size : Int)),finSent := s.finSent || c.fin }).toArray] (some 26) rfl (aA fun ww hf => ea s.una s.data (K6.wrap (s.sent + (c.text.size : Int))) s.fin (s.finSent || c.fin) s.done ww ) ?_
 intro _
 refine dt 3 [2,3,4,5,29] [(2,.p 0 0),(3,.p 1 0),(4,.p 2 0),(5,.p 3 0),(29,aB (!(aO ({ s with sent := K6.wrap (s.sent + (c.text.size : Int)),finSent := s.finSent || c.fin }))))] <| kP 29 (!(aO ({ s with sent := K6.wrap (s.sent + (c.text.size : Int)),finSent := s.finSent || c.fin }))) (fun h3 => ?_) (fun h3 => ?_)
 have h3n := bS h3
 refine aT [2,4,5,36] [(2,.p 0 0),(4,.p 2 0),(5,.p 3 0),(36,aB true)] ?_
 show Wk _ _
 try rw [h2]
 try rw [h3]
 exact kF 4 0 [2,4,5,36]
 have h3n := aF h3
 have h3nb := cE (s := ({ s with sent := K6.wrap (s.sent + (c.text.size : Int)),finSent := s.finSent || c.fin })) (by simpa using h3n)
 obtain ⟨h3nb0,h3nb1,h3nb2,h3nb3,h3nb4,h3nb5,h3nb6,h3nb7,h3nb8,h3nb9,h3nb10⟩ := h3nb
 refine dt 3 [2,4,5,29,32] [(2,.p 0 0),(4,.p 2 0),(5,.p 3 0),(29,aB false),(32,aB c.fin)] <| kP 32 (c.fin) (fun h4 => ?_) (fun h4 => ?_)
 refine aT [2,4,5,36] [(2,.p 0 0),(4,.p 2 0),(5,.p 3 0),(36,aB s.done)] ?_
 show Wk _ _
 try rw [h2]
 try rw [h3]
 try rw [h4]
 exact kF 4 0 [2,4,5,36]
 refine aT [2,4,5,36] [(2,.p 0 0),(4,.p 2 0),(5,.p 3 0),(36,aB false)] ?_
 show Wk _ _
 try rw [h2]
 try rw [h3]
 try rw [h4]
 exact kF 4 0 [2,4,5,36]
 refine kC ((!(aO s)) || ((!(aO ({ s with sent := K6.wrap (s.sent + (c.text.size : Int)),finSent := s.finSent || c.fin }))) || (c.fin && s.done))) (fun h5 => ?_) (fun h5 => ?_)
 refine kQ <| cm [4] ⟨[(4,.p 2 0)],[⟨34,ai s⟩,⟨134,cq c⟩,⟨34,ai s⟩,⟨34,ai { s with sent := K6.wrap (s.sent + (c.text.size : Int)),finSent := s.finSent || c.fin }⟩],[],[]⟩ <| kR ?_
 have hmod : sO s c = s := by first | rfl | (simp [sO,sentS, *]; done) | grind [sO,sentS]
 exact ⟨[.agg (ai s).toArray],by kernel_rfl,fun w' hb hf => by rw [hmod]; exact ⟨rfl,hb⟩⟩
 have h5l := fa h5
 have h5ln := aF h5l
 have h5lnb := cE (s := s) (by simpa using h5ln)
 obtain ⟨h5lnb0,h5lnb1,h5lnb2,h5lnb3,h5lnb4,h5lnb5,h5lnb6,h5lnb7,h5lnb8,h5lnb9,h5lnb10⟩ := h5lnb
 have h5r := fc h5
 have h5rl := fa h5r
 have h5rln := aF h5rl
 have h5rlnb := cE (s := ({ s with sent := K6.wrap (s.sent + (c.text.size : Int)),finSent := s.finSent || c.fin })) (by simpa using h5rln)
 obtain ⟨h5rlnb0,h5rlnb1,h5rlnb2,h5rlnb3,h5rlnb4,h5rlnb5,h5rlnb6,h5rlnb7,h5rlnb8,h5rlnb9,h5rlnb10⟩ := h5rlnb
 have h5rr := fc h5r
 refine kK <| kQ <| cm [4] ⟨[(4,.p 2 0)],[⟨34,ai s⟩,⟨134,cq c⟩,⟨34,ai { s with sent := K6.wrap (s.sent + (c.text.size : Int)),finSent := s.finSent || c.fin }⟩,⟨34,ai { s with sent := K6.wrap (s.sent + (c.text.size : Int)),finSent := s.finSent || c.fin }⟩],[],[]⟩ <| kR ?_
 have hmod : sO s c = ({ s with sent := K6.wrap (s.sent + (c.text.size : Int)),finSent := s.finSent || c.fin }) := by first | rfl | (simp [sO,sentS, *]; done) | grind [sO,sentS]
 exact ⟨[.agg (ai { s with sent := K6.wrap (s.sent + (c.text.size : Int)),finSent := s.finSent || c.fin }).toArray],by kernel_rfl,fun w' hb hf => by rw [hmod]; exact ⟨rfl,hb⟩⟩
theorem fA (s : Snd) (text : ByteArray) (w : World) (hts : text.size ≤ 4611686018427387904) : Calls Tryz.prog 98 #[.agg (ai s).toArray, .string text] w fun e w' => e = .returned (.tuple #[.agg (ai (aC s text).1).toArray, iI ((aC s text).2)]) ∧ Below w.heap.size w w' := by
 refine bZ (args := [.agg (ai s).toArray,.string text]) (fn := Tryz.f98) [] Tryz.func98 rfl Tryz.ntmps98 rfl (by simp) ?_
 refine kQ <| cm [1,2,4] ⟨[(1,.v (.string text)),(2,.p 0 0),(4,.p 1 0)],[⟨34,ai s⟩,⟨34,sndZ⟩],[],[]⟩ <| kS <| kQ <| dR 1 [1,2,4,7] [(7,.v (.agg (ai s).toArray))] 65 [.agg (ai s).toArray] (some 8) rfl (aA fun ww hf => ea s.una s.data s.sent s.fin s.finSent s.done ww ) ?_
 intro _
 refine di 2 [1,2,4,10] [(10,aB (!(aO s)))] <| kP 10 (!(aO s)) (fun h1 => ?_) (fun h1 => ?_)
 have h1n := bS h1
 refine aW [1,2,4,13] [(13,aB true)] <| kT <| kQ <| bC [4,5] [(5,aI 0)] 1 ⟨34,ai s⟩ ?_
 refine kR ?_
 have hmod : aC s text = (s,0) := by first | rfl | (simp [aC, *]; done) | grind [aC]
 exact ⟨[.agg (ai s).toArray,iI 0],by kernel_rfl,fun w' hb hf => by rw [hmod]; exact ⟨rfl,hb⟩⟩
 have h1n := aF h1
 have h1nb := cE (s := s) (by simpa using h1n)
 obtain ⟨h1nb0,h1nb1,h1nb2,h1nb3,h1nb4,h1nb5,h1nb6,h1nb7,h1nb8,h1nb9,h1nb10⟩ := h1nb
 refine aW [1,2,4,13] [(13,aB s.fin)] <| kC (s.fin) (fun h2 => ?_) (fun h2 => ?_)
 refine kQ <| bC [4,5] [(5,aI 0)] 1 ⟨34,ai s⟩ <| kR ?_
 have hmod : aC s text = (s,0) := by first | rfl | (simp [aC, *]; done) | grind [aC]
 exact ⟨[.agg (ai s).toArray,iI 0],by kernel_rfl,fun w' hb hf => by rw [hmod]; exact ⟨rfl,hb⟩⟩
 refine kK <| kQ <| dR 6 [1,2,4,16,20] [(16,aI (text.size : Int)),(20,aI (K6.wrap (48 - (s.data.size : Int))))] 118 [iI (text.size : Int),iI (K6.wrap (48 - (s.data.size : Int)))] (some 21) rfl (c6 fun ww hf => fT (text.size : Int) (K6.wrap (48 - (s.data.size : Int))) ww ) ?_
 intro _
 refine di 1 [1,2,4,6] [(6,aI (min (text.size : Int) (K6.wrap (48 - (s.data.size : Int)))))] <| cU [1,2,4,6] [(6,aI (min (text.size : Int) (K6.wrap (48 - (s.data.size : Int)))))] [(6,aI (min (text.size : Int) (48 - (s.data.size : Int))))] (by rw [show (K6.wrap (48 - (s.data.size : Int))) = (48 - (s.data.size : Int)) from al (by omega) (by omega)]) (by kernel_rfl) ?_
 refine aW [1,2,4,6] [] <| kS <| bN [false,true] (by kernel_rfl) (fun ρ σ => ?_)
 refine cJ [0,2,3] [25,24,22,2,4,6] 5 [(25,aI (min (text.size : Int) (48 - (s.data.size : Int)))),(24,.v (.string text)),(22,.p 0 1),(2,.p 0 0),(4,.p 1 0),(6,aI (min (text.size : Int) (48 - (s.data.size : Int))))] <| kX 4 (.string (text.extract 0 (min (text.size : Int) (48 - (s.data.size : Int))).toNat)) rfl (fun _ _ ww hA => act_slS0 (min (text.size : Int) (48 - (s.data.size : Int))) hA rfl (by kernel_rfl) rfl rfl (by omega) (by omega) ww) ?_
 refine kA [1] <| ev 1 (.v (.string s.data)) rfl <| kX 5 (.string (s.data ++ (text.extract 0 (min (text.size : Int) (48 - (s.data.size : Int))).toNat))) rfl (fun _ _ ww hA => co hA rfl (by kernel_rfl) (by kernel_rfl) (str_add (by first | omega | (simp only [ByteArray.size_extract]; omega)) ww)) ?_
 refine cJ [6] [28,27,2,4,6] 1 [(28,.p 0 1),(27,.v (.string (s.data ++ (text.extract 0 (min (text.size : Int) (48 - (s.data.size : Int))).toNat)))),(2,.p 0 0),(4,.p 1 0),(6,aI (min (text.size : Int) (48 - (s.data.size : Int))))] <| kA [7] <| dg 7 0 1 [.string (s.data ++ (text.extract 0 (min (text.size : Int) (48 - (s.data.size : Int))).toNat))] rfl <| kZ <| kQ <| bC [4,5] [(5,aI (min (text.size : Int) (48 - (s.data.size : Int))))] 1 ⟨34,ai { s with data := s.data ++ (text.extract 0 (min (text.size : Int) (48 - (s.data.size : Int))).toNat) }⟩ ?_
 refine kR ?_
 have hmod : aC s text = (({ s with data := s.data ++ (text.extract 0 (min (text.size : Int) (48 - (s.data.size : Int))).toNat) }),(min (text.size : Int) (48 - (s.data.size : Int)))) := by first | rfl | (simp [aC, *]; done) | grind [aC]
 exact ⟨[.agg (ai { s with data := s.data ++ (text.extract 0 (min (text.size : Int) (48 - (s.data.size : Int))).toNat) }).toArray,iI (min (text.size : Int) (48 - (s.data.size : Int)))],by kernel_rfl,fun w' hb hf => by rw [hmod]; exact ⟨rfl,hb⟩⟩
theorem fC (c : Con) (rV : Value) (window : Int) (w : World) (hZ : Sl w rV 2 (c.r.held.map pC)) (hkn : c.r.held.length ≤ 1048576)(hm : ∀ p ∈ c.r.held, p.text.size ≤ 1048576) (hsz : c.r.data.size ≤ 4611686018427387904) (hwi : -9223372036854775808 ≤ window ∧ window ≤ 9223372036854775807) (B : Nat) (hB : B ≤ w.heap.size) : Calls Tryz.prog 99 #[.agg (a6 c rV).toArray, iI window] w fun e w' => XRs w w' e (α := (Option Addr × Nat) × (Option Addr × Nat)) (fun y => .tuple #[.agg (a6 (pump c window).1 (.slice y.1.1 ((pump c window).1.r.held.length) y.1.2)).toArray, .slice y.2.1 ((pump c window).2.length) y.2.2]) (fun y => [bm B (.slice y.1.1 ((pump c window).1.r.held.length) y.1.2) 2 ((pump c window).1.r.held.map pC), a9 B 105 13 (.slice y.2.1 ((pump c window).2.length) y.2.2) ((pump c window).2.map aj)]) := by
 obtain ⟨Z,Y,hY⟩ := hZ.form
 rw [List.length_map] at hY; subst hY
 have hJ := hZ.len; rw [List.length_map] at hJ
 have hqcrh := Sl.capLe hZ
 refine cn (args := [.agg (a6 c (cS Z c Y)).toArray,iI window]) (fn := Tryz.f99) [cH Z c Y] Tryz.func99 rfl Tryz.ntmps99 rfl (by simp only [List.mem_cons,List.not_mem_nil,or_false,forall_eq_or_imp,forall_eq]; exact ⟨rfl,hZ⟩) ?_
 refine kQ <| cm [1,2,4] ⟨[(1,aI window),(2,.p 0 0),(4,.p 1 0)],[⟨41,a6 c (cS Z c Y)⟩,⟨41,cN⟩],[],[cH Z c Y]⟩ <| kQ <| dR 1 [1,2,4,10] [(10,.v (.agg (a6 c (cS Z c Y)).toArray))] 28 [.agg (a6 c (cS Z c Y)).toArray] (some 11) rfl (cb fun ww hw hf => d2 c (cS Z c Y) ww (hf _ m0) (by assumption) w.heap.size hw) ?_
 rintro ⟨v1a,v1c⟩
 refine bC [1,2,4] [] 0 ⟨41,a6 c (cS v1a c v1c)⟩ <| kQ <| kHD 0 [1,2,4] [] rfl (aH (e := 105) (K := 13) (bytes := 104) [] (rs := ([] : List Seg).map aj) rfl rfl) ?_
 intro g2
 refine aW [1,2,4,6] [(6,.v (.slice (some ⟨g2,0,none⟩) 0 0))] <| kS <| kQ <| dR 1 [1,2,4,6,13] [(13,.v (.agg (a6 c (cS v1a c v1c)).toArray))] 37 [.agg (a6 c (cS v1a c v1c)).toArray] (some 14) rfl (aA fun ww hf => e8 c (cS v1a c v1c) ww (Own.sl (hf _ m1)) (by assumption) (by omega)) ?_
 intro _
 refine di 2 [1,2,4,6,16] [(16,aB (!(aX c)))] <| kP 16 (!(aX c)) (fun h3 => ?_) (fun h3 => ?_)
 have h3n := bS h3
 refine aW [1,2,4,6,25] [(25,aB true)] <| kT <| kQ <| bC [4,5] [(5,.v (.slice (some ⟨g2,0,none⟩) 0 0))] 1 ⟨41,a6 c (cS v1a c v1c)⟩ ?_
 refine kR ?_
 have hmod : pump c window = (c,([] : List Seg)) := by first | (simp [pump, *]; done) | exact pump_yes hok hs8 hs7 hS hL (by first | exact HT.symm | (unfold tmr; rw [show L.isEmpty = decide (L.length = 0) from by cases L <;> rfl]; simp only [decide_eq_true_eq]; split <;> (try split) <;> omega))
 exact ⟨[.agg (a6 c (cS v1a c v1c)).toArray,.slice (some ⟨g2,0,none⟩) 0 0],by kernel_rfl,fun w' hb hf ha => by rw [hmod]; exact xo2 ((v1a,v1c),(((some ⟨g2,0,none⟩) : Option Addr),0)) rfl rfl (pO (hf _ m1) hB) (pW (hf _ m0) hB) (Apart.sub2 ha (i := 1) (j := 0) rfl rfl (by decide) rfl (fun b h => h) (fun b h => h)) hb⟩
 have h3n := aF h3
 refine di 5 [1,2,4,6,21] [(21,aB (c.state == 8))] <| kP 21 (c.state == 8) (fun h4 => ?_) (fun h4 => ?_)
 have h4p := cI h4
 refine aW [1,2,4,6,25] [(25,aB true)] <| kT <| kQ <| bC [4,5] [(5,.v (.slice (some ⟨g2,0,none⟩) 0 0))] 1 ⟨41,a6 c (cS v1a c v1c)⟩ ?_
 refine kR ?_
 have hmod : pump c window = (c,([] : List Seg)) := by first | (simp [pump, *]; done) | exact pump_yes hok hs8 hs7 hS hL (by first | exact HT.symm | (unfold tmr; rw [show L.isEmpty = decide (L.length = 0) from by cases L <;> rfl]; simp only [decide_eq_true_eq]; split <;> (try split) <;> omega))
 exact ⟨[.agg (a6 c (cS v1a c v1c)).toArray,.slice (some ⟨g2,0,none⟩) 0 0],by kernel_rfl,fun w' hb hf ha => by rw [hmod]; exact xo2 ((v1a,v1c),(((some ⟨g2,0,none⟩) : Option Addr),0)) rfl rfl (pO (hf _ m1) hB) (pW (hf _ m0) hB) (Apart.sub2 ha (i := 1) (j := 0) rfl rfl (by decide) rfl (fun b h => h) (fun b h => h)) hb⟩
 have h4p := cB h4
 refine aW [1,2,4,6,25] [(25,aB (c.state == 7))] <| kC (c.state == 7) (fun h5 => ?_) (fun h5 => ?_)
 have h5p := cI h5
 refine kQ <| bC [4,5] [(5,.v (.slice (some ⟨g2,0,none⟩) 0 0))] 1 ⟨41,a6 c (cS v1a c v1c)⟩ <| kR ?_
 have hmod : pump c window = (c,([] : List Seg)) := by first | (simp [pump, *]; done) | exact pump_yes hok hs8 hs7 hS hL (by first | exact HT.symm | (unfold tmr; rw [show L.isEmpty = decide (L.length = 0) from by cases L <;> rfl]; simp only [decide_eq_true_eq]; split <;> (try split) <;> omega))
 exact ⟨[.agg (a6 c (cS v1a c v1c)).toArray,.slice (some ⟨g2,0,none⟩) 0 0],by kernel_rfl,fun w' hb hf ha => by rw [hmod]; exact xo2 ((v1a,v1c),(((some ⟨g2,0,none⟩) : Option Addr),0)) rfl rfl (pO (hf _ m1) hB) (pW (hf _ m0) hB) (Apart.sub2 ha (i := 1) (j := 0) rfl rfl (by decide) rfl (fun b h => h) (fun b h => h)) hb⟩
 have h5p := cB h5
 refine kK <| ao ?_
 have hok : aX c = true := by simp_all
 have hs8 : ¬ c.state = 8 := by simp_all
 have hs7 : ¬ c.state = 7 := by simp_all
 refine bc (α := {x : Snd × List Seg × Int × Option Addr × Nat // (fun (s : Snd) (L : List Seg) (t : Int) (A : Option Addr) (cap : Nat) => (dY c.s window (bP c.o)).1 = (dY s window (bP c.o)).1 ∧ (dY c.s window (bP c.o)).2.map (gm c) = L ++ (dY s window (bP c.o)).2.map (gm c) ∧ L.length + meas s ≤ 49 ∧ t = tmr c L) x.1 x.2.1 x.2.2.1 x.2.2.2.1 x.2.2.2.2}) (fun x => (fun (s : Snd) (L : List Seg) (t : Int) (A : Option Addr) (cap : Nat) => (⟨[(1,aI window),(2,.p 0 0),(4,.p 1 0),(6,.v (.slice A L.length cap))],[⟨41,a6 { c with s := s,timer := t } (cS v1a c v1c)⟩,⟨41,cN⟩],[],[a9 w.heap.size 105 13 (.slice A L.length cap) (L.map aj),bm w.heap.size (cS v1a c v1c) 2 (c.r.held.map pC),cH Z c Y]⟩ : St)) x.1.1 x.1.2.1 x.1.2.2.1 x.1.2.2.2.1 x.1.2.2.2.2) (fun x => (fun (s : Snd) (L : List Seg) (t : Int) (A : Option Addr) (cap : Nat) => meas s) x.1.1 x.1.2.1 x.1.2.2.1 x.1.2.2.2.1 x.1.2.2.2.2) ⟨(c.s,([] : List Seg),c.timer,(some ⟨g2,0,none⟩),0),⟨rfl,rfl,(by have := meas_le (conOk_s hok); simp only [List.length_nil]; omega),rfl⟩⟩ (eW [0,1,2] <| kF 2 0 [1,2,4,6]) ?_
 rintro ⟨⟨s,L,t,A,cap⟩,HS,HL,HR,HT⟩
 try dsimp only
 try dsimp only at HS HL HR HT
 refine ao <| kS <| ba ⟨[(1,aI window),(2,.p 0 0),(4,.p 1 0),(6,.v (.slice A L.length cap)),(7,.p 2 0),(8,aB ((nC s window (bP c.o)).2))],[⟨41,a6 { c with s := s,timer := t } (cS v1a c v1c)⟩,⟨41,cN⟩,⟨134,cq (nC s window (bP c.o)).1⟩],[],[a9 w.heap.size 105 13 (.slice A L.length cap) (L.map aj),bm w.heap.size (cS v1a c v1c) 2 (c.r.held.map pC),cH Z c Y]⟩ ?_ ?_
 refine bN [] (by kernel_rfl) (fun ρ σ => ?_)
 refine d9 [0,1,2,3] [32,31,30,1,2,4,6] 8 [(32,.v (.agg (a6 { c with s := s,timer := t } (cS v1a c v1c)).toArray)),(31,aI window),(30,.v (.agg (ai s).toArray))] <| kA [4,9] ⟨?_,?_⟩
 refine du 4 119 [.agg (a6 { c with s := s,timer := t } (cS v1a c v1c)).toArray] (some 33) rfl (aA fun ww hf => ysMssFor_c ({ c with s := s,timer := t }) (cS v1a c v1c) ww ) ?_
 intro _
 refine kA [5,9] ⟨?_,?_⟩
 refine du 5 113 [.agg (ai s).toArray,iI window,iI (bP c.o)] (some 34) rfl (aA fun ww hf => dJ s window (bP c.o) ww  (by first | omega | (rw [al (by omega) (by omega)]; omega))) ?_
 intro _
 refine d9 [6,7,8] [36,35,1,2,4,6] 3 [(36,aB ((nC s window (bP c.o)).2)),(35,.v (.agg (cq (nC s window (bP c.o)).1).toArray))] <| kA [9] <| da 9 ⟨134,cq (⟨0,(⟨#[]⟩ : ByteArray),false⟩ : Chk)⟩ _ rfl (by kernel_rfl) (by kernel_rfl) (by kernel_rfl) (by kernel_rfl) rfl ?_
 refine kA [10] <| dg 10 2 0 (cq (nC s window (bP c.o)).1) rfl <| cJ [11] [8,7,1,2,4,6] 0 [(8,aB ((nC s window (bP c.o)).2)),(7,.p 2 0),(1,aI window),(2,.p 0 0),(4,.p 1 0),(6,.v (.slice A L.length cap))] <| kZ ?_
 exact kF 3 0 [1,2,4,6,7,8]
 refine da 9 ⟨134,cq (⟨0,(⟨#[]⟩ : ByteArray),false⟩ : Chk)⟩ _ rfl (by kernel_rfl) (by kernel_rfl) (by kernel_rfl) (by kernel_rfl) rfl ?_
 refine kA [5] <| du 5 113 [.agg (ai s).toArray,iI window,iI (bP c.o)] (some 34) rfl (aA fun ww hf => dJ s window (bP c.o) ww  (by first | omega | (rw [al (by omega) (by omega)]; omega))) ?_
 intro _
 refine d9 [6,7,8] [36,35,7,1,2,4,6] 2 [(36,aB ((nC s window (bP c.o)).2)),(35,.v (.agg (cq (nC s window (bP c.o)).1).toArray))] <| kA [10] <| dg 10 2 0 (cq (nC s window (bP c.o)).1) rfl <| cJ [11] [8,7,1,2,4,6] 0 [(8,aB ((nC s window (bP c.o)).2)),(7,.p 2 0),(1,aI window),(2,.p 0 0),(4,.p 1 0),(6,.v (.slice A L.length cap))] ?_
 refine kZ ?_
 exact kF 3 0 [1,2,4,6,7,8]
 refine da 9 ⟨134,cq (⟨0,(⟨#[]⟩ : ByteArray),false⟩ : Chk)⟩ _ rfl (by kernel_rfl) (by kernel_rfl) (by kernel_rfl) (by kernel_rfl) rfl ?_
 refine kA [4] <| du 4 119 [.agg (a6 { c with s := s,timer := t } (cS v1a c v1c)).toArray] (some 33) rfl (aA fun ww hf => ysMssFor_c ({ c with s := s,timer := t }) (cS v1a c v1c) ww ) ?_
 intro _
 refine kA [5] <| du 5 113 [.agg (ai s).toArray,iI window,iI (bP c.o)] (some 34) rfl (aA fun ww hf => dJ s window (bP c.o) ww  (by first | omega | (rw [al (by omega) (by omega)]; omega))) ?_
 intro _
 refine d9 [6,7,8] [36,35,7,1,2,4,6] 2 [(36,aB ((nC s window (bP c.o)).2)),(35,.v (.agg (cq (nC s window (bP c.o)).1).toArray))] <| kA [10] <| dg 10 2 0 (cq (nC s window (bP c.o)).1) rfl <| cJ [11] [8,7,1,2,4,6] 0 [(8,aB ((nC s window (bP c.o)).2)),(7,.p 2 0),(1,aI window),(2,.p 0 0),(4,.p 1 0),(6,.v (.slice A L.length cap))] ?_
 refine kZ ?_
 exact kF 3 0 [1,2,4,6,7,8]
 refine kS <| kQ <| aW [1,2,4,6,7,38] [(38,aB (!((nC s window (bP c.o)).2)))] <| kC (!((nC s window (bP c.o)).2)) (fun h6 => ?_) (fun h6 => ?_)
 have hno := bS h6
 have hS := pumpS_end hno HS
 have hL := pumpL_end hno HL
 refine kQ <| cm [4,5] ⟨[(4,.p 1 0),(5,.v (.slice A L.length cap))],[⟨41,a6 { c with s := s,timer := t } (cS v1a c v1c)⟩,⟨41,a6 { c with s := s,timer := t } (cS v1a c v1c)⟩,⟨134,cq (nC s window (bP c.o)).1⟩],[],[a9 w.heap.size 105 13 (.slice A L.length cap) (L.map aj),bm w.heap.size (cS v1a c v1c) 2 (c.r.held.map pC),cH Z c Y]⟩ <| kR ?_
 have hmod : pump c window = (({ c with s := s,timer := t }),L) := by first | (simp [pump, *]; done) | exact pump_yes hok hs8 hs7 hS hL (by first | exact HT.symm | (unfold tmr; rw [show L.isEmpty = decide (L.length = 0) from by cases L <;> rfl]; simp only [decide_eq_true_eq]; split <;> (try split) <;> omega))
 exact ⟨[.agg (a6 { c with s := s,timer := t } (cS v1a c v1c)).toArray,.slice A L.length cap],by kernel_rfl,fun w' hb hf ha => by rw [hmod]; exact xo2 ((v1a,v1c),(A,cap)) rfl rfl (pO (hf _ m1) hB) (pW (hf _ m0) hB) (Apart.sub2 ha (i := 1) (j := 0) rfl rfl (by decide) rfl (fun b h => h) (fun b h => h)) hb⟩
 have hyes := aF h6
 refine kK <| kQ <| dN 1 [1,2,4,6,7,41] [(1,aI window),(2,.p 0 0),(4,.p 1 0),(6,.v (.slice A L.length cap)),(7,.p 2 0),(41,.v (.agg (a6 { c with s := s,timer := t } (cS v1a c v1c)).toArray))] 101 [.agg (a6 { c with s := s,timer := t } (cS v1a c v1c)).toArray] (some 42) rfl (aA fun ww hf => fq ({ c with s := s,timer := t }) (cS v1a c v1c) ww (Own.sl (hf _ m1)) (by first | omega | (dsimp only; omega))) ?_
 intro _
 refine gk [1,2,4,6,7,9] [(9,.p 3 0)] [⟨105,[iI c.t.my,iI c.t.port,iI (ac s),iI c.r.next,iI 16,iI (wO c.r),iI 0,iI (-1),.bool false,.bool false,iI 0,iI 0,.string (⟨#[]⟩ : ByteArray)]⟩] <| kQ <| bC [1,2,4,6,7,9] [] 3 ⟨105,[iI c.t.my,iI c.t.port,iI ((nC s window (bP c.o)).1.seq),iI c.r.next,iI 16,iI (wO c.r),iI 0,iI (-1),.bool false,.bool false,iI 0,iI 0,.string (⟨#[]⟩ : ByteArray)]⟩ <| kQ <| bC [1,2,4,6,7,9] [] 3 ⟨105,[iI c.t.my,iI c.t.port,iI ((nC s window (bP c.o)).1.seq),iI c.r.next,iI 16,iI (wO c.r),iI 0,iI (-1),.bool false,.bool false,iI 0,iI 0,.string ((nC s window (bP c.o)).1.text)]⟩ ?_
 refine kS <| dZ (α := {zz : Int // (fun (ka : Int) => ka = segFl (nC s window (bP c.o)).1 false) zz}) (fun zz => (fun (ka : Int) => (⟨[(1,aI window),(2,.p 0 0),(4,.p 1 0),(6,.v (.slice A L.length cap)),(7,.p 2 0),(9,.p 3 0)],[⟨41,a6 { c with s := s,timer := t } (cS v1a c v1c)⟩,⟨41,cN⟩,⟨134,cq (nC s window (bP c.o)).1⟩,⟨105,[iI c.t.my,iI c.t.port,iI ((nC s window (bP c.o)).1.seq),iI c.r.next,iI ka,iI (wO c.r),iI 0,iI (-1),.bool false,.bool false,iI 0,iI 0,.string ((nC s window (bP c.o)).1.text)]⟩],[],[a9 w.heap.size 105 13 (.slice A L.length cap) (L.map aj),bm w.heap.size (cS v1a c v1c) 2 (c.r.held.map pC),cH Z c Y]⟩ : St)) zz.1) ?_ ?_
 refine kQ <| aW [1,2,4,6,7,9,51] [(51,aB (!(((nC s window (bP c.o)).1.text).toList == (⟨#[]⟩ : ByteArray).toList)))] <| kC (!(((nC s window (bP c.o)).1.text).toList == (⟨#[]⟩ : ByteArray).toList)) (fun h7 => ?_) (fun h7 => ?_)
 have hT : (nC s window (bP c.o)).1.text.toList.isEmpty = false := by simpa [bt] using h7
 refine kG <| bC [1,2,4,6,7,9] [] 3 ⟨105,[iI c.t.my,iI c.t.port,iI ((nC s window (bP c.o)).1.seq),iI c.r.next,iI 24,iI (wO c.r),iI 0,iI (-1),.bool false,.bool false,iI 0,iI 0,.string ((nC s window (bP c.o)).1.text)]⟩ ?_
 exact ⟨⟨(24),(by first | (simp [segFl,hT]; done) | (rw [hF,hka]; simp [segFl]; done) | (rw [hF]; exact hka))⟩,kF 4 0 [1,2,4,6,7,9]⟩
 have hT : (nC s window (bP c.o)).1.text.toList.isEmpty = true := by simpa [bt] using h7
 refine kK ?_
 exact ⟨⟨(16),(by first | (simp [segFl,hT]; done) | (rw [hF,hka]; simp [segFl]; done) | (rw [hF]; exact hka))⟩,kF 4 0 [1,2,4,6,7,9]⟩
 rintro ⟨ka,hka⟩
 try dsimp only
 try dsimp only at hka
 refine kS <| dZ (α := {zz : Int // (fun (kb : Int) => kb = segFl (nC s window (bP c.o)).1 (nC s window (bP c.o)).1.fin) zz}) (fun zz => (fun (kb : Int) => (⟨[(1,aI window),(2,.p 0 0),(4,.p 1 0),(6,.v (.slice A L.length cap)),(7,.p 2 0),(9,.p 3 0)],[⟨41,a6 { c with s := s,timer := t } (cS v1a c v1c)⟩,⟨41,cN⟩,⟨134,cq (nC s window (bP c.o)).1⟩,⟨105,[iI c.t.my,iI c.t.port,iI ((nC s window (bP c.o)).1.seq),iI c.r.next,iI kb,iI (wO c.r),iI 0,iI (-1),.bool false,.bool false,iI 0,iI 0,.string ((nC s window (bP c.o)).1.text)]⟩],[],[a9 w.heap.size 105 13 (.slice A L.length cap) (L.map aj),bm w.heap.size (cS v1a c v1c) 2 (c.r.held.map pC),cH Z c Y]⟩ : St)) zz.1) ?_ ?_
 refine kQ <| aW [1,2,4,6,7,9,57] [(57,aB ((nC s window (bP c.o)).1.fin))] <| kC ((nC s window (bP c.o)).1.fin) (fun h8 => ?_) (fun h8 => ?_)
 have hF := h8
 refine kG <| kRB 5 [1,2,4,6,7,9] [(1,aI window),(2,.p 0 0),(4,.p 1 0),(6,.v (.slice A L.length cap)),(7,.p 2 0),(9,.p 3 0)] [⟨41,a6 { c with s := s,timer := t } (cS v1a c v1c)⟩,⟨41,cN⟩,⟨134,cq (nC s window (bP c.o)).1⟩,⟨105,[iI c.t.my,iI c.t.port,iI ((nC s window (bP c.o)).1.seq),iI c.r.next,iI (K6.wrap (BitVec.ofInt 64 ka ||| BitVec.ofInt 64 1).toNat),iI (wO c.r),iI 0,iI (-1),.bool false,.bool false,iI 0,iI 0,.string ((nC s window (bP c.o)).1.text)]⟩] <| xl_eq (st' := ⟨[(1,aI window),(2,.p 0 0),(4,.p 1 0),(6,.v (.slice A L.length cap)),(7,.p 2 0),(9,.p 3 0)],[⟨41,a6 { c with s := s,timer := t } (cS v1a c v1c)⟩,⟨41,cN⟩,⟨134,cq (nC s window (bP c.o)).1⟩,⟨105,[iI c.t.my,iI c.t.port,iI ((nC s window (bP c.o)).1.seq),iI c.r.next,iI (ka + 1),iI (wO c.r),iI 0,iI (-1),.bool false,.bool false,iI 0,iI 0,.string ((nC s window (bP c.o)).1.text)]⟩],[],[a9 w.heap.size 105 13 (.slice A L.length cap) (L.map aj),bm w.heap.size (cS v1a c v1c) 2 (c.r.held.map pC),cH Z c Y]⟩) (by rw [show (K6.wrap (BitVec.ofInt 64 ka ||| BitVec.ofInt 64 1).toNat) = (ka + 1) from segFl_or hka] <;> rfl) ?_
 refine aW [1,2,4,6,7,9] [] ?_
 exact ⟨⟨(ka + 1),(by first | (simp [segFl,hT]; done) | (rw [hF,hka]; simp [segFl]; done) | (rw [hF]; exact hka))⟩,kF 4 0 [1,2,4,6,7,9]⟩
 have hF := h8
 refine kK ?_
 exact ⟨⟨(ka),(by first | (simp [segFl,hT]; done) | (rw [hF,hka]; simp [segFl]; done) | (rw [hF]; exact hka))⟩,kF 4 0 [1,2,4,6,7,9]⟩
 rintro ⟨kb,hkb⟩
 try dsimp only
 try dsimp only at hkb
 refine kQ <| kHD 2 [1,2,4,6,7,62,63] [(62,.v (.slice A L.length cap)),(63,.v (.agg #[iI c.t.my,iI c.t.port,iI ((nC s window (bP c.o)).1.seq),iI c.r.next,iI kb,iI (wO c.r),iI 0,iI (-1),.bool false,.bool false,iI 0,iI 0,.string ((nC s window (bP c.o)).1.text)]))] rfl (aH (e := 105) (K := 13) (bytes := 104) [.agg #[iI c.t.my,iI c.t.port,iI ((nC s window (bP c.o)).1.seq),iI c.r.next,iI kb,iI (wO c.r),iI 0,iI (-1),.bool false,.bool false,iI 0,iI 0,.string ((nC s window (bP c.o)).1.text)]] (rs := ([⟨c.t.my,c.t.port,(nC s window (bP c.o)).1.seq,c.r.next,kb,wO c.r,⟨0,(-1),false,false,0,0⟩,(nC s window (bP c.o)).1.text⟩] : List Seg).map aj) rfl rfl) ?_
 intro g9
 refine kHD 0 [1,2,4,6,7,62,64] [] rfl (aE (e := 105) (K := 13) (bytes := 104) (i := 1) (q := (L ++ ([⟨c.t.my,c.t.port,(nC s window (bP c.o)).1.seq,c.r.next,kb,wO c.r,⟨0,(-1),false,false,0,0⟩,(nC s window (bP c.o)).1.text⟩] : List Seg)).length) (new := ([⟨c.t.my,c.t.port,(nC s window (bP c.o)).1.seq,c.r.next,kb,wO c.r,⟨0,(-1),false,false,0,0⟩,(nC s window (bP c.o)).1.text⟩] : List Seg).map aj) (rs' := (L ++ ([⟨c.t.my,c.t.port,(nC s window (bP c.o)).1.seq,c.r.next,kb,wO c.r,⟨0,(-1),false,false,0,0⟩,(nC s window (bP c.o)).1.text⟩] : List Seg)).map aj) rfl rfl rfl rfl (by kernel_rfl) (by kernel_rfl) (by kernel_rfl) rfl (by simp) (by rw [List.map_append]) (by simp) (fun ww hf => (ax (hf (a9 w.heap.size 105 13 (.slice (some ⟨g9,0,none⟩) 1 1) (([⟨c.t.my,c.t.port,(nC s window (bP c.o)).1.seq,c.r.next,kb,wO c.r,⟨0,(-1),false,false,0,0⟩,(nC s window (bP c.o)).1.text⟩] : List Seg).map aj)) (by simp)))) (by intro r hr; obtain ⟨x,hx,rfl⟩ := List.mem_map.1 hr; exact ⟨rfl,by simp [aj,Value.oneCell']⟩) (by (try simp only [List.length_map,List.length_append,List.length_cons,List.length_nil,List.length_take,List.length_drop,maxLen]); omega) (by (try simp only [List.length_map,List.length_append,List.length_cons,List.length_nil,List.length_take,List.length_drop,maxLen]); omega)) ?_
 rintro ⟨v10a,v10c⟩
 refine aW [1,2,4,6,7] [(6,.v (.slice v10a ((L ++ ([⟨c.t.my,c.t.port,(nC s window (bP c.o)).1.seq,c.r.next,kb,wO c.r,⟨0,(-1),false,false,0,0⟩,(nC s window (bP c.o)).1.text⟩] : List Seg)).length) v10c))] <| kQ <| dR 3 [1,2,4,6,67,68] [(67,.v (.agg (ai s).toArray)),(68,.v (.agg (cq (nC s window (bP c.o)).1).toArray))] 114 [.agg (ai s).toArray,.agg (cq (nC s window (bP c.o)).1).toArray] (some 69) rfl (aA fun ww hf => fY s ((nC s window (bP c.o)).1) ww  ) ?_
 intro _
 refine bC [1,2,4,6] [] 0 ⟨41,a6 { c with s := (sO s ((nC s window (bP c.o)).1)),timer := t } (cS v1a c v1c)⟩ <| kQ <| aW [1,2,4,6,73] [(73,aB (t == 0))] <| kC (t == 0) (fun h11 => ?_) (fun h11 => ?_)
 have h11p := cI h11
 refine kG <| bC [1,2,4,6] [] 0 ⟨41,a6 { c with s := (sO s ((nC s window (bP c.o)).1)),timer := 3 } (cS v1a c v1c)⟩ ?_
 have hrow : gm c (nC s window (bP c.o)).1 = ⟨c.t.my,c.t.port,(nC s window (bP c.o)).1.seq,c.r.next,kb,wO c.r,⟨0,(-1),false,false,0,0⟩,(nC s window (bP c.o)).1.text⟩ := by rw [hkb]; rfl
 exact ⟨⟨(sO s (nC s window (bP c.o)).1,(L ++ ([⟨c.t.my,c.t.port,(nC s window (bP c.o)).1.seq,c.r.next,kb,wO c.r,⟨0,(-1),false,false,0,0⟩,(nC s window (bP c.o)).1.text⟩] : List Seg)),3,v10a,v10c),⟨pumpS_step hyes HS,pumpL_step hyes hrow HL,row_len HR (fH hyes),tmr_next HT (by (try dsimp only); split <;> omega)⟩⟩,eW [0,2,3] <| kF 2 0 [1,2,4,6],by show (fun (s : Snd) (L : List Seg) (t : Int) (A : Option Addr) (cap : Nat) => meas s) (sO s (nC s window (bP c.o)).1) (L ++ ([⟨c.t.my,c.t.port,(nC s window (bP c.o)).1.seq,c.r.next,kb,wO c.r,⟨0,(-1),false,false,0,0⟩,(nC s window (bP c.o)).1.text⟩] : List Seg)) 3 v10a v10c < meas s; exact fH hyes⟩
 have h11p := cB h11
 refine kK ?_
 have hrow : gm c (nC s window (bP c.o)).1 = ⟨c.t.my,c.t.port,(nC s window (bP c.o)).1.seq,c.r.next,kb,wO c.r,⟨0,(-1),false,false,0,0⟩,(nC s window (bP c.o)).1.text⟩ := by rw [hkb]; rfl
 exact ⟨⟨(sO s (nC s window (bP c.o)).1,(L ++ ([⟨c.t.my,c.t.port,(nC s window (bP c.o)).1.seq,c.r.next,kb,wO c.r,⟨0,(-1),false,false,0,0⟩,(nC s window (bP c.o)).1.text⟩] : List Seg)),t,v10a,v10c),⟨pumpS_step hyes HS,pumpL_step hyes hrow HL,row_len HR (fH hyes),tmr_next HT (by (try dsimp only); split <;> omega)⟩⟩,eW [0,2,3] <| kF 2 0 [1,2,4,6],by show (fun (s : Snd) (L : List Seg) (t : Int) (A : Option Addr) (cap : Nat) => meas s) (sO s (nC s window (bP c.o)).1) (L ++ ([⟨c.t.my,c.t.port,(nC s window (bP c.o)).1.seq,c.r.next,kb,wO c.r,⟨0,(-1),false,false,0,0⟩,(nC s window (bP c.o)).1.text⟩] : List Seg)) t v10a v10c < meas s; exact fH hyes⟩
theorem ysShut_c (c : Con) (rV : Value) (w : World) (hZ : Sl w rV 2 (c.r.held.map pC)) (hkn : c.r.held.length ≤ 1048576)(hm : ∀ p ∈ c.r.held, p.text.size ≤ 1048576) (hsz : c.r.data.size ≤ 4611686018427387904) (B : Nat) (hB : B ≤ w.heap.size) : Calls Tryz.prog 79 #[.agg (a6 c rV).toArray] w fun e w' => XRs w w' e (α := (Option Addr × Nat) × (Option Addr × Nat)) (fun y => .tuple #[.agg (a6 (shut c).1 (.slice y.1.1 ((shut c).1.r.held.length) y.1.2)).toArray, .slice y.2.1 ((shut c).2.length) y.2.2]) (fun y => [bm B (.slice y.1.1 ((shut c).1.r.held.length) y.1.2) 2 ((shut c).1.r.held.map pC), bm B (.slice y.2.1 ((shut c).2.length) y.2.2) 13 ((shut c).2.map aj)]) := by
 obtain ⟨Z,Y,hY⟩ := hZ.form
 rw [List.length_map] at hY; subst hY
 have hJ := hZ.len; rw [List.length_map] at hJ
 have hqcrh := Sl.capLe hZ
 refine cn (args := [.agg (a6 c (cS Z c Y)).toArray]) (fn := Tryz.f79) [cH Z c Y] Tryz.func79 rfl Tryz.ntmps79 rfl (by simp only [List.mem_cons,List.not_mem_nil,or_false,forall_eq_or_imp,forall_eq]; exact ⟨rfl,hZ⟩) ?_
 refine kQ <| cm [1,2] ⟨[(1,.p 0 0),(2,.p 1 0)],[⟨41,a6 c (cS Z c Y)⟩,⟨41,cN⟩],[],[cH Z c Y]⟩ <| kQ <| dN 1 [1,2,5] [(1,.p 0 0),(2,.p 1 0),(5,.v (.agg (a6 c (cS Z c Y)).toArray))] 28 [.agg (a6 c (cS Z c Y)).toArray] (some 6) rfl (cb fun ww hw hf => d2 c (cS Z c Y) ww (hf _ m0) (by assumption) w.heap.size hw) ?_
 rintro ⟨v1a,v1c⟩
 refine cm [1,2,4] ⟨[(1,.p 0 0),(2,.p 1 0),(4,.p 2 0)],[⟨41,a6 c (cS Z c Y)⟩,⟨41,cN⟩,⟨41,a6 c (cS v1a c v1c)⟩],[],[bm w.heap.size (cS v1a c v1c) 2 (c.r.held.map pC),cH Z c Y]⟩ <| kS <| kS <| ba ⟨[(1,.p 0 0),(2,.p 1 0),(4,.p 2 0),(19,aB ((!(aX c)) || ((c.state != 1) && (c.state != 4))))],[⟨41,a6 c (cS Z c Y)⟩,⟨41,cN⟩,⟨41,a6 c (cS v1a c v1c)⟩],[],[bm w.heap.size (cS v1a c v1c) 2 (c.r.held.map pC),cH Z c Y]⟩ ?_ ?_
 refine kG <| dN 1 [1,2,4,7] [(1,.p 0 0),(2,.p 1 0),(4,.p 2 0),(7,.v (.agg (a6 c (cS Z c Y)).toArray))] 37 [.agg (a6 c (cS Z c Y)).toArray] (some 8) rfl (aA fun ww hf => e8 c (cS Z c Y) ww (hf _ m1) (by assumption) (by omega)) ?_
 intro _
 refine dt 2 [1,2,4,10] [(1,.p 0 0),(2,.p 1 0),(4,.p 2 0),(10,aB (!(aX c)))] <| kP 10 (!(aX c)) (fun h2 => ?_) (fun h2 => ?_)
 have h2n := bS h2
 refine aT [1,2,4,19] [(1,.p 0 0),(2,.p 1 0),(4,.p 2 0),(19,aB true)] ?_
 show Wk _ _
 try rw [h2]
 exact kF 3 0 [1,2,4,19]
 have h2n := aF h2
 have h2nc : aX c = true := (by simpa using h2n)
 have h2nq := gq h2nc; obtain ⟨h2nq0,h2nq1,h2nq2,h2nq3,h2nq4,h2nq5,h2nq6,h2nq7,h2nq8,h2nq9⟩ := h2nq
 refine dt 4 [1,2,4,10,14] [(1,.p 0 0),(2,.p 1 0),(4,.p 2 0),(10,aB false),(14,aB (c.state != 1))] <| kP 14 (c.state != 1) (fun h3 => ?_) (fun h3 => ?_)
 have h3p := neT h3
 refine aT [1,2,4,19] [(1,.p 0 0),(2,.p 1 0),(4,.p 2 0),(19,aB (c.state != 4))] ?_
 show Wk _ _
 try rw [h2]
 try rw [h3]
 exact kF 3 0 [1,2,4,19]
 have h3p := neF h3
 refine aT [1,2,4,19] [(1,.p 0 0),(2,.p 1 0),(4,.p 2 0),(19,aB false)] ?_
 show Wk _ _
 try rw [h2]
 try rw [h3]
 exact kF 3 0 [1,2,4,19]
 refine kC ((!(aX c)) || ((c.state != 1) && (c.state != 4))) (fun h4 => ?_) (fun h4 => ?_)
 refine kQ <| kHS 1 [2,20] [(2,.p 1 0),(20,.v (.agg (a6 c (cS v1a c v1c)).toArray))] rfl (aH (e := 105) (K := 13) (bytes := 104) [] (rs := ([] : List Seg).map aj) rfl rfl) ?_
 intro g5
 refine cm [2,3] ⟨[(2,.p 1 0),(3,.v (.slice (some ⟨g5,0,none⟩) 0 0))],[⟨41,a6 c (cS Z c Y)⟩,⟨41,a6 c (cS v1a c v1c)⟩,⟨41,a6 c (cS v1a c v1c)⟩],[],[a9 w.heap.size 105 13 (.slice (some ⟨g5,0,none⟩) 0 0) (([] : List Seg).map aj),bm w.heap.size (cS v1a c v1c) 2 (c.r.held.map pC),cH Z c Y]⟩ <| kR ?_
 have hmod : shut c = (c,([] : List Seg)) := by first | rfl | (simp [shut, *]; done) | grind [shut]
 exact ⟨[.agg (a6 c (cS v1a c v1c)).toArray,.slice (some ⟨g5,0,none⟩) 0 0],by kernel_rfl,fun w' hb hf ha => by rw [hmod]; exact xo2 ((v1a,v1c),(((some ⟨g5,0,none⟩) : Option Addr),0)) rfl rfl (pO (hf _ m1) hB) (pR (hf _ m0) hB) (Apart.sub2 ha (i := 1) (j := 0) rfl rfl (by decide) rfl (fun b h => h) (fun b h => bO h)) hb⟩
 have h4l := fa h4
 have h4ln := aF h4l
 have h4lnc : aX c = true := (by simpa using h4ln)
 have h4lnq := gq h4lnc; obtain ⟨h4lnq0,h4lnq1,h4lnq2,h4lnq3,h4lnq4,h4lnq5,h4lnq6,h4lnq7,h4lnq8,h4lnq9⟩ := h4lnq
 have h4r := fc h4
 refine kK <| kQ <| cm [1,2,4] ⟨[(1,.p 0 0),(2,.p 1 0),(4,.p 2 0)],[⟨41,a6 c (cS Z c Y)⟩,⟨41,cN⟩,⟨41,a6 { c with s := { c.s with fin := true } } (cS v1a c v1c)⟩],[],[bm w.heap.size (cS v1a c v1c) 2 (c.r.held.map pC),cH Z c Y]⟩ <| kQ <| cm [1,2,4] ⟨[(1,.p 0 0),(2,.p 1 0),(4,.p 2 0)],[⟨41,a6 c (cS Z c Y)⟩,⟨41,cN⟩,⟨41,a6 { c with state := 2,s := { c.s with fin := true } } (cS v1a c v1c)⟩],[],[bm w.heap.size (cS v1a c v1c) 2 (c.r.held.map pC),cH Z c Y]⟩ ?_
 refine kS <| kQ <| aT [2,4,27] [(2,.p 1 0),(4,.p 2 0),(27,aB (c.state == 4))] <| ba ⟨[(2,.p 1 0),(4,.p 2 0)],[⟨41,a6 c (cS Z c Y)⟩,⟨41,cN⟩,⟨41,a6 { c with state := if (c.state == 4) = true then 6 else 2,s := { c.s with fin := true } } (cS v1a c v1c)⟩],[],[bm w.heap.size (cS v1a c v1c) 2 (c.r.held.map pC),cH Z c Y]⟩ ?_ ?_
 refine kC (c.state == 4) (fun h6 => ?_) (fun h6 => ?_)
 have h6p := cI h6
 refine kG <| cm [2,4] ⟨[(2,.p 1 0),(4,.p 2 0)],[⟨41,a6 c (cS Z c Y)⟩,⟨41,cN⟩,⟨41,a6 { c with state := 6,s := { c.s with fin := true } } (cS v1a c v1c)⟩],[],[bm w.heap.size (cS v1a c v1c) 2 (c.r.held.map pC),cH Z c Y]⟩ ?_
 show Wk _ _; rw [h6]; exact kF 3 0 [2,4]
 have h6p := cB h6
 refine kK ?_
 show Wk _ _; rw [h6]; exact kF 3 0 [2,4]
 refine kQ <| dN 3 [2,29,31] [(2,.p 1 0),(29,.v (.agg (a6 { c with state := if (c.state == 4) = true then 6 else 2,s := { c.s with fin := true } } (cS v1a c v1c)).toArray)),(31,aI c.window)] 99 [.agg (a6 { c with state := if (c.state == 4) = true then 6 else 2,s := { c.s with fin := true } } (cS v1a c v1c)).toArray,iI c.window] (some 32) rfl (cb fun ww hw hf => fC ({ c with state := if (c.state == 4) = true then 6 else 2,s := { c.s with fin := true } }) (cS v1a c v1c) c.window ww (Own.sl (hf _ m0)) (by assumption) (by assumption) (by omega) (by omega) w.heap.size hw) ?_
 rintro ⟨⟨v7a,v7c⟩,⟨v8a,v8c⟩⟩
 have hbd9 : (pump ({ c with state := if (c.state == 4) = true then 6 else 2,s := { c.s with fin := true } }) c.window).1.r.held.length ≤ 1048576 ∧ (pump ({ c with state := if (c.state == 4) = true then 6 else 2,s := { c.s with fin := true } }) c.window).2.length ≤ 49 := fm _ _  (by omega)
 have hbd9a := hbd9.1; have hbd9b := hbd9.2
 refine cm [2,3] ⟨[(2,.p 1 0),(3,.v (.slice v8a ((pump ({ c with state := if (c.state == 4) = true then 6 else 2,s := { c.s with fin := true } }) c.window).2.length) v8c))],[⟨41,a6 c (cS Z c Y)⟩,⟨41,a6 (pump ({ c with state := if (c.state == 4) = true then 6 else 2,s := { c.s with fin := true } }) c.window).1 (.slice v7a ((pump ({ c with state := if (c.state == 4) = true then 6 else 2,s := { c.s with fin := true } }) c.window).1.r.held.length) v7c)⟩,⟨41,a6 { c with state := if (c.state == 4) = true then 6 else 2,s := { c.s with fin := true } } (cS v1a c v1c)⟩],[],[bm w.heap.size (.slice v7a ((pump ({ c with state := if (c.state == 4) = true then 6 else 2,s := { c.s with fin := true } }) c.window).1.r.held.length) v7c) 2 ((pump ({ c with state := if (c.state == 4) = true then 6 else 2,s := { c.s with fin := true } }) c.window).1.r.held.map pC),a9 w.heap.size 105 13 (.slice v8a ((pump ({ c with state := if (c.state == 4) = true then 6 else 2,s := { c.s with fin := true } }) c.window).2.length) v8c) ((pump ({ c with state := if (c.state == 4) = true then 6 else 2,s := { c.s with fin := true } }) c.window).2.map aj),bm w.heap.size (cS v1a c v1c) 2 (c.r.held.map pC),cH Z c Y]⟩ <| kR ?_
 have hmod : shut c = (((pump ({ c with state := if (c.state == 4) = true then 6 else 2,s := { c.s with fin := true } }) c.window).1),((pump ({ c with state := if (c.state == 4) = true then 6 else 2,s := { c.s with fin := true } }) c.window).2)) := by first | rfl | (simp [shut, *]; done) | grind [shut]
 exact ⟨[.agg (a6 (pump ({ c with state := if (c.state == 4) = true then 6 else 2,s := { c.s with fin := true } }) c.window).1 (.slice v7a ((pump ({ c with state := if (c.state == 4) = true then 6 else 2,s := { c.s with fin := true } }) c.window).1.r.held.length) v7c)).toArray,.slice v8a ((pump ({ c with state := if (c.state == 4) = true then 6 else 2,s := { c.s with fin := true } }) c.window).2.length) v8c],by kernel_rfl,fun w' hb hf ha => by rw [hmod]; exact xo2 ((v7a,v7c),(v8a,v8c)) rfl rfl (pO (hf _ m0) hB) (pR (hf _ m1) hB) (Apart.sub2 ha (i := 0) (j := 1) rfl rfl (by decide) rfl (fun b h => h) (fun b h => bO h)) hb⟩
theorem ysWrite_c (c : Con) (rV : Value) (text : ByteArray) (w : World) (hZ : Sl w rV 2 (c.r.held.map pC)) (hkn : c.r.held.length ≤ 1048576)(hm : ∀ p ∈ c.r.held, p.text.size ≤ 1048576) (hsz : c.r.data.size ≤ 4611686018427387904) (hts : text.size ≤ 4611686018427387904) (B : Nat) (hB : B ≤ w.heap.size) : Calls Tryz.prog 76 #[.agg (a6 c rV).toArray, .string text] w fun e w' => XRs w w' e (α := (Option Addr × Nat) × (Option Addr × Nat)) (fun y => .tuple #[.agg (a6 (write c text).1 (.slice y.1.1 ((write c text).1.r.held.length) y.1.2)).toArray, iI ((write c text).2.1), .slice y.2.1 ((write c text).2.2.length) y.2.2]) (fun y => [bm B (.slice y.1.1 ((write c text).1.r.held.length) y.1.2) 2 ((write c text).1.r.held.map pC), bm B (.slice y.2.1 ((write c text).2.2.length) y.2.2) 13 ((write c text).2.2.map aj)]) := by
 obtain ⟨Z,Y,hY⟩ := hZ.form
 rw [List.length_map] at hY; subst hY
 have hJ := hZ.len; rw [List.length_map] at hJ
 have hqcrh := Sl.capLe hZ
 refine cn (args := [.agg (a6 c (cS Z c Y)).toArray,.string text]) (fn := Tryz.f76) [cH Z c Y] Tryz.func76 rfl Tryz.ntmps76 rfl (by simp only [List.mem_cons,List.not_mem_nil,or_false,forall_eq_or_imp,forall_eq]; exact ⟨rfl,hZ⟩) ?_
 refine kQ <| cm [1,2,4] ⟨[(1,.v (.string text)),(2,.p 0 0),(4,.p 1 0)],[⟨41,a6 c (cS Z c Y)⟩,⟨41,cN⟩],[],[cH Z c Y]⟩ <| kQ <| dN 1 [1,2,4,12] [(1,.v (.string text)),(2,.p 0 0),(4,.p 1 0),(12,.v (.agg (a6 c (cS Z c Y)).toArray))] 28 [.agg (a6 c (cS Z c Y)).toArray] (some 13) rfl (cb fun ww hw hf => d2 c (cS Z c Y) ww (hf _ m0) (by assumption) w.heap.size hw) ?_
 rintro ⟨v1a,v1c⟩
 refine cm [1,2,4,7] ⟨[(1,.v (.string text)),(2,.p 0 0),(4,.p 1 0),(7,.p 2 0)],[⟨41,a6 c (cS Z c Y)⟩,⟨41,cN⟩,⟨41,a6 c (cS v1a c v1c)⟩],[],[bm w.heap.size (cS v1a c v1c) 2 (c.r.held.map pC),cH Z c Y]⟩ <| kS <| kS <| ba ⟨[(1,.v (.string text)),(2,.p 0 0),(4,.p 1 0),(7,.p 2 0),(26,aB ((!(aX c)) || ((c.state != 1) && (c.state != 4))))],[⟨41,a6 c (cS Z c Y)⟩,⟨41,cN⟩,⟨41,a6 c (cS v1a c v1c)⟩],[],[bm w.heap.size (cS v1a c v1c) 2 (c.r.held.map pC),cH Z c Y]⟩ ?_ ?_
 refine kG <| dN 1 [1,2,4,7,14] [(1,.v (.string text)),(2,.p 0 0),(4,.p 1 0),(7,.p 2 0),(14,.v (.agg (a6 c (cS Z c Y)).toArray))] 37 [.agg (a6 c (cS Z c Y)).toArray] (some 15) rfl (aA fun ww hf => e8 c (cS Z c Y) ww (hf _ m1) (by assumption) (by omega)) ?_
 intro _
 refine dt 2 [1,2,4,7,17] [(1,.v (.string text)),(2,.p 0 0),(4,.p 1 0),(7,.p 2 0),(17,aB (!(aX c)))] <| kP 17 (!(aX c)) (fun h2 => ?_) (fun h2 => ?_)
 have h2n := bS h2
 refine aT [1,2,4,7,26] [(1,.v (.string text)),(2,.p 0 0),(4,.p 1 0),(7,.p 2 0),(26,aB true)] ?_
 show Wk _ _
 try rw [h2]
 exact kF 3 0 [1,2,4,7,26]
 have h2n := aF h2
 have h2nc : aX c = true := (by simpa using h2n)
 have h2nq := gq h2nc; obtain ⟨h2nq0,h2nq1,h2nq2,h2nq3,h2nq4,h2nq5,h2nq6,h2nq7,h2nq8,h2nq9⟩ := h2nq
 refine dt 4 [1,2,4,7,17,21] [(1,.v (.string text)),(2,.p 0 0),(4,.p 1 0),(7,.p 2 0),(17,aB false),(21,aB (c.state != 1))] <| kP 21 (c.state != 1) (fun h3 => ?_) (fun h3 => ?_)
 have h3p := neT h3
 refine aT [1,2,4,7,26] [(1,.v (.string text)),(2,.p 0 0),(4,.p 1 0),(7,.p 2 0),(26,aB (c.state != 4))] ?_
 show Wk _ _
 try rw [h2]
 try rw [h3]
 exact kF 3 0 [1,2,4,7,26]
 have h3p := neF h3
 refine aT [1,2,4,7,26] [(1,.v (.string text)),(2,.p 0 0),(4,.p 1 0),(7,.p 2 0),(26,aB false)] ?_
 show Wk _ _
 try rw [h2]
 try rw [h3]
 exact kF 3 0 [1,2,4,7,26]
 refine kC ((!(aX c)) || ((c.state != 1) && (c.state != 4))) (fun h4 => ?_) (fun h4 => ?_)
 refine kQ <| kHS 1 [4,27] [(4,.p 1 0),(27,.v (.agg (a6 c (cS v1a c v1c)).toArray))] rfl (aH (e := 105) (K := 13) (bytes := 104) [] (rs := ([] : List Seg).map aj) rfl rfl) ?_
 intro g5
 refine cm [4,5,6] ⟨[(4,.p 1 0),(5,aI 0),(6,.v (.slice (some ⟨g5,0,none⟩) 0 0))],[⟨41,a6 c (cS Z c Y)⟩,⟨41,a6 c (cS v1a c v1c)⟩,⟨41,a6 c (cS v1a c v1c)⟩],[],[a9 w.heap.size 105 13 (.slice (some ⟨g5,0,none⟩) 0 0) (([] : List Seg).map aj),bm w.heap.size (cS v1a c v1c) 2 (c.r.held.map pC),cH Z c Y]⟩ <| kR ?_
 have hmod : write c text = (c,0,([] : List Seg)) := by first | rfl | (simp [write, *]; done) | grind [write]
 exact ⟨[.agg (a6 c (cS v1a c v1c)).toArray,iI 0,.slice (some ⟨g5,0,none⟩) 0 0],by kernel_rfl,fun w' hb hf ha => by rw [hmod]; exact xo2 ((v1a,v1c),(((some ⟨g5,0,none⟩) : Option Addr),0)) rfl rfl (pO (hf _ m1) hB) (pR (hf _ m0) hB) (Apart.sub2 ha (i := 1) (j := 0) rfl rfl (by decide) rfl (fun b h => h) (fun b h => bO h)) hb⟩
 have h4l := fa h4
 have h4ln := aF h4l
 have h4lnc : aX c = true := (by simpa using h4ln)
 have h4lnq := gq h4lnc; obtain ⟨h4lnq0,h4lnq1,h4lnq2,h4lnq3,h4lnq4,h4lnq5,h4lnq6,h4lnq7,h4lnq8,h4lnq9⟩ := h4lnq
 have h4r := fc h4
 refine kK <| kQ <| dN 3 [4,7,31,32] [(4,.p 1 0),(7,.p 2 0),(31,.v (.agg (ai c.s).toArray)),(32,.v (.string text))] 98 [.agg (ai c.s).toArray,.string text] (some 33) rfl (aA fun ww hf => fA c.s text ww  (by first | omega | (rw [d4]; omega))) ?_
 intro _
 refine cm [4,7,8,9] ⟨[(4,.p 1 0),(7,.p 2 0),(8,.p 3 0),(9,aI ((aC c.s text).2))],[⟨41,a6 c (cS Z c Y)⟩,⟨41,cN⟩,⟨41,a6 c (cS v1a c v1c)⟩,⟨34,ai (aC c.s text).1⟩],[],[bm w.heap.size (cS v1a c v1c) 2 (c.r.held.map pC),cH Z c Y]⟩ <| kQ <| cm [4,7,9] ⟨[(4,.p 1 0),(7,.p 2 0),(9,aI ((aC c.s text).2))],[⟨41,a6 c (cS Z c Y)⟩,⟨41,cN⟩,⟨41,a6 { c with s := (aC c.s text).1 } (cS v1a c v1c)⟩,⟨34,ai (aC c.s text).1⟩],[],[bm w.heap.size (cS v1a c v1c) 2 (c.r.held.map pC),cH Z c Y]⟩ <| kQ <| dN 3 [4,9,39,41] [(4,.p 1 0),(9,aI ((aC c.s text).2)),(39,.v (.agg (a6 { c with s := (aC c.s text).1 } (cS v1a c v1c)).toArray)),(41,aI c.window)] 99 [.agg (a6 { c with s := (aC c.s text).1 } (cS v1a c v1c)).toArray,iI c.window] (some 42) rfl (cb fun ww hw hf => fC ({ c with s := (aC c.s text).1 }) (cS v1a c v1c) c.window ww (Own.sl (hf _ m0)) (by assumption) (by assumption) (by omega) (by omega) w.heap.size hw) ?_
 rintro ⟨⟨v6a,v6c⟩,⟨v7a,v7c⟩⟩
 have hbd8 : (pump ({ c with s := (aC c.s text).1 }) c.window).1.r.held.length ≤ 1048576 ∧ (pump ({ c with s := (aC c.s text).1 }) c.window).2.length ≤ 49 := fm _ _  (by omega)
 have hbd8a := hbd8.1; have hbd8b := hbd8.2
 refine cm [4,9,10,11] ⟨[(4,.p 1 0),(9,aI ((aC c.s text).2)),(10,.p 4 0),(11,.v (.slice v7a ((pump ({ c with s := (aC c.s text).1 }) c.window).2.length) v7c))],[⟨41,a6 c (cS Z c Y)⟩,⟨41,cN⟩,⟨41,a6 { c with s := (aC c.s text).1 } (cS v1a c v1c)⟩,⟨34,ai (aC c.s text).1⟩,⟨41,a6 (pump ({ c with s := (aC c.s text).1 }) c.window).1 (.slice v6a ((pump ({ c with s := (aC c.s text).1 }) c.window).1.r.held.length) v6c)⟩],[],[bm w.heap.size (.slice v6a ((pump ({ c with s := (aC c.s text).1 }) c.window).1.r.held.length) v6c) 2 ((pump ({ c with s := (aC c.s text).1 }) c.window).1.r.held.map pC),a9 w.heap.size 105 13 (.slice v7a ((pump ({ c with s := (aC c.s text).1 }) c.window).2.length) v7c) ((pump ({ c with s := (aC c.s text).1 }) c.window).2.map aj),bm w.heap.size (cS v1a c v1c) 2 (c.r.held.map pC),cH Z c Y]⟩ <| kQ <| cm [4,5,6] ⟨[(4,.p 1 0),(5,aI ((aC c.s text).2)),(6,.v (.slice v7a ((pump ({ c with s := (aC c.s text).1 }) c.window).2.length) v7c))],[⟨41,a6 c (cS Z c Y)⟩,⟨41,a6 (pump ({ c with s := (aC c.s text).1 }) c.window).1 (.slice v6a ((pump ({ c with s := (aC c.s text).1 }) c.window).1.r.held.length) v6c)⟩,⟨41,a6 { c with s := (aC c.s text).1 } (cS v1a c v1c)⟩,⟨34,ai (aC c.s text).1⟩,⟨41,a6 (pump ({ c with s := (aC c.s text).1 }) c.window).1 (.slice v6a ((pump ({ c with s := (aC c.s text).1 }) c.window).1.r.held.length) v6c)⟩],[],[bm w.heap.size (.slice v6a ((pump ({ c with s := (aC c.s text).1 }) c.window).1.r.held.length) v6c) 2 ((pump ({ c with s := (aC c.s text).1 }) c.window).1.r.held.map pC),a9 w.heap.size 105 13 (.slice v7a ((pump ({ c with s := (aC c.s text).1 }) c.window).2.length) v7c) ((pump ({ c with s := (aC c.s text).1 }) c.window).2.map aj),bm w.heap.size (cS v1a c v1c) 2 (c.r.held.map pC),cH Z c Y]⟩ <| kR ?_
 have hmod : write c text = (((pump ({ c with s := (aC c.s text).1 }) c.window).1),((aC c.s text).2),((pump ({ c with s := (aC c.s text).1 }) c.window).2)) := by first | rfl | (simp [write, *]; done) | grind [write]
 exact ⟨[.agg (a6 (pump ({ c with s := (aC c.s text).1 }) c.window).1 (.slice v6a ((pump ({ c with s := (aC c.s text).1 }) c.window).1.r.held.length) v6c)).toArray,iI ((aC c.s text).2),.slice v7a ((pump ({ c with s := (aC c.s text).1 }) c.window).2.length) v7c],by kernel_rfl,fun w' hb hf ha => by rw [hmod]; exact xo2 ((v6a,v6c),(v7a,v7c)) rfl rfl (pO (hf _ m0) hB) (pR (hf _ m1) hB) (Apart.sub2 ha (i := 0) (j := 1) rfl rfl (by decide) rfl (fun b h => h) (fun b h => bO h)) hb⟩
theorem ysTickConn_c (c : Con) (rV : Value) (w : World) (hZ : Sl w rV 2 (c.r.held.map pC)) (hkn : c.r.held.length ≤ 1048576)(hm : ∀ p ∈ c.r.held, p.text.size ≤ 1048576) (hsz : c.r.data.size ≤ 4611686018427387904) (B : Nat) (hB : B ≤ w.heap.size) : Calls Tryz.prog 78 #[.agg (a6 c rV).toArray] w fun e w' => XRs w w' e (α := (Option Addr × Nat) × (Option Addr × Nat)) (fun y => .tuple #[.agg (a6 (aK c).1 (.slice y.1.1 ((aK c).1.r.held.length) y.1.2)).toArray, .slice y.2.1 ((aK c).2.length) y.2.2]) (fun y => [bm B (.slice y.1.1 ((aK c).1.r.held.length) y.1.2) 2 ((aK c).1.r.held.map pC), bm B (.slice y.2.1 ((aK c).2.length) y.2.2) 13 ((aK c).2.map aj)]) := by
 obtain ⟨Z,Y,hY⟩ := hZ.form
 rw [List.length_map] at hY; subst hY
 have hJ := hZ.len; rw [List.length_map] at hJ
 have hqcrh := Sl.capLe hZ
 refine cn (args := [.agg (a6 c (cS Z c Y)).toArray]) (fn := Tryz.f78) [cH Z c Y] Tryz.func78 rfl Tryz.ntmps78 rfl (by simp only [List.mem_cons,List.not_mem_nil,or_false,forall_eq_or_imp,forall_eq]; exact ⟨rfl,hZ⟩) ?_
 refine kQ <| cm [1,2] ⟨[(1,.p 0 0),(2,.p 1 0)],[⟨41,a6 c (cS Z c Y)⟩,⟨41,cN⟩],[],[cH Z c Y]⟩ <| kQ <| dR 1 [1,2,9] [(9,.v (.agg (a6 c (cS Z c Y)).toArray))] 28 [.agg (a6 c (cS Z c Y)).toArray] (some 10) rfl (cb fun ww hw hf => d2 c (cS Z c Y) ww (hf _ m0) (by assumption) w.heap.size hw) ?_
 rintro ⟨v1a,v1c⟩
 refine gk [1,2,4] [(4,.p 2 0)] [⟨41,a6 c (cS v1a c v1c)⟩] <| kQ <| kHD 0 [1,2,4] [] rfl (aH (e := 105) (K := 13) (bytes := 104) [] (rs := ([] : List Seg).map aj) rfl rfl) ?_
 intro g2
 refine aW [1,2,4,5] [(5,.v (.slice (some ⟨g2,0,none⟩) 0 0))] <| kS <| kQ <| dR 1 [1,2,4,5,12] [(12,.v (.agg (a6 c (cS Z c Y)).toArray))] 100 [.agg (a6 c (cS Z c Y)).toArray] (some 13) rfl (aA fun ww hf => ysWaits_c c (cS Z c Y) ww (hf _ m2) (by assumption) (by omega)) ?_
 intro _
 refine aW [1,2,4,5,14] [(14,aB (!(waits c)))] <| kC (!(waits c)) (fun h3 => ?_) (fun h3 => ?_)
 have h3n := bS h3
 refine kS <| kQ <| dR 1 [2,4,5,15] [(15,.v (.agg (a6 c (cS Z c Y)).toArray))] 37 [.agg (a6 c (cS Z c Y)).toArray] (some 16) rfl (aA fun ww hf => e8 c (cS Z c Y) ww (hf _ m2) (by assumption) (by omega)) ?_
 intro _
 refine aW [2,4,5,16] [] <| kC (aX c) (fun h4 => ?_) (fun h4 => ?_)
 have h4c : aX c = true := (by simpa using h4)
 have h4q := gq h4c; obtain ⟨h4q0,h4q1,h4q2,h4q3,h4q4,h4q5,h4q6,h4q7,h4q8,h4q9⟩ := h4q
 refine kQ <| bC [2,4,5] [] 2 ⟨41,a6 { c with timer := 0 } (cS v1a c v1c)⟩ <| kG <| bC [2,4,5] [] 2 ⟨41,a6 { c with timer := 0,tries := 0 } (cS v1a c v1c)⟩ ?_
 refine kQ <| cm [2,3] ⟨[(2,.p 1 0),(3,.v (.slice (some ⟨g2,0,none⟩) 0 0))],[⟨41,a6 c (cS Z c Y)⟩,⟨41,a6 { c with timer := 0,tries := 0 } (cS v1a c v1c)⟩,⟨41,a6 { c with timer := 0,tries := 0 } (cS v1a c v1c)⟩],[],[a9 w.heap.size 105 13 (.slice (some ⟨g2,0,none⟩) 0 0) (([] : List Seg).map aj),bm w.heap.size (cS v1a c v1c) 2 (c.r.held.map pC),cH Z c Y]⟩ <| kR ?_
 have hmod : aK c = (({ c with timer := 0,tries := 0 }),([] : List Seg)) := by first | rfl | (simp [aK,c8, *]; done) | (simp [aK,c8, *]; omega) | grind [aK,c8]
 exact ⟨[.agg (a6 { c with timer := 0,tries := 0 } (cS v1a c v1c)).toArray,.slice (some ⟨g2,0,none⟩) 0 0],by kernel_rfl,fun w' hb hf ha => by rw [hmod]; exact xo2 ((v1a,v1c),(((some ⟨g2,0,none⟩) : Option Addr),0)) rfl rfl (pO (hf _ m1) hB) (pR (hf _ m0) hB) (Apart.sub2 ha (i := 1) (j := 0) rfl rfl (by decide) rfl (fun b h => h) (fun b h => bO h)) hb⟩
 refine kK <| kQ <| bC [2,3] [(3,.v (.slice (some ⟨g2,0,none⟩) 0 0))] 1 ⟨41,a6 c (cS v1a c v1c)⟩ <| kR ?_
 have hmod : aK c = (c,([] : List Seg)) := by first | rfl | (simp [aK,c8, *]; done) | (simp [aK,c8, *]; omega) | grind [aK,c8]
 exact ⟨[.agg (a6 c (cS v1a c v1c)).toArray,.slice (some ⟨g2,0,none⟩) 0 0],by kernel_rfl,fun w' hb hf ha => by rw [hmod]; exact xo2 ((v1a,v1c),(((some ⟨g2,0,none⟩) : Option Addr),0)) rfl rfl (pO (hf _ m1) hB) (pR (hf _ m0) hB) (Apart.sub2 ha (i := 1) (j := 0) rfl rfl (by decide) rfl (fun b h => h) (fun b h => bO h)) hb⟩
 have h3n := aF h3
 have h3nc : aX c = true := waits_ok (by simpa using h3n)
 have h3nq := gq h3nc; obtain ⟨h3nq0,h3nq1,h3nq2,h3nq3,h3nq4,h3nq5,h3nq6,h3nq7,h3nq8,h3nq9⟩ := h3nq
 refine kK <| kS <| kQ <| aW [1,2,4,5,23] [(23,aB (c.timer == 0))] ?_
 refine kC (c.timer == 0) (fun h5 => ?_) (fun h5 => ?_)
 have h5p := cI h5
 refine kQ <| bC [1,2,4,5] [] 2 ⟨41,a6 { c with timer := 3 } (cS v1a c v1c)⟩ <| kQ <| aW [1,2,4,5,27] [(27,aB (c.state == 7))] ?_
 refine kC (c.state == 7) (fun h6 => ?_) (fun h6 => ?_)
 have h6p := cI h6
 refine kG <| bC [1,2,4,5] [] 2 ⟨41,a6 { c with timer := 4 } (cS v1a c v1c)⟩ <| kQ <| cm [1,2,4,5] ⟨[(1,.p 0 0),(2,.p 1 0),(4,.p 2 0),(5,.v (.slice (some ⟨g2,0,none⟩) 0 0))],[⟨41,a6 c (cS Z c Y)⟩,⟨41,cN⟩,⟨41,a6 { c with timer := 3 } (cS v1a c v1c)⟩],[],[a9 w.heap.size 105 13 (.slice (some ⟨g2,0,none⟩) 0 0) (([] : List Seg).map aj),bm w.heap.size (cS v1a c v1c) 2 (c.r.held.map pC),cH Z c Y]⟩ ?_
 refine kS <| kQ <| aW [1,2,4,5,35] [(35,aB true)] <| kT <| kQ <| bC [2,3] [(3,.v (.slice (some ⟨g2,0,none⟩) 0 0))] 1 ⟨41,a6 { c with timer := 3 } (cS v1a c v1c)⟩ ?_
 refine kR ?_
 have hmod : aK c = (({ c with timer := 3 }),([] : List Seg)) := by first | rfl | (simp [aK,c8, *]; done) | (simp [aK,c8, *]; omega) | grind [aK,c8]
 exact ⟨[.agg (a6 { c with timer := 3 } (cS v1a c v1c)).toArray,.slice (some ⟨g2,0,none⟩) 0 0],by kernel_rfl,fun w' hb hf ha => by rw [hmod]; exact xo2 ((v1a,v1c),(((some ⟨g2,0,none⟩) : Option Addr),0)) rfl rfl (pO (hf _ m1) hB) (pR (hf _ m0) hB) (Apart.sub2 ha (i := 1) (j := 0) rfl rfl (by decide) rfl (fun b h => h) (fun b h => bO h)) hb⟩
 have h6p := cB h6
 refine kK <| kQ <| bC [1,2,4,5] [] 2 ⟨41,a6 { c with timer := 2 } (cS v1a c v1c)⟩ <| kS <| kQ <| aT [1,2,4,5,35] [(1,.p 0 0),(2,.p 1 0),(4,.p 2 0),(5,.v (.slice (some ⟨g2,0,none⟩) 0 0)),(35,aB true)] ?_
 refine kT <| kQ <| bC [2,3] [(3,.v (.slice (some ⟨g2,0,none⟩) 0 0))] 1 ⟨41,a6 { c with timer := 2 } (cS v1a c v1c)⟩ <| kR ?_
 have hmod : aK c = (({ c with timer := 2 }),([] : List Seg)) := by first | rfl | (simp [aK,c8, *]; done) | (simp [aK,c8, *]; omega) | grind [aK,c8]
 exact ⟨[.agg (a6 { c with timer := 2 } (cS v1a c v1c)).toArray,.slice (some ⟨g2,0,none⟩) 0 0],by kernel_rfl,fun w' hb hf ha => by rw [hmod]; exact xo2 ((v1a,v1c),(((some ⟨g2,0,none⟩) : Option Addr),0)) rfl rfl (pO (hf _ m1) hB) (pR (hf _ m0) hB) (Apart.sub2 ha (i := 1) (j := 0) rfl rfl (by decide) rfl (fun b h => h) (fun b h => bO h)) hb⟩
 have h5p := cB h5
 refine kK <| kQ <| kRB 5 [1,2,4,5] [(1,.p 0 0),(2,.p 1 0),(4,.p 2 0),(5,.v (.slice (some ⟨g2,0,none⟩) 0 0))] [⟨41,a6 c (cS Z c Y)⟩,⟨41,cN⟩,⟨41,a6 { c with timer := K6.wrap (c.timer - 1) } (cS v1a c v1c)⟩] <| xl_eq (st' := ⟨[(1,.p 0 0),(2,.p 1 0),(4,.p 2 0),(5,.v (.slice (some ⟨g2,0,none⟩) 0 0))],[⟨41,a6 c (cS Z c Y)⟩,⟨41,cN⟩,⟨41,a6 { c with timer := c.timer - 1 } (cS v1a c v1c)⟩],[],[a9 w.heap.size 105 13 (.slice (some ⟨g2,0,none⟩) 0 0) (([] : List Seg).map aj),bm w.heap.size (cS v1a c v1c) 2 (c.r.held.map pC),cH Z c Y]⟩) (by rw [show (K6.wrap (c.timer - 1)) = (c.timer - 1) from al (by omega) (by omega)] <;> rfl) ?_
 refine aW [1,2,4,5] [] <| kS <| kQ <| aW [1,2,4,5,35] [(35,aB (decide ((c.timer - 1) > 0)))] ?_
 refine kC (decide ((c.timer - 1) > 0)) (fun h7 => ?_) (fun h7 => ?_)
 have h7p := of_decide_eq_true h7
 refine kQ <| bC [2,3] [(3,.v (.slice (some ⟨g2,0,none⟩) 0 0))] 1 ⟨41,a6 { c with timer := c.timer - 1 } (cS v1a c v1c)⟩ <| kR ?_
 have hmod : aK c = (({ c with timer := c.timer - 1 }),([] : List Seg)) := by first | rfl | (simp [aK,c8, *]; done) | (simp [aK,c8, *]; omega) | grind [aK,c8]
 exact ⟨[.agg (a6 { c with timer := c.timer - 1 } (cS v1a c v1c)).toArray,.slice (some ⟨g2,0,none⟩) 0 0],by kernel_rfl,fun w' hb hf ha => by rw [hmod]; exact xo2 ((v1a,v1c),(((some ⟨g2,0,none⟩) : Option Addr),0)) rfl rfl (pO (hf _ m1) hB) (pR (hf _ m0) hB) (Apart.sub2 ha (i := 1) (j := 0) rfl rfl (by decide) rfl (fun b h => h) (fun b h => bO h)) hb⟩
 have h7p := of_decide_eq_false h7
 refine kK <| kS <| kQ <| aW [1,2,4,5,40] [(40,aB (c.state == 7))] ?_
 refine kC (c.state == 7) (fun h8 => ?_) (fun h8 => ?_)
 have h8p := cI h8
 refine kQ <| bC [2,4,5] [] 2 ⟨41,a6 { c with state := 8,timer := c.timer - 1 } (cS v1a c v1c)⟩ <| kQ <| bC [2,4,5] [] 2 ⟨41,a6 { c with state := 8,timer := c.timer - 1,tries := 0 } (cS v1a c v1c)⟩ ?_
 refine kQ <| bC [2,3] [(3,.v (.slice (some ⟨g2,0,none⟩) 0 0))] 1 ⟨41,a6 { c with state := 8,timer := c.timer - 1,tries := 0 } (cS v1a c v1c)⟩ <| kR ?_
 have hmod : aK c = (({ c with state := 8,timer := c.timer - 1,tries := 0 }),([] : List Seg)) := by first | rfl | (simp [aK,c8, *]; done) | (simp [aK,c8, *]; omega) | grind [aK,c8]
 exact ⟨[.agg (a6 { c with state := 8,timer := c.timer - 1,tries := 0 } (cS v1a c v1c)).toArray,.slice (some ⟨g2,0,none⟩) 0 0],by kernel_rfl,fun w' hb hf ha => by rw [hmod]; exact xo2 ((v1a,v1c),(((some ⟨g2,0,none⟩) : Option Addr),0)) rfl rfl (pO (hf _ m1) hB) (pR (hf _ m0) hB) (Apart.sub2 ha (i := 1) (j := 0) rfl rfl (by decide) rfl (fun b h => h) (fun b h => bO h)) hb⟩
 have h8p := cB h8
 refine kK <| kS <| kQ <| aW [1,2,4,47] [(47,aB (c.tries == 3))] ?_
 refine kC (c.tries == 3) (fun h9 => ?_) (fun h9 => ?_)
 have h9p := cI h9
 refine kQ <| dR 1 [2,4,48] [(48,.v (.agg (a6 c (cS Z c Y)).toArray))] 101 [.agg (a6 c (cS Z c Y)).toArray] (some 49) rfl (aA fun ww hf => fq c (cS Z c Y) ww (hf _ m2) (by first | omega | (dsimp only; omega))) ?_
 intro _
 refine gk [2,4,6] [(6,.p 3 0)] [⟨105,[iI c.t.my,iI c.t.port,iI (ac c.s),iI c.r.next,iI 16,iI (wO c.r),iI 0,iI (-1),.bool false,.bool false,iI 0,iI 0,.string (⟨#[]⟩ : ByteArray)]⟩] <| kQ <| bC [2,4,6] [] 3 ⟨105,[iI c.t.my,iI c.t.port,iI (ac c.s),iI c.r.next,iI 20,iI (wO c.r),iI 0,iI (-1),.bool false,.bool false,iI 0,iI 0,.string (⟨#[]⟩ : ByteArray)]⟩ <| kQ <| bC [2,4,6] [] 2 ⟨41,a6 { c with state := 8,timer := c.timer - 1 } (cS v1a c v1c)⟩ ?_
 refine kQ <| bC [2,4,6] [] 2 ⟨41,a6 { c with state := 8,timer := c.timer - 1,tries := 0 } (cS v1a c v1c)⟩ <| kS <| ed (α := Nat) (fun y => (fun (g11 : Nat) => (⟨[(2,.p 1 0),(3,.v (.slice (some ⟨g11,0,none⟩) 1 1))],[⟨41,a6 c (cS Z c Y)⟩,⟨41,a6 { c with state := 8,timer := c.timer - 1,tries := 0 } (cS v1a c v1c)⟩,⟨41,a6 { c with state := 8,timer := c.timer - 1,tries := 0 } (cS v1a c v1c)⟩,⟨105,[iI c.t.my,iI c.t.port,iI (ac c.s),iI c.r.next,iI 20,iI (wO c.r),iI 0,iI (-1),.bool false,.bool false,iI 0,iI 0,.string (⟨#[]⟩ : ByteArray)]⟩],[],[a9 w.heap.size 105 13 (.slice (some ⟨g11,0,none⟩) 1 1) (([⟨c.t.my,c.t.port,ac c.s,c.r.next,20,wO c.r,⟨0,(-1),false,false,0,0⟩,(⟨#[]⟩ : ByteArray)⟩] : List Seg).map aj),a9 w.heap.size 105 13 (.slice (some ⟨g2,0,none⟩) 0 0) (([] : List Seg).map aj),bm w.heap.size (cS v1a c v1c) 2 (c.r.held.map pC),cH Z c Y]⟩ : St)) y) ?_ ?_
 refine bo [true,false,true,true] (by kernel_rfl) (fun ρ σ => ?_)
 refine cJ [0,1] [57,56,2] 3 [(57,.v (.agg #[iI c.t.my,iI c.t.port,iI (ac c.s),iI c.r.next,iI 20,iI (wO c.r),iI 0,iI (-1),.bool false,.bool false,iI 0,iI 0,.string (⟨#[]⟩ : ByteArray)])),(56,.v (.agg (a6 { c with state := 8,timer := c.timer - 1,tries := 0 } (cS v1a c v1c)).toArray)),(2,.p 1 0)] <| kA [2,3] ⟨?_,?_⟩
 refine e5 2 rfl (a5 (ap rfl (a5 (a5 a8)))) (aH (e := 105) (K := 13) (bytes := 104) [.agg #[iI c.t.my,iI c.t.port,iI (ac c.s),iI c.r.next,iI 20,iI (wO c.r),iI 0,iI (-1),.bool false,.bool false,iI 0,iI 0,.string (⟨#[]⟩ : ByteArray)]] (rs := ([⟨c.t.my,c.t.port,ac c.s,c.r.next,20,wO c.r,⟨0,(-1),false,false,0,0⟩,(⟨#[]⟩ : ByteArray)⟩] : List Seg).map aj) rfl rfl) ?_
 intro g11
 refine kA [3] <| dg 3 1 0 (a6 { c with state := 8,timer := c.timer - 1,tries := 0 } (cS v1a c v1c)) rfl <| cJ [4] [3,2] 0 [(3,.v (.slice (some ⟨g11,0,none⟩) 1 1)),(2,.p 1 0)] <| kZ ?_
 exact ⟨(g11),kF 4 0 [2,3]⟩
 refine dg 3 1 0 (a6 { c with state := 8,timer := c.timer - 1,tries := 0 } (cS v1a c v1c)) rfl <| kA [2] <| e5 2 rfl (a5 (ap rfl (a5 (a5 a8)))) (aH (e := 105) (K := 13) (bytes := 104) [.agg #[iI c.t.my,iI c.t.port,iI (ac c.s),iI c.r.next,iI 20,iI (wO c.r),iI 0,iI (-1),.bool false,.bool false,iI 0,iI 0,.string (⟨#[]⟩ : ByteArray)]] (rs := ([⟨c.t.my,c.t.port,ac c.s,c.r.next,20,wO c.r,⟨0,(-1),false,false,0,0⟩,(⟨#[]⟩ : ByteArray)⟩] : List Seg).map aj) rfl rfl) ?_
 intro g13
 refine cJ [4] [3,2] 0 [(3,.v (.slice (some ⟨g13,0,none⟩) 1 1)),(2,.p 1 0)] <| kZ ?_
 exact ⟨(g13),kF 4 0 [2,3]⟩
 intro g11
 refine kR ?_
 have hmod : aK c = (({ c with state := 8,timer := c.timer - 1,tries := 0 }),([⟨c.t.my,c.t.port,ac c.s,c.r.next,20,wO c.r,⟨0,(-1),false,false,0,0⟩,(⟨#[]⟩ : ByteArray)⟩] : List Seg)) := by first | rfl | (simp [aK,c8, *]; done) | (simp [aK,c8, *]; omega) | grind [aK,c8]
 exact ⟨[.agg (a6 { c with state := 8,timer := c.timer - 1,tries := 0 } (cS v1a c v1c)).toArray,.slice (some ⟨g11,0,none⟩) 1 1],by kernel_rfl,fun w' hb hf ha => by rw [hmod]; exact xo2 ((v1a,v1c),(((some ⟨g11,0,none⟩) : Option Addr),1)) rfl rfl (pO (hf _ m2) hB) (pR (hf _ m0) hB) (Apart.sub2 ha (i := 2) (j := 0) rfl rfl (by decide) rfl (fun b h => h) (fun b h => bO h)) hb⟩
 have h9p := cB h9
 refine kK <| kQ <| kRB 5 [1,2,4] [(1,.p 0 0),(2,.p 1 0),(4,.p 2 0)] [⟨41,a6 c (cS Z c Y)⟩,⟨41,cN⟩,⟨41,a6 { c with timer := c.timer - 1,tries := K6.wrap (c.tries + 1) } (cS v1a c v1c)⟩] <| xl_eq (st' := ⟨[(1,.p 0 0),(2,.p 1 0),(4,.p 2 0)],[⟨41,a6 c (cS Z c Y)⟩,⟨41,cN⟩,⟨41,a6 { c with timer := c.timer - 1,tries := c.tries + 1 } (cS v1a c v1c)⟩],[],[a9 w.heap.size 105 13 (.slice (some ⟨g2,0,none⟩) 0 0) (([] : List Seg).map aj),bm w.heap.size (cS v1a c v1c) 2 (c.r.held.map pC),cH Z c Y]⟩) (by rw [show (K6.wrap (c.tries + 1)) = (c.tries + 1) from al (by omega) (by omega)] <;> rfl) ?_
 refine aW [1,2,4] [] <| kQ <| dR 2 [2,4,64] [(64,.v (.agg (ai c.s).toArray))] 102 [.agg (ai c.s).toArray] (some 65) rfl (aA fun ww hf => sRewound_c c.s.una c.s.data c.s.sent c.s.fin c.s.finSent c.s.done ww ) ?_
 intro _
 refine bC [2,4] [] 2 ⟨41,a6 { c with s := (aZ c.s),timer := c.timer - 1,tries := c.tries + 1 } (cS v1a c v1c)⟩ <| kS <| ed (α := Option Addr × Nat × Option Addr × Nat) (fun y => (fun (v15a : Option Addr) (v15c : Nat) (v14a : Option Addr) (v14c : Nat) => (⟨[(2,.p 1 0),(7,.p 3 0),(8,.v (.slice v15a ((pump ({ c with s := (aZ c.s),timer := c.timer - 1,tries := c.tries + 1 }) (max 1 c.window)).2.length) v15c))],[⟨41,a6 c (cS Z c Y)⟩,⟨41,cN⟩,⟨41,a6 { c with s := (aZ c.s),timer := c.timer - 1,tries := c.tries + 1 } (cS v1a c v1c)⟩,⟨41,a6 (pump ({ c with s := (aZ c.s),timer := c.timer - 1,tries := c.tries + 1 }) (max 1 c.window)).1 (.slice v14a ((pump ({ c with s := (aZ c.s),timer := c.timer - 1,tries := c.tries + 1 }) (max 1 c.window)).1.r.held.length) v14c)⟩],[],[bm w.heap.size (.slice v14a ((pump ({ c with s := (aZ c.s),timer := c.timer - 1,tries := c.tries + 1 }) (max 1 c.window)).1.r.held.length) v14c) 2 ((pump ({ c with s := (aZ c.s),timer := c.timer - 1,tries := c.tries + 1 }) (max 1 c.window)).1.r.held.map pC),a9 w.heap.size 105 13 (.slice v15a ((pump ({ c with s := (aZ c.s),timer := c.timer - 1,tries := c.tries + 1 }) (max 1 c.window)).2.length) v15c) ((pump ({ c with s := (aZ c.s),timer := c.timer - 1,tries := c.tries + 1 }) (max 1 c.window)).2.map aj),a9 w.heap.size 105 13 (.slice (some ⟨g2,0,none⟩) 0 0) (([] : List Seg).map aj),bm w.heap.size (cS v1a c v1c) 2 (c.r.held.map pC),cH Z c Y]⟩ : St)) y.1 y.2.1 y.2.2.1 y.2.2.2) ?_ ?_
 refine bN [] (by kernel_rfl) (fun ρ σ => ?_)
 refine cJ [0,1,2] [70,68,2] 8 [(70,aI c.window),(68,.v (.agg (a6 { c with s := (aZ c.s),timer := c.timer - 1,tries := c.tries + 1 } (cS v1a c v1c)).toArray)),(2,.p 1 0)] <| kA [3,8] ⟨?_,?_⟩
 refine du 3 95 [iI 1,iI c.window] (some 71) rfl (c6 fun ww hf => e7 1 c.window ww ) ?_
 intro _
 refine kA [4,8] ⟨?_,?_⟩
 refine du 4 99 [.agg (a6 { c with s := (aZ c.s),timer := c.timer - 1,tries := c.tries + 1 } (cS v1a c v1c)).toArray,iI (max 1 c.window)] (some 72) rfl (cb fun ww hw hf => fC ({ c with s := (aZ c.s),timer := c.timer - 1,tries := c.tries + 1 }) (cS v1a c v1c) (max 1 c.window) ww (Own.sl (hf _ m1)) (by assumption) (by assumption) (by omega) (by omega) w.heap.size hw) ?_
 rintro ⟨⟨v14a,v14c⟩,⟨v15a,v15c⟩⟩
 have hbd16 : (pump ({ c with s := (aZ c.s),timer := c.timer - 1,tries := c.tries + 1 }) (max 1 c.window)).1.r.held.length ≤ 1048576 ∧ (pump ({ c with s := (aZ c.s),timer := c.timer - 1,tries := c.tries + 1 }) (max 1 c.window)).2.length ≤ 49 := fm _ _  (by omega)
 have hbd16a := hbd16.1; have hbd16b := hbd16.2
 refine cJ [5,6,7] [74,73,2] 3 [(74,.v (.slice v15a ((pump ({ c with s := (aZ c.s),timer := c.timer - 1,tries := c.tries + 1 }) (max 1 c.window)).2.length) v15c)),(73,.v (.agg (a6 (pump ({ c with s := (aZ c.s),timer := c.timer - 1,tries := c.tries + 1 }) (max 1 c.window)).1 (.slice v14a ((pump ({ c with s := (aZ c.s),timer := c.timer - 1,tries := c.tries + 1 }) (max 1 c.window)).1.r.held.length) v14c)).toArray)),(2,.p 1 0)] <| kA [8] <| da 8 ⟨41,cN⟩ _ rfl (by kernel_rfl) (by kernel_rfl) (by kernel_rfl) (by kernel_rfl) rfl ?_
 refine kA [9] <| dg 9 3 0 (a6 (pump ({ c with s := (aZ c.s),timer := c.timer - 1,tries := c.tries + 1 }) (max 1 c.window)).1 (.slice v14a ((pump ({ c with s := (aZ c.s),timer := c.timer - 1,tries := c.tries + 1 }) (max 1 c.window)).1.r.held.length) v14c)) rfl <| cJ [10] [8,7,2] 0 [(8,.v (.slice v15a ((pump ({ c with s := (aZ c.s),timer := c.timer - 1,tries := c.tries + 1 }) (max 1 c.window)).2.length) v15c)),(7,.p 3 0),(2,.p 1 0)] <| kZ ?_
 exact ⟨(v15a,v15c,v14a,v14c),kF 4 0 [2,7,8]⟩
 refine da 8 ⟨41,cN⟩ _ rfl (by kernel_rfl) (by kernel_rfl) (by kernel_rfl) (by kernel_rfl) rfl ?_
 refine kA [4] <| du 4 99 [.agg (a6 { c with s := (aZ c.s),timer := c.timer - 1,tries := c.tries + 1 } (cS v1a c v1c)).toArray,iI (max 1 c.window)] (some 72) rfl (cb fun ww hw hf => fC ({ c with s := (aZ c.s),timer := c.timer - 1,tries := c.tries + 1 }) (cS v1a c v1c) (max 1 c.window) ww (Own.sl (hf _ m1)) (by assumption) (by assumption) (by omega) (by omega) w.heap.size hw) ?_
 rintro ⟨⟨v17a,v17c⟩,⟨v18a,v18c⟩⟩
 have hbd19 : (pump ({ c with s := (aZ c.s),timer := c.timer - 1,tries := c.tries + 1 }) (max 1 c.window)).1.r.held.length ≤ 1048576 ∧ (pump ({ c with s := (aZ c.s),timer := c.timer - 1,tries := c.tries + 1 }) (max 1 c.window)).2.length ≤ 49 := fm _ _  (by omega)
 have hbd19a := hbd19.1; have hbd19b := hbd19.2
 refine cJ [5,6,7] [74,73,7,2] 2 [(74,.v (.slice v18a ((pump ({ c with s := (aZ c.s),timer := c.timer - 1,tries := c.tries + 1 }) (max 1 c.window)).2.length) v18c)),(73,.v (.agg (a6 (pump ({ c with s := (aZ c.s),timer := c.timer - 1,tries := c.tries + 1 }) (max 1 c.window)).1 (.slice v17a ((pump ({ c with s := (aZ c.s),timer := c.timer - 1,tries := c.tries + 1 }) (max 1 c.window)).1.r.held.length) v17c)).toArray)),(7,.p 3 0),(2,.p 1 0)] <| kA [9] <| dg 9 3 0 (a6 (pump ({ c with s := (aZ c.s),timer := c.timer - 1,tries := c.tries + 1 }) (max 1 c.window)).1 (.slice v17a ((pump ({ c with s := (aZ c.s),timer := c.timer - 1,tries := c.tries + 1 }) (max 1 c.window)).1.r.held.length) v17c)) rfl <| cJ [10] [8,7,2] 0 [(8,.v (.slice v18a ((pump ({ c with s := (aZ c.s),timer := c.timer - 1,tries := c.tries + 1 }) (max 1 c.window)).2.length) v18c)),(7,.p 3 0),(2,.p 1 0)] ?_
 refine kZ ?_
 exact ⟨(v18a,v18c,v17a,v17c),kF 4 0 [2,7,8]⟩
 refine da 8 ⟨41,cN⟩ _ rfl (by kernel_rfl) (by kernel_rfl) (by kernel_rfl) (by kernel_rfl) rfl ?_
 refine kA [3] <| du 3 95 [iI 1,iI c.window] (some 71) rfl (c6 fun ww hf => e7 1 c.window ww ) ?_
 intro _
 refine kA [4] <| du 4 99 [.agg (a6 { c with s := (aZ c.s),timer := c.timer - 1,tries := c.tries + 1 } (cS v1a c v1c)).toArray,iI (max 1 c.window)] (some 72) rfl (cb fun ww hw hf => fC ({ c with s := (aZ c.s),timer := c.timer - 1,tries := c.tries + 1 }) (cS v1a c v1c) (max 1 c.window) ww (Own.sl (hf _ m1)) (by assumption) (by assumption) (by omega) (by omega) w.heap.size hw) ?_
 rintro ⟨⟨v20a,v20c⟩,⟨v21a,v21c⟩⟩
 have hbd22 : (pump ({ c with s := (aZ c.s),timer := c.timer - 1,tries := c.tries + 1 }) (max 1 c.window)).1.r.held.length ≤ 1048576 ∧ (pump ({ c with s := (aZ c.s),timer := c.timer - 1,tries := c.tries + 1 }) (max 1 c.window)).2.length ≤ 49 := fm _ _  (by omega)
 have hbd22a := hbd22.1; have hbd22b := hbd22.2
 refine cJ [5,6,7] [74,73,7,2] 2 [(74,.v (.slice v21a ((pump ({ c with s := (aZ c.s),timer := c.timer - 1,tries := c.tries + 1 }) (max 1 c.window)).2.length) v21c)),(73,.v (.agg (a6 (pump ({ c with s := (aZ c.s),timer := c.timer - 1,tries := c.tries + 1 }) (max 1 c.window)).1 (.slice v20a ((pump ({ c with s := (aZ c.s),timer := c.timer - 1,tries := c.tries + 1 }) (max 1 c.window)).1.r.held.length) v20c)).toArray)),(7,.p 3 0),(2,.p 1 0)] <| kA [9] <| dg 9 3 0 (a6 (pump ({ c with s := (aZ c.s),timer := c.timer - 1,tries := c.tries + 1 }) (max 1 c.window)).1 (.slice v20a ((pump ({ c with s := (aZ c.s),timer := c.timer - 1,tries := c.tries + 1 }) (max 1 c.window)).1.r.held.length) v20c)) rfl <| cJ [10] [8,7,2] 0 [(8,.v (.slice v21a ((pump ({ c with s := (aZ c.s),timer := c.timer - 1,tries := c.tries + 1 }) (max 1 c.window)).2.length) v21c)),(7,.p 3 0),(2,.p 1 0)] ?_
 refine kZ ?_
 exact ⟨(v21a,v21c,v20a,v20c),kF 4 0 [2,7,8]⟩
 rintro ⟨v15a,v15c,v14a,v14c⟩
 refine kQ <| cm [2,7,8] ⟨[(2,.p 1 0),(7,.p 3 0),(8,.v (.slice v15a ((pump ({ c with s := (aZ c.s),timer := c.timer - 1,tries := c.tries + 1 }) (max 1 c.window)).2.length) v15c))],[⟨41,a6 c (cS Z c Y)⟩,⟨41,cN⟩,⟨41,a6 { c with s := (aZ c.s),timer := c.timer - 1,tries := c.tries + 1 } (cS v1a c v1c)⟩,⟨41,a6 { (pump ({ c with s := (aZ c.s),timer := c.timer - 1,tries := c.tries + 1 }) (max 1 c.window)).1 with timer := 3 } (.slice v14a ((pump ({ c with s := (aZ c.s),timer := c.timer - 1,tries := c.tries + 1 }) (max 1 c.window)).1.r.held.length) v14c)⟩],[],[bm w.heap.size (.slice v14a ((pump ({ c with s := (aZ c.s),timer := c.timer - 1,tries := c.tries + 1 }) (max 1 c.window)).1.r.held.length) v14c) 2 ((pump ({ c with s := (aZ c.s),timer := c.timer - 1,tries := c.tries + 1 }) (max 1 c.window)).1.r.held.map pC),a9 w.heap.size 105 13 (.slice v15a ((pump ({ c with s := (aZ c.s),timer := c.timer - 1,tries := c.tries + 1 }) (max 1 c.window)).2.length) v15c) ((pump ({ c with s := (aZ c.s),timer := c.timer - 1,tries := c.tries + 1 }) (max 1 c.window)).2.map aj),a9 w.heap.size 105 13 (.slice (some ⟨g2,0,none⟩) 0 0) (([] : List Seg).map aj),bm w.heap.size (cS v1a c v1c) 2 (c.r.held.map pC),cH Z c Y]⟩ <| kQ <| bC [2,3] [(3,.v (.slice v15a ((pump ({ c with s := (aZ c.s),timer := c.timer - 1,tries := c.tries + 1 }) (max 1 c.window)).2.length) v15c))] 1 ⟨41,a6 { (pump ({ c with s := (aZ c.s),timer := c.timer - 1,tries := c.tries + 1 }) (max 1 c.window)).1 with timer := 3 } (.slice v14a ((pump ({ c with s := (aZ c.s),timer := c.timer - 1,tries := c.tries + 1 }) (max 1 c.window)).1.r.held.length) v14c)⟩ ?_
 refine kR ?_
 have hmod : aK c = (({ (pump ({ c with s := (aZ c.s),timer := c.timer - 1,tries := c.tries + 1 }) (max 1 c.window)).1 with timer := 3 }),((pump ({ c with s := (aZ c.s),timer := c.timer - 1,tries := c.tries + 1 }) (max 1 c.window)).2)) := by first | rfl | (simp [aK,c8, *]; done) | (simp [aK,c8, *]; omega) | grind [aK,c8]
 exact ⟨[.agg (a6 { (pump ({ c with s := (aZ c.s),timer := c.timer - 1,tries := c.tries + 1 }) (max 1 c.window)).1 with timer := 3 } (.slice v14a ((pump ({ c with s := (aZ c.s),timer := c.timer - 1,tries := c.tries + 1 }) (max 1 c.window)).1.r.held.length) v14c)).toArray,.slice v15a ((pump ({ c with s := (aZ c.s),timer := c.timer - 1,tries := c.tries + 1 }) (max 1 c.window)).2.length) v15c],by kernel_rfl,fun w' hb hf ha => by rw [hmod]; exact xo2 ((v14a,v14c),(v15a,v15c)) rfl rfl (pO (hf _ m0) hB) (pR (hf _ m1) hB) (Apart.sub2 ha (i := 0) (j := 1) rfl rfl (by decide) rfl (fun b h => h) (fun b h => bO h)) hb⟩
theorem ey (n : Int) (w : World)  (B : Nat) (hB : B ≤ w.heap.size) : Calls Tryz.prog 97 #[iI n] w fun e w' => XRs w w' e (α := Option Addr × Nat) (fun y => .agg (ag (rN n) (.slice y.1 ((rN n).held.length) y.2)).toArray) (fun y => [a9 B 89 2 (.slice y.1 ((rN n).held.length) y.2) ((rN n).held.map pC)]) := by
 refine cn (args := [iI n]) (fn := Tryz.f97) [] Tryz.func97 rfl Tryz.ntmps97 rfl (by simp) ?_
 refine kQ <| cm [0,2] ⟨[(0,aI n),(2,.p 0 0)],[⟨37,eD⟩],[],[]⟩ <| kQ <| dN 1 [2,3] [(2,.p 0 0),(3,aI n)] 112 [iI n] (some 4) rfl (c6 fun ww hf => fK n ww ) ?_
 intro _
 refine kOS 0 [2,4] [(2,.p 0 0),(4,aI (n % 4294967296))] (.agg #[iI (n % 4294967296),.string (⟨#[]⟩ : ByteArray),.slice none 0 0,iI (-1),.bool false]) rfl (fun _ _ _ ww hr => bn [(0,iI (n % 4294967296)),(3,iI (-1))] hr.1 rfl (by kernel_rfl) (by kernel_rfl) ww) ?_
 refine cm [2] ⟨[(2,.p 0 0)],[⟨37,[iI (n % 4294967296),.string (⟨#[]⟩ : ByteArray),.slice none 0 0,iI (-1),.bool false]⟩],[],[]⟩ <| kR ?_
 have hmod : rN n = (⟨n % 4294967296,(⟨#[]⟩ : ByteArray),[],(-1),false⟩) := by first | rfl | (simp [rN,sA]; done)
 exact ⟨[.agg #[iI (n % 4294967296),.string (⟨#[]⟩ : ByteArray),.slice none 0 0,iI (-1),.bool false]],by kernel_rfl,fun w' hb hf ha => by rw [hmod]; exact xo1 ((none,0)) rfl rfl ⟨rowF_nil _ _ _ _,fun b hb => (nilF_b _ _ _ _ hb).elim⟩ hb⟩
theorem ysConnNew_c (t : Tup) (iss : Int) (irs : Int) (o : Opt) (window : Int) (w : World)  (B : Nat) (hB : B ≤ w.heap.size) : Calls Tryz.prog 73 #[.agg (bX t).toArray, iI iss, iI irs, .agg (dH o).toArray, iI window] w fun e w' => XRs w w' e (α := Option Addr × Nat) (fun y => .agg (a6 (cD t iss irs o window) (.slice y.1 ((cD t iss irs o window).r.held.length) y.2)).toArray) (fun y => [bm B (.slice y.1 ((cD t iss irs o window).r.held.length) y.2) 2 ((cD t iss irs o window).r.held.map pC)]) := by
 refine cn (args := [.agg (bX t).toArray,iI iss,iI irs,.agg (dH o).toArray,iI window]) (fn := Tryz.f73) [] Tryz.func73 rfl Tryz.ntmps73 rfl (by simp) ?_
 refine kQ <| cm [1,2,4,5,8,10] ⟨[(1,aI iss),(2,aI irs),(4,aI window),(5,.p 0 0),(8,.p 1 0),(10,.p 2 0)],[⟨32,bX t⟩,⟨39,dH o⟩,⟨41,cN⟩],[],[]⟩ <| kS <| kQ <| dR 1 [1,2,4,5,8,10,12] [(12,.v (.agg (dH o).toArray))] 67 [.agg (dH o).toArray] (some 13) rfl (aA fun ww hf => gU o.mss o.scale o.sack o.stamp o.val o.echo ww ) ?_
 intro _
 refine aW [1,2,4,5,8,10,14] [(14,aB (!(bl o)))] <| kC (!(bl o)) (fun h1 => ?_) (fun h1 => ?_)
 have h1n := bS h1
 refine kG <| dR 0 [1,2,4,5,8,10] [] 94 [] (some 15) rfl (aA fun ww hf => f3  ww ) ?_
 intro _
 refine bC [1,2,4,5,8,10] [] 1 ⟨39,[iI 0,iI (-1),.bool false,.bool false,iI 0,iI 0]⟩ <| kS <| kQ <| dR 1 [1,2,4,5,8,10,16] [(16,aI window)] 91 [iI window,iI 16] (some 17) rfl (c6 fun ww hf => e0 window ww) ?_
 intro _
 refine aW [1,2,4,5,8,10,18] [(18,aB (!(aU window 16)))] <| kC (!(aU window 16)) (fun h2 => ?_) (fun h2 => ?_)
 have h2n := bS h2
 refine kG <| aW [1,2,4,5,8,10] [(4,aI 0)] <| kQ <| dR 3 [1,2,5,8,10,19,21] [(19,aI 0),(21,aI (-1))] 95 [iI 0,iI (-1)] (some 22) rfl (c6 fun ww hf => e7 0 (-1) ww ) ?_
 intro _
 refine gc 1 [1,2,5,8,10,19,23] [(23,.v (.int .u64 (IntKind.u64.wrap (max 0 (-1)))))] (iI (K6.wrap (0 * 2 ^ (IntKind.u64.wrap (max 0 (-1))).toNat))) rfl (fun _ _ _ ww hr => co hr.1 rfl (by kernel_rfl) (by kernel_rfl) (shl_run (k' := .u64) (by have e : ((IntKind.i64.bits : Nat) : Int) = 64 := rfl; (try rw [eM (by omega) (by omega)]); omega) (by have e : ((IntKind.i64.bits : Nat) : Int) = 64 := rfl; (try rw [eM (by omega) (by omega)]); omega) ww)) ?_
 refine dt 1 [1,2,5,8,10,11] [(1,aI iss),(2,aI irs),(5,.p 0 0),(8,.p 1 0),(10,.p 2 0),(11,aI (K6.wrap (0 * 2 ^ (IntKind.u64.wrap (max 0 (-1))).toNat)))] <| fU (t' := [(1,aI iss),(2,aI irs),(5,.p 0 0),(8,.p 1 0),(10,.p 2 0),(11,aI (0 * 2 ^ (max 0 (-1) : Int).toNat))]) (by rw [show (IntKind.u64.wrap (max 0 (-1))) = (max 0 (-1) : Int) from eM (by omega) (by omega),show (K6.wrap (0 * 2 ^ (max 0 (-1) : Int).toNat)) = (0 * 2 ^ (max 0 (-1) : Int).toNat) from far_wrap (by omega) (by omega) (by omega) (by omega)]) ?_
 refine aW [1,2,5,8,10,11] [] <| kS <| bN [true,true,false] (by kernel_rfl) (fun ρ σ => ?_)
 refine cJ [0,1,4,7,8,9] [34,33,32,29,26,25,10] 6 [(34,.v (.agg #[iI 0,iI (-1),.bool false,.bool false,iI 0,iI 0])),(33,aI (0 * 2 ^ (max 0 (-1) : Int).toNat)),(32,aI (0 * 2 ^ (max 0 (-1) : Int).toNat)),(29,aI irs),(26,aI iss),(25,.v (.agg (bX t).toArray)),(10,.p 2 0)] <| kA [2] <| du 2 96 [iI iss,iI 1] (some 27) rfl (c6 fun ww hf => bM iss 1 ww ) ?_
 intro _
 refine kX 3 (.agg #[iI (sA iss 1),.string (⟨#[]⟩ : ByteArray),iI 0,.bool false,.bool false,.bool false]) rfl (fun _ _ ww hA => bn [(0,iI (sA iss 1))] hA rfl (by kernel_rfl) (by kernel_rfl) ww) ?_
 refine kA [5] <| du 5 96 [iI irs,iI 1] (some 30) rfl (c6 fun ww hf => bM irs 1 ww ) ?_
 intro _
 refine kA [6] <| du 6 97 [iI (sA irs 1)] (some 31) rfl (cb fun ww hw hf => ey (sA irs 1) ww   w.heap.size hw) ?_
 rintro ⟨v3a,v3c⟩
 refine kX 10 (.agg #[iI t.ip,iI t.port,iI t.my,iI 1,iI (sA iss 1),.string (⟨#[]⟩ : ByteArray),iI 0,.bool false,.bool false,.bool false,iI ((rN (sA irs 1)).next),.string ((rN (sA irs 1)).data),.slice v3a ((rN (sA irs 1)).held.length) v3c,iI ((rN (sA irs 1)).fin),.bool ((rN (sA irs 1)).done),iI (0 * 2 ^ (max 0 (-1) : Int).toNat),iI (0 * 2 ^ (max 0 (-1) : Int).toNat),iI 0,iI (-1),.bool false,.bool false,iI 0,iI 0,iI 0,iI 0]) rfl (fun _ _ ww hA => bn [(0,.agg (bX t).toArray),(1,iI 1),(2,.agg #[iI (sA iss 1),.string (⟨#[]⟩ : ByteArray),iI 0,.bool false,.bool false,.bool false]),(3,.agg (ag (rN (sA irs 1)) (.slice v3a ((rN (sA irs 1)).held.length) v3c)).toArray),(4,iI (0 * 2 ^ (max 0 (-1) : Int).toNat)),(5,iI (0 * 2 ^ (max 0 (-1) : Int).toNat)),(6,.agg #[iI 0,iI (-1),.bool false,.bool false,iI 0,iI 0])] hA rfl (by kernel_rfl) (by kernel_rfl) ww) ?_
 refine kA [11] <| dg 11 2 0 [iI t.ip,iI t.port,iI t.my,iI 1,iI (sA iss 1),.string (⟨#[]⟩ : ByteArray),iI 0,.bool false,.bool false,.bool false,iI ((rN (sA irs 1)).next),.string ((rN (sA irs 1)).data),.slice v3a ((rN (sA irs 1)).held.length) v3c,iI ((rN (sA irs 1)).fin),.bool ((rN (sA irs 1)).done),iI (0 * 2 ^ (max 0 (-1) : Int).toNat),iI (0 * 2 ^ (max 0 (-1) : Int).toNat),iI 0,iI (-1),.bool false,.bool false,iI 0,iI 0,iI 0,iI 0] rfl <| kZ <| kR ?_
 have hmod : cD t iss irs o window = (⟨t,1,⟨sA iss 1,(⟨#[]⟩ : ByteArray),0,false,false,false⟩,(rN (sA irs 1)),0 * 2 ^ (max 0 (-1) : Int).toNat,0 * 2 ^ (max 0 (-1) : Int).toNat,⟨0,(-1),false,false,0,0⟩,0,0⟩) := by first | rfl | (simp [cD,cP,rN, *]; done) | grind [cD,cP,rN]
 exact ⟨[.agg #[iI t.ip,iI t.port,iI t.my,iI 1,iI (sA iss 1),.string (⟨#[]⟩ : ByteArray),iI 0,.bool false,.bool false,.bool false,iI ((rN (sA irs 1)).next),.string ((rN (sA irs 1)).data),.slice v3a ((rN (sA irs 1)).held.length) v3c,iI ((rN (sA irs 1)).fin),.bool ((rN (sA irs 1)).done),iI (0 * 2 ^ (max 0 (-1) : Int).toNat),iI (0 * 2 ^ (max 0 (-1) : Int).toNat),iI 0,iI (-1),.bool false,.bool false,iI 0,iI 0,iI 0,iI 0]],by kernel_rfl,fun w' hb hf ha => by rw [hmod]; exact xo1 ((v3a,v3c)) rfl rfl (pR (hf _ m0) hB) hb⟩
 have h2n := aF h2
 have h2nw := wordOk16_bd (by simpa using h2n)
 obtain ⟨h2nw0,h2nw1⟩ := h2nw
 refine kK <| kQ <| dR 3 [1,2,5,8,10,19,21] [(19,aI window),(21,aI (-1))] 95 [iI 0,iI (-1)] (some 22) rfl (c6 fun ww hf => e7 0 (-1) ww ) ?_
 intro _
 refine gc 1 [1,2,5,8,10,19,23] [(23,.v (.int .u64 (IntKind.u64.wrap (max 0 (-1)))))] (iI (K6.wrap (window * 2 ^ (IntKind.u64.wrap (max 0 (-1))).toNat))) rfl (fun _ _ _ ww hr => co hr.1 rfl (by kernel_rfl) (by kernel_rfl) (shl_run (k' := .u64) (by have e : ((IntKind.i64.bits : Nat) : Int) = 64 := rfl; (try rw [eM (by omega) (by omega)]); omega) (by have e : ((IntKind.i64.bits : Nat) : Int) = 64 := rfl; (try rw [eM (by omega) (by omega)]); omega) ww)) ?_
 refine di 1 [1,2,5,8,10,11] [(11,aI (K6.wrap (window * 2 ^ (IntKind.u64.wrap (max 0 (-1))).toNat)))] <| cU [1,2,5,8,10,11] [(11,aI (K6.wrap (window * 2 ^ (IntKind.u64.wrap (max 0 (-1))).toNat)))] [(11,aI (window * 2 ^ (max 0 (-1) : Int).toNat))] (by rw [show (IntKind.u64.wrap (max 0 (-1))) = (max 0 (-1) : Int) from eM (by omega) (by omega),show (K6.wrap (window * 2 ^ (max 0 (-1) : Int).toNat)) = (window * 2 ^ (max 0 (-1) : Int).toNat) from far_wrap (by omega) (by omega) (by omega) (by omega)]) (by kernel_rfl) ?_
 refine aT [1,2,5,8,10,11] [(1,aI iss),(2,aI irs),(5,.p 0 0),(8,.p 1 0),(10,.p 2 0),(11,aI (window * 2 ^ (max 0 (-1) : Int).toNat))] <| kS <| bN [true,true,false] (by kernel_rfl) (fun ρ σ => ?_)
 refine cJ [0,1,4,7,8,9] [34,33,32,29,26,25,10] 6 [(34,.v (.agg #[iI 0,iI (-1),.bool false,.bool false,iI 0,iI 0])),(33,aI (window * 2 ^ (max 0 (-1) : Int).toNat)),(32,aI (window * 2 ^ (max 0 (-1) : Int).toNat)),(29,aI irs),(26,aI iss),(25,.v (.agg (bX t).toArray)),(10,.p 2 0)] <| kA [2] <| du 2 96 [iI iss,iI 1] (some 27) rfl (c6 fun ww hf => bM iss 1 ww ) ?_
 intro _
 refine kX 3 (.agg #[iI (sA iss 1),.string (⟨#[]⟩ : ByteArray),iI 0,.bool false,.bool false,.bool false]) rfl (fun _ _ ww hA => bn [(0,iI (sA iss 1))] hA rfl (by kernel_rfl) (by kernel_rfl) ww) ?_
 refine kA [5] <| du 5 96 [iI irs,iI 1] (some 30) rfl (c6 fun ww hf => bM irs 1 ww ) ?_
 intro _
 refine kA [6] <| du 6 97 [iI (sA irs 1)] (some 31) rfl (cb fun ww hw hf => ey (sA irs 1) ww   w.heap.size hw) ?_
 rintro ⟨v4a,v4c⟩
 refine kX 10 (.agg #[iI t.ip,iI t.port,iI t.my,iI 1,iI (sA iss 1),.string (⟨#[]⟩ : ByteArray),iI 0,.bool false,.bool false,.bool false,iI ((rN (sA irs 1)).next),.string ((rN (sA irs 1)).data),.slice v4a ((rN (sA irs 1)).held.length) v4c,iI ((rN (sA irs 1)).fin),.bool ((rN (sA irs 1)).done),iI (window * 2 ^ (max 0 (-1) : Int).toNat),iI (window * 2 ^ (max 0 (-1) : Int).toNat),iI 0,iI (-1),.bool false,.bool false,iI 0,iI 0,iI 0,iI 0]) rfl (fun _ _ ww hA => bn [(0,.agg (bX t).toArray),(1,iI 1),(2,.agg #[iI (sA iss 1),.string (⟨#[]⟩ : ByteArray),iI 0,.bool false,.bool false,.bool false]),(3,.agg (ag (rN (sA irs 1)) (.slice v4a ((rN (sA irs 1)).held.length) v4c)).toArray),(4,iI (window * 2 ^ (max 0 (-1) : Int).toNat)),(5,iI (window * 2 ^ (max 0 (-1) : Int).toNat)),(6,.agg #[iI 0,iI (-1),.bool false,.bool false,iI 0,iI 0])] hA rfl (by kernel_rfl) (by kernel_rfl) ww) ?_
 refine kA [11] <| dg 11 2 0 [iI t.ip,iI t.port,iI t.my,iI 1,iI (sA iss 1),.string (⟨#[]⟩ : ByteArray),iI 0,.bool false,.bool false,.bool false,iI ((rN (sA irs 1)).next),.string ((rN (sA irs 1)).data),.slice v4a ((rN (sA irs 1)).held.length) v4c,iI ((rN (sA irs 1)).fin),.bool ((rN (sA irs 1)).done),iI (window * 2 ^ (max 0 (-1) : Int).toNat),iI (window * 2 ^ (max 0 (-1) : Int).toNat),iI 0,iI (-1),.bool false,.bool false,iI 0,iI 0,iI 0,iI 0] rfl <| kZ <| kR ?_
 have hmod : cD t iss irs o window = (⟨t,1,⟨sA iss 1,(⟨#[]⟩ : ByteArray),0,false,false,false⟩,(rN (sA irs 1)),window * 2 ^ (max 0 (-1) : Int).toNat,window * 2 ^ (max 0 (-1) : Int).toNat,⟨0,(-1),false,false,0,0⟩,0,0⟩) := by first | rfl | (simp [cD,cP,rN, *]; done) | grind [cD,cP,rN]
 exact ⟨[.agg #[iI t.ip,iI t.port,iI t.my,iI 1,iI (sA iss 1),.string (⟨#[]⟩ : ByteArray),iI 0,.bool false,.bool false,.bool false,iI ((rN (sA irs 1)).next),.string ((rN (sA irs 1)).data),.slice v4a ((rN (sA irs 1)).held.length) v4c,iI ((rN (sA irs 1)).fin),.bool ((rN (sA irs 1)).done),iI (window * 2 ^ (max 0 (-1) : Int).toNat),iI (window * 2 ^ (max 0 (-1) : Int).toNat),iI 0,iI (-1),.bool false,.bool false,iI 0,iI 0,iI 0,iI 0]],by kernel_rfl,fun w' hb hf ha => by rw [hmod]; exact xo1 ((v4a,v4c)) rfl rfl (pR (hf _ m0) hB) hb⟩
 have h1n := aF h1
 have h1nw := gN (by simpa using h1n)
 obtain ⟨h1nw0,h1nw1⟩ := h1nw
 refine kK <| kS <| kQ <| dR 1 [1,2,4,5,8,10,16] [(16,aI window)] 91 [iI window,iI 16] (some 17) rfl (c6 fun ww hf => e0 window ww) ?_
 intro _
 refine aW [1,2,4,5,8,10,18] [(18,aB (!(aU window 16)))] <| kC (!(aU window 16)) (fun h5 => ?_) (fun h5 => ?_)
 have h5n := bS h5
 refine kG <| aW [1,2,4,5,8,10] [(4,aI 0)] <| kQ <| dR 3 [1,2,5,8,10,19,21] [(19,aI 0),(21,aI o.scale)] 95 [iI 0,iI o.scale] (some 22) rfl (c6 fun ww hf => e7 0 o.scale ww ) ?_
 intro _
 refine gc 1 [1,2,5,8,10,19,23] [(23,.v (.int .u64 (IntKind.u64.wrap (max 0 o.scale))))] (iI (K6.wrap (0 * 2 ^ (IntKind.u64.wrap (max 0 o.scale)).toNat))) rfl (fun _ _ _ ww hr => co hr.1 rfl (by kernel_rfl) (by kernel_rfl) (shl_run (k' := .u64) (by have e : ((IntKind.i64.bits : Nat) : Int) = 64 := rfl; (try rw [eM (by omega) (by omega)]); omega) (by have e : ((IntKind.i64.bits : Nat) : Int) = 64 := rfl; (try rw [eM (by omega) (by omega)]); omega) ww)) ?_
 refine di 1 [1,2,5,8,10,11] [(11,aI (K6.wrap (0 * 2 ^ (IntKind.u64.wrap (max 0 o.scale)).toNat)))] <| cU [1,2,5,8,10,11] [(11,aI (K6.wrap (0 * 2 ^ (IntKind.u64.wrap (max 0 o.scale)).toNat)))] [(11,aI (0 * 2 ^ (max 0 o.scale).toNat))] (by rw [show (IntKind.u64.wrap (max 0 o.scale)) = (max 0 o.scale) from eM (by omega) (by omega),show (K6.wrap (0 * 2 ^ (max 0 o.scale).toNat)) = (0 * 2 ^ (max 0 o.scale).toNat) from far_wrap (by omega) (by omega) (by omega) (by omega)]) (by kernel_rfl) ?_
 refine aW [1,2,5,8,10,11] [] <| kS <| bN [true,true,false] (by kernel_rfl) (fun ρ σ => ?_)
 refine cJ [0,1,4,7,8,9] [34,33,32,29,26,25,10] 6 [(34,.v (.agg (dH o).toArray)),(33,aI (0 * 2 ^ (max 0 o.scale).toNat)),(32,aI (0 * 2 ^ (max 0 o.scale).toNat)),(29,aI irs),(26,aI iss),(25,.v (.agg (bX t).toArray)),(10,.p 2 0)] <| kA [2] <| du 2 96 [iI iss,iI 1] (some 27) rfl (c6 fun ww hf => bM iss 1 ww ) ?_
 intro _
 refine kX 3 (.agg #[iI (sA iss 1),.string (⟨#[]⟩ : ByteArray),iI 0,.bool false,.bool false,.bool false]) rfl (fun _ _ ww hA => bn [(0,iI (sA iss 1))] hA rfl (by kernel_rfl) (by kernel_rfl) ww) ?_
 refine kA [5] <| du 5 96 [iI irs,iI 1] (some 30) rfl (c6 fun ww hf => bM irs 1 ww ) ?_
 intro _
 refine kA [6] <| du 6 97 [iI (sA irs 1)] (some 31) rfl (cb fun ww hw hf => ey (sA irs 1) ww   w.heap.size hw) ?_
 rintro ⟨v6a,v6c⟩
 refine kX 10 (.agg #[iI t.ip,iI t.port,iI t.my,iI 1,iI (sA iss 1),.string (⟨#[]⟩ : ByteArray),iI 0,.bool false,.bool false,.bool false,iI ((rN (sA irs 1)).next),.string ((rN (sA irs 1)).data),.slice v6a ((rN (sA irs 1)).held.length) v6c,iI ((rN (sA irs 1)).fin),.bool ((rN (sA irs 1)).done),iI (0 * 2 ^ (max 0 o.scale).toNat),iI (0 * 2 ^ (max 0 o.scale).toNat),iI o.mss,iI o.scale,.bool o.sack,.bool o.stamp,iI o.val,iI o.echo,iI 0,iI 0]) rfl (fun _ _ ww hA => bn [(0,.agg (bX t).toArray),(1,iI 1),(2,.agg #[iI (sA iss 1),.string (⟨#[]⟩ : ByteArray),iI 0,.bool false,.bool false,.bool false]),(3,.agg (ag (rN (sA irs 1)) (.slice v6a ((rN (sA irs 1)).held.length) v6c)).toArray),(4,iI (0 * 2 ^ (max 0 o.scale).toNat)),(5,iI (0 * 2 ^ (max 0 o.scale).toNat)),(6,.agg (dH o).toArray)] hA rfl (by kernel_rfl) (by kernel_rfl) ww) ?_
 refine kA [11] <| dg 11 2 0 [iI t.ip,iI t.port,iI t.my,iI 1,iI (sA iss 1),.string (⟨#[]⟩ : ByteArray),iI 0,.bool false,.bool false,.bool false,iI ((rN (sA irs 1)).next),.string ((rN (sA irs 1)).data),.slice v6a ((rN (sA irs 1)).held.length) v6c,iI ((rN (sA irs 1)).fin),.bool ((rN (sA irs 1)).done),iI (0 * 2 ^ (max 0 o.scale).toNat),iI (0 * 2 ^ (max 0 o.scale).toNat),iI o.mss,iI o.scale,.bool o.sack,.bool o.stamp,iI o.val,iI o.echo,iI 0,iI 0] rfl <| kZ <| kR ?_
 have hmod : cD t iss irs o window = (⟨t,1,⟨sA iss 1,(⟨#[]⟩ : ByteArray),0,false,false,false⟩,(rN (sA irs 1)),0 * 2 ^ (max 0 o.scale).toNat,0 * 2 ^ (max 0 o.scale).toNat,o,0,0⟩) := by first | rfl | (simp [cD,cP,rN, *]; done) | grind [cD,cP,rN]
 exact ⟨[.agg #[iI t.ip,iI t.port,iI t.my,iI 1,iI (sA iss 1),.string (⟨#[]⟩ : ByteArray),iI 0,.bool false,.bool false,.bool false,iI ((rN (sA irs 1)).next),.string ((rN (sA irs 1)).data),.slice v6a ((rN (sA irs 1)).held.length) v6c,iI ((rN (sA irs 1)).fin),.bool ((rN (sA irs 1)).done),iI (0 * 2 ^ (max 0 o.scale).toNat),iI (0 * 2 ^ (max 0 o.scale).toNat),iI o.mss,iI o.scale,.bool o.sack,.bool o.stamp,iI o.val,iI o.echo,iI 0,iI 0]],by kernel_rfl,fun w' hb hf ha => by rw [hmod]; exact xo1 ((v6a,v6c)) rfl rfl (pR (hf _ m0) hB) hb⟩
 have h5n := aF h5
 have h5nw := wordOk16_bd (by simpa using h5n)
 obtain ⟨h5nw0,h5nw1⟩ := h5nw
 refine kK <| kQ <| dR 3 [1,2,5,8,10,19,21] [(19,aI window),(21,aI o.scale)] 95 [iI 0,iI o.scale] (some 22) rfl (c6 fun ww hf => e7 0 o.scale ww ) ?_
 intro _
 refine gc 1 [1,2,5,8,10,19,23] [(23,.v (.int .u64 (IntKind.u64.wrap (max 0 o.scale))))] (iI (K6.wrap (window * 2 ^ (IntKind.u64.wrap (max 0 o.scale)).toNat))) rfl (fun _ _ _ ww hr => co hr.1 rfl (by kernel_rfl) (by kernel_rfl) (shl_run (k' := .u64) (by have e : ((IntKind.i64.bits : Nat) : Int) = 64 := rfl; (try rw [eM (by omega) (by omega)]); omega) (by have e : ((IntKind.i64.bits : Nat) : Int) = 64 := rfl; (try rw [eM (by omega) (by omega)]); omega) ww)) ?_
 refine di 1 [1,2,5,8,10,11] [(11,aI (K6.wrap (window * 2 ^ (IntKind.u64.wrap (max 0 o.scale)).toNat)))] <| cU [1,2,5,8,10,11] [(11,aI (K6.wrap (window * 2 ^ (IntKind.u64.wrap (max 0 o.scale)).toNat)))] [(11,aI (window * 2 ^ (max 0 o.scale).toNat))] (by rw [show (IntKind.u64.wrap (max 0 o.scale)) = (max 0 o.scale) from eM (by omega) (by omega),show (K6.wrap (window * 2 ^ (max 0 o.scale).toNat)) = (window * 2 ^ (max 0 o.scale).toNat) from far_wrap (by omega) (by omega) (by omega) (by omega)]) (by kernel_rfl) ?_
 refine aW [1,2,5,8,10,11] [] <| kS <| bN [true,true,false] (by kernel_rfl) (fun ρ σ => ?_)
 refine cJ [0,1,4,7,8,9] [34,33,32,29,26,25,10] 6 [(34,.v (.agg (dH o).toArray)),(33,aI (window * 2 ^ (max 0 o.scale).toNat)),(32,aI (window * 2 ^ (max 0 o.scale).toNat)),(29,aI irs),(26,aI iss),(25,.v (.agg (bX t).toArray)),(10,.p 2 0)] <| kA [2] <| du 2 96 [iI iss,iI 1] (some 27) rfl (c6 fun ww hf => bM iss 1 ww ) ?_
 intro _
 refine kX 3 (.agg #[iI (sA iss 1),.string (⟨#[]⟩ : ByteArray),iI 0,.bool false,.bool false,.bool false]) rfl (fun _ _ ww hA => bn [(0,iI (sA iss 1))] hA rfl (by kernel_rfl) (by kernel_rfl) ww) ?_
 refine kA [5] <| du 5 96 [iI irs,iI 1] (some 30) rfl (c6 fun ww hf => bM irs 1 ww ) ?_
 intro _
 refine kA [6] <| du 6 97 [iI (sA irs 1)] (some 31) rfl (cb fun ww hw hf => ey (sA irs 1) ww   w.heap.size hw) ?_
 rintro ⟨v7a,v7c⟩
 refine kX 10 (.agg #[iI t.ip,iI t.port,iI t.my,iI 1,iI (sA iss 1),.string (⟨#[]⟩ : ByteArray),iI 0,.bool false,.bool false,.bool false,iI ((rN (sA irs 1)).next),.string ((rN (sA irs 1)).data),.slice v7a ((rN (sA irs 1)).held.length) v7c,iI ((rN (sA irs 1)).fin),.bool ((rN (sA irs 1)).done),iI (window * 2 ^ (max 0 o.scale).toNat),iI (window * 2 ^ (max 0 o.scale).toNat),iI o.mss,iI o.scale,.bool o.sack,.bool o.stamp,iI o.val,iI o.echo,iI 0,iI 0]) rfl (fun _ _ ww hA => bn [(0,.agg (bX t).toArray),(1,iI 1),(2,.agg #[iI (sA iss 1),.string (⟨#[]⟩ : ByteArray),iI 0,.bool false,.bool false,.bool false]),(3,.agg (ag (rN (sA irs 1)) (.slice v7a ((rN (sA irs 1)).held.length) v7c)).toArray),(4,iI (window * 2 ^ (max 0 o.scale).toNat)),(5,iI (window * 2 ^ (max 0 o.scale).toNat)),(6,.agg (dH o).toArray)] hA rfl (by kernel_rfl) (by kernel_rfl) ww) ?_
 refine kA [11] <| dg 11 2 0 [iI t.ip,iI t.port,iI t.my,iI 1,iI (sA iss 1),.string (⟨#[]⟩ : ByteArray),iI 0,.bool false,.bool false,.bool false,iI ((rN (sA irs 1)).next),.string ((rN (sA irs 1)).data),.slice v7a ((rN (sA irs 1)).held.length) v7c,iI ((rN (sA irs 1)).fin),.bool ((rN (sA irs 1)).done),iI (window * 2 ^ (max 0 o.scale).toNat),iI (window * 2 ^ (max 0 o.scale).toNat),iI o.mss,iI o.scale,.bool o.sack,.bool o.stamp,iI o.val,iI o.echo,iI 0,iI 0] rfl <| kZ <| kR ?_
 have hmod : cD t iss irs o window = (⟨t,1,⟨sA iss 1,(⟨#[]⟩ : ByteArray),0,false,false,false⟩,(rN (sA irs 1)),window * 2 ^ (max 0 o.scale).toNat,window * 2 ^ (max 0 o.scale).toNat,o,0,0⟩) := by first | rfl | (simp [cD,cP,rN, *]; done) | grind [cD,cP,rN]
 exact ⟨[.agg #[iI t.ip,iI t.port,iI t.my,iI 1,iI (sA iss 1),.string (⟨#[]⟩ : ByteArray),iI 0,.bool false,.bool false,.bool false,iI ((rN (sA irs 1)).next),.string ((rN (sA irs 1)).data),.slice v7a ((rN (sA irs 1)).held.length) v7c,iI ((rN (sA irs 1)).fin),.bool ((rN (sA irs 1)).done),iI (window * 2 ^ (max 0 o.scale).toNat),iI (window * 2 ^ (max 0 o.scale).toNat),iI o.mss,iI o.scale,.bool o.sack,.bool o.stamp,iI o.val,iI o.echo,iI 0,iI 0]],by kernel_rfl,fun w' hb hf ha => by rw [hmod]; exact xo1 ((v7a,v7c)) rfl rfl (pR (hf _ m0) hB) hb⟩
theorem ysHeard_c (c : Con) (rV : Value) (g : Seg) (w : World) (hZ : Sl w rV 2 (c.r.held.map pC)) (hkn : c.r.held.length ≤ 1048576)(hgz : g.body.size ≤ 1048576) (hm : ∀ p ∈ c.r.held, p.text.size ≤ 1048576) (hsz : c.r.data.size ≤ 4611686018427387904) (B : Nat) (hB : B ≤ w.heap.size) : Calls Tryz.prog 106 #[.agg (a6 c rV).toArray, .agg (cl g).toArray] w fun e w' => XRs w w' e (α := Option Addr × Nat) (fun y => .agg (a6 (heard c g) (.slice y.1 ((heard c g).r.held.length) y.2)).toArray) (fun y => [bm B (.slice y.1 ((heard c g).r.held.length) y.2) 2 ((heard c g).r.held.map pC)]) := by
 obtain ⟨Z,Y,hY⟩ := hZ.form
 rw [List.length_map] at hY; subst hY
 have hJ := hZ.len; rw [List.length_map] at hJ
 have hqcrh := Sl.capLe hZ
 refine cn (args := [.agg (a6 c (cS Z c Y)).toArray,.agg (cl g).toArray]) (fn := Tryz.f106) [cH Z c Y] Tryz.func106 rfl Tryz.ntmps106 rfl (by simp only [List.mem_cons,List.not_mem_nil,or_false,forall_eq_or_imp,forall_eq]; exact ⟨rfl,hZ⟩) ?_
 refine kQ <| cm [2,3,4] ⟨[(2,.p 0 0),(3,.p 1 0),(4,.p 2 0)],[⟨41,a6 c (cS Z c Y)⟩,⟨105,cl g⟩,⟨41,cN⟩],[],[cH Z c Y]⟩ <| kQ <| dR 1 [2,3,4,9] [(9,.v (.agg (a6 c (cS Z c Y)).toArray))] 28 [.agg (a6 c (cS Z c Y)).toArray] (some 10) rfl (cb fun ww hw hf => d2 c (cS Z c Y) ww (hf _ m0) (by assumption) w.heap.size hw) ?_
 rintro ⟨v1a,v1c⟩
 refine gk [2,3,4,5] [(5,.p 3 0)] [⟨41,a6 c (cS v1a c v1c)⟩] <| kS <| kQ <| dR 2 [2,3,4,5,11,12] [(11,.v (.agg (a6 c (cS Z c Y)).toArray)),(12,.v (.agg (cl g).toArray))] 104 [.agg (a6 c (cS Z c Y)).toArray,.agg (cl g).toArray] (some 13) rfl (aA fun ww hf => ysVerdict_c c (cS Z c Y) g ww (hf _ m1) (by omega) (by assumption) (by omega)) ?_
 intro _
 refine aW [2,3,4,5,14] [(14,aB ((aw c g) != 5))] <| kC ((aw c g) != 5) (fun h2 => ?_) (fun h2 => ?_)
 have h2p := neT h2
 have hv5 : ¬ aw c g = 5 := by simpa using h2
 refine kQ <| bC [4] [(4,.p 2 0)] 2 ⟨41,a6 c (cS v1a c v1c)⟩ <| kR ?_
 have hmod : heard c g = c := by first | (unfold heard; rw [if_pos hv5,← hm5]; unfold fV; rw [if_pos (by assumption)]; done) | (unfold heard; rw [if_pos hv5,← hm5]; unfold fV; rw [if_neg (by simp [*]; done),← hmr]; done) | (unfold heard; rw [if_neg hv5]; done)
 exact ⟨[.agg (a6 c (cS v1a c v1c)).toArray],by kernel_rfl,fun w' hb hf ha => by rw [hmod]; exact xo1 ((v1a,v1c)) rfl rfl (pO (hf _ m0) hB) hb⟩
 have h2p := neF h2
 have hv5 : aw c g = 5 := by simpa using h2
 obtain ⟨hc1,hc2,hc3,-⟩ := verdict_fine hv5
 have hgw := segmentOk_w hc3
 have hsc := gN (conOk_r hc1).2.1
 have hfw := farW_bd hgw (conOk_r hc1).2.1
 refine kK <| kQ <| dR 4 [2,3,4,5,18,20] [(18,.v (.agg (ai c.s).toArray)),(20,aI g.ack)] 115 [.agg (ai c.s).toArray,iI g.ack] (some 21) rfl (aA fun ww hf => ysAcked_c c.s g.ack ww  ) ?_
 intro _
 refine gk [2,3,4,5,6,7] [(6,.p 4 0),(7,aB ((bu c.s g.ack).2))] [⟨34,ai (bu c.s g.ack).1⟩] <| kS <| dZ (α := {zz : Con // (fun (m : Con) => m = d8 c g) zz}) (fun zz => (fun (m : Con) => (⟨[(2,.p 0 0),(3,.p 1 0),(4,.p 2 0),(5,.p 3 0)],[⟨41,a6 c (cS Z c Y)⟩,⟨105,cl g⟩,⟨41,cN⟩,⟨41,a6 m (cS v1a m v1c)⟩,⟨34,ai (bu c.s g.ack).1⟩],[],[bm w.heap.size (cS v1a m v1c) 2 (m.r.held.map pC),cH Z c Y]⟩ : St)) zz.1) ?_ ?_
 refine kQ <| aW [2,3,4,5,6,24] [(24,aB ((bu c.s g.ack).2))] <| kC ((bu c.s g.ack).2) (fun h3 => ?_) (fun h3 => ?_)
 refine kQ <| bC [2,3,4,5,6] [] 3 ⟨41,a6 { c with s := (bu c.s g.ack).1 } (cS v1a c v1c)⟩ <| kS <| bo [true,true,true,false,true] (by kernel_rfl) (fun ρ σ => ?_)
 refine cJ [0,1,2,3,4] [31,28,2,3,4,5,6] 6 [(31,aI c.o.scale),(28,aI g.window),(2,.p 0 0),(3,.p 1 0),(4,.p 2 0),(5,.p 3 0),(6,.p 4 0)] <| kA [5] <| du 5 95 [iI 0,iI c.o.scale] (some 32) rfl (c6 fun ww hf => e7 0 c.o.scale ww ) ?_
 intro _
 refine cJ [6] [33,28,2,3,4,5,6] 4 [(33,.v (.int .u64 (IntKind.u64.wrap (max 0 c.o.scale)))),(28,aI g.window),(2,.p 0 0),(3,.p 1 0),(4,.p 2 0),(5,.p 3 0),(6,.p 4 0)] <| xe_nv [33,28,2,3,4,5,6] [(33,.v (.int .u64 (IntKind.u64.wrap (max 0 c.o.scale))))] [(33,.v (.int .u64 (max 0 c.o.scale)))] (by rw [show (IntKind.u64.wrap (max 0 c.o.scale)) = (max 0 c.o.scale) from eM (by omega) (by omega)]) (by kernel_rfl) ?_
 refine kX 7 (iI (K6.wrap (g.window * 2 ^ (max 0 c.o.scale).toNat))) rfl (fun _ _ ww hA => co hA rfl (by kernel_rfl) (by kernel_rfl) (shl_run (k' := .u64) (by have e : ((IntKind.i64.bits : Nat) : Int) = 64 := rfl; (try rw [eM (by omega) (by omega)]); omega) (by have e : ((IntKind.i64.bits : Nat) : Int) = 64 := rfl; (try rw [eM (by omega) (by omega)]); omega) ww)) ?_
 refine xe_nv [34,33,28,2,3,4,5,6] [(34,aI (K6.wrap (g.window * 2 ^ (max 0 c.o.scale).toNat)))] [(34,aI (cP g.window c.o))] (by rw [show (K6.wrap (g.window * 2 ^ (max 0 c.o.scale).toNat)) = (cP g.window c.o) from (by unfold cP; exact far_wrap (by omega) (by omega) (by omega) (by omega))]) (by kernel_rfl) ?_
 refine kA [8] <| du 8 118 [iI 1073725440,iI (cP g.window c.o)] (some 35) rfl (c6 fun ww hf => fT 1073725440 (cP g.window c.o) ww ) ?_
 intro _
 refine xe_nv [35,34,33,28,2,3,4,5,6] [(35,aI (min 1073725440 (cP g.window c.o)))] [(35,aI (cP g.window c.o))] (by rw [show (min 1073725440 (cP g.window c.o)) = (cP g.window c.o) from (by omega)]) (by kernel_rfl) ?_
 refine cJ [9] [36,35,2,3,4,5,6] 1 [(36,.p 3 15),(35,aI (cP g.window c.o)),(2,.p 0 0),(3,.p 1 0),(4,.p 2 0),(5,.p 3 0),(6,.p 4 0)] <| kA [10] <| dg 10 3 15 [iI (cP g.window c.o)] rfl <| kZ <| kQ <| dR 4 [2,3,4,5,6,38,40] [(38,aI c.most),(40,aI (cP g.window c.o))] 95 [iI c.most,iI (cP g.window c.o)] (some 41) rfl (c6 fun ww hf => e7 c.most (cP g.window c.o) ww ) ?_
 intro _
 refine bC [2,3,4,5,6] [] 3 ⟨41,a6 { c with s := (bu c.s g.ack).1,window := cP g.window c.o,most := max c.most (cP g.window c.o) } (cS v1a c v1c)⟩ <| kQ <| dR 1 [2,3,4,5,6,43] [(43,.v (.agg (ai (bu c.s g.ack).1).toArray))] 109 [.agg (ai (bu c.s g.ack).1).toArray] (some 44) rfl (aA fun ww hf => dE ((bu c.s g.ack).1.una) ((bu c.s g.ack).1.data) ((bu c.s g.ack).1.sent) ((bu c.s g.ack).1.fin) ((bu c.s g.ack).1.finSent) ((bu c.s g.ack).1.done) ww ) ?_
 intro _
 refine aW [2,3,4,5,6,8] [(8,aI (ab ((bu c.s g.ack).1)))] <| kQ <| di 7 [2,3,4,5,8,51] [(51,aB (((bu c.s g.ack).1.una) != c.s.una))] <| kP 51 (((bu c.s g.ack).1.una) != c.s.una) (fun h4 => ?_) (fun h4 => ?_)
 have h4p := neT h4
 refine aW [2,3,4,5,8,59] [(59,aB (c.state != 7))] <| kC (c.state != 7) (fun h5 => ?_) (fun h5 => ?_)
 have h5p := neT h5
 refine kQ <| bC [2,3,4,5,8] [] 3 ⟨41,a6 { c with s := (bu c.s g.ack).1,window := cP g.window c.o,most := max c.most (cP g.window c.o),tries := 0 } (cS v1a c v1c)⟩ <| kQ <| bC [2,3,4,5,8] [] 3 ⟨41,[iI c.t.ip,iI c.t.port,iI c.t.my,iI c.state,iI ((bu c.s g.ack).1.una),.string ((bu c.s g.ack).1.data),iI ((bu c.s g.ack).1.sent),.bool ((bu c.s g.ack).1.fin),.bool ((bu c.s g.ack).1.finSent),.bool ((bu c.s g.ack).1.done),iI c.r.next,.string c.r.data,.slice v1a c.r.held.length v1c,iI c.r.fin,.bool c.r.done,iI (cP g.window c.o),iI (max c.most (cP g.window c.o)),iI c.o.mss,iI c.o.scale,.bool c.o.sack,.bool c.o.stamp,iI c.o.val,iI c.o.echo,iI 0,iI 0]⟩ ?_
 refine kQ <| aW [2,3,4,5,63] [(63,aB (decide ((ab ((bu c.s g.ack).1)) > 0)))] <| kC (decide ((ab ((bu c.s g.ack).1)) > 0)) (fun h6 => ?_) (fun h6 => ?_)
 have h6p := of_decide_eq_true h6
 refine kG <| bC [2,3,4,5] [] 3 ⟨41,[iI c.t.ip,iI c.t.port,iI c.t.my,iI c.state,iI ((bu c.s g.ack).1.una),.string ((bu c.s g.ack).1.data),iI ((bu c.s g.ack).1.sent),.bool ((bu c.s g.ack).1.fin),.bool ((bu c.s g.ack).1.finSent),.bool ((bu c.s g.ack).1.done),iI c.r.next,.string c.r.data,.slice v1a c.r.held.length v1c,iI c.r.fin,.bool c.r.done,iI (cP g.window c.o),iI (max c.most (cP g.window c.o)),iI c.o.mss,iI c.o.scale,.bool c.o.sack,.bool c.o.stamp,iI c.o.val,iI c.o.echo,iI 3,iI 0]⟩ ?_
 exact ⟨⟨(⟨c.t,c.state,(bu c.s g.ack).1,c.r,cP g.window c.o,max c.most (cP g.window c.o),c.o,3,0⟩),(by unfold d8; first | (simp [*]; done) | grind)⟩,kF 5 0 [2,3,4,5]⟩
 have h6p := of_decide_eq_false h6
 refine kK ?_
 exact ⟨⟨(⟨c.t,c.state,(bu c.s g.ack).1,c.r,cP g.window c.o,max c.most (cP g.window c.o),c.o,0,0⟩),(by unfold d8; first | (simp [*]; done) | grind)⟩,kF 5 0 [2,3,4,5]⟩
 have h5p := neF h5
 refine kK ?_
 exact ⟨⟨({ c with s := (bu c.s g.ack).1,window := cP g.window c.o,most := max c.most (cP g.window c.o) }),(by unfold d8; first | (simp [*]; done) | grind)⟩,kF 5 0 [2,3,4,5]⟩
 have h4p := neF h4
 refine di 4 [2,3,4,5,8,55] [(55,aB ((ab ((bu c.s g.ack).1)) == 0))] <| kP 55 ((ab ((bu c.s g.ack).1)) == 0) (fun h7 => ?_) (fun h7 => ?_)
 have h7p := cI h7
 refine aW [2,3,4,5,8,59] [(59,aB (c.state != 7))] <| kC (c.state != 7) (fun h8 => ?_) (fun h8 => ?_)
 have h8p := neT h8
 refine kQ <| bC [2,3,4,5,8] [] 3 ⟨41,a6 { c with s := (bu c.s g.ack).1,window := cP g.window c.o,most := max c.most (cP g.window c.o),tries := 0 } (cS v1a c v1c)⟩ <| kQ <| bC [2,3,4,5,8] [] 3 ⟨41,[iI c.t.ip,iI c.t.port,iI c.t.my,iI c.state,iI ((bu c.s g.ack).1.una),.string ((bu c.s g.ack).1.data),iI ((bu c.s g.ack).1.sent),.bool ((bu c.s g.ack).1.fin),.bool ((bu c.s g.ack).1.finSent),.bool ((bu c.s g.ack).1.done),iI c.r.next,.string c.r.data,.slice v1a c.r.held.length v1c,iI c.r.fin,.bool c.r.done,iI (cP g.window c.o),iI (max c.most (cP g.window c.o)),iI c.o.mss,iI c.o.scale,.bool c.o.sack,.bool c.o.stamp,iI c.o.val,iI c.o.echo,iI 0,iI 0]⟩ ?_
 refine kQ <| aW [2,3,4,5,63] [(63,aB (decide ((ab ((bu c.s g.ack).1)) > 0)))] <| kC (decide ((ab ((bu c.s g.ack).1)) > 0)) (fun h9 => ?_) (fun h9 => ?_)
 have h9p := of_decide_eq_true h9
 refine kG <| cm [2,3,4,5] ⟨[(2,.p 0 0),(3,.p 1 0),(4,.p 2 0),(5,.p 3 0)],[⟨41,a6 c (cS Z c Y)⟩,⟨105,cl g⟩,⟨41,cN⟩,⟨41,[iI c.t.ip,iI c.t.port,iI c.t.my,iI c.state,iI ((bu c.s g.ack).1.una),.string ((bu c.s g.ack).1.data),iI ((bu c.s g.ack).1.sent),.bool ((bu c.s g.ack).1.fin),.bool ((bu c.s g.ack).1.finSent),.bool ((bu c.s g.ack).1.done),iI c.r.next,.string c.r.data,.slice v1a c.r.held.length v1c,iI c.r.fin,.bool c.r.done,iI (cP g.window c.o),iI (max c.most (cP g.window c.o)),iI c.o.mss,iI c.o.scale,.bool c.o.sack,.bool c.o.stamp,iI c.o.val,iI c.o.echo,iI 3,iI 0]⟩,⟨34,ai (bu c.s g.ack).1⟩],[],[bm w.heap.size (cS v1a c v1c) 2 (c.r.held.map pC),cH Z c Y]⟩ ?_
 exact ⟨⟨(⟨c.t,c.state,(bu c.s g.ack).1,c.r,cP g.window c.o,max c.most (cP g.window c.o),c.o,3,0⟩),(by unfold d8; first | (simp [*]; done) | grind)⟩,kF 5 0 [2,3,4,5]⟩
 have h9p := of_decide_eq_false h9
 refine kK ?_
 exact ⟨⟨(⟨c.t,c.state,(bu c.s g.ack).1,c.r,cP g.window c.o,max c.most (cP g.window c.o),c.o,0,0⟩),(by unfold d8; first | (simp [*]; done) | grind)⟩,kF 5 0 [2,3,4,5]⟩
 have h8p := neF h8
 refine kK ?_
 exact ⟨⟨({ c with s := (bu c.s g.ack).1,window := cP g.window c.o,most := max c.most (cP g.window c.o) }),(by unfold d8; first | (simp [*]; done) | grind)⟩,kF 5 0 [2,3,4,5]⟩
 have h7p := cB h7
 refine aW [2,3,4,5,8,59] [(59,aB false)] <| kN <| kK ?_
 exact ⟨⟨({ c with s := (bu c.s g.ack).1,window := cP g.window c.o,most := max c.most (cP g.window c.o) }),(by unfold d8; first | (simp [*]; done) | grind)⟩,kF 5 0 [2,3,4,5]⟩
 refine kK ?_
 exact ⟨⟨(c),(by unfold d8; first | (simp [*]; done) | grind)⟩,kF 5 0 [2,3,4,5]⟩
 rintro ⟨m,hm5⟩
 try dsimp only
 try dsimp only at hm5
 have hmr : m.r = c.r := by rw [hm5]; exact (heardMid_eq c g).1
 have hm1 : m.r.held.length ≤ 1048576 := by rw [hmr]; exact hkn
 have hm2 : ∀ p ∈ m.r.held,p.text.size ≤ 1048576 := by rw [hmr]; exact hm
 have hm3 : m.r.data.size ≤ 4611686018427387904 := by rw [hmr]; exact hsz
 refine kS <| kQ <| dR 2 [2,3,4,5,66] [(66,aI c.state)] 63 [iI c.state,iI 1,iI 3] (some 67) rfl (c6 fun ww hf => e9 c.state 1 3 ww ) ?_
 intro _
 refine aW [2,3,4,5,67] [] <| kC (bA c.state 1 3) (fun h10 => ?_) (fun h10 => ?_)
 have h10i := inB_tt.1 (show bA c.state 1 3 = true from by simpa using h10)
 refine bo [true,true,true,false,true] (by kernel_rfl) (fun ρ σ => ?_)
 refine cJ [0,1,2,3,4,5,6] [74,73,71,69,4,5] 4 [(74,.v (.agg (cl g).toArray)),(73,.v (.string g.body)),(71,aI g.seq),(69,.v (.agg (ag c.r (cS Z c Y)).toArray)),(4,.p 2 0),(5,.p 3 0)] <| kA [7] <| du 7 105 [.agg (cl g).toArray,iI 1] (some 75) rfl (aA fun ww hf => sHas_c g.src g.dst g.seq g.ack g.flags g.window g.o.mss g.o.scale g.o.sack g.o.stamp g.o.val g.o.echo g.body 1 ww ) ?_
 intro _
 refine kA [8] <| du 8 117 [.agg (ag c.r (cS Z c Y)).toArray,iI g.seq,.string g.body,.bool (dy g.flags 1)] (some 76) rfl (cb fun ww hw hf => ysArrived_c c.r (cS Z c Y) g.seq g.body (dy g.flags 1) ww (hf _ m1) (by assumption) (by assumption) (by omega) (by omega) w.heap.size hw) ?_
 rintro ⟨v11a,v11c⟩
 have hz12 := arrived_sz (H := 1048576) (T := 1048576) (D := 4611686018427387904) (r := c.r) (seq := g.seq) (t := g.body) (fin := (dy g.flags 1)) (by assumption) (by assumption) (by assumption) (by omega) (by omega) (by omega)
 obtain ⟨hz12a,hz12b,hz12c⟩ := hz12
 refine cJ [9] [77,76,4,5] 1 [(77,.p 3 10),(76,.v (.agg (ag (ae c.r g.seq g.body (dy g.flags 1)) (.slice v11a ((ae c.r g.seq g.body (dy g.flags 1)).held.length) v11c)).toArray)),(4,.p 2 0),(5,.p 3 0)] <| kA [10] <| dg 10 3 10 (ag (ae c.r g.seq g.body (dy g.flags 1)) (.slice v11a ((ae c.r g.seq g.body (dy g.flags 1)).held.length) v11c)) rfl <| kZ <| kQ <| dR 1 [4,78] [(78,.v (.agg (a6 { m with r := (ae c.r g.seq g.body (dy g.flags 1)) } (.slice v11a ((ae c.r g.seq g.body (dy g.flags 1)).held.length) v11c)).toArray))] 126 [.agg (a6 { m with r := (ae c.r g.seq g.body (dy g.flags 1)) } (.slice v11a ((ae c.r g.seq g.body (dy g.flags 1)).held.length) v11c)).toArray] (some 79) rfl (cb fun ww hw hf => ysTurned_c ({ m with r := (ae c.r g.seq g.body (dy g.flags 1)) }) (.slice v11a ((ae c.r g.seq g.body (dy g.flags 1)).held.length) v11c) ww (ax (hf _ m0)) (by assumption) (by assumption) (by omega) w.heap.size hw) ?_
 rintro ⟨v13a,v13c⟩
 have hbd14 : (c7 ({ m with r := (ae c.r g.seq g.body (dy g.flags 1)) })).r.held.length ≤ 1048576 := turned_bd _  (by omega)
 refine bC [4] [(4,.p 2 0)] 2 ⟨41,a6 (c7 ({ m with r := (ae c.r g.seq g.body (dy g.flags 1)) })) (.slice v13a ((c7 ({ m with r := (ae c.r g.seq g.body (dy g.flags 1)) })).r.held.length) v13c)⟩ <| kR ?_
 have hmod : heard c g = (c7 ({ m with r := (ae c.r g.seq g.body (dy g.flags 1)) })) := by first | (unfold heard; rw [if_pos hv5,← hm5]; unfold fV; rw [if_pos (by assumption)]; done) | (unfold heard; rw [if_pos hv5,← hm5]; unfold fV; rw [if_neg (by simp [*]; done),← hmr]; done) | (unfold heard; rw [if_neg hv5]; done)
 exact ⟨[.agg (a6 (c7 ({ m with r := (ae c.r g.seq g.body (dy g.flags 1)) })) (.slice v13a ((c7 ({ m with r := (ae c.r g.seq g.body (dy g.flags 1)) })).r.held.length) v13c)).toArray],by kernel_rfl,fun w' hb hf ha => by rw [hmod]; exact xo1 ((v13a,v13c)) rfl rfl (pO (hf _ m0) hB) hb⟩
 have h10i := inB_ff.1 (show bA c.state 1 3 = false from by simpa using h10)
 refine kK <| kQ <| dR 1 [4,78] [(78,.v (.agg (a6 m (cS v1a m v1c)).toArray))] 126 [.agg (a6 m (cS v1a m v1c)).toArray] (some 79) rfl (cb fun ww hw hf => ysTurned_c m (cS v1a m v1c) ww (Own.sl (hf _ m0)) (by assumption) (by assumption) (by omega) w.heap.size hw) ?_
 rintro ⟨v15a,v15c⟩
 have hbd16 : (c7 m).r.held.length ≤ 1048576 := turned_bd _  (by omega)
 refine bC [4] [(4,.p 2 0)] 2 ⟨41,a6 (c7 m) (.slice v15a ((c7 m).r.held.length) v15c)⟩ <| kR ?_
 have hmod : heard c g = (c7 m) := by first | (unfold heard; rw [if_pos hv5,← hm5]; unfold fV; rw [if_pos (by assumption)]; done) | (unfold heard; rw [if_pos hv5,← hm5]; unfold fV; rw [if_neg (by simp [*]; done),← hmr]; done) | (unfold heard; rw [if_neg hv5]; done)
 exact ⟨[.agg (a6 (c7 m) (.slice v15a ((c7 m).r.held.length) v15c)).toArray],by kernel_rfl,fun w' hb hf ha => by rw [hmod]; exact xo1 ((v15a,v15c)) rfl rfl (pO (hf _ m0) hB) hb⟩
theorem ysReceive_c (c : Con) (rV : Value) (g : Seg) (w : World) (hZ : Sl w rV 2 (c.r.held.map pC)) (hkn : c.r.held.length ≤ 1048576)(hgz : g.body.size ≤ 1048576) (hm : ∀ p ∈ c.r.held, p.text.size ≤ 1048576) (hsz : c.r.data.size ≤ 4611686018427387904) (B : Nat) (hB : B ≤ w.heap.size) : Calls Tryz.prog 81 #[.agg (a6 c rV).toArray, .agg (cl g).toArray] w fun e w' => XRs w w' e (α := (Option Addr × Nat) × (Option Addr × Nat)) (fun y => .tuple #[.agg (a6 (aa c g).1 (.slice y.1.1 ((aa c g).1.r.held.length) y.1.2)).toArray, .slice y.2.1 ((aa c g).2.1.length) y.2.2, iI ((aa c g).2.2)]) (fun y => [bm B (.slice y.1.1 ((aa c g).1.r.held.length) y.1.2) 2 ((aa c g).1.r.held.map pC), bm B (.slice y.2.1 ((aa c g).2.1.length) y.2.2) 13 ((aa c g).2.1.map aj)]) := by
 obtain ⟨Z,Y,hY⟩ := hZ.form
 rw [List.length_map] at hY; subst hY
 have hJ := hZ.len; rw [List.length_map] at hJ
 have hqcrh := Sl.capLe hZ
 refine cn (args := [.agg (a6 c (cS Z c Y)).toArray,.agg (cl g).toArray]) (fn := Tryz.f81) [cH Z c Y] Tryz.func81 rfl Tryz.ntmps81 rfl (by simp only [List.mem_cons,List.not_mem_nil,or_false,forall_eq_or_imp,forall_eq]; exact ⟨rfl,hZ⟩) ?_
 refine kQ <| cm [2,3,4] ⟨[(2,.p 0 0),(3,.p 1 0),(4,.p 2 0)],[⟨41,a6 c (cS Z c Y)⟩,⟨105,cl g⟩,⟨41,cN⟩],[],[cH Z c Y]⟩ <| kQ <| dR 1 [2,3,4,13] [(13,.v (.agg (a6 c (cS Z c Y)).toArray))] 28 [.agg (a6 c (cS Z c Y)).toArray] (some 14) rfl (cb fun ww hw hf => d2 c (cS Z c Y) ww (hf _ m0) (by assumption) w.heap.size hw) ?_
 rintro ⟨v1a,v1c⟩
 refine gk [2,3,4,7] [(7,.p 3 0)] [⟨41,a6 c (cS v1a c v1c)⟩] <| kQ <| kHD 0 [2,3,4,7] [] rfl (aH (e := 105) (K := 13) (bytes := 104) [] (rs := ([] : List Seg).map aj) rfl rfl) ?_
 intro g2
 refine aW [2,3,4,7,8] [(8,.v (.slice (some ⟨g2,0,none⟩) 0 0))] <| kQ <| dR 2 [2,3,4,7,8,16,17] [(16,.v (.agg (a6 c (cS Z c Y)).toArray)),(17,.v (.agg (cl g).toArray))] 104 [.agg (a6 c (cS Z c Y)).toArray,.agg (cl g).toArray] (some 18) rfl (aA fun ww hf => ysVerdict_c c (cS Z c Y) g ww (hf _ m2) (by omega) (by assumption) (by omega)) ?_
 intro _
 refine aW [2,3,4,7,8,9] [(9,aI (aw c g))] <| kS <| kQ <| aW [2,3,4,7,8,9,19] [(19,aI (aw c g))] ?_
 refine ao <| kQ <| aW [2,3,4,7,8,9,19,20] [(20,aB ((aw c g) == 1))] <| kC ((aw c g) == 1) (fun h3 => ?_) (fun h3 => ?_)
 have h3p := cI h3
 refine kQ <| bC [4,5,6] [(5,.v (.slice (some ⟨g2,0,none⟩) 0 0)),(6,aI (aw c g))] 2 ⟨41,a6 c (cS v1a c v1c)⟩ <| kR ?_
 have hmod : aa c g = (c,([] : List Seg),(aw c g)) := by first | (simp [aa,ca,c8, *]; done) | grind [aa,ca,c8]
 exact ⟨[.agg (a6 c (cS v1a c v1c)).toArray,.slice (some ⟨g2,0,none⟩) 0 0,iI (aw c g)],by kernel_rfl,fun w' hb hf ha => by rw [hmod]; exact xo2 ((v1a,v1c),(((some ⟨g2,0,none⟩) : Option Addr),0)) rfl rfl (pO (hf _ m1) hB) (pR (hf _ m0) hB) (Apart.sub2 ha (i := 1) (j := 0) rfl rfl (by decide) rfl (fun b h => h) (fun b h => bO h)) hb⟩
 have h3p := cB h3
 refine kQ <| aW [2,3,4,7,8,9,19,25] [(25,aB ((aw c g) == 2))] <| kC ((aw c g) == 2) (fun h4 => ?_) (fun h4 => ?_)
 have h4p := cI h4
 refine kQ <| bC [4,7,8,9] [] 3 ⟨41,a6 { c with state := 8 } (cS v1a c v1c)⟩ <| kQ <| cm [4,7,8,9] ⟨[(4,.p 2 0),(7,.p 3 0),(8,.v (.slice (some ⟨g2,0,none⟩) 0 0)),(9,aI (aw c g))],[⟨41,a6 c (cS Z c Y)⟩,⟨105,cl g⟩,⟨41,cN⟩,⟨41,a6 { c with state := 8,timer := 0 } (cS v1a c v1c)⟩],[],[a9 w.heap.size 105 13 (.slice (some ⟨g2,0,none⟩) 0 0) (([] : List Seg).map aj),bm w.heap.size (cS v1a c v1c) 2 (c.r.held.map pC),cH Z c Y]⟩ ?_
 refine kQ <| bC [4,7,8,9] [] 3 ⟨41,a6 { c with state := 8,timer := 0,tries := 0 } (cS v1a c v1c)⟩ <| kQ <| bC [4,5,6] [(5,.v (.slice (some ⟨g2,0,none⟩) 0 0)),(6,aI (aw c g))] 2 ⟨41,a6 { c with state := 8,timer := 0,tries := 0 } (cS v1a c v1c)⟩ ?_
 refine kR ?_
 have hmod : aa c g = (({ c with state := 8,timer := 0,tries := 0 }),([] : List Seg),(aw c g)) := by first | (simp [aa,ca,c8, *]; done) | grind [aa,ca,c8]
 exact ⟨[.agg (a6 { c with state := 8,timer := 0,tries := 0 } (cS v1a c v1c)).toArray,.slice (some ⟨g2,0,none⟩) 0 0,iI (aw c g)],by kernel_rfl,fun w' hb hf ha => by rw [hmod]; exact xo2 ((v1a,v1c),(((some ⟨g2,0,none⟩) : Option Addr),0)) rfl rfl (pO (hf _ m1) hB) (pR (hf _ m0) hB) (Apart.sub2 ha (i := 1) (j := 0) rfl rfl (by decide) rfl (fun b h => h) (fun b h => bO h)) hb⟩
 have h4p := cB h4
 refine kS <| kQ <| aW [2,3,4,7,8,9,19,33] [(33,aB ((aw c g) == 3))] <| kC ((aw c g) == 3) (fun h5 => ?_) (fun h5 => ?_)
 have h5p := cI h5
 refine kK <| kC ((aw c g) == 3) (fun h6 => ?_) (fun h6 => ?_)
 have h6p := cI h6
 refine kS <| dZ (α := {zz : Int // (fun (tm : Int) => tm = if aw c g = 4 ∧ c.state = 7 ∧ dy g.flags 1 = true then 4 else c.timer) zz}) (fun zz => (fun (tm : Int) => (⟨[(2,.p 0 0),(4,.p 2 0),(7,.p 3 0),(9,aI (aw c g))],[⟨41,a6 c (cS Z c Y)⟩,⟨105,cl g⟩,⟨41,cN⟩,⟨41,a6 { c with timer := tm } (cS v1a c v1c)⟩],[],[a9 w.heap.size 105 13 (.slice (some ⟨g2,0,none⟩) 0 0) (([] : List Seg).map aj),bm w.heap.size (cS v1a c v1c) 2 (c.r.held.map pC),cH Z c Y]⟩ : St)) zz.1) ?_ ?_
 refine kQ <| dt 3 [2,3,4,7,9,38] [(2,.p 0 0),(3,.p 1 0),(4,.p 2 0),(7,.p 3 0),(9,aI (aw c g)),(38,aB ((aw c g) == 4))] <| kP 38 ((aw c g) == 4) (fun h7 => ?_) (fun h7 => ?_)
 have h7p := cI h7
 exfalso; omega
 have h7p := cB h7
 refine aW [2,4,7,9,46] [(46,aB false)] <| kN <| kK ?_
 exact ⟨⟨(c.timer),(by first | (rw [if_neg (by rintro ⟨q1,q2,q3⟩; omega)]; done) | (rw [if_neg (by rintro ⟨q1,q2,q3⟩; simp_all; done)]; done) | (rw [if_pos ⟨by omega,by omega,by assumption⟩]; done))⟩,kF 4 0 [2,4,7,9]⟩
 rintro ⟨tm,htm⟩
 try dsimp only
 try dsimp only at htm
 refine kS <| ed (α := Nat) (fun y => (fun (g9 : Nat) => (⟨[(4,.p 2 0),(5,.v (.slice (some ⟨g9,0,none⟩) 1 1)),(6,aI (aw c g))],[⟨41,a6 c (cS Z c Y)⟩,⟨105,cl g⟩,⟨41,a6 { c with timer := tm } (cS v1a c v1c)⟩,⟨41,a6 { c with timer := tm } (cS v1a c v1c)⟩],[],[a9 w.heap.size 105 13 (.slice (some ⟨g9,0,none⟩) 1 1) (([⟨c.t.my,c.t.port,ac c.s,c.r.next,16,wO c.r,⟨0,(-1),false,false,0,0⟩,(⟨#[]⟩ : ByteArray)⟩] : List Seg).map aj),a9 w.heap.size 105 13 (.slice (some ⟨g2,0,none⟩) 0 0) (([] : List Seg).map aj),bm w.heap.size (cS v1a c v1c) 2 (c.r.held.map pC),cH Z c Y]⟩ : St)) y) ?_ ?_
 refine bo [true,true,false,true] (by kernel_rfl) (fun ρ σ => ?_)
 refine cJ [0,1,4] [52,49,48,4] 5 [(52,aI (aw c g)),(49,.v (.agg (a6 c (cS Z c Y)).toArray)),(48,.v (.agg (a6 { c with timer := tm } (cS v1a c v1c)).toArray)),(4,.p 2 0)] <| kA [2] <| du 2 101 [.agg (a6 c (cS Z c Y)).toArray] (some 50) rfl (aA fun ww hf => fq c (cS Z c Y) ww (hf _ m2) (by first | omega | (dsimp only; omega))) ?_
 intro _
 refine kA [3,5] ⟨?_,?_⟩
 refine e5 3 rfl (a5 (a5 (ap rfl (a5 a8)))) (aH (e := 105) (K := 13) (bytes := 104) [.agg #[iI c.t.my,iI c.t.port,iI (ac c.s),iI c.r.next,iI 16,iI (wO c.r),iI 0,iI (-1),.bool false,.bool false,iI 0,iI 0,.string (⟨#[]⟩ : ByteArray)]] (rs := ([⟨c.t.my,c.t.port,ac c.s,c.r.next,16,wO c.r,⟨0,(-1),false,false,0,0⟩,(⟨#[]⟩ : ByteArray)⟩] : List Seg).map aj) rfl rfl) ?_
 intro g9
 refine kA [5] <| dg 5 2 0 (a6 { c with timer := tm } (cS v1a c v1c)) rfl <| d9 [6,7] [6,5,4] 0 [(6,aI (aw c g)),(5,.v (.slice (some ⟨g9,0,none⟩) 1 1))] <| kZ ?_
 exact ⟨(g9),kF 4 0 [4,5,6]⟩
 refine dg 5 2 0 (a6 { c with timer := tm } (cS v1a c v1c)) rfl <| kA [3] <| e5 3 rfl (a5 (a5 (ap rfl (a5 a8)))) (aH (e := 105) (K := 13) (bytes := 104) [.agg #[iI c.t.my,iI c.t.port,iI (ac c.s),iI c.r.next,iI 16,iI (wO c.r),iI 0,iI (-1),.bool false,.bool false,iI 0,iI 0,.string (⟨#[]⟩ : ByteArray)]] (rs := ([⟨c.t.my,c.t.port,ac c.s,c.r.next,16,wO c.r,⟨0,(-1),false,false,0,0⟩,(⟨#[]⟩ : ByteArray)⟩] : List Seg).map aj) rfl rfl) ?_
 intro g11
 refine d9 [6,7] [6,5,4] 0 [(6,aI (aw c g)),(5,.v (.slice (some ⟨g11,0,none⟩) 1 1))] <| kZ ?_
 exact ⟨(g11),kF 4 0 [4,5,6]⟩
 intro g9
 refine kR ?_
 have hmod : aa c g = (({ c with timer := tm }),([⟨c.t.my,c.t.port,ac c.s,c.r.next,16,wO c.r,⟨0,(-1),false,false,0,0⟩,(⟨#[]⟩ : ByteArray)⟩] : List Seg),(aw c g)) := by first | (have hv4 : aw c g = 4 := (by assumption); exact (received_ack hv4 htm).trans (by rw [hv4]; first | done | rfl)) | (have hv3 : aw c g = 3 := (by assumption); exact (received_chal hv3 htm).trans (by rw [hv3]; first | done | rfl))
 exact ⟨[.agg (a6 { c with timer := tm } (cS v1a c v1c)).toArray,.slice (some ⟨g9,0,none⟩) 1 1,iI (aw c g)],by kernel_rfl,fun w' hb hf ha => by rw [hmod]; exact xo2 ((v1a,v1c),(((some ⟨g9,0,none⟩) : Option Addr),1)) rfl rfl (pO (hf _ m2) hB) (pR (hf _ m0) hB) (Apart.sub2 ha (i := 2) (j := 0) rfl rfl (by decide) rfl (fun b h => h) (fun b h => bO h)) hb⟩
 have h6p := cB h6
 refine kK <| kQ <| dN 2 [3,4,7,8,9,53,54] [(3,.p 1 0),(4,.p 2 0),(7,.p 3 0),(8,.v (.slice (some ⟨g2,0,none⟩) 0 0)),(9,aI (aw c g)),(53,.v (.agg (a6 c (cS Z c Y)).toArray)),(54,.v (.agg (cl g).toArray))] 106 [.agg (a6 c (cS Z c Y)).toArray,.agg (cl g).toArray] (some 55) rfl (cb fun ww hw hf => ysHeard_c c (cS Z c Y) g ww (hf _ m2) (by assumption) (by omega) (by assumption) (by omega) w.heap.size hw) ?_
 rintro ⟨v12a,v12c⟩
 have hv5 : aw c g = 5 := by have := verdict_rng c g; omega
 have hhw := heard_w hv5
 have hz13 := heard_sz (H := 1048576) (T := 1048576) (D := 4611686018427387904) (c := c) (g := g) (by assumption) (by assumption) (by assumption) (by omega) (by omega) (by omega)
 obtain ⟨hz13a,hz13b,hz13c⟩ := hz13
 refine bC [3,4,7,8,9] [] 3 ⟨41,a6 (heard c g) (.slice v12a ((heard c g).r.held.length) v12c)⟩ <| kS <| kQ <| aW [3,4,7,8,9,58] [(58,aB (((heard c g).state) == 8))] ?_
 refine kC (((heard c g).state) == 8) (fun h14 => ?_) (fun h14 => ?_)
 have h14p := cI h14
 refine kQ <| bC [4,5,6] [(5,.v (.slice (some ⟨g2,0,none⟩) 0 0)),(6,aI (aw c g))] 2 ⟨41,a6 (heard c g) (.slice v12a ((heard c g).r.held.length) v12c)⟩ <| kR ?_
 have hmod : aa c g = ((heard c g),([] : List Seg),(aw c g)) := by first | (simp [aa,ca,c8, *]; done) | grind [aa,ca,c8]
 exact ⟨[.agg (a6 (heard c g) (.slice v12a ((heard c g).r.held.length) v12c)).toArray,.slice (some ⟨g2,0,none⟩) 0 0,iI (aw c g)],by kernel_rfl,fun w' hb hf ha => by rw [hmod]; exact xo2 ((v12a,v12c),(((some ⟨g2,0,none⟩) : Option Addr),0)) rfl rfl (pO (hf _ m0) hB) (pR (hf _ m1) hB) (Apart.sub2 ha (i := 0) (j := 1) rfl rfl (by decide) rfl (fun b h => h) (fun b h => bO h)) hb⟩
 have h14p := cB h14
 refine kK <| kQ <| dR 1 [3,4,7,9,62] [(62,.v (.agg (a6 (heard c g) (.slice v12a ((heard c g).r.held.length) v12c)).toArray))] 101 [.agg (a6 (heard c g) (.slice v12a ((heard c g).r.held.length) v12c)).toArray] (some 63) rfl (aA fun ww hf => fq (heard c g) (.slice v12a ((heard c g).r.held.length) v12c) ww (Own.sl (hf _ m0)) (by first | omega | (dsimp only; omega))) ?_
 intro _
 refine gk [3,4,7,9,10] [(10,.p 4 0)] [⟨105,[iI ((heard c g).t.my),iI ((heard c g).t.port),iI (ac ((heard c g).s)),iI ((heard c g).r.next),iI 16,iI (wO ((heard c g).r)),iI 0,iI (-1),.bool false,.bool false,iI 0,iI 0,.string (⟨#[]⟩ : ByteArray)]⟩] <| kQ <| dR 3 [3,4,9,10,65,67] [(65,.v (.agg (a6 (heard c g) (.slice v12a ((heard c g).r.held.length) v12c)).toArray)),(67,aI ((heard c g).window))] 99 [.agg (a6 (heard c g) (.slice v12a ((heard c g).r.held.length) v12c)).toArray,iI ((heard c g).window)] (some 68) rfl (cb fun ww hw hf => fC (heard c g) (.slice v12a ((heard c g).r.held.length) v12c) ((heard c g).window) ww (Own.sl (hf _ m0)) (by assumption) (by assumption) (by omega) (by omega) w.heap.size hw) ?_
 rintro ⟨⟨v15a,v15c⟩,⟨v16a,v16c⟩⟩
 have hbd17 : (pump (heard c g) ((heard c g).window)).1.r.held.length ≤ 1048576 ∧ (pump (heard c g) ((heard c g).window)).2.length ≤ 49 := fm _ _  (by omega)
 have hbd17a := hbd17.1; have hbd17b := hbd17.2
 refine gk [3,4,9,10,11,12] [(11,.p 5 0),(12,.v (.slice v16a ((pump (heard c g) ((heard c g).window)).2.length) v16c))] [⟨41,a6 (pump (heard c g) ((heard c g).window)).1 (.slice v15a ((pump (heard c g) ((heard c g).window)).1.r.held.length) v15c)⟩] <| kS <| kQ <| dR 1 [4,9,10,11,12,71] [(71,.v (.agg (cl g).toArray))] 107 [.agg (cl g).toArray] (some 72) rfl (aA fun ww hf => gd g.src g.dst g.seq g.ack g.flags g.window g.o.mss g.o.scale g.o.sack g.o.stamp g.o.val g.o.echo g.body ww (by omega)) ?_
 intro _
 refine di 2 [4,9,10,11,12,74] [(74,aB (decide ((dr g) > 0)))] <| kP 74 (decide ((dr g) > 0)) (fun h18 => ?_) (fun h18 => ?_)
 have h18p := of_decide_eq_true h18
 refine aW [4,9,10,11,12,78] [(78,aB ((((pump (heard c g) ((heard c g).window)).2.length : Nat) : Int) == 0))] <| kC ((((pump (heard c g) ((heard c g).window)).2.length : Nat) : Int) == 0) (fun h19 => ?_) (fun h19 => ?_)
 have h19p := cI h19
 refine kG <| kHD 2 [4,9,11,12,79,80] [(79,.v (.slice v16a ((pump (heard c g) ((heard c g).window)).2.length) v16c)),(80,.v (.agg #[iI ((heard c g).t.my),iI ((heard c g).t.port),iI (ac ((heard c g).s)),iI ((heard c g).r.next),iI 16,iI (wO ((heard c g).r)),iI 0,iI (-1),.bool false,.bool false,iI 0,iI 0,.string (⟨#[]⟩ : ByteArray)]))] rfl (aH (e := 105) (K := 13) (bytes := 104) [.agg #[iI ((heard c g).t.my),iI ((heard c g).t.port),iI (ac ((heard c g).s)),iI ((heard c g).r.next),iI 16,iI (wO ((heard c g).r)),iI 0,iI (-1),.bool false,.bool false,iI 0,iI 0,.string (⟨#[]⟩ : ByteArray)]] (rs := ([⟨(heard c g).t.my,(heard c g).t.port,ac ((heard c g).s),(heard c g).r.next,16,wO ((heard c g).r),⟨0,(-1),false,false,0,0⟩,(⟨#[]⟩ : ByteArray)⟩] : List Seg).map aj) rfl rfl) ?_
 intro g20
 refine kHS 0 [4,9,11,12,79,81] [(4,.p 2 0),(9,aI (aw c g)),(11,.p 5 0),(12,.v (.slice v16a ((pump (heard c g) ((heard c g).window)).2.length) v16c)),(79,.v (.slice v16a ((pump (heard c g) ((heard c g).window)).2.length) v16c)),(81,.v (.slice (some ⟨g20,0,none⟩) 1 1))] rfl (aE (e := 105) (K := 13) (bytes := 104) (i := 2) (q := ((pump (heard c g) ((heard c g).window)).2 ++ ([⟨(heard c g).t.my,(heard c g).t.port,ac ((heard c g).s),(heard c g).r.next,16,wO ((heard c g).r),⟨0,(-1),false,false,0,0⟩,(⟨#[]⟩ : ByteArray)⟩] : List Seg)).length) (new := ([⟨(heard c g).t.my,(heard c g).t.port,ac ((heard c g).s),(heard c g).r.next,16,wO ((heard c g).r),⟨0,(-1),false,false,0,0⟩,(⟨#[]⟩ : ByteArray)⟩] : List Seg).map aj) (rs' := ((pump (heard c g) ((heard c g).window)).2 ++ ([⟨(heard c g).t.my,(heard c g).t.port,ac ((heard c g).s),(heard c g).r.next,16,wO ((heard c g).r),⟨0,(-1),false,false,0,0⟩,(⟨#[]⟩ : ByteArray)⟩] : List Seg)).map aj) rfl rfl rfl rfl (by kernel_rfl) (by kernel_rfl) (by kernel_rfl) rfl (by simp) (by rw [List.map_append]) (by simp) (fun ww hf => (ax (hf (a9 w.heap.size 105 13 (.slice (some ⟨g20,0,none⟩) 1 1) (([⟨(heard c g).t.my,(heard c g).t.port,ac ((heard c g).s),(heard c g).r.next,16,wO ((heard c g).r),⟨0,(-1),false,false,0,0⟩,(⟨#[]⟩ : ByteArray)⟩] : List Seg).map aj)) (by simp)))) (by intro r hr; obtain ⟨x,hx,rfl⟩ := List.mem_map.1 hr; exact ⟨rfl,by simp [aj,Value.oneCell']⟩) (by (try simp only [List.length_map,List.length_append,List.length_cons,List.length_nil,List.length_take,List.length_drop,maxLen]); omega) (by (try simp only [List.length_map,List.length_append,List.length_cons,List.length_nil,List.length_take,List.length_drop,maxLen]); omega)) ?_
 rintro ⟨v21a,v21c⟩
 refine aW [4,9,11,12] [(12,.v (.slice v21a (((pump (heard c g) ((heard c g).window)).2 ++ ([⟨(heard c g).t.my,(heard c g).t.port,ac ((heard c g).s),(heard c g).r.next,16,wO ((heard c g).r),⟨0,(-1),false,false,0,0⟩,(⟨#[]⟩ : ByteArray)⟩] : List Seg)).length) v21c))] <| kQ <| bC [4,5,6] [(5,.v (.slice v21a (((pump (heard c g) ((heard c g).window)).2 ++ ([⟨(heard c g).t.my,(heard c g).t.port,ac ((heard c g).s),(heard c g).r.next,16,wO ((heard c g).r),⟨0,(-1),false,false,0,0⟩,(⟨#[]⟩ : ByteArray)⟩] : List Seg)).length) v21c)),(6,aI (aw c g))] 2 ⟨41,a6 (pump (heard c g) ((heard c g).window)).1 (.slice v15a ((pump (heard c g) ((heard c g).window)).1.r.held.length) v15c)⟩ <| kR ?_
 have hmod : aa c g = (((pump (heard c g) ((heard c g).window)).1),((pump (heard c g) ((heard c g).window)).2 ++ ([⟨(heard c g).t.my,(heard c g).t.port,ac ((heard c g).s),(heard c g).r.next,16,wO ((heard c g).r),⟨0,(-1),false,false,0,0⟩,(⟨#[]⟩ : ByteArray)⟩] : List Seg)),(aw c g)) := by first | (simp [aa,ca,c8, *]; done) | grind [aa,ca,c8]
 exact ⟨[.agg (a6 (pump (heard c g) ((heard c g).window)).1 (.slice v15a ((pump (heard c g) ((heard c g).window)).1.r.held.length) v15c)).toArray,.slice v21a (((pump (heard c g) ((heard c g).window)).2 ++ ([⟨(heard c g).t.my,(heard c g).t.port,ac ((heard c g).s),(heard c g).r.next,16,wO ((heard c g).r),⟨0,(-1),false,false,0,0⟩,(⟨#[]⟩ : ByteArray)⟩] : List Seg)).length) v21c,iI (aw c g)],by kernel_rfl,fun w' hb hf ha => by rw [hmod]; exact xo2 ((v15a,v15c),(v21a,v21c)) rfl rfl (pO (hf _ m2) hB) (pR (hf _ m0) hB) (Apart.sub2 ha (i := 2) (j := 0) rfl rfl (by decide) rfl (fun b h => h) (fun b h => bO h)) hb⟩
 have h19p := cB h19
 refine kK <| kQ <| bC [4,5,6] [(5,.v (.slice v16a ((pump (heard c g) ((heard c g).window)).2.length) v16c)),(6,aI (aw c g))] 2 ⟨41,a6 (pump (heard c g) ((heard c g).window)).1 (.slice v15a ((pump (heard c g) ((heard c g).window)).1.r.held.length) v15c)⟩ <| kR ?_
 have hmod : aa c g = (((pump (heard c g) ((heard c g).window)).1),((pump (heard c g) ((heard c g).window)).2),(aw c g)) := by first | (simp [aa,ca,c8, *]; done) | grind [aa,ca,c8]
 exact ⟨[.agg (a6 (pump (heard c g) ((heard c g).window)).1 (.slice v15a ((pump (heard c g) ((heard c g).window)).1.r.held.length) v15c)).toArray,.slice v16a ((pump (heard c g) ((heard c g).window)).2.length) v16c,iI (aw c g)],by kernel_rfl,fun w' hb hf ha => by rw [hmod]; exact xo2 ((v15a,v15c),(v16a,v16c)) rfl rfl (pO (hf _ m0) hB) (pR (hf _ m1) hB) (Apart.sub2 ha (i := 0) (j := 1) rfl rfl (by decide) rfl (fun b h => h) (fun b h => bO h)) hb⟩
 have h18p := of_decide_eq_false h18
 refine aW [4,9,10,11,12,78] [(78,aB false)] <| kN <| kK <| kQ <| bC [4,5,6] [(5,.v (.slice v16a ((pump (heard c g) ((heard c g).window)).2.length) v16c)),(6,aI (aw c g))] 2 ⟨41,a6 (pump (heard c g) ((heard c g).window)).1 (.slice v15a ((pump (heard c g) ((heard c g).window)).1.r.held.length) v15c)⟩ ?_
 refine kR ?_
 have hmod : aa c g = (((pump (heard c g) ((heard c g).window)).1),((pump (heard c g) ((heard c g).window)).2),(aw c g)) := by first | (simp [aa,ca,c8, *]; done) | grind [aa,ca,c8]
 exact ⟨[.agg (a6 (pump (heard c g) ((heard c g).window)).1 (.slice v15a ((pump (heard c g) ((heard c g).window)).1.r.held.length) v15c)).toArray,.slice v16a ((pump (heard c g) ((heard c g).window)).2.length) v16c,iI (aw c g)],by kernel_rfl,fun w' hb hf ha => by rw [hmod]; exact xo2 ((v15a,v15c),(v16a,v16c)) rfl rfl (pO (hf _ m0) hB) (pR (hf _ m1) hB) (Apart.sub2 ha (i := 0) (j := 1) rfl rfl (by decide) rfl (fun b h => h) (fun b h => bO h)) hb⟩
 have h5p := cB h5
 refine kG <| aT [2,3,4,7,8,9,33] [(2,.p 0 0),(3,.p 1 0),(4,.p 2 0),(7,.p 3 0),(8,.v (.slice (some ⟨g2,0,none⟩) 0 0)),(9,aI (aw c g)),(33,aB ((aw c g) == 4))] <| kC ((aw c g) == 4) (fun h22 => ?_) (fun h22 => ?_)
 have h22p := cI h22
 refine kS <| dZ (α := {zz : Int // (fun (tm : Int) => tm = if aw c g = 4 ∧ c.state = 7 ∧ dy g.flags 1 = true then 4 else c.timer) zz}) (fun zz => (fun (tm : Int) => (⟨[(2,.p 0 0),(4,.p 2 0),(7,.p 3 0),(9,aI (aw c g))],[⟨41,a6 c (cS Z c Y)⟩,⟨105,cl g⟩,⟨41,cN⟩,⟨41,a6 { c with timer := tm } (cS v1a c v1c)⟩],[],[a9 w.heap.size 105 13 (.slice (some ⟨g2,0,none⟩) 0 0) (([] : List Seg).map aj),bm w.heap.size (cS v1a c v1c) 2 (c.r.held.map pC),cH Z c Y]⟩ : St)) zz.1) ?_ ?_
 refine kQ <| di 3 [2,3,4,7,9,38] [(38,aB ((aw c g) == 4))] <| kP 38 ((aw c g) == 4) (fun h23 => ?_) (fun h23 => ?_)
 have h23p := cI h23
 refine di 5 [2,3,4,7,9,43] [(43,aB (c.state == 7))] <| kP 43 (c.state == 7) (fun h24 => ?_) (fun h24 => ?_)
 have h24p := cI h24
 refine dR 1 [2,4,7,9,43,44] [(43,aB true),(44,.v (.agg (cl g).toArray))] 105 [.agg (cl g).toArray,iI 1] (some 45) rfl (aA fun ww hf => sHas_c g.src g.dst g.seq g.ack g.flags g.window g.o.mss g.o.scale g.o.sack g.o.stamp g.o.val g.o.echo g.body 1 ww ) ?_
 intro _
 refine aW [2,4,7,9,46] [(46,aB (dy g.flags 1))] <| kC (dy g.flags 1) (fun h25 => ?_) (fun h25 => ?_)
 refine kG <| bC [2,4,7,9] [] 3 ⟨41,a6 { c with timer := 4 } (cS v1a c v1c)⟩ ?_
 exact ⟨⟨(4),(by first | (rw [if_neg (by rintro ⟨q1,q2,q3⟩; omega)]; done) | (rw [if_neg (by rintro ⟨q1,q2,q3⟩; simp_all; done)]; done) | (rw [if_pos ⟨by omega,by omega,by assumption⟩]; done))⟩,kF 4 0 [2,4,7,9]⟩
 refine kK ?_
 exact ⟨⟨(c.timer),(by first | (rw [if_neg (by rintro ⟨q1,q2,q3⟩; omega)]; done) | (rw [if_neg (by rintro ⟨q1,q2,q3⟩; simp_all; done)]; done) | (rw [if_pos ⟨by omega,by omega,by assumption⟩]; done))⟩,kF 4 0 [2,4,7,9]⟩
 have h24p := cB h24
 refine aW [2,4,7,9,46] [(46,aB false)] <| kN <| kK ?_
 exact ⟨⟨(c.timer),(by first | (rw [if_neg (by rintro ⟨q1,q2,q3⟩; omega)]; done) | (rw [if_neg (by rintro ⟨q1,q2,q3⟩; simp_all; done)]; done) | (rw [if_pos ⟨by omega,by omega,by assumption⟩]; done))⟩,kF 4 0 [2,4,7,9]⟩
 have h23p := cB h23
 refine aW [2,4,7,9,46] [(46,aB false)] <| kN <| kK ?_
 exact ⟨⟨(c.timer),(by first | (rw [if_neg (by rintro ⟨q1,q2,q3⟩; omega)]; done) | (rw [if_neg (by rintro ⟨q1,q2,q3⟩; simp_all; done)]; done) | (rw [if_pos ⟨by omega,by omega,by assumption⟩]; done))⟩,kF 4 0 [2,4,7,9]⟩
 rintro ⟨tm,htm⟩
 try dsimp only
 try dsimp only at htm
 refine kS <| ed (α := Nat) (fun y => (fun (g27 : Nat) => (⟨[(4,.p 2 0),(5,.v (.slice (some ⟨g27,0,none⟩) 1 1)),(6,aI (aw c g))],[⟨41,a6 c (cS Z c Y)⟩,⟨105,cl g⟩,⟨41,a6 { c with timer := tm } (cS v1a c v1c)⟩,⟨41,a6 { c with timer := tm } (cS v1a c v1c)⟩],[],[a9 w.heap.size 105 13 (.slice (some ⟨g27,0,none⟩) 1 1) (([⟨c.t.my,c.t.port,ac c.s,c.r.next,16,wO c.r,⟨0,(-1),false,false,0,0⟩,(⟨#[]⟩ : ByteArray)⟩] : List Seg).map aj),a9 w.heap.size 105 13 (.slice (some ⟨g2,0,none⟩) 0 0) (([] : List Seg).map aj),bm w.heap.size (cS v1a c v1c) 2 (c.r.held.map pC),cH Z c Y]⟩ : St)) y) ?_ ?_
 refine bo [true,true,false,true] (by kernel_rfl) (fun ρ σ => ?_)
 refine d9 [0,1,4] [52,49,48,4] 5 [(52,aI (aw c g)),(49,.v (.agg (a6 c (cS Z c Y)).toArray)),(48,.v (.agg (a6 { c with timer := tm } (cS v1a c v1c)).toArray))] <| kA [2] <| du 2 101 [.agg (a6 c (cS Z c Y)).toArray] (some 50) rfl (aA fun ww hf => fq c (cS Z c Y) ww (hf _ m2) (by first | omega | (dsimp only; omega))) ?_
 intro _
 refine kA [3,5] ⟨?_,?_⟩
 refine e5 3 rfl (a5 (a5 (ap rfl (a5 a8)))) (aH (e := 105) (K := 13) (bytes := 104) [.agg #[iI c.t.my,iI c.t.port,iI (ac c.s),iI c.r.next,iI 16,iI (wO c.r),iI 0,iI (-1),.bool false,.bool false,iI 0,iI 0,.string (⟨#[]⟩ : ByteArray)]] (rs := ([⟨c.t.my,c.t.port,ac c.s,c.r.next,16,wO c.r,⟨0,(-1),false,false,0,0⟩,(⟨#[]⟩ : ByteArray)⟩] : List Seg).map aj) rfl rfl) ?_
 intro g27
 refine kA [5] <| dg 5 2 0 (a6 { c with timer := tm } (cS v1a c v1c)) rfl <| d9 [6,7] [6,5,4] 0 [(6,aI (aw c g)),(5,.v (.slice (some ⟨g27,0,none⟩) 1 1))] <| kZ ?_
 exact ⟨(g27),kF 4 0 [4,5,6]⟩
 refine dg 5 2 0 (a6 { c with timer := tm } (cS v1a c v1c)) rfl <| kA [3] <| e5 3 rfl (a5 (a5 (ap rfl (a5 a8)))) (aH (e := 105) (K := 13) (bytes := 104) [.agg #[iI c.t.my,iI c.t.port,iI (ac c.s),iI c.r.next,iI 16,iI (wO c.r),iI 0,iI (-1),.bool false,.bool false,iI 0,iI 0,.string (⟨#[]⟩ : ByteArray)]] (rs := ([⟨c.t.my,c.t.port,ac c.s,c.r.next,16,wO c.r,⟨0,(-1),false,false,0,0⟩,(⟨#[]⟩ : ByteArray)⟩] : List Seg).map aj) rfl rfl) ?_
 intro g29
 refine d9 [6,7] [6,5,4] 0 [(6,aI (aw c g)),(5,.v (.slice (some ⟨g29,0,none⟩) 1 1))] <| kZ ?_
 exact ⟨(g29),kF 4 0 [4,5,6]⟩
 intro g27
 refine kR ?_
 have hmod : aa c g = (({ c with timer := tm }),([⟨c.t.my,c.t.port,ac c.s,c.r.next,16,wO c.r,⟨0,(-1),false,false,0,0⟩,(⟨#[]⟩ : ByteArray)⟩] : List Seg),(aw c g)) := by first | (have hv4 : aw c g = 4 := (by assumption); exact (received_ack hv4 htm).trans (by rw [hv4]; first | done | rfl)) | (have hv3 : aw c g = 3 := (by assumption); exact (received_chal hv3 htm).trans (by rw [hv3]; first | done | rfl))
 exact ⟨[.agg (a6 { c with timer := tm } (cS v1a c v1c)).toArray,.slice (some ⟨g27,0,none⟩) 1 1,iI (aw c g)],by kernel_rfl,fun w' hb hf ha => by rw [hmod]; exact xo2 ((v1a,v1c),(((some ⟨g27,0,none⟩) : Option Addr),1)) rfl rfl (pO (hf _ m2) hB) (pR (hf _ m0) hB) (Apart.sub2 ha (i := 2) (j := 0) rfl rfl (by decide) rfl (fun b h => h) (fun b h => bO h)) hb⟩
 have h22p := cB h22
 refine kK <| kQ <| dR 2 [3,4,7,8,9,53,54] [(53,.v (.agg (a6 c (cS Z c Y)).toArray)),(54,.v (.agg (cl g).toArray))] 106 [.agg (a6 c (cS Z c Y)).toArray,.agg (cl g).toArray] (some 55) rfl (cb fun ww hw hf => ysHeard_c c (cS Z c Y) g ww (hf _ m2) (by assumption) (by omega) (by assumption) (by omega) w.heap.size hw) ?_
 rintro ⟨v30a,v30c⟩
 have hv5 : aw c g = 5 := by have := verdict_rng c g; omega
 have hhw := heard_w hv5
 have hz31 := heard_sz (H := 1048576) (T := 1048576) (D := 4611686018427387904) (c := c) (g := g) (by assumption) (by assumption) (by assumption) (by omega) (by omega) (by omega)
 obtain ⟨hz31a,hz31b,hz31c⟩ := hz31
 refine bC [3,4,7,8,9] [] 3 ⟨41,a6 (heard c g) (.slice v30a ((heard c g).r.held.length) v30c)⟩ <| kS <| kQ <| aW [3,4,7,8,9,58] [(58,aB (((heard c g).state) == 8))] ?_
 refine kC (((heard c g).state) == 8) (fun h32 => ?_) (fun h32 => ?_)
 have h32p := cI h32
 refine kQ <| bC [4,5,6] [(5,.v (.slice (some ⟨g2,0,none⟩) 0 0)),(6,aI (aw c g))] 2 ⟨41,a6 (heard c g) (.slice v30a ((heard c g).r.held.length) v30c)⟩ <| kR ?_
 have hmod : aa c g = ((heard c g),([] : List Seg),(aw c g)) := by first | (simp [aa,ca,c8, *]; done) | grind [aa,ca,c8]
 exact ⟨[.agg (a6 (heard c g) (.slice v30a ((heard c g).r.held.length) v30c)).toArray,.slice (some ⟨g2,0,none⟩) 0 0,iI (aw c g)],by kernel_rfl,fun w' hb hf ha => by rw [hmod]; exact xo2 ((v30a,v30c),(((some ⟨g2,0,none⟩) : Option Addr),0)) rfl rfl (pO (hf _ m0) hB) (pR (hf _ m1) hB) (Apart.sub2 ha (i := 0) (j := 1) rfl rfl (by decide) rfl (fun b h => h) (fun b h => bO h)) hb⟩
 have h32p := cB h32
 refine kK <| kQ <| dR 1 [3,4,7,9,62] [(62,.v (.agg (a6 (heard c g) (.slice v30a ((heard c g).r.held.length) v30c)).toArray))] 101 [.agg (a6 (heard c g) (.slice v30a ((heard c g).r.held.length) v30c)).toArray] (some 63) rfl (aA fun ww hf => fq (heard c g) (.slice v30a ((heard c g).r.held.length) v30c) ww (Own.sl (hf _ m0)) (by first | omega | (dsimp only; omega))) ?_
 intro _
 refine gk [3,4,7,9,10] [(10,.p 4 0)] [⟨105,[iI ((heard c g).t.my),iI ((heard c g).t.port),iI (ac ((heard c g).s)),iI ((heard c g).r.next),iI 16,iI (wO ((heard c g).r)),iI 0,iI (-1),.bool false,.bool false,iI 0,iI 0,.string (⟨#[]⟩ : ByteArray)]⟩] <| kQ <| dR 3 [3,4,9,10,65,67] [(65,.v (.agg (a6 (heard c g) (.slice v30a ((heard c g).r.held.length) v30c)).toArray)),(67,aI ((heard c g).window))] 99 [.agg (a6 (heard c g) (.slice v30a ((heard c g).r.held.length) v30c)).toArray,iI ((heard c g).window)] (some 68) rfl (cb fun ww hw hf => fC (heard c g) (.slice v30a ((heard c g).r.held.length) v30c) ((heard c g).window) ww (Own.sl (hf _ m0)) (by assumption) (by assumption) (by omega) (by omega) w.heap.size hw) ?_
 rintro ⟨⟨v33a,v33c⟩,⟨v34a,v34c⟩⟩
 have hbd35 : (pump (heard c g) ((heard c g).window)).1.r.held.length ≤ 1048576 ∧ (pump (heard c g) ((heard c g).window)).2.length ≤ 49 := fm _ _  (by omega)
 have hbd35a := hbd35.1; have hbd35b := hbd35.2
 refine gk [3,4,9,10,11,12] [(11,.p 5 0),(12,.v (.slice v34a ((pump (heard c g) ((heard c g).window)).2.length) v34c))] [⟨41,a6 (pump (heard c g) ((heard c g).window)).1 (.slice v33a ((pump (heard c g) ((heard c g).window)).1.r.held.length) v33c)⟩] <| kS <| kQ <| dR 1 [4,9,10,11,12,71] [(71,.v (.agg (cl g).toArray))] 107 [.agg (cl g).toArray] (some 72) rfl (aA fun ww hf => gd g.src g.dst g.seq g.ack g.flags g.window g.o.mss g.o.scale g.o.sack g.o.stamp g.o.val g.o.echo g.body ww (by omega)) ?_
 intro _
 refine di 2 [4,9,10,11,12,74] [(74,aB (decide ((dr g) > 0)))] <| kP 74 (decide ((dr g) > 0)) (fun h36 => ?_) (fun h36 => ?_)
 have h36p := of_decide_eq_true h36
 refine aW [4,9,10,11,12,78] [(78,aB ((((pump (heard c g) ((heard c g).window)).2.length : Nat) : Int) == 0))] <| kC ((((pump (heard c g) ((heard c g).window)).2.length : Nat) : Int) == 0) (fun h37 => ?_) (fun h37 => ?_)
 have h37p := cI h37
 refine kG <| kHS 2 [4,9,11,12,79,80] [(4,.p 2 0),(9,aI (aw c g)),(11,.p 5 0),(12,.v (.slice v34a ((pump (heard c g) ((heard c g).window)).2.length) v34c)),(79,.v (.slice v34a ((pump (heard c g) ((heard c g).window)).2.length) v34c)),(80,.v (.agg #[iI ((heard c g).t.my),iI ((heard c g).t.port),iI (ac ((heard c g).s)),iI ((heard c g).r.next),iI 16,iI (wO ((heard c g).r)),iI 0,iI (-1),.bool false,.bool false,iI 0,iI 0,.string (⟨#[]⟩ : ByteArray)]))] rfl (aH (e := 105) (K := 13) (bytes := 104) [.agg #[iI ((heard c g).t.my),iI ((heard c g).t.port),iI (ac ((heard c g).s)),iI ((heard c g).r.next),iI 16,iI (wO ((heard c g).r)),iI 0,iI (-1),.bool false,.bool false,iI 0,iI 0,.string (⟨#[]⟩ : ByteArray)]] (rs := ([⟨(heard c g).t.my,(heard c g).t.port,ac ((heard c g).s),(heard c g).r.next,16,wO ((heard c g).r),⟨0,(-1),false,false,0,0⟩,(⟨#[]⟩ : ByteArray)⟩] : List Seg).map aj) rfl rfl) ?_
 intro g38
 refine kHD 0 [4,9,11,12,79,81] [] rfl (aE (e := 105) (K := 13) (bytes := 104) (i := 2) (q := ((pump (heard c g) ((heard c g).window)).2 ++ ([⟨(heard c g).t.my,(heard c g).t.port,ac ((heard c g).s),(heard c g).r.next,16,wO ((heard c g).r),⟨0,(-1),false,false,0,0⟩,(⟨#[]⟩ : ByteArray)⟩] : List Seg)).length) (new := ([⟨(heard c g).t.my,(heard c g).t.port,ac ((heard c g).s),(heard c g).r.next,16,wO ((heard c g).r),⟨0,(-1),false,false,0,0⟩,(⟨#[]⟩ : ByteArray)⟩] : List Seg).map aj) (rs' := ((pump (heard c g) ((heard c g).window)).2 ++ ([⟨(heard c g).t.my,(heard c g).t.port,ac ((heard c g).s),(heard c g).r.next,16,wO ((heard c g).r),⟨0,(-1),false,false,0,0⟩,(⟨#[]⟩ : ByteArray)⟩] : List Seg)).map aj) rfl rfl rfl rfl (by kernel_rfl) (by kernel_rfl) (by kernel_rfl) rfl (by simp) (by rw [List.map_append]) (by simp) (fun ww hf => (ax (hf (a9 w.heap.size 105 13 (.slice (some ⟨g38,0,none⟩) 1 1) (([⟨(heard c g).t.my,(heard c g).t.port,ac ((heard c g).s),(heard c g).r.next,16,wO ((heard c g).r),⟨0,(-1),false,false,0,0⟩,(⟨#[]⟩ : ByteArray)⟩] : List Seg).map aj)) (by simp)))) (by intro r hr; obtain ⟨x,hx,rfl⟩ := List.mem_map.1 hr; exact ⟨rfl,by simp [aj,Value.oneCell']⟩) (by (try simp only [List.length_map,List.length_append,List.length_cons,List.length_nil,List.length_take,List.length_drop,maxLen]); omega) (by (try simp only [List.length_map,List.length_append,List.length_cons,List.length_nil,List.length_take,List.length_drop,maxLen]); omega)) ?_
 rintro ⟨v39a,v39c⟩
 refine aW [4,9,11,12] [(12,.v (.slice v39a (((pump (heard c g) ((heard c g).window)).2 ++ ([⟨(heard c g).t.my,(heard c g).t.port,ac ((heard c g).s),(heard c g).r.next,16,wO ((heard c g).r),⟨0,(-1),false,false,0,0⟩,(⟨#[]⟩ : ByteArray)⟩] : List Seg)).length) v39c))] <| kQ <| bC [4,5,6] [(5,.v (.slice v39a (((pump (heard c g) ((heard c g).window)).2 ++ ([⟨(heard c g).t.my,(heard c g).t.port,ac ((heard c g).s),(heard c g).r.next,16,wO ((heard c g).r),⟨0,(-1),false,false,0,0⟩,(⟨#[]⟩ : ByteArray)⟩] : List Seg)).length) v39c)),(6,aI (aw c g))] 2 ⟨41,a6 (pump (heard c g) ((heard c g).window)).1 (.slice v33a ((pump (heard c g) ((heard c g).window)).1.r.held.length) v33c)⟩ <| kR ?_
 have hmod : aa c g = (((pump (heard c g) ((heard c g).window)).1),((pump (heard c g) ((heard c g).window)).2 ++ ([⟨(heard c g).t.my,(heard c g).t.port,ac ((heard c g).s),(heard c g).r.next,16,wO ((heard c g).r),⟨0,(-1),false,false,0,0⟩,(⟨#[]⟩ : ByteArray)⟩] : List Seg)),(aw c g)) := by first | (simp [aa,ca,c8, *]; done) | grind [aa,ca,c8]
 exact ⟨[.agg (a6 (pump (heard c g) ((heard c g).window)).1 (.slice v33a ((pump (heard c g) ((heard c g).window)).1.r.held.length) v33c)).toArray,.slice v39a (((pump (heard c g) ((heard c g).window)).2 ++ ([⟨(heard c g).t.my,(heard c g).t.port,ac ((heard c g).s),(heard c g).r.next,16,wO ((heard c g).r),⟨0,(-1),false,false,0,0⟩,(⟨#[]⟩ : ByteArray)⟩] : List Seg)).length) v39c,iI (aw c g)],by kernel_rfl,fun w' hb hf ha => by rw [hmod]; exact xo2 ((v33a,v33c),(v39a,v39c)) rfl rfl (pO (hf _ m2) hB) (pR (hf _ m0) hB) (Apart.sub2 ha (i := 2) (j := 0) rfl rfl (by decide) rfl (fun b h => h) (fun b h => bO h)) hb⟩
 have h37p := cB h37
 refine kK <| kQ <| cm [4,5,6] ⟨[(4,.p 2 0),(5,.v (.slice v34a ((pump (heard c g) ((heard c g).window)).2.length) v34c)),(6,aI (aw c g))],[⟨41,a6 c (cS Z c Y)⟩,⟨105,cl g⟩,⟨41,a6 (pump (heard c g) ((heard c g).window)).1 (.slice v33a ((pump (heard c g) ((heard c g).window)).1.r.held.length) v33c)⟩,⟨41,a6 (heard c g) (.slice v30a ((heard c g).r.held.length) v30c)⟩,⟨105,[iI ((heard c g).t.my),iI ((heard c g).t.port),iI (ac ((heard c g).s)),iI ((heard c g).r.next),iI 16,iI (wO ((heard c g).r)),iI 0,iI (-1),.bool false,.bool false,iI 0,iI 0,.string (⟨#[]⟩ : ByteArray)]⟩,⟨41,a6 (pump (heard c g) ((heard c g).window)).1 (.slice v33a ((pump (heard c g) ((heard c g).window)).1.r.held.length) v33c)⟩],[],[bm w.heap.size (.slice v33a ((pump (heard c g) ((heard c g).window)).1.r.held.length) v33c) 2 ((pump (heard c g) ((heard c g).window)).1.r.held.map pC),a9 w.heap.size 105 13 (.slice v34a ((pump (heard c g) ((heard c g).window)).2.length) v34c) ((pump (heard c g) ((heard c g).window)).2.map aj),bm w.heap.size (.slice v30a ((heard c g).r.held.length) v30c) 2 ((heard c g).r.held.map pC),a9 w.heap.size 105 13 (.slice (some ⟨g2,0,none⟩) 0 0) (([] : List Seg).map aj),bm w.heap.size (cS v1a c v1c) 2 (c.r.held.map pC),cH Z c Y]⟩ <| kR ?_
 have hmod : aa c g = (((pump (heard c g) ((heard c g).window)).1),((pump (heard c g) ((heard c g).window)).2),(aw c g)) := by first | (simp [aa,ca,c8, *]; done) | grind [aa,ca,c8]
 exact ⟨[.agg (a6 (pump (heard c g) ((heard c g).window)).1 (.slice v33a ((pump (heard c g) ((heard c g).window)).1.r.held.length) v33c)).toArray,.slice v34a ((pump (heard c g) ((heard c g).window)).2.length) v34c,iI (aw c g)],by kernel_rfl,fun w' hb hf ha => by rw [hmod]; exact xo2 ((v33a,v33c),(v34a,v34c)) rfl rfl (pO (hf _ m0) hB) (pR (hf _ m1) hB) (Apart.sub2 ha (i := 0) (j := 1) rfl rfl (by decide) rfl (fun b h => h) (fun b h => bO h)) hb⟩
 have h36p := of_decide_eq_false h36
 refine aW [4,9,10,11,12,78] [(78,aB false)] <| kN <| kK <| kQ <| cm [4,5,6] ⟨[(4,.p 2 0),(5,.v (.slice v34a ((pump (heard c g) ((heard c g).window)).2.length) v34c)),(6,aI (aw c g))],[⟨41,a6 c (cS Z c Y)⟩,⟨105,cl g⟩,⟨41,a6 (pump (heard c g) ((heard c g).window)).1 (.slice v33a ((pump (heard c g) ((heard c g).window)).1.r.held.length) v33c)⟩,⟨41,a6 (heard c g) (.slice v30a ((heard c g).r.held.length) v30c)⟩,⟨105,[iI ((heard c g).t.my),iI ((heard c g).t.port),iI (ac ((heard c g).s)),iI ((heard c g).r.next),iI 16,iI (wO ((heard c g).r)),iI 0,iI (-1),.bool false,.bool false,iI 0,iI 0,.string (⟨#[]⟩ : ByteArray)]⟩,⟨41,a6 (pump (heard c g) ((heard c g).window)).1 (.slice v33a ((pump (heard c g) ((heard c g).window)).1.r.held.length) v33c)⟩],[],[bm w.heap.size (.slice v33a ((pump (heard c g) ((heard c g).window)).1.r.held.length) v33c) 2 ((pump (heard c g) ((heard c g).window)).1.r.held.map pC),a9 w.heap.size 105 13 (.slice v34a ((pump (heard c g) ((heard c g).window)).2.length) v34c) ((pump (heard c g) ((heard c g).window)).2.map aj),bm w.heap.size (.slice v30a ((heard c g).r.held.length) v30c) 2 ((heard c g).r.held.map pC),a9 w.heap.size 105 13 (.slice (some ⟨g2,0,none⟩) 0 0) (([] : List Seg).map aj),bm w.heap.size (cS v1a c v1c) 2 (c.r.held.map pC),cH Z c Y]⟩ ?_
 refine kR ?_
 have hmod : aa c g = (((pump (heard c g) ((heard c g).window)).1),((pump (heard c g) ((heard c g).window)).2),(aw c g)) := by first | (simp [aa,ca,c8, *]; done) | grind [aa,ca,c8]
 exact ⟨[.agg (a6 (pump (heard c g) ((heard c g).window)).1 (.slice v33a ((pump (heard c g) ((heard c g).window)).1.r.held.length) v33c)).toArray,.slice v34a ((pump (heard c g) ((heard c g).window)).2.length) v34c,iI (aw c g)],by kernel_rfl,fun w' hb hf ha => by rw [hmod]; exact xo2 ((v33a,v33c),(v34a,v34c)) rfl rfl (pO (hf _ m0) hB) (pR (hf _ m1) hB) (Apart.sub2 ha (i := 0) (j := 1) rfl rfl (by decide) rfl (fun b h => h) (fun b h => bO h)) hb⟩
theorem l1New_c (J : List Int) (A : Option Addr) (cap : Nat) (w : World) (hl : Sl w (sJ A J cap) 1 (J.map bR)) (hn : J.length ≤ 1048576) : Calls Tryz.prog 18 #[.slice A J.length cap] w fun e w' => ∃ y : {g : Nat // ¬ (sQ A J cap).blk g}, e = .returned (gP y.1) ∧ (eH w.heap.size y.1 70 (sJ A J cap) J.length).p w' ∧ Below w.heap.size w w' := by
 have hq_code := Sl.capLe hl
 refine bZ (args := [.slice A J.length cap]) (fn := Tryz.f18) [sQ A J cap] Tryz.func18 rfl Tryz.ntmps18 rfl (by simp only [List.mem_cons,List.not_mem_nil,or_false,forall_eq]; exact ⟨rfl,hl⟩) ?_
 refine kQ <| cm [0] ⟨[(0,.v (sJ A J cap))],[],[],[sQ A J cap]⟩ <| kQ <| aW [0,3] [(3,aI (K6.wrap (28655 + ((J.length : Nat) : Int))))] ?_
 refine kS <| kQ <| aW [0,3,4] [(4,aI 0)] <| ao <| bc (α := {x : Nat × Int // (fun (i : Nat) (h : Int) => i ≤ J.length) x.1 x.2}) (fun x => (fun (i : Nat) (h : Int) => (⟨[(0,.v (sJ A J cap)),(3,aI h),(4,aI (i : Int))],[],[],[sQ A J cap]⟩ : St)) x.1.1 x.1.2) (fun x => (fun (i : Nat) (h : Int) => J.length - i) x.1.1 x.1.2) ⟨(0,K6.wrap (28655 + ((J.length : Nat) : Int))),Nat.zero_le _⟩ (kF 0 0 [0,3,4]) ?_
 rintro ⟨⟨i,h⟩,hi⟩
 try dsimp only
 try dsimp only at hi
 refine kS <| kQ <| di 5 [0,3,4,12] [(12,aB (decide ((i : Int) < ((J.length : Nat) : Int))))] <| kP 12 (decide ((i : Int) < ((J.length : Nat) : Int))) (fun h1 => ?_) (fun h1 => ?_)
 have h1p := of_decide_eq_true h1
 have hlt : i < J.length := by simpa using h1
 obtain ⟨z,hz⟩ : ∃ z,J[i]? = some z := ⟨_,List.getElem?_eq_getElem hlt⟩
 refine aW [0,3,4,15] [(15,aB (decide ((i : Int) < 4000)))] <| kC (decide ((i : Int) < 4000)) (fun h2 => ?_) (fun h2 => ?_)
 have h2p := of_decide_eq_true h2
 refine kK <| kS <| ao <| kG <| de (kd := .i64) (T := 22) (e := 5) (K := 1) 4 [0,3,4,19,20,21] [(19,aI (K6.wrap (h * 131))),(20,.v (sJ A J cap)),(21,aI (i : Int))] i [.int .u8 z] (sQ A J cap) (by kernel_rfl) rfl (by kernel_rfl) rfl rfl (by kernel_rfl) (by kernel_rfl) (by kernel_rfl) (by kernel_rfl) hlt (by simp) (fun w h => h) (fun b h => h) (by simp only [List.getElem?_map,hz]; rfl) ?_
 refine aW [0,3,4] [(3,aI (K6.wrap (BitVec.ofInt 64 (K6.wrap ((K6.wrap ((K6.wrap (h * 131)) + (K6.wrap z))) + 7)) &&& BitVec.ofInt 64 1073741823).toNat))] <| kG <| di 3 [0,3,4] [(4,aI (K6.wrap ((i : Int) + 1)))] <| cU [0,3,4] [(4,aI (K6.wrap ((i : Int) + 1)))] [(4,aI ((i : Int) + 1))] (by rw [show (K6.wrap ((i : Int) + 1)) = ((i : Int) + 1) from al (by omega) (by omega)]) (by kernel_rfl) ?_
 refine aW [0,3,4] [] ?_
 exact ⟨⟨(i + 1,K6.wrap (BitVec.ofInt 64 (K6.wrap ((K6.wrap ((K6.wrap (h * 131)) + (K6.wrap z))) + 7)) &&& BitVec.ofInt 64 1073741823).toNat),hlt⟩,kF 0 0 [0,3,4],by show (fun (i : Nat) (h : Int) => J.length - i) (i + 1) (K6.wrap (BitVec.ofInt 64 (K6.wrap ((K6.wrap ((K6.wrap (h * 131)) + (K6.wrap z))) + 7)) &&& BitVec.ofInt 64 1073741823).toNat) < J.length - i; (dsimp only; omega)⟩
 have h2p := of_decide_eq_false h2
 refine bH <| kQ <| kOS 2 [28,29] [(28,.v (sJ A J cap)),(29,aI h)] (.agg #[.slice A J.length cap,iI 0,iI h]) rfl (fun _ _ _ ww hr => bn [(0,.slice A J.length cap),(2,iI h)] hr.1 rfl (by kernel_rfl) (by kernel_rfl) ww) ?_
 refine gk [2] [(2,.p 0 0)] [⟨70,[.slice A J.length cap,iI 0,iI h]⟩] <| xw_pin ?_
 intro g hg hgn
 refine kR ?_
 exact ⟨[gP g],by kernel_rfl,fun w' hb hf => ⟨⟨g,hgn _ (by simp)⟩,rfl,⟨hg,0,h,Nat.zero_le _,(hf (eO w.heap.size g 70 [.slice A J.length cap,iI 0,iI h]) (by simp)).2⟩,hb⟩⟩
 have h1p := of_decide_eq_false h1
 refine aW [0,3,4,15] [(15,aB false)] <| kN <| bH <| kQ <| kOS 2 [28,29] [(28,.v (sJ A J cap)),(29,aI h)] (.agg #[.slice A J.length cap,iI 0,iI h]) rfl (fun _ _ _ ww hr => bn [(0,.slice A J.length cap),(2,iI h)] hr.1 rfl (by kernel_rfl) (by kernel_rfl) ww) ?_
 refine gk [2] [(2,.p 0 0)] [⟨70,[.slice A J.length cap,iI 0,iI h]⟩] <| xw_pin ?_
 intro g hg hgn
 refine kR ?_
 exact ⟨[gP g],by kernel_rfl,fun w' hb hf => ⟨⟨g,hgn _ (by simp)⟩,rfl,⟨hg,0,h,Nat.zero_le _,(hf (eO w.heap.size g 70 [.slice A J.length cap,iI 0,iI h]) (by simp)).2⟩,hb⟩⟩
theorem l1Byte_c (g : Nat) (J : List Int) (A : Option Addr) (cap : Nat)  (w : World) (B : Nat) (hB : B ≤ w.heap.size) (hc : (cF B g A J cap).p w) (hl : Sl w (sJ A J cap) 1 (J.map bR)) (hap : ¬ (sQ A J cap).blk g) (hn : J.length ≤ 1048576)  : Calls Tryz.prog 71 #[gP g] w fun e w' => ∃ y : {y : Int // 0 ≤ y ∧ y ≤ 255}, e = .returned (iI y.1) ∧ (cF B g A J cap).p w' ∧ Chgd (fun b => b = g) w w' := by
 have hq_code := Sl.capLe hl
 obtain ⟨hBg,i,h,hi,hg⟩ := hc
 refine cQ (args := [gP g]) (fn := Tryz.f71) [eO B g 70 [.slice A J.length cap,iI (i : Int),iI h],sQ A J cap,bF w (fun b => b = g)] B Tryz.func71 rfl Tryz.ntmps71 rfl hB (by simp only [List.mem_cons,List.not_mem_nil,or_false,forall_eq_or_imp,forall_eq]; exact ⟨⟨hBg,hg⟩,hl,bT w _⟩) (apart_cell hap rfl) ?_
 refine kQ <| cm [0] ⟨[(0,aP g)],[],[],[eO B g 70 [.slice A J.length cap,iI (i : Int),iI h],sQ A J cap,bF w (fun b => b = g)]⟩ <| kQ <| gc 2 [0,4,5] [(4,aP g),(5,aP g)] (gP g) rfl (fun _ _ _ ww hr => fg (b := g) (m := 0) hr.1 rfl (by kernel_rfl) ww) ?_
 refine gc 0 [0,4,6] [] (.pointer (some ⟨g,2,none⟩)) rfl (fun _ _ _ ww hr => dM (sz := 1) (b := g) (m := 0) hr.1 rfl Tryz.underlying70 rfl (by kernel_rfl) rfl (by kernel_rfl) rfl) ?_
 refine gc 0 [0,4,7] [] (iI h) rfl (fun _ _ _ ww hr => ldP_run (off := 2) (B := B) (g := g) (T := 70) (cs := [.slice A J.length cap,iI (i : Int),iI h]) hr rfl (by kernel_rfl) (by simp) (by kernel_rfl)) ?_
 refine gc 2 [0,4,10] [(10,aI (K6.wrap ((K6.wrap (h * 6364136223846793005)) + 1442695040888963407)))] (gP g) rfl (fun _ _ _ ww hr => fg (b := g) (m := 0) hr.1 rfl (by kernel_rfl) ww) ?_
 refine gc 0 [0,10,11] [] (.pointer (some ⟨g,2,none⟩)) rfl (fun _ _ _ ww hr => dM (sz := 1) (b := g) (m := 0) hr.1 rfl Tryz.underlying70 rfl (by kernel_rfl) rfl (by kernel_rfl) rfl) ?_
 refine xl_hs 0 [0,10,12] ⟨[(0,aP g),(10,aI (K6.wrap ((K6.wrap (h * 6364136223846793005)) + 1442695040888963407))),(12,.v (.pointer (some ⟨g,2,none⟩)))],[],[],[eO B g 70 [.slice A J.length cap,iI (i : Int),iI h],sQ A J cap,bF w (fun b => b = g)]⟩ (by kernel_rfl) rfl (by kernel_rfl) rfl (by kernel_rfl) (hs_stP (g := g) (T := 70) (off := 2) (v := (iI (K6.wrap ((K6.wrap (h * 6364136223846793005)) + 1442695040888963407)))) (i := 0) (B := B) (cs := [.slice A J.length cap,iI (i : Int),iI h]) [iI (K6.wrap ((K6.wrap (h * 6364136223846793005)) + 1442695040888963407))] (cs' := [.slice A J.length cap,iI (i : Int),iI (K6.wrap ((K6.wrap (h * 6364136223846793005)) + 1442695040888963407))]) rfl (by kernel_rfl) (by kernel_rfl) rfl (by kernel_rfl) rfl (by kernel_rfl) rfl rfl (cf w B)) ?_
 refine aW [0] [] <| kS <| d5 <| xws_cell (B := B) (g := g) (T := 70) (cs := [.slice A J.length cap,iI (i : Int),iI (K6.wrap ((K6.wrap (h * 6364136223846793005)) + 1442695040888963407))]) (fun _ _ h => h) (by simp) ?_
 refine ci [] (by kernel_rfl) (fun ρ σ hq1 => ?_)
 refine d9 [0,5] [18,13,0] 11 [(18,aP g),(13,aP g)] <| kX 1 (gP g) rfl (fun _ _ ww hA => fg (b := g) (m := 0) hA rfl (by kernel_rfl) ww) ?_
 refine kX 2 (.pointer (some ⟨g,2,none⟩)) rfl (fun _ _ ww hA => dM (sz := 1) (b := g) (m := 0) hA rfl Tryz.underlying70 rfl (by kernel_rfl) rfl (by kernel_rfl) rfl) ?_
 refine xe_opH 3 (iI (K6.wrap ((K6.wrap (h * 6364136223846793005)) + 1442695040888963407))) _ rfl (by kernel_rfl) (by kernel_rfl) (by kernel_rfl) (fun _ _ h => h) (by kernel_rfl) rfl (fun _ _ ww hA hS => fW (g := g) (off := 2) (cs := [.slice A J.length cap,iI (i : Int),iI (K6.wrap ((K6.wrap (h * 6364136223846793005)) + 1442695040888963407))]) hA rfl (by kernel_rfl) (rd_row hS (h := 0) rfl hq1.2) (by kernel_rfl)) rfl ?_
 refine kX 4 (iI (Int.fdiv (K6.wrap ((K6.wrap (h * 6364136223846793005)) + 1442695040888963407)) (2 ^ (33 : Int).toNat))) rfl (fun _ _ ww hA => co hA rfl (by kernel_rfl) (by kernel_rfl) (shr_run (k' := .u64) (by decide) (by decide) ww)) ?_
 refine kX 6 (gP g) rfl (fun _ _ ww hA => fg (b := g) (m := 0) hA rfl (by kernel_rfl) ww) ?_
 refine kX 7 (.pointer (some ⟨g,2,none⟩)) rfl (fun _ _ ww hA => dM (sz := 1) (b := g) (m := 0) hA rfl Tryz.underlying70 rfl (by kernel_rfl) rfl (by kernel_rfl) rfl) ?_
 refine xe_opH 8 (iI (K6.wrap ((K6.wrap (h * 6364136223846793005)) + 1442695040888963407))) _ rfl (by kernel_rfl) (by kernel_rfl) (by kernel_rfl) (fun _ _ h => h) (by kernel_rfl) rfl (fun _ _ ww hA hS => fW (g := g) (off := 2) (cs := [.slice A J.length cap,iI (i : Int),iI (K6.wrap ((K6.wrap (h * 6364136223846793005)) + 1442695040888963407))]) hA rfl (by kernel_rfl) (rd_row hS (h := 0) rfl hq1.2) (by kernel_rfl)) rfl ?_
 refine kX 9 (iI (Int.fdiv (K6.wrap ((K6.wrap (h * 6364136223846793005)) + 1442695040888963407)) (2 ^ (45 : Int).toNat))) rfl (fun _ _ ww hA => co hA rfl (by kernel_rfl) (by kernel_rfl) (shr_run (k' := .u64) (by decide) (by decide) ww)) ?_
 refine kX 10 (iI (K6.wrap (BitVec.ofInt 64 (Int.fdiv (K6.wrap ((K6.wrap (h * 6364136223846793005)) + 1442695040888963407)) (2 ^ (33 : Int).toNat)) ^^^ BitVec.ofInt 64 (Int.fdiv (K6.wrap ((K6.wrap (h * 6364136223846793005)) + 1442695040888963407)) (2 ^ (45 : Int).toNat))).toNat)) rfl (fun _ _ ww hA => co hA rfl (by kernel_rfl) (by kernel_rfl) (xor_run ww)) ?_
 refine d9 [11,12] [3,0] 0 [(3,aI (K6.wrap (BitVec.ofInt 64 (K6.wrap (BitVec.ofInt 64 (Int.fdiv (K6.wrap ((K6.wrap (h * 6364136223846793005)) + 1442695040888963407)) (2 ^ (33 : Int).toNat)) ^^^ BitVec.ofInt 64 (Int.fdiv (K6.wrap ((K6.wrap (h * 6364136223846793005)) + 1442695040888963407)) (2 ^ (45 : Int).toNat))).toNat) &&& BitVec.ofInt 64 255).toNat))] <| kZ <| kS <| kS <| xw_wk (wkf (s' := ⟨[(3,aI (K6.wrap (BitVec.ofInt 64 (K6.wrap (BitVec.ofInt 64 (Int.fdiv (K6.wrap ((K6.wrap (h * 6364136223846793005)) + 1442695040888963407)) (2 ^ (33 : Int).toNat)) ^^^ BitVec.ofInt 64 (Int.fdiv (K6.wrap ((K6.wrap (h * 6364136223846793005)) + 1442695040888963407)) (2 ^ (45 : Int).toNat))).toNat) &&& BitVec.ofInt 64 255).toNat)),(0,aP g)],[],[],[eO B g 70 [.slice A J.length cap,iI (i : Int),iI (K6.wrap ((K6.wrap (h * 6364136223846793005)) + 1442695040888963407))],sQ A J cap,bF w (fun b => b = g)]⟩) 0 0 [3,0] (by kernel_rfl)) ?_
 refine d5 <| xws_cell (B := B) (g := g) (T := 70) (cs := [.slice A J.length cap,iI (i : Int),iI (K6.wrap ((K6.wrap (h * 6364136223846793005)) + 1442695040888963407))]) (fun _ _ h => h) (by simp) ?_
 refine ci [] (by kernel_rfl) (fun ρ σ hq2 => ?_)
 refine d9 [0,4] [29,25,3,0] 8 [(29,aP g),(25,aP g)] <| kX 1 (gP g) rfl (fun _ _ ww hA => fg (b := g) (m := 0) hA rfl (by kernel_rfl) ww) ?_
 refine kX 2 (.pointer (some ⟨g,1,none⟩)) rfl (fun _ _ ww hA => dM (sz := 1) (b := g) (m := 0) hA rfl Tryz.underlying70 rfl (by kernel_rfl) rfl (by kernel_rfl) rfl) ?_
 refine xe_opH 3 (iI (i : Int)) _ rfl (by kernel_rfl) (by kernel_rfl) (by kernel_rfl) (fun _ _ h => h) (by kernel_rfl) rfl (fun _ _ ww hA hS => fW (g := g) (off := 1) (cs := [.slice A J.length cap,iI (i : Int),iI (K6.wrap ((K6.wrap (h * 6364136223846793005)) + 1442695040888963407))]) hA rfl (by kernel_rfl) (rd_row hS (h := 0) rfl hq2.2) (by kernel_rfl)) rfl ?_
 refine kX 5 (gP g) rfl (fun _ _ ww hA => fg (b := g) (m := 0) hA rfl (by kernel_rfl) ww) ?_
 refine kX 6 (gP g) rfl (fun _ _ ww hA => dM (sz := 1) (b := g) (m := 0) hA rfl Tryz.underlying70 rfl (by kernel_rfl) rfl (by kernel_rfl) rfl) ?_
 refine xe_opH 7 (sJ A J cap) _ rfl (by kernel_rfl) (by kernel_rfl) (by kernel_rfl) (fun _ _ h => h) (by kernel_rfl) rfl (fun _ _ ww hA hS => fW (g := g) (off := 0) (cs := [.slice A J.length cap,iI (i : Int),iI (K6.wrap ((K6.wrap (h * 6364136223846793005)) + 1442695040888963407))]) hA rfl (by kernel_rfl) (rd_row hS (h := 0) rfl hq2.2) (by kernel_rfl)) rfl ?_
 refine d9 [8,9] [34,3,0] 0 [(34,aB (decide ((i : Int) < ((J.length : Nat) : Int))))] <| kZ <| kC (decide ((i : Int) < ((J.length : Nat) : Int))) (fun h3 => ?_) (fun h3 => ?_)
 have h3p := of_decide_eq_true h3
 have hlt : i < J.length := by simpa using h3
 obtain ⟨z,hz⟩ : ∃ z,J[i]? = some z := ⟨_,List.getElem?_eq_getElem hlt⟩
 refine kS <| xw_wk (wkf (s' := ⟨[(34,aB (decide ((i : Int) < ((J.length : Nat) : Int)))),(3,aI (K6.wrap (BitVec.ofInt 64 (K6.wrap (BitVec.ofInt 64 (Int.fdiv (K6.wrap ((K6.wrap (h * 6364136223846793005)) + 1442695040888963407)) (2 ^ (33 : Int).toNat)) ^^^ BitVec.ofInt 64 (Int.fdiv (K6.wrap ((K6.wrap (h * 6364136223846793005)) + 1442695040888963407)) (2 ^ (45 : Int).toNat))).toNat) &&& BitVec.ofInt 64 255).toNat)),(0,aP g)],[],[],[eO B g 70 [.slice A J.length cap,iI (i : Int),iI (K6.wrap ((K6.wrap (h * 6364136223846793005)) + 1442695040888963407))],sQ A J cap,bF w (fun b => b = g)]⟩) 0 0 [34,3,0] (by kernel_rfl)) ?_
 refine d5 <| cA (K := 1) (j := i) [.int .u8 z] (sQ A J cap) (fun _ _ h => h) (by simp) (fun w h => h) (fun b h => h) (by simp only [List.getElem?_map,hz]; rfl) (fun bq4 offq4 hAq4 => ?_)
 refine xws_cell (B := B) (g := g) (T := 70) (cs := [.slice A J.length cap,iI (i : Int),iI (K6.wrap ((K6.wrap (h * 6364136223846793005)) + 1442695040888963407))]) (fun _ _ h => h) (by simp) ?_
 refine ci [] (by kernel_rfl) (fun ρ σ hq5 => ?_)
 refine cJ [0,1,5] [40,36,35,3,0] 12 [(40,aP g),(36,aP g),(35,aI (K6.wrap (BitVec.ofInt 64 (K6.wrap (BitVec.ofInt 64 (Int.fdiv (K6.wrap ((K6.wrap (h * 6364136223846793005)) + 1442695040888963407)) (2 ^ (33 : Int).toNat)) ^^^ BitVec.ofInt 64 (Int.fdiv (K6.wrap ((K6.wrap (h * 6364136223846793005)) + 1442695040888963407)) (2 ^ (45 : Int).toNat))).toNat) &&& BitVec.ofInt 64 255).toNat)),(3,aI (K6.wrap (BitVec.ofInt 64 (K6.wrap (BitVec.ofInt 64 (Int.fdiv (K6.wrap ((K6.wrap (h * 6364136223846793005)) + 1442695040888963407)) (2 ^ (33 : Int).toNat)) ^^^ BitVec.ofInt 64 (Int.fdiv (K6.wrap ((K6.wrap (h * 6364136223846793005)) + 1442695040888963407)) (2 ^ (45 : Int).toNat))).toNat) &&& BitVec.ofInt 64 255).toNat)),(0,aP g)] <| kX 2 (gP g) rfl (fun _ _ ww hA => fg (b := g) (m := 0) hA rfl (by kernel_rfl) ww) ?_
 refine kX 3 (gP g) rfl (fun _ _ ww hA => dM (sz := 1) (b := g) (m := 0) hA rfl Tryz.underlying70 rfl (by kernel_rfl) rfl (by kernel_rfl) rfl) ?_
 refine xe_opH 4 (sJ A J cap) _ rfl (by kernel_rfl) (by kernel_rfl) (by kernel_rfl) (fun _ _ h => h) (by kernel_rfl) rfl (fun _ _ ww hA hS => fW (g := g) (off := 0) (cs := [.slice A J.length cap,iI (i : Int),iI (K6.wrap ((K6.wrap (h * 6364136223846793005)) + 1442695040888963407))]) hA rfl (by kernel_rfl) (rd_row hS (h := 1) rfl hq5.2) (by kernel_rfl)) rfl ?_
 refine kX 6 (gP g) rfl (fun _ _ ww hA => fg (b := g) (m := 0) hA rfl (by kernel_rfl) ww) ?_
 refine kX 7 (.pointer (some ⟨g,1,none⟩)) rfl (fun _ _ ww hA => dM (sz := 1) (b := g) (m := 0) hA rfl Tryz.underlying70 rfl (by kernel_rfl) rfl (by kernel_rfl) rfl) ?_
 refine xe_opH 8 (iI (i : Int)) _ rfl (by kernel_rfl) (by kernel_rfl) (by kernel_rfl) (fun _ _ h => h) (by kernel_rfl) rfl (fun _ _ ww hA hS => fW (g := g) (off := 1) (cs := [.slice A J.length cap,iI (i : Int),iI (K6.wrap ((K6.wrap (h * 6364136223846793005)) + 1442695040888963407))]) hA rfl (by kernel_rfl) (rd_row hS (h := 1) rfl hq5.2) (by kernel_rfl)) rfl ?_
 refine cX (kd := .i64) (T := 22) (e := 5) (K := 1) (j := i) (A := A) (len := J.length) (cap := cap) 9 0 _ rfl (by kernel_rfl) (by kernel_rfl) (by kernel_rfl) (fun _ _ h => h) (by kernel_rfl) rfl rfl (by kernel_rfl) (by kernel_rfl) (by kernel_rfl) (by kernel_rfl) hlt hAq4 hq5.1.2 (by kernel_rfl) rfl ?_
 refine d9 [10,11,12,13,14] [3,0] 0 [(3,aI (K6.wrap (BitVec.ofInt 64 (K6.wrap ((K6.wrap (BitVec.ofInt 64 (K6.wrap (BitVec.ofInt 64 (Int.fdiv (K6.wrap ((K6.wrap (h * 6364136223846793005)) + 1442695040888963407)) (2 ^ (33 : Int).toNat)) ^^^ BitVec.ofInt 64 (Int.fdiv (K6.wrap ((K6.wrap (h * 6364136223846793005)) + 1442695040888963407)) (2 ^ (45 : Int).toNat))).toNat) &&& BitVec.ofInt 64 255).toNat) + (K6.wrap z))) &&& BitVec.ofInt 64 255).toNat))] <| kZ <| kG <| gc 2 [3,49,50] [(49,aP g),(50,aP g)] (gP g) rfl (fun _ _ _ ww hr => fg (b := g) (m := 0) hr.1 rfl (by kernel_rfl) ww) ?_
 refine gc 0 [3,49,51] [] (.pointer (some ⟨g,1,none⟩)) rfl (fun _ _ _ ww hr => dM (sz := 1) (b := g) (m := 0) hr.1 rfl Tryz.underlying70 rfl (by kernel_rfl) rfl (by kernel_rfl) rfl) ?_
 refine gc 0 [3,49,52] [] (iI (i : Int)) rfl (fun _ _ _ ww hr => ldP_run (off := 1) (B := B) (g := g) (T := 70) (cs := [.slice A J.length cap,iI (i : Int),iI (K6.wrap ((K6.wrap (h * 6364136223846793005)) + 1442695040888963407))]) hr rfl (by kernel_rfl) (by simp) (by kernel_rfl)) ?_
 refine gc 1 [3,49,54] [(54,aI (K6.wrap ((i : Int) + 1)))] (gP g) rfl (fun _ _ _ ww hr => fg (b := g) (m := 0) hr.1 rfl (by kernel_rfl) ww) ?_
 refine gc 0 [3,54,55] [] (.pointer (some ⟨g,1,none⟩)) rfl (fun _ _ _ ww hr => dM (sz := 1) (b := g) (m := 0) hr.1 rfl Tryz.underlying70 rfl (by kernel_rfl) rfl (by kernel_rfl) rfl) ?_
 refine xl_hs 0 [3,54,56] ⟨[(3,aI (K6.wrap (BitVec.ofInt 64 (K6.wrap ((K6.wrap (BitVec.ofInt 64 (K6.wrap (BitVec.ofInt 64 (Int.fdiv (K6.wrap ((K6.wrap (h * 6364136223846793005)) + 1442695040888963407)) (2 ^ (33 : Int).toNat)) ^^^ BitVec.ofInt 64 (Int.fdiv (K6.wrap ((K6.wrap (h * 6364136223846793005)) + 1442695040888963407)) (2 ^ (45 : Int).toNat))).toNat) &&& BitVec.ofInt 64 255).toNat) + (K6.wrap z))) &&& BitVec.ofInt 64 255).toNat)),(54,aI (K6.wrap ((i : Int) + 1))),(56,.v (.pointer (some ⟨g,1,none⟩)))],[],[[.int .u8 z],[.slice A J.length cap,iI (i : Int),iI (K6.wrap ((K6.wrap (h * 6364136223846793005)) + 1442695040888963407))]],[eO B g 70 [.slice A J.length cap,iI (i : Int),iI (K6.wrap ((K6.wrap (h * 6364136223846793005)) + 1442695040888963407))],sQ A J cap,bF w (fun b => b = g)]⟩ (by kernel_rfl) rfl (by kernel_rfl) rfl (by kernel_rfl) (hs_stP (g := g) (T := 70) (off := 1) (v := (iI (K6.wrap ((i : Int) + 1)))) (i := 0) (B := B) (cs := [.slice A J.length cap,iI (i : Int),iI (K6.wrap ((K6.wrap (h * 6364136223846793005)) + 1442695040888963407))]) [iI (K6.wrap ((i : Int) + 1))] (cs' := [.slice A J.length cap,iI (K6.wrap ((i : Int) + 1)),iI (K6.wrap ((K6.wrap (h * 6364136223846793005)) + 1442695040888963407))]) rfl (by kernel_rfl) (by kernel_rfl) rfl (by kernel_rfl) rfl (by kernel_rfl) rfl rfl (cf w B)) ?_
 refine aW [3] [] <| kQ <| aT [2] [(2,aI (K6.wrap (BitVec.ofInt 64 (K6.wrap ((K6.wrap (BitVec.ofInt 64 (K6.wrap (BitVec.ofInt 64 (Int.fdiv (K6.wrap ((K6.wrap (h * 6364136223846793005)) + 1442695040888963407)) (2 ^ (33 : Int).toNat)) ^^^ BitVec.ofInt 64 (Int.fdiv (K6.wrap ((K6.wrap (h * 6364136223846793005)) + 1442695040888963407)) (2 ^ (45 : Int).toNat))).toNat) &&& BitVec.ofInt 64 255).toNat) + (K6.wrap z))) &&& BitVec.ofInt 64 255).toNat))] <| kR ?_
 exact ⟨[iI (K6.wrap (BitVec.ofInt 64 (K6.wrap ((K6.wrap (BitVec.ofInt 64 (K6.wrap (BitVec.ofInt 64 (Int.fdiv (K6.wrap ((K6.wrap (h * 6364136223846793005)) + 1442695040888963407)) (2 ^ (33 : Int).toNat)) ^^^ BitVec.ofInt 64 (Int.fdiv (K6.wrap ((K6.wrap (h * 6364136223846793005)) + 1442695040888963407)) (2 ^ (45 : Int).toNat))).toNat) &&& BitVec.ofInt 64 255).toNat) + (K6.wrap z))) &&& BitVec.ofInt 64 255).toNat)],by kernel_rfl,fun w' hb hf => ⟨⟨K6.wrap (BitVec.ofInt 64 (K6.wrap ((K6.wrap (BitVec.ofInt 64 (K6.wrap (BitVec.ofInt 64 (Int.fdiv (K6.wrap ((K6.wrap (h * 6364136223846793005)) + 1442695040888963407)) (2 ^ (33 : Int).toNat)) ^^^ BitVec.ofInt 64 (Int.fdiv (K6.wrap ((K6.wrap (h * 6364136223846793005)) + 1442695040888963407)) (2 ^ (45 : Int).toNat))).toNat) &&& BitVec.ofInt 64 255).toNat) + (K6.wrap z))) &&& BitVec.ofInt 64 255).toNat,and255 _⟩,rfl,⟨hBg,i + 1,K6.wrap ((K6.wrap (h * 6364136223846793005)) + 1442695040888963407),by omega,by have := (hf (eO B g 70 [.slice A J.length cap,iI (K6.wrap ((i : Int) + 1)),iI (K6.wrap ((K6.wrap (h * 6364136223846793005)) + 1442695040888963407))]) (by simp)).2; rw [show K6.wrap ((i : Int) + 1) = ((i + 1 : Nat) : Int) from by rw [al (by omega) (by omega)]; omega] at this; exact this⟩,am (hf (bF w (fun b => b = g)) (by simp)) hb rfl rfl rfl⟩⟩
 have h3p := of_decide_eq_false h3
 refine kK <| kQ <| aT [2] [(2,aI (K6.wrap (BitVec.ofInt 64 (K6.wrap (BitVec.ofInt 64 (Int.fdiv (K6.wrap ((K6.wrap (h * 6364136223846793005)) + 1442695040888963407)) (2 ^ (33 : Int).toNat)) ^^^ BitVec.ofInt 64 (Int.fdiv (K6.wrap ((K6.wrap (h * 6364136223846793005)) + 1442695040888963407)) (2 ^ (45 : Int).toNat))).toNat) &&& BitVec.ofInt 64 255).toNat))] <| kR ?_
 exact ⟨[iI (K6.wrap (BitVec.ofInt 64 (K6.wrap (BitVec.ofInt 64 (Int.fdiv (K6.wrap ((K6.wrap (h * 6364136223846793005)) + 1442695040888963407)) (2 ^ (33 : Int).toNat)) ^^^ BitVec.ofInt 64 (Int.fdiv (K6.wrap ((K6.wrap (h * 6364136223846793005)) + 1442695040888963407)) (2 ^ (45 : Int).toNat))).toNat) &&& BitVec.ofInt 64 255).toNat)],by kernel_rfl,fun w' hb hf => ⟨⟨K6.wrap (BitVec.ofInt 64 (K6.wrap (BitVec.ofInt 64 (Int.fdiv (K6.wrap ((K6.wrap (h * 6364136223846793005)) + 1442695040888963407)) (2 ^ (33 : Int).toNat)) ^^^ BitVec.ofInt 64 (Int.fdiv (K6.wrap ((K6.wrap (h * 6364136223846793005)) + 1442695040888963407)) (2 ^ (45 : Int).toNat))).toNat) &&& BitVec.ofInt 64 255).toNat,and255 _⟩,rfl,⟨hBg,i,K6.wrap ((K6.wrap (h * 6364136223846793005)) + 1442695040888963407),hi,(hf (eO B g 70 [.slice A J.length cap,iI (i : Int),iI (K6.wrap ((K6.wrap (h * 6364136223846793005)) + 1442695040888963407))]) (by simp)).2⟩,am (hf (bF w (fun b => b = g)) (by simp)) hb rfl rfl rfl⟩⟩
theorem eL {g : Nat} {J : List Int} {A : Option Addr} {cap : Nat}  {w0 : World} {fs : List Fact} {B : Nat} (hB : B ≤ w0.heap.size) (hap : ¬ (sQ A J cap).blk g)  (hn : J.length ≤ 1048576 := by omega) (h1 : cF B g A J cap ∈ fs := by simp) (h2 : sQ A J cap ∈ fs := by simp) : XCM Tryz.prog w0 fs (cF B g A J cap).blk 71 [gP g] (α := {y : Int // 0 ≤ y ∧ y ≤ 255}) (fun y => iI y.1) (fun _ => [cF B g A J cap]) := dw fun w hw hf => l1Byte_c g J A cap  w B (Nat.le_trans hB hw) (hf _ h1) (hf _ h2) hap hn  
theorem l1Below_c (g : Nat) (J : List Int) (A : Option Addr) (cap : Nat) (n : Int) (w : World) (B : Nat) (hB : B ≤ w.heap.size) (hc : (cF B g A J cap).p w) (hl : Sl w (sJ A J cap) 1 (J.map bR)) (hap : ¬ (sQ A J cap).blk g) (hn : J.length ≤ 1048576)  : Calls Tryz.prog 46 #[gP g, iI n] w fun e w' => ∃ y : {y : Int // 0 ≤ y ∧ (0 < n → y < n)}, e = .returned (iI y.1) ∧ (cF B g A J cap).p w' ∧ Chgd (fun b => b = g) w w' := by
 have hq_code := Sl.capLe hl
 have hBw : B ≤ (av w B).heap.size := Nat.le_of_eq (aM hB).symm
 have hlo : ∀ (ww : World) (b : Nat),(cF B g A J cap).p ww → (cF B g A J cap).blk b → (av w B).heap.size ≤ b := fun ww b h hb => Nat.le_trans (cf w B) (d3 h hb)
 refine cQ (args := [gP g,iI n]) (fn := Tryz.f46) [cF B g A J cap,sQ A J cap,bF w (fun b => b = g)] B Tryz.func46 rfl Tryz.ntmps46 rfl hB (by simp only [List.mem_cons,List.not_mem_nil,or_false,forall_eq_or_imp,forall_eq]; exact ⟨hc,hl,bT w _⟩) (c5 hap rfl) ?_
 refine kQ <| cm [0,1] ⟨[(0,aP g),(1,aI n)],[],[],[cF B g A J cap,sQ A J cap,bF w (fun b => b = g)]⟩ <| kS <| kQ <| aW [0,1,10] [(10,aB (decide (n ≤ 0)))] ?_
 refine kC (decide (n ≤ 0)) (fun h1 => ?_) (fun h1 => ?_)
 have h1p := of_decide_eq_true h1
 refine kQ <| aT [4] [(4,aI 0)] <| kR ?_
 exact ⟨[iI 0],by kernel_rfl,fun w' hb hf => ⟨⟨0,(by first | (exact ⟨by omega,fun _ => by omega⟩) | (exact tmod_bd (by omega) (by omega)))⟩,rfl,hf (cF B g A J cap) (by simp),am (hf (bF w (fun b => b = g)) (by simp)) hb rfl rfl rfl⟩⟩
 have h1p := of_decide_eq_false h1
 refine kK <| kS <| kQ <| aW [0,1,12] [(12,aB (decide (n ≤ 256)))] ?_
 refine kC (decide (n ≤ 256)) (fun h2 => ?_) (fun h2 => ?_)
 have h2p := of_decide_eq_true h2
 refine kQ <| dl 1 [1,13] [(13,aP g)] 71 [gP g] (some 14) 0 rfl rfl hlo (eL hBw hap) ?_
 rintro ⟨y3,hy3⟩
 refine gc 1 [14,15] [(15,aI n)] (iI (Int.tmod y3 n)) rfl (fun _ _ _ ww hr => co hr.1 rfl (by kernel_rfl) (by kernel_rfl) (rem_run (by first | decide | omega) ww)) ?_
 refine aT [4] [(4,aI (Int.tmod y3 n))] <| kR ?_
 exact ⟨[iI (Int.tmod y3 n)],by kernel_rfl,fun w' hb hf => ⟨⟨Int.tmod y3 n,(by first | (exact ⟨by omega,fun _ => by omega⟩) | (exact tmod_bd (by omega) (by omega)))⟩,rfl,hf (cF B g A J cap) (by simp),am (hf (bF w (fun b => b = g)) (by simp)) hb rfl rfl rfl⟩⟩
 have h2p := of_decide_eq_false h2
 refine kK <| kQ <| dl 1 [0,1,17] [(17,aP g)] 71 [gP g] (some 18) 0 rfl rfl hlo (eL hBw hap) ?_
 rintro ⟨y4,hy4⟩
 refine aW [0,1,5] [(5,aI y4)] <| kQ <| dl 1 [0,1,5,19] [(19,aP g)] 71 [gP g] (some 20) 0 rfl rfl hlo (eL hBw hap) ?_
 rintro ⟨y5,hy5⟩
 refine aW [0,1,5,6] [(6,aI y5)] <| kQ <| dl 1 [0,1,5,6,21] [(21,aP g)] 71 [gP g] (some 22) 0 rfl rfl hlo (eL hBw hap) ?_
 rintro ⟨y6,hy6⟩
 refine aW [0,1,5,6,7] [(7,aI y6)] <| kQ <| dl 1 [1,5,6,7,23] [(23,aP g)] 71 [gP g] (some 24) 0 rfl rfl hlo (eL hBw hap) ?_
 rintro ⟨y7,hy7⟩
 refine aW [1,5,6,7,8] [(8,aI y7)] <| kQ <| kOS 11 [34,35] [(34,aI (K6.wrap ((K6.wrap ((K6.wrap ((K6.wrap (y4 * 16777216)) + (K6.wrap (y5 * 65536)))) + (K6.wrap (y6 * 256)))) + y7))),(35,aI n)] (iI (Int.tmod (K6.wrap ((K6.wrap ((K6.wrap ((K6.wrap (y4 * 16777216)) + (K6.wrap (y5 * 65536)))) + (K6.wrap (y6 * 256)))) + y7)) n)) rfl (fun _ _ _ ww hr => co hr.1 rfl (by kernel_rfl) (by kernel_rfl) (rem_run (by first | decide | omega) ww)) ?_
 refine dt 1 [4] [(4,aI (Int.tmod (K6.wrap ((K6.wrap ((K6.wrap ((K6.wrap (y4 * 16777216)) + (K6.wrap (y5 * 65536)))) + (K6.wrap (y6 * 256)))) + y7)) n))] <| cU [4] [(4,aI (Int.tmod (K6.wrap ((K6.wrap ((K6.wrap ((K6.wrap (y4 * 16777216)) + (K6.wrap (y5 * 65536)))) + (K6.wrap (y6 * 256)))) + y7)) n))] [(4,aI (Int.tmod ((((y4 * 16777216) + (y5 * 65536)) + (y6 * 256)) + y7) n))] (by rw [show (K6.wrap (y6 * 256)) = (y6 * 256) from al (by omega) (by omega),show (K6.wrap (y5 * 65536)) = (y5 * 65536) from al (by omega) (by omega),show (K6.wrap (y4 * 16777216)) = (y4 * 16777216) from al (by omega) (by omega),show (K6.wrap ((y4 * 16777216) + (y5 * 65536))) = ((y4 * 16777216) + (y5 * 65536)) from al (by omega) (by omega),show (K6.wrap (((y4 * 16777216) + (y5 * 65536)) + (y6 * 256))) = (((y4 * 16777216) + (y5 * 65536)) + (y6 * 256)) from al (by omega) (by omega),show (K6.wrap ((((y4 * 16777216) + (y5 * 65536)) + (y6 * 256)) + y7)) = ((((y4 * 16777216) + (y5 * 65536)) + (y6 * 256)) + y7) from al (by omega) (by omega)]) (by kernel_rfl) ?_
 refine aW [4] [] <| kR ?_
 exact ⟨[iI (Int.tmod ((((y4 * 16777216) + (y5 * 65536)) + (y6 * 256)) + y7) n)],by kernel_rfl,fun w' hb hf => ⟨⟨Int.tmod ((((y4 * 16777216) + (y5 * 65536)) + (y6 * 256)) + y7) n,(by first | (exact ⟨by omega,fun _ => by omega⟩) | (exact tmod_bd (by omega) (by omega)))⟩,rfl,hf (cF B g A J cap) (by simp),am (hf (bF w (fun b => b = g)) (by simp)) hb rfl rfl rfl⟩⟩
theorem ar {g : Nat} {J : List Int} {A : Option Addr} {cap : Nat} {n : Int} {w0 : World} {fs : List Fact} {B : Nat} (hB : B ≤ w0.heap.size) (hap : ¬ (sQ A J cap).blk g)  (hn : J.length ≤ 1048576 := by omega) (h1 : cF B g A J cap ∈ fs := by simp) (h2 : sQ A J cap ∈ fs := by simp) : XCM Tryz.prog w0 fs (cF B g A J cap).blk 46 [gP g, iI n] (α := {y : Int // 0 ≤ y ∧ (0 < n → y < n)}) (fun y => iI y.1) (fun _ => [cF B g A J cap]) := dw fun w hw hf => l1Below_c g J A cap n w B (Nat.le_trans hB hw) (hf _ h1) (hf _ h2) hap hn  
theorem l1Once_c (g : Nat) (J : List Int) (A : Option Addr) (cap : Nat) (n : Int) (w : World) (B : Nat) (hB : B ≤ w.heap.size) (hc : (cF B g A J cap).p w) (hl : Sl w (sJ A J cap) 1 (J.map bR)) (hap : ¬ (sQ A J cap).blk g) (hn : J.length ≤ 1048576)  : Calls Tryz.prog 20 #[gP g, iI n] w fun e w' => ∃ y : {y : Bool // True}, e = .returned (.bool y.1) ∧ (cF B g A J cap).p w' ∧ Chgd (fun b => b = g) w w' := by
 have hq_code := Sl.capLe hl
 have hBw : B ≤ (av w B).heap.size := Nat.le_of_eq (aM hB).symm
 have hlo : ∀ (ww : World) (b : Nat),(cF B g A J cap).p ww → (cF B g A J cap).blk b → (av w B).heap.size ≤ b := fun ww b h hb => Nat.le_trans (cf w B) (d3 h hb)
 refine cQ (args := [gP g,iI n]) (fn := Tryz.f20) [cF B g A J cap,sQ A J cap,bF w (fun b => b = g)] B Tryz.func20 rfl Tryz.ntmps20 rfl hB (by simp only [List.mem_cons,List.not_mem_nil,or_false,forall_eq_or_imp,forall_eq]; exact ⟨hc,hl,bT w _⟩) (c5 hap rfl) ?_
 refine kQ <| cm [0,1] ⟨[(0,aP g),(1,aI n)],[],[],[cF B g A J cap,sQ A J cap,bF w (fun b => b = g)]⟩ <| kQ <| kWS 2 [5,6] [(5,aP g),(6,aI n)] 46 [gP g,iI n] (some 7) 0 rfl rfl hlo (ar hBw hap) ?_
 rintro ⟨y1,hy1⟩
 obtain ⟨hy10,hy11⟩ := hy1
 refine aT [4] [(4,aB (y1 == 0))] <| kR ?_
 exact ⟨[.bool (y1 == 0)],by kernel_rfl,fun w' hb hf => ⟨⟨y1 == 0,trivial⟩,rfl,hf (cF B g A J cap) (by simp),am (hf (bF w (fun b => b = g)) (by simp)) hb rfl rfl rfl⟩⟩
theorem bY {g : Nat} {J : List Int} {A : Option Addr} {cap : Nat} {n : Int} {w0 : World} {fs : List Fact} {B : Nat} (hB : B ≤ w0.heap.size) (hap : ¬ (sQ A J cap).blk g)  (hn : J.length ≤ 1048576 := by omega) (h1 : cF B g A J cap ∈ fs := by simp) (h2 : sQ A J cap ∈ fs := by simp) : XCM Tryz.prog w0 fs (cF B g A J cap).blk 20 [gP g, iI n] (α := {y : Bool // True}) (fun y => .bool y.1) (fun _ => [cF B g A J cap]) := dw fun w hw hf => l1Once_c g J A cap n w B (Nat.le_trans hB hw) (hf _ h1) (hf _ h2) hap hn  
theorem l1PickInt_c (g : Nat) (J : List Int) (A : Option Addr) (cap : Nat) (list : List Int) (listV : Value) (w : World) (B : Nat) (hB : B ≤ w.heap.size) (hc : (cF B g A J cap).p w) (hl : Sl w (sJ A J cap) 1 (J.map bR)) (hap : ¬ (sQ A J cap).blk g) (hn : J.length ≤ 1048576) (hl_listV : Sl w listV 1 (list.map az)) (hap2 : ¬ (aJ listV 1 (list.map az)).blk g) (hne : 0 < list.length) : Calls Tryz.prog 48 #[gP g, listV] w fun e w' => ∃ y : {y : Int // y ∈ list}, e = .returned (iI y.1) ∧ (cF B g A J cap).p w' ∧ Chgd (fun b => b = g) w w' := by
 have hq_code := Sl.capLe hl
 have hBw : B ≤ (av w B).heap.size := Nat.le_of_eq (aM hB).symm
 have hlo : ∀ (ww : World) (b : Nat),(cF B g A J cap).p ww → (cF B g A J cap).blk b → (av w B).heap.size ≤ b := fun ww b h hb => Nat.le_trans (cf w B) (d3 h hb)
 obtain ⟨Al,Cl,hvl⟩ := hl_listV.form
 rw [List.length_map] at hvl; subst hvl
 have hnl := hl_listV.len; rw [List.length_map] at hnl
 have hql := Sl.capLe hl_listV
 refine cQ (args := [gP g,.slice Al list.length Cl]) (fn := Tryz.f48) [cF B g A J cap,sQ A J cap,bF w (fun b => b = g),aJ (.slice Al list.length Cl) 1 (list.map az)] B Tryz.func48 rfl Tryz.ntmps48 rfl hB (by simp only [List.mem_cons,List.not_mem_nil,or_false,forall_eq_or_imp,forall_eq]; exact ⟨hc,hl,bT w _,hl_listV⟩) (apart_cur2 hap rfl hap2 rfl) ?_
 refine kQ <| cm [0,1] ⟨[(0,aP g),(1,.v (.slice Al list.length Cl))],[],[],[cF B g A J cap,sQ A J cap,bF w (fun b => b = g),aJ (.slice Al list.length Cl) 1 (list.map az)]⟩ <| kQ <| kWS 4 [5,6,8] [(5,.v (.slice Al list.length Cl)),(6,aP g),(8,aI ((list.length : Nat) : Int))] 46 [gP g,iI ((list.length : Nat) : Int)] (some 9) 0 rfl rfl hlo (ar hBw hap) ?_
 rintro ⟨y1,hy1⟩
 obtain ⟨hy10,hy11⟩ := hy1
 obtain ⟨j2,hj2⟩ : ∃ j : Nat,y1 = (j : Int) := ⟨y1.toNat,by omega⟩
 subst hj2
 have hlt : j2 < list.length := by omega
 obtain ⟨z,hz⟩ : ∃ z,list[j2]? = some z := ⟨_,List.getElem?_eq_getElem hlt⟩
 refine de (kd := .i64) (T := 76) (e := 3) (K := 1) 0 [5,9] [] j2 [iI z] (aJ (.slice Al list.length Cl) 1 (list.map az)) (by kernel_rfl) rfl (by kernel_rfl) rfl rfl (by kernel_rfl) (by kernel_rfl) (by kernel_rfl) (by kernel_rfl) hlt (by simp) (fun w h => h) (fun b h => h) (by simp only [List.getElem?_map,hz]; rfl) ?_
 refine aT [4] [(4,aI z)] <| kR ?_
 exact ⟨[iI z],by kernel_rfl,fun w' hb hf => ⟨⟨z,List.mem_of_getElem? hz⟩,rfl,hf (cF B g A J cap) (by simp),am (hf (bF w (fun b => b = g)) (by simp)) hb rfl rfl rfl⟩⟩
theorem bw {g : Nat} {J : List Int} {A : Option Addr} {cap : Nat} {list : List Int} {listV : Value} {w0 : World} {fs : List Fact} {B : Nat} (hB : B ≤ w0.heap.size) (hap : ¬ (sQ A J cap).blk g) (hs0 : ∀ w : World, w0.heap.size ≤ w.heap.size → (∀ f ∈ fs, f.p w) → Sl w listV 1 (list.map az)) (hq0 : ¬ (aJ listV 1 (list.map az)).blk g) (hne : 0 < list.length) (hn : J.length ≤ 1048576 := by omega) (h1 : cF B g A J cap ∈ fs := by simp) (h2 : sQ A J cap ∈ fs := by simp) : XCM Tryz.prog w0 fs (cF B g A J cap).blk 48 [gP g, listV] (α := {y : Int // y ∈ list}) (fun y => iI y.1) (fun _ => [cF B g A J cap]) := dw fun w hw hf => l1PickInt_c g J A cap list listV w B (Nat.le_trans hB hw) (hf _ h1) (hf _ h2) hap hn (hs0 w hw hf) hq0 hne
theorem l1Whole_c (g : Nat) (J : List Int) (A : Option Addr) (cap : Nat)  (w : World) (B : Nat) (hB : B ≤ w.heap.size) (hc : (cF B g A J cap).p w) (hl : Sl w (sJ A J cap) 1 (J.map bR)) (hap : ¬ (sQ A J cap).blk g) (hn : J.length ≤ 1048576)  : Calls Tryz.prog 116 #[gP g] w fun e w' => ∃ y : {y : Int // True}, e = .returned (iI y.1) ∧ (cF B g A J cap).p w' ∧ Chgd (fun b => b = g) w w' := by
 have hq_code := Sl.capLe hl
 have hBw : B ≤ (av w B).heap.size := Nat.le_of_eq (aM hB).symm
 have hlo : ∀ (ww : World) (b : Nat),(cF B g A J cap).p ww → (cF B g A J cap).blk b → (av w B).heap.size ≤ b := fun ww b h hb => Nat.le_trans (cf w B) (d3 h hb)
 refine cQ (args := [gP g]) (fn := Tryz.f116) [cF B g A J cap,sQ A J cap,bF w (fun b => b = g)] B Tryz.func116 rfl Tryz.ntmps116 rfl hB (by simp only [List.mem_cons,List.not_mem_nil,or_false,forall_eq_or_imp,forall_eq]; exact ⟨hc,hl,bT w _⟩) (c5 hap rfl) ?_
 refine kQ <| cm [0] ⟨[(0,aP g)],[],[],[cF B g A J cap,sQ A J cap,bF w (fun b => b = g)]⟩ <| kS <| kQ <| dl 1 [0,3] [(3,aP g)] 46 [gP g,iI 3] (some 4) 0 rfl rfl hlo (ar hBw hap) ?_
 rintro ⟨y1,hy1⟩
 obtain ⟨hy10,hy11⟩ := hy1
 refine aW [0,4] [] <| ao <| kQ <| aW [0,4,5] [(5,aB (y1 == 0))] ?_
 refine kC (y1 == 0) (fun h2 => ?_) (fun h2 => ?_)
 have h2p := cI h2
 refine kQ <| kHS 1 [7] [(7,aP g)] rfl (aH (e := 3) (K := 1) (bytes := 8) [iI 0,iI 1,iI (-1),iI 9,iI 10,iI 999999999999,iI 1000000000000,iI 9223372036854775807,iI 4294967295,iI 4294967296,iI 65535,iI 65536,iI (-9223372036854775808)] (rs := ([0,1,(-1),9,10,999999999999,1000000000000,9223372036854775807,4294967295,4294967296,65535,65536,(-9223372036854775808)] : List Int).map az) rfl rfl) ?_
 intro g3
 refine dK (φ := ¬ (aJ (.slice (some ⟨g3,0,none⟩) 13 13) 1 (([0,1,(-1),9,10,999999999999,1000000000000,9223372036854775807,4294967295,4294967296,65535,65536,(-9223372036854775808)] : List Int).map az)).blk g) (fun _ _ _ _ hr => fun hb => hr.2.apart 0 1 (a9 (av w B).heap.size 3 1 (.slice (some ⟨g3,0,none⟩) 13 13) (([0,1,(-1),9,10,999999999999,1000000000000,9223372036854775807,4294967295,4294967296,65535,65536,(-9223372036854775808)] : List Int).map az)) (cF B g A J cap) rfl rfl (by decide) rfl g (bG hb) rfl) (fun hk4 => ?_)
 refine dl 0 [7,8] [] 48 [gP g,.slice (some ⟨g3,0,none⟩) 13 13] (some 9) 1 rfl rfl hlo (bw hBw hap (fun ww hw hf => (ax (hf _ m0))) hk4 (by simp)) ?_
 rintro ⟨y5,hy5⟩
 refine aT [2] [(2,aI y5)] <| kR ?_
 exact ⟨[iI y5],by kernel_rfl,fun w' hb hf => ⟨⟨y5,trivial⟩,rfl,hf (cF B g A J cap) (by simp),am (hf (bF w (fun b => b = g)) (by simp)) hb rfl rfl rfl⟩⟩
 have h2p := cB h2
 refine kQ <| aW [0,10] [(10,aB (y1 == 1))] <| kC (y1 == 1) (fun h6 => ?_) (fun h6 => ?_)
 have h6p := cI h6
 refine kQ <| kWS 1 [12] [(12,aP g)] 46 [gP g,iI 1000000] (some 13) 0 rfl rfl hlo (ar hBw hap) ?_
 rintro ⟨y7,hy7⟩
 obtain ⟨hy70,hy71⟩ := hy7
 refine dt 2 [2] [(2,aI (K6.wrap (y7 - 500000)))] <| cU [2] [(2,aI (K6.wrap (y7 - 500000)))] [(2,aI (y7 - 500000))] (by rw [show (K6.wrap (y7 - 500000)) = (y7 - 500000) from al (by omega) (by omega)]) (by kernel_rfl) ?_
 refine aW [2] [] <| kR ?_
 exact ⟨[iI (y7 - 500000)],by kernel_rfl,fun w' hb hf => ⟨⟨y7 - 500000,trivial⟩,rfl,hf (cF B g A J cap) (by simp),am (hf (bF w (fun b => b = g)) (by simp)) hb rfl rfl rfl⟩⟩
 have h6p := cB h6
 refine kK <| kQ <| kWS 1 [15] [(15,aP g)] 46 [gP g,iI 20] (some 16) 0 rfl rfl hlo (ar hBw hap) ?_
 rintro ⟨y8,hy8⟩
 obtain ⟨hy80,hy81⟩ := hy8
 refine aT [2] [(2,aI y8)] <| kR ?_
 exact ⟨[iI y8],by kernel_rfl,fun w' hb hf => ⟨⟨y8,trivial⟩,rfl,hf (cF B g A J cap) (by simp),am (hf (bF w (fun b => b = g)) (by simp)) hb rfl rfl rfl⟩⟩
theorem l1Whole_c_K {g : Nat} {J : List Int} {A : Option Addr} {cap : Nat}  {w0 : World} {fs : List Fact} {B : Nat} (hB : B ≤ w0.heap.size) (hap : ¬ (sQ A J cap).blk g)  (hn : J.length ≤ 1048576 := by omega) (h1 : cF B g A J cap ∈ fs := by simp) (h2 : sQ A J cap ∈ fs := by simp) : XCM Tryz.prog w0 fs (cF B g A J cap).blk 116 [gP g] (α := {y : Int // True}) (fun y => iI y.1) (fun _ => [cF B g A J cap]) := dw fun w hw hf => l1Whole_c g J A cap  w B (Nat.le_trans hB hw) (hf _ h1) (hf _ h2) hap hn  
theorem l2Word_c (g : Nat) (J : List Int) (A : Option Addr) (cap : Nat)  (w : World) (B : Nat) (hB : B ≤ w.heap.size) (hc : (cF B g A J cap).p w) (hl : Sl w (sJ A J cap) 1 (J.map bR)) (hap : ¬ (sQ A J cap).blk g) (hn : J.length ≤ 1048576)  : Calls Tryz.prog 84 #[gP g] w fun e w' => ∃ y : {y : Int // True}, e = .returned (iI y.1) ∧ (cF B g A J cap).p w' ∧ Chgd (fun b => b = g) w w' := by
 have hq_code := Sl.capLe hl
 have hBw : B ≤ (av w B).heap.size := Nat.le_of_eq (aM hB).symm
 have hlo : ∀ (ww : World) (b : Nat),(cF B g A J cap).p ww → (cF B g A J cap).blk b → (av w B).heap.size ≤ b := fun ww b h hb => Nat.le_trans (cf w B) (d3 h hb)
 refine cQ (args := [gP g]) (fn := Tryz.f84) [cF B g A J cap,sQ A J cap,bF w (fun b => b = g)] B Tryz.func84 rfl Tryz.ntmps84 rfl hB (by simp only [List.mem_cons,List.not_mem_nil,or_false,forall_eq_or_imp,forall_eq]; exact ⟨hc,hl,bT w _⟩) (c5 hap rfl) ?_
 refine kQ <| cm [0] ⟨[(0,aP g)],[],[],[cF B g A J cap,sQ A J cap,bF w (fun b => b = g)]⟩ <| kS <| kQ <| dl 1 [0,3] [(3,aP g)] 46 [gP g,iI 3] (some 4) 0 rfl rfl hlo (ar hBw hap) ?_
 rintro ⟨y1,hy1⟩
 obtain ⟨hy10,hy11⟩ := hy1
 refine aW [0,4] [] <| ao <| kQ <| aW [0,4,5] [(5,aB (y1 == 0))] ?_
 refine kC (y1 == 0) (fun h2 => ?_) (fun h2 => ?_)
 have h2p := cI h2
 refine kQ <| kWS 1 [7] [(7,aP g)] 116 [gP g] (some 8) 0 rfl rfl hlo (l1Whole_c_K hBw hap) ?_
 rintro ⟨y3,hy3⟩
 refine aT [2] [(2,aI y3)] <| kR ?_
 exact ⟨[iI y3],by kernel_rfl,fun w' hb hf => ⟨⟨y3,trivial⟩,rfl,hf (cF B g A J cap) (by simp),am (hf (bF w (fun b => b = g)) (by simp)) hb rfl rfl rfl⟩⟩
 have h2p := cB h2
 refine kQ <| aW [0,9] [(9,aB (y1 == 1))] <| kC (y1 == 1) (fun h4 => ?_) (fun h4 => ?_)
 have h4p := cI h4
 refine kQ <| kHS 1 [11] [(11,aP g)] rfl (aH (e := 3) (K := 1) (bytes := 8) [iI 0,iI 1,iI 255,iI 256,iI 65535,iI 65536,iI 16777215,iI 4294967295,iI 4294967296,iI 281474976710655,iI 281474976710656] (rs := ([0,1,255,256,65535,65536,16777215,4294967295,4294967296,281474976710655,281474976710656] : List Int).map az) rfl rfl) ?_
 intro g5
 refine dK (φ := ¬ (aJ (.slice (some ⟨g5,0,none⟩) 11 11) 1 (([0,1,255,256,65535,65536,16777215,4294967295,4294967296,281474976710655,281474976710656] : List Int).map az)).blk g) (fun _ _ _ _ hr => fun hb => hr.2.apart 0 1 (a9 (av w B).heap.size 3 1 (.slice (some ⟨g5,0,none⟩) 11 11) (([0,1,255,256,65535,65536,16777215,4294967295,4294967296,281474976710655,281474976710656] : List Int).map az)) (cF B g A J cap) rfl rfl (by decide) rfl g (bG hb) rfl) (fun hk6 => ?_)
 refine dl 0 [11,12] [] 48 [gP g,.slice (some ⟨g5,0,none⟩) 11 11] (some 13) 1 rfl rfl hlo (bw hBw hap (fun ww hw hf => (ax (hf _ m0))) hk6 (by simp)) ?_
 rintro ⟨y7,hy7⟩
 refine aT [2] [(2,aI y7)] <| kR ?_
 exact ⟨[iI y7],by kernel_rfl,fun w' hb hf => ⟨⟨y7,trivial⟩,rfl,hf (cF B g A J cap) (by simp),am (hf (bF w (fun b => b = g)) (by simp)) hb rfl rfl rfl⟩⟩
 have h4p := cB h4
 refine kK <| kQ <| kWS 1 [14] [(14,aP g)] 46 [gP g,iI 65536] (some 15) 0 rfl rfl hlo (ar hBw hap) ?_
 rintro ⟨y8,hy8⟩
 obtain ⟨hy80,hy81⟩ := hy8
 refine aT [2] [(2,aI y8)] <| kR ?_
 exact ⟨[iI y8],by kernel_rfl,fun w' hb hf => ⟨⟨y8,trivial⟩,rfl,hf (cF B g A J cap) (by simp),am (hf (bF w (fun b => b = g)) (by simp)) hb rfl rfl rfl⟩⟩
theorem eI {g : Nat} {J : List Int} {A : Option Addr} {cap : Nat}  {w0 : World} {fs : List Fact} {B : Nat} (hB : B ≤ w0.heap.size) (hap : ¬ (sQ A J cap).blk g)  (hn : J.length ≤ 1048576 := by omega) (h1 : cF B g A J cap ∈ fs := by simp) (h2 : sQ A J cap ∈ fs := by simp) : XCM Tryz.prog w0 fs (cF B g A J cap).blk 84 [gP g] (α := {y : Int // True}) (fun y => iI y.1) (fun _ => [cF B g A J cap]) := dw fun w hw hf => l2Word_c g J A cap  w B (Nat.le_trans hB hw) (hf _ h1) (hf _ h2) hap hn  
theorem l2Deep_c (g : Nat) (J : List Int) (A : Option Addr) (cap : Nat)  (w : World) (B : Nat) (hB : B ≤ w.heap.size) (hc : (cF B g A J cap).p w) (hl : Sl w (sJ A J cap) 1 (J.map bR)) (hap : ¬ (sQ A J cap).blk g) (hn : J.length ≤ 1048576)  : Calls Tryz.prog 74 #[gP g] w fun e w' => ∃ y : {y : Int // True}, e = .returned (iI y.1) ∧ (cF B g A J cap).p w' ∧ Chgd (fun b => b = g) w w' := by
 have hq_code := Sl.capLe hl
 have hBw : B ≤ (av w B).heap.size := Nat.le_of_eq (aM hB).symm
 have hlo : ∀ (ww : World) (b : Nat),(cF B g A J cap).p ww → (cF B g A J cap).blk b → (av w B).heap.size ≤ b := fun ww b h hb => Nat.le_trans (cf w B) (d3 h hb)
 refine cQ (args := [gP g]) (fn := Tryz.f74) [cF B g A J cap,sQ A J cap,bF w (fun b => b = g)] B Tryz.func74 rfl Tryz.ntmps74 rfl hB (by simp only [List.mem_cons,List.not_mem_nil,or_false,forall_eq_or_imp,forall_eq]; exact ⟨hc,hl,bT w _⟩) (c5 hap rfl) ?_
 refine kQ <| cm [0] ⟨[(0,aP g)],[],[],[cF B g A J cap,sQ A J cap,bF w (fun b => b = g)]⟩ <| kS <| kQ <| dl 1 [0,5] [(5,aP g)] 20 [gP g,iI 3] (some 6) 0 rfl rfl hlo (bY hBw hap) ?_
 rintro ⟨y1,hy1⟩
 refine aW [0,6] [] <| kC (y1) (fun h2 => ?_) (fun h2 => ?_)
 refine kQ <| kHS 1 [7] [(7,aP g)] rfl (aH (e := 3) (K := 1) (bytes := 8) [iI 0,iI 1,iI 4294967295,iI 2147483647,iI 2147483648,iI 4294967294] (rs := ([0,1,4294967295,2147483647,2147483648,4294967294] : List Int).map az) rfl rfl) ?_
 intro g3
 refine dK (φ := ¬ (aJ (.slice (some ⟨g3,0,none⟩) 6 6) 1 (([0,1,4294967295,2147483647,2147483648,4294967294] : List Int).map az)).blk g) (fun _ _ _ _ hr => fun hb => hr.2.apart 0 1 (a9 (av w B).heap.size 3 1 (.slice (some ⟨g3,0,none⟩) 6 6) (([0,1,4294967295,2147483647,2147483648,4294967294] : List Int).map az)) (cF B g A J cap) rfl rfl (by decide) rfl g (bG hb) rfl) (fun hk4 => ?_)
 refine dl 0 [7,8] [] 48 [gP g,.slice (some ⟨g3,0,none⟩) 6 6] (some 9) 1 rfl rfl hlo (bw hBw hap (fun ww hw hf => (ax (hf _ m0))) hk4 (by simp)) ?_
 rintro ⟨y5,hy5⟩
 refine aT [2] [(2,aI y5)] <| kR ?_
 exact ⟨[iI y5],by kernel_rfl,fun w' hb hf => ⟨⟨y5,trivial⟩,rfl,hf (cF B g A J cap) (by simp),am (hf (bF w (fun b => b = g)) (by simp)) hb rfl rfl rfl⟩⟩
 refine kK <| kQ <| aW [0,3] [(3,aI 0)] <| kS <| kQ <| aW [0,3,4] [(4,aI 0)] ?_
 refine ao <| bc (α := {x : Nat × Int // (fun (i : Nat) (x : Int) => i ≤ 4) x.1 x.2}) (fun x => (fun (i : Nat) (x : Int) => (⟨[(0,aP g),(3,aI x),(4,aI (i : Int))],[],[],[cF B g A J cap,sQ A J cap,bF w (fun b => b = g)]⟩ : St)) x.1.1 x.1.2) (fun x => (fun (i : Nat) (x : Int) => 4 - i) x.1.1 x.1.2) ⟨(0,0),Nat.zero_le _⟩ (kF 0 0 [0,3,4]) ?_
 rintro ⟨⟨i,x⟩,hi⟩
 try dsimp only
 try dsimp only at hi
 refine kS <| kQ <| aW [0,3,4,11] [(11,aB (decide ((i : Int) < 4)))] <| kC (decide ((i : Int) < 4)) (fun h6 => ?_) (fun h6 => ?_)
 have h6p := of_decide_eq_true h6
 have hlt : i < 4 := by simp at h6; omega
 refine kK <| kS <| ao <| kG <| dl 3 [0,3,4,15,16] [(15,aI (K6.wrap (256 * x))),(16,aP g)] 71 [gP g] (some 17) 0 rfl rfl hlo (eL hBw hap) ?_
 rintro ⟨y7,hy7⟩
 refine aW [0,3,4] [(3,aI (K6.wrap ((K6.wrap (256 * x)) + y7)))] <| kG <| di 3 [0,3,4] [(4,aI (K6.wrap ((i : Int) + 1)))] <| cU [0,3,4] [(4,aI (K6.wrap ((i : Int) + 1)))] [(4,aI ((i : Int) + 1))] (by rw [show (K6.wrap ((i : Int) + 1)) = ((i : Int) + 1) from al (by omega) (by omega)]) (by kernel_rfl) ?_
 refine aW [0,3,4] [] ?_
 exact ⟨⟨(i + 1,K6.wrap ((K6.wrap (256 * x)) + y7)),hlt⟩,kF 0 0 [0,3,4],by show (fun (i : Nat) (x : Int) => 4 - i) (i + 1) (K6.wrap ((K6.wrap (256 * x)) + y7)) < 4 - i; (dsimp only; omega)⟩
 have h6p := of_decide_eq_false h6
 refine bH <| kQ <| aT [2] [(2,aI x)] <| kR ?_
 exact ⟨[iI x],by kernel_rfl,fun w' hb hf => ⟨⟨x,trivial⟩,rfl,hf (cF B g A J cap) (by simp),am (hf (bF w (fun b => b = g)) (by simp)) hb rfl rfl rfl⟩⟩
theorem dz {g : Nat} {J : List Int} {A : Option Addr} {cap : Nat}  {w0 : World} {fs : List Fact} {B : Nat} (hB : B ≤ w0.heap.size) (hap : ¬ (sQ A J cap).blk g)  (hn : J.length ≤ 1048576 := by omega) (h1 : cF B g A J cap ∈ fs := by simp) (h2 : sQ A J cap ∈ fs := by simp) : XCM Tryz.prog w0 fs (cF B g A J cap).blk 74 [gP g] (α := {y : Int // True}) (fun y => iI y.1) (fun _ => [cF B g A J cap]) := dw fun w hw hf => l2Deep_c g J A cap  w B (Nat.le_trans hB hw) (hf _ h1) (hf _ h2) hap hn  
theorem l4Place_c (g : Nat) (J : List Int) (A : Option Addr) (cap : Nat)  (w : World) (B : Nat) (hB : B ≤ w.heap.size) (hc : (cF B g A J cap).p w) (hl : Sl w (sJ A J cap) 1 (J.map bR)) (hap : ¬ (sQ A J cap).blk g) (hn : J.length ≤ 1048576)  : Calls Tryz.prog 127 #[gP g] w fun e w' => ∃ y : {y : Int // True}, e = .returned (iI y.1) ∧ (cF B g A J cap).p w' ∧ Chgd (fun b => b = g) w w' := by
 have hq_code := Sl.capLe hl
 have hBw : B ≤ (av w B).heap.size := Nat.le_of_eq (aM hB).symm
 have hlo : ∀ (ww : World) (b : Nat),(cF B g A J cap).p ww → (cF B g A J cap).blk b → (av w B).heap.size ≤ b := fun ww b h hb => Nat.le_trans (cf w B) (d3 h hb)
 refine cQ (args := [gP g]) (fn := Tryz.f127) [cF B g A J cap,sQ A J cap,bF w (fun b => b = g)] B Tryz.func127 rfl Tryz.ntmps127 rfl hB (by simp only [List.mem_cons,List.not_mem_nil,or_false,forall_eq_or_imp,forall_eq]; exact ⟨hc,hl,bT w _⟩) (c5 hap rfl) ?_
 refine kQ <| cm [0] ⟨[(0,aP g)],[],[],[cF B g A J cap,sQ A J cap,bF w (fun b => b = g)]⟩ <| kS <| kQ <| dl 1 [0,3] [(3,aP g)] 20 [gP g,iI 12] (some 4) 0 rfl rfl hlo (bY hBw hap) ?_
 rintro ⟨y1,hy1⟩
 refine aW [0,4] [] <| kC (y1) (fun h2 => ?_) (fun h2 => ?_)
 refine kQ <| kWS 1 [5] [(5,aP g)] 116 [gP g] (some 6) 0 rfl rfl hlo (l1Whole_c_K hBw hap) ?_
 rintro ⟨y3,hy3⟩
 refine aT [2] [(2,aI y3)] <| kR ?_
 exact ⟨[iI y3],by kernel_rfl,fun w' hb hf => ⟨⟨y3,trivial⟩,rfl,hf (cF B g A J cap) (by simp),am (hf (bF w (fun b => b = g)) (by simp)) hb rfl rfl rfl⟩⟩
 refine kK <| kQ <| kWS 1 [7] [(7,aP g)] 74 [gP g] (some 8) 0 rfl rfl hlo (dz hBw hap) ?_
 rintro ⟨y4,hy4⟩
 refine aT [2] [(2,aI y4)] <| kR ?_
 exact ⟨[iI y4],by kernel_rfl,fun w' hb hf => ⟨⟨y4,trivial⟩,rfl,hf (cF B g A J cap) (by simp),am (hf (bF w (fun b => b = g)) (by simp)) hb rfl rfl rfl⟩⟩
theorem l4Place_c_K {g : Nat} {J : List Int} {A : Option Addr} {cap : Nat}  {w0 : World} {fs : List Fact} {B : Nat} (hB : B ≤ w0.heap.size) (hap : ¬ (sQ A J cap).blk g)  (hn : J.length ≤ 1048576 := by omega) (h1 : cF B g A J cap ∈ fs := by simp) (h2 : sQ A J cap ∈ fs := by simp) : XCM Tryz.prog w0 fs (cF B g A J cap).blk 127 [gP g] (α := {y : Int // True}) (fun y => iI y.1) (fun _ => [cF B g A J cap]) := dw fun w hw hf => l4Place_c g J A cap  w B (Nat.le_trans hB hw) (hf _ h1) (hf _ h2) hap hn  
theorem l6Ip_c (g : Nat) (J : List Int) (A : Option Addr) (cap : Nat)  (w : World) (B : Nat) (hB : B ≤ w.heap.size) (hc : (cF B g A J cap).p w) (hl : Sl w (sJ A J cap) 1 (J.map bR)) (hap : ¬ (sQ A J cap).blk g) (hn : J.length ≤ 1048576)  : Calls Tryz.prog 72 #[gP g] w fun e w' => ∃ y : {y : Int // True}, e = .returned (iI y.1) ∧ (cF B g A J cap).p w' ∧ Chgd (fun b => b = g) w w' := by
 have hq_code := Sl.capLe hl
 have hBw : B ≤ (av w B).heap.size := Nat.le_of_eq (aM hB).symm
 have hlo : ∀ (ww : World) (b : Nat),(cF B g A J cap).p ww → (cF B g A J cap).blk b → (av w B).heap.size ≤ b := fun ww b h hb => Nat.le_trans (cf w B) (d3 h hb)
 refine cQ (args := [gP g]) (fn := Tryz.f72) [cF B g A J cap,sQ A J cap,bF w (fun b => b = g)] B Tryz.func72 rfl Tryz.ntmps72 rfl hB (by simp only [List.mem_cons,List.not_mem_nil,or_false,forall_eq_or_imp,forall_eq]; exact ⟨hc,hl,bT w _⟩) (c5 hap rfl) ?_
 refine kQ <| cm [0] ⟨[(0,aP g)],[],[],[cF B g A J cap,sQ A J cap,bF w (fun b => b = g)]⟩ <| kQ <| kHS 1 [3] [(3,aP g)] rfl (aH (e := 3) (K := 1) (bytes := 8) [iI 167772161,iI 167772162,iI 167772163,iI 0,iI 4294967295] (rs := ([167772161,167772162,167772163,0,4294967295] : List Int).map az) rfl rfl) ?_
 intro g1
 refine dK (φ := ¬ (aJ (.slice (some ⟨g1,0,none⟩) 5 5) 1 (([167772161,167772162,167772163,0,4294967295] : List Int).map az)).blk g) (fun _ _ _ _ hr => fun hb => hr.2.apart 0 1 (a9 (av w B).heap.size 3 1 (.slice (some ⟨g1,0,none⟩) 5 5) (([167772161,167772162,167772163,0,4294967295] : List Int).map az)) (cF B g A J cap) rfl rfl (by decide) rfl g (bG hb) rfl) (fun hk2 => ?_)
 refine dl 0 [3,4] [] 48 [gP g,.slice (some ⟨g1,0,none⟩) 5 5] (some 5) 1 rfl rfl hlo (bw hBw hap (fun ww hw hf => (ax (hf _ m0))) hk2 (by simp)) ?_
 rintro ⟨y3,hy3⟩
 refine aT [2] [(2,aI y3)] <| kR ?_
 exact ⟨[iI y3],by kernel_rfl,fun w' hb hf => ⟨⟨y3,trivial⟩,rfl,hf (cF B g A J cap) (by simp),am (hf (bF w (fun b => b = g)) (by simp)) hb rfl rfl rfl⟩⟩
theorem l6Ip_c_K {g : Nat} {J : List Int} {A : Option Addr} {cap : Nat}  {w0 : World} {fs : List Fact} {B : Nat} (hB : B ≤ w0.heap.size) (hap : ¬ (sQ A J cap).blk g)  (hn : J.length ≤ 1048576 := by omega) (h1 : cF B g A J cap ∈ fs := by simp) (h2 : sQ A J cap ∈ fs := by simp) : XCM Tryz.prog w0 fs (cF B g A J cap).blk 72 [gP g] (α := {y : Int // True}) (fun y => iI y.1) (fun _ => [cF B g A J cap]) := dw fun w hw hf => l6Ip_c g J A cap  w B (Nat.le_trans hB hw) (hf _ h1) (hf _ h2) hap hn  
theorem l8Options_c (g : Nat) (J : List Int) (A : Option Addr) (cap : Nat)  (w : World) (B : Nat) (hB : B ≤ w.heap.size) (hc : (cF B g A J cap).p w) (hl : Sl w (sJ A J cap) 1 (J.map bR)) (hap : ¬ (sQ A J cap).blk g) (hn : J.length ≤ 1048576)  : Calls Tryz.prog 75 #[gP g] w fun e w' => ∃ y : {y : Opt // True}, e = .returned (.agg (dH y.1).toArray) ∧ (cF B g A J cap).p w' ∧ Chgd (fun b => b = g) w w' := by
 have hq_code := Sl.capLe hl
 have hBw : B ≤ (av w B).heap.size := Nat.le_of_eq (aM hB).symm
 have hlo : ∀ (ww : World) (b : Nat),(cF B g A J cap).p ww → (cF B g A J cap).blk b → (av w B).heap.size ≤ b := fun ww b h hb => Nat.le_trans (cf w B) (d3 h hb)
 refine cQ (args := [gP g]) (fn := Tryz.f75) [cF B g A J cap,sQ A J cap,bF w (fun b => b = g)] B Tryz.func75 rfl Tryz.ntmps75 rfl hB (by simp only [List.mem_cons,List.not_mem_nil,or_false,forall_eq_or_imp,forall_eq]; exact ⟨hc,hl,bT w _⟩) (c5 hap rfl) ?_
 refine kQ <| cm [0,2] ⟨[(0,aP g),(2,.p 0 0)],[⟨39,[iI 0,iI 0,.bool false,.bool false,iI 0,iI 0]⟩],[],[cF B g A J cap,sQ A J cap,bF w (fun b => b = g)]⟩ <| kQ <| dR 0 [0,2] [] 94 [] (some 4) rfl (aA fun ww hf => f3  ww ) ?_
 intro _
 refine gk [0,2,3] [(3,.p 1 0)] [⟨39,[iI 0,iI (-1),.bool false,.bool false,iI 0,iI 0]⟩] <| kS <| kQ <| dl 1 [0,2,3,5] [(5,aP g)] 20 [gP g,iI 3] (some 6) 0 rfl rfl hlo (bY hBw hap) ?_
 rintro ⟨y1,hy1⟩
 refine aW [0,2,3,7] [(7,aB (!y1))] <| kC (!y1) (fun h2 => ?_) (fun h2 => ?_)
 have h2n := bS h2
 refine kG <| kHD 1 [0,2,3,8] [(8,aP g)] rfl (aH (e := 3) (K := 1) (bytes := 8) [iI 536,iI 1460,iI 1300,iI 64,iI 65535,iI 1] (rs := ([536,1460,1300,64,65535,1] : List Int).map az) rfl rfl) ?_
 intro g3
 refine dK (φ := ¬ (aJ (.slice (some ⟨g3,0,none⟩) 6 6) 1 (([536,1460,1300,64,65535,1] : List Int).map az)).blk g) (fun _ _ _ _ hr => fun hb => hr.2.apart 0 1 (a9 (av w B).heap.size 3 1 (.slice (some ⟨g3,0,none⟩) 6 6) (([536,1460,1300,64,65535,1] : List Int).map az)) (cF B g A J cap) rfl rfl (by decide) rfl g (bG hb) rfl) (fun hk4 => ?_)
 refine dl 0 [0,2,3,8,9] [] 48 [gP g,.slice (some ⟨g3,0,none⟩) 6 6] (some 10) 1 rfl rfl hlo (bw hBw hap (fun ww hw hf => (ax (hf _ m0))) hk4 (by simp)) ?_
 rintro ⟨y5,hy5⟩
 refine bC [0,2,3] [] 1 ⟨39,[iI y5,iI (-1),.bool false,.bool false,iI 0,iI 0]⟩ <| kS <| kQ <| dl 1 [0,2,3,12] [(12,aP g)] 20 [gP g,iI 2] (some 13) 0 rfl rfl hlo (bY hBw hap) ?_
 rintro ⟨y6,hy6⟩
 refine aW [0,2,3,13] [] <| kC (y6) (fun h7 => ?_) (fun h7 => ?_)
 refine kG <| dl 1 [0,2,3,14] [(14,aP g)] 46 [gP g,iI 15] (some 15) 0 rfl rfl hlo (ar hBw hap) ?_
 rintro ⟨y8,hy8⟩
 obtain ⟨hy80,hy81⟩ := hy8
 refine cm [0,2,3] ⟨[(0,aP g),(2,.p 0 0),(3,.p 1 0)],[⟨39,[iI 0,iI 0,.bool false,.bool false,iI 0,iI 0]⟩,⟨39,[iI y5,iI y8,.bool false,.bool false,iI 0,iI 0]⟩],[],[cF B g A J cap,a9 (av w B).heap.size 3 1 (.slice (some ⟨g3,0,none⟩) 6 6) (([536,1460,1300,64,65535,1] : List Int).map az),sQ A J cap,bF w (fun b => b = g)]⟩ <| kQ <| dl 1 [0,2,3,17] [(17,aP g)] 20 [gP g,iI 2] (some 18) 0 rfl rfl hlo (bY hBw hap) ?_
 rintro ⟨y9,hy9⟩
 refine bC [0,2,3] [] 1 ⟨39,[iI y5,iI y8,.bool y9,.bool false,iI 0,iI 0]⟩ <| kS <| kQ <| dl 1 [0,2,3,20] [(20,aP g)] 20 [gP g,iI 2] (some 21) 0 rfl rfl hlo (bY hBw hap) ?_
 rintro ⟨y10,hy10⟩
 refine aW [0,2,3,21] [] <| kC (y10) (fun h11 => ?_) (fun h11 => ?_)
 refine kQ <| bC [0,2,3] [] 1 ⟨39,[iI y5,iI y8,.bool y9,.bool true,iI 0,iI 0]⟩ <| kQ <| dl 1 [0,2,3,23] [(23,aP g)] 74 [gP g] (some 24) 0 rfl rfl hlo (dz hBw hap) ?_
 rintro ⟨y12,hy12⟩
 refine bC [0,2,3] [] 1 ⟨39,[iI y5,iI y8,.bool y9,.bool true,iI y12,iI 0]⟩ <| kG <| dl 1 [2,3,26] [(26,aP g)] 74 [gP g] (some 27) 0 rfl rfl hlo (dz hBw hap) ?_
 rintro ⟨y13,hy13⟩
 refine bC [2,3] [] 1 ⟨39,[iI y5,iI y8,.bool y9,.bool true,iI y12,iI y13]⟩ <| kQ <| bC [2] [(2,.p 0 0)] 0 ⟨39,[iI y5,iI y8,.bool y9,.bool true,iI y12,iI y13]⟩ <| kR ?_
 exact ⟨[.agg #[iI y5,iI y8,.bool y9,.bool true,iI y12,iI y13]],by kernel_rfl,fun w' hb hf => ⟨⟨⟨y5,y8,y9,true,y12,y13⟩,trivial⟩,rfl,hf (cF B g A J cap) (by simp),am (hf (bF w (fun b => b = g)) (by simp)) hb rfl rfl rfl⟩⟩
 refine kK <| kQ <| bC [2] [(2,.p 0 0)] 0 ⟨39,[iI y5,iI y8,.bool y9,.bool false,iI 0,iI 0]⟩ <| kR ?_
 exact ⟨[.agg #[iI y5,iI y8,.bool y9,.bool false,iI 0,iI 0]],by kernel_rfl,fun w' hb hf => ⟨⟨⟨y5,y8,y9,false,0,0⟩,trivial⟩,rfl,hf (cF B g A J cap) (by simp),am (hf (bF w (fun b => b = g)) (by simp)) hb rfl rfl rfl⟩⟩
 refine kK <| kQ <| dl 1 [0,2,3,17] [(17,aP g)] 20 [gP g,iI 2] (some 18) 0 rfl rfl hlo (bY hBw hap) ?_
 rintro ⟨y14,hy14⟩
 refine cm [0,2,3] ⟨[(0,aP g),(2,.p 0 0),(3,.p 1 0)],[⟨39,[iI 0,iI 0,.bool false,.bool false,iI 0,iI 0]⟩,⟨39,[iI y5,iI (-1),.bool y14,.bool false,iI 0,iI 0]⟩],[],[cF B g A J cap,a9 (av w B).heap.size 3 1 (.slice (some ⟨g3,0,none⟩) 6 6) (([536,1460,1300,64,65535,1] : List Int).map az),sQ A J cap,bF w (fun b => b = g)]⟩ <| kS <| kQ <| dl 1 [0,2,3,20] [(20,aP g)] 20 [gP g,iI 2] (some 21) 0 rfl rfl hlo (bY hBw hap) ?_
 rintro ⟨y15,hy15⟩
 refine aW [0,2,3,21] [] <| kC (y15) (fun h16 => ?_) (fun h16 => ?_)
 refine kQ <| bC [0,2,3] [] 1 ⟨39,[iI y5,iI (-1),.bool y14,.bool true,iI 0,iI 0]⟩ <| kQ <| dl 1 [0,2,3,23] [(23,aP g)] 74 [gP g] (some 24) 0 rfl rfl hlo (dz hBw hap) ?_
 rintro ⟨y17,hy17⟩
 refine bC [0,2,3] [] 1 ⟨39,[iI y5,iI (-1),.bool y14,.bool true,iI y17,iI 0]⟩ <| kG <| dl 1 [2,3,26] [(26,aP g)] 74 [gP g] (some 27) 0 rfl rfl hlo (dz hBw hap) ?_
 rintro ⟨y18,hy18⟩
 refine bC [2,3] [] 1 ⟨39,[iI y5,iI (-1),.bool y14,.bool true,iI y17,iI y18]⟩ <| kQ <| bC [2] [(2,.p 0 0)] 0 ⟨39,[iI y5,iI (-1),.bool y14,.bool true,iI y17,iI y18]⟩ <| kR ?_
 exact ⟨[.agg #[iI y5,iI (-1),.bool y14,.bool true,iI y17,iI y18]],by kernel_rfl,fun w' hb hf => ⟨⟨⟨y5,(-1),y14,true,y17,y18⟩,trivial⟩,rfl,hf (cF B g A J cap) (by simp),am (hf (bF w (fun b => b = g)) (by simp)) hb rfl rfl rfl⟩⟩
 refine kK <| kQ <| bC [2] [(2,.p 0 0)] 0 ⟨39,[iI y5,iI (-1),.bool y14,.bool false,iI 0,iI 0]⟩ <| kR ?_
 exact ⟨[.agg #[iI y5,iI (-1),.bool y14,.bool false,iI 0,iI 0]],by kernel_rfl,fun w' hb hf => ⟨⟨⟨y5,(-1),y14,false,0,0⟩,trivial⟩,rfl,hf (cF B g A J cap) (by simp),am (hf (bF w (fun b => b = g)) (by simp)) hb rfl rfl rfl⟩⟩
 have h2n := aF h2
 refine kK <| kS <| kQ <| dl 1 [0,2,3,12] [(12,aP g)] 20 [gP g,iI 2] (some 13) 0 rfl rfl hlo (bY hBw hap) ?_
 rintro ⟨y19,hy19⟩
 refine aW [0,2,3,13] [] <| kC (y19) (fun h20 => ?_) (fun h20 => ?_)
 refine kG <| dl 1 [0,2,3,14] [(14,aP g)] 46 [gP g,iI 15] (some 15) 0 rfl rfl hlo (ar hBw hap) ?_
 rintro ⟨y21,hy21⟩
 obtain ⟨hy210,hy211⟩ := hy21
 refine bC [0,2,3] [] 1 ⟨39,[iI 0,iI y21,.bool false,.bool false,iI 0,iI 0]⟩ <| kQ <| dl 1 [0,2,3,17] [(17,aP g)] 20 [gP g,iI 2] (some 18) 0 rfl rfl hlo (bY hBw hap) ?_
 rintro ⟨y22,hy22⟩
 refine bC [0,2,3] [] 1 ⟨39,[iI 0,iI y21,.bool y22,.bool false,iI 0,iI 0]⟩ <| kS <| kQ <| kWS 1 [0,2,3,20] [(0,aP g),(2,.p 0 0),(3,.p 1 0),(20,aP g)] 20 [gP g,iI 2] (some 21) 0 rfl rfl hlo (bY hBw hap) ?_
 rintro ⟨y23,hy23⟩
 refine aW [0,2,3,21] [] <| kC (y23) (fun h24 => ?_) (fun h24 => ?_)
 refine kQ <| bC [0,2,3] [] 1 ⟨39,[iI 0,iI y21,.bool y22,.bool true,iI 0,iI 0]⟩ <| kQ <| dl 1 [0,2,3,23] [(23,aP g)] 74 [gP g] (some 24) 0 rfl rfl hlo (dz hBw hap) ?_
 rintro ⟨y25,hy25⟩
 refine bC [0,2,3] [] 1 ⟨39,[iI 0,iI y21,.bool y22,.bool true,iI y25,iI 0]⟩ <| kG <| dl 1 [2,3,26] [(26,aP g)] 74 [gP g] (some 27) 0 rfl rfl hlo (dz hBw hap) ?_
 rintro ⟨y26,hy26⟩
 refine bC [2,3] [] 1 ⟨39,[iI 0,iI y21,.bool y22,.bool true,iI y25,iI y26]⟩ <| kQ <| bC [2] [(2,.p 0 0)] 0 ⟨39,[iI 0,iI y21,.bool y22,.bool true,iI y25,iI y26]⟩ <| kR ?_
 exact ⟨[.agg #[iI 0,iI y21,.bool y22,.bool true,iI y25,iI y26]],by kernel_rfl,fun w' hb hf => ⟨⟨⟨0,y21,y22,true,y25,y26⟩,trivial⟩,rfl,hf (cF B g A J cap) (by simp),am (hf (bF w (fun b => b = g)) (by simp)) hb rfl rfl rfl⟩⟩
 refine kK <| kQ <| bC [2] [(2,.p 0 0)] 0 ⟨39,[iI 0,iI y21,.bool y22,.bool false,iI 0,iI 0]⟩ <| kR ?_
 exact ⟨[.agg #[iI 0,iI y21,.bool y22,.bool false,iI 0,iI 0]],by kernel_rfl,fun w' hb hf => ⟨⟨⟨0,y21,y22,false,0,0⟩,trivial⟩,rfl,hf (cF B g A J cap) (by simp),am (hf (bF w (fun b => b = g)) (by simp)) hb rfl rfl rfl⟩⟩
 refine kK <| kQ <| dl 1 [0,2,3,17] [(17,aP g)] 20 [gP g,iI 2] (some 18) 0 rfl rfl hlo (bY hBw hap) ?_
 rintro ⟨y27,hy27⟩
 refine bC [0,2,3] [] 1 ⟨39,[iI 0,iI (-1),.bool y27,.bool false,iI 0,iI 0]⟩ <| kS <| kQ <| dl 1 [0,2,3,20] [(20,aP g)] 20 [gP g,iI 2] (some 21) 0 rfl rfl hlo (bY hBw hap) ?_
 rintro ⟨y28,hy28⟩
 refine aW [0,2,3,21] [] <| kC (y28) (fun h29 => ?_) (fun h29 => ?_)
 refine kQ <| cm [0,2,3] ⟨[(0,aP g),(2,.p 0 0),(3,.p 1 0)],[⟨39,[iI 0,iI 0,.bool false,.bool false,iI 0,iI 0]⟩,⟨39,[iI 0,iI (-1),.bool y27,.bool true,iI 0,iI 0]⟩],[],[cF B g A J cap,sQ A J cap,bF w (fun b => b = g)]⟩ <| kQ <| dl 1 [0,2,3,23] [(23,aP g)] 74 [gP g] (some 24) 0 rfl rfl hlo (dz hBw hap) ?_
 rintro ⟨y30,hy30⟩
 refine bC [0,2,3] [] 1 ⟨39,[iI 0,iI (-1),.bool y27,.bool true,iI y30,iI 0]⟩ <| kG <| dl 1 [2,3,26] [(26,aP g)] 74 [gP g] (some 27) 0 rfl rfl hlo (dz hBw hap) ?_
 rintro ⟨y31,hy31⟩
 refine bC [2,3] [] 1 ⟨39,[iI 0,iI (-1),.bool y27,.bool true,iI y30,iI y31]⟩ <| kQ <| bC [2] [(2,.p 0 0)] 0 ⟨39,[iI 0,iI (-1),.bool y27,.bool true,iI y30,iI y31]⟩ <| kR ?_
 exact ⟨[.agg #[iI 0,iI (-1),.bool y27,.bool true,iI y30,iI y31]],by kernel_rfl,fun w' hb hf => ⟨⟨⟨0,(-1),y27,true,y30,y31⟩,trivial⟩,rfl,hf (cF B g A J cap) (by simp),am (hf (bF w (fun b => b = g)) (by simp)) hb rfl rfl rfl⟩⟩
 refine kK <| kQ <| cm [2] ⟨[(2,.p 0 0)],[⟨39,[iI 0,iI (-1),.bool y27,.bool false,iI 0,iI 0]⟩,⟨39,[iI 0,iI (-1),.bool y27,.bool false,iI 0,iI 0]⟩],[],[cF B g A J cap,sQ A J cap,bF w (fun b => b = g)]⟩ <| kR ?_
 exact ⟨[.agg #[iI 0,iI (-1),.bool y27,.bool false,iI 0,iI 0]],by kernel_rfl,fun w' hb hf => ⟨⟨⟨0,(-1),y27,false,0,0⟩,trivial⟩,rfl,hf (cF B g A J cap) (by simp),am (hf (bF w (fun b => b = g)) (by simp)) hb rfl rfl rfl⟩⟩
theorem l8Options_c_K {g : Nat} {J : List Int} {A : Option Addr} {cap : Nat}  {w0 : World} {fs : List Fact} {B : Nat} (hB : B ≤ w0.heap.size) (hap : ¬ (sQ A J cap).blk g)  (hn : J.length ≤ 1048576 := by omega) (h1 : cF B g A J cap ∈ fs := by simp) (h2 : sQ A J cap ∈ fs := by simp) : XCM Tryz.prog w0 fs (cF B g A J cap).blk 75 [gP g] (α := {y : Opt // True}) (fun y => .agg (dH y.1).toArray) (fun _ => [cF B g A J cap]) := dw fun w hw hf => l8Options_c g J A cap  w B (Nat.le_trans hB hw) (hf _ h1) (hf _ h2) hap hn  
theorem l8Bent_c (g : Nat) (J : List Int) (A : Option Addr) (cap : Nat)  (w : World) (B : Nat) (hB : B ≤ w.heap.size) (hc : (cF B g A J cap).p w) (hl : Sl w (sJ A J cap) 1 (J.map bR)) (hap : ¬ (sQ A J cap).blk g) (hn : J.length ≤ 1048576)  : Calls Tryz.prog 55 #[gP g] w fun e w' => ∃ y : {y : Opt // True}, e = .returned (.agg (dH y.1).toArray) ∧ (cF B g A J cap).p w' ∧ Chgd (fun b => b = g) w w' := by
 have hq_code := Sl.capLe hl
 have hBw : B ≤ (av w B).heap.size := Nat.le_of_eq (aM hB).symm
 have hlo : ∀ (ww : World) (b : Nat),(cF B g A J cap).p ww → (cF B g A J cap).blk b → (av w B).heap.size ≤ b := fun ww b h hb => Nat.le_trans (cf w B) (d3 h hb)
 refine cQ (args := [gP g]) (fn := Tryz.f55) [cF B g A J cap,sQ A J cap,bF w (fun b => b = g)] B Tryz.func55 rfl Tryz.ntmps55 rfl hB (by simp only [List.mem_cons,List.not_mem_nil,or_false,forall_eq_or_imp,forall_eq]; exact ⟨hc,hl,bT w _⟩) (c5 hap rfl) ?_
 refine kQ <| cm [0,2] ⟨[(0,aP g),(2,.p 0 0)],[⟨39,[iI 0,iI 0,.bool false,.bool false,iI 0,iI 0]⟩],[],[cF B g A J cap,sQ A J cap,bF w (fun b => b = g)]⟩ <| kQ <| dl 1 [0,2,4] [(4,aP g)] 75 [gP g] (some 5) 0 rfl rfl hlo (l8Options_c_K hBw hap) ?_
 rintro ⟨y1,hy1⟩
 refine gk [0,2,3] [(3,.p 1 0)] [⟨39,dH y1⟩] <| kS <| kQ <| dl 1 [0,2,3,6] [(6,aP g)] 46 [gP g,iI 10] (some 7) 0 rfl rfl hlo (ar hBw hap) ?_
 rintro ⟨y2,hy2⟩
 obtain ⟨hy20,hy21⟩ := hy2
 refine aW [0,2,3,7] [] <| ao <| kQ <| aW [0,2,3,7,8] [(8,aB (y2 == 0))] ?_
 refine kC (y2 == 0) (fun h3 => ?_) (fun h3 => ?_)
 have h3p := cI h3
 refine kG <| dl 1 [2,3,10] [(10,aP g)] 84 [gP g] (some 11) 0 rfl rfl hlo (eI hBw hap) ?_
 rintro ⟨y4,hy4⟩
 refine bC [2,3] [] 1 ⟨39,dH { y1 with mss := y4 }⟩ <| kQ <| bC [2] [(2,.p 0 0)] 0 ⟨39,dH { y1 with mss := y4 }⟩ <| kR ?_
 exact ⟨[.agg (dH { y1 with mss := y4 }).toArray],by kernel_rfl,fun w' hb hf => ⟨⟨{ y1 with mss := y4 },trivial⟩,rfl,hf (cF B g A J cap) (by simp),am (hf (bF w (fun b => b = g)) (by simp)) hb rfl rfl rfl⟩⟩
 have h3p := cB h3
 refine kQ <| aW [0,2,3,7,13] [(13,aB (y2 == 1))] <| kC (y2 == 1) (fun h5 => ?_) (fun h5 => ?_)
 have h5p := cI h5
 refine kG <| kHD 1 [2,3,15] [(15,aP g)] rfl (aH (e := 3) (K := 1) (bytes := 8) [iI (-2),iI (-1),iI 14,iI 15] (rs := ([(-2),(-1),14,15] : List Int).map az) rfl rfl) ?_
 intro g6
 refine dK (φ := ¬ (aJ (.slice (some ⟨g6,0,none⟩) 4 4) 1 (([(-2),(-1),14,15] : List Int).map az)).blk g) (fun _ _ _ _ hr => fun hb => hr.2.apart 0 1 (a9 (av w B).heap.size 3 1 (.slice (some ⟨g6,0,none⟩) 4 4) (([(-2),(-1),14,15] : List Int).map az)) (cF B g A J cap) rfl rfl (by decide) rfl g (bG hb) rfl) (fun hk7 => ?_)
 refine dl 0 [2,3,15,16] [] 48 [gP g,.slice (some ⟨g6,0,none⟩) 4 4] (some 17) 1 rfl rfl hlo (bw hBw hap (fun ww hw hf => (ax (hf _ m0))) hk7 (by simp)) ?_
 rintro ⟨y8,hy8⟩
 refine bC [2,3] [] 1 ⟨39,dH { y1 with scale := y8 }⟩ <| kQ <| bC [2] [(2,.p 0 0)] 0 ⟨39,dH { y1 with scale := y8 }⟩ <| kR ?_
 exact ⟨[.agg (dH { y1 with scale := y8 }).toArray],by kernel_rfl,fun w' hb hf => ⟨⟨{ y1 with scale := y8 },trivial⟩,rfl,hf (cF B g A J cap) (by simp),am (hf (bF w (fun b => b = g)) (by simp)) hb rfl rfl rfl⟩⟩
 have h5p := cB h5
 refine kQ <| aW [0,2,3,7,19] [(19,aB (y2 == 2))] <| kC (y2 == 2) (fun h9 => ?_) (fun h9 => ?_)
 have h9p := cI h9
 refine kG <| bC [2,3] [] 1 ⟨39,dH { y1 with stamp := !y1.stamp }⟩ <| kQ <| bC [2] [(2,.p 0 0)] 0 ⟨39,dH { y1 with stamp := !y1.stamp }⟩ ?_
 refine kR ?_
 exact ⟨[.agg (dH { y1 with stamp := !y1.stamp }).toArray],by kernel_rfl,fun w' hb hf => ⟨⟨{ y1 with stamp := !y1.stamp },trivial⟩,rfl,hf (cF B g A J cap) (by simp),am (hf (bF w (fun b => b = g)) (by simp)) hb rfl rfl rfl⟩⟩
 have h9p := cB h9
 refine kQ <| aW [0,2,3,25] [(25,aB (y2 == 3))] <| kC (y2 == 3) (fun h10 => ?_) (fun h10 => ?_)
 have h10p := cI h10
 refine kG <| dl 1 [2,3,27] [(27,aP g)] 84 [gP g] (some 28) 0 rfl rfl hlo (eI hBw hap) ?_
 rintro ⟨y11,hy11⟩
 refine bC [2,3] [] 1 ⟨39,dH { y1 with val := y11 }⟩ <| kQ <| cm [2] ⟨[(2,.p 0 0)],[⟨39,dH { y1 with val := y11 }⟩,⟨39,dH { y1 with val := y11 }⟩],[],[cF B g A J cap,sQ A J cap,bF w (fun b => b = g)]⟩ <| kR ?_
 exact ⟨[.agg (dH { y1 with val := y11 }).toArray],by kernel_rfl,fun w' hb hf => ⟨⟨{ y1 with val := y11 },trivial⟩,rfl,hf (cF B g A J cap) (by simp),am (hf (bF w (fun b => b = g)) (by simp)) hb rfl rfl rfl⟩⟩
 have h10p := cB h10
 refine kK <| kQ <| bC [2] [(2,.p 0 0)] 0 ⟨39,dH y1⟩ <| kR ?_
 exact ⟨[.agg (dH y1).toArray],by kernel_rfl,fun w' hb hf => ⟨⟨y1,trivial⟩,rfl,hf (cF B g A J cap) (by simp),am (hf (bF w (fun b => b = g)) (by simp)) hb rfl rfl rfl⟩⟩
theorem l8Bent_c_K {g : Nat} {J : List Int} {A : Option Addr} {cap : Nat}  {w0 : World} {fs : List Fact} {B : Nat} (hB : B ≤ w0.heap.size) (hap : ¬ (sQ A J cap).blk g)  (hn : J.length ≤ 1048576 := by omega) (h1 : cF B g A J cap ∈ fs := by simp) (h2 : sQ A J cap ∈ fs := by simp) : XCM Tryz.prog w0 fs (cF B g A J cap).blk 55 [gP g] (α := {y : Opt // True}) (fun y => .agg (dH y.1).toArray) (fun _ => [cF B g A J cap]) := dw fun w hw hf => l8Bent_c g J A cap  w B (Nat.le_trans hB hw) (hf _ h1) (hf _ h2) hap hn  
theorem l12Tuple_c (g : Nat) (J : List Int) (A : Option Addr) (cap : Nat)  (w : World) (B : Nat) (hB : B ≤ w.heap.size) (hc : (cF B g A J cap).p w) (hl : Sl w (sJ A J cap) 1 (J.map bR)) (hap : ¬ (sQ A J cap).blk g) (hn : J.length ≤ 1048576)  : Calls Tryz.prog 47 #[gP g] w fun e w' => ∃ y : {y : Tup // True}, e = .returned (.agg (bX y.1).toArray) ∧ (cF B g A J cap).p w' ∧ Chgd (fun b => b = g) w w' := by
 have hq_code := Sl.capLe hl
 have hBw : B ≤ (av w B).heap.size := Nat.le_of_eq (aM hB).symm
 have hlo : ∀ (ww : World) (b : Nat),(cF B g A J cap).p ww → (cF B g A J cap).blk b → (av w B).heap.size ≤ b := fun ww b h hb => Nat.le_trans (cf w B) (d3 h hb)
 refine cQ (args := [gP g]) (fn := Tryz.f47) [cF B g A J cap,sQ A J cap,bF w (fun b => b = g)] B Tryz.func47 rfl Tryz.ntmps47 rfl hB (by simp only [List.mem_cons,List.not_mem_nil,or_false,forall_eq_or_imp,forall_eq]; exact ⟨hc,hl,bT w _⟩) (c5 hap rfl) ?_
 refine kQ <| cm [0,2] ⟨[(0,aP g),(2,.p 0 0)],[⟨32,bX (⟨0,0,0⟩ : Tup)⟩],[],[cF B g A J cap,sQ A J cap,bF w (fun b => b = g)]⟩ <| kQ <| dl 1 [0,2,3] [(3,aP g)] 72 [gP g] (some 4) 0 rfl rfl hlo (l6Ip_c_K hBw hap) ?_
 rintro ⟨y1,hy1⟩
 refine kHD 1 [2,4,5] [(5,aP g)] rfl (aH (e := 3) (K := 1) (bytes := 8) [iI 40000,iI 40001,iI 40002] (rs := ([40000,40001,40002] : List Int).map az) rfl rfl) ?_
 intro g2
 refine dK (φ := ¬ (aJ (.slice (some ⟨g2,0,none⟩) 3 3) 1 (([40000,40001,40002] : List Int).map az)).blk g) (fun _ _ _ _ hr => fun hb => hr.2.apart 0 1 (a9 (av w B).heap.size 3 1 (.slice (some ⟨g2,0,none⟩) 3 3) (([40000,40001,40002] : List Int).map az)) (cF B g A J cap) rfl rfl (by decide) rfl g (bG hb) rfl) (fun hk3 => ?_)
 refine dl 0 [2,4,5,6] [] 48 [gP g,.slice (some ⟨g2,0,none⟩) 3 3] (some 7) 1 rfl rfl hlo (bw hBw hap (fun ww hw hf => (ax (hf _ m0))) hk3 (by simp)) ?_
 rintro ⟨y4,hy4⟩
 refine gc 0 [2,4,7] [] (.agg (bX (⟨y1,y4,80⟩ : Tup)).toArray) rfl (fun _ _ _ ww hr => bn [(0,iI y1),(1,iI y4),(2,iI 80)] hr.1 rfl (by kernel_rfl) (by kernel_rfl) ww) ?_
 refine bC [2] [(2,.p 0 0)] 0 ⟨32,bX (⟨y1,y4,80⟩ : Tup)⟩ <| kR ?_
 exact ⟨[.agg (bX (⟨y1,y4,80⟩ : Tup)).toArray],by kernel_rfl,fun w' hb hf => ⟨⟨⟨y1,y4,80⟩,trivial⟩,rfl,hf (cF B g A J cap) (by simp),am (hf (bF w (fun b => b = g)) (by simp)) hb rfl rfl rfl⟩⟩
theorem fO {g : Nat} {J : List Int} {A : Option Addr} {cap : Nat}  {w0 : World} {fs : List Fact} {B : Nat} (hB : B ≤ w0.heap.size) (hap : ¬ (sQ A J cap).blk g)  (hn : J.length ≤ 1048576 := by omega) (h1 : cF B g A J cap ∈ fs := by simp) (h2 : sQ A J cap ∈ fs := by simp) : XCM Tryz.prog w0 fs (cF B g A J cap).blk 47 [gP g] (α := {y : Tup // True}) (fun y => .agg (bX y.1).toArray) (fun _ => [cF B g A J cap]) := dw fun w hw hf => l12Tuple_c g J A cap  w B (Nat.le_trans hB hw) (hf _ h1) (hf _ h2) hap hn  
end Go.Proofs.YtccijpdjfelbmaaGreat
