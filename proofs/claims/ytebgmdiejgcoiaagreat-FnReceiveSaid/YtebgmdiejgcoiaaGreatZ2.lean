/- Contracts that this law needs, part 2. -/
import Derived.Test.YtebgmdiejgcoiaaGreatZ1
namespace Go.Proofs.YtebgmdiejgcoiaaGreat
open Go.RowKit
set_option linter.unusedVariables false
set_option linter.unusedSimpArgs false
set_option maxRecDepth 100000
set_option maxHeartbeats 2000000

theorem ysArrived_c (r : Rcv) (r_heldV : Value) (seq : Int) (text : ByteArray) (fin : Bool) (w : World) (hl_r_heldV : Sl w r_heldV 2 (r.held.map pC)) (hkn : r.held.length ≤ 1048576) (hm : ∀ p ∈ r.held, p.text.size ≤ 1048576) (hsz : r.data.size ≤ 4611686018427387904) (hts : text.size ≤ 4611686018427387904) (B : Nat) (hB : B ≤ w.heap.size) : Calls Tryz.prog 78 #[.agg (ah r r_heldV).toArray, iI seq, .string text, .bool fin] w fun e w' => XRs w w' e (α := Option Addr × Nat) (fun y => .agg (ah (av r seq text fin) (.slice y.1 ((av r seq text fin).held.length) y.2)).toArray) (fun y => [ap B 85 2 (.slice y.1 ((av r seq text fin).held.length) y.2) ((av r seq text fin).held.map pC)]) := by
 obtain ⟨Arh,Crh,hvrh⟩ := hl_r_heldV.form
 rw [List.length_map] at hvrh; subst hvrh
 have hnrh := hl_r_heldV.len; rw [List.length_map] at hnrh
 have hqrh := Sl.capLe hl_r_heldV
 refine ck (args := [.agg (ah r (.slice Arh r.held.length Crh)).toArray,iI seq,.string text,.bool fin]) (fn := Tryz.f78) [c7 (.slice Arh r.held.length Crh) 2 (r.held.map pC)] Tryz.func78 rfl Tryz.ntmps78 rfl (by simp only [List.mem_cons,List.not_mem_nil,or_false,forall_eq_or_imp,forall_eq]; exact ⟨rfl,hl_r_heldV⟩) ?_
 refine kQ <| c8 [1,2,3,4,8] ⟨[(1,aI seq),(2,.v (.string text)),(3,aB fin),(4,.p 0 0),(8,.p 1 0)],[⟨41,ah r (.slice Arh r.held.length Crh)⟩,⟨41,dl⟩],[],[c7 (.slice Arh r.held.length Crh) 2 (r.held.map pC)]⟩ <| kQ <| dy 1 [1,2,3,4,8,17] [(17,.v (.agg (ah r (.slice Arh r.held.length Crh)).toArray))] 86 [.agg (ah r (.slice Arh r.held.length Crh)).toArray] (some 18) rfl (cZ fun ww hw hf => gR r (.slice Arh r.held.length Crh) ww (hf _ m0) (by assumption) w.heap.size hw) ?_
 rintro ⟨v1a,v1c⟩
 refine i5 [1,2,3,4,8,9] [(9,.p 2 0)] [⟨41,ah r (.slice v1a r.held.length v1c)⟩] <| kS <| kQ <| dy 1 [1,2,3,4,8,9,19] [(19,.v (.agg (ah r (.slice Arh r.held.length Crh)).toArray))] 65 [.agg (ah r (.slice Arh r.held.length Crh)).toArray] (some 20) rfl (aA fun ww hf => gS r (.slice Arh r.held.length Crh) ww (hf _ m1) (by assumption) (by omega)) ?_
 intro _
 refine cA 2 [1,2,3,4,8,9,22] [(22,aB (!(rO r)))] <| kP 22 (!(rO r)) (fun h2 => ?_) (fun h2 => ?_)
 have h2n := bg h2
 refine aR [1,2,3,4,8,9,25] [(25,aB true)] <| kT <| kQ <| bf [8] [(8,.p 1 0)] 1 ⟨41,ah r (.slice v1a r.held.length v1c)⟩ ?_
 refine kR ?_
 have hmod : av r seq text fin = r := by first | exact du hrk (by assumption) (by rw [← hall,← hnf]; omega) | (unfold av; rw [if_neg (by grind)]; done) | (unfold av; rw [if_pos (by grind),← hall,← hnf,← hg2,← hfp]; first | (rw [if_pos (by omega)]; done) | (rw [if_neg (by omega),if_pos (by first | omega | simp_all)]; done) | (rw [if_neg (by omega),if_neg (by first | omega | simp_all)]; done))
 exact ⟨[.agg (ah r (.slice v1a r.held.length v1c)).toArray],by kernel_rfl,fun w' hb hf ha => by rw [hmod]; exact im ((v1a,v1c)) rfl rfl (pW (hf _ m0) hB) hb⟩
 have h2n := aD h2
 have hrk := h2n
 obtain ⟨hf0,hf1,hf2,hf3,hf4,hheld⟩ := iu h2n
 have hwb := da r
 have hN := slotsOf_len r
 have hsqt := gi seq (text.size : Int)
 refine aR [1,2,3,4,8,9,25] [(25,aB r.done)] <| kC (r.done) (fun h3 => ?_) (fun h3 => ?_)
 refine kQ <| bf [8] [(8,.p 1 0)] 1 ⟨41,ah r (.slice v1a r.held.length v1c)⟩ <| kR ?_
 have hmod : av r seq text fin = r := by first | exact du hrk (by assumption) (by rw [← hall,← hnf]; omega) | (unfold av; rw [if_neg (by grind)]; done) | (unfold av; rw [if_pos (by grind),← hall,← hnf,← hg2,← hfp]; first | (rw [if_pos (by omega)]; done) | (rw [if_neg (by omega),if_pos (by first | omega | simp_all)]; done) | (rw [if_neg (by omega),if_neg (by first | omega | simp_all)]; done))
 exact ⟨[.agg (ah r (.slice v1a r.held.length v1c)).toArray],by kernel_rfl,fun w' hb hf ha => by rw [hmod]; exact im ((v1a,v1c)) rfl rfl (pW (hf _ m0) hB) hb⟩
 refine kK <| kQ <| dy 1 [1,2,3,4,8,9,27] [(27,.v (.agg (ah r (.slice Arh r.held.length Crh)).toArray))] 82 [.agg (ah r (.slice Arh r.held.length Crh)).toArray] (some 28) rfl (aA fun ww hf => eY r.next r.data r.held (.slice Arh r.held.length Crh) r.fin r.done ww (by omega)) ?_
 intro _
 refine aR [1,2,3,4,8,9,10] [(10,aI (wO r))] <| kQ <| dy 1 [1,2,3,4,8,9,10,29] [(29,.v (.agg (ah r (.slice Arh r.held.length Crh)).toArray))] 121 [.agg (ah r (.slice Arh r.held.length Crh)).toArray] (some 30) rfl (cZ fun ww hw hf => yl18Slots_c r (.slice Arh r.held.length Crh) ww (hf _ m1) (by assumption) (by assumption) w.heap.size hw) ?_
 rintro ⟨v4a,v4c⟩
 refine aR [1,2,3,4,8,9,10,11] [(11,.v (.slice v4a ((aL r).length) v4c))] <| kS <| kQ <| aR [1,2,3,4,8,9,10,11,12] [(12,aI 0)] ?_
 refine aZ <| xw_know (φ := ∃ g,True → v4a = some ⟨g,0,none⟩) (fun _ _ _ _ hr => know_row hr (K := 1) (rs := (aL r).map aq) 0 rfl (j := 0) (row := aq ((aL r)[0]'(by omega))) (fun _ => by rw [List.getElem?_map,List.getElem?_eq_getElem (by omega)]; rfl)) ?_
 rintro ⟨gg,hgg⟩
 refine cz (α := {x : Nat × List Int // (fun (i : Nat) (sl : List Int) => i ≤ text.size ∧ sl.length = 33 ∧ sl = fw r seq text (aL r) i) x.1 x.2}) (fun x => (fun (i : Nat) (sl : List Int) => (⟨[(1,aI seq),(2,.v (.string text)),(3,aB fin),(4,.p 0 0),(8,.p 1 0),(9,.p 2 0),(10,aI (wO r)),(11,.v (.slice v4a ((aL r).length) v4c)),(12,aI (i : Int))],[⟨41,ah r (.slice Arh r.held.length Crh)⟩,⟨41,dl⟩,⟨41,ah r (.slice v1a r.held.length v1c)⟩],[],[ap w.heap.size 3 1 (.slice v4a ((aL r).length) v4c) (sl.map aq),ap w.heap.size 85 2 (.slice v1a r.held.length v1c) (r.held.map pC),c7 (.slice Arh r.held.length Crh) 2 (r.held.map pC)]⟩ : St)) x.1.1 x.1.2) (fun x => (fun (i : Nat) (sl : List Int) => text.size - i) x.1.1 x.1.2) ⟨(0,(aL r)),⟨Nat.zero_le _,hN,rfl⟩⟩ (ei [0,1,2] <| kF 3 0 [1,2,3,4,8,9,10,11,12]) ?_
 rintro ⟨⟨i,sl⟩,hi,hl,HS⟩
 try dsimp only
 try dsimp only at hi hl HS
 refine kS <| kQ <| aJ [1,2,3,4,8,9,10,11,12,34] [(1,aI seq),(2,.v (.string text)),(3,aB fin),(4,.p 0 0),(8,.p 1 0),(9,.p 2 0),(10,aI (wO r)),(11,.v (.slice v4a ((aL r).length) v4c)),(12,aI (i : Int)),(34,aB (decide ((i : Int) < (text.size : Int))))] <| kC (decide ((i : Int) < (text.size : Int))) (fun h5 => ?_) (fun h5 => ?_)
 have h5p := of_decide_eq_true h5
 have hlti : i < text.size := by simpa using h5
 have hbt := fN text i
 have hsq := gi seq (i : Int)
 refine kK <| kS <| aZ <| kS <| bc [] (by kernel_rfl) (fun ρ σ => ?_)
 refine ca [0,1,3,4] [41,38,37,1,2,3,4,8,9,10,11,12] 4 [(41,aI r.next),(38,aI (i : Int)),(37,aI seq),(1,aI seq),(2,.v (.string text)),(3,aB fin),(4,.p 0 0),(8,.p 1 0),(9,.p 2 0),(10,aI (wO r)),(11,.v (.slice v4a ((aL r).length) v4c)),(12,aI (i : Int))] <| kA [2] <| dr 2 120 [iI seq,iI (i : Int)] (some 39) rfl (bM fun ww hf => bG seq (i : Int) ww ) ?_
 intro _
 refine ca [5] [42,1,2,3,4,8,9,10,11,12] 2 [(42,aI (K6.wrap ((sA seq (i : Int)) - r.next))),(1,aI seq),(2,.v (.string text)),(3,aB fin),(4,.p 0 0),(8,.p 1 0),(9,.p 2 0),(10,aI (wO r)),(11,.v (.slice v4a ((aL r).length) v4c)),(12,aI (i : Int))] <| gx [42,1,2,3,4,8,9,10,11,12] [(42,aI (K6.wrap ((sA seq (i : Int)) - r.next)))] [(42,aI ((sA seq (i : Int)) - r.next))] (by rw [show (K6.wrap ((sA seq (i : Int)) - r.next)) = ((sA seq (i : Int)) - r.next) from ab (by omega) (by omega)]) (by kernel_rfl) ?_
 refine kA [6] <| dr 6 122 [iI ((sA seq (i : Int)) - r.next)] (some 43) rfl (bM fun ww hf => gr ((sA seq (i : Int)) - r.next) ww ) ?_
 intro _
 refine gx [43,42,1,2,3,4,8,9,10,11,12] [(43,aI (((sA seq (i : Int)) - r.next) % 4294967296))] [(43,aI ((c6 r seq i : Nat) : Int))] (by rw [show (((sA seq (i : Int)) - r.next) % 4294967296) = ((c6 r seq i : Nat) : Int) from offN_eq r seq i]) (by kernel_rfl) ?_
 refine ca [7] [13,1,2,3,4,8,9,10,11,12] 0 [(13,aI ((c6 r seq i : Nat) : Int)),(1,aI seq),(2,.v (.string text)),(3,aB fin),(4,.p 0 0),(8,.p 1 0),(9,.p 2 0),(10,aI (wO r)),(11,.v (.slice v4a ((aL r).length) v4c)),(12,aI (i : Int))] <| kZ <| kQ <| cA 4 [1,2,3,4,8,9,10,11,12,13,47] [(47,aB (decide (((c6 r seq i : Nat) : Int) < (wO r))))] ?_
 refine kP 47 (decide (((c6 r seq i : Nat) : Int) < (wO r))) (fun h6 => ?_) (fun h6 => ?_)
 have h6p := of_decide_eq_true h6
 obtain ⟨x,hx⟩ : ∃ x,sl[c6 r seq i]? = some x := ⟨_,List.getElem?_eq_getElem (by omega)⟩
 have hsx := slotAt_of hx
 refine cA 4 [1,2,3,4,8,9,10,11,12,13,47,51] [(47,aB true),(51,aB (decide (r.fin < 0)))] <| kP 51 (decide (r.fin < 0)) (fun h7 => ?_) (fun h7 => ?_)
 have h7p := of_decide_eq_true h7
 refine fh 9 [1,2,3,4,8,9,10,11,12,13,58,59,60] [(58,aB true),(59,.v (.slice v4a ((aL r).length) v4c)),(60,aI ((c6 r seq i : Nat) : Int))] (.pointer (some ⟨gg,(c6 r seq i) * 1,none⟩)) rfl (fun _ _ _ ww hr => dF (kd := .i64) (T := 125) (e := 3) (K := 1) (g := gg) (N := ((aL r).length)) (cap := v4c) (c6 r seq i) (hgg trivial) hr.1 rfl rfl (by kernel_rfl) (by kernel_rfl) (by kernel_rfl) (by omega) ww) ?_
 refine fh 0 [1,2,3,4,8,9,10,11,12,13,58,61] [] (iI x) rfl (fun _ _ _ ww hr => dD (po := 0) (j := (c6 r seq i)) (row := [iI x]) (ap w.heap.size 3 1 (.slice v4a ((aL r).length) v4c) (sl.map aq)) hr rfl (by kernel_rfl) (by simp) (by simp only [List.getElem?_map,hx]; rfl) (by kernel_rfl) (hgg trivial) rfl rfl) ?_
 refine aR [1,2,3,4,8,9,10,11,12,13,64] [(64,aB (decide (x < 0)))] <| kC (decide (x < 0)) (fun h8 => ?_) (fun h8 => ?_)
 have h8p := of_decide_eq_true h8
 refine kG <| fh 4 [1,2,3,4,8,9,10,11,12,65,66,67,68] [(65,.v (.slice v4a ((aL r).length) v4c)),(66,aI ((c6 r seq i : Nat) : Int)),(67,.v (.string text)),(68,aI (i : Int))] (.int .u8 (ba text i)) rfl (fun _ _ _ ww hr => act_tix (kd := .i64) (t := text) i hr.1 rfl rfl (by kernel_rfl) (by kernel_rfl) hlti ww) ?_
 refine fh 1 [1,2,3,4,8,9,10,11,12,65,66,70] [(70,aI (K6.wrap (ba text i)))] (.pointer (some ⟨gg,(c6 r seq i) * 1,none⟩)) rfl (fun _ _ _ ww hr => dF (kd := .i64) (T := 125) (e := 3) (K := 1) (g := gg) (N := ((aL r).length)) (cap := v4c) (c6 r seq i) (hgg trivial) hr.1 rfl rfl (by kernel_rfl) (by kernel_rfl) (by kernel_rfl) (by omega) ww) ?_
 refine xl_hs 0 [1,2,3,4,8,9,10,11,12,70,71] ⟨[(1,aI seq),(2,.v (.string text)),(3,aB fin),(4,.p 0 0),(8,.p 1 0),(9,.p 2 0),(10,aI (wO r)),(11,.v (.slice v4a ((aL r).length) v4c)),(12,aI (i : Int)),(70,aI (K6.wrap (ba text i))),(71,.v (.pointer (some ⟨gg,(c6 r seq i) * 1,none⟩)))],[⟨41,ah r (.slice Arh r.held.length Crh)⟩,⟨41,dl⟩,⟨41,ah r (.slice v1a r.held.length v1c)⟩],[],[ap w.heap.size 3 1 (.slice v4a ((aL r).length) v4c) (sl.map aq),ap w.heap.size 85 2 (.slice v1a r.held.length v1c) (r.held.map pC),c7 (.slice Arh r.held.length Crh) 2 (r.held.map pC)]⟩ (by kernel_rfl) rfl (by kernel_rfl) rfl (by kernel_rfl) (HSg.hs (i0 (g := gg) (B := w.heap.size) (e := 3) (K := 1) (N := ((aL r).length)) (cap := v4c) (rs := (sl.map aq)) (rs' := (sl.set (c6 r seq i) (K6.wrap (ba text i))).map aq) (v := (iI (K6.wrap (ba text i)))) (i := 0) (off := (c6 r seq i) * 1) (c6 r seq i) 0 [iI x] (row' := [iI (K6.wrap (ba text i))]) (hgg trivial) rfl (by kernel_rfl) rfl (by kernel_rfl) (by kernel_rfl) (by kernel_rfl) (by kernel_rfl) (Nat.le_refl _) (by simp only [List.getElem?_map,hx]; rfl) (by kernel_rfl) rfl (by rw [List.map_set]; rfl))) ?_
 refine cR 0 [1,2,3,4,8,9,10,11,12] [(1,aI seq),(2,.v (.string text)),(3,aB fin),(4,.p 0 0),(8,.p 1 0),(9,.p 2 0),(10,aI (wO r)),(11,.v (.slice v4a ((aL r).length) v4c)),(12,aI (i : Int))] <| gW (st' := ⟨[(1,aI seq),(2,.v (.string text)),(3,aB fin),(4,.p 0 0),(8,.p 1 0),(9,.p 2 0),(10,aI (wO r)),(11,.v (.slice v4a ((aL r).length) v4c)),(12,aI (i : Int))],[⟨41,ah r (.slice Arh r.held.length Crh)⟩,⟨41,dl⟩,⟨41,ah r (.slice v1a r.held.length v1c)⟩],[],[ap w.heap.size 3 1 (.slice v4a ((aL r).length) v4c) ((sl.set (c6 r seq i) (ba text i)).map aq),ap w.heap.size 85 2 (.slice v1a r.held.length v1c) (r.held.map pC),c7 (.slice Arh r.held.length Crh) 2 (r.held.map pC)]⟩) (by rw [show (K6.wrap (ba text i)) = (ba text i) from ab (by omega) (by omega)] <;> rfl) ?_
 refine aR [1,2,3,4,8,9,10,11,12] [] <| kG <| cA 3 [1,2,3,4,8,9,10,11,12] [(12,aI (K6.wrap ((i : Int) + 1)))] <| cJ [1,2,3,4,8,9,10,11,12] [(12,aI (K6.wrap ((i : Int) + 1)))] [(12,aI ((i : Int) + 1))] (by rw [show (K6.wrap ((i : Int) + 1)) = ((i : Int) + 1) from ab (by omega) (by omega)]) (by kernel_rfl) ?_
 refine aR [1,2,3,4,8,9,10,11,12] [] ?_
 exact ⟨⟨(i + 1,(sl.set (c6 r seq i) (ba text i))),⟨hlti,(by rw [List.length_set]; exact hl),(by rw [fw,← HS,dR]; first | (rw [if_pos (by refine ⟨by omega,by omega,?_⟩; rw [hsx]; omega)]) | (rw [if_neg (by intro hh; have hh1 := hh.1; have hh2 := hh.2.1; have hh3 := hh.2.2; (try rw [hsx] at hh3); omega)]))⟩⟩,kF 3 0 [1,2,3,4,8,9,10,11,12],by show (fun (i : Nat) (sl : List Int) => text.size - i) (i + 1) (sl.set (c6 r seq i) (ba text i)) < text.size - i; (dsimp only; omega)⟩
 have h8p := of_decide_eq_false h8
 refine kK <| kG <| cA 3 [1,2,3,4,8,9,10,11,12] [(12,aI (K6.wrap ((i : Int) + 1)))] <| cJ [1,2,3,4,8,9,10,11,12] [(12,aI (K6.wrap ((i : Int) + 1)))] [(12,aI ((i : Int) + 1))] (by rw [show (K6.wrap ((i : Int) + 1)) = ((i : Int) + 1) from ab (by omega) (by omega)]) (by kernel_rfl) ?_
 refine aR [1,2,3,4,8,9,10,11,12] [] ?_
 exact ⟨⟨(i + 1,sl),⟨hlti,hl,(by rw [fw,← HS,dR]; first | (rw [if_pos (by refine ⟨by omega,by omega,?_⟩; rw [hsx]; omega)]) | (rw [if_neg (by intro hh; have hh1 := hh.1; have hh2 := hh.2.1; have hh3 := hh.2.2; (try rw [hsx] at hh3); omega)]))⟩⟩,kF 3 0 [1,2,3,4,8,9,10,11,12],by show (fun (i : Nat) (sl : List Int) => text.size - i) (i + 1) sl < text.size - i; (dsimp only; omega)⟩
 have h7p := of_decide_eq_false h7
 refine cA 7 [1,2,3,4,8,9,10,11,12,13,58] [(58,aB (decide (((c6 r seq i : Nat) : Int) < r.fin)))] <| kP 58 (decide (((c6 r seq i : Nat) : Int) < r.fin)) (fun h9 => ?_) (fun h9 => ?_)
 have h9p := of_decide_eq_true h9
 refine fh 2 [1,2,3,4,8,9,10,11,12,13,58,59,60] [(58,aB true),(59,.v (.slice v4a ((aL r).length) v4c)),(60,aI ((c6 r seq i : Nat) : Int))] (.pointer (some ⟨gg,(c6 r seq i) * 1,none⟩)) rfl (fun _ _ _ ww hr => dF (kd := .i64) (T := 125) (e := 3) (K := 1) (g := gg) (N := ((aL r).length)) (cap := v4c) (c6 r seq i) (hgg trivial) hr.1 rfl rfl (by kernel_rfl) (by kernel_rfl) (by kernel_rfl) (by omega) ww) ?_
 refine fh 0 [1,2,3,4,8,9,10,11,12,13,58,61] [] (iI x) rfl (fun _ _ _ ww hr => dD (po := 0) (j := (c6 r seq i)) (row := [iI x]) (ap w.heap.size 3 1 (.slice v4a ((aL r).length) v4c) (sl.map aq)) hr rfl (by kernel_rfl) (by simp) (by simp only [List.getElem?_map,hx]; rfl) (by kernel_rfl) (hgg trivial) rfl rfl) ?_
 refine aR [1,2,3,4,8,9,10,11,12,13,64] [(64,aB (decide (x < 0)))] <| kC (decide (x < 0)) (fun h10 => ?_) (fun h10 => ?_)
 have h10p := of_decide_eq_true h10
 refine kG <| fh 4 [1,2,3,4,8,9,10,11,12,65,66,67,68] [(65,.v (.slice v4a ((aL r).length) v4c)),(66,aI ((c6 r seq i : Nat) : Int)),(67,.v (.string text)),(68,aI (i : Int))] (.int .u8 (ba text i)) rfl (fun _ _ _ ww hr => act_tix (kd := .i64) (t := text) i hr.1 rfl rfl (by kernel_rfl) (by kernel_rfl) hlti ww) ?_
 refine fh 1 [1,2,3,4,8,9,10,11,12,65,66,70] [(70,aI (K6.wrap (ba text i)))] (.pointer (some ⟨gg,(c6 r seq i) * 1,none⟩)) rfl (fun _ _ _ ww hr => dF (kd := .i64) (T := 125) (e := 3) (K := 1) (g := gg) (N := ((aL r).length)) (cap := v4c) (c6 r seq i) (hgg trivial) hr.1 rfl rfl (by kernel_rfl) (by kernel_rfl) (by kernel_rfl) (by omega) ww) ?_
 refine xl_hs 0 [1,2,3,4,8,9,10,11,12,70,71] ⟨[(1,aI seq),(2,.v (.string text)),(3,aB fin),(4,.p 0 0),(8,.p 1 0),(9,.p 2 0),(10,aI (wO r)),(11,.v (.slice v4a ((aL r).length) v4c)),(12,aI (i : Int)),(70,aI (K6.wrap (ba text i))),(71,.v (.pointer (some ⟨gg,(c6 r seq i) * 1,none⟩)))],[⟨41,ah r (.slice Arh r.held.length Crh)⟩,⟨41,dl⟩,⟨41,ah r (.slice v1a r.held.length v1c)⟩],[],[ap w.heap.size 3 1 (.slice v4a ((aL r).length) v4c) (sl.map aq),ap w.heap.size 85 2 (.slice v1a r.held.length v1c) (r.held.map pC),c7 (.slice Arh r.held.length Crh) 2 (r.held.map pC)]⟩ (by kernel_rfl) rfl (by kernel_rfl) rfl (by kernel_rfl) (HSg.hs (i0 (g := gg) (B := w.heap.size) (e := 3) (K := 1) (N := ((aL r).length)) (cap := v4c) (rs := (sl.map aq)) (rs' := (sl.set (c6 r seq i) (K6.wrap (ba text i))).map aq) (v := (iI (K6.wrap (ba text i)))) (i := 0) (off := (c6 r seq i) * 1) (c6 r seq i) 0 [iI x] (row' := [iI (K6.wrap (ba text i))]) (hgg trivial) rfl (by kernel_rfl) rfl (by kernel_rfl) (by kernel_rfl) (by kernel_rfl) (by kernel_rfl) (Nat.le_refl _) (by simp only [List.getElem?_map,hx]; rfl) (by kernel_rfl) rfl (by rw [List.map_set]; rfl))) ?_
 refine cR 0 [1,2,3,4,8,9,10,11,12] [(1,aI seq),(2,.v (.string text)),(3,aB fin),(4,.p 0 0),(8,.p 1 0),(9,.p 2 0),(10,aI (wO r)),(11,.v (.slice v4a ((aL r).length) v4c)),(12,aI (i : Int))] <| gW (st' := ⟨[(1,aI seq),(2,.v (.string text)),(3,aB fin),(4,.p 0 0),(8,.p 1 0),(9,.p 2 0),(10,aI (wO r)),(11,.v (.slice v4a ((aL r).length) v4c)),(12,aI (i : Int))],[⟨41,ah r (.slice Arh r.held.length Crh)⟩,⟨41,dl⟩,⟨41,ah r (.slice v1a r.held.length v1c)⟩],[],[ap w.heap.size 3 1 (.slice v4a ((aL r).length) v4c) ((sl.set (c6 r seq i) (ba text i)).map aq),ap w.heap.size 85 2 (.slice v1a r.held.length v1c) (r.held.map pC),c7 (.slice Arh r.held.length Crh) 2 (r.held.map pC)]⟩) (by rw [show (K6.wrap (ba text i)) = (ba text i) from ab (by omega) (by omega)] <;> rfl) ?_
 refine aR [1,2,3,4,8,9,10,11,12] [] <| kG <| cA 3 [1,2,3,4,8,9,10,11,12] [(12,aI (K6.wrap ((i : Int) + 1)))] <| cJ [1,2,3,4,8,9,10,11,12] [(12,aI (K6.wrap ((i : Int) + 1)))] [(12,aI ((i : Int) + 1))] (by rw [show (K6.wrap ((i : Int) + 1)) = ((i : Int) + 1) from ab (by omega) (by omega)]) (by kernel_rfl) ?_
 refine aR [1,2,3,4,8,9,10,11,12] [] ?_
 exact ⟨⟨(i + 1,(sl.set (c6 r seq i) (ba text i))),⟨hlti,(by rw [List.length_set]; exact hl),(by rw [fw,← HS,dR]; first | (rw [if_pos (by refine ⟨by omega,by omega,?_⟩; rw [hsx]; omega)]) | (rw [if_neg (by intro hh; have hh1 := hh.1; have hh2 := hh.2.1; have hh3 := hh.2.2; (try rw [hsx] at hh3); omega)]))⟩⟩,kF 3 0 [1,2,3,4,8,9,10,11,12],by show (fun (i : Nat) (sl : List Int) => text.size - i) (i + 1) (sl.set (c6 r seq i) (ba text i)) < text.size - i; (dsimp only; omega)⟩
 have h10p := of_decide_eq_false h10
 refine kK <| kG <| cA 3 [1,2,3,4,8,9,10,11,12] [(12,aI (K6.wrap ((i : Int) + 1)))] <| cJ [1,2,3,4,8,9,10,11,12] [(12,aI (K6.wrap ((i : Int) + 1)))] [(12,aI ((i : Int) + 1))] (by rw [show (K6.wrap ((i : Int) + 1)) = ((i : Int) + 1) from ab (by omega) (by omega)]) (by kernel_rfl) ?_
 refine aR [1,2,3,4,8,9,10,11,12] [] ?_
 exact ⟨⟨(i + 1,sl),⟨hlti,hl,(by rw [fw,← HS,dR]; first | (rw [if_pos (by refine ⟨by omega,by omega,?_⟩; rw [hsx]; omega)]) | (rw [if_neg (by intro hh; have hh1 := hh.1; have hh2 := hh.2.1; have hh3 := hh.2.2; (try rw [hsx] at hh3); omega)]))⟩⟩,kF 3 0 [1,2,3,4,8,9,10,11,12],by show (fun (i : Nat) (sl : List Int) => text.size - i) (i + 1) sl < text.size - i; (dsimp only; omega)⟩
 have h9p := of_decide_eq_false h9
 refine aR [1,2,3,4,8,9,10,11,12,13,64] [(64,aB false)] <| kN <| kK <| kG <| cA 3 [1,2,3,4,8,9,10,11,12] [(12,aI (K6.wrap ((i : Int) + 1)))] ?_
 refine cJ [1,2,3,4,8,9,10,11,12] [(12,aI (K6.wrap ((i : Int) + 1)))] [(12,aI ((i : Int) + 1))] (by rw [show (K6.wrap ((i : Int) + 1)) = ((i : Int) + 1) from ab (by omega) (by omega)]) (by kernel_rfl) ?_
 refine aR [1,2,3,4,8,9,10,11,12] [] ?_
 exact ⟨⟨(i + 1,sl),⟨hlti,hl,(by rw [fw,← HS,dR]; first | (rw [if_pos (by refine ⟨by omega,by omega,?_⟩; rw [hsx]; omega)]) | (rw [if_neg (by intro hh; have hh1 := hh.1; have hh2 := hh.2.1; have hh3 := hh.2.2; (try rw [hsx] at hh3); omega)]))⟩⟩,kF 3 0 [1,2,3,4,8,9,10,11,12],by show (fun (i : Nat) (sl : List Int) => text.size - i) (i + 1) sl < text.size - i; (dsimp only; omega)⟩
 have h6p := of_decide_eq_false h6
 refine aR [1,2,3,4,8,9,10,11,12,13,64] [(64,aB false)] <| kN <| kK <| kG <| cA 3 [1,2,3,4,8,9,10,11,12] [(12,aI (K6.wrap ((i : Int) + 1)))] ?_
 refine cJ [1,2,3,4,8,9,10,11,12] [(12,aI (K6.wrap ((i : Int) + 1)))] [(12,aI ((i : Int) + 1))] (by rw [show (K6.wrap ((i : Int) + 1)) = ((i : Int) + 1) from ab (by omega) (by omega)]) (by kernel_rfl) ?_
 refine aR [1,2,3,4,8,9,10,11,12] [] ?_
 exact ⟨⟨(i + 1,sl),⟨hlti,hl,(by rw [fw,← HS,dR]; first | (rw [if_pos (by refine ⟨by omega,by omega,?_⟩; rw [hsx]; omega)]) | (rw [if_neg (by intro hh; have hh1 := hh.1; have hh2 := hh.2.1; have hh3 := hh.2.2; (try rw [hsx] at hh3); omega)]))⟩⟩,kF 3 0 [1,2,3,4,8,9,10,11,12],by show (fun (i : Nat) (sl : List Int) => text.size - i) (i + 1) sl < text.size - i; (dsimp only; omega)⟩
 have h5p := of_decide_eq_false h5
 have hti : i = text.size := by simp at h5; omega
 subst hti
 have hall : sl = cY r seq text := HS
 have hby : ∀ x ∈ sl,x ≤ 255 := by rw [hall]; exact allIn_le _ _ _
 refine cq <| kS <| bc [] (by kernel_rfl) (fun ρ σ => ?_)
 refine ca [0,1,2,4,5] [77,74,72,3,4,8,9,10,11] 4 [(77,aI r.next),(74,aI (text.size : Int)),(72,aI seq),(3,aB fin),(4,.p 0 0),(8,.p 1 0),(9,.p 2 0),(10,aI (wO r)),(11,.v (.slice v4a ((aL r).length) v4c))] <| kA [3] <| dr 3 120 [iI seq,iI (text.size : Int)] (some 75) rfl (bM fun ww hf => bG seq (text.size : Int) ww ) ?_
 intro _
 refine ca [6] [78,3,4,8,9,10,11] 2 [(78,aI (K6.wrap ((sA seq (text.size : Int)) - r.next))),(3,aB fin),(4,.p 0 0),(8,.p 1 0),(9,.p 2 0),(10,aI (wO r)),(11,.v (.slice v4a ((aL r).length) v4c))] <| gx [78,3,4,8,9,10,11] [(78,aI (K6.wrap ((sA seq (text.size : Int)) - r.next)))] [(78,aI ((sA seq (text.size : Int)) - r.next))] (by rw [show (K6.wrap ((sA seq (text.size : Int)) - r.next)) = ((sA seq (text.size : Int)) - r.next) from ab (by omega) (by omega)]) (by kernel_rfl) ?_
 refine kA [7] <| dr 7 122 [iI ((sA seq (text.size : Int)) - r.next)] (some 79) rfl (bM fun ww hf => gr ((sA seq (text.size : Int)) - r.next) ww ) ?_
 intro _
 refine gx [79,78,3,4,8,9,10,11] [(79,aI (((sA seq (text.size : Int)) - r.next) % 4294967296))] [(79,aI ((c6 r seq text.size : Nat) : Int))] (by rw [show (((sA seq (text.size : Int)) - r.next) % 4294967296) = ((c6 r seq text.size : Nat) : Int) from offN_eq r seq text.size]) (by kernel_rfl) ?_
 refine ca [8] [14,3,4,8,9,10,11] 0 [(14,aI ((c6 r seq text.size : Nat) : Int)),(3,aB fin),(4,.p 0 0),(8,.p 1 0),(9,.p 2 0),(10,aI (wO r)),(11,.v (.slice v4a ((aL r).length) v4c))] <| kZ <| kS <| cf (α := {zz : Int // (fun (fo : Int) => fo = dm r seq text fin ∧ (-1 ≤ fo ∧ fo ≤ 32)) zz}) (fun zz => (fun (fo : Int) => (⟨[(4,.p 0 0),(8,.p 1 0),(9,.p 2 0),(11,.v (.slice v4a ((aL r).length) v4c))],[⟨41,ah r (.slice Arh r.held.length Crh)⟩,⟨41,dl⟩,⟨41,ah { r with fin := fo } (.slice v1a r.held.length v1c)⟩],[],[ap w.heap.size 3 1 (.slice v4a ((aL r).length) v4c) (sl.map aq),ap w.heap.size 85 2 (.slice v1a r.held.length v1c) (r.held.map pC),c7 (.slice Arh r.held.length Crh) 2 (r.held.map pC)]⟩ : St)) zz.1) ?_ ?_
 refine kQ <| cA 2 [4,8,9,10,11,14,81] [(81,aB fin)] <| kP 81 (fin) (fun h11 => ?_) (fun h11 => ?_)
 refine cA 5 [4,8,9,10,11,14,86] [(86,aB (decide (r.fin < 0)))] <| kP 86 (decide (r.fin < 0)) (fun h12 => ?_) (fun h12 => ?_)
 have h12p := of_decide_eq_true h12
 refine cA 5 [4,8,9,11,14,91] [(91,aB (decide (((c6 r seq text.size : Nat) : Int) ≤ (wO r))))] <| kP 91 (decide (((c6 r seq text.size : Nat) : Int) ≤ (wO r))) (fun h13 => ?_) (fun h13 => ?_)
 have h13p := of_decide_eq_true h13
 refine dy 2 [4,8,9,11,14,91,92,93] [(91,aB true),(92,.v (.slice v4a ((aL r).length) v4c)),(93,aI ((c6 r seq text.size : Nat) : Int))] 123 [.slice v4a ((aL r).length) v4c,iI ((c6 r seq text.size : Nat) : Int)] (some 94) rfl (aA fun ww hf => yl18Free_c sl (.slice v4a ((aL r).length) v4c) (c6 r seq text.size : Nat) ww (aS (hf _ m0)) (by omega)) ?_
 intro _
 refine aR [4,8,9,11,14,95] [(95,aB (dv sl (c6 r seq text.size : Nat)))] <| kC ((dv sl (c6 r seq text.size : Nat))) (fun h14 => ?_) (fun h14 => ?_)
 refine kG <| bf [4,8,9,11] [] 2 ⟨41,ah { r with fin := ((c6 r seq text.size : Nat) : Int) } (.slice v1a r.held.length v1c)⟩ ?_
 exact ⟨⟨(((c6 r seq text.size : Nat) : Int)),⟨(by unfold dm; rw [← hall]; first | (simp [*]; done) | grind),(by first | omega | (have := hf3; omega))⟩⟩,kF 3 0 [4,8,9,11]⟩
 refine kK ?_
 exact ⟨⟨(r.fin),⟨(by unfold dm; rw [← hall]; first | (simp [*]; done) | grind),(by first | omega | (have := hf3; omega))⟩⟩,kF 3 0 [4,8,9,11]⟩
 have h13p := of_decide_eq_false h13
 refine aR [4,8,9,11,14,95] [(95,aB false)] <| kN <| kK ?_
 exact ⟨⟨(r.fin),⟨(by unfold dm; rw [← hall]; first | (simp [*]; done) | grind),(by first | omega | (have := hf3; omega))⟩⟩,kF 3 0 [4,8,9,11]⟩
 have h12p := of_decide_eq_false h12
 refine aR [4,8,9,11,14,95] [(95,aB false)] <| kN <| kK ?_
 exact ⟨⟨(r.fin),⟨(by unfold dm; rw [← hall]; first | (simp [*]; done) | grind),(by first | omega | (have := hf3; omega))⟩⟩,kF 3 0 [4,8,9,11]⟩
 refine aR [4,8,9,11,14,95] [(95,aB false)] <| kN <| kK ?_
 exact ⟨⟨(r.fin),⟨(by unfold dm; rw [← hall]; first | (simp [*]; done) | grind),(by first | omega | (have := hf3; omega))⟩⟩,kF 3 0 [4,8,9,11]⟩
 rintro ⟨fo,hfo,hfb⟩
 try dsimp only
 try dsimp only at hfo hfb
 refine kQ <| aR [4,8,9,11,15] [(15,aI 0)] <| kQ <| kHD 0 [4,8,9,11,15] [] rfl (bi (e := 5) (K := 1) (bytes := 1) [] (rs := ([] : List Int).map bR) rfl rfl) ?_
 intro g15
 refine aR [4,8,9,11,15,16] [(16,.v (.slice (some ⟨g15,0,none⟩) 0 0))] <| kS <| cf (α := {zz : Nat × List Int × Option Addr × Nat // (fun (n2 : Nat) (gt : List Int) (A2 : Option Addr) (c2 : Nat) => n2 = cQ sl ∧ gt = sl.take n2 ∧ n2 ≤ 33) zz.1 zz.2.1 zz.2.2.1 zz.2.2.2}) (fun zz => (fun (n2 : Nat) (gt : List Int) (A2 : Option Addr) (c2 : Nat) => (⟨[(4,.p 0 0),(8,.p 1 0),(9,.p 2 0),(11,.v (.slice v4a ((aL r).length) v4c)),(15,aI (n2 : Int)),(16,.v (.slice A2 gt.length c2))],[⟨41,ah r (.slice Arh r.held.length Crh)⟩,⟨41,dl⟩,⟨41,ah { r with fin := fo } (.slice v1a r.held.length v1c)⟩],[],[ap w.heap.size 5 1 (.slice A2 gt.length c2) (gt.map bR),ap w.heap.size 3 1 (.slice v4a ((aL r).length) v4c) (sl.map aq),ap w.heap.size 85 2 (.slice v1a r.held.length v1c) (r.held.map pC),c7 (.slice Arh r.held.length Crh) 2 (r.held.map pC)]⟩ : St)) zz.1.1 zz.1.2.1 zz.1.2.2.1 zz.1.2.2.2) ?_ ?_
 refine aZ <| cz (α := {x : Nat × List Int × Option Addr × Nat // (fun (n2 : Nat) (gt : List Int) (A2 : Option Addr) (c2 : Nat) => n2 ≤ 33 ∧ gt = sl.take n2 ∧ (∀ x ∈ sl.take n2,0 ≤ x)) x.1 x.2.1 x.2.2.1 x.2.2.2}) (fun x => (fun (n2 : Nat) (gt : List Int) (A2 : Option Addr) (c2 : Nat) => (⟨[(4,.p 0 0),(8,.p 1 0),(9,.p 2 0),(11,.v (.slice v4a ((aL r).length) v4c)),(15,aI (n2 : Int)),(16,.v (.slice A2 gt.length c2))],[⟨41,ah r (.slice Arh r.held.length Crh)⟩,⟨41,dl⟩,⟨41,ah { r with fin := fo } (.slice v1a r.held.length v1c)⟩],[],[ap w.heap.size 5 1 (.slice A2 gt.length c2) (gt.map bR),ap w.heap.size 3 1 (.slice v4a ((aL r).length) v4c) (sl.map aq),ap w.heap.size 85 2 (.slice v1a r.held.length v1c) (r.held.map pC),c7 (.slice Arh r.held.length Crh) 2 (r.held.map pC)]⟩ : St)) x.1.1 x.1.2.1 x.1.2.2.1 x.1.2.2.2) (fun x => (fun (n2 : Nat) (gt : List Int) (A2 : Option Addr) (c2 : Nat) => 33 - n2) x.1.1 x.1.2.1 x.1.2.2.1 x.1.2.2.2) ⟨(0,([] : List Int),(some ⟨g15,0,none⟩),0),⟨Nat.zero_le _,rfl,(by simp)⟩⟩ (ei [0,1,2,3] <| kF 3 0 [4,8,9,11,15,16]) ?_
 rintro ⟨⟨n2,gt,A2,c2⟩,hn2,hg2,hps⟩
 try dsimp only
 try dsimp only at hn2 hg2 hps
 refine kS <| kQ <| cA 5 [4,8,9,11,15,16,103] [(103,aB (decide ((n2 : Int) < (((aL r).length : Nat) : Int))))] <| kP 103 (decide ((n2 : Int) < (((aL r).length : Nat) : Int))) (fun h16 => ?_) (fun h16 => ?_)
 have h16p := of_decide_eq_true h16
 have hlt2 : n2 < 33 := by simp at h16; omega
 obtain ⟨y,hy⟩ : ∃ y,sl[n2]? = some y := ⟨_,List.getElem?_eq_getElem (by omega)⟩
 have hy255 := hby y (List.mem_of_getElem? hy)
 have hgl : gt.length ≤ 33 := by rw [hg2,List.length_take]; omega
 refine fh 2 [4,8,9,11,15,16,103,104,105] [(103,aB true),(104,.v (.slice v4a ((aL r).length) v4c)),(105,aI (n2 : Int))] (.pointer (some ⟨gg,n2 * 1,none⟩)) rfl (fun _ _ _ ww hr => dF (kd := .i64) (T := 125) (e := 3) (K := 1) (g := gg) (N := ((aL r).length)) (cap := v4c) n2 (hgg trivial) hr.1 rfl rfl (by kernel_rfl) (by kernel_rfl) (by kernel_rfl) (by omega) ww) ?_
 refine fh 0 [4,8,9,11,15,16,103,106] [] (iI y) rfl (fun _ _ _ ww hr => dD (po := 0) (j := n2) (row := [iI y]) (ap w.heap.size 3 1 (.slice v4a ((aL r).length) v4c) (sl.map aq)) hr rfl (by kernel_rfl) (by simp) (by simp only [List.getElem?_map,hy]; rfl) (by kernel_rfl) (hgg trivial) rfl rfl) ?_
 refine aR [4,8,9,11,15,16,109] [(109,aB (decide (y ≥ 0)))] <| kC (decide (y ≥ 0)) (fun h17 => ?_) (fun h17 => ?_)
 have h17p := of_decide_eq_true h17
 refine kK <| aZ <| kQ <| fh 3 [4,8,9,11,15,16,110,111,112] [(110,.v (.slice A2 gt.length c2)),(111,.v (.slice v4a ((aL r).length) v4c)),(112,aI (n2 : Int))] (.pointer (some ⟨gg,n2 * 1,none⟩)) rfl (fun _ _ _ ww hr => dF (kd := .i64) (T := 125) (e := 3) (K := 1) (g := gg) (N := ((aL r).length)) (cap := v4c) n2 (hgg trivial) hr.1 rfl rfl (by kernel_rfl) (by kernel_rfl) (by kernel_rfl) (by omega) ww) ?_
 refine fh 0 [4,8,9,11,15,16,110,113] [] (iI y) rfl (fun _ _ _ ww hr => dD (po := 0) (j := n2) (row := [iI y]) (ap w.heap.size 3 1 (.slice v4a ((aL r).length) v4c) (sl.map aq)) hr rfl (by kernel_rfl) (by simp) (by simp only [List.getElem?_map,hy]; rfl) (by kernel_rfl) (hgg trivial) rfl rfl) ?_
 refine kHD 1 [4,8,9,11,15,16,110,115] [(115,.v (.int .u8 (IntKind.u8.wrap y)))] rfl (bi (e := 5) (K := 1) (bytes := 1) [.int .u8 (IntKind.u8.wrap y)] (rs := ([IntKind.u8.wrap y] : List Int).map bR) rfl rfl) ?_
 intro g18
 refine kHS 0 [4,8,9,11,15,16,110,116] [(4,.p 0 0),(8,.p 1 0),(9,.p 2 0),(11,.v (.slice v4a ((aL r).length) v4c)),(15,aI (n2 : Int)),(16,.v (.slice A2 gt.length c2)),(110,.v (.slice A2 gt.length c2)),(116,.v (.slice (some ⟨g18,0,none⟩) 1 1))] rfl (dt (e := 5) (K := 1) (bytes := 1) (i := 1) (q := (gt ++ ([IntKind.u8.wrap y] : List Int)).length) (new := ([IntKind.u8.wrap y] : List Int).map bR) (rs' := (gt ++ ([IntKind.u8.wrap y] : List Int)).map bR) rfl rfl rfl rfl (by kernel_rfl) (by kernel_rfl) (by kernel_rfl) rfl (by simp) (by rw [List.map_append]) (by simp) (fun ww hf => (aS (hf (ap w.heap.size 5 1 (.slice (some ⟨g18,0,none⟩) 1 1) (([IntKind.u8.wrap y] : List Int).map bR)) (by simp)))) (by intro r hr; obtain ⟨x,hx,rfl⟩ := List.mem_map.1 hr; exact ⟨rfl,by simp [bR,Value.oneCell']⟩) (by (try simp only [List.length_map,List.length_append,List.length_cons,List.length_nil,List.length_take,List.length_drop,maxLen]); omega) (by (try simp only [List.length_map,List.length_append,List.length_cons,List.length_nil,List.length_take,List.length_drop,maxLen]); omega)) ?_
 rintro ⟨v19a,v19c⟩
 refine cR 1 [4,8,9,11,15,16] [(4,.p 0 0),(8,.p 1 0),(9,.p 2 0),(11,.v (.slice v4a ((aL r).length) v4c)),(15,aI (n2 : Int)),(16,.v (.slice v19a ((gt ++ ([IntKind.u8.wrap y] : List Int)).length) v19c))] <| gW (st' := ⟨[(4,.p 0 0),(8,.p 1 0),(9,.p 2 0),(11,.v (.slice v4a ((aL r).length) v4c)),(15,aI (n2 : Int)),(16,.v (.slice v19a ((gt ++ ([y] : List Int)).length) v19c))],[⟨41,ah r (.slice Arh r.held.length Crh)⟩,⟨41,dl⟩,⟨41,ah { r with fin := fo } (.slice v1a r.held.length v1c)⟩],[],[ap w.heap.size 5 1 (.slice v19a ((gt ++ ([y] : List Int)).length) v19c) ((gt ++ ([y] : List Int)).map bR),ap w.heap.size 5 1 (.slice (some ⟨g18,0,none⟩) 1 1) (([y] : List Int).map bR),ap w.heap.size 3 1 (.slice v4a ((aL r).length) v4c) (sl.map aq),ap w.heap.size 85 2 (.slice v1a r.held.length v1c) (r.held.map pC),c7 (.slice Arh r.held.length Crh) 2 (r.held.map pC)]⟩) (by rw [show (IntKind.u8.wrap y) = y from u8_id (by omega) (by omega)] <;> rfl) ?_
 refine aR [4,8,9,11,15,16] [] <| kG <| cA 3 [4,8,9,11,15,16] [(15,aI (K6.wrap ((n2 : Int) + 1)))] <| cJ [4,8,9,11,15,16] [(15,aI (K6.wrap ((n2 : Int) + 1)))] [(15,aI ((n2 : Int) + 1))] (by rw [show (K6.wrap ((n2 : Int) + 1)) = ((n2 : Int) + 1) from ab (by omega) (by omega)]) (by kernel_rfl) ?_
 refine aR [4,8,9,11,15,16] [] ?_
 exact ⟨⟨(n2 + 1,(gt ++ ([y] : List Int)),v19a,v19c),⟨(by omega),(by rw [hg2,take_more hy]),(take_pos hps hy (by omega))⟩⟩,ei [0,2,3,4] <| kF 3 0 [4,8,9,11,15,16],by show (fun (n2 : Nat) (gt : List Int) (A2 : Option Addr) (c2 : Nat) => 33 - n2) (n2 + 1) (gt ++ ([y] : List Int)) v19a v19c < 33 - n2; (dsimp only; omega)⟩
 have h17p := of_decide_eq_false h17
 refine cq ?_
 exact ⟨⟨(n2,gt,A2,c2),⟨(by first | exact (ey (k := n2) (by omega) hps (fun z hz => by rw [hy] at hz; simp only [Option.some.injEq] at hz; omega)).symm | exact (ey (k := n2) (by omega) hps (fun z hz => by rw [List.getElem?_eq_none (by omega)] at hz; simp at hz)).symm),hg2,hn2⟩⟩,kF 3 0 [4,8,9,11,15,16]⟩
 have h16p := of_decide_eq_false h16
 have hge2 : 33 ≤ n2 := by simp at h16; omega
 refine aR [4,8,9,11,15,16,109] [(109,aB false)] <| kN <| cq ?_
 exact ⟨⟨(n2,gt,A2,c2),⟨(by first | exact (ey (k := n2) (by omega) hps (fun z hz => by rw [hy] at hz; simp only [Option.some.injEq] at hz; omega)).symm | exact (ey (k := n2) (by omega) hps (fun z hz => by rw [List.getElem?_eq_none (by omega)] at hz; simp at hz)).symm),hg2,hn2⟩⟩,kF 3 0 [4,8,9,11,15,16]⟩
 rintro ⟨⟨n2,gt,A2,c2⟩,hnf,hg2,hn2⟩
 try dsimp only
 try dsimp only at hnf hg2 hn2
 have hbl := gL gt
 have hgl : gt.length ≤ 33 := by rw [hg2,List.length_take]; omega
 refine kQ <| fh 3 [4,8,9,11,15,121,122] [(121,.v (.string r.data)),(122,.v (.slice A2 gt.length c2))] (.string (am gt)) rfl (fun _ _ _ ww hr => cb (e := 5) gt hr.1 rfl (by kernel_rfl) (by kernel_rfl) (by kernel_rfl) rfl (aS (hr.2.fact (ap w.heap.size 5 1 (.slice A2 gt.length c2) (gt.map bR)) (by simp)).1)) ?_
 refine fh 0 [4,8,9,11,15,121,123] [] (.string (r.data ++ (am gt))) rfl (fun _ _ _ ww hr => cj hr.1 rfl (by kernel_rfl) (by kernel_rfl) (gk (by first | omega | (simp only [ByteArray.size_extract]; omega)) ww)) ?_
 refine bf [4,8,9,11,15] [] 2 ⟨41,ah { r with data := r.data ++ (am gt),fin := fo } (.slice v1a r.held.length v1c)⟩ <| kQ <| dy 3 [4,8,9,11,15,127,128] [(127,aI r.next),(128,aI (n2 : Int))] 120 [iI r.next,iI (n2 : Int)] (some 129) rfl (bM fun ww hf => bG r.next (n2 : Int) ww ) ?_
 intro _
 refine bf [4,8,9,11,15] [] 2 ⟨41,[iI (sA r.next (n2 : Int)),.string (r.data ++ (am gt)),.slice v1a r.held.length v1c,iI fo,.bool r.done]⟩ <| kQ <| dy 2 [4,8,9,15,131,132] [(131,.v (.slice v4a ((aL r).length) v4c)),(132,aI (n2 : Int))] 124 [.slice v4a ((aL r).length) v4c,iI (n2 : Int)] (some 133) rfl (cZ fun ww hw hf => yl18Pieces_c sl (.slice v4a ((aL r).length) v4c) n2 ww (aS (hf _ m1)) (by omega) (by omega) (by assumption) w.heap.size hw) ?_
 rintro ⟨v20a,v20c⟩
 refine bf [4,8,9,15] [] 2 ⟨41,[iI (sA r.next (n2 : Int)),.string (r.data ++ (am gt)),.slice v20a ((fl [] 0 (sl.drop n2)).length) v20c,iI fo,.bool r.done]⟩ <| kS <| cf (α := {zz : Int // (fun (fp : Int) => fp = eJ r seq text fin) zz}) (fun zz => (fun (fp : Int) => (⟨[(4,.p 0 0),(8,.p 1 0),(9,.p 2 0)],[⟨41,ah r (.slice Arh r.held.length Crh)⟩,⟨41,dl⟩,⟨41,[iI (sA r.next (n2 : Int)),.string (r.data ++ (am gt)),.slice v20a ((fl [] 0 (sl.drop n2)).length) v20c,iI fp,.bool r.done]⟩],[],[ap w.heap.size 85 2 (.slice v20a ((fl [] 0 (sl.drop n2)).length) v20c) ((fl [] 0 (sl.drop n2)).map pC),ap w.heap.size 5 1 (.slice A2 gt.length c2) (gt.map bR),ap w.heap.size 3 1 (.slice v4a ((aL r).length) v4c) (sl.map aq),ap w.heap.size 85 2 (.slice v1a r.held.length v1c) (r.held.map pC),c7 (.slice Arh r.held.length Crh) 2 (r.held.map pC)]⟩ : St)) zz.1) ?_ ?_
 refine kQ <| aJ [4,8,9,15,137] [(4,.p 0 0),(8,.p 1 0),(9,.p 2 0),(15,aI (n2 : Int)),(137,aB (decide (fo ≥ 0)))] <| kC (decide (fo ≥ 0)) (fun h21 => ?_) (fun h21 => ?_)
 have h21p := of_decide_eq_true h21
 refine kG <| kRB 6 [4,8,9] [(4,.p 0 0),(8,.p 1 0),(9,.p 2 0)] [⟨41,ah r (.slice Arh r.held.length Crh)⟩,⟨41,dl⟩,⟨41,[iI (sA r.next (n2 : Int)),.string (r.data ++ (am gt)),.slice v20a ((fl [] 0 (sl.drop n2)).length) v20c,iI (K6.wrap (fo - (n2 : Int))),.bool r.done]⟩] <| gW (st' := ⟨[(4,.p 0 0),(8,.p 1 0),(9,.p 2 0)],[⟨41,ah r (.slice Arh r.held.length Crh)⟩,⟨41,dl⟩,⟨41,[iI (sA r.next (n2 : Int)),.string (r.data ++ (am gt)),.slice v20a ((fl [] 0 (sl.drop n2)).length) v20c,iI (fo - (n2 : Int)),.bool r.done]⟩],[],[ap w.heap.size 85 2 (.slice v20a ((fl [] 0 (sl.drop n2)).length) v20c) ((fl [] 0 (sl.drop n2)).map pC),ap w.heap.size 5 1 (.slice A2 gt.length c2) (gt.map bR),ap w.heap.size 3 1 (.slice v4a ((aL r).length) v4c) (sl.map aq),ap w.heap.size 85 2 (.slice v1a r.held.length v1c) (r.held.map pC),c7 (.slice Arh r.held.length Crh) 2 (r.held.map pC)]⟩) (by rw [show (K6.wrap (fo - (n2 : Int))) = (fo - (n2 : Int)) from ab (by omega) (by omega)] <;> rfl) ?_
 refine aR [4,8,9] [] ?_
 exact ⟨⟨(fo - (n2 : Int)),(by unfold eJ; rw [← hall,← hnf,← hfo]; first | rw [if_pos (by omega)] | rw [if_neg (by omega)])⟩,kF 3 0 [4,8,9]⟩
 have h21p := of_decide_eq_false h21
 refine kK ?_
 exact ⟨⟨(fo),(by unfold eJ; rw [← hall,← hnf,← hfo]; first | rw [if_pos (by omega)] | rw [if_neg (by omega)])⟩,kF 3 0 [4,8,9]⟩
 rintro ⟨fp,hfp⟩
 try dsimp only
 try dsimp only at hfp
 refine kS <| kQ <| aJ [4,8,9,145] [(4,.p 0 0),(8,.p 1 0),(9,.p 2 0),(145,aB (fp == 0))] <| kC (fp == 0) (fun h22 => ?_) (fun h22 => ?_)
 have h22p := bC h22
 refine kQ <| bf [4,8,9] [] 2 ⟨41,[iI (sA r.next (n2 : Int)),.string (r.data ++ (am gt)),.slice v20a ((fl [] 0 (sl.drop n2)).length) v20c,iI (-1),.bool r.done]⟩ <| kQ <| bf [4,8,9] [] 2 ⟨41,[iI (sA r.next (n2 : Int)),.string (r.data ++ (am gt)),.slice v20a ((fl [] 0 (sl.drop n2)).length) v20c,iI (-1),.bool true]⟩ ?_
 refine kG <| dy 2 [4,8,9,149] [(149,aI (sA r.next (n2 : Int)))] 120 [iI (sA r.next (n2 : Int)),iI 1] (some 150) rfl (bM fun ww hf => bG (sA r.next (n2 : Int)) 1 ww ) ?_
 intro _
 refine bf [4,8,9] [] 2 ⟨41,[iI (sA (sA r.next (n2 : Int)) 1),.string (r.data ++ (am gt)),.slice v20a ((fl [] 0 (sl.drop n2)).length) v20c,iI (-1),.bool true]⟩ <| kS <| kQ <| aR [4,8,9,155] [(155,aB (decide ((((fl [] 0 (sl.drop n2)).length : Nat) : Int) > 3)))] ?_
 refine kC (decide ((((fl [] 0 (sl.drop n2)).length : Nat) : Int) > 3)) (fun h23 => ?_) (fun h23 => ?_)
 have h23p := of_decide_eq_true h23
 refine kQ <| dy 1 [8,156] [(156,.v (.agg (ah r (.slice Arh r.held.length Crh)).toArray))] 86 [.agg (ah r (.slice Arh r.held.length Crh)).toArray] (some 157) rfl (cZ fun ww hw hf => gR r (.slice Arh r.held.length Crh) ww (hf _ m4) (by assumption) w.heap.size hw) ?_
 rintro ⟨v24a,v24c⟩
 refine bf [8] [(8,.p 1 0)] 1 ⟨41,ah r (.slice v24a r.held.length v24c)⟩ <| kR ?_
 have hmod : av r seq text fin = r := by first | exact du hrk (by assumption) (by rw [← hall,← hnf]; omega) | (unfold av; rw [if_neg (by grind)]; done) | (unfold av; rw [if_pos (by grind),← hall,← hnf,← hg2,← hfp]; first | (rw [if_pos (by omega)]; done) | (rw [if_neg (by omega),if_pos (by first | omega | simp_all)]; done) | (rw [if_neg (by omega),if_neg (by first | omega | simp_all)]; done))
 exact ⟨[.agg (ah r (.slice v24a r.held.length v24c)).toArray],by kernel_rfl,fun w' hb hf ha => by rw [hmod]; exact im ((v24a,v24c)) rfl rfl (pW (hf _ m0) hB) hb⟩
 have h23p := of_decide_eq_false h23
 refine kK <| kQ <| bf [8] [(8,.p 1 0)] 1 ⟨41,[iI (sA (sA r.next (n2 : Int)) 1),.string (r.data ++ (am gt)),.slice v20a ((fl [] 0 (sl.drop n2)).length) v20c,iI (-1),.bool true]⟩ <| kR ?_
 have hmod : av r seq text fin = (⟨sA (sA r.next (n2 : Int)) 1,r.data ++ (am gt),(fl [] 0 (sl.drop n2)),(-1),true⟩) := by first | exact du hrk (by assumption) (by rw [← hall,← hnf]; omega) | (unfold av; rw [if_neg (by grind)]; done) | (unfold av; rw [if_pos (by grind),← hall,← hnf,← hg2,← hfp]; first | (rw [if_pos (by omega)]; done) | (rw [if_neg (by omega),if_pos (by first | omega | simp_all)]; done) | (rw [if_neg (by omega),if_neg (by first | omega | simp_all)]; done))
 exact ⟨[.agg #[iI (sA (sA r.next (n2 : Int)) 1),.string (r.data ++ (am gt)),.slice v20a ((fl [] 0 (sl.drop n2)).length) v20c,iI (-1),.bool true]],by kernel_rfl,fun w' hb hf ha => by rw [hmod]; exact im ((v20a,v20c)) rfl rfl (pW (hf _ m0) hB) hb⟩
 have h22p := bA h22
 refine kK <| kS <| kQ <| aR [4,8,9,155] [(155,aB (decide ((((fl [] 0 (sl.drop n2)).length : Nat) : Int) > 3)))] ?_
 refine kC (decide ((((fl [] 0 (sl.drop n2)).length : Nat) : Int) > 3)) (fun h25 => ?_) (fun h25 => ?_)
 have h25p := of_decide_eq_true h25
 refine kQ <| dy 1 [8,156] [(156,.v (.agg (ah r (.slice Arh r.held.length Crh)).toArray))] 86 [.agg (ah r (.slice Arh r.held.length Crh)).toArray] (some 157) rfl (cZ fun ww hw hf => gR r (.slice Arh r.held.length Crh) ww (hf _ m4) (by assumption) w.heap.size hw) ?_
 rintro ⟨v26a,v26c⟩
 refine bf [8] [(8,.p 1 0)] 1 ⟨41,ah r (.slice v26a r.held.length v26c)⟩ <| kR ?_
 have hmod : av r seq text fin = r := by first | exact du hrk (by assumption) (by rw [← hall,← hnf]; omega) | (unfold av; rw [if_neg (by grind)]; done) | (unfold av; rw [if_pos (by grind),← hall,← hnf,← hg2,← hfp]; first | (rw [if_pos (by omega)]; done) | (rw [if_neg (by omega),if_pos (by first | omega | simp_all)]; done) | (rw [if_neg (by omega),if_neg (by first | omega | simp_all)]; done))
 exact ⟨[.agg (ah r (.slice v26a r.held.length v26c)).toArray],by kernel_rfl,fun w' hb hf ha => by rw [hmod]; exact im ((v26a,v26c)) rfl rfl (pW (hf _ m0) hB) hb⟩
 have h25p := of_decide_eq_false h25
 refine kK <| kQ <| bf [8] [(8,.p 1 0)] 1 ⟨41,[iI (sA r.next (n2 : Int)),.string (r.data ++ (am gt)),.slice v20a ((fl [] 0 (sl.drop n2)).length) v20c,iI fp,.bool r.done]⟩ <| kR ?_
 have hmod : av r seq text fin = (⟨sA r.next (n2 : Int),r.data ++ (am gt),(fl [] 0 (sl.drop n2)),fp,r.done⟩) := by first | exact du hrk (by assumption) (by rw [← hall,← hnf]; omega) | (unfold av; rw [if_neg (by grind)]; done) | (unfold av; rw [if_pos (by grind),← hall,← hnf,← hg2,← hfp]; first | (rw [if_pos (by omega)]; done) | (rw [if_neg (by omega),if_pos (by first | omega | simp_all)]; done) | (rw [if_neg (by omega),if_neg (by first | omega | simp_all)]; done))
 exact ⟨[.agg #[iI (sA r.next (n2 : Int)),.string (r.data ++ (am gt)),.slice v20a ((fl [] 0 (sl.drop n2)).length) v20c,iI fp,.bool r.done]],by kernel_rfl,fun w' hb hf ha => by rw [hmod]; exact im ((v20a,v20c)) rfl rfl (pW (hf _ m0) hB) hb⟩
theorem ysAcked_c (s : Snd) (ack : Int) (w : World)  : Calls Tryz.prog 74 #[.agg (ai s).toArray, iI ack] w fun e w' => e = .returned (.tuple #[.agg (ai (ae s ack).1).toArray, .bool ((ae s ack).2)]) ∧ Below w.heap.size w w' := by
 refine bH (args := [.agg (ai s).toArray,iI ack]) (fn := Tryz.f74) [] Tryz.func74 rfl Tryz.ntmps74 rfl (by simp) ?_
 refine kQ <| c8 [1,2,4] ⟨[(1,aI ack),(2,.p 0 0),(4,.p 1 0)],[⟨38,ai s⟩,⟨38,fW⟩],[],[]⟩ <| kQ <| dy 3 [2,4,8,10] [(8,aI ack),(10,aI s.una)] 119 [iI ack,iI s.una] (some 11) rfl (bM fun ww hf => sSeqDiff_c ack s.una ww ) ?_
 intro _
 refine aR [2,4,6] [(6,aI (au ack s.una))] <| kS <| kQ <| dy 1 [2,4,6,12] [(12,.v (.agg (ai s).toArray))] 64 [.agg (ai s).toArray] (some 13) rfl (aA fun ww hf => eP s.una s.data s.sent s.fin s.finSent s.done ww ) ?_
 intro _
 refine cA 2 [2,4,6,15] [(15,aB (!(aa s)))] <| kP 15 (!(aa s)) (fun h1 => ?_) (fun h1 => ?_)
 have h1n := bg h1
 refine aR [2,4,6,21] [(21,aB true)] <| kT <| kQ <| bf [4,5] [(5,aB false)] 1 ⟨38,ai s⟩ ?_
 refine kR ?_
 have hmod : ae s ack = (s,false) := by first | rfl | (simp [ae, *]; done) | (cases hfs : s.finSent <;> grind [ae])
 exact ⟨[.agg (ai s).toArray,.bool false],by kernel_rfl,fun w' hb hf => by rw [hmod]; exact ⟨rfl,hb⟩⟩
 have h1n := aD h1
 have h1nb := bt (s := s) (by simpa using h1n)
 obtain ⟨h1nb0,h1nb1,h1nb2,h1nb3,h1nb4,h1nb5,h1nb6,h1nb7,h1nb8,h1nb9,h1nb10⟩ := h1nb
 refine dy 2 [2,4,6,15,16,17] [(15,aB false),(16,aI (au ack s.una)),(17,.v (.agg (ai s).toArray))] 77 [.agg (ai s).toArray] (some 18) rfl (aA fun ww hf => dB s.una s.data s.sent s.fin s.finSent s.done ww ) ?_
 intro _
 refine dy 0 [2,4,6,15,16,18] [] 67 [iI (au ack s.una),iI 0,iI (aj s)] (some 19) rfl (bM fun ww hf => f0 (au ack s.una) 0 (aj s) ww ) ?_
 intro _
 refine aR [2,4,6,21] [(21,aB (!(ci (au ack s.una) 0 (aj s))))] <| kC (!(ci (au ack s.una) 0 (aj s))) (fun h2 => ?_) (fun h2 => ?_)
 have h2n := bg h2
 have h2ni := inB_ff.1 (show ci (au ack s.una) 0 (aj s) = false from by simpa using h2n)
 refine kQ <| bf [4,5] [(5,aB false)] 1 ⟨38,ai s⟩ <| kR ?_
 have hmod : ae s ack = (s,false) := by first | rfl | (simp [ae, *]; done) | (cases hfs : s.finSent <;> grind [ae])
 exact ⟨[.agg (ai s).toArray,.bool false],by kernel_rfl,fun w' hb hf => by rw [hmod]; exact ⟨rfl,hb⟩⟩
 have h2n := aD h2
 have h2ni := inB_tt.1 (show ci (au ack s.una) 0 (aj s) = true from by simpa using h2n)
 refine kK <| kQ <| i5 [2,4,6,7] [(7,.p 2 0)] [⟨38,ai s⟩] <| kQ <| dy 3 [2,4,6,7,25,26] [(25,aI s.una),(26,aI (au ack s.una))] 120 [iI s.una,iI (au ack s.una)] (some 27) rfl (bM fun ww hf => bG s.una (au ack s.una) ww ) ?_
 intro _
 refine bf [2,4,6,7] [] 2 ⟨38,ai { s with una := sA s.una (au ack s.una) }⟩ <| kS <| kQ <| aJ [2,4,6,7,32] [(2,.p 0 0),(4,.p 1 0),(6,aI (au ack s.una)),(7,.p 2 0),(32,aB (decide ((au ack s.una) > s.sent)))] ?_
 refine kC (decide ((au ack s.una) > s.sent)) (fun h3 => ?_) (fun h3 => ?_)
 have h3p := of_decide_eq_true h3
 refine kQ <| bf [2,4,7] [] 2 ⟨38,ai { s with una := sA s.una (au ack s.una),finSent := false }⟩ <| kQ <| bf [2,4,7] [] 2 ⟨38,ai { s with una := sA s.una (au ack s.una),finSent := false,done := true }⟩ ?_
 refine kG <| aR [2,4,6,7] [(6,aI s.sent)] <| kQ <| fh 3 [2,4,6,7,38,39] [(38,.v (.string s.data)),(39,aI s.sent)] (.string (s.data.extract (s.sent).toNat s.data.size)) rfl (fun _ _ _ ww hr => act_slSe (s.sent) hr.1 rfl (by kernel_rfl) rfl rfl (by omega) (by omega) ww) ?_
 refine bf [2,4,6,7] [] 2 ⟨38,[iI (sA s.una (au ack s.una)),.string (s.data.extract (s.sent).toNat s.data.size),iI s.sent,.bool s.fin,.bool false,.bool true]⟩ <| kQ <| kRF 6 [4,7] ⟨[(4,.p 1 0),(7,.p 2 0)],[⟨38,ai s⟩,⟨38,fW⟩,⟨38,[iI (sA s.una (au ack s.una)),.string (s.data.extract (s.sent).toNat s.data.size),iI (K6.wrap (s.sent - s.sent)),.bool s.fin,.bool false,.bool true]⟩],[],[]⟩ <| gW (st' := ⟨[(4,.p 1 0),(7,.p 2 0)],[⟨38,ai s⟩,⟨38,fW⟩,⟨38,[iI (sA s.una (au ack s.una)),.string (s.data.extract (s.sent).toNat s.data.size),iI (s.sent - s.sent),.bool s.fin,.bool false,.bool true]⟩],[],[]⟩) (by rw [show (K6.wrap (s.sent - s.sent)) = (s.sent - s.sent) from ab (by omega) (by omega)] <;> rfl) ?_
 refine aR [4,7] [] <| kQ <| bf [4,5] [(5,aB true)] 1 ⟨38,[iI (sA s.una (au ack s.una)),.string (s.data.extract (s.sent).toNat s.data.size),iI (s.sent - s.sent),.bool s.fin,.bool false,.bool true]⟩ <| kR ?_
 have hmod : ae s ack = ((⟨sA s.una (au ack s.una),s.data.extract (s.sent).toNat s.data.size,s.sent - s.sent,s.fin,false,true⟩),true) := by first | rfl | (simp [ae, *]; done) | (cases hfs : s.finSent <;> grind [ae])
 exact ⟨[.agg #[iI (sA s.una (au ack s.una)),.string (s.data.extract (s.sent).toNat s.data.size),iI (s.sent - s.sent),.bool s.fin,.bool false,.bool true],.bool true],by kernel_rfl,fun w' hb hf => by rw [hmod]; exact ⟨rfl,hb⟩⟩
 have h3p := of_decide_eq_false h3
 refine kK <| kQ <| fh 3 [2,4,6,7,38,39] [(38,.v (.string s.data)),(39,aI (au ack s.una))] (.string (s.data.extract (au ack s.una).toNat s.data.size)) rfl (fun _ _ _ ww hr => act_slSe (au ack s.una) hr.1 rfl (by kernel_rfl) rfl rfl (by omega) (by omega) ww) ?_
 refine bf [2,4,6,7] [] 2 ⟨38,ai { s with una := sA s.una (au ack s.una),data := s.data.extract (au ack s.una).toNat s.data.size }⟩ <| kQ <| kRF 6 [4,7] ⟨[(4,.p 1 0),(7,.p 2 0)],[⟨38,ai s⟩,⟨38,fW⟩,⟨38,ai { s with una := sA s.una (au ack s.una),data := s.data.extract (au ack s.una).toNat s.data.size,sent := K6.wrap (s.sent - (au ack s.una)) }⟩],[],[]⟩ <| gW (st' := ⟨[(4,.p 1 0),(7,.p 2 0)],[⟨38,ai s⟩,⟨38,fW⟩,⟨38,ai { s with una := sA s.una (au ack s.una),data := s.data.extract (au ack s.una).toNat s.data.size,sent := s.sent - (au ack s.una) }⟩],[],[]⟩) (by rw [show (K6.wrap (s.sent - (au ack s.una))) = (s.sent - (au ack s.una)) from ab (by omega) (by omega)] <;> rfl) ?_
 refine aR [4,7] [] <| kQ <| bf [4,5] [(5,aB true)] 1 ⟨38,ai { s with una := sA s.una (au ack s.una),data := s.data.extract (au ack s.una).toNat s.data.size,sent := s.sent - (au ack s.una) }⟩ <| kR ?_
 have hmod : ae s ack = (({ s with una := sA s.una (au ack s.una),data := s.data.extract (au ack s.una).toNat s.data.size,sent := s.sent - (au ack s.una) }),true) := by first | rfl | (simp [ae, *]; done) | (cases hfs : s.finSent <;> grind [ae])
 exact ⟨[.agg (ai { s with una := sA s.una (au ack s.una),data := s.data.extract (au ack s.una).toNat s.data.size,sent := s.sent - (au ack s.una) }).toArray,.bool true],by kernel_rfl,fun w' hb hf => by rw [hmod]; exact ⟨rfl,hb⟩⟩
theorem ysTakenIn_c (r : Rcv) (r_heldV : Value) (n : Int) (w : World) (hl_r_heldV : Sl w r_heldV 2 (r.held.map pC)) (hkn : r.held.length ≤ 1048576) (hm : ∀ p ∈ r.held, p.text.size ≤ 1048576) (hsz : r.data.size ≤ 4611686018427387904) (B : Nat) (hB : B ≤ w.heap.size) : Calls Tryz.prog 166 #[.agg (ah r r_heldV).toArray, iI n] w fun e w' => XRs w w' e (α := Option Addr × Nat) (fun y => .tuple #[.agg (ah (ao r n).1 (.slice y.1 ((ao r n).1.held.length) y.2)).toArray, .string ((ao r n).2)]) (fun y => [ap B 85 2 (.slice y.1 ((ao r n).1.held.length) y.2) ((ao r n).1.held.map pC)]) := by
 obtain ⟨Arh,Crh,hvrh⟩ := hl_r_heldV.form
 rw [List.length_map] at hvrh; subst hvrh
 have hnrh := hl_r_heldV.len; rw [List.length_map] at hnrh
 have hqrh := Sl.capLe hl_r_heldV
 refine ck (args := [.agg (ah r (.slice Arh r.held.length Crh)).toArray,iI n]) (fn := Tryz.f166) [c7 (.slice Arh r.held.length Crh) 2 (r.held.map pC)] Tryz.func166 rfl Tryz.ntmps166 rfl (by simp only [List.mem_cons,List.not_mem_nil,or_false,forall_eq_or_imp,forall_eq]; exact ⟨rfl,hl_r_heldV⟩) ?_
 refine kQ <| c8 [1,2,4] ⟨[(1,aI n),(2,.p 0 0),(4,.p 1 0)],[⟨41,ah r (.slice Arh r.held.length Crh)⟩,⟨41,dl⟩],[],[c7 (.slice Arh r.held.length Crh) 2 (r.held.map pC)]⟩ <| kQ <| dh 1 [1,2,4,7] [(1,aI n),(2,.p 0 0),(4,.p 1 0),(7,.v (.agg (ah r (.slice Arh r.held.length Crh)).toArray))] 86 [.agg (ah r (.slice Arh r.held.length Crh)).toArray] (some 8) rfl (cZ fun ww hw hf => gR r (.slice Arh r.held.length Crh) ww (hf _ m0) (by assumption) w.heap.size hw) ?_
 rintro ⟨v1a,v1c⟩
 refine c8 [1,2,4,6] ⟨[(1,aI n),(2,.p 0 0),(4,.p 1 0),(6,.p 2 0)],[⟨41,ah r (.slice Arh r.held.length Crh)⟩,⟨41,dl⟩,⟨41,ah r (.slice v1a r.held.length v1c)⟩],[],[ap w.heap.size 85 2 (.slice v1a r.held.length v1c) (r.held.map pC),c7 (.slice Arh r.held.length Crh) 2 (r.held.map pC)]⟩ <| kS <| kQ <| dh 1 [1,2,4,6,9] [(1,aI n),(2,.p 0 0),(4,.p 1 0),(6,.p 2 0),(9,.v (.agg (ah r (.slice Arh r.held.length Crh)).toArray))] 65 [.agg (ah r (.slice Arh r.held.length Crh)).toArray] (some 10) rfl (aA fun ww hf => gS r (.slice Arh r.held.length Crh) ww (hf _ m1) (by assumption) (by omega)) ?_
 intro _
 refine aJ [1,2,4,6,11] [(1,aI n),(2,.p 0 0),(4,.p 1 0),(6,.p 2 0),(11,aB (!(rO r)))] <| kC (!(rO r)) (fun h2 => ?_) (fun h2 => ?_)
 have h2n := bg h2
 refine kQ <| c8 [4,5] ⟨[(4,.p 1 0),(5,.v (.string (⟨#[]⟩ : ByteArray)))],[⟨41,ah r (.slice Arh r.held.length Crh)⟩,⟨41,ah r (.slice v1a r.held.length v1c)⟩,⟨41,ah r (.slice v1a r.held.length v1c)⟩],[],[ap w.heap.size 85 2 (.slice v1a r.held.length v1c) (r.held.map pC),c7 (.slice Arh r.held.length Crh) 2 (r.held.map pC)]⟩ <| kR ?_
 have hmod : ao r n = (r,(⟨#[]⟩ : ByteArray)) := by first | rfl | (simp [ao,cut, *]; done) | grind [ao,cut]
 exact ⟨[.agg (ah r (.slice v1a r.held.length v1c)).toArray,.string (⟨#[]⟩ : ByteArray)],by kernel_rfl,fun w' hb hf ha => by rw [hmod]; exact im ((v1a,v1c)) rfl rfl (pW (hf _ m0) hB) hb⟩
 have h2n := aD h2
 refine kK <| kQ <| dh 4 [1,2,4,6,13,16] [(1,aI n),(2,.p 0 0),(4,.p 1 0),(6,.p 2 0),(13,aI n),(16,aI (r.data.size : Int))] 75 [iI n,iI (r.data.size : Int)] (some 17) rfl (bM fun ww hf => go n (r.data.size : Int) ww ) ?_
 intro _
 refine dh 0 [1,2,4,6,17] [(1,aI n),(2,.p 0 0),(4,.p 1 0),(6,.p 2 0),(17,aI (min n (r.data.size : Int)))] 76 [iI 0,iI (min n (r.data.size : Int))] (some 18) rfl (bM fun ww hf => eo 0 (min n (r.data.size : Int)) ww ) ?_
 intro _
 refine aJ [1,2,4,6] [(1,aI (max 0 (min n (r.data.size : Int)))),(2,.p 0 0),(4,.p 1 0),(6,.p 2 0)] <| kQ <| i8 3 [1,2,4,6,20,21] [(1,aI (max 0 (min n (r.data.size : Int)))),(2,.p 0 0),(4,.p 1 0),(6,.p 2 0),(20,.v (.string r.data)),(21,aI (max 0 (min n (r.data.size : Int))))] (.string (r.data.extract (max 0 (min n (r.data.size : Int))).toNat r.data.size)) rfl (fun _ _ _ ww hr => act_slSe (max 0 (min n (r.data.size : Int))) hr.1 rfl (by kernel_rfl) rfl rfl (by omega) (by omega) ww) ?_
 refine c8 [1,2,4,6] ⟨[(1,aI (max 0 (min n (r.data.size : Int)))),(2,.p 0 0),(4,.p 1 0),(6,.p 2 0)],[⟨41,ah r (.slice Arh r.held.length Crh)⟩,⟨41,dl⟩,⟨41,ah { r with data := r.data.extract (max 0 (min n (r.data.size : Int))).toNat r.data.size } (.slice v1a r.held.length v1c)⟩],[],[ap w.heap.size 85 2 (.slice v1a r.held.length v1c) (r.held.map pC),c7 (.slice Arh r.held.length Crh) 2 (r.held.map pC)]⟩ <| kS <| cm [true,false,true] (by kernel_rfl) (fun ρ σ => ?_)
 refine ca [0,1,2,3] [27,26,24,4] 3 [(27,aI (max 0 (min n (r.data.size : Int)))),(26,.v (.string r.data)),(24,.v (.agg (ah { r with data := r.data.extract (max 0 (min n (r.data.size : Int))).toNat r.data.size } (.slice v1a r.held.length v1c)).toArray)),(4,.p 1 0)] <| kX 4 (.string (r.data.extract 0 (max 0 (min n (r.data.size : Int))).toNat)) rfl (fun _ _ ww hA => act_slS0 (max 0 (min n (r.data.size : Int))) hA rfl (by kernel_rfl) rfl rfl (by omega) (by omega) ww) ?_
 refine kA [5] <| e8 5 1 0 (ah { r with data := r.data.extract (max 0 (min n (r.data.size : Int))).toNat r.data.size } (.slice v1a r.held.length v1c)) rfl <| ca [6] [5,4] 0 [(5,.v (.string (r.data.extract 0 (max 0 (min n (r.data.size : Int))).toNat))),(4,.p 1 0)] <| kZ <| kR ?_
 have hmod : ao r n = (({ r with data := r.data.extract (max 0 (min n (r.data.size : Int))).toNat r.data.size }),(r.data.extract 0 (max 0 (min n (r.data.size : Int))).toNat)) := by first | rfl | (simp [ao,cut, *]; done) | grind [ao,cut]
 exact ⟨[.agg (ah { r with data := r.data.extract (max 0 (min n (r.data.size : Int))).toNat r.data.size } (.slice v1a r.held.length v1c)).toArray,.string (r.data.extract 0 (max 0 (min n (r.data.size : Int))).toNat)],by kernel_rfl,fun w' hb hf ha => by rw [hmod]; exact im ((v1a,v1c)) rfl rfl (pW (hf _ m0) hB) hb⟩
theorem yiAcked_c (s : Snd) (ack : Int) (w : World)  : Calls Tryz.prog 69 #[.agg (ai s).toArray, iI ack] w fun e w' => e = .returned (.tuple #[.agg (ai (ae s ack).1).toArray, .bool ((ae s ack).2)]) ∧ Below w.heap.size w w' := by
 refine bH (args := [.agg (ai s).toArray,iI ack]) (fn := Tryz.f69) [] Tryz.func69 rfl Tryz.ntmps69 rfl (by simp) ?_
 refine kQ <| c8 [1,2,4] ⟨[(1,aI ack),(2,.p 0 0),(4,.p 1 0)],[⟨38,ai s⟩,⟨38,fW⟩],[],[]⟩ <| kQ <| dy 3 [2,4,9,11] [(9,aI ack),(11,aI s.una)] 30 [iI ack,iI s.una] (some 12) rfl (bM fun ww hf => iSeqDiff_c ack s.una ww ) ?_
 intro _
 refine aR [2,4,6] [(6,aI (au ack s.una))] <| kS <| kQ <| dy 1 [2,4,6,13] [(13,.v (.agg (ai s).toArray))] 59 [.agg (ai s).toArray] (some 14) rfl (aA fun ww hf => fA s.una s.data s.sent s.fin s.finSent s.done ww ) ?_
 intro _
 refine cA 2 [2,4,6,16] [(16,aB (!(aa s)))] <| kP 16 (!(aa s)) (fun h1 => ?_) (fun h1 => ?_)
 have h1n := bg h1
 refine aR [2,4,6,22] [(22,aB true)] <| kT <| kQ <| bf [4,5] [(5,aB false)] 1 ⟨38,ai s⟩ ?_
 refine kR ?_
 have hmod : ae s ack = (s,false) := by first | rfl | (simp [ae, *]; done) | (cases hfs : s.finSent <;> grind [ae])
 exact ⟨[.agg (ai s).toArray,.bool false],by kernel_rfl,fun w' hb hf => by rw [hmod]; exact ⟨rfl,hb⟩⟩
 have h1n := aD h1
 have h1nb := bt (s := s) (by simpa using h1n)
 obtain ⟨h1nb0,h1nb1,h1nb2,h1nb3,h1nb4,h1nb5,h1nb6,h1nb7,h1nb8,h1nb9,h1nb10⟩ := h1nb
 refine dy 2 [2,4,6,16,17,18] [(16,aB false),(17,aI (au ack s.una)),(18,.v (.agg (ai s).toArray))] 71 [.agg (ai s).toArray] (some 19) rfl (aA fun ww hf => gU s.una s.data s.sent s.fin s.finSent s.done ww ) ?_
 intro _
 refine dy 0 [2,4,6,16,17,19] [] 62 [iI (au ack s.una),iI 0,iI (aj s)] (some 20) rfl (bM fun ww hf => dM (au ack s.una) 0 (aj s) ww ) ?_
 intro _
 refine aR [2,4,6,22] [(22,aB (!(ci (au ack s.una) 0 (aj s))))] <| kC (!(ci (au ack s.una) 0 (aj s))) (fun h2 => ?_) (fun h2 => ?_)
 have h2n := bg h2
 have h2ni := inB_ff.1 (show ci (au ack s.una) 0 (aj s) = false from by simpa using h2n)
 refine kQ <| bf [4,5] [(5,aB false)] 1 ⟨38,ai s⟩ <| kR ?_
 have hmod : ae s ack = (s,false) := by first | rfl | (simp [ae, *]; done) | (cases hfs : s.finSent <;> grind [ae])
 exact ⟨[.agg (ai s).toArray,.bool false],by kernel_rfl,fun w' hb hf => by rw [hmod]; exact ⟨rfl,hb⟩⟩
 have h2n := aD h2
 have h2ni := inB_tt.1 (show ci (au ack s.una) 0 (aj s) = true from by simpa using h2n)
 refine kK <| kQ <| i5 [2,4,6,7] [(7,.p 2 0)] [⟨38,ai s⟩] <| kQ <| fh 4 [2,4,6,7,25,28] [(25,aI (au ack s.una)),(28,aI (s.data.size : Int))] (iI (min (au ack s.una) (s.data.size : Int))) rfl (fun _ _ _ ww hr => act_min2 (k := .i64) (k' := .i64) (p := au ack s.una) (q := (s.data.size : Int)) hr.1 rfl rfl rfl (by kernel_rfl) (by kernel_rfl) ww) ?_
 refine aR [2,4,6,7,8] [(8,aI (min (au ack s.una) (s.data.size : Int)))] <| kQ <| i8 3 [2,4,6,7,8,31,32] [(2,.p 0 0),(4,.p 1 0),(6,aI (au ack s.una)),(7,.p 2 0),(8,aI (min (au ack s.una) (s.data.size : Int))),(31,.v (.string s.data)),(32,aI (min (au ack s.una) (s.data.size : Int)))] (.string (s.data.extract (min (au ack s.una) (s.data.size : Int)).toNat s.data.size)) rfl (fun _ _ _ ww hr => act_slSe (min (au ack s.una) (s.data.size : Int)) hr.1 rfl (by kernel_rfl) rfl rfl (by omega) (by omega) ww) ?_
 refine bf [2,4,6,7,8] [] 2 ⟨38,ai { s with data := s.data.extract (min (au ack s.una) (s.data.size : Int)).toNat s.data.size }⟩ <| kQ <| dy 3 [2,4,6,7,8,36,37] [(36,aI s.una),(37,aI (au ack s.una))] 115 [iI s.una,iI (au ack s.una)] (some 38) rfl (bM fun ww hf => gc s.una (au ack s.una) ww ) ?_
 intro _
 refine bf [2,4,6,7,8] [] 2 ⟨38,ai { s with una := sA s.una (au ack s.una),data := s.data.extract (min (au ack s.una) (s.data.size : Int)).toNat s.data.size }⟩ <| kQ <| kRF 6 [2,4,6,7] ⟨[(2,.p 0 0),(4,.p 1 0),(6,aI (au ack s.una)),(7,.p 2 0)],[⟨38,ai s⟩,⟨38,fW⟩,⟨38,ai { s with una := sA s.una (au ack s.una),data := s.data.extract (min (au ack s.una) (s.data.size : Int)).toNat s.data.size,sent := K6.wrap (s.sent - (min (au ack s.una) (s.data.size : Int))) }⟩],[],[]⟩ <| gW (st' := ⟨[(2,.p 0 0),(4,.p 1 0),(6,aI (au ack s.una)),(7,.p 2 0)],[⟨38,ai s⟩,⟨38,fW⟩,⟨38,ai { s with una := sA s.una (au ack s.una),data := s.data.extract (min (au ack s.una) (s.data.size : Int)).toNat s.data.size,sent := s.sent - (min (au ack s.una) (s.data.size : Int)) }⟩],[],[]⟩) (by rw [show (K6.wrap (s.sent - (min (au ack s.una) (s.data.size : Int)))) = (s.sent - (min (au ack s.una) (s.data.size : Int))) from ab (by omega) (by omega)] <;> rfl) ?_
 refine aR [2,4,6,7] [] <| kS <| kQ <| cA 5 [4,7,49] [(49,aB ((au ack s.una) == (K6.wrap (s.sent + 1))))] ?_
 refine cJ [4,7,49] [(49,aB ((au ack s.una) == (K6.wrap (s.sent + 1))))] [(49,aB ((au ack s.una) == (s.sent + 1)))] (by rw [show (K6.wrap (s.sent + 1)) = (s.sent + 1) from ab (by omega) (by omega)]) (by kernel_rfl) ?_
 refine aR [4,7,49] [] <| kC ((au ack s.una) == (s.sent + 1)) (fun h3 => ?_) (fun h3 => ?_)
 have h3p := bC h3
 refine kQ <| bf [4,7] [] 2 ⟨38,[iI (sA s.una (au ack s.una)),.string (s.data.extract (min (au ack s.una) (s.data.size : Int)).toNat s.data.size),iI (s.sent - (min (au ack s.una) (s.data.size : Int))),.bool s.fin,.bool false,.bool s.done]⟩ <| kG <| bf [4,7] [] 2 ⟨38,[iI (sA s.una (au ack s.una)),.string (s.data.extract (min (au ack s.una) (s.data.size : Int)).toNat s.data.size),iI (s.sent - (min (au ack s.una) (s.data.size : Int))),.bool s.fin,.bool false,.bool true]⟩ ?_
 refine kQ <| bf [4,5] [(5,aB true)] 1 ⟨38,[iI (sA s.una (au ack s.una)),.string (s.data.extract (min (au ack s.una) (s.data.size : Int)).toNat s.data.size),iI (s.sent - (min (au ack s.una) (s.data.size : Int))),.bool s.fin,.bool false,.bool true]⟩ <| kR ?_
 have hmod : ae s ack = ((⟨sA s.una (au ack s.una),s.data.extract (min (au ack s.una) (s.data.size : Int)).toNat s.data.size,s.sent - (min (au ack s.una) (s.data.size : Int)),s.fin,false,true⟩),true) := by first | rfl | (simp [ae, *]; done) | (cases hfs : s.finSent <;> grind [ae])
 exact ⟨[.agg #[iI (sA s.una (au ack s.una)),.string (s.data.extract (min (au ack s.una) (s.data.size : Int)).toNat s.data.size),iI (s.sent - (min (au ack s.una) (s.data.size : Int))),.bool s.fin,.bool false,.bool true],.bool true],by kernel_rfl,fun w' hb hf => by rw [hmod]; exact ⟨rfl,hb⟩⟩
 have h3p := bA h3
 refine kK <| kQ <| bf [4,5] [(5,aB true)] 1 ⟨38,ai { s with una := sA s.una (au ack s.una),data := s.data.extract (min (au ack s.una) (s.data.size : Int)).toNat s.data.size,sent := s.sent - (min (au ack s.una) (s.data.size : Int)) }⟩ <| kR ?_
 have hmod : ae s ack = (({ s with una := sA s.una (au ack s.una),data := s.data.extract (min (au ack s.una) (s.data.size : Int)).toNat s.data.size,sent := s.sent - (min (au ack s.una) (s.data.size : Int)) }),true) := by first | rfl | (simp [ae, *]; done) | (cases hfs : s.finSent <;> grind [ae])
 exact ⟨[.agg (ai { s with una := sA s.una (au ack s.una),data := s.data.extract (min (au ack s.una) (s.data.size : Int)).toNat s.data.size,sent := s.sent - (min (au ack s.una) (s.data.size : Int)) }).toArray,.bool true],by kernel_rfl,fun w' hb hf => by rw [hmod]; exact ⟨rfl,hb⟩⟩
theorem yl21State_c (c : Con) (rV : Value) (w : World) (hZ : Sl w rV 2 (c.r.held.map pC))  : Calls Tryz.prog 125 #[.agg (a7 c rV).toArray] w fun e w' => e = .returned (iI (tS c)) ∧ Below w.heap.size w w' := by
 obtain ⟨Z,Y,hY⟩ := hZ.form
 rw [List.length_map] at hY; subst hY
 have hJ := hZ.len; rw [List.length_map] at hJ
 have hqcrh := Sl.capLe hZ
 refine bH (args := [.agg (a7 c (cS Z c Y)).toArray]) (fn := Tryz.f125) [cH Z c Y] Tryz.func125 rfl Tryz.ntmps125 rfl (by simp only [List.mem_cons,List.not_mem_nil,or_false,forall_eq_or_imp,forall_eq]; exact ⟨rfl,hZ⟩) ?_
 refine kQ <| c8 [1] ⟨[(1,.p 0 0)],[⟨44,a7 c (cS Z c Y)⟩],[],[cH Z c Y]⟩ <| kS <| kQ <| aJ [1,4] [(1,.p 0 0),(4,aI c.state)] ?_
 refine aZ <| kQ <| aJ [1,4,5] [(1,.p 0 0),(4,aI c.state),(5,aB (c.state == 1))] <| kC (c.state == 1) (fun h1 => ?_) (fun h1 => ?_)
 have h1p := bC h1
 refine kQ <| aJ [1,9] [(1,.p 0 0),(9,aB c.r.done)] <| kC (c.r.done) (fun h2 => ?_) (fun h2 => ?_)
 refine kQ <| aJ [2] [(2,aI 4)] <| kR ?_
 have hmod : tS c = 4 := by first | rfl | (simp [tS, *]; done) | grind [tS]
 exact ⟨[iI 4],by kernel_rfl,fun w' hb hf => by rw [hmod]; exact ⟨rfl,hb⟩⟩
 refine kK <| kQ <| aJ [2] [(2,aI c.state)] <| kR ?_
 have hmod : tS c = c.state := by first | rfl | (simp [tS, *]; done) | grind [tS]
 exact ⟨[iI c.state],by kernel_rfl,fun w' hb hf => by rw [hmod]; exact ⟨rfl,hb⟩⟩
 have h1p := bA h1
 refine kQ <| aJ [1,4,10] [(1,.p 0 0),(4,aI c.state),(10,aB (c.state == 2))] <| kC (c.state == 2) (fun h3 => ?_) (fun h3 => ?_)
 have h3p := bC h3
 refine aZ <| kS <| bo ⟨[(1,.p 0 0),(12,aB (c.s.done && c.r.done))],[⟨44,a7 c (cS Z c Y)⟩],[],[cH Z c Y]⟩ ?_ ?_
 refine kG <| cR 4 [1,16] [(1,.p 0 0),(16,aB c.s.done)] <| kP 16 (c.s.done) (fun h4 => ?_) (fun h4 => ?_)
 refine aJ [1,12] [(1,.p 0 0),(12,aB c.r.done)] ?_
 show Wk _ _
 try rw [h4]
 exact kF 1 0 [1,12]
 refine aJ [1,12] [(1,.p 0 0),(12,aB false)] ?_
 show Wk _ _
 try rw [h4]
 exact kF 1 0 [1,12]
 refine kC (c.s.done && c.r.done) (fun h5 => ?_) (fun h5 => ?_)
 have h5l := gA h5
 have h5r := gG h5
 refine kQ <| aJ [2] [(2,aI 7)] <| kR ?_
 have hmod : tS c = 7 := by first | rfl | (simp [tS, *]; done) | grind [tS]
 exact ⟨[iI 7],by kernel_rfl,fun w' hb hf => by rw [hmod]; exact ⟨rfl,hb⟩⟩
 refine kQ <| aJ [1,21] [(1,.p 0 0),(21,aB c.s.done)] <| kC (c.s.done) (fun h6 => ?_) (fun h6 => ?_)
 refine kQ <| aJ [2] [(2,aI 3)] <| kR ?_
 have hmod : tS c = 3 := by first | rfl | (simp [tS, *]; done) | grind [tS]
 exact ⟨[iI 3],by kernel_rfl,fun w' hb hf => by rw [hmod]; exact ⟨rfl,hb⟩⟩
 refine kQ <| aJ [1,25] [(1,.p 0 0),(25,aB c.r.done)] <| kC (c.r.done) (fun h7 => ?_) (fun h7 => ?_)
 refine kQ <| aJ [2] [(2,aI 5)] <| kR ?_
 have hmod : tS c = 5 := by first | rfl | (simp [tS, *]; done) | grind [tS]
 exact ⟨[iI 5],by kernel_rfl,fun w' hb hf => by rw [hmod]; exact ⟨rfl,hb⟩⟩
 refine kK <| kQ <| aJ [2] [(2,aI c.state)] <| kR ?_
 have hmod : tS c = c.state := by first | rfl | (simp [tS, *]; done) | grind [tS]
 exact ⟨[iI c.state],by kernel_rfl,fun w' hb hf => by rw [hmod]; exact ⟨rfl,hb⟩⟩
 have h3p := bA h3
 refine kQ <| aJ [1,4,29] [(1,.p 0 0),(4,aI c.state),(29,aB (c.state == 3))] <| kC (c.state == 3) (fun h8 => ?_) (fun h8 => ?_)
 have h8p := bC h8
 refine kQ <| aJ [1,33] [(1,.p 0 0),(33,aB c.r.done)] <| kC (c.r.done) (fun h9 => ?_) (fun h9 => ?_)
 refine kQ <| aJ [2] [(2,aI 7)] <| kR ?_
 have hmod : tS c = 7 := by first | rfl | (simp [tS, *]; done) | grind [tS]
 exact ⟨[iI 7],by kernel_rfl,fun w' hb hf => by rw [hmod]; exact ⟨rfl,hb⟩⟩
 refine kK <| kQ <| aJ [2] [(2,aI c.state)] <| kR ?_
 have hmod : tS c = c.state := by first | rfl | (simp [tS, *]; done) | grind [tS]
 exact ⟨[iI c.state],by kernel_rfl,fun w' hb hf => by rw [hmod]; exact ⟨rfl,hb⟩⟩
 have h8p := bA h8
 refine kQ <| aJ [1,4,34] [(1,.p 0 0),(4,aI c.state),(34,aB (c.state == 5))] <| kC (c.state == 5) (fun h10 => ?_) (fun h10 => ?_)
 have h10p := bC h10
 refine kQ <| aJ [1,38] [(1,.p 0 0),(38,aB c.s.done)] <| kC (c.s.done) (fun h11 => ?_) (fun h11 => ?_)
 refine kQ <| aJ [2] [(2,aI 7)] <| kR ?_
 have hmod : tS c = 7 := by first | rfl | (simp [tS, *]; done) | grind [tS]
 exact ⟨[iI 7],by kernel_rfl,fun w' hb hf => by rw [hmod]; exact ⟨rfl,hb⟩⟩
 refine kK <| kQ <| aJ [2] [(2,aI c.state)] <| kR ?_
 have hmod : tS c = c.state := by first | rfl | (simp [tS, *]; done) | grind [tS]
 exact ⟨[iI c.state],by kernel_rfl,fun w' hb hf => by rw [hmod]; exact ⟨rfl,hb⟩⟩
 have h10p := bA h10
 refine kQ <| aJ [1,39] [(1,.p 0 0),(39,aB (c.state == 6))] <| kC (c.state == 6) (fun h12 => ?_) (fun h12 => ?_)
 have h12p := bC h12
 refine kQ <| aJ [1,43] [(1,.p 0 0),(43,aB c.s.done)] <| kC (c.s.done) (fun h13 => ?_) (fun h13 => ?_)
 refine kQ <| aJ [2] [(2,aI 8)] <| kR ?_
 have hmod : tS c = 8 := by first | rfl | (simp [tS, *]; done) | grind [tS]
 exact ⟨[iI 8],by kernel_rfl,fun w' hb hf => by rw [hmod]; exact ⟨rfl,hb⟩⟩
 refine kK <| kQ <| aJ [2] [(2,aI c.state)] <| kR ?_
 have hmod : tS c = c.state := by first | rfl | (simp [tS, *]; done) | grind [tS]
 exact ⟨[iI c.state],by kernel_rfl,fun w' hb hf => by rw [hmod]; exact ⟨rfl,hb⟩⟩
 have h12p := bA h12
 refine kK <| kQ <| aJ [2] [(2,aI c.state)] <| kR ?_
 have hmod : tS c = c.state := by first | rfl | (simp [tS, *]; done) | grind [tS]
 exact ⟨[iI c.state],by kernel_rfl,fun w' hb hf => by rw [hmod]; exact ⟨rfl,hb⟩⟩
theorem ysTurned_c (c : Con) (rV : Value) (w : World) (hZ : Sl w rV 2 (c.r.held.map pC)) (hkn : c.r.held.length ≤ 1048576)(hm : ∀ p ∈ c.r.held, p.text.size ≤ 1048576) (hsz : c.r.data.size ≤ 4611686018427387904) (B : Nat) (hB : B ≤ w.heap.size) : Calls Tryz.prog 79 #[.agg (a7 c rV).toArray] w fun e w' => XRs w w' e (α := Option Addr × Nat) (fun y => .agg (a7 (aE c) (.slice y.1 ((aE c).r.held.length) y.2)).toArray) (fun y => [aF B (.slice y.1 ((aE c).r.held.length) y.2) 2 ((aE c).r.held.map pC)]) := by
 obtain ⟨Z,Y,hY⟩ := hZ.form
 rw [List.length_map] at hY; subst hY
 have hJ := hZ.len; rw [List.length_map] at hJ
 have hqcrh := Sl.capLe hZ
 have ht : aW { c with state := tS c,timer := 0 } = (aW { c with state := tS c,timer := 0,tries := 0 } && ci c.tries 0 3) := conOk_tries _
 refine ck (args := [.agg (a7 c (cS Z c Y)).toArray]) (fn := Tryz.f79) [cH Z c Y] Tryz.func79 rfl Tryz.ntmps79 rfl (by simp only [List.mem_cons,List.not_mem_nil,or_false,forall_eq_or_imp,forall_eq]; exact ⟨rfl,hZ⟩) ?_
 refine kQ <| c8 [1,2] ⟨[(1,.p 0 0),(2,.p 1 0)],[⟨44,a7 c (cS Z c Y)⟩,⟨44,bN⟩],[],[cH Z c Y]⟩ <| kQ <| dh 1 [1,2,4] [(1,.p 0 0),(2,.p 1 0),(4,.v (.agg (a7 c (cS Z c Y)).toArray))] 33 [.agg (a7 c (cS Z c Y)).toArray] (some 5) rfl (cZ fun ww hw hf => eu c (cS Z c Y) ww (hf _ m0) (by assumption) w.heap.size hw) ?_
 rintro ⟨v1a,v1c⟩
 refine c8 [1,2,3] ⟨[(1,.p 0 0),(2,.p 1 0),(3,.p 2 0)],[⟨44,a7 c (cS Z c Y)⟩,⟨44,bN⟩,⟨44,a7 c (cS v1a c v1c)⟩],[],[aF w.heap.size (cS v1a c v1c) 2 (c.r.held.map pC),cH Z c Y]⟩ <| kQ <| dh 1 [1,2,3,6] [(1,.p 0 0),(2,.p 1 0),(3,.p 2 0),(6,.v (.agg (a7 c (cS Z c Y)).toArray))] 125 [.agg (a7 c (cS Z c Y)).toArray] (some 7) rfl (aA fun ww hf => yl21State_c c (cS Z c Y) ww (hf _ m1) ) ?_
 intro _
 refine c8 [1,2,3] ⟨[(1,.p 0 0),(2,.p 1 0),(3,.p 2 0)],[⟨44,a7 c (cS Z c Y)⟩,⟨44,bN⟩,⟨44,a7 { c with state := (tS c) } (cS v1a c v1c)⟩],[],[aF w.heap.size (cS v1a c v1c) 2 (c.r.held.map pC),cH Z c Y]⟩ <| kS <| kS <| bo ⟨[(1,.p 0 0),(2,.p 1 0),(3,.p 2 0),(37,aB ((!(aW ({ c with state := (tS c),timer := 0,tries := 0 }))) || ((!(ci c.timer 0 4)) || (!(ci c.tries 0 3)))))],[⟨44,a7 c (cS Z c Y)⟩,⟨44,bN⟩,⟨44,a7 { c with state := (tS c) } (cS v1a c v1c)⟩],[],[aF w.heap.size (cS v1a c v1c) 2 (c.r.held.map pC),cH Z c Y]⟩ ?_ ?_
 refine kG <| i8 14 [1,2,3,10,12,14,16,18,20,22] [(1,.p 0 0),(2,.p 1 0),(3,.p 2 0),(10,.v (.agg (dI c.t).toArray)),(12,aI (tS c)),(14,.v (.agg (ai c.s).toArray)),(16,.v (.agg (ah c.r (cS Z c Y)).toArray)),(18,aI c.window),(20,aI c.most),(22,.v (.agg (df c.o).toArray))] (.agg (a7 { c with state := (tS c),timer := 0,tries := 0 } (cS Z c Y)).toArray) rfl (fun _ _ _ ww hr => aN [(0,.agg (dI c.t).toArray),(1,iI (tS c)),(2,.agg (ai c.s).toArray),(3,.agg (ah c.r (cS Z c Y)).toArray),(4,iI c.window),(5,iI c.most),(6,.agg (df c.o).toArray)] hr.1 rfl (by kernel_rfl) (by kernel_rfl) ww) ?_
 refine dh 0 [1,2,3,23] [(1,.p 0 0),(2,.p 1 0),(3,.p 2 0),(23,.v (.agg (a7 { c with state := (tS c),timer := 0,tries := 0 } (cS Z c Y)).toArray))] 25 [.agg (a7 { c with state := (tS c),timer := 0,tries := 0 } (cS Z c Y)).toArray] (some 24) rfl (aA fun ww hf => es ({ c with state := (tS c),timer := 0,tries := 0 }) (cS Z c Y) ww (hf _ m1) (by assumption) (by omega)) ?_
 intro _
 refine cR 2 [1,2,3,26] [(1,.p 0 0),(2,.p 1 0),(3,.p 2 0),(26,aB (!(aW ({ c with state := (tS c),timer := 0,tries := 0 }))))] <| kP 26 (!(aW ({ c with state := (tS c),timer := 0,tries := 0 }))) (fun h2 => ?_) (fun h2 => ?_)
 have h2n := bg h2
 refine aJ [1,2,3,37] [(1,.p 0 0),(2,.p 1 0),(3,.p 2 0),(37,aB true)] ?_
 show Wk _ _
 try rw [h2]
 exact kF 3 0 [1,2,3,37]
 have h2n := aD h2
 refine dh 2 [1,2,3,26,28] [(1,.p 0 0),(2,.p 1 0),(3,.p 2 0),(26,aB false),(28,aI c.timer)] 67 [iI c.timer,iI 0,iI 4] (some 29) rfl (bM fun ww hf => f0 c.timer 0 4 ww ) ?_
 intro _
 refine cR 3 [1,2,3,32] [(1,.p 0 0),(2,.p 1 0),(3,.p 2 0),(32,aB (!(ci c.timer 0 4)))] <| kP 32 (!(ci c.timer 0 4)) (fun h3 => ?_) (fun h3 => ?_)
 have h3n := bg h3
 have h3ni := inB_ff.1 (show ci c.timer 0 4 = false from by simpa using h3n)
 refine aJ [1,2,3,37] [(1,.p 0 0),(2,.p 1 0),(3,.p 2 0),(37,aB true)] ?_
 show Wk _ _
 try rw [h2]
 try rw [h3]
 exact kF 3 0 [1,2,3,37]
 have h3n := aD h3
 have h3ni := inB_tt.1 (show ci c.timer 0 4 = true from by simpa using h3n)
 refine dh 2 [1,2,3,32,34] [(1,.p 0 0),(2,.p 1 0),(3,.p 2 0),(32,aB false),(34,aI c.tries)] 67 [iI c.tries,iI 0,iI 3] (some 35) rfl (bM fun ww hf => f0 c.tries 0 3 ww ) ?_
 intro _
 refine aJ [1,2,3,37] [(1,.p 0 0),(2,.p 1 0),(3,.p 2 0),(37,aB (!(ci c.tries 0 3)))] ?_
 show Wk _ _
 try rw [h2]
 try rw [h3]
 exact kF 3 0 [1,2,3,37]
 refine kC ((!(aW ({ c with state := (tS c),timer := 0,tries := 0 }))) || ((!(ci c.timer 0 4)) || (!(ci c.tries 0 3)))) (fun h4 => ?_) (fun h4 => ?_)
 refine kQ <| dh 1 [2,38] [(2,.p 1 0),(38,.v (.agg (a7 c (cS Z c Y)).toArray))] 33 [.agg (a7 c (cS Z c Y)).toArray] (some 39) rfl (cZ fun ww hw hf => eu c (cS Z c Y) ww (hf _ m1) (by assumption) w.heap.size hw) ?_
 rintro ⟨v5a,v5c⟩
 refine c8 [2] ⟨[(2,.p 1 0)],[⟨44,a7 c (cS Z c Y)⟩,⟨44,a7 c (cS v5a c v5c)⟩,⟨44,a7 { c with state := (tS c) } (cS v1a c v1c)⟩],[],[aF w.heap.size (cS v5a c v5c) 2 (c.r.held.map pC),aF w.heap.size (cS v1a c v1c) 2 (c.r.held.map pC),cH Z c Y]⟩ <| kR ?_
 have hmod : aE c = c := by first | rfl | (simp [aE, *]; done) | grind [aE] | grind [aE,tS] | (unfold aE; rw [← hkk,if_neg hkn]; grind)
 exact ⟨[.agg (a7 c (cS v5a c v5c)).toArray],by kernel_rfl,fun w' hb hf ha => by rw [hmod]; exact im ((v5a,v5c)) rfl rfl (pO (hf _ m0) hB) hb⟩
 have h4l := eA h4
 have h4ln := aD h4l
 have h4r := f6 h4
 have h4rl := eA h4r
 have h4rln := aD h4rl
 have h4rlni := inB_tt.1 (show ci c.timer 0 4 = true from by simpa using h4rln)
 have h4rr := f6 h4r
 have h4rrn := aD h4rr
 have h4rrni := inB_tt.1 (show ci c.tries 0 3 = true from by simpa using h4rrn)
 refine kK <| kS <| kQ <| aJ [2,3,44] [(2,.p 1 0),(3,.p 2 0),(44,aB ((tS c) == c.state))] ?_
 refine kC ((tS c) == c.state) (fun h6 => ?_) (fun h6 => ?_)
 have h6p := bC h6
 refine kQ <| c8 [2] ⟨[(2,.p 1 0)],[⟨44,a7 c (cS Z c Y)⟩,⟨44,a7 { c with state := (tS c) } (cS v1a c v1c)⟩,⟨44,a7 { c with state := (tS c) } (cS v1a c v1c)⟩],[],[aF w.heap.size (cS v1a c v1c) 2 (c.r.held.map pC),cH Z c Y]⟩ <| kR ?_
 have hmod : aE c = ({ c with state := (tS c) }) := by first | rfl | (simp [aE, *]; done) | grind [aE] | grind [aE,tS] | (unfold aE; rw [← hkk,if_neg hkn]; grind)
 exact ⟨[.agg (a7 { c with state := (tS c) } (cS v1a c v1c)).toArray],by kernel_rfl,fun w' hb hf ha => by rw [hmod]; exact im ((v1a,v1c)) rfl rfl (pO (hf _ m0) hB) hb⟩
 have h6p := bA h6
 refine kK <| kS <| kQ <| aJ [2,3,48] [(2,.p 1 0),(3,.p 2 0),(48,aB ((tS c) == 7))] ?_
 refine bo ⟨[(2,.p 1 0),(3,.p 2 0)],[⟨44,a7 c (cS Z c Y)⟩,⟨44,bN⟩,⟨44,a7 { c with state := (tS c),timer := if ((tS c) == 7) = true then 4 else c.timer,tries := if ((tS c) == 7) = true then 0 else c.tries } (cS v1a c v1c)⟩],[],[aF w.heap.size (cS v1a c v1c) 2 (c.r.held.map pC),cH Z c Y]⟩ ?_ ?_
 refine kC ((tS c) == 7) (fun h7 => ?_) (fun h7 => ?_)
 have h7p := bC h7
 refine kQ <| c8 [2,3] ⟨[(2,.p 1 0),(3,.p 2 0)],[⟨44,a7 c (cS Z c Y)⟩,⟨44,bN⟩,⟨44,a7 { c with state := (tS c),timer := 4 } (cS v1a c v1c)⟩],[],[aF w.heap.size (cS v1a c v1c) 2 (c.r.held.map pC),cH Z c Y]⟩ <| kG <| c8 [2,3] ⟨[(2,.p 1 0),(3,.p 2 0)],[⟨44,a7 c (cS Z c Y)⟩,⟨44,bN⟩,⟨44,a7 { c with state := (tS c),timer := 4,tries := 0 } (cS v1a c v1c)⟩],[],[aF w.heap.size (cS v1a c v1c) 2 (c.r.held.map pC),cH Z c Y]⟩ ?_
 show Wk _ _; rw [h7]; exact kF 3 0 [2,3]
 have h7p := bA h7
 refine kK ?_
 show Wk _ _; rw [h7]; exact kF 3 0 [2,3]
 refine kS <| kQ <| aJ [2,3,53] [(2,.p 1 0),(3,.p 2 0),(53,aB ((tS c) == 8))] <| bo ⟨[(2,.p 1 0),(3,.p 2 0)],[⟨44,a7 c (cS Z c Y)⟩,⟨44,bN⟩,⟨44,a7 { c with state := (tS c),timer := if ((tS c) == 8) = true then 0 else if ((tS c) == 7) = true then 4 else c.timer,tries := if ((tS c) == 8) = true then 0 else if ((tS c) == 7) = true then 0 else c.tries } (cS v1a c v1c)⟩],[],[aF w.heap.size (cS v1a c v1c) 2 (c.r.held.map pC),cH Z c Y]⟩ ?_ ?_
 refine kC ((tS c) == 8) (fun h8 => ?_) (fun h8 => ?_)
 have h8p := bC h8
 refine kQ <| c8 [2,3] ⟨[(2,.p 1 0),(3,.p 2 0)],[⟨44,a7 c (cS Z c Y)⟩,⟨44,bN⟩,⟨44,a7 { c with state := (tS c),timer := 0,tries := if ((tS c) == 7) = true then 0 else c.tries } (cS v1a c v1c)⟩],[],[aF w.heap.size (cS v1a c v1c) 2 (c.r.held.map pC),cH Z c Y]⟩ <| kG <| c8 [2,3] ⟨[(2,.p 1 0),(3,.p 2 0)],[⟨44,a7 c (cS Z c Y)⟩,⟨44,bN⟩,⟨44,a7 { c with state := (tS c),timer := 0,tries := 0 } (cS v1a c v1c)⟩],[],[aF w.heap.size (cS v1a c v1c) 2 (c.r.held.map pC),cH Z c Y]⟩ ?_
 show Wk _ _; rw [h8]; exact kF 3 0 [2,3]
 have h8p := bA h8
 refine kK ?_
 show Wk _ _; rw [h8]; exact kF 3 0 [2,3]
 refine kQ <| c8 [2] ⟨[(2,.p 1 0)],[⟨44,a7 c (cS Z c Y)⟩,⟨44,a7 { c with state := (tS c),timer := if ((tS c) == 8) = true then 0 else if ((tS c) == 7) = true then 4 else c.timer,tries := if ((tS c) == 8) = true then 0 else if ((tS c) == 7) = true then 0 else c.tries } (cS v1a c v1c)⟩,⟨44,a7 { c with state := (tS c),timer := if ((tS c) == 8) = true then 0 else if ((tS c) == 7) = true then 4 else c.timer,tries := if ((tS c) == 8) = true then 0 else if ((tS c) == 7) = true then 0 else c.tries } (cS v1a c v1c)⟩],[],[aF w.heap.size (cS v1a c v1c) 2 (c.r.held.map pC),cH Z c Y]⟩ <| kR ?_
 have hmod : aE c = ({ c with state := (tS c),timer := if ((tS c) == 8) = true then 0 else if ((tS c) == 7) = true then 4 else c.timer,tries := if ((tS c) == 8) = true then 0 else if ((tS c) == 7) = true then 0 else c.tries }) := by first | rfl | (simp [aE, *]; done) | grind [aE] | grind [aE,tS] | (unfold aE; rw [← hkk,if_neg hkn]; grind)
 exact ⟨[.agg (a7 { c with state := (tS c),timer := if ((tS c) == 8) = true then 0 else if ((tS c) == 7) = true then 4 else c.timer,tries := if ((tS c) == 8) = true then 0 else if ((tS c) == 7) = true then 0 else c.tries } (cS v1a c v1c)).toArray],by kernel_rfl,fun w' hb hf ha => by rw [hmod]; exact im ((v1a,v1c)) rfl rfl (pO (hf _ m0) hB) hb⟩
theorem ysReadConn_c (c : Con) (rV : Value) (n : Int) (w : World) (hZ : Sl w rV 2 (c.r.held.map pC)) (hkn : c.r.held.length ≤ 1048576)(hm : ∀ p ∈ c.r.held, p.text.size ≤ 1048576) (hsz : c.r.data.size ≤ 4611686018427387904) (B : Nat) (hB : B ≤ w.heap.size) : Calls Tryz.prog 154 #[.agg (a7 c rV).toArray, iI n] w fun e w' => XRs w w' e (α := (Option Addr × Nat) × (Option Addr × Nat)) (fun y => .tuple #[.agg (a7 (bW c n).1 (.slice y.1.1 ((bW c n).1.r.held.length) y.1.2)).toArray, .string ((bW c n).2.1), .slice y.2.1 ((bW c n).2.2.length) y.2.2]) (fun y => [aF B (.slice y.1.1 ((bW c n).1.r.held.length) y.1.2) 2 ((bW c n).1.r.held.map pC), aF B (.slice y.2.1 ((bW c n).2.2.length) y.2.2) 13 ((bW c n).2.2.map ak)]) := by
 obtain ⟨Z,Y,hY⟩ := hZ.form
 rw [List.length_map] at hY; subst hY
 have hJ := hZ.len; rw [List.length_map] at hJ
 have hqcrh := Sl.capLe hZ
 have hwb := da (ao c.r n).1
 refine ck (args := [.agg (a7 c (cS Z c Y)).toArray,iI n]) (fn := Tryz.f154) [cH Z c Y] Tryz.func154 rfl Tryz.ntmps154 rfl (by simp only [List.mem_cons,List.not_mem_nil,or_false,forall_eq_or_imp,forall_eq]; exact ⟨rfl,hZ⟩) ?_
 refine kQ <| c8 [1,2,4] ⟨[(1,aI n),(2,.p 0 0),(4,.p 1 0)],[⟨44,a7 c (cS Z c Y)⟩,⟨44,bN⟩],[],[cH Z c Y]⟩ <| kQ <| dh 1 [1,2,4,11] [(1,aI n),(2,.p 0 0),(4,.p 1 0),(11,.v (.agg (a7 c (cS Z c Y)).toArray))] 33 [.agg (a7 c (cS Z c Y)).toArray] (some 12) rfl (cZ fun ww hw hf => eu c (cS Z c Y) ww (hf _ m0) (by assumption) w.heap.size hw) ?_
 rintro ⟨v1a,v1c⟩
 refine c8 [1,2,4,7] ⟨[(1,aI n),(2,.p 0 0),(4,.p 1 0),(7,.p 2 0)],[⟨44,a7 c (cS Z c Y)⟩,⟨44,bN⟩,⟨44,a7 c (cS v1a c v1c)⟩],[],[aF w.heap.size (cS v1a c v1c) 2 (c.r.held.map pC),cH Z c Y]⟩ <| kQ <| kHS 0 [1,2,4,7] [(1,aI n),(2,.p 0 0),(4,.p 1 0),(7,.p 2 0)] rfl (bi (e := 50) (K := 13) (bytes := 104) [] (rs := ([] : List Seg).map ak) rfl rfl) ?_
 intro g2
 refine aJ [1,2,4,7,8] [(1,aI n),(2,.p 0 0),(4,.p 1 0),(7,.p 2 0),(8,.v (.slice (some ⟨g2,0,none⟩) 0 0))] <| kS <| kQ <| dh 1 [1,2,4,7,8,14] [(1,aI n),(2,.p 0 0),(4,.p 1 0),(7,.p 2 0),(8,.v (.slice (some ⟨g2,0,none⟩) 0 0)),(14,.v (.agg (a7 c (cS Z c Y)).toArray))] 25 [.agg (a7 c (cS Z c Y)).toArray] (some 15) rfl (aA fun ww hf => es c (cS Z c Y) ww (hf _ m2) (by assumption) (by omega)) ?_
 intro _
 refine aJ [1,2,4,7,8,16] [(1,aI n),(2,.p 0 0),(4,.p 1 0),(7,.p 2 0),(8,.v (.slice (some ⟨g2,0,none⟩) 0 0)),(16,aB (!(aW c)))] <| kC (!(aW c)) (fun h3 => ?_) (fun h3 => ?_)
 have h3n := bg h3
 refine kQ <| c8 [4,5,6] ⟨[(4,.p 1 0),(5,.v (.string (⟨#[]⟩ : ByteArray))),(6,.v (.slice (some ⟨g2,0,none⟩) 0 0))],[⟨44,a7 c (cS Z c Y)⟩,⟨44,a7 c (cS v1a c v1c)⟩,⟨44,a7 c (cS v1a c v1c)⟩],[],[ap w.heap.size 50 13 (.slice (some ⟨g2,0,none⟩) 0 0) (([] : List Seg).map ak),aF w.heap.size (cS v1a c v1c) 2 (c.r.held.map pC),cH Z c Y]⟩ <| kR ?_
 have hmod : bW c n = (c,(⟨#[]⟩ : ByteArray),([] : List Seg)) := by first | rfl | (simp [bW,bZ, *]; done) | grind [bW,bZ]
 exact ⟨[.agg (a7 c (cS v1a c v1c)).toArray,.string (⟨#[]⟩ : ByteArray),.slice (some ⟨g2,0,none⟩) 0 0],by kernel_rfl,fun w' hb hf ha => by rw [hmod]; exact gu ((v1a,v1c),(((some ⟨g2,0,none⟩) : Option Addr),0)) rfl rfl (pO (hf _ m1) hB) (pR (hf _ m0) hB) (Apart.sub2 ha (i := 1) (j := 0) rfl rfl (by decide) rfl (fun b h => h) (fun b h => bX h)) hb⟩
 have h3n := aD h3
 refine kK <| kQ <| dh 3 [2,4,7,8,21,22] [(2,.p 0 0),(4,.p 1 0),(7,.p 2 0),(8,.v (.slice (some ⟨g2,0,none⟩) 0 0)),(21,.v (.agg (ah c.r (cS Z c Y)).toArray)),(22,aI n)] 166 [.agg (ah c.r (cS Z c Y)).toArray,iI n] (some 23) rfl (cZ fun ww hw hf => ysTakenIn_c c.r (cS Z c Y) n ww (hf _ m2) (by assumption) (by assumption) (by omega) w.heap.size hw) ?_
 rintro ⟨v4a,v4c⟩
 have htk5 : (ao c.r n).1.data.size ≤ _ := takenIn_sz _ _
 refine c8 [2,4,7,8,9,10] ⟨[(2,.p 0 0),(4,.p 1 0),(7,.p 2 0),(8,.v (.slice (some ⟨g2,0,none⟩) 0 0)),(9,.p 3 0),(10,.v (.string ((ao c.r n).2)))],[⟨44,a7 c (cS Z c Y)⟩,⟨44,bN⟩,⟨44,a7 c (cS v1a c v1c)⟩,⟨41,ah (ao c.r n).1 (.slice v4a ((ao c.r n).1.held.length) v4c)⟩],[],[ap w.heap.size 85 2 (.slice v4a ((ao c.r n).1.held.length) v4c) ((ao c.r n).1.held.map pC),ap w.heap.size 50 13 (.slice (some ⟨g2,0,none⟩) 0 0) (([] : List Seg).map ak),aF w.heap.size (cS v1a c v1c) 2 (c.r.held.map pC),cH Z c Y]⟩ <| kQ <| c8 [2,4,7,8,9,10] ⟨[(2,.p 0 0),(4,.p 1 0),(7,.p 2 0),(8,.v (.slice (some ⟨g2,0,none⟩) 0 0)),(9,.p 3 0),(10,.v (.string ((ao c.r n).2)))],[⟨44,a7 c (cS Z c Y)⟩,⟨44,bN⟩,⟨44,a7 { c with r := (ao c.r n).1 } (.slice v4a ((ao c.r n).1.held.length) v4c)⟩,⟨41,ah (ao c.r n).1 (.slice v4a ((ao c.r n).1.held.length) v4c)⟩],[],[ap w.heap.size 85 2 (.slice v4a ((ao c.r n).1.held.length) v4c) ((ao c.r n).1.held.map pC),ap w.heap.size 50 13 (.slice (some ⟨g2,0,none⟩) 0 0) (([] : List Seg).map ak),aF w.heap.size (cS v1a c v1c) 2 (c.r.held.map pC),cH Z c Y]⟩ <| kS <| kS <| bo ⟨[(4,.p 1 0),(7,.p 2 0),(8,.v (.slice (some ⟨g2,0,none⟩) 0 0)),(10,.v (.string ((ao c.r n).2))),(46,aB (((wO c.r) == 0) && ((decide ((wO ((ao c.r n).1)) > 0)) && ((c.state != 8) && (c.state != 7)))))],[⟨44,a7 c (cS Z c Y)⟩,⟨44,bN⟩,⟨44,a7 { c with r := (ao c.r n).1 } (.slice v4a ((ao c.r n).1.held.length) v4c)⟩,⟨41,ah (ao c.r n).1 (.slice v4a ((ao c.r n).1.held.length) v4c)⟩],[],[ap w.heap.size 85 2 (.slice v4a ((ao c.r n).1.held.length) v4c) ((ao c.r n).1.held.map pC),ap w.heap.size 50 13 (.slice (some ⟨g2,0,none⟩) 0 0) (([] : List Seg).map ak),aF w.heap.size (cS v1a c v1c) 2 (c.r.held.map pC),cH Z c Y]⟩ ?_ ?_
 refine kG <| dh 2 [2,4,7,8,9,10,29] [(2,.p 0 0),(4,.p 1 0),(7,.p 2 0),(8,.v (.slice (some ⟨g2,0,none⟩) 0 0)),(9,.p 3 0),(10,.v (.string ((ao c.r n).2))),(29,.v (.agg (ah c.r (cS Z c Y)).toArray))] 82 [.agg (ah c.r (cS Z c Y)).toArray] (some 30) rfl (aA fun ww hf => eY c.r.next c.r.data c.r.held (cS Z c Y) c.r.fin c.r.done ww (by omega)) ?_
 intro _
 refine cR 2 [2,4,7,8,9,10,32] [(2,.p 0 0),(4,.p 1 0),(7,.p 2 0),(8,.v (.slice (some ⟨g2,0,none⟩) 0 0)),(9,.p 3 0),(10,.v (.string ((ao c.r n).2))),(32,aB ((wO c.r) == 0))] <| kP 32 ((wO c.r) == 0) (fun h6 => ?_) (fun h6 => ?_)
 have h6p := bC h6
 refine dh 1 [2,4,7,8,10,32,33] [(2,.p 0 0),(4,.p 1 0),(7,.p 2 0),(8,.v (.slice (some ⟨g2,0,none⟩) 0 0)),(10,.v (.string ((ao c.r n).2))),(32,aB true),(33,.v (.agg (ah (ao c.r n).1 (.slice v4a ((ao c.r n).1.held.length) v4c)).toArray))] 82 [.agg (ah (ao c.r n).1 (.slice v4a ((ao c.r n).1.held.length) v4c)).toArray] (some 34) rfl (aA fun ww hf => eY ((ao c.r n).1.next) ((ao c.r n).1.data) ((ao c.r n).1.held) (.slice v4a ((ao c.r n).1.held.length) v4c) ((ao c.r n).1.fin) ((ao c.r n).1.done) ww (by omega)) ?_
 intro _
 refine cR 3 [2,4,7,8,10,37] [(2,.p 0 0),(4,.p 1 0),(7,.p 2 0),(8,.v (.slice (some ⟨g2,0,none⟩) 0 0)),(10,.v (.string ((ao c.r n).2))),(37,aB (decide ((wO ((ao c.r n).1)) > 0)))] <| kP 37 (decide ((wO ((ao c.r n).1)) > 0)) (fun h7 => ?_) (fun h7 => ?_)
 have h7p := of_decide_eq_true h7
 refine cR 5 [2,4,7,8,10,42] [(2,.p 0 0),(4,.p 1 0),(7,.p 2 0),(8,.v (.slice (some ⟨g2,0,none⟩) 0 0)),(10,.v (.string ((ao c.r n).2))),(42,aB (c.state != 8))] <| kP 42 (c.state != 8) (fun h8 => ?_) (fun h8 => ?_)
 have h8p := neT h8
 refine aJ [4,7,8,10,46] [(4,.p 1 0),(7,.p 2 0),(8,.v (.slice (some ⟨g2,0,none⟩) 0 0)),(10,.v (.string ((ao c.r n).2))),(46,aB (c.state != 7))] ?_
 show Wk _ _
 try rw [h6]
 try rw [h7]
 try rw [h8]
 exact kF 4 0 [4,7,8,10,46]
 have h8p := neF h8
 refine aJ [4,7,8,10,46] [(4,.p 1 0),(7,.p 2 0),(8,.v (.slice (some ⟨g2,0,none⟩) 0 0)),(10,.v (.string ((ao c.r n).2))),(46,aB false)] ?_
 show Wk _ _
 try rw [h6]
 try rw [h7]
 try rw [h8]
 exact kF 4 0 [4,7,8,10,46]
 have h7p := of_decide_eq_false h7
 refine aJ [4,7,8,10,46] [(4,.p 1 0),(7,.p 2 0),(8,.v (.slice (some ⟨g2,0,none⟩) 0 0)),(10,.v (.string ((ao c.r n).2))),(46,aB false)] ?_
 show Wk _ _
 try rw [h6]
 try rw [h7]
 exact kF 4 0 [4,7,8,10,46]
 have h6p := bA h6
 refine aJ [4,7,8,10,46] [(4,.p 1 0),(7,.p 2 0),(8,.v (.slice (some ⟨g2,0,none⟩) 0 0)),(10,.v (.string ((ao c.r n).2))),(46,aB false)] ?_
 show Wk _ _
 try rw [h6]
 exact kF 4 0 [4,7,8,10,46]
 refine kC (((wO c.r) == 0) && ((decide ((wO ((ao c.r n).1)) > 0)) && ((c.state != 8) && (c.state != 7)))) (fun h9 => ?_) (fun h9 => ?_)
 have h9l := gA h9
 have h9lp := bC h9l
 have h9r := gG h9
 have h9rl := gA h9r
 have h9rr := gG h9r
 have h9rrl := gA h9rr
 have h9rrlp := neT h9rrl
 have h9rrr := gG h9rr
 have h9rrrp := neT h9rrr
 refine kS <| fY (α := Nat) (fun y => (fun (g11 : Nat) => (⟨[(4,.p 1 0),(5,.v (.string ((ao c.r n).2))),(6,.v (.slice (some ⟨g11,0,none⟩) 1 1))],[⟨44,a7 c (cS Z c Y)⟩,⟨44,a7 { c with r := (ao c.r n).1 } (.slice v4a ((ao c.r n).1.held.length) v4c)⟩,⟨44,a7 { c with r := (ao c.r n).1 } (.slice v4a ((ao c.r n).1.held.length) v4c)⟩,⟨41,ah (ao c.r n).1 (.slice v4a ((ao c.r n).1.held.length) v4c)⟩],[],[ap w.heap.size 50 13 (.slice (some ⟨g11,0,none⟩) 1 1) (([⟨c.t.my,c.t.port,ay c.s,(ao c.r n).1.next,16,wO ((ao c.r n).1),⟨0,(-1),false,false,0,0⟩,(⟨#[]⟩ : ByteArray)⟩] : List Seg).map ak),ap w.heap.size 85 2 (.slice v4a ((ao c.r n).1.held.length) v4c) ((ao c.r n).1.held.map pC),ap w.heap.size 50 13 (.slice (some ⟨g2,0,none⟩) 0 0) (([] : List Seg).map ak),aF w.heap.size (cS v1a c v1c) 2 (c.r.held.map pC),cH Z c Y]⟩ : St)) y) ?_ ?_
 refine bc [true,false,true,true] (by kernel_rfl) (fun ρ σ => ?_)
 refine ca [0,1,2] [49,48,47,4] 5 [(49,.v (.agg (a7 { c with r := (ao c.r n).1 } (.slice v4a ((ao c.r n).1.held.length) v4c)).toArray)),(48,.v (.string ((ao c.r n).2))),(47,.v (.agg (a7 { c with r := (ao c.r n).1 } (.slice v4a ((ao c.r n).1.held.length) v4c)).toArray)),(4,.p 1 0)] <| kA [3] <| dr 3 35 [.agg (a7 { c with r := (ao c.r n).1 } (.slice v4a ((ao c.r n).1.held.length) v4c)).toArray] (some 50) rfl (aA fun ww hf => fQ ({ c with r := (ao c.r n).1 }) (.slice v4a ((ao c.r n).1.held.length) v4c) ww (aS (hf _ m0)) (by first | omega | (dsimp only; omega))) ?_
 intro _
 refine kA [4,5] ⟨?_,?_⟩
 refine gj 4 rfl (ax (bz rfl (ax (ax ar)))) (bi (e := 50) (K := 13) (bytes := 104) [.agg #[iI c.t.my,iI c.t.port,iI (ay c.s),iI ((ao c.r n).1.next),iI 16,iI (wO ((ao c.r n).1)),iI 0,iI (-1),.bool false,.bool false,iI 0,iI 0,.string (⟨#[]⟩ : ByteArray)]] (rs := ([⟨c.t.my,c.t.port,ay c.s,(ao c.r n).1.next,16,wO ((ao c.r n).1),⟨0,(-1),false,false,0,0⟩,(⟨#[]⟩ : ByteArray)⟩] : List Seg).map ak) rfl rfl) ?_
 intro g11
 refine kA [5] <| e8 5 1 0 (a7 { c with r := (ao c.r n).1 } (.slice v4a ((ao c.r n).1.held.length) v4c)) rfl <| ca [6,7] [6,5,4] 0 [(6,.v (.slice (some ⟨g11,0,none⟩) 1 1)),(5,.v (.string ((ao c.r n).2))),(4,.p 1 0)] <| kZ ?_
 exact ⟨(g11),kF 4 0 [4,5,6]⟩
 refine e8 5 1 0 (a7 { c with r := (ao c.r n).1 } (.slice v4a ((ao c.r n).1.held.length) v4c)) rfl <| ca [6] [5,50,4] 2 [(5,.v (.string ((ao c.r n).2))),(50,.v (.agg #[iI c.t.my,iI c.t.port,iI (ay c.s),iI ((ao c.r n).1.next),iI 16,iI (wO ((ao c.r n).1)),iI 0,iI (-1),.bool false,.bool false,iI 0,iI 0,.string (⟨#[]⟩ : ByteArray)])),(4,.p 1 0)] <| kA [4] <| gj 4 rfl (ax (bz rfl (ax (ax ar)))) (bi (e := 50) (K := 13) (bytes := 104) [.agg #[iI c.t.my,iI c.t.port,iI (ay c.s),iI ((ao c.r n).1.next),iI 16,iI (wO ((ao c.r n).1)),iI 0,iI (-1),.bool false,.bool false,iI 0,iI 0,.string (⟨#[]⟩ : ByteArray)]] (rs := ([⟨c.t.my,c.t.port,ay c.s,(ao c.r n).1.next,16,wO ((ao c.r n).1),⟨0,(-1),false,false,0,0⟩,(⟨#[]⟩ : ByteArray)⟩] : List Seg).map ak) rfl rfl) ?_
 intro g13
 refine ca [7] [6,5,4] 0 [(6,.v (.slice (some ⟨g13,0,none⟩) 1 1)),(5,.v (.string ((ao c.r n).2))),(4,.p 1 0)] <| kZ ?_
 exact ⟨(g13),kF 4 0 [4,5,6]⟩
 intro g11
 refine kR ?_
 have hmod : bW c n = (({ c with r := (ao c.r n).1 }),((ao c.r n).2),([⟨c.t.my,c.t.port,ay c.s,(ao c.r n).1.next,16,wO ((ao c.r n).1),⟨0,(-1),false,false,0,0⟩,(⟨#[]⟩ : ByteArray)⟩] : List Seg)) := by first | rfl | (simp [bW,bZ, *]; done) | grind [bW,bZ]
 exact ⟨[.agg (a7 { c with r := (ao c.r n).1 } (.slice v4a ((ao c.r n).1.held.length) v4c)).toArray,.string ((ao c.r n).2),.slice (some ⟨g11,0,none⟩) 1 1],by kernel_rfl,fun w' hb hf ha => by rw [hmod]; exact gu ((v4a,v4c),(((some ⟨g11,0,none⟩) : Option Addr),1)) rfl rfl (pR (hf _ m1) hB) (pR (hf _ m0) hB) (Apart.sub2 ha (i := 1) (j := 0) rfl rfl (by decide) rfl (fun b h => bX h) (fun b h => bX h)) hb⟩
 refine kK <| kQ <| c8 [4,5,6] ⟨[(4,.p 1 0),(5,.v (.string ((ao c.r n).2))),(6,.v (.slice (some ⟨g2,0,none⟩) 0 0))],[⟨44,a7 c (cS Z c Y)⟩,⟨44,a7 { c with r := (ao c.r n).1 } (.slice v4a ((ao c.r n).1.held.length) v4c)⟩,⟨44,a7 { c with r := (ao c.r n).1 } (.slice v4a ((ao c.r n).1.held.length) v4c)⟩,⟨41,ah (ao c.r n).1 (.slice v4a ((ao c.r n).1.held.length) v4c)⟩],[],[ap w.heap.size 85 2 (.slice v4a ((ao c.r n).1.held.length) v4c) ((ao c.r n).1.held.map pC),ap w.heap.size 50 13 (.slice (some ⟨g2,0,none⟩) 0 0) (([] : List Seg).map ak),aF w.heap.size (cS v1a c v1c) 2 (c.r.held.map pC),cH Z c Y]⟩ <| kR ?_
 have hmod : bW c n = (({ c with r := (ao c.r n).1 }),((ao c.r n).2),([] : List Seg)) := by first | rfl | (simp [bW,bZ, *]; done) | grind [bW,bZ]
 exact ⟨[.agg (a7 { c with r := (ao c.r n).1 } (.slice v4a ((ao c.r n).1.held.length) v4c)).toArray,.string ((ao c.r n).2),.slice (some ⟨g2,0,none⟩) 0 0],by kernel_rfl,fun w' hb hf ha => by rw [hmod]; exact gu ((v4a,v4c),(((some ⟨g2,0,none⟩) : Option Addr),0)) rfl rfl (pR (hf _ m0) hB) (pR (hf _ m1) hB) (Apart.sub2 ha (i := 0) (j := 1) rfl rfl (by decide) rfl (fun b h => bX h) (fun b h => bX h)) hb⟩
theorem ia (c : Con) (rV : Value) (w : World) (hZ : Sl w rV 2 (c.r.held.map pC)) (hkn : c.r.held.length ≤ 1048576)(hm : ∀ p ∈ c.r.held, p.text.size ≤ 1048576) (hsz : c.r.data.size ≤ 4611686018427387904) (B : Nat) (hB : B ≤ w.heap.size) : Calls Tryz.prog 73 #[.agg (a7 c rV).toArray] w fun e w' => XRs w w' e (α := Option Addr × Nat) (fun y => .agg (a7 (aE c) (.slice y.1 ((aE c).r.held.length) y.2)).toArray) (fun y => [aF B (.slice y.1 ((aE c).r.held.length) y.2) 2 ((aE c).r.held.map pC)]) := by
 obtain ⟨Z,Y,hY⟩ := hZ.form
 rw [List.length_map] at hY; subst hY
 have hJ := hZ.len; rw [List.length_map] at hJ
 have hqcrh := Sl.capLe hZ
 have ht : aW { c with state := tS c,timer := 0 } = (aW { c with state := tS c,timer := 0,tries := 0 } && ci c.tries 0 3) := conOk_tries _
 refine ck (args := [.agg (a7 c (cS Z c Y)).toArray]) (fn := Tryz.f73) [cH Z c Y] Tryz.func73 rfl Tryz.ntmps73 rfl (by simp only [List.mem_cons,List.not_mem_nil,or_false,forall_eq_or_imp,forall_eq]; exact ⟨rfl,hZ⟩) ?_
 refine kQ <| c8 [1,2] ⟨[(1,.p 0 0),(2,.p 1 0)],[⟨44,a7 c (cS Z c Y)⟩,⟨44,bN⟩],[],[cH Z c Y]⟩ <| kQ <| dh 1 [1,2,7] [(1,.p 0 0),(2,.p 1 0),(7,.v (.agg (a7 c (cS Z c Y)).toArray))] 43 [.agg (a7 c (cS Z c Y)).toArray] (some 8) rfl (cZ fun ww hw hf => eO c (cS Z c Y) ww (hf _ m0) (by assumption) w.heap.size hw) ?_
 rintro ⟨v1a,v1c⟩
 refine c8 [1,2,3] ⟨[(1,.p 0 0),(2,.p 1 0),(3,.p 2 0)],[⟨44,a7 c (cS Z c Y)⟩,⟨44,bN⟩,⟨44,a7 c (cS v1a c v1c)⟩],[],[aF w.heap.size (cS v1a c v1c) 2 (c.r.held.map pC),cH Z c Y]⟩ <| kS <| cf (α := {zz : Int // (fun (kk : Int) => kk = tS c ∧ ¬ kk = c.state) zz}) (fun zz => (fun (kk : Int) => (⟨[(1,.p 0 0),(2,.p 1 0),(3,.p 2 0)],[⟨44,a7 c (cS Z c Y)⟩,⟨44,bN⟩,⟨44,a7 { c with state := kk } (cS v1a c v1c)⟩],[],[aF w.heap.size (cS v1a c v1c) 2 (c.r.held.map pC),cH Z c Y]⟩ : St)) zz.1) ?_ ?_
 refine kS <| cm [] (by kernel_rfl) (fun ρ σ => ?_)
 refine ca [0,1,2,3,4,5,6,7] [5,4,1,2,3] 0 [(5,aB c.r.done),(4,aB c.s.done),(1,.p 0 0),(2,.p 1 0),(3,.p 2 0)] <| kZ <| aZ <| kS <| bo ⟨[(1,.p 0 0),(2,.p 1 0),(3,.p 2 0),(4,aB c.s.done),(5,aB c.r.done),(16,aB ((c.state == 1) && c.r.done))],[⟨44,a7 c (cS Z c Y)⟩,⟨44,bN⟩,⟨44,a7 c (cS v1a c v1c)⟩],[],[aF w.heap.size (cS v1a c v1c) 2 (c.r.held.map pC),cH Z c Y]⟩ ?_ ?_
 refine kG <| cR 4 [1,2,3,4,5,20] [(1,.p 0 0),(2,.p 1 0),(3,.p 2 0),(4,aB c.s.done),(5,aB c.r.done),(20,aB (c.state == 1))] <| kP 20 (c.state == 1) (fun h2 => ?_) (fun h2 => ?_)
 have h2p := bC h2
 refine aJ [1,2,3,4,5,16] [(1,.p 0 0),(2,.p 1 0),(3,.p 2 0),(4,aB c.s.done),(5,aB c.r.done),(16,aB c.r.done)] ?_
 show Wk _ _
 try rw [h2]
 exact kF 3 0 [1,2,3,4,5,16]
 have h2p := bA h2
 refine aJ [1,2,3,4,5,16] [(1,.p 0 0),(2,.p 1 0),(3,.p 2 0),(4,aB c.s.done),(5,aB c.r.done),(16,aB false)] ?_
 show Wk _ _
 try rw [h2]
 exact kF 3 0 [1,2,3,4,5,16]
 refine kC ((c.state == 1) && c.r.done) (fun h3 => ?_) (fun h3 => ?_)
 have h3l := gA h3
 have h3lp := bC h3l
 have h3r := gG h3
 refine kG <| c8 [1,2,3] ⟨[(1,.p 0 0),(2,.p 1 0),(3,.p 2 0)],[⟨44,a7 c (cS Z c Y)⟩,⟨44,bN⟩,⟨44,a7 { c with state := 4 } (cS v1a c v1c)⟩],[],[aF w.heap.size (cS v1a c v1c) 2 (c.r.held.map pC),cH Z c Y]⟩ ?_
 exact ⟨⟨(4),⟨(by first | (unfold tS; simp [*]; done) | (unfold tS; grind)),(by first | omega | grind)⟩⟩,kF 3 0 [1,2,3]⟩
 refine kS <| bo ⟨[(1,.p 0 0),(2,.p 1 0),(3,.p 2 0),(4,aB c.s.done),(5,aB c.r.done),(24,aB ((c.state == 2) && (c.s.done && c.r.done)))],[⟨44,a7 c (cS Z c Y)⟩,⟨44,bN⟩,⟨44,a7 c (cS v1a c v1c)⟩],[],[aF w.heap.size (cS v1a c v1c) 2 (c.r.held.map pC),cH Z c Y]⟩ ?_ ?_
 refine kG <| cR 4 [1,2,3,4,5,28] [(1,.p 0 0),(2,.p 1 0),(3,.p 2 0),(4,aB c.s.done),(5,aB c.r.done),(28,aB (c.state == 2))] <| kP 28 (c.state == 2) (fun h4 => ?_) (fun h4 => ?_)
 have h4p := bC h4
 refine cR 3 [1,2,3,4,5,31] [(1,.p 0 0),(2,.p 1 0),(3,.p 2 0),(4,aB c.s.done),(5,aB c.r.done),(31,aB c.s.done)] <| kP 31 (c.s.done) (fun h5 => ?_) (fun h5 => ?_)
 refine aJ [1,2,3,4,5,24] [(1,.p 0 0),(2,.p 1 0),(3,.p 2 0),(4,aB c.s.done),(5,aB c.r.done),(24,aB c.r.done)] ?_
 show Wk _ _
 try rw [h4]
 try rw [h5]
 exact kF 3 0 [1,2,3,4,5,24]
 refine aJ [1,2,3,4,5,24] [(1,.p 0 0),(2,.p 1 0),(3,.p 2 0),(4,aB c.s.done),(5,aB c.r.done),(24,aB false)] ?_
 show Wk _ _
 try rw [h4]
 try rw [h5]
 exact kF 3 0 [1,2,3,4,5,24]
 have h4p := bA h4
 refine aJ [1,2,3,4,5,24] [(1,.p 0 0),(2,.p 1 0),(3,.p 2 0),(4,aB c.s.done),(5,aB c.r.done),(24,aB false)] ?_
 show Wk _ _
 try rw [h4]
 exact kF 3 0 [1,2,3,4,5,24]
 refine kC ((c.state == 2) && (c.s.done && c.r.done)) (fun h6 => ?_) (fun h6 => ?_)
 have h6l := gA h6
 have h6lp := bC h6l
 have h6r := gG h6
 have h6rl := gA h6r
 have h6rr := gG h6r
 refine kG <| c8 [1,2,3] ⟨[(1,.p 0 0),(2,.p 1 0),(3,.p 2 0)],[⟨44,a7 c (cS Z c Y)⟩,⟨44,bN⟩,⟨44,a7 { c with state := 7 } (cS v1a c v1c)⟩],[],[aF w.heap.size (cS v1a c v1c) 2 (c.r.held.map pC),cH Z c Y]⟩ ?_
 exact ⟨⟨(7),⟨(by first | (unfold tS; simp [*]; done) | (unfold tS; grind)),(by first | omega | grind)⟩⟩,kF 3 0 [1,2,3]⟩
 refine kS <| bo ⟨[(1,.p 0 0),(2,.p 1 0),(3,.p 2 0),(4,aB c.s.done),(5,aB c.r.done),(35,aB ((c.state == 2) && c.s.done))],[⟨44,a7 c (cS Z c Y)⟩,⟨44,bN⟩,⟨44,a7 c (cS v1a c v1c)⟩],[],[aF w.heap.size (cS v1a c v1c) 2 (c.r.held.map pC),cH Z c Y]⟩ ?_ ?_
 refine kG <| cR 4 [1,2,3,4,5,39] [(1,.p 0 0),(2,.p 1 0),(3,.p 2 0),(4,aB c.s.done),(5,aB c.r.done),(39,aB (c.state == 2))] <| kP 39 (c.state == 2) (fun h7 => ?_) (fun h7 => ?_)
 have h7p := bC h7
 refine aJ [1,2,3,4,5,35] [(1,.p 0 0),(2,.p 1 0),(3,.p 2 0),(4,aB c.s.done),(5,aB c.r.done),(35,aB c.s.done)] ?_
 show Wk _ _
 try rw [h7]
 exact kF 3 0 [1,2,3,4,5,35]
 have h7p := bA h7
 refine aJ [1,2,3,4,5,35] [(1,.p 0 0),(2,.p 1 0),(3,.p 2 0),(4,aB c.s.done),(5,aB c.r.done),(35,aB false)] ?_
 show Wk _ _
 try rw [h7]
 exact kF 3 0 [1,2,3,4,5,35]
 refine kC ((c.state == 2) && c.s.done) (fun h8 => ?_) (fun h8 => ?_)
 have h8l := gA h8
 have h8lp := bC h8l
 have h8r := gG h8
 refine kG <| c8 [1,2,3] ⟨[(1,.p 0 0),(2,.p 1 0),(3,.p 2 0)],[⟨44,a7 c (cS Z c Y)⟩,⟨44,bN⟩,⟨44,a7 { c with state := 3 } (cS v1a c v1c)⟩],[],[aF w.heap.size (cS v1a c v1c) 2 (c.r.held.map pC),cH Z c Y]⟩ ?_
 exact ⟨⟨(3),⟨(by first | (unfold tS; simp [*]; done) | (unfold tS; grind)),(by first | omega | grind)⟩⟩,kF 3 0 [1,2,3]⟩
 refine kS <| bo ⟨[(1,.p 0 0),(2,.p 1 0),(3,.p 2 0),(4,aB c.s.done),(5,aB c.r.done),(43,aB ((c.state == 2) && c.r.done))],[⟨44,a7 c (cS Z c Y)⟩,⟨44,bN⟩,⟨44,a7 c (cS v1a c v1c)⟩],[],[aF w.heap.size (cS v1a c v1c) 2 (c.r.held.map pC),cH Z c Y]⟩ ?_ ?_
 refine kG <| cR 4 [1,2,3,4,5,47] [(1,.p 0 0),(2,.p 1 0),(3,.p 2 0),(4,aB c.s.done),(5,aB c.r.done),(47,aB (c.state == 2))] <| kP 47 (c.state == 2) (fun h9 => ?_) (fun h9 => ?_)
 have h9p := bC h9
 refine aJ [1,2,3,4,5,43] [(1,.p 0 0),(2,.p 1 0),(3,.p 2 0),(4,aB c.s.done),(5,aB c.r.done),(43,aB c.r.done)] ?_
 show Wk _ _
 try rw [h9]
 exact kF 3 0 [1,2,3,4,5,43]
 have h9p := bA h9
 refine aJ [1,2,3,4,5,43] [(1,.p 0 0),(2,.p 1 0),(3,.p 2 0),(4,aB c.s.done),(5,aB c.r.done),(43,aB false)] ?_
 show Wk _ _
 try rw [h9]
 exact kF 3 0 [1,2,3,4,5,43]
 refine kC ((c.state == 2) && c.r.done) (fun h10 => ?_) (fun h10 => ?_)
 have h10l := gA h10
 have h10lp := bC h10l
 have h10r := gG h10
 refine kG <| c8 [1,2,3] ⟨[(1,.p 0 0),(2,.p 1 0),(3,.p 2 0)],[⟨44,a7 c (cS Z c Y)⟩,⟨44,bN⟩,⟨44,a7 { c with state := 5 } (cS v1a c v1c)⟩],[],[aF w.heap.size (cS v1a c v1c) 2 (c.r.held.map pC),cH Z c Y]⟩ ?_
 exact ⟨⟨(5),⟨(by first | (unfold tS; simp [*]; done) | (unfold tS; grind)),(by first | omega | grind)⟩⟩,kF 3 0 [1,2,3]⟩
 refine kS <| bo ⟨[(1,.p 0 0),(2,.p 1 0),(3,.p 2 0),(4,aB c.s.done),(51,aB ((c.state == 3) && c.r.done))],[⟨44,a7 c (cS Z c Y)⟩,⟨44,bN⟩,⟨44,a7 c (cS v1a c v1c)⟩],[],[aF w.heap.size (cS v1a c v1c) 2 (c.r.held.map pC),cH Z c Y]⟩ ?_ ?_
 refine kG <| cR 4 [1,2,3,4,5,55] [(1,.p 0 0),(2,.p 1 0),(3,.p 2 0),(4,aB c.s.done),(5,aB c.r.done),(55,aB (c.state == 3))] <| kP 55 (c.state == 3) (fun h11 => ?_) (fun h11 => ?_)
 have h11p := bC h11
 refine aJ [1,2,3,4,51] [(1,.p 0 0),(2,.p 1 0),(3,.p 2 0),(4,aB c.s.done),(51,aB c.r.done)] ?_
 show Wk _ _
 try rw [h11]
 exact kF 3 0 [1,2,3,4,51]
 have h11p := bA h11
 refine aJ [1,2,3,4,51] [(1,.p 0 0),(2,.p 1 0),(3,.p 2 0),(4,aB c.s.done),(51,aB false)] ?_
 show Wk _ _
 try rw [h11]
 exact kF 3 0 [1,2,3,4,51]
 refine kC ((c.state == 3) && c.r.done) (fun h12 => ?_) (fun h12 => ?_)
 have h12l := gA h12
 have h12lp := bC h12l
 have h12r := gG h12
 refine kG <| c8 [1,2,3] ⟨[(1,.p 0 0),(2,.p 1 0),(3,.p 2 0)],[⟨44,a7 c (cS Z c Y)⟩,⟨44,bN⟩,⟨44,a7 { c with state := 7 } (cS v1a c v1c)⟩],[],[aF w.heap.size (cS v1a c v1c) 2 (c.r.held.map pC),cH Z c Y]⟩ ?_
 exact ⟨⟨(7),⟨(by first | (unfold tS; simp [*]; done) | (unfold tS; grind)),(by first | omega | grind)⟩⟩,kF 3 0 [1,2,3]⟩
 refine kS <| bo ⟨[(1,.p 0 0),(2,.p 1 0),(3,.p 2 0),(4,aB c.s.done),(59,aB ((c.state == 5) && c.s.done))],[⟨44,a7 c (cS Z c Y)⟩,⟨44,bN⟩,⟨44,a7 c (cS v1a c v1c)⟩],[],[aF w.heap.size (cS v1a c v1c) 2 (c.r.held.map pC),cH Z c Y]⟩ ?_ ?_
 refine kG <| cR 4 [1,2,3,4,63] [(1,.p 0 0),(2,.p 1 0),(3,.p 2 0),(4,aB c.s.done),(63,aB (c.state == 5))] <| kP 63 (c.state == 5) (fun h13 => ?_) (fun h13 => ?_)
 have h13p := bC h13
 refine aJ [1,2,3,4,59] [(1,.p 0 0),(2,.p 1 0),(3,.p 2 0),(4,aB c.s.done),(59,aB c.s.done)] ?_
 show Wk _ _
 try rw [h13]
 exact kF 3 0 [1,2,3,4,59]
 have h13p := bA h13
 refine aJ [1,2,3,4,59] [(1,.p 0 0),(2,.p 1 0),(3,.p 2 0),(4,aB c.s.done),(59,aB false)] ?_
 show Wk _ _
 try rw [h13]
 exact kF 3 0 [1,2,3,4,59]
 refine kC ((c.state == 5) && c.s.done) (fun h14 => ?_) (fun h14 => ?_)
 have h14l := gA h14
 have h14lp := bC h14l
 have h14r := gG h14
 refine kG <| c8 [1,2,3] ⟨[(1,.p 0 0),(2,.p 1 0),(3,.p 2 0)],[⟨44,a7 c (cS Z c Y)⟩,⟨44,bN⟩,⟨44,a7 { c with state := 7 } (cS v1a c v1c)⟩],[],[aF w.heap.size (cS v1a c v1c) 2 (c.r.held.map pC),cH Z c Y]⟩ ?_
 exact ⟨⟨(7),⟨(by first | (unfold tS; simp [*]; done) | (unfold tS; grind)),(by first | omega | grind)⟩⟩,kF 3 0 [1,2,3]⟩
 refine kS <| bo ⟨[(1,.p 0 0),(2,.p 1 0),(3,.p 2 0),(67,aB ((c.state == 6) && c.s.done))],[⟨44,a7 c (cS Z c Y)⟩,⟨44,bN⟩,⟨44,a7 c (cS v1a c v1c)⟩],[],[aF w.heap.size (cS v1a c v1c) 2 (c.r.held.map pC),cH Z c Y]⟩ ?_ ?_
 refine kG <| cR 4 [1,2,3,4,71] [(1,.p 0 0),(2,.p 1 0),(3,.p 2 0),(4,aB c.s.done),(71,aB (c.state == 6))] <| kP 71 (c.state == 6) (fun h15 => ?_) (fun h15 => ?_)
 have h15p := bC h15
 refine aJ [1,2,3,67] [(1,.p 0 0),(2,.p 1 0),(3,.p 2 0),(67,aB c.s.done)] ?_
 show Wk _ _
 try rw [h15]
 exact kF 3 0 [1,2,3,67]
 have h15p := bA h15
 refine aJ [1,2,3,67] [(1,.p 0 0),(2,.p 1 0),(3,.p 2 0),(67,aB false)] ?_
 show Wk _ _
 try rw [h15]
 exact kF 3 0 [1,2,3,67]
 refine kC ((c.state == 6) && c.s.done) (fun h16 => ?_) (fun h16 => ?_)
 have h16l := gA h16
 have h16lp := bC h16l
 have h16r := gG h16
 refine kG <| c8 [1,2,3] ⟨[(1,.p 0 0),(2,.p 1 0),(3,.p 2 0)],[⟨44,a7 c (cS Z c Y)⟩,⟨44,bN⟩,⟨44,a7 { c with state := 8 } (cS v1a c v1c)⟩],[],[aF w.heap.size (cS v1a c v1c) 2 (c.r.held.map pC),cH Z c Y]⟩ ?_
 exact ⟨⟨(8),⟨(by first | (unfold tS; simp [*]; done) | (unfold tS; grind)),(by first | omega | grind)⟩⟩,kF 3 0 [1,2,3]⟩
 refine kQ <| c8 [2] ⟨[(2,.p 1 0)],[⟨44,a7 c (cS Z c Y)⟩,⟨44,a7 c (cS v1a c v1c)⟩,⟨44,a7 c (cS v1a c v1c)⟩],[],[aF w.heap.size (cS v1a c v1c) 2 (c.r.held.map pC),cH Z c Y]⟩ <| kR ?_
 have hmod : aE c = c := by first | rfl | (simp [aE, *]; done) | grind [aE] | grind [aE,tS] | (unfold aE; rw [← hkk,if_neg hkn]; grind)
 exact ⟨[.agg (a7 c (cS v1a c v1c)).toArray],by kernel_rfl,fun w' hb hf ha => by rw [hmod]; exact im ((v1a,v1c)) rfl rfl (pO (hf _ m0) hB) hb⟩
 rintro ⟨kk,hkk,hkn⟩
 try dsimp only
 try dsimp only at hkk hkn
 refine kQ <| c8 [1,2,3,6] ⟨[(1,.p 0 0),(2,.p 1 0),(3,.p 2 0),(6,.p 3 0)],[⟨44,a7 c (cS Z c Y)⟩,⟨44,bN⟩,⟨44,a7 { c with state := kk } (cS v1a c v1c)⟩,⟨44,a7 { c with state := kk } (cS v1a c v1c)⟩],[],[aF w.heap.size (cS v1a c v1c) 2 (c.r.held.map pC),cH Z c Y]⟩ <| kQ <| c8 [1,2,3,6] ⟨[(1,.p 0 0),(2,.p 1 0),(3,.p 2 0),(6,.p 3 0)],[⟨44,a7 c (cS Z c Y)⟩,⟨44,bN⟩,⟨44,a7 { c with state := kk } (cS v1a c v1c)⟩,⟨44,a7 { c with state := kk,timer := 0 } (cS v1a c v1c)⟩],[],[aF w.heap.size (cS v1a c v1c) 2 (c.r.held.map pC),cH Z c Y]⟩ ?_
 refine kS <| kS <| bo ⟨[(1,.p 0 0),(2,.p 1 0),(3,.p 2 0),(85,aB ((!(aW ({ c with state := kk,timer := 0 }))) || (!(ci c.timer 0 4))))],[⟨44,a7 c (cS Z c Y)⟩,⟨44,bN⟩,⟨44,a7 { c with state := kk } (cS v1a c v1c)⟩,⟨44,a7 { c with state := kk,timer := 0 } (cS v1a c v1c)⟩],[],[aF w.heap.size (cS v1a c v1c) 2 (c.r.held.map pC),cH Z c Y]⟩ ?_ ?_
 refine kG <| dh 1 [1,2,3,77] [(1,.p 0 0),(2,.p 1 0),(3,.p 2 0),(77,.v (.agg (a7 { c with state := kk,timer := 0 } (cS v1a c v1c)).toArray))] 24 [.agg (a7 { c with state := kk,timer := 0 } (cS v1a c v1c)).toArray] (some 78) rfl (aA fun ww hf => iY ({ c with state := kk,timer := 0 }) (cS v1a c v1c) ww (Own.sl (hf _ m0)) (by assumption) (by omega)) ?_
 intro _
 refine cR 2 [1,2,3,80] [(1,.p 0 0),(2,.p 1 0),(3,.p 2 0),(80,aB (!(aW ({ c with state := kk,timer := 0 }))))] <| kP 80 (!(aW ({ c with state := kk,timer := 0 }))) (fun h17 => ?_) (fun h17 => ?_)
 have h17n := bg h17
 refine aJ [1,2,3,85] [(1,.p 0 0),(2,.p 1 0),(3,.p 2 0),(85,aB true)] ?_
 show Wk _ _
 try rw [h17]
 exact kF 4 0 [1,2,3,85]
 have h17n := aD h17
 refine dh 2 [1,2,3,80,82] [(1,.p 0 0),(2,.p 1 0),(3,.p 2 0),(80,aB false),(82,aI c.timer)] 62 [iI c.timer,iI 0,iI 4] (some 83) rfl (bM fun ww hf => dM c.timer 0 4 ww ) ?_
 intro _
 refine aJ [1,2,3,85] [(1,.p 0 0),(2,.p 1 0),(3,.p 2 0),(85,aB (!(ci c.timer 0 4)))] ?_
 show Wk _ _
 try rw [h17]
 exact kF 4 0 [1,2,3,85]
 refine kC ((!(aW ({ c with state := kk,timer := 0 }))) || (!(ci c.timer 0 4))) (fun h18 => ?_) (fun h18 => ?_)
 refine kQ <| dh 1 [2,86] [(2,.p 1 0),(86,.v (.agg (a7 c (cS Z c Y)).toArray))] 43 [.agg (a7 c (cS Z c Y)).toArray] (some 87) rfl (cZ fun ww hw hf => eO c (cS Z c Y) ww (hf _ m1) (by assumption) w.heap.size hw) ?_
 rintro ⟨v19a,v19c⟩
 refine c8 [2] ⟨[(2,.p 1 0)],[⟨44,a7 c (cS Z c Y)⟩,⟨44,a7 c (cS v19a c v19c)⟩,⟨44,a7 { c with state := kk } (cS v1a c v1c)⟩,⟨44,a7 { c with state := kk,timer := 0 } (cS v1a c v1c)⟩],[],[aF w.heap.size (cS v19a c v19c) 2 (c.r.held.map pC),aF w.heap.size (cS v1a c v1c) 2 (c.r.held.map pC),cH Z c Y]⟩ <| kR ?_
 have hmod : aE c = c := by first | rfl | (simp [aE, *]; done) | grind [aE] | grind [aE,tS] | (unfold aE; rw [← hkk,if_neg hkn]; grind)
 exact ⟨[.agg (a7 c (cS v19a c v19c)).toArray],by kernel_rfl,fun w' hb hf ha => by rw [hmod]; exact im ((v19a,v19c)) rfl rfl (pO (hf _ m0) hB) hb⟩
 have h18l := eA h18
 have h18ln := aD h18l
 have h18r := f6 h18
 have h18rn := aD h18r
 have h18rni := inB_tt.1 (show ci c.timer 0 4 = true from by simpa using h18rn)
 refine kK <| kS <| kQ <| aJ [2,3,89] [(2,.p 1 0),(3,.p 2 0),(89,aI kk)] ?_
 refine aZ <| kQ <| aJ [2,3,89,90] [(2,.p 1 0),(3,.p 2 0),(89,aI kk),(90,aB (kk == 7))] <| bo ⟨[(2,.p 1 0),(3,.p 2 0)],[⟨44,a7 c (cS Z c Y)⟩,⟨44,bN⟩,⟨44,a7 { c with state := kk,timer := if (kk == 7) = true then 4 else if (kk == 8) = true then 0 else c.timer,tries := if (kk == 7) = true then 0 else if (kk == 8) = true then 0 else c.tries } (cS v1a c v1c)⟩,⟨44,a7 { c with state := kk,timer := 0 } (cS v1a c v1c)⟩],[],[aF w.heap.size (cS v1a c v1c) 2 (c.r.held.map pC),cH Z c Y]⟩ ?_ ?_
 refine kC (kk == 7) (fun h20 => ?_) (fun h20 => ?_)
 have h20p := bC h20
 refine kG <| c8 [2,3] ⟨[(2,.p 1 0),(3,.p 2 0)],[⟨44,a7 c (cS Z c Y)⟩,⟨44,bN⟩,⟨44,a7 { c with state := kk,timer := 4,tries := 0 } (cS v1a c v1c)⟩,⟨44,a7 { c with state := kk,timer := 0 } (cS v1a c v1c)⟩],[],[aF w.heap.size (cS v1a c v1c) 2 (c.r.held.map pC),cH Z c Y]⟩ ?_
 show Wk _ _; rw [h20]; exact kF 4 0 [2,3]
 have h20p := bA h20
 refine kQ <| aJ [2,3,94] [(2,.p 1 0),(3,.p 2 0),(94,aB (kk == 8))] <| bo ⟨[(2,.p 1 0),(3,.p 2 0)],[⟨44,a7 c (cS Z c Y)⟩,⟨44,bN⟩,⟨44,a7 { c with state := kk,timer := if (kk == 8) = true then 0 else c.timer,tries := if (kk == 8) = true then 0 else c.tries } (cS v1a c v1c)⟩,⟨44,a7 { c with state := kk,timer := 0 } (cS v1a c v1c)⟩],[],[aF w.heap.size (cS v1a c v1c) 2 (c.r.held.map pC),cH Z c Y]⟩ ?_ ?_
 refine kC (kk == 8) (fun h21 => ?_) (fun h21 => ?_)
 have h21p := bC h21
 refine kG <| c8 [2,3] ⟨[(2,.p 1 0),(3,.p 2 0)],[⟨44,a7 c (cS Z c Y)⟩,⟨44,bN⟩,⟨44,a7 { c with state := kk,timer := 0,tries := 0 } (cS v1a c v1c)⟩,⟨44,a7 { c with state := kk,timer := 0 } (cS v1a c v1c)⟩],[],[aF w.heap.size (cS v1a c v1c) 2 (c.r.held.map pC),cH Z c Y]⟩ ?_
 show Wk _ _; rw [h21]; exact kF 4 0 [2,3]
 have h21p := bA h21
 refine kK ?_
 show Wk _ _; rw [h21]; exact kF 4 0 [2,3]
 show Wk _ _; rw [h20]; exact kF 4 0 [2,3]
 refine kQ <| c8 [2] ⟨[(2,.p 1 0)],[⟨44,a7 c (cS Z c Y)⟩,⟨44,a7 { c with state := kk,timer := if (kk == 7) = true then 4 else if (kk == 8) = true then 0 else c.timer,tries := if (kk == 7) = true then 0 else if (kk == 8) = true then 0 else c.tries } (cS v1a c v1c)⟩,⟨44,a7 { c with state := kk,timer := if (kk == 7) = true then 4 else if (kk == 8) = true then 0 else c.timer,tries := if (kk == 7) = true then 0 else if (kk == 8) = true then 0 else c.tries } (cS v1a c v1c)⟩,⟨44,a7 { c with state := kk,timer := 0 } (cS v1a c v1c)⟩],[],[aF w.heap.size (cS v1a c v1c) 2 (c.r.held.map pC),cH Z c Y]⟩ <| kR ?_
 have hmod : aE c = ({ c with state := kk,timer := if (kk == 7) = true then 4 else if (kk == 8) = true then 0 else c.timer,tries := if (kk == 7) = true then 0 else if (kk == 8) = true then 0 else c.tries }) := by first | rfl | (simp [aE, *]; done) | grind [aE] | grind [aE,tS] | (unfold aE; rw [← hkk,if_neg hkn]; grind)
 exact ⟨[.agg (a7 { c with state := kk,timer := if (kk == 7) = true then 4 else if (kk == 8) = true then 0 else c.timer,tries := if (kk == 7) = true then 0 else if (kk == 8) = true then 0 else c.tries } (cS v1a c v1c)).toArray],by kernel_rfl,fun w' hb hf ha => by rw [hmod]; exact im ((v1a,v1c)) rfl rfl (pO (hf _ m0) hB) hb⟩
theorem dH (s : Snd) (window : Int) (mss : Int) (w : World) (hwi : -9223372036854775808 ≤ window ∧ window ≤ 9223372036854775807) : Calls Tryz.prog 89 #[.agg (ai s).toArray, iI window, iI mss] w fun e w' => e = .returned (.tuple #[.agg (aH (nC s window mss).1).toArray, .bool ((nC s window mss).2)]) ∧ Below w.heap.size w w' := by
 refine bH (args := [.agg (ai s).toArray,iI window,iI mss]) (fn := Tryz.f89) [] Tryz.func89 rfl Tryz.ntmps89 rfl (by simp) ?_
 refine kQ <| c8 [1,2,3,6] ⟨[(1,aI window),(2,aI mss),(3,.p 0 0),(6,.p 1 0)],[⟨38,ai s⟩,⟨107,aH (⟨0,(⟨#[]⟩ : ByteArray),false⟩ : Chk)⟩],[],[]⟩ <| kS <| kQ <| dy 1 [1,2,3,6,11] [(11,.v (.agg (ai s).toArray))] 64 [.agg (ai s).toArray] (some 12) rfl (aA fun ww hf => eP s.una s.data s.sent s.fin s.finSent s.done ww ) ?_
 intro _
 refine aR [1,2,3,6,13] [(13,aB (!(aa s)))] <| kC (!(aa s)) (fun h1 => ?_) (fun h1 => ?_)
 have hsn := bg h1
 refine kQ <| i8 0 [6] [(6,.p 1 0)] (.agg (aH (⟨0,(⟨#[]⟩ : ByteArray),false⟩ : Chk)).toArray) rfl (fun _ _ _ ww hr => aN [] hr.1 rfl (by kernel_rfl) (by kernel_rfl) ww) ?_
 refine aR [6,7] [(7,aB false)] <| kR ?_
 have hmod : nC s window mss = ((⟨0,(⟨#[]⟩ : ByteArray),false⟩),false) := by first | rfl | (simp [nC,af,aw, *]; done) | (simp [nC,af,aw, *]; omega) | grind [nC,af,aw]
 exact ⟨[.agg (aH (⟨0,(⟨#[]⟩ : ByteArray),false⟩ : Chk)).toArray,.bool false],by kernel_rfl,fun w' hb hf => by rw [hmod]; exact ⟨rfl,hb⟩⟩
 have h1b := bt (s := s) (by simpa using h1)
 obtain ⟨h1b0,h1b1,h1b2,h1b3,h1b4,h1b5,h1b6,h1b7,h1b8,h1b9,h1b10⟩ := h1b
 have hsn := aD h1
 obtain ⟨c0,c1,c2,c3,c4⟩ := fq (window := window) (mss := mss) hsn
 refine kK <| kS <| cm [] (by kernel_rfl) (fun ρ σ => ?_)
 refine ca [0,3] [18,15,2,3,6] 6 [(18,.v (.agg (ai s).toArray)),(15,aI window),(2,aI mss),(3,.p 0 0),(6,.p 1 0)] <| kA [1] <| dr 1 75 [iI window,iI 1000000] (some 16) rfl (bM fun ww hf => go window 1000000 ww ) ?_
 intro _
 refine kA [2] <| dr 2 76 [iI 0,iI (min window 1000000)] (some 17) rfl (bM fun ww hf => eo 0 (min window 1000000) ww ) ?_
 intro _
 refine kA [4] <| dr 4 77 [.agg (ai s).toArray] (some 19) rfl (aA fun ww hf => dB s.una s.data s.sent s.fin s.finSent s.done ww ) ?_
 intro _
 refine ca [5] [20,2,3,6] 2 [(20,aI (K6.wrap ((max 0 (min window 1000000)) - (aj s)))),(2,aI mss),(3,.p 0 0),(6,.p 1 0)] <| fb (t := [(20,aI (K6.wrap ((max 0 (min window 1000000)) - (aj s)))),(2,aI mss),(3,.p 0 0),(6,.p 1 0)]) (t' := [(20,aI ((max 0 (min window 1000000)) - (aj s))),(2,aI mss),(3,.p 0 0),(6,.p 1 0)]) (by rw [show (K6.wrap ((max 0 (min window 1000000)) - (aj s))) = ((max 0 (min window 1000000)) - (aj s)) from ab (by omega) (by omega)]) ?_
 refine kA [6] <| dr 6 76 [iI 0,iI ((max 0 (min window 1000000)) - (aj s))] (some 21) rfl (bM fun ww hf => eo 0 ((max 0 (min window 1000000)) - (aj s)) ww ) ?_
 intro _
 refine fb (t := [(21,aI (max 0 ((max 0 (min window 1000000)) - (aj s)))),(20,aI ((max 0 (min window 1000000)) - (aj s))),(2,aI mss),(3,.p 0 0),(6,.p 1 0)]) (t' := [(21,aI (fC s window)),(20,aI ((max 0 (min window 1000000)) - (aj s))),(2,aI mss),(3,.p 0 0),(6,.p 1 0)]) (by rw [show (max 0 ((max 0 (min window 1000000)) - (aj s))) = (fC s window) from wnd_s]) ?_
 refine ca [7] [8,2,3,6] 0 [(8,aI (fC s window)),(2,aI mss),(3,.p 0 0),(6,.p 1 0)] <| kZ <| kS <| cm [] (by kernel_rfl) (fun ρ σ => ?_)
 refine ca [0,1,3,4,5,6,7,8] [30,23,22,8,3,6] 4 [(30,aI (K6.wrap ((s.data.size : Int) - s.sent))),(23,aI (fC s window)),(22,aI mss),(8,aI (fC s window)),(3,.p 0 0),(6,.p 1 0)] <| fb (t := [(30,aI (K6.wrap ((s.data.size : Int) - s.sent))),(23,aI (fC s window)),(22,aI mss),(8,aI (fC s window)),(3,.p 0 0),(6,.p 1 0)]) (t' := [(30,aI ((s.data.size : Int) - s.sent)),(23,aI (fC s window)),(22,aI mss),(8,aI (fC s window)),(3,.p 0 0),(6,.p 1 0)]) (by rw [show (K6.wrap ((s.data.size : Int) - s.sent)) = ((s.data.size : Int) - s.sent) from ab (by omega) (by omega)]) ?_
 refine kA [2] <| dr 2 75 [iI mss,iI (fC s window)] (some 24) rfl (bM fun ww hf => go mss (fC s window) ww ) ?_
 intro _
 refine kA [9] <| dr 9 75 [iI (min mss (fC s window)),iI ((s.data.size : Int) - s.sent)] (some 31) rfl (bM fun ww hf => go (min mss (fC s window)) ((s.data.size : Int) - s.sent) ww ) ?_
 intro _
 refine kA [10] <| dr 10 76 [iI 0,iI (min (min mss (fC s window)) ((s.data.size : Int) - s.sent))] (some 32) rfl (bM fun ww hf => eo 0 (min (min mss (fC s window)) ((s.data.size : Int) - s.sent)) ww ) ?_
 intro _
 refine fb (t := [(32,aI (max 0 (min (min mss (fC s window)) ((s.data.size : Int) - s.sent)))),(31,aI (min (min mss (fC s window)) ((s.data.size : Int) - s.sent))),(24,aI (min mss (fC s window))),(30,aI ((s.data.size : Int) - s.sent)),(23,aI (fC s window)),(22,aI mss),(8,aI (fC s window)),(3,.p 0 0),(6,.p 1 0)]) (t' := [(32,aI (az s window mss)),(31,aI (min (min mss (fC s window)) ((s.data.size : Int) - s.sent))),(24,aI (min mss (fC s window))),(30,aI ((s.data.size : Int) - s.sent)),(23,aI (fC s window)),(22,aI mss),(8,aI (fC s window)),(3,.p 0 0),(6,.p 1 0)]) (by rw [show (max 0 (min (min mss (fC s window)) ((s.data.size : Int) - s.sent))) = (az s window mss) from rfl]) ?_
 refine ca [11] [9,8,3,6] 0 [(9,aI (az s window mss)),(8,aI (fC s window)),(3,.p 0 0),(6,.p 1 0)] <| kZ <| kS <| bo ⟨[(3,.p 0 0),(6,.p 1 0),(8,aI (fC s window)),(9,aI (az s window mss)),(10,.p 2 0)],[⟨38,ai s⟩,⟨107,aH (⟨0,(⟨#[]⟩ : ByteArray),false⟩ : Chk)⟩,⟨107,aH (⟨ay s,s.data.extract (s.sent).toNat (s.sent + (az s window mss)).toNat,false⟩ : Chk)⟩],[],[]⟩ ?_ ?_
 refine cm [] (by kernel_rfl) (fun ρ σ => ?_)
 refine ca [0,2,3,4,5,6,7,8,9] [42,38,36,33,9,8,3,6] 5 [(42,aI (K6.wrap (s.sent + (az s window mss)))),(38,aI s.sent),(36,.v (.string s.data)),(33,.v (.agg (ai s).toArray)),(9,aI (az s window mss)),(8,aI (fC s window)),(3,.p 0 0),(6,.p 1 0)] <| fb (t := [(42,aI (K6.wrap (s.sent + (az s window mss)))),(38,aI s.sent),(36,.v (.string s.data)),(33,.v (.agg (ai s).toArray)),(9,aI (az s window mss)),(8,aI (fC s window)),(3,.p 0 0),(6,.p 1 0)]) (t' := [(42,aI (s.sent + (az s window mss))),(38,aI s.sent),(36,.v (.string s.data)),(33,.v (.agg (ai s).toArray)),(9,aI (az s window mss)),(8,aI (fC s window)),(3,.p 0 0),(6,.p 1 0)]) (by rw [show (K6.wrap (s.sent + (az s window mss))) = (s.sent + (az s window mss)) from ab (by omega) (by omega)]) ?_
 refine kX 10 (.string (s.data.extract (s.sent).toNat (s.sent + (az s window mss)).toNat)) rfl (fun _ _ ww hA => act_slS (s.sent) (s.sent + (az s window mss)) hA rfl (by kernel_rfl) rfl rfl rfl (by omega) (by omega) (by omega) ww) ?_
 refine kA [1,12] ⟨?_,?_⟩
 refine dr 1 87 [.agg (ai s).toArray] (some 34) rfl (aA fun ww hf => sNextOf_c s.una s.data s.sent s.fin s.finSent s.done ww ) ?_
 intro _
 refine kX 11 (.agg (aH (⟨ay s,s.data.extract (s.sent).toNat (s.sent + (az s window mss)).toNat,false⟩ : Chk)).toArray) rfl (fun _ _ ww hA => aN [(0,iI (ay s)),(1,.string (s.data.extract (s.sent).toNat (s.sent + (az s window mss)).toNat))] hA rfl (by kernel_rfl) (by kernel_rfl) ww) ?_
 refine kA [12] <| cK 12 ⟨107,aH (⟨0,(⟨#[]⟩ : ByteArray),false⟩ : Chk)⟩ _ rfl (by kernel_rfl) (by kernel_rfl) (by kernel_rfl) (by kernel_rfl) rfl ?_
 refine kA [13] <| e8 13 2 0 (aH (⟨ay s,s.data.extract (s.sent).toNat (s.sent + (az s window mss)).toNat,false⟩ : Chk)) rfl <| kZ ?_
 exact kF 3 0 [3,6,8,9,10]
 refine cK 12 ⟨107,aH (⟨0,(⟨#[]⟩ : ByteArray),false⟩ : Chk)⟩ _ rfl (by kernel_rfl) (by kernel_rfl) (by kernel_rfl) (by kernel_rfl) rfl ?_
 refine kA [1] <| dr 1 87 [.agg (ai s).toArray] (some 34) rfl (aA fun ww hf => sNextOf_c s.una s.data s.sent s.fin s.finSent s.done ww ) ?_
 intro _
 refine kX 11 (.agg (aH (⟨ay s,s.data.extract (s.sent).toNat (s.sent + (az s window mss)).toNat,false⟩ : Chk)).toArray) rfl (fun _ _ ww hA => aN [(0,iI (ay s)),(1,.string (s.data.extract (s.sent).toNat (s.sent + (az s window mss)).toNat))] hA rfl (by kernel_rfl) (by kernel_rfl) ww) ?_
 refine kA [13] <| e8 13 2 0 (aH (⟨ay s,s.data.extract (s.sent).toNat (s.sent + (az s window mss)).toNat,false⟩ : Chk)) rfl <| kZ ?_
 exact kF 3 0 [3,6,8,9,10]
 refine kQ <| cA 3 [3,6,8,9,10,47] [(47,aB s.fin)] <| kP 47 (s.fin) (fun h2 => ?_) (fun h2 => ?_)
 refine cA 5 [3,6,8,9,10,52] [(52,aB (!s.finSent))] <| kP 52 (!s.finSent) (fun h3 => ?_) (fun h3 => ?_)
 have h3n := bg h3
 refine cA 5 [3,6,8,9,10,57] [(57,aB (!s.done))] <| kP 57 (!s.done) (fun h4 => ?_) (fun h4 => ?_)
 have h4n := bg h4
 refine cR 10 [6,8,9,10,67] [(6,.p 1 0),(8,aI (fC s window)),(9,aI (az s window mss)),(10,.p 2 0),(67,aB ((K6.wrap (s.sent + (az s window mss))) == (s.data.size : Int)))] <| dg (t' := [(6,.p 1 0),(8,aI (fC s window)),(9,aI (az s window mss)),(10,.p 2 0),(67,aB ((s.sent + (az s window mss)) == (s.data.size : Int)))]) (by rw [show (K6.wrap (s.sent + (az s window mss))) = (s.sent + (az s window mss)) from ab (by omega) (by omega)]) ?_
 refine kP 67 ((s.sent + (az s window mss)) == (s.data.size : Int)) (fun h5 => ?_) (fun h5 => ?_)
 have h5p := bC h5
 refine bf [6,9,10] [] 2 ⟨107,aH (⟨ay s,s.data.extract (s.sent).toNat (s.sent + (az s window mss)).toNat,decide ((fC s window) > (az s window mss))⟩ : Chk)⟩ <| kS <| kQ <| cA 3 [6,10,75] [(75,aB ((az s window mss) == 0))] ?_
 refine kP 75 ((az s window mss) == 0) (fun h6 => ?_) (fun h6 => ?_)
 have h6p := bC h6
 refine aR [6,10,79] [(79,aB (!(decide ((fC s window) > (az s window mss)))))] <| kC (!(decide ((fC s window) > (az s window mss)))) (fun h7 => ?_) (fun h7 => ?_)
 have h7n := bg h7
 refine kQ <| i8 0 [6] [(6,.p 1 0)] (.agg (aH (⟨0,(⟨#[]⟩ : ByteArray),false⟩ : Chk)).toArray) rfl (fun _ _ _ ww hr => aN [] hr.1 rfl (by kernel_rfl) (by kernel_rfl) ww) ?_
 refine aR [6,7] [(7,aB false)] <| kR ?_
 have hmod : nC s window mss = ((⟨0,(⟨#[]⟩ : ByteArray),false⟩),false) := by first | rfl | (simp [nC,af,aw, *]; done) | (simp [nC,af,aw, *]; omega) | grind [nC,af,aw]
 exact ⟨[.agg (aH (⟨0,(⟨#[]⟩ : ByteArray),false⟩ : Chk)).toArray,.bool false],by kernel_rfl,fun w' hb hf => by rw [hmod]; exact ⟨rfl,hb⟩⟩
 have h7n := aD h7
 refine kK <| kQ <| bf [6,7] [(7,aB true)] 1 ⟨107,aH (⟨ay s,s.data.extract (s.sent).toNat (s.sent + (az s window mss)).toNat,decide ((fC s window) > (az s window mss))⟩ : Chk)⟩ <| kR ?_
 have hmod : nC s window mss = ((⟨ay s,s.data.extract (s.sent).toNat (s.sent + (az s window mss)).toNat,decide ((fC s window) > (az s window mss))⟩),true) := by first | rfl | (simp [nC,af,aw, *]; done) | (simp [nC,af,aw, *]; omega) | grind [nC,af,aw]
 exact ⟨[.agg (aH (⟨ay s,s.data.extract (s.sent).toNat (s.sent + (az s window mss)).toNat,decide ((fC s window) > (az s window mss))⟩ : Chk)).toArray,.bool true],by kernel_rfl,fun w' hb hf => by rw [hmod]; exact ⟨rfl,hb⟩⟩
 have h6p := bA h6
 refine aR [6,10,79] [(79,aB false)] <| kN <| kK <| kQ <| bf [6,7] [(7,aB true)] 1 ⟨107,aH (⟨ay s,s.data.extract (s.sent).toNat (s.sent + (az s window mss)).toNat,decide ((fC s window) > (az s window mss))⟩ : Chk)⟩ ?_
 refine kR ?_
 have hmod : nC s window mss = ((⟨ay s,s.data.extract (s.sent).toNat (s.sent + (az s window mss)).toNat,decide ((fC s window) > (az s window mss))⟩),true) := by first | rfl | (simp [nC,af,aw, *]; done) | (simp [nC,af,aw, *]; omega) | grind [nC,af,aw]
 exact ⟨[.agg (aH (⟨ay s,s.data.extract (s.sent).toNat (s.sent + (az s window mss)).toNat,decide ((fC s window) > (az s window mss))⟩ : Chk)).toArray,.bool true],by kernel_rfl,fun w' hb hf => by rw [hmod]; exact ⟨rfl,hb⟩⟩
 have h5p := bA h5
 refine aR [6,9,10] [] <| kS <| kQ <| cA 3 [6,10,75] [(75,aB ((az s window mss) == 0))] ?_
 refine kP 75 ((az s window mss) == 0) (fun h8 => ?_) (fun h8 => ?_)
 have h8p := bC h8
 refine aR [6,10,79] [(79,aB true)] <| kT <| kQ <| i8 0 [6] [(6,.p 1 0)] (.agg (aH (⟨0,(⟨#[]⟩ : ByteArray),false⟩ : Chk)).toArray) rfl (fun _ _ _ ww hr => aN [] hr.1 rfl (by kernel_rfl) (by kernel_rfl) ww) ?_
 refine aR [6,7] [(7,aB false)] <| kR ?_
 have hmod : nC s window mss = ((⟨0,(⟨#[]⟩ : ByteArray),false⟩),false) := by first | rfl | (simp [nC,af,aw, *]; done) | (simp [nC,af,aw, *]; omega) | grind [nC,af,aw]
 exact ⟨[.agg (aH (⟨0,(⟨#[]⟩ : ByteArray),false⟩ : Chk)).toArray,.bool false],by kernel_rfl,fun w' hb hf => by rw [hmod]; exact ⟨rfl,hb⟩⟩
 have h8p := bA h8
 refine aR [6,10,79] [(79,aB false)] <| kN <| kK <| kQ <| bf [6,7] [(7,aB true)] 1 ⟨107,aH (⟨ay s,s.data.extract (s.sent).toNat (s.sent + (az s window mss)).toNat,false⟩ : Chk)⟩ ?_
 refine kR ?_
 have hmod : nC s window mss = ((⟨ay s,s.data.extract (s.sent).toNat (s.sent + (az s window mss)).toNat,false⟩),true) := by first | rfl | (simp [nC,af,aw, *]; done) | (simp [nC,af,aw, *]; omega) | grind [nC,af,aw]
 exact ⟨[.agg (aH (⟨ay s,s.data.extract (s.sent).toNat (s.sent + (az s window mss)).toNat,false⟩ : Chk)).toArray,.bool true],by kernel_rfl,fun w' hb hf => by rw [hmod]; exact ⟨rfl,hb⟩⟩
 have h4n := aD h4
 refine aR [6,9,10] [] <| kS <| kQ <| cA 3 [6,10,75] [(75,aB ((az s window mss) == 0))] ?_
 refine kP 75 ((az s window mss) == 0) (fun h9 => ?_) (fun h9 => ?_)
 have h9p := bC h9
 refine aR [6,10,79] [(79,aB true)] <| kT <| kQ <| i8 0 [6] [(6,.p 1 0)] (.agg (aH (⟨0,(⟨#[]⟩ : ByteArray),false⟩ : Chk)).toArray) rfl (fun _ _ _ ww hr => aN [] hr.1 rfl (by kernel_rfl) (by kernel_rfl) ww) ?_
 refine aR [6,7] [(7,aB false)] <| kR ?_
 have hmod : nC s window mss = ((⟨0,(⟨#[]⟩ : ByteArray),false⟩),false) := by first | rfl | (simp [nC,af,aw, *]; done) | (simp [nC,af,aw, *]; omega) | grind [nC,af,aw]
 exact ⟨[.agg (aH (⟨0,(⟨#[]⟩ : ByteArray),false⟩ : Chk)).toArray,.bool false],by kernel_rfl,fun w' hb hf => by rw [hmod]; exact ⟨rfl,hb⟩⟩
 have h9p := bA h9
 refine aR [6,10,79] [(79,aB false)] <| kN <| kK <| kQ <| bf [6,7] [(7,aB true)] 1 ⟨107,aH (⟨ay s,s.data.extract (s.sent).toNat (s.sent + (az s window mss)).toNat,false⟩ : Chk)⟩ ?_
 refine kR ?_
 have hmod : nC s window mss = ((⟨ay s,s.data.extract (s.sent).toNat (s.sent + (az s window mss)).toNat,false⟩),true) := by first | rfl | (simp [nC,af,aw, *]; done) | (simp [nC,af,aw, *]; omega) | grind [nC,af,aw]
 exact ⟨[.agg (aH (⟨ay s,s.data.extract (s.sent).toNat (s.sent + (az s window mss)).toNat,false⟩ : Chk)).toArray,.bool true],by kernel_rfl,fun w' hb hf => by rw [hmod]; exact ⟨rfl,hb⟩⟩
 have h3n := aD h3
 refine aR [6,9,10] [] <| kS <| kQ <| cA 3 [6,10,75] [(75,aB ((az s window mss) == 0))] ?_
 refine kP 75 ((az s window mss) == 0) (fun h10 => ?_) (fun h10 => ?_)
 have h10p := bC h10
 refine aR [6,10,79] [(79,aB true)] <| kT <| kQ <| i8 0 [6] [(6,.p 1 0)] (.agg (aH (⟨0,(⟨#[]⟩ : ByteArray),false⟩ : Chk)).toArray) rfl (fun _ _ _ ww hr => aN [] hr.1 rfl (by kernel_rfl) (by kernel_rfl) ww) ?_
 refine aR [6,7] [(7,aB false)] <| kR ?_
 have hmod : nC s window mss = ((⟨0,(⟨#[]⟩ : ByteArray),false⟩),false) := by first | rfl | (simp [nC,af,aw, *]; done) | (simp [nC,af,aw, *]; omega) | grind [nC,af,aw]
 exact ⟨[.agg (aH (⟨0,(⟨#[]⟩ : ByteArray),false⟩ : Chk)).toArray,.bool false],by kernel_rfl,fun w' hb hf => by rw [hmod]; exact ⟨rfl,hb⟩⟩
 have h10p := bA h10
 refine aR [6,10,79] [(79,aB false)] <| kN <| kK <| kQ <| bf [6,7] [(7,aB true)] 1 ⟨107,aH (⟨ay s,s.data.extract (s.sent).toNat (s.sent + (az s window mss)).toNat,false⟩ : Chk)⟩ ?_
 refine kR ?_
 have hmod : nC s window mss = ((⟨ay s,s.data.extract (s.sent).toNat (s.sent + (az s window mss)).toNat,false⟩),true) := by first | rfl | (simp [nC,af,aw, *]; done) | (simp [nC,af,aw, *]; omega) | grind [nC,af,aw]
 exact ⟨[.agg (aH (⟨ay s,s.data.extract (s.sent).toNat (s.sent + (az s window mss)).toNat,false⟩ : Chk)).toArray,.bool true],by kernel_rfl,fun w' hb hf => by rw [hmod]; exact ⟨rfl,hb⟩⟩
 refine aR [6,9,10] [] <| kS <| kQ <| cA 3 [6,10,75] [(75,aB ((az s window mss) == 0))] ?_
 refine kP 75 ((az s window mss) == 0) (fun h11 => ?_) (fun h11 => ?_)
 have h11p := bC h11
 refine aR [6,10,79] [(79,aB true)] <| kT <| kQ <| i8 0 [6] [(6,.p 1 0)] (.agg (aH (⟨0,(⟨#[]⟩ : ByteArray),false⟩ : Chk)).toArray) rfl (fun _ _ _ ww hr => aN [] hr.1 rfl (by kernel_rfl) (by kernel_rfl) ww) ?_
 refine aR [6,7] [(7,aB false)] <| kR ?_
 have hmod : nC s window mss = ((⟨0,(⟨#[]⟩ : ByteArray),false⟩),false) := by first | rfl | (simp [nC,af,aw, *]; done) | (simp [nC,af,aw, *]; omega) | grind [nC,af,aw]
 exact ⟨[.agg (aH (⟨0,(⟨#[]⟩ : ByteArray),false⟩ : Chk)).toArray,.bool false],by kernel_rfl,fun w' hb hf => by rw [hmod]; exact ⟨rfl,hb⟩⟩
 have h11p := bA h11
 refine aR [6,10,79] [(79,aB false)] <| kN <| kK <| kQ <| bf [6,7] [(7,aB true)] 1 ⟨107,aH (⟨ay s,s.data.extract (s.sent).toNat (s.sent + (az s window mss)).toNat,false⟩ : Chk)⟩ ?_
 refine kR ?_
 have hmod : nC s window mss = ((⟨ay s,s.data.extract (s.sent).toNat (s.sent + (az s window mss)).toNat,false⟩),true) := by first | rfl | (simp [nC,af,aw, *]; done) | (simp [nC,af,aw, *]; omega) | grind [nC,af,aw]
 exact ⟨[.agg (aH (⟨ay s,s.data.extract (s.sent).toNat (s.sent + (az s window mss)).toNat,false⟩ : Chk)).toArray,.bool true],by kernel_rfl,fun w' hb hf => by rw [hmod]; exact ⟨rfl,hb⟩⟩
theorem gz (s : Snd) (c : Chk) (w : World)  : Calls Tryz.prog 91 #[.agg (ai s).toArray, .agg (aH c).toArray] w fun e w' => e = .returned (.agg (ai (sO s c)).toArray) ∧ Below w.heap.size w w' := by
 have hsf := sentS_fin s c
 refine bH (args := [.agg (ai s).toArray,.agg (aH c).toArray]) (fn := Tryz.f91) [] Tryz.func91 rfl Tryz.ntmps91 rfl (by simp) ?_
 refine kQ <| c8 [2,3,4] ⟨[(2,.p 0 0),(3,.p 1 0),(4,.p 2 0)],[⟨38,ai s⟩,⟨107,aH c⟩,⟨38,fW⟩],[],[]⟩ <| kQ <| c8 [2,3,4,5] ⟨[(2,.p 0 0),(3,.p 1 0),(4,.p 2 0),(5,.p 3 0)],[⟨38,ai s⟩,⟨107,aH c⟩,⟨38,fW⟩,⟨38,ai s⟩],[],[]⟩ ?_
 refine kQ <| c8 [2,3,4,5] ⟨[(2,.p 0 0),(3,.p 1 0),(4,.p 2 0),(5,.p 3 0)],[⟨38,ai s⟩,⟨107,aH c⟩,⟨38,fW⟩,⟨38,ai { s with sent := K6.wrap (s.sent + (c.text.size : Int)) }⟩],[],[]⟩ <| kS <| bo ⟨[(2,.p 0 0),(3,.p 1 0),(4,.p 2 0),(5,.p 3 0)],[⟨38,ai s⟩,⟨107,aH c⟩,⟨38,fW⟩,⟨38,ai { s with sent := K6.wrap (s.sent + (c.text.size : Int)),finSent := s.finSent || c.fin }⟩],[],[]⟩ ?_ ?_
 refine kG <| cR 3 [2,3,4,5,16] [(2,.p 0 0),(3,.p 1 0),(4,.p 2 0),(5,.p 3 0),(16,aB s.finSent)] <| kP 16 (s.finSent) (fun h1 => ?_) (fun h1 => ?_)
 refine c8 [2,3,4,5] ⟨[(2,.p 0 0),(3,.p 1 0),(4,.p 2 0),(5,.p 3 0)],[⟨38,ai s⟩,⟨107,aH c⟩,⟨38,fW⟩,⟨38,ai { s with sent := K6.wrap (s.sent + (c.text.size : Int)),finSent := true }⟩],[],[]⟩ ?_
 show Wk _ _
 try rw [h1]
 exact kF 4 0 [2,3,4,5]
 refine c8 [2,3,4,5] ⟨[(2,.p 0 0),(3,.p 1 0),(4,.p 2 0),(5,.p 3 0)],[⟨38,ai s⟩,⟨107,aH c⟩,⟨38,fW⟩,⟨38,ai { s with sent := K6.wrap (s.sent + (c.text.size : Int)),finSent := c.fin }⟩],[],[]⟩ ?_
 show Wk _ _
 try rw [h1]
 exact kF 4 0 [2,3,4,5]
 refine kS <| kS <| bo ⟨[(2,.p 0 0),(4,.p 2 0),(5,.p 3 0),(36,aB ((!(aa s)) || ((!(aa ({ s with sent := K6.wrap (s.sent + (c.text.size : Int)),finSent := s.finSent || c.fin }))) || (c.fin && s.done))))],[⟨38,ai s⟩,⟨107,aH c⟩,⟨38,fW⟩,⟨38,ai { s with sent := K6.wrap (s.sent + (c.text.size : Int)),finSent := s.finSent || c.fin }⟩],[],[]⟩ ?_ ?_
 refine kG <| dh 1 [2,3,4,5,21] [(2,.p 0 0),(3,.p 1 0),(4,.p 2 0),(5,.p 3 0),(21,.v (.agg (ai s).toArray))] 64 [.agg (ai s).toArray] (some 22) rfl (aA fun ww hf => eP s.una s.data s.sent s.fin s.finSent s.done ww ) ?_
 intro _
 refine cR 2 [2,3,4,5,24] [(2,.p 0 0),(3,.p 1 0),(4,.p 2 0),(5,.p 3 0),(24,aB (!(aa s)))] <| kP 24 (!(aa s)) (fun h2 => ?_) (fun h2 => ?_)
 have h2n := bg h2
 refine aJ [2,4,5,36] [(2,.p 0 0),(4,.p 2 0),(5,.p 3 0),(36,aB true)] ?_
 show Wk _ _
 try rw [h2]
 exact kF 4 0 [2,4,5,36]
 have h2n := aD h2
 have h2nb := bt (s := s) (by simpa using h2n)
 obtain ⟨h2nb0,h2nb1,h2nb2,h2nb3,h2nb4,h2nb5,h2nb6,h2nb7,h2nb8,h2nb9,h2nb10⟩ := h2nb
 refine dh 1 [2,3,4,5,24,25] [(2,.p 0 0),(3,.p 1 0),(4,.p 2 0),(5,.p 3 0),(24,aB false),(25,.v (.agg (ai { s with sent := K6.wrap (s.sent + (c.text.size : Int)),finSent := s.finSent || c.fin }).toArray))] 64 [.agg (ai { s with sent := K6.wrap (s.sent + (c.text.size : Int)),finSent := s.finSent || c.fin }).toArray] (some 26) rfl (aA fun ww hf => eP s.una s.data (K6.wrap (s.sent + (c.text.size : Int))) s.fin (s.finSent || c.fin) s.done ww ) ?_
 intro _
 refine cR 3 [2,3,4,5,29] [(2,.p 0 0),(3,.p 1 0),(4,.p 2 0),(5,.p 3 0),(29,aB (!(aa ({ s with sent := K6.wrap (s.sent + (c.text.size : Int)),finSent := s.finSent || c.fin }))))] <| kP 29 (!(aa ({ s with sent := K6.wrap (s.sent + (c.text.size : Int)),finSent := s.finSent || c.fin }))) (fun h3 => ?_) (fun h3 => ?_)
 have h3n := bg h3
 refine aJ [2,4,5,36] [(2,.p 0 0),(4,.p 2 0),(5,.p 3 0),(36,aB true)] ?_
 show Wk _ _
 try rw [h2]
 try rw [h3]
 exact kF 4 0 [2,4,5,36]
 have h3n := aD h3
 have h3nb := bt (s := ({ s with sent := K6.wrap (s.sent + (c.text.size : Int)),finSent := s.finSent || c.fin })) (by simpa using h3n)
 obtain ⟨h3nb0,h3nb1,h3nb2,h3nb3,h3nb4,h3nb5,h3nb6,h3nb7,h3nb8,h3nb9,h3nb10⟩ := h3nb
 refine cR 3 [2,4,5,29,32] [(2,.p 0 0),(4,.p 2 0),(5,.p 3 0),(29,aB false),(32,aB c.fin)] <| kP 32 (c.fin) (fun h4 => ?_) (fun h4 => ?_)
 refine aJ [2,4,5,36] [(2,.p 0 0),(4,.p 2 0),(5,.p 3 0),(36,aB s.done)] ?_
 show Wk _ _
 try rw [h2]
 try rw [h3]
 try rw [h4]
 exact kF 4 0 [2,4,5,36]
 refine aJ [2,4,5,36] [(2,.p 0 0),(4,.p 2 0),(5,.p 3 0),(36,aB false)] ?_
 show Wk _ _
 try rw [h2]
 try rw [h3]
 try rw [h4]
 exact kF 4 0 [2,4,5,36]
 refine kC ((!(aa s)) || ((!(aa ({ s with sent := K6.wrap (s.sent + (c.text.size : Int)),finSent := s.finSent || c.fin }))) || (c.fin && s.done))) (fun h5 => ?_) (fun h5 => ?_)
 refine kQ <| c8 [4] ⟨[(4,.p 2 0)],[⟨38,ai s⟩,⟨107,aH c⟩,⟨38,ai s⟩,⟨38,ai { s with sent := K6.wrap (s.sent + (c.text.size : Int)),finSent := s.finSent || c.fin }⟩],[],[]⟩ <| kR ?_
 have hmod : sO s c = s := by first | rfl | (simp [sO,gE, *]; done) | grind [sO,gE]
 exact ⟨[.agg (ai s).toArray],by kernel_rfl,fun w' hb hf => by rw [hmod]; exact ⟨rfl,hb⟩⟩
 have h5l := eA h5
 have h5ln := aD h5l
 have h5lnb := bt (s := s) (by simpa using h5ln)
 obtain ⟨h5lnb0,h5lnb1,h5lnb2,h5lnb3,h5lnb4,h5lnb5,h5lnb6,h5lnb7,h5lnb8,h5lnb9,h5lnb10⟩ := h5lnb
 have h5r := f6 h5
 have h5rl := eA h5r
 have h5rln := aD h5rl
 have h5rlnb := bt (s := ({ s with sent := K6.wrap (s.sent + (c.text.size : Int)),finSent := s.finSent || c.fin })) (by simpa using h5rln)
 obtain ⟨h5rlnb0,h5rlnb1,h5rlnb2,h5rlnb3,h5rlnb4,h5rlnb5,h5rlnb6,h5rlnb7,h5rlnb8,h5rlnb9,h5rlnb10⟩ := h5rlnb
 have h5rr := f6 h5r
 refine kK <| kQ <| c8 [4] ⟨[(4,.p 2 0)],[⟨38,ai s⟩,⟨107,aH c⟩,⟨38,ai { s with sent := K6.wrap (s.sent + (c.text.size : Int)),finSent := s.finSent || c.fin }⟩,⟨38,ai { s with sent := K6.wrap (s.sent + (c.text.size : Int)),finSent := s.finSent || c.fin }⟩],[],[]⟩ <| kR ?_
 have hmod : sO s c = ({ s with sent := K6.wrap (s.sent + (c.text.size : Int)),finSent := s.finSent || c.fin }) := by first | rfl | (simp [sO,gE, *]; done) | grind [sO,gE]
 exact ⟨[.agg (ai { s with sent := K6.wrap (s.sent + (c.text.size : Int)),finSent := s.finSent || c.fin }).toArray],by kernel_rfl,fun w' hb hf => by rw [hmod]; exact ⟨rfl,hb⟩⟩
theorem gX (s : Snd) (text : ByteArray) (w : World) (hts : text.size ≤ 4611686018427387904) : Calls Tryz.prog 163 #[.agg (ai s).toArray, .string text] w fun e w' => e = .returned (.tuple #[.agg (ai (bk s text).1).toArray, iI ((bk s text).2)]) ∧ Below w.heap.size w w' := by
 refine bH (args := [.agg (ai s).toArray,.string text]) (fn := Tryz.f163) [] Tryz.func163 rfl Tryz.ntmps163 rfl (by simp) ?_
 refine kQ <| c8 [1,2,4] ⟨[(1,.v (.string text)),(2,.p 0 0),(4,.p 1 0)],[⟨38,ai s⟩,⟨38,fW⟩],[],[]⟩ <| kS <| kQ <| dy 1 [1,2,4,7] [(7,.v (.agg (ai s).toArray))] 64 [.agg (ai s).toArray] (some 8) rfl (aA fun ww hf => eP s.una s.data s.sent s.fin s.finSent s.done ww ) ?_
 intro _
 refine cA 2 [1,2,4,10] [(10,aB (!(aa s)))] <| kP 10 (!(aa s)) (fun h1 => ?_) (fun h1 => ?_)
 have h1n := bg h1
 refine aR [1,2,4,13] [(13,aB true)] <| kT <| kQ <| bf [4,5] [(5,aI 0)] 1 ⟨38,ai s⟩ ?_
 refine kR ?_
 have hmod : bk s text = (s,0) := by first | rfl | (simp [bk, *]; done) | grind [bk]
 exact ⟨[.agg (ai s).toArray,iI 0],by kernel_rfl,fun w' hb hf => by rw [hmod]; exact ⟨rfl,hb⟩⟩
 have h1n := aD h1
 have h1nb := bt (s := s) (by simpa using h1n)
 obtain ⟨h1nb0,h1nb1,h1nb2,h1nb3,h1nb4,h1nb5,h1nb6,h1nb7,h1nb8,h1nb9,h1nb10⟩ := h1nb
 refine aR [1,2,4,13] [(13,aB s.fin)] <| kC (s.fin) (fun h2 => ?_) (fun h2 => ?_)
 refine kQ <| bf [4,5] [(5,aI 0)] 1 ⟨38,ai s⟩ <| kR ?_
 have hmod : bk s text = (s,0) := by first | rfl | (simp [bk, *]; done) | grind [bk]
 exact ⟨[.agg (ai s).toArray,iI 0],by kernel_rfl,fun w' hb hf => by rw [hmod]; exact ⟨rfl,hb⟩⟩
 refine kK <| kQ <| dy 6 [1,2,4,16,20] [(16,aI (text.size : Int)),(20,aI (K6.wrap (48 - (s.data.size : Int))))] 75 [iI (text.size : Int),iI (K6.wrap (48 - (s.data.size : Int)))] (some 21) rfl (bM fun ww hf => go (text.size : Int) (K6.wrap (48 - (s.data.size : Int))) ww ) ?_
 intro _
 refine cA 1 [1,2,4,6] [(6,aI (min (text.size : Int) (K6.wrap (48 - (s.data.size : Int)))))] <| cJ [1,2,4,6] [(6,aI (min (text.size : Int) (K6.wrap (48 - (s.data.size : Int)))))] [(6,aI (min (text.size : Int) (48 - (s.data.size : Int))))] (by rw [show (K6.wrap (48 - (s.data.size : Int))) = (48 - (s.data.size : Int)) from ab (by omega) (by omega)]) (by kernel_rfl) ?_
 refine aR [1,2,4,6] [] <| kS <| cm [false,true] (by kernel_rfl) (fun ρ σ => ?_)
 refine ca [0,2,3] [25,24,22,2,4,6] 5 [(25,aI (min (text.size : Int) (48 - (s.data.size : Int)))),(24,.v (.string text)),(22,.p 0 1),(2,.p 0 0),(4,.p 1 0),(6,aI (min (text.size : Int) (48 - (s.data.size : Int))))] <| kX 4 (.string (text.extract 0 (min (text.size : Int) (48 - (s.data.size : Int))).toNat)) rfl (fun _ _ ww hA => act_slS0 (min (text.size : Int) (48 - (s.data.size : Int))) hA rfl (by kernel_rfl) rfl rfl (by omega) (by omega) ww) ?_
 refine kA [1] <| fV 1 (.v (.string s.data)) rfl <| kX 5 (.string (s.data ++ (text.extract 0 (min (text.size : Int) (48 - (s.data.size : Int))).toNat))) rfl (fun _ _ ww hA => cj hA rfl (by kernel_rfl) (by kernel_rfl) (gk (by first | omega | (simp only [ByteArray.size_extract]; omega)) ww)) ?_
 refine ca [6] [28,27,2,4,6] 1 [(28,.p 0 1),(27,.v (.string (s.data ++ (text.extract 0 (min (text.size : Int) (48 - (s.data.size : Int))).toNat)))),(2,.p 0 0),(4,.p 1 0),(6,aI (min (text.size : Int) (48 - (s.data.size : Int))))] <| kA [7] <| e8 7 0 1 [.string (s.data ++ (text.extract 0 (min (text.size : Int) (48 - (s.data.size : Int))).toNat))] rfl <| kZ <| kQ <| bf [4,5] [(5,aI (min (text.size : Int) (48 - (s.data.size : Int))))] 1 ⟨38,ai { s with data := s.data ++ (text.extract 0 (min (text.size : Int) (48 - (s.data.size : Int))).toNat) }⟩ ?_
 refine kR ?_
 have hmod : bk s text = (({ s with data := s.data ++ (text.extract 0 (min (text.size : Int) (48 - (s.data.size : Int))).toNat) }),(min (text.size : Int) (48 - (s.data.size : Int)))) := by first | rfl | (simp [bk, *]; done) | grind [bk]
 exact ⟨[.agg (ai { s with data := s.data ++ (text.extract 0 (min (text.size : Int) (48 - (s.data.size : Int))).toNat) }).toArray,iI (min (text.size : Int) (48 - (s.data.size : Int)))],by kernel_rfl,fun w' hb hf => by rw [hmod]; exact ⟨rfl,hb⟩⟩
theorem hP (s : Snd) (window : Int) (mss : Int) (w : World) (hwi : -9223372036854775808 ≤ window ∧ window ≤ 9223372036854775807) : Calls Tryz.prog 101 #[.agg (ai s).toArray, iI window, iI mss] w fun e w' => e = .returned (.tuple #[.agg (aH (nC s window mss).1).toArray, .bool ((nC s window mss).2)]) ∧ Below w.heap.size w w' := by
 refine bH (args := [.agg (ai s).toArray,iI window,iI mss]) (fn := Tryz.f101) [] Tryz.func101 rfl Tryz.ntmps101 rfl (by simp) ?_
 refine kQ <| c8 [1,2,3,6] ⟨[(1,aI window),(2,aI mss),(3,.p 0 0),(6,.p 1 0)],[⟨38,ai s⟩,⟨107,aH (⟨0,(⟨#[]⟩ : ByteArray),false⟩ : Chk)⟩],[],[]⟩ <| kS <| kQ <| dy 1 [1,2,3,6,12] [(12,.v (.agg (ai s).toArray))] 59 [.agg (ai s).toArray] (some 13) rfl (aA fun ww hf => fA s.una s.data s.sent s.fin s.finSent s.done ww ) ?_
 intro _
 refine aR [1,2,3,6,14] [(14,aB (!(aa s)))] <| kC (!(aa s)) (fun h1 => ?_) (fun h1 => ?_)
 have hsn := bg h1
 refine kQ <| i8 0 [6] [(6,.p 1 0)] (.agg (aH (⟨0,(⟨#[]⟩ : ByteArray),false⟩ : Chk)).toArray) rfl (fun _ _ _ ww hr => aN [] hr.1 rfl (by kernel_rfl) (by kernel_rfl) ww) ?_
 refine aR [6,7] [(7,aB false)] <| kR ?_
 have hmod : nC s window mss = ((⟨0,(⟨#[]⟩ : ByteArray),false⟩),false) := by first | rfl | (simp [nC,af,aw, *]; done) | (simp [nC,af,aw, *]; omega) | grind [nC,af,aw]
 exact ⟨[.agg (aH (⟨0,(⟨#[]⟩ : ByteArray),false⟩ : Chk)).toArray,.bool false],by kernel_rfl,fun w' hb hf => by rw [hmod]; exact ⟨rfl,hb⟩⟩
 have h1b := bt (s := s) (by simpa using h1)
 obtain ⟨h1b0,h1b1,h1b2,h1b3,h1b4,h1b5,h1b6,h1b7,h1b8,h1b9,h1b10⟩ := h1b
 have hsn := aD h1
 obtain ⟨c0,c1,c2,c3,c4⟩ := fq (window := window) (mss := mss) hsn
 have hez := rest_size hsn; have hwl := wnd_lt (window := window) (mss := mss) hsn; have hcj := chunkN_j (window := window) (mss := mss) hsn; have hxt := chunk_ext (window := window) (mss := mss) hsn; have hte := chunk_nil (window := window) (mss := mss) hsn
 refine kK <| kQ <| fh 1 [2,3,6,16] [(16,aI window)] (iI (max window (-1))) rfl (fun _ _ _ ww hr => act_max2 (k := .i64) (k' := .i64) (p := window) (q := (-1)) hr.1 rfl rfl rfl (by kernel_rfl) (by kernel_rfl) ww) ?_
 refine dy 1 [2,3,6,17,18] [(18,.v (.agg (ai s).toArray))] 71 [.agg (ai s).toArray] (some 19) rfl (aA fun ww hf => gU s.una s.data s.sent s.fin s.finSent s.done ww ) ?_
 intro _
 refine cR 2 [2,3,6,8] [(2,aI mss),(3,.p 0 0),(6,.p 1 0),(8,aI (K6.wrap ((max window (-1)) - (aj s))))] <| dg (t' := [(2,aI mss),(3,.p 0 0),(6,.p 1 0),(8,aI ((max window (-1)) - (aj s)))]) (by rw [show (K6.wrap ((max window (-1)) - (aj s))) = ((max window (-1)) - (aj s)) from ab (by omega) (by omega)]) ?_
 refine aR [2,3,6,8] [] <| kQ <| fh 4 [2,3,6,8,22,24] [(22,.v (.string s.data)),(24,aI s.sent)] (.string (s.data.extract (s.sent).toNat s.data.size)) rfl (fun _ _ _ ww hr => act_slSe (s.sent) hr.1 rfl (by kernel_rfl) rfl rfl (by omega) (by omega) ww) ?_
 refine aR [2,3,6,8,9] [(9,.v (.string (s.data.extract (s.sent).toNat s.data.size)))] <| kQ <| fh 4 [3,6,8,9,27,28,29] [(27,aI ((s.data.extract (s.sent).toNat s.data.size).size : Int)),(28,aI mss),(29,aI ((max window (-1)) - (aj s)))] (iI (min (min ((s.data.extract (s.sent).toNat s.data.size).size : Int) mss) ((max window (-1)) - (aj s)))) rfl (fun _ _ _ ww hr => act_min3 (k := .i64) (k' := .i64) (k'' := .i64) (p := ((s.data.extract (s.sent).toNat s.data.size).size : Int)) (q := mss) (r := (max window (-1)) - (aj s)) hr.1 rfl rfl rfl (by kernel_rfl) (by kernel_rfl) (by kernel_rfl) ww) ?_
 refine fh 0 [3,6,8,9,30] [] (iI (max 0 (min (min ((s.data.extract (s.sent).toNat s.data.size).size : Int) mss) ((max window (-1)) - (aj s))))) rfl (fun _ _ _ ww hr => act_max2 (k := .i64) (k' := .i64) (p := 0) (q := min (min ((s.data.extract (s.sent).toNat s.data.size).size : Int) mss) ((max window (-1)) - (aj s))) hr.1 rfl rfl rfl (by kernel_rfl) (by kernel_rfl) ww) ?_
 refine cR 1 [3,6,8,9,10] [(3,.p 0 0),(6,.p 1 0),(8,aI ((max window (-1)) - (aj s))),(9,.v (.string (s.data.extract (s.sent).toNat s.data.size))),(10,aI (max 0 (min (min ((s.data.extract (s.sent).toNat s.data.size).size : Int) mss) ((max window (-1)) - (aj s)))))] <| dg (t' := [(3,.p 0 0),(6,.p 1 0),(8,aI ((max window (-1)) - (aj s))),(9,.v (.string (s.data.extract (s.sent).toNat s.data.size))),(10,aI (az s window mss))]) (by rw [show ((s.data.extract (s.sent).toNat s.data.size).size : Int) = ((s.data.size : Int) - s.sent) from hez,show (max 0 (min (min ((s.data.size : Int) - s.sent) mss) ((max window (-1)) - (aj s)))) = (az s window mss) from hcj]) ?_
 refine aR [3,6,8,9,10] [] <| kS <| cm [] (by kernel_rfl) (fun ρ σ => ?_)
 refine ca [0,2,3,5,6] [38,35,34,32,3,6,8,9,10] 26 [(38,aB s.fin),(35,aI (az s window mss)),(34,.v (.string (s.data.extract (s.sent).toNat s.data.size))),(32,.v (.agg (ai s).toArray)),(3,.p 0 0),(6,.p 1 0),(8,aI ((max window (-1)) - (aj s))),(9,.v (.string (s.data.extract (s.sent).toNat s.data.size))),(10,aI (az s window mss))] <| kX 4 (.string ((s.data.extract (s.sent).toNat s.data.size).extract 0 (az s window mss).toNat)) rfl (fun _ _ ww hA => act_slS0 (az s window mss) hA rfl (by kernel_rfl) rfl rfl (by omega) (by omega) ww) ?_
 refine fb (t := [(36,.v (.string ((s.data.extract (s.sent).toNat s.data.size).extract 0 (az s window mss).toNat))),(38,aB s.fin),(35,aI (az s window mss)),(34,.v (.string (s.data.extract (s.sent).toNat s.data.size))),(32,.v (.agg (ai s).toArray)),(3,.p 0 0),(6,.p 1 0),(8,aI ((max window (-1)) - (aj s))),(9,.v (.string (s.data.extract (s.sent).toNat s.data.size))),(10,aI (az s window mss))]) (t' := [(36,.v (.string (s.data.extract (s.sent).toNat (s.sent + az s window mss).toNat))),(38,aB s.fin),(35,aI (az s window mss)),(34,.v (.string (s.data.extract (s.sent).toNat s.data.size))),(32,.v (.agg (ai s).toArray)),(3,.p 0 0),(6,.p 1 0),(8,aI ((max window (-1)) - (aj s))),(9,.v (.string (s.data.extract (s.sent).toNat s.data.size))),(10,aI (az s window mss))]) (by rw [show ((s.data.extract (s.sent).toNat s.data.size).extract 0 (az s window mss).toNat) = (s.data.extract (s.sent).toNat (s.sent + az s window mss).toNat) from hxt]) ?_
 refine kA [1,29] ⟨?_,?_⟩
 refine dr 1 99 [.agg (ai s).toArray] (some 33) rfl (aA fun ww hf => iNextOf_c s.una s.data s.sent s.fin s.finSent s.done ww ) ?_
 intro _
 refine ca [7] [39,33,36,3,6,8,9,10] 23 [(39,aB s.fin),(33,aI (ay s)),(36,.v (.string (s.data.extract (s.sent).toNat (s.sent + az s window mss).toNat))),(3,.p 0 0),(6,.p 1 0),(8,aI ((max window (-1)) - (aj s))),(9,.v (.string (s.data.extract (s.sent).toNat s.data.size))),(10,aI (az s window mss))] <| kY 39 (s.fin) (fun h2 => ?_) (fun h2 => ?_)
 refine ca [8,9,10,11,12] [44,33,36,3,6,8,9,10] 18 [(44,aB (!s.finSent)),(33,aI (ay s)),(36,.v (.string (s.data.extract (s.sent).toNat (s.sent + az s window mss).toNat))),(3,.p 0 0),(6,.p 1 0),(8,aI ((max window (-1)) - (aj s))),(9,.v (.string (s.data.extract (s.sent).toNat s.data.size))),(10,aI (az s window mss))] <| kY 44 (!s.finSent) (fun h3 => ?_) (fun h3 => ?_)
 have h3n := bg h3
 refine ca [13,14,15,16,17] [49,33,36,6,8,9,10] 13 [(49,aB (!s.done)),(33,aI (ay s)),(36,.v (.string (s.data.extract (s.sent).toNat (s.sent + az s window mss).toNat))),(6,.p 1 0),(8,aI ((max window (-1)) - (aj s))),(9,.v (.string (s.data.extract (s.sent).toNat s.data.size))),(10,aI (az s window mss))] <| kY 49 (!s.done) (fun h4 => ?_) (fun h4 => ?_)
 have h4n := bg h4
 refine ca [18,19,20,21,22,23] [55,33,36,6,8,10] 7 [(55,aB ((az s window mss) == ((s.data.extract (s.sent).toNat s.data.size).size : Int))),(33,aI (ay s)),(36,.v (.string (s.data.extract (s.sent).toNat (s.sent + az s window mss).toNat))),(6,.p 1 0),(8,aI ((max window (-1)) - (aj s))),(10,aI (az s window mss))] <| fb (t := [(55,aB ((az s window mss) == ((s.data.extract (s.sent).toNat s.data.size).size : Int))),(33,aI (ay s)),(36,.v (.string (s.data.extract (s.sent).toNat (s.sent + az s window mss).toNat))),(6,.p 1 0),(8,aI ((max window (-1)) - (aj s))),(10,aI (az s window mss))]) (t' := [(55,aB ((az s window mss) == ((s.data.size : Int) - s.sent))),(33,aI (ay s)),(36,.v (.string (s.data.extract (s.sent).toNat (s.sent + az s window mss).toNat))),(6,.p 1 0),(8,aI ((max window (-1)) - (aj s))),(10,aI (az s window mss))]) (by rw [show ((s.data.extract (s.sent).toNat s.data.size).size : Int) = ((s.data.size : Int) - s.sent) from hez]) ?_
 refine kY 55 ((az s window mss) == ((s.data.size : Int) - s.sent)) (fun h5 => ?_) (fun h5 => ?_)
 have h5p := bC h5
 refine ca [24,25,26,27] [59,33,36,6] 3 [(59,aB (decide (((max window (-1)) - (aj s)) > (az s window mss)))),(33,aI (ay s)),(36,.v (.string (s.data.extract (s.sent).toNat (s.sent + az s window mss).toNat))),(6,.p 1 0)] <| kX 28 (.agg (aH (⟨ay s,s.data.extract (s.sent).toNat (s.sent + az s window mss).toNat,decide (((max window (-1)) - (aj s)) > (az s window mss))⟩ : Chk)).toArray) rfl (fun _ _ ww hA => aN [(0,iI (ay s)),(1,.string (s.data.extract (s.sent).toNat (s.sent + az s window mss).toNat)),(2,.bool (decide (((max window (-1)) - (aj s)) > (az s window mss))))] hA rfl (by kernel_rfl) (by kernel_rfl) ww) ?_
 refine kA [29] <| cK 29 ⟨107,aH (⟨0,(⟨#[]⟩ : ByteArray),false⟩ : Chk)⟩ _ rfl (by kernel_rfl) (by kernel_rfl) (by kernel_rfl) (by kernel_rfl) rfl ?_
 refine kA [30] <| e8 30 2 0 (aH (⟨ay s,s.data.extract (s.sent).toNat (s.sent + az s window mss).toNat,decide (((max window (-1)) - (aj s)) > (az s window mss))⟩ : Chk)) rfl <| kZ <| kS <| kQ <| cR 4 [6,11,64] [(6,.p 1 0),(11,.p 2 0),(64,aB ((s.data.extract (s.sent).toNat (s.sent + az s window mss).toNat).toList == (⟨#[]⟩ : ByteArray).toList))] ?_
 refine dg (t' := [(6,.p 1 0),(11,.p 2 0),(64,aB (az s window mss == 0))]) (by rw [show ((s.data.extract (s.sent).toNat (s.sent + az s window mss).toNat).toList == (⟨#[]⟩ : ByteArray).toList) = (az s window mss == 0) from hte]) ?_
 refine kP 64 (az s window mss == 0) (fun h6 => ?_) (fun h6 => ?_)
 have h6p := bC h6
 refine aR [6,11,68] [(68,aB (!(decide (((max window (-1)) - (aj s)) > (az s window mss)))))] <| kC (!(decide (((max window (-1)) - (aj s)) > (az s window mss)))) (fun h7 => ?_) (fun h7 => ?_)
 have h7n := bg h7
 refine kQ <| i8 0 [6] [(6,.p 1 0)] (.agg (aH (⟨0,(⟨#[]⟩ : ByteArray),false⟩ : Chk)).toArray) rfl (fun _ _ _ ww hr => aN [] hr.1 rfl (by kernel_rfl) (by kernel_rfl) ww) ?_
 refine aR [6,7] [(7,aB false)] <| kR ?_
 have hmod : nC s window mss = ((⟨0,(⟨#[]⟩ : ByteArray),false⟩),false) := by first | rfl | (simp [nC,af,aw, *]; done) | (simp [nC,af,aw, *]; omega) | grind [nC,af,aw]
 exact ⟨[.agg (aH (⟨0,(⟨#[]⟩ : ByteArray),false⟩ : Chk)).toArray,.bool false],by kernel_rfl,fun w' hb hf => by rw [hmod]; exact ⟨rfl,hb⟩⟩
 have h7n := aD h7
 refine kK <| kQ <| bf [6,7] [(7,aB true)] 1 ⟨107,aH (⟨ay s,s.data.extract (s.sent).toNat (s.sent + az s window mss).toNat,decide (((max window (-1)) - (aj s)) > (az s window mss))⟩ : Chk)⟩ <| kR ?_
 have hmod : nC s window mss = ((⟨ay s,s.data.extract (s.sent).toNat (s.sent + az s window mss).toNat,decide (((max window (-1)) - (aj s)) > (az s window mss))⟩),true) := by first | rfl | (simp [nC,af,aw, *]; done) | (simp [nC,af,aw, *]; omega) | grind [nC,af,aw]
 exact ⟨[.agg (aH (⟨ay s,s.data.extract (s.sent).toNat (s.sent + az s window mss).toNat,decide (((max window (-1)) - (aj s)) > (az s window mss))⟩ : Chk)).toArray,.bool true],by kernel_rfl,fun w' hb hf => by rw [hmod]; exact ⟨rfl,hb⟩⟩
 have h6p := bA h6
 refine aR [6,11,68] [(68,aB false)] <| kN <| kK <| kQ <| bf [6,7] [(7,aB true)] 1 ⟨107,aH (⟨ay s,s.data.extract (s.sent).toNat (s.sent + az s window mss).toNat,decide (((max window (-1)) - (aj s)) > (az s window mss))⟩ : Chk)⟩ ?_
 refine kR ?_
 have hmod : nC s window mss = ((⟨ay s,s.data.extract (s.sent).toNat (s.sent + az s window mss).toNat,decide (((max window (-1)) - (aj s)) > (az s window mss))⟩),true) := by first | rfl | (simp [nC,af,aw, *]; done) | (simp [nC,af,aw, *]; omega) | grind [nC,af,aw]
 exact ⟨[.agg (aH (⟨ay s,s.data.extract (s.sent).toNat (s.sent + az s window mss).toNat,decide (((max window (-1)) - (aj s)) > (az s window mss))⟩ : Chk)).toArray,.bool true],by kernel_rfl,fun w' hb hf => by rw [hmod]; exact ⟨rfl,hb⟩⟩
 have h5p := bA h5
 refine ca [24,25,26,27] [59,33,36,6] 3 [(59,aB false),(33,aI (ay s)),(36,.v (.string (s.data.extract (s.sent).toNat (s.sent + az s window mss).toNat))),(6,.p 1 0)] <| kX 28 (.agg (aH (⟨ay s,s.data.extract (s.sent).toNat (s.sent + az s window mss).toNat,false⟩ : Chk)).toArray) rfl (fun _ _ ww hA => aN [(0,iI (ay s)),(1,.string (s.data.extract (s.sent).toNat (s.sent + az s window mss).toNat)),(2,.bool false)] hA rfl (by kernel_rfl) (by kernel_rfl) ww) ?_
 refine kA [29] <| cK 29 ⟨107,aH (⟨0,(⟨#[]⟩ : ByteArray),false⟩ : Chk)⟩ _ rfl (by kernel_rfl) (by kernel_rfl) (by kernel_rfl) (by kernel_rfl) rfl ?_
 refine kA [30] <| e8 30 2 0 (aH (⟨ay s,s.data.extract (s.sent).toNat (s.sent + az s window mss).toNat,false⟩ : Chk)) rfl <| kZ <| kS <| kQ <| cR 4 [6,11,64] [(6,.p 1 0),(11,.p 2 0),(64,aB ((s.data.extract (s.sent).toNat (s.sent + az s window mss).toNat).toList == (⟨#[]⟩ : ByteArray).toList))] ?_
 refine dg (t' := [(6,.p 1 0),(11,.p 2 0),(64,aB (az s window mss == 0))]) (by rw [show ((s.data.extract (s.sent).toNat (s.sent + az s window mss).toNat).toList == (⟨#[]⟩ : ByteArray).toList) = (az s window mss == 0) from hte]) ?_
 refine kP 64 (az s window mss == 0) (fun h8 => ?_) (fun h8 => ?_)
 have h8p := bC h8
 refine aR [6,11,68] [(68,aB true)] <| kT <| kQ <| i8 0 [6] [(6,.p 1 0)] (.agg (aH (⟨0,(⟨#[]⟩ : ByteArray),false⟩ : Chk)).toArray) rfl (fun _ _ _ ww hr => aN [] hr.1 rfl (by kernel_rfl) (by kernel_rfl) ww) ?_
 refine aR [6,7] [(7,aB false)] <| kR ?_
 have hmod : nC s window mss = ((⟨0,(⟨#[]⟩ : ByteArray),false⟩),false) := by first | rfl | (simp [nC,af,aw, *]; done) | (simp [nC,af,aw, *]; omega) | grind [nC,af,aw]
 exact ⟨[.agg (aH (⟨0,(⟨#[]⟩ : ByteArray),false⟩ : Chk)).toArray,.bool false],by kernel_rfl,fun w' hb hf => by rw [hmod]; exact ⟨rfl,hb⟩⟩
 have h8p := bA h8
 refine aR [6,11,68] [(68,aB false)] <| kN <| kK <| kQ <| bf [6,7] [(7,aB true)] 1 ⟨107,aH (⟨ay s,s.data.extract (s.sent).toNat (s.sent + az s window mss).toNat,false⟩ : Chk)⟩ ?_
 refine kR ?_
 have hmod : nC s window mss = ((⟨ay s,s.data.extract (s.sent).toNat (s.sent + az s window mss).toNat,false⟩),true) := by first | rfl | (simp [nC,af,aw, *]; done) | (simp [nC,af,aw, *]; omega) | grind [nC,af,aw]
 exact ⟨[.agg (aH (⟨ay s,s.data.extract (s.sent).toNat (s.sent + az s window mss).toNat,false⟩ : Chk)).toArray,.bool true],by kernel_rfl,fun w' hb hf => by rw [hmod]; exact ⟨rfl,hb⟩⟩
 have h4n := aD h4
 refine ca [18,19,20,21,22,23,24,25,26,27] [59,33,36,6] 3 [(59,aB false),(33,aI (ay s)),(36,.v (.string (s.data.extract (s.sent).toNat (s.sent + az s window mss).toNat))),(6,.p 1 0)] <| kX 28 (.agg (aH (⟨ay s,s.data.extract (s.sent).toNat (s.sent + az s window mss).toNat,false⟩ : Chk)).toArray) rfl (fun _ _ ww hA => aN [(0,iI (ay s)),(1,.string (s.data.extract (s.sent).toNat (s.sent + az s window mss).toNat)),(2,.bool false)] hA rfl (by kernel_rfl) (by kernel_rfl) ww) ?_
 refine kA [29] <| cK 29 ⟨107,aH (⟨0,(⟨#[]⟩ : ByteArray),false⟩ : Chk)⟩ _ rfl (by kernel_rfl) (by kernel_rfl) (by kernel_rfl) (by kernel_rfl) rfl ?_
 refine kA [30] <| e8 30 2 0 (aH (⟨ay s,s.data.extract (s.sent).toNat (s.sent + az s window mss).toNat,false⟩ : Chk)) rfl <| kZ <| kS <| kQ <| cR 4 [6,11,64] [(6,.p 1 0),(11,.p 2 0),(64,aB ((s.data.extract (s.sent).toNat (s.sent + az s window mss).toNat).toList == (⟨#[]⟩ : ByteArray).toList))] ?_
 refine dg (t' := [(6,.p 1 0),(11,.p 2 0),(64,aB (az s window mss == 0))]) (by rw [show ((s.data.extract (s.sent).toNat (s.sent + az s window mss).toNat).toList == (⟨#[]⟩ : ByteArray).toList) = (az s window mss == 0) from hte]) ?_
 refine kP 64 (az s window mss == 0) (fun h9 => ?_) (fun h9 => ?_)
 have h9p := bC h9
 refine aR [6,11,68] [(68,aB true)] <| kT <| kQ <| i8 0 [6] [(6,.p 1 0)] (.agg (aH (⟨0,(⟨#[]⟩ : ByteArray),false⟩ : Chk)).toArray) rfl (fun _ _ _ ww hr => aN [] hr.1 rfl (by kernel_rfl) (by kernel_rfl) ww) ?_
 refine aR [6,7] [(7,aB false)] <| kR ?_
 have hmod : nC s window mss = ((⟨0,(⟨#[]⟩ : ByteArray),false⟩),false) := by first | rfl | (simp [nC,af,aw, *]; done) | (simp [nC,af,aw, *]; omega) | grind [nC,af,aw]
 exact ⟨[.agg (aH (⟨0,(⟨#[]⟩ : ByteArray),false⟩ : Chk)).toArray,.bool false],by kernel_rfl,fun w' hb hf => by rw [hmod]; exact ⟨rfl,hb⟩⟩
 have h9p := bA h9
 refine aR [6,11,68] [(68,aB false)] <| kN <| kK <| kQ <| bf [6,7] [(7,aB true)] 1 ⟨107,aH (⟨ay s,s.data.extract (s.sent).toNat (s.sent + az s window mss).toNat,false⟩ : Chk)⟩ ?_
 refine kR ?_
 have hmod : nC s window mss = ((⟨ay s,s.data.extract (s.sent).toNat (s.sent + az s window mss).toNat,false⟩),true) := by first | rfl | (simp [nC,af,aw, *]; done) | (simp [nC,af,aw, *]; omega) | grind [nC,af,aw]
 exact ⟨[.agg (aH (⟨ay s,s.data.extract (s.sent).toNat (s.sent + az s window mss).toNat,false⟩ : Chk)).toArray,.bool true],by kernel_rfl,fun w' hb hf => by rw [hmod]; exact ⟨rfl,hb⟩⟩
 have h3n := aD h3
 refine ca [13,14,15,16,17,18,19,20,21,22,23,24,25,26,27] [59,33,36,6] 3 [(59,aB false),(33,aI (ay s)),(36,.v (.string (s.data.extract (s.sent).toNat (s.sent + az s window mss).toNat))),(6,.p 1 0)] <| kX 28 (.agg (aH (⟨ay s,s.data.extract (s.sent).toNat (s.sent + az s window mss).toNat,false⟩ : Chk)).toArray) rfl (fun _ _ ww hA => aN [(0,iI (ay s)),(1,.string (s.data.extract (s.sent).toNat (s.sent + az s window mss).toNat)),(2,.bool false)] hA rfl (by kernel_rfl) (by kernel_rfl) ww) ?_
 refine kA [29] <| cK 29 ⟨107,aH (⟨0,(⟨#[]⟩ : ByteArray),false⟩ : Chk)⟩ _ rfl (by kernel_rfl) (by kernel_rfl) (by kernel_rfl) (by kernel_rfl) rfl ?_
 refine kA [30] <| e8 30 2 0 (aH (⟨ay s,s.data.extract (s.sent).toNat (s.sent + az s window mss).toNat,false⟩ : Chk)) rfl <| kZ <| kS <| kQ <| cR 4 [6,11,64] [(6,.p 1 0),(11,.p 2 0),(64,aB ((s.data.extract (s.sent).toNat (s.sent + az s window mss).toNat).toList == (⟨#[]⟩ : ByteArray).toList))] ?_
 refine dg (t' := [(6,.p 1 0),(11,.p 2 0),(64,aB (az s window mss == 0))]) (by rw [show ((s.data.extract (s.sent).toNat (s.sent + az s window mss).toNat).toList == (⟨#[]⟩ : ByteArray).toList) = (az s window mss == 0) from hte]) ?_
 refine kP 64 (az s window mss == 0) (fun h10 => ?_) (fun h10 => ?_)
 have h10p := bC h10
 refine aR [6,11,68] [(68,aB true)] <| kT <| kQ <| i8 0 [6] [(6,.p 1 0)] (.agg (aH (⟨0,(⟨#[]⟩ : ByteArray),false⟩ : Chk)).toArray) rfl (fun _ _ _ ww hr => aN [] hr.1 rfl (by kernel_rfl) (by kernel_rfl) ww) ?_
 refine aR [6,7] [(7,aB false)] <| kR ?_
 have hmod : nC s window mss = ((⟨0,(⟨#[]⟩ : ByteArray),false⟩),false) := by first | rfl | (simp [nC,af,aw, *]; done) | (simp [nC,af,aw, *]; omega) | grind [nC,af,aw]
 exact ⟨[.agg (aH (⟨0,(⟨#[]⟩ : ByteArray),false⟩ : Chk)).toArray,.bool false],by kernel_rfl,fun w' hb hf => by rw [hmod]; exact ⟨rfl,hb⟩⟩
 have h10p := bA h10
 refine aR [6,11,68] [(68,aB false)] <| kN <| kK <| kQ <| bf [6,7] [(7,aB true)] 1 ⟨107,aH (⟨ay s,s.data.extract (s.sent).toNat (s.sent + az s window mss).toNat,false⟩ : Chk)⟩ ?_
 refine kR ?_
 have hmod : nC s window mss = ((⟨ay s,s.data.extract (s.sent).toNat (s.sent + az s window mss).toNat,false⟩),true) := by first | rfl | (simp [nC,af,aw, *]; done) | (simp [nC,af,aw, *]; omega) | grind [nC,af,aw]
 exact ⟨[.agg (aH (⟨ay s,s.data.extract (s.sent).toNat (s.sent + az s window mss).toNat,false⟩ : Chk)).toArray,.bool true],by kernel_rfl,fun w' hb hf => by rw [hmod]; exact ⟨rfl,hb⟩⟩
 refine ca [8,9,10,11,12,13,14,15,16,17,18,19,20,21,22,23,24,25,26,27] [59,33,36,6] 3 [(59,aB false),(33,aI (ay s)),(36,.v (.string (s.data.extract (s.sent).toNat (s.sent + az s window mss).toNat))),(6,.p 1 0)] <| kX 28 (.agg (aH (⟨ay s,s.data.extract (s.sent).toNat (s.sent + az s window mss).toNat,false⟩ : Chk)).toArray) rfl (fun _ _ ww hA => aN [(0,iI (ay s)),(1,.string (s.data.extract (s.sent).toNat (s.sent + az s window mss).toNat)),(2,.bool false)] hA rfl (by kernel_rfl) (by kernel_rfl) ww) ?_
 refine kA [29] <| cK 29 ⟨107,aH (⟨0,(⟨#[]⟩ : ByteArray),false⟩ : Chk)⟩ _ rfl (by kernel_rfl) (by kernel_rfl) (by kernel_rfl) (by kernel_rfl) rfl ?_
 refine kA [30] <| e8 30 2 0 (aH (⟨ay s,s.data.extract (s.sent).toNat (s.sent + az s window mss).toNat,false⟩ : Chk)) rfl <| kZ <| kS <| kQ <| cR 4 [6,11,64] [(6,.p 1 0),(11,.p 2 0),(64,aB ((s.data.extract (s.sent).toNat (s.sent + az s window mss).toNat).toList == (⟨#[]⟩ : ByteArray).toList))] ?_
 refine dg (t' := [(6,.p 1 0),(11,.p 2 0),(64,aB (az s window mss == 0))]) (by rw [show ((s.data.extract (s.sent).toNat (s.sent + az s window mss).toNat).toList == (⟨#[]⟩ : ByteArray).toList) = (az s window mss == 0) from hte]) ?_
 refine kP 64 (az s window mss == 0) (fun h11 => ?_) (fun h11 => ?_)
 have h11p := bC h11
 refine aR [6,11,68] [(68,aB true)] <| kT <| kQ <| i8 0 [6] [(6,.p 1 0)] (.agg (aH (⟨0,(⟨#[]⟩ : ByteArray),false⟩ : Chk)).toArray) rfl (fun _ _ _ ww hr => aN [] hr.1 rfl (by kernel_rfl) (by kernel_rfl) ww) ?_
 refine aR [6,7] [(7,aB false)] <| kR ?_
 have hmod : nC s window mss = ((⟨0,(⟨#[]⟩ : ByteArray),false⟩),false) := by first | rfl | (simp [nC,af,aw, *]; done) | (simp [nC,af,aw, *]; omega) | grind [nC,af,aw]
 exact ⟨[.agg (aH (⟨0,(⟨#[]⟩ : ByteArray),false⟩ : Chk)).toArray,.bool false],by kernel_rfl,fun w' hb hf => by rw [hmod]; exact ⟨rfl,hb⟩⟩
 have h11p := bA h11
 refine aR [6,11,68] [(68,aB false)] <| kN <| kK <| kQ <| bf [6,7] [(7,aB true)] 1 ⟨107,aH (⟨ay s,s.data.extract (s.sent).toNat (s.sent + az s window mss).toNat,false⟩ : Chk)⟩ ?_
 refine kR ?_
 have hmod : nC s window mss = ((⟨ay s,s.data.extract (s.sent).toNat (s.sent + az s window mss).toNat,false⟩),true) := by first | rfl | (simp [nC,af,aw, *]; done) | (simp [nC,af,aw, *]; omega) | grind [nC,af,aw]
 exact ⟨[.agg (aH (⟨ay s,s.data.extract (s.sent).toNat (s.sent + az s window mss).toNat,false⟩ : Chk)).toArray,.bool true],by kernel_rfl,fun w' hb hf => by rw [hmod]; exact ⟨rfl,hb⟩⟩
 refine cK 29 ⟨107,aH (⟨0,(⟨#[]⟩ : ByteArray),false⟩ : Chk)⟩ _ rfl (by kernel_rfl) (by kernel_rfl) (by kernel_rfl) (by kernel_rfl) rfl ?_
 refine kA [1] <| dr 1 99 [.agg (ai s).toArray] (some 33) rfl (aA fun ww hf => iNextOf_c s.una s.data s.sent s.fin s.finSent s.done ww ) ?_
 intro _
 refine ca [7] [39,33,11,36,3,6,8,9,10] 22 [(39,aB s.fin),(33,aI (ay s)),(11,.p 2 0),(36,.v (.string (s.data.extract (s.sent).toNat (s.sent + az s window mss).toNat))),(3,.p 0 0),(6,.p 1 0),(8,aI ((max window (-1)) - (aj s))),(9,.v (.string (s.data.extract (s.sent).toNat s.data.size))),(10,aI (az s window mss))] <| kY 39 (s.fin) (fun h12 => ?_) (fun h12 => ?_)
 refine ca [8,9,10,11,12] [44,33,11,36,3,6,8,9,10] 17 [(44,aB (!s.finSent)),(33,aI (ay s)),(11,.p 2 0),(36,.v (.string (s.data.extract (s.sent).toNat (s.sent + az s window mss).toNat))),(3,.p 0 0),(6,.p 1 0),(8,aI ((max window (-1)) - (aj s))),(9,.v (.string (s.data.extract (s.sent).toNat s.data.size))),(10,aI (az s window mss))] <| kY 44 (!s.finSent) (fun h13 => ?_) (fun h13 => ?_)
 have h13n := bg h13
 refine ca [13,14,15,16,17] [49,33,11,36,6,8,9,10] 12 [(49,aB (!s.done)),(33,aI (ay s)),(11,.p 2 0),(36,.v (.string (s.data.extract (s.sent).toNat (s.sent + az s window mss).toNat))),(6,.p 1 0),(8,aI ((max window (-1)) - (aj s))),(9,.v (.string (s.data.extract (s.sent).toNat s.data.size))),(10,aI (az s window mss))] <| kY 49 (!s.done) (fun h14 => ?_) (fun h14 => ?_)
 have h14n := bg h14
 refine ca [18,19,20,21,22,23] [55,33,11,36,6,8,10] 6 [(55,aB ((az s window mss) == ((s.data.extract (s.sent).toNat s.data.size).size : Int))),(33,aI (ay s)),(11,.p 2 0),(36,.v (.string (s.data.extract (s.sent).toNat (s.sent + az s window mss).toNat))),(6,.p 1 0),(8,aI ((max window (-1)) - (aj s))),(10,aI (az s window mss))] <| fb (t := [(55,aB ((az s window mss) == ((s.data.extract (s.sent).toNat s.data.size).size : Int))),(33,aI (ay s)),(11,.p 2 0),(36,.v (.string (s.data.extract (s.sent).toNat (s.sent + az s window mss).toNat))),(6,.p 1 0),(8,aI ((max window (-1)) - (aj s))),(10,aI (az s window mss))]) (t' := [(55,aB ((az s window mss) == ((s.data.size : Int) - s.sent))),(33,aI (ay s)),(11,.p 2 0),(36,.v (.string (s.data.extract (s.sent).toNat (s.sent + az s window mss).toNat))),(6,.p 1 0),(8,aI ((max window (-1)) - (aj s))),(10,aI (az s window mss))]) (by rw [show ((s.data.extract (s.sent).toNat s.data.size).size : Int) = ((s.data.size : Int) - s.sent) from hez]) ?_
 refine kY 55 ((az s window mss) == ((s.data.size : Int) - s.sent)) (fun h15 => ?_) (fun h15 => ?_)
 have h15p := bC h15
 refine ca [24,25,26,27] [59,33,11,36,6] 2 [(59,aB (decide (((max window (-1)) - (aj s)) > (az s window mss)))),(33,aI (ay s)),(11,.p 2 0),(36,.v (.string (s.data.extract (s.sent).toNat (s.sent + az s window mss).toNat))),(6,.p 1 0)] <| kX 28 (.agg (aH (⟨ay s,s.data.extract (s.sent).toNat (s.sent + az s window mss).toNat,decide (((max window (-1)) - (aj s)) > (az s window mss))⟩ : Chk)).toArray) rfl (fun _ _ ww hA => aN [(0,iI (ay s)),(1,.string (s.data.extract (s.sent).toNat (s.sent + az s window mss).toNat)),(2,.bool (decide (((max window (-1)) - (aj s)) > (az s window mss))))] hA rfl (by kernel_rfl) (by kernel_rfl) ww) ?_
 refine kA [30] <| e8 30 2 0 (aH (⟨ay s,s.data.extract (s.sent).toNat (s.sent + az s window mss).toNat,decide (((max window (-1)) - (aj s)) > (az s window mss))⟩ : Chk)) rfl <| kZ <| kS <| kQ <| cR 4 [6,11,64] [(6,.p 1 0),(11,.p 2 0),(64,aB ((s.data.extract (s.sent).toNat (s.sent + az s window mss).toNat).toList == (⟨#[]⟩ : ByteArray).toList))] ?_
 refine dg (t' := [(6,.p 1 0),(11,.p 2 0),(64,aB (az s window mss == 0))]) (by rw [show ((s.data.extract (s.sent).toNat (s.sent + az s window mss).toNat).toList == (⟨#[]⟩ : ByteArray).toList) = (az s window mss == 0) from hte]) ?_
 refine kP 64 (az s window mss == 0) (fun h16 => ?_) (fun h16 => ?_)
 have h16p := bC h16
 refine aR [6,11,68] [(68,aB (!(decide (((max window (-1)) - (aj s)) > (az s window mss)))))] <| kC (!(decide (((max window (-1)) - (aj s)) > (az s window mss)))) (fun h17 => ?_) (fun h17 => ?_)
 have h17n := bg h17
 refine kQ <| i8 0 [6] [(6,.p 1 0)] (.agg (aH (⟨0,(⟨#[]⟩ : ByteArray),false⟩ : Chk)).toArray) rfl (fun _ _ _ ww hr => aN [] hr.1 rfl (by kernel_rfl) (by kernel_rfl) ww) ?_
 refine aR [6,7] [(7,aB false)] <| kR ?_
 have hmod : nC s window mss = ((⟨0,(⟨#[]⟩ : ByteArray),false⟩),false) := by first | rfl | (simp [nC,af,aw, *]; done) | (simp [nC,af,aw, *]; omega) | grind [nC,af,aw]
 exact ⟨[.agg (aH (⟨0,(⟨#[]⟩ : ByteArray),false⟩ : Chk)).toArray,.bool false],by kernel_rfl,fun w' hb hf => by rw [hmod]; exact ⟨rfl,hb⟩⟩
 have h17n := aD h17
 refine kK <| kQ <| bf [6,7] [(7,aB true)] 1 ⟨107,aH (⟨ay s,s.data.extract (s.sent).toNat (s.sent + az s window mss).toNat,decide (((max window (-1)) - (aj s)) > (az s window mss))⟩ : Chk)⟩ <| kR ?_
 have hmod : nC s window mss = ((⟨ay s,s.data.extract (s.sent).toNat (s.sent + az s window mss).toNat,decide (((max window (-1)) - (aj s)) > (az s window mss))⟩),true) := by first | rfl | (simp [nC,af,aw, *]; done) | (simp [nC,af,aw, *]; omega) | grind [nC,af,aw]
 exact ⟨[.agg (aH (⟨ay s,s.data.extract (s.sent).toNat (s.sent + az s window mss).toNat,decide (((max window (-1)) - (aj s)) > (az s window mss))⟩ : Chk)).toArray,.bool true],by kernel_rfl,fun w' hb hf => by rw [hmod]; exact ⟨rfl,hb⟩⟩
 have h16p := bA h16
 refine aR [6,11,68] [(68,aB false)] <| kN <| kK <| kQ <| bf [6,7] [(7,aB true)] 1 ⟨107,aH (⟨ay s,s.data.extract (s.sent).toNat (s.sent + az s window mss).toNat,decide (((max window (-1)) - (aj s)) > (az s window mss))⟩ : Chk)⟩ ?_
 refine kR ?_
 have hmod : nC s window mss = ((⟨ay s,s.data.extract (s.sent).toNat (s.sent + az s window mss).toNat,decide (((max window (-1)) - (aj s)) > (az s window mss))⟩),true) := by first | rfl | (simp [nC,af,aw, *]; done) | (simp [nC,af,aw, *]; omega) | grind [nC,af,aw]
 exact ⟨[.agg (aH (⟨ay s,s.data.extract (s.sent).toNat (s.sent + az s window mss).toNat,decide (((max window (-1)) - (aj s)) > (az s window mss))⟩ : Chk)).toArray,.bool true],by kernel_rfl,fun w' hb hf => by rw [hmod]; exact ⟨rfl,hb⟩⟩
 have h15p := bA h15
 refine ca [24,25,26,27] [59,33,11,36,6] 2 [(59,aB false),(33,aI (ay s)),(11,.p 2 0),(36,.v (.string (s.data.extract (s.sent).toNat (s.sent + az s window mss).toNat))),(6,.p 1 0)] <| kX 28 (.agg (aH (⟨ay s,s.data.extract (s.sent).toNat (s.sent + az s window mss).toNat,false⟩ : Chk)).toArray) rfl (fun _ _ ww hA => aN [(0,iI (ay s)),(1,.string (s.data.extract (s.sent).toNat (s.sent + az s window mss).toNat)),(2,.bool false)] hA rfl (by kernel_rfl) (by kernel_rfl) ww) ?_
 refine kA [30] <| e8 30 2 0 (aH (⟨ay s,s.data.extract (s.sent).toNat (s.sent + az s window mss).toNat,false⟩ : Chk)) rfl <| kZ <| kS <| kQ <| cR 4 [6,11,64] [(6,.p 1 0),(11,.p 2 0),(64,aB ((s.data.extract (s.sent).toNat (s.sent + az s window mss).toNat).toList == (⟨#[]⟩ : ByteArray).toList))] ?_
 refine dg (t' := [(6,.p 1 0),(11,.p 2 0),(64,aB (az s window mss == 0))]) (by rw [show ((s.data.extract (s.sent).toNat (s.sent + az s window mss).toNat).toList == (⟨#[]⟩ : ByteArray).toList) = (az s window mss == 0) from hte]) ?_
 refine kP 64 (az s window mss == 0) (fun h18 => ?_) (fun h18 => ?_)
 have h18p := bC h18
 refine aR [6,11,68] [(68,aB true)] <| kT <| kQ <| i8 0 [6] [(6,.p 1 0)] (.agg (aH (⟨0,(⟨#[]⟩ : ByteArray),false⟩ : Chk)).toArray) rfl (fun _ _ _ ww hr => aN [] hr.1 rfl (by kernel_rfl) (by kernel_rfl) ww) ?_
 refine aR [6,7] [(7,aB false)] <| kR ?_
 have hmod : nC s window mss = ((⟨0,(⟨#[]⟩ : ByteArray),false⟩),false) := by first | rfl | (simp [nC,af,aw, *]; done) | (simp [nC,af,aw, *]; omega) | grind [nC,af,aw]
 exact ⟨[.agg (aH (⟨0,(⟨#[]⟩ : ByteArray),false⟩ : Chk)).toArray,.bool false],by kernel_rfl,fun w' hb hf => by rw [hmod]; exact ⟨rfl,hb⟩⟩
 have h18p := bA h18
 refine aR [6,11,68] [(68,aB false)] <| kN <| kK <| kQ <| bf [6,7] [(7,aB true)] 1 ⟨107,aH (⟨ay s,s.data.extract (s.sent).toNat (s.sent + az s window mss).toNat,false⟩ : Chk)⟩ ?_
 refine kR ?_
 have hmod : nC s window mss = ((⟨ay s,s.data.extract (s.sent).toNat (s.sent + az s window mss).toNat,false⟩),true) := by first | rfl | (simp [nC,af,aw, *]; done) | (simp [nC,af,aw, *]; omega) | grind [nC,af,aw]
 exact ⟨[.agg (aH (⟨ay s,s.data.extract (s.sent).toNat (s.sent + az s window mss).toNat,false⟩ : Chk)).toArray,.bool true],by kernel_rfl,fun w' hb hf => by rw [hmod]; exact ⟨rfl,hb⟩⟩
 have h14n := aD h14
 refine ca [18,19,20,21,22,23,24,25,26,27] [59,33,11,36,6] 2 [(59,aB false),(33,aI (ay s)),(11,.p 2 0),(36,.v (.string (s.data.extract (s.sent).toNat (s.sent + az s window mss).toNat))),(6,.p 1 0)] <| kX 28 (.agg (aH (⟨ay s,s.data.extract (s.sent).toNat (s.sent + az s window mss).toNat,false⟩ : Chk)).toArray) rfl (fun _ _ ww hA => aN [(0,iI (ay s)),(1,.string (s.data.extract (s.sent).toNat (s.sent + az s window mss).toNat)),(2,.bool false)] hA rfl (by kernel_rfl) (by kernel_rfl) ww) ?_
 refine kA [30] <| e8 30 2 0 (aH (⟨ay s,s.data.extract (s.sent).toNat (s.sent + az s window mss).toNat,false⟩ : Chk)) rfl <| kZ <| kS <| kQ <| cR 4 [6,11,64] [(6,.p 1 0),(11,.p 2 0),(64,aB ((s.data.extract (s.sent).toNat (s.sent + az s window mss).toNat).toList == (⟨#[]⟩ : ByteArray).toList))] ?_
 refine dg (t' := [(6,.p 1 0),(11,.p 2 0),(64,aB (az s window mss == 0))]) (by rw [show ((s.data.extract (s.sent).toNat (s.sent + az s window mss).toNat).toList == (⟨#[]⟩ : ByteArray).toList) = (az s window mss == 0) from hte]) ?_
 refine kP 64 (az s window mss == 0) (fun h19 => ?_) (fun h19 => ?_)
 have h19p := bC h19
 refine aR [6,11,68] [(68,aB true)] <| kT <| kQ <| i8 0 [6] [(6,.p 1 0)] (.agg (aH (⟨0,(⟨#[]⟩ : ByteArray),false⟩ : Chk)).toArray) rfl (fun _ _ _ ww hr => aN [] hr.1 rfl (by kernel_rfl) (by kernel_rfl) ww) ?_
 refine aR [6,7] [(7,aB false)] <| kR ?_
 have hmod : nC s window mss = ((⟨0,(⟨#[]⟩ : ByteArray),false⟩),false) := by first | rfl | (simp [nC,af,aw, *]; done) | (simp [nC,af,aw, *]; omega) | grind [nC,af,aw]
 exact ⟨[.agg (aH (⟨0,(⟨#[]⟩ : ByteArray),false⟩ : Chk)).toArray,.bool false],by kernel_rfl,fun w' hb hf => by rw [hmod]; exact ⟨rfl,hb⟩⟩
 have h19p := bA h19
 refine aR [6,11,68] [(68,aB false)] <| kN <| kK <| kQ <| bf [6,7] [(7,aB true)] 1 ⟨107,aH (⟨ay s,s.data.extract (s.sent).toNat (s.sent + az s window mss).toNat,false⟩ : Chk)⟩ ?_
 refine kR ?_
 have hmod : nC s window mss = ((⟨ay s,s.data.extract (s.sent).toNat (s.sent + az s window mss).toNat,false⟩),true) := by first | rfl | (simp [nC,af,aw, *]; done) | (simp [nC,af,aw, *]; omega) | grind [nC,af,aw]
 exact ⟨[.agg (aH (⟨ay s,s.data.extract (s.sent).toNat (s.sent + az s window mss).toNat,false⟩ : Chk)).toArray,.bool true],by kernel_rfl,fun w' hb hf => by rw [hmod]; exact ⟨rfl,hb⟩⟩
 have h13n := aD h13
 refine ca [13,14,15,16,17,18,19,20,21,22,23,24,25,26,27] [59,33,11,36,6] 2 [(59,aB false),(33,aI (ay s)),(11,.p 2 0),(36,.v (.string (s.data.extract (s.sent).toNat (s.sent + az s window mss).toNat))),(6,.p 1 0)] <| kX 28 (.agg (aH (⟨ay s,s.data.extract (s.sent).toNat (s.sent + az s window mss).toNat,false⟩ : Chk)).toArray) rfl (fun _ _ ww hA => aN [(0,iI (ay s)),(1,.string (s.data.extract (s.sent).toNat (s.sent + az s window mss).toNat)),(2,.bool false)] hA rfl (by kernel_rfl) (by kernel_rfl) ww) ?_
 refine kA [30] <| e8 30 2 0 (aH (⟨ay s,s.data.extract (s.sent).toNat (s.sent + az s window mss).toNat,false⟩ : Chk)) rfl <| kZ <| kS <| kQ <| cR 4 [6,11,64] [(6,.p 1 0),(11,.p 2 0),(64,aB ((s.data.extract (s.sent).toNat (s.sent + az s window mss).toNat).toList == (⟨#[]⟩ : ByteArray).toList))] ?_
 refine dg (t' := [(6,.p 1 0),(11,.p 2 0),(64,aB (az s window mss == 0))]) (by rw [show ((s.data.extract (s.sent).toNat (s.sent + az s window mss).toNat).toList == (⟨#[]⟩ : ByteArray).toList) = (az s window mss == 0) from hte]) ?_
 refine kP 64 (az s window mss == 0) (fun h20 => ?_) (fun h20 => ?_)
 have h20p := bC h20
 refine aR [6,11,68] [(68,aB true)] <| kT <| kQ <| i8 0 [6] [(6,.p 1 0)] (.agg (aH (⟨0,(⟨#[]⟩ : ByteArray),false⟩ : Chk)).toArray) rfl (fun _ _ _ ww hr => aN [] hr.1 rfl (by kernel_rfl) (by kernel_rfl) ww) ?_
 refine aR [6,7] [(7,aB false)] <| kR ?_
 have hmod : nC s window mss = ((⟨0,(⟨#[]⟩ : ByteArray),false⟩),false) := by first | rfl | (simp [nC,af,aw, *]; done) | (simp [nC,af,aw, *]; omega) | grind [nC,af,aw]
 exact ⟨[.agg (aH (⟨0,(⟨#[]⟩ : ByteArray),false⟩ : Chk)).toArray,.bool false],by kernel_rfl,fun w' hb hf => by rw [hmod]; exact ⟨rfl,hb⟩⟩
 have h20p := bA h20
 refine aR [6,11,68] [(68,aB false)] <| kN <| kK <| kQ <| bf [6,7] [(7,aB true)] 1 ⟨107,aH (⟨ay s,s.data.extract (s.sent).toNat (s.sent + az s window mss).toNat,false⟩ : Chk)⟩ ?_
 refine kR ?_
 have hmod : nC s window mss = ((⟨ay s,s.data.extract (s.sent).toNat (s.sent + az s window mss).toNat,false⟩),true) := by first | rfl | (simp [nC,af,aw, *]; done) | (simp [nC,af,aw, *]; omega) | grind [nC,af,aw]
 exact ⟨[.agg (aH (⟨ay s,s.data.extract (s.sent).toNat (s.sent + az s window mss).toNat,false⟩ : Chk)).toArray,.bool true],by kernel_rfl,fun w' hb hf => by rw [hmod]; exact ⟨rfl,hb⟩⟩
 refine ca [8,9,10,11,12,13,14,15,16,17,18,19,20,21,22,23,24,25,26,27] [59,33,11,36,6] 2 [(59,aB false),(33,aI (ay s)),(11,.p 2 0),(36,.v (.string (s.data.extract (s.sent).toNat (s.sent + az s window mss).toNat))),(6,.p 1 0)] <| kX 28 (.agg (aH (⟨ay s,s.data.extract (s.sent).toNat (s.sent + az s window mss).toNat,false⟩ : Chk)).toArray) rfl (fun _ _ ww hA => aN [(0,iI (ay s)),(1,.string (s.data.extract (s.sent).toNat (s.sent + az s window mss).toNat)),(2,.bool false)] hA rfl (by kernel_rfl) (by kernel_rfl) ww) ?_
 refine kA [30] <| e8 30 2 0 (aH (⟨ay s,s.data.extract (s.sent).toNat (s.sent + az s window mss).toNat,false⟩ : Chk)) rfl <| kZ <| kS <| kQ <| cR 4 [6,11,64] [(6,.p 1 0),(11,.p 2 0),(64,aB ((s.data.extract (s.sent).toNat (s.sent + az s window mss).toNat).toList == (⟨#[]⟩ : ByteArray).toList))] ?_
 refine dg (t' := [(6,.p 1 0),(11,.p 2 0),(64,aB (az s window mss == 0))]) (by rw [show ((s.data.extract (s.sent).toNat (s.sent + az s window mss).toNat).toList == (⟨#[]⟩ : ByteArray).toList) = (az s window mss == 0) from hte]) ?_
 refine kP 64 (az s window mss == 0) (fun h21 => ?_) (fun h21 => ?_)
 have h21p := bC h21
 refine aR [6,11,68] [(68,aB true)] <| kT <| kQ <| i8 0 [6] [(6,.p 1 0)] (.agg (aH (⟨0,(⟨#[]⟩ : ByteArray),false⟩ : Chk)).toArray) rfl (fun _ _ _ ww hr => aN [] hr.1 rfl (by kernel_rfl) (by kernel_rfl) ww) ?_
 refine aR [6,7] [(7,aB false)] <| kR ?_
 have hmod : nC s window mss = ((⟨0,(⟨#[]⟩ : ByteArray),false⟩),false) := by first | rfl | (simp [nC,af,aw, *]; done) | (simp [nC,af,aw, *]; omega) | grind [nC,af,aw]
 exact ⟨[.agg (aH (⟨0,(⟨#[]⟩ : ByteArray),false⟩ : Chk)).toArray,.bool false],by kernel_rfl,fun w' hb hf => by rw [hmod]; exact ⟨rfl,hb⟩⟩
 have h21p := bA h21
 refine aR [6,11,68] [(68,aB false)] <| kN <| kK <| kQ <| bf [6,7] [(7,aB true)] 1 ⟨107,aH (⟨ay s,s.data.extract (s.sent).toNat (s.sent + az s window mss).toNat,false⟩ : Chk)⟩ ?_
 refine kR ?_
 have hmod : nC s window mss = ((⟨ay s,s.data.extract (s.sent).toNat (s.sent + az s window mss).toNat,false⟩),true) := by first | rfl | (simp [nC,af,aw, *]; done) | (simp [nC,af,aw, *]; omega) | grind [nC,af,aw]
 exact ⟨[.agg (aH (⟨ay s,s.data.extract (s.sent).toNat (s.sent + az s window mss).toNat,false⟩ : Chk)).toArray,.bool true],by kernel_rfl,fun w' hb hf => by rw [hmod]; exact ⟨rfl,hb⟩⟩
theorem yiSentOff_c (s : Snd) (c : Chk) (w : World)  : Calls Tryz.prog 103 #[.agg (ai s).toArray, .agg (aH c).toArray] w fun e w' => e = .returned (.agg (ai (sO s c)).toArray) ∧ Below w.heap.size w w' := by
 have hsf := sentS_fin s c
 refine bH (args := [.agg (ai s).toArray,.agg (aH c).toArray]) (fn := Tryz.f103) [] Tryz.func103 rfl Tryz.ntmps103 rfl (by simp) ?_
 refine kQ <| c8 [2,3,4] ⟨[(2,.p 0 0),(3,.p 1 0),(4,.p 2 0)],[⟨38,ai s⟩,⟨107,aH c⟩,⟨38,fW⟩],[],[]⟩ <| kQ <| c8 [2,3,4,5] ⟨[(2,.p 0 0),(3,.p 1 0),(4,.p 2 0),(5,.p 3 0)],[⟨38,ai s⟩,⟨107,aH c⟩,⟨38,fW⟩,⟨38,ai s⟩],[],[]⟩ ?_
 refine kQ <| c8 [2,3,4,5] ⟨[(2,.p 0 0),(3,.p 1 0),(4,.p 2 0),(5,.p 3 0)],[⟨38,ai s⟩,⟨107,aH c⟩,⟨38,fW⟩,⟨38,ai { s with sent := K6.wrap (s.sent + (c.text.size : Int)) }⟩],[],[]⟩ <| kS <| bo ⟨[(2,.p 0 0),(3,.p 1 0),(4,.p 2 0),(5,.p 3 0)],[⟨38,ai s⟩,⟨107,aH c⟩,⟨38,fW⟩,⟨38,ai { s with sent := K6.wrap (s.sent + (c.text.size : Int)),finSent := s.finSent || c.fin }⟩],[],[]⟩ ?_ ?_
 refine kG <| cR 3 [2,3,4,5,16] [(2,.p 0 0),(3,.p 1 0),(4,.p 2 0),(5,.p 3 0),(16,aB s.finSent)] <| kP 16 (s.finSent) (fun h1 => ?_) (fun h1 => ?_)
 refine c8 [2,3,4,5] ⟨[(2,.p 0 0),(3,.p 1 0),(4,.p 2 0),(5,.p 3 0)],[⟨38,ai s⟩,⟨107,aH c⟩,⟨38,fW⟩,⟨38,ai { s with sent := K6.wrap (s.sent + (c.text.size : Int)),finSent := true }⟩],[],[]⟩ ?_
 show Wk _ _
 try rw [h1]
 exact kF 4 0 [2,3,4,5]
 refine c8 [2,3,4,5] ⟨[(2,.p 0 0),(3,.p 1 0),(4,.p 2 0),(5,.p 3 0)],[⟨38,ai s⟩,⟨107,aH c⟩,⟨38,fW⟩,⟨38,ai { s with sent := K6.wrap (s.sent + (c.text.size : Int)),finSent := c.fin }⟩],[],[]⟩ ?_
 show Wk _ _
 try rw [h1]
 exact kF 4 0 [2,3,4,5]
 refine kS <| kS <| bo ⟨[(2,.p 0 0),(4,.p 2 0),(5,.p 3 0),(41,aB ((!(aa s)) || ((!(aa ({ s with sent := K6.wrap (s.sent + (c.text.size : Int)),finSent := s.finSent || c.fin }))) || (c.fin && ((!s.fin) || s.done)))))],[⟨38,ai s⟩,⟨107,aH c⟩,⟨38,fW⟩,⟨38,ai { s with sent := K6.wrap (s.sent + (c.text.size : Int)),finSent := s.finSent || c.fin }⟩],[],[]⟩ ?_ ?_
 refine kG <| dh 1 [2,3,4,5,21] [(2,.p 0 0),(3,.p 1 0),(4,.p 2 0),(5,.p 3 0),(21,.v (.agg (ai s).toArray))] 59 [.agg (ai s).toArray] (some 22) rfl (aA fun ww hf => fA s.una s.data s.sent s.fin s.finSent s.done ww ) ?_
 intro _
 refine cR 2 [2,3,4,5,24] [(2,.p 0 0),(3,.p 1 0),(4,.p 2 0),(5,.p 3 0),(24,aB (!(aa s)))] <| kP 24 (!(aa s)) (fun h2 => ?_) (fun h2 => ?_)
 have h2n := bg h2
 refine aJ [2,4,5,41] [(2,.p 0 0),(4,.p 2 0),(5,.p 3 0),(41,aB true)] ?_
 show Wk _ _
 try rw [h2]
 exact kF 4 0 [2,4,5,41]
 have h2n := aD h2
 have h2nb := bt (s := s) (by simpa using h2n)
 obtain ⟨h2nb0,h2nb1,h2nb2,h2nb3,h2nb4,h2nb5,h2nb6,h2nb7,h2nb8,h2nb9,h2nb10⟩ := h2nb
 refine dh 1 [2,3,4,5,24,25] [(2,.p 0 0),(3,.p 1 0),(4,.p 2 0),(5,.p 3 0),(24,aB false),(25,.v (.agg (ai { s with sent := K6.wrap (s.sent + (c.text.size : Int)),finSent := s.finSent || c.fin }).toArray))] 59 [.agg (ai { s with sent := K6.wrap (s.sent + (c.text.size : Int)),finSent := s.finSent || c.fin }).toArray] (some 26) rfl (aA fun ww hf => fA s.una s.data (K6.wrap (s.sent + (c.text.size : Int))) s.fin (s.finSent || c.fin) s.done ww ) ?_
 intro _
 refine cR 3 [2,3,4,5,29] [(2,.p 0 0),(3,.p 1 0),(4,.p 2 0),(5,.p 3 0),(29,aB (!(aa ({ s with sent := K6.wrap (s.sent + (c.text.size : Int)),finSent := s.finSent || c.fin }))))] <| kP 29 (!(aa ({ s with sent := K6.wrap (s.sent + (c.text.size : Int)),finSent := s.finSent || c.fin }))) (fun h3 => ?_) (fun h3 => ?_)
 have h3n := bg h3
 refine aJ [2,4,5,41] [(2,.p 0 0),(4,.p 2 0),(5,.p 3 0),(41,aB true)] ?_
 show Wk _ _
 try rw [h2]
 try rw [h3]
 exact kF 4 0 [2,4,5,41]
 have h3n := aD h3
 have h3nb := bt (s := ({ s with sent := K6.wrap (s.sent + (c.text.size : Int)),finSent := s.finSent || c.fin })) (by simpa using h3n)
 obtain ⟨h3nb0,h3nb1,h3nb2,h3nb3,h3nb4,h3nb5,h3nb6,h3nb7,h3nb8,h3nb9,h3nb10⟩ := h3nb
 refine cR 3 [2,4,5,29,32] [(2,.p 0 0),(4,.p 2 0),(5,.p 3 0),(29,aB false),(32,aB c.fin)] <| kP 32 (c.fin) (fun h4 => ?_) (fun h4 => ?_)
 refine cR 4 [2,4,5,29,32,36] [(2,.p 0 0),(4,.p 2 0),(5,.p 3 0),(29,aB false),(32,aB true),(36,aB (!s.fin))] <| kP 36 (!s.fin) (fun h5 => ?_) (fun h5 => ?_)
 have h5n := bg h5
 refine aJ [2,4,5,41] [(2,.p 0 0),(4,.p 2 0),(5,.p 3 0),(41,aB true)] ?_
 show Wk _ _
 try rw [h2]
 try rw [h3]
 try rw [h4]
 try rw [h5]
 exact kF 4 0 [2,4,5,41]
 have h5n := aD h5
 refine aJ [2,4,5,41] [(2,.p 0 0),(4,.p 2 0),(5,.p 3 0),(41,aB s.done)] ?_
 show Wk _ _
 try rw [h2]
 try rw [h3]
 try rw [h4]
 try rw [h5]
 exact kF 4 0 [2,4,5,41]
 refine aJ [2,4,5,41] [(2,.p 0 0),(4,.p 2 0),(5,.p 3 0),(41,aB false)] ?_
 show Wk _ _
 try rw [h2]
 try rw [h3]
 try rw [h4]
 exact kF 4 0 [2,4,5,41]
 refine kC ((!(aa s)) || ((!(aa ({ s with sent := K6.wrap (s.sent + (c.text.size : Int)),finSent := s.finSent || c.fin }))) || (c.fin && ((!s.fin) || s.done)))) (fun h6 => ?_) (fun h6 => ?_)
 refine kQ <| c8 [4] ⟨[(4,.p 2 0)],[⟨38,ai s⟩,⟨107,aH c⟩,⟨38,ai s⟩,⟨38,ai { s with sent := K6.wrap (s.sent + (c.text.size : Int)),finSent := s.finSent || c.fin }⟩],[],[]⟩ <| kR ?_
 have hmod : sO s c = s := by first | rfl | (simp [sO,gE, *]; done) | grind [sO,gE]
 exact ⟨[.agg (ai s).toArray],by kernel_rfl,fun w' hb hf => by rw [hmod]; exact ⟨rfl,hb⟩⟩
 have h6l := eA h6
 have h6ln := aD h6l
 have h6lnb := bt (s := s) (by simpa using h6ln)
 obtain ⟨h6lnb0,h6lnb1,h6lnb2,h6lnb3,h6lnb4,h6lnb5,h6lnb6,h6lnb7,h6lnb8,h6lnb9,h6lnb10⟩ := h6lnb
 have h6r := f6 h6
 have h6rl := eA h6r
 have h6rln := aD h6rl
 have h6rlnb := bt (s := ({ s with sent := K6.wrap (s.sent + (c.text.size : Int)),finSent := s.finSent || c.fin })) (by simpa using h6rln)
 obtain ⟨h6rlnb0,h6rlnb1,h6rlnb2,h6rlnb3,h6rlnb4,h6rlnb5,h6rlnb6,h6rlnb7,h6rlnb8,h6rlnb9,h6rlnb10⟩ := h6rlnb
 have h6rr := f6 h6r
 refine kK <| kQ <| c8 [4] ⟨[(4,.p 2 0)],[⟨38,ai s⟩,⟨107,aH c⟩,⟨38,ai { s with sent := K6.wrap (s.sent + (c.text.size : Int)),finSent := s.finSent || c.fin }⟩,⟨38,ai { s with sent := K6.wrap (s.sent + (c.text.size : Int)),finSent := s.finSent || c.fin }⟩],[],[]⟩ <| kR ?_
 have hmod : sO s c = ({ s with sent := K6.wrap (s.sent + (c.text.size : Int)),finSent := s.finSent || c.fin }) := by first | rfl | (simp [sO,gE, *]; done) | grind [sO,gE]
 exact ⟨[.agg (ai { s with sent := K6.wrap (s.sent + (c.text.size : Int)),finSent := s.finSent || c.fin }).toArray],by kernel_rfl,fun w' hb hf => by rw [hmod]; exact ⟨rfl,hb⟩⟩
theorem gZ (c : Con) (rV : Value) (window : Int) (w : World) (hZ : Sl w rV 2 (c.r.held.map pC)) (hkn : c.r.held.length ≤ 1048576)(hm : ∀ p ∈ c.r.held, p.text.size ≤ 1048576) (hsz : c.r.data.size ≤ 4611686018427387904) (hwi : -9223372036854775808 ≤ window ∧ window ≤ 9223372036854775807) (B : Nat) (hB : B ≤ w.heap.size) : Calls Tryz.prog 36 #[.agg (a7 c rV).toArray, iI window] w fun e w' => XRs w w' e (α := (Option Addr × Nat) × (Option Addr × Nat)) (fun y => .tuple #[.agg (a7 (pump c window).1 (.slice y.1.1 ((pump c window).1.r.held.length) y.1.2)).toArray, .slice y.2.1 ((pump c window).2.length) y.2.2]) (fun y => [aF B (.slice y.1.1 ((pump c window).1.r.held.length) y.1.2) 2 ((pump c window).1.r.held.map pC), ap B 50 13 (.slice y.2.1 ((pump c window).2.length) y.2.2) ((pump c window).2.map ak)]) := by
 obtain ⟨Z,Y,hY⟩ := hZ.form
 rw [List.length_map] at hY; subst hY
 have hJ := hZ.len; rw [List.length_map] at hJ
 have hqcrh := Sl.capLe hZ
 refine ck (args := [.agg (a7 c (cS Z c Y)).toArray,iI window]) (fn := Tryz.f36) [cH Z c Y] Tryz.func36 rfl Tryz.ntmps36 rfl (by simp only [List.mem_cons,List.not_mem_nil,or_false,forall_eq_or_imp,forall_eq]; exact ⟨rfl,hZ⟩) ?_
 refine kQ <| c8 [1,2,4] ⟨[(1,aI window),(2,.p 0 0),(4,.p 1 0)],[⟨44,a7 c (cS Z c Y)⟩,⟨44,bN⟩],[],[cH Z c Y]⟩ <| kQ <| dy 1 [1,2,4,10] [(10,.v (.agg (a7 c (cS Z c Y)).toArray))] 33 [.agg (a7 c (cS Z c Y)).toArray] (some 11) rfl (cZ fun ww hw hf => eu c (cS Z c Y) ww (hf _ m0) (by assumption) w.heap.size hw) ?_
 rintro ⟨v1a,v1c⟩
 refine bf [1,2,4] [] 0 ⟨44,a7 c (cS v1a c v1c)⟩ <| kQ <| kHD 0 [1,2,4] [] rfl (bi (e := 50) (K := 13) (bytes := 104) [] (rs := ([] : List Seg).map ak) rfl rfl) ?_
 intro g2
 refine aR [1,2,4,6] [(6,.v (.slice (some ⟨g2,0,none⟩) 0 0))] <| kS <| kQ <| dy 1 [1,2,4,6,13] [(13,.v (.agg (a7 c (cS v1a c v1c)).toArray))] 25 [.agg (a7 c (cS v1a c v1c)).toArray] (some 14) rfl (aA fun ww hf => es c (cS v1a c v1c) ww (Own.sl (hf _ m1)) (by assumption) (by omega)) ?_
 intro _
 refine cA 2 [1,2,4,6,16] [(16,aB (!(aW c)))] <| kP 16 (!(aW c)) (fun h3 => ?_) (fun h3 => ?_)
 have h3n := bg h3
 refine aR [1,2,4,6,25] [(25,aB true)] <| kT <| kQ <| bf [4,5] [(5,.v (.slice (some ⟨g2,0,none⟩) 0 0))] 1 ⟨44,a7 c (cS v1a c v1c)⟩ ?_
 refine kR ?_
 have hmod : pump c window = (c,([] : List Seg)) := by first | (simp [pump, *]; done) | exact eF hok hs8 hs7 hS hL (by first | exact HT.symm | (unfold tmr; rw [show L.isEmpty = decide (L.length = 0) from by cases L <;> rfl]; simp only [decide_eq_true_eq]; split <;> (try split) <;> omega))
 exact ⟨[.agg (a7 c (cS v1a c v1c)).toArray,.slice (some ⟨g2,0,none⟩) 0 0],by kernel_rfl,fun w' hb hf ha => by rw [hmod]; exact gu ((v1a,v1c),(((some ⟨g2,0,none⟩) : Option Addr),0)) rfl rfl (pO (hf _ m1) hB) (pW (hf _ m0) hB) (Apart.sub2 ha (i := 1) (j := 0) rfl rfl (by decide) rfl (fun b h => h) (fun b h => h)) hb⟩
 have h3n := aD h3
 refine cA 5 [1,2,4,6,21] [(21,aB (c.state == 8))] <| kP 21 (c.state == 8) (fun h4 => ?_) (fun h4 => ?_)
 have h4p := bC h4
 refine aR [1,2,4,6,25] [(25,aB true)] <| kT <| kQ <| bf [4,5] [(5,.v (.slice (some ⟨g2,0,none⟩) 0 0))] 1 ⟨44,a7 c (cS v1a c v1c)⟩ ?_
 refine kR ?_
 have hmod : pump c window = (c,([] : List Seg)) := by first | (simp [pump, *]; done) | exact eF hok hs8 hs7 hS hL (by first | exact HT.symm | (unfold tmr; rw [show L.isEmpty = decide (L.length = 0) from by cases L <;> rfl]; simp only [decide_eq_true_eq]; split <;> (try split) <;> omega))
 exact ⟨[.agg (a7 c (cS v1a c v1c)).toArray,.slice (some ⟨g2,0,none⟩) 0 0],by kernel_rfl,fun w' hb hf ha => by rw [hmod]; exact gu ((v1a,v1c),(((some ⟨g2,0,none⟩) : Option Addr),0)) rfl rfl (pO (hf _ m1) hB) (pW (hf _ m0) hB) (Apart.sub2 ha (i := 1) (j := 0) rfl rfl (by decide) rfl (fun b h => h) (fun b h => h)) hb⟩
 have h4p := bA h4
 refine aR [1,2,4,6,25] [(25,aB (c.state == 7))] <| kC (c.state == 7) (fun h5 => ?_) (fun h5 => ?_)
 have h5p := bC h5
 refine kQ <| bf [4,5] [(5,.v (.slice (some ⟨g2,0,none⟩) 0 0))] 1 ⟨44,a7 c (cS v1a c v1c)⟩ <| kR ?_
 have hmod : pump c window = (c,([] : List Seg)) := by first | (simp [pump, *]; done) | exact eF hok hs8 hs7 hS hL (by first | exact HT.symm | (unfold tmr; rw [show L.isEmpty = decide (L.length = 0) from by cases L <;> rfl]; simp only [decide_eq_true_eq]; split <;> (try split) <;> omega))
 exact ⟨[.agg (a7 c (cS v1a c v1c)).toArray,.slice (some ⟨g2,0,none⟩) 0 0],by kernel_rfl,fun w' hb hf ha => by rw [hmod]; exact gu ((v1a,v1c),(((some ⟨g2,0,none⟩) : Option Addr),0)) rfl rfl (pO (hf _ m1) hB) (pW (hf _ m0) hB) (Apart.sub2 ha (i := 1) (j := 0) rfl rfl (by decide) rfl (fun b h => h) (fun b h => h)) hb⟩
 have h5p := bA h5
 refine kK <| aZ ?_
 have hok : aW c = true := by simp_all
 have hs8 : ¬ c.state = 8 := by simp_all
 have hs7 : ¬ c.state = 7 := by simp_all
 refine cz (α := {x : Snd × List Seg × Int × Option Addr × Nat // (fun (s : Snd) (L : List Seg) (t : Int) (A : Option Addr) (cap : Nat) => (cg c.s window (aM c.o)).1 = (cg s window (aM c.o)).1 ∧ (cg c.s window (aM c.o)).2.map (ej c) = L ++ (cg s window (aM c.o)).2.map (ej c) ∧ L.length + il s ≤ 49 ∧ t = tmr c L) x.1 x.2.1 x.2.2.1 x.2.2.2.1 x.2.2.2.2}) (fun x => (fun (s : Snd) (L : List Seg) (t : Int) (A : Option Addr) (cap : Nat) => (⟨[(1,aI window),(2,.p 0 0),(4,.p 1 0),(6,.v (.slice A L.length cap))],[⟨44,a7 { c with s := s,timer := t } (cS v1a c v1c)⟩,⟨44,bN⟩],[],[ap w.heap.size 50 13 (.slice A L.length cap) (L.map ak),aF w.heap.size (cS v1a c v1c) 2 (c.r.held.map pC),cH Z c Y]⟩ : St)) x.1.1 x.1.2.1 x.1.2.2.1 x.1.2.2.2.1 x.1.2.2.2.2) (fun x => (fun (s : Snd) (L : List Seg) (t : Int) (A : Option Addr) (cap : Nat) => il s) x.1.1 x.1.2.1 x.1.2.2.1 x.1.2.2.2.1 x.1.2.2.2.2) ⟨(c.s,([] : List Seg),c.timer,(some ⟨g2,0,none⟩),0),⟨rfl,rfl,(by have := meas_le (conOk_s hok); simp only [List.length_nil]; omega),rfl⟩⟩ (ei [0,1,2] <| kF 2 0 [1,2,4,6]) ?_
 rintro ⟨⟨s,L,t,A,cap⟩,HS,HL,HR,HT⟩
 try dsimp only
 try dsimp only at HS HL HR HT
 refine aZ <| kS <| bo ⟨[(1,aI window),(2,.p 0 0),(4,.p 1 0),(6,.v (.slice A L.length cap)),(7,.p 2 0),(8,aB ((nC s window (aM c.o)).2))],[⟨44,a7 { c with s := s,timer := t } (cS v1a c v1c)⟩,⟨44,bN⟩,⟨107,aH (nC s window (aM c.o)).1⟩],[],[ap w.heap.size 50 13 (.slice A L.length cap) (L.map ak),aF w.heap.size (cS v1a c v1c) 2 (c.r.held.map pC),cH Z c Y]⟩ ?_ ?_
 refine cm [] (by kernel_rfl) (fun ρ σ => ?_)
 refine eI [0,1,2,3] [32,31,30,1,2,4,6] 8 [(32,.v (.agg (a7 { c with s := s,timer := t } (cS v1a c v1c)).toArray)),(31,aI window),(30,.v (.agg (ai s).toArray))] <| kA [4,9] ⟨?_,?_⟩
 refine dr 4 90 [.agg (a7 { c with s := s,timer := t } (cS v1a c v1c)).toArray] (some 33) rfl (aA fun ww hf => ysMssFor_c ({ c with s := s,timer := t }) (cS v1a c v1c) ww ) ?_
 intro _
 refine kA [5,9] ⟨?_,?_⟩
 refine dr 5 89 [.agg (ai s).toArray,iI window,iI (aM c.o)] (some 34) rfl (aA fun ww hf => dH s window (aM c.o) ww  (by first | omega | (rw [ab (by omega) (by omega)]; omega))) ?_
 intro _
 refine eI [6,7,8] [36,35,1,2,4,6] 3 [(36,aB ((nC s window (aM c.o)).2)),(35,.v (.agg (aH (nC s window (aM c.o)).1).toArray))] <| kA [9] <| cK 9 ⟨107,aH (⟨0,(⟨#[]⟩ : ByteArray),false⟩ : Chk)⟩ _ rfl (by kernel_rfl) (by kernel_rfl) (by kernel_rfl) (by kernel_rfl) rfl ?_
 refine kA [10] <| e8 10 2 0 (aH (nC s window (aM c.o)).1) rfl <| ca [11] [8,7,1,2,4,6] 0 [(8,aB ((nC s window (aM c.o)).2)),(7,.p 2 0),(1,aI window),(2,.p 0 0),(4,.p 1 0),(6,.v (.slice A L.length cap))] <| kZ ?_
 exact kF 3 0 [1,2,4,6,7,8]
 refine cK 9 ⟨107,aH (⟨0,(⟨#[]⟩ : ByteArray),false⟩ : Chk)⟩ _ rfl (by kernel_rfl) (by kernel_rfl) (by kernel_rfl) (by kernel_rfl) rfl ?_
 refine kA [5] <| dr 5 89 [.agg (ai s).toArray,iI window,iI (aM c.o)] (some 34) rfl (aA fun ww hf => dH s window (aM c.o) ww  (by first | omega | (rw [ab (by omega) (by omega)]; omega))) ?_
 intro _
 refine eI [6,7,8] [36,35,7,1,2,4,6] 2 [(36,aB ((nC s window (aM c.o)).2)),(35,.v (.agg (aH (nC s window (aM c.o)).1).toArray))] <| kA [10] <| e8 10 2 0 (aH (nC s window (aM c.o)).1) rfl <| ca [11] [8,7,1,2,4,6] 0 [(8,aB ((nC s window (aM c.o)).2)),(7,.p 2 0),(1,aI window),(2,.p 0 0),(4,.p 1 0),(6,.v (.slice A L.length cap))] ?_
 refine kZ ?_
 exact kF 3 0 [1,2,4,6,7,8]
 refine cK 9 ⟨107,aH (⟨0,(⟨#[]⟩ : ByteArray),false⟩ : Chk)⟩ _ rfl (by kernel_rfl) (by kernel_rfl) (by kernel_rfl) (by kernel_rfl) rfl ?_
 refine kA [4] <| dr 4 90 [.agg (a7 { c with s := s,timer := t } (cS v1a c v1c)).toArray] (some 33) rfl (aA fun ww hf => ysMssFor_c ({ c with s := s,timer := t }) (cS v1a c v1c) ww ) ?_
 intro _
 refine kA [5] <| dr 5 89 [.agg (ai s).toArray,iI window,iI (aM c.o)] (some 34) rfl (aA fun ww hf => dH s window (aM c.o) ww  (by first | omega | (rw [ab (by omega) (by omega)]; omega))) ?_
 intro _
 refine eI [6,7,8] [36,35,7,1,2,4,6] 2 [(36,aB ((nC s window (aM c.o)).2)),(35,.v (.agg (aH (nC s window (aM c.o)).1).toArray))] <| kA [10] <| e8 10 2 0 (aH (nC s window (aM c.o)).1) rfl <| ca [11] [8,7,1,2,4,6] 0 [(8,aB ((nC s window (aM c.o)).2)),(7,.p 2 0),(1,aI window),(2,.p 0 0),(4,.p 1 0),(6,.v (.slice A L.length cap))] ?_
 refine kZ ?_
 exact kF 3 0 [1,2,4,6,7,8]
 refine kS <| kQ <| aR [1,2,4,6,7,38] [(38,aB (!((nC s window (aM c.o)).2)))] <| kC (!((nC s window (aM c.o)).2)) (fun h6 => ?_) (fun h6 => ?_)
 have hno := bg h6
 have hS := pumpS_end hno HS
 have hL := pumpL_end hno HL
 refine kQ <| c8 [4,5] ⟨[(4,.p 1 0),(5,.v (.slice A L.length cap))],[⟨44,a7 { c with s := s,timer := t } (cS v1a c v1c)⟩,⟨44,a7 { c with s := s,timer := t } (cS v1a c v1c)⟩,⟨107,aH (nC s window (aM c.o)).1⟩],[],[ap w.heap.size 50 13 (.slice A L.length cap) (L.map ak),aF w.heap.size (cS v1a c v1c) 2 (c.r.held.map pC),cH Z c Y]⟩ <| kR ?_
 have hmod : pump c window = (({ c with s := s,timer := t }),L) := by first | (simp [pump, *]; done) | exact eF hok hs8 hs7 hS hL (by first | exact HT.symm | (unfold tmr; rw [show L.isEmpty = decide (L.length = 0) from by cases L <;> rfl]; simp only [decide_eq_true_eq]; split <;> (try split) <;> omega))
 exact ⟨[.agg (a7 { c with s := s,timer := t } (cS v1a c v1c)).toArray,.slice A L.length cap],by kernel_rfl,fun w' hb hf ha => by rw [hmod]; exact gu ((v1a,v1c),(A,cap)) rfl rfl (pO (hf _ m1) hB) (pW (hf _ m0) hB) (Apart.sub2 ha (i := 1) (j := 0) rfl rfl (by decide) rfl (fun b h => h) (fun b h => h)) hb⟩
 have hyes := aD h6
 refine kK <| kQ <| dh 1 [1,2,4,6,7,41] [(1,aI window),(2,.p 0 0),(4,.p 1 0),(6,.v (.slice A L.length cap)),(7,.p 2 0),(41,.v (.agg (a7 { c with s := s,timer := t } (cS v1a c v1c)).toArray))] 35 [.agg (a7 { c with s := s,timer := t } (cS v1a c v1c)).toArray] (some 42) rfl (aA fun ww hf => fQ ({ c with s := s,timer := t }) (cS v1a c v1c) ww (Own.sl (hf _ m1)) (by first | omega | (dsimp only; omega))) ?_
 intro _
 refine i5 [1,2,4,6,7,9] [(9,.p 3 0)] [⟨50,[iI c.t.my,iI c.t.port,iI (ay s),iI c.r.next,iI 16,iI (wO c.r),iI 0,iI (-1),.bool false,.bool false,iI 0,iI 0,.string (⟨#[]⟩ : ByteArray)]⟩] <| kQ <| bf [1,2,4,6,7,9] [] 3 ⟨50,[iI c.t.my,iI c.t.port,iI ((nC s window (aM c.o)).1.seq),iI c.r.next,iI 16,iI (wO c.r),iI 0,iI (-1),.bool false,.bool false,iI 0,iI 0,.string (⟨#[]⟩ : ByteArray)]⟩ <| kQ <| bf [1,2,4,6,7,9] [] 3 ⟨50,[iI c.t.my,iI c.t.port,iI ((nC s window (aM c.o)).1.seq),iI c.r.next,iI 16,iI (wO c.r),iI 0,iI (-1),.bool false,.bool false,iI 0,iI 0,.string ((nC s window (aM c.o)).1.text)]⟩ ?_
 refine kS <| cf (α := {zz : Int // (fun (ka : Int) => ka = eK (nC s window (aM c.o)).1 false) zz}) (fun zz => (fun (ka : Int) => (⟨[(1,aI window),(2,.p 0 0),(4,.p 1 0),(6,.v (.slice A L.length cap)),(7,.p 2 0),(9,.p 3 0)],[⟨44,a7 { c with s := s,timer := t } (cS v1a c v1c)⟩,⟨44,bN⟩,⟨107,aH (nC s window (aM c.o)).1⟩,⟨50,[iI c.t.my,iI c.t.port,iI ((nC s window (aM c.o)).1.seq),iI c.r.next,iI ka,iI (wO c.r),iI 0,iI (-1),.bool false,.bool false,iI 0,iI 0,.string ((nC s window (aM c.o)).1.text)]⟩],[],[ap w.heap.size 50 13 (.slice A L.length cap) (L.map ak),aF w.heap.size (cS v1a c v1c) 2 (c.r.held.map pC),cH Z c Y]⟩ : St)) zz.1) ?_ ?_
 refine kQ <| aR [1,2,4,6,7,9,51] [(51,aB (!(((nC s window (aM c.o)).1.text).toList == (⟨#[]⟩ : ByteArray).toList)))] <| kC (!(((nC s window (aM c.o)).1.text).toList == (⟨#[]⟩ : ByteArray).toList)) (fun h7 => ?_) (fun h7 => ?_)
 have hT : (nC s window (aM c.o)).1.text.toList.isEmpty = false := by simpa [bv] using h7
 refine kG <| bf [1,2,4,6,7,9] [] 3 ⟨50,[iI c.t.my,iI c.t.port,iI ((nC s window (aM c.o)).1.seq),iI c.r.next,iI 24,iI (wO c.r),iI 0,iI (-1),.bool false,.bool false,iI 0,iI 0,.string ((nC s window (aM c.o)).1.text)]⟩ ?_
 exact ⟨⟨(24),(by first | (simp [eK,hT]; done) | (rw [hF,hka]; simp [eK]; done) | (rw [hF]; exact hka))⟩,kF 4 0 [1,2,4,6,7,9]⟩
 have hT : (nC s window (aM c.o)).1.text.toList.isEmpty = true := by simpa [bv] using h7
 refine kK ?_
 exact ⟨⟨(16),(by first | (simp [eK,hT]; done) | (rw [hF,hka]; simp [eK]; done) | (rw [hF]; exact hka))⟩,kF 4 0 [1,2,4,6,7,9]⟩
 rintro ⟨ka,hka⟩
 try dsimp only
 try dsimp only at hka
 refine kS <| cf (α := {zz : Int // (fun (kb : Int) => kb = eK (nC s window (aM c.o)).1 (nC s window (aM c.o)).1.fin) zz}) (fun zz => (fun (kb : Int) => (⟨[(1,aI window),(2,.p 0 0),(4,.p 1 0),(6,.v (.slice A L.length cap)),(7,.p 2 0),(9,.p 3 0)],[⟨44,a7 { c with s := s,timer := t } (cS v1a c v1c)⟩,⟨44,bN⟩,⟨107,aH (nC s window (aM c.o)).1⟩,⟨50,[iI c.t.my,iI c.t.port,iI ((nC s window (aM c.o)).1.seq),iI c.r.next,iI kb,iI (wO c.r),iI 0,iI (-1),.bool false,.bool false,iI 0,iI 0,.string ((nC s window (aM c.o)).1.text)]⟩],[],[ap w.heap.size 50 13 (.slice A L.length cap) (L.map ak),aF w.heap.size (cS v1a c v1c) 2 (c.r.held.map pC),cH Z c Y]⟩ : St)) zz.1) ?_ ?_
 refine kQ <| aR [1,2,4,6,7,9,57] [(57,aB ((nC s window (aM c.o)).1.fin))] <| kC ((nC s window (aM c.o)).1.fin) (fun h8 => ?_) (fun h8 => ?_)
 have hF := h8
 refine kG <| kRB 5 [1,2,4,6,7,9] [(1,aI window),(2,.p 0 0),(4,.p 1 0),(6,.v (.slice A L.length cap)),(7,.p 2 0),(9,.p 3 0)] [⟨44,a7 { c with s := s,timer := t } (cS v1a c v1c)⟩,⟨44,bN⟩,⟨107,aH (nC s window (aM c.o)).1⟩,⟨50,[iI c.t.my,iI c.t.port,iI ((nC s window (aM c.o)).1.seq),iI c.r.next,iI (K6.wrap (BitVec.ofInt 64 ka ||| BitVec.ofInt 64 1).toNat),iI (wO c.r),iI 0,iI (-1),.bool false,.bool false,iI 0,iI 0,.string ((nC s window (aM c.o)).1.text)]⟩] <| gW (st' := ⟨[(1,aI window),(2,.p 0 0),(4,.p 1 0),(6,.v (.slice A L.length cap)),(7,.p 2 0),(9,.p 3 0)],[⟨44,a7 { c with s := s,timer := t } (cS v1a c v1c)⟩,⟨44,bN⟩,⟨107,aH (nC s window (aM c.o)).1⟩,⟨50,[iI c.t.my,iI c.t.port,iI ((nC s window (aM c.o)).1.seq),iI c.r.next,iI (ka + 1),iI (wO c.r),iI 0,iI (-1),.bool false,.bool false,iI 0,iI 0,.string ((nC s window (aM c.o)).1.text)]⟩],[],[ap w.heap.size 50 13 (.slice A L.length cap) (L.map ak),aF w.heap.size (cS v1a c v1c) 2 (c.r.held.map pC),cH Z c Y]⟩) (by rw [show (K6.wrap (BitVec.ofInt 64 ka ||| BitVec.ofInt 64 1).toNat) = (ka + 1) from segFl_or hka] <;> rfl) ?_
 refine aR [1,2,4,6,7,9] [] ?_
 exact ⟨⟨(ka + 1),(by first | (simp [eK,hT]; done) | (rw [hF,hka]; simp [eK]; done) | (rw [hF]; exact hka))⟩,kF 4 0 [1,2,4,6,7,9]⟩
 have hF := h8
 refine kK ?_
 exact ⟨⟨(ka),(by first | (simp [eK,hT]; done) | (rw [hF,hka]; simp [eK]; done) | (rw [hF]; exact hka))⟩,kF 4 0 [1,2,4,6,7,9]⟩
 rintro ⟨kb,hkb⟩
 try dsimp only
 try dsimp only at hkb
 refine kQ <| kHD 2 [1,2,4,6,7,62,63] [(62,.v (.slice A L.length cap)),(63,.v (.agg #[iI c.t.my,iI c.t.port,iI ((nC s window (aM c.o)).1.seq),iI c.r.next,iI kb,iI (wO c.r),iI 0,iI (-1),.bool false,.bool false,iI 0,iI 0,.string ((nC s window (aM c.o)).1.text)]))] rfl (bi (e := 50) (K := 13) (bytes := 104) [.agg #[iI c.t.my,iI c.t.port,iI ((nC s window (aM c.o)).1.seq),iI c.r.next,iI kb,iI (wO c.r),iI 0,iI (-1),.bool false,.bool false,iI 0,iI 0,.string ((nC s window (aM c.o)).1.text)]] (rs := ([⟨c.t.my,c.t.port,(nC s window (aM c.o)).1.seq,c.r.next,kb,wO c.r,⟨0,(-1),false,false,0,0⟩,(nC s window (aM c.o)).1.text⟩] : List Seg).map ak) rfl rfl) ?_
 intro g9
 refine kHD 0 [1,2,4,6,7,62,64] [] rfl (dt (e := 50) (K := 13) (bytes := 104) (i := 1) (q := (L ++ ([⟨c.t.my,c.t.port,(nC s window (aM c.o)).1.seq,c.r.next,kb,wO c.r,⟨0,(-1),false,false,0,0⟩,(nC s window (aM c.o)).1.text⟩] : List Seg)).length) (new := ([⟨c.t.my,c.t.port,(nC s window (aM c.o)).1.seq,c.r.next,kb,wO c.r,⟨0,(-1),false,false,0,0⟩,(nC s window (aM c.o)).1.text⟩] : List Seg).map ak) (rs' := (L ++ ([⟨c.t.my,c.t.port,(nC s window (aM c.o)).1.seq,c.r.next,kb,wO c.r,⟨0,(-1),false,false,0,0⟩,(nC s window (aM c.o)).1.text⟩] : List Seg)).map ak) rfl rfl rfl rfl (by kernel_rfl) (by kernel_rfl) (by kernel_rfl) rfl (by simp) (by rw [List.map_append]) (by simp) (fun ww hf => (aS (hf (ap w.heap.size 50 13 (.slice (some ⟨g9,0,none⟩) 1 1) (([⟨c.t.my,c.t.port,(nC s window (aM c.o)).1.seq,c.r.next,kb,wO c.r,⟨0,(-1),false,false,0,0⟩,(nC s window (aM c.o)).1.text⟩] : List Seg).map ak)) (by simp)))) (by intro r hr; obtain ⟨x,hx,rfl⟩ := List.mem_map.1 hr; exact ⟨rfl,by simp [ak,Value.oneCell']⟩) (by (try simp only [List.length_map,List.length_append,List.length_cons,List.length_nil,List.length_take,List.length_drop,maxLen]); omega) (by (try simp only [List.length_map,List.length_append,List.length_cons,List.length_nil,List.length_take,List.length_drop,maxLen]); omega)) ?_
 rintro ⟨v10a,v10c⟩
 refine aR [1,2,4,6,7] [(6,.v (.slice v10a ((L ++ ([⟨c.t.my,c.t.port,(nC s window (aM c.o)).1.seq,c.r.next,kb,wO c.r,⟨0,(-1),false,false,0,0⟩,(nC s window (aM c.o)).1.text⟩] : List Seg)).length) v10c))] <| kQ <| dy 3 [1,2,4,6,67,68] [(67,.v (.agg (ai s).toArray)),(68,.v (.agg (aH (nC s window (aM c.o)).1).toArray))] 91 [.agg (ai s).toArray,.agg (aH (nC s window (aM c.o)).1).toArray] (some 69) rfl (aA fun ww hf => gz s ((nC s window (aM c.o)).1) ww  ) ?_
 intro _
 refine bf [1,2,4,6] [] 0 ⟨44,a7 { c with s := (sO s ((nC s window (aM c.o)).1)),timer := t } (cS v1a c v1c)⟩ <| kQ <| aR [1,2,4,6,73] [(73,aB (t == 0))] <| kC (t == 0) (fun h11 => ?_) (fun h11 => ?_)
 have h11p := bC h11
 refine kG <| bf [1,2,4,6] [] 0 ⟨44,a7 { c with s := (sO s ((nC s window (aM c.o)).1)),timer := 3 } (cS v1a c v1c)⟩ ?_
 have hrow : ej c (nC s window (aM c.o)).1 = ⟨c.t.my,c.t.port,(nC s window (aM c.o)).1.seq,c.r.next,kb,wO c.r,⟨0,(-1),false,false,0,0⟩,(nC s window (aM c.o)).1.text⟩ := by rw [hkb]; rfl
 exact ⟨⟨(sO s (nC s window (aM c.o)).1,(L ++ ([⟨c.t.my,c.t.port,(nC s window (aM c.o)).1.seq,c.r.next,kb,wO c.r,⟨0,(-1),false,false,0,0⟩,(nC s window (aM c.o)).1.text⟩] : List Seg)),3,v10a,v10c),⟨pumpS_step hyes HS,pumpL_step hyes hrow HL,row_len HR (eN hyes),tmr_next HT (by (try dsimp only); split <;> omega)⟩⟩,ei [0,2,3] <| kF 2 0 [1,2,4,6],by show (fun (s : Snd) (L : List Seg) (t : Int) (A : Option Addr) (cap : Nat) => il s) (sO s (nC s window (aM c.o)).1) (L ++ ([⟨c.t.my,c.t.port,(nC s window (aM c.o)).1.seq,c.r.next,kb,wO c.r,⟨0,(-1),false,false,0,0⟩,(nC s window (aM c.o)).1.text⟩] : List Seg)) 3 v10a v10c < il s; exact eN hyes⟩
 have h11p := bA h11
 refine kK ?_
 have hrow : ej c (nC s window (aM c.o)).1 = ⟨c.t.my,c.t.port,(nC s window (aM c.o)).1.seq,c.r.next,kb,wO c.r,⟨0,(-1),false,false,0,0⟩,(nC s window (aM c.o)).1.text⟩ := by rw [hkb]; rfl
 exact ⟨⟨(sO s (nC s window (aM c.o)).1,(L ++ ([⟨c.t.my,c.t.port,(nC s window (aM c.o)).1.seq,c.r.next,kb,wO c.r,⟨0,(-1),false,false,0,0⟩,(nC s window (aM c.o)).1.text⟩] : List Seg)),t,v10a,v10c),⟨pumpS_step hyes HS,pumpL_step hyes hrow HL,row_len HR (eN hyes),tmr_next HT (by (try dsimp only); split <;> omega)⟩⟩,ei [0,2,3] <| kF 2 0 [1,2,4,6],by show (fun (s : Snd) (L : List Seg) (t : Int) (A : Option Addr) (cap : Nat) => il s) (sO s (nC s window (aM c.o)).1) (L ++ ([⟨c.t.my,c.t.port,(nC s window (aM c.o)).1.seq,c.r.next,kb,wO c.r,⟨0,(-1),false,false,0,0⟩,(nC s window (aM c.o)).1.text⟩] : List Seg)) t v10a v10c < il s; exact eN hyes⟩
theorem yiPump_c (c : Con) (rV : Value) (window : Int) (w : World) (hZ : Sl w rV 2 (c.r.held.map pC)) (hkn : c.r.held.length ≤ 1048576)(hm : ∀ p ∈ c.r.held, p.text.size ≤ 1048576) (hsz : c.r.data.size ≤ 4611686018427387904) (hwi : -9223372036854775808 ≤ window ∧ window ≤ 9223372036854775807) (B : Nat) (hB : B ≤ w.heap.size) : Calls Tryz.prog 46 #[.agg (a7 c rV).toArray, iI window] w fun e w' => XRs w w' e (α := (Option Addr × Nat) × (Option Addr × Nat)) (fun y => .tuple #[.agg (a7 (pump c window).1 (.slice y.1.1 ((pump c window).1.r.held.length) y.1.2)).toArray, .slice y.2.1 ((pump c window).2.length) y.2.2]) (fun y => [aF B (.slice y.1.1 ((pump c window).1.r.held.length) y.1.2) 2 ((pump c window).1.r.held.map pC), aF B (.slice y.2.1 ((pump c window).2.length) y.2.2) 13 ((pump c window).2.map ak)]) := by
 obtain ⟨Z,Y,hY⟩ := hZ.form
 rw [List.length_map] at hY; subst hY
 have hJ := hZ.len; rw [List.length_map] at hJ
 have hqcrh := Sl.capLe hZ
 refine ck (args := [.agg (a7 c (cS Z c Y)).toArray,iI window]) (fn := Tryz.f46) [cH Z c Y] Tryz.func46 rfl Tryz.ntmps46 rfl (by simp only [List.mem_cons,List.not_mem_nil,or_false,forall_eq_or_imp,forall_eq]; exact ⟨rfl,hZ⟩) ?_
 refine kQ <| c8 [1,2,4] ⟨[(1,aI window),(2,.p 0 0),(4,.p 1 0)],[⟨44,a7 c (cS Z c Y)⟩,⟨44,bN⟩],[],[cH Z c Y]⟩ <| kQ <| dy 1 [1,2,4,11] [(11,.v (.agg (a7 c (cS Z c Y)).toArray))] 43 [.agg (a7 c (cS Z c Y)).toArray] (some 12) rfl (cZ fun ww hw hf => eO c (cS Z c Y) ww (hf _ m0) (by assumption) w.heap.size hw) ?_
 rintro ⟨v1a,v1c⟩
 refine i5 [1,2,4,6] [(6,.p 2 0)] [⟨44,a7 c (cS v1a c v1c)⟩] <| kS <| kQ <| dy 1 [1,2,4,6,13] [(13,.v (.agg (a7 c (cS Z c Y)).toArray))] 24 [.agg (a7 c (cS Z c Y)).toArray] (some 14) rfl (aA fun ww hf => iY c (cS Z c Y) ww (hf _ m1) (by assumption) (by omega)) ?_
 intro _
 refine cA 2 [1,2,4,6,16] [(16,aB (!(aW c)))] <| kP 16 (!(aW c)) (fun h2 => ?_) (fun h2 => ?_)
 have h2n := bg h2
 refine aR [1,4,6,25] [(25,aB true)] <| kT <| kQ <| bf [4,5] [(5,.v (.slice none 0 0))] 1 ⟨44,a7 c (cS v1a c v1c)⟩ ?_
 refine kR ?_
 have hmod : pump c window = (c,[]) := by first | (simp [pump, *]; done) | exact eF hok hs8 hs7 hS hL (by first | exact HT.symm | (unfold tmr; rw [show L.isEmpty = decide (L.length = 0) from by cases L <;> rfl]; simp only [decide_eq_true_eq]; split <;> (try split) <;> omega))
 exact ⟨[.agg (a7 c (cS v1a c v1c)).toArray,.slice none 0 0],by kernel_rfl,fun w' hb hf ha => by rw [hmod]; exact gu ((v1a,v1c),(none,0)) rfl rfl (pO (hf _ m0) hB) ⟨.inl ⟨rfl,_,rfl⟩,fun b hb => (hb.1 rfl).elim⟩ (ef rfl) hb⟩
 have h2n := aD h2
 refine cA 5 [1,2,4,6,21] [(21,aB (c.state == 8))] <| kP 21 (c.state == 8) (fun h3 => ?_) (fun h3 => ?_)
 have h3p := bC h3
 refine aR [1,4,6,25] [(25,aB true)] <| kT <| kQ <| bf [4,5] [(5,.v (.slice none 0 0))] 1 ⟨44,a7 c (cS v1a c v1c)⟩ ?_
 refine kR ?_
 have hmod : pump c window = (c,[]) := by first | (simp [pump, *]; done) | exact eF hok hs8 hs7 hS hL (by first | exact HT.symm | (unfold tmr; rw [show L.isEmpty = decide (L.length = 0) from by cases L <;> rfl]; simp only [decide_eq_true_eq]; split <;> (try split) <;> omega))
 exact ⟨[.agg (a7 c (cS v1a c v1c)).toArray,.slice none 0 0],by kernel_rfl,fun w' hb hf ha => by rw [hmod]; exact gu ((v1a,v1c),(none,0)) rfl rfl (pO (hf _ m0) hB) ⟨.inl ⟨rfl,_,rfl⟩,fun b hb => (hb.1 rfl).elim⟩ (ef rfl) hb⟩
 have h3p := bA h3
 refine aR [1,4,6,25] [(25,aB (c.state == 7))] <| kC (c.state == 7) (fun h4 => ?_) (fun h4 => ?_)
 have h4p := bC h4
 refine kQ <| bf [4,5] [(5,.v (.slice none 0 0))] 1 ⟨44,a7 c (cS v1a c v1c)⟩ <| kR ?_
 have hmod : pump c window = (c,[]) := by first | (simp [pump, *]; done) | exact eF hok hs8 hs7 hS hL (by first | exact HT.symm | (unfold tmr; rw [show L.isEmpty = decide (L.length = 0) from by cases L <;> rfl]; simp only [decide_eq_true_eq]; split <;> (try split) <;> omega))
 exact ⟨[.agg (a7 c (cS v1a c v1c)).toArray,.slice none 0 0],by kernel_rfl,fun w' hb hf ha => by rw [hmod]; exact gu ((v1a,v1c),(none,0)) rfl rfl (pO (hf _ m0) hB) ⟨.inl ⟨rfl,_,rfl⟩,fun b hb => (hb.1 rfl).elim⟩ (ef rfl) hb⟩
 have h4p := bA h4
 refine kK <| kQ <| kHD 0 [1,4,6] [] rfl (bi (e := 50) (K := 13) (bytes := 104) [] (rs := ([] : List Seg).map ak) rfl rfl) ?_
 intro g5
 refine aR [1,4,6,7] [(7,.v (.slice (some ⟨g5,0,none⟩) 0 0))] <| kS <| aZ ?_
 have hok : aW c = true := by simp_all
 have hs8 : ¬ c.state = 8 := by simp_all
 have hs7 : ¬ c.state = 7 := by simp_all
 refine cz (α := {x : Snd × List Seg × Option Addr × Nat // (fun (s : Snd) (L : List Seg) (A : Option Addr) (cap : Nat) => (cg c.s window (aM c.o)).1 = (cg s window (aM c.o)).1 ∧ (cg c.s window (aM c.o)).2.map (ej c) = L ++ (cg s window (aM c.o)).2.map (ej c) ∧ L.length + il s ≤ 49) x.1 x.2.1 x.2.2.1 x.2.2.2}) (fun x => (fun (s : Snd) (L : List Seg) (A : Option Addr) (cap : Nat) => (⟨[(1,aI window),(4,.p 1 0),(6,.p 2 0),(7,.v (.slice A L.length cap))],[⟨44,a7 c (cS Z c Y)⟩,⟨44,bN⟩,⟨44,a7 { c with s := s } (cS v1a c v1c)⟩],[],[ap w.heap.size 50 13 (.slice A L.length cap) (L.map ak),aF w.heap.size (cS v1a c v1c) 2 (c.r.held.map pC),cH Z c Y]⟩ : St)) x.1.1 x.1.2.1 x.1.2.2.1 x.1.2.2.2) (fun x => (fun (s : Snd) (L : List Seg) (A : Option Addr) (cap : Nat) => il s) x.1.1 x.1.2.1 x.1.2.2.1 x.1.2.2.2) ⟨(c.s,([] : List Seg),(some ⟨g5,0,none⟩),0),⟨rfl,rfl,(by have := meas_le (conOk_s hok); simp only [List.length_nil]; omega)⟩⟩ (ei [0,1,2] <| kF 3 0 [1,4,6,7]) ?_
 rintro ⟨⟨s,L,A,cap⟩,HS,HL,HR⟩
 try dsimp only
 try dsimp only at HS HL HR
 refine aZ <| kS <| bo ⟨[(1,aI window),(4,.p 1 0),(6,.p 2 0),(7,.v (.slice A L.length cap)),(8,.p 3 0),(9,aB ((nC s window (aM c.o)).2))],[⟨44,a7 c (cS Z c Y)⟩,⟨44,bN⟩,⟨44,a7 { c with s := s } (cS v1a c v1c)⟩,⟨107,aH (nC s window (aM c.o)).1⟩],[],[ap w.heap.size 50 13 (.slice A L.length cap) (L.map ak),aF w.heap.size (cS v1a c v1c) 2 (c.r.held.map pC),cH Z c Y]⟩ ?_ ?_
 refine cm [] (by kernel_rfl) (fun ρ σ => ?_)
 refine eI [0,1,2,3] [32,31,30,1,4,6,7] 8 [(32,.v (.agg (a7 { c with s := s } (cS v1a c v1c)).toArray)),(31,aI window),(30,.v (.agg (ai s).toArray))] <| kA [4,9] ⟨?_,?_⟩
 refine dr 4 102 [.agg (a7 { c with s := s } (cS v1a c v1c)).toArray] (some 33) rfl (aA fun ww hf => yiMssFor_c ({ c with s := s }) (cS v1a c v1c) ww ) ?_
 intro _
 refine kA [5,9] ⟨?_,?_⟩
 refine dr 5 101 [.agg (ai s).toArray,iI window,iI (aM c.o)] (some 34) rfl (aA fun ww hf => hP s window (aM c.o) ww  (by first | omega | (rw [ab (by omega) (by omega)]; omega))) ?_
 intro _
 refine eI [6,7,8] [36,35,1,4,6,7] 3 [(36,aB ((nC s window (aM c.o)).2)),(35,.v (.agg (aH (nC s window (aM c.o)).1).toArray))] <| kA [9] <| cK 9 ⟨107,aH (⟨0,(⟨#[]⟩ : ByteArray),false⟩ : Chk)⟩ _ rfl (by kernel_rfl) (by kernel_rfl) (by kernel_rfl) (by kernel_rfl) rfl ?_
 refine kA [10] <| e8 10 3 0 (aH (nC s window (aM c.o)).1) rfl <| ca [11] [9,8,1,4,6,7] 0 [(9,aB ((nC s window (aM c.o)).2)),(8,.p 3 0),(1,aI window),(4,.p 1 0),(6,.p 2 0),(7,.v (.slice A L.length cap))] <| kZ ?_
 exact kF 4 0 [1,4,6,7,8,9]
 refine cK 9 ⟨107,aH (⟨0,(⟨#[]⟩ : ByteArray),false⟩ : Chk)⟩ _ rfl (by kernel_rfl) (by kernel_rfl) (by kernel_rfl) (by kernel_rfl) rfl ?_
 refine kA [5] <| dr 5 101 [.agg (ai s).toArray,iI window,iI (aM c.o)] (some 34) rfl (aA fun ww hf => hP s window (aM c.o) ww  (by first | omega | (rw [ab (by omega) (by omega)]; omega))) ?_
 intro _
 refine eI [6,7,8] [36,35,8,1,4,6,7] 2 [(36,aB ((nC s window (aM c.o)).2)),(35,.v (.agg (aH (nC s window (aM c.o)).1).toArray))] <| kA [10] <| e8 10 3 0 (aH (nC s window (aM c.o)).1) rfl <| ca [11] [9,8,1,4,6,7] 0 [(9,aB ((nC s window (aM c.o)).2)),(8,.p 3 0),(1,aI window),(4,.p 1 0),(6,.p 2 0),(7,.v (.slice A L.length cap))] ?_
 refine kZ ?_
 exact kF 4 0 [1,4,6,7,8,9]
 refine cK 9 ⟨107,aH (⟨0,(⟨#[]⟩ : ByteArray),false⟩ : Chk)⟩ _ rfl (by kernel_rfl) (by kernel_rfl) (by kernel_rfl) (by kernel_rfl) rfl ?_
 refine kA [4] <| dr 4 102 [.agg (a7 { c with s := s } (cS v1a c v1c)).toArray] (some 33) rfl (aA fun ww hf => yiMssFor_c ({ c with s := s }) (cS v1a c v1c) ww ) ?_
 intro _
 refine kA [5] <| dr 5 101 [.agg (ai s).toArray,iI window,iI (aM c.o)] (some 34) rfl (aA fun ww hf => hP s window (aM c.o) ww  (by first | omega | (rw [ab (by omega) (by omega)]; omega))) ?_
 intro _
 refine eI [6,7,8] [36,35,8,1,4,6,7] 2 [(36,aB ((nC s window (aM c.o)).2)),(35,.v (.agg (aH (nC s window (aM c.o)).1).toArray))] <| kA [10] <| e8 10 3 0 (aH (nC s window (aM c.o)).1) rfl <| ca [11] [9,8,1,4,6,7] 0 [(9,aB ((nC s window (aM c.o)).2)),(8,.p 3 0),(1,aI window),(4,.p 1 0),(6,.p 2 0),(7,.v (.slice A L.length cap))] ?_
 refine kZ ?_
 exact kF 4 0 [1,4,6,7,8,9]
 refine kS <| kQ <| aR [1,4,6,7,8,38] [(38,aB (!((nC s window (aM c.o)).2)))] <| kC (!((nC s window (aM c.o)).2)) (fun h6 => ?_) (fun h6 => ?_)
 have hno := bg h6
 have hS := pumpS_end hno HS
 have hL := pumpL_end hno HL
 refine cq <| kS <| kQ <| cR 4 [4,6,7,72] [(4,.p 1 0),(6,.p 2 0),(7,.v (.slice A L.length cap)),(72,aB (decide (((L.length : Nat) : Int) > 0)))] ?_
 refine kP 72 (decide (((L.length : Nat) : Int) > 0)) (fun h7 => ?_) (fun h7 => ?_)
 have h7p := of_decide_eq_true h7
 refine aR [4,6,7,76] [(76,aB (c.timer == 0))] <| kC (c.timer == 0) (fun h8 => ?_) (fun h8 => ?_)
 have h8p := bC h8
 refine kG <| bf [4,6,7] [] 2 ⟨44,a7 { c with s := s,timer := 3 } (cS v1a c v1c)⟩ <| kQ <| bf [4,5] [(5,.v (.slice A L.length cap))] 1 ⟨44,a7 { c with s := s,timer := 3 } (cS v1a c v1c)⟩ ?_
 refine kR ?_
 have hmod : pump c window = (({ c with s := s,timer := 3 }),L) := by first | (simp [pump, *]; done) | exact eF hok hs8 hs7 hS hL (by first | exact HT.symm | (unfold tmr; rw [show L.isEmpty = decide (L.length = 0) from by cases L <;> rfl]; simp only [decide_eq_true_eq]; split <;> (try split) <;> omega))
 exact ⟨[.agg (a7 { c with s := s,timer := 3 } (cS v1a c v1c)).toArray,.slice A L.length cap],by kernel_rfl,fun w' hb hf ha => by rw [hmod]; exact gu ((v1a,v1c),(A,cap)) rfl rfl (pO (hf _ m1) hB) (pR (hf _ m0) hB) (Apart.sub2 ha (i := 1) (j := 0) rfl rfl (by decide) rfl (fun b h => h) (fun b h => bX h)) hb⟩
 have h8p := bA h8
 refine kK <| kQ <| bf [4,5] [(5,.v (.slice A L.length cap))] 1 ⟨44,a7 { c with s := s } (cS v1a c v1c)⟩ <| kR ?_
 have hmod : pump c window = (({ c with s := s }),L) := by first | (simp [pump, *]; done) | exact eF hok hs8 hs7 hS hL (by first | exact HT.symm | (unfold tmr; rw [show L.isEmpty = decide (L.length = 0) from by cases L <;> rfl]; simp only [decide_eq_true_eq]; split <;> (try split) <;> omega))
 exact ⟨[.agg (a7 { c with s := s } (cS v1a c v1c)).toArray,.slice A L.length cap],by kernel_rfl,fun w' hb hf ha => by rw [hmod]; exact gu ((v1a,v1c),(A,cap)) rfl rfl (pO (hf _ m1) hB) (pR (hf _ m0) hB) (Apart.sub2 ha (i := 1) (j := 0) rfl rfl (by decide) rfl (fun b h => h) (fun b h => bX h)) hb⟩
 have h7p := of_decide_eq_false h7
 refine aR [4,6,7,76] [(76,aB false)] <| kN <| kK <| kQ <| bf [4,5] [(5,.v (.slice A L.length cap))] 1 ⟨44,a7 { c with s := s } (cS v1a c v1c)⟩ ?_
 refine kR ?_
 have hmod : pump c window = (({ c with s := s }),L) := by first | (simp [pump, *]; done) | exact eF hok hs8 hs7 hS hL (by first | exact HT.symm | (unfold tmr; rw [show L.isEmpty = decide (L.length = 0) from by cases L <;> rfl]; simp only [decide_eq_true_eq]; split <;> (try split) <;> omega))
 exact ⟨[.agg (a7 { c with s := s } (cS v1a c v1c)).toArray,.slice A L.length cap],by kernel_rfl,fun w' hb hf ha => by rw [hmod]; exact gu ((v1a,v1c),(A,cap)) rfl rfl (pO (hf _ m1) hB) (pR (hf _ m0) hB) (Apart.sub2 ha (i := 1) (j := 0) rfl rfl (by decide) rfl (fun b h => h) (fun b h => bX h)) hb⟩
 have hyes := aD h6
 refine kK <| kQ <| dh 1 [1,4,6,7,8,39] [(1,aI window),(4,.p 1 0),(6,.p 2 0),(7,.v (.slice A L.length cap)),(8,.p 3 0),(39,.v (.agg (a7 { c with s := s } (cS v1a c v1c)).toArray))] 45 [.agg (a7 { c with s := s } (cS v1a c v1c)).toArray] (some 40) rfl (aA fun ww hf => iw ({ c with s := s }) (cS v1a c v1c) ww (Own.sl (hf _ m1)) (by first | omega | (dsimp only; omega))) ?_
 intro _
 refine i5 [1,4,6,7,8,10] [(10,.p 4 0)] [⟨50,[iI c.t.my,iI c.t.port,iI (ay s),iI c.r.next,iI 16,iI (wO c.r),iI 0,iI (-1),.bool false,.bool false,iI 0,iI 0,.string (⟨#[]⟩ : ByteArray)]⟩] <| kQ <| bf [1,4,6,7,8,10] [] 4 ⟨50,[iI c.t.my,iI c.t.port,iI ((nC s window (aM c.o)).1.seq),iI c.r.next,iI 16,iI (wO c.r),iI 0,iI (-1),.bool false,.bool false,iI 0,iI 0,.string (⟨#[]⟩ : ByteArray)]⟩ <| kQ <| bf [1,4,6,7,8,10] [] 4 ⟨50,[iI c.t.my,iI c.t.port,iI ((nC s window (aM c.o)).1.seq),iI c.r.next,iI 16,iI (wO c.r),iI 0,iI (-1),.bool false,.bool false,iI 0,iI 0,.string ((nC s window (aM c.o)).1.text)]⟩ ?_
 refine kS <| cf (α := {zz : Int // (fun (ka : Int) => ka = eK (nC s window (aM c.o)).1 false) zz}) (fun zz => (fun (ka : Int) => (⟨[(1,aI window),(4,.p 1 0),(6,.p 2 0),(7,.v (.slice A L.length cap)),(8,.p 3 0),(10,.p 4 0)],[⟨44,a7 c (cS Z c Y)⟩,⟨44,bN⟩,⟨44,a7 { c with s := s } (cS v1a c v1c)⟩,⟨107,aH (nC s window (aM c.o)).1⟩,⟨50,[iI c.t.my,iI c.t.port,iI ((nC s window (aM c.o)).1.seq),iI c.r.next,iI ka,iI (wO c.r),iI 0,iI (-1),.bool false,.bool false,iI 0,iI 0,.string ((nC s window (aM c.o)).1.text)]⟩],[],[ap w.heap.size 50 13 (.slice A L.length cap) (L.map ak),aF w.heap.size (cS v1a c v1c) 2 (c.r.held.map pC),cH Z c Y]⟩ : St)) zz.1) ?_ ?_
 refine kQ <| aR [1,4,6,7,8,10,49] [(49,aB (!(((nC s window (aM c.o)).1.text).toList == (⟨#[]⟩ : ByteArray).toList)))] <| kC (!(((nC s window (aM c.o)).1.text).toList == (⟨#[]⟩ : ByteArray).toList)) (fun h9 => ?_) (fun h9 => ?_)
 have hT : (nC s window (aM c.o)).1.text.toList.isEmpty = false := by simpa [bv] using h9
 refine kG <| bf [1,4,6,7,8,10] [] 4 ⟨50,[iI c.t.my,iI c.t.port,iI ((nC s window (aM c.o)).1.seq),iI c.r.next,iI 24,iI (wO c.r),iI 0,iI (-1),.bool false,.bool false,iI 0,iI 0,.string ((nC s window (aM c.o)).1.text)]⟩ ?_
 exact ⟨⟨(24),(by first | (simp [eK,hT]; done) | (rw [hF,hka]; simp [eK]; done) | (rw [hF]; exact hka))⟩,kF 5 0 [1,4,6,7,8,10]⟩
 have hT : (nC s window (aM c.o)).1.text.toList.isEmpty = true := by simpa [bv] using h9
 refine kK ?_
 exact ⟨⟨(16),(by first | (simp [eK,hT]; done) | (rw [hF,hka]; simp [eK]; done) | (rw [hF]; exact hka))⟩,kF 5 0 [1,4,6,7,8,10]⟩
 rintro ⟨ka,hka⟩
 try dsimp only
 try dsimp only at hka
 refine kS <| cf (α := {zz : Int // (fun (kb : Int) => kb = eK (nC s window (aM c.o)).1 (nC s window (aM c.o)).1.fin) zz}) (fun zz => (fun (kb : Int) => (⟨[(1,aI window),(4,.p 1 0),(6,.p 2 0),(7,.v (.slice A L.length cap)),(8,.p 3 0),(10,.p 4 0)],[⟨44,a7 c (cS Z c Y)⟩,⟨44,bN⟩,⟨44,a7 { c with s := s } (cS v1a c v1c)⟩,⟨107,aH (nC s window (aM c.o)).1⟩,⟨50,[iI c.t.my,iI c.t.port,iI ((nC s window (aM c.o)).1.seq),iI c.r.next,iI kb,iI (wO c.r),iI 0,iI (-1),.bool false,.bool false,iI 0,iI 0,.string ((nC s window (aM c.o)).1.text)]⟩],[],[ap w.heap.size 50 13 (.slice A L.length cap) (L.map ak),aF w.heap.size (cS v1a c v1c) 2 (c.r.held.map pC),cH Z c Y]⟩ : St)) zz.1) ?_ ?_
 refine kQ <| aR [1,4,6,7,8,10,55] [(55,aB ((nC s window (aM c.o)).1.fin))] <| kC ((nC s window (aM c.o)).1.fin) (fun h10 => ?_) (fun h10 => ?_)
 have hF := h10
 refine kG <| kRB 5 [1,4,6,7,8,10] [(1,aI window),(4,.p 1 0),(6,.p 2 0),(7,.v (.slice A L.length cap)),(8,.p 3 0),(10,.p 4 0)] [⟨44,a7 c (cS Z c Y)⟩,⟨44,bN⟩,⟨44,a7 { c with s := s } (cS v1a c v1c)⟩,⟨107,aH (nC s window (aM c.o)).1⟩,⟨50,[iI c.t.my,iI c.t.port,iI ((nC s window (aM c.o)).1.seq),iI c.r.next,iI (K6.wrap (BitVec.ofInt 64 ka ||| BitVec.ofInt 64 1).toNat),iI (wO c.r),iI 0,iI (-1),.bool false,.bool false,iI 0,iI 0,.string ((nC s window (aM c.o)).1.text)]⟩] <| gW (st' := ⟨[(1,aI window),(4,.p 1 0),(6,.p 2 0),(7,.v (.slice A L.length cap)),(8,.p 3 0),(10,.p 4 0)],[⟨44,a7 c (cS Z c Y)⟩,⟨44,bN⟩,⟨44,a7 { c with s := s } (cS v1a c v1c)⟩,⟨107,aH (nC s window (aM c.o)).1⟩,⟨50,[iI c.t.my,iI c.t.port,iI ((nC s window (aM c.o)).1.seq),iI c.r.next,iI (ka + 1),iI (wO c.r),iI 0,iI (-1),.bool false,.bool false,iI 0,iI 0,.string ((nC s window (aM c.o)).1.text)]⟩],[],[ap w.heap.size 50 13 (.slice A L.length cap) (L.map ak),aF w.heap.size (cS v1a c v1c) 2 (c.r.held.map pC),cH Z c Y]⟩) (by rw [show (K6.wrap (BitVec.ofInt 64 ka ||| BitVec.ofInt 64 1).toNat) = (ka + 1) from segFl_or hka] <;> rfl) ?_
 refine aR [1,4,6,7,8,10] [] ?_
 exact ⟨⟨(ka + 1),(by first | (simp [eK,hT]; done) | (rw [hF,hka]; simp [eK]; done) | (rw [hF]; exact hka))⟩,kF 5 0 [1,4,6,7,8,10]⟩
 have hF := h10
 refine kK ?_
 exact ⟨⟨(ka),(by first | (simp [eK,hT]; done) | (rw [hF,hka]; simp [eK]; done) | (rw [hF]; exact hka))⟩,kF 5 0 [1,4,6,7,8,10]⟩
 rintro ⟨kb,hkb⟩
 try dsimp only
 try dsimp only at hkb
 refine kQ <| kHD 2 [1,4,6,7,8,60,61] [(60,.v (.slice A L.length cap)),(61,.v (.agg #[iI c.t.my,iI c.t.port,iI ((nC s window (aM c.o)).1.seq),iI c.r.next,iI kb,iI (wO c.r),iI 0,iI (-1),.bool false,.bool false,iI 0,iI 0,.string ((nC s window (aM c.o)).1.text)]))] rfl (bi (e := 50) (K := 13) (bytes := 104) [.agg #[iI c.t.my,iI c.t.port,iI ((nC s window (aM c.o)).1.seq),iI c.r.next,iI kb,iI (wO c.r),iI 0,iI (-1),.bool false,.bool false,iI 0,iI 0,.string ((nC s window (aM c.o)).1.text)]] (rs := ([⟨c.t.my,c.t.port,(nC s window (aM c.o)).1.seq,c.r.next,kb,wO c.r,⟨0,(-1),false,false,0,0⟩,(nC s window (aM c.o)).1.text⟩] : List Seg).map ak) rfl rfl) ?_
 intro g11
 refine kHD 0 [1,4,6,7,8,60,62] [] rfl (dt (e := 50) (K := 13) (bytes := 104) (i := 1) (q := (L ++ ([⟨c.t.my,c.t.port,(nC s window (aM c.o)).1.seq,c.r.next,kb,wO c.r,⟨0,(-1),false,false,0,0⟩,(nC s window (aM c.o)).1.text⟩] : List Seg)).length) (new := ([⟨c.t.my,c.t.port,(nC s window (aM c.o)).1.seq,c.r.next,kb,wO c.r,⟨0,(-1),false,false,0,0⟩,(nC s window (aM c.o)).1.text⟩] : List Seg).map ak) (rs' := (L ++ ([⟨c.t.my,c.t.port,(nC s window (aM c.o)).1.seq,c.r.next,kb,wO c.r,⟨0,(-1),false,false,0,0⟩,(nC s window (aM c.o)).1.text⟩] : List Seg)).map ak) rfl rfl rfl rfl (by kernel_rfl) (by kernel_rfl) (by kernel_rfl) rfl (by simp) (by rw [List.map_append]) (by simp) (fun ww hf => (aS (hf (ap w.heap.size 50 13 (.slice (some ⟨g11,0,none⟩) 1 1) (([⟨c.t.my,c.t.port,(nC s window (aM c.o)).1.seq,c.r.next,kb,wO c.r,⟨0,(-1),false,false,0,0⟩,(nC s window (aM c.o)).1.text⟩] : List Seg).map ak)) (by simp)))) (by intro r hr; obtain ⟨x,hx,rfl⟩ := List.mem_map.1 hr; exact ⟨rfl,by simp [ak,Value.oneCell']⟩) (by (try simp only [List.length_map,List.length_append,List.length_cons,List.length_nil,List.length_take,List.length_drop,maxLen]); omega) (by (try simp only [List.length_map,List.length_append,List.length_cons,List.length_nil,List.length_take,List.length_drop,maxLen]); omega)) ?_
 rintro ⟨v12a,v12c⟩
 refine aR [1,4,6,7,8] [(7,.v (.slice v12a ((L ++ ([⟨c.t.my,c.t.port,(nC s window (aM c.o)).1.seq,c.r.next,kb,wO c.r,⟨0,(-1),false,false,0,0⟩,(nC s window (aM c.o)).1.text⟩] : List Seg)).length) v12c))] <| kG <| dy 3 [1,4,6,7,65,66] [(65,.v (.agg (ai s).toArray)),(66,.v (.agg (aH (nC s window (aM c.o)).1).toArray))] 103 [.agg (ai s).toArray,.agg (aH (nC s window (aM c.o)).1).toArray] (some 67) rfl (aA fun ww hf => yiSentOff_c s ((nC s window (aM c.o)).1) ww  ) ?_
 intro _
 refine bf [1,4,6,7] [] 2 ⟨44,a7 { c with s := (sO s ((nC s window (aM c.o)).1)) } (cS v1a c v1c)⟩ ?_
 have hrow : ej c (nC s window (aM c.o)).1 = ⟨c.t.my,c.t.port,(nC s window (aM c.o)).1.seq,c.r.next,kb,wO c.r,⟨0,(-1),false,false,0,0⟩,(nC s window (aM c.o)).1.text⟩ := by rw [hkb]; rfl
 exact ⟨⟨(sO s (nC s window (aM c.o)).1,(L ++ ([⟨c.t.my,c.t.port,(nC s window (aM c.o)).1.seq,c.r.next,kb,wO c.r,⟨0,(-1),false,false,0,0⟩,(nC s window (aM c.o)).1.text⟩] : List Seg)),v12a,v12c),⟨pumpS_step hyes HS,pumpL_step hyes hrow HL,row_len HR (eN hyes)⟩⟩,ei [0,2,3] <| kF 3 0 [1,4,6,7],by show (fun (s : Snd) (L : List Seg) (A : Option Addr) (cap : Nat) => il s) (sO s (nC s window (aM c.o)).1) (L ++ ([⟨c.t.my,c.t.port,(nC s window (aM c.o)).1.seq,c.r.next,kb,wO c.r,⟨0,(-1),false,false,0,0⟩,(nC s window (aM c.o)).1.text⟩] : List Seg)) v12a v12c < il s; exact eN hyes⟩
end Go.Proofs.YtebgmdiejgcoiaaGreat
