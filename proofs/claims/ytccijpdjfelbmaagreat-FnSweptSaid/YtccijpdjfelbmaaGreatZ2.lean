/- Contracts that this law needs, part 2. -/
import Derived.Test.YtccijpdjfelbmaaGreatZ1
namespace Go.Proofs.YtccijpdjfelbmaaGreat
open Go.RowKit
set_option linter.unusedVariables false
set_option linter.unusedSimpArgs false
set_option maxRecDepth 100000
set_option maxHeartbeats 2000000

theorem yl18Pieces_c (l : List Int) (lV : Value) (m : Nat) (w : World) (hl_lV : Sl w lV 1 (l.map ay)) (hm : m ≤ l.length) (hll : l.length ≤ 64) (hby : ∀ x ∈ l, x ≤ 255) (B : Nat) (hB : B ≤ w.heap.size) : Calls Tryz.prog 131 #[lV, iI (m : Int)] w fun e w' => XRs w w' e (α := Option Addr × Nat) (fun y => .slice y.1 ((gS [] 0 (l.drop m)).length) y.2) (fun y => [a8 B 89 2 (.slice y.1 ((gS [] 0 (l.drop m)).length) y.2) ((gS [] 0 (l.drop m)).map pC)]) := by
 obtain ⟨Al,Cl,hvl⟩ := hl_lV.form
 rw [List.length_map] at hvl; subst hvl
 have hnl := hl_lV.len; rw [List.length_map] at hnl
 have hql := Sl.capLe hl_lV
 refine bA (args := [.slice Al l.length Cl,iI (m : Int)]) (fn := Tryz.f131) [aX (.slice Al l.length Cl) 1 (l.map ay)] Tryz.func131 rfl Tryz.ntmps131 rfl (by simp only [List.mem_cons,List.not_mem_nil,or_false,forall_eq_or_imp,forall_eq]; exact ⟨rfl,hl_lV⟩) ?_
 refine kQ <| cy [0,1] ⟨[(0,.v (.slice Al l.length Cl)),(1,aI (m : Int))],[],[],[aX (.slice Al l.length Cl) 1 (l.map ay)]⟩ <| kQ <| kHS 0 [0,1] [(0,.v (.slice Al l.length Cl)),(1,aI (m : Int))] rfl (aR (e := 89) (K := 2) (bytes := 24) [] (rs := ([] : List Pce).map pC) rfl rfl) ?_
 intro g1
 refine aE [0,1,5] [(0,.v (.slice Al l.length Cl)),(1,aI (m : Int)),(5,.v (.slice (some ⟨g1,0,none⟩) 0 0))] <| kS <| kQ <| aE [0,1,5,6] [(0,.v (.slice Al l.length Cl)),(1,aI (m : Int)),(5,.v (.slice (some ⟨g1,0,none⟩) 0 0)),(6,aI (m : Int))] ?_
 refine ap <| bo (α := {x : Nat × List Pce × Option Addr × Nat × Nat // (fun (i : Nat) (out : List Pce) (A1 : Option Addr) (c1 : Nat) (n : Nat) => (m ≤ i ∧ i ≤ l.length) ∧ gS [] 0 (l.drop m) = gS out (i - m) (l.drop i) ∧ (∀ p ∈ out,0 ≤ p.off ∧ p.off + (p.text.size : Int) ≤ ((i - m : Nat) : Int)) ∧ out.length = n ∧ n ≤ i) x.1 x.2.1 x.2.2.1 x.2.2.2.1 x.2.2.2.2}) (fun x => (fun (i : Nat) (out : List Pce) (A1 : Option Addr) (c1 : Nat) (n : Nat) => (⟨[(0,.v (.slice Al l.length Cl)),(1,aI (m : Int)),(5,.v (.slice A1 n c1)),(6,aI (i : Int))],[],[],[a8 w.heap.size 89 2 (.slice A1 n c1) (out.map pC),aX (.slice Al l.length Cl) 1 (l.map ay)]⟩ : St)) x.1.1 x.1.2.1 x.1.2.2.1 x.1.2.2.2.1 x.1.2.2.2.2) (fun x => (fun (i : Nat) (out : List Pce) (A1 : Option Addr) (c1 : Nat) (n : Nat) => l.length - i) x.1.1 x.1.2.1 x.1.2.2.1 x.1.2.2.2.1 x.1.2.2.2.2) ⟨(m,([] : List Pce),(some ⟨g1,0,none⟩),0,0),⟨⟨Nat.le_refl _,hm⟩,(by rw [Nat.sub_self]),(by simp),rfl,Nat.zero_le _⟩⟩ (e7 [0,1] <| kF 0 0 [0,1,5,6]) ?_
 rintro ⟨⟨i,out,A1,c1,n⟩,hi,HP,hbd,hn,hni⟩
 try dsimp only
 try dsimp only at hi HP hbd hn hni
 refine kS <| kQ <| aE [0,1,5,6,13] [(0,.v (.slice Al l.length Cl)),(1,aI (m : Int)),(5,.v (.slice A1 n c1)),(6,aI (i : Int)),(13,aB (decide ((i : Int) < ((l.length : Nat) : Int))))] <| kC (decide ((i : Int) < ((l.length : Nat) : Int))) (fun h2 => ?_) (fun h2 => ?_)
 have h2p := of_decide_eq_true h2
 have hlt : i < l.length := by simpa using h2
 obtain ⟨x,hx⟩ : ∃ x,l[i]? = some x := ⟨_,List.getElem?_eq_getElem hlt⟩
 have hx255 := hby x (List.mem_of_getElem? hx)
 have hps := pcs_step (out := out) hx hi.1
 refine fk (φ := ∃ b off,Al = some ⟨b,off,none⟩) (fun _ _ _ _ hr => know_sl hr (K := 1) (rs := l.map ay) 1 rfl (j := i) (row := [iI x]) (by simp only [List.getElem?_map,hx]; rfl)) ?_
 rintro ⟨bb,ob,hbb⟩
 refine kK <| kS <| ap <| kS <| kQ <| kOS 2 [0,1,5,6,16,17] [(0,.v (.slice Al l.length Cl)),(1,aI (m : Int)),(5,.v (.slice A1 n c1)),(6,aI (i : Int)),(16,.v (.slice Al l.length Cl)),(17,aI (i : Int))] (.pointer (some ⟨bb,ob + i * 1,none⟩)) rfl (fun _ _ _ ww hr => fg (kd := .i64) (T := 76) (e := 3) (K := 1) (b := bb) (off := ob) (N := l.length) (cap := Cl) i hbb hr.1 rfl rfl (by kernel_rfl) (by kernel_rfl) (by kernel_rfl) hlt ww) ?_
 refine kOS 0 [0,1,5,6,18] [(0,.v (.slice Al l.length Cl)),(1,aI (m : Int)),(5,.v (.slice A1 n c1)),(6,aI (i : Int)),(18,.v (.pointer (some ⟨bb,ob + i * 1,none⟩)))] (iI x) rfl (fun _ _ _ ww hr => ldS_run (j := i) (row := [iI x]) (aX (.slice Al l.length Cl) 1 (l.map ay)) hr rfl (by kernel_rfl) (by simp) (by simp only [List.getElem?_map,hx]; rfl) (by kernel_rfl) hbb rfl) ?_
 refine aE [0,1,5,6,20] [(0,.v (.slice Al l.length Cl)),(1,aI (m : Int)),(5,.v (.slice A1 n c1)),(6,aI (i : Int)),(20,aB (decide (x < 0)))] <| kC (decide (x < 0)) (fun h3 => ?_) (fun h3 => ?_)
 have h3p := of_decide_eq_true h3
 refine bY <| kG <| eb 3 [0,1,5,6] [(0,.v (.slice Al l.length Cl)),(1,aI (m : Int)),(5,.v (.slice A1 n c1)),(6,aI (K6.wrap ((i : Int) + 1)))] <| fD (t' := [(0,.v (.slice Al l.length Cl)),(1,aI (m : Int)),(5,.v (.slice A1 n c1)),(6,aI ((i : Int) + 1))]) (by rw [show (K6.wrap ((i : Int) + 1)) = ((i : Int) + 1) from ao (by omega) (by omega)]) ?_
 refine aE [0,1,5,6] [(0,.v (.slice Al l.length Cl)),(1,aI (m : Int)),(5,.v (.slice A1 n c1)),(6,aI ((i : Int) + 1))] ?_
 exact ⟨⟨(i + 1,out,A1,c1,n),⟨(by (try dsimp only); omega),(by rw [HP,hps,if_pos (by omega)]),(fun q hq => by have := hbd q hq; (try dsimp only); omega),hn,(by (try dsimp only); omega)⟩⟩,kF 0 0 [0,1,5,6],by show (fun (i : Nat) (out : List Pce) (A1 : Option Addr) (c1 : Nat) (n : Nat) => l.length - i) (i + 1) out A1 c1 n < l.length - i; (dsimp only; omega)⟩
 have h3p := of_decide_eq_false h3
 have hx0 : 0 ≤ x := by simp at h3; omega
 have hb1 : (ah [x]).size = 1 := bstr_len [x]
 obtain ⟨p,hp⟩ : ∃ p : Pce,0 < n → out[n - 1]? = some p := if h : 0 < n then ⟨out[n - 1]'(by omega),fun _ => List.getElem?_eq_getElem _⟩ else ⟨⟨0,⟨#[]⟩⟩,fun h' => absurd h' h⟩
 refine fk (φ := ∃ g,0 < n → A1 = some ⟨g,0,none⟩) (fun _ _ _ _ hr => know_row hr (K := 2) (rs := out.map pC) 0 rfl (j := n - 1) (row := [iI p.off,.string p.text]) (fun hpos => by simp only [List.getElem?_map,hp hpos]; rfl)) ?_
 rintro ⟨gg,hgg⟩
 refine kK <| kQ <| aE [0,1,5,6,7] [(0,.v (.slice Al l.length Cl)),(1,aI (m : Int)),(5,.v (.slice A1 n c1)),(6,aI (i : Int)),(7,aI ((n : Nat) : Int))] <| kS <| df (α := {zz : Bool // (fun (bq : Bool) => (bq = true ↔ (0 < n ∧ p.off + (p.text.size : Int) = ((i - m : Nat) : Int)))) zz}) (fun zz => (fun (bq : Bool) => (⟨[(0,.v (.slice Al l.length Cl)),(1,aI (m : Int)),(5,.v (.slice A1 n c1)),(6,aI (i : Int)),(7,aI ((n : Nat) : Int)),(44,aB bq)],[],[],[a8 w.heap.size 89 2 (.slice A1 n c1) (out.map pC),aX (.slice Al l.length Cl) 1 (l.map ay)]⟩ : St)) zz.1) ?_ ?_
 refine aF [] (by kernel_rfl) (fun ρ σ => ?_)
 refine cJ [0,1,2] [25,0,1,5,6,7] 19 [(25,aB (decide (((n : Nat) : Int) > 0))),(0,.v (.slice Al l.length Cl)),(1,aI (m : Int)),(5,.v (.slice A1 n c1)),(6,aI (i : Int)),(7,aI ((n : Nat) : Int))] <| kY 25 (decide (((n : Nat) : Int) > 0)) (fun h4 => ?_) (fun h4 => ?_)
 have h4p := of_decide_eq_true h4
 have hpos : 0 < n := by simp at h4; omega
 have hpb := hbd p (List.mem_of_getElem? (hp hpos))
 refine cJ [3,4,5,9,10,11,17,18,19] [42,34,32,28,26,25,0,1,5,6,7] 10 [(42,aI (K6.wrap ((i : Int) - (m : Int)))),(34,aI (K6.wrap (((n : Nat) : Int) - 1))),(32,.v (.slice A1 n c1)),(28,aI (K6.wrap (((n : Nat) : Int) - 1))),(26,.v (.slice A1 n c1)),(25,aB true),(0,.v (.slice Al l.length Cl)),(1,aI (m : Int)),(5,.v (.slice A1 n c1)),(6,aI (i : Int)),(7,aI ((n : Nat) : Int))] <| gy (t := [(42,aI (K6.wrap ((i : Int) - (m : Int)))),(34,aI (K6.wrap (((n : Nat) : Int) - 1))),(32,.v (.slice A1 n c1)),(28,aI (K6.wrap (((n : Nat) : Int) - 1))),(26,.v (.slice A1 n c1)),(25,aB true),(0,.v (.slice Al l.length Cl)),(1,aI (m : Int)),(5,.v (.slice A1 n c1)),(6,aI (i : Int)),(7,aI ((n : Nat) : Int))]) (t' := [(42,aI ((i - m : Nat) : Int)),(34,aI ((n - 1 : Nat) : Int)),(32,.v (.slice A1 n c1)),(28,aI ((n - 1 : Nat) : Int)),(26,.v (.slice A1 n c1)),(25,aB true),(0,.v (.slice Al l.length Cl)),(1,aI (m : Int)),(5,.v (.slice A1 n c1)),(6,aI (i : Int)),(7,aI ((n : Nat) : Int))]) (by rw [show (K6.wrap (((n : Nat) : Int) - 1)) = ((n - 1 : Nat) : Int) from by rw [ao (by omega) (by omega)]; omega,show (K6.wrap ((i : Int) - (m : Int))) = ((i - m : Nat) : Int) from by rw [ao (by omega) (by omega)]; omega]) ?_
 refine kX 6 (.pointer (some ⟨gg,(n - 1) * 2,none⟩)) rfl (fun _ _ ww hA => dQ (kd := .i64) (T := 35) (e := 89) (K := 2) (g := gg) (N := n) (cap := c1) (n - 1) (hgg hpos) hA rfl rfl (by kernel_rfl) (by kernel_rfl) (by kernel_rfl) (by omega) ww) ?_
 refine kX 7 (.pointer (some ⟨gg,(n - 1) * 2,none⟩)) rfl (fun _ _ ww hA => d3 (sz := 1) (b := gg) (m := (n - 1) * 2) hA rfl Tryz.underlying89 rfl (by kernel_rfl) rfl (by kernel_rfl) rfl) ?_
 refine kX 12 (.pointer (some ⟨gg,(n - 1) * 2,none⟩)) rfl (fun _ _ ww hA => dQ (kd := .i64) (T := 35) (e := 89) (K := 2) (g := gg) (N := n) (cap := c1) (n - 1) (hgg hpos) hA rfl rfl (by kernel_rfl) (by kernel_rfl) (by kernel_rfl) (by omega) ww) ?_
 refine kX 13 (.pointer (some ⟨gg,(n - 1) * 2 + 1,none⟩)) rfl (fun _ _ ww hA => d3 (sz := 1) (b := gg) (m := (n - 1) * 2) hA rfl Tryz.underlying89 rfl (by kernel_rfl) rfl (by kernel_rfl) rfl) ?_
 refine kA [8,14] ⟨?_,?_⟩
 refine gc 8 (iI p.off) rfl (fun _ _ ww hr => dB (po := 0) (j := (n - 1)) (row := [iI p.off,.string p.text]) (a8 w.heap.size 89 2 (.slice A1 n c1) (out.map pC)) hr rfl (by kernel_rfl) (by simp) (by simp only [List.getElem?_map,hp hpos]; rfl) (by kernel_rfl) (hgg hpos) rfl rfl) ?_
 refine kA [14] <| gc 14 (.string p.text) rfl (fun _ _ ww hr => dB (po := 1) (j := (n - 1)) (row := [iI p.off,.string p.text]) (a8 w.heap.size 89 2 (.slice A1 n c1) (out.map pC)) hr rfl (by kernel_rfl) (by simp) (by simp only [List.getElem?_map,hp hpos]; rfl) (by kernel_rfl) (hgg hpos) rfl rfl) ?_
 refine cJ [15,16,20,21] [44,0,1,5,6,7] 0 [(44,aB ((K6.wrap (p.off + (p.text.size : Int))) == ((i - m : Nat) : Int))),(0,.v (.slice Al l.length Cl)),(1,aI (m : Int)),(5,.v (.slice A1 n c1)),(6,aI (i : Int)),(7,aI ((n : Nat) : Int))] <| gy (t := [(44,aB ((K6.wrap (p.off + (p.text.size : Int))) == ((i - m : Nat) : Int))),(0,.v (.slice Al l.length Cl)),(1,aI (m : Int)),(5,.v (.slice A1 n c1)),(6,aI (i : Int)),(7,aI ((n : Nat) : Int))]) (t' := [(44,aB ((p.off + (p.text.size : Int)) == ((i - m : Nat) : Int))),(0,.v (.slice Al l.length Cl)),(1,aI (m : Int)),(5,.v (.slice A1 n c1)),(6,aI (i : Int)),(7,aI ((n : Nat) : Int))]) (by rw [show (K6.wrap (p.off + (p.text.size : Int))) = (p.off + (p.text.size : Int)) from ao (by omega) (by omega)]) ?_
 refine kZ ?_
 exact ⟨⟨((p.off + (p.text.size : Int)) == ((i - m : Nat) : Int)),⟨fun h => ⟨hpos,eq_of_beq h⟩,fun h => beq_iff_eq.2 h.2⟩⟩,kF 0 0 [0,1,5,6,7,44]⟩
 refine gc 14 (.string p.text) rfl (fun _ _ ww hr => dB (po := 1) (j := (n - 1)) (row := [iI p.off,.string p.text]) (a8 w.heap.size 89 2 (.slice A1 n c1) (out.map pC)) hr rfl (by kernel_rfl) (by simp) (by simp only [List.getElem?_map,hp hpos]; rfl) (by kernel_rfl) (hgg hpos) rfl rfl) ?_
 refine cJ [15] [38,30,42,25,0,1,5,6,7] 4 [(38,aI (p.text.size : Int)),(30,.v (.pointer (some ⟨gg,(n - 1) * 2,none⟩))),(42,aI ((i - m : Nat) : Int)),(25,aB true),(0,.v (.slice Al l.length Cl)),(1,aI (m : Int)),(5,.v (.slice A1 n c1)),(6,aI (i : Int)),(7,aI ((n : Nat) : Int))] <| kA [8] <| gc 8 (iI p.off) rfl (fun _ _ ww hr => dB (po := 0) (j := (n - 1)) (row := [iI p.off,.string p.text]) (a8 w.heap.size 89 2 (.slice A1 n c1) (out.map pC)) hr rfl (by kernel_rfl) (by simp) (by simp only [List.getElem?_map,hp hpos]; rfl) (by kernel_rfl) (hgg hpos) rfl rfl) ?_
 refine cJ [16,20,21] [44,0,1,5,6,7] 0 [(44,aB ((K6.wrap (p.off + (p.text.size : Int))) == ((i - m : Nat) : Int))),(0,.v (.slice Al l.length Cl)),(1,aI (m : Int)),(5,.v (.slice A1 n c1)),(6,aI (i : Int)),(7,aI ((n : Nat) : Int))] <| gy (t := [(44,aB ((K6.wrap (p.off + (p.text.size : Int))) == ((i - m : Nat) : Int))),(0,.v (.slice Al l.length Cl)),(1,aI (m : Int)),(5,.v (.slice A1 n c1)),(6,aI (i : Int)),(7,aI ((n : Nat) : Int))]) (t' := [(44,aB ((p.off + (p.text.size : Int)) == ((i - m : Nat) : Int))),(0,.v (.slice Al l.length Cl)),(1,aI (m : Int)),(5,.v (.slice A1 n c1)),(6,aI (i : Int)),(7,aI ((n : Nat) : Int))]) (by rw [show (K6.wrap (p.off + (p.text.size : Int))) = (p.off + (p.text.size : Int)) from ao (by omega) (by omega)]) ?_
 refine kZ ?_
 exact ⟨⟨((p.off + (p.text.size : Int)) == ((i - m : Nat) : Int)),⟨fun h => ⟨hpos,eq_of_beq h⟩,fun h => beq_iff_eq.2 h.2⟩⟩,kF 0 0 [0,1,5,6,7,44]⟩
 have h4p := of_decide_eq_false h4
 have hn0 : n = 0 := by simp at h4; omega
 refine cJ [3,4,5,6,7,8,9,10,11,12,13,14,15,16,17,18,19,20,21] [44,0,1,5,6,7] 0 [(44,aB false),(0,.v (.slice Al l.length Cl)),(1,aI (m : Int)),(5,.v (.slice A1 n c1)),(6,aI (i : Int)),(7,aI ((n : Nat) : Int))] <| kZ ?_
 exact ⟨⟨(false),⟨fun h => (by cases h),fun h => (by omega)⟩⟩,kF 0 0 [0,1,5,6,7,44]⟩
 rintro ⟨bq,hbq⟩
 try dsimp only
 try dsimp only at hbq
 refine kC (bq) (fun h5 => ?_) (fun h5 => ?_)
 obtain ⟨hpos,heq⟩ := hbq.1 h5
 have hpb := hbd p (List.mem_of_getElem? (hp hpos))
 refine dK (α := Nat) (fun y => (fun (g7 : Nat) => (⟨[(0,.v (.slice Al l.length Cl)),(1,aI (m : Int)),(5,.v (.slice A1 n c1)),(6,aI (i : Int))],[],[],[a8 w.heap.size 89 2 (.slice A1 n c1) ((out.set (n - 1) ⟨p.off,p.text ++ (ah ([x] : List Int))⟩).map pC),a8 w.heap.size 5 1 (.slice (some ⟨g7,0,none⟩) 1 1) (([x] : List Int).map bR),aX (.slice Al l.length Cl) 1 (l.map ay)]⟩ : St)) y) ?_ ?_
 refine aF [] (by kernel_rfl) (fun ρ σ => ?_)
 refine cJ [0,1,2,3,4,5,9,10] [55,54,50,48,47,45,0,1,5,6] 12 [(55,aI (i : Int)),(54,.v (.slice Al l.length Cl)),(50,aI (K6.wrap (((n : Nat) : Int) - 1))),(48,.v (.slice A1 n c1)),(47,aI (K6.wrap (((n : Nat) : Int) - 1))),(45,.v (.slice A1 n c1)),(0,.v (.slice Al l.length Cl)),(1,aI (m : Int)),(5,.v (.slice A1 n c1)),(6,aI (i : Int))] <| gy (t := [(55,aI (i : Int)),(54,.v (.slice Al l.length Cl)),(50,aI (K6.wrap (((n : Nat) : Int) - 1))),(48,.v (.slice A1 n c1)),(47,aI (K6.wrap (((n : Nat) : Int) - 1))),(45,.v (.slice A1 n c1)),(0,.v (.slice Al l.length Cl)),(1,aI (m : Int)),(5,.v (.slice A1 n c1)),(6,aI (i : Int))]) (t' := [(55,aI (i : Int)),(54,.v (.slice Al l.length Cl)),(50,aI ((n - 1 : Nat) : Int)),(48,.v (.slice A1 n c1)),(47,aI ((n - 1 : Nat) : Int)),(45,.v (.slice A1 n c1)),(0,.v (.slice Al l.length Cl)),(1,aI (m : Int)),(5,.v (.slice A1 n c1)),(6,aI (i : Int))]) (by rw [show (K6.wrap (((n : Nat) : Int) - 1)) = ((n - 1 : Nat) : Int) from by rw [ao (by omega) (by omega)]; omega]) ?_
 refine kX 6 (.pointer (some ⟨gg,(n - 1) * 2,none⟩)) rfl (fun _ _ ww hA => dQ (kd := .i64) (T := 35) (e := 89) (K := 2) (g := gg) (N := n) (cap := c1) (n - 1) (hgg hpos) hA rfl rfl (by kernel_rfl) (by kernel_rfl) (by kernel_rfl) (by omega) ww) ?_
 refine kX 7 (.pointer (some ⟨gg,(n - 1) * 2 + 1,none⟩)) rfl (fun _ _ ww hA => d3 (sz := 1) (b := gg) (m := (n - 1) * 2) hA rfl Tryz.underlying89 rfl (by kernel_rfl) rfl (by kernel_rfl) rfl) ?_
 refine kX 11 (.pointer (some ⟨bb,ob + i * 1,none⟩)) rfl (fun _ _ ww hA => fg (kd := .i64) (T := 76) (e := 3) (K := 1) (b := bb) (off := ob) (N := l.length) (cap := Cl) i hbb hA rfl rfl (by kernel_rfl) (by kernel_rfl) (by kernel_rfl) hlt ww) ?_
 refine kA [8,12] ⟨?_,?_⟩
 refine gc 8 (.string p.text) rfl (fun _ _ ww hr => dB (po := 1) (j := (n - 1)) (row := [iI p.off,.string p.text]) (a8 w.heap.size 89 2 (.slice A1 n c1) (out.map pC)) hr rfl (by kernel_rfl) (by simp) (by simp only [List.getElem?_map,hp hpos]; rfl) (by kernel_rfl) (hgg hpos) rfl rfl) ?_
 refine kA [12] <| gc 12 (iI x) rfl (fun _ _ ww hr => ldS_run (j := i) (row := [iI x]) (aX (.slice Al l.length Cl) 1 (l.map ay)) hr rfl (by kernel_rfl) (by simp) (by simp only [List.getElem?_map,hx]; rfl) (by kernel_rfl) hbb rfl) ?_
 refine cJ [13] [58,53,47,45,0,1,5,6] 6 [(58,.v (.int .u8 (IntKind.u8.wrap x))),(53,.v (.string p.text)),(47,aI ((n - 1 : Nat) : Int)),(45,.v (.slice A1 n c1)),(0,.v (.slice Al l.length Cl)),(1,aI (m : Int)),(5,.v (.slice A1 n c1)),(6,aI (i : Int))] <| gy (t := [(58,.v (.int .u8 (IntKind.u8.wrap x))),(53,.v (.string p.text)),(47,aI ((n - 1 : Nat) : Int)),(45,.v (.slice A1 n c1)),(0,.v (.slice Al l.length Cl)),(1,aI (m : Int)),(5,.v (.slice A1 n c1)),(6,aI (i : Int))]) (t' := [(58,.v (.int .u8 x)),(53,.v (.string p.text)),(47,aI ((n - 1 : Nat) : Int)),(45,.v (.slice A1 n c1)),(0,.v (.slice Al l.length Cl)),(1,aI (m : Int)),(5,.v (.slice A1 n c1)),(6,aI (i : Int))]) (by rw [show (IntKind.u8.wrap x) = x from u8_id (by omega) (by omega)]) ?_
 refine kA [14] <| dq 14 rfl a9 (aR (e := 5) (K := 1) (bytes := 1) [.int .u8 x] (rs := ([x] : List Int).map bR) rfl rfl) ?_
 intro g7
 refine kA [15] <| gc 15 (.string (ah ([x] : List Int))) rfl (fun _ _ ww hr => d5 (e := 5) ([x] : List Int) hr.1 rfl (by kernel_rfl) (by kernel_rfl) (by kernel_rfl) rfl (aw (hr.2.fact (a8 w.heap.size 5 1 (.slice (some ⟨g7,0,none⟩) 1 1) (([x] : List Int).map bR)) (by simp)).1)) ?_
 refine kX 16 (.string (p.text ++ (ah ([x] : List Int)))) rfl (fun _ _ ww hA => cb hA rfl (by kernel_rfl) (by kernel_rfl) (str_add (by first | omega | (simp only [ByteArray.size_extract]; omega)) ww)) ?_
 refine kX 17 (.pointer (some ⟨gg,(n - 1) * 2,none⟩)) rfl (fun _ _ ww hA => dQ (kd := .i64) (T := 35) (e := 89) (K := 2) (g := gg) (N := n) (cap := c1) (n - 1) (hgg hpos) hA rfl rfl (by kernel_rfl) (by kernel_rfl) (by kernel_rfl) (by omega) ww) ?_
 refine kX 18 (.pointer (some ⟨gg,(n - 1) * 2 + 1,none⟩)) rfl (fun _ _ ww hA => d3 (sz := 1) (b := gg) (m := (n - 1) * 2) hA rfl Tryz.underlying89 rfl (by kernel_rfl) rfl (by kernel_rfl) rfl) ?_
 refine kA [19] <| xs_hsG 19 gg rfl (by kernel_rfl) (by kernel_rfl) (by kernel_rfl) a9 (fun kk rr hk => by simp at hk) (fA (g := gg) (B := w.heap.size) (e := 89) (K := 2) (N := n) (cap := c1) (rs := (out.map pC)) (rs' := (out.set (n - 1) ⟨p.off,p.text ++ (ah ([x] : List Int))⟩).map pC) (v := (.string (p.text ++ (ah ([x] : List Int))))) (i := 1) (off := (n - 1) * 2 + 1) (n - 1) 1 [iI p.off,.string p.text] (row' := [iI p.off,.string (p.text ++ (ah ([x] : List Int)))]) (hgg hpos) rfl (by kernel_rfl) rfl (by kernel_rfl) (by kernel_rfl) (by kernel_rfl) (by kernel_rfl) (Nat.le_refl _) (by simp only [List.getElem?_map,hp hpos]; rfl) (by kernel_rfl) rfl (by rw [List.map_set]; rfl)) ?_
 refine kZ ?_
 exact ⟨(g7),kF 0 0 [0,1,5,6]⟩
 refine gc 12 (iI x) rfl (fun _ _ ww hr => ldS_run (j := i) (row := [iI x]) (aX (.slice Al l.length Cl) 1 (l.map ay)) hr rfl (by kernel_rfl) (by simp) (by simp only [List.getElem?_map,hx]; rfl) (by kernel_rfl) hbb rfl) ?_
 refine cJ [13] [58,52,47,45,0,1,5,6] 7 [(58,.v (.int .u8 (IntKind.u8.wrap x))),(52,.v (.pointer (some ⟨gg,(n - 1) * 2 + 1,none⟩))),(47,aI ((n - 1 : Nat) : Int)),(45,.v (.slice A1 n c1)),(0,.v (.slice Al l.length Cl)),(1,aI (m : Int)),(5,.v (.slice A1 n c1)),(6,aI (i : Int))] <| gy (t := [(58,.v (.int .u8 (IntKind.u8.wrap x))),(52,.v (.pointer (some ⟨gg,(n - 1) * 2 + 1,none⟩))),(47,aI ((n - 1 : Nat) : Int)),(45,.v (.slice A1 n c1)),(0,.v (.slice Al l.length Cl)),(1,aI (m : Int)),(5,.v (.slice A1 n c1)),(6,aI (i : Int))]) (t' := [(58,.v (.int .u8 x)),(52,.v (.pointer (some ⟨gg,(n - 1) * 2 + 1,none⟩))),(47,aI ((n - 1 : Nat) : Int)),(45,.v (.slice A1 n c1)),(0,.v (.slice Al l.length Cl)),(1,aI (m : Int)),(5,.v (.slice A1 n c1)),(6,aI (i : Int))]) (by rw [show (IntKind.u8.wrap x) = x from u8_id (by omega) (by omega)]) ?_
 refine kA [8,14] ⟨?_,?_⟩
 refine gc 8 (.string p.text) rfl (fun _ _ ww hr => dB (po := 1) (j := (n - 1)) (row := [iI p.off,.string p.text]) (a8 w.heap.size 89 2 (.slice A1 n c1) (out.map pC)) hr rfl (by kernel_rfl) (by simp) (by simp only [List.getElem?_map,hp hpos]; rfl) (by kernel_rfl) (hgg hpos) rfl rfl) ?_
 refine kA [14] <| dq 14 rfl a9 (aR (e := 5) (K := 1) (bytes := 1) [.int .u8 x] (rs := ([x] : List Int).map bR) rfl rfl) ?_
 intro g10
 refine kA [15] <| gc 15 (.string (ah ([x] : List Int))) rfl (fun _ _ ww hr => d5 (e := 5) ([x] : List Int) hr.1 rfl (by kernel_rfl) (by kernel_rfl) (by kernel_rfl) rfl (aw (hr.2.fact (a8 w.heap.size 5 1 (.slice (some ⟨g10,0,none⟩) 1 1) (([x] : List Int).map bR)) (by simp)).1)) ?_
 refine kX 16 (.string (p.text ++ (ah ([x] : List Int)))) rfl (fun _ _ ww hA => cb hA rfl (by kernel_rfl) (by kernel_rfl) (str_add (by first | omega | (simp only [ByteArray.size_extract]; omega)) ww)) ?_
 refine kX 17 (.pointer (some ⟨gg,(n - 1) * 2,none⟩)) rfl (fun _ _ ww hA => dQ (kd := .i64) (T := 35) (e := 89) (K := 2) (g := gg) (N := n) (cap := c1) (n - 1) (hgg hpos) hA rfl rfl (by kernel_rfl) (by kernel_rfl) (by kernel_rfl) (by omega) ww) ?_
 refine kX 18 (.pointer (some ⟨gg,(n - 1) * 2 + 1,none⟩)) rfl (fun _ _ ww hA => d3 (sz := 1) (b := gg) (m := (n - 1) * 2) hA rfl Tryz.underlying89 rfl (by kernel_rfl) rfl (by kernel_rfl) rfl) ?_
 refine kA [19] <| xs_hsG 19 gg rfl (by kernel_rfl) (by kernel_rfl) (by kernel_rfl) a9 (fun kk rr hk => by simp at hk) (fA (g := gg) (B := w.heap.size) (e := 89) (K := 2) (N := n) (cap := c1) (rs := (out.map pC)) (rs' := (out.set (n - 1) ⟨p.off,p.text ++ (ah ([x] : List Int))⟩).map pC) (v := (.string (p.text ++ (ah ([x] : List Int))))) (i := 1) (off := (n - 1) * 2 + 1) (n - 1) 1 [iI p.off,.string p.text] (row' := [iI p.off,.string (p.text ++ (ah ([x] : List Int)))]) (hgg hpos) rfl (by kernel_rfl) rfl (by kernel_rfl) (by kernel_rfl) (by kernel_rfl) (by kernel_rfl) (Nat.le_refl _) (by simp only [List.getElem?_map,hp hpos]; rfl) (by kernel_rfl) rfl (by rw [List.map_set]; rfl)) ?_
 refine kZ ?_
 exact ⟨(g10),kF 0 0 [0,1,5,6]⟩
 refine dq 14 rfl a9 (aR (e := 5) (K := 1) (bytes := 1) [.int .u8 x] (rs := ([x] : List Int).map bR) rfl rfl) ?_
 intro g11
 refine kA [8,15] ⟨?_,?_⟩
 refine gc 8 (.string p.text) rfl (fun _ _ ww hr => dB (po := 1) (j := (n - 1)) (row := [iI p.off,.string p.text]) (a8 w.heap.size 89 2 (.slice A1 n c1) (out.map pC)) hr rfl (by kernel_rfl) (by simp) (by simp only [List.getElem?_map,hp hpos]; rfl) (by kernel_rfl) (hgg hpos) rfl rfl) ?_
 refine kA [15] <| gc 15 (.string (ah ([x] : List Int))) rfl (fun _ _ ww hr => d5 (e := 5) ([x] : List Int) hr.1 rfl (by kernel_rfl) (by kernel_rfl) (by kernel_rfl) rfl (aw (hr.2.fact (a8 w.heap.size 5 1 (.slice (some ⟨g11,0,none⟩) 1 1) (([x] : List Int).map bR)) (by simp)).1)) ?_
 refine kX 16 (.string (p.text ++ (ah ([x] : List Int)))) rfl (fun _ _ ww hA => cb hA rfl (by kernel_rfl) (by kernel_rfl) (str_add (by first | omega | (simp only [ByteArray.size_extract]; omega)) ww)) ?_
 refine kX 17 (.pointer (some ⟨gg,(n - 1) * 2,none⟩)) rfl (fun _ _ ww hA => dQ (kd := .i64) (T := 35) (e := 89) (K := 2) (g := gg) (N := n) (cap := c1) (n - 1) (hgg hpos) hA rfl rfl (by kernel_rfl) (by kernel_rfl) (by kernel_rfl) (by omega) ww) ?_
 refine kX 18 (.pointer (some ⟨gg,(n - 1) * 2 + 1,none⟩)) rfl (fun _ _ ww hA => d3 (sz := 1) (b := gg) (m := (n - 1) * 2) hA rfl Tryz.underlying89 rfl (by kernel_rfl) rfl (by kernel_rfl) rfl) ?_
 refine kA [19] <| xs_hsG 19 gg rfl (by kernel_rfl) (by kernel_rfl) (by kernel_rfl) a9 (fun kk rr hk => by simp at hk) (fA (g := gg) (B := w.heap.size) (e := 89) (K := 2) (N := n) (cap := c1) (rs := (out.map pC)) (rs' := (out.set (n - 1) ⟨p.off,p.text ++ (ah ([x] : List Int))⟩).map pC) (v := (.string (p.text ++ (ah ([x] : List Int))))) (i := 1) (off := (n - 1) * 2 + 1) (n - 1) 1 [iI p.off,.string p.text] (row' := [iI p.off,.string (p.text ++ (ah ([x] : List Int)))]) (hgg hpos) rfl (by kernel_rfl) rfl (by kernel_rfl) (by kernel_rfl) (by kernel_rfl) (by kernel_rfl) (Nat.le_refl _) (by simp only [List.getElem?_map,hp hpos]; rfl) (by kernel_rfl) rfl (by rw [List.map_set]; rfl)) ?_
 refine kZ ?_
 exact ⟨(g11),kF 0 0 [0,1,5,6]⟩
 refine gc 15 (.string (ah ([x] : List Int))) rfl (fun _ _ ww hr => d5 (e := 5) ([x] : List Int) hr.1 rfl (by kernel_rfl) (by kernel_rfl) (by kernel_rfl) rfl (aw (hr.2.fact (a8 w.heap.size 5 1 (.slice (some ⟨g11,0,none⟩) 1 1) (([x] : List Int).map bR)) (by simp)).1)) ?_
 refine kA [8] <| gc 8 (.string p.text) rfl (fun _ _ ww hr => dB (po := 1) (j := (n - 1)) (row := [iI p.off,.string p.text]) (a8 w.heap.size 89 2 (.slice A1 n c1) (out.map pC)) hr rfl (by kernel_rfl) (by simp) (by simp only [List.getElem?_map,hp hpos]; rfl) (by kernel_rfl) (hgg hpos) rfl rfl) ?_
 refine kX 16 (.string (p.text ++ (ah ([x] : List Int)))) rfl (fun _ _ ww hA => cb hA rfl (by kernel_rfl) (by kernel_rfl) (str_add (by first | omega | (simp only [ByteArray.size_extract]; omega)) ww)) ?_
 refine kX 17 (.pointer (some ⟨gg,(n - 1) * 2,none⟩)) rfl (fun _ _ ww hA => dQ (kd := .i64) (T := 35) (e := 89) (K := 2) (g := gg) (N := n) (cap := c1) (n - 1) (hgg hpos) hA rfl rfl (by kernel_rfl) (by kernel_rfl) (by kernel_rfl) (by omega) ww) ?_
 refine kX 18 (.pointer (some ⟨gg,(n - 1) * 2 + 1,none⟩)) rfl (fun _ _ ww hA => d3 (sz := 1) (b := gg) (m := (n - 1) * 2) hA rfl Tryz.underlying89 rfl (by kernel_rfl) rfl (by kernel_rfl) rfl) ?_
 refine kA [19] <| xs_hsG 19 gg rfl (by kernel_rfl) (by kernel_rfl) (by kernel_rfl) a9 (fun kk rr hk => by simp at hk) (fA (g := gg) (B := w.heap.size) (e := 89) (K := 2) (N := n) (cap := c1) (rs := (out.map pC)) (rs' := (out.set (n - 1) ⟨p.off,p.text ++ (ah ([x] : List Int))⟩).map pC) (v := (.string (p.text ++ (ah ([x] : List Int))))) (i := 1) (off := (n - 1) * 2 + 1) (n - 1) 1 [iI p.off,.string p.text] (row' := [iI p.off,.string (p.text ++ (ah ([x] : List Int)))]) (hgg hpos) rfl (by kernel_rfl) rfl (by kernel_rfl) (by kernel_rfl) (by kernel_rfl) (by kernel_rfl) (Nat.le_refl _) (by simp only [List.getElem?_map,hp hpos]; rfl) (by kernel_rfl) rfl (by rw [List.map_set]; rfl)) ?_
 refine kZ ?_
 exact ⟨(g11),kF 0 0 [0,1,5,6]⟩
 intro g7
 refine kG <| kRF 3 [0,1,5,6] ⟨[(0,.v (.slice Al l.length Cl)),(1,aI (m : Int)),(5,.v (.slice A1 n c1)),(6,aI (K6.wrap ((i : Int) + 1)))],[],[],[a8 w.heap.size 89 2 (.slice A1 n c1) ((out.set (n - 1) ⟨p.off,p.text ++ (ah ([x] : List Int))⟩).map pC),a8 w.heap.size 5 1 (.slice (some ⟨g7,0,none⟩) 1 1) (([x] : List Int).map bR),aX (.slice Al l.length Cl) 1 (l.map ay)]⟩ <| fD (t' := [(0,.v (.slice Al l.length Cl)),(1,aI (m : Int)),(5,.v (.slice A1 n c1)),(6,aI ((i : Int) + 1))]) (by rw [show (K6.wrap ((i : Int) + 1)) = ((i : Int) + 1) from ao (by omega) (by omega)]) ?_
 refine aE [0,1,5,6] [(0,.v (.slice Al l.length Cl)),(1,aI (m : Int)),(5,.v (.slice A1 n c1)),(6,aI ((i : Int) + 1))] ?_
 have hadd : fh out (i - m) x = (out.set (n - 1) ⟨p.off,p.text ++ (ah ([x] : List Int))⟩) := by first | (rw [addByte_set (p := p) (by rw [hn]; exact hp hpos) heq,hn]) | (exact if hz : 0 < n then addByte_far (p := p) (by rw [hn]; exact hp hz) (fun e => heqn ⟨hz,e⟩) else addByte_nil (by omega))
 exact ⟨⟨(i + 1,(out.set (n - 1) ⟨p.off,p.text ++ (ah ([x] : List Int))⟩),A1,c1,n),⟨(by (try dsimp only); omega),(by rw [HP,hps,if_neg (by omega),hadd]),(by rw [← hadd]; intro q hq; have := addByte_bd hbd q hq; (try dsimp only); omega),(by simp [hn]),(by (try dsimp only); (try simp only [List.length_append,List.length_cons,List.length_nil]); omega)⟩⟩,e7 [0,2] <| kF 0 0 [0,1,5,6],by show (fun (i : Nat) (out : List Pce) (A1 : Option Addr) (c1 : Nat) (n : Nat) => l.length - i) (i + 1) (out.set (n - 1) ⟨p.off,p.text ++ (ah ([x] : List Int))⟩) A1 c1 n < l.length - i; (dsimp only; omega)⟩
 have heqn : ¬ (0 < n ∧ p.off + (p.text.size : Int) = ((i - m : Nat) : Int)) := fun e => by rw [hbq.2 e] at h5; cases h5
 refine kG <| kOS 6 [0,1,5,6,64,67,68,69] [(0,.v (.slice Al l.length Cl)),(1,aI (m : Int)),(5,.v (.slice A1 n c1)),(6,aI (i : Int)),(64,.v (.slice A1 n c1)),(67,aI (K6.wrap ((i : Int) - (m : Int)))),(68,.v (.slice Al l.length Cl)),(69,aI (i : Int))] (.pointer (some ⟨bb,ob + i * 1,none⟩)) rfl (fun _ _ _ ww hr => fg (kd := .i64) (T := 76) (e := 3) (K := 1) (b := bb) (off := ob) (N := l.length) (cap := Cl) i hbb hr.1 rfl rfl (by kernel_rfl) (by kernel_rfl) (by kernel_rfl) hlt ww) ?_
 refine kOS 0 [0,1,5,6,64,67,70] [(0,.v (.slice Al l.length Cl)),(1,aI (m : Int)),(5,.v (.slice A1 n c1)),(6,aI (i : Int)),(64,.v (.slice A1 n c1)),(67,aI (K6.wrap ((i : Int) - (m : Int)))),(70,.v (.pointer (some ⟨bb,ob + i * 1,none⟩)))] (iI x) rfl (fun _ _ _ ww hr => ldS_run (j := i) (row := [iI x]) (aX (.slice Al l.length Cl) 1 (l.map ay)) hr rfl (by kernel_rfl) (by simp) (by simp only [List.getElem?_map,hx]; rfl) (by kernel_rfl) hbb rfl) ?_
 refine kHS 1 [0,1,5,6,64,67,72] [(0,.v (.slice Al l.length Cl)),(1,aI (m : Int)),(5,.v (.slice A1 n c1)),(6,aI (i : Int)),(64,.v (.slice A1 n c1)),(67,aI (K6.wrap ((i : Int) - (m : Int)))),(72,.v (.int .u8 (IntKind.u8.wrap x)))] rfl (aR (e := 5) (K := 1) (bytes := 1) [.int .u8 (IntKind.u8.wrap x)] (rs := ([IntKind.u8.wrap x] : List Int).map bR) rfl rfl) ?_
 intro g12
 refine kOS 0 [0,1,5,6,64,67,73] [(0,.v (.slice Al l.length Cl)),(1,aI (m : Int)),(5,.v (.slice A1 n c1)),(6,aI (i : Int)),(64,.v (.slice A1 n c1)),(67,aI (K6.wrap ((i : Int) - (m : Int)))),(73,.v (.slice (some ⟨g12,0,none⟩) 1 1))] (.string (ah ([IntKind.u8.wrap x] : List Int))) rfl (fun _ _ _ ww hr => d5 (e := 5) ([IntKind.u8.wrap x] : List Int) hr.1 rfl (by kernel_rfl) (by kernel_rfl) (by kernel_rfl) rfl (aw (hr.2.fact (a8 w.heap.size 5 1 (.slice (some ⟨g12,0,none⟩) 1 1) (([IntKind.u8.wrap x] : List Int).map bR)) (by simp)).1)) ?_
 refine kOS 0 [0,1,5,6,64,67,74] [(0,.v (.slice Al l.length Cl)),(1,aI (m : Int)),(5,.v (.slice A1 n c1)),(6,aI (i : Int)),(64,.v (.slice A1 n c1)),(67,aI (K6.wrap ((i : Int) - (m : Int)))),(74,.v (.string (ah ([IntKind.u8.wrap x] : List Int))))] (.agg (pceL (⟨K6.wrap ((i : Int) - (m : Int)),ah ([IntKind.u8.wrap x] : List Int)⟩ : Pce)).toArray) rfl (fun _ _ _ ww hr => aA [(0,iI (K6.wrap ((i : Int) - (m : Int)))),(1,.string (ah ([IntKind.u8.wrap x] : List Int)))] hr.1 rfl (by kernel_rfl) (by kernel_rfl) ww) ?_
 refine kHS 0 [0,1,5,6,64,75] [(0,.v (.slice Al l.length Cl)),(1,aI (m : Int)),(5,.v (.slice A1 n c1)),(6,aI (i : Int)),(64,.v (.slice A1 n c1)),(75,.v (.agg (pceL (⟨K6.wrap ((i : Int) - (m : Int)),ah ([IntKind.u8.wrap x] : List Int)⟩ : Pce)).toArray))] rfl (aR (e := 89) (K := 2) (bytes := 24) [.agg (pceL (⟨K6.wrap ((i : Int) - (m : Int)),ah ([IntKind.u8.wrap x] : List Int)⟩ : Pce)).toArray] (rs := ([⟨K6.wrap ((i : Int) - (m : Int)),ah ([IntKind.u8.wrap x] : List Int)⟩] : List Pce).map pC) rfl rfl) ?_
 intro g13
 refine kHS 0 [0,1,5,6,64,76] [(0,.v (.slice Al l.length Cl)),(1,aI (m : Int)),(5,.v (.slice A1 n c1)),(6,aI (i : Int)),(64,.v (.slice A1 n c1)),(76,.v (.slice (some ⟨g13,0,none⟩) 1 1))] rfl (aT (e := 89) (K := 2) (bytes := 24) (i := 2) (q := (out ++ ([⟨K6.wrap ((i : Int) - (m : Int)),ah ([IntKind.u8.wrap x] : List Int)⟩] : List Pce)).length) (new := ([⟨K6.wrap ((i : Int) - (m : Int)),ah ([IntKind.u8.wrap x] : List Int)⟩] : List Pce).map pC) (rs' := (out ++ ([⟨K6.wrap ((i : Int) - (m : Int)),ah ([IntKind.u8.wrap x] : List Int)⟩] : List Pce)).map pC) rfl rfl rfl rfl (by kernel_rfl) (by kernel_rfl) (by kernel_rfl) rfl (by simp) (by rw [List.map_append]) (by simp) (fun ww hf => (aw (hf (a8 w.heap.size 89 2 (.slice (some ⟨g13,0,none⟩) 1 1) (([⟨K6.wrap ((i : Int) - (m : Int)),ah ([IntKind.u8.wrap x] : List Int)⟩] : List Pce).map pC)) (by simp)))) (by intro r hr; obtain ⟨x,hx,rfl⟩ := List.mem_map.1 hr; exact ⟨rfl,by simp [pC,Value.oneCell']⟩) (by (try simp only [List.length_map,List.length_append,List.length_cons,List.length_nil,List.length_take,List.length_drop,maxLen]); omega) (by (try simp only [List.length_map,List.length_append,List.length_cons,List.length_nil,List.length_take,List.length_drop,maxLen]); omega)) ?_
 rintro ⟨v14a,v14c⟩
 refine eb 1 [0,1,5,6] [(0,.v (.slice Al l.length Cl)),(1,aI (m : Int)),(5,.v (.slice v14a ((out ++ ([⟨K6.wrap ((i : Int) - (m : Int)),ah ([IntKind.u8.wrap x] : List Int)⟩] : List Pce)).length) v14c)),(6,aI (i : Int))] <| xl_eq (st' := ⟨[(0,.v (.slice Al l.length Cl)),(1,aI (m : Int)),(5,.v (.slice v14a ((out ++ ([⟨((i - m : Nat) : Int),ah ([x] : List Int)⟩] : List Pce)).length) v14c)),(6,aI (i : Int))],[],[],[a8 w.heap.size 89 2 (.slice v14a ((out ++ ([⟨((i - m : Nat) : Int),ah ([x] : List Int)⟩] : List Pce)).length) v14c) ((out ++ ([⟨((i - m : Nat) : Int),ah ([x] : List Int)⟩] : List Pce)).map pC),a8 w.heap.size 89 2 (.slice (some ⟨g13,0,none⟩) 1 1) (([⟨((i - m : Nat) : Int),ah ([x] : List Int)⟩] : List Pce).map pC),a8 w.heap.size 5 1 (.slice (some ⟨g12,0,none⟩) 1 1) (([x] : List Int).map bR),aX (.slice Al l.length Cl) 1 (l.map ay)]⟩) (by rw [show (K6.wrap ((i : Int) - (m : Int))) = ((i - m : Nat) : Int) from by rw [ao (by omega) (by omega)]; omega,show (IntKind.u8.wrap x) = x from u8_id (by omega) (by omega)] <;> rfl) ?_
 refine aE [0,1,5,6] [(0,.v (.slice Al l.length Cl)),(1,aI (m : Int)),(5,.v (.slice v14a ((out ++ ([⟨((i - m : Nat) : Int),ah ([x] : List Int)⟩] : List Pce)).length) v14c)),(6,aI (i : Int))] <| kG <| eb 3 [0,1,5,6] [(0,.v (.slice Al l.length Cl)),(1,aI (m : Int)),(5,.v (.slice v14a ((out ++ ([⟨((i - m : Nat) : Int),ah ([x] : List Int)⟩] : List Pce)).length) v14c)),(6,aI (K6.wrap ((i : Int) + 1)))] <| fD (t' := [(0,.v (.slice Al l.length Cl)),(1,aI (m : Int)),(5,.v (.slice v14a ((out ++ ([⟨((i - m : Nat) : Int),ah ([x] : List Int)⟩] : List Pce)).length) v14c)),(6,aI ((i : Int) + 1))]) (by rw [show (K6.wrap ((i : Int) + 1)) = ((i : Int) + 1) from ao (by omega) (by omega)]) ?_
 refine aE [0,1,5,6] [(0,.v (.slice Al l.length Cl)),(1,aI (m : Int)),(5,.v (.slice v14a ((out ++ ([⟨((i - m : Nat) : Int),ah ([x] : List Int)⟩] : List Pce)).length) v14c)),(6,aI ((i : Int) + 1))] ?_
 have hadd : fh out (i - m) x = (out ++ ([⟨((i - m : Nat) : Int),ah ([x] : List Int)⟩] : List Pce)) := by first | (rw [addByte_set (p := p) (by rw [hn]; exact hp hpos) heq,hn]) | (exact if hz : 0 < n then addByte_far (p := p) (by rw [hn]; exact hp hz) (fun e => heqn ⟨hz,e⟩) else addByte_nil (by omega))
 exact ⟨⟨(i + 1,(out ++ ([⟨((i - m : Nat) : Int),ah ([x] : List Int)⟩] : List Pce)),v14a,v14c,(out ++ ([⟨((i - m : Nat) : Int),ah ([x] : List Int)⟩] : List Pce)).length),⟨(by (try dsimp only); omega),(by rw [HP,hps,if_neg (by omega),hadd]),(by rw [← hadd]; intro q hq; have := addByte_bd hbd q hq; (try dsimp only); omega),(by simp [hn]),(by (try dsimp only); (try simp only [List.length_append,List.length_cons,List.length_nil]); omega)⟩⟩,e7 [0,3] <| kF 0 0 [0,1,5,6],by show (fun (i : Nat) (out : List Pce) (A1 : Option Addr) (c1 : Nat) (n : Nat) => l.length - i) (i + 1) (out ++ ([⟨((i - m : Nat) : Int),ah ([x] : List Int)⟩] : List Pce)) v14a v14c ((out ++ ([⟨((i - m : Nat) : Int),ah ([x] : List Int)⟩] : List Pce)).length) < l.length - i; (dsimp only; omega)⟩
 have h2p := of_decide_eq_false h2
 have hge : i = l.length := by simp at h2; omega
 rw [hge,List.drop_length,gS] at HP
 refine bY <| kQ <| aE [4] [(4,.v (.slice A1 n c1))] <| kR ?_
 have hmod : gS [] 0 (l.drop m) = out := by exact HP
 exact ⟨[.slice A1 n c1],by kernel_rfl,fun w' hb hf ha => by rw [hmod,hn]; exact xo1 ((A1,c1)) rfl rfl (pW (hf _ m0) hB) hb⟩
theorem ysArrived_c (r : Rcv) (r_heldV : Value) (seq : Int) (text : ByteArray) (fin : Bool) (w : World) (hl_r_heldV : Sl w r_heldV 2 (r.held.map pC)) (hkn : r.held.length ≤ 1048576) (hm : ∀ p ∈ r.held, p.text.size ≤ 1048576) (hsz : r.data.size ≤ 4611686018427387904) (hts : text.size ≤ 4611686018427387904) (B : Nat) (hB : B ≤ w.heap.size) : Calls Tryz.prog 117 #[.agg (aa r r_heldV).toArray, iI seq, .string text, .bool fin] w fun e w' => XRs w w' e (α := Option Addr × Nat) (fun y => .agg (aa (ag r seq text fin) (.slice y.1 ((ag r seq text fin).held.length) y.2)).toArray) (fun y => [a8 B 89 2 (.slice y.1 ((ag r seq text fin).held.length) y.2) ((ag r seq text fin).held.map pC)]) := by
 obtain ⟨Arh,Crh,hvrh⟩ := hl_r_heldV.form
 rw [List.length_map] at hvrh; subst hvrh
 have hnrh := hl_r_heldV.len; rw [List.length_map] at hnrh
 have hqrh := Sl.capLe hl_r_heldV
 refine bA (args := [.agg (aa r (.slice Arh r.held.length Crh)).toArray,iI seq,.string text,.bool fin]) (fn := Tryz.f117) [aX (.slice Arh r.held.length Crh) 2 (r.held.map pC)] Tryz.func117 rfl Tryz.ntmps117 rfl (by simp only [List.mem_cons,List.not_mem_nil,or_false,forall_eq_or_imp,forall_eq]; exact ⟨rfl,hl_r_heldV⟩) ?_
 refine kQ <| cy [1,2,3,4,8] ⟨[(1,aI seq),(2,.v (.string text)),(3,aB fin),(4,.p 0 0),(8,.p 1 0)],[⟨37,aa r (.slice Arh r.held.length Crh)⟩,⟨37,eH⟩],[],[aX (.slice Arh r.held.length Crh) 2 (r.held.map pC)]⟩ <| kQ <| dS 1 [1,2,3,4,8,17] [(17,.v (.agg (aa r (.slice Arh r.held.length Crh)).toArray))] 51 [.agg (aa r (.slice Arh r.held.length Crh)).toArray] (some 18) rfl (cx fun ww hw hf => fJ r (.slice Arh r.held.length Crh) ww (hf _ m0) (by assumption) w.heap.size hw) ?_
 rintro ⟨v1a,v1c⟩
 refine gU [1,2,3,4,8,9] [(9,.p 2 0)] [⟨37,aa r (.slice v1a r.held.length v1c)⟩] <| kS <| kQ <| dS 1 [1,2,3,4,8,9,19] [(19,.v (.agg (aa r (.slice Arh r.held.length Crh)).toArray))] 66 [.agg (aa r (.slice Arh r.held.length Crh)).toArray] (some 20) rfl (bu fun ww hf => gv r (.slice Arh r.held.length Crh) ww (hf _ m1) (by assumption) (by omega)) ?_
 intro _
 refine dl 2 [1,2,3,4,8,9,22] [(22,aB (!(rO r)))] <| kP 22 (!(rO r)) (fun h2 => ?_) (fun h2 => ?_)
 have h2n := cd h2
 refine aY [1,2,3,4,8,9,25] [(25,aB true)] <| kT <| kQ <| bN [8] [(8,.p 1 0)] 1 ⟨37,aa r (.slice v1a r.held.length v1c)⟩ ?_
 refine kR ?_
 have hmod : ag r seq text fin = r := by first | exact eZ hrk (by assumption) (by rw [← hall,← hnf]; omega) | (unfold ag; rw [if_neg (by grind)]; done) | (unfold ag; rw [if_pos (by grind),← hall,← hnf,← hg2,← hfp]; first | (rw [if_pos (by omega)]; done) | (rw [if_neg (by omega),if_pos (by first | omega | simp_all)]; done) | (rw [if_neg (by omega),if_neg (by first | omega | simp_all)]; done))
 exact ⟨[.agg (aa r (.slice v1a r.held.length v1c)).toArray],by kernel_rfl,fun w' hb hf ha => by rw [hmod]; exact xo1 ((v1a,v1c)) rfl rfl (pW (hf _ m0) hB) hb⟩
 have h2n := bS h2
 have hrk := h2n
 obtain ⟨hf0,hf1,hf2,hf3,hf4,hheld⟩ := rok_facts h2n
 have hwb := gm r
 have hN := slotsOf_len r
 have hsqt := seqAdd_in seq (text.size : Int)
 refine aY [1,2,3,4,8,9,25] [(25,aB r.done)] <| kC (r.done) (fun h3 => ?_) (fun h3 => ?_)
 refine kQ <| bN [8] [(8,.p 1 0)] 1 ⟨37,aa r (.slice v1a r.held.length v1c)⟩ <| kR ?_
 have hmod : ag r seq text fin = r := by first | exact eZ hrk (by assumption) (by rw [← hall,← hnf]; omega) | (unfold ag; rw [if_neg (by grind)]; done) | (unfold ag; rw [if_pos (by grind),← hall,← hnf,← hg2,← hfp]; first | (rw [if_pos (by omega)]; done) | (rw [if_neg (by omega),if_pos (by first | omega | simp_all)]; done) | (rw [if_neg (by omega),if_neg (by first | omega | simp_all)]; done))
 exact ⟨[.agg (aa r (.slice v1a r.held.length v1c)).toArray],by kernel_rfl,fun w' hb hf ha => by rw [hmod]; exact xo1 ((v1a,v1c)) rfl rfl (pW (hf _ m0) hB) hb⟩
 refine kK <| kQ <| dS 1 [1,2,3,4,8,9,27] [(27,.v (.agg (aa r (.slice Arh r.held.length Crh)).toArray))] 92 [.agg (aa r (.slice Arh r.held.length Crh)).toArray] (some 28) rfl (bu fun ww hf => ee r.next r.data r.held (.slice Arh r.held.length Crh) r.fin r.done ww (by omega)) ?_
 intro _
 refine aY [1,2,3,4,8,9,10] [(10,aI (wO r))] <| kQ <| dS 1 [1,2,3,4,8,9,10,29] [(29,.v (.agg (aa r (.slice Arh r.held.length Crh)).toArray))] 129 [.agg (aa r (.slice Arh r.held.length Crh)).toArray] (some 30) rfl (cx fun ww hw hf => yl18Slots_c r (.slice Arh r.held.length Crh) ww (hf _ m1) (by assumption) (by assumption) w.heap.size hw) ?_
 rintro ⟨v4a,v4c⟩
 refine aY [1,2,3,4,8,9,10,11] [(11,.v (.slice v4a ((aZ r).length) v4c))] <| kS <| kQ <| aY [1,2,3,4,8,9,10,11,12] [(12,aI 0)] ?_
 refine ap <| fk (φ := ∃ g,True → v4a = some ⟨g,0,none⟩) (fun _ _ _ _ hr => know_row hr (K := 1) (rs := (aZ r).map ay) 0 rfl (j := 0) (row := ay ((aZ r)[0]'(by omega))) (fun _ => by rw [List.getElem?_map,List.getElem?_eq_getElem (by omega)]; rfl)) ?_
 rintro ⟨gg,hgg⟩
 refine bo (α := {x : Nat × List Int // (fun (i : Nat) (sl : List Int) => i ≤ text.size ∧ sl.length = 33 ∧ sl = gV r seq text (aZ r) i) x.1 x.2}) (fun x => (fun (i : Nat) (sl : List Int) => (⟨[(1,aI seq),(2,.v (.string text)),(3,aB fin),(4,.p 0 0),(8,.p 1 0),(9,.p 2 0),(10,aI (wO r)),(11,.v (.slice v4a ((aZ r).length) v4c)),(12,aI (i : Int))],[⟨37,aa r (.slice Arh r.held.length Crh)⟩,⟨37,eH⟩,⟨37,aa r (.slice v1a r.held.length v1c)⟩],[],[a8 w.heap.size 3 1 (.slice v4a ((aZ r).length) v4c) (sl.map ay),a8 w.heap.size 89 2 (.slice v1a r.held.length v1c) (r.held.map pC),aX (.slice Arh r.held.length Crh) 2 (r.held.map pC)]⟩ : St)) x.1.1 x.1.2) (fun x => (fun (i : Nat) (sl : List Int) => text.size - i) x.1.1 x.1.2) ⟨(0,(aZ r)),⟨Nat.zero_le _,hN,rfl⟩⟩ (e7 [0,1,2] <| kF 3 0 [1,2,3,4,8,9,10,11,12]) ?_
 rintro ⟨⟨i,sl⟩,hi,hl,HS⟩
 try dsimp only
 try dsimp only at hi hl HS
 refine kS <| kQ <| aE [1,2,3,4,8,9,10,11,12,34] [(1,aI seq),(2,.v (.string text)),(3,aB fin),(4,.p 0 0),(8,.p 1 0),(9,.p 2 0),(10,aI (wO r)),(11,.v (.slice v4a ((aZ r).length) v4c)),(12,aI (i : Int)),(34,aB (decide ((i : Int) < (text.size : Int))))] <| kC (decide ((i : Int) < (text.size : Int))) (fun h5 => ?_) (fun h5 => ?_)
 have h5p := of_decide_eq_true h5
 have hlti : i < text.size := by simpa using h5
 have hbt := gK text i
 have hsq := seqAdd_in seq (i : Int)
 refine kK <| kS <| ap <| kS <| aF [] (by kernel_rfl) (fun ρ σ => ?_)
 refine cJ [0,1,3,4] [41,38,37,1,2,3,4,8,9,10,11,12] 4 [(41,aI r.next),(38,aI (i : Int)),(37,aI seq),(1,aI seq),(2,.v (.string text)),(3,aB fin),(4,.p 0 0),(8,.p 1 0),(9,.p 2 0),(10,aI (wO r)),(11,.v (.slice v4a ((aZ r).length) v4c)),(12,aI (i : Int))] <| kA [2] <| cE 2 96 [iI seq,iI (i : Int)] (some 39) rfl (cz fun ww hf => bW seq (i : Int) ww ) ?_
 intro _
 refine cJ [5] [42,1,2,3,4,8,9,10,11,12] 2 [(42,aI (K6.wrap ((sA seq (i : Int)) - r.next))),(1,aI seq),(2,.v (.string text)),(3,aB fin),(4,.p 0 0),(8,.p 1 0),(9,.p 2 0),(10,aI (wO r)),(11,.v (.slice v4a ((aZ r).length) v4c)),(12,aI (i : Int))] <| xe_nv [42,1,2,3,4,8,9,10,11,12] [(42,aI (K6.wrap ((sA seq (i : Int)) - r.next)))] [(42,aI ((sA seq (i : Int)) - r.next))] (by rw [show (K6.wrap ((sA seq (i : Int)) - r.next)) = ((sA seq (i : Int)) - r.next) from ao (by omega) (by omega)]) (by kernel_rfl) ?_
 refine kA [6] <| cE 6 112 [iI ((sA seq (i : Int)) - r.next)] (some 43) rfl (cz fun ww hf => fO ((sA seq (i : Int)) - r.next) ww ) ?_
 intro _
 refine xe_nv [43,42,1,2,3,4,8,9,10,11,12] [(43,aI (((sA seq (i : Int)) - r.next) % 4294967296))] [(43,aI ((cI r seq i : Nat) : Int))] (by rw [show (((sA seq (i : Int)) - r.next) % 4294967296) = ((cI r seq i : Nat) : Int) from offN_eq r seq i]) (by kernel_rfl) ?_
 refine cJ [7] [13,1,2,3,4,8,9,10,11,12] 0 [(13,aI ((cI r seq i : Nat) : Int)),(1,aI seq),(2,.v (.string text)),(3,aB fin),(4,.p 0 0),(8,.p 1 0),(9,.p 2 0),(10,aI (wO r)),(11,.v (.slice v4a ((aZ r).length) v4c)),(12,aI (i : Int))] <| kZ <| kQ <| dl 4 [1,2,3,4,8,9,10,11,12,13,47] [(47,aB (decide (((cI r seq i : Nat) : Int) < (wO r))))] ?_
 refine kP 47 (decide (((cI r seq i : Nat) : Int) < (wO r))) (fun h6 => ?_) (fun h6 => ?_)
 have h6p := of_decide_eq_true h6
 obtain ⟨x,hx⟩ : ∃ x,sl[cI r seq i]? = some x := ⟨_,List.getElem?_eq_getElem (by omega)⟩
 have hsx := slotAt_of hx
 refine dl 4 [1,2,3,4,8,9,10,11,12,13,47,51] [(47,aB true),(51,aB (decide (r.fin < 0)))] <| kP 51 (decide (r.fin < 0)) (fun h7 => ?_) (fun h7 => ?_)
 have h7p := of_decide_eq_true h7
 refine fS 9 [1,2,3,4,8,9,10,11,12,13,58,59,60] [(58,aB true),(59,.v (.slice v4a ((aZ r).length) v4c)),(60,aI ((cI r seq i : Nat) : Int))] (.pointer (some ⟨gg,(cI r seq i) * 1,none⟩)) rfl (fun _ _ _ ww hr => dQ (kd := .i64) (T := 76) (e := 3) (K := 1) (g := gg) (N := ((aZ r).length)) (cap := v4c) (cI r seq i) (hgg trivial) hr.1 rfl rfl (by kernel_rfl) (by kernel_rfl) (by kernel_rfl) (by omega) ww) ?_
 refine fS 0 [1,2,3,4,8,9,10,11,12,13,58,61] [] (iI x) rfl (fun _ _ _ ww hr => dB (po := 0) (j := (cI r seq i)) (row := [iI x]) (a8 w.heap.size 3 1 (.slice v4a ((aZ r).length) v4c) (sl.map ay)) hr rfl (by kernel_rfl) (by simp) (by simp only [List.getElem?_map,hx]; rfl) (by kernel_rfl) (hgg trivial) rfl rfl) ?_
 refine aY [1,2,3,4,8,9,10,11,12,13,64] [(64,aB (decide (x < 0)))] <| kC (decide (x < 0)) (fun h8 => ?_) (fun h8 => ?_)
 have h8p := of_decide_eq_true h8
 refine kG <| fS 4 [1,2,3,4,8,9,10,11,12,65,66,67,68] [(65,.v (.slice v4a ((aZ r).length) v4c)),(66,aI ((cI r seq i : Nat) : Int)),(67,.v (.string text)),(68,aI (i : Int))] (.int .u8 (bF text i)) rfl (fun _ _ _ ww hr => act_tix (kd := .i64) (t := text) i hr.1 rfl rfl (by kernel_rfl) (by kernel_rfl) hlti ww) ?_
 refine fS 1 [1,2,3,4,8,9,10,11,12,65,66,70] [(70,aI (K6.wrap (bF text i)))] (.pointer (some ⟨gg,(cI r seq i) * 1,none⟩)) rfl (fun _ _ _ ww hr => dQ (kd := .i64) (T := 76) (e := 3) (K := 1) (g := gg) (N := ((aZ r).length)) (cap := v4c) (cI r seq i) (hgg trivial) hr.1 rfl rfl (by kernel_rfl) (by kernel_rfl) (by kernel_rfl) (by omega) ww) ?_
 refine xl_hs 0 [1,2,3,4,8,9,10,11,12,70,71] ⟨[(1,aI seq),(2,.v (.string text)),(3,aB fin),(4,.p 0 0),(8,.p 1 0),(9,.p 2 0),(10,aI (wO r)),(11,.v (.slice v4a ((aZ r).length) v4c)),(12,aI (i : Int)),(70,aI (K6.wrap (bF text i))),(71,.v (.pointer (some ⟨gg,(cI r seq i) * 1,none⟩)))],[⟨37,aa r (.slice Arh r.held.length Crh)⟩,⟨37,eH⟩,⟨37,aa r (.slice v1a r.held.length v1c)⟩],[],[a8 w.heap.size 3 1 (.slice v4a ((aZ r).length) v4c) (sl.map ay),a8 w.heap.size 89 2 (.slice v1a r.held.length v1c) (r.held.map pC),aX (.slice Arh r.held.length Crh) 2 (r.held.map pC)]⟩ (by kernel_rfl) rfl (by kernel_rfl) rfl (by kernel_rfl) (HSg.hs (fA (g := gg) (B := w.heap.size) (e := 3) (K := 1) (N := ((aZ r).length)) (cap := v4c) (rs := (sl.map ay)) (rs' := (sl.set (cI r seq i) (K6.wrap (bF text i))).map ay) (v := (iI (K6.wrap (bF text i)))) (i := 0) (off := (cI r seq i) * 1) (cI r seq i) 0 [iI x] (row' := [iI (K6.wrap (bF text i))]) (hgg trivial) rfl (by kernel_rfl) rfl (by kernel_rfl) (by kernel_rfl) (by kernel_rfl) (by kernel_rfl) (Nat.le_refl _) (by simp only [List.getElem?_map,hx]; rfl) (by kernel_rfl) rfl (by rw [List.map_set]; rfl))) ?_
 refine eb 0 [1,2,3,4,8,9,10,11,12] [(1,aI seq),(2,.v (.string text)),(3,aB fin),(4,.p 0 0),(8,.p 1 0),(9,.p 2 0),(10,aI (wO r)),(11,.v (.slice v4a ((aZ r).length) v4c)),(12,aI (i : Int))] <| xl_eq (st' := ⟨[(1,aI seq),(2,.v (.string text)),(3,aB fin),(4,.p 0 0),(8,.p 1 0),(9,.p 2 0),(10,aI (wO r)),(11,.v (.slice v4a ((aZ r).length) v4c)),(12,aI (i : Int))],[⟨37,aa r (.slice Arh r.held.length Crh)⟩,⟨37,eH⟩,⟨37,aa r (.slice v1a r.held.length v1c)⟩],[],[a8 w.heap.size 3 1 (.slice v4a ((aZ r).length) v4c) ((sl.set (cI r seq i) (bF text i)).map ay),a8 w.heap.size 89 2 (.slice v1a r.held.length v1c) (r.held.map pC),aX (.slice Arh r.held.length Crh) 2 (r.held.map pC)]⟩) (by rw [show (K6.wrap (bF text i)) = (bF text i) from ao (by omega) (by omega)] <;> rfl) ?_
 refine aY [1,2,3,4,8,9,10,11,12] [] <| kG <| dl 3 [1,2,3,4,8,9,10,11,12] [(12,aI (K6.wrap ((i : Int) + 1)))] <| bE [1,2,3,4,8,9,10,11,12] [(12,aI (K6.wrap ((i : Int) + 1)))] [(12,aI ((i : Int) + 1))] (by rw [show (K6.wrap ((i : Int) + 1)) = ((i : Int) + 1) from ao (by omega) (by omega)]) (by kernel_rfl) ?_
 refine aY [1,2,3,4,8,9,10,11,12] [] ?_
 exact ⟨⟨(i + 1,(sl.set (cI r seq i) (bF text i))),⟨hlti,(by rw [List.length_set]; exact hl),(by rw [gV,← HS,eL]; first | (rw [if_pos (by refine ⟨by omega,by omega,?_⟩; rw [hsx]; omega)]) | (rw [if_neg (by intro hh; have hh1 := hh.1; have hh2 := hh.2.1; have hh3 := hh.2.2; (try rw [hsx] at hh3); omega)]))⟩⟩,kF 3 0 [1,2,3,4,8,9,10,11,12],by show (fun (i : Nat) (sl : List Int) => text.size - i) (i + 1) (sl.set (cI r seq i) (bF text i)) < text.size - i; (dsimp only; omega)⟩
 have h8p := of_decide_eq_false h8
 refine kK <| kG <| dl 3 [1,2,3,4,8,9,10,11,12] [(12,aI (K6.wrap ((i : Int) + 1)))] <| bE [1,2,3,4,8,9,10,11,12] [(12,aI (K6.wrap ((i : Int) + 1)))] [(12,aI ((i : Int) + 1))] (by rw [show (K6.wrap ((i : Int) + 1)) = ((i : Int) + 1) from ao (by omega) (by omega)]) (by kernel_rfl) ?_
 refine aY [1,2,3,4,8,9,10,11,12] [] ?_
 exact ⟨⟨(i + 1,sl),⟨hlti,hl,(by rw [gV,← HS,eL]; first | (rw [if_pos (by refine ⟨by omega,by omega,?_⟩; rw [hsx]; omega)]) | (rw [if_neg (by intro hh; have hh1 := hh.1; have hh2 := hh.2.1; have hh3 := hh.2.2; (try rw [hsx] at hh3); omega)]))⟩⟩,kF 3 0 [1,2,3,4,8,9,10,11,12],by show (fun (i : Nat) (sl : List Int) => text.size - i) (i + 1) sl < text.size - i; (dsimp only; omega)⟩
 have h7p := of_decide_eq_false h7
 refine dl 7 [1,2,3,4,8,9,10,11,12,13,58] [(58,aB (decide (((cI r seq i : Nat) : Int) < r.fin)))] <| kP 58 (decide (((cI r seq i : Nat) : Int) < r.fin)) (fun h9 => ?_) (fun h9 => ?_)
 have h9p := of_decide_eq_true h9
 refine fS 2 [1,2,3,4,8,9,10,11,12,13,58,59,60] [(58,aB true),(59,.v (.slice v4a ((aZ r).length) v4c)),(60,aI ((cI r seq i : Nat) : Int))] (.pointer (some ⟨gg,(cI r seq i) * 1,none⟩)) rfl (fun _ _ _ ww hr => dQ (kd := .i64) (T := 76) (e := 3) (K := 1) (g := gg) (N := ((aZ r).length)) (cap := v4c) (cI r seq i) (hgg trivial) hr.1 rfl rfl (by kernel_rfl) (by kernel_rfl) (by kernel_rfl) (by omega) ww) ?_
 refine fS 0 [1,2,3,4,8,9,10,11,12,13,58,61] [] (iI x) rfl (fun _ _ _ ww hr => dB (po := 0) (j := (cI r seq i)) (row := [iI x]) (a8 w.heap.size 3 1 (.slice v4a ((aZ r).length) v4c) (sl.map ay)) hr rfl (by kernel_rfl) (by simp) (by simp only [List.getElem?_map,hx]; rfl) (by kernel_rfl) (hgg trivial) rfl rfl) ?_
 refine aY [1,2,3,4,8,9,10,11,12,13,64] [(64,aB (decide (x < 0)))] <| kC (decide (x < 0)) (fun h10 => ?_) (fun h10 => ?_)
 have h10p := of_decide_eq_true h10
 refine kG <| fS 4 [1,2,3,4,8,9,10,11,12,65,66,67,68] [(65,.v (.slice v4a ((aZ r).length) v4c)),(66,aI ((cI r seq i : Nat) : Int)),(67,.v (.string text)),(68,aI (i : Int))] (.int .u8 (bF text i)) rfl (fun _ _ _ ww hr => act_tix (kd := .i64) (t := text) i hr.1 rfl rfl (by kernel_rfl) (by kernel_rfl) hlti ww) ?_
 refine fS 1 [1,2,3,4,8,9,10,11,12,65,66,70] [(70,aI (K6.wrap (bF text i)))] (.pointer (some ⟨gg,(cI r seq i) * 1,none⟩)) rfl (fun _ _ _ ww hr => dQ (kd := .i64) (T := 76) (e := 3) (K := 1) (g := gg) (N := ((aZ r).length)) (cap := v4c) (cI r seq i) (hgg trivial) hr.1 rfl rfl (by kernel_rfl) (by kernel_rfl) (by kernel_rfl) (by omega) ww) ?_
 refine xl_hs 0 [1,2,3,4,8,9,10,11,12,70,71] ⟨[(1,aI seq),(2,.v (.string text)),(3,aB fin),(4,.p 0 0),(8,.p 1 0),(9,.p 2 0),(10,aI (wO r)),(11,.v (.slice v4a ((aZ r).length) v4c)),(12,aI (i : Int)),(70,aI (K6.wrap (bF text i))),(71,.v (.pointer (some ⟨gg,(cI r seq i) * 1,none⟩)))],[⟨37,aa r (.slice Arh r.held.length Crh)⟩,⟨37,eH⟩,⟨37,aa r (.slice v1a r.held.length v1c)⟩],[],[a8 w.heap.size 3 1 (.slice v4a ((aZ r).length) v4c) (sl.map ay),a8 w.heap.size 89 2 (.slice v1a r.held.length v1c) (r.held.map pC),aX (.slice Arh r.held.length Crh) 2 (r.held.map pC)]⟩ (by kernel_rfl) rfl (by kernel_rfl) rfl (by kernel_rfl) (HSg.hs (fA (g := gg) (B := w.heap.size) (e := 3) (K := 1) (N := ((aZ r).length)) (cap := v4c) (rs := (sl.map ay)) (rs' := (sl.set (cI r seq i) (K6.wrap (bF text i))).map ay) (v := (iI (K6.wrap (bF text i)))) (i := 0) (off := (cI r seq i) * 1) (cI r seq i) 0 [iI x] (row' := [iI (K6.wrap (bF text i))]) (hgg trivial) rfl (by kernel_rfl) rfl (by kernel_rfl) (by kernel_rfl) (by kernel_rfl) (by kernel_rfl) (Nat.le_refl _) (by simp only [List.getElem?_map,hx]; rfl) (by kernel_rfl) rfl (by rw [List.map_set]; rfl))) ?_
 refine eb 0 [1,2,3,4,8,9,10,11,12] [(1,aI seq),(2,.v (.string text)),(3,aB fin),(4,.p 0 0),(8,.p 1 0),(9,.p 2 0),(10,aI (wO r)),(11,.v (.slice v4a ((aZ r).length) v4c)),(12,aI (i : Int))] <| xl_eq (st' := ⟨[(1,aI seq),(2,.v (.string text)),(3,aB fin),(4,.p 0 0),(8,.p 1 0),(9,.p 2 0),(10,aI (wO r)),(11,.v (.slice v4a ((aZ r).length) v4c)),(12,aI (i : Int))],[⟨37,aa r (.slice Arh r.held.length Crh)⟩,⟨37,eH⟩,⟨37,aa r (.slice v1a r.held.length v1c)⟩],[],[a8 w.heap.size 3 1 (.slice v4a ((aZ r).length) v4c) ((sl.set (cI r seq i) (bF text i)).map ay),a8 w.heap.size 89 2 (.slice v1a r.held.length v1c) (r.held.map pC),aX (.slice Arh r.held.length Crh) 2 (r.held.map pC)]⟩) (by rw [show (K6.wrap (bF text i)) = (bF text i) from ao (by omega) (by omega)] <;> rfl) ?_
 refine aY [1,2,3,4,8,9,10,11,12] [] <| kG <| dl 3 [1,2,3,4,8,9,10,11,12] [(12,aI (K6.wrap ((i : Int) + 1)))] <| bE [1,2,3,4,8,9,10,11,12] [(12,aI (K6.wrap ((i : Int) + 1)))] [(12,aI ((i : Int) + 1))] (by rw [show (K6.wrap ((i : Int) + 1)) = ((i : Int) + 1) from ao (by omega) (by omega)]) (by kernel_rfl) ?_
 refine aY [1,2,3,4,8,9,10,11,12] [] ?_
 exact ⟨⟨(i + 1,(sl.set (cI r seq i) (bF text i))),⟨hlti,(by rw [List.length_set]; exact hl),(by rw [gV,← HS,eL]; first | (rw [if_pos (by refine ⟨by omega,by omega,?_⟩; rw [hsx]; omega)]) | (rw [if_neg (by intro hh; have hh1 := hh.1; have hh2 := hh.2.1; have hh3 := hh.2.2; (try rw [hsx] at hh3); omega)]))⟩⟩,kF 3 0 [1,2,3,4,8,9,10,11,12],by show (fun (i : Nat) (sl : List Int) => text.size - i) (i + 1) (sl.set (cI r seq i) (bF text i)) < text.size - i; (dsimp only; omega)⟩
 have h10p := of_decide_eq_false h10
 refine kK <| kG <| dl 3 [1,2,3,4,8,9,10,11,12] [(12,aI (K6.wrap ((i : Int) + 1)))] <| bE [1,2,3,4,8,9,10,11,12] [(12,aI (K6.wrap ((i : Int) + 1)))] [(12,aI ((i : Int) + 1))] (by rw [show (K6.wrap ((i : Int) + 1)) = ((i : Int) + 1) from ao (by omega) (by omega)]) (by kernel_rfl) ?_
 refine aY [1,2,3,4,8,9,10,11,12] [] ?_
 exact ⟨⟨(i + 1,sl),⟨hlti,hl,(by rw [gV,← HS,eL]; first | (rw [if_pos (by refine ⟨by omega,by omega,?_⟩; rw [hsx]; omega)]) | (rw [if_neg (by intro hh; have hh1 := hh.1; have hh2 := hh.2.1; have hh3 := hh.2.2; (try rw [hsx] at hh3); omega)]))⟩⟩,kF 3 0 [1,2,3,4,8,9,10,11,12],by show (fun (i : Nat) (sl : List Int) => text.size - i) (i + 1) sl < text.size - i; (dsimp only; omega)⟩
 have h9p := of_decide_eq_false h9
 refine aY [1,2,3,4,8,9,10,11,12,13,64] [(64,aB false)] <| kN <| kK <| kG <| dl 3 [1,2,3,4,8,9,10,11,12] [(12,aI (K6.wrap ((i : Int) + 1)))] ?_
 refine bE [1,2,3,4,8,9,10,11,12] [(12,aI (K6.wrap ((i : Int) + 1)))] [(12,aI ((i : Int) + 1))] (by rw [show (K6.wrap ((i : Int) + 1)) = ((i : Int) + 1) from ao (by omega) (by omega)]) (by kernel_rfl) ?_
 refine aY [1,2,3,4,8,9,10,11,12] [] ?_
 exact ⟨⟨(i + 1,sl),⟨hlti,hl,(by rw [gV,← HS,eL]; first | (rw [if_pos (by refine ⟨by omega,by omega,?_⟩; rw [hsx]; omega)]) | (rw [if_neg (by intro hh; have hh1 := hh.1; have hh2 := hh.2.1; have hh3 := hh.2.2; (try rw [hsx] at hh3); omega)]))⟩⟩,kF 3 0 [1,2,3,4,8,9,10,11,12],by show (fun (i : Nat) (sl : List Int) => text.size - i) (i + 1) sl < text.size - i; (dsimp only; omega)⟩
 have h6p := of_decide_eq_false h6
 refine aY [1,2,3,4,8,9,10,11,12,13,64] [(64,aB false)] <| kN <| kK <| kG <| dl 3 [1,2,3,4,8,9,10,11,12] [(12,aI (K6.wrap ((i : Int) + 1)))] ?_
 refine bE [1,2,3,4,8,9,10,11,12] [(12,aI (K6.wrap ((i : Int) + 1)))] [(12,aI ((i : Int) + 1))] (by rw [show (K6.wrap ((i : Int) + 1)) = ((i : Int) + 1) from ao (by omega) (by omega)]) (by kernel_rfl) ?_
 refine aY [1,2,3,4,8,9,10,11,12] [] ?_
 exact ⟨⟨(i + 1,sl),⟨hlti,hl,(by rw [gV,← HS,eL]; first | (rw [if_pos (by refine ⟨by omega,by omega,?_⟩; rw [hsx]; omega)]) | (rw [if_neg (by intro hh; have hh1 := hh.1; have hh2 := hh.2.1; have hh3 := hh.2.2; (try rw [hsx] at hh3); omega)]))⟩⟩,kF 3 0 [1,2,3,4,8,9,10,11,12],by show (fun (i : Nat) (sl : List Int) => text.size - i) (i + 1) sl < text.size - i; (dsimp only; omega)⟩
 have h5p := of_decide_eq_false h5
 have hti : i = text.size := by simp at h5; omega
 subst hti
 have hall : sl = e9 r seq text := HS
 have hby : ∀ x ∈ sl,x ≤ 255 := by rw [hall]; exact allIn_le _ _ _
 refine bY <| kS <| aF [] (by kernel_rfl) (fun ρ σ => ?_)
 refine cJ [0,1,2,4,5] [77,74,72,3,4,8,9,10,11] 4 [(77,aI r.next),(74,aI (text.size : Int)),(72,aI seq),(3,aB fin),(4,.p 0 0),(8,.p 1 0),(9,.p 2 0),(10,aI (wO r)),(11,.v (.slice v4a ((aZ r).length) v4c))] <| kA [3] <| cE 3 96 [iI seq,iI (text.size : Int)] (some 75) rfl (cz fun ww hf => bW seq (text.size : Int) ww ) ?_
 intro _
 refine cJ [6] [78,3,4,8,9,10,11] 2 [(78,aI (K6.wrap ((sA seq (text.size : Int)) - r.next))),(3,aB fin),(4,.p 0 0),(8,.p 1 0),(9,.p 2 0),(10,aI (wO r)),(11,.v (.slice v4a ((aZ r).length) v4c))] <| xe_nv [78,3,4,8,9,10,11] [(78,aI (K6.wrap ((sA seq (text.size : Int)) - r.next)))] [(78,aI ((sA seq (text.size : Int)) - r.next))] (by rw [show (K6.wrap ((sA seq (text.size : Int)) - r.next)) = ((sA seq (text.size : Int)) - r.next) from ao (by omega) (by omega)]) (by kernel_rfl) ?_
 refine kA [7] <| cE 7 112 [iI ((sA seq (text.size : Int)) - r.next)] (some 79) rfl (cz fun ww hf => fO ((sA seq (text.size : Int)) - r.next) ww ) ?_
 intro _
 refine xe_nv [79,78,3,4,8,9,10,11] [(79,aI (((sA seq (text.size : Int)) - r.next) % 4294967296))] [(79,aI ((cI r seq text.size : Nat) : Int))] (by rw [show (((sA seq (text.size : Int)) - r.next) % 4294967296) = ((cI r seq text.size : Nat) : Int) from offN_eq r seq text.size]) (by kernel_rfl) ?_
 refine cJ [8] [14,3,4,8,9,10,11] 0 [(14,aI ((cI r seq text.size : Nat) : Int)),(3,aB fin),(4,.p 0 0),(8,.p 1 0),(9,.p 2 0),(10,aI (wO r)),(11,.v (.slice v4a ((aZ r).length) v4c))] <| kZ <| kS <| df (α := {zz : Int // (fun (fo : Int) => fo = finIn r seq text fin ∧ (-1 ≤ fo ∧ fo ≤ 32)) zz}) (fun zz => (fun (fo : Int) => (⟨[(4,.p 0 0),(8,.p 1 0),(9,.p 2 0),(11,.v (.slice v4a ((aZ r).length) v4c))],[⟨37,aa r (.slice Arh r.held.length Crh)⟩,⟨37,eH⟩,⟨37,aa { r with fin := fo } (.slice v1a r.held.length v1c)⟩],[],[a8 w.heap.size 3 1 (.slice v4a ((aZ r).length) v4c) (sl.map ay),a8 w.heap.size 89 2 (.slice v1a r.held.length v1c) (r.held.map pC),aX (.slice Arh r.held.length Crh) 2 (r.held.map pC)]⟩ : St)) zz.1) ?_ ?_
 refine kQ <| dl 2 [4,8,9,10,11,14,81] [(81,aB fin)] <| kP 81 (fin) (fun h11 => ?_) (fun h11 => ?_)
 refine dl 5 [4,8,9,10,11,14,86] [(86,aB (decide (r.fin < 0)))] <| kP 86 (decide (r.fin < 0)) (fun h12 => ?_) (fun h12 => ?_)
 have h12p := of_decide_eq_true h12
 refine dl 5 [4,8,9,11,14,91] [(91,aB (decide (((cI r seq text.size : Nat) : Int) ≤ (wO r))))] <| kP 91 (decide (((cI r seq text.size : Nat) : Int) ≤ (wO r))) (fun h13 => ?_) (fun h13 => ?_)
 have h13p := of_decide_eq_true h13
 refine dS 2 [4,8,9,11,14,91,92,93] [(91,aB true),(92,.v (.slice v4a ((aZ r).length) v4c)),(93,aI ((cI r seq text.size : Nat) : Int))] 130 [.slice v4a ((aZ r).length) v4c,iI ((cI r seq text.size : Nat) : Int)] (some 94) rfl (bu fun ww hf => yl18Free_c sl (.slice v4a ((aZ r).length) v4c) (cI r seq text.size : Nat) ww (aw (hf _ m0)) (by omega)) ?_
 intro _
 refine aY [4,8,9,11,14,95] [(95,aB (dP sl (cI r seq text.size : Nat)))] <| kC ((dP sl (cI r seq text.size : Nat))) (fun h14 => ?_) (fun h14 => ?_)
 refine kG <| bN [4,8,9,11] [] 2 ⟨37,aa { r with fin := ((cI r seq text.size : Nat) : Int) } (.slice v1a r.held.length v1c)⟩ ?_
 exact ⟨⟨(((cI r seq text.size : Nat) : Int)),⟨(by unfold finIn; rw [← hall]; first | (simp [*]; done) | grind),(by first | omega | (have := hf3; omega))⟩⟩,kF 3 0 [4,8,9,11]⟩
 refine kK ?_
 exact ⟨⟨(r.fin),⟨(by unfold finIn; rw [← hall]; first | (simp [*]; done) | grind),(by first | omega | (have := hf3; omega))⟩⟩,kF 3 0 [4,8,9,11]⟩
 have h13p := of_decide_eq_false h13
 refine aY [4,8,9,11,14,95] [(95,aB false)] <| kN <| kK ?_
 exact ⟨⟨(r.fin),⟨(by unfold finIn; rw [← hall]; first | (simp [*]; done) | grind),(by first | omega | (have := hf3; omega))⟩⟩,kF 3 0 [4,8,9,11]⟩
 have h12p := of_decide_eq_false h12
 refine aY [4,8,9,11,14,95] [(95,aB false)] <| kN <| kK ?_
 exact ⟨⟨(r.fin),⟨(by unfold finIn; rw [← hall]; first | (simp [*]; done) | grind),(by first | omega | (have := hf3; omega))⟩⟩,kF 3 0 [4,8,9,11]⟩
 refine aY [4,8,9,11,14,95] [(95,aB false)] <| kN <| kK ?_
 exact ⟨⟨(r.fin),⟨(by unfold finIn; rw [← hall]; first | (simp [*]; done) | grind),(by first | omega | (have := hf3; omega))⟩⟩,kF 3 0 [4,8,9,11]⟩
 rintro ⟨fo,hfo,hfb⟩
 try dsimp only
 try dsimp only at hfo hfb
 refine kQ <| aY [4,8,9,11,15] [(15,aI 0)] <| kQ <| kHD 0 [4,8,9,11,15] [] rfl (aR (e := 5) (K := 1) (bytes := 1) [] (rs := ([] : List Int).map bR) rfl rfl) ?_
 intro g15
 refine aY [4,8,9,11,15,16] [(16,.v (.slice (some ⟨g15,0,none⟩) 0 0))] <| kS <| df (α := {zz : Nat × List Int × Option Addr × Nat // (fun (n2 : Nat) (gt : List Int) (A2 : Option Addr) (c2 : Nat) => n2 = fy sl ∧ gt = sl.take n2 ∧ n2 ≤ 33) zz.1 zz.2.1 zz.2.2.1 zz.2.2.2}) (fun zz => (fun (n2 : Nat) (gt : List Int) (A2 : Option Addr) (c2 : Nat) => (⟨[(4,.p 0 0),(8,.p 1 0),(9,.p 2 0),(11,.v (.slice v4a ((aZ r).length) v4c)),(15,aI (n2 : Int)),(16,.v (.slice A2 gt.length c2))],[⟨37,aa r (.slice Arh r.held.length Crh)⟩,⟨37,eH⟩,⟨37,aa { r with fin := fo } (.slice v1a r.held.length v1c)⟩],[],[a8 w.heap.size 5 1 (.slice A2 gt.length c2) (gt.map bR),a8 w.heap.size 3 1 (.slice v4a ((aZ r).length) v4c) (sl.map ay),a8 w.heap.size 89 2 (.slice v1a r.held.length v1c) (r.held.map pC),aX (.slice Arh r.held.length Crh) 2 (r.held.map pC)]⟩ : St)) zz.1.1 zz.1.2.1 zz.1.2.2.1 zz.1.2.2.2) ?_ ?_
 refine ap <| bo (α := {x : Nat × List Int × Option Addr × Nat // (fun (n2 : Nat) (gt : List Int) (A2 : Option Addr) (c2 : Nat) => n2 ≤ 33 ∧ gt = sl.take n2 ∧ (∀ x ∈ sl.take n2,0 ≤ x)) x.1 x.2.1 x.2.2.1 x.2.2.2}) (fun x => (fun (n2 : Nat) (gt : List Int) (A2 : Option Addr) (c2 : Nat) => (⟨[(4,.p 0 0),(8,.p 1 0),(9,.p 2 0),(11,.v (.slice v4a ((aZ r).length) v4c)),(15,aI (n2 : Int)),(16,.v (.slice A2 gt.length c2))],[⟨37,aa r (.slice Arh r.held.length Crh)⟩,⟨37,eH⟩,⟨37,aa { r with fin := fo } (.slice v1a r.held.length v1c)⟩],[],[a8 w.heap.size 5 1 (.slice A2 gt.length c2) (gt.map bR),a8 w.heap.size 3 1 (.slice v4a ((aZ r).length) v4c) (sl.map ay),a8 w.heap.size 89 2 (.slice v1a r.held.length v1c) (r.held.map pC),aX (.slice Arh r.held.length Crh) 2 (r.held.map pC)]⟩ : St)) x.1.1 x.1.2.1 x.1.2.2.1 x.1.2.2.2) (fun x => (fun (n2 : Nat) (gt : List Int) (A2 : Option Addr) (c2 : Nat) => 33 - n2) x.1.1 x.1.2.1 x.1.2.2.1 x.1.2.2.2) ⟨(0,([] : List Int),(some ⟨g15,0,none⟩),0),⟨Nat.zero_le _,rfl,(by simp)⟩⟩ (e7 [0,1,2,3] <| kF 3 0 [4,8,9,11,15,16]) ?_
 rintro ⟨⟨n2,gt,A2,c2⟩,hn2,hg2,hps⟩
 try dsimp only
 try dsimp only at hn2 hg2 hps
 refine kS <| kQ <| dl 5 [4,8,9,11,15,16,103] [(103,aB (decide ((n2 : Int) < (((aZ r).length : Nat) : Int))))] <| kP 103 (decide ((n2 : Int) < (((aZ r).length : Nat) : Int))) (fun h16 => ?_) (fun h16 => ?_)
 have h16p := of_decide_eq_true h16
 have hlt2 : n2 < 33 := by simp at h16; omega
 obtain ⟨y,hy⟩ : ∃ y,sl[n2]? = some y := ⟨_,List.getElem?_eq_getElem (by omega)⟩
 have hy255 := hby y (List.mem_of_getElem? hy)
 have hgl : gt.length ≤ 33 := by rw [hg2,List.length_take]; omega
 refine fS 2 [4,8,9,11,15,16,103,104,105] [(103,aB true),(104,.v (.slice v4a ((aZ r).length) v4c)),(105,aI (n2 : Int))] (.pointer (some ⟨gg,n2 * 1,none⟩)) rfl (fun _ _ _ ww hr => dQ (kd := .i64) (T := 76) (e := 3) (K := 1) (g := gg) (N := ((aZ r).length)) (cap := v4c) n2 (hgg trivial) hr.1 rfl rfl (by kernel_rfl) (by kernel_rfl) (by kernel_rfl) (by omega) ww) ?_
 refine fS 0 [4,8,9,11,15,16,103,106] [] (iI y) rfl (fun _ _ _ ww hr => dB (po := 0) (j := n2) (row := [iI y]) (a8 w.heap.size 3 1 (.slice v4a ((aZ r).length) v4c) (sl.map ay)) hr rfl (by kernel_rfl) (by simp) (by simp only [List.getElem?_map,hy]; rfl) (by kernel_rfl) (hgg trivial) rfl rfl) ?_
 refine aY [4,8,9,11,15,16,109] [(109,aB (decide (y ≥ 0)))] <| kC (decide (y ≥ 0)) (fun h17 => ?_) (fun h17 => ?_)
 have h17p := of_decide_eq_true h17
 refine kK <| ap <| kQ <| fS 3 [4,8,9,11,15,16,110,111,112] [(110,.v (.slice A2 gt.length c2)),(111,.v (.slice v4a ((aZ r).length) v4c)),(112,aI (n2 : Int))] (.pointer (some ⟨gg,n2 * 1,none⟩)) rfl (fun _ _ _ ww hr => dQ (kd := .i64) (T := 76) (e := 3) (K := 1) (g := gg) (N := ((aZ r).length)) (cap := v4c) n2 (hgg trivial) hr.1 rfl rfl (by kernel_rfl) (by kernel_rfl) (by kernel_rfl) (by omega) ww) ?_
 refine fS 0 [4,8,9,11,15,16,110,113] [] (iI y) rfl (fun _ _ _ ww hr => dB (po := 0) (j := n2) (row := [iI y]) (a8 w.heap.size 3 1 (.slice v4a ((aZ r).length) v4c) (sl.map ay)) hr rfl (by kernel_rfl) (by simp) (by simp only [List.getElem?_map,hy]; rfl) (by kernel_rfl) (hgg trivial) rfl rfl) ?_
 refine kHD 1 [4,8,9,11,15,16,110,115] [(115,.v (.int .u8 (IntKind.u8.wrap y)))] rfl (aR (e := 5) (K := 1) (bytes := 1) [.int .u8 (IntKind.u8.wrap y)] (rs := ([IntKind.u8.wrap y] : List Int).map bR) rfl rfl) ?_
 intro g18
 refine kHS 0 [4,8,9,11,15,16,110,116] [(4,.p 0 0),(8,.p 1 0),(9,.p 2 0),(11,.v (.slice v4a ((aZ r).length) v4c)),(15,aI (n2 : Int)),(16,.v (.slice A2 gt.length c2)),(110,.v (.slice A2 gt.length c2)),(116,.v (.slice (some ⟨g18,0,none⟩) 1 1))] rfl (aT (e := 5) (K := 1) (bytes := 1) (i := 1) (q := (gt ++ ([IntKind.u8.wrap y] : List Int)).length) (new := ([IntKind.u8.wrap y] : List Int).map bR) (rs' := (gt ++ ([IntKind.u8.wrap y] : List Int)).map bR) rfl rfl rfl rfl (by kernel_rfl) (by kernel_rfl) (by kernel_rfl) rfl (by simp) (by rw [List.map_append]) (by simp) (fun ww hf => (aw (hf (a8 w.heap.size 5 1 (.slice (some ⟨g18,0,none⟩) 1 1) (([IntKind.u8.wrap y] : List Int).map bR)) (by simp)))) (by intro r hr; obtain ⟨x,hx,rfl⟩ := List.mem_map.1 hr; exact ⟨rfl,by simp [bR,Value.oneCell']⟩) (by (try simp only [List.length_map,List.length_append,List.length_cons,List.length_nil,List.length_take,List.length_drop,maxLen]); omega) (by (try simp only [List.length_map,List.length_append,List.length_cons,List.length_nil,List.length_take,List.length_drop,maxLen]); omega)) ?_
 rintro ⟨v19a,v19c⟩
 refine eb 1 [4,8,9,11,15,16] [(4,.p 0 0),(8,.p 1 0),(9,.p 2 0),(11,.v (.slice v4a ((aZ r).length) v4c)),(15,aI (n2 : Int)),(16,.v (.slice v19a ((gt ++ ([IntKind.u8.wrap y] : List Int)).length) v19c))] <| xl_eq (st' := ⟨[(4,.p 0 0),(8,.p 1 0),(9,.p 2 0),(11,.v (.slice v4a ((aZ r).length) v4c)),(15,aI (n2 : Int)),(16,.v (.slice v19a ((gt ++ ([y] : List Int)).length) v19c))],[⟨37,aa r (.slice Arh r.held.length Crh)⟩,⟨37,eH⟩,⟨37,aa { r with fin := fo } (.slice v1a r.held.length v1c)⟩],[],[a8 w.heap.size 5 1 (.slice v19a ((gt ++ ([y] : List Int)).length) v19c) ((gt ++ ([y] : List Int)).map bR),a8 w.heap.size 5 1 (.slice (some ⟨g18,0,none⟩) 1 1) (([y] : List Int).map bR),a8 w.heap.size 3 1 (.slice v4a ((aZ r).length) v4c) (sl.map ay),a8 w.heap.size 89 2 (.slice v1a r.held.length v1c) (r.held.map pC),aX (.slice Arh r.held.length Crh) 2 (r.held.map pC)]⟩) (by rw [show (IntKind.u8.wrap y) = y from u8_id (by omega) (by omega)] <;> rfl) ?_
 refine aY [4,8,9,11,15,16] [] <| kG <| dl 3 [4,8,9,11,15,16] [(15,aI (K6.wrap ((n2 : Int) + 1)))] <| bE [4,8,9,11,15,16] [(15,aI (K6.wrap ((n2 : Int) + 1)))] [(15,aI ((n2 : Int) + 1))] (by rw [show (K6.wrap ((n2 : Int) + 1)) = ((n2 : Int) + 1) from ao (by omega) (by omega)]) (by kernel_rfl) ?_
 refine aY [4,8,9,11,15,16] [] ?_
 exact ⟨⟨(n2 + 1,(gt ++ ([y] : List Int)),v19a,v19c),⟨(by omega),(by rw [hg2,take_more hy]),(take_pos hps hy (by omega))⟩⟩,e7 [0,2,3,4] <| kF 3 0 [4,8,9,11,15,16],by show (fun (n2 : Nat) (gt : List Int) (A2 : Option Addr) (c2 : Nat) => 33 - n2) (n2 + 1) (gt ++ ([y] : List Int)) v19a v19c < 33 - n2; (dsimp only; omega)⟩
 have h17p := of_decide_eq_false h17
 refine bY ?_
 exact ⟨⟨(n2,gt,A2,c2),⟨(by first | exact (gj (k := n2) (by omega) hps (fun z hz => by rw [hy] at hz; simp only [Option.some.injEq] at hz; omega)).symm | exact (gj (k := n2) (by omega) hps (fun z hz => by rw [List.getElem?_eq_none (by omega)] at hz; simp at hz)).symm),hg2,hn2⟩⟩,kF 3 0 [4,8,9,11,15,16]⟩
 have h16p := of_decide_eq_false h16
 have hge2 : 33 ≤ n2 := by simp at h16; omega
 refine aY [4,8,9,11,15,16,109] [(109,aB false)] <| kN <| bY ?_
 exact ⟨⟨(n2,gt,A2,c2),⟨(by first | exact (gj (k := n2) (by omega) hps (fun z hz => by rw [hy] at hz; simp only [Option.some.injEq] at hz; omega)).symm | exact (gj (k := n2) (by omega) hps (fun z hz => by rw [List.getElem?_eq_none (by omega)] at hz; simp at hz)).symm),hg2,hn2⟩⟩,kF 3 0 [4,8,9,11,15,16]⟩
 rintro ⟨⟨n2,gt,A2,c2⟩,hnf,hg2,hn2⟩
 try dsimp only
 try dsimp only at hnf hg2 hn2
 have hbl := bstr_len gt
 have hgl : gt.length ≤ 33 := by rw [hg2,List.length_take]; omega
 refine kQ <| fS 3 [4,8,9,11,15,121,122] [(121,.v (.string r.data)),(122,.v (.slice A2 gt.length c2))] (.string (ah gt)) rfl (fun _ _ _ ww hr => d5 (e := 5) gt hr.1 rfl (by kernel_rfl) (by kernel_rfl) (by kernel_rfl) rfl (aw (hr.2.fact (a8 w.heap.size 5 1 (.slice A2 gt.length c2) (gt.map bR)) (by simp)).1)) ?_
 refine fS 0 [4,8,9,11,15,121,123] [] (.string (r.data ++ (ah gt))) rfl (fun _ _ _ ww hr => cb hr.1 rfl (by kernel_rfl) (by kernel_rfl) (str_add (by first | omega | (simp only [ByteArray.size_extract]; omega)) ww)) ?_
 refine bN [4,8,9,11,15] [] 2 ⟨37,aa { r with data := r.data ++ (ah gt),fin := fo } (.slice v1a r.held.length v1c)⟩ <| kQ <| dS 3 [4,8,9,11,15,127,128] [(127,aI r.next),(128,aI (n2 : Int))] 96 [iI r.next,iI (n2 : Int)] (some 129) rfl (cz fun ww hf => bW r.next (n2 : Int) ww ) ?_
 intro _
 refine bN [4,8,9,11,15] [] 2 ⟨37,[iI (sA r.next (n2 : Int)),.string (r.data ++ (ah gt)),.slice v1a r.held.length v1c,iI fo,.bool r.done]⟩ <| kQ <| dS 2 [4,8,9,15,131,132] [(131,.v (.slice v4a ((aZ r).length) v4c)),(132,aI (n2 : Int))] 131 [.slice v4a ((aZ r).length) v4c,iI (n2 : Int)] (some 133) rfl (cx fun ww hw hf => yl18Pieces_c sl (.slice v4a ((aZ r).length) v4c) n2 ww (aw (hf _ m1)) (by omega) (by omega) (by assumption) w.heap.size hw) ?_
 rintro ⟨v20a,v20c⟩
 refine bN [4,8,9,15] [] 2 ⟨37,[iI (sA r.next (n2 : Int)),.string (r.data ++ (ah gt)),.slice v20a ((gS [] 0 (sl.drop n2)).length) v20c,iI fo,.bool r.done]⟩ <| kS <| df (α := {zz : Int // (fun (fp : Int) => fp = finOut r seq text fin) zz}) (fun zz => (fun (fp : Int) => (⟨[(4,.p 0 0),(8,.p 1 0),(9,.p 2 0)],[⟨37,aa r (.slice Arh r.held.length Crh)⟩,⟨37,eH⟩,⟨37,[iI (sA r.next (n2 : Int)),.string (r.data ++ (ah gt)),.slice v20a ((gS [] 0 (sl.drop n2)).length) v20c,iI fp,.bool r.done]⟩],[],[a8 w.heap.size 89 2 (.slice v20a ((gS [] 0 (sl.drop n2)).length) v20c) ((gS [] 0 (sl.drop n2)).map pC),a8 w.heap.size 5 1 (.slice A2 gt.length c2) (gt.map bR),a8 w.heap.size 3 1 (.slice v4a ((aZ r).length) v4c) (sl.map ay),a8 w.heap.size 89 2 (.slice v1a r.held.length v1c) (r.held.map pC),aX (.slice Arh r.held.length Crh) 2 (r.held.map pC)]⟩ : St)) zz.1) ?_ ?_
 refine kQ <| aE [4,8,9,15,137] [(4,.p 0 0),(8,.p 1 0),(9,.p 2 0),(15,aI (n2 : Int)),(137,aB (decide (fo ≥ 0)))] <| kC (decide (fo ≥ 0)) (fun h21 => ?_) (fun h21 => ?_)
 have h21p := of_decide_eq_true h21
 refine kG <| kRB 6 [4,8,9] [(4,.p 0 0),(8,.p 1 0),(9,.p 2 0)] [⟨37,aa r (.slice Arh r.held.length Crh)⟩,⟨37,eH⟩,⟨37,[iI (sA r.next (n2 : Int)),.string (r.data ++ (ah gt)),.slice v20a ((gS [] 0 (sl.drop n2)).length) v20c,iI (K6.wrap (fo - (n2 : Int))),.bool r.done]⟩] <| xl_eq (st' := ⟨[(4,.p 0 0),(8,.p 1 0),(9,.p 2 0)],[⟨37,aa r (.slice Arh r.held.length Crh)⟩,⟨37,eH⟩,⟨37,[iI (sA r.next (n2 : Int)),.string (r.data ++ (ah gt)),.slice v20a ((gS [] 0 (sl.drop n2)).length) v20c,iI (fo - (n2 : Int)),.bool r.done]⟩],[],[a8 w.heap.size 89 2 (.slice v20a ((gS [] 0 (sl.drop n2)).length) v20c) ((gS [] 0 (sl.drop n2)).map pC),a8 w.heap.size 5 1 (.slice A2 gt.length c2) (gt.map bR),a8 w.heap.size 3 1 (.slice v4a ((aZ r).length) v4c) (sl.map ay),a8 w.heap.size 89 2 (.slice v1a r.held.length v1c) (r.held.map pC),aX (.slice Arh r.held.length Crh) 2 (r.held.map pC)]⟩) (by rw [show (K6.wrap (fo - (n2 : Int))) = (fo - (n2 : Int)) from ao (by omega) (by omega)] <;> rfl) ?_
 refine aY [4,8,9] [] ?_
 exact ⟨⟨(fo - (n2 : Int)),(by unfold finOut; rw [← hall,← hnf,← hfo]; first | rw [if_pos (by omega)] | rw [if_neg (by omega)])⟩,kF 3 0 [4,8,9]⟩
 have h21p := of_decide_eq_false h21
 refine kK ?_
 exact ⟨⟨(fo),(by unfold finOut; rw [← hall,← hnf,← hfo]; first | rw [if_pos (by omega)] | rw [if_neg (by omega)])⟩,kF 3 0 [4,8,9]⟩
 rintro ⟨fp,hfp⟩
 try dsimp only
 try dsimp only at hfp
 refine kS <| kQ <| aE [4,8,9,145] [(4,.p 0 0),(8,.p 1 0),(9,.p 2 0),(145,aB (fp == 0))] <| kC (fp == 0) (fun h22 => ?_) (fun h22 => ?_)
 have h22p := cD h22
 refine kQ <| bN [4,8,9] [] 2 ⟨37,[iI (sA r.next (n2 : Int)),.string (r.data ++ (ah gt)),.slice v20a ((gS [] 0 (sl.drop n2)).length) v20c,iI (-1),.bool r.done]⟩ <| kQ <| bN [4,8,9] [] 2 ⟨37,[iI (sA r.next (n2 : Int)),.string (r.data ++ (ah gt)),.slice v20a ((gS [] 0 (sl.drop n2)).length) v20c,iI (-1),.bool true]⟩ ?_
 refine kG <| dS 2 [4,8,9,149] [(149,aI (sA r.next (n2 : Int)))] 96 [iI (sA r.next (n2 : Int)),iI 1] (some 150) rfl (cz fun ww hf => bW (sA r.next (n2 : Int)) 1 ww ) ?_
 intro _
 refine bN [4,8,9] [] 2 ⟨37,[iI (sA (sA r.next (n2 : Int)) 1),.string (r.data ++ (ah gt)),.slice v20a ((gS [] 0 (sl.drop n2)).length) v20c,iI (-1),.bool true]⟩ <| kS <| kQ <| aY [4,8,9,155] [(155,aB (decide ((((gS [] 0 (sl.drop n2)).length : Nat) : Int) > 3)))] ?_
 refine kC (decide ((((gS [] 0 (sl.drop n2)).length : Nat) : Int) > 3)) (fun h23 => ?_) (fun h23 => ?_)
 have h23p := of_decide_eq_true h23
 refine kQ <| dS 1 [8,156] [(156,.v (.agg (aa r (.slice Arh r.held.length Crh)).toArray))] 51 [.agg (aa r (.slice Arh r.held.length Crh)).toArray] (some 157) rfl (cx fun ww hw hf => fJ r (.slice Arh r.held.length Crh) ww (hf _ m4) (by assumption) w.heap.size hw) ?_
 rintro ⟨v24a,v24c⟩
 refine bN [8] [(8,.p 1 0)] 1 ⟨37,aa r (.slice v24a r.held.length v24c)⟩ <| kR ?_
 have hmod : ag r seq text fin = r := by first | exact eZ hrk (by assumption) (by rw [← hall,← hnf]; omega) | (unfold ag; rw [if_neg (by grind)]; done) | (unfold ag; rw [if_pos (by grind),← hall,← hnf,← hg2,← hfp]; first | (rw [if_pos (by omega)]; done) | (rw [if_neg (by omega),if_pos (by first | omega | simp_all)]; done) | (rw [if_neg (by omega),if_neg (by first | omega | simp_all)]; done))
 exact ⟨[.agg (aa r (.slice v24a r.held.length v24c)).toArray],by kernel_rfl,fun w' hb hf ha => by rw [hmod]; exact xo1 ((v24a,v24c)) rfl rfl (pW (hf _ m0) hB) hb⟩
 have h23p := of_decide_eq_false h23
 refine kK <| kQ <| bN [8] [(8,.p 1 0)] 1 ⟨37,[iI (sA (sA r.next (n2 : Int)) 1),.string (r.data ++ (ah gt)),.slice v20a ((gS [] 0 (sl.drop n2)).length) v20c,iI (-1),.bool true]⟩ <| kR ?_
 have hmod : ag r seq text fin = (⟨sA (sA r.next (n2 : Int)) 1,r.data ++ (ah gt),(gS [] 0 (sl.drop n2)),(-1),true⟩) := by first | exact eZ hrk (by assumption) (by rw [← hall,← hnf]; omega) | (unfold ag; rw [if_neg (by grind)]; done) | (unfold ag; rw [if_pos (by grind),← hall,← hnf,← hg2,← hfp]; first | (rw [if_pos (by omega)]; done) | (rw [if_neg (by omega),if_pos (by first | omega | simp_all)]; done) | (rw [if_neg (by omega),if_neg (by first | omega | simp_all)]; done))
 exact ⟨[.agg #[iI (sA (sA r.next (n2 : Int)) 1),.string (r.data ++ (ah gt)),.slice v20a ((gS [] 0 (sl.drop n2)).length) v20c,iI (-1),.bool true]],by kernel_rfl,fun w' hb hf ha => by rw [hmod]; exact xo1 ((v20a,v20c)) rfl rfl (pW (hf _ m0) hB) hb⟩
 have h22p := cA h22
 refine kK <| kS <| kQ <| aY [4,8,9,155] [(155,aB (decide ((((gS [] 0 (sl.drop n2)).length : Nat) : Int) > 3)))] ?_
 refine kC (decide ((((gS [] 0 (sl.drop n2)).length : Nat) : Int) > 3)) (fun h25 => ?_) (fun h25 => ?_)
 have h25p := of_decide_eq_true h25
 refine kQ <| dS 1 [8,156] [(156,.v (.agg (aa r (.slice Arh r.held.length Crh)).toArray))] 51 [.agg (aa r (.slice Arh r.held.length Crh)).toArray] (some 157) rfl (cx fun ww hw hf => fJ r (.slice Arh r.held.length Crh) ww (hf _ m4) (by assumption) w.heap.size hw) ?_
 rintro ⟨v26a,v26c⟩
 refine bN [8] [(8,.p 1 0)] 1 ⟨37,aa r (.slice v26a r.held.length v26c)⟩ <| kR ?_
 have hmod : ag r seq text fin = r := by first | exact eZ hrk (by assumption) (by rw [← hall,← hnf]; omega) | (unfold ag; rw [if_neg (by grind)]; done) | (unfold ag; rw [if_pos (by grind),← hall,← hnf,← hg2,← hfp]; first | (rw [if_pos (by omega)]; done) | (rw [if_neg (by omega),if_pos (by first | omega | simp_all)]; done) | (rw [if_neg (by omega),if_neg (by first | omega | simp_all)]; done))
 exact ⟨[.agg (aa r (.slice v26a r.held.length v26c)).toArray],by kernel_rfl,fun w' hb hf ha => by rw [hmod]; exact xo1 ((v26a,v26c)) rfl rfl (pW (hf _ m0) hB) hb⟩
 have h25p := of_decide_eq_false h25
 refine kK <| kQ <| bN [8] [(8,.p 1 0)] 1 ⟨37,[iI (sA r.next (n2 : Int)),.string (r.data ++ (ah gt)),.slice v20a ((gS [] 0 (sl.drop n2)).length) v20c,iI fp,.bool r.done]⟩ <| kR ?_
 have hmod : ag r seq text fin = (⟨sA r.next (n2 : Int),r.data ++ (ah gt),(gS [] 0 (sl.drop n2)),fp,r.done⟩) := by first | exact eZ hrk (by assumption) (by rw [← hall,← hnf]; omega) | (unfold ag; rw [if_neg (by grind)]; done) | (unfold ag; rw [if_pos (by grind),← hall,← hnf,← hg2,← hfp]; first | (rw [if_pos (by omega)]; done) | (rw [if_neg (by omega),if_pos (by first | omega | simp_all)]; done) | (rw [if_neg (by omega),if_neg (by first | omega | simp_all)]; done))
 exact ⟨[.agg #[iI (sA r.next (n2 : Int)),.string (r.data ++ (ah gt)),.slice v20a ((gS [] 0 (sl.drop n2)).length) v20c,iI fp,.bool r.done]],by kernel_rfl,fun w' hb hf ha => by rw [hmod]; exact xo1 ((v20a,v20c)) rfl rfl (pW (hf _ m0) hB) hb⟩
theorem ysAcked_c (s : Snd) (ack : Int) (w : World)  : Calls Tryz.prog 115 #[.agg (ai s).toArray, iI ack] w fun e w' => e = .returned (.tuple #[.agg (ai (aD s ack).1).toArray, .bool ((aD s ack).2)]) ∧ Below w.heap.size w w' := by
 refine bL (args := [.agg (ai s).toArray,iI ack]) (fn := Tryz.f115) [] Tryz.func115 rfl Tryz.ntmps115 rfl (by simp) ?_
 refine kQ <| cy [1,2,4] ⟨[(1,aI ack),(2,.p 0 0),(4,.p 1 0)],[⟨34,ai s⟩,⟨34,sndZ⟩],[],[]⟩ <| kQ <| dS 3 [2,4,8,10] [(8,aI ack),(10,aI s.una)] 128 [iI ack,iI s.una] (some 11) rfl (cz fun ww hf => sSeqDiff_c ack s.una ww ) ?_
 intro _
 refine aY [2,4,6] [(6,aI (aU ack s.una))] <| kS <| kQ <| dS 1 [2,4,6,12] [(12,.v (.agg (ai s).toArray))] 65 [.agg (ai s).toArray] (some 13) rfl (bu fun ww hf => en s.una s.data s.sent s.fin s.finSent s.done ww ) ?_
 intro _
 refine dl 2 [2,4,6,15] [(15,aB (!(aG s)))] <| kP 15 (!(aG s)) (fun h1 => ?_) (fun h1 => ?_)
 have h1n := cd h1
 refine aY [2,4,6,21] [(21,aB true)] <| kT <| kQ <| bN [4,5] [(5,aB false)] 1 ⟨34,ai s⟩ ?_
 refine kR ?_
 have hmod : aD s ack = (s,false) := by first | rfl | (simp [aD, *]; done) | (cases hfs : s.finSent <;> grind [aD])
 exact ⟨[.agg (ai s).toArray,.bool false],by kernel_rfl,fun w' hb hf => by rw [hmod]; exact ⟨rfl,hb⟩⟩
 have h1n := bS h1
 have h1nb := cP (s := s) (by simpa using h1n)
 obtain ⟨h1nb0,h1nb1,h1nb2,h1nb3,h1nb4,h1nb5,h1nb6,h1nb7,h1nb8,h1nb9,h1nb10⟩ := h1nb
 refine dS 2 [2,4,6,15,16,17] [(15,aB false),(16,aI (aU ack s.una)),(17,.v (.agg (ai s).toArray))] 109 [.agg (ai s).toArray] (some 18) rfl (bu fun ww hf => dL s.una s.data s.sent s.fin s.finSent s.done ww ) ?_
 intro _
 refine dS 0 [2,4,6,15,16,18] [] 63 [iI (aU ack s.una),iI 0,iI (ae s)] (some 19) rfl (cz fun ww hf => dA (aU ack s.una) 0 (ae s) ww ) ?_
 intro _
 refine aY [2,4,6,21] [(21,aB (!(cG (aU ack s.una) 0 (ae s))))] <| kC (!(cG (aU ack s.una) 0 (ae s))) (fun h2 => ?_) (fun h2 => ?_)
 have h2n := cd h2
 have h2ni := inB_ff.1 (show cG (aU ack s.una) 0 (ae s) = false from by simpa using h2n)
 refine kQ <| bN [4,5] [(5,aB false)] 1 ⟨34,ai s⟩ <| kR ?_
 have hmod : aD s ack = (s,false) := by first | rfl | (simp [aD, *]; done) | (cases hfs : s.finSent <;> grind [aD])
 exact ⟨[.agg (ai s).toArray,.bool false],by kernel_rfl,fun w' hb hf => by rw [hmod]; exact ⟨rfl,hb⟩⟩
 have h2n := bS h2
 have h2ni := inB_tt.1 (show cG (aU ack s.una) 0 (ae s) = true from by simpa using h2n)
 refine kK <| kQ <| gU [2,4,6,7] [(7,.p 2 0)] [⟨34,ai s⟩] <| kQ <| dS 3 [2,4,6,7,25,26] [(25,aI s.una),(26,aI (aU ack s.una))] 96 [iI s.una,iI (aU ack s.una)] (some 27) rfl (cz fun ww hf => bW s.una (aU ack s.una) ww ) ?_
 intro _
 refine bN [2,4,6,7] [] 2 ⟨34,ai { s with una := sA s.una (aU ack s.una) }⟩ <| kS <| kQ <| aE [2,4,6,7,32] [(2,.p 0 0),(4,.p 1 0),(6,aI (aU ack s.una)),(7,.p 2 0),(32,aB (decide ((aU ack s.una) > s.sent)))] ?_
 refine kC (decide ((aU ack s.una) > s.sent)) (fun h3 => ?_) (fun h3 => ?_)
 have h3p := of_decide_eq_true h3
 refine kQ <| bN [2,4,7] [] 2 ⟨34,ai { s with una := sA s.una (aU ack s.una),finSent := false }⟩ <| kQ <| bN [2,4,7] [] 2 ⟨34,ai { s with una := sA s.una (aU ack s.una),finSent := false,done := true }⟩ ?_
 refine kG <| aY [2,4,6,7] [(6,aI s.sent)] <| kQ <| fS 3 [2,4,6,7,38,39] [(38,.v (.string s.data)),(39,aI s.sent)] (.string (s.data.extract (s.sent).toNat s.data.size)) rfl (fun _ _ _ ww hr => act_slSe (s.sent) hr.1 rfl (by kernel_rfl) rfl rfl (by omega) (by omega) ww) ?_
 refine bN [2,4,6,7] [] 2 ⟨34,[iI (sA s.una (aU ack s.una)),.string (s.data.extract (s.sent).toNat s.data.size),iI s.sent,.bool s.fin,.bool false,.bool true]⟩ <| kQ <| kRF 6 [4,7] ⟨[(4,.p 1 0),(7,.p 2 0)],[⟨34,ai s⟩,⟨34,sndZ⟩,⟨34,[iI (sA s.una (aU ack s.una)),.string (s.data.extract (s.sent).toNat s.data.size),iI (K6.wrap (s.sent - s.sent)),.bool s.fin,.bool false,.bool true]⟩],[],[]⟩ <| xl_eq (st' := ⟨[(4,.p 1 0),(7,.p 2 0)],[⟨34,ai s⟩,⟨34,sndZ⟩,⟨34,[iI (sA s.una (aU ack s.una)),.string (s.data.extract (s.sent).toNat s.data.size),iI (s.sent - s.sent),.bool s.fin,.bool false,.bool true]⟩],[],[]⟩) (by rw [show (K6.wrap (s.sent - s.sent)) = (s.sent - s.sent) from ao (by omega) (by omega)] <;> rfl) ?_
 refine aY [4,7] [] <| kQ <| bN [4,5] [(5,aB true)] 1 ⟨34,[iI (sA s.una (aU ack s.una)),.string (s.data.extract (s.sent).toNat s.data.size),iI (s.sent - s.sent),.bool s.fin,.bool false,.bool true]⟩ <| kR ?_
 have hmod : aD s ack = ((⟨sA s.una (aU ack s.una),s.data.extract (s.sent).toNat s.data.size,s.sent - s.sent,s.fin,false,true⟩),true) := by first | rfl | (simp [aD, *]; done) | (cases hfs : s.finSent <;> grind [aD])
 exact ⟨[.agg #[iI (sA s.una (aU ack s.una)),.string (s.data.extract (s.sent).toNat s.data.size),iI (s.sent - s.sent),.bool s.fin,.bool false,.bool true],.bool true],by kernel_rfl,fun w' hb hf => by rw [hmod]; exact ⟨rfl,hb⟩⟩
 have h3p := of_decide_eq_false h3
 refine kK <| kQ <| fS 3 [2,4,6,7,38,39] [(38,.v (.string s.data)),(39,aI (aU ack s.una))] (.string (s.data.extract (aU ack s.una).toNat s.data.size)) rfl (fun _ _ _ ww hr => act_slSe (aU ack s.una) hr.1 rfl (by kernel_rfl) rfl rfl (by omega) (by omega) ww) ?_
 refine bN [2,4,6,7] [] 2 ⟨34,ai { s with una := sA s.una (aU ack s.una),data := s.data.extract (aU ack s.una).toNat s.data.size }⟩ <| kQ <| kRF 6 [4,7] ⟨[(4,.p 1 0),(7,.p 2 0)],[⟨34,ai s⟩,⟨34,sndZ⟩,⟨34,ai { s with una := sA s.una (aU ack s.una),data := s.data.extract (aU ack s.una).toNat s.data.size,sent := K6.wrap (s.sent - (aU ack s.una)) }⟩],[],[]⟩ <| xl_eq (st' := ⟨[(4,.p 1 0),(7,.p 2 0)],[⟨34,ai s⟩,⟨34,sndZ⟩,⟨34,ai { s with una := sA s.una (aU ack s.una),data := s.data.extract (aU ack s.una).toNat s.data.size,sent := s.sent - (aU ack s.una) }⟩],[],[]⟩) (by rw [show (K6.wrap (s.sent - (aU ack s.una))) = (s.sent - (aU ack s.una)) from ao (by omega) (by omega)] <;> rfl) ?_
 refine aY [4,7] [] <| kQ <| bN [4,5] [(5,aB true)] 1 ⟨34,ai { s with una := sA s.una (aU ack s.una),data := s.data.extract (aU ack s.una).toNat s.data.size,sent := s.sent - (aU ack s.una) }⟩ <| kR ?_
 have hmod : aD s ack = (({ s with una := sA s.una (aU ack s.una),data := s.data.extract (aU ack s.una).toNat s.data.size,sent := s.sent - (aU ack s.una) }),true) := by first | rfl | (simp [aD, *]; done) | (cases hfs : s.finSent <;> grind [aD])
 exact ⟨[.agg (ai { s with una := sA s.una (aU ack s.una),data := s.data.extract (aU ack s.una).toNat s.data.size,sent := s.sent - (aU ack s.una) }).toArray,.bool true],by kernel_rfl,fun w' hb hf => by rw [hmod]; exact ⟨rfl,hb⟩⟩
theorem ysTakenIn_c (r : Rcv) (r_heldV : Value) (n : Int) (w : World) (hl_r_heldV : Sl w r_heldV 2 (r.held.map pC)) (hkn : r.held.length ≤ 1048576) (hm : ∀ p ∈ r.held, p.text.size ≤ 1048576) (hsz : r.data.size ≤ 4611686018427387904) (B : Nat) (hB : B ≤ w.heap.size) : Calls Tryz.prog 103 #[.agg (aa r r_heldV).toArray, iI n] w fun e w' => XRs w w' e (α := Option Addr × Nat) (fun y => .tuple #[.agg (aa (ax r n).1 (.slice y.1 ((ax r n).1.held.length) y.2)).toArray, .string ((ax r n).2)]) (fun y => [a8 B 89 2 (.slice y.1 ((ax r n).1.held.length) y.2) ((ax r n).1.held.map pC)]) := by
 obtain ⟨Arh,Crh,hvrh⟩ := hl_r_heldV.form
 rw [List.length_map] at hvrh; subst hvrh
 have hnrh := hl_r_heldV.len; rw [List.length_map] at hnrh
 have hqrh := Sl.capLe hl_r_heldV
 refine bA (args := [.agg (aa r (.slice Arh r.held.length Crh)).toArray,iI n]) (fn := Tryz.f103) [aX (.slice Arh r.held.length Crh) 2 (r.held.map pC)] Tryz.func103 rfl Tryz.ntmps103 rfl (by simp only [List.mem_cons,List.not_mem_nil,or_false,forall_eq_or_imp,forall_eq]; exact ⟨rfl,hl_r_heldV⟩) ?_
 refine kQ <| cy [1,2,4] ⟨[(1,aI n),(2,.p 0 0),(4,.p 1 0)],[⟨37,aa r (.slice Arh r.held.length Crh)⟩,⟨37,eH⟩],[],[aX (.slice Arh r.held.length Crh) 2 (r.held.map pC)]⟩ <| kQ <| em 1 [1,2,4,7] [(1,aI n),(2,.p 0 0),(4,.p 1 0),(7,.v (.agg (aa r (.slice Arh r.held.length Crh)).toArray))] 51 [.agg (aa r (.slice Arh r.held.length Crh)).toArray] (some 8) rfl (cx fun ww hw hf => fJ r (.slice Arh r.held.length Crh) ww (hf _ m0) (by assumption) w.heap.size hw) ?_
 rintro ⟨v1a,v1c⟩
 refine cy [1,2,4,6] ⟨[(1,aI n),(2,.p 0 0),(4,.p 1 0),(6,.p 2 0)],[⟨37,aa r (.slice Arh r.held.length Crh)⟩,⟨37,eH⟩,⟨37,aa r (.slice v1a r.held.length v1c)⟩],[],[a8 w.heap.size 89 2 (.slice v1a r.held.length v1c) (r.held.map pC),aX (.slice Arh r.held.length Crh) 2 (r.held.map pC)]⟩ <| kS <| kQ <| em 1 [1,2,4,6,9] [(1,aI n),(2,.p 0 0),(4,.p 1 0),(6,.p 2 0),(9,.v (.agg (aa r (.slice Arh r.held.length Crh)).toArray))] 66 [.agg (aa r (.slice Arh r.held.length Crh)).toArray] (some 10) rfl (bu fun ww hf => gv r (.slice Arh r.held.length Crh) ww (hf _ m1) (by assumption) (by omega)) ?_
 intro _
 refine aE [1,2,4,6,11] [(1,aI n),(2,.p 0 0),(4,.p 1 0),(6,.p 2 0),(11,aB (!(rO r)))] <| kC (!(rO r)) (fun h2 => ?_) (fun h2 => ?_)
 have h2n := cd h2
 refine kQ <| cy [4,5] ⟨[(4,.p 1 0),(5,.v (.string (⟨#[]⟩ : ByteArray)))],[⟨37,aa r (.slice Arh r.held.length Crh)⟩,⟨37,aa r (.slice v1a r.held.length v1c)⟩,⟨37,aa r (.slice v1a r.held.length v1c)⟩],[],[a8 w.heap.size 89 2 (.slice v1a r.held.length v1c) (r.held.map pC),aX (.slice Arh r.held.length Crh) 2 (r.held.map pC)]⟩ <| kR ?_
 have hmod : ax r n = (r,(⟨#[]⟩ : ByteArray)) := by first | rfl | (simp [ax,cut, *]; done) | grind [ax,cut]
 exact ⟨[.agg (aa r (.slice v1a r.held.length v1c)).toArray,.string (⟨#[]⟩ : ByteArray)],by kernel_rfl,fun w' hb hf ha => by rw [hmod]; exact xo1 ((v1a,v1c)) rfl rfl (pW (hf _ m0) hB) hb⟩
 have h2n := bS h2
 refine kK <| kQ <| em 4 [1,2,4,6,13,16] [(1,aI n),(2,.p 0 0),(4,.p 1 0),(6,.p 2 0),(13,aI n),(16,aI (r.data.size : Int))] 118 [iI n,iI (r.data.size : Int)] (some 17) rfl (cz fun ww hf => gk n (r.data.size : Int) ww ) ?_
 intro _
 refine em 0 [1,2,4,6,17] [(1,aI n),(2,.p 0 0),(4,.p 1 0),(6,.p 2 0),(17,aI (min n (r.data.size : Int)))] 95 [iI 0,iI (min n (r.data.size : Int))] (some 18) rfl (cz fun ww hf => ez 0 (min n (r.data.size : Int)) ww ) ?_
 intro _
 refine aE [1,2,4,6] [(1,aI (max 0 (min n (r.data.size : Int)))),(2,.p 0 0),(4,.p 1 0),(6,.p 2 0)] <| kQ <| kOS 3 [1,2,4,6,20,21] [(1,aI (max 0 (min n (r.data.size : Int)))),(2,.p 0 0),(4,.p 1 0),(6,.p 2 0),(20,.v (.string r.data)),(21,aI (max 0 (min n (r.data.size : Int))))] (.string (r.data.extract (max 0 (min n (r.data.size : Int))).toNat r.data.size)) rfl (fun _ _ _ ww hr => act_slSe (max 0 (min n (r.data.size : Int))) hr.1 rfl (by kernel_rfl) rfl rfl (by omega) (by omega) ww) ?_
 refine cy [1,2,4,6] ⟨[(1,aI (max 0 (min n (r.data.size : Int)))),(2,.p 0 0),(4,.p 1 0),(6,.p 2 0)],[⟨37,aa r (.slice Arh r.held.length Crh)⟩,⟨37,eH⟩,⟨37,aa { r with data := r.data.extract (max 0 (min n (r.data.size : Int))).toNat r.data.size } (.slice v1a r.held.length v1c)⟩],[],[a8 w.heap.size 89 2 (.slice v1a r.held.length v1c) (r.held.map pC),aX (.slice Arh r.held.length Crh) 2 (r.held.map pC)]⟩ <| kS <| bP [true,false,true] (by kernel_rfl) (fun ρ σ => ?_)
 refine cJ [0,1,2,3] [27,26,24,4] 3 [(27,aI (max 0 (min n (r.data.size : Int)))),(26,.v (.string r.data)),(24,.v (.agg (aa { r with data := r.data.extract (max 0 (min n (r.data.size : Int))).toNat r.data.size } (.slice v1a r.held.length v1c)).toArray)),(4,.p 1 0)] <| kX 4 (.string (r.data.extract 0 (max 0 (min n (r.data.size : Int))).toNat)) rfl (fun _ _ ww hA => act_slS0 (max 0 (min n (r.data.size : Int))) hA rfl (by kernel_rfl) rfl rfl (by omega) (by omega) ww) ?_
 refine kA [5] <| du 5 1 0 (aa { r with data := r.data.extract (max 0 (min n (r.data.size : Int))).toNat r.data.size } (.slice v1a r.held.length v1c)) rfl <| cJ [6] [5,4] 0 [(5,.v (.string (r.data.extract 0 (max 0 (min n (r.data.size : Int))).toNat))),(4,.p 1 0)] <| kZ <| kR ?_
 have hmod : ax r n = (({ r with data := r.data.extract (max 0 (min n (r.data.size : Int))).toNat r.data.size }),(r.data.extract 0 (max 0 (min n (r.data.size : Int))).toNat)) := by first | rfl | (simp [ax,cut, *]; done) | grind [ax,cut]
 exact ⟨[.agg (aa { r with data := r.data.extract (max 0 (min n (r.data.size : Int))).toNat r.data.size } (.slice v1a r.held.length v1c)).toArray,.string (r.data.extract 0 (max 0 (min n (r.data.size : Int))).toNat)],by kernel_rfl,fun w' hb hf ha => by rw [hmod]; exact xo1 ((v1a,v1c)) rfl rfl (pW (hf _ m0) hB) hb⟩
theorem yl21State_c (c : Con) (rV : Value) (w : World) (hZ : Sl w rV 2 (c.r.held.map pC))  : Calls Tryz.prog 133 #[.agg (a7 c rV).toArray] w fun e w' => e = .returned (iI (tS c)) ∧ Below w.heap.size w w' := by
 obtain ⟨Z,Y,hY⟩ := hZ.form
 rw [List.length_map] at hY; subst hY
 have hJ := hZ.len; rw [List.length_map] at hJ
 have hqcrh := Sl.capLe hZ
 refine bL (args := [.agg (a7 c (cS Z c Y)).toArray]) (fn := Tryz.f133) [cH Z c Y] Tryz.func133 rfl Tryz.ntmps133 rfl (by simp only [List.mem_cons,List.not_mem_nil,or_false,forall_eq_or_imp,forall_eq]; exact ⟨rfl,hZ⟩) ?_
 refine kQ <| cy [1] ⟨[(1,.p 0 0)],[⟨41,a7 c (cS Z c Y)⟩],[],[cH Z c Y]⟩ <| kS <| kQ <| aE [1,4] [(1,.p 0 0),(4,aI c.state)] ?_
 refine ap <| kQ <| aE [1,4,5] [(1,.p 0 0),(4,aI c.state),(5,aB (c.state == 1))] <| kC (c.state == 1) (fun h1 => ?_) (fun h1 => ?_)
 have h1p := cD h1
 refine kQ <| aE [1,9] [(1,.p 0 0),(9,aB c.r.done)] <| kC (c.r.done) (fun h2 => ?_) (fun h2 => ?_)
 refine kQ <| aE [2] [(2,aI 4)] <| kR ?_
 have hmod : tS c = 4 := by first | rfl | (simp [tS, *]; done) | grind [tS]
 exact ⟨[iI 4],by kernel_rfl,fun w' hb hf => by rw [hmod]; exact ⟨rfl,hb⟩⟩
 refine kK <| kQ <| aE [2] [(2,aI c.state)] <| kR ?_
 have hmod : tS c = c.state := by first | rfl | (simp [tS, *]; done) | grind [tS]
 exact ⟨[iI c.state],by kernel_rfl,fun w' hb hf => by rw [hmod]; exact ⟨rfl,hb⟩⟩
 have h1p := cA h1
 refine kQ <| aE [1,4,10] [(1,.p 0 0),(4,aI c.state),(10,aB (c.state == 2))] <| kC (c.state == 2) (fun h3 => ?_) (fun h3 => ?_)
 have h3p := cD h3
 refine ap <| kS <| cn ⟨[(1,.p 0 0),(12,aB (c.s.done && c.r.done))],[⟨41,a7 c (cS Z c Y)⟩],[],[cH Z c Y]⟩ ?_ ?_
 refine kG <| eb 4 [1,16] [(1,.p 0 0),(16,aB c.s.done)] <| kP 16 (c.s.done) (fun h4 => ?_) (fun h4 => ?_)
 refine aE [1,12] [(1,.p 0 0),(12,aB c.r.done)] ?_
 show Wk _ _
 try rw [h4]
 exact kF 1 0 [1,12]
 refine aE [1,12] [(1,.p 0 0),(12,aB false)] ?_
 show Wk _ _
 try rw [h4]
 exact kF 1 0 [1,12]
 refine kC (c.s.done && c.r.done) (fun h5 => ?_) (fun h5 => ?_)
 have h5l := and_l h5
 have h5r := and_r h5
 refine kQ <| aE [2] [(2,aI 7)] <| kR ?_
 have hmod : tS c = 7 := by first | rfl | (simp [tS, *]; done) | grind [tS]
 exact ⟨[iI 7],by kernel_rfl,fun w' hb hf => by rw [hmod]; exact ⟨rfl,hb⟩⟩
 refine kQ <| aE [1,21] [(1,.p 0 0),(21,aB c.s.done)] <| kC (c.s.done) (fun h6 => ?_) (fun h6 => ?_)
 refine kQ <| aE [2] [(2,aI 3)] <| kR ?_
 have hmod : tS c = 3 := by first | rfl | (simp [tS, *]; done) | grind [tS]
 exact ⟨[iI 3],by kernel_rfl,fun w' hb hf => by rw [hmod]; exact ⟨rfl,hb⟩⟩
 refine kQ <| aE [1,25] [(1,.p 0 0),(25,aB c.r.done)] <| kC (c.r.done) (fun h7 => ?_) (fun h7 => ?_)
 refine kQ <| aE [2] [(2,aI 5)] <| kR ?_
 have hmod : tS c = 5 := by first | rfl | (simp [tS, *]; done) | grind [tS]
 exact ⟨[iI 5],by kernel_rfl,fun w' hb hf => by rw [hmod]; exact ⟨rfl,hb⟩⟩
 refine kK <| kQ <| aE [2] [(2,aI c.state)] <| kR ?_
 have hmod : tS c = c.state := by first | rfl | (simp [tS, *]; done) | grind [tS]
 exact ⟨[iI c.state],by kernel_rfl,fun w' hb hf => by rw [hmod]; exact ⟨rfl,hb⟩⟩
 have h3p := cA h3
 refine kQ <| aE [1,4,29] [(1,.p 0 0),(4,aI c.state),(29,aB (c.state == 3))] <| kC (c.state == 3) (fun h8 => ?_) (fun h8 => ?_)
 have h8p := cD h8
 refine kQ <| aE [1,33] [(1,.p 0 0),(33,aB c.r.done)] <| kC (c.r.done) (fun h9 => ?_) (fun h9 => ?_)
 refine kQ <| aE [2] [(2,aI 7)] <| kR ?_
 have hmod : tS c = 7 := by first | rfl | (simp [tS, *]; done) | grind [tS]
 exact ⟨[iI 7],by kernel_rfl,fun w' hb hf => by rw [hmod]; exact ⟨rfl,hb⟩⟩
 refine kK <| kQ <| aE [2] [(2,aI c.state)] <| kR ?_
 have hmod : tS c = c.state := by first | rfl | (simp [tS, *]; done) | grind [tS]
 exact ⟨[iI c.state],by kernel_rfl,fun w' hb hf => by rw [hmod]; exact ⟨rfl,hb⟩⟩
 have h8p := cA h8
 refine kQ <| aE [1,4,34] [(1,.p 0 0),(4,aI c.state),(34,aB (c.state == 5))] <| kC (c.state == 5) (fun h10 => ?_) (fun h10 => ?_)
 have h10p := cD h10
 refine kQ <| aE [1,38] [(1,.p 0 0),(38,aB c.s.done)] <| kC (c.s.done) (fun h11 => ?_) (fun h11 => ?_)
 refine kQ <| aE [2] [(2,aI 7)] <| kR ?_
 have hmod : tS c = 7 := by first | rfl | (simp [tS, *]; done) | grind [tS]
 exact ⟨[iI 7],by kernel_rfl,fun w' hb hf => by rw [hmod]; exact ⟨rfl,hb⟩⟩
 refine kK <| kQ <| aE [2] [(2,aI c.state)] <| kR ?_
 have hmod : tS c = c.state := by first | rfl | (simp [tS, *]; done) | grind [tS]
 exact ⟨[iI c.state],by kernel_rfl,fun w' hb hf => by rw [hmod]; exact ⟨rfl,hb⟩⟩
 have h10p := cA h10
 refine kQ <| aE [1,39] [(1,.p 0 0),(39,aB (c.state == 6))] <| kC (c.state == 6) (fun h12 => ?_) (fun h12 => ?_)
 have h12p := cD h12
 refine kQ <| aE [1,43] [(1,.p 0 0),(43,aB c.s.done)] <| kC (c.s.done) (fun h13 => ?_) (fun h13 => ?_)
 refine kQ <| aE [2] [(2,aI 8)] <| kR ?_
 have hmod : tS c = 8 := by first | rfl | (simp [tS, *]; done) | grind [tS]
 exact ⟨[iI 8],by kernel_rfl,fun w' hb hf => by rw [hmod]; exact ⟨rfl,hb⟩⟩
 refine kK <| kQ <| aE [2] [(2,aI c.state)] <| kR ?_
 have hmod : tS c = c.state := by first | rfl | (simp [tS, *]; done) | grind [tS]
 exact ⟨[iI c.state],by kernel_rfl,fun w' hb hf => by rw [hmod]; exact ⟨rfl,hb⟩⟩
 have h12p := cA h12
 refine kK <| kQ <| aE [2] [(2,aI c.state)] <| kR ?_
 have hmod : tS c = c.state := by first | rfl | (simp [tS, *]; done) | grind [tS]
 exact ⟨[iI c.state],by kernel_rfl,fun w' hb hf => by rw [hmod]; exact ⟨rfl,hb⟩⟩
theorem ysTurned_c (c : Con) (rV : Value) (w : World) (hZ : Sl w rV 2 (c.r.held.map pC)) (hkn : c.r.held.length ≤ 1048576)(hm : ∀ p ∈ c.r.held, p.text.size ≤ 1048576) (hsz : c.r.data.size ≤ 4611686018427387904) (B : Nat) (hB : B ≤ w.heap.size) : Calls Tryz.prog 126 #[.agg (a7 c rV).toArray] w fun e w' => XRs w w' e (α := Option Addr × Nat) (fun y => .agg (a7 (bH c) (.slice y.1 ((bH c).r.held.length) y.2)).toArray) (fun y => [br B (.slice y.1 ((bH c).r.held.length) y.2) 2 ((bH c).r.held.map pC)]) := by
 obtain ⟨Z,Y,hY⟩ := hZ.form
 rw [List.length_map] at hY; subst hY
 have hJ := hZ.len; rw [List.length_map] at hJ
 have hqcrh := Sl.capLe hZ
 have ht : bv { c with state := tS c,timer := 0 } = (bv { c with state := tS c,timer := 0,tries := 0 } && cG c.tries 0 3) := conOk_tries _
 refine bA (args := [.agg (a7 c (cS Z c Y)).toArray]) (fn := Tryz.f126) [cH Z c Y] Tryz.func126 rfl Tryz.ntmps126 rfl (by simp only [List.mem_cons,List.not_mem_nil,or_false,forall_eq_or_imp,forall_eq]; exact ⟨rfl,hZ⟩) ?_
 refine kQ <| cy [1,2] ⟨[(1,.p 0 0),(2,.p 1 0)],[⟨41,a7 c (cS Z c Y)⟩,⟨41,cR⟩],[],[cH Z c Y]⟩ <| kQ <| em 1 [1,2,4] [(1,.p 0 0),(2,.p 1 0),(4,.v (.agg (a7 c (cS Z c Y)).toArray))] 28 [.agg (a7 c (cS Z c Y)).toArray] (some 5) rfl (cx fun ww hw hf => c8 c (cS Z c Y) ww (hf _ m0) (by assumption) w.heap.size hw) ?_
 rintro ⟨v1a,v1c⟩
 refine cy [1,2,3] ⟨[(1,.p 0 0),(2,.p 1 0),(3,.p 2 0)],[⟨41,a7 c (cS Z c Y)⟩,⟨41,cR⟩,⟨41,a7 c (cS v1a c v1c)⟩],[],[br w.heap.size (cS v1a c v1c) 2 (c.r.held.map pC),cH Z c Y]⟩ <| kQ <| em 1 [1,2,3,6] [(1,.p 0 0),(2,.p 1 0),(3,.p 2 0),(6,.v (.agg (a7 c (cS Z c Y)).toArray))] 133 [.agg (a7 c (cS Z c Y)).toArray] (some 7) rfl (bu fun ww hf => yl21State_c c (cS Z c Y) ww (hf _ m1) ) ?_
 intro _
 refine cy [1,2,3] ⟨[(1,.p 0 0),(2,.p 1 0),(3,.p 2 0)],[⟨41,a7 c (cS Z c Y)⟩,⟨41,cR⟩,⟨41,a7 { c with state := (tS c) } (cS v1a c v1c)⟩],[],[br w.heap.size (cS v1a c v1c) 2 (c.r.held.map pC),cH Z c Y]⟩ <| kS <| kS <| cn ⟨[(1,.p 0 0),(2,.p 1 0),(3,.p 2 0),(37,aB ((!(bv ({ c with state := (tS c),timer := 0,tries := 0 }))) || ((!(cG c.timer 0 4)) || (!(cG c.tries 0 3)))))],[⟨41,a7 c (cS Z c Y)⟩,⟨41,cR⟩,⟨41,a7 { c with state := (tS c) } (cS v1a c v1c)⟩],[],[br w.heap.size (cS v1a c v1c) 2 (c.r.held.map pC),cH Z c Y]⟩ ?_ ?_
 refine kG <| kOS 14 [1,2,3,10,12,14,16,18,20,22] [(1,.p 0 0),(2,.p 1 0),(3,.p 2 0),(10,.v (.agg (bt c.t).toArray)),(12,aI (tS c)),(14,.v (.agg (ai c.s).toArray)),(16,.v (.agg (aa c.r (cS Z c Y)).toArray)),(18,aI c.window),(20,aI c.most),(22,.v (.agg (e5 c.o).toArray))] (.agg (a7 { c with state := (tS c),timer := 0,tries := 0 } (cS Z c Y)).toArray) rfl (fun _ _ _ ww hr => aA [(0,.agg (bt c.t).toArray),(1,iI (tS c)),(2,.agg (ai c.s).toArray),(3,.agg (aa c.r (cS Z c Y)).toArray),(4,iI c.window),(5,iI c.most),(6,.agg (e5 c.o).toArray)] hr.1 rfl (by kernel_rfl) (by kernel_rfl) ww) ?_
 refine em 0 [1,2,3,23] [(1,.p 0 0),(2,.p 1 0),(3,.p 2 0),(23,.v (.agg (a7 { c with state := (tS c),timer := 0,tries := 0 } (cS Z c Y)).toArray))] 37 [.agg (a7 { c with state := (tS c),timer := 0,tries := 0 } (cS Z c Y)).toArray] (some 24) rfl (bu fun ww hf => e0 ({ c with state := (tS c),timer := 0,tries := 0 }) (cS Z c Y) ww (hf _ m1) (by assumption) (by omega)) ?_
 intro _
 refine eb 2 [1,2,3,26] [(1,.p 0 0),(2,.p 1 0),(3,.p 2 0),(26,aB (!(bv ({ c with state := (tS c),timer := 0,tries := 0 }))))] <| kP 26 (!(bv ({ c with state := (tS c),timer := 0,tries := 0 }))) (fun h2 => ?_) (fun h2 => ?_)
 have h2n := cd h2
 refine aE [1,2,3,37] [(1,.p 0 0),(2,.p 1 0),(3,.p 2 0),(37,aB true)] ?_
 show Wk _ _
 try rw [h2]
 exact kF 3 0 [1,2,3,37]
 have h2n := bS h2
 refine em 2 [1,2,3,26,28] [(1,.p 0 0),(2,.p 1 0),(3,.p 2 0),(26,aB false),(28,aI c.timer)] 63 [iI c.timer,iI 0,iI 4] (some 29) rfl (cz fun ww hf => dA c.timer 0 4 ww ) ?_
 intro _
 refine eb 3 [1,2,3,32] [(1,.p 0 0),(2,.p 1 0),(3,.p 2 0),(32,aB (!(cG c.timer 0 4)))] <| kP 32 (!(cG c.timer 0 4)) (fun h3 => ?_) (fun h3 => ?_)
 have h3n := cd h3
 have h3ni := inB_ff.1 (show cG c.timer 0 4 = false from by simpa using h3n)
 refine aE [1,2,3,37] [(1,.p 0 0),(2,.p 1 0),(3,.p 2 0),(37,aB true)] ?_
 show Wk _ _
 try rw [h2]
 try rw [h3]
 exact kF 3 0 [1,2,3,37]
 have h3n := bS h3
 have h3ni := inB_tt.1 (show cG c.timer 0 4 = true from by simpa using h3n)
 refine em 2 [1,2,3,32,34] [(1,.p 0 0),(2,.p 1 0),(3,.p 2 0),(32,aB false),(34,aI c.tries)] 63 [iI c.tries,iI 0,iI 3] (some 35) rfl (cz fun ww hf => dA c.tries 0 3 ww ) ?_
 intro _
 refine aE [1,2,3,37] [(1,.p 0 0),(2,.p 1 0),(3,.p 2 0),(37,aB (!(cG c.tries 0 3)))] ?_
 show Wk _ _
 try rw [h2]
 try rw [h3]
 exact kF 3 0 [1,2,3,37]
 refine kC ((!(bv ({ c with state := (tS c),timer := 0,tries := 0 }))) || ((!(cG c.timer 0 4)) || (!(cG c.tries 0 3)))) (fun h4 => ?_) (fun h4 => ?_)
 refine kQ <| em 1 [2,38] [(2,.p 1 0),(38,.v (.agg (a7 c (cS Z c Y)).toArray))] 28 [.agg (a7 c (cS Z c Y)).toArray] (some 39) rfl (cx fun ww hw hf => c8 c (cS Z c Y) ww (hf _ m1) (by assumption) w.heap.size hw) ?_
 rintro ⟨v5a,v5c⟩
 refine cy [2] ⟨[(2,.p 1 0)],[⟨41,a7 c (cS Z c Y)⟩,⟨41,a7 c (cS v5a c v5c)⟩,⟨41,a7 { c with state := (tS c) } (cS v1a c v1c)⟩],[],[br w.heap.size (cS v5a c v5c) 2 (c.r.held.map pC),br w.heap.size (cS v1a c v1c) 2 (c.r.held.map pC),cH Z c Y]⟩ <| kR ?_
 have hmod : bH c = c := by first | rfl | (simp [bH, *]; done) | grind [bH] | grind [bH,tS] | (unfold bH; rw [← hkk,if_neg hkn]; grind)
 exact ⟨[.agg (a7 c (cS v5a c v5c)).toArray],by kernel_rfl,fun w' hb hf ha => by rw [hmod]; exact xo1 ((v5a,v5c)) rfl rfl (pO (hf _ m0) hB) hb⟩
 have h4l := gR h4
 have h4ln := bS h4l
 have h4r := gI h4
 have h4rl := gR h4r
 have h4rln := bS h4rl
 have h4rlni := inB_tt.1 (show cG c.timer 0 4 = true from by simpa using h4rln)
 have h4rr := gI h4r
 have h4rrn := bS h4rr
 have h4rrni := inB_tt.1 (show cG c.tries 0 3 = true from by simpa using h4rrn)
 refine kK <| kS <| kQ <| aE [2,3,44] [(2,.p 1 0),(3,.p 2 0),(44,aB ((tS c) == c.state))] ?_
 refine kC ((tS c) == c.state) (fun h6 => ?_) (fun h6 => ?_)
 have h6p := cD h6
 refine kQ <| cy [2] ⟨[(2,.p 1 0)],[⟨41,a7 c (cS Z c Y)⟩,⟨41,a7 { c with state := (tS c) } (cS v1a c v1c)⟩,⟨41,a7 { c with state := (tS c) } (cS v1a c v1c)⟩],[],[br w.heap.size (cS v1a c v1c) 2 (c.r.held.map pC),cH Z c Y]⟩ <| kR ?_
 have hmod : bH c = ({ c with state := (tS c) }) := by first | rfl | (simp [bH, *]; done) | grind [bH] | grind [bH,tS] | (unfold bH; rw [← hkk,if_neg hkn]; grind)
 exact ⟨[.agg (a7 { c with state := (tS c) } (cS v1a c v1c)).toArray],by kernel_rfl,fun w' hb hf ha => by rw [hmod]; exact xo1 ((v1a,v1c)) rfl rfl (pO (hf _ m0) hB) hb⟩
 have h6p := cA h6
 refine kK <| kS <| kQ <| aE [2,3,48] [(2,.p 1 0),(3,.p 2 0),(48,aB ((tS c) == 7))] ?_
 refine cn ⟨[(2,.p 1 0),(3,.p 2 0)],[⟨41,a7 c (cS Z c Y)⟩,⟨41,cR⟩,⟨41,a7 { c with state := (tS c),timer := if ((tS c) == 7) = true then 4 else c.timer,tries := if ((tS c) == 7) = true then 0 else c.tries } (cS v1a c v1c)⟩],[],[br w.heap.size (cS v1a c v1c) 2 (c.r.held.map pC),cH Z c Y]⟩ ?_ ?_
 refine kC ((tS c) == 7) (fun h7 => ?_) (fun h7 => ?_)
 have h7p := cD h7
 refine kQ <| cy [2,3] ⟨[(2,.p 1 0),(3,.p 2 0)],[⟨41,a7 c (cS Z c Y)⟩,⟨41,cR⟩,⟨41,a7 { c with state := (tS c),timer := 4 } (cS v1a c v1c)⟩],[],[br w.heap.size (cS v1a c v1c) 2 (c.r.held.map pC),cH Z c Y]⟩ <| kG <| cy [2,3] ⟨[(2,.p 1 0),(3,.p 2 0)],[⟨41,a7 c (cS Z c Y)⟩,⟨41,cR⟩,⟨41,a7 { c with state := (tS c),timer := 4,tries := 0 } (cS v1a c v1c)⟩],[],[br w.heap.size (cS v1a c v1c) 2 (c.r.held.map pC),cH Z c Y]⟩ ?_
 show Wk _ _; rw [h7]; exact kF 3 0 [2,3]
 have h7p := cA h7
 refine kK ?_
 show Wk _ _; rw [h7]; exact kF 3 0 [2,3]
 refine kS <| kQ <| aE [2,3,53] [(2,.p 1 0),(3,.p 2 0),(53,aB ((tS c) == 8))] <| cn ⟨[(2,.p 1 0),(3,.p 2 0)],[⟨41,a7 c (cS Z c Y)⟩,⟨41,cR⟩,⟨41,a7 { c with state := (tS c),timer := if ((tS c) == 8) = true then 0 else if ((tS c) == 7) = true then 4 else c.timer,tries := if ((tS c) == 8) = true then 0 else if ((tS c) == 7) = true then 0 else c.tries } (cS v1a c v1c)⟩],[],[br w.heap.size (cS v1a c v1c) 2 (c.r.held.map pC),cH Z c Y]⟩ ?_ ?_
 refine kC ((tS c) == 8) (fun h8 => ?_) (fun h8 => ?_)
 have h8p := cD h8
 refine kQ <| cy [2,3] ⟨[(2,.p 1 0),(3,.p 2 0)],[⟨41,a7 c (cS Z c Y)⟩,⟨41,cR⟩,⟨41,a7 { c with state := (tS c),timer := 0,tries := if ((tS c) == 7) = true then 0 else c.tries } (cS v1a c v1c)⟩],[],[br w.heap.size (cS v1a c v1c) 2 (c.r.held.map pC),cH Z c Y]⟩ <| kG <| cy [2,3] ⟨[(2,.p 1 0),(3,.p 2 0)],[⟨41,a7 c (cS Z c Y)⟩,⟨41,cR⟩,⟨41,a7 { c with state := (tS c),timer := 0,tries := 0 } (cS v1a c v1c)⟩],[],[br w.heap.size (cS v1a c v1c) 2 (c.r.held.map pC),cH Z c Y]⟩ ?_
 show Wk _ _; rw [h8]; exact kF 3 0 [2,3]
 have h8p := cA h8
 refine kK ?_
 show Wk _ _; rw [h8]; exact kF 3 0 [2,3]
 refine kQ <| cy [2] ⟨[(2,.p 1 0)],[⟨41,a7 c (cS Z c Y)⟩,⟨41,a7 { c with state := (tS c),timer := if ((tS c) == 8) = true then 0 else if ((tS c) == 7) = true then 4 else c.timer,tries := if ((tS c) == 8) = true then 0 else if ((tS c) == 7) = true then 0 else c.tries } (cS v1a c v1c)⟩,⟨41,a7 { c with state := (tS c),timer := if ((tS c) == 8) = true then 0 else if ((tS c) == 7) = true then 4 else c.timer,tries := if ((tS c) == 8) = true then 0 else if ((tS c) == 7) = true then 0 else c.tries } (cS v1a c v1c)⟩],[],[br w.heap.size (cS v1a c v1c) 2 (c.r.held.map pC),cH Z c Y]⟩ <| kR ?_
 have hmod : bH c = ({ c with state := (tS c),timer := if ((tS c) == 8) = true then 0 else if ((tS c) == 7) = true then 4 else c.timer,tries := if ((tS c) == 8) = true then 0 else if ((tS c) == 7) = true then 0 else c.tries }) := by first | rfl | (simp [bH, *]; done) | grind [bH] | grind [bH,tS] | (unfold bH; rw [← hkk,if_neg hkn]; grind)
 exact ⟨[.agg (a7 { c with state := (tS c),timer := if ((tS c) == 8) = true then 0 else if ((tS c) == 7) = true then 4 else c.timer,tries := if ((tS c) == 8) = true then 0 else if ((tS c) == 7) = true then 0 else c.tries } (cS v1a c v1c)).toArray],by kernel_rfl,fun w' hb hf ha => by rw [hmod]; exact xo1 ((v1a,v1c)) rfl rfl (pO (hf _ m0) hB) hb⟩
theorem ysReadConn_c (c : Con) (rV : Value) (n : Int) (w : World) (hZ : Sl w rV 2 (c.r.held.map pC)) (hkn : c.r.held.length ≤ 1048576)(hm : ∀ p ∈ c.r.held, p.text.size ≤ 1048576) (hsz : c.r.data.size ≤ 4611686018427387904) (B : Nat) (hB : B ≤ w.heap.size) : Calls Tryz.prog 80 #[.agg (a7 c rV).toArray, iI n] w fun e w' => XRs w w' e (α := (Option Addr × Nat) × (Option Addr × Nat)) (fun y => .tuple #[.agg (a7 (bm c n).1 (.slice y.1.1 ((bm c n).1.r.held.length) y.1.2)).toArray, .string ((bm c n).2.1), .slice y.2.1 ((bm c n).2.2.length) y.2.2]) (fun y => [br B (.slice y.1.1 ((bm c n).1.r.held.length) y.1.2) 2 ((bm c n).1.r.held.map pC), br B (.slice y.2.1 ((bm c n).2.2.length) y.2.2) 13 ((bm c n).2.2.map ak)]) := by
 obtain ⟨Z,Y,hY⟩ := hZ.form
 rw [List.length_map] at hY; subst hY
 have hJ := hZ.len; rw [List.length_map] at hJ
 have hqcrh := Sl.capLe hZ
 have hwb := gm (ax c.r n).1
 refine bA (args := [.agg (a7 c (cS Z c Y)).toArray,iI n]) (fn := Tryz.f80) [cH Z c Y] Tryz.func80 rfl Tryz.ntmps80 rfl (by simp only [List.mem_cons,List.not_mem_nil,or_false,forall_eq_or_imp,forall_eq]; exact ⟨rfl,hZ⟩) ?_
 refine kQ <| cy [1,2,4] ⟨[(1,aI n),(2,.p 0 0),(4,.p 1 0)],[⟨41,a7 c (cS Z c Y)⟩,⟨41,cR⟩],[],[cH Z c Y]⟩ <| kQ <| em 1 [1,2,4,11] [(1,aI n),(2,.p 0 0),(4,.p 1 0),(11,.v (.agg (a7 c (cS Z c Y)).toArray))] 28 [.agg (a7 c (cS Z c Y)).toArray] (some 12) rfl (cx fun ww hw hf => c8 c (cS Z c Y) ww (hf _ m0) (by assumption) w.heap.size hw) ?_
 rintro ⟨v1a,v1c⟩
 refine cy [1,2,4,7] ⟨[(1,aI n),(2,.p 0 0),(4,.p 1 0),(7,.p 2 0)],[⟨41,a7 c (cS Z c Y)⟩,⟨41,cR⟩,⟨41,a7 c (cS v1a c v1c)⟩],[],[br w.heap.size (cS v1a c v1c) 2 (c.r.held.map pC),cH Z c Y]⟩ <| kQ <| kHS 0 [1,2,4,7] [(1,aI n),(2,.p 0 0),(4,.p 1 0),(7,.p 2 0)] rfl (aR (e := 105) (K := 13) (bytes := 104) [] (rs := ([] : List Seg).map ak) rfl rfl) ?_
 intro g2
 refine aE [1,2,4,7,8] [(1,aI n),(2,.p 0 0),(4,.p 1 0),(7,.p 2 0),(8,.v (.slice (some ⟨g2,0,none⟩) 0 0))] <| kS <| kQ <| em 1 [1,2,4,7,8,14] [(1,aI n),(2,.p 0 0),(4,.p 1 0),(7,.p 2 0),(8,.v (.slice (some ⟨g2,0,none⟩) 0 0)),(14,.v (.agg (a7 c (cS Z c Y)).toArray))] 37 [.agg (a7 c (cS Z c Y)).toArray] (some 15) rfl (bu fun ww hf => e0 c (cS Z c Y) ww (hf _ m2) (by assumption) (by omega)) ?_
 intro _
 refine aE [1,2,4,7,8,16] [(1,aI n),(2,.p 0 0),(4,.p 1 0),(7,.p 2 0),(8,.v (.slice (some ⟨g2,0,none⟩) 0 0)),(16,aB (!(bv c)))] <| kC (!(bv c)) (fun h3 => ?_) (fun h3 => ?_)
 have h3n := cd h3
 refine kQ <| cy [4,5,6] ⟨[(4,.p 1 0),(5,.v (.string (⟨#[]⟩ : ByteArray))),(6,.v (.slice (some ⟨g2,0,none⟩) 0 0))],[⟨41,a7 c (cS Z c Y)⟩,⟨41,a7 c (cS v1a c v1c)⟩,⟨41,a7 c (cS v1a c v1c)⟩],[],[a8 w.heap.size 105 13 (.slice (some ⟨g2,0,none⟩) 0 0) (([] : List Seg).map ak),br w.heap.size (cS v1a c v1c) 2 (c.r.held.map pC),cH Z c Y]⟩ <| kR ?_
 have hmod : bm c n = (c,(⟨#[]⟩ : ByteArray),([] : List Seg)) := by first | rfl | (simp [bm,bG, *]; done) | grind [bm,bG]
 exact ⟨[.agg (a7 c (cS v1a c v1c)).toArray,.string (⟨#[]⟩ : ByteArray),.slice (some ⟨g2,0,none⟩) 0 0],by kernel_rfl,fun w' hb hf ha => by rw [hmod]; exact xo2 ((v1a,v1c),(((some ⟨g2,0,none⟩) : Option Addr),0)) rfl rfl (pO (hf _ m1) hB) (pR (hf _ m0) hB) (Apart.sub2 ha (i := 1) (j := 0) rfl rfl (by decide) rfl (fun b h => h) (fun b h => bg h)) hb⟩
 have h3n := bS h3
 refine kK <| kQ <| em 3 [2,4,7,8,21,22] [(2,.p 0 0),(4,.p 1 0),(7,.p 2 0),(8,.v (.slice (some ⟨g2,0,none⟩) 0 0)),(21,.v (.agg (aa c.r (cS Z c Y)).toArray)),(22,aI n)] 103 [.agg (aa c.r (cS Z c Y)).toArray,iI n] (some 23) rfl (cx fun ww hw hf => ysTakenIn_c c.r (cS Z c Y) n ww (hf _ m2) (by assumption) (by assumption) (by omega) w.heap.size hw) ?_
 rintro ⟨v4a,v4c⟩
 have htk5 : (ax c.r n).1.data.size ≤ _ := takenIn_sz _ _
 refine cy [2,4,7,8,9,10] ⟨[(2,.p 0 0),(4,.p 1 0),(7,.p 2 0),(8,.v (.slice (some ⟨g2,0,none⟩) 0 0)),(9,.p 3 0),(10,.v (.string ((ax c.r n).2)))],[⟨41,a7 c (cS Z c Y)⟩,⟨41,cR⟩,⟨41,a7 c (cS v1a c v1c)⟩,⟨37,aa (ax c.r n).1 (.slice v4a ((ax c.r n).1.held.length) v4c)⟩],[],[a8 w.heap.size 89 2 (.slice v4a ((ax c.r n).1.held.length) v4c) ((ax c.r n).1.held.map pC),a8 w.heap.size 105 13 (.slice (some ⟨g2,0,none⟩) 0 0) (([] : List Seg).map ak),br w.heap.size (cS v1a c v1c) 2 (c.r.held.map pC),cH Z c Y]⟩ <| kQ <| cy [2,4,7,8,9,10] ⟨[(2,.p 0 0),(4,.p 1 0),(7,.p 2 0),(8,.v (.slice (some ⟨g2,0,none⟩) 0 0)),(9,.p 3 0),(10,.v (.string ((ax c.r n).2)))],[⟨41,a7 c (cS Z c Y)⟩,⟨41,cR⟩,⟨41,a7 { c with r := (ax c.r n).1 } (.slice v4a ((ax c.r n).1.held.length) v4c)⟩,⟨37,aa (ax c.r n).1 (.slice v4a ((ax c.r n).1.held.length) v4c)⟩],[],[a8 w.heap.size 89 2 (.slice v4a ((ax c.r n).1.held.length) v4c) ((ax c.r n).1.held.map pC),a8 w.heap.size 105 13 (.slice (some ⟨g2,0,none⟩) 0 0) (([] : List Seg).map ak),br w.heap.size (cS v1a c v1c) 2 (c.r.held.map pC),cH Z c Y]⟩ <| kS <| kS <| cn ⟨[(4,.p 1 0),(7,.p 2 0),(8,.v (.slice (some ⟨g2,0,none⟩) 0 0)),(10,.v (.string ((ax c.r n).2))),(46,aB (((wO c.r) == 0) && ((decide ((wO ((ax c.r n).1)) > 0)) && ((c.state != 8) && (c.state != 7)))))],[⟨41,a7 c (cS Z c Y)⟩,⟨41,cR⟩,⟨41,a7 { c with r := (ax c.r n).1 } (.slice v4a ((ax c.r n).1.held.length) v4c)⟩,⟨37,aa (ax c.r n).1 (.slice v4a ((ax c.r n).1.held.length) v4c)⟩],[],[a8 w.heap.size 89 2 (.slice v4a ((ax c.r n).1.held.length) v4c) ((ax c.r n).1.held.map pC),a8 w.heap.size 105 13 (.slice (some ⟨g2,0,none⟩) 0 0) (([] : List Seg).map ak),br w.heap.size (cS v1a c v1c) 2 (c.r.held.map pC),cH Z c Y]⟩ ?_ ?_
 refine kG <| em 2 [2,4,7,8,9,10,29] [(2,.p 0 0),(4,.p 1 0),(7,.p 2 0),(8,.v (.slice (some ⟨g2,0,none⟩) 0 0)),(9,.p 3 0),(10,.v (.string ((ax c.r n).2))),(29,.v (.agg (aa c.r (cS Z c Y)).toArray))] 92 [.agg (aa c.r (cS Z c Y)).toArray] (some 30) rfl (bu fun ww hf => ee c.r.next c.r.data c.r.held (cS Z c Y) c.r.fin c.r.done ww (by omega)) ?_
 intro _
 refine eb 2 [2,4,7,8,9,10,32] [(2,.p 0 0),(4,.p 1 0),(7,.p 2 0),(8,.v (.slice (some ⟨g2,0,none⟩) 0 0)),(9,.p 3 0),(10,.v (.string ((ax c.r n).2))),(32,aB ((wO c.r) == 0))] <| kP 32 ((wO c.r) == 0) (fun h6 => ?_) (fun h6 => ?_)
 have h6p := cD h6
 refine em 1 [2,4,7,8,10,32,33] [(2,.p 0 0),(4,.p 1 0),(7,.p 2 0),(8,.v (.slice (some ⟨g2,0,none⟩) 0 0)),(10,.v (.string ((ax c.r n).2))),(32,aB true),(33,.v (.agg (aa (ax c.r n).1 (.slice v4a ((ax c.r n).1.held.length) v4c)).toArray))] 92 [.agg (aa (ax c.r n).1 (.slice v4a ((ax c.r n).1.held.length) v4c)).toArray] (some 34) rfl (bu fun ww hf => ee ((ax c.r n).1.next) ((ax c.r n).1.data) ((ax c.r n).1.held) (.slice v4a ((ax c.r n).1.held.length) v4c) ((ax c.r n).1.fin) ((ax c.r n).1.done) ww (by omega)) ?_
 intro _
 refine eb 3 [2,4,7,8,10,37] [(2,.p 0 0),(4,.p 1 0),(7,.p 2 0),(8,.v (.slice (some ⟨g2,0,none⟩) 0 0)),(10,.v (.string ((ax c.r n).2))),(37,aB (decide ((wO ((ax c.r n).1)) > 0)))] <| kP 37 (decide ((wO ((ax c.r n).1)) > 0)) (fun h7 => ?_) (fun h7 => ?_)
 have h7p := of_decide_eq_true h7
 refine eb 5 [2,4,7,8,10,42] [(2,.p 0 0),(4,.p 1 0),(7,.p 2 0),(8,.v (.slice (some ⟨g2,0,none⟩) 0 0)),(10,.v (.string ((ax c.r n).2))),(42,aB (c.state != 8))] <| kP 42 (c.state != 8) (fun h8 => ?_) (fun h8 => ?_)
 have h8p := neT h8
 refine aE [4,7,8,10,46] [(4,.p 1 0),(7,.p 2 0),(8,.v (.slice (some ⟨g2,0,none⟩) 0 0)),(10,.v (.string ((ax c.r n).2))),(46,aB (c.state != 7))] ?_
 show Wk _ _
 try rw [h6]
 try rw [h7]
 try rw [h8]
 exact kF 4 0 [4,7,8,10,46]
 have h8p := neF h8
 refine aE [4,7,8,10,46] [(4,.p 1 0),(7,.p 2 0),(8,.v (.slice (some ⟨g2,0,none⟩) 0 0)),(10,.v (.string ((ax c.r n).2))),(46,aB false)] ?_
 show Wk _ _
 try rw [h6]
 try rw [h7]
 try rw [h8]
 exact kF 4 0 [4,7,8,10,46]
 have h7p := of_decide_eq_false h7
 refine aE [4,7,8,10,46] [(4,.p 1 0),(7,.p 2 0),(8,.v (.slice (some ⟨g2,0,none⟩) 0 0)),(10,.v (.string ((ax c.r n).2))),(46,aB false)] ?_
 show Wk _ _
 try rw [h6]
 try rw [h7]
 exact kF 4 0 [4,7,8,10,46]
 have h6p := cA h6
 refine aE [4,7,8,10,46] [(4,.p 1 0),(7,.p 2 0),(8,.v (.slice (some ⟨g2,0,none⟩) 0 0)),(10,.v (.string ((ax c.r n).2))),(46,aB false)] ?_
 show Wk _ _
 try rw [h6]
 exact kF 4 0 [4,7,8,10,46]
 refine kC (((wO c.r) == 0) && ((decide ((wO ((ax c.r n).1)) > 0)) && ((c.state != 8) && (c.state != 7)))) (fun h9 => ?_) (fun h9 => ?_)
 have h9l := and_l h9
 have h9lp := cD h9l
 have h9r := and_r h9
 have h9rl := and_l h9r
 have h9rr := and_r h9r
 have h9rrl := and_l h9rr
 have h9rrlp := neT h9rrl
 have h9rrr := and_r h9rr
 have h9rrrp := neT h9rrr
 refine kS <| dK (α := Nat) (fun y => (fun (g11 : Nat) => (⟨[(4,.p 1 0),(5,.v (.string ((ax c.r n).2))),(6,.v (.slice (some ⟨g11,0,none⟩) 1 1))],[⟨41,a7 c (cS Z c Y)⟩,⟨41,a7 { c with r := (ax c.r n).1 } (.slice v4a ((ax c.r n).1.held.length) v4c)⟩,⟨41,a7 { c with r := (ax c.r n).1 } (.slice v4a ((ax c.r n).1.held.length) v4c)⟩,⟨37,aa (ax c.r n).1 (.slice v4a ((ax c.r n).1.held.length) v4c)⟩],[],[a8 w.heap.size 105 13 (.slice (some ⟨g11,0,none⟩) 1 1) (([⟨c.t.my,c.t.port,af c.s,(ax c.r n).1.next,16,wO ((ax c.r n).1),⟨0,(-1),false,false,0,0⟩,(⟨#[]⟩ : ByteArray)⟩] : List Seg).map ak),a8 w.heap.size 89 2 (.slice v4a ((ax c.r n).1.held.length) v4c) ((ax c.r n).1.held.map pC),a8 w.heap.size 105 13 (.slice (some ⟨g2,0,none⟩) 0 0) (([] : List Seg).map ak),br w.heap.size (cS v1a c v1c) 2 (c.r.held.map pC),cH Z c Y]⟩ : St)) y) ?_ ?_
 refine aF [true,false,true,true] (by kernel_rfl) (fun ρ σ => ?_)
 refine cJ [0,1,2] [49,48,47,4] 5 [(49,.v (.agg (a7 { c with r := (ax c.r n).1 } (.slice v4a ((ax c.r n).1.held.length) v4c)).toArray)),(48,.v (.string ((ax c.r n).2))),(47,.v (.agg (a7 { c with r := (ax c.r n).1 } (.slice v4a ((ax c.r n).1.held.length) v4c)).toArray)),(4,.p 1 0)] <| kA [3] <| cE 3 101 [.agg (a7 { c with r := (ax c.r n).1 } (.slice v4a ((ax c.r n).1.held.length) v4c)).toArray] (some 50) rfl (bu fun ww hf => fu ({ c with r := (ax c.r n).1 }) (.slice v4a ((ax c.r n).1.held.length) v4c) ww (aw (hf _ m0)) (by first | omega | (dsimp only; omega))) ?_
 intro _
 refine kA [4,5] ⟨?_,?_⟩
 refine dq 4 rfl (a6 (au rfl (a6 (a6 a9)))) (aR (e := 105) (K := 13) (bytes := 104) [.agg #[iI c.t.my,iI c.t.port,iI (af c.s),iI ((ax c.r n).1.next),iI 16,iI (wO ((ax c.r n).1)),iI 0,iI (-1),.bool false,.bool false,iI 0,iI 0,.string (⟨#[]⟩ : ByteArray)]] (rs := ([⟨c.t.my,c.t.port,af c.s,(ax c.r n).1.next,16,wO ((ax c.r n).1),⟨0,(-1),false,false,0,0⟩,(⟨#[]⟩ : ByteArray)⟩] : List Seg).map ak) rfl rfl) ?_
 intro g11
 refine kA [5] <| du 5 1 0 (a7 { c with r := (ax c.r n).1 } (.slice v4a ((ax c.r n).1.held.length) v4c)) rfl <| cJ [6,7] [6,5,4] 0 [(6,.v (.slice (some ⟨g11,0,none⟩) 1 1)),(5,.v (.string ((ax c.r n).2))),(4,.p 1 0)] <| kZ ?_
 exact ⟨(g11),kF 4 0 [4,5,6]⟩
 refine du 5 1 0 (a7 { c with r := (ax c.r n).1 } (.slice v4a ((ax c.r n).1.held.length) v4c)) rfl <| cJ [6] [5,50,4] 2 [(5,.v (.string ((ax c.r n).2))),(50,.v (.agg #[iI c.t.my,iI c.t.port,iI (af c.s),iI ((ax c.r n).1.next),iI 16,iI (wO ((ax c.r n).1)),iI 0,iI (-1),.bool false,.bool false,iI 0,iI 0,.string (⟨#[]⟩ : ByteArray)])),(4,.p 1 0)] <| kA [4] <| dq 4 rfl (a6 (au rfl (a6 (a6 a9)))) (aR (e := 105) (K := 13) (bytes := 104) [.agg #[iI c.t.my,iI c.t.port,iI (af c.s),iI ((ax c.r n).1.next),iI 16,iI (wO ((ax c.r n).1)),iI 0,iI (-1),.bool false,.bool false,iI 0,iI 0,.string (⟨#[]⟩ : ByteArray)]] (rs := ([⟨c.t.my,c.t.port,af c.s,(ax c.r n).1.next,16,wO ((ax c.r n).1),⟨0,(-1),false,false,0,0⟩,(⟨#[]⟩ : ByteArray)⟩] : List Seg).map ak) rfl rfl) ?_
 intro g13
 refine cJ [7] [6,5,4] 0 [(6,.v (.slice (some ⟨g13,0,none⟩) 1 1)),(5,.v (.string ((ax c.r n).2))),(4,.p 1 0)] <| kZ ?_
 exact ⟨(g13),kF 4 0 [4,5,6]⟩
 intro g11
 refine kR ?_
 have hmod : bm c n = (({ c with r := (ax c.r n).1 }),((ax c.r n).2),([⟨c.t.my,c.t.port,af c.s,(ax c.r n).1.next,16,wO ((ax c.r n).1),⟨0,(-1),false,false,0,0⟩,(⟨#[]⟩ : ByteArray)⟩] : List Seg)) := by first | rfl | (simp [bm,bG, *]; done) | grind [bm,bG]
 exact ⟨[.agg (a7 { c with r := (ax c.r n).1 } (.slice v4a ((ax c.r n).1.held.length) v4c)).toArray,.string ((ax c.r n).2),.slice (some ⟨g11,0,none⟩) 1 1],by kernel_rfl,fun w' hb hf ha => by rw [hmod]; exact xo2 ((v4a,v4c),(((some ⟨g11,0,none⟩) : Option Addr),1)) rfl rfl (pR (hf _ m1) hB) (pR (hf _ m0) hB) (Apart.sub2 ha (i := 1) (j := 0) rfl rfl (by decide) rfl (fun b h => bg h) (fun b h => bg h)) hb⟩
 refine kK <| kQ <| cy [4,5,6] ⟨[(4,.p 1 0),(5,.v (.string ((ax c.r n).2))),(6,.v (.slice (some ⟨g2,0,none⟩) 0 0))],[⟨41,a7 c (cS Z c Y)⟩,⟨41,a7 { c with r := (ax c.r n).1 } (.slice v4a ((ax c.r n).1.held.length) v4c)⟩,⟨41,a7 { c with r := (ax c.r n).1 } (.slice v4a ((ax c.r n).1.held.length) v4c)⟩,⟨37,aa (ax c.r n).1 (.slice v4a ((ax c.r n).1.held.length) v4c)⟩],[],[a8 w.heap.size 89 2 (.slice v4a ((ax c.r n).1.held.length) v4c) ((ax c.r n).1.held.map pC),a8 w.heap.size 105 13 (.slice (some ⟨g2,0,none⟩) 0 0) (([] : List Seg).map ak),br w.heap.size (cS v1a c v1c) 2 (c.r.held.map pC),cH Z c Y]⟩ <| kR ?_
 have hmod : bm c n = (({ c with r := (ax c.r n).1 }),((ax c.r n).2),([] : List Seg)) := by first | rfl | (simp [bm,bG, *]; done) | grind [bm,bG]
 exact ⟨[.agg (a7 { c with r := (ax c.r n).1 } (.slice v4a ((ax c.r n).1.held.length) v4c)).toArray,.string ((ax c.r n).2),.slice (some ⟨g2,0,none⟩) 0 0],by kernel_rfl,fun w' hb hf ha => by rw [hmod]; exact xo2 ((v4a,v4c),(((some ⟨g2,0,none⟩) : Option Addr),0)) rfl rfl (pR (hf _ m0) hB) (pR (hf _ m1) hB) (Apart.sub2 ha (i := 0) (j := 1) rfl rfl (by decide) rfl (fun b h => bg h) (fun b h => bg h)) hb⟩
theorem dT (s : Snd) (window : Int) (mss : Int) (w : World) (hwi : -9223372036854775808 ≤ window ∧ window ≤ 9223372036854775807) : Calls Tryz.prog 113 #[.agg (ai s).toArray, iI window, iI mss] w fun e w' => e = .returned (.tuple #[.agg (c6 (nC s window mss).1).toArray, .bool ((nC s window mss).2)]) ∧ Below w.heap.size w w' := by
 refine bL (args := [.agg (ai s).toArray,iI window,iI mss]) (fn := Tryz.f113) [] Tryz.func113 rfl Tryz.ntmps113 rfl (by simp) ?_
 refine kQ <| cy [1,2,3,6] ⟨[(1,aI window),(2,aI mss),(3,.p 0 0),(6,.p 1 0)],[⟨34,ai s⟩,⟨134,c6 (⟨0,(⟨#[]⟩ : ByteArray),false⟩ : Chk)⟩],[],[]⟩ <| kS <| kQ <| dS 1 [1,2,3,6,11] [(11,.v (.agg (ai s).toArray))] 65 [.agg (ai s).toArray] (some 12) rfl (bu fun ww hf => en s.una s.data s.sent s.fin s.finSent s.done ww ) ?_
 intro _
 refine aY [1,2,3,6,13] [(13,aB (!(aG s)))] <| kC (!(aG s)) (fun h1 => ?_) (fun h1 => ?_)
 have hsn := cd h1
 refine kQ <| kOS 0 [6] [(6,.p 1 0)] (.agg (c6 (⟨0,(⟨#[]⟩ : ByteArray),false⟩ : Chk)).toArray) rfl (fun _ _ _ ww hr => aA [] hr.1 rfl (by kernel_rfl) (by kernel_rfl) ww) ?_
 refine aY [6,7] [(7,aB false)] <| kR ?_
 have hmod : nC s window mss = ((⟨0,(⟨#[]⟩ : ByteArray),false⟩),false) := by first | rfl | (simp [nC,bU,aS, *]; done) | (simp [nC,bU,aS, *]; omega) | grind [nC,bU,aS]
 exact ⟨[.agg (c6 (⟨0,(⟨#[]⟩ : ByteArray),false⟩ : Chk)).toArray,.bool false],by kernel_rfl,fun w' hb hf => by rw [hmod]; exact ⟨rfl,hb⟩⟩
 have h1b := cP (s := s) (by simpa using h1)
 obtain ⟨h1b0,h1b1,h1b2,h1b3,h1b4,h1b5,h1b6,h1b7,h1b8,h1b9,h1b10⟩ := h1b
 have hsn := bS h1
 obtain ⟨c0,c1,c2,c3,c4⟩ := chunkN_bd (window := window) (mss := mss) hsn
 refine kK <| kS <| bP [] (by kernel_rfl) (fun ρ σ => ?_)
 refine cJ [0,3] [18,15,2,3,6] 6 [(18,.v (.agg (ai s).toArray)),(15,aI window),(2,aI mss),(3,.p 0 0),(6,.p 1 0)] <| kA [1] <| cE 1 118 [iI window,iI 1000000] (some 16) rfl (cz fun ww hf => gk window 1000000 ww ) ?_
 intro _
 refine kA [2] <| cE 2 95 [iI 0,iI (min window 1000000)] (some 17) rfl (cz fun ww hf => ez 0 (min window 1000000) ww ) ?_
 intro _
 refine kA [4] <| cE 4 109 [.agg (ai s).toArray] (some 19) rfl (bu fun ww hf => dL s.una s.data s.sent s.fin s.finSent s.done ww ) ?_
 intro _
 refine cJ [5] [20,2,3,6] 2 [(20,aI (K6.wrap ((max 0 (min window 1000000)) - (ae s)))),(2,aI mss),(3,.p 0 0),(6,.p 1 0)] <| gy (t := [(20,aI (K6.wrap ((max 0 (min window 1000000)) - (ae s)))),(2,aI mss),(3,.p 0 0),(6,.p 1 0)]) (t' := [(20,aI ((max 0 (min window 1000000)) - (ae s))),(2,aI mss),(3,.p 0 0),(6,.p 1 0)]) (by rw [show (K6.wrap ((max 0 (min window 1000000)) - (ae s))) = ((max 0 (min window 1000000)) - (ae s)) from ao (by omega) (by omega)]) ?_
 refine kA [6] <| cE 6 95 [iI 0,iI ((max 0 (min window 1000000)) - (ae s))] (some 21) rfl (cz fun ww hf => ez 0 ((max 0 (min window 1000000)) - (ae s)) ww ) ?_
 intro _
 refine gy (t := [(21,aI (max 0 ((max 0 (min window 1000000)) - (ae s)))),(20,aI ((max 0 (min window 1000000)) - (ae s))),(2,aI mss),(3,.p 0 0),(6,.p 1 0)]) (t' := [(21,aI (fL s window)),(20,aI ((max 0 (min window 1000000)) - (ae s))),(2,aI mss),(3,.p 0 0),(6,.p 1 0)]) (by rw [show (max 0 ((max 0 (min window 1000000)) - (ae s))) = (fL s window) from wnd_s]) ?_
 refine cJ [7] [8,2,3,6] 0 [(8,aI (fL s window)),(2,aI mss),(3,.p 0 0),(6,.p 1 0)] <| kZ <| kS <| bP [] (by kernel_rfl) (fun ρ σ => ?_)
 refine cJ [0,1,3,4,5,6,7,8] [30,23,22,8,3,6] 4 [(30,aI (K6.wrap ((s.data.size : Int) - s.sent))),(23,aI (fL s window)),(22,aI mss),(8,aI (fL s window)),(3,.p 0 0),(6,.p 1 0)] <| gy (t := [(30,aI (K6.wrap ((s.data.size : Int) - s.sent))),(23,aI (fL s window)),(22,aI mss),(8,aI (fL s window)),(3,.p 0 0),(6,.p 1 0)]) (t' := [(30,aI ((s.data.size : Int) - s.sent)),(23,aI (fL s window)),(22,aI mss),(8,aI (fL s window)),(3,.p 0 0),(6,.p 1 0)]) (by rw [show (K6.wrap ((s.data.size : Int) - s.sent)) = ((s.data.size : Int) - s.sent) from ao (by omega) (by omega)]) ?_
 refine kA [2] <| cE 2 118 [iI mss,iI (fL s window)] (some 24) rfl (cz fun ww hf => gk mss (fL s window) ww ) ?_
 intro _
 refine kA [9] <| cE 9 118 [iI (min mss (fL s window)),iI ((s.data.size : Int) - s.sent)] (some 31) rfl (cz fun ww hf => gk (min mss (fL s window)) ((s.data.size : Int) - s.sent) ww ) ?_
 intro _
 refine kA [10] <| cE 10 95 [iI 0,iI (min (min mss (fL s window)) ((s.data.size : Int) - s.sent))] (some 32) rfl (cz fun ww hf => ez 0 (min (min mss (fL s window)) ((s.data.size : Int) - s.sent)) ww ) ?_
 intro _
 refine gy (t := [(32,aI (max 0 (min (min mss (fL s window)) ((s.data.size : Int) - s.sent)))),(31,aI (min (min mss (fL s window)) ((s.data.size : Int) - s.sent))),(24,aI (min mss (fL s window))),(30,aI ((s.data.size : Int) - s.sent)),(23,aI (fL s window)),(22,aI mss),(8,aI (fL s window)),(3,.p 0 0),(6,.p 1 0)]) (t' := [(32,aI (aW s window mss)),(31,aI (min (min mss (fL s window)) ((s.data.size : Int) - s.sent))),(24,aI (min mss (fL s window))),(30,aI ((s.data.size : Int) - s.sent)),(23,aI (fL s window)),(22,aI mss),(8,aI (fL s window)),(3,.p 0 0),(6,.p 1 0)]) (by rw [show (max 0 (min (min mss (fL s window)) ((s.data.size : Int) - s.sent))) = (aW s window mss) from rfl]) ?_
 refine cJ [11] [9,8,3,6] 0 [(9,aI (aW s window mss)),(8,aI (fL s window)),(3,.p 0 0),(6,.p 1 0)] <| kZ <| kS <| cn ⟨[(3,.p 0 0),(6,.p 1 0),(8,aI (fL s window)),(9,aI (aW s window mss)),(10,.p 2 0)],[⟨34,ai s⟩,⟨134,c6 (⟨0,(⟨#[]⟩ : ByteArray),false⟩ : Chk)⟩,⟨134,c6 (⟨af s,s.data.extract (s.sent).toNat (s.sent + (aW s window mss)).toNat,false⟩ : Chk)⟩],[],[]⟩ ?_ ?_
 refine bP [] (by kernel_rfl) (fun ρ σ => ?_)
 refine cJ [0,2,3,4,5,6,7,8,9] [42,38,36,33,9,8,3,6] 5 [(42,aI (K6.wrap (s.sent + (aW s window mss)))),(38,aI s.sent),(36,.v (.string s.data)),(33,.v (.agg (ai s).toArray)),(9,aI (aW s window mss)),(8,aI (fL s window)),(3,.p 0 0),(6,.p 1 0)] <| gy (t := [(42,aI (K6.wrap (s.sent + (aW s window mss)))),(38,aI s.sent),(36,.v (.string s.data)),(33,.v (.agg (ai s).toArray)),(9,aI (aW s window mss)),(8,aI (fL s window)),(3,.p 0 0),(6,.p 1 0)]) (t' := [(42,aI (s.sent + (aW s window mss))),(38,aI s.sent),(36,.v (.string s.data)),(33,.v (.agg (ai s).toArray)),(9,aI (aW s window mss)),(8,aI (fL s window)),(3,.p 0 0),(6,.p 1 0)]) (by rw [show (K6.wrap (s.sent + (aW s window mss))) = (s.sent + (aW s window mss)) from ao (by omega) (by omega)]) ?_
 refine kX 10 (.string (s.data.extract (s.sent).toNat (s.sent + (aW s window mss)).toNat)) rfl (fun _ _ ww hA => act_slS (s.sent) (s.sent + (aW s window mss)) hA rfl (by kernel_rfl) rfl rfl rfl (by omega) (by omega) (by omega) ww) ?_
 refine kA [1,12] ⟨?_,?_⟩
 refine cE 1 121 [.agg (ai s).toArray] (some 34) rfl (bu fun ww hf => sNextOf_c s.una s.data s.sent s.fin s.finSent s.done ww ) ?_
 intro _
 refine kX 11 (.agg (c6 (⟨af s,s.data.extract (s.sent).toNat (s.sent + (aW s window mss)).toNat,false⟩ : Chk)).toArray) rfl (fun _ _ ww hA => aA [(0,iI (af s)),(1,.string (s.data.extract (s.sent).toNat (s.sent + (aW s window mss)).toNat))] hA rfl (by kernel_rfl) (by kernel_rfl) ww) ?_
 refine kA [12] <| de 12 ⟨134,c6 (⟨0,(⟨#[]⟩ : ByteArray),false⟩ : Chk)⟩ _ rfl (by kernel_rfl) (by kernel_rfl) (by kernel_rfl) (by kernel_rfl) rfl ?_
 refine kA [13] <| du 13 2 0 (c6 (⟨af s,s.data.extract (s.sent).toNat (s.sent + (aW s window mss)).toNat,false⟩ : Chk)) rfl <| kZ ?_
 exact kF 3 0 [3,6,8,9,10]
 refine de 12 ⟨134,c6 (⟨0,(⟨#[]⟩ : ByteArray),false⟩ : Chk)⟩ _ rfl (by kernel_rfl) (by kernel_rfl) (by kernel_rfl) (by kernel_rfl) rfl ?_
 refine kA [1] <| cE 1 121 [.agg (ai s).toArray] (some 34) rfl (bu fun ww hf => sNextOf_c s.una s.data s.sent s.fin s.finSent s.done ww ) ?_
 intro _
 refine kX 11 (.agg (c6 (⟨af s,s.data.extract (s.sent).toNat (s.sent + (aW s window mss)).toNat,false⟩ : Chk)).toArray) rfl (fun _ _ ww hA => aA [(0,iI (af s)),(1,.string (s.data.extract (s.sent).toNat (s.sent + (aW s window mss)).toNat))] hA rfl (by kernel_rfl) (by kernel_rfl) ww) ?_
 refine kA [13] <| du 13 2 0 (c6 (⟨af s,s.data.extract (s.sent).toNat (s.sent + (aW s window mss)).toNat,false⟩ : Chk)) rfl <| kZ ?_
 exact kF 3 0 [3,6,8,9,10]
 refine kQ <| dl 3 [3,6,8,9,10,47] [(47,aB s.fin)] <| kP 47 (s.fin) (fun h2 => ?_) (fun h2 => ?_)
 refine dl 5 [3,6,8,9,10,52] [(52,aB (!s.finSent))] <| kP 52 (!s.finSent) (fun h3 => ?_) (fun h3 => ?_)
 have h3n := cd h3
 refine dl 5 [3,6,8,9,10,57] [(57,aB (!s.done))] <| kP 57 (!s.done) (fun h4 => ?_) (fun h4 => ?_)
 have h4n := cd h4
 refine eb 10 [6,8,9,10,67] [(6,.p 1 0),(8,aI (fL s window)),(9,aI (aW s window mss)),(10,.p 2 0),(67,aB ((K6.wrap (s.sent + (aW s window mss))) == (s.data.size : Int)))] <| fD (t' := [(6,.p 1 0),(8,aI (fL s window)),(9,aI (aW s window mss)),(10,.p 2 0),(67,aB ((s.sent + (aW s window mss)) == (s.data.size : Int)))]) (by rw [show (K6.wrap (s.sent + (aW s window mss))) = (s.sent + (aW s window mss)) from ao (by omega) (by omega)]) ?_
 refine kP 67 ((s.sent + (aW s window mss)) == (s.data.size : Int)) (fun h5 => ?_) (fun h5 => ?_)
 have h5p := cD h5
 refine bN [6,9,10] [] 2 ⟨134,c6 (⟨af s,s.data.extract (s.sent).toNat (s.sent + (aW s window mss)).toNat,decide ((fL s window) > (aW s window mss))⟩ : Chk)⟩ <| kS <| kQ <| dl 3 [6,10,75] [(75,aB ((aW s window mss) == 0))] ?_
 refine kP 75 ((aW s window mss) == 0) (fun h6 => ?_) (fun h6 => ?_)
 have h6p := cD h6
 refine aY [6,10,79] [(79,aB (!(decide ((fL s window) > (aW s window mss)))))] <| kC (!(decide ((fL s window) > (aW s window mss)))) (fun h7 => ?_) (fun h7 => ?_)
 have h7n := cd h7
 refine kQ <| kOS 0 [6] [(6,.p 1 0)] (.agg (c6 (⟨0,(⟨#[]⟩ : ByteArray),false⟩ : Chk)).toArray) rfl (fun _ _ _ ww hr => aA [] hr.1 rfl (by kernel_rfl) (by kernel_rfl) ww) ?_
 refine aY [6,7] [(7,aB false)] <| kR ?_
 have hmod : nC s window mss = ((⟨0,(⟨#[]⟩ : ByteArray),false⟩),false) := by first | rfl | (simp [nC,bU,aS, *]; done) | (simp [nC,bU,aS, *]; omega) | grind [nC,bU,aS]
 exact ⟨[.agg (c6 (⟨0,(⟨#[]⟩ : ByteArray),false⟩ : Chk)).toArray,.bool false],by kernel_rfl,fun w' hb hf => by rw [hmod]; exact ⟨rfl,hb⟩⟩
 have h7n := bS h7
 refine kK <| kQ <| bN [6,7] [(7,aB true)] 1 ⟨134,c6 (⟨af s,s.data.extract (s.sent).toNat (s.sent + (aW s window mss)).toNat,decide ((fL s window) > (aW s window mss))⟩ : Chk)⟩ <| kR ?_
 have hmod : nC s window mss = ((⟨af s,s.data.extract (s.sent).toNat (s.sent + (aW s window mss)).toNat,decide ((fL s window) > (aW s window mss))⟩),true) := by first | rfl | (simp [nC,bU,aS, *]; done) | (simp [nC,bU,aS, *]; omega) | grind [nC,bU,aS]
 exact ⟨[.agg (c6 (⟨af s,s.data.extract (s.sent).toNat (s.sent + (aW s window mss)).toNat,decide ((fL s window) > (aW s window mss))⟩ : Chk)).toArray,.bool true],by kernel_rfl,fun w' hb hf => by rw [hmod]; exact ⟨rfl,hb⟩⟩
 have h6p := cA h6
 refine aY [6,10,79] [(79,aB false)] <| kN <| kK <| kQ <| bN [6,7] [(7,aB true)] 1 ⟨134,c6 (⟨af s,s.data.extract (s.sent).toNat (s.sent + (aW s window mss)).toNat,decide ((fL s window) > (aW s window mss))⟩ : Chk)⟩ ?_
 refine kR ?_
 have hmod : nC s window mss = ((⟨af s,s.data.extract (s.sent).toNat (s.sent + (aW s window mss)).toNat,decide ((fL s window) > (aW s window mss))⟩),true) := by first | rfl | (simp [nC,bU,aS, *]; done) | (simp [nC,bU,aS, *]; omega) | grind [nC,bU,aS]
 exact ⟨[.agg (c6 (⟨af s,s.data.extract (s.sent).toNat (s.sent + (aW s window mss)).toNat,decide ((fL s window) > (aW s window mss))⟩ : Chk)).toArray,.bool true],by kernel_rfl,fun w' hb hf => by rw [hmod]; exact ⟨rfl,hb⟩⟩
 have h5p := cA h5
 refine aY [6,9,10] [] <| kS <| kQ <| dl 3 [6,10,75] [(75,aB ((aW s window mss) == 0))] ?_
 refine kP 75 ((aW s window mss) == 0) (fun h8 => ?_) (fun h8 => ?_)
 have h8p := cD h8
 refine aY [6,10,79] [(79,aB true)] <| kT <| kQ <| kOS 0 [6] [(6,.p 1 0)] (.agg (c6 (⟨0,(⟨#[]⟩ : ByteArray),false⟩ : Chk)).toArray) rfl (fun _ _ _ ww hr => aA [] hr.1 rfl (by kernel_rfl) (by kernel_rfl) ww) ?_
 refine aY [6,7] [(7,aB false)] <| kR ?_
 have hmod : nC s window mss = ((⟨0,(⟨#[]⟩ : ByteArray),false⟩),false) := by first | rfl | (simp [nC,bU,aS, *]; done) | (simp [nC,bU,aS, *]; omega) | grind [nC,bU,aS]
 exact ⟨[.agg (c6 (⟨0,(⟨#[]⟩ : ByteArray),false⟩ : Chk)).toArray,.bool false],by kernel_rfl,fun w' hb hf => by rw [hmod]; exact ⟨rfl,hb⟩⟩
 have h8p := cA h8
 refine aY [6,10,79] [(79,aB false)] <| kN <| kK <| kQ <| bN [6,7] [(7,aB true)] 1 ⟨134,c6 (⟨af s,s.data.extract (s.sent).toNat (s.sent + (aW s window mss)).toNat,false⟩ : Chk)⟩ ?_
 refine kR ?_
 have hmod : nC s window mss = ((⟨af s,s.data.extract (s.sent).toNat (s.sent + (aW s window mss)).toNat,false⟩),true) := by first | rfl | (simp [nC,bU,aS, *]; done) | (simp [nC,bU,aS, *]; omega) | grind [nC,bU,aS]
 exact ⟨[.agg (c6 (⟨af s,s.data.extract (s.sent).toNat (s.sent + (aW s window mss)).toNat,false⟩ : Chk)).toArray,.bool true],by kernel_rfl,fun w' hb hf => by rw [hmod]; exact ⟨rfl,hb⟩⟩
 have h4n := bS h4
 refine aY [6,9,10] [] <| kS <| kQ <| dl 3 [6,10,75] [(75,aB ((aW s window mss) == 0))] ?_
 refine kP 75 ((aW s window mss) == 0) (fun h9 => ?_) (fun h9 => ?_)
 have h9p := cD h9
 refine aY [6,10,79] [(79,aB true)] <| kT <| kQ <| kOS 0 [6] [(6,.p 1 0)] (.agg (c6 (⟨0,(⟨#[]⟩ : ByteArray),false⟩ : Chk)).toArray) rfl (fun _ _ _ ww hr => aA [] hr.1 rfl (by kernel_rfl) (by kernel_rfl) ww) ?_
 refine aY [6,7] [(7,aB false)] <| kR ?_
 have hmod : nC s window mss = ((⟨0,(⟨#[]⟩ : ByteArray),false⟩),false) := by first | rfl | (simp [nC,bU,aS, *]; done) | (simp [nC,bU,aS, *]; omega) | grind [nC,bU,aS]
 exact ⟨[.agg (c6 (⟨0,(⟨#[]⟩ : ByteArray),false⟩ : Chk)).toArray,.bool false],by kernel_rfl,fun w' hb hf => by rw [hmod]; exact ⟨rfl,hb⟩⟩
 have h9p := cA h9
 refine aY [6,10,79] [(79,aB false)] <| kN <| kK <| kQ <| bN [6,7] [(7,aB true)] 1 ⟨134,c6 (⟨af s,s.data.extract (s.sent).toNat (s.sent + (aW s window mss)).toNat,false⟩ : Chk)⟩ ?_
 refine kR ?_
 have hmod : nC s window mss = ((⟨af s,s.data.extract (s.sent).toNat (s.sent + (aW s window mss)).toNat,false⟩),true) := by first | rfl | (simp [nC,bU,aS, *]; done) | (simp [nC,bU,aS, *]; omega) | grind [nC,bU,aS]
 exact ⟨[.agg (c6 (⟨af s,s.data.extract (s.sent).toNat (s.sent + (aW s window mss)).toNat,false⟩ : Chk)).toArray,.bool true],by kernel_rfl,fun w' hb hf => by rw [hmod]; exact ⟨rfl,hb⟩⟩
 have h3n := bS h3
 refine aY [6,9,10] [] <| kS <| kQ <| dl 3 [6,10,75] [(75,aB ((aW s window mss) == 0))] ?_
 refine kP 75 ((aW s window mss) == 0) (fun h10 => ?_) (fun h10 => ?_)
 have h10p := cD h10
 refine aY [6,10,79] [(79,aB true)] <| kT <| kQ <| kOS 0 [6] [(6,.p 1 0)] (.agg (c6 (⟨0,(⟨#[]⟩ : ByteArray),false⟩ : Chk)).toArray) rfl (fun _ _ _ ww hr => aA [] hr.1 rfl (by kernel_rfl) (by kernel_rfl) ww) ?_
 refine aY [6,7] [(7,aB false)] <| kR ?_
 have hmod : nC s window mss = ((⟨0,(⟨#[]⟩ : ByteArray),false⟩),false) := by first | rfl | (simp [nC,bU,aS, *]; done) | (simp [nC,bU,aS, *]; omega) | grind [nC,bU,aS]
 exact ⟨[.agg (c6 (⟨0,(⟨#[]⟩ : ByteArray),false⟩ : Chk)).toArray,.bool false],by kernel_rfl,fun w' hb hf => by rw [hmod]; exact ⟨rfl,hb⟩⟩
 have h10p := cA h10
 refine aY [6,10,79] [(79,aB false)] <| kN <| kK <| kQ <| bN [6,7] [(7,aB true)] 1 ⟨134,c6 (⟨af s,s.data.extract (s.sent).toNat (s.sent + (aW s window mss)).toNat,false⟩ : Chk)⟩ ?_
 refine kR ?_
 have hmod : nC s window mss = ((⟨af s,s.data.extract (s.sent).toNat (s.sent + (aW s window mss)).toNat,false⟩),true) := by first | rfl | (simp [nC,bU,aS, *]; done) | (simp [nC,bU,aS, *]; omega) | grind [nC,bU,aS]
 exact ⟨[.agg (c6 (⟨af s,s.data.extract (s.sent).toNat (s.sent + (aW s window mss)).toNat,false⟩ : Chk)).toArray,.bool true],by kernel_rfl,fun w' hb hf => by rw [hmod]; exact ⟨rfl,hb⟩⟩
 refine aY [6,9,10] [] <| kS <| kQ <| dl 3 [6,10,75] [(75,aB ((aW s window mss) == 0))] ?_
 refine kP 75 ((aW s window mss) == 0) (fun h11 => ?_) (fun h11 => ?_)
 have h11p := cD h11
 refine aY [6,10,79] [(79,aB true)] <| kT <| kQ <| kOS 0 [6] [(6,.p 1 0)] (.agg (c6 (⟨0,(⟨#[]⟩ : ByteArray),false⟩ : Chk)).toArray) rfl (fun _ _ _ ww hr => aA [] hr.1 rfl (by kernel_rfl) (by kernel_rfl) ww) ?_
 refine aY [6,7] [(7,aB false)] <| kR ?_
 have hmod : nC s window mss = ((⟨0,(⟨#[]⟩ : ByteArray),false⟩),false) := by first | rfl | (simp [nC,bU,aS, *]; done) | (simp [nC,bU,aS, *]; omega) | grind [nC,bU,aS]
 exact ⟨[.agg (c6 (⟨0,(⟨#[]⟩ : ByteArray),false⟩ : Chk)).toArray,.bool false],by kernel_rfl,fun w' hb hf => by rw [hmod]; exact ⟨rfl,hb⟩⟩
 have h11p := cA h11
 refine aY [6,10,79] [(79,aB false)] <| kN <| kK <| kQ <| bN [6,7] [(7,aB true)] 1 ⟨134,c6 (⟨af s,s.data.extract (s.sent).toNat (s.sent + (aW s window mss)).toNat,false⟩ : Chk)⟩ ?_
 refine kR ?_
 have hmod : nC s window mss = ((⟨af s,s.data.extract (s.sent).toNat (s.sent + (aW s window mss)).toNat,false⟩),true) := by first | rfl | (simp [nC,bU,aS, *]; done) | (simp [nC,bU,aS, *]; omega) | grind [nC,bU,aS]
 exact ⟨[.agg (c6 (⟨af s,s.data.extract (s.sent).toNat (s.sent + (aW s window mss)).toNat,false⟩ : Chk)).toArray,.bool true],by kernel_rfl,fun w' hb hf => by rw [hmod]; exact ⟨rfl,hb⟩⟩
theorem fW (s : Snd) (c : Chk) (w : World)  : Calls Tryz.prog 114 #[.agg (ai s).toArray, .agg (c6 c).toArray] w fun e w' => e = .returned (.agg (ai (sO s c)).toArray) ∧ Below w.heap.size w w' := by
 have hsf := sentS_fin s c
 refine bL (args := [.agg (ai s).toArray,.agg (c6 c).toArray]) (fn := Tryz.f114) [] Tryz.func114 rfl Tryz.ntmps114 rfl (by simp) ?_
 refine kQ <| cy [2,3,4] ⟨[(2,.p 0 0),(3,.p 1 0),(4,.p 2 0)],[⟨34,ai s⟩,⟨134,c6 c⟩,⟨34,sndZ⟩],[],[]⟩ <| kQ <| cy [2,3,4,5] ⟨[(2,.p 0 0),(3,.p 1 0),(4,.p 2 0),(5,.p 3 0)],[⟨34,ai s⟩,⟨134,c6 c⟩,⟨34,sndZ⟩,⟨34,ai s⟩],[],[]⟩ ?_
 refine kQ <| cy [2,3,4,5] ⟨[(2,.p 0 0),(3,.p 1 0),(4,.p 2 0),(5,.p 3 0)],[⟨34,ai s⟩,⟨134,c6 c⟩,⟨34,sndZ⟩,⟨34,ai { s with sent := K6.wrap (s.sent + (c.text.size : Int)) }⟩],[],[]⟩ <| kS <| cn ⟨[(2,.p 0 0),(3,.p 1 0),(4,.p 2 0),(5,.p 3 0)],[⟨34,ai s⟩,⟨134,c6 c⟩,⟨34,sndZ⟩,⟨34,ai { s with sent := K6.wrap (s.sent + (c.text.size : Int)),finSent := s.finSent || c.fin }⟩],[],[]⟩ ?_ ?_
 refine kG <| eb 3 [2,3,4,5,16] [(2,.p 0 0),(3,.p 1 0),(4,.p 2 0),(5,.p 3 0),(16,aB s.finSent)] <| kP 16 (s.finSent) (fun h1 => ?_) (fun h1 => ?_)
 refine cy [2,3,4,5] ⟨[(2,.p 0 0),(3,.p 1 0),(4,.p 2 0),(5,.p 3 0)],[⟨34,ai s⟩,⟨134,c6 c⟩,⟨34,sndZ⟩,⟨34,ai { s with sent := K6.wrap (s.sent + (c.text.size : Int)),finSent := true }⟩],[],[]⟩ ?_
 show Wk _ _
 try rw [h1]
 exact kF 4 0 [2,3,4,5]
 refine cy [2,3,4,5] ⟨[(2,.p 0 0),(3,.p 1 0),(4,.p 2 0),(5,.p 3 0)],[⟨34,ai s⟩,⟨134,c6 c⟩,⟨34,sndZ⟩,⟨34,ai { s with sent := K6.wrap (s.sent + (c.text.size : Int)),finSent := c.fin }⟩],[],[]⟩ ?_
 show Wk _ _
 try rw [h1]
 exact kF 4 0 [2,3,4,5]
 refine kS <| kS <| cn ⟨[(2,.p 0 0),(4,.p 2 0),(5,.p 3 0),(36,aB ((!(aG s)) || ((!(aG ({ s with sent := K6.wrap (s.sent + (c.text.size : Int)),finSent := s.finSent || c.fin }))) || (c.fin && s.done))))],[⟨34,ai s⟩,⟨134,c6 c⟩,⟨34,sndZ⟩,⟨34,ai { s with sent := K6.wrap (s.sent + (c.text.size : Int)),finSent := s.finSent || c.fin }⟩],[],[]⟩ ?_ ?_
 refine kG <| em 1 [2,3,4,5,21] [(2,.p 0 0),(3,.p 1 0),(4,.p 2 0),(5,.p 3 0),(21,.v (.agg (ai s).toArray))] 65 [.agg (ai s).toArray] (some 22) rfl (bu fun ww hf => en s.una s.data s.sent s.fin s.finSent s.done ww ) ?_
 intro _
 refine eb 2 [2,3,4,5,24] [(2,.p 0 0),(3,.p 1 0),(4,.p 2 0),(5,.p 3 0),(24,aB (!(aG s)))] <| kP 24 (!(aG s)) (fun h2 => ?_) (fun h2 => ?_)
 have h2n := cd h2
 refine aE [2,4,5,36] [(2,.p 0 0),(4,.p 2 0),(5,.p 3 0),(36,aB true)] ?_
 show Wk _ _
 try rw [h2]
 exact kF 4 0 [2,4,5,36]
 have h2n := bS h2
 have h2nb := cP (s := s) (by simpa using h2n)
 obtain ⟨h2nb0,h2nb1,h2nb2,h2nb3,h2nb4,h2nb5,h2nb6,h2nb7,h2nb8,h2nb9,h2nb10⟩ := h2nb
 refine em 1 [2,3,4,5,24,25] [(2,.p 0 0),(3,.p 1 0),(4,.p 2 0),(5,.p 3 0),(24,aB false),(25,.v (.agg (ai { s with sent := K6.wrap (s.sent + (c.text.size : Int)),finSent := s.finSent || c.fin }).toArray))] 65 [.agg (ai { s with sent := K6.wrap (s.sent + (c.text.size : Int)),finSent := s.finSent || c.fin }).toArray] (some 26) rfl (bu fun ww hf => en s.una s.data (K6.wrap (s.sent + (c.text.size : Int))) s.fin (s.finSent || c.fin) s.done ww ) ?_
 intro _
 refine eb 3 [2,3,4,5,29] [(2,.p 0 0),(3,.p 1 0),(4,.p 2 0),(5,.p 3 0),(29,aB (!(aG ({ s with sent := K6.wrap (s.sent + (c.text.size : Int)),finSent := s.finSent || c.fin }))))] <| kP 29 (!(aG ({ s with sent := K6.wrap (s.sent + (c.text.size : Int)),finSent := s.finSent || c.fin }))) (fun h3 => ?_) (fun h3 => ?_)
 have h3n := cd h3
 refine aE [2,4,5,36] [(2,.p 0 0),(4,.p 2 0),(5,.p 3 0),(36,aB true)] ?_
 show Wk _ _
 try rw [h2]
 try rw [h3]
 exact kF 4 0 [2,4,5,36]
 have h3n := bS h3
 have h3nb := cP (s := ({ s with sent := K6.wrap (s.sent + (c.text.size : Int)),finSent := s.finSent || c.fin })) (by simpa using h3n)
 obtain ⟨h3nb0,h3nb1,h3nb2,h3nb3,h3nb4,h3nb5,h3nb6,h3nb7,h3nb8,h3nb9,h3nb10⟩ := h3nb
 refine eb 3 [2,4,5,29,32] [(2,.p 0 0),(4,.p 2 0),(5,.p 3 0),(29,aB false),(32,aB c.fin)] <| kP 32 (c.fin) (fun h4 => ?_) (fun h4 => ?_)
 refine aE [2,4,5,36] [(2,.p 0 0),(4,.p 2 0),(5,.p 3 0),(36,aB s.done)] ?_
 show Wk _ _
 try rw [h2]
 try rw [h3]
 try rw [h4]
 exact kF 4 0 [2,4,5,36]
 refine aE [2,4,5,36] [(2,.p 0 0),(4,.p 2 0),(5,.p 3 0),(36,aB false)] ?_
 show Wk _ _
 try rw [h2]
 try rw [h3]
 try rw [h4]
 exact kF 4 0 [2,4,5,36]
 refine kC ((!(aG s)) || ((!(aG ({ s with sent := K6.wrap (s.sent + (c.text.size : Int)),finSent := s.finSent || c.fin }))) || (c.fin && s.done))) (fun h5 => ?_) (fun h5 => ?_)
 refine kQ <| cy [4] ⟨[(4,.p 2 0)],[⟨34,ai s⟩,⟨134,c6 c⟩,⟨34,ai s⟩,⟨34,ai { s with sent := K6.wrap (s.sent + (c.text.size : Int)),finSent := s.finSent || c.fin }⟩],[],[]⟩ <| kR ?_
 have hmod : sO s c = s := by first | rfl | (simp [sO,sentS, *]; done) | grind [sO,sentS]
 exact ⟨[.agg (ai s).toArray],by kernel_rfl,fun w' hb hf => by rw [hmod]; exact ⟨rfl,hb⟩⟩
 have h5l := gR h5
 have h5ln := bS h5l
 have h5lnb := cP (s := s) (by simpa using h5ln)
 obtain ⟨h5lnb0,h5lnb1,h5lnb2,h5lnb3,h5lnb4,h5lnb5,h5lnb6,h5lnb7,h5lnb8,h5lnb9,h5lnb10⟩ := h5lnb
 have h5r := gI h5
 have h5rl := gR h5r
 have h5rln := bS h5rl
 have h5rlnb := cP (s := ({ s with sent := K6.wrap (s.sent + (c.text.size : Int)),finSent := s.finSent || c.fin })) (by simpa using h5rln)
 obtain ⟨h5rlnb0,h5rlnb1,h5rlnb2,h5rlnb3,h5rlnb4,h5rlnb5,h5rlnb6,h5rlnb7,h5rlnb8,h5rlnb9,h5rlnb10⟩ := h5rlnb
 have h5rr := gI h5r
 refine kK <| kQ <| cy [4] ⟨[(4,.p 2 0)],[⟨34,ai s⟩,⟨134,c6 c⟩,⟨34,ai { s with sent := K6.wrap (s.sent + (c.text.size : Int)),finSent := s.finSent || c.fin }⟩,⟨34,ai { s with sent := K6.wrap (s.sent + (c.text.size : Int)),finSent := s.finSent || c.fin }⟩],[],[]⟩ <| kR ?_
 have hmod : sO s c = ({ s with sent := K6.wrap (s.sent + (c.text.size : Int)),finSent := s.finSent || c.fin }) := by first | rfl | (simp [sO,sentS, *]; done) | grind [sO,sentS]
 exact ⟨[.agg (ai { s with sent := K6.wrap (s.sent + (c.text.size : Int)),finSent := s.finSent || c.fin }).toArray],by kernel_rfl,fun w' hb hf => by rw [hmod]; exact ⟨rfl,hb⟩⟩
theorem gp (s : Snd) (text : ByteArray) (w : World) (hts : text.size ≤ 4611686018427387904) : Calls Tryz.prog 98 #[.agg (ai s).toArray, .string text] w fun e w' => e = .returned (.tuple #[.agg (ai (aJ s text).1).toArray, iI ((aJ s text).2)]) ∧ Below w.heap.size w w' := by
 refine bL (args := [.agg (ai s).toArray,.string text]) (fn := Tryz.f98) [] Tryz.func98 rfl Tryz.ntmps98 rfl (by simp) ?_
 refine kQ <| cy [1,2,4] ⟨[(1,.v (.string text)),(2,.p 0 0),(4,.p 1 0)],[⟨34,ai s⟩,⟨34,sndZ⟩],[],[]⟩ <| kS <| kQ <| dS 1 [1,2,4,7] [(7,.v (.agg (ai s).toArray))] 65 [.agg (ai s).toArray] (some 8) rfl (bu fun ww hf => en s.una s.data s.sent s.fin s.finSent s.done ww ) ?_
 intro _
 refine dl 2 [1,2,4,10] [(10,aB (!(aG s)))] <| kP 10 (!(aG s)) (fun h1 => ?_) (fun h1 => ?_)
 have h1n := cd h1
 refine aY [1,2,4,13] [(13,aB true)] <| kT <| kQ <| bN [4,5] [(5,aI 0)] 1 ⟨34,ai s⟩ ?_
 refine kR ?_
 have hmod : aJ s text = (s,0) := by first | rfl | (simp [aJ, *]; done) | grind [aJ]
 exact ⟨[.agg (ai s).toArray,iI 0],by kernel_rfl,fun w' hb hf => by rw [hmod]; exact ⟨rfl,hb⟩⟩
 have h1n := bS h1
 have h1nb := cP (s := s) (by simpa using h1n)
 obtain ⟨h1nb0,h1nb1,h1nb2,h1nb3,h1nb4,h1nb5,h1nb6,h1nb7,h1nb8,h1nb9,h1nb10⟩ := h1nb
 refine aY [1,2,4,13] [(13,aB s.fin)] <| kC (s.fin) (fun h2 => ?_) (fun h2 => ?_)
 refine kQ <| bN [4,5] [(5,aI 0)] 1 ⟨34,ai s⟩ <| kR ?_
 have hmod : aJ s text = (s,0) := by first | rfl | (simp [aJ, *]; done) | grind [aJ]
 exact ⟨[.agg (ai s).toArray,iI 0],by kernel_rfl,fun w' hb hf => by rw [hmod]; exact ⟨rfl,hb⟩⟩
 refine kK <| kQ <| dS 6 [1,2,4,16,20] [(16,aI (text.size : Int)),(20,aI (K6.wrap (48 - (s.data.size : Int))))] 118 [iI (text.size : Int),iI (K6.wrap (48 - (s.data.size : Int)))] (some 21) rfl (cz fun ww hf => gk (text.size : Int) (K6.wrap (48 - (s.data.size : Int))) ww ) ?_
 intro _
 refine dl 1 [1,2,4,6] [(6,aI (min (text.size : Int) (K6.wrap (48 - (s.data.size : Int)))))] <| bE [1,2,4,6] [(6,aI (min (text.size : Int) (K6.wrap (48 - (s.data.size : Int)))))] [(6,aI (min (text.size : Int) (48 - (s.data.size : Int))))] (by rw [show (K6.wrap (48 - (s.data.size : Int))) = (48 - (s.data.size : Int)) from ao (by omega) (by omega)]) (by kernel_rfl) ?_
 refine aY [1,2,4,6] [] <| kS <| bP [false,true] (by kernel_rfl) (fun ρ σ => ?_)
 refine cJ [0,2,3] [25,24,22,2,4,6] 5 [(25,aI (min (text.size : Int) (48 - (s.data.size : Int)))),(24,.v (.string text)),(22,.p 0 1),(2,.p 0 0),(4,.p 1 0),(6,aI (min (text.size : Int) (48 - (s.data.size : Int))))] <| kX 4 (.string (text.extract 0 (min (text.size : Int) (48 - (s.data.size : Int))).toNat)) rfl (fun _ _ ww hA => act_slS0 (min (text.size : Int) (48 - (s.data.size : Int))) hA rfl (by kernel_rfl) rfl rfl (by omega) (by omega) ww) ?_
 refine kA [1] <| dH 1 (.v (.string s.data)) rfl <| kX 5 (.string (s.data ++ (text.extract 0 (min (text.size : Int) (48 - (s.data.size : Int))).toNat))) rfl (fun _ _ ww hA => cb hA rfl (by kernel_rfl) (by kernel_rfl) (str_add (by first | omega | (simp only [ByteArray.size_extract]; omega)) ww)) ?_
 refine cJ [6] [28,27,2,4,6] 1 [(28,.p 0 1),(27,.v (.string (s.data ++ (text.extract 0 (min (text.size : Int) (48 - (s.data.size : Int))).toNat)))),(2,.p 0 0),(4,.p 1 0),(6,aI (min (text.size : Int) (48 - (s.data.size : Int))))] <| kA [7] <| du 7 0 1 [.string (s.data ++ (text.extract 0 (min (text.size : Int) (48 - (s.data.size : Int))).toNat))] rfl <| kZ <| kQ <| bN [4,5] [(5,aI (min (text.size : Int) (48 - (s.data.size : Int))))] 1 ⟨34,ai { s with data := s.data ++ (text.extract 0 (min (text.size : Int) (48 - (s.data.size : Int))).toNat) }⟩ ?_
 refine kR ?_
 have hmod : aJ s text = (({ s with data := s.data ++ (text.extract 0 (min (text.size : Int) (48 - (s.data.size : Int))).toNat) }),(min (text.size : Int) (48 - (s.data.size : Int)))) := by first | rfl | (simp [aJ, *]; done) | grind [aJ]
 exact ⟨[.agg (ai { s with data := s.data ++ (text.extract 0 (min (text.size : Int) (48 - (s.data.size : Int))).toNat) }).toArray,iI (min (text.size : Int) (48 - (s.data.size : Int)))],by kernel_rfl,fun w' hb hf => by rw [hmod]; exact ⟨rfl,hb⟩⟩
theorem fF (c : Con) (rV : Value) (window : Int) (w : World) (hZ : Sl w rV 2 (c.r.held.map pC)) (hkn : c.r.held.length ≤ 1048576)(hm : ∀ p ∈ c.r.held, p.text.size ≤ 1048576) (hsz : c.r.data.size ≤ 4611686018427387904) (hwi : -9223372036854775808 ≤ window ∧ window ≤ 9223372036854775807) (B : Nat) (hB : B ≤ w.heap.size) : Calls Tryz.prog 99 #[.agg (a7 c rV).toArray, iI window] w fun e w' => XRs w w' e (α := (Option Addr × Nat) × (Option Addr × Nat)) (fun y => .tuple #[.agg (a7 (pump c window).1 (.slice y.1.1 ((pump c window).1.r.held.length) y.1.2)).toArray, .slice y.2.1 ((pump c window).2.length) y.2.2]) (fun y => [br B (.slice y.1.1 ((pump c window).1.r.held.length) y.1.2) 2 ((pump c window).1.r.held.map pC), a8 B 105 13 (.slice y.2.1 ((pump c window).2.length) y.2.2) ((pump c window).2.map ak)]) := by
 obtain ⟨Z,Y,hY⟩ := hZ.form
 rw [List.length_map] at hY; subst hY
 have hJ := hZ.len; rw [List.length_map] at hJ
 have hqcrh := Sl.capLe hZ
 refine bA (args := [.agg (a7 c (cS Z c Y)).toArray,iI window]) (fn := Tryz.f99) [cH Z c Y] Tryz.func99 rfl Tryz.ntmps99 rfl (by simp only [List.mem_cons,List.not_mem_nil,or_false,forall_eq_or_imp,forall_eq]; exact ⟨rfl,hZ⟩) ?_
 refine kQ <| cy [1,2,4] ⟨[(1,aI window),(2,.p 0 0),(4,.p 1 0)],[⟨41,a7 c (cS Z c Y)⟩,⟨41,cR⟩],[],[cH Z c Y]⟩ <| kQ <| dS 1 [1,2,4,10] [(10,.v (.agg (a7 c (cS Z c Y)).toArray))] 28 [.agg (a7 c (cS Z c Y)).toArray] (some 11) rfl (cx fun ww hw hf => c8 c (cS Z c Y) ww (hf _ m0) (by assumption) w.heap.size hw) ?_
 rintro ⟨v1a,v1c⟩
 refine bN [1,2,4] [] 0 ⟨41,a7 c (cS v1a c v1c)⟩ <| kQ <| kHD 0 [1,2,4] [] rfl (aR (e := 105) (K := 13) (bytes := 104) [] (rs := ([] : List Seg).map ak) rfl rfl) ?_
 intro g2
 refine aY [1,2,4,6] [(6,.v (.slice (some ⟨g2,0,none⟩) 0 0))] <| kS <| kQ <| dS 1 [1,2,4,6,13] [(13,.v (.agg (a7 c (cS v1a c v1c)).toArray))] 37 [.agg (a7 c (cS v1a c v1c)).toArray] (some 14) rfl (bu fun ww hf => e0 c (cS v1a c v1c) ww (Own.sl (hf _ m1)) (by assumption) (by omega)) ?_
 intro _
 refine dl 2 [1,2,4,6,16] [(16,aB (!(bv c)))] <| kP 16 (!(bv c)) (fun h3 => ?_) (fun h3 => ?_)
 have h3n := cd h3
 refine aY [1,2,4,6,25] [(25,aB true)] <| kT <| kQ <| bN [4,5] [(5,.v (.slice (some ⟨g2,0,none⟩) 0 0))] 1 ⟨41,a7 c (cS v1a c v1c)⟩ ?_
 refine kR ?_
 have hmod : pump c window = (c,([] : List Seg)) := by first | (simp [pump, *]; done) | exact pump_yes hok hs8 hs7 hS hL (by first | exact HT.symm | (unfold tmr; rw [show L.isEmpty = decide (L.length = 0) from by cases L <;> rfl]; simp only [decide_eq_true_eq]; split <;> (try split) <;> omega))
 exact ⟨[.agg (a7 c (cS v1a c v1c)).toArray,.slice (some ⟨g2,0,none⟩) 0 0],by kernel_rfl,fun w' hb hf ha => by rw [hmod]; exact xo2 ((v1a,v1c),(((some ⟨g2,0,none⟩) : Option Addr),0)) rfl rfl (pO (hf _ m1) hB) (pW (hf _ m0) hB) (Apart.sub2 ha (i := 1) (j := 0) rfl rfl (by decide) rfl (fun b h => h) (fun b h => h)) hb⟩
 have h3n := bS h3
 refine dl 5 [1,2,4,6,21] [(21,aB (c.state == 8))] <| kP 21 (c.state == 8) (fun h4 => ?_) (fun h4 => ?_)
 have h4p := cD h4
 refine aY [1,2,4,6,25] [(25,aB true)] <| kT <| kQ <| bN [4,5] [(5,.v (.slice (some ⟨g2,0,none⟩) 0 0))] 1 ⟨41,a7 c (cS v1a c v1c)⟩ ?_
 refine kR ?_
 have hmod : pump c window = (c,([] : List Seg)) := by first | (simp [pump, *]; done) | exact pump_yes hok hs8 hs7 hS hL (by first | exact HT.symm | (unfold tmr; rw [show L.isEmpty = decide (L.length = 0) from by cases L <;> rfl]; simp only [decide_eq_true_eq]; split <;> (try split) <;> omega))
 exact ⟨[.agg (a7 c (cS v1a c v1c)).toArray,.slice (some ⟨g2,0,none⟩) 0 0],by kernel_rfl,fun w' hb hf ha => by rw [hmod]; exact xo2 ((v1a,v1c),(((some ⟨g2,0,none⟩) : Option Addr),0)) rfl rfl (pO (hf _ m1) hB) (pW (hf _ m0) hB) (Apart.sub2 ha (i := 1) (j := 0) rfl rfl (by decide) rfl (fun b h => h) (fun b h => h)) hb⟩
 have h4p := cA h4
 refine aY [1,2,4,6,25] [(25,aB (c.state == 7))] <| kC (c.state == 7) (fun h5 => ?_) (fun h5 => ?_)
 have h5p := cD h5
 refine kQ <| bN [4,5] [(5,.v (.slice (some ⟨g2,0,none⟩) 0 0))] 1 ⟨41,a7 c (cS v1a c v1c)⟩ <| kR ?_
 have hmod : pump c window = (c,([] : List Seg)) := by first | (simp [pump, *]; done) | exact pump_yes hok hs8 hs7 hS hL (by first | exact HT.symm | (unfold tmr; rw [show L.isEmpty = decide (L.length = 0) from by cases L <;> rfl]; simp only [decide_eq_true_eq]; split <;> (try split) <;> omega))
 exact ⟨[.agg (a7 c (cS v1a c v1c)).toArray,.slice (some ⟨g2,0,none⟩) 0 0],by kernel_rfl,fun w' hb hf ha => by rw [hmod]; exact xo2 ((v1a,v1c),(((some ⟨g2,0,none⟩) : Option Addr),0)) rfl rfl (pO (hf _ m1) hB) (pW (hf _ m0) hB) (Apart.sub2 ha (i := 1) (j := 0) rfl rfl (by decide) rfl (fun b h => h) (fun b h => h)) hb⟩
 have h5p := cA h5
 refine kK <| ap ?_
 have hok : bv c = true := by simp_all
 have hs8 : ¬ c.state = 8 := by simp_all
 have hs7 : ¬ c.state = 7 := by simp_all
 refine bo (α := {x : Snd × List Seg × Int × Option Addr × Nat // (fun (s : Snd) (L : List Seg) (t : Int) (A : Option Addr) (cap : Nat) => (dm c.s window (bX c.o)).1 = (dm s window (bX c.o)).1 ∧ (dm c.s window (bX c.o)).2.map (fC c) = L ++ (dm s window (bX c.o)).2.map (fC c) ∧ L.length + meas s ≤ 49 ∧ t = tmr c L) x.1 x.2.1 x.2.2.1 x.2.2.2.1 x.2.2.2.2}) (fun x => (fun (s : Snd) (L : List Seg) (t : Int) (A : Option Addr) (cap : Nat) => (⟨[(1,aI window),(2,.p 0 0),(4,.p 1 0),(6,.v (.slice A L.length cap))],[⟨41,a7 { c with s := s,timer := t } (cS v1a c v1c)⟩,⟨41,cR⟩],[],[a8 w.heap.size 105 13 (.slice A L.length cap) (L.map ak),br w.heap.size (cS v1a c v1c) 2 (c.r.held.map pC),cH Z c Y]⟩ : St)) x.1.1 x.1.2.1 x.1.2.2.1 x.1.2.2.2.1 x.1.2.2.2.2) (fun x => (fun (s : Snd) (L : List Seg) (t : Int) (A : Option Addr) (cap : Nat) => meas s) x.1.1 x.1.2.1 x.1.2.2.1 x.1.2.2.2.1 x.1.2.2.2.2) ⟨(c.s,([] : List Seg),c.timer,(some ⟨g2,0,none⟩),0),⟨rfl,rfl,(by have := meas_le (conOk_s hok); simp only [List.length_nil]; omega),rfl⟩⟩ (e7 [0,1,2] <| kF 2 0 [1,2,4,6]) ?_
 rintro ⟨⟨s,L,t,A,cap⟩,HS,HL,HR,HT⟩
 try dsimp only
 try dsimp only at HS HL HR HT
 refine ap <| kS <| cn ⟨[(1,aI window),(2,.p 0 0),(4,.p 1 0),(6,.v (.slice A L.length cap)),(7,.p 2 0),(8,aB ((nC s window (bX c.o)).2))],[⟨41,a7 { c with s := s,timer := t } (cS v1a c v1c)⟩,⟨41,cR⟩,⟨134,c6 (nC s window (bX c.o)).1⟩],[],[a8 w.heap.size 105 13 (.slice A L.length cap) (L.map ak),br w.heap.size (cS v1a c v1c) 2 (c.r.held.map pC),cH Z c Y]⟩ ?_ ?_
 refine bP [] (by kernel_rfl) (fun ρ σ => ?_)
 refine cQ [0,1,2,3] [32,31,30,1,2,4,6] 8 [(32,.v (.agg (a7 { c with s := s,timer := t } (cS v1a c v1c)).toArray)),(31,aI window),(30,.v (.agg (ai s).toArray))] <| kA [4,9] ⟨?_,?_⟩
 refine cE 4 119 [.agg (a7 { c with s := s,timer := t } (cS v1a c v1c)).toArray] (some 33) rfl (bu fun ww hf => ysMssFor_c ({ c with s := s,timer := t }) (cS v1a c v1c) ww ) ?_
 intro _
 refine kA [5,9] ⟨?_,?_⟩
 refine cE 5 113 [.agg (ai s).toArray,iI window,iI (bX c.o)] (some 34) rfl (bu fun ww hf => dT s window (bX c.o) ww  (by first | omega | (rw [ao (by omega) (by omega)]; omega))) ?_
 intro _
 refine cQ [6,7,8] [36,35,1,2,4,6] 3 [(36,aB ((nC s window (bX c.o)).2)),(35,.v (.agg (c6 (nC s window (bX c.o)).1).toArray))] <| kA [9] <| de 9 ⟨134,c6 (⟨0,(⟨#[]⟩ : ByteArray),false⟩ : Chk)⟩ _ rfl (by kernel_rfl) (by kernel_rfl) (by kernel_rfl) (by kernel_rfl) rfl ?_
 refine kA [10] <| du 10 2 0 (c6 (nC s window (bX c.o)).1) rfl <| cJ [11] [8,7,1,2,4,6] 0 [(8,aB ((nC s window (bX c.o)).2)),(7,.p 2 0),(1,aI window),(2,.p 0 0),(4,.p 1 0),(6,.v (.slice A L.length cap))] <| kZ ?_
 exact kF 3 0 [1,2,4,6,7,8]
 refine de 9 ⟨134,c6 (⟨0,(⟨#[]⟩ : ByteArray),false⟩ : Chk)⟩ _ rfl (by kernel_rfl) (by kernel_rfl) (by kernel_rfl) (by kernel_rfl) rfl ?_
 refine kA [5] <| cE 5 113 [.agg (ai s).toArray,iI window,iI (bX c.o)] (some 34) rfl (bu fun ww hf => dT s window (bX c.o) ww  (by first | omega | (rw [ao (by omega) (by omega)]; omega))) ?_
 intro _
 refine cQ [6,7,8] [36,35,7,1,2,4,6] 2 [(36,aB ((nC s window (bX c.o)).2)),(35,.v (.agg (c6 (nC s window (bX c.o)).1).toArray))] <| kA [10] <| du 10 2 0 (c6 (nC s window (bX c.o)).1) rfl <| cJ [11] [8,7,1,2,4,6] 0 [(8,aB ((nC s window (bX c.o)).2)),(7,.p 2 0),(1,aI window),(2,.p 0 0),(4,.p 1 0),(6,.v (.slice A L.length cap))] ?_
 refine kZ ?_
 exact kF 3 0 [1,2,4,6,7,8]
 refine de 9 ⟨134,c6 (⟨0,(⟨#[]⟩ : ByteArray),false⟩ : Chk)⟩ _ rfl (by kernel_rfl) (by kernel_rfl) (by kernel_rfl) (by kernel_rfl) rfl ?_
 refine kA [4] <| cE 4 119 [.agg (a7 { c with s := s,timer := t } (cS v1a c v1c)).toArray] (some 33) rfl (bu fun ww hf => ysMssFor_c ({ c with s := s,timer := t }) (cS v1a c v1c) ww ) ?_
 intro _
 refine kA [5] <| cE 5 113 [.agg (ai s).toArray,iI window,iI (bX c.o)] (some 34) rfl (bu fun ww hf => dT s window (bX c.o) ww  (by first | omega | (rw [ao (by omega) (by omega)]; omega))) ?_
 intro _
 refine cQ [6,7,8] [36,35,7,1,2,4,6] 2 [(36,aB ((nC s window (bX c.o)).2)),(35,.v (.agg (c6 (nC s window (bX c.o)).1).toArray))] <| kA [10] <| du 10 2 0 (c6 (nC s window (bX c.o)).1) rfl <| cJ [11] [8,7,1,2,4,6] 0 [(8,aB ((nC s window (bX c.o)).2)),(7,.p 2 0),(1,aI window),(2,.p 0 0),(4,.p 1 0),(6,.v (.slice A L.length cap))] ?_
 refine kZ ?_
 exact kF 3 0 [1,2,4,6,7,8]
 refine kS <| kQ <| aY [1,2,4,6,7,38] [(38,aB (!((nC s window (bX c.o)).2)))] <| kC (!((nC s window (bX c.o)).2)) (fun h6 => ?_) (fun h6 => ?_)
 have hno := cd h6
 have hS := pumpS_end hno HS
 have hL := pumpL_end hno HL
 refine kQ <| cy [4,5] ⟨[(4,.p 1 0),(5,.v (.slice A L.length cap))],[⟨41,a7 { c with s := s,timer := t } (cS v1a c v1c)⟩,⟨41,a7 { c with s := s,timer := t } (cS v1a c v1c)⟩,⟨134,c6 (nC s window (bX c.o)).1⟩],[],[a8 w.heap.size 105 13 (.slice A L.length cap) (L.map ak),br w.heap.size (cS v1a c v1c) 2 (c.r.held.map pC),cH Z c Y]⟩ <| kR ?_
 have hmod : pump c window = (({ c with s := s,timer := t }),L) := by first | (simp [pump, *]; done) | exact pump_yes hok hs8 hs7 hS hL (by first | exact HT.symm | (unfold tmr; rw [show L.isEmpty = decide (L.length = 0) from by cases L <;> rfl]; simp only [decide_eq_true_eq]; split <;> (try split) <;> omega))
 exact ⟨[.agg (a7 { c with s := s,timer := t } (cS v1a c v1c)).toArray,.slice A L.length cap],by kernel_rfl,fun w' hb hf ha => by rw [hmod]; exact xo2 ((v1a,v1c),(A,cap)) rfl rfl (pO (hf _ m1) hB) (pW (hf _ m0) hB) (Apart.sub2 ha (i := 1) (j := 0) rfl rfl (by decide) rfl (fun b h => h) (fun b h => h)) hb⟩
 have hyes := bS h6
 refine kK <| kQ <| em 1 [1,2,4,6,7,41] [(1,aI window),(2,.p 0 0),(4,.p 1 0),(6,.v (.slice A L.length cap)),(7,.p 2 0),(41,.v (.agg (a7 { c with s := s,timer := t } (cS v1a c v1c)).toArray))] 101 [.agg (a7 { c with s := s,timer := t } (cS v1a c v1c)).toArray] (some 42) rfl (bu fun ww hf => fu ({ c with s := s,timer := t }) (cS v1a c v1c) ww (Own.sl (hf _ m1)) (by first | omega | (dsimp only; omega))) ?_
 intro _
 refine gU [1,2,4,6,7,9] [(9,.p 3 0)] [⟨105,[iI c.t.my,iI c.t.port,iI (af s),iI c.r.next,iI 16,iI (wO c.r),iI 0,iI (-1),.bool false,.bool false,iI 0,iI 0,.string (⟨#[]⟩ : ByteArray)]⟩] <| kQ <| bN [1,2,4,6,7,9] [] 3 ⟨105,[iI c.t.my,iI c.t.port,iI ((nC s window (bX c.o)).1.seq),iI c.r.next,iI 16,iI (wO c.r),iI 0,iI (-1),.bool false,.bool false,iI 0,iI 0,.string (⟨#[]⟩ : ByteArray)]⟩ <| kQ <| bN [1,2,4,6,7,9] [] 3 ⟨105,[iI c.t.my,iI c.t.port,iI ((nC s window (bX c.o)).1.seq),iI c.r.next,iI 16,iI (wO c.r),iI 0,iI (-1),.bool false,.bool false,iI 0,iI 0,.string ((nC s window (bX c.o)).1.text)]⟩ ?_
 refine kS <| df (α := {zz : Int // (fun (ka : Int) => ka = segFl (nC s window (bX c.o)).1 false) zz}) (fun zz => (fun (ka : Int) => (⟨[(1,aI window),(2,.p 0 0),(4,.p 1 0),(6,.v (.slice A L.length cap)),(7,.p 2 0),(9,.p 3 0)],[⟨41,a7 { c with s := s,timer := t } (cS v1a c v1c)⟩,⟨41,cR⟩,⟨134,c6 (nC s window (bX c.o)).1⟩,⟨105,[iI c.t.my,iI c.t.port,iI ((nC s window (bX c.o)).1.seq),iI c.r.next,iI ka,iI (wO c.r),iI 0,iI (-1),.bool false,.bool false,iI 0,iI 0,.string ((nC s window (bX c.o)).1.text)]⟩],[],[a8 w.heap.size 105 13 (.slice A L.length cap) (L.map ak),br w.heap.size (cS v1a c v1c) 2 (c.r.held.map pC),cH Z c Y]⟩ : St)) zz.1) ?_ ?_
 refine kQ <| aY [1,2,4,6,7,9,51] [(51,aB (!(((nC s window (bX c.o)).1.text).toList == (⟨#[]⟩ : ByteArray).toList)))] <| kC (!(((nC s window (bX c.o)).1.text).toList == (⟨#[]⟩ : ByteArray).toList)) (fun h7 => ?_) (fun h7 => ?_)
 have hT : (nC s window (bX c.o)).1.text.toList.isEmpty = false := by simpa [cu] using h7
 refine kG <| bN [1,2,4,6,7,9] [] 3 ⟨105,[iI c.t.my,iI c.t.port,iI ((nC s window (bX c.o)).1.seq),iI c.r.next,iI 24,iI (wO c.r),iI 0,iI (-1),.bool false,.bool false,iI 0,iI 0,.string ((nC s window (bX c.o)).1.text)]⟩ ?_
 exact ⟨⟨(24),(by first | (simp [segFl,hT]; done) | (rw [hF,hka]; simp [segFl]; done) | (rw [hF]; exact hka))⟩,kF 4 0 [1,2,4,6,7,9]⟩
 have hT : (nC s window (bX c.o)).1.text.toList.isEmpty = true := by simpa [cu] using h7
 refine kK ?_
 exact ⟨⟨(16),(by first | (simp [segFl,hT]; done) | (rw [hF,hka]; simp [segFl]; done) | (rw [hF]; exact hka))⟩,kF 4 0 [1,2,4,6,7,9]⟩
 rintro ⟨ka,hka⟩
 try dsimp only
 try dsimp only at hka
 refine kS <| df (α := {zz : Int // (fun (kb : Int) => kb = segFl (nC s window (bX c.o)).1 (nC s window (bX c.o)).1.fin) zz}) (fun zz => (fun (kb : Int) => (⟨[(1,aI window),(2,.p 0 0),(4,.p 1 0),(6,.v (.slice A L.length cap)),(7,.p 2 0),(9,.p 3 0)],[⟨41,a7 { c with s := s,timer := t } (cS v1a c v1c)⟩,⟨41,cR⟩,⟨134,c6 (nC s window (bX c.o)).1⟩,⟨105,[iI c.t.my,iI c.t.port,iI ((nC s window (bX c.o)).1.seq),iI c.r.next,iI kb,iI (wO c.r),iI 0,iI (-1),.bool false,.bool false,iI 0,iI 0,.string ((nC s window (bX c.o)).1.text)]⟩],[],[a8 w.heap.size 105 13 (.slice A L.length cap) (L.map ak),br w.heap.size (cS v1a c v1c) 2 (c.r.held.map pC),cH Z c Y]⟩ : St)) zz.1) ?_ ?_
 refine kQ <| aY [1,2,4,6,7,9,57] [(57,aB ((nC s window (bX c.o)).1.fin))] <| kC ((nC s window (bX c.o)).1.fin) (fun h8 => ?_) (fun h8 => ?_)
 have hF := h8
 refine kG <| kRB 5 [1,2,4,6,7,9] [(1,aI window),(2,.p 0 0),(4,.p 1 0),(6,.v (.slice A L.length cap)),(7,.p 2 0),(9,.p 3 0)] [⟨41,a7 { c with s := s,timer := t } (cS v1a c v1c)⟩,⟨41,cR⟩,⟨134,c6 (nC s window (bX c.o)).1⟩,⟨105,[iI c.t.my,iI c.t.port,iI ((nC s window (bX c.o)).1.seq),iI c.r.next,iI (K6.wrap (BitVec.ofInt 64 ka ||| BitVec.ofInt 64 1).toNat),iI (wO c.r),iI 0,iI (-1),.bool false,.bool false,iI 0,iI 0,.string ((nC s window (bX c.o)).1.text)]⟩] <| xl_eq (st' := ⟨[(1,aI window),(2,.p 0 0),(4,.p 1 0),(6,.v (.slice A L.length cap)),(7,.p 2 0),(9,.p 3 0)],[⟨41,a7 { c with s := s,timer := t } (cS v1a c v1c)⟩,⟨41,cR⟩,⟨134,c6 (nC s window (bX c.o)).1⟩,⟨105,[iI c.t.my,iI c.t.port,iI ((nC s window (bX c.o)).1.seq),iI c.r.next,iI (ka + 1),iI (wO c.r),iI 0,iI (-1),.bool false,.bool false,iI 0,iI 0,.string ((nC s window (bX c.o)).1.text)]⟩],[],[a8 w.heap.size 105 13 (.slice A L.length cap) (L.map ak),br w.heap.size (cS v1a c v1c) 2 (c.r.held.map pC),cH Z c Y]⟩) (by rw [show (K6.wrap (BitVec.ofInt 64 ka ||| BitVec.ofInt 64 1).toNat) = (ka + 1) from segFl_or hka] <;> rfl) ?_
 refine aY [1,2,4,6,7,9] [] ?_
 exact ⟨⟨(ka + 1),(by first | (simp [segFl,hT]; done) | (rw [hF,hka]; simp [segFl]; done) | (rw [hF]; exact hka))⟩,kF 4 0 [1,2,4,6,7,9]⟩
 have hF := h8
 refine kK ?_
 exact ⟨⟨(ka),(by first | (simp [segFl,hT]; done) | (rw [hF,hka]; simp [segFl]; done) | (rw [hF]; exact hka))⟩,kF 4 0 [1,2,4,6,7,9]⟩
 rintro ⟨kb,hkb⟩
 try dsimp only
 try dsimp only at hkb
 refine kQ <| kHD 2 [1,2,4,6,7,62,63] [(62,.v (.slice A L.length cap)),(63,.v (.agg #[iI c.t.my,iI c.t.port,iI ((nC s window (bX c.o)).1.seq),iI c.r.next,iI kb,iI (wO c.r),iI 0,iI (-1),.bool false,.bool false,iI 0,iI 0,.string ((nC s window (bX c.o)).1.text)]))] rfl (aR (e := 105) (K := 13) (bytes := 104) [.agg #[iI c.t.my,iI c.t.port,iI ((nC s window (bX c.o)).1.seq),iI c.r.next,iI kb,iI (wO c.r),iI 0,iI (-1),.bool false,.bool false,iI 0,iI 0,.string ((nC s window (bX c.o)).1.text)]] (rs := ([⟨c.t.my,c.t.port,(nC s window (bX c.o)).1.seq,c.r.next,kb,wO c.r,⟨0,(-1),false,false,0,0⟩,(nC s window (bX c.o)).1.text⟩] : List Seg).map ak) rfl rfl) ?_
 intro g9
 refine kHD 0 [1,2,4,6,7,62,64] [] rfl (aT (e := 105) (K := 13) (bytes := 104) (i := 1) (q := (L ++ ([⟨c.t.my,c.t.port,(nC s window (bX c.o)).1.seq,c.r.next,kb,wO c.r,⟨0,(-1),false,false,0,0⟩,(nC s window (bX c.o)).1.text⟩] : List Seg)).length) (new := ([⟨c.t.my,c.t.port,(nC s window (bX c.o)).1.seq,c.r.next,kb,wO c.r,⟨0,(-1),false,false,0,0⟩,(nC s window (bX c.o)).1.text⟩] : List Seg).map ak) (rs' := (L ++ ([⟨c.t.my,c.t.port,(nC s window (bX c.o)).1.seq,c.r.next,kb,wO c.r,⟨0,(-1),false,false,0,0⟩,(nC s window (bX c.o)).1.text⟩] : List Seg)).map ak) rfl rfl rfl rfl (by kernel_rfl) (by kernel_rfl) (by kernel_rfl) rfl (by simp) (by rw [List.map_append]) (by simp) (fun ww hf => (aw (hf (a8 w.heap.size 105 13 (.slice (some ⟨g9,0,none⟩) 1 1) (([⟨c.t.my,c.t.port,(nC s window (bX c.o)).1.seq,c.r.next,kb,wO c.r,⟨0,(-1),false,false,0,0⟩,(nC s window (bX c.o)).1.text⟩] : List Seg).map ak)) (by simp)))) (by intro r hr; obtain ⟨x,hx,rfl⟩ := List.mem_map.1 hr; exact ⟨rfl,by simp [ak,Value.oneCell']⟩) (by (try simp only [List.length_map,List.length_append,List.length_cons,List.length_nil,List.length_take,List.length_drop,maxLen]); omega) (by (try simp only [List.length_map,List.length_append,List.length_cons,List.length_nil,List.length_take,List.length_drop,maxLen]); omega)) ?_
 rintro ⟨v10a,v10c⟩
 refine aY [1,2,4,6,7] [(6,.v (.slice v10a ((L ++ ([⟨c.t.my,c.t.port,(nC s window (bX c.o)).1.seq,c.r.next,kb,wO c.r,⟨0,(-1),false,false,0,0⟩,(nC s window (bX c.o)).1.text⟩] : List Seg)).length) v10c))] <| kQ <| dS 3 [1,2,4,6,67,68] [(67,.v (.agg (ai s).toArray)),(68,.v (.agg (c6 (nC s window (bX c.o)).1).toArray))] 114 [.agg (ai s).toArray,.agg (c6 (nC s window (bX c.o)).1).toArray] (some 69) rfl (bu fun ww hf => fW s ((nC s window (bX c.o)).1) ww  ) ?_
 intro _
 refine bN [1,2,4,6] [] 0 ⟨41,a7 { c with s := (sO s ((nC s window (bX c.o)).1)),timer := t } (cS v1a c v1c)⟩ <| kQ <| aY [1,2,4,6,73] [(73,aB (t == 0))] <| kC (t == 0) (fun h11 => ?_) (fun h11 => ?_)
 have h11p := cD h11
 refine kG <| bN [1,2,4,6] [] 0 ⟨41,a7 { c with s := (sO s ((nC s window (bX c.o)).1)),timer := 3 } (cS v1a c v1c)⟩ ?_
 have hrow : fC c (nC s window (bX c.o)).1 = ⟨c.t.my,c.t.port,(nC s window (bX c.o)).1.seq,c.r.next,kb,wO c.r,⟨0,(-1),false,false,0,0⟩,(nC s window (bX c.o)).1.text⟩ := by rw [hkb]; rfl
 exact ⟨⟨(sO s (nC s window (bX c.o)).1,(L ++ ([⟨c.t.my,c.t.port,(nC s window (bX c.o)).1.seq,c.r.next,kb,wO c.r,⟨0,(-1),false,false,0,0⟩,(nC s window (bX c.o)).1.text⟩] : List Seg)),3,v10a,v10c),⟨pumpS_step hyes HS,pumpL_step hyes hrow HL,row_len HR (fN hyes),tmr_next HT (by (try dsimp only); split <;> omega)⟩⟩,e7 [0,2,3] <| kF 2 0 [1,2,4,6],by show (fun (s : Snd) (L : List Seg) (t : Int) (A : Option Addr) (cap : Nat) => meas s) (sO s (nC s window (bX c.o)).1) (L ++ ([⟨c.t.my,c.t.port,(nC s window (bX c.o)).1.seq,c.r.next,kb,wO c.r,⟨0,(-1),false,false,0,0⟩,(nC s window (bX c.o)).1.text⟩] : List Seg)) 3 v10a v10c < meas s; exact fN hyes⟩
 have h11p := cA h11
 refine kK ?_
 have hrow : fC c (nC s window (bX c.o)).1 = ⟨c.t.my,c.t.port,(nC s window (bX c.o)).1.seq,c.r.next,kb,wO c.r,⟨0,(-1),false,false,0,0⟩,(nC s window (bX c.o)).1.text⟩ := by rw [hkb]; rfl
 exact ⟨⟨(sO s (nC s window (bX c.o)).1,(L ++ ([⟨c.t.my,c.t.port,(nC s window (bX c.o)).1.seq,c.r.next,kb,wO c.r,⟨0,(-1),false,false,0,0⟩,(nC s window (bX c.o)).1.text⟩] : List Seg)),t,v10a,v10c),⟨pumpS_step hyes HS,pumpL_step hyes hrow HL,row_len HR (fN hyes),tmr_next HT (by (try dsimp only); split <;> omega)⟩⟩,e7 [0,2,3] <| kF 2 0 [1,2,4,6],by show (fun (s : Snd) (L : List Seg) (t : Int) (A : Option Addr) (cap : Nat) => meas s) (sO s (nC s window (bX c.o)).1) (L ++ ([⟨c.t.my,c.t.port,(nC s window (bX c.o)).1.seq,c.r.next,kb,wO c.r,⟨0,(-1),false,false,0,0⟩,(nC s window (bX c.o)).1.text⟩] : List Seg)) t v10a v10c < meas s; exact fN hyes⟩
theorem ysShut_c (c : Con) (rV : Value) (w : World) (hZ : Sl w rV 2 (c.r.held.map pC)) (hkn : c.r.held.length ≤ 1048576)(hm : ∀ p ∈ c.r.held, p.text.size ≤ 1048576) (hsz : c.r.data.size ≤ 4611686018427387904) (B : Nat) (hB : B ≤ w.heap.size) : Calls Tryz.prog 79 #[.agg (a7 c rV).toArray] w fun e w' => XRs w w' e (α := (Option Addr × Nat) × (Option Addr × Nat)) (fun y => .tuple #[.agg (a7 (shut c).1 (.slice y.1.1 ((shut c).1.r.held.length) y.1.2)).toArray, .slice y.2.1 ((shut c).2.length) y.2.2]) (fun y => [br B (.slice y.1.1 ((shut c).1.r.held.length) y.1.2) 2 ((shut c).1.r.held.map pC), br B (.slice y.2.1 ((shut c).2.length) y.2.2) 13 ((shut c).2.map ak)]) := by
 obtain ⟨Z,Y,hY⟩ := hZ.form
 rw [List.length_map] at hY; subst hY
 have hJ := hZ.len; rw [List.length_map] at hJ
 have hqcrh := Sl.capLe hZ
 refine bA (args := [.agg (a7 c (cS Z c Y)).toArray]) (fn := Tryz.f79) [cH Z c Y] Tryz.func79 rfl Tryz.ntmps79 rfl (by simp only [List.mem_cons,List.not_mem_nil,or_false,forall_eq_or_imp,forall_eq]; exact ⟨rfl,hZ⟩) ?_
 refine kQ <| cy [1,2] ⟨[(1,.p 0 0),(2,.p 1 0)],[⟨41,a7 c (cS Z c Y)⟩,⟨41,cR⟩],[],[cH Z c Y]⟩ <| kQ <| em 1 [1,2,5] [(1,.p 0 0),(2,.p 1 0),(5,.v (.agg (a7 c (cS Z c Y)).toArray))] 28 [.agg (a7 c (cS Z c Y)).toArray] (some 6) rfl (cx fun ww hw hf => c8 c (cS Z c Y) ww (hf _ m0) (by assumption) w.heap.size hw) ?_
 rintro ⟨v1a,v1c⟩
 refine cy [1,2,4] ⟨[(1,.p 0 0),(2,.p 1 0),(4,.p 2 0)],[⟨41,a7 c (cS Z c Y)⟩,⟨41,cR⟩,⟨41,a7 c (cS v1a c v1c)⟩],[],[br w.heap.size (cS v1a c v1c) 2 (c.r.held.map pC),cH Z c Y]⟩ <| kS <| kS <| cn ⟨[(1,.p 0 0),(2,.p 1 0),(4,.p 2 0),(19,aB ((!(bv c)) || ((c.state != 1) && (c.state != 4))))],[⟨41,a7 c (cS Z c Y)⟩,⟨41,cR⟩,⟨41,a7 c (cS v1a c v1c)⟩],[],[br w.heap.size (cS v1a c v1c) 2 (c.r.held.map pC),cH Z c Y]⟩ ?_ ?_
 refine kG <| em 1 [1,2,4,7] [(1,.p 0 0),(2,.p 1 0),(4,.p 2 0),(7,.v (.agg (a7 c (cS Z c Y)).toArray))] 37 [.agg (a7 c (cS Z c Y)).toArray] (some 8) rfl (bu fun ww hf => e0 c (cS Z c Y) ww (hf _ m1) (by assumption) (by omega)) ?_
 intro _
 refine eb 2 [1,2,4,10] [(1,.p 0 0),(2,.p 1 0),(4,.p 2 0),(10,aB (!(bv c)))] <| kP 10 (!(bv c)) (fun h2 => ?_) (fun h2 => ?_)
 have h2n := cd h2
 refine aE [1,2,4,19] [(1,.p 0 0),(2,.p 1 0),(4,.p 2 0),(19,aB true)] ?_
 show Wk _ _
 try rw [h2]
 exact kF 3 0 [1,2,4,19]
 have h2n := bS h2
 have h2nc : bv c = true := (by simpa using h2n)
 have h2nq := gw h2nc; obtain ⟨h2nq0,h2nq1,h2nq2,h2nq3,h2nq4,h2nq5,h2nq6,h2nq7,h2nq8,h2nq9⟩ := h2nq
 refine eb 4 [1,2,4,10,14] [(1,.p 0 0),(2,.p 1 0),(4,.p 2 0),(10,aB false),(14,aB (c.state != 1))] <| kP 14 (c.state != 1) (fun h3 => ?_) (fun h3 => ?_)
 have h3p := neT h3
 refine aE [1,2,4,19] [(1,.p 0 0),(2,.p 1 0),(4,.p 2 0),(19,aB (c.state != 4))] ?_
 show Wk _ _
 try rw [h2]
 try rw [h3]
 exact kF 3 0 [1,2,4,19]
 have h3p := neF h3
 refine aE [1,2,4,19] [(1,.p 0 0),(2,.p 1 0),(4,.p 2 0),(19,aB false)] ?_
 show Wk _ _
 try rw [h2]
 try rw [h3]
 exact kF 3 0 [1,2,4,19]
 refine kC ((!(bv c)) || ((c.state != 1) && (c.state != 4))) (fun h4 => ?_) (fun h4 => ?_)
 refine kQ <| kHS 1 [2,20] [(2,.p 1 0),(20,.v (.agg (a7 c (cS v1a c v1c)).toArray))] rfl (aR (e := 105) (K := 13) (bytes := 104) [] (rs := ([] : List Seg).map ak) rfl rfl) ?_
 intro g5
 refine cy [2,3] ⟨[(2,.p 1 0),(3,.v (.slice (some ⟨g5,0,none⟩) 0 0))],[⟨41,a7 c (cS Z c Y)⟩,⟨41,a7 c (cS v1a c v1c)⟩,⟨41,a7 c (cS v1a c v1c)⟩],[],[a8 w.heap.size 105 13 (.slice (some ⟨g5,0,none⟩) 0 0) (([] : List Seg).map ak),br w.heap.size (cS v1a c v1c) 2 (c.r.held.map pC),cH Z c Y]⟩ <| kR ?_
 have hmod : shut c = (c,([] : List Seg)) := by first | rfl | (simp [shut, *]; done) | grind [shut]
 exact ⟨[.agg (a7 c (cS v1a c v1c)).toArray,.slice (some ⟨g5,0,none⟩) 0 0],by kernel_rfl,fun w' hb hf ha => by rw [hmod]; exact xo2 ((v1a,v1c),(((some ⟨g5,0,none⟩) : Option Addr),0)) rfl rfl (pO (hf _ m1) hB) (pR (hf _ m0) hB) (Apart.sub2 ha (i := 1) (j := 0) rfl rfl (by decide) rfl (fun b h => h) (fun b h => bg h)) hb⟩
 have h4l := gR h4
 have h4ln := bS h4l
 have h4lnc : bv c = true := (by simpa using h4ln)
 have h4lnq := gw h4lnc; obtain ⟨h4lnq0,h4lnq1,h4lnq2,h4lnq3,h4lnq4,h4lnq5,h4lnq6,h4lnq7,h4lnq8,h4lnq9⟩ := h4lnq
 have h4r := gI h4
 refine kK <| kQ <| cy [1,2,4] ⟨[(1,.p 0 0),(2,.p 1 0),(4,.p 2 0)],[⟨41,a7 c (cS Z c Y)⟩,⟨41,cR⟩,⟨41,a7 { c with s := { c.s with fin := true } } (cS v1a c v1c)⟩],[],[br w.heap.size (cS v1a c v1c) 2 (c.r.held.map pC),cH Z c Y]⟩ <| kQ <| cy [1,2,4] ⟨[(1,.p 0 0),(2,.p 1 0),(4,.p 2 0)],[⟨41,a7 c (cS Z c Y)⟩,⟨41,cR⟩,⟨41,a7 { c with state := 2,s := { c.s with fin := true } } (cS v1a c v1c)⟩],[],[br w.heap.size (cS v1a c v1c) 2 (c.r.held.map pC),cH Z c Y]⟩ ?_
 refine kS <| kQ <| aE [2,4,27] [(2,.p 1 0),(4,.p 2 0),(27,aB (c.state == 4))] <| cn ⟨[(2,.p 1 0),(4,.p 2 0)],[⟨41,a7 c (cS Z c Y)⟩,⟨41,cR⟩,⟨41,a7 { c with state := if (c.state == 4) = true then 6 else 2,s := { c.s with fin := true } } (cS v1a c v1c)⟩],[],[br w.heap.size (cS v1a c v1c) 2 (c.r.held.map pC),cH Z c Y]⟩ ?_ ?_
 refine kC (c.state == 4) (fun h6 => ?_) (fun h6 => ?_)
 have h6p := cD h6
 refine kG <| cy [2,4] ⟨[(2,.p 1 0),(4,.p 2 0)],[⟨41,a7 c (cS Z c Y)⟩,⟨41,cR⟩,⟨41,a7 { c with state := 6,s := { c.s with fin := true } } (cS v1a c v1c)⟩],[],[br w.heap.size (cS v1a c v1c) 2 (c.r.held.map pC),cH Z c Y]⟩ ?_
 show Wk _ _; rw [h6]; exact kF 3 0 [2,4]
 have h6p := cA h6
 refine kK ?_
 show Wk _ _; rw [h6]; exact kF 3 0 [2,4]
 refine kQ <| em 3 [2,29,31] [(2,.p 1 0),(29,.v (.agg (a7 { c with state := if (c.state == 4) = true then 6 else 2,s := { c.s with fin := true } } (cS v1a c v1c)).toArray)),(31,aI c.window)] 99 [.agg (a7 { c with state := if (c.state == 4) = true then 6 else 2,s := { c.s with fin := true } } (cS v1a c v1c)).toArray,iI c.window] (some 32) rfl (cx fun ww hw hf => fF ({ c with state := if (c.state == 4) = true then 6 else 2,s := { c.s with fin := true } }) (cS v1a c v1c) c.window ww (Own.sl (hf _ m0)) (by assumption) (by assumption) (by omega) (by omega) w.heap.size hw) ?_
 rintro ⟨⟨v7a,v7c⟩,⟨v8a,v8c⟩⟩
 have hbd9 : (pump ({ c with state := if (c.state == 4) = true then 6 else 2,s := { c.s with fin := true } }) c.window).1.r.held.length ≤ 1048576 ∧ (pump ({ c with state := if (c.state == 4) = true then 6 else 2,s := { c.s with fin := true } }) c.window).2.length ≤ 49 := fj _ _  (by omega)
 have hbd9a := hbd9.1; have hbd9b := hbd9.2
 refine cy [2,3] ⟨[(2,.p 1 0),(3,.v (.slice v8a ((pump ({ c with state := if (c.state == 4) = true then 6 else 2,s := { c.s with fin := true } }) c.window).2.length) v8c))],[⟨41,a7 c (cS Z c Y)⟩,⟨41,a7 (pump ({ c with state := if (c.state == 4) = true then 6 else 2,s := { c.s with fin := true } }) c.window).1 (.slice v7a ((pump ({ c with state := if (c.state == 4) = true then 6 else 2,s := { c.s with fin := true } }) c.window).1.r.held.length) v7c)⟩,⟨41,a7 { c with state := if (c.state == 4) = true then 6 else 2,s := { c.s with fin := true } } (cS v1a c v1c)⟩],[],[br w.heap.size (.slice v7a ((pump ({ c with state := if (c.state == 4) = true then 6 else 2,s := { c.s with fin := true } }) c.window).1.r.held.length) v7c) 2 ((pump ({ c with state := if (c.state == 4) = true then 6 else 2,s := { c.s with fin := true } }) c.window).1.r.held.map pC),a8 w.heap.size 105 13 (.slice v8a ((pump ({ c with state := if (c.state == 4) = true then 6 else 2,s := { c.s with fin := true } }) c.window).2.length) v8c) ((pump ({ c with state := if (c.state == 4) = true then 6 else 2,s := { c.s with fin := true } }) c.window).2.map ak),br w.heap.size (cS v1a c v1c) 2 (c.r.held.map pC),cH Z c Y]⟩ <| kR ?_
 have hmod : shut c = (((pump ({ c with state := if (c.state == 4) = true then 6 else 2,s := { c.s with fin := true } }) c.window).1),((pump ({ c with state := if (c.state == 4) = true then 6 else 2,s := { c.s with fin := true } }) c.window).2)) := by first | rfl | (simp [shut, *]; done) | grind [shut]
 exact ⟨[.agg (a7 (pump ({ c with state := if (c.state == 4) = true then 6 else 2,s := { c.s with fin := true } }) c.window).1 (.slice v7a ((pump ({ c with state := if (c.state == 4) = true then 6 else 2,s := { c.s with fin := true } }) c.window).1.r.held.length) v7c)).toArray,.slice v8a ((pump ({ c with state := if (c.state == 4) = true then 6 else 2,s := { c.s with fin := true } }) c.window).2.length) v8c],by kernel_rfl,fun w' hb hf ha => by rw [hmod]; exact xo2 ((v7a,v7c),(v8a,v8c)) rfl rfl (pO (hf _ m0) hB) (pR (hf _ m1) hB) (Apart.sub2 ha (i := 0) (j := 1) rfl rfl (by decide) rfl (fun b h => h) (fun b h => bg h)) hb⟩
theorem ysWrite_c (c : Con) (rV : Value) (text : ByteArray) (w : World) (hZ : Sl w rV 2 (c.r.held.map pC)) (hkn : c.r.held.length ≤ 1048576)(hm : ∀ p ∈ c.r.held, p.text.size ≤ 1048576) (hsz : c.r.data.size ≤ 4611686018427387904) (hts : text.size ≤ 4611686018427387904) (B : Nat) (hB : B ≤ w.heap.size) : Calls Tryz.prog 76 #[.agg (a7 c rV).toArray, .string text] w fun e w' => XRs w w' e (α := (Option Addr × Nat) × (Option Addr × Nat)) (fun y => .tuple #[.agg (a7 (write c text).1 (.slice y.1.1 ((write c text).1.r.held.length) y.1.2)).toArray, iI ((write c text).2.1), .slice y.2.1 ((write c text).2.2.length) y.2.2]) (fun y => [br B (.slice y.1.1 ((write c text).1.r.held.length) y.1.2) 2 ((write c text).1.r.held.map pC), br B (.slice y.2.1 ((write c text).2.2.length) y.2.2) 13 ((write c text).2.2.map ak)]) := by
 obtain ⟨Z,Y,hY⟩ := hZ.form
 rw [List.length_map] at hY; subst hY
 have hJ := hZ.len; rw [List.length_map] at hJ
 have hqcrh := Sl.capLe hZ
 refine bA (args := [.agg (a7 c (cS Z c Y)).toArray,.string text]) (fn := Tryz.f76) [cH Z c Y] Tryz.func76 rfl Tryz.ntmps76 rfl (by simp only [List.mem_cons,List.not_mem_nil,or_false,forall_eq_or_imp,forall_eq]; exact ⟨rfl,hZ⟩) ?_
 refine kQ <| cy [1,2,4] ⟨[(1,.v (.string text)),(2,.p 0 0),(4,.p 1 0)],[⟨41,a7 c (cS Z c Y)⟩,⟨41,cR⟩],[],[cH Z c Y]⟩ <| kQ <| em 1 [1,2,4,12] [(1,.v (.string text)),(2,.p 0 0),(4,.p 1 0),(12,.v (.agg (a7 c (cS Z c Y)).toArray))] 28 [.agg (a7 c (cS Z c Y)).toArray] (some 13) rfl (cx fun ww hw hf => c8 c (cS Z c Y) ww (hf _ m0) (by assumption) w.heap.size hw) ?_
 rintro ⟨v1a,v1c⟩
 refine cy [1,2,4,7] ⟨[(1,.v (.string text)),(2,.p 0 0),(4,.p 1 0),(7,.p 2 0)],[⟨41,a7 c (cS Z c Y)⟩,⟨41,cR⟩,⟨41,a7 c (cS v1a c v1c)⟩],[],[br w.heap.size (cS v1a c v1c) 2 (c.r.held.map pC),cH Z c Y]⟩ <| kS <| kS <| cn ⟨[(1,.v (.string text)),(2,.p 0 0),(4,.p 1 0),(7,.p 2 0),(26,aB ((!(bv c)) || ((c.state != 1) && (c.state != 4))))],[⟨41,a7 c (cS Z c Y)⟩,⟨41,cR⟩,⟨41,a7 c (cS v1a c v1c)⟩],[],[br w.heap.size (cS v1a c v1c) 2 (c.r.held.map pC),cH Z c Y]⟩ ?_ ?_
 refine kG <| em 1 [1,2,4,7,14] [(1,.v (.string text)),(2,.p 0 0),(4,.p 1 0),(7,.p 2 0),(14,.v (.agg (a7 c (cS Z c Y)).toArray))] 37 [.agg (a7 c (cS Z c Y)).toArray] (some 15) rfl (bu fun ww hf => e0 c (cS Z c Y) ww (hf _ m1) (by assumption) (by omega)) ?_
 intro _
 refine eb 2 [1,2,4,7,17] [(1,.v (.string text)),(2,.p 0 0),(4,.p 1 0),(7,.p 2 0),(17,aB (!(bv c)))] <| kP 17 (!(bv c)) (fun h2 => ?_) (fun h2 => ?_)
 have h2n := cd h2
 refine aE [1,2,4,7,26] [(1,.v (.string text)),(2,.p 0 0),(4,.p 1 0),(7,.p 2 0),(26,aB true)] ?_
 show Wk _ _
 try rw [h2]
 exact kF 3 0 [1,2,4,7,26]
 have h2n := bS h2
 have h2nc : bv c = true := (by simpa using h2n)
 have h2nq := gw h2nc; obtain ⟨h2nq0,h2nq1,h2nq2,h2nq3,h2nq4,h2nq5,h2nq6,h2nq7,h2nq8,h2nq9⟩ := h2nq
 refine eb 4 [1,2,4,7,17,21] [(1,.v (.string text)),(2,.p 0 0),(4,.p 1 0),(7,.p 2 0),(17,aB false),(21,aB (c.state != 1))] <| kP 21 (c.state != 1) (fun h3 => ?_) (fun h3 => ?_)
 have h3p := neT h3
 refine aE [1,2,4,7,26] [(1,.v (.string text)),(2,.p 0 0),(4,.p 1 0),(7,.p 2 0),(26,aB (c.state != 4))] ?_
 show Wk _ _
 try rw [h2]
 try rw [h3]
 exact kF 3 0 [1,2,4,7,26]
 have h3p := neF h3
 refine aE [1,2,4,7,26] [(1,.v (.string text)),(2,.p 0 0),(4,.p 1 0),(7,.p 2 0),(26,aB false)] ?_
 show Wk _ _
 try rw [h2]
 try rw [h3]
 exact kF 3 0 [1,2,4,7,26]
 refine kC ((!(bv c)) || ((c.state != 1) && (c.state != 4))) (fun h4 => ?_) (fun h4 => ?_)
 refine kQ <| kHS 1 [4,27] [(4,.p 1 0),(27,.v (.agg (a7 c (cS v1a c v1c)).toArray))] rfl (aR (e := 105) (K := 13) (bytes := 104) [] (rs := ([] : List Seg).map ak) rfl rfl) ?_
 intro g5
 refine cy [4,5,6] ⟨[(4,.p 1 0),(5,aI 0),(6,.v (.slice (some ⟨g5,0,none⟩) 0 0))],[⟨41,a7 c (cS Z c Y)⟩,⟨41,a7 c (cS v1a c v1c)⟩,⟨41,a7 c (cS v1a c v1c)⟩],[],[a8 w.heap.size 105 13 (.slice (some ⟨g5,0,none⟩) 0 0) (([] : List Seg).map ak),br w.heap.size (cS v1a c v1c) 2 (c.r.held.map pC),cH Z c Y]⟩ <| kR ?_
 have hmod : write c text = (c,0,([] : List Seg)) := by first | rfl | (simp [write, *]; done) | grind [write]
 exact ⟨[.agg (a7 c (cS v1a c v1c)).toArray,iI 0,.slice (some ⟨g5,0,none⟩) 0 0],by kernel_rfl,fun w' hb hf ha => by rw [hmod]; exact xo2 ((v1a,v1c),(((some ⟨g5,0,none⟩) : Option Addr),0)) rfl rfl (pO (hf _ m1) hB) (pR (hf _ m0) hB) (Apart.sub2 ha (i := 1) (j := 0) rfl rfl (by decide) rfl (fun b h => h) (fun b h => bg h)) hb⟩
 have h4l := gR h4
 have h4ln := bS h4l
 have h4lnc : bv c = true := (by simpa using h4ln)
 have h4lnq := gw h4lnc; obtain ⟨h4lnq0,h4lnq1,h4lnq2,h4lnq3,h4lnq4,h4lnq5,h4lnq6,h4lnq7,h4lnq8,h4lnq9⟩ := h4lnq
 have h4r := gI h4
 refine kK <| kQ <| em 3 [4,7,31,32] [(4,.p 1 0),(7,.p 2 0),(31,.v (.agg (ai c.s).toArray)),(32,.v (.string text))] 98 [.agg (ai c.s).toArray,.string text] (some 33) rfl (bu fun ww hf => gp c.s text ww  (by first | omega | (rw [cK]; omega))) ?_
 intro _
 refine cy [4,7,8,9] ⟨[(4,.p 1 0),(7,.p 2 0),(8,.p 3 0),(9,aI ((aJ c.s text).2))],[⟨41,a7 c (cS Z c Y)⟩,⟨41,cR⟩,⟨41,a7 c (cS v1a c v1c)⟩,⟨34,ai (aJ c.s text).1⟩],[],[br w.heap.size (cS v1a c v1c) 2 (c.r.held.map pC),cH Z c Y]⟩ <| kQ <| cy [4,7,9] ⟨[(4,.p 1 0),(7,.p 2 0),(9,aI ((aJ c.s text).2))],[⟨41,a7 c (cS Z c Y)⟩,⟨41,cR⟩,⟨41,a7 { c with s := (aJ c.s text).1 } (cS v1a c v1c)⟩,⟨34,ai (aJ c.s text).1⟩],[],[br w.heap.size (cS v1a c v1c) 2 (c.r.held.map pC),cH Z c Y]⟩ <| kQ <| em 3 [4,9,39,41] [(4,.p 1 0),(9,aI ((aJ c.s text).2)),(39,.v (.agg (a7 { c with s := (aJ c.s text).1 } (cS v1a c v1c)).toArray)),(41,aI c.window)] 99 [.agg (a7 { c with s := (aJ c.s text).1 } (cS v1a c v1c)).toArray,iI c.window] (some 42) rfl (cx fun ww hw hf => fF ({ c with s := (aJ c.s text).1 }) (cS v1a c v1c) c.window ww (Own.sl (hf _ m0)) (by assumption) (by assumption) (by omega) (by omega) w.heap.size hw) ?_
 rintro ⟨⟨v6a,v6c⟩,⟨v7a,v7c⟩⟩
 have hbd8 : (pump ({ c with s := (aJ c.s text).1 }) c.window).1.r.held.length ≤ 1048576 ∧ (pump ({ c with s := (aJ c.s text).1 }) c.window).2.length ≤ 49 := fj _ _  (by omega)
 have hbd8a := hbd8.1; have hbd8b := hbd8.2
 refine cy [4,9,10,11] ⟨[(4,.p 1 0),(9,aI ((aJ c.s text).2)),(10,.p 4 0),(11,.v (.slice v7a ((pump ({ c with s := (aJ c.s text).1 }) c.window).2.length) v7c))],[⟨41,a7 c (cS Z c Y)⟩,⟨41,cR⟩,⟨41,a7 { c with s := (aJ c.s text).1 } (cS v1a c v1c)⟩,⟨34,ai (aJ c.s text).1⟩,⟨41,a7 (pump ({ c with s := (aJ c.s text).1 }) c.window).1 (.slice v6a ((pump ({ c with s := (aJ c.s text).1 }) c.window).1.r.held.length) v6c)⟩],[],[br w.heap.size (.slice v6a ((pump ({ c with s := (aJ c.s text).1 }) c.window).1.r.held.length) v6c) 2 ((pump ({ c with s := (aJ c.s text).1 }) c.window).1.r.held.map pC),a8 w.heap.size 105 13 (.slice v7a ((pump ({ c with s := (aJ c.s text).1 }) c.window).2.length) v7c) ((pump ({ c with s := (aJ c.s text).1 }) c.window).2.map ak),br w.heap.size (cS v1a c v1c) 2 (c.r.held.map pC),cH Z c Y]⟩ <| kQ <| cy [4,5,6] ⟨[(4,.p 1 0),(5,aI ((aJ c.s text).2)),(6,.v (.slice v7a ((pump ({ c with s := (aJ c.s text).1 }) c.window).2.length) v7c))],[⟨41,a7 c (cS Z c Y)⟩,⟨41,a7 (pump ({ c with s := (aJ c.s text).1 }) c.window).1 (.slice v6a ((pump ({ c with s := (aJ c.s text).1 }) c.window).1.r.held.length) v6c)⟩,⟨41,a7 { c with s := (aJ c.s text).1 } (cS v1a c v1c)⟩,⟨34,ai (aJ c.s text).1⟩,⟨41,a7 (pump ({ c with s := (aJ c.s text).1 }) c.window).1 (.slice v6a ((pump ({ c with s := (aJ c.s text).1 }) c.window).1.r.held.length) v6c)⟩],[],[br w.heap.size (.slice v6a ((pump ({ c with s := (aJ c.s text).1 }) c.window).1.r.held.length) v6c) 2 ((pump ({ c with s := (aJ c.s text).1 }) c.window).1.r.held.map pC),a8 w.heap.size 105 13 (.slice v7a ((pump ({ c with s := (aJ c.s text).1 }) c.window).2.length) v7c) ((pump ({ c with s := (aJ c.s text).1 }) c.window).2.map ak),br w.heap.size (cS v1a c v1c) 2 (c.r.held.map pC),cH Z c Y]⟩ <| kR ?_
 have hmod : write c text = (((pump ({ c with s := (aJ c.s text).1 }) c.window).1),((aJ c.s text).2),((pump ({ c with s := (aJ c.s text).1 }) c.window).2)) := by first | rfl | (simp [write, *]; done) | grind [write]
 exact ⟨[.agg (a7 (pump ({ c with s := (aJ c.s text).1 }) c.window).1 (.slice v6a ((pump ({ c with s := (aJ c.s text).1 }) c.window).1.r.held.length) v6c)).toArray,iI ((aJ c.s text).2),.slice v7a ((pump ({ c with s := (aJ c.s text).1 }) c.window).2.length) v7c],by kernel_rfl,fun w' hb hf ha => by rw [hmod]; exact xo2 ((v6a,v6c),(v7a,v7c)) rfl rfl (pO (hf _ m0) hB) (pR (hf _ m1) hB) (Apart.sub2 ha (i := 0) (j := 1) rfl rfl (by decide) rfl (fun b h => h) (fun b h => bg h)) hb⟩
theorem ysTickConn_c (c : Con) (rV : Value) (w : World) (hZ : Sl w rV 2 (c.r.held.map pC)) (hkn : c.r.held.length ≤ 1048576)(hm : ∀ p ∈ c.r.held, p.text.size ≤ 1048576) (hsz : c.r.data.size ≤ 4611686018427387904) (B : Nat) (hB : B ≤ w.heap.size) : Calls Tryz.prog 78 #[.agg (a7 c rV).toArray] w fun e w' => XRs w w' e (α := (Option Addr × Nat) × (Option Addr × Nat)) (fun y => .tuple #[.agg (a7 (aN c).1 (.slice y.1.1 ((aN c).1.r.held.length) y.1.2)).toArray, .slice y.2.1 ((aN c).2.length) y.2.2]) (fun y => [br B (.slice y.1.1 ((aN c).1.r.held.length) y.1.2) 2 ((aN c).1.r.held.map pC), br B (.slice y.2.1 ((aN c).2.length) y.2.2) 13 ((aN c).2.map ak)]) := by
 obtain ⟨Z,Y,hY⟩ := hZ.form
 rw [List.length_map] at hY; subst hY
 have hJ := hZ.len; rw [List.length_map] at hJ
 have hqcrh := Sl.capLe hZ
 refine bA (args := [.agg (a7 c (cS Z c Y)).toArray]) (fn := Tryz.f78) [cH Z c Y] Tryz.func78 rfl Tryz.ntmps78 rfl (by simp only [List.mem_cons,List.not_mem_nil,or_false,forall_eq_or_imp,forall_eq]; exact ⟨rfl,hZ⟩) ?_
 refine kQ <| cy [1,2] ⟨[(1,.p 0 0),(2,.p 1 0)],[⟨41,a7 c (cS Z c Y)⟩,⟨41,cR⟩],[],[cH Z c Y]⟩ <| kQ <| dS 1 [1,2,9] [(9,.v (.agg (a7 c (cS Z c Y)).toArray))] 28 [.agg (a7 c (cS Z c Y)).toArray] (some 10) rfl (cx fun ww hw hf => c8 c (cS Z c Y) ww (hf _ m0) (by assumption) w.heap.size hw) ?_
 rintro ⟨v1a,v1c⟩
 refine gU [1,2,4] [(4,.p 2 0)] [⟨41,a7 c (cS v1a c v1c)⟩] <| kQ <| kHD 0 [1,2,4] [] rfl (aR (e := 105) (K := 13) (bytes := 104) [] (rs := ([] : List Seg).map ak) rfl rfl) ?_
 intro g2
 refine aY [1,2,4,5] [(5,.v (.slice (some ⟨g2,0,none⟩) 0 0))] <| kS <| kQ <| dS 1 [1,2,4,5,12] [(12,.v (.agg (a7 c (cS Z c Y)).toArray))] 100 [.agg (a7 c (cS Z c Y)).toArray] (some 13) rfl (bu fun ww hf => ysWaits_c c (cS Z c Y) ww (hf _ m2) (by assumption) (by omega)) ?_
 intro _
 refine aY [1,2,4,5,14] [(14,aB (!(waits c)))] <| kC (!(waits c)) (fun h3 => ?_) (fun h3 => ?_)
 have h3n := cd h3
 refine kS <| kQ <| dS 1 [2,4,5,15] [(15,.v (.agg (a7 c (cS Z c Y)).toArray))] 37 [.agg (a7 c (cS Z c Y)).toArray] (some 16) rfl (bu fun ww hf => e0 c (cS Z c Y) ww (hf _ m2) (by assumption) (by omega)) ?_
 intro _
 refine aY [2,4,5,16] [] <| kC (bv c) (fun h4 => ?_) (fun h4 => ?_)
 have h4c : bv c = true := (by simpa using h4)
 have h4q := gw h4c; obtain ⟨h4q0,h4q1,h4q2,h4q3,h4q4,h4q5,h4q6,h4q7,h4q8,h4q9⟩ := h4q
 refine kQ <| bN [2,4,5] [] 2 ⟨41,a7 { c with timer := 0 } (cS v1a c v1c)⟩ <| kG <| bN [2,4,5] [] 2 ⟨41,a7 { c with timer := 0,tries := 0 } (cS v1a c v1c)⟩ ?_
 refine kQ <| cy [2,3] ⟨[(2,.p 1 0),(3,.v (.slice (some ⟨g2,0,none⟩) 0 0))],[⟨41,a7 c (cS Z c Y)⟩,⟨41,a7 { c with timer := 0,tries := 0 } (cS v1a c v1c)⟩,⟨41,a7 { c with timer := 0,tries := 0 } (cS v1a c v1c)⟩],[],[a8 w.heap.size 105 13 (.slice (some ⟨g2,0,none⟩) 0 0) (([] : List Seg).map ak),br w.heap.size (cS v1a c v1c) 2 (c.r.held.map pC),cH Z c Y]⟩ <| kR ?_
 have hmod : aN c = (({ c with timer := 0,tries := 0 }),([] : List Seg)) := by first | rfl | (simp [aN,bG, *]; done) | (simp [aN,bG, *]; omega) | grind [aN,bG]
 exact ⟨[.agg (a7 { c with timer := 0,tries := 0 } (cS v1a c v1c)).toArray,.slice (some ⟨g2,0,none⟩) 0 0],by kernel_rfl,fun w' hb hf ha => by rw [hmod]; exact xo2 ((v1a,v1c),(((some ⟨g2,0,none⟩) : Option Addr),0)) rfl rfl (pO (hf _ m1) hB) (pR (hf _ m0) hB) (Apart.sub2 ha (i := 1) (j := 0) rfl rfl (by decide) rfl (fun b h => h) (fun b h => bg h)) hb⟩
 refine kK <| kQ <| bN [2,3] [(3,.v (.slice (some ⟨g2,0,none⟩) 0 0))] 1 ⟨41,a7 c (cS v1a c v1c)⟩ <| kR ?_
 have hmod : aN c = (c,([] : List Seg)) := by first | rfl | (simp [aN,bG, *]; done) | (simp [aN,bG, *]; omega) | grind [aN,bG]
 exact ⟨[.agg (a7 c (cS v1a c v1c)).toArray,.slice (some ⟨g2,0,none⟩) 0 0],by kernel_rfl,fun w' hb hf ha => by rw [hmod]; exact xo2 ((v1a,v1c),(((some ⟨g2,0,none⟩) : Option Addr),0)) rfl rfl (pO (hf _ m1) hB) (pR (hf _ m0) hB) (Apart.sub2 ha (i := 1) (j := 0) rfl rfl (by decide) rfl (fun b h => h) (fun b h => bg h)) hb⟩
 have h3n := bS h3
 have h3nc : bv c = true := waits_ok (by simpa using h3n)
 have h3nq := gw h3nc; obtain ⟨h3nq0,h3nq1,h3nq2,h3nq3,h3nq4,h3nq5,h3nq6,h3nq7,h3nq8,h3nq9⟩ := h3nq
 refine kK <| kS <| kQ <| aY [1,2,4,5,23] [(23,aB (c.timer == 0))] ?_
 refine kC (c.timer == 0) (fun h5 => ?_) (fun h5 => ?_)
 have h5p := cD h5
 refine kQ <| bN [1,2,4,5] [] 2 ⟨41,a7 { c with timer := 3 } (cS v1a c v1c)⟩ <| kQ <| aY [1,2,4,5,27] [(27,aB (c.state == 7))] ?_
 refine kC (c.state == 7) (fun h6 => ?_) (fun h6 => ?_)
 have h6p := cD h6
 refine kG <| bN [1,2,4,5] [] 2 ⟨41,a7 { c with timer := 4 } (cS v1a c v1c)⟩ <| kQ <| cy [1,2,4,5] ⟨[(1,.p 0 0),(2,.p 1 0),(4,.p 2 0),(5,.v (.slice (some ⟨g2,0,none⟩) 0 0))],[⟨41,a7 c (cS Z c Y)⟩,⟨41,cR⟩,⟨41,a7 { c with timer := 3 } (cS v1a c v1c)⟩],[],[a8 w.heap.size 105 13 (.slice (some ⟨g2,0,none⟩) 0 0) (([] : List Seg).map ak),br w.heap.size (cS v1a c v1c) 2 (c.r.held.map pC),cH Z c Y]⟩ ?_
 refine kS <| kQ <| aY [1,2,4,5,35] [(35,aB true)] <| kT <| kQ <| bN [2,3] [(3,.v (.slice (some ⟨g2,0,none⟩) 0 0))] 1 ⟨41,a7 { c with timer := 3 } (cS v1a c v1c)⟩ ?_
 refine kR ?_
 have hmod : aN c = (({ c with timer := 3 }),([] : List Seg)) := by first | rfl | (simp [aN,bG, *]; done) | (simp [aN,bG, *]; omega) | grind [aN,bG]
 exact ⟨[.agg (a7 { c with timer := 3 } (cS v1a c v1c)).toArray,.slice (some ⟨g2,0,none⟩) 0 0],by kernel_rfl,fun w' hb hf ha => by rw [hmod]; exact xo2 ((v1a,v1c),(((some ⟨g2,0,none⟩) : Option Addr),0)) rfl rfl (pO (hf _ m1) hB) (pR (hf _ m0) hB) (Apart.sub2 ha (i := 1) (j := 0) rfl rfl (by decide) rfl (fun b h => h) (fun b h => bg h)) hb⟩
 have h6p := cA h6
 refine kK <| kQ <| bN [1,2,4,5] [] 2 ⟨41,a7 { c with timer := 2 } (cS v1a c v1c)⟩ <| kS <| kQ <| aE [1,2,4,5,35] [(1,.p 0 0),(2,.p 1 0),(4,.p 2 0),(5,.v (.slice (some ⟨g2,0,none⟩) 0 0)),(35,aB true)] ?_
 refine kT <| kQ <| bN [2,3] [(3,.v (.slice (some ⟨g2,0,none⟩) 0 0))] 1 ⟨41,a7 { c with timer := 2 } (cS v1a c v1c)⟩ <| kR ?_
 have hmod : aN c = (({ c with timer := 2 }),([] : List Seg)) := by first | rfl | (simp [aN,bG, *]; done) | (simp [aN,bG, *]; omega) | grind [aN,bG]
 exact ⟨[.agg (a7 { c with timer := 2 } (cS v1a c v1c)).toArray,.slice (some ⟨g2,0,none⟩) 0 0],by kernel_rfl,fun w' hb hf ha => by rw [hmod]; exact xo2 ((v1a,v1c),(((some ⟨g2,0,none⟩) : Option Addr),0)) rfl rfl (pO (hf _ m1) hB) (pR (hf _ m0) hB) (Apart.sub2 ha (i := 1) (j := 0) rfl rfl (by decide) rfl (fun b h => h) (fun b h => bg h)) hb⟩
 have h5p := cA h5
 refine kK <| kQ <| kRB 5 [1,2,4,5] [(1,.p 0 0),(2,.p 1 0),(4,.p 2 0),(5,.v (.slice (some ⟨g2,0,none⟩) 0 0))] [⟨41,a7 c (cS Z c Y)⟩,⟨41,cR⟩,⟨41,a7 { c with timer := K6.wrap (c.timer - 1) } (cS v1a c v1c)⟩] <| xl_eq (st' := ⟨[(1,.p 0 0),(2,.p 1 0),(4,.p 2 0),(5,.v (.slice (some ⟨g2,0,none⟩) 0 0))],[⟨41,a7 c (cS Z c Y)⟩,⟨41,cR⟩,⟨41,a7 { c with timer := c.timer - 1 } (cS v1a c v1c)⟩],[],[a8 w.heap.size 105 13 (.slice (some ⟨g2,0,none⟩) 0 0) (([] : List Seg).map ak),br w.heap.size (cS v1a c v1c) 2 (c.r.held.map pC),cH Z c Y]⟩) (by rw [show (K6.wrap (c.timer - 1)) = (c.timer - 1) from ao (by omega) (by omega)] <;> rfl) ?_
 refine aY [1,2,4,5] [] <| kS <| kQ <| aY [1,2,4,5,35] [(35,aB (decide ((c.timer - 1) > 0)))] ?_
 refine kC (decide ((c.timer - 1) > 0)) (fun h7 => ?_) (fun h7 => ?_)
 have h7p := of_decide_eq_true h7
 refine kQ <| bN [2,3] [(3,.v (.slice (some ⟨g2,0,none⟩) 0 0))] 1 ⟨41,a7 { c with timer := c.timer - 1 } (cS v1a c v1c)⟩ <| kR ?_
 have hmod : aN c = (({ c with timer := c.timer - 1 }),([] : List Seg)) := by first | rfl | (simp [aN,bG, *]; done) | (simp [aN,bG, *]; omega) | grind [aN,bG]
 exact ⟨[.agg (a7 { c with timer := c.timer - 1 } (cS v1a c v1c)).toArray,.slice (some ⟨g2,0,none⟩) 0 0],by kernel_rfl,fun w' hb hf ha => by rw [hmod]; exact xo2 ((v1a,v1c),(((some ⟨g2,0,none⟩) : Option Addr),0)) rfl rfl (pO (hf _ m1) hB) (pR (hf _ m0) hB) (Apart.sub2 ha (i := 1) (j := 0) rfl rfl (by decide) rfl (fun b h => h) (fun b h => bg h)) hb⟩
 have h7p := of_decide_eq_false h7
 refine kK <| kS <| kQ <| aY [1,2,4,5,40] [(40,aB (c.state == 7))] ?_
 refine kC (c.state == 7) (fun h8 => ?_) (fun h8 => ?_)
 have h8p := cD h8
 refine kQ <| bN [2,4,5] [] 2 ⟨41,a7 { c with state := 8,timer := c.timer - 1 } (cS v1a c v1c)⟩ <| kQ <| bN [2,4,5] [] 2 ⟨41,a7 { c with state := 8,timer := c.timer - 1,tries := 0 } (cS v1a c v1c)⟩ ?_
 refine kQ <| bN [2,3] [(3,.v (.slice (some ⟨g2,0,none⟩) 0 0))] 1 ⟨41,a7 { c with state := 8,timer := c.timer - 1,tries := 0 } (cS v1a c v1c)⟩ <| kR ?_
 have hmod : aN c = (({ c with state := 8,timer := c.timer - 1,tries := 0 }),([] : List Seg)) := by first | rfl | (simp [aN,bG, *]; done) | (simp [aN,bG, *]; omega) | grind [aN,bG]
 exact ⟨[.agg (a7 { c with state := 8,timer := c.timer - 1,tries := 0 } (cS v1a c v1c)).toArray,.slice (some ⟨g2,0,none⟩) 0 0],by kernel_rfl,fun w' hb hf ha => by rw [hmod]; exact xo2 ((v1a,v1c),(((some ⟨g2,0,none⟩) : Option Addr),0)) rfl rfl (pO (hf _ m1) hB) (pR (hf _ m0) hB) (Apart.sub2 ha (i := 1) (j := 0) rfl rfl (by decide) rfl (fun b h => h) (fun b h => bg h)) hb⟩
 have h8p := cA h8
 refine kK <| kS <| kQ <| aY [1,2,4,47] [(47,aB (c.tries == 3))] ?_
 refine kC (c.tries == 3) (fun h9 => ?_) (fun h9 => ?_)
 have h9p := cD h9
 refine kQ <| dS 1 [2,4,48] [(48,.v (.agg (a7 c (cS Z c Y)).toArray))] 101 [.agg (a7 c (cS Z c Y)).toArray] (some 49) rfl (bu fun ww hf => fu c (cS Z c Y) ww (hf _ m2) (by first | omega | (dsimp only; omega))) ?_
 intro _
 refine gU [2,4,6] [(6,.p 3 0)] [⟨105,[iI c.t.my,iI c.t.port,iI (af c.s),iI c.r.next,iI 16,iI (wO c.r),iI 0,iI (-1),.bool false,.bool false,iI 0,iI 0,.string (⟨#[]⟩ : ByteArray)]⟩] <| kQ <| bN [2,4,6] [] 3 ⟨105,[iI c.t.my,iI c.t.port,iI (af c.s),iI c.r.next,iI 20,iI (wO c.r),iI 0,iI (-1),.bool false,.bool false,iI 0,iI 0,.string (⟨#[]⟩ : ByteArray)]⟩ <| kQ <| bN [2,4,6] [] 2 ⟨41,a7 { c with state := 8,timer := c.timer - 1 } (cS v1a c v1c)⟩ ?_
 refine kQ <| bN [2,4,6] [] 2 ⟨41,a7 { c with state := 8,timer := c.timer - 1,tries := 0 } (cS v1a c v1c)⟩ <| kS <| dK (α := Nat) (fun y => (fun (g11 : Nat) => (⟨[(2,.p 1 0),(3,.v (.slice (some ⟨g11,0,none⟩) 1 1))],[⟨41,a7 c (cS Z c Y)⟩,⟨41,a7 { c with state := 8,timer := c.timer - 1,tries := 0 } (cS v1a c v1c)⟩,⟨41,a7 { c with state := 8,timer := c.timer - 1,tries := 0 } (cS v1a c v1c)⟩,⟨105,[iI c.t.my,iI c.t.port,iI (af c.s),iI c.r.next,iI 20,iI (wO c.r),iI 0,iI (-1),.bool false,.bool false,iI 0,iI 0,.string (⟨#[]⟩ : ByteArray)]⟩],[],[a8 w.heap.size 105 13 (.slice (some ⟨g11,0,none⟩) 1 1) (([⟨c.t.my,c.t.port,af c.s,c.r.next,20,wO c.r,⟨0,(-1),false,false,0,0⟩,(⟨#[]⟩ : ByteArray)⟩] : List Seg).map ak),a8 w.heap.size 105 13 (.slice (some ⟨g2,0,none⟩) 0 0) (([] : List Seg).map ak),br w.heap.size (cS v1a c v1c) 2 (c.r.held.map pC),cH Z c Y]⟩ : St)) y) ?_ ?_
 refine aF [true,false,true,true] (by kernel_rfl) (fun ρ σ => ?_)
 refine cJ [0,1] [57,56,2] 3 [(57,.v (.agg #[iI c.t.my,iI c.t.port,iI (af c.s),iI c.r.next,iI 20,iI (wO c.r),iI 0,iI (-1),.bool false,.bool false,iI 0,iI 0,.string (⟨#[]⟩ : ByteArray)])),(56,.v (.agg (a7 { c with state := 8,timer := c.timer - 1,tries := 0 } (cS v1a c v1c)).toArray)),(2,.p 1 0)] <| kA [2,3] ⟨?_,?_⟩
 refine dq 2 rfl (a6 (au rfl (a6 (a6 a9)))) (aR (e := 105) (K := 13) (bytes := 104) [.agg #[iI c.t.my,iI c.t.port,iI (af c.s),iI c.r.next,iI 20,iI (wO c.r),iI 0,iI (-1),.bool false,.bool false,iI 0,iI 0,.string (⟨#[]⟩ : ByteArray)]] (rs := ([⟨c.t.my,c.t.port,af c.s,c.r.next,20,wO c.r,⟨0,(-1),false,false,0,0⟩,(⟨#[]⟩ : ByteArray)⟩] : List Seg).map ak) rfl rfl) ?_
 intro g11
 refine kA [3] <| du 3 1 0 (a7 { c with state := 8,timer := c.timer - 1,tries := 0 } (cS v1a c v1c)) rfl <| cJ [4] [3,2] 0 [(3,.v (.slice (some ⟨g11,0,none⟩) 1 1)),(2,.p 1 0)] <| kZ ?_
 exact ⟨(g11),kF 4 0 [2,3]⟩
 refine du 3 1 0 (a7 { c with state := 8,timer := c.timer - 1,tries := 0 } (cS v1a c v1c)) rfl <| kA [2] <| dq 2 rfl (a6 (au rfl (a6 (a6 a9)))) (aR (e := 105) (K := 13) (bytes := 104) [.agg #[iI c.t.my,iI c.t.port,iI (af c.s),iI c.r.next,iI 20,iI (wO c.r),iI 0,iI (-1),.bool false,.bool false,iI 0,iI 0,.string (⟨#[]⟩ : ByteArray)]] (rs := ([⟨c.t.my,c.t.port,af c.s,c.r.next,20,wO c.r,⟨0,(-1),false,false,0,0⟩,(⟨#[]⟩ : ByteArray)⟩] : List Seg).map ak) rfl rfl) ?_
 intro g13
 refine cJ [4] [3,2] 0 [(3,.v (.slice (some ⟨g13,0,none⟩) 1 1)),(2,.p 1 0)] <| kZ ?_
 exact ⟨(g13),kF 4 0 [2,3]⟩
 intro g11
 refine kR ?_
 have hmod : aN c = (({ c with state := 8,timer := c.timer - 1,tries := 0 }),([⟨c.t.my,c.t.port,af c.s,c.r.next,20,wO c.r,⟨0,(-1),false,false,0,0⟩,(⟨#[]⟩ : ByteArray)⟩] : List Seg)) := by first | rfl | (simp [aN,bG, *]; done) | (simp [aN,bG, *]; omega) | grind [aN,bG]
 exact ⟨[.agg (a7 { c with state := 8,timer := c.timer - 1,tries := 0 } (cS v1a c v1c)).toArray,.slice (some ⟨g11,0,none⟩) 1 1],by kernel_rfl,fun w' hb hf ha => by rw [hmod]; exact xo2 ((v1a,v1c),(((some ⟨g11,0,none⟩) : Option Addr),1)) rfl rfl (pO (hf _ m2) hB) (pR (hf _ m0) hB) (Apart.sub2 ha (i := 2) (j := 0) rfl rfl (by decide) rfl (fun b h => h) (fun b h => bg h)) hb⟩
 have h9p := cA h9
 refine kK <| kQ <| kRB 5 [1,2,4] [(1,.p 0 0),(2,.p 1 0),(4,.p 2 0)] [⟨41,a7 c (cS Z c Y)⟩,⟨41,cR⟩,⟨41,a7 { c with timer := c.timer - 1,tries := K6.wrap (c.tries + 1) } (cS v1a c v1c)⟩] <| xl_eq (st' := ⟨[(1,.p 0 0),(2,.p 1 0),(4,.p 2 0)],[⟨41,a7 c (cS Z c Y)⟩,⟨41,cR⟩,⟨41,a7 { c with timer := c.timer - 1,tries := c.tries + 1 } (cS v1a c v1c)⟩],[],[a8 w.heap.size 105 13 (.slice (some ⟨g2,0,none⟩) 0 0) (([] : List Seg).map ak),br w.heap.size (cS v1a c v1c) 2 (c.r.held.map pC),cH Z c Y]⟩) (by rw [show (K6.wrap (c.tries + 1)) = (c.tries + 1) from ao (by omega) (by omega)] <;> rfl) ?_
 refine aY [1,2,4] [] <| kQ <| dS 2 [2,4,64] [(64,.v (.agg (ai c.s).toArray))] 102 [.agg (ai c.s).toArray] (some 65) rfl (bu fun ww hf => sRewound_c c.s.una c.s.data c.s.sent c.s.fin c.s.finSent c.s.done ww ) ?_
 intro _
 refine bN [2,4] [] 2 ⟨41,a7 { c with s := (ab c.s),timer := c.timer - 1,tries := c.tries + 1 } (cS v1a c v1c)⟩ <| kS <| dK (α := Option Addr × Nat × Option Addr × Nat) (fun y => (fun (v15a : Option Addr) (v15c : Nat) (v14a : Option Addr) (v14c : Nat) => (⟨[(2,.p 1 0),(7,.p 3 0),(8,.v (.slice v15a ((pump ({ c with s := (ab c.s),timer := c.timer - 1,tries := c.tries + 1 }) (max 1 c.window)).2.length) v15c))],[⟨41,a7 c (cS Z c Y)⟩,⟨41,cR⟩,⟨41,a7 { c with s := (ab c.s),timer := c.timer - 1,tries := c.tries + 1 } (cS v1a c v1c)⟩,⟨41,a7 (pump ({ c with s := (ab c.s),timer := c.timer - 1,tries := c.tries + 1 }) (max 1 c.window)).1 (.slice v14a ((pump ({ c with s := (ab c.s),timer := c.timer - 1,tries := c.tries + 1 }) (max 1 c.window)).1.r.held.length) v14c)⟩],[],[br w.heap.size (.slice v14a ((pump ({ c with s := (ab c.s),timer := c.timer - 1,tries := c.tries + 1 }) (max 1 c.window)).1.r.held.length) v14c) 2 ((pump ({ c with s := (ab c.s),timer := c.timer - 1,tries := c.tries + 1 }) (max 1 c.window)).1.r.held.map pC),a8 w.heap.size 105 13 (.slice v15a ((pump ({ c with s := (ab c.s),timer := c.timer - 1,tries := c.tries + 1 }) (max 1 c.window)).2.length) v15c) ((pump ({ c with s := (ab c.s),timer := c.timer - 1,tries := c.tries + 1 }) (max 1 c.window)).2.map ak),a8 w.heap.size 105 13 (.slice (some ⟨g2,0,none⟩) 0 0) (([] : List Seg).map ak),br w.heap.size (cS v1a c v1c) 2 (c.r.held.map pC),cH Z c Y]⟩ : St)) y.1 y.2.1 y.2.2.1 y.2.2.2) ?_ ?_
 refine bP [] (by kernel_rfl) (fun ρ σ => ?_)
 refine cJ [0,1,2] [70,68,2] 8 [(70,aI c.window),(68,.v (.agg (a7 { c with s := (ab c.s),timer := c.timer - 1,tries := c.tries + 1 } (cS v1a c v1c)).toArray)),(2,.p 1 0)] <| kA [3,8] ⟨?_,?_⟩
 refine cE 3 95 [iI 1,iI c.window] (some 71) rfl (cz fun ww hf => ez 1 c.window ww ) ?_
 intro _
 refine kA [4,8] ⟨?_,?_⟩
 refine cE 4 99 [.agg (a7 { c with s := (ab c.s),timer := c.timer - 1,tries := c.tries + 1 } (cS v1a c v1c)).toArray,iI (max 1 c.window)] (some 72) rfl (cx fun ww hw hf => fF ({ c with s := (ab c.s),timer := c.timer - 1,tries := c.tries + 1 }) (cS v1a c v1c) (max 1 c.window) ww (Own.sl (hf _ m1)) (by assumption) (by assumption) (by omega) (by omega) w.heap.size hw) ?_
 rintro ⟨⟨v14a,v14c⟩,⟨v15a,v15c⟩⟩
 have hbd16 : (pump ({ c with s := (ab c.s),timer := c.timer - 1,tries := c.tries + 1 }) (max 1 c.window)).1.r.held.length ≤ 1048576 ∧ (pump ({ c with s := (ab c.s),timer := c.timer - 1,tries := c.tries + 1 }) (max 1 c.window)).2.length ≤ 49 := fj _ _  (by omega)
 have hbd16a := hbd16.1; have hbd16b := hbd16.2
 refine cJ [5,6,7] [74,73,2] 3 [(74,.v (.slice v15a ((pump ({ c with s := (ab c.s),timer := c.timer - 1,tries := c.tries + 1 }) (max 1 c.window)).2.length) v15c)),(73,.v (.agg (a7 (pump ({ c with s := (ab c.s),timer := c.timer - 1,tries := c.tries + 1 }) (max 1 c.window)).1 (.slice v14a ((pump ({ c with s := (ab c.s),timer := c.timer - 1,tries := c.tries + 1 }) (max 1 c.window)).1.r.held.length) v14c)).toArray)),(2,.p 1 0)] <| kA [8] <| de 8 ⟨41,cR⟩ _ rfl (by kernel_rfl) (by kernel_rfl) (by kernel_rfl) (by kernel_rfl) rfl ?_
 refine kA [9] <| du 9 3 0 (a7 (pump ({ c with s := (ab c.s),timer := c.timer - 1,tries := c.tries + 1 }) (max 1 c.window)).1 (.slice v14a ((pump ({ c with s := (ab c.s),timer := c.timer - 1,tries := c.tries + 1 }) (max 1 c.window)).1.r.held.length) v14c)) rfl <| cJ [10] [8,7,2] 0 [(8,.v (.slice v15a ((pump ({ c with s := (ab c.s),timer := c.timer - 1,tries := c.tries + 1 }) (max 1 c.window)).2.length) v15c)),(7,.p 3 0),(2,.p 1 0)] <| kZ ?_
 exact ⟨(v15a,v15c,v14a,v14c),kF 4 0 [2,7,8]⟩
 refine de 8 ⟨41,cR⟩ _ rfl (by kernel_rfl) (by kernel_rfl) (by kernel_rfl) (by kernel_rfl) rfl ?_
 refine kA [4] <| cE 4 99 [.agg (a7 { c with s := (ab c.s),timer := c.timer - 1,tries := c.tries + 1 } (cS v1a c v1c)).toArray,iI (max 1 c.window)] (some 72) rfl (cx fun ww hw hf => fF ({ c with s := (ab c.s),timer := c.timer - 1,tries := c.tries + 1 }) (cS v1a c v1c) (max 1 c.window) ww (Own.sl (hf _ m1)) (by assumption) (by assumption) (by omega) (by omega) w.heap.size hw) ?_
 rintro ⟨⟨v17a,v17c⟩,⟨v18a,v18c⟩⟩
 have hbd19 : (pump ({ c with s := (ab c.s),timer := c.timer - 1,tries := c.tries + 1 }) (max 1 c.window)).1.r.held.length ≤ 1048576 ∧ (pump ({ c with s := (ab c.s),timer := c.timer - 1,tries := c.tries + 1 }) (max 1 c.window)).2.length ≤ 49 := fj _ _  (by omega)
 have hbd19a := hbd19.1; have hbd19b := hbd19.2
 refine cJ [5,6,7] [74,73,7,2] 2 [(74,.v (.slice v18a ((pump ({ c with s := (ab c.s),timer := c.timer - 1,tries := c.tries + 1 }) (max 1 c.window)).2.length) v18c)),(73,.v (.agg (a7 (pump ({ c with s := (ab c.s),timer := c.timer - 1,tries := c.tries + 1 }) (max 1 c.window)).1 (.slice v17a ((pump ({ c with s := (ab c.s),timer := c.timer - 1,tries := c.tries + 1 }) (max 1 c.window)).1.r.held.length) v17c)).toArray)),(7,.p 3 0),(2,.p 1 0)] <| kA [9] <| du 9 3 0 (a7 (pump ({ c with s := (ab c.s),timer := c.timer - 1,tries := c.tries + 1 }) (max 1 c.window)).1 (.slice v17a ((pump ({ c with s := (ab c.s),timer := c.timer - 1,tries := c.tries + 1 }) (max 1 c.window)).1.r.held.length) v17c)) rfl <| cJ [10] [8,7,2] 0 [(8,.v (.slice v18a ((pump ({ c with s := (ab c.s),timer := c.timer - 1,tries := c.tries + 1 }) (max 1 c.window)).2.length) v18c)),(7,.p 3 0),(2,.p 1 0)] ?_
 refine kZ ?_
 exact ⟨(v18a,v18c,v17a,v17c),kF 4 0 [2,7,8]⟩
 refine de 8 ⟨41,cR⟩ _ rfl (by kernel_rfl) (by kernel_rfl) (by kernel_rfl) (by kernel_rfl) rfl ?_
 refine kA [3] <| cE 3 95 [iI 1,iI c.window] (some 71) rfl (cz fun ww hf => ez 1 c.window ww ) ?_
 intro _
 refine kA [4] <| cE 4 99 [.agg (a7 { c with s := (ab c.s),timer := c.timer - 1,tries := c.tries + 1 } (cS v1a c v1c)).toArray,iI (max 1 c.window)] (some 72) rfl (cx fun ww hw hf => fF ({ c with s := (ab c.s),timer := c.timer - 1,tries := c.tries + 1 }) (cS v1a c v1c) (max 1 c.window) ww (Own.sl (hf _ m1)) (by assumption) (by assumption) (by omega) (by omega) w.heap.size hw) ?_
 rintro ⟨⟨v20a,v20c⟩,⟨v21a,v21c⟩⟩
 have hbd22 : (pump ({ c with s := (ab c.s),timer := c.timer - 1,tries := c.tries + 1 }) (max 1 c.window)).1.r.held.length ≤ 1048576 ∧ (pump ({ c with s := (ab c.s),timer := c.timer - 1,tries := c.tries + 1 }) (max 1 c.window)).2.length ≤ 49 := fj _ _  (by omega)
 have hbd22a := hbd22.1; have hbd22b := hbd22.2
 refine cJ [5,6,7] [74,73,7,2] 2 [(74,.v (.slice v21a ((pump ({ c with s := (ab c.s),timer := c.timer - 1,tries := c.tries + 1 }) (max 1 c.window)).2.length) v21c)),(73,.v (.agg (a7 (pump ({ c with s := (ab c.s),timer := c.timer - 1,tries := c.tries + 1 }) (max 1 c.window)).1 (.slice v20a ((pump ({ c with s := (ab c.s),timer := c.timer - 1,tries := c.tries + 1 }) (max 1 c.window)).1.r.held.length) v20c)).toArray)),(7,.p 3 0),(2,.p 1 0)] <| kA [9] <| du 9 3 0 (a7 (pump ({ c with s := (ab c.s),timer := c.timer - 1,tries := c.tries + 1 }) (max 1 c.window)).1 (.slice v20a ((pump ({ c with s := (ab c.s),timer := c.timer - 1,tries := c.tries + 1 }) (max 1 c.window)).1.r.held.length) v20c)) rfl <| cJ [10] [8,7,2] 0 [(8,.v (.slice v21a ((pump ({ c with s := (ab c.s),timer := c.timer - 1,tries := c.tries + 1 }) (max 1 c.window)).2.length) v21c)),(7,.p 3 0),(2,.p 1 0)] ?_
 refine kZ ?_
 exact ⟨(v21a,v21c,v20a,v20c),kF 4 0 [2,7,8]⟩
 rintro ⟨v15a,v15c,v14a,v14c⟩
 refine kQ <| cy [2,7,8] ⟨[(2,.p 1 0),(7,.p 3 0),(8,.v (.slice v15a ((pump ({ c with s := (ab c.s),timer := c.timer - 1,tries := c.tries + 1 }) (max 1 c.window)).2.length) v15c))],[⟨41,a7 c (cS Z c Y)⟩,⟨41,cR⟩,⟨41,a7 { c with s := (ab c.s),timer := c.timer - 1,tries := c.tries + 1 } (cS v1a c v1c)⟩,⟨41,a7 { (pump ({ c with s := (ab c.s),timer := c.timer - 1,tries := c.tries + 1 }) (max 1 c.window)).1 with timer := 3 } (.slice v14a ((pump ({ c with s := (ab c.s),timer := c.timer - 1,tries := c.tries + 1 }) (max 1 c.window)).1.r.held.length) v14c)⟩],[],[br w.heap.size (.slice v14a ((pump ({ c with s := (ab c.s),timer := c.timer - 1,tries := c.tries + 1 }) (max 1 c.window)).1.r.held.length) v14c) 2 ((pump ({ c with s := (ab c.s),timer := c.timer - 1,tries := c.tries + 1 }) (max 1 c.window)).1.r.held.map pC),a8 w.heap.size 105 13 (.slice v15a ((pump ({ c with s := (ab c.s),timer := c.timer - 1,tries := c.tries + 1 }) (max 1 c.window)).2.length) v15c) ((pump ({ c with s := (ab c.s),timer := c.timer - 1,tries := c.tries + 1 }) (max 1 c.window)).2.map ak),a8 w.heap.size 105 13 (.slice (some ⟨g2,0,none⟩) 0 0) (([] : List Seg).map ak),br w.heap.size (cS v1a c v1c) 2 (c.r.held.map pC),cH Z c Y]⟩ <| kQ <| bN [2,3] [(3,.v (.slice v15a ((pump ({ c with s := (ab c.s),timer := c.timer - 1,tries := c.tries + 1 }) (max 1 c.window)).2.length) v15c))] 1 ⟨41,a7 { (pump ({ c with s := (ab c.s),timer := c.timer - 1,tries := c.tries + 1 }) (max 1 c.window)).1 with timer := 3 } (.slice v14a ((pump ({ c with s := (ab c.s),timer := c.timer - 1,tries := c.tries + 1 }) (max 1 c.window)).1.r.held.length) v14c)⟩ ?_
 refine kR ?_
 have hmod : aN c = (({ (pump ({ c with s := (ab c.s),timer := c.timer - 1,tries := c.tries + 1 }) (max 1 c.window)).1 with timer := 3 }),((pump ({ c with s := (ab c.s),timer := c.timer - 1,tries := c.tries + 1 }) (max 1 c.window)).2)) := by first | rfl | (simp [aN,bG, *]; done) | (simp [aN,bG, *]; omega) | grind [aN,bG]
 exact ⟨[.agg (a7 { (pump ({ c with s := (ab c.s),timer := c.timer - 1,tries := c.tries + 1 }) (max 1 c.window)).1 with timer := 3 } (.slice v14a ((pump ({ c with s := (ab c.s),timer := c.timer - 1,tries := c.tries + 1 }) (max 1 c.window)).1.r.held.length) v14c)).toArray,.slice v15a ((pump ({ c with s := (ab c.s),timer := c.timer - 1,tries := c.tries + 1 }) (max 1 c.window)).2.length) v15c],by kernel_rfl,fun w' hb hf ha => by rw [hmod]; exact xo2 ((v14a,v14c),(v15a,v15c)) rfl rfl (pO (hf _ m0) hB) (pR (hf _ m1) hB) (Apart.sub2 ha (i := 0) (j := 1) rfl rfl (by decide) rfl (fun b h => h) (fun b h => bg h)) hb⟩
theorem e6 (n : Int) (w : World)  (B : Nat) (hB : B ≤ w.heap.size) : Calls Tryz.prog 97 #[iI n] w fun e w' => XRs w w' e (α := Option Addr × Nat) (fun y => .agg (aa (rN n) (.slice y.1 ((rN n).held.length) y.2)).toArray) (fun y => [a8 B 89 2 (.slice y.1 ((rN n).held.length) y.2) ((rN n).held.map pC)]) := by
 refine bA (args := [iI n]) (fn := Tryz.f97) [] Tryz.func97 rfl Tryz.ntmps97 rfl (by simp) ?_
 refine kQ <| cy [0,2] ⟨[(0,aI n),(2,.p 0 0)],[⟨37,eH⟩],[],[]⟩ <| kQ <| em 1 [2,3] [(2,.p 0 0),(3,aI n)] 112 [iI n] (some 4) rfl (cz fun ww hf => fO n ww ) ?_
 intro _
 refine kOS 0 [2,4] [(2,.p 0 0),(4,aI (n % 4294967296))] (.agg #[iI (n % 4294967296),.string (⟨#[]⟩ : ByteArray),.slice none 0 0,iI (-1),.bool false]) rfl (fun _ _ _ ww hr => aA [(0,iI (n % 4294967296)),(3,iI (-1))] hr.1 rfl (by kernel_rfl) (by kernel_rfl) ww) ?_
 refine cy [2] ⟨[(2,.p 0 0)],[⟨37,[iI (n % 4294967296),.string (⟨#[]⟩ : ByteArray),.slice none 0 0,iI (-1),.bool false]⟩],[],[]⟩ <| kR ?_
 have hmod : rN n = (⟨n % 4294967296,(⟨#[]⟩ : ByteArray),[],(-1),false⟩) := by first | rfl | (simp [rN,sA]; done)
 exact ⟨[.agg #[iI (n % 4294967296),.string (⟨#[]⟩ : ByteArray),.slice none 0 0,iI (-1),.bool false]],by kernel_rfl,fun w' hb hf ha => by rw [hmod]; exact xo1 ((none,0)) rfl rfl ⟨rowF_nil _ _ _ _,fun b hb => (nilF_b _ _ _ _ hb).elim⟩ hb⟩
end Go.Proofs.YtccijpdjfelbmaaGreat
