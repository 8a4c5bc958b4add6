/- Contracts that this law needs, part 2. -/
import Derived.Test.YtccijpdjfelbmaaZ1
namespace Go.Proofs.Ytccijpdjfelbmaa
open Go.RowKit
set_option linter.unusedVariables false
set_option linter.unusedSimpArgs false
set_option maxRecDepth 100000
set_option maxHeartbeats 2000000

theorem yl18Pieces_c (l : List Int) (lV : Value) (m : Nat) (w : World) (hl_lV : Sl w lV 1 (l.map az)) (hm : m ≤ l.length) (hll : l.length ≤ 64) (hby : ∀ x ∈ l, x ≤ 255) (B : Nat) (hB : B ≤ w.heap.size) : Calls Try.prog 101 #[lV, iI (m : Int)] w fun e w' => XRs w w' e (α := Option Addr × Nat) (fun y => .slice y.1 ((gb [] 0 (l.drop m)).length) y.2) (fun y => [a9 B 72 2 (.slice y.1 ((gb [] 0 (l.drop m)).length) y.2) ((gb [] 0 (l.drop m)).map pC)]) := by
 obtain ⟨Al,Cl,hvl⟩ := hl_lV.form
 rw [List.length_map] at hvl; subst hvl
 have hnl := hl_lV.len; rw [List.length_map] at hnl
 have hql := Sl.capLe hl_lV
 refine bJ (args := [.slice Al l.length Cl,iI (m : Int)]) (fn := Try.f101) [bz (.slice Al l.length Cl) 1 (l.map az)] Try.func101 rfl Try.ntmps101 rfl (by simp only [List.mem_cons,List.not_mem_nil,or_false,forall_eq_or_imp,forall_eq]; exact ⟨rfl,hl_lV⟩) ?_
 refine kQ <| cv [0,1] ⟨[(0,.v (.slice Al l.length Cl)),(1,aI (m : Int))],[],[],[bz (.slice Al l.length Cl) 1 (l.map az)]⟩ <| kQ <| kHS 0 [0,1] [(0,.v (.slice Al l.length Cl)),(1,aI (m : Int))] rfl (aQ (e := 72) (K := 2) (bytes := 24) [] (rs := ([] : List Pce).map pC) rfl rfl) ?_
 intro g1
 refine aD [0,1,5] [(0,.v (.slice Al l.length Cl)),(1,aI (m : Int)),(5,.v (.slice (some ⟨g1,0,none⟩) 0 0))] <| kS <| kQ <| aD [0,1,5,6] [(0,.v (.slice Al l.length Cl)),(1,aI (m : Int)),(5,.v (.slice (some ⟨g1,0,none⟩) 0 0)),(6,aI (m : Int))] ?_
 refine aj <| bI (α := {x : Nat × List Pce × Option Addr × Nat × Nat // (fun (i : Nat) (out : List Pce) (A1 : Option Addr) (c1 : Nat) (n : Nat) => (m ≤ i ∧ i ≤ l.length) ∧ gb [] 0 (l.drop m) = gb out (i - m) (l.drop i) ∧ (∀ p ∈ out,0 ≤ p.off ∧ p.off + (p.text.size : Int) ≤ ((i - m : Nat) : Int)) ∧ out.length = n ∧ n ≤ i) x.1 x.2.1 x.2.2.1 x.2.2.2.1 x.2.2.2.2}) (fun x => (fun (i : Nat) (out : List Pce) (A1 : Option Addr) (c1 : Nat) (n : Nat) => (⟨[(0,.v (.slice Al l.length Cl)),(1,aI (m : Int)),(5,.v (.slice A1 n c1)),(6,aI (i : Int))],[],[],[a9 w.heap.size 72 2 (.slice A1 n c1) (out.map pC),bz (.slice Al l.length Cl) 1 (l.map az)]⟩ : St)) x.1.1 x.1.2.1 x.1.2.2.1 x.1.2.2.2.1 x.1.2.2.2.2) (fun x => (fun (i : Nat) (out : List Pce) (A1 : Option Addr) (c1 : Nat) (n : Nat) => l.length - i) x.1.1 x.1.2.1 x.1.2.2.1 x.1.2.2.2.1 x.1.2.2.2.2) ⟨(m,([] : List Pce),(some ⟨g1,0,none⟩),0,0),⟨⟨Nat.le_refl _,hm⟩,(by rw [Nat.sub_self]),(by simp),rfl,Nat.zero_le _⟩⟩ (en [0,1] <| kF 0 0 [0,1,5,6]) ?_
 rintro ⟨⟨i,out,A1,c1,n⟩,hi,HP,hbd,hn,hni⟩
 try dsimp only
 try dsimp only at hi HP hbd hn hni
 refine kS <| kQ <| aD [0,1,5,6,13] [(0,.v (.slice Al l.length Cl)),(1,aI (m : Int)),(5,.v (.slice A1 n c1)),(6,aI (i : Int)),(13,aB (decide ((i : Int) < ((l.length : Nat) : Int))))] <| kC (decide ((i : Int) < ((l.length : Nat) : Int))) (fun h2 => ?_) (fun h2 => ?_)
 have h2p := of_decide_eq_true h2
 have hlt : i < l.length := by simpa using h2
 obtain ⟨x,hx⟩ : ∃ x,l[i]? = some x := ⟨_,List.getElem?_eq_getElem hlt⟩
 have hx255 := hby x (List.mem_of_getElem? hx)
 have hps := pcs_step (out := out) hx hi.1
 refine xw_know (φ := ∃ b off,Al = some ⟨b,off,none⟩) (fun _ _ _ _ hr => know_sl hr (K := 1) (rs := l.map az) 1 rfl (j := i) (row := [iI x]) (by simp only [List.getElem?_map,hx]; rfl)) ?_
 rintro ⟨bb,ob,hbb⟩
 refine kK <| kS <| aj <| kS <| kQ <| kOS 2 [0,1,5,6,16,17] [(0,.v (.slice Al l.length Cl)),(1,aI (m : Int)),(5,.v (.slice A1 n c1)),(6,aI (i : Int)),(16,.v (.slice Al l.length Cl)),(17,aI (i : Int))] (.pointer (some ⟨bb,ob + i * 1,none⟩)) rfl (fun _ _ _ ww hr => act_ixO (kd := .i64) (T := 57) (e := 3) (K := 1) (b := bb) (off := ob) (N := l.length) (cap := Cl) i hbb hr.1 rfl rfl (by kernel_rfl) (by kernel_rfl) (by kernel_rfl) hlt ww) ?_
 refine kOS 0 [0,1,5,6,18] [(0,.v (.slice Al l.length Cl)),(1,aI (m : Int)),(5,.v (.slice A1 n c1)),(6,aI (i : Int)),(18,.v (.pointer (some ⟨bb,ob + i * 1,none⟩)))] (iI x) rfl (fun _ _ _ ww hr => ldS_run (j := i) (row := [iI x]) (bz (.slice Al l.length Cl) 1 (l.map az)) hr rfl (by kernel_rfl) (by simp) (by simp only [List.getElem?_map,hx]; rfl) (by kernel_rfl) hbb rfl) ?_
 refine aD [0,1,5,6,20] [(0,.v (.slice Al l.length Cl)),(1,aI (m : Int)),(5,.v (.slice A1 n c1)),(6,aI (i : Int)),(20,aB (decide (x < 0)))] <| kC (decide (x < 0)) (fun h3 => ?_) (fun h3 => ?_)
 have h3p := of_decide_eq_true h3
 refine c5 <| kG <| eo 3 [0,1,5,6] [(0,.v (.slice Al l.length Cl)),(1,aI (m : Int)),(5,.v (.slice A1 n c1)),(6,aI (K6.wrap ((i : Int) + 1)))] <| gd (t' := [(0,.v (.slice Al l.length Cl)),(1,aI (m : Int)),(5,.v (.slice A1 n c1)),(6,aI ((i : Int) + 1))]) (by rw [show (K6.wrap ((i : Int) + 1)) = ((i : Int) + 1) from al (by omega) (by omega)]) ?_
 refine aD [0,1,5,6] [(0,.v (.slice Al l.length Cl)),(1,aI (m : Int)),(5,.v (.slice A1 n c1)),(6,aI ((i : Int) + 1))] ?_
 exact ⟨⟨(i + 1,out,A1,c1,n),⟨(by (try dsimp only); omega),(by rw [HP,hps,if_pos (by omega)]),(fun q hq => by have := hbd q hq; (try dsimp only); omega),hn,(by (try dsimp only); omega)⟩⟩,kF 0 0 [0,1,5,6],by show (fun (i : Nat) (out : List Pce) (A1 : Option Addr) (c1 : Nat) (n : Nat) => l.length - i) (i + 1) out A1 c1 n < l.length - i; (dsimp only; omega)⟩
 have h3p := of_decide_eq_false h3
 have hx0 : 0 ≤ x := by simp at h3; omega
 have hb1 : (ai [x]).size = 1 := bstr_len [x]
 obtain ⟨p,hp⟩ : ∃ p : Pce,0 < n → out[n - 1]? = some p := if h : 0 < n then ⟨out[n - 1]'(by omega),fun _ => List.getElem?_eq_getElem _⟩ else ⟨⟨0,⟨#[]⟩⟩,fun h' => absurd h' h⟩
 refine xw_know (φ := ∃ g,0 < n → A1 = some ⟨g,0,none⟩) (fun _ _ _ _ hr => know_row hr (K := 2) (rs := out.map pC) 0 rfl (j := n - 1) (row := [iI p.off,.string p.text]) (fun hpos => by simp only [List.getElem?_map,hp hpos]; rfl)) ?_
 rintro ⟨gg,hgg⟩
 refine kK <| kQ <| aD [0,1,5,6,7] [(0,.v (.slice Al l.length Cl)),(1,aI (m : Int)),(5,.v (.slice A1 n c1)),(6,aI (i : Int)),(7,aI ((n : Nat) : Int))] <| kS <| d9 (α := {zz : Bool // (fun (bq : Bool) => (bq = true ↔ (0 < n ∧ p.off + (p.text.size : Int) = ((i - m : Nat) : Int)))) zz}) (fun zz => (fun (bq : Bool) => (⟨[(0,.v (.slice Al l.length Cl)),(1,aI (m : Int)),(5,.v (.slice A1 n c1)),(6,aI (i : Int)),(7,aI ((n : Nat) : Int)),(44,aB bq)],[],[],[a9 w.heap.size 72 2 (.slice A1 n c1) (out.map pC),bz (.slice Al l.length Cl) 1 (l.map az)]⟩ : St)) zz.1) ?_ ?_
 refine bw [] (by kernel_rfl) (fun ρ σ => ?_)
 refine cK [0,1,2] [25,0,1,5,6,7] 19 [(25,aB (decide (((n : Nat) : Int) > 0))),(0,.v (.slice Al l.length Cl)),(1,aI (m : Int)),(5,.v (.slice A1 n c1)),(6,aI (i : Int)),(7,aI ((n : Nat) : Int))] <| kY 25 (decide (((n : Nat) : Int) > 0)) (fun h4 => ?_) (fun h4 => ?_)
 have h4p := of_decide_eq_true h4
 have hpos : 0 < n := by simp at h4; omega
 have hpb := hbd p (List.mem_of_getElem? (hp hpos))
 refine cK [3,4,5,9,10,11,17,18,19] [42,34,32,28,26,25,0,1,5,6,7] 10 [(42,aI (K6.wrap ((i : Int) - (m : Int)))),(34,aI (K6.wrap (((n : Nat) : Int) - 1))),(32,.v (.slice A1 n c1)),(28,aI (K6.wrap (((n : Nat) : Int) - 1))),(26,.v (.slice A1 n c1)),(25,aB true),(0,.v (.slice Al l.length Cl)),(1,aI (m : Int)),(5,.v (.slice A1 n c1)),(6,aI (i : Int)),(7,aI ((n : Nat) : Int))] <| fY (t := [(42,aI (K6.wrap ((i : Int) - (m : Int)))),(34,aI (K6.wrap (((n : Nat) : Int) - 1))),(32,.v (.slice A1 n c1)),(28,aI (K6.wrap (((n : Nat) : Int) - 1))),(26,.v (.slice A1 n c1)),(25,aB true),(0,.v (.slice Al l.length Cl)),(1,aI (m : Int)),(5,.v (.slice A1 n c1)),(6,aI (i : Int)),(7,aI ((n : Nat) : Int))]) (t' := [(42,aI ((i - m : Nat) : Int)),(34,aI ((n - 1 : Nat) : Int)),(32,.v (.slice A1 n c1)),(28,aI ((n - 1 : Nat) : Int)),(26,.v (.slice A1 n c1)),(25,aB true),(0,.v (.slice Al l.length Cl)),(1,aI (m : Int)),(5,.v (.slice A1 n c1)),(6,aI (i : Int)),(7,aI ((n : Nat) : Int))]) (by rw [show (K6.wrap (((n : Nat) : Int) - 1)) = ((n - 1 : Nat) : Int) from by rw [al (by omega) (by omega)]; omega,show (K6.wrap ((i : Int) - (m : Int))) = ((i - m : Nat) : Int) from by rw [al (by omega) (by omega)]; omega]) ?_
 refine kX 6 (.pointer (some ⟨gg,(n - 1) * 2,none⟩)) rfl (fun _ _ ww hA => e9 (kd := .i64) (T := 44) (e := 72) (K := 2) (g := gg) (N := n) (cap := c1) (n - 1) (hgg hpos) hA rfl rfl (by kernel_rfl) (by kernel_rfl) (by kernel_rfl) (by omega) ww) ?_
 refine kX 7 (.pointer (some ⟨gg,(n - 1) * 2,none⟩)) rfl (fun _ _ ww hA => df (sz := 1) (b := gg) (m := (n - 1) * 2) hA rfl Try.underlying72 rfl (by kernel_rfl) rfl (by kernel_rfl) rfl) ?_
 refine kX 12 (.pointer (some ⟨gg,(n - 1) * 2,none⟩)) rfl (fun _ _ ww hA => e9 (kd := .i64) (T := 44) (e := 72) (K := 2) (g := gg) (N := n) (cap := c1) (n - 1) (hgg hpos) hA rfl rfl (by kernel_rfl) (by kernel_rfl) (by kernel_rfl) (by omega) ww) ?_
 refine kX 13 (.pointer (some ⟨gg,(n - 1) * 2 + 1,none⟩)) rfl (fun _ _ ww hA => df (sz := 1) (b := gg) (m := (n - 1) * 2) hA rfl Try.underlying72 rfl (by kernel_rfl) rfl (by kernel_rfl) rfl) ?_
 refine kA [8,14] ⟨?_,?_⟩
 refine kSR 8 (iI p.off) rfl (fun _ _ ww hr => dN (po := 0) (j := (n - 1)) (row := [iI p.off,.string p.text]) (a9 w.heap.size 72 2 (.slice A1 n c1) (out.map pC)) hr rfl (by kernel_rfl) (by simp) (by simp only [List.getElem?_map,hp hpos]; rfl) (by kernel_rfl) (hgg hpos) rfl rfl) ?_
 refine kA [14] <| kSR 14 (.string p.text) rfl (fun _ _ ww hr => dN (po := 1) (j := (n - 1)) (row := [iI p.off,.string p.text]) (a9 w.heap.size 72 2 (.slice A1 n c1) (out.map pC)) hr rfl (by kernel_rfl) (by simp) (by simp only [List.getElem?_map,hp hpos]; rfl) (by kernel_rfl) (hgg hpos) rfl rfl) ?_
 refine cK [15,16,20,21] [44,0,1,5,6,7] 0 [(44,aB ((K6.wrap (p.off + (p.text.size : Int))) == ((i - m : Nat) : Int))),(0,.v (.slice Al l.length Cl)),(1,aI (m : Int)),(5,.v (.slice A1 n c1)),(6,aI (i : Int)),(7,aI ((n : Nat) : Int))] <| fY (t := [(44,aB ((K6.wrap (p.off + (p.text.size : Int))) == ((i - m : Nat) : Int))),(0,.v (.slice Al l.length Cl)),(1,aI (m : Int)),(5,.v (.slice A1 n c1)),(6,aI (i : Int)),(7,aI ((n : Nat) : Int))]) (t' := [(44,aB ((p.off + (p.text.size : Int)) == ((i - m : Nat) : Int))),(0,.v (.slice Al l.length Cl)),(1,aI (m : Int)),(5,.v (.slice A1 n c1)),(6,aI (i : Int)),(7,aI ((n : Nat) : Int))]) (by rw [show (K6.wrap (p.off + (p.text.size : Int))) = (p.off + (p.text.size : Int)) from al (by omega) (by omega)]) ?_
 refine kZ ?_
 exact ⟨⟨((p.off + (p.text.size : Int)) == ((i - m : Nat) : Int)),⟨fun h => ⟨hpos,eq_of_beq h⟩,fun h => beq_iff_eq.2 h.2⟩⟩,kF 0 0 [0,1,5,6,7,44]⟩
 refine kSR 14 (.string p.text) rfl (fun _ _ ww hr => dN (po := 1) (j := (n - 1)) (row := [iI p.off,.string p.text]) (a9 w.heap.size 72 2 (.slice A1 n c1) (out.map pC)) hr rfl (by kernel_rfl) (by simp) (by simp only [List.getElem?_map,hp hpos]; rfl) (by kernel_rfl) (hgg hpos) rfl rfl) ?_
 refine cK [15] [38,30,42,25,0,1,5,6,7] 4 [(38,aI (p.text.size : Int)),(30,.v (.pointer (some ⟨gg,(n - 1) * 2,none⟩))),(42,aI ((i - m : Nat) : Int)),(25,aB true),(0,.v (.slice Al l.length Cl)),(1,aI (m : Int)),(5,.v (.slice A1 n c1)),(6,aI (i : Int)),(7,aI ((n : Nat) : Int))] <| kA [8] <| kSR 8 (iI p.off) rfl (fun _ _ ww hr => dN (po := 0) (j := (n - 1)) (row := [iI p.off,.string p.text]) (a9 w.heap.size 72 2 (.slice A1 n c1) (out.map pC)) hr rfl (by kernel_rfl) (by simp) (by simp only [List.getElem?_map,hp hpos]; rfl) (by kernel_rfl) (hgg hpos) rfl rfl) ?_
 refine cK [16,20,21] [44,0,1,5,6,7] 0 [(44,aB ((K6.wrap (p.off + (p.text.size : Int))) == ((i - m : Nat) : Int))),(0,.v (.slice Al l.length Cl)),(1,aI (m : Int)),(5,.v (.slice A1 n c1)),(6,aI (i : Int)),(7,aI ((n : Nat) : Int))] <| fY (t := [(44,aB ((K6.wrap (p.off + (p.text.size : Int))) == ((i - m : Nat) : Int))),(0,.v (.slice Al l.length Cl)),(1,aI (m : Int)),(5,.v (.slice A1 n c1)),(6,aI (i : Int)),(7,aI ((n : Nat) : Int))]) (t' := [(44,aB ((p.off + (p.text.size : Int)) == ((i - m : Nat) : Int))),(0,.v (.slice Al l.length Cl)),(1,aI (m : Int)),(5,.v (.slice A1 n c1)),(6,aI (i : Int)),(7,aI ((n : Nat) : Int))]) (by rw [show (K6.wrap (p.off + (p.text.size : Int))) = (p.off + (p.text.size : Int)) from al (by omega) (by omega)]) ?_
 refine kZ ?_
 exact ⟨⟨((p.off + (p.text.size : Int)) == ((i - m : Nat) : Int)),⟨fun h => ⟨hpos,eq_of_beq h⟩,fun h => beq_iff_eq.2 h.2⟩⟩,kF 0 0 [0,1,5,6,7,44]⟩
 have h4p := of_decide_eq_false h4
 have hn0 : n = 0 := by simp at h4; omega
 refine cK [3,4,5,6,7,8,9,10,11,12,13,14,15,16,17,18,19,20,21] [44,0,1,5,6,7] 0 [(44,aB false),(0,.v (.slice Al l.length Cl)),(1,aI (m : Int)),(5,.v (.slice A1 n c1)),(6,aI (i : Int)),(7,aI ((n : Nat) : Int))] <| kZ ?_
 exact ⟨⟨(false),⟨fun h => (by cases h),fun h => (by omega)⟩⟩,kF 0 0 [0,1,5,6,7,44]⟩
 rintro ⟨bq,hbq⟩
 try dsimp only
 try dsimp only at hbq
 refine kC (bq) (fun h5 => ?_) (fun h5 => ?_)
 obtain ⟨hpos,heq⟩ := hbq.1 h5
 have hpb := hbd p (List.mem_of_getElem? (hp hpos))
 refine ef (α := Nat) (fun y => (fun (g7 : Nat) => (⟨[(0,.v (.slice Al l.length Cl)),(1,aI (m : Int)),(5,.v (.slice A1 n c1)),(6,aI (i : Int))],[],[],[a9 w.heap.size 72 2 (.slice A1 n c1) ((out.set (n - 1) ⟨p.off,p.text ++ (ai ([x] : List Int))⟩).map pC),a9 w.heap.size 5 1 (.slice (some ⟨g7,0,none⟩) 1 1) (([x] : List Int).map bR),bz (.slice Al l.length Cl) 1 (l.map az)]⟩ : St)) y) ?_ ?_
 refine bw [] (by kernel_rfl) (fun ρ σ => ?_)
 refine cK [0,1,2,3,4,5,9,10] [55,54,50,48,47,45,0,1,5,6] 12 [(55,aI (i : Int)),(54,.v (.slice Al l.length Cl)),(50,aI (K6.wrap (((n : Nat) : Int) - 1))),(48,.v (.slice A1 n c1)),(47,aI (K6.wrap (((n : Nat) : Int) - 1))),(45,.v (.slice A1 n c1)),(0,.v (.slice Al l.length Cl)),(1,aI (m : Int)),(5,.v (.slice A1 n c1)),(6,aI (i : Int))] <| fY (t := [(55,aI (i : Int)),(54,.v (.slice Al l.length Cl)),(50,aI (K6.wrap (((n : Nat) : Int) - 1))),(48,.v (.slice A1 n c1)),(47,aI (K6.wrap (((n : Nat) : Int) - 1))),(45,.v (.slice A1 n c1)),(0,.v (.slice Al l.length Cl)),(1,aI (m : Int)),(5,.v (.slice A1 n c1)),(6,aI (i : Int))]) (t' := [(55,aI (i : Int)),(54,.v (.slice Al l.length Cl)),(50,aI ((n - 1 : Nat) : Int)),(48,.v (.slice A1 n c1)),(47,aI ((n - 1 : Nat) : Int)),(45,.v (.slice A1 n c1)),(0,.v (.slice Al l.length Cl)),(1,aI (m : Int)),(5,.v (.slice A1 n c1)),(6,aI (i : Int))]) (by rw [show (K6.wrap (((n : Nat) : Int) - 1)) = ((n - 1 : Nat) : Int) from by rw [al (by omega) (by omega)]; omega]) ?_
 refine kX 6 (.pointer (some ⟨gg,(n - 1) * 2,none⟩)) rfl (fun _ _ ww hA => e9 (kd := .i64) (T := 44) (e := 72) (K := 2) (g := gg) (N := n) (cap := c1) (n - 1) (hgg hpos) hA rfl rfl (by kernel_rfl) (by kernel_rfl) (by kernel_rfl) (by omega) ww) ?_
 refine kX 7 (.pointer (some ⟨gg,(n - 1) * 2 + 1,none⟩)) rfl (fun _ _ ww hA => df (sz := 1) (b := gg) (m := (n - 1) * 2) hA rfl Try.underlying72 rfl (by kernel_rfl) rfl (by kernel_rfl) rfl) ?_
 refine kX 11 (.pointer (some ⟨bb,ob + i * 1,none⟩)) rfl (fun _ _ ww hA => act_ixO (kd := .i64) (T := 57) (e := 3) (K := 1) (b := bb) (off := ob) (N := l.length) (cap := Cl) i hbb hA rfl rfl (by kernel_rfl) (by kernel_rfl) (by kernel_rfl) hlt ww) ?_
 refine kA [8,12] ⟨?_,?_⟩
 refine kSR 8 (.string p.text) rfl (fun _ _ ww hr => dN (po := 1) (j := (n - 1)) (row := [iI p.off,.string p.text]) (a9 w.heap.size 72 2 (.slice A1 n c1) (out.map pC)) hr rfl (by kernel_rfl) (by simp) (by simp only [List.getElem?_map,hp hpos]; rfl) (by kernel_rfl) (hgg hpos) rfl rfl) ?_
 refine kA [12] <| kSR 12 (iI x) rfl (fun _ _ ww hr => ldS_run (j := i) (row := [iI x]) (bz (.slice Al l.length Cl) 1 (l.map az)) hr rfl (by kernel_rfl) (by simp) (by simp only [List.getElem?_map,hx]; rfl) (by kernel_rfl) hbb rfl) ?_
 refine cK [13] [58,53,47,45,0,1,5,6] 6 [(58,.v (.int .u8 (IntKind.u8.wrap x))),(53,.v (.string p.text)),(47,aI ((n - 1 : Nat) : Int)),(45,.v (.slice A1 n c1)),(0,.v (.slice Al l.length Cl)),(1,aI (m : Int)),(5,.v (.slice A1 n c1)),(6,aI (i : Int))] <| fY (t := [(58,.v (.int .u8 (IntKind.u8.wrap x))),(53,.v (.string p.text)),(47,aI ((n - 1 : Nat) : Int)),(45,.v (.slice A1 n c1)),(0,.v (.slice Al l.length Cl)),(1,aI (m : Int)),(5,.v (.slice A1 n c1)),(6,aI (i : Int))]) (t' := [(58,.v (.int .u8 x)),(53,.v (.string p.text)),(47,aI ((n - 1 : Nat) : Int)),(45,.v (.slice A1 n c1)),(0,.v (.slice Al l.length Cl)),(1,aI (m : Int)),(5,.v (.slice A1 n c1)),(6,aI (i : Int))]) (by rw [show (IntKind.u8.wrap x) = x from u8_id (by omega) (by omega)]) ?_
 refine kA [14] <| dG 14 rfl a7 (aQ (e := 5) (K := 1) (bytes := 1) [.int .u8 x] (rs := ([x] : List Int).map bR) rfl rfl) ?_
 intro g7
 refine kA [15] <| kSR 15 (.string (ai ([x] : List Int))) rfl (fun _ _ ww hr => cG (e := 5) ([x] : List Int) hr.1 rfl (by kernel_rfl) (by kernel_rfl) (by kernel_rfl) rfl (au (hr.2.fact (a9 w.heap.size 5 1 (.slice (some ⟨g7,0,none⟩) 1 1) (([x] : List Int).map bR)) (by simp)).1)) ?_
 refine kX 16 (.string (p.text ++ (ai ([x] : List Int)))) rfl (fun _ _ ww hA => ck hA rfl (by kernel_rfl) (by kernel_rfl) (str_add (by first | omega | (simp only [ByteArray.size_extract]; omega)) ww)) ?_
 refine kX 17 (.pointer (some ⟨gg,(n - 1) * 2,none⟩)) rfl (fun _ _ ww hA => e9 (kd := .i64) (T := 44) (e := 72) (K := 2) (g := gg) (N := n) (cap := c1) (n - 1) (hgg hpos) hA rfl rfl (by kernel_rfl) (by kernel_rfl) (by kernel_rfl) (by omega) ww) ?_
 refine kX 18 (.pointer (some ⟨gg,(n - 1) * 2 + 1,none⟩)) rfl (fun _ _ ww hA => df (sz := 1) (b := gg) (m := (n - 1) * 2) hA rfl Try.underlying72 rfl (by kernel_rfl) rfl (by kernel_rfl) rfl) ?_
 refine kA [19] <| xs_hsG 19 gg rfl (by kernel_rfl) (by kernel_rfl) (by kernel_rfl) a7 (fun kk rr hk => by simp at hk) (hs_stR (g := gg) (B := w.heap.size) (e := 72) (K := 2) (N := n) (cap := c1) (rs := (out.map pC)) (rs' := (out.set (n - 1) ⟨p.off,p.text ++ (ai ([x] : List Int))⟩).map pC) (v := (.string (p.text ++ (ai ([x] : List Int))))) (i := 1) (off := (n - 1) * 2 + 1) (n - 1) 1 [iI p.off,.string p.text] (row' := [iI p.off,.string (p.text ++ (ai ([x] : List Int)))]) (hgg hpos) rfl (by kernel_rfl) rfl (by kernel_rfl) (by kernel_rfl) (by kernel_rfl) (by kernel_rfl) (Nat.le_refl _) (by simp only [List.getElem?_map,hp hpos]; rfl) (by kernel_rfl) rfl (by rw [List.map_set]; rfl)) ?_
 refine kZ ?_
 exact ⟨(g7),kF 0 0 [0,1,5,6]⟩
 refine kSR 12 (iI x) rfl (fun _ _ ww hr => ldS_run (j := i) (row := [iI x]) (bz (.slice Al l.length Cl) 1 (l.map az)) hr rfl (by kernel_rfl) (by simp) (by simp only [List.getElem?_map,hx]; rfl) (by kernel_rfl) hbb rfl) ?_
 refine cK [13] [58,52,47,45,0,1,5,6] 7 [(58,.v (.int .u8 (IntKind.u8.wrap x))),(52,.v (.pointer (some ⟨gg,(n - 1) * 2 + 1,none⟩))),(47,aI ((n - 1 : Nat) : Int)),(45,.v (.slice A1 n c1)),(0,.v (.slice Al l.length Cl)),(1,aI (m : Int)),(5,.v (.slice A1 n c1)),(6,aI (i : Int))] <| fY (t := [(58,.v (.int .u8 (IntKind.u8.wrap x))),(52,.v (.pointer (some ⟨gg,(n - 1) * 2 + 1,none⟩))),(47,aI ((n - 1 : Nat) : Int)),(45,.v (.slice A1 n c1)),(0,.v (.slice Al l.length Cl)),(1,aI (m : Int)),(5,.v (.slice A1 n c1)),(6,aI (i : Int))]) (t' := [(58,.v (.int .u8 x)),(52,.v (.pointer (some ⟨gg,(n - 1) * 2 + 1,none⟩))),(47,aI ((n - 1 : Nat) : Int)),(45,.v (.slice A1 n c1)),(0,.v (.slice Al l.length Cl)),(1,aI (m : Int)),(5,.v (.slice A1 n c1)),(6,aI (i : Int))]) (by rw [show (IntKind.u8.wrap x) = x from u8_id (by omega) (by omega)]) ?_
 refine kA [8,14] ⟨?_,?_⟩
 refine kSR 8 (.string p.text) rfl (fun _ _ ww hr => dN (po := 1) (j := (n - 1)) (row := [iI p.off,.string p.text]) (a9 w.heap.size 72 2 (.slice A1 n c1) (out.map pC)) hr rfl (by kernel_rfl) (by simp) (by simp only [List.getElem?_map,hp hpos]; rfl) (by kernel_rfl) (hgg hpos) rfl rfl) ?_
 refine kA [14] <| dG 14 rfl a7 (aQ (e := 5) (K := 1) (bytes := 1) [.int .u8 x] (rs := ([x] : List Int).map bR) rfl rfl) ?_
 intro g10
 refine kA [15] <| kSR 15 (.string (ai ([x] : List Int))) rfl (fun _ _ ww hr => cG (e := 5) ([x] : List Int) hr.1 rfl (by kernel_rfl) (by kernel_rfl) (by kernel_rfl) rfl (au (hr.2.fact (a9 w.heap.size 5 1 (.slice (some ⟨g10,0,none⟩) 1 1) (([x] : List Int).map bR)) (by simp)).1)) ?_
 refine kX 16 (.string (p.text ++ (ai ([x] : List Int)))) rfl (fun _ _ ww hA => ck hA rfl (by kernel_rfl) (by kernel_rfl) (str_add (by first | omega | (simp only [ByteArray.size_extract]; omega)) ww)) ?_
 refine kX 17 (.pointer (some ⟨gg,(n - 1) * 2,none⟩)) rfl (fun _ _ ww hA => e9 (kd := .i64) (T := 44) (e := 72) (K := 2) (g := gg) (N := n) (cap := c1) (n - 1) (hgg hpos) hA rfl rfl (by kernel_rfl) (by kernel_rfl) (by kernel_rfl) (by omega) ww) ?_
 refine kX 18 (.pointer (some ⟨gg,(n - 1) * 2 + 1,none⟩)) rfl (fun _ _ ww hA => df (sz := 1) (b := gg) (m := (n - 1) * 2) hA rfl Try.underlying72 rfl (by kernel_rfl) rfl (by kernel_rfl) rfl) ?_
 refine kA [19] <| xs_hsG 19 gg rfl (by kernel_rfl) (by kernel_rfl) (by kernel_rfl) a7 (fun kk rr hk => by simp at hk) (hs_stR (g := gg) (B := w.heap.size) (e := 72) (K := 2) (N := n) (cap := c1) (rs := (out.map pC)) (rs' := (out.set (n - 1) ⟨p.off,p.text ++ (ai ([x] : List Int))⟩).map pC) (v := (.string (p.text ++ (ai ([x] : List Int))))) (i := 1) (off := (n - 1) * 2 + 1) (n - 1) 1 [iI p.off,.string p.text] (row' := [iI p.off,.string (p.text ++ (ai ([x] : List Int)))]) (hgg hpos) rfl (by kernel_rfl) rfl (by kernel_rfl) (by kernel_rfl) (by kernel_rfl) (by kernel_rfl) (Nat.le_refl _) (by simp only [List.getElem?_map,hp hpos]; rfl) (by kernel_rfl) rfl (by rw [List.map_set]; rfl)) ?_
 refine kZ ?_
 exact ⟨(g10),kF 0 0 [0,1,5,6]⟩
 refine dG 14 rfl a7 (aQ (e := 5) (K := 1) (bytes := 1) [.int .u8 x] (rs := ([x] : List Int).map bR) rfl rfl) ?_
 intro g11
 refine kA [8,15] ⟨?_,?_⟩
 refine kSR 8 (.string p.text) rfl (fun _ _ ww hr => dN (po := 1) (j := (n - 1)) (row := [iI p.off,.string p.text]) (a9 w.heap.size 72 2 (.slice A1 n c1) (out.map pC)) hr rfl (by kernel_rfl) (by simp) (by simp only [List.getElem?_map,hp hpos]; rfl) (by kernel_rfl) (hgg hpos) rfl rfl) ?_
 refine kA [15] <| kSR 15 (.string (ai ([x] : List Int))) rfl (fun _ _ ww hr => cG (e := 5) ([x] : List Int) hr.1 rfl (by kernel_rfl) (by kernel_rfl) (by kernel_rfl) rfl (au (hr.2.fact (a9 w.heap.size 5 1 (.slice (some ⟨g11,0,none⟩) 1 1) (([x] : List Int).map bR)) (by simp)).1)) ?_
 refine kX 16 (.string (p.text ++ (ai ([x] : List Int)))) rfl (fun _ _ ww hA => ck hA rfl (by kernel_rfl) (by kernel_rfl) (str_add (by first | omega | (simp only [ByteArray.size_extract]; omega)) ww)) ?_
 refine kX 17 (.pointer (some ⟨gg,(n - 1) * 2,none⟩)) rfl (fun _ _ ww hA => e9 (kd := .i64) (T := 44) (e := 72) (K := 2) (g := gg) (N := n) (cap := c1) (n - 1) (hgg hpos) hA rfl rfl (by kernel_rfl) (by kernel_rfl) (by kernel_rfl) (by omega) ww) ?_
 refine kX 18 (.pointer (some ⟨gg,(n - 1) * 2 + 1,none⟩)) rfl (fun _ _ ww hA => df (sz := 1) (b := gg) (m := (n - 1) * 2) hA rfl Try.underlying72 rfl (by kernel_rfl) rfl (by kernel_rfl) rfl) ?_
 refine kA [19] <| xs_hsG 19 gg rfl (by kernel_rfl) (by kernel_rfl) (by kernel_rfl) a7 (fun kk rr hk => by simp at hk) (hs_stR (g := gg) (B := w.heap.size) (e := 72) (K := 2) (N := n) (cap := c1) (rs := (out.map pC)) (rs' := (out.set (n - 1) ⟨p.off,p.text ++ (ai ([x] : List Int))⟩).map pC) (v := (.string (p.text ++ (ai ([x] : List Int))))) (i := 1) (off := (n - 1) * 2 + 1) (n - 1) 1 [iI p.off,.string p.text] (row' := [iI p.off,.string (p.text ++ (ai ([x] : List Int)))]) (hgg hpos) rfl (by kernel_rfl) rfl (by kernel_rfl) (by kernel_rfl) (by kernel_rfl) (by kernel_rfl) (Nat.le_refl _) (by simp only [List.getElem?_map,hp hpos]; rfl) (by kernel_rfl) rfl (by rw [List.map_set]; rfl)) ?_
 refine kZ ?_
 exact ⟨(g11),kF 0 0 [0,1,5,6]⟩
 refine kSR 15 (.string (ai ([x] : List Int))) rfl (fun _ _ ww hr => cG (e := 5) ([x] : List Int) hr.1 rfl (by kernel_rfl) (by kernel_rfl) (by kernel_rfl) rfl (au (hr.2.fact (a9 w.heap.size 5 1 (.slice (some ⟨g11,0,none⟩) 1 1) (([x] : List Int).map bR)) (by simp)).1)) ?_
 refine kA [8] <| kSR 8 (.string p.text) rfl (fun _ _ ww hr => dN (po := 1) (j := (n - 1)) (row := [iI p.off,.string p.text]) (a9 w.heap.size 72 2 (.slice A1 n c1) (out.map pC)) hr rfl (by kernel_rfl) (by simp) (by simp only [List.getElem?_map,hp hpos]; rfl) (by kernel_rfl) (hgg hpos) rfl rfl) ?_
 refine kX 16 (.string (p.text ++ (ai ([x] : List Int)))) rfl (fun _ _ ww hA => ck hA rfl (by kernel_rfl) (by kernel_rfl) (str_add (by first | omega | (simp only [ByteArray.size_extract]; omega)) ww)) ?_
 refine kX 17 (.pointer (some ⟨gg,(n - 1) * 2,none⟩)) rfl (fun _ _ ww hA => e9 (kd := .i64) (T := 44) (e := 72) (K := 2) (g := gg) (N := n) (cap := c1) (n - 1) (hgg hpos) hA rfl rfl (by kernel_rfl) (by kernel_rfl) (by kernel_rfl) (by omega) ww) ?_
 refine kX 18 (.pointer (some ⟨gg,(n - 1) * 2 + 1,none⟩)) rfl (fun _ _ ww hA => df (sz := 1) (b := gg) (m := (n - 1) * 2) hA rfl Try.underlying72 rfl (by kernel_rfl) rfl (by kernel_rfl) rfl) ?_
 refine kA [19] <| xs_hsG 19 gg rfl (by kernel_rfl) (by kernel_rfl) (by kernel_rfl) a7 (fun kk rr hk => by simp at hk) (hs_stR (g := gg) (B := w.heap.size) (e := 72) (K := 2) (N := n) (cap := c1) (rs := (out.map pC)) (rs' := (out.set (n - 1) ⟨p.off,p.text ++ (ai ([x] : List Int))⟩).map pC) (v := (.string (p.text ++ (ai ([x] : List Int))))) (i := 1) (off := (n - 1) * 2 + 1) (n - 1) 1 [iI p.off,.string p.text] (row' := [iI p.off,.string (p.text ++ (ai ([x] : List Int)))]) (hgg hpos) rfl (by kernel_rfl) rfl (by kernel_rfl) (by kernel_rfl) (by kernel_rfl) (by kernel_rfl) (Nat.le_refl _) (by simp only [List.getElem?_map,hp hpos]; rfl) (by kernel_rfl) rfl (by rw [List.map_set]; rfl)) ?_
 refine kZ ?_
 exact ⟨(g11),kF 0 0 [0,1,5,6]⟩
 intro g7
 refine kG <| kRF 3 [0,1,5,6] ⟨[(0,.v (.slice Al l.length Cl)),(1,aI (m : Int)),(5,.v (.slice A1 n c1)),(6,aI (K6.wrap ((i : Int) + 1)))],[],[],[a9 w.heap.size 72 2 (.slice A1 n c1) ((out.set (n - 1) ⟨p.off,p.text ++ (ai ([x] : List Int))⟩).map pC),a9 w.heap.size 5 1 (.slice (some ⟨g7,0,none⟩) 1 1) (([x] : List Int).map bR),bz (.slice Al l.length Cl) 1 (l.map az)]⟩ <| gd (t' := [(0,.v (.slice Al l.length Cl)),(1,aI (m : Int)),(5,.v (.slice A1 n c1)),(6,aI ((i : Int) + 1))]) (by rw [show (K6.wrap ((i : Int) + 1)) = ((i : Int) + 1) from al (by omega) (by omega)]) ?_
 refine aD [0,1,5,6] [(0,.v (.slice Al l.length Cl)),(1,aI (m : Int)),(5,.v (.slice A1 n c1)),(6,aI ((i : Int) + 1))] ?_
 have hadd : f0 out (i - m) x = (out.set (n - 1) ⟨p.off,p.text ++ (ai ([x] : List Int))⟩) := by first | (rw [addByte_set (p := p) (by rw [hn]; exact hp hpos) heq,hn]) | (exact if hz : 0 < n then addByte_far (p := p) (by rw [hn]; exact hp hz) (fun e => heqn ⟨hz,e⟩) else addByte_nil (by omega))
 exact ⟨⟨(i + 1,(out.set (n - 1) ⟨p.off,p.text ++ (ai ([x] : List Int))⟩),A1,c1,n),⟨(by (try dsimp only); omega),(by rw [HP,hps,if_neg (by omega),hadd]),(by rw [← hadd]; intro q hq; have := addByte_bd hbd q hq; (try dsimp only); omega),(by simp [hn]),(by (try dsimp only); (try simp only [List.length_append,List.length_cons,List.length_nil]); omega)⟩⟩,en [0,2] <| kF 0 0 [0,1,5,6],by show (fun (i : Nat) (out : List Pce) (A1 : Option Addr) (c1 : Nat) (n : Nat) => l.length - i) (i + 1) (out.set (n - 1) ⟨p.off,p.text ++ (ai ([x] : List Int))⟩) A1 c1 n < l.length - i; (dsimp only; omega)⟩
 have heqn : ¬ (0 < n ∧ p.off + (p.text.size : Int) = ((i - m : Nat) : Int)) := fun e => by rw [hbq.2 e] at h5; cases h5
 refine kG <| kOS 6 [0,1,5,6,64,67,68,69] [(0,.v (.slice Al l.length Cl)),(1,aI (m : Int)),(5,.v (.slice A1 n c1)),(6,aI (i : Int)),(64,.v (.slice A1 n c1)),(67,aI (K6.wrap ((i : Int) - (m : Int)))),(68,.v (.slice Al l.length Cl)),(69,aI (i : Int))] (.pointer (some ⟨bb,ob + i * 1,none⟩)) rfl (fun _ _ _ ww hr => act_ixO (kd := .i64) (T := 57) (e := 3) (K := 1) (b := bb) (off := ob) (N := l.length) (cap := Cl) i hbb hr.1 rfl rfl (by kernel_rfl) (by kernel_rfl) (by kernel_rfl) hlt ww) ?_
 refine kOS 0 [0,1,5,6,64,67,70] [(0,.v (.slice Al l.length Cl)),(1,aI (m : Int)),(5,.v (.slice A1 n c1)),(6,aI (i : Int)),(64,.v (.slice A1 n c1)),(67,aI (K6.wrap ((i : Int) - (m : Int)))),(70,.v (.pointer (some ⟨bb,ob + i * 1,none⟩)))] (iI x) rfl (fun _ _ _ ww hr => ldS_run (j := i) (row := [iI x]) (bz (.slice Al l.length Cl) 1 (l.map az)) hr rfl (by kernel_rfl) (by simp) (by simp only [List.getElem?_map,hx]; rfl) (by kernel_rfl) hbb rfl) ?_
 refine kHS 1 [0,1,5,6,64,67,72] [(0,.v (.slice Al l.length Cl)),(1,aI (m : Int)),(5,.v (.slice A1 n c1)),(6,aI (i : Int)),(64,.v (.slice A1 n c1)),(67,aI (K6.wrap ((i : Int) - (m : Int)))),(72,.v (.int .u8 (IntKind.u8.wrap x)))] rfl (aQ (e := 5) (K := 1) (bytes := 1) [.int .u8 (IntKind.u8.wrap x)] (rs := ([IntKind.u8.wrap x] : List Int).map bR) rfl rfl) ?_
 intro g12
 refine kOS 0 [0,1,5,6,64,67,73] [(0,.v (.slice Al l.length Cl)),(1,aI (m : Int)),(5,.v (.slice A1 n c1)),(6,aI (i : Int)),(64,.v (.slice A1 n c1)),(67,aI (K6.wrap ((i : Int) - (m : Int)))),(73,.v (.slice (some ⟨g12,0,none⟩) 1 1))] (.string (ai ([IntKind.u8.wrap x] : List Int))) rfl (fun _ _ _ ww hr => cG (e := 5) ([IntKind.u8.wrap x] : List Int) hr.1 rfl (by kernel_rfl) (by kernel_rfl) (by kernel_rfl) rfl (au (hr.2.fact (a9 w.heap.size 5 1 (.slice (some ⟨g12,0,none⟩) 1 1) (([IntKind.u8.wrap x] : List Int).map bR)) (by simp)).1)) ?_
 refine kOS 0 [0,1,5,6,64,67,74] [(0,.v (.slice Al l.length Cl)),(1,aI (m : Int)),(5,.v (.slice A1 n c1)),(6,aI (i : Int)),(64,.v (.slice A1 n c1)),(67,aI (K6.wrap ((i : Int) - (m : Int)))),(74,.v (.string (ai ([IntKind.u8.wrap x] : List Int))))] (.agg (pceL (⟨K6.wrap ((i : Int) - (m : Int)),ai ([IntKind.u8.wrap x] : List Int)⟩ : Pce)).toArray) rfl (fun _ _ _ ww hr => aH [(0,iI (K6.wrap ((i : Int) - (m : Int)))),(1,.string (ai ([IntKind.u8.wrap x] : List Int)))] hr.1 rfl (by kernel_rfl) (by kernel_rfl) ww) ?_
 refine kHS 0 [0,1,5,6,64,75] [(0,.v (.slice Al l.length Cl)),(1,aI (m : Int)),(5,.v (.slice A1 n c1)),(6,aI (i : Int)),(64,.v (.slice A1 n c1)),(75,.v (.agg (pceL (⟨K6.wrap ((i : Int) - (m : Int)),ai ([IntKind.u8.wrap x] : List Int)⟩ : Pce)).toArray))] rfl (aQ (e := 72) (K := 2) (bytes := 24) [.agg (pceL (⟨K6.wrap ((i : Int) - (m : Int)),ai ([IntKind.u8.wrap x] : List Int)⟩ : Pce)).toArray] (rs := ([⟨K6.wrap ((i : Int) - (m : Int)),ai ([IntKind.u8.wrap x] : List Int)⟩] : List Pce).map pC) rfl rfl) ?_
 intro g13
 refine kHS 0 [0,1,5,6,64,76] [(0,.v (.slice Al l.length Cl)),(1,aI (m : Int)),(5,.v (.slice A1 n c1)),(6,aI (i : Int)),(64,.v (.slice A1 n c1)),(76,.v (.slice (some ⟨g13,0,none⟩) 1 1))] rfl (aG (e := 72) (K := 2) (bytes := 24) (i := 2) (q := (out ++ ([⟨K6.wrap ((i : Int) - (m : Int)),ai ([IntKind.u8.wrap x] : List Int)⟩] : List Pce)).length) (new := ([⟨K6.wrap ((i : Int) - (m : Int)),ai ([IntKind.u8.wrap x] : List Int)⟩] : List Pce).map pC) (rs' := (out ++ ([⟨K6.wrap ((i : Int) - (m : Int)),ai ([IntKind.u8.wrap x] : List Int)⟩] : List Pce)).map pC) rfl rfl rfl rfl (by kernel_rfl) (by kernel_rfl) (by kernel_rfl) rfl (by simp) (by rw [List.map_append]) (by simp) (fun ww hf => (au (hf (a9 w.heap.size 72 2 (.slice (some ⟨g13,0,none⟩) 1 1) (([⟨K6.wrap ((i : Int) - (m : Int)),ai ([IntKind.u8.wrap x] : List Int)⟩] : List Pce).map pC)) (by simp)))) (by intro r hr; obtain ⟨x,hx,rfl⟩ := List.mem_map.1 hr; exact ⟨rfl,by simp [pC,Value.oneCell']⟩) (by (try simp only [List.length_map,List.length_append,List.length_cons,List.length_nil,List.length_take,List.length_drop,maxLen]); omega) (by (try simp only [List.length_map,List.length_append,List.length_cons,List.length_nil,List.length_take,List.length_drop,maxLen]); omega)) ?_
 rintro ⟨v14a,v14c⟩
 refine eo 1 [0,1,5,6] [(0,.v (.slice Al l.length Cl)),(1,aI (m : Int)),(5,.v (.slice v14a ((out ++ ([⟨K6.wrap ((i : Int) - (m : Int)),ai ([IntKind.u8.wrap x] : List Int)⟩] : List Pce)).length) v14c)),(6,aI (i : Int))] <| xl_eq (st' := ⟨[(0,.v (.slice Al l.length Cl)),(1,aI (m : Int)),(5,.v (.slice v14a ((out ++ ([⟨((i - m : Nat) : Int),ai ([x] : List Int)⟩] : List Pce)).length) v14c)),(6,aI (i : Int))],[],[],[a9 w.heap.size 72 2 (.slice v14a ((out ++ ([⟨((i - m : Nat) : Int),ai ([x] : List Int)⟩] : List Pce)).length) v14c) ((out ++ ([⟨((i - m : Nat) : Int),ai ([x] : List Int)⟩] : List Pce)).map pC),a9 w.heap.size 72 2 (.slice (some ⟨g13,0,none⟩) 1 1) (([⟨((i - m : Nat) : Int),ai ([x] : List Int)⟩] : List Pce).map pC),a9 w.heap.size 5 1 (.slice (some ⟨g12,0,none⟩) 1 1) (([x] : List Int).map bR),bz (.slice Al l.length Cl) 1 (l.map az)]⟩) (by rw [show (K6.wrap ((i : Int) - (m : Int))) = ((i - m : Nat) : Int) from by rw [al (by omega) (by omega)]; omega,show (IntKind.u8.wrap x) = x from u8_id (by omega) (by omega)] <;> rfl) ?_
 refine aD [0,1,5,6] [(0,.v (.slice Al l.length Cl)),(1,aI (m : Int)),(5,.v (.slice v14a ((out ++ ([⟨((i - m : Nat) : Int),ai ([x] : List Int)⟩] : List Pce)).length) v14c)),(6,aI (i : Int))] <| kG <| eo 3 [0,1,5,6] [(0,.v (.slice Al l.length Cl)),(1,aI (m : Int)),(5,.v (.slice v14a ((out ++ ([⟨((i - m : Nat) : Int),ai ([x] : List Int)⟩] : List Pce)).length) v14c)),(6,aI (K6.wrap ((i : Int) + 1)))] <| gd (t' := [(0,.v (.slice Al l.length Cl)),(1,aI (m : Int)),(5,.v (.slice v14a ((out ++ ([⟨((i - m : Nat) : Int),ai ([x] : List Int)⟩] : List Pce)).length) v14c)),(6,aI ((i : Int) + 1))]) (by rw [show (K6.wrap ((i : Int) + 1)) = ((i : Int) + 1) from al (by omega) (by omega)]) ?_
 refine aD [0,1,5,6] [(0,.v (.slice Al l.length Cl)),(1,aI (m : Int)),(5,.v (.slice v14a ((out ++ ([⟨((i - m : Nat) : Int),ai ([x] : List Int)⟩] : List Pce)).length) v14c)),(6,aI ((i : Int) + 1))] ?_
 have hadd : f0 out (i - m) x = (out ++ ([⟨((i - m : Nat) : Int),ai ([x] : List Int)⟩] : List Pce)) := by first | (rw [addByte_set (p := p) (by rw [hn]; exact hp hpos) heq,hn]) | (exact if hz : 0 < n then addByte_far (p := p) (by rw [hn]; exact hp hz) (fun e => heqn ⟨hz,e⟩) else addByte_nil (by omega))
 exact ⟨⟨(i + 1,(out ++ ([⟨((i - m : Nat) : Int),ai ([x] : List Int)⟩] : List Pce)),v14a,v14c,(out ++ ([⟨((i - m : Nat) : Int),ai ([x] : List Int)⟩] : List Pce)).length),⟨(by (try dsimp only); omega),(by rw [HP,hps,if_neg (by omega),hadd]),(by rw [← hadd]; intro q hq; have := addByte_bd hbd q hq; (try dsimp only); omega),(by simp [hn]),(by (try dsimp only); (try simp only [List.length_append,List.length_cons,List.length_nil]); omega)⟩⟩,en [0,3] <| kF 0 0 [0,1,5,6],by show (fun (i : Nat) (out : List Pce) (A1 : Option Addr) (c1 : Nat) (n : Nat) => l.length - i) (i + 1) (out ++ ([⟨((i - m : Nat) : Int),ai ([x] : List Int)⟩] : List Pce)) v14a v14c ((out ++ ([⟨((i - m : Nat) : Int),ai ([x] : List Int)⟩] : List Pce)).length) < l.length - i; (dsimp only; omega)⟩
 have h2p := of_decide_eq_false h2
 have hge : i = l.length := by simp at h2; omega
 rw [hge,List.drop_length,gb] at HP
 refine c5 <| kQ <| aD [4] [(4,.v (.slice A1 n c1))] <| kR ?_
 have hmod : gb [] 0 (l.drop m) = out := by exact HP
 exact ⟨[.slice A1 n c1],by kernel_rfl,fun w' hb hf ha => by rw [hmod,hn]; exact xo1 ((A1,c1)) rfl rfl (pW (hf _ m0) hB) hb⟩
theorem ysArrived_c (r : Rcv) (r_heldV : Value) (seq : Int) (text : ByteArray) (fin : Bool) (w : World) (hl_r_heldV : Sl w r_heldV 2 (r.held.map pC)) (hkn : r.held.length ≤ 1048576) (hm : ∀ p ∈ r.held, p.text.size ≤ 1048576) (hsz : r.data.size ≤ 4611686018427387904) (hts : text.size ≤ 4611686018427387904) (B : Nat) (hB : B ≤ w.heap.size) : Calls Try.prog 82 #[.agg (ab r r_heldV).toArray, iI seq, .string text, .bool fin] w fun e w' => XRs w w' e (α := Option Addr × Nat) (fun y => .agg (ab (ah r seq text fin) (.slice y.1 ((ah r seq text fin).held.length) y.2)).toArray) (fun y => [a9 B 72 2 (.slice y.1 ((ah r seq text fin).held.length) y.2) ((ah r seq text fin).held.map pC)]) := by
 obtain ⟨Arh,Crh,hvrh⟩ := hl_r_heldV.form
 rw [List.length_map] at hvrh; subst hvrh
 have hnrh := hl_r_heldV.len; rw [List.length_map] at hnrh
 have hqrh := Sl.capLe hl_r_heldV
 refine bJ (args := [.agg (ab r (.slice Arh r.held.length Crh)).toArray,iI seq,.string text,.bool fin]) (fn := Try.f82) [bz (.slice Arh r.held.length Crh) 2 (r.held.map pC)] Try.func82 rfl Try.ntmps82 rfl (by simp only [List.mem_cons,List.not_mem_nil,or_false,forall_eq_or_imp,forall_eq]; exact ⟨rfl,hl_r_heldV⟩) ?_
 refine kQ <| cv [1,2,3,4,8] ⟨[(1,aI seq),(2,.v (.string text)),(3,aB fin),(4,.p 0 0),(8,.p 1 0)],[⟨46,ab r (.slice Arh r.held.length Crh)⟩,⟨46,eV⟩],[],[bz (.slice Arh r.held.length Crh) 2 (r.held.map pC)]⟩ <| kQ <| dZ 1 [1,2,3,4,8,17] [(17,.v (.agg (ab r (.slice Arh r.held.length Crh)).toArray))] 34 [.agg (ab r (.slice Arh r.held.length Crh)).toArray] (some 18) rfl (cm fun ww hw hf => fO r (.slice Arh r.held.length Crh) ww (hf _ m0) (by assumption) w.heap.size hw) ?_
 rintro ⟨v1a,v1c⟩
 refine kEA [1,2,3,4,8,9] [(9,.p 2 0)] [⟨46,ab r (.slice v1a r.held.length v1c)⟩] <| kS <| kQ <| dZ 1 [1,2,3,4,8,9,19] [(19,.v (.agg (ab r (.slice Arh r.held.length Crh)).toArray))] 86 [.agg (ab r (.slice Arh r.held.length Crh)).toArray] (some 20) rfl (br fun ww hf => fV r (.slice Arh r.held.length Crh) ww (hf _ m1) (by assumption) (by omega)) ?_
 intro _
 refine dK 2 [1,2,3,4,8,9,22] [(22,aB (!(rO r)))] <| kP 22 (!(rO r)) (fun h2 => ?_) (fun h2 => ?_)
 have h2n := co h2
 refine aU [1,2,3,4,8,9,25] [(25,aB true)] <| kT <| kQ <| ba [8] [(8,.p 1 0)] 1 ⟨46,ab r (.slice v1a r.held.length v1c)⟩ ?_
 refine kR ?_
 have hmod : ah r seq text fin = r := by first | exact ek hrk (by assumption) (by rw [← hall,← hnf]; omega) | (unfold ah; rw [if_neg (by grind)]; done) | (unfold ah; rw [if_pos (by grind),← hall,← hnf,← hg2,← hfp]; first | (rw [if_pos (by omega)]; done) | (rw [if_neg (by omega),if_pos (by first | omega | simp_all)]; done) | (rw [if_neg (by omega),if_neg (by first | omega | simp_all)]; done))
 exact ⟨[.agg (ab r (.slice v1a r.held.length v1c)).toArray],by kernel_rfl,fun w' hb hf ha => by rw [hmod]; exact xo1 ((v1a,v1c)) rfl rfl (pW (hf _ m0) hB) hb⟩
 have h2n := bj h2
 have hrk := h2n
 obtain ⟨hf0,hf1,hf2,hf3,hf4,hheld⟩ := rok_facts h2n
 have hwb := fE r
 have hN := slotsOf_len r
 have hsqt := seqAdd_in seq (text.size : Int)
 refine aU [1,2,3,4,8,9,25] [(25,aB r.done)] <| kC (r.done) (fun h3 => ?_) (fun h3 => ?_)
 refine kQ <| ba [8] [(8,.p 1 0)] 1 ⟨46,ab r (.slice v1a r.held.length v1c)⟩ <| kR ?_
 have hmod : ah r seq text fin = r := by first | exact ek hrk (by assumption) (by rw [← hall,← hnf]; omega) | (unfold ah; rw [if_neg (by grind)]; done) | (unfold ah; rw [if_pos (by grind),← hall,← hnf,← hg2,← hfp]; first | (rw [if_pos (by omega)]; done) | (rw [if_neg (by omega),if_pos (by first | omega | simp_all)]; done) | (rw [if_neg (by omega),if_neg (by first | omega | simp_all)]; done))
 exact ⟨[.agg (ab r (.slice v1a r.held.length v1c)).toArray],by kernel_rfl,fun w' hb hf ha => by rw [hmod]; exact xo1 ((v1a,v1c)) rfl rfl (pW (hf _ m0) hB) hb⟩
 refine kK <| kQ <| dZ 1 [1,2,3,4,8,9,27] [(27,.v (.agg (ab r (.slice Arh r.held.length Crh)).toArray))] 65 [.agg (ab r (.slice Arh r.held.length Crh)).toArray] (some 28) rfl (br fun ww hf => e7 r.next r.data r.held (.slice Arh r.held.length Crh) r.fin r.done ww (by omega)) ?_
 intro _
 refine aU [1,2,3,4,8,9,10] [(10,aI (wO r))] <| kQ <| dZ 1 [1,2,3,4,8,9,10,29] [(29,.v (.agg (ab r (.slice Arh r.held.length Crh)).toArray))] 99 [.agg (ab r (.slice Arh r.held.length Crh)).toArray] (some 30) rfl (cm fun ww hw hf => yl18Slots_c r (.slice Arh r.held.length Crh) ww (hf _ m1) (by assumption) (by assumption) w.heap.size hw) ?_
 rintro ⟨v4a,v4c⟩
 refine aU [1,2,3,4,8,9,10,11] [(11,.v (.slice v4a ((aa r).length) v4c))] <| kS <| kQ <| aU [1,2,3,4,8,9,10,11,12] [(12,aI 0)] ?_
 refine aj <| xw_know (φ := ∃ g,True → v4a = some ⟨g,0,none⟩) (fun _ _ _ _ hr => know_row hr (K := 1) (rs := (aa r).map az) 0 rfl (j := 0) (row := az ((aa r)[0]'(by omega))) (fun _ => by rw [List.getElem?_map,List.getElem?_eq_getElem (by omega)]; rfl)) ?_
 rintro ⟨gg,hgg⟩
 refine bI (α := {x : Nat × List Int // (fun (i : Nat) (sl : List Int) => i ≤ text.size ∧ sl.length = 33 ∧ sl = gu r seq text (aa r) i) x.1 x.2}) (fun x => (fun (i : Nat) (sl : List Int) => (⟨[(1,aI seq),(2,.v (.string text)),(3,aB fin),(4,.p 0 0),(8,.p 1 0),(9,.p 2 0),(10,aI (wO r)),(11,.v (.slice v4a ((aa r).length) v4c)),(12,aI (i : Int))],[⟨46,ab r (.slice Arh r.held.length Crh)⟩,⟨46,eV⟩,⟨46,ab r (.slice v1a r.held.length v1c)⟩],[],[a9 w.heap.size 3 1 (.slice v4a ((aa r).length) v4c) (sl.map az),a9 w.heap.size 72 2 (.slice v1a r.held.length v1c) (r.held.map pC),bz (.slice Arh r.held.length Crh) 2 (r.held.map pC)]⟩ : St)) x.1.1 x.1.2) (fun x => (fun (i : Nat) (sl : List Int) => text.size - i) x.1.1 x.1.2) ⟨(0,(aa r)),⟨Nat.zero_le _,hN,rfl⟩⟩ (en [0,1,2] <| kF 3 0 [1,2,3,4,8,9,10,11,12]) ?_
 rintro ⟨⟨i,sl⟩,hi,hl,HS⟩
 try dsimp only
 try dsimp only at hi hl HS
 refine kS <| kQ <| aD [1,2,3,4,8,9,10,11,12,34] [(1,aI seq),(2,.v (.string text)),(3,aB fin),(4,.p 0 0),(8,.p 1 0),(9,.p 2 0),(10,aI (wO r)),(11,.v (.slice v4a ((aa r).length) v4c)),(12,aI (i : Int)),(34,aB (decide ((i : Int) < (text.size : Int))))] <| kC (decide ((i : Int) < (text.size : Int))) (fun h5 => ?_) (fun h5 => ?_)
 have h5p := of_decide_eq_true h5
 have hlti : i < text.size := by simpa using h5
 have hbt := gf text i
 have hsq := seqAdd_in seq (i : Int)
 refine kK <| kS <| aj <| kS <| bw [] (by kernel_rfl) (fun ρ σ => ?_)
 refine cK [0,1,3,4] [41,38,37,1,2,3,4,8,9,10,11,12] 4 [(41,aI r.next),(38,aI (i : Int)),(37,aI seq),(1,aI seq),(2,.v (.string text)),(3,aB fin),(4,.p 0 0),(8,.p 1 0),(9,.p 2 0),(10,aI (wO r)),(11,.v (.slice v4a ((aa r).length) v4c)),(12,aI (i : Int))] <| kA [2] <| d8 2 56 [iI seq,iI (i : Int)] (some 39) rfl (bF fun ww hf => bk seq (i : Int) ww ) ?_
 intro _
 refine cK [5] [42,1,2,3,4,8,9,10,11,12] 2 [(42,aI (K6.wrap ((sA seq (i : Int)) - r.next))),(1,aI seq),(2,.v (.string text)),(3,aB fin),(4,.p 0 0),(8,.p 1 0),(9,.p 2 0),(10,aI (wO r)),(11,.v (.slice v4a ((aa r).length) v4c)),(12,aI (i : Int))] <| xe_nv [42,1,2,3,4,8,9,10,11,12] [(42,aI (K6.wrap ((sA seq (i : Int)) - r.next)))] [(42,aI ((sA seq (i : Int)) - r.next))] (by rw [show (K6.wrap ((sA seq (i : Int)) - r.next)) = ((sA seq (i : Int)) - r.next) from al (by omega) (by omega)]) (by kernel_rfl) ?_
 refine kA [6] <| d8 6 74 [iI ((sA seq (i : Int)) - r.next)] (some 43) rfl (bF fun ww hf => fj ((sA seq (i : Int)) - r.next) ww ) ?_
 intro _
 refine xe_nv [43,42,1,2,3,4,8,9,10,11,12] [(43,aI (((sA seq (i : Int)) - r.next) % 4294967296))] [(43,aI ((cT r seq i : Nat) : Int))] (by rw [show (((sA seq (i : Int)) - r.next) % 4294967296) = ((cT r seq i : Nat) : Int) from offN_eq r seq i]) (by kernel_rfl) ?_
 refine cK [7] [13,1,2,3,4,8,9,10,11,12] 0 [(13,aI ((cT r seq i : Nat) : Int)),(1,aI seq),(2,.v (.string text)),(3,aB fin),(4,.p 0 0),(8,.p 1 0),(9,.p 2 0),(10,aI (wO r)),(11,.v (.slice v4a ((aa r).length) v4c)),(12,aI (i : Int))] <| kZ <| kQ <| dK 4 [1,2,3,4,8,9,10,11,12,13,47] [(47,aB (decide (((cT r seq i : Nat) : Int) < (wO r))))] ?_
 refine kP 47 (decide (((cT r seq i : Nat) : Int) < (wO r))) (fun h6 => ?_) (fun h6 => ?_)
 have h6p := of_decide_eq_true h6
 obtain ⟨x,hx⟩ : ∃ x,sl[cT r seq i]? = some x := ⟨_,List.getElem?_eq_getElem (by omega)⟩
 have hsx := slotAt_of hx
 refine dK 4 [1,2,3,4,8,9,10,11,12,13,47,51] [(47,aB true),(51,aB (decide (r.fin < 0)))] <| kP 51 (decide (r.fin < 0)) (fun h7 => ?_) (fun h7 => ?_)
 have h7p := of_decide_eq_true h7
 refine fD 9 [1,2,3,4,8,9,10,11,12,13,58,59,60] [(58,aB true),(59,.v (.slice v4a ((aa r).length) v4c)),(60,aI ((cT r seq i : Nat) : Int))] (.pointer (some ⟨gg,(cT r seq i) * 1,none⟩)) rfl (fun _ _ _ ww hr => e9 (kd := .i64) (T := 57) (e := 3) (K := 1) (g := gg) (N := ((aa r).length)) (cap := v4c) (cT r seq i) (hgg trivial) hr.1 rfl rfl (by kernel_rfl) (by kernel_rfl) (by kernel_rfl) (by omega) ww) ?_
 refine fD 0 [1,2,3,4,8,9,10,11,12,13,58,61] [] (iI x) rfl (fun _ _ _ ww hr => dN (po := 0) (j := (cT r seq i)) (row := [iI x]) (a9 w.heap.size 3 1 (.slice v4a ((aa r).length) v4c) (sl.map az)) hr rfl (by kernel_rfl) (by simp) (by simp only [List.getElem?_map,hx]; rfl) (by kernel_rfl) (hgg trivial) rfl rfl) ?_
 refine aU [1,2,3,4,8,9,10,11,12,13,64] [(64,aB (decide (x < 0)))] <| kC (decide (x < 0)) (fun h8 => ?_) (fun h8 => ?_)
 have h8p := of_decide_eq_true h8
 refine kG <| fD 4 [1,2,3,4,8,9,10,11,12,65,66,67,68] [(65,.v (.slice v4a ((aa r).length) v4c)),(66,aI ((cT r seq i : Nat) : Int)),(67,.v (.string text)),(68,aI (i : Int))] (.int .u8 (bP text i)) rfl (fun _ _ _ ww hr => act_tix (kd := .i64) (t := text) i hr.1 rfl rfl (by kernel_rfl) (by kernel_rfl) hlti ww) ?_
 refine fD 1 [1,2,3,4,8,9,10,11,12,65,66,70] [(70,aI (K6.wrap (bP text i)))] (.pointer (some ⟨gg,(cT r seq i) * 1,none⟩)) rfl (fun _ _ _ ww hr => e9 (kd := .i64) (T := 57) (e := 3) (K := 1) (g := gg) (N := ((aa r).length)) (cap := v4c) (cT r seq i) (hgg trivial) hr.1 rfl rfl (by kernel_rfl) (by kernel_rfl) (by kernel_rfl) (by omega) ww) ?_
 refine xl_hs 0 [1,2,3,4,8,9,10,11,12,70,71] ⟨[(1,aI seq),(2,.v (.string text)),(3,aB fin),(4,.p 0 0),(8,.p 1 0),(9,.p 2 0),(10,aI (wO r)),(11,.v (.slice v4a ((aa r).length) v4c)),(12,aI (i : Int)),(70,aI (K6.wrap (bP text i))),(71,.v (.pointer (some ⟨gg,(cT r seq i) * 1,none⟩)))],[⟨46,ab r (.slice Arh r.held.length Crh)⟩,⟨46,eV⟩,⟨46,ab r (.slice v1a r.held.length v1c)⟩],[],[a9 w.heap.size 3 1 (.slice v4a ((aa r).length) v4c) (sl.map az),a9 w.heap.size 72 2 (.slice v1a r.held.length v1c) (r.held.map pC),bz (.slice Arh r.held.length Crh) 2 (r.held.map pC)]⟩ (by kernel_rfl) rfl (by kernel_rfl) rfl (by kernel_rfl) (HSg.hs (hs_stR (g := gg) (B := w.heap.size) (e := 3) (K := 1) (N := ((aa r).length)) (cap := v4c) (rs := (sl.map az)) (rs' := (sl.set (cT r seq i) (K6.wrap (bP text i))).map az) (v := (iI (K6.wrap (bP text i)))) (i := 0) (off := (cT r seq i) * 1) (cT r seq i) 0 [iI x] (row' := [iI (K6.wrap (bP text i))]) (hgg trivial) rfl (by kernel_rfl) rfl (by kernel_rfl) (by kernel_rfl) (by kernel_rfl) (by kernel_rfl) (Nat.le_refl _) (by simp only [List.getElem?_map,hx]; rfl) (by kernel_rfl) rfl (by rw [List.map_set]; rfl))) ?_
 refine eo 0 [1,2,3,4,8,9,10,11,12] [(1,aI seq),(2,.v (.string text)),(3,aB fin),(4,.p 0 0),(8,.p 1 0),(9,.p 2 0),(10,aI (wO r)),(11,.v (.slice v4a ((aa r).length) v4c)),(12,aI (i : Int))] <| xl_eq (st' := ⟨[(1,aI seq),(2,.v (.string text)),(3,aB fin),(4,.p 0 0),(8,.p 1 0),(9,.p 2 0),(10,aI (wO r)),(11,.v (.slice v4a ((aa r).length) v4c)),(12,aI (i : Int))],[⟨46,ab r (.slice Arh r.held.length Crh)⟩,⟨46,eV⟩,⟨46,ab r (.slice v1a r.held.length v1c)⟩],[],[a9 w.heap.size 3 1 (.slice v4a ((aa r).length) v4c) ((sl.set (cT r seq i) (bP text i)).map az),a9 w.heap.size 72 2 (.slice v1a r.held.length v1c) (r.held.map pC),bz (.slice Arh r.held.length Crh) 2 (r.held.map pC)]⟩) (by rw [show (K6.wrap (bP text i)) = (bP text i) from al (by omega) (by omega)] <;> rfl) ?_
 refine aU [1,2,3,4,8,9,10,11,12] [] <| kG <| dK 3 [1,2,3,4,8,9,10,11,12] [(12,aI (K6.wrap ((i : Int) + 1)))] <| cJ [1,2,3,4,8,9,10,11,12] [(12,aI (K6.wrap ((i : Int) + 1)))] [(12,aI ((i : Int) + 1))] (by rw [show (K6.wrap ((i : Int) + 1)) = ((i : Int) + 1) from al (by omega) (by omega)]) (by kernel_rfl) ?_
 refine aU [1,2,3,4,8,9,10,11,12] [] ?_
 exact ⟨⟨(i + 1,(sl.set (cT r seq i) (bP text i))),⟨hlti,(by rw [List.length_set]; exact hl),(by rw [gu,← HS,eY]; first | (rw [if_pos (by refine ⟨by omega,by omega,?_⟩; rw [hsx]; omega)]) | (rw [if_neg (by intro hh; have hh1 := hh.1; have hh2 := hh.2.1; have hh3 := hh.2.2; (try rw [hsx] at hh3); omega)]))⟩⟩,kF 3 0 [1,2,3,4,8,9,10,11,12],by show (fun (i : Nat) (sl : List Int) => text.size - i) (i + 1) (sl.set (cT r seq i) (bP text i)) < text.size - i; (dsimp only; omega)⟩
 have h8p := of_decide_eq_false h8
 refine kK <| kG <| dK 3 [1,2,3,4,8,9,10,11,12] [(12,aI (K6.wrap ((i : Int) + 1)))] <| cJ [1,2,3,4,8,9,10,11,12] [(12,aI (K6.wrap ((i : Int) + 1)))] [(12,aI ((i : Int) + 1))] (by rw [show (K6.wrap ((i : Int) + 1)) = ((i : Int) + 1) from al (by omega) (by omega)]) (by kernel_rfl) ?_
 refine aU [1,2,3,4,8,9,10,11,12] [] ?_
 exact ⟨⟨(i + 1,sl),⟨hlti,hl,(by rw [gu,← HS,eY]; first | (rw [if_pos (by refine ⟨by omega,by omega,?_⟩; rw [hsx]; omega)]) | (rw [if_neg (by intro hh; have hh1 := hh.1; have hh2 := hh.2.1; have hh3 := hh.2.2; (try rw [hsx] at hh3); omega)]))⟩⟩,kF 3 0 [1,2,3,4,8,9,10,11,12],by show (fun (i : Nat) (sl : List Int) => text.size - i) (i + 1) sl < text.size - i; (dsimp only; omega)⟩
 have h7p := of_decide_eq_false h7
 refine dK 7 [1,2,3,4,8,9,10,11,12,13,58] [(58,aB (decide (((cT r seq i : Nat) : Int) < r.fin)))] <| kP 58 (decide (((cT r seq i : Nat) : Int) < r.fin)) (fun h9 => ?_) (fun h9 => ?_)
 have h9p := of_decide_eq_true h9
 refine fD 2 [1,2,3,4,8,9,10,11,12,13,58,59,60] [(58,aB true),(59,.v (.slice v4a ((aa r).length) v4c)),(60,aI ((cT r seq i : Nat) : Int))] (.pointer (some ⟨gg,(cT r seq i) * 1,none⟩)) rfl (fun _ _ _ ww hr => e9 (kd := .i64) (T := 57) (e := 3) (K := 1) (g := gg) (N := ((aa r).length)) (cap := v4c) (cT r seq i) (hgg trivial) hr.1 rfl rfl (by kernel_rfl) (by kernel_rfl) (by kernel_rfl) (by omega) ww) ?_
 refine fD 0 [1,2,3,4,8,9,10,11,12,13,58,61] [] (iI x) rfl (fun _ _ _ ww hr => dN (po := 0) (j := (cT r seq i)) (row := [iI x]) (a9 w.heap.size 3 1 (.slice v4a ((aa r).length) v4c) (sl.map az)) hr rfl (by kernel_rfl) (by simp) (by simp only [List.getElem?_map,hx]; rfl) (by kernel_rfl) (hgg trivial) rfl rfl) ?_
 refine aU [1,2,3,4,8,9,10,11,12,13,64] [(64,aB (decide (x < 0)))] <| kC (decide (x < 0)) (fun h10 => ?_) (fun h10 => ?_)
 have h10p := of_decide_eq_true h10
 refine kG <| fD 4 [1,2,3,4,8,9,10,11,12,65,66,67,68] [(65,.v (.slice v4a ((aa r).length) v4c)),(66,aI ((cT r seq i : Nat) : Int)),(67,.v (.string text)),(68,aI (i : Int))] (.int .u8 (bP text i)) rfl (fun _ _ _ ww hr => act_tix (kd := .i64) (t := text) i hr.1 rfl rfl (by kernel_rfl) (by kernel_rfl) hlti ww) ?_
 refine fD 1 [1,2,3,4,8,9,10,11,12,65,66,70] [(70,aI (K6.wrap (bP text i)))] (.pointer (some ⟨gg,(cT r seq i) * 1,none⟩)) rfl (fun _ _ _ ww hr => e9 (kd := .i64) (T := 57) (e := 3) (K := 1) (g := gg) (N := ((aa r).length)) (cap := v4c) (cT r seq i) (hgg trivial) hr.1 rfl rfl (by kernel_rfl) (by kernel_rfl) (by kernel_rfl) (by omega) ww) ?_
 refine xl_hs 0 [1,2,3,4,8,9,10,11,12,70,71] ⟨[(1,aI seq),(2,.v (.string text)),(3,aB fin),(4,.p 0 0),(8,.p 1 0),(9,.p 2 0),(10,aI (wO r)),(11,.v (.slice v4a ((aa r).length) v4c)),(12,aI (i : Int)),(70,aI (K6.wrap (bP text i))),(71,.v (.pointer (some ⟨gg,(cT r seq i) * 1,none⟩)))],[⟨46,ab r (.slice Arh r.held.length Crh)⟩,⟨46,eV⟩,⟨46,ab r (.slice v1a r.held.length v1c)⟩],[],[a9 w.heap.size 3 1 (.slice v4a ((aa r).length) v4c) (sl.map az),a9 w.heap.size 72 2 (.slice v1a r.held.length v1c) (r.held.map pC),bz (.slice Arh r.held.length Crh) 2 (r.held.map pC)]⟩ (by kernel_rfl) rfl (by kernel_rfl) rfl (by kernel_rfl) (HSg.hs (hs_stR (g := gg) (B := w.heap.size) (e := 3) (K := 1) (N := ((aa r).length)) (cap := v4c) (rs := (sl.map az)) (rs' := (sl.set (cT r seq i) (K6.wrap (bP text i))).map az) (v := (iI (K6.wrap (bP text i)))) (i := 0) (off := (cT r seq i) * 1) (cT r seq i) 0 [iI x] (row' := [iI (K6.wrap (bP text i))]) (hgg trivial) rfl (by kernel_rfl) rfl (by kernel_rfl) (by kernel_rfl) (by kernel_rfl) (by kernel_rfl) (Nat.le_refl _) (by simp only [List.getElem?_map,hx]; rfl) (by kernel_rfl) rfl (by rw [List.map_set]; rfl))) ?_
 refine eo 0 [1,2,3,4,8,9,10,11,12] [(1,aI seq),(2,.v (.string text)),(3,aB fin),(4,.p 0 0),(8,.p 1 0),(9,.p 2 0),(10,aI (wO r)),(11,.v (.slice v4a ((aa r).length) v4c)),(12,aI (i : Int))] <| xl_eq (st' := ⟨[(1,aI seq),(2,.v (.string text)),(3,aB fin),(4,.p 0 0),(8,.p 1 0),(9,.p 2 0),(10,aI (wO r)),(11,.v (.slice v4a ((aa r).length) v4c)),(12,aI (i : Int))],[⟨46,ab r (.slice Arh r.held.length Crh)⟩,⟨46,eV⟩,⟨46,ab r (.slice v1a r.held.length v1c)⟩],[],[a9 w.heap.size 3 1 (.slice v4a ((aa r).length) v4c) ((sl.set (cT r seq i) (bP text i)).map az),a9 w.heap.size 72 2 (.slice v1a r.held.length v1c) (r.held.map pC),bz (.slice Arh r.held.length Crh) 2 (r.held.map pC)]⟩) (by rw [show (K6.wrap (bP text i)) = (bP text i) from al (by omega) (by omega)] <;> rfl) ?_
 refine aU [1,2,3,4,8,9,10,11,12] [] <| kG <| dK 3 [1,2,3,4,8,9,10,11,12] [(12,aI (K6.wrap ((i : Int) + 1)))] <| cJ [1,2,3,4,8,9,10,11,12] [(12,aI (K6.wrap ((i : Int) + 1)))] [(12,aI ((i : Int) + 1))] (by rw [show (K6.wrap ((i : Int) + 1)) = ((i : Int) + 1) from al (by omega) (by omega)]) (by kernel_rfl) ?_
 refine aU [1,2,3,4,8,9,10,11,12] [] ?_
 exact ⟨⟨(i + 1,(sl.set (cT r seq i) (bP text i))),⟨hlti,(by rw [List.length_set]; exact hl),(by rw [gu,← HS,eY]; first | (rw [if_pos (by refine ⟨by omega,by omega,?_⟩; rw [hsx]; omega)]) | (rw [if_neg (by intro hh; have hh1 := hh.1; have hh2 := hh.2.1; have hh3 := hh.2.2; (try rw [hsx] at hh3); omega)]))⟩⟩,kF 3 0 [1,2,3,4,8,9,10,11,12],by show (fun (i : Nat) (sl : List Int) => text.size - i) (i + 1) (sl.set (cT r seq i) (bP text i)) < text.size - i; (dsimp only; omega)⟩
 have h10p := of_decide_eq_false h10
 refine kK <| kG <| dK 3 [1,2,3,4,8,9,10,11,12] [(12,aI (K6.wrap ((i : Int) + 1)))] <| cJ [1,2,3,4,8,9,10,11,12] [(12,aI (K6.wrap ((i : Int) + 1)))] [(12,aI ((i : Int) + 1))] (by rw [show (K6.wrap ((i : Int) + 1)) = ((i : Int) + 1) from al (by omega) (by omega)]) (by kernel_rfl) ?_
 refine aU [1,2,3,4,8,9,10,11,12] [] ?_
 exact ⟨⟨(i + 1,sl),⟨hlti,hl,(by rw [gu,← HS,eY]; first | (rw [if_pos (by refine ⟨by omega,by omega,?_⟩; rw [hsx]; omega)]) | (rw [if_neg (by intro hh; have hh1 := hh.1; have hh2 := hh.2.1; have hh3 := hh.2.2; (try rw [hsx] at hh3); omega)]))⟩⟩,kF 3 0 [1,2,3,4,8,9,10,11,12],by show (fun (i : Nat) (sl : List Int) => text.size - i) (i + 1) sl < text.size - i; (dsimp only; omega)⟩
 have h9p := of_decide_eq_false h9
 refine aU [1,2,3,4,8,9,10,11,12,13,64] [(64,aB false)] <| kN <| kK <| kG <| dK 3 [1,2,3,4,8,9,10,11,12] [(12,aI (K6.wrap ((i : Int) + 1)))] ?_
 refine cJ [1,2,3,4,8,9,10,11,12] [(12,aI (K6.wrap ((i : Int) + 1)))] [(12,aI ((i : Int) + 1))] (by rw [show (K6.wrap ((i : Int) + 1)) = ((i : Int) + 1) from al (by omega) (by omega)]) (by kernel_rfl) ?_
 refine aU [1,2,3,4,8,9,10,11,12] [] ?_
 exact ⟨⟨(i + 1,sl),⟨hlti,hl,(by rw [gu,← HS,eY]; first | (rw [if_pos (by refine ⟨by omega,by omega,?_⟩; rw [hsx]; omega)]) | (rw [if_neg (by intro hh; have hh1 := hh.1; have hh2 := hh.2.1; have hh3 := hh.2.2; (try rw [hsx] at hh3); omega)]))⟩⟩,kF 3 0 [1,2,3,4,8,9,10,11,12],by show (fun (i : Nat) (sl : List Int) => text.size - i) (i + 1) sl < text.size - i; (dsimp only; omega)⟩
 have h6p := of_decide_eq_false h6
 refine aU [1,2,3,4,8,9,10,11,12,13,64] [(64,aB false)] <| kN <| kK <| kG <| dK 3 [1,2,3,4,8,9,10,11,12] [(12,aI (K6.wrap ((i : Int) + 1)))] ?_
 refine cJ [1,2,3,4,8,9,10,11,12] [(12,aI (K6.wrap ((i : Int) + 1)))] [(12,aI ((i : Int) + 1))] (by rw [show (K6.wrap ((i : Int) + 1)) = ((i : Int) + 1) from al (by omega) (by omega)]) (by kernel_rfl) ?_
 refine aU [1,2,3,4,8,9,10,11,12] [] ?_
 exact ⟨⟨(i + 1,sl),⟨hlti,hl,(by rw [gu,← HS,eY]; first | (rw [if_pos (by refine ⟨by omega,by omega,?_⟩; rw [hsx]; omega)]) | (rw [if_neg (by intro hh; have hh1 := hh.1; have hh2 := hh.2.1; have hh3 := hh.2.2; (try rw [hsx] at hh3); omega)]))⟩⟩,kF 3 0 [1,2,3,4,8,9,10,11,12],by show (fun (i : Nat) (sl : List Int) => text.size - i) (i + 1) sl < text.size - i; (dsimp only; omega)⟩
 have h5p := of_decide_eq_false h5
 have hti : i = text.size := by simp at h5; omega
 subst hti
 have hall : sl = dD r seq text := HS
 have hby : ∀ x ∈ sl,x ≤ 255 := by rw [hall]; exact allIn_le _ _ _
 refine c5 <| kS <| bw [] (by kernel_rfl) (fun ρ σ => ?_)
 refine cK [0,1,2,4,5] [77,74,72,3,4,8,9,10,11] 4 [(77,aI r.next),(74,aI (text.size : Int)),(72,aI seq),(3,aB fin),(4,.p 0 0),(8,.p 1 0),(9,.p 2 0),(10,aI (wO r)),(11,.v (.slice v4a ((aa r).length) v4c))] <| kA [3] <| d8 3 56 [iI seq,iI (text.size : Int)] (some 75) rfl (bF fun ww hf => bk seq (text.size : Int) ww ) ?_
 intro _
 refine cK [6] [78,3,4,8,9,10,11] 2 [(78,aI (K6.wrap ((sA seq (text.size : Int)) - r.next))),(3,aB fin),(4,.p 0 0),(8,.p 1 0),(9,.p 2 0),(10,aI (wO r)),(11,.v (.slice v4a ((aa r).length) v4c))] <| xe_nv [78,3,4,8,9,10,11] [(78,aI (K6.wrap ((sA seq (text.size : Int)) - r.next)))] [(78,aI ((sA seq (text.size : Int)) - r.next))] (by rw [show (K6.wrap ((sA seq (text.size : Int)) - r.next)) = ((sA seq (text.size : Int)) - r.next) from al (by omega) (by omega)]) (by kernel_rfl) ?_
 refine kA [7] <| d8 7 74 [iI ((sA seq (text.size : Int)) - r.next)] (some 79) rfl (bF fun ww hf => fj ((sA seq (text.size : Int)) - r.next) ww ) ?_
 intro _
 refine xe_nv [79,78,3,4,8,9,10,11] [(79,aI (((sA seq (text.size : Int)) - r.next) % 4294967296))] [(79,aI ((cT r seq text.size : Nat) : Int))] (by rw [show (((sA seq (text.size : Int)) - r.next) % 4294967296) = ((cT r seq text.size : Nat) : Int) from offN_eq r seq text.size]) (by kernel_rfl) ?_
 refine cK [8] [14,3,4,8,9,10,11] 0 [(14,aI ((cT r seq text.size : Nat) : Int)),(3,aB fin),(4,.p 0 0),(8,.p 1 0),(9,.p 2 0),(10,aI (wO r)),(11,.v (.slice v4a ((aa r).length) v4c))] <| kZ <| kS <| d9 (α := {zz : Int // (fun (fo : Int) => fo = finIn r seq text fin ∧ (-1 ≤ fo ∧ fo ≤ 32)) zz}) (fun zz => (fun (fo : Int) => (⟨[(4,.p 0 0),(8,.p 1 0),(9,.p 2 0),(11,.v (.slice v4a ((aa r).length) v4c))],[⟨46,ab r (.slice Arh r.held.length Crh)⟩,⟨46,eV⟩,⟨46,ab { r with fin := fo } (.slice v1a r.held.length v1c)⟩],[],[a9 w.heap.size 3 1 (.slice v4a ((aa r).length) v4c) (sl.map az),a9 w.heap.size 72 2 (.slice v1a r.held.length v1c) (r.held.map pC),bz (.slice Arh r.held.length Crh) 2 (r.held.map pC)]⟩ : St)) zz.1) ?_ ?_
 refine kQ <| dK 2 [4,8,9,10,11,14,81] [(81,aB fin)] <| kP 81 (fin) (fun h11 => ?_) (fun h11 => ?_)
 refine dK 5 [4,8,9,10,11,14,86] [(86,aB (decide (r.fin < 0)))] <| kP 86 (decide (r.fin < 0)) (fun h12 => ?_) (fun h12 => ?_)
 have h12p := of_decide_eq_true h12
 refine dK 5 [4,8,9,11,14,91] [(91,aB (decide (((cT r seq text.size : Nat) : Int) ≤ (wO r))))] <| kP 91 (decide (((cT r seq text.size : Nat) : Int) ≤ (wO r))) (fun h13 => ?_) (fun h13 => ?_)
 have h13p := of_decide_eq_true h13
 refine dZ 2 [4,8,9,11,14,91,92,93] [(91,aB true),(92,.v (.slice v4a ((aa r).length) v4c)),(93,aI ((cT r seq text.size : Nat) : Int))] 100 [.slice v4a ((aa r).length) v4c,iI ((cT r seq text.size : Nat) : Int)] (some 94) rfl (br fun ww hf => yl18Free_c sl (.slice v4a ((aa r).length) v4c) (cT r seq text.size : Nat) ww (au (hf _ m0)) (by omega)) ?_
 intro _
 refine aU [4,8,9,11,14,95] [(95,aB (da sl (cT r seq text.size : Nat)))] <| kC ((da sl (cT r seq text.size : Nat))) (fun h14 => ?_) (fun h14 => ?_)
 refine kG <| ba [4,8,9,11] [] 2 ⟨46,ab { r with fin := ((cT r seq text.size : Nat) : Int) } (.slice v1a r.held.length v1c)⟩ ?_
 exact ⟨⟨(((cT r seq text.size : Nat) : Int)),⟨(by unfold finIn; rw [← hall]; first | (simp [*]; done) | grind),(by first | omega | (have := hf3; omega))⟩⟩,kF 3 0 [4,8,9,11]⟩
 refine kK ?_
 exact ⟨⟨(r.fin),⟨(by unfold finIn; rw [← hall]; first | (simp [*]; done) | grind),(by first | omega | (have := hf3; omega))⟩⟩,kF 3 0 [4,8,9,11]⟩
 have h13p := of_decide_eq_false h13
 refine aU [4,8,9,11,14,95] [(95,aB false)] <| kN <| kK ?_
 exact ⟨⟨(r.fin),⟨(by unfold finIn; rw [← hall]; first | (simp [*]; done) | grind),(by first | omega | (have := hf3; omega))⟩⟩,kF 3 0 [4,8,9,11]⟩
 have h12p := of_decide_eq_false h12
 refine aU [4,8,9,11,14,95] [(95,aB false)] <| kN <| kK ?_
 exact ⟨⟨(r.fin),⟨(by unfold finIn; rw [← hall]; first | (simp [*]; done) | grind),(by first | omega | (have := hf3; omega))⟩⟩,kF 3 0 [4,8,9,11]⟩
 refine aU [4,8,9,11,14,95] [(95,aB false)] <| kN <| kK ?_
 exact ⟨⟨(r.fin),⟨(by unfold finIn; rw [← hall]; first | (simp [*]; done) | grind),(by first | omega | (have := hf3; omega))⟩⟩,kF 3 0 [4,8,9,11]⟩
 rintro ⟨fo,hfo,hfb⟩
 try dsimp only
 try dsimp only at hfo hfb
 refine kQ <| aU [4,8,9,11,15] [(15,aI 0)] <| kQ <| kHD 0 [4,8,9,11,15] [] rfl (aQ (e := 5) (K := 1) (bytes := 1) [] (rs := ([] : List Int).map bR) rfl rfl) ?_
 intro g15
 refine aU [4,8,9,11,15,16] [(16,.v (.slice (some ⟨g15,0,none⟩) 0 0))] <| kS <| d9 (α := {zz : Nat × List Int × Option Addr × Nat // (fun (n2 : Nat) (gt : List Int) (A2 : Option Addr) (c2 : Nat) => n2 = eS sl ∧ gt = sl.take n2 ∧ n2 ≤ 33) zz.1 zz.2.1 zz.2.2.1 zz.2.2.2}) (fun zz => (fun (n2 : Nat) (gt : List Int) (A2 : Option Addr) (c2 : Nat) => (⟨[(4,.p 0 0),(8,.p 1 0),(9,.p 2 0),(11,.v (.slice v4a ((aa r).length) v4c)),(15,aI (n2 : Int)),(16,.v (.slice A2 gt.length c2))],[⟨46,ab r (.slice Arh r.held.length Crh)⟩,⟨46,eV⟩,⟨46,ab { r with fin := fo } (.slice v1a r.held.length v1c)⟩],[],[a9 w.heap.size 5 1 (.slice A2 gt.length c2) (gt.map bR),a9 w.heap.size 3 1 (.slice v4a ((aa r).length) v4c) (sl.map az),a9 w.heap.size 72 2 (.slice v1a r.held.length v1c) (r.held.map pC),bz (.slice Arh r.held.length Crh) 2 (r.held.map pC)]⟩ : St)) zz.1.1 zz.1.2.1 zz.1.2.2.1 zz.1.2.2.2) ?_ ?_
 refine aj <| bI (α := {x : Nat × List Int × Option Addr × Nat // (fun (n2 : Nat) (gt : List Int) (A2 : Option Addr) (c2 : Nat) => n2 ≤ 33 ∧ gt = sl.take n2 ∧ (∀ x ∈ sl.take n2,0 ≤ x)) x.1 x.2.1 x.2.2.1 x.2.2.2}) (fun x => (fun (n2 : Nat) (gt : List Int) (A2 : Option Addr) (c2 : Nat) => (⟨[(4,.p 0 0),(8,.p 1 0),(9,.p 2 0),(11,.v (.slice v4a ((aa r).length) v4c)),(15,aI (n2 : Int)),(16,.v (.slice A2 gt.length c2))],[⟨46,ab r (.slice Arh r.held.length Crh)⟩,⟨46,eV⟩,⟨46,ab { r with fin := fo } (.slice v1a r.held.length v1c)⟩],[],[a9 w.heap.size 5 1 (.slice A2 gt.length c2) (gt.map bR),a9 w.heap.size 3 1 (.slice v4a ((aa r).length) v4c) (sl.map az),a9 w.heap.size 72 2 (.slice v1a r.held.length v1c) (r.held.map pC),bz (.slice Arh r.held.length Crh) 2 (r.held.map pC)]⟩ : St)) x.1.1 x.1.2.1 x.1.2.2.1 x.1.2.2.2) (fun x => (fun (n2 : Nat) (gt : List Int) (A2 : Option Addr) (c2 : Nat) => 33 - n2) x.1.1 x.1.2.1 x.1.2.2.1 x.1.2.2.2) ⟨(0,([] : List Int),(some ⟨g15,0,none⟩),0),⟨Nat.zero_le _,rfl,(by simp)⟩⟩ (en [0,1,2,3] <| kF 3 0 [4,8,9,11,15,16]) ?_
 rintro ⟨⟨n2,gt,A2,c2⟩,hn2,hg2,hps⟩
 try dsimp only
 try dsimp only at hn2 hg2 hps
 refine kS <| kQ <| dK 5 [4,8,9,11,15,16,103] [(103,aB (decide ((n2 : Int) < (((aa r).length : Nat) : Int))))] <| kP 103 (decide ((n2 : Int) < (((aa r).length : Nat) : Int))) (fun h16 => ?_) (fun h16 => ?_)
 have h16p := of_decide_eq_true h16
 have hlt2 : n2 < 33 := by simp at h16; omega
 obtain ⟨y,hy⟩ : ∃ y,sl[n2]? = some y := ⟨_,List.getElem?_eq_getElem (by omega)⟩
 have hy255 := hby y (List.mem_of_getElem? hy)
 have hgl : gt.length ≤ 33 := by rw [hg2,List.length_take]; omega
 refine fD 2 [4,8,9,11,15,16,103,104,105] [(103,aB true),(104,.v (.slice v4a ((aa r).length) v4c)),(105,aI (n2 : Int))] (.pointer (some ⟨gg,n2 * 1,none⟩)) rfl (fun _ _ _ ww hr => e9 (kd := .i64) (T := 57) (e := 3) (K := 1) (g := gg) (N := ((aa r).length)) (cap := v4c) n2 (hgg trivial) hr.1 rfl rfl (by kernel_rfl) (by kernel_rfl) (by kernel_rfl) (by omega) ww) ?_
 refine fD 0 [4,8,9,11,15,16,103,106] [] (iI y) rfl (fun _ _ _ ww hr => dN (po := 0) (j := n2) (row := [iI y]) (a9 w.heap.size 3 1 (.slice v4a ((aa r).length) v4c) (sl.map az)) hr rfl (by kernel_rfl) (by simp) (by simp only [List.getElem?_map,hy]; rfl) (by kernel_rfl) (hgg trivial) rfl rfl) ?_
 refine aU [4,8,9,11,15,16,109] [(109,aB (decide (y ≥ 0)))] <| kC (decide (y ≥ 0)) (fun h17 => ?_) (fun h17 => ?_)
 have h17p := of_decide_eq_true h17
 refine kK <| aj <| kQ <| fD 3 [4,8,9,11,15,16,110,111,112] [(110,.v (.slice A2 gt.length c2)),(111,.v (.slice v4a ((aa r).length) v4c)),(112,aI (n2 : Int))] (.pointer (some ⟨gg,n2 * 1,none⟩)) rfl (fun _ _ _ ww hr => e9 (kd := .i64) (T := 57) (e := 3) (K := 1) (g := gg) (N := ((aa r).length)) (cap := v4c) n2 (hgg trivial) hr.1 rfl rfl (by kernel_rfl) (by kernel_rfl) (by kernel_rfl) (by omega) ww) ?_
 refine fD 0 [4,8,9,11,15,16,110,113] [] (iI y) rfl (fun _ _ _ ww hr => dN (po := 0) (j := n2) (row := [iI y]) (a9 w.heap.size 3 1 (.slice v4a ((aa r).length) v4c) (sl.map az)) hr rfl (by kernel_rfl) (by simp) (by simp only [List.getElem?_map,hy]; rfl) (by kernel_rfl) (hgg trivial) rfl rfl) ?_
 refine kHD 1 [4,8,9,11,15,16,110,115] [(115,.v (.int .u8 (IntKind.u8.wrap y)))] rfl (aQ (e := 5) (K := 1) (bytes := 1) [.int .u8 (IntKind.u8.wrap y)] (rs := ([IntKind.u8.wrap y] : List Int).map bR) rfl rfl) ?_
 intro g18
 refine kHS 0 [4,8,9,11,15,16,110,116] [(4,.p 0 0),(8,.p 1 0),(9,.p 2 0),(11,.v (.slice v4a ((aa r).length) v4c)),(15,aI (n2 : Int)),(16,.v (.slice A2 gt.length c2)),(110,.v (.slice A2 gt.length c2)),(116,.v (.slice (some ⟨g18,0,none⟩) 1 1))] rfl (aG (e := 5) (K := 1) (bytes := 1) (i := 1) (q := (gt ++ ([IntKind.u8.wrap y] : List Int)).length) (new := ([IntKind.u8.wrap y] : List Int).map bR) (rs' := (gt ++ ([IntKind.u8.wrap y] : List Int)).map bR) rfl rfl rfl rfl (by kernel_rfl) (by kernel_rfl) (by kernel_rfl) rfl (by simp) (by rw [List.map_append]) (by simp) (fun ww hf => (au (hf (a9 w.heap.size 5 1 (.slice (some ⟨g18,0,none⟩) 1 1) (([IntKind.u8.wrap y] : List Int).map bR)) (by simp)))) (by intro r hr; obtain ⟨x,hx,rfl⟩ := List.mem_map.1 hr; exact ⟨rfl,by simp [bR,Value.oneCell']⟩) (by (try simp only [List.length_map,List.length_append,List.length_cons,List.length_nil,List.length_take,List.length_drop,maxLen]); omega) (by (try simp only [List.length_map,List.length_append,List.length_cons,List.length_nil,List.length_take,List.length_drop,maxLen]); omega)) ?_
 rintro ⟨v19a,v19c⟩
 refine eo 1 [4,8,9,11,15,16] [(4,.p 0 0),(8,.p 1 0),(9,.p 2 0),(11,.v (.slice v4a ((aa r).length) v4c)),(15,aI (n2 : Int)),(16,.v (.slice v19a ((gt ++ ([IntKind.u8.wrap y] : List Int)).length) v19c))] <| xl_eq (st' := ⟨[(4,.p 0 0),(8,.p 1 0),(9,.p 2 0),(11,.v (.slice v4a ((aa r).length) v4c)),(15,aI (n2 : Int)),(16,.v (.slice v19a ((gt ++ ([y] : List Int)).length) v19c))],[⟨46,ab r (.slice Arh r.held.length Crh)⟩,⟨46,eV⟩,⟨46,ab { r with fin := fo } (.slice v1a r.held.length v1c)⟩],[],[a9 w.heap.size 5 1 (.slice v19a ((gt ++ ([y] : List Int)).length) v19c) ((gt ++ ([y] : List Int)).map bR),a9 w.heap.size 5 1 (.slice (some ⟨g18,0,none⟩) 1 1) (([y] : List Int).map bR),a9 w.heap.size 3 1 (.slice v4a ((aa r).length) v4c) (sl.map az),a9 w.heap.size 72 2 (.slice v1a r.held.length v1c) (r.held.map pC),bz (.slice Arh r.held.length Crh) 2 (r.held.map pC)]⟩) (by rw [show (IntKind.u8.wrap y) = y from u8_id (by omega) (by omega)] <;> rfl) ?_
 refine aU [4,8,9,11,15,16] [] <| kG <| dK 3 [4,8,9,11,15,16] [(15,aI (K6.wrap ((n2 : Int) + 1)))] <| cJ [4,8,9,11,15,16] [(15,aI (K6.wrap ((n2 : Int) + 1)))] [(15,aI ((n2 : Int) + 1))] (by rw [show (K6.wrap ((n2 : Int) + 1)) = ((n2 : Int) + 1) from al (by omega) (by omega)]) (by kernel_rfl) ?_
 refine aU [4,8,9,11,15,16] [] ?_
 exact ⟨⟨(n2 + 1,(gt ++ ([y] : List Int)),v19a,v19c),⟨(by omega),(by rw [hg2,take_more hy]),(take_pos hps hy (by omega))⟩⟩,en [0,2,3,4] <| kF 3 0 [4,8,9,11,15,16],by show (fun (n2 : Nat) (gt : List Int) (A2 : Option Addr) (c2 : Nat) => 33 - n2) (n2 + 1) (gt ++ ([y] : List Int)) v19a v19c < 33 - n2; (dsimp only; omega)⟩
 have h17p := of_decide_eq_false h17
 refine c5 ?_
 exact ⟨⟨(n2,gt,A2,c2),⟨(by first | exact (fA (k := n2) (by omega) hps (fun z hz => by rw [hy] at hz; simp only [Option.some.injEq] at hz; omega)).symm | exact (fA (k := n2) (by omega) hps (fun z hz => by rw [List.getElem?_eq_none (by omega)] at hz; simp at hz)).symm),hg2,hn2⟩⟩,kF 3 0 [4,8,9,11,15,16]⟩
 have h16p := of_decide_eq_false h16
 have hge2 : 33 ≤ n2 := by simp at h16; omega
 refine aU [4,8,9,11,15,16,109] [(109,aB false)] <| kN <| c5 ?_
 exact ⟨⟨(n2,gt,A2,c2),⟨(by first | exact (fA (k := n2) (by omega) hps (fun z hz => by rw [hy] at hz; simp only [Option.some.injEq] at hz; omega)).symm | exact (fA (k := n2) (by omega) hps (fun z hz => by rw [List.getElem?_eq_none (by omega)] at hz; simp at hz)).symm),hg2,hn2⟩⟩,kF 3 0 [4,8,9,11,15,16]⟩
 rintro ⟨⟨n2,gt,A2,c2⟩,hnf,hg2,hn2⟩
 try dsimp only
 try dsimp only at hnf hg2 hn2
 have hbl := bstr_len gt
 have hgl : gt.length ≤ 33 := by rw [hg2,List.length_take]; omega
 refine kQ <| fD 3 [4,8,9,11,15,121,122] [(121,.v (.string r.data)),(122,.v (.slice A2 gt.length c2))] (.string (ai gt)) rfl (fun _ _ _ ww hr => cG (e := 5) gt hr.1 rfl (by kernel_rfl) (by kernel_rfl) (by kernel_rfl) rfl (au (hr.2.fact (a9 w.heap.size 5 1 (.slice A2 gt.length c2) (gt.map bR)) (by simp)).1)) ?_
 refine fD 0 [4,8,9,11,15,121,123] [] (.string (r.data ++ (ai gt))) rfl (fun _ _ _ ww hr => ck hr.1 rfl (by kernel_rfl) (by kernel_rfl) (str_add (by first | omega | (simp only [ByteArray.size_extract]; omega)) ww)) ?_
 refine ba [4,8,9,11,15] [] 2 ⟨46,ab { r with data := r.data ++ (ai gt),fin := fo } (.slice v1a r.held.length v1c)⟩ <| kQ <| dZ 3 [4,8,9,11,15,127,128] [(127,aI r.next),(128,aI (n2 : Int))] 56 [iI r.next,iI (n2 : Int)] (some 129) rfl (bF fun ww hf => bk r.next (n2 : Int) ww ) ?_
 intro _
 refine ba [4,8,9,11,15] [] 2 ⟨46,[iI (sA r.next (n2 : Int)),.string (r.data ++ (ai gt)),.slice v1a r.held.length v1c,iI fo,.bool r.done]⟩ <| kQ <| dZ 2 [4,8,9,15,131,132] [(131,.v (.slice v4a ((aa r).length) v4c)),(132,aI (n2 : Int))] 101 [.slice v4a ((aa r).length) v4c,iI (n2 : Int)] (some 133) rfl (cm fun ww hw hf => yl18Pieces_c sl (.slice v4a ((aa r).length) v4c) n2 ww (au (hf _ m1)) (by omega) (by omega) (by assumption) w.heap.size hw) ?_
 rintro ⟨v20a,v20c⟩
 refine ba [4,8,9,15] [] 2 ⟨46,[iI (sA r.next (n2 : Int)),.string (r.data ++ (ai gt)),.slice v20a ((gb [] 0 (sl.drop n2)).length) v20c,iI fo,.bool r.done]⟩ <| kS <| d9 (α := {zz : Int // (fun (fp : Int) => fp = finOut r seq text fin) zz}) (fun zz => (fun (fp : Int) => (⟨[(4,.p 0 0),(8,.p 1 0),(9,.p 2 0)],[⟨46,ab r (.slice Arh r.held.length Crh)⟩,⟨46,eV⟩,⟨46,[iI (sA r.next (n2 : Int)),.string (r.data ++ (ai gt)),.slice v20a ((gb [] 0 (sl.drop n2)).length) v20c,iI fp,.bool r.done]⟩],[],[a9 w.heap.size 72 2 (.slice v20a ((gb [] 0 (sl.drop n2)).length) v20c) ((gb [] 0 (sl.drop n2)).map pC),a9 w.heap.size 5 1 (.slice A2 gt.length c2) (gt.map bR),a9 w.heap.size 3 1 (.slice v4a ((aa r).length) v4c) (sl.map az),a9 w.heap.size 72 2 (.slice v1a r.held.length v1c) (r.held.map pC),bz (.slice Arh r.held.length Crh) 2 (r.held.map pC)]⟩ : St)) zz.1) ?_ ?_
 refine kQ <| aD [4,8,9,15,137] [(4,.p 0 0),(8,.p 1 0),(9,.p 2 0),(15,aI (n2 : Int)),(137,aB (decide (fo ≥ 0)))] <| kC (decide (fo ≥ 0)) (fun h21 => ?_) (fun h21 => ?_)
 have h21p := of_decide_eq_true h21
 refine kG <| kRB 6 [4,8,9] [(4,.p 0 0),(8,.p 1 0),(9,.p 2 0)] [⟨46,ab r (.slice Arh r.held.length Crh)⟩,⟨46,eV⟩,⟨46,[iI (sA r.next (n2 : Int)),.string (r.data ++ (ai gt)),.slice v20a ((gb [] 0 (sl.drop n2)).length) v20c,iI (K6.wrap (fo - (n2 : Int))),.bool r.done]⟩] <| xl_eq (st' := ⟨[(4,.p 0 0),(8,.p 1 0),(9,.p 2 0)],[⟨46,ab r (.slice Arh r.held.length Crh)⟩,⟨46,eV⟩,⟨46,[iI (sA r.next (n2 : Int)),.string (r.data ++ (ai gt)),.slice v20a ((gb [] 0 (sl.drop n2)).length) v20c,iI (fo - (n2 : Int)),.bool r.done]⟩],[],[a9 w.heap.size 72 2 (.slice v20a ((gb [] 0 (sl.drop n2)).length) v20c) ((gb [] 0 (sl.drop n2)).map pC),a9 w.heap.size 5 1 (.slice A2 gt.length c2) (gt.map bR),a9 w.heap.size 3 1 (.slice v4a ((aa r).length) v4c) (sl.map az),a9 w.heap.size 72 2 (.slice v1a r.held.length v1c) (r.held.map pC),bz (.slice Arh r.held.length Crh) 2 (r.held.map pC)]⟩) (by rw [show (K6.wrap (fo - (n2 : Int))) = (fo - (n2 : Int)) from al (by omega) (by omega)] <;> rfl) ?_
 refine aU [4,8,9] [] ?_
 exact ⟨⟨(fo - (n2 : Int)),(by unfold finOut; rw [← hall,← hnf,← hfo]; first | rw [if_pos (by omega)] | rw [if_neg (by omega)])⟩,kF 3 0 [4,8,9]⟩
 have h21p := of_decide_eq_false h21
 refine kK ?_
 exact ⟨⟨(fo),(by unfold finOut; rw [← hall,← hnf,← hfo]; first | rw [if_pos (by omega)] | rw [if_neg (by omega)])⟩,kF 3 0 [4,8,9]⟩
 rintro ⟨fp,hfp⟩
 try dsimp only
 try dsimp only at hfp
 refine kS <| kQ <| aD [4,8,9,145] [(4,.p 0 0),(8,.p 1 0),(9,.p 2 0),(145,aB (fp == 0))] <| kC (fp == 0) (fun h22 => ?_) (fun h22 => ?_)
 have h22p := cN h22
 refine kQ <| ba [4,8,9] [] 2 ⟨46,[iI (sA r.next (n2 : Int)),.string (r.data ++ (ai gt)),.slice v20a ((gb [] 0 (sl.drop n2)).length) v20c,iI (-1),.bool r.done]⟩ <| kQ <| ba [4,8,9] [] 2 ⟨46,[iI (sA r.next (n2 : Int)),.string (r.data ++ (ai gt)),.slice v20a ((gb [] 0 (sl.drop n2)).length) v20c,iI (-1),.bool true]⟩ ?_
 refine kG <| dZ 2 [4,8,9,149] [(149,aI (sA r.next (n2 : Int)))] 56 [iI (sA r.next (n2 : Int)),iI 1] (some 150) rfl (bF fun ww hf => bk (sA r.next (n2 : Int)) 1 ww ) ?_
 intro _
 refine ba [4,8,9] [] 2 ⟨46,[iI (sA (sA r.next (n2 : Int)) 1),.string (r.data ++ (ai gt)),.slice v20a ((gb [] 0 (sl.drop n2)).length) v20c,iI (-1),.bool true]⟩ <| kS <| kQ <| aU [4,8,9,155] [(155,aB (decide ((((gb [] 0 (sl.drop n2)).length : Nat) : Int) > 3)))] ?_
 refine kC (decide ((((gb [] 0 (sl.drop n2)).length : Nat) : Int) > 3)) (fun h23 => ?_) (fun h23 => ?_)
 have h23p := of_decide_eq_true h23
 refine kQ <| dZ 1 [8,156] [(156,.v (.agg (ab r (.slice Arh r.held.length Crh)).toArray))] 34 [.agg (ab r (.slice Arh r.held.length Crh)).toArray] (some 157) rfl (cm fun ww hw hf => fO r (.slice Arh r.held.length Crh) ww (hf _ m4) (by assumption) w.heap.size hw) ?_
 rintro ⟨v24a,v24c⟩
 refine ba [8] [(8,.p 1 0)] 1 ⟨46,ab r (.slice v24a r.held.length v24c)⟩ <| kR ?_
 have hmod : ah r seq text fin = r := by first | exact ek hrk (by assumption) (by rw [← hall,← hnf]; omega) | (unfold ah; rw [if_neg (by grind)]; done) | (unfold ah; rw [if_pos (by grind),← hall,← hnf,← hg2,← hfp]; first | (rw [if_pos (by omega)]; done) | (rw [if_neg (by omega),if_pos (by first | omega | simp_all)]; done) | (rw [if_neg (by omega),if_neg (by first | omega | simp_all)]; done))
 exact ⟨[.agg (ab r (.slice v24a r.held.length v24c)).toArray],by kernel_rfl,fun w' hb hf ha => by rw [hmod]; exact xo1 ((v24a,v24c)) rfl rfl (pW (hf _ m0) hB) hb⟩
 have h23p := of_decide_eq_false h23
 refine kK <| kQ <| ba [8] [(8,.p 1 0)] 1 ⟨46,[iI (sA (sA r.next (n2 : Int)) 1),.string (r.data ++ (ai gt)),.slice v20a ((gb [] 0 (sl.drop n2)).length) v20c,iI (-1),.bool true]⟩ <| kR ?_
 have hmod : ah r seq text fin = (⟨sA (sA r.next (n2 : Int)) 1,r.data ++ (ai gt),(gb [] 0 (sl.drop n2)),(-1),true⟩) := by first | exact ek hrk (by assumption) (by rw [← hall,← hnf]; omega) | (unfold ah; rw [if_neg (by grind)]; done) | (unfold ah; rw [if_pos (by grind),← hall,← hnf,← hg2,← hfp]; first | (rw [if_pos (by omega)]; done) | (rw [if_neg (by omega),if_pos (by first | omega | simp_all)]; done) | (rw [if_neg (by omega),if_neg (by first | omega | simp_all)]; done))
 exact ⟨[.agg #[iI (sA (sA r.next (n2 : Int)) 1),.string (r.data ++ (ai gt)),.slice v20a ((gb [] 0 (sl.drop n2)).length) v20c,iI (-1),.bool true]],by kernel_rfl,fun w' hb hf ha => by rw [hmod]; exact xo1 ((v20a,v20c)) rfl rfl (pW (hf _ m0) hB) hb⟩
 have h22p := cI h22
 refine kK <| kS <| kQ <| aU [4,8,9,155] [(155,aB (decide ((((gb [] 0 (sl.drop n2)).length : Nat) : Int) > 3)))] ?_
 refine kC (decide ((((gb [] 0 (sl.drop n2)).length : Nat) : Int) > 3)) (fun h25 => ?_) (fun h25 => ?_)
 have h25p := of_decide_eq_true h25
 refine kQ <| dZ 1 [8,156] [(156,.v (.agg (ab r (.slice Arh r.held.length Crh)).toArray))] 34 [.agg (ab r (.slice Arh r.held.length Crh)).toArray] (some 157) rfl (cm fun ww hw hf => fO r (.slice Arh r.held.length Crh) ww (hf _ m4) (by assumption) w.heap.size hw) ?_
 rintro ⟨v26a,v26c⟩
 refine ba [8] [(8,.p 1 0)] 1 ⟨46,ab r (.slice v26a r.held.length v26c)⟩ <| kR ?_
 have hmod : ah r seq text fin = r := by first | exact ek hrk (by assumption) (by rw [← hall,← hnf]; omega) | (unfold ah; rw [if_neg (by grind)]; done) | (unfold ah; rw [if_pos (by grind),← hall,← hnf,← hg2,← hfp]; first | (rw [if_pos (by omega)]; done) | (rw [if_neg (by omega),if_pos (by first | omega | simp_all)]; done) | (rw [if_neg (by omega),if_neg (by first | omega | simp_all)]; done))
 exact ⟨[.agg (ab r (.slice v26a r.held.length v26c)).toArray],by kernel_rfl,fun w' hb hf ha => by rw [hmod]; exact xo1 ((v26a,v26c)) rfl rfl (pW (hf _ m0) hB) hb⟩
 have h25p := of_decide_eq_false h25
 refine kK <| kQ <| ba [8] [(8,.p 1 0)] 1 ⟨46,[iI (sA r.next (n2 : Int)),.string (r.data ++ (ai gt)),.slice v20a ((gb [] 0 (sl.drop n2)).length) v20c,iI fp,.bool r.done]⟩ <| kR ?_
 have hmod : ah r seq text fin = (⟨sA r.next (n2 : Int),r.data ++ (ai gt),(gb [] 0 (sl.drop n2)),fp,r.done⟩) := by first | exact ek hrk (by assumption) (by rw [← hall,← hnf]; omega) | (unfold ah; rw [if_neg (by grind)]; done) | (unfold ah; rw [if_pos (by grind),← hall,← hnf,← hg2,← hfp]; first | (rw [if_pos (by omega)]; done) | (rw [if_neg (by omega),if_pos (by first | omega | simp_all)]; done) | (rw [if_neg (by omega),if_neg (by first | omega | simp_all)]; done))
 exact ⟨[.agg #[iI (sA r.next (n2 : Int)),.string (r.data ++ (ai gt)),.slice v20a ((gb [] 0 (sl.drop n2)).length) v20c,iI fp,.bool r.done]],by kernel_rfl,fun w' hb hf ha => by rw [hmod]; exact xo1 ((v20a,v20c)) rfl rfl (pW (hf _ m0) hB) hb⟩
theorem ysAcked_c (s : Snd) (ack : Int) (w : World)  : Calls Try.prog 80 #[.agg (am s).toArray, iI ack] w fun e w' => e = .returned (.tuple #[.agg (am (aK s ack).1).toArray, .bool ((aK s ack).2)]) ∧ Below w.heap.size w w' := by
 refine cn (args := [.agg (am s).toArray,iI ack]) (fn := Try.f80) [] Try.func80 rfl Try.ntmps80 rfl (by simp) ?_
 refine kQ <| cv [1,2,4] ⟨[(1,aI ack),(2,.p 0 0),(4,.p 1 0)],[⟨43,am s⟩,⟨43,sndZ⟩],[],[]⟩ <| kQ <| dZ 3 [2,4,8,10] [(8,aI ack),(10,aI s.una)] 98 [iI ack,iI s.una] (some 11) rfl (bF fun ww hf => sSeqDiff_c ack s.una ww ) ?_
 intro _
 refine aU [2,4,6] [(6,aI (aY ack s.una))] <| kS <| kQ <| dZ 1 [2,4,6,12] [(12,.v (.agg (am s).toArray))] 85 [.agg (am s).toArray] (some 13) rfl (br fun ww hf => et s.una s.data s.sent s.fin s.finSent s.done ww ) ?_
 intro _
 refine dK 2 [2,4,6,15] [(15,aB (!(aM s)))] <| kP 15 (!(aM s)) (fun h1 => ?_) (fun h1 => ?_)
 have h1n := co h1
 refine aU [2,4,6,21] [(21,aB true)] <| kT <| kQ <| ba [4,5] [(5,aB false)] 1 ⟨43,am s⟩ ?_
 refine kR ?_
 have hmod : aK s ack = (s,false) := by first | rfl | (simp [aK, *]; done) | (cases hfs : s.finSent <;> grind [aK])
 exact ⟨[.agg (am s).toArray,.bool false],by kernel_rfl,fun w' hb hf => by rw [hmod]; exact ⟨rfl,hb⟩⟩
 have h1n := bj h1
 have h1nb := ca (s := s) (by simpa using h1n)
 obtain ⟨h1nb0,h1nb1,h1nb2,h1nb3,h1nb4,h1nb5,h1nb6,h1nb7,h1nb8,h1nb9,h1nb10⟩ := h1nb
 refine dZ 2 [2,4,6,15,16,17] [(15,aB false),(16,aI (aY ack s.una)),(17,.v (.agg (am s).toArray))] 71 [.agg (am s).toArray] (some 18) rfl (br fun ww hf => dY s.una s.data s.sent s.fin s.finSent s.done ww ) ?_
 intro _
 refine dZ 0 [2,4,6,15,16,18] [] 83 [iI (aY ack s.una),iI 0,iI (af s)] (some 19) rfl (bF fun ww hf => dP (aY ack s.una) 0 (af s) ww ) ?_
 intro _
 refine aU [2,4,6,21] [(21,aB (!(cR (aY ack s.una) 0 (af s))))] <| kC (!(cR (aY ack s.una) 0 (af s))) (fun h2 => ?_) (fun h2 => ?_)
 have h2n := co h2
 have h2ni := inB_ff.1 (show cR (aY ack s.una) 0 (af s) = false from by simpa using h2n)
 refine kQ <| ba [4,5] [(5,aB false)] 1 ⟨43,am s⟩ <| kR ?_
 have hmod : aK s ack = (s,false) := by first | rfl | (simp [aK, *]; done) | (cases hfs : s.finSent <;> grind [aK])
 exact ⟨[.agg (am s).toArray,.bool false],by kernel_rfl,fun w' hb hf => by rw [hmod]; exact ⟨rfl,hb⟩⟩
 have h2n := bj h2
 have h2ni := inB_tt.1 (show cR (aY ack s.una) 0 (af s) = true from by simpa using h2n)
 refine kK <| kQ <| kEA [2,4,6,7] [(7,.p 2 0)] [⟨43,am s⟩] <| kQ <| dZ 3 [2,4,6,7,25,26] [(25,aI s.una),(26,aI (aY ack s.una))] 56 [iI s.una,iI (aY ack s.una)] (some 27) rfl (bF fun ww hf => bk s.una (aY ack s.una) ww ) ?_
 intro _
 refine ba [2,4,6,7] [] 2 ⟨43,am { s with una := sA s.una (aY ack s.una) }⟩ <| kS <| kQ <| aD [2,4,6,7,32] [(2,.p 0 0),(4,.p 1 0),(6,aI (aY ack s.una)),(7,.p 2 0),(32,aB (decide ((aY ack s.una) > s.sent)))] ?_
 refine kC (decide ((aY ack s.una) > s.sent)) (fun h3 => ?_) (fun h3 => ?_)
 have h3p := of_decide_eq_true h3
 refine kQ <| ba [2,4,7] [] 2 ⟨43,am { s with una := sA s.una (aY ack s.una),finSent := false }⟩ <| kQ <| ba [2,4,7] [] 2 ⟨43,am { s with una := sA s.una (aY ack s.una),finSent := false,done := true }⟩ ?_
 refine kG <| aU [2,4,6,7] [(6,aI s.sent)] <| kQ <| fD 3 [2,4,6,7,38,39] [(38,.v (.string s.data)),(39,aI s.sent)] (.string (s.data.extract (s.sent).toNat s.data.size)) rfl (fun _ _ _ ww hr => act_slSe (s.sent) hr.1 rfl (by kernel_rfl) rfl rfl (by omega) (by omega) ww) ?_
 refine ba [2,4,6,7] [] 2 ⟨43,[iI (sA s.una (aY ack s.una)),.string (s.data.extract (s.sent).toNat s.data.size),iI s.sent,.bool s.fin,.bool false,.bool true]⟩ <| kQ <| kRF 6 [4,7] ⟨[(4,.p 1 0),(7,.p 2 0)],[⟨43,am s⟩,⟨43,sndZ⟩,⟨43,[iI (sA s.una (aY ack s.una)),.string (s.data.extract (s.sent).toNat s.data.size),iI (K6.wrap (s.sent - s.sent)),.bool s.fin,.bool false,.bool true]⟩],[],[]⟩ <| xl_eq (st' := ⟨[(4,.p 1 0),(7,.p 2 0)],[⟨43,am s⟩,⟨43,sndZ⟩,⟨43,[iI (sA s.una (aY ack s.una)),.string (s.data.extract (s.sent).toNat s.data.size),iI (s.sent - s.sent),.bool s.fin,.bool false,.bool true]⟩],[],[]⟩) (by rw [show (K6.wrap (s.sent - s.sent)) = (s.sent - s.sent) from al (by omega) (by omega)] <;> rfl) ?_
 refine aU [4,7] [] <| kQ <| ba [4,5] [(5,aB true)] 1 ⟨43,[iI (sA s.una (aY ack s.una)),.string (s.data.extract (s.sent).toNat s.data.size),iI (s.sent - s.sent),.bool s.fin,.bool false,.bool true]⟩ <| kR ?_
 have hmod : aK s ack = ((⟨sA s.una (aY ack s.una),s.data.extract (s.sent).toNat s.data.size,s.sent - s.sent,s.fin,false,true⟩),true) := by first | rfl | (simp [aK, *]; done) | (cases hfs : s.finSent <;> grind [aK])
 exact ⟨[.agg #[iI (sA s.una (aY ack s.una)),.string (s.data.extract (s.sent).toNat s.data.size),iI (s.sent - s.sent),.bool s.fin,.bool false,.bool true],.bool true],by kernel_rfl,fun w' hb hf => by rw [hmod]; exact ⟨rfl,hb⟩⟩
 have h3p := of_decide_eq_false h3
 refine kK <| kQ <| fD 3 [2,4,6,7,38,39] [(38,.v (.string s.data)),(39,aI (aY ack s.una))] (.string (s.data.extract (aY ack s.una).toNat s.data.size)) rfl (fun _ _ _ ww hr => act_slSe (aY ack s.una) hr.1 rfl (by kernel_rfl) rfl rfl (by omega) (by omega) ww) ?_
 refine ba [2,4,6,7] [] 2 ⟨43,am { s with una := sA s.una (aY ack s.una),data := s.data.extract (aY ack s.una).toNat s.data.size }⟩ <| kQ <| kRF 6 [4,7] ⟨[(4,.p 1 0),(7,.p 2 0)],[⟨43,am s⟩,⟨43,sndZ⟩,⟨43,am { s with una := sA s.una (aY ack s.una),data := s.data.extract (aY ack s.una).toNat s.data.size,sent := K6.wrap (s.sent - (aY ack s.una)) }⟩],[],[]⟩ <| xl_eq (st' := ⟨[(4,.p 1 0),(7,.p 2 0)],[⟨43,am s⟩,⟨43,sndZ⟩,⟨43,am { s with una := sA s.una (aY ack s.una),data := s.data.extract (aY ack s.una).toNat s.data.size,sent := s.sent - (aY ack s.una) }⟩],[],[]⟩) (by rw [show (K6.wrap (s.sent - (aY ack s.una))) = (s.sent - (aY ack s.una)) from al (by omega) (by omega)] <;> rfl) ?_
 refine aU [4,7] [] <| kQ <| ba [4,5] [(5,aB true)] 1 ⟨43,am { s with una := sA s.una (aY ack s.una),data := s.data.extract (aY ack s.una).toNat s.data.size,sent := s.sent - (aY ack s.una) }⟩ <| kR ?_
 have hmod : aK s ack = (({ s with una := sA s.una (aY ack s.una),data := s.data.extract (aY ack s.una).toNat s.data.size,sent := s.sent - (aY ack s.una) }),true) := by first | rfl | (simp [aK, *]; done) | (cases hfs : s.finSent <;> grind [aK])
 exact ⟨[.agg (am { s with una := sA s.una (aY ack s.una),data := s.data.extract (aY ack s.una).toNat s.data.size,sent := s.sent - (aY ack s.una) }).toArray,.bool true],by kernel_rfl,fun w' hb hf => by rw [hmod]; exact ⟨rfl,hb⟩⟩
theorem ysTakenIn_c (r : Rcv) (r_heldV : Value) (n : Int) (w : World) (hl_r_heldV : Sl w r_heldV 2 (r.held.map pC)) (hkn : r.held.length ≤ 1048576) (hm : ∀ p ∈ r.held, p.text.size ≤ 1048576) (hsz : r.data.size ≤ 4611686018427387904) (B : Nat) (hB : B ≤ w.heap.size) : Calls Try.prog 64 #[.agg (ab r r_heldV).toArray, iI n] w fun e w' => XRs w w' e (α := Option Addr × Nat) (fun y => .tuple #[.agg (ab (ay r n).1 (.slice y.1 ((ay r n).1.held.length) y.2)).toArray, .string ((ay r n).2)]) (fun y => [a9 B 72 2 (.slice y.1 ((ay r n).1.held.length) y.2) ((ay r n).1.held.map pC)]) := by
 obtain ⟨Arh,Crh,hvrh⟩ := hl_r_heldV.form
 rw [List.length_map] at hvrh; subst hvrh
 have hnrh := hl_r_heldV.len; rw [List.length_map] at hnrh
 have hqrh := Sl.capLe hl_r_heldV
 refine bJ (args := [.agg (ab r (.slice Arh r.held.length Crh)).toArray,iI n]) (fn := Try.f64) [bz (.slice Arh r.held.length Crh) 2 (r.held.map pC)] Try.func64 rfl Try.ntmps64 rfl (by simp only [List.mem_cons,List.not_mem_nil,or_false,forall_eq_or_imp,forall_eq]; exact ⟨rfl,hl_r_heldV⟩) ?_
 refine kQ <| cv [1,2,4] ⟨[(1,aI n),(2,.p 0 0),(4,.p 1 0)],[⟨46,ab r (.slice Arh r.held.length Crh)⟩,⟨46,eV⟩],[],[bz (.slice Arh r.held.length Crh) 2 (r.held.map pC)]⟩ <| kQ <| em 1 [1,2,4,7] [(1,aI n),(2,.p 0 0),(4,.p 1 0),(7,.v (.agg (ab r (.slice Arh r.held.length Crh)).toArray))] 34 [.agg (ab r (.slice Arh r.held.length Crh)).toArray] (some 8) rfl (cm fun ww hw hf => fO r (.slice Arh r.held.length Crh) ww (hf _ m0) (by assumption) w.heap.size hw) ?_
 rintro ⟨v1a,v1c⟩
 refine cv [1,2,4,6] ⟨[(1,aI n),(2,.p 0 0),(4,.p 1 0),(6,.p 2 0)],[⟨46,ab r (.slice Arh r.held.length Crh)⟩,⟨46,eV⟩,⟨46,ab r (.slice v1a r.held.length v1c)⟩],[],[a9 w.heap.size 72 2 (.slice v1a r.held.length v1c) (r.held.map pC),bz (.slice Arh r.held.length Crh) 2 (r.held.map pC)]⟩ <| kS <| kQ <| em 1 [1,2,4,6,9] [(1,aI n),(2,.p 0 0),(4,.p 1 0),(6,.p 2 0),(9,.v (.agg (ab r (.slice Arh r.held.length Crh)).toArray))] 86 [.agg (ab r (.slice Arh r.held.length Crh)).toArray] (some 10) rfl (br fun ww hf => fV r (.slice Arh r.held.length Crh) ww (hf _ m1) (by assumption) (by omega)) ?_
 intro _
 refine aD [1,2,4,6,11] [(1,aI n),(2,.p 0 0),(4,.p 1 0),(6,.p 2 0),(11,aB (!(rO r)))] <| kC (!(rO r)) (fun h2 => ?_) (fun h2 => ?_)
 have h2n := co h2
 refine kQ <| cv [4,5] ⟨[(4,.p 1 0),(5,.v (.string (⟨#[]⟩ : ByteArray)))],[⟨46,ab r (.slice Arh r.held.length Crh)⟩,⟨46,ab r (.slice v1a r.held.length v1c)⟩,⟨46,ab r (.slice v1a r.held.length v1c)⟩],[],[a9 w.heap.size 72 2 (.slice v1a r.held.length v1c) (r.held.map pC),bz (.slice Arh r.held.length Crh) 2 (r.held.map pC)]⟩ <| kR ?_
 have hmod : ay r n = (r,(⟨#[]⟩ : ByteArray)) := by first | rfl | (simp [ay,cut, *]; done) | grind [ay,cut]
 exact ⟨[.agg (ab r (.slice v1a r.held.length v1c)).toArray,.string (⟨#[]⟩ : ByteArray)],by kernel_rfl,fun w' hb hf ha => by rw [hmod]; exact xo1 ((v1a,v1c)) rfl rfl (pW (hf _ m0) hB) hb⟩
 have h2n := bj h2
 refine kK <| kQ <| em 4 [1,2,4,6,13,16] [(1,aI n),(2,.p 0 0),(4,.p 1 0),(6,.p 2 0),(13,aI n),(16,aI (r.data.size : Int))] 88 [iI n,iI (r.data.size : Int)] (some 17) rfl (bF fun ww hf => fG n (r.data.size : Int) ww ) ?_
 intro _
 refine em 0 [1,2,4,6,17] [(1,aI n),(2,.p 0 0),(4,.p 1 0),(6,.p 2 0),(17,aI (min n (r.data.size : Int)))] 55 [iI 0,iI (min n (r.data.size : Int))] (some 18) rfl (bF fun ww hf => dE 0 (min n (r.data.size : Int)) ww ) ?_
 intro _
 refine aD [1,2,4,6] [(1,aI (max 0 (min n (r.data.size : Int)))),(2,.p 0 0),(4,.p 1 0),(6,.p 2 0)] <| kQ <| kOS 3 [1,2,4,6,20,21] [(1,aI (max 0 (min n (r.data.size : Int)))),(2,.p 0 0),(4,.p 1 0),(6,.p 2 0),(20,.v (.string r.data)),(21,aI (max 0 (min n (r.data.size : Int))))] (.string (r.data.extract (max 0 (min n (r.data.size : Int))).toNat r.data.size)) rfl (fun _ _ _ ww hr => act_slSe (max 0 (min n (r.data.size : Int))) hr.1 rfl (by kernel_rfl) rfl rfl (by omega) (by omega) ww) ?_
 refine cv [1,2,4,6] ⟨[(1,aI (max 0 (min n (r.data.size : Int)))),(2,.p 0 0),(4,.p 1 0),(6,.p 2 0)],[⟨46,ab r (.slice Arh r.held.length Crh)⟩,⟨46,eV⟩,⟨46,ab { r with data := r.data.extract (max 0 (min n (r.data.size : Int))).toNat r.data.size } (.slice v1a r.held.length v1c)⟩],[],[a9 w.heap.size 72 2 (.slice v1a r.held.length v1c) (r.held.map pC),bz (.slice Arh r.held.length Crh) 2 (r.held.map pC)]⟩ <| kS <| bY [true,false,true] (by kernel_rfl) (fun ρ σ => ?_)
 refine cK [0,1,2,3] [27,26,24,4] 3 [(27,aI (max 0 (min n (r.data.size : Int)))),(26,.v (.string r.data)),(24,.v (.agg (ab { r with data := r.data.extract (max 0 (min n (r.data.size : Int))).toNat r.data.size } (.slice v1a r.held.length v1c)).toArray)),(4,.p 1 0)] <| kX 4 (.string (r.data.extract 0 (max 0 (min n (r.data.size : Int))).toNat)) rfl (fun _ _ ww hA => act_slS0 (max 0 (min n (r.data.size : Int))) hA rfl (by kernel_rfl) rfl rfl (by omega) (by omega) ww) ?_
 refine kA [5] <| dp 5 1 0 (ab { r with data := r.data.extract (max 0 (min n (r.data.size : Int))).toNat r.data.size } (.slice v1a r.held.length v1c)) rfl <| cK [6] [5,4] 0 [(5,.v (.string (r.data.extract 0 (max 0 (min n (r.data.size : Int))).toNat))),(4,.p 1 0)] <| kZ <| kR ?_
 have hmod : ay r n = (({ r with data := r.data.extract (max 0 (min n (r.data.size : Int))).toNat r.data.size }),(r.data.extract 0 (max 0 (min n (r.data.size : Int))).toNat)) := by first | rfl | (simp [ay,cut, *]; done) | grind [ay,cut]
 exact ⟨[.agg (ab { r with data := r.data.extract (max 0 (min n (r.data.size : Int))).toNat r.data.size } (.slice v1a r.held.length v1c)).toArray,.string (r.data.extract 0 (max 0 (min n (r.data.size : Int))).toNat)],by kernel_rfl,fun w' hb hf ha => by rw [hmod]; exact xo1 ((v1a,v1c)) rfl rfl (pW (hf _ m0) hB) hb⟩
theorem yl21State_c (c : Con) (rV : Value) (w : World) (hZ : Sl w rV 2 (c.r.held.map pC))  : Calls Try.prog 103 #[.agg (a6 c rV).toArray] w fun e w' => e = .returned (iI (tS c)) ∧ Below w.heap.size w w' := by
 obtain ⟨Z,Y,hY⟩ := hZ.form
 rw [List.length_map] at hY; subst hY
 have hJ := hZ.len; rw [List.length_map] at hJ
 have hqcrh := Sl.capLe hZ
 refine cn (args := [.agg (a6 c (cS Z c Y)).toArray]) (fn := Try.f103) [cH Z c Y] Try.func103 rfl Try.ntmps103 rfl (by simp only [List.mem_cons,List.not_mem_nil,or_false,forall_eq_or_imp,forall_eq]; exact ⟨rfl,hZ⟩) ?_
 refine kQ <| cv [1] ⟨[(1,.p 0 0)],[⟨50,a6 c (cS Z c Y)⟩],[],[cH Z c Y]⟩ <| kS <| kQ <| aD [1,4] [(1,.p 0 0),(4,aI c.state)] ?_
 refine aj <| kQ <| aD [1,4,5] [(1,.p 0 0),(4,aI c.state),(5,aB (c.state == 1))] <| kC (c.state == 1) (fun h1 => ?_) (fun h1 => ?_)
 have h1p := cN h1
 refine kQ <| aD [1,9] [(1,.p 0 0),(9,aB c.r.done)] <| kC (c.r.done) (fun h2 => ?_) (fun h2 => ?_)
 refine kQ <| aD [2] [(2,aI 4)] <| kR ?_
 have hmod : tS c = 4 := by first | rfl | (simp [tS, *]; done) | grind [tS]
 exact ⟨[iI 4],by kernel_rfl,fun w' hb hf => by rw [hmod]; exact ⟨rfl,hb⟩⟩
 refine kK <| kQ <| aD [2] [(2,aI c.state)] <| kR ?_
 have hmod : tS c = c.state := by first | rfl | (simp [tS, *]; done) | grind [tS]
 exact ⟨[iI c.state],by kernel_rfl,fun w' hb hf => by rw [hmod]; exact ⟨rfl,hb⟩⟩
 have h1p := cI h1
 refine kQ <| aD [1,4,10] [(1,.p 0 0),(4,aI c.state),(10,aB (c.state == 2))] <| kC (c.state == 2) (fun h3 => ?_) (fun h3 => ?_)
 have h3p := cN h3
 refine aj <| kS <| c7 ⟨[(1,.p 0 0),(12,aB (c.s.done && c.r.done))],[⟨50,a6 c (cS Z c Y)⟩],[],[cH Z c Y]⟩ ?_ ?_
 refine kG <| eo 4 [1,16] [(1,.p 0 0),(16,aB c.s.done)] <| kP 16 (c.s.done) (fun h4 => ?_) (fun h4 => ?_)
 refine aD [1,12] [(1,.p 0 0),(12,aB c.r.done)] ?_
 show Wk _ _
 try rw [h4]
 exact kF 1 0 [1,12]
 refine aD [1,12] [(1,.p 0 0),(12,aB false)] ?_
 show Wk _ _
 try rw [h4]
 exact kF 1 0 [1,12]
 refine kC (c.s.done && c.r.done) (fun h5 => ?_) (fun h5 => ?_)
 have h5l := and_l h5
 have h5r := and_r h5
 refine kQ <| aD [2] [(2,aI 7)] <| kR ?_
 have hmod : tS c = 7 := by first | rfl | (simp [tS, *]; done) | grind [tS]
 exact ⟨[iI 7],by kernel_rfl,fun w' hb hf => by rw [hmod]; exact ⟨rfl,hb⟩⟩
 refine kQ <| aD [1,21] [(1,.p 0 0),(21,aB c.s.done)] <| kC (c.s.done) (fun h6 => ?_) (fun h6 => ?_)
 refine kQ <| aD [2] [(2,aI 3)] <| kR ?_
 have hmod : tS c = 3 := by first | rfl | (simp [tS, *]; done) | grind [tS]
 exact ⟨[iI 3],by kernel_rfl,fun w' hb hf => by rw [hmod]; exact ⟨rfl,hb⟩⟩
 refine kQ <| aD [1,25] [(1,.p 0 0),(25,aB c.r.done)] <| kC (c.r.done) (fun h7 => ?_) (fun h7 => ?_)
 refine kQ <| aD [2] [(2,aI 5)] <| kR ?_
 have hmod : tS c = 5 := by first | rfl | (simp [tS, *]; done) | grind [tS]
 exact ⟨[iI 5],by kernel_rfl,fun w' hb hf => by rw [hmod]; exact ⟨rfl,hb⟩⟩
 refine kK <| kQ <| aD [2] [(2,aI c.state)] <| kR ?_
 have hmod : tS c = c.state := by first | rfl | (simp [tS, *]; done) | grind [tS]
 exact ⟨[iI c.state],by kernel_rfl,fun w' hb hf => by rw [hmod]; exact ⟨rfl,hb⟩⟩
 have h3p := cI h3
 refine kQ <| aD [1,4,29] [(1,.p 0 0),(4,aI c.state),(29,aB (c.state == 3))] <| kC (c.state == 3) (fun h8 => ?_) (fun h8 => ?_)
 have h8p := cN h8
 refine kQ <| aD [1,33] [(1,.p 0 0),(33,aB c.r.done)] <| kC (c.r.done) (fun h9 => ?_) (fun h9 => ?_)
 refine kQ <| aD [2] [(2,aI 7)] <| kR ?_
 have hmod : tS c = 7 := by first | rfl | (simp [tS, *]; done) | grind [tS]
 exact ⟨[iI 7],by kernel_rfl,fun w' hb hf => by rw [hmod]; exact ⟨rfl,hb⟩⟩
 refine kK <| kQ <| aD [2] [(2,aI c.state)] <| kR ?_
 have hmod : tS c = c.state := by first | rfl | (simp [tS, *]; done) | grind [tS]
 exact ⟨[iI c.state],by kernel_rfl,fun w' hb hf => by rw [hmod]; exact ⟨rfl,hb⟩⟩
 have h8p := cI h8
 refine kQ <| aD [1,4,34] [(1,.p 0 0),(4,aI c.state),(34,aB (c.state == 5))] <| kC (c.state == 5) (fun h10 => ?_) (fun h10 => ?_)
 have h10p := cN h10
 refine kQ <| aD [1,38] [(1,.p 0 0),(38,aB c.s.done)] <| kC (c.s.done) (fun h11 => ?_) (fun h11 => ?_)
 refine kQ <| aD [2] [(2,aI 7)] <| kR ?_
 have hmod : tS c = 7 := by first | rfl | (simp [tS, *]; done) | grind [tS]
 exact ⟨[iI 7],by kernel_rfl,fun w' hb hf => by rw [hmod]; exact ⟨rfl,hb⟩⟩
 refine kK <| kQ <| aD [2] [(2,aI c.state)] <| kR ?_
 have hmod : tS c = c.state := by first | rfl | (simp [tS, *]; done) | grind [tS]
 exact ⟨[iI c.state],by kernel_rfl,fun w' hb hf => by rw [hmod]; exact ⟨rfl,hb⟩⟩
 have h10p := cI h10
 refine kQ <| aD [1,39] [(1,.p 0 0),(39,aB (c.state == 6))] <| kC (c.state == 6) (fun h12 => ?_) (fun h12 => ?_)
 have h12p := cN h12
 refine kQ <| aD [1,43] [(1,.p 0 0),(43,aB c.s.done)] <| kC (c.s.done) (fun h13 => ?_) (fun h13 => ?_)
 refine kQ <| aD [2] [(2,aI 8)] <| kR ?_
 have hmod : tS c = 8 := by first | rfl | (simp [tS, *]; done) | grind [tS]
 exact ⟨[iI 8],by kernel_rfl,fun w' hb hf => by rw [hmod]; exact ⟨rfl,hb⟩⟩
 refine kK <| kQ <| aD [2] [(2,aI c.state)] <| kR ?_
 have hmod : tS c = c.state := by first | rfl | (simp [tS, *]; done) | grind [tS]
 exact ⟨[iI c.state],by kernel_rfl,fun w' hb hf => by rw [hmod]; exact ⟨rfl,hb⟩⟩
 have h12p := cI h12
 refine kK <| kQ <| aD [2] [(2,aI c.state)] <| kR ?_
 have hmod : tS c = c.state := by first | rfl | (simp [tS, *]; done) | grind [tS]
 exact ⟨[iI c.state],by kernel_rfl,fun w' hb hf => by rw [hmod]; exact ⟨rfl,hb⟩⟩
theorem ysTurned_c (c : Con) (rV : Value) (w : World) (hZ : Sl w rV 2 (c.r.held.map pC)) (hkn : c.r.held.length ≤ 1048576)(hm : ∀ p ∈ c.r.held, p.text.size ≤ 1048576) (hsz : c.r.data.size ≤ 4611686018427387904) (B : Nat) (hB : B ≤ w.heap.size) : Calls Try.prog 96 #[.agg (a6 c rV).toArray] w fun e w' => XRs w w' e (α := Option Addr × Nat) (fun y => .agg (a6 (bT c) (.slice y.1 ((bT c).r.held.length) y.2)).toArray) (fun y => [aC B (.slice y.1 ((bT c).r.held.length) y.2) 2 ((bT c).r.held.map pC)]) := by
 obtain ⟨Z,Y,hY⟩ := hZ.form
 rw [List.length_map] at hY; subst hY
 have hJ := hZ.len; rw [List.length_map] at hJ
 have hqcrh := Sl.capLe hZ
 have ht : aE { c with state := tS c,timer := 0 } = (aE { c with state := tS c,timer := 0,tries := 0 } && cR c.tries 0 3) := conOk_tries _
 refine bJ (args := [.agg (a6 c (cS Z c Y)).toArray]) (fn := Try.f96) [cH Z c Y] Try.func96 rfl Try.ntmps96 rfl (by simp only [List.mem_cons,List.not_mem_nil,or_false,forall_eq_or_imp,forall_eq]; exact ⟨rfl,hZ⟩) ?_
 refine kQ <| cv [1,2] ⟨[(1,.p 0 0),(2,.p 1 0)],[⟨50,a6 c (cS Z c Y)⟩,⟨50,ce⟩],[],[cH Z c Y]⟩ <| kQ <| em 1 [1,2,4] [(1,.p 0 0),(2,.p 1 0),(4,.v (.agg (a6 c (cS Z c Y)).toArray))] 22 [.agg (a6 c (cS Z c Y)).toArray] (some 5) rfl (cm fun ww hw hf => cV c (cS Z c Y) ww (hf _ m0) (by assumption) w.heap.size hw) ?_
 rintro ⟨v1a,v1c⟩
 refine cv [1,2,3] ⟨[(1,.p 0 0),(2,.p 1 0),(3,.p 2 0)],[⟨50,a6 c (cS Z c Y)⟩,⟨50,ce⟩,⟨50,a6 c (cS v1a c v1c)⟩],[],[aC w.heap.size (cS v1a c v1c) 2 (c.r.held.map pC),cH Z c Y]⟩ <| kQ <| em 1 [1,2,3,6] [(1,.p 0 0),(2,.p 1 0),(3,.p 2 0),(6,.v (.agg (a6 c (cS Z c Y)).toArray))] 103 [.agg (a6 c (cS Z c Y)).toArray] (some 7) rfl (br fun ww hf => yl21State_c c (cS Z c Y) ww (hf _ m1) ) ?_
 intro _
 refine cv [1,2,3] ⟨[(1,.p 0 0),(2,.p 1 0),(3,.p 2 0)],[⟨50,a6 c (cS Z c Y)⟩,⟨50,ce⟩,⟨50,a6 { c with state := (tS c) } (cS v1a c v1c)⟩],[],[aC w.heap.size (cS v1a c v1c) 2 (c.r.held.map pC),cH Z c Y]⟩ <| kS <| kS <| c7 ⟨[(1,.p 0 0),(2,.p 1 0),(3,.p 2 0),(37,aB ((!(aE ({ c with state := (tS c),timer := 0,tries := 0 }))) || ((!(cR c.timer 0 4)) || (!(cR c.tries 0 3)))))],[⟨50,a6 c (cS Z c Y)⟩,⟨50,ce⟩,⟨50,a6 { c with state := (tS c) } (cS v1a c v1c)⟩],[],[aC w.heap.size (cS v1a c v1c) 2 (c.r.held.map pC),cH Z c Y]⟩ ?_ ?_
 refine kG <| kOS 14 [1,2,3,10,12,14,16,18,20,22] [(1,.p 0 0),(2,.p 1 0),(3,.p 2 0),(10,.v (.agg (bV c.t).toArray)),(12,aI (tS c)),(14,.v (.agg (am c.s).toArray)),(16,.v (.agg (ab c.r (cS Z c Y)).toArray)),(18,aI c.window),(20,aI c.most),(22,.v (.agg (dI c.o).toArray))] (.agg (a6 { c with state := (tS c),timer := 0,tries := 0 } (cS Z c Y)).toArray) rfl (fun _ _ _ ww hr => aH [(0,.agg (bV c.t).toArray),(1,iI (tS c)),(2,.agg (am c.s).toArray),(3,.agg (ab c.r (cS Z c Y)).toArray),(4,iI c.window),(5,iI c.most),(6,.agg (dI c.o).toArray)] hr.1 rfl (by kernel_rfl) (by kernel_rfl) ww) ?_
 refine em 0 [1,2,3,23] [(1,.p 0 0),(2,.p 1 0),(3,.p 2 0),(23,.v (.agg (a6 { c with state := (tS c),timer := 0,tries := 0 } (cS Z c Y)).toArray))] 58 [.agg (a6 { c with state := (tS c),timer := 0,tries := 0 } (cS Z c Y)).toArray] (some 24) rfl (br fun ww hf => dM ({ c with state := (tS c),timer := 0,tries := 0 }) (cS Z c Y) ww (hf _ m1) (by assumption) (by omega)) ?_
 intro _
 refine eo 2 [1,2,3,26] [(1,.p 0 0),(2,.p 1 0),(3,.p 2 0),(26,aB (!(aE ({ c with state := (tS c),timer := 0,tries := 0 }))))] <| kP 26 (!(aE ({ c with state := (tS c),timer := 0,tries := 0 }))) (fun h2 => ?_) (fun h2 => ?_)
 have h2n := co h2
 refine aD [1,2,3,37] [(1,.p 0 0),(2,.p 1 0),(3,.p 2 0),(37,aB true)] ?_
 show Wk _ _
 try rw [h2]
 exact kF 3 0 [1,2,3,37]
 have h2n := bj h2
 refine em 2 [1,2,3,26,28] [(1,.p 0 0),(2,.p 1 0),(3,.p 2 0),(26,aB false),(28,aI c.timer)] 83 [iI c.timer,iI 0,iI 4] (some 29) rfl (bF fun ww hf => dP c.timer 0 4 ww ) ?_
 intro _
 refine eo 3 [1,2,3,32] [(1,.p 0 0),(2,.p 1 0),(3,.p 2 0),(32,aB (!(cR c.timer 0 4)))] <| kP 32 (!(cR c.timer 0 4)) (fun h3 => ?_) (fun h3 => ?_)
 have h3n := co h3
 have h3ni := inB_ff.1 (show cR c.timer 0 4 = false from by simpa using h3n)
 refine aD [1,2,3,37] [(1,.p 0 0),(2,.p 1 0),(3,.p 2 0),(37,aB true)] ?_
 show Wk _ _
 try rw [h2]
 try rw [h3]
 exact kF 3 0 [1,2,3,37]
 have h3n := bj h3
 have h3ni := inB_tt.1 (show cR c.timer 0 4 = true from by simpa using h3n)
 refine em 2 [1,2,3,32,34] [(1,.p 0 0),(2,.p 1 0),(3,.p 2 0),(32,aB false),(34,aI c.tries)] 83 [iI c.tries,iI 0,iI 3] (some 35) rfl (bF fun ww hf => dP c.tries 0 3 ww ) ?_
 intro _
 refine aD [1,2,3,37] [(1,.p 0 0),(2,.p 1 0),(3,.p 2 0),(37,aB (!(cR c.tries 0 3)))] ?_
 show Wk _ _
 try rw [h2]
 try rw [h3]
 exact kF 3 0 [1,2,3,37]
 refine kC ((!(aE ({ c with state := (tS c),timer := 0,tries := 0 }))) || ((!(cR c.timer 0 4)) || (!(cR c.tries 0 3)))) (fun h4 => ?_) (fun h4 => ?_)
 refine kQ <| em 1 [2,38] [(2,.p 1 0),(38,.v (.agg (a6 c (cS Z c Y)).toArray))] 22 [.agg (a6 c (cS Z c Y)).toArray] (some 39) rfl (cm fun ww hw hf => cV c (cS Z c Y) ww (hf _ m1) (by assumption) w.heap.size hw) ?_
 rintro ⟨v5a,v5c⟩
 refine cv [2] ⟨[(2,.p 1 0)],[⟨50,a6 c (cS Z c Y)⟩,⟨50,a6 c (cS v5a c v5c)⟩,⟨50,a6 { c with state := (tS c) } (cS v1a c v1c)⟩],[],[aC w.heap.size (cS v5a c v5c) 2 (c.r.held.map pC),aC w.heap.size (cS v1a c v1c) 2 (c.r.held.map pC),cH Z c Y]⟩ <| kR ?_
 have hmod : bT c = c := by first | rfl | (simp [bT, *]; done) | grind [bT] | grind [bT,tS] | (unfold bT; rw [← hkk,if_neg hkn]; grind)
 exact ⟨[.agg (a6 c (cS v5a c v5c)).toArray],by kernel_rfl,fun w' hb hf ha => by rw [hmod]; exact xo1 ((v5a,v5c)) rfl rfl (pO (hf _ m0) hB) hb⟩
 have h4l := gn h4
 have h4ln := bj h4l
 have h4r := gj h4
 have h4rl := gn h4r
 have h4rln := bj h4rl
 have h4rlni := inB_tt.1 (show cR c.timer 0 4 = true from by simpa using h4rln)
 have h4rr := gj h4r
 have h4rrn := bj h4rr
 have h4rrni := inB_tt.1 (show cR c.tries 0 3 = true from by simpa using h4rrn)
 refine kK <| kS <| kQ <| aD [2,3,44] [(2,.p 1 0),(3,.p 2 0),(44,aB ((tS c) == c.state))] ?_
 refine kC ((tS c) == c.state) (fun h6 => ?_) (fun h6 => ?_)
 have h6p := cN h6
 refine kQ <| cv [2] ⟨[(2,.p 1 0)],[⟨50,a6 c (cS Z c Y)⟩,⟨50,a6 { c with state := (tS c) } (cS v1a c v1c)⟩,⟨50,a6 { c with state := (tS c) } (cS v1a c v1c)⟩],[],[aC w.heap.size (cS v1a c v1c) 2 (c.r.held.map pC),cH Z c Y]⟩ <| kR ?_
 have hmod : bT c = ({ c with state := (tS c) }) := by first | rfl | (simp [bT, *]; done) | grind [bT] | grind [bT,tS] | (unfold bT; rw [← hkk,if_neg hkn]; grind)
 exact ⟨[.agg (a6 { c with state := (tS c) } (cS v1a c v1c)).toArray],by kernel_rfl,fun w' hb hf ha => by rw [hmod]; exact xo1 ((v1a,v1c)) rfl rfl (pO (hf _ m0) hB) hb⟩
 have h6p := cI h6
 refine kK <| kS <| kQ <| aD [2,3,48] [(2,.p 1 0),(3,.p 2 0),(48,aB ((tS c) == 7))] ?_
 refine c7 ⟨[(2,.p 1 0),(3,.p 2 0)],[⟨50,a6 c (cS Z c Y)⟩,⟨50,ce⟩,⟨50,a6 { c with state := (tS c),timer := if ((tS c) == 7) = true then 4 else c.timer,tries := if ((tS c) == 7) = true then 0 else c.tries } (cS v1a c v1c)⟩],[],[aC w.heap.size (cS v1a c v1c) 2 (c.r.held.map pC),cH Z c Y]⟩ ?_ ?_
 refine kC ((tS c) == 7) (fun h7 => ?_) (fun h7 => ?_)
 have h7p := cN h7
 refine kQ <| cv [2,3] ⟨[(2,.p 1 0),(3,.p 2 0)],[⟨50,a6 c (cS Z c Y)⟩,⟨50,ce⟩,⟨50,a6 { c with state := (tS c),timer := 4 } (cS v1a c v1c)⟩],[],[aC w.heap.size (cS v1a c v1c) 2 (c.r.held.map pC),cH Z c Y]⟩ <| kG <| cv [2,3] ⟨[(2,.p 1 0),(3,.p 2 0)],[⟨50,a6 c (cS Z c Y)⟩,⟨50,ce⟩,⟨50,a6 { c with state := (tS c),timer := 4,tries := 0 } (cS v1a c v1c)⟩],[],[aC w.heap.size (cS v1a c v1c) 2 (c.r.held.map pC),cH Z c Y]⟩ ?_
 show Wk _ _; rw [h7]; exact kF 3 0 [2,3]
 have h7p := cI h7
 refine kK ?_
 show Wk _ _; rw [h7]; exact kF 3 0 [2,3]
 refine kS <| kQ <| aD [2,3,53] [(2,.p 1 0),(3,.p 2 0),(53,aB ((tS c) == 8))] <| c7 ⟨[(2,.p 1 0),(3,.p 2 0)],[⟨50,a6 c (cS Z c Y)⟩,⟨50,ce⟩,⟨50,a6 { c with state := (tS c),timer := if ((tS c) == 8) = true then 0 else if ((tS c) == 7) = true then 4 else c.timer,tries := if ((tS c) == 8) = true then 0 else if ((tS c) == 7) = true then 0 else c.tries } (cS v1a c v1c)⟩],[],[aC w.heap.size (cS v1a c v1c) 2 (c.r.held.map pC),cH Z c Y]⟩ ?_ ?_
 refine kC ((tS c) == 8) (fun h8 => ?_) (fun h8 => ?_)
 have h8p := cN h8
 refine kQ <| cv [2,3] ⟨[(2,.p 1 0),(3,.p 2 0)],[⟨50,a6 c (cS Z c Y)⟩,⟨50,ce⟩,⟨50,a6 { c with state := (tS c),timer := 0,tries := if ((tS c) == 7) = true then 0 else c.tries } (cS v1a c v1c)⟩],[],[aC w.heap.size (cS v1a c v1c) 2 (c.r.held.map pC),cH Z c Y]⟩ <| kG <| cv [2,3] ⟨[(2,.p 1 0),(3,.p 2 0)],[⟨50,a6 c (cS Z c Y)⟩,⟨50,ce⟩,⟨50,a6 { c with state := (tS c),timer := 0,tries := 0 } (cS v1a c v1c)⟩],[],[aC w.heap.size (cS v1a c v1c) 2 (c.r.held.map pC),cH Z c Y]⟩ ?_
 show Wk _ _; rw [h8]; exact kF 3 0 [2,3]
 have h8p := cI h8
 refine kK ?_
 show Wk _ _; rw [h8]; exact kF 3 0 [2,3]
 refine kQ <| cv [2] ⟨[(2,.p 1 0)],[⟨50,a6 c (cS Z c Y)⟩,⟨50,a6 { c with state := (tS c),timer := if ((tS c) == 8) = true then 0 else if ((tS c) == 7) = true then 4 else c.timer,tries := if ((tS c) == 8) = true then 0 else if ((tS c) == 7) = true then 0 else c.tries } (cS v1a c v1c)⟩,⟨50,a6 { c with state := (tS c),timer := if ((tS c) == 8) = true then 0 else if ((tS c) == 7) = true then 4 else c.timer,tries := if ((tS c) == 8) = true then 0 else if ((tS c) == 7) = true then 0 else c.tries } (cS v1a c v1c)⟩],[],[aC w.heap.size (cS v1a c v1c) 2 (c.r.held.map pC),cH Z c Y]⟩ <| kR ?_
 have hmod : bT c = ({ c with state := (tS c),timer := if ((tS c) == 8) = true then 0 else if ((tS c) == 7) = true then 4 else c.timer,tries := if ((tS c) == 8) = true then 0 else if ((tS c) == 7) = true then 0 else c.tries }) := by first | rfl | (simp [bT, *]; done) | grind [bT] | grind [bT,tS] | (unfold bT; rw [← hkk,if_neg hkn]; grind)
 exact ⟨[.agg (a6 { c with state := (tS c),timer := if ((tS c) == 8) = true then 0 else if ((tS c) == 7) = true then 4 else c.timer,tries := if ((tS c) == 8) = true then 0 else if ((tS c) == 7) = true then 0 else c.tries } (cS v1a c v1c)).toArray],by kernel_rfl,fun w' hb hf ha => by rw [hmod]; exact xo1 ((v1a,v1c)) rfl rfl (pO (hf _ m0) hB) hb⟩
theorem ysReadConn_c (c : Con) (rV : Value) (n : Int) (w : World) (hZ : Sl w rV 2 (c.r.held.map pC)) (hkn : c.r.held.length ≤ 1048576)(hm : ∀ p ∈ c.r.held, p.text.size ≤ 1048576) (hsz : c.r.data.size ≤ 4611686018427387904) (B : Nat) (hB : B ≤ w.heap.size) : Calls Try.prog 42 #[.agg (a6 c rV).toArray, iI n] w fun e w' => XRs w w' e (α := (Option Addr × Nat) × (Option Addr × Nat)) (fun y => .tuple #[.agg (a6 (bu c n).1 (.slice y.1.1 ((bu c n).1.r.held.length) y.1.2)).toArray, .string ((bu c n).2.1), .slice y.2.1 ((bu c n).2.2.length) y.2.2]) (fun y => [aC B (.slice y.1.1 ((bu c n).1.r.held.length) y.1.2) 2 ((bu c n).1.r.held.map pC), aC B (.slice y.2.1 ((bu c n).2.2.length) y.2.2) 13 ((bu c n).2.2.map ap)]) := by
 obtain ⟨Z,Y,hY⟩ := hZ.form
 rw [List.length_map] at hY; subst hY
 have hJ := hZ.len; rw [List.length_map] at hJ
 have hqcrh := Sl.capLe hZ
 have hwb := fE (ay c.r n).1
 refine bJ (args := [.agg (a6 c (cS Z c Y)).toArray,iI n]) (fn := Try.f42) [cH Z c Y] Try.func42 rfl Try.ntmps42 rfl (by simp only [List.mem_cons,List.not_mem_nil,or_false,forall_eq_or_imp,forall_eq]; exact ⟨rfl,hZ⟩) ?_
 refine kQ <| cv [1,2,4] ⟨[(1,aI n),(2,.p 0 0),(4,.p 1 0)],[⟨50,a6 c (cS Z c Y)⟩,⟨50,ce⟩],[],[cH Z c Y]⟩ <| kQ <| em 1 [1,2,4,11] [(1,aI n),(2,.p 0 0),(4,.p 1 0),(11,.v (.agg (a6 c (cS Z c Y)).toArray))] 22 [.agg (a6 c (cS Z c Y)).toArray] (some 12) rfl (cm fun ww hw hf => cV c (cS Z c Y) ww (hf _ m0) (by assumption) w.heap.size hw) ?_
 rintro ⟨v1a,v1c⟩
 refine cv [1,2,4,7] ⟨[(1,aI n),(2,.p 0 0),(4,.p 1 0),(7,.p 2 0)],[⟨50,a6 c (cS Z c Y)⟩,⟨50,ce⟩,⟨50,a6 c (cS v1a c v1c)⟩],[],[aC w.heap.size (cS v1a c v1c) 2 (c.r.held.map pC),cH Z c Y]⟩ <| kQ <| kHS 0 [1,2,4,7] [(1,aI n),(2,.p 0 0),(4,.p 1 0),(7,.p 2 0)] rfl (aQ (e := 85) (K := 13) (bytes := 104) [] (rs := ([] : List Seg).map ap) rfl rfl) ?_
 intro g2
 refine aD [1,2,4,7,8] [(1,aI n),(2,.p 0 0),(4,.p 1 0),(7,.p 2 0),(8,.v (.slice (some ⟨g2,0,none⟩) 0 0))] <| kS <| kQ <| em 1 [1,2,4,7,8,14] [(1,aI n),(2,.p 0 0),(4,.p 1 0),(7,.p 2 0),(8,.v (.slice (some ⟨g2,0,none⟩) 0 0)),(14,.v (.agg (a6 c (cS Z c Y)).toArray))] 58 [.agg (a6 c (cS Z c Y)).toArray] (some 15) rfl (br fun ww hf => dM c (cS Z c Y) ww (hf _ m2) (by assumption) (by omega)) ?_
 intro _
 refine aD [1,2,4,7,8,16] [(1,aI n),(2,.p 0 0),(4,.p 1 0),(7,.p 2 0),(8,.v (.slice (some ⟨g2,0,none⟩) 0 0)),(16,aB (!(aE c)))] <| kC (!(aE c)) (fun h3 => ?_) (fun h3 => ?_)
 have h3n := co h3
 refine kQ <| cv [4,5,6] ⟨[(4,.p 1 0),(5,.v (.string (⟨#[]⟩ : ByteArray))),(6,.v (.slice (some ⟨g2,0,none⟩) 0 0))],[⟨50,a6 c (cS Z c Y)⟩,⟨50,a6 c (cS v1a c v1c)⟩,⟨50,a6 c (cS v1a c v1c)⟩],[],[a9 w.heap.size 85 13 (.slice (some ⟨g2,0,none⟩) 0 0) (([] : List Seg).map ap),aC w.heap.size (cS v1a c v1c) 2 (c.r.held.map pC),cH Z c Y]⟩ <| kR ?_
 have hmod : bu c n = (c,(⟨#[]⟩ : ByteArray),([] : List Seg)) := by first | rfl | (simp [bu,bQ, *]; done) | grind [bu,bQ]
 exact ⟨[.agg (a6 c (cS v1a c v1c)).toArray,.string (⟨#[]⟩ : ByteArray),.slice (some ⟨g2,0,none⟩) 0 0],by kernel_rfl,fun w' hb hf ha => by rw [hmod]; exact xo2 ((v1a,v1c),(((some ⟨g2,0,none⟩) : Option Addr),0)) rfl rfl (pO (hf _ m1) hB) (pR (hf _ m0) hB) (Apart.sub2 ha (i := 1) (j := 0) rfl rfl (by decide) rfl (fun b h => h) (fun b h => bl h)) hb⟩
 have h3n := bj h3
 refine kK <| kQ <| em 3 [2,4,7,8,21,22] [(2,.p 0 0),(4,.p 1 0),(7,.p 2 0),(8,.v (.slice (some ⟨g2,0,none⟩) 0 0)),(21,.v (.agg (ab c.r (cS Z c Y)).toArray)),(22,aI n)] 64 [.agg (ab c.r (cS Z c Y)).toArray,iI n] (some 23) rfl (cm fun ww hw hf => ysTakenIn_c c.r (cS Z c Y) n ww (hf _ m2) (by assumption) (by assumption) (by omega) w.heap.size hw) ?_
 rintro ⟨v4a,v4c⟩
 have htk5 : (ay c.r n).1.data.size ≤ _ := takenIn_sz _ _
 refine cv [2,4,7,8,9,10] ⟨[(2,.p 0 0),(4,.p 1 0),(7,.p 2 0),(8,.v (.slice (some ⟨g2,0,none⟩) 0 0)),(9,.p 3 0),(10,.v (.string ((ay c.r n).2)))],[⟨50,a6 c (cS Z c Y)⟩,⟨50,ce⟩,⟨50,a6 c (cS v1a c v1c)⟩,⟨46,ab (ay c.r n).1 (.slice v4a ((ay c.r n).1.held.length) v4c)⟩],[],[a9 w.heap.size 72 2 (.slice v4a ((ay c.r n).1.held.length) v4c) ((ay c.r n).1.held.map pC),a9 w.heap.size 85 13 (.slice (some ⟨g2,0,none⟩) 0 0) (([] : List Seg).map ap),aC w.heap.size (cS v1a c v1c) 2 (c.r.held.map pC),cH Z c Y]⟩ <| kQ <| cv [2,4,7,8,9,10] ⟨[(2,.p 0 0),(4,.p 1 0),(7,.p 2 0),(8,.v (.slice (some ⟨g2,0,none⟩) 0 0)),(9,.p 3 0),(10,.v (.string ((ay c.r n).2)))],[⟨50,a6 c (cS Z c Y)⟩,⟨50,ce⟩,⟨50,a6 { c with r := (ay c.r n).1 } (.slice v4a ((ay c.r n).1.held.length) v4c)⟩,⟨46,ab (ay c.r n).1 (.slice v4a ((ay c.r n).1.held.length) v4c)⟩],[],[a9 w.heap.size 72 2 (.slice v4a ((ay c.r n).1.held.length) v4c) ((ay c.r n).1.held.map pC),a9 w.heap.size 85 13 (.slice (some ⟨g2,0,none⟩) 0 0) (([] : List Seg).map ap),aC w.heap.size (cS v1a c v1c) 2 (c.r.held.map pC),cH Z c Y]⟩ <| kS <| kS <| c7 ⟨[(4,.p 1 0),(7,.p 2 0),(8,.v (.slice (some ⟨g2,0,none⟩) 0 0)),(10,.v (.string ((ay c.r n).2))),(46,aB (((wO c.r) == 0) && ((decide ((wO ((ay c.r n).1)) > 0)) && ((c.state != 8) && (c.state != 7)))))],[⟨50,a6 c (cS Z c Y)⟩,⟨50,ce⟩,⟨50,a6 { c with r := (ay c.r n).1 } (.slice v4a ((ay c.r n).1.held.length) v4c)⟩,⟨46,ab (ay c.r n).1 (.slice v4a ((ay c.r n).1.held.length) v4c)⟩],[],[a9 w.heap.size 72 2 (.slice v4a ((ay c.r n).1.held.length) v4c) ((ay c.r n).1.held.map pC),a9 w.heap.size 85 13 (.slice (some ⟨g2,0,none⟩) 0 0) (([] : List Seg).map ap),aC w.heap.size (cS v1a c v1c) 2 (c.r.held.map pC),cH Z c Y]⟩ ?_ ?_
 refine kG <| em 2 [2,4,7,8,9,10,29] [(2,.p 0 0),(4,.p 1 0),(7,.p 2 0),(8,.v (.slice (some ⟨g2,0,none⟩) 0 0)),(9,.p 3 0),(10,.v (.string ((ay c.r n).2))),(29,.v (.agg (ab c.r (cS Z c Y)).toArray))] 65 [.agg (ab c.r (cS Z c Y)).toArray] (some 30) rfl (br fun ww hf => e7 c.r.next c.r.data c.r.held (cS Z c Y) c.r.fin c.r.done ww (by omega)) ?_
 intro _
 refine eo 2 [2,4,7,8,9,10,32] [(2,.p 0 0),(4,.p 1 0),(7,.p 2 0),(8,.v (.slice (some ⟨g2,0,none⟩) 0 0)),(9,.p 3 0),(10,.v (.string ((ay c.r n).2))),(32,aB ((wO c.r) == 0))] <| kP 32 ((wO c.r) == 0) (fun h6 => ?_) (fun h6 => ?_)
 have h6p := cN h6
 refine em 1 [2,4,7,8,10,32,33] [(2,.p 0 0),(4,.p 1 0),(7,.p 2 0),(8,.v (.slice (some ⟨g2,0,none⟩) 0 0)),(10,.v (.string ((ay c.r n).2))),(32,aB true),(33,.v (.agg (ab (ay c.r n).1 (.slice v4a ((ay c.r n).1.held.length) v4c)).toArray))] 65 [.agg (ab (ay c.r n).1 (.slice v4a ((ay c.r n).1.held.length) v4c)).toArray] (some 34) rfl (br fun ww hf => e7 ((ay c.r n).1.next) ((ay c.r n).1.data) ((ay c.r n).1.held) (.slice v4a ((ay c.r n).1.held.length) v4c) ((ay c.r n).1.fin) ((ay c.r n).1.done) ww (by omega)) ?_
 intro _
 refine eo 3 [2,4,7,8,10,37] [(2,.p 0 0),(4,.p 1 0),(7,.p 2 0),(8,.v (.slice (some ⟨g2,0,none⟩) 0 0)),(10,.v (.string ((ay c.r n).2))),(37,aB (decide ((wO ((ay c.r n).1)) > 0)))] <| kP 37 (decide ((wO ((ay c.r n).1)) > 0)) (fun h7 => ?_) (fun h7 => ?_)
 have h7p := of_decide_eq_true h7
 refine eo 5 [2,4,7,8,10,42] [(2,.p 0 0),(4,.p 1 0),(7,.p 2 0),(8,.v (.slice (some ⟨g2,0,none⟩) 0 0)),(10,.v (.string ((ay c.r n).2))),(42,aB (c.state != 8))] <| kP 42 (c.state != 8) (fun h8 => ?_) (fun h8 => ?_)
 have h8p := neT h8
 refine aD [4,7,8,10,46] [(4,.p 1 0),(7,.p 2 0),(8,.v (.slice (some ⟨g2,0,none⟩) 0 0)),(10,.v (.string ((ay c.r n).2))),(46,aB (c.state != 7))] ?_
 show Wk _ _
 try rw [h6]
 try rw [h7]
 try rw [h8]
 exact kF 4 0 [4,7,8,10,46]
 have h8p := neF h8
 refine aD [4,7,8,10,46] [(4,.p 1 0),(7,.p 2 0),(8,.v (.slice (some ⟨g2,0,none⟩) 0 0)),(10,.v (.string ((ay c.r n).2))),(46,aB false)] ?_
 show Wk _ _
 try rw [h6]
 try rw [h7]
 try rw [h8]
 exact kF 4 0 [4,7,8,10,46]
 have h7p := of_decide_eq_false h7
 refine aD [4,7,8,10,46] [(4,.p 1 0),(7,.p 2 0),(8,.v (.slice (some ⟨g2,0,none⟩) 0 0)),(10,.v (.string ((ay c.r n).2))),(46,aB false)] ?_
 show Wk _ _
 try rw [h6]
 try rw [h7]
 exact kF 4 0 [4,7,8,10,46]
 have h6p := cI h6
 refine aD [4,7,8,10,46] [(4,.p 1 0),(7,.p 2 0),(8,.v (.slice (some ⟨g2,0,none⟩) 0 0)),(10,.v (.string ((ay c.r n).2))),(46,aB false)] ?_
 show Wk _ _
 try rw [h6]
 exact kF 4 0 [4,7,8,10,46]
 refine kC (((wO c.r) == 0) && ((decide ((wO ((ay c.r n).1)) > 0)) && ((c.state != 8) && (c.state != 7)))) (fun h9 => ?_) (fun h9 => ?_)
 have h9l := and_l h9
 have h9lp := cN h9l
 have h9r := and_r h9
 have h9rl := and_l h9r
 have h9rr := and_r h9r
 have h9rrl := and_l h9rr
 have h9rrlp := neT h9rrl
 have h9rrr := and_r h9rr
 have h9rrrp := neT h9rrr
 refine kS <| ef (α := Nat) (fun y => (fun (g11 : Nat) => (⟨[(4,.p 1 0),(5,.v (.string ((ay c.r n).2))),(6,.v (.slice (some ⟨g11,0,none⟩) 1 1))],[⟨50,a6 c (cS Z c Y)⟩,⟨50,a6 { c with r := (ay c.r n).1 } (.slice v4a ((ay c.r n).1.held.length) v4c)⟩,⟨50,a6 { c with r := (ay c.r n).1 } (.slice v4a ((ay c.r n).1.held.length) v4c)⟩,⟨46,ab (ay c.r n).1 (.slice v4a ((ay c.r n).1.held.length) v4c)⟩],[],[a9 w.heap.size 85 13 (.slice (some ⟨g11,0,none⟩) 1 1) (([⟨c.t.my,c.t.port,ag c.s,(ay c.r n).1.next,16,wO ((ay c.r n).1),⟨0,(-1),false,false,0,0⟩,(⟨#[]⟩ : ByteArray)⟩] : List Seg).map ap),a9 w.heap.size 72 2 (.slice v4a ((ay c.r n).1.held.length) v4c) ((ay c.r n).1.held.map pC),a9 w.heap.size 85 13 (.slice (some ⟨g2,0,none⟩) 0 0) (([] : List Seg).map ap),aC w.heap.size (cS v1a c v1c) 2 (c.r.held.map pC),cH Z c Y]⟩ : St)) y) ?_ ?_
 refine bw [true,false,true,true] (by kernel_rfl) (fun ρ σ => ?_)
 refine cK [0,1,2] [49,48,47,4] 5 [(49,.v (.agg (a6 { c with r := (ay c.r n).1 } (.slice v4a ((ay c.r n).1.held.length) v4c)).toArray)),(48,.v (.string ((ay c.r n).2))),(47,.v (.agg (a6 { c with r := (ay c.r n).1 } (.slice v4a ((ay c.r n).1.held.length) v4c)).toArray)),(4,.p 1 0)] <| kA [3] <| d8 3 62 [.agg (a6 { c with r := (ay c.r n).1 } (.slice v4a ((ay c.r n).1.held.length) v4c)).toArray] (some 50) rfl (br fun ww hf => eL ({ c with r := (ay c.r n).1 }) (.slice v4a ((ay c.r n).1.held.length) v4c) ww (au (hf _ m0)) (by first | omega | (dsimp only; omega))) ?_
 intro _
 refine kA [4,5] ⟨?_,?_⟩
 refine dG 4 rfl (a5 (aq rfl (a5 (a5 a7)))) (aQ (e := 85) (K := 13) (bytes := 104) [.agg #[iI c.t.my,iI c.t.port,iI (ag c.s),iI ((ay c.r n).1.next),iI 16,iI (wO ((ay c.r n).1)),iI 0,iI (-1),.bool false,.bool false,iI 0,iI 0,.string (⟨#[]⟩ : ByteArray)]] (rs := ([⟨c.t.my,c.t.port,ag c.s,(ay c.r n).1.next,16,wO ((ay c.r n).1),⟨0,(-1),false,false,0,0⟩,(⟨#[]⟩ : ByteArray)⟩] : List Seg).map ap) rfl rfl) ?_
 intro g11
 refine kA [5] <| dp 5 1 0 (a6 { c with r := (ay c.r n).1 } (.slice v4a ((ay c.r n).1.held.length) v4c)) rfl <| cK [6,7] [6,5,4] 0 [(6,.v (.slice (some ⟨g11,0,none⟩) 1 1)),(5,.v (.string ((ay c.r n).2))),(4,.p 1 0)] <| kZ ?_
 exact ⟨(g11),kF 4 0 [4,5,6]⟩
 refine dp 5 1 0 (a6 { c with r := (ay c.r n).1 } (.slice v4a ((ay c.r n).1.held.length) v4c)) rfl <| cK [6] [5,50,4] 2 [(5,.v (.string ((ay c.r n).2))),(50,.v (.agg #[iI c.t.my,iI c.t.port,iI (ag c.s),iI ((ay c.r n).1.next),iI 16,iI (wO ((ay c.r n).1)),iI 0,iI (-1),.bool false,.bool false,iI 0,iI 0,.string (⟨#[]⟩ : ByteArray)])),(4,.p 1 0)] <| kA [4] <| dG 4 rfl (a5 (aq rfl (a5 (a5 a7)))) (aQ (e := 85) (K := 13) (bytes := 104) [.agg #[iI c.t.my,iI c.t.port,iI (ag c.s),iI ((ay c.r n).1.next),iI 16,iI (wO ((ay c.r n).1)),iI 0,iI (-1),.bool false,.bool false,iI 0,iI 0,.string (⟨#[]⟩ : ByteArray)]] (rs := ([⟨c.t.my,c.t.port,ag c.s,(ay c.r n).1.next,16,wO ((ay c.r n).1),⟨0,(-1),false,false,0,0⟩,(⟨#[]⟩ : ByteArray)⟩] : List Seg).map ap) rfl rfl) ?_
 intro g13
 refine cK [7] [6,5,4] 0 [(6,.v (.slice (some ⟨g13,0,none⟩) 1 1)),(5,.v (.string ((ay c.r n).2))),(4,.p 1 0)] <| kZ ?_
 exact ⟨(g13),kF 4 0 [4,5,6]⟩
 intro g11
 refine kR ?_
 have hmod : bu c n = (({ c with r := (ay c.r n).1 }),((ay c.r n).2),([⟨c.t.my,c.t.port,ag c.s,(ay c.r n).1.next,16,wO ((ay c.r n).1),⟨0,(-1),false,false,0,0⟩,(⟨#[]⟩ : ByteArray)⟩] : List Seg)) := by first | rfl | (simp [bu,bQ, *]; done) | grind [bu,bQ]
 exact ⟨[.agg (a6 { c with r := (ay c.r n).1 } (.slice v4a ((ay c.r n).1.held.length) v4c)).toArray,.string ((ay c.r n).2),.slice (some ⟨g11,0,none⟩) 1 1],by kernel_rfl,fun w' hb hf ha => by rw [hmod]; exact xo2 ((v4a,v4c),(((some ⟨g11,0,none⟩) : Option Addr),1)) rfl rfl (pR (hf _ m1) hB) (pR (hf _ m0) hB) (Apart.sub2 ha (i := 1) (j := 0) rfl rfl (by decide) rfl (fun b h => bl h) (fun b h => bl h)) hb⟩
 refine kK <| kQ <| cv [4,5,6] ⟨[(4,.p 1 0),(5,.v (.string ((ay c.r n).2))),(6,.v (.slice (some ⟨g2,0,none⟩) 0 0))],[⟨50,a6 c (cS Z c Y)⟩,⟨50,a6 { c with r := (ay c.r n).1 } (.slice v4a ((ay c.r n).1.held.length) v4c)⟩,⟨50,a6 { c with r := (ay c.r n).1 } (.slice v4a ((ay c.r n).1.held.length) v4c)⟩,⟨46,ab (ay c.r n).1 (.slice v4a ((ay c.r n).1.held.length) v4c)⟩],[],[a9 w.heap.size 72 2 (.slice v4a ((ay c.r n).1.held.length) v4c) ((ay c.r n).1.held.map pC),a9 w.heap.size 85 13 (.slice (some ⟨g2,0,none⟩) 0 0) (([] : List Seg).map ap),aC w.heap.size (cS v1a c v1c) 2 (c.r.held.map pC),cH Z c Y]⟩ <| kR ?_
 have hmod : bu c n = (({ c with r := (ay c.r n).1 }),((ay c.r n).2),([] : List Seg)) := by first | rfl | (simp [bu,bQ, *]; done) | grind [bu,bQ]
 exact ⟨[.agg (a6 { c with r := (ay c.r n).1 } (.slice v4a ((ay c.r n).1.held.length) v4c)).toArray,.string ((ay c.r n).2),.slice (some ⟨g2,0,none⟩) 0 0],by kernel_rfl,fun w' hb hf ha => by rw [hmod]; exact xo2 ((v4a,v4c),(((some ⟨g2,0,none⟩) : Option Addr),0)) rfl rfl (pR (hf _ m0) hB) (pR (hf _ m1) hB) (Apart.sub2 ha (i := 0) (j := 1) rfl rfl (by decide) rfl (fun b h => bl h) (fun b h => bl h)) hb⟩
theorem dd (s : Snd) (window : Int) (mss : Int) (w : World) (hwi : -9223372036854775808 ≤ window ∧ window ≤ 9223372036854775807) : Calls Try.prog 78 #[.agg (am s).toArray, iI window, iI mss] w fun e w' => e = .returned (.tuple #[.agg (bN (nC s window mss).1).toArray, .bool ((nC s window mss).2)]) ∧ Below w.heap.size w w' := by
 refine cn (args := [.agg (am s).toArray,iI window,iI mss]) (fn := Try.f78) [] Try.func78 rfl Try.ntmps78 rfl (by simp) ?_
 refine kQ <| cv [1,2,3,6] ⟨[(1,aI window),(2,aI mss),(3,.p 0 0),(6,.p 1 0)],[⟨43,am s⟩,⟨119,bN (⟨0,(⟨#[]⟩ : ByteArray),false⟩ : Chk)⟩],[],[]⟩ <| kS <| kQ <| dZ 1 [1,2,3,6,11] [(11,.v (.agg (am s).toArray))] 85 [.agg (am s).toArray] (some 12) rfl (br fun ww hf => et s.una s.data s.sent s.fin s.finSent s.done ww ) ?_
 intro _
 refine aU [1,2,3,6,13] [(13,aB (!(aM s)))] <| kC (!(aM s)) (fun h1 => ?_) (fun h1 => ?_)
 have hsn := co h1
 refine kQ <| kOS 0 [6] [(6,.p 1 0)] (.agg (bN (⟨0,(⟨#[]⟩ : ByteArray),false⟩ : Chk)).toArray) rfl (fun _ _ _ ww hr => aH [] hr.1 rfl (by kernel_rfl) (by kernel_rfl) ww) ?_
 refine aU [6,7] [(7,aB false)] <| kR ?_
 have hmod : nC s window mss = ((⟨0,(⟨#[]⟩ : ByteArray),false⟩),false) := by first | rfl | (simp [nC,bg,aX, *]; done) | (simp [nC,bg,aX, *]; omega) | grind [nC,bg,aX]
 exact ⟨[.agg (bN (⟨0,(⟨#[]⟩ : ByteArray),false⟩ : Chk)).toArray,.bool false],by kernel_rfl,fun w' hb hf => by rw [hmod]; exact ⟨rfl,hb⟩⟩
 have h1b := ca (s := s) (by simpa using h1)
 obtain ⟨h1b0,h1b1,h1b2,h1b3,h1b4,h1b5,h1b6,h1b7,h1b8,h1b9,h1b10⟩ := h1b
 have hsn := bj h1
 obtain ⟨c0,c1,c2,c3,c4⟩ := chunkN_bd (window := window) (mss := mss) hsn
 refine kK <| kS <| bY [] (by kernel_rfl) (fun ρ σ => ?_)
 refine cK [0,3] [18,15,2,3,6] 6 [(18,.v (.agg (am s).toArray)),(15,aI window),(2,aI mss),(3,.p 0 0),(6,.p 1 0)] <| kA [1] <| d8 1 88 [iI window,iI 1000000] (some 16) rfl (bF fun ww hf => fG window 1000000 ww ) ?_
 intro _
 refine kA [2] <| d8 2 55 [iI 0,iI (min window 1000000)] (some 17) rfl (bF fun ww hf => dE 0 (min window 1000000) ww ) ?_
 intro _
 refine kA [4] <| d8 4 71 [.agg (am s).toArray] (some 19) rfl (br fun ww hf => dY s.una s.data s.sent s.fin s.finSent s.done ww ) ?_
 intro _
 refine cK [5] [20,2,3,6] 2 [(20,aI (K6.wrap ((max 0 (min window 1000000)) - (af s)))),(2,aI mss),(3,.p 0 0),(6,.p 1 0)] <| fY (t := [(20,aI (K6.wrap ((max 0 (min window 1000000)) - (af s)))),(2,aI mss),(3,.p 0 0),(6,.p 1 0)]) (t' := [(20,aI ((max 0 (min window 1000000)) - (af s))),(2,aI mss),(3,.p 0 0),(6,.p 1 0)]) (by rw [show (K6.wrap ((max 0 (min window 1000000)) - (af s))) = ((max 0 (min window 1000000)) - (af s)) from al (by omega) (by omega)]) ?_
 refine kA [6] <| d8 6 55 [iI 0,iI ((max 0 (min window 1000000)) - (af s))] (some 21) rfl (bF fun ww hf => dE 0 ((max 0 (min window 1000000)) - (af s)) ww ) ?_
 intro _
 refine fY (t := [(21,aI (max 0 ((max 0 (min window 1000000)) - (af s)))),(20,aI ((max 0 (min window 1000000)) - (af s))),(2,aI mss),(3,.p 0 0),(6,.p 1 0)]) (t' := [(21,aI (fg s window)),(20,aI ((max 0 (min window 1000000)) - (af s))),(2,aI mss),(3,.p 0 0),(6,.p 1 0)]) (by rw [show (max 0 ((max 0 (min window 1000000)) - (af s))) = (fg s window) from wnd_s]) ?_
 refine cK [7] [8,2,3,6] 0 [(8,aI (fg s window)),(2,aI mss),(3,.p 0 0),(6,.p 1 0)] <| kZ <| kS <| bY [] (by kernel_rfl) (fun ρ σ => ?_)
 refine cK [0,1,3,4,5,6,7,8] [30,23,22,8,3,6] 4 [(30,aI (K6.wrap ((s.data.size : Int) - s.sent))),(23,aI (fg s window)),(22,aI mss),(8,aI (fg s window)),(3,.p 0 0),(6,.p 1 0)] <| fY (t := [(30,aI (K6.wrap ((s.data.size : Int) - s.sent))),(23,aI (fg s window)),(22,aI mss),(8,aI (fg s window)),(3,.p 0 0),(6,.p 1 0)]) (t' := [(30,aI ((s.data.size : Int) - s.sent)),(23,aI (fg s window)),(22,aI mss),(8,aI (fg s window)),(3,.p 0 0),(6,.p 1 0)]) (by rw [show (K6.wrap ((s.data.size : Int) - s.sent)) = ((s.data.size : Int) - s.sent) from al (by omega) (by omega)]) ?_
 refine kA [2] <| d8 2 88 [iI mss,iI (fg s window)] (some 24) rfl (bF fun ww hf => fG mss (fg s window) ww ) ?_
 intro _
 refine kA [9] <| d8 9 88 [iI (min mss (fg s window)),iI ((s.data.size : Int) - s.sent)] (some 31) rfl (bF fun ww hf => fG (min mss (fg s window)) ((s.data.size : Int) - s.sent) ww ) ?_
 intro _
 refine kA [10] <| d8 10 55 [iI 0,iI (min (min mss (fg s window)) ((s.data.size : Int) - s.sent))] (some 32) rfl (bF fun ww hf => dE 0 (min (min mss (fg s window)) ((s.data.size : Int) - s.sent)) ww ) ?_
 intro _
 refine fY (t := [(32,aI (max 0 (min (min mss (fg s window)) ((s.data.size : Int) - s.sent)))),(31,aI (min (min mss (fg s window)) ((s.data.size : Int) - s.sent))),(24,aI (min mss (fg s window))),(30,aI ((s.data.size : Int) - s.sent)),(23,aI (fg s window)),(22,aI mss),(8,aI (fg s window)),(3,.p 0 0),(6,.p 1 0)]) (t' := [(32,aI (aZ s window mss)),(31,aI (min (min mss (fg s window)) ((s.data.size : Int) - s.sent))),(24,aI (min mss (fg s window))),(30,aI ((s.data.size : Int) - s.sent)),(23,aI (fg s window)),(22,aI mss),(8,aI (fg s window)),(3,.p 0 0),(6,.p 1 0)]) (by rw [show (max 0 (min (min mss (fg s window)) ((s.data.size : Int) - s.sent))) = (aZ s window mss) from rfl]) ?_
 refine cK [11] [9,8,3,6] 0 [(9,aI (aZ s window mss)),(8,aI (fg s window)),(3,.p 0 0),(6,.p 1 0)] <| kZ <| kS <| c7 ⟨[(3,.p 0 0),(6,.p 1 0),(8,aI (fg s window)),(9,aI (aZ s window mss)),(10,.p 2 0)],[⟨43,am s⟩,⟨119,bN (⟨0,(⟨#[]⟩ : ByteArray),false⟩ : Chk)⟩,⟨119,bN (⟨ag s,s.data.extract (s.sent).toNat (s.sent + (aZ s window mss)).toNat,false⟩ : Chk)⟩],[],[]⟩ ?_ ?_
 refine bY [] (by kernel_rfl) (fun ρ σ => ?_)
 refine cK [0,2,3,4,5,6,7,8,9] [42,38,36,33,9,8,3,6] 5 [(42,aI (K6.wrap (s.sent + (aZ s window mss)))),(38,aI s.sent),(36,.v (.string s.data)),(33,.v (.agg (am s).toArray)),(9,aI (aZ s window mss)),(8,aI (fg s window)),(3,.p 0 0),(6,.p 1 0)] <| fY (t := [(42,aI (K6.wrap (s.sent + (aZ s window mss)))),(38,aI s.sent),(36,.v (.string s.data)),(33,.v (.agg (am s).toArray)),(9,aI (aZ s window mss)),(8,aI (fg s window)),(3,.p 0 0),(6,.p 1 0)]) (t' := [(42,aI (s.sent + (aZ s window mss))),(38,aI s.sent),(36,.v (.string s.data)),(33,.v (.agg (am s).toArray)),(9,aI (aZ s window mss)),(8,aI (fg s window)),(3,.p 0 0),(6,.p 1 0)]) (by rw [show (K6.wrap (s.sent + (aZ s window mss))) = (s.sent + (aZ s window mss)) from al (by omega) (by omega)]) ?_
 refine kX 10 (.string (s.data.extract (s.sent).toNat (s.sent + (aZ s window mss)).toNat)) rfl (fun _ _ ww hA => act_slS (s.sent) (s.sent + (aZ s window mss)) hA rfl (by kernel_rfl) rfl rfl rfl (by omega) (by omega) (by omega) ww) ?_
 refine kA [1,12] ⟨?_,?_⟩
 refine d8 1 91 [.agg (am s).toArray] (some 34) rfl (br fun ww hf => sNextOf_c s.una s.data s.sent s.fin s.finSent s.done ww ) ?_
 intro _
 refine kX 11 (.agg (bN (⟨ag s,s.data.extract (s.sent).toNat (s.sent + (aZ s window mss)).toNat,false⟩ : Chk)).toArray) rfl (fun _ _ ww hA => aH [(0,iI (ag s)),(1,.string (s.data.extract (s.sent).toNat (s.sent + (aZ s window mss)).toNat))] hA rfl (by kernel_rfl) (by kernel_rfl) ww) ?_
 refine kA [12] <| du 12 ⟨119,bN (⟨0,(⟨#[]⟩ : ByteArray),false⟩ : Chk)⟩ _ rfl (by kernel_rfl) (by kernel_rfl) (by kernel_rfl) (by kernel_rfl) rfl ?_
 refine kA [13] <| dp 13 2 0 (bN (⟨ag s,s.data.extract (s.sent).toNat (s.sent + (aZ s window mss)).toNat,false⟩ : Chk)) rfl <| kZ ?_
 exact kF 3 0 [3,6,8,9,10]
 refine du 12 ⟨119,bN (⟨0,(⟨#[]⟩ : ByteArray),false⟩ : Chk)⟩ _ rfl (by kernel_rfl) (by kernel_rfl) (by kernel_rfl) (by kernel_rfl) rfl ?_
 refine kA [1] <| d8 1 91 [.agg (am s).toArray] (some 34) rfl (br fun ww hf => sNextOf_c s.una s.data s.sent s.fin s.finSent s.done ww ) ?_
 intro _
 refine kX 11 (.agg (bN (⟨ag s,s.data.extract (s.sent).toNat (s.sent + (aZ s window mss)).toNat,false⟩ : Chk)).toArray) rfl (fun _ _ ww hA => aH [(0,iI (ag s)),(1,.string (s.data.extract (s.sent).toNat (s.sent + (aZ s window mss)).toNat))] hA rfl (by kernel_rfl) (by kernel_rfl) ww) ?_
 refine kA [13] <| dp 13 2 0 (bN (⟨ag s,s.data.extract (s.sent).toNat (s.sent + (aZ s window mss)).toNat,false⟩ : Chk)) rfl <| kZ ?_
 exact kF 3 0 [3,6,8,9,10]
 refine kQ <| dK 3 [3,6,8,9,10,47] [(47,aB s.fin)] <| kP 47 (s.fin) (fun h2 => ?_) (fun h2 => ?_)
 refine dK 5 [3,6,8,9,10,52] [(52,aB (!s.finSent))] <| kP 52 (!s.finSent) (fun h3 => ?_) (fun h3 => ?_)
 have h3n := co h3
 refine dK 5 [3,6,8,9,10,57] [(57,aB (!s.done))] <| kP 57 (!s.done) (fun h4 => ?_) (fun h4 => ?_)
 have h4n := co h4
 refine eo 10 [6,8,9,10,67] [(6,.p 1 0),(8,aI (fg s window)),(9,aI (aZ s window mss)),(10,.p 2 0),(67,aB ((K6.wrap (s.sent + (aZ s window mss))) == (s.data.size : Int)))] <| gd (t' := [(6,.p 1 0),(8,aI (fg s window)),(9,aI (aZ s window mss)),(10,.p 2 0),(67,aB ((s.sent + (aZ s window mss)) == (s.data.size : Int)))]) (by rw [show (K6.wrap (s.sent + (aZ s window mss))) = (s.sent + (aZ s window mss)) from al (by omega) (by omega)]) ?_
 refine kP 67 ((s.sent + (aZ s window mss)) == (s.data.size : Int)) (fun h5 => ?_) (fun h5 => ?_)
 have h5p := cN h5
 refine ba [6,9,10] [] 2 ⟨119,bN (⟨ag s,s.data.extract (s.sent).toNat (s.sent + (aZ s window mss)).toNat,decide ((fg s window) > (aZ s window mss))⟩ : Chk)⟩ <| kS <| kQ <| dK 3 [6,10,75] [(75,aB ((aZ s window mss) == 0))] ?_
 refine kP 75 ((aZ s window mss) == 0) (fun h6 => ?_) (fun h6 => ?_)
 have h6p := cN h6
 refine aU [6,10,79] [(79,aB (!(decide ((fg s window) > (aZ s window mss)))))] <| kC (!(decide ((fg s window) > (aZ s window mss)))) (fun h7 => ?_) (fun h7 => ?_)
 have h7n := co h7
 refine kQ <| kOS 0 [6] [(6,.p 1 0)] (.agg (bN (⟨0,(⟨#[]⟩ : ByteArray),false⟩ : Chk)).toArray) rfl (fun _ _ _ ww hr => aH [] hr.1 rfl (by kernel_rfl) (by kernel_rfl) ww) ?_
 refine aU [6,7] [(7,aB false)] <| kR ?_
 have hmod : nC s window mss = ((⟨0,(⟨#[]⟩ : ByteArray),false⟩),false) := by first | rfl | (simp [nC,bg,aX, *]; done) | (simp [nC,bg,aX, *]; omega) | grind [nC,bg,aX]
 exact ⟨[.agg (bN (⟨0,(⟨#[]⟩ : ByteArray),false⟩ : Chk)).toArray,.bool false],by kernel_rfl,fun w' hb hf => by rw [hmod]; exact ⟨rfl,hb⟩⟩
 have h7n := bj h7
 refine kK <| kQ <| ba [6,7] [(7,aB true)] 1 ⟨119,bN (⟨ag s,s.data.extract (s.sent).toNat (s.sent + (aZ s window mss)).toNat,decide ((fg s window) > (aZ s window mss))⟩ : Chk)⟩ <| kR ?_
 have hmod : nC s window mss = ((⟨ag s,s.data.extract (s.sent).toNat (s.sent + (aZ s window mss)).toNat,decide ((fg s window) > (aZ s window mss))⟩),true) := by first | rfl | (simp [nC,bg,aX, *]; done) | (simp [nC,bg,aX, *]; omega) | grind [nC,bg,aX]
 exact ⟨[.agg (bN (⟨ag s,s.data.extract (s.sent).toNat (s.sent + (aZ s window mss)).toNat,decide ((fg s window) > (aZ s window mss))⟩ : Chk)).toArray,.bool true],by kernel_rfl,fun w' hb hf => by rw [hmod]; exact ⟨rfl,hb⟩⟩
 have h6p := cI h6
 refine aU [6,10,79] [(79,aB false)] <| kN <| kK <| kQ <| ba [6,7] [(7,aB true)] 1 ⟨119,bN (⟨ag s,s.data.extract (s.sent).toNat (s.sent + (aZ s window mss)).toNat,decide ((fg s window) > (aZ s window mss))⟩ : Chk)⟩ ?_
 refine kR ?_
 have hmod : nC s window mss = ((⟨ag s,s.data.extract (s.sent).toNat (s.sent + (aZ s window mss)).toNat,decide ((fg s window) > (aZ s window mss))⟩),true) := by first | rfl | (simp [nC,bg,aX, *]; done) | (simp [nC,bg,aX, *]; omega) | grind [nC,bg,aX]
 exact ⟨[.agg (bN (⟨ag s,s.data.extract (s.sent).toNat (s.sent + (aZ s window mss)).toNat,decide ((fg s window) > (aZ s window mss))⟩ : Chk)).toArray,.bool true],by kernel_rfl,fun w' hb hf => by rw [hmod]; exact ⟨rfl,hb⟩⟩
 have h5p := cI h5
 refine aU [6,9,10] [] <| kS <| kQ <| dK 3 [6,10,75] [(75,aB ((aZ s window mss) == 0))] ?_
 refine kP 75 ((aZ s window mss) == 0) (fun h8 => ?_) (fun h8 => ?_)
 have h8p := cN h8
 refine aU [6,10,79] [(79,aB true)] <| kT <| kQ <| kOS 0 [6] [(6,.p 1 0)] (.agg (bN (⟨0,(⟨#[]⟩ : ByteArray),false⟩ : Chk)).toArray) rfl (fun _ _ _ ww hr => aH [] hr.1 rfl (by kernel_rfl) (by kernel_rfl) ww) ?_
 refine aU [6,7] [(7,aB false)] <| kR ?_
 have hmod : nC s window mss = ((⟨0,(⟨#[]⟩ : ByteArray),false⟩),false) := by first | rfl | (simp [nC,bg,aX, *]; done) | (simp [nC,bg,aX, *]; omega) | grind [nC,bg,aX]
 exact ⟨[.agg (bN (⟨0,(⟨#[]⟩ : ByteArray),false⟩ : Chk)).toArray,.bool false],by kernel_rfl,fun w' hb hf => by rw [hmod]; exact ⟨rfl,hb⟩⟩
 have h8p := cI h8
 refine aU [6,10,79] [(79,aB false)] <| kN <| kK <| kQ <| ba [6,7] [(7,aB true)] 1 ⟨119,bN (⟨ag s,s.data.extract (s.sent).toNat (s.sent + (aZ s window mss)).toNat,false⟩ : Chk)⟩ ?_
 refine kR ?_
 have hmod : nC s window mss = ((⟨ag s,s.data.extract (s.sent).toNat (s.sent + (aZ s window mss)).toNat,false⟩),true) := by first | rfl | (simp [nC,bg,aX, *]; done) | (simp [nC,bg,aX, *]; omega) | grind [nC,bg,aX]
 exact ⟨[.agg (bN (⟨ag s,s.data.extract (s.sent).toNat (s.sent + (aZ s window mss)).toNat,false⟩ : Chk)).toArray,.bool true],by kernel_rfl,fun w' hb hf => by rw [hmod]; exact ⟨rfl,hb⟩⟩
 have h4n := bj h4
 refine aU [6,9,10] [] <| kS <| kQ <| dK 3 [6,10,75] [(75,aB ((aZ s window mss) == 0))] ?_
 refine kP 75 ((aZ s window mss) == 0) (fun h9 => ?_) (fun h9 => ?_)
 have h9p := cN h9
 refine aU [6,10,79] [(79,aB true)] <| kT <| kQ <| kOS 0 [6] [(6,.p 1 0)] (.agg (bN (⟨0,(⟨#[]⟩ : ByteArray),false⟩ : Chk)).toArray) rfl (fun _ _ _ ww hr => aH [] hr.1 rfl (by kernel_rfl) (by kernel_rfl) ww) ?_
 refine aU [6,7] [(7,aB false)] <| kR ?_
 have hmod : nC s window mss = ((⟨0,(⟨#[]⟩ : ByteArray),false⟩),false) := by first | rfl | (simp [nC,bg,aX, *]; done) | (simp [nC,bg,aX, *]; omega) | grind [nC,bg,aX]
 exact ⟨[.agg (bN (⟨0,(⟨#[]⟩ : ByteArray),false⟩ : Chk)).toArray,.bool false],by kernel_rfl,fun w' hb hf => by rw [hmod]; exact ⟨rfl,hb⟩⟩
 have h9p := cI h9
 refine aU [6,10,79] [(79,aB false)] <| kN <| kK <| kQ <| ba [6,7] [(7,aB true)] 1 ⟨119,bN (⟨ag s,s.data.extract (s.sent).toNat (s.sent + (aZ s window mss)).toNat,false⟩ : Chk)⟩ ?_
 refine kR ?_
 have hmod : nC s window mss = ((⟨ag s,s.data.extract (s.sent).toNat (s.sent + (aZ s window mss)).toNat,false⟩),true) := by first | rfl | (simp [nC,bg,aX, *]; done) | (simp [nC,bg,aX, *]; omega) | grind [nC,bg,aX]
 exact ⟨[.agg (bN (⟨ag s,s.data.extract (s.sent).toNat (s.sent + (aZ s window mss)).toNat,false⟩ : Chk)).toArray,.bool true],by kernel_rfl,fun w' hb hf => by rw [hmod]; exact ⟨rfl,hb⟩⟩
 have h3n := bj h3
 refine aU [6,9,10] [] <| kS <| kQ <| dK 3 [6,10,75] [(75,aB ((aZ s window mss) == 0))] ?_
 refine kP 75 ((aZ s window mss) == 0) (fun h10 => ?_) (fun h10 => ?_)
 have h10p := cN h10
 refine aU [6,10,79] [(79,aB true)] <| kT <| kQ <| kOS 0 [6] [(6,.p 1 0)] (.agg (bN (⟨0,(⟨#[]⟩ : ByteArray),false⟩ : Chk)).toArray) rfl (fun _ _ _ ww hr => aH [] hr.1 rfl (by kernel_rfl) (by kernel_rfl) ww) ?_
 refine aU [6,7] [(7,aB false)] <| kR ?_
 have hmod : nC s window mss = ((⟨0,(⟨#[]⟩ : ByteArray),false⟩),false) := by first | rfl | (simp [nC,bg,aX, *]; done) | (simp [nC,bg,aX, *]; omega) | grind [nC,bg,aX]
 exact ⟨[.agg (bN (⟨0,(⟨#[]⟩ : ByteArray),false⟩ : Chk)).toArray,.bool false],by kernel_rfl,fun w' hb hf => by rw [hmod]; exact ⟨rfl,hb⟩⟩
 have h10p := cI h10
 refine aU [6,10,79] [(79,aB false)] <| kN <| kK <| kQ <| ba [6,7] [(7,aB true)] 1 ⟨119,bN (⟨ag s,s.data.extract (s.sent).toNat (s.sent + (aZ s window mss)).toNat,false⟩ : Chk)⟩ ?_
 refine kR ?_
 have hmod : nC s window mss = ((⟨ag s,s.data.extract (s.sent).toNat (s.sent + (aZ s window mss)).toNat,false⟩),true) := by first | rfl | (simp [nC,bg,aX, *]; done) | (simp [nC,bg,aX, *]; omega) | grind [nC,bg,aX]
 exact ⟨[.agg (bN (⟨ag s,s.data.extract (s.sent).toNat (s.sent + (aZ s window mss)).toNat,false⟩ : Chk)).toArray,.bool true],by kernel_rfl,fun w' hb hf => by rw [hmod]; exact ⟨rfl,hb⟩⟩
 refine aU [6,9,10] [] <| kS <| kQ <| dK 3 [6,10,75] [(75,aB ((aZ s window mss) == 0))] ?_
 refine kP 75 ((aZ s window mss) == 0) (fun h11 => ?_) (fun h11 => ?_)
 have h11p := cN h11
 refine aU [6,10,79] [(79,aB true)] <| kT <| kQ <| kOS 0 [6] [(6,.p 1 0)] (.agg (bN (⟨0,(⟨#[]⟩ : ByteArray),false⟩ : Chk)).toArray) rfl (fun _ _ _ ww hr => aH [] hr.1 rfl (by kernel_rfl) (by kernel_rfl) ww) ?_
 refine aU [6,7] [(7,aB false)] <| kR ?_
 have hmod : nC s window mss = ((⟨0,(⟨#[]⟩ : ByteArray),false⟩),false) := by first | rfl | (simp [nC,bg,aX, *]; done) | (simp [nC,bg,aX, *]; omega) | grind [nC,bg,aX]
 exact ⟨[.agg (bN (⟨0,(⟨#[]⟩ : ByteArray),false⟩ : Chk)).toArray,.bool false],by kernel_rfl,fun w' hb hf => by rw [hmod]; exact ⟨rfl,hb⟩⟩
 have h11p := cI h11
 refine aU [6,10,79] [(79,aB false)] <| kN <| kK <| kQ <| ba [6,7] [(7,aB true)] 1 ⟨119,bN (⟨ag s,s.data.extract (s.sent).toNat (s.sent + (aZ s window mss)).toNat,false⟩ : Chk)⟩ ?_
 refine kR ?_
 have hmod : nC s window mss = ((⟨ag s,s.data.extract (s.sent).toNat (s.sent + (aZ s window mss)).toNat,false⟩),true) := by first | rfl | (simp [nC,bg,aX, *]; done) | (simp [nC,bg,aX, *]; omega) | grind [nC,bg,aX]
 exact ⟨[.agg (bN (⟨ag s,s.data.extract (s.sent).toNat (s.sent + (aZ s window mss)).toNat,false⟩ : Chk)).toArray,.bool true],by kernel_rfl,fun w' hb hf => by rw [hmod]; exact ⟨rfl,hb⟩⟩
theorem fw (s : Snd) (c : Chk) (w : World)  : Calls Try.prog 79 #[.agg (am s).toArray, .agg (bN c).toArray] w fun e w' => e = .returned (.agg (am (sO s c)).toArray) ∧ Below w.heap.size w w' := by
 have hsf := sentS_fin s c
 refine cn (args := [.agg (am s).toArray,.agg (bN c).toArray]) (fn := Try.f79) [] Try.func79 rfl Try.ntmps79 rfl (by simp) ?_
 refine kQ <| cv [2,3,4] ⟨[(2,.p 0 0),(3,.p 1 0),(4,.p 2 0)],[⟨43,am s⟩,⟨119,bN c⟩,⟨43,sndZ⟩],[],[]⟩ <| kQ <| cv [2,3,4,5] ⟨[(2,.p 0 0),(3,.p 1 0),(4,.p 2 0),(5,.p 3 0)],[⟨43,am s⟩,⟨119,bN c⟩,⟨43,sndZ⟩,⟨43,am s⟩],[],[]⟩ ?_
 refine kQ <| cv [2,3,4,5] ⟨[(2,.p 0 0),(3,.p 1 0),(4,.p 2 0),(5,.p 3 0)],[⟨43,am s⟩,⟨119,bN c⟩,⟨43,sndZ⟩,⟨43,am { s with sent := K6.wrap (s.sent + (c.text.size : Int)) }⟩],[],[]⟩ <| kS <| c7 ⟨[(2,.p 0 0),(3,.p 1 0),(4,.p 2 0),(5,.p 3 0)],[⟨43,am s⟩,⟨119,bN c⟩,⟨43,sndZ⟩,⟨43,am { s with sent := K6.wrap (s.sent + (c.text.size : Int)),finSent := s.finSent || c.fin }⟩],[],[]⟩ ?_ ?_
 refine kG <| eo 3 [2,3,4,5,16] [(2,.p 0 0),(3,.p 1 0),(4,.p 2 0),(5,.p 3 0),(16,aB s.finSent)] <| kP 16 (s.finSent) (fun h1 => ?_) (fun h1 => ?_)
 refine cv [2,3,4,5] ⟨[(2,.p 0 0),(3,.p 1 0),(4,.p 2 0),(5,.p 3 0)],[⟨43,am s⟩,⟨119,bN c⟩,⟨43,sndZ⟩,⟨43,am { s with sent := K6.wrap (s.sent + (c.text.size : Int)),finSent := true }⟩],[],[]⟩ ?_
 show Wk _ _
 try rw [h1]
 exact kF 4 0 [2,3,4,5]
 refine cv [2,3,4,5] ⟨[(2,.p 0 0),(3,.p 1 0),(4,.p 2 0),(5,.p 3 0)],[⟨43,am s⟩,⟨119,bN c⟩,⟨43,sndZ⟩,⟨43,am { s with sent := K6.wrap (s.sent + (c.text.size : Int)),finSent := c.fin }⟩],[],[]⟩ ?_
 show Wk _ _
 try rw [h1]
 exact kF 4 0 [2,3,4,5]
 refine kS <| kS <| c7 ⟨[(2,.p 0 0),(4,.p 2 0),(5,.p 3 0),(36,aB ((!(aM s)) || ((!(aM ({ s with sent := K6.wrap (s.sent + (c.text.size : Int)),finSent := s.finSent || c.fin }))) || (c.fin && s.done))))],[⟨43,am s⟩,⟨119,bN c⟩,⟨43,sndZ⟩,⟨43,am { s with sent := K6.wrap (s.sent + (c.text.size : Int)),finSent := s.finSent || c.fin }⟩],[],[]⟩ ?_ ?_
 refine kG <| em 1 [2,3,4,5,21] [(2,.p 0 0),(3,.p 1 0),(4,.p 2 0),(5,.p 3 0),(21,.v (.agg (am s).toArray))] 85 [.agg (am s).toArray] (some 22) rfl (br fun ww hf => et s.una s.data s.sent s.fin s.finSent s.done ww ) ?_
 intro _
 refine eo 2 [2,3,4,5,24] [(2,.p 0 0),(3,.p 1 0),(4,.p 2 0),(5,.p 3 0),(24,aB (!(aM s)))] <| kP 24 (!(aM s)) (fun h2 => ?_) (fun h2 => ?_)
 have h2n := co h2
 refine aD [2,4,5,36] [(2,.p 0 0),(4,.p 2 0),(5,.p 3 0),(36,aB true)] ?_
 show Wk _ _
 try rw [h2]
 exact kF 4 0 [2,4,5,36]
 have h2n := bj h2
 have h2nb := ca (s := s) (by simpa using h2n)
 obtain ⟨h2nb0,h2nb1,h2nb2,h2nb3,h2nb4,h2nb5,h2nb6,h2nb7,h2nb8,h2nb9,h2nb10⟩ := h2nb
 refine em 1 [2,3,4,5,24,25] [(2,.p 0 0),(3,.p 1 0),(4,.p 2 0),(5,.p 3 0),(24,aB false),(25,.v (.agg (am { s with sent := K6.wrap (s.sent + (c.text.size : Int)),finSent := s.finSent || c.fin }).toArray))] 85 [.agg (am { s with sent := K6.wrap (s.sent + (c.text.size : Int)),finSent := s.finSent || c.fin }).toArray] (some 26) rfl (br fun ww hf => et s.una s.data (K6.wrap (s.sent + (c.text.size : Int))) s.fin (s.finSent || c.fin) s.done ww ) ?_
 intro _
 refine eo 3 [2,3,4,5,29] [(2,.p 0 0),(3,.p 1 0),(4,.p 2 0),(5,.p 3 0),(29,aB (!(aM ({ s with sent := K6.wrap (s.sent + (c.text.size : Int)),finSent := s.finSent || c.fin }))))] <| kP 29 (!(aM ({ s with sent := K6.wrap (s.sent + (c.text.size : Int)),finSent := s.finSent || c.fin }))) (fun h3 => ?_) (fun h3 => ?_)
 have h3n := co h3
 refine aD [2,4,5,36] [(2,.p 0 0),(4,.p 2 0),(5,.p 3 0),(36,aB true)] ?_
 show Wk _ _
 try rw [h2]
 try rw [h3]
 exact kF 4 0 [2,4,5,36]
 have h3n := bj h3
 have h3nb := ca (s := ({ s with sent := K6.wrap (s.sent + (c.text.size : Int)),finSent := s.finSent || c.fin })) (by simpa using h3n)
 obtain ⟨h3nb0,h3nb1,h3nb2,h3nb3,h3nb4,h3nb5,h3nb6,h3nb7,h3nb8,h3nb9,h3nb10⟩ := h3nb
 refine eo 3 [2,4,5,29,32] [(2,.p 0 0),(4,.p 2 0),(5,.p 3 0),(29,aB false),(32,aB c.fin)] <| kP 32 (c.fin) (fun h4 => ?_) (fun h4 => ?_)
 refine aD [2,4,5,36] [(2,.p 0 0),(4,.p 2 0),(5,.p 3 0),(36,aB s.done)] ?_
 show Wk _ _
 try rw [h2]
 try rw [h3]
 try rw [h4]
 exact kF 4 0 [2,4,5,36]
 refine aD [2,4,5,36] [(2,.p 0 0),(4,.p 2 0),(5,.p 3 0),(36,aB false)] ?_
 show Wk _ _
 try rw [h2]
 try rw [h3]
 try rw [h4]
 exact kF 4 0 [2,4,5,36]
 refine kC ((!(aM s)) || ((!(aM ({ s with sent := K6.wrap (s.sent + (c.text.size : Int)),finSent := s.finSent || c.fin }))) || (c.fin && s.done))) (fun h5 => ?_) (fun h5 => ?_)
 refine kQ <| cv [4] ⟨[(4,.p 2 0)],[⟨43,am s⟩,⟨119,bN c⟩,⟨43,am s⟩,⟨43,am { s with sent := K6.wrap (s.sent + (c.text.size : Int)),finSent := s.finSent || c.fin }⟩],[],[]⟩ <| kR ?_
 have hmod : sO s c = s := by first | rfl | (simp [sO,sentS, *]; done) | grind [sO,sentS]
 exact ⟨[.agg (am s).toArray],by kernel_rfl,fun w' hb hf => by rw [hmod]; exact ⟨rfl,hb⟩⟩
 have h5l := gn h5
 have h5ln := bj h5l
 have h5lnb := ca (s := s) (by simpa using h5ln)
 obtain ⟨h5lnb0,h5lnb1,h5lnb2,h5lnb3,h5lnb4,h5lnb5,h5lnb6,h5lnb7,h5lnb8,h5lnb9,h5lnb10⟩ := h5lnb
 have h5r := gj h5
 have h5rl := gn h5r
 have h5rln := bj h5rl
 have h5rlnb := ca (s := ({ s with sent := K6.wrap (s.sent + (c.text.size : Int)),finSent := s.finSent || c.fin })) (by simpa using h5rln)
 obtain ⟨h5rlnb0,h5rlnb1,h5rlnb2,h5rlnb3,h5rlnb4,h5rlnb5,h5rlnb6,h5rlnb7,h5rlnb8,h5rlnb9,h5rlnb10⟩ := h5rlnb
 have h5rr := gj h5r
 refine kK <| kQ <| cv [4] ⟨[(4,.p 2 0)],[⟨43,am s⟩,⟨119,bN c⟩,⟨43,am { s with sent := K6.wrap (s.sent + (c.text.size : Int)),finSent := s.finSent || c.fin }⟩,⟨43,am { s with sent := K6.wrap (s.sent + (c.text.size : Int)),finSent := s.finSent || c.fin }⟩],[],[]⟩ <| kR ?_
 have hmod : sO s c = ({ s with sent := K6.wrap (s.sent + (c.text.size : Int)),finSent := s.finSent || c.fin }) := by first | rfl | (simp [sO,sentS, *]; done) | grind [sO,sentS]
 exact ⟨[.agg (am { s with sent := K6.wrap (s.sent + (c.text.size : Int)),finSent := s.finSent || c.fin }).toArray],by kernel_rfl,fun w' hb hf => by rw [hmod]; exact ⟨rfl,hb⟩⟩
theorem fK (s : Snd) (text : ByteArray) (w : World) (hts : text.size ≤ 4611686018427387904) : Calls Try.prog 59 #[.agg (am s).toArray, .string text] w fun e w' => e = .returned (.tuple #[.agg (am (aN s text).1).toArray, iI ((aN s text).2)]) ∧ Below w.heap.size w w' := by
 refine cn (args := [.agg (am s).toArray,.string text]) (fn := Try.f59) [] Try.func59 rfl Try.ntmps59 rfl (by simp) ?_
 refine kQ <| cv [1,2,4] ⟨[(1,.v (.string text)),(2,.p 0 0),(4,.p 1 0)],[⟨43,am s⟩,⟨43,sndZ⟩],[],[]⟩ <| kS <| kQ <| dZ 1 [1,2,4,7] [(7,.v (.agg (am s).toArray))] 85 [.agg (am s).toArray] (some 8) rfl (br fun ww hf => et s.una s.data s.sent s.fin s.finSent s.done ww ) ?_
 intro _
 refine dK 2 [1,2,4,10] [(10,aB (!(aM s)))] <| kP 10 (!(aM s)) (fun h1 => ?_) (fun h1 => ?_)
 have h1n := co h1
 refine aU [1,2,4,13] [(13,aB true)] <| kT <| kQ <| ba [4,5] [(5,aI 0)] 1 ⟨43,am s⟩ ?_
 refine kR ?_
 have hmod : aN s text = (s,0) := by first | rfl | (simp [aN, *]; done) | grind [aN]
 exact ⟨[.agg (am s).toArray,iI 0],by kernel_rfl,fun w' hb hf => by rw [hmod]; exact ⟨rfl,hb⟩⟩
 have h1n := bj h1
 have h1nb := ca (s := s) (by simpa using h1n)
 obtain ⟨h1nb0,h1nb1,h1nb2,h1nb3,h1nb4,h1nb5,h1nb6,h1nb7,h1nb8,h1nb9,h1nb10⟩ := h1nb
 refine aU [1,2,4,13] [(13,aB s.fin)] <| kC (s.fin) (fun h2 => ?_) (fun h2 => ?_)
 refine kQ <| ba [4,5] [(5,aI 0)] 1 ⟨43,am s⟩ <| kR ?_
 have hmod : aN s text = (s,0) := by first | rfl | (simp [aN, *]; done) | grind [aN]
 exact ⟨[.agg (am s).toArray,iI 0],by kernel_rfl,fun w' hb hf => by rw [hmod]; exact ⟨rfl,hb⟩⟩
 refine kK <| kQ <| dZ 6 [1,2,4,16,20] [(16,aI (text.size : Int)),(20,aI (K6.wrap (48 - (s.data.size : Int))))] 88 [iI (text.size : Int),iI (K6.wrap (48 - (s.data.size : Int)))] (some 21) rfl (bF fun ww hf => fG (text.size : Int) (K6.wrap (48 - (s.data.size : Int))) ww ) ?_
 intro _
 refine dK 1 [1,2,4,6] [(6,aI (min (text.size : Int) (K6.wrap (48 - (s.data.size : Int)))))] <| cJ [1,2,4,6] [(6,aI (min (text.size : Int) (K6.wrap (48 - (s.data.size : Int)))))] [(6,aI (min (text.size : Int) (48 - (s.data.size : Int))))] (by rw [show (K6.wrap (48 - (s.data.size : Int))) = (48 - (s.data.size : Int)) from al (by omega) (by omega)]) (by kernel_rfl) ?_
 refine aU [1,2,4,6] [] <| kS <| bY [false,true] (by kernel_rfl) (fun ρ σ => ?_)
 refine cK [0,2,3] [25,24,22,2,4,6] 5 [(25,aI (min (text.size : Int) (48 - (s.data.size : Int)))),(24,.v (.string text)),(22,.p 0 1),(2,.p 0 0),(4,.p 1 0),(6,aI (min (text.size : Int) (48 - (s.data.size : Int))))] <| kX 4 (.string (text.extract 0 (min (text.size : Int) (48 - (s.data.size : Int))).toNat)) rfl (fun _ _ ww hA => act_slS0 (min (text.size : Int) (48 - (s.data.size : Int))) hA rfl (by kernel_rfl) rfl rfl (by omega) (by omega) ww) ?_
 refine kA [1] <| e6 1 (.v (.string s.data)) rfl <| kX 5 (.string (s.data ++ (text.extract 0 (min (text.size : Int) (48 - (s.data.size : Int))).toNat))) rfl (fun _ _ ww hA => ck hA rfl (by kernel_rfl) (by kernel_rfl) (str_add (by first | omega | (simp only [ByteArray.size_extract]; omega)) ww)) ?_
 refine cK [6] [28,27,2,4,6] 1 [(28,.p 0 1),(27,.v (.string (s.data ++ (text.extract 0 (min (text.size : Int) (48 - (s.data.size : Int))).toNat)))),(2,.p 0 0),(4,.p 1 0),(6,aI (min (text.size : Int) (48 - (s.data.size : Int))))] <| kA [7] <| dp 7 0 1 [.string (s.data ++ (text.extract 0 (min (text.size : Int) (48 - (s.data.size : Int))).toNat))] rfl <| kZ <| kQ <| ba [4,5] [(5,aI (min (text.size : Int) (48 - (s.data.size : Int))))] 1 ⟨43,am { s with data := s.data ++ (text.extract 0 (min (text.size : Int) (48 - (s.data.size : Int))).toNat) }⟩ ?_
 refine kR ?_
 have hmod : aN s text = (({ s with data := s.data ++ (text.extract 0 (min (text.size : Int) (48 - (s.data.size : Int))).toNat) }),(min (text.size : Int) (48 - (s.data.size : Int)))) := by first | rfl | (simp [aN, *]; done) | grind [aN]
 exact ⟨[.agg (am { s with data := s.data ++ (text.extract 0 (min (text.size : Int) (48 - (s.data.size : Int))).toNat) }).toArray,iI (min (text.size : Int) (48 - (s.data.size : Int)))],by kernel_rfl,fun w' hb hf => by rw [hmod]; exact ⟨rfl,hb⟩⟩
theorem fP (c : Con) (rV : Value) (window : Int) (w : World) (hZ : Sl w rV 2 (c.r.held.map pC)) (hkn : c.r.held.length ≤ 1048576)(hm : ∀ p ∈ c.r.held, p.text.size ≤ 1048576) (hsz : c.r.data.size ≤ 4611686018427387904) (hwi : -9223372036854775808 ≤ window ∧ window ≤ 9223372036854775807) (B : Nat) (hB : B ≤ w.heap.size) : Calls Try.prog 60 #[.agg (a6 c rV).toArray, iI window] w fun e w' => XRs w w' e (α := (Option Addr × Nat) × (Option Addr × Nat)) (fun y => .tuple #[.agg (a6 (pump c window).1 (.slice y.1.1 ((pump c window).1.r.held.length) y.1.2)).toArray, .slice y.2.1 ((pump c window).2.length) y.2.2]) (fun y => [aC B (.slice y.1.1 ((pump c window).1.r.held.length) y.1.2) 2 ((pump c window).1.r.held.map pC), a9 B 85 13 (.slice y.2.1 ((pump c window).2.length) y.2.2) ((pump c window).2.map ap)]) := by
 obtain ⟨Z,Y,hY⟩ := hZ.form
 rw [List.length_map] at hY; subst hY
 have hJ := hZ.len; rw [List.length_map] at hJ
 have hqcrh := Sl.capLe hZ
 refine bJ (args := [.agg (a6 c (cS Z c Y)).toArray,iI window]) (fn := Try.f60) [cH Z c Y] Try.func60 rfl Try.ntmps60 rfl (by simp only [List.mem_cons,List.not_mem_nil,or_false,forall_eq_or_imp,forall_eq]; exact ⟨rfl,hZ⟩) ?_
 refine kQ <| cv [1,2,4] ⟨[(1,aI window),(2,.p 0 0),(4,.p 1 0)],[⟨50,a6 c (cS Z c Y)⟩,⟨50,ce⟩],[],[cH Z c Y]⟩ <| kQ <| dZ 1 [1,2,4,10] [(10,.v (.agg (a6 c (cS Z c Y)).toArray))] 22 [.agg (a6 c (cS Z c Y)).toArray] (some 11) rfl (cm fun ww hw hf => cV c (cS Z c Y) ww (hf _ m0) (by assumption) w.heap.size hw) ?_
 rintro ⟨v1a,v1c⟩
 refine ba [1,2,4] [] 0 ⟨50,a6 c (cS v1a c v1c)⟩ <| kQ <| kHD 0 [1,2,4] [] rfl (aQ (e := 85) (K := 13) (bytes := 104) [] (rs := ([] : List Seg).map ap) rfl rfl) ?_
 intro g2
 refine aU [1,2,4,6] [(6,.v (.slice (some ⟨g2,0,none⟩) 0 0))] <| kS <| kQ <| dZ 1 [1,2,4,6,13] [(13,.v (.agg (a6 c (cS v1a c v1c)).toArray))] 58 [.agg (a6 c (cS v1a c v1c)).toArray] (some 14) rfl (br fun ww hf => dM c (cS v1a c v1c) ww (Own.sl (hf _ m1)) (by assumption) (by omega)) ?_
 intro _
 refine dK 2 [1,2,4,6,16] [(16,aB (!(aE c)))] <| kP 16 (!(aE c)) (fun h3 => ?_) (fun h3 => ?_)
 have h3n := co h3
 refine aU [1,2,4,6,25] [(25,aB true)] <| kT <| kQ <| ba [4,5] [(5,.v (.slice (some ⟨g2,0,none⟩) 0 0))] 1 ⟨50,a6 c (cS v1a c v1c)⟩ ?_
 refine kR ?_
 have hmod : pump c window = (c,([] : List Seg)) := by first | (simp [pump, *]; done) | exact pump_yes hok hs8 hs7 hS hL (by first | exact HT.symm | (unfold tmr; rw [show L.isEmpty = decide (L.length = 0) from by cases L <;> rfl]; simp only [decide_eq_true_eq]; split <;> (try split) <;> omega))
 exact ⟨[.agg (a6 c (cS v1a c v1c)).toArray,.slice (some ⟨g2,0,none⟩) 0 0],by kernel_rfl,fun w' hb hf ha => by rw [hmod]; exact xo2 ((v1a,v1c),(((some ⟨g2,0,none⟩) : Option Addr),0)) rfl rfl (pO (hf _ m1) hB) (pW (hf _ m0) hB) (Apart.sub2 ha (i := 1) (j := 0) rfl rfl (by decide) rfl (fun b h => h) (fun b h => h)) hb⟩
 have h3n := bj h3
 refine dK 5 [1,2,4,6,21] [(21,aB (c.state == 8))] <| kP 21 (c.state == 8) (fun h4 => ?_) (fun h4 => ?_)
 have h4p := cN h4
 refine aU [1,2,4,6,25] [(25,aB true)] <| kT <| kQ <| ba [4,5] [(5,.v (.slice (some ⟨g2,0,none⟩) 0 0))] 1 ⟨50,a6 c (cS v1a c v1c)⟩ ?_
 refine kR ?_
 have hmod : pump c window = (c,([] : List Seg)) := by first | (simp [pump, *]; done) | exact pump_yes hok hs8 hs7 hS hL (by first | exact HT.symm | (unfold tmr; rw [show L.isEmpty = decide (L.length = 0) from by cases L <;> rfl]; simp only [decide_eq_true_eq]; split <;> (try split) <;> omega))
 exact ⟨[.agg (a6 c (cS v1a c v1c)).toArray,.slice (some ⟨g2,0,none⟩) 0 0],by kernel_rfl,fun w' hb hf ha => by rw [hmod]; exact xo2 ((v1a,v1c),(((some ⟨g2,0,none⟩) : Option Addr),0)) rfl rfl (pO (hf _ m1) hB) (pW (hf _ m0) hB) (Apart.sub2 ha (i := 1) (j := 0) rfl rfl (by decide) rfl (fun b h => h) (fun b h => h)) hb⟩
 have h4p := cI h4
 refine aU [1,2,4,6,25] [(25,aB (c.state == 7))] <| kC (c.state == 7) (fun h5 => ?_) (fun h5 => ?_)
 have h5p := cN h5
 refine kQ <| ba [4,5] [(5,.v (.slice (some ⟨g2,0,none⟩) 0 0))] 1 ⟨50,a6 c (cS v1a c v1c)⟩ <| kR ?_
 have hmod : pump c window = (c,([] : List Seg)) := by first | (simp [pump, *]; done) | exact pump_yes hok hs8 hs7 hS hL (by first | exact HT.symm | (unfold tmr; rw [show L.isEmpty = decide (L.length = 0) from by cases L <;> rfl]; simp only [decide_eq_true_eq]; split <;> (try split) <;> omega))
 exact ⟨[.agg (a6 c (cS v1a c v1c)).toArray,.slice (some ⟨g2,0,none⟩) 0 0],by kernel_rfl,fun w' hb hf ha => by rw [hmod]; exact xo2 ((v1a,v1c),(((some ⟨g2,0,none⟩) : Option Addr),0)) rfl rfl (pO (hf _ m1) hB) (pW (hf _ m0) hB) (Apart.sub2 ha (i := 1) (j := 0) rfl rfl (by decide) rfl (fun b h => h) (fun b h => h)) hb⟩
 have h5p := cI h5
 refine kK <| aj ?_
 have hok : aE c = true := by simp_all
 have hs8 : ¬ c.state = 8 := by simp_all
 have hs7 : ¬ c.state = 7 := by simp_all
 refine bI (α := {x : Snd × List Seg × Int × Option Addr × Nat // (fun (s : Snd) (L : List Seg) (t : Int) (A : Option Addr) (cap : Nat) => (dz c.s window (bm c.o)).1 = (dz s window (bm c.o)).1 ∧ (dz c.s window (bm c.o)).2.map (fa c) = L ++ (dz s window (bm c.o)).2.map (fa c) ∧ L.length + meas s ≤ 49 ∧ t = tmr c L) x.1 x.2.1 x.2.2.1 x.2.2.2.1 x.2.2.2.2}) (fun x => (fun (s : Snd) (L : List Seg) (t : Int) (A : Option Addr) (cap : Nat) => (⟨[(1,aI window),(2,.p 0 0),(4,.p 1 0),(6,.v (.slice A L.length cap))],[⟨50,a6 { c with s := s,timer := t } (cS v1a c v1c)⟩,⟨50,ce⟩],[],[a9 w.heap.size 85 13 (.slice A L.length cap) (L.map ap),aC w.heap.size (cS v1a c v1c) 2 (c.r.held.map pC),cH Z c Y]⟩ : St)) x.1.1 x.1.2.1 x.1.2.2.1 x.1.2.2.2.1 x.1.2.2.2.2) (fun x => (fun (s : Snd) (L : List Seg) (t : Int) (A : Option Addr) (cap : Nat) => meas s) x.1.1 x.1.2.1 x.1.2.2.1 x.1.2.2.2.1 x.1.2.2.2.2) ⟨(c.s,([] : List Seg),c.timer,(some ⟨g2,0,none⟩),0),⟨rfl,rfl,(by have := meas_le (conOk_s hok); simp only [List.length_nil]; omega),rfl⟩⟩ (en [0,1,2] <| kF 2 0 [1,2,4,6]) ?_
 rintro ⟨⟨s,L,t,A,cap⟩,HS,HL,HR,HT⟩
 try dsimp only
 try dsimp only at HS HL HR HT
 refine aj <| kS <| c7 ⟨[(1,aI window),(2,.p 0 0),(4,.p 1 0),(6,.v (.slice A L.length cap)),(7,.p 2 0),(8,aB ((nC s window (bm c.o)).2))],[⟨50,a6 { c with s := s,timer := t } (cS v1a c v1c)⟩,⟨50,ce⟩,⟨119,bN (nC s window (bm c.o)).1⟩],[],[a9 w.heap.size 85 13 (.slice A L.length cap) (L.map ap),aC w.heap.size (cS v1a c v1c) 2 (c.r.held.map pC),cH Z c Y]⟩ ?_ ?_
 refine bY [] (by kernel_rfl) (fun ρ σ => ?_)
 refine d3 [0,1,2,3] [32,31,30,1,2,4,6] 8 [(32,.v (.agg (a6 { c with s := s,timer := t } (cS v1a c v1c)).toArray)),(31,aI window),(30,.v (.agg (am s).toArray))] <| kA [4,9] ⟨?_,?_⟩
 refine d8 4 89 [.agg (a6 { c with s := s,timer := t } (cS v1a c v1c)).toArray] (some 33) rfl (br fun ww hf => ysMssFor_c ({ c with s := s,timer := t }) (cS v1a c v1c) ww ) ?_
 intro _
 refine kA [5,9] ⟨?_,?_⟩
 refine d8 5 78 [.agg (am s).toArray,iI window,iI (bm c.o)] (some 34) rfl (br fun ww hf => dd s window (bm c.o) ww  (by first | omega | (rw [al (by omega) (by omega)]; omega))) ?_
 intro _
 refine d3 [6,7,8] [36,35,1,2,4,6] 3 [(36,aB ((nC s window (bm c.o)).2)),(35,.v (.agg (bN (nC s window (bm c.o)).1).toArray))] <| kA [9] <| du 9 ⟨119,bN (⟨0,(⟨#[]⟩ : ByteArray),false⟩ : Chk)⟩ _ rfl (by kernel_rfl) (by kernel_rfl) (by kernel_rfl) (by kernel_rfl) rfl ?_
 refine kA [10] <| dp 10 2 0 (bN (nC s window (bm c.o)).1) rfl <| cK [11] [8,7,1,2,4,6] 0 [(8,aB ((nC s window (bm c.o)).2)),(7,.p 2 0),(1,aI window),(2,.p 0 0),(4,.p 1 0),(6,.v (.slice A L.length cap))] <| kZ ?_
 exact kF 3 0 [1,2,4,6,7,8]
 refine du 9 ⟨119,bN (⟨0,(⟨#[]⟩ : ByteArray),false⟩ : Chk)⟩ _ rfl (by kernel_rfl) (by kernel_rfl) (by kernel_rfl) (by kernel_rfl) rfl ?_
 refine kA [5] <| d8 5 78 [.agg (am s).toArray,iI window,iI (bm c.o)] (some 34) rfl (br fun ww hf => dd s window (bm c.o) ww  (by first | omega | (rw [al (by omega) (by omega)]; omega))) ?_
 intro _
 refine d3 [6,7,8] [36,35,7,1,2,4,6] 2 [(36,aB ((nC s window (bm c.o)).2)),(35,.v (.agg (bN (nC s window (bm c.o)).1).toArray))] <| kA [10] <| dp 10 2 0 (bN (nC s window (bm c.o)).1) rfl <| cK [11] [8,7,1,2,4,6] 0 [(8,aB ((nC s window (bm c.o)).2)),(7,.p 2 0),(1,aI window),(2,.p 0 0),(4,.p 1 0),(6,.v (.slice A L.length cap))] ?_
 refine kZ ?_
 exact kF 3 0 [1,2,4,6,7,8]
 refine du 9 ⟨119,bN (⟨0,(⟨#[]⟩ : ByteArray),false⟩ : Chk)⟩ _ rfl (by kernel_rfl) (by kernel_rfl) (by kernel_rfl) (by kernel_rfl) rfl ?_
 refine kA [4] <| d8 4 89 [.agg (a6 { c with s := s,timer := t } (cS v1a c v1c)).toArray] (some 33) rfl (br fun ww hf => ysMssFor_c ({ c with s := s,timer := t }) (cS v1a c v1c) ww ) ?_
 intro _
 refine kA [5] <| d8 5 78 [.agg (am s).toArray,iI window,iI (bm c.o)] (some 34) rfl (br fun ww hf => dd s window (bm c.o) ww  (by first | omega | (rw [al (by omega) (by omega)]; omega))) ?_
 intro _
 refine d3 [6,7,8] [36,35,7,1,2,4,6] 2 [(36,aB ((nC s window (bm c.o)).2)),(35,.v (.agg (bN (nC s window (bm c.o)).1).toArray))] <| kA [10] <| dp 10 2 0 (bN (nC s window (bm c.o)).1) rfl <| cK [11] [8,7,1,2,4,6] 0 [(8,aB ((nC s window (bm c.o)).2)),(7,.p 2 0),(1,aI window),(2,.p 0 0),(4,.p 1 0),(6,.v (.slice A L.length cap))] ?_
 refine kZ ?_
 exact kF 3 0 [1,2,4,6,7,8]
 refine kS <| kQ <| aU [1,2,4,6,7,38] [(38,aB (!((nC s window (bm c.o)).2)))] <| kC (!((nC s window (bm c.o)).2)) (fun h6 => ?_) (fun h6 => ?_)
 have hno := co h6
 have hS := pumpS_end hno HS
 have hL := pumpL_end hno HL
 refine kQ <| cv [4,5] ⟨[(4,.p 1 0),(5,.v (.slice A L.length cap))],[⟨50,a6 { c with s := s,timer := t } (cS v1a c v1c)⟩,⟨50,a6 { c with s := s,timer := t } (cS v1a c v1c)⟩,⟨119,bN (nC s window (bm c.o)).1⟩],[],[a9 w.heap.size 85 13 (.slice A L.length cap) (L.map ap),aC w.heap.size (cS v1a c v1c) 2 (c.r.held.map pC),cH Z c Y]⟩ <| kR ?_
 have hmod : pump c window = (({ c with s := s,timer := t }),L) := by first | (simp [pump, *]; done) | exact pump_yes hok hs8 hs7 hS hL (by first | exact HT.symm | (unfold tmr; rw [show L.isEmpty = decide (L.length = 0) from by cases L <;> rfl]; simp only [decide_eq_true_eq]; split <;> (try split) <;> omega))
 exact ⟨[.agg (a6 { c with s := s,timer := t } (cS v1a c v1c)).toArray,.slice A L.length cap],by kernel_rfl,fun w' hb hf ha => by rw [hmod]; exact xo2 ((v1a,v1c),(A,cap)) rfl rfl (pO (hf _ m1) hB) (pW (hf _ m0) hB) (Apart.sub2 ha (i := 1) (j := 0) rfl rfl (by decide) rfl (fun b h => h) (fun b h => h)) hb⟩
 have hyes := bj h6
 refine kK <| kQ <| em 1 [1,2,4,6,7,41] [(1,aI window),(2,.p 0 0),(4,.p 1 0),(6,.v (.slice A L.length cap)),(7,.p 2 0),(41,.v (.agg (a6 { c with s := s,timer := t } (cS v1a c v1c)).toArray))] 62 [.agg (a6 { c with s := s,timer := t } (cS v1a c v1c)).toArray] (some 42) rfl (br fun ww hf => eL ({ c with s := s,timer := t }) (cS v1a c v1c) ww (Own.sl (hf _ m1)) (by first | omega | (dsimp only; omega))) ?_
 intro _
 refine kEA [1,2,4,6,7,9] [(9,.p 3 0)] [⟨85,[iI c.t.my,iI c.t.port,iI (ag s),iI c.r.next,iI 16,iI (wO c.r),iI 0,iI (-1),.bool false,.bool false,iI 0,iI 0,.string (⟨#[]⟩ : ByteArray)]⟩] <| kQ <| ba [1,2,4,6,7,9] [] 3 ⟨85,[iI c.t.my,iI c.t.port,iI ((nC s window (bm c.o)).1.seq),iI c.r.next,iI 16,iI (wO c.r),iI 0,iI (-1),.bool false,.bool false,iI 0,iI 0,.string (⟨#[]⟩ : ByteArray)]⟩ <| kQ <| ba [1,2,4,6,7,9] [] 3 ⟨85,[iI c.t.my,iI c.t.port,iI ((nC s window (bm c.o)).1.seq),iI c.r.next,iI 16,iI (wO c.r),iI 0,iI (-1),.bool false,.bool false,iI 0,iI 0,.string ((nC s window (bm c.o)).1.text)]⟩ ?_
 refine kS <| d9 (α := {zz : Int // (fun (ka : Int) => ka = segFl (nC s window (bm c.o)).1 false) zz}) (fun zz => (fun (ka : Int) => (⟨[(1,aI window),(2,.p 0 0),(4,.p 1 0),(6,.v (.slice A L.length cap)),(7,.p 2 0),(9,.p 3 0)],[⟨50,a6 { c with s := s,timer := t } (cS v1a c v1c)⟩,⟨50,ce⟩,⟨119,bN (nC s window (bm c.o)).1⟩,⟨85,[iI c.t.my,iI c.t.port,iI ((nC s window (bm c.o)).1.seq),iI c.r.next,iI ka,iI (wO c.r),iI 0,iI (-1),.bool false,.bool false,iI 0,iI 0,.string ((nC s window (bm c.o)).1.text)]⟩],[],[a9 w.heap.size 85 13 (.slice A L.length cap) (L.map ap),aC w.heap.size (cS v1a c v1c) 2 (c.r.held.map pC),cH Z c Y]⟩ : St)) zz.1) ?_ ?_
 refine kQ <| aU [1,2,4,6,7,9,51] [(51,aB (!(((nC s window (bm c.o)).1.text).toList == (⟨#[]⟩ : ByteArray).toList)))] <| kC (!(((nC s window (bm c.o)).1.text).toList == (⟨#[]⟩ : ByteArray).toList)) (fun h7 => ?_) (fun h7 => ?_)
 have hT : (nC s window (bm c.o)).1.text.toList.isEmpty = false := by simpa [bD] using h7
 refine kG <| ba [1,2,4,6,7,9] [] 3 ⟨85,[iI c.t.my,iI c.t.port,iI ((nC s window (bm c.o)).1.seq),iI c.r.next,iI 24,iI (wO c.r),iI 0,iI (-1),.bool false,.bool false,iI 0,iI 0,.string ((nC s window (bm c.o)).1.text)]⟩ ?_
 exact ⟨⟨(24),(by first | (simp [segFl,hT]; done) | (rw [hF,hka]; simp [segFl]; done) | (rw [hF]; exact hka))⟩,kF 4 0 [1,2,4,6,7,9]⟩
 have hT : (nC s window (bm c.o)).1.text.toList.isEmpty = true := by simpa [bD] using h7
 refine kK ?_
 exact ⟨⟨(16),(by first | (simp [segFl,hT]; done) | (rw [hF,hka]; simp [segFl]; done) | (rw [hF]; exact hka))⟩,kF 4 0 [1,2,4,6,7,9]⟩
 rintro ⟨ka,hka⟩
 try dsimp only
 try dsimp only at hka
 refine kS <| d9 (α := {zz : Int // (fun (kb : Int) => kb = segFl (nC s window (bm c.o)).1 (nC s window (bm c.o)).1.fin) zz}) (fun zz => (fun (kb : Int) => (⟨[(1,aI window),(2,.p 0 0),(4,.p 1 0),(6,.v (.slice A L.length cap)),(7,.p 2 0),(9,.p 3 0)],[⟨50,a6 { c with s := s,timer := t } (cS v1a c v1c)⟩,⟨50,ce⟩,⟨119,bN (nC s window (bm c.o)).1⟩,⟨85,[iI c.t.my,iI c.t.port,iI ((nC s window (bm c.o)).1.seq),iI c.r.next,iI kb,iI (wO c.r),iI 0,iI (-1),.bool false,.bool false,iI 0,iI 0,.string ((nC s window (bm c.o)).1.text)]⟩],[],[a9 w.heap.size 85 13 (.slice A L.length cap) (L.map ap),aC w.heap.size (cS v1a c v1c) 2 (c.r.held.map pC),cH Z c Y]⟩ : St)) zz.1) ?_ ?_
 refine kQ <| aU [1,2,4,6,7,9,57] [(57,aB ((nC s window (bm c.o)).1.fin))] <| kC ((nC s window (bm c.o)).1.fin) (fun h8 => ?_) (fun h8 => ?_)
 have hF := h8
 refine kG <| kRB 5 [1,2,4,6,7,9] [(1,aI window),(2,.p 0 0),(4,.p 1 0),(6,.v (.slice A L.length cap)),(7,.p 2 0),(9,.p 3 0)] [⟨50,a6 { c with s := s,timer := t } (cS v1a c v1c)⟩,⟨50,ce⟩,⟨119,bN (nC s window (bm c.o)).1⟩,⟨85,[iI c.t.my,iI c.t.port,iI ((nC s window (bm c.o)).1.seq),iI c.r.next,iI (K6.wrap (BitVec.ofInt 64 ka ||| BitVec.ofInt 64 1).toNat),iI (wO c.r),iI 0,iI (-1),.bool false,.bool false,iI 0,iI 0,.string ((nC s window (bm c.o)).1.text)]⟩] <| xl_eq (st' := ⟨[(1,aI window),(2,.p 0 0),(4,.p 1 0),(6,.v (.slice A L.length cap)),(7,.p 2 0),(9,.p 3 0)],[⟨50,a6 { c with s := s,timer := t } (cS v1a c v1c)⟩,⟨50,ce⟩,⟨119,bN (nC s window (bm c.o)).1⟩,⟨85,[iI c.t.my,iI c.t.port,iI ((nC s window (bm c.o)).1.seq),iI c.r.next,iI (ka + 1),iI (wO c.r),iI 0,iI (-1),.bool false,.bool false,iI 0,iI 0,.string ((nC s window (bm c.o)).1.text)]⟩],[],[a9 w.heap.size 85 13 (.slice A L.length cap) (L.map ap),aC w.heap.size (cS v1a c v1c) 2 (c.r.held.map pC),cH Z c Y]⟩) (by rw [show (K6.wrap (BitVec.ofInt 64 ka ||| BitVec.ofInt 64 1).toNat) = (ka + 1) from segFl_or hka] <;> rfl) ?_
 refine aU [1,2,4,6,7,9] [] ?_
 exact ⟨⟨(ka + 1),(by first | (simp [segFl,hT]; done) | (rw [hF,hka]; simp [segFl]; done) | (rw [hF]; exact hka))⟩,kF 4 0 [1,2,4,6,7,9]⟩
 have hF := h8
 refine kK ?_
 exact ⟨⟨(ka),(by first | (simp [segFl,hT]; done) | (rw [hF,hka]; simp [segFl]; done) | (rw [hF]; exact hka))⟩,kF 4 0 [1,2,4,6,7,9]⟩
 rintro ⟨kb,hkb⟩
 try dsimp only
 try dsimp only at hkb
 refine kQ <| kHD 2 [1,2,4,6,7,62,63] [(62,.v (.slice A L.length cap)),(63,.v (.agg #[iI c.t.my,iI c.t.port,iI ((nC s window (bm c.o)).1.seq),iI c.r.next,iI kb,iI (wO c.r),iI 0,iI (-1),.bool false,.bool false,iI 0,iI 0,.string ((nC s window (bm c.o)).1.text)]))] rfl (aQ (e := 85) (K := 13) (bytes := 104) [.agg #[iI c.t.my,iI c.t.port,iI ((nC s window (bm c.o)).1.seq),iI c.r.next,iI kb,iI (wO c.r),iI 0,iI (-1),.bool false,.bool false,iI 0,iI 0,.string ((nC s window (bm c.o)).1.text)]] (rs := ([⟨c.t.my,c.t.port,(nC s window (bm c.o)).1.seq,c.r.next,kb,wO c.r,⟨0,(-1),false,false,0,0⟩,(nC s window (bm c.o)).1.text⟩] : List Seg).map ap) rfl rfl) ?_
 intro g9
 refine kHD 0 [1,2,4,6,7,62,64] [] rfl (aG (e := 85) (K := 13) (bytes := 104) (i := 1) (q := (L ++ ([⟨c.t.my,c.t.port,(nC s window (bm c.o)).1.seq,c.r.next,kb,wO c.r,⟨0,(-1),false,false,0,0⟩,(nC s window (bm c.o)).1.text⟩] : List Seg)).length) (new := ([⟨c.t.my,c.t.port,(nC s window (bm c.o)).1.seq,c.r.next,kb,wO c.r,⟨0,(-1),false,false,0,0⟩,(nC s window (bm c.o)).1.text⟩] : List Seg).map ap) (rs' := (L ++ ([⟨c.t.my,c.t.port,(nC s window (bm c.o)).1.seq,c.r.next,kb,wO c.r,⟨0,(-1),false,false,0,0⟩,(nC s window (bm c.o)).1.text⟩] : List Seg)).map ap) rfl rfl rfl rfl (by kernel_rfl) (by kernel_rfl) (by kernel_rfl) rfl (by simp) (by rw [List.map_append]) (by simp) (fun ww hf => (au (hf (a9 w.heap.size 85 13 (.slice (some ⟨g9,0,none⟩) 1 1) (([⟨c.t.my,c.t.port,(nC s window (bm c.o)).1.seq,c.r.next,kb,wO c.r,⟨0,(-1),false,false,0,0⟩,(nC s window (bm c.o)).1.text⟩] : List Seg).map ap)) (by simp)))) (by intro r hr; obtain ⟨x,hx,rfl⟩ := List.mem_map.1 hr; exact ⟨rfl,by simp [ap,Value.oneCell']⟩) (by (try simp only [List.length_map,List.length_append,List.length_cons,List.length_nil,List.length_take,List.length_drop,maxLen]); omega) (by (try simp only [List.length_map,List.length_append,List.length_cons,List.length_nil,List.length_take,List.length_drop,maxLen]); omega)) ?_
 rintro ⟨v10a,v10c⟩
 refine aU [1,2,4,6,7] [(6,.v (.slice v10a ((L ++ ([⟨c.t.my,c.t.port,(nC s window (bm c.o)).1.seq,c.r.next,kb,wO c.r,⟨0,(-1),false,false,0,0⟩,(nC s window (bm c.o)).1.text⟩] : List Seg)).length) v10c))] <| kQ <| dZ 3 [1,2,4,6,67,68] [(67,.v (.agg (am s).toArray)),(68,.v (.agg (bN (nC s window (bm c.o)).1).toArray))] 79 [.agg (am s).toArray,.agg (bN (nC s window (bm c.o)).1).toArray] (some 69) rfl (br fun ww hf => fw s ((nC s window (bm c.o)).1) ww  ) ?_
 intro _
 refine ba [1,2,4,6] [] 0 ⟨50,a6 { c with s := (sO s ((nC s window (bm c.o)).1)),timer := t } (cS v1a c v1c)⟩ <| kQ <| aU [1,2,4,6,73] [(73,aB (t == 0))] <| kC (t == 0) (fun h11 => ?_) (fun h11 => ?_)
 have h11p := cN h11
 refine kG <| ba [1,2,4,6] [] 0 ⟨50,a6 { c with s := (sO s ((nC s window (bm c.o)).1)),timer := 3 } (cS v1a c v1c)⟩ ?_
 have hrow : fa c (nC s window (bm c.o)).1 = ⟨c.t.my,c.t.port,(nC s window (bm c.o)).1.seq,c.r.next,kb,wO c.r,⟨0,(-1),false,false,0,0⟩,(nC s window (bm c.o)).1.text⟩ := by rw [hkb]; rfl
 exact ⟨⟨(sO s (nC s window (bm c.o)).1,(L ++ ([⟨c.t.my,c.t.port,(nC s window (bm c.o)).1.seq,c.r.next,kb,wO c.r,⟨0,(-1),false,false,0,0⟩,(nC s window (bm c.o)).1.text⟩] : List Seg)),3,v10a,v10c),⟨pumpS_step hyes HS,pumpL_step hyes hrow HL,row_len HR (ff hyes),tmr_next HT (by (try dsimp only); split <;> omega)⟩⟩,en [0,2,3] <| kF 2 0 [1,2,4,6],by show (fun (s : Snd) (L : List Seg) (t : Int) (A : Option Addr) (cap : Nat) => meas s) (sO s (nC s window (bm c.o)).1) (L ++ ([⟨c.t.my,c.t.port,(nC s window (bm c.o)).1.seq,c.r.next,kb,wO c.r,⟨0,(-1),false,false,0,0⟩,(nC s window (bm c.o)).1.text⟩] : List Seg)) 3 v10a v10c < meas s; exact ff hyes⟩
 have h11p := cI h11
 refine kK ?_
 have hrow : fa c (nC s window (bm c.o)).1 = ⟨c.t.my,c.t.port,(nC s window (bm c.o)).1.seq,c.r.next,kb,wO c.r,⟨0,(-1),false,false,0,0⟩,(nC s window (bm c.o)).1.text⟩ := by rw [hkb]; rfl
 exact ⟨⟨(sO s (nC s window (bm c.o)).1,(L ++ ([⟨c.t.my,c.t.port,(nC s window (bm c.o)).1.seq,c.r.next,kb,wO c.r,⟨0,(-1),false,false,0,0⟩,(nC s window (bm c.o)).1.text⟩] : List Seg)),t,v10a,v10c),⟨pumpS_step hyes HS,pumpL_step hyes hrow HL,row_len HR (ff hyes),tmr_next HT (by (try dsimp only); split <;> omega)⟩⟩,en [0,2,3] <| kF 2 0 [1,2,4,6],by show (fun (s : Snd) (L : List Seg) (t : Int) (A : Option Addr) (cap : Nat) => meas s) (sO s (nC s window (bm c.o)).1) (L ++ ([⟨c.t.my,c.t.port,(nC s window (bm c.o)).1.seq,c.r.next,kb,wO c.r,⟨0,(-1),false,false,0,0⟩,(nC s window (bm c.o)).1.text⟩] : List Seg)) t v10a v10c < meas s; exact ff hyes⟩
theorem ysShut_c (c : Con) (rV : Value) (w : World) (hZ : Sl w rV 2 (c.r.held.map pC)) (hkn : c.r.held.length ≤ 1048576)(hm : ∀ p ∈ c.r.held, p.text.size ≤ 1048576) (hsz : c.r.data.size ≤ 4611686018427387904) (B : Nat) (hB : B ≤ w.heap.size) : Calls Try.prog 41 #[.agg (a6 c rV).toArray] w fun e w' => XRs w w' e (α := (Option Addr × Nat) × (Option Addr × Nat)) (fun y => .tuple #[.agg (a6 (shut c).1 (.slice y.1.1 ((shut c).1.r.held.length) y.1.2)).toArray, .slice y.2.1 ((shut c).2.length) y.2.2]) (fun y => [aC B (.slice y.1.1 ((shut c).1.r.held.length) y.1.2) 2 ((shut c).1.r.held.map pC), aC B (.slice y.2.1 ((shut c).2.length) y.2.2) 13 ((shut c).2.map ap)]) := by
 obtain ⟨Z,Y,hY⟩ := hZ.form
 rw [List.length_map] at hY; subst hY
 have hJ := hZ.len; rw [List.length_map] at hJ
 have hqcrh := Sl.capLe hZ
 refine bJ (args := [.agg (a6 c (cS Z c Y)).toArray]) (fn := Try.f41) [cH Z c Y] Try.func41 rfl Try.ntmps41 rfl (by simp only [List.mem_cons,List.not_mem_nil,or_false,forall_eq_or_imp,forall_eq]; exact ⟨rfl,hZ⟩) ?_
 refine kQ <| cv [1,2] ⟨[(1,.p 0 0),(2,.p 1 0)],[⟨50,a6 c (cS Z c Y)⟩,⟨50,ce⟩],[],[cH Z c Y]⟩ <| kQ <| em 1 [1,2,5] [(1,.p 0 0),(2,.p 1 0),(5,.v (.agg (a6 c (cS Z c Y)).toArray))] 22 [.agg (a6 c (cS Z c Y)).toArray] (some 6) rfl (cm fun ww hw hf => cV c (cS Z c Y) ww (hf _ m0) (by assumption) w.heap.size hw) ?_
 rintro ⟨v1a,v1c⟩
 refine cv [1,2,4] ⟨[(1,.p 0 0),(2,.p 1 0),(4,.p 2 0)],[⟨50,a6 c (cS Z c Y)⟩,⟨50,ce⟩,⟨50,a6 c (cS v1a c v1c)⟩],[],[aC w.heap.size (cS v1a c v1c) 2 (c.r.held.map pC),cH Z c Y]⟩ <| kS <| kS <| c7 ⟨[(1,.p 0 0),(2,.p 1 0),(4,.p 2 0),(19,aB ((!(aE c)) || ((c.state != 1) && (c.state != 4))))],[⟨50,a6 c (cS Z c Y)⟩,⟨50,ce⟩,⟨50,a6 c (cS v1a c v1c)⟩],[],[aC w.heap.size (cS v1a c v1c) 2 (c.r.held.map pC),cH Z c Y]⟩ ?_ ?_
 refine kG <| em 1 [1,2,4,7] [(1,.p 0 0),(2,.p 1 0),(4,.p 2 0),(7,.v (.agg (a6 c (cS Z c Y)).toArray))] 58 [.agg (a6 c (cS Z c Y)).toArray] (some 8) rfl (br fun ww hf => dM c (cS Z c Y) ww (hf _ m1) (by assumption) (by omega)) ?_
 intro _
 refine eo 2 [1,2,4,10] [(1,.p 0 0),(2,.p 1 0),(4,.p 2 0),(10,aB (!(aE c)))] <| kP 10 (!(aE c)) (fun h2 => ?_) (fun h2 => ?_)
 have h2n := co h2
 refine aD [1,2,4,19] [(1,.p 0 0),(2,.p 1 0),(4,.p 2 0),(19,aB true)] ?_
 show Wk _ _
 try rw [h2]
 exact kF 3 0 [1,2,4,19]
 have h2n := bj h2
 have h2nc : aE c = true := (by simpa using h2n)
 have h2nq := fX h2nc; obtain ⟨h2nq0,h2nq1,h2nq2,h2nq3,h2nq4,h2nq5,h2nq6,h2nq7,h2nq8,h2nq9⟩ := h2nq
 refine eo 4 [1,2,4,10,14] [(1,.p 0 0),(2,.p 1 0),(4,.p 2 0),(10,aB false),(14,aB (c.state != 1))] <| kP 14 (c.state != 1) (fun h3 => ?_) (fun h3 => ?_)
 have h3p := neT h3
 refine aD [1,2,4,19] [(1,.p 0 0),(2,.p 1 0),(4,.p 2 0),(19,aB (c.state != 4))] ?_
 show Wk _ _
 try rw [h2]
 try rw [h3]
 exact kF 3 0 [1,2,4,19]
 have h3p := neF h3
 refine aD [1,2,4,19] [(1,.p 0 0),(2,.p 1 0),(4,.p 2 0),(19,aB false)] ?_
 show Wk _ _
 try rw [h2]
 try rw [h3]
 exact kF 3 0 [1,2,4,19]
 refine kC ((!(aE c)) || ((c.state != 1) && (c.state != 4))) (fun h4 => ?_) (fun h4 => ?_)
 refine kQ <| kHS 1 [2,20] [(2,.p 1 0),(20,.v (.agg (a6 c (cS v1a c v1c)).toArray))] rfl (aQ (e := 85) (K := 13) (bytes := 104) [] (rs := ([] : List Seg).map ap) rfl rfl) ?_
 intro g5
 refine cv [2,3] ⟨[(2,.p 1 0),(3,.v (.slice (some ⟨g5,0,none⟩) 0 0))],[⟨50,a6 c (cS Z c Y)⟩,⟨50,a6 c (cS v1a c v1c)⟩,⟨50,a6 c (cS v1a c v1c)⟩],[],[a9 w.heap.size 85 13 (.slice (some ⟨g5,0,none⟩) 0 0) (([] : List Seg).map ap),aC w.heap.size (cS v1a c v1c) 2 (c.r.held.map pC),cH Z c Y]⟩ <| kR ?_
 have hmod : shut c = (c,([] : List Seg)) := by first | rfl | (simp [shut, *]; done) | grind [shut]
 exact ⟨[.agg (a6 c (cS v1a c v1c)).toArray,.slice (some ⟨g5,0,none⟩) 0 0],by kernel_rfl,fun w' hb hf ha => by rw [hmod]; exact xo2 ((v1a,v1c),(((some ⟨g5,0,none⟩) : Option Addr),0)) rfl rfl (pO (hf _ m1) hB) (pR (hf _ m0) hB) (Apart.sub2 ha (i := 1) (j := 0) rfl rfl (by decide) rfl (fun b h => h) (fun b h => bl h)) hb⟩
 have h4l := gn h4
 have h4ln := bj h4l
 have h4lnc : aE c = true := (by simpa using h4ln)
 have h4lnq := fX h4lnc; obtain ⟨h4lnq0,h4lnq1,h4lnq2,h4lnq3,h4lnq4,h4lnq5,h4lnq6,h4lnq7,h4lnq8,h4lnq9⟩ := h4lnq
 have h4r := gj h4
 refine kK <| kQ <| cv [1,2,4] ⟨[(1,.p 0 0),(2,.p 1 0),(4,.p 2 0)],[⟨50,a6 c (cS Z c Y)⟩,⟨50,ce⟩,⟨50,a6 { c with s := { c.s with fin := true } } (cS v1a c v1c)⟩],[],[aC w.heap.size (cS v1a c v1c) 2 (c.r.held.map pC),cH Z c Y]⟩ <| kQ <| cv [1,2,4] ⟨[(1,.p 0 0),(2,.p 1 0),(4,.p 2 0)],[⟨50,a6 c (cS Z c Y)⟩,⟨50,ce⟩,⟨50,a6 { c with state := 2,s := { c.s with fin := true } } (cS v1a c v1c)⟩],[],[aC w.heap.size (cS v1a c v1c) 2 (c.r.held.map pC),cH Z c Y]⟩ ?_
 refine kS <| kQ <| aD [2,4,27] [(2,.p 1 0),(4,.p 2 0),(27,aB (c.state == 4))] <| c7 ⟨[(2,.p 1 0),(4,.p 2 0)],[⟨50,a6 c (cS Z c Y)⟩,⟨50,ce⟩,⟨50,a6 { c with state := if (c.state == 4) = true then 6 else 2,s := { c.s with fin := true } } (cS v1a c v1c)⟩],[],[aC w.heap.size (cS v1a c v1c) 2 (c.r.held.map pC),cH Z c Y]⟩ ?_ ?_
 refine kC (c.state == 4) (fun h6 => ?_) (fun h6 => ?_)
 have h6p := cN h6
 refine kG <| cv [2,4] ⟨[(2,.p 1 0),(4,.p 2 0)],[⟨50,a6 c (cS Z c Y)⟩,⟨50,ce⟩,⟨50,a6 { c with state := 6,s := { c.s with fin := true } } (cS v1a c v1c)⟩],[],[aC w.heap.size (cS v1a c v1c) 2 (c.r.held.map pC),cH Z c Y]⟩ ?_
 show Wk _ _; rw [h6]; exact kF 3 0 [2,4]
 have h6p := cI h6
 refine kK ?_
 show Wk _ _; rw [h6]; exact kF 3 0 [2,4]
 refine kQ <| em 3 [2,29,31] [(2,.p 1 0),(29,.v (.agg (a6 { c with state := if (c.state == 4) = true then 6 else 2,s := { c.s with fin := true } } (cS v1a c v1c)).toArray)),(31,aI c.window)] 60 [.agg (a6 { c with state := if (c.state == 4) = true then 6 else 2,s := { c.s with fin := true } } (cS v1a c v1c)).toArray,iI c.window] (some 32) rfl (cm fun ww hw hf => fP ({ c with state := if (c.state == 4) = true then 6 else 2,s := { c.s with fin := true } }) (cS v1a c v1c) c.window ww (Own.sl (hf _ m0)) (by assumption) (by assumption) (by omega) (by omega) w.heap.size hw) ?_
 rintro ⟨⟨v7a,v7c⟩,⟨v8a,v8c⟩⟩
 have hbd9 : (pump ({ c with state := if (c.state == 4) = true then 6 else 2,s := { c.s with fin := true } }) c.window).1.r.held.length ≤ 1048576 ∧ (pump ({ c with state := if (c.state == 4) = true then 6 else 2,s := { c.s with fin := true } }) c.window).2.length ≤ 49 := fz _ _  (by omega)
 have hbd9a := hbd9.1; have hbd9b := hbd9.2
 refine cv [2,3] ⟨[(2,.p 1 0),(3,.v (.slice v8a ((pump ({ c with state := if (c.state == 4) = true then 6 else 2,s := { c.s with fin := true } }) c.window).2.length) v8c))],[⟨50,a6 c (cS Z c Y)⟩,⟨50,a6 (pump ({ c with state := if (c.state == 4) = true then 6 else 2,s := { c.s with fin := true } }) c.window).1 (.slice v7a ((pump ({ c with state := if (c.state == 4) = true then 6 else 2,s := { c.s with fin := true } }) c.window).1.r.held.length) v7c)⟩,⟨50,a6 { c with state := if (c.state == 4) = true then 6 else 2,s := { c.s with fin := true } } (cS v1a c v1c)⟩],[],[aC w.heap.size (.slice v7a ((pump ({ c with state := if (c.state == 4) = true then 6 else 2,s := { c.s with fin := true } }) c.window).1.r.held.length) v7c) 2 ((pump ({ c with state := if (c.state == 4) = true then 6 else 2,s := { c.s with fin := true } }) c.window).1.r.held.map pC),a9 w.heap.size 85 13 (.slice v8a ((pump ({ c with state := if (c.state == 4) = true then 6 else 2,s := { c.s with fin := true } }) c.window).2.length) v8c) ((pump ({ c with state := if (c.state == 4) = true then 6 else 2,s := { c.s with fin := true } }) c.window).2.map ap),aC w.heap.size (cS v1a c v1c) 2 (c.r.held.map pC),cH Z c Y]⟩ <| kR ?_
 have hmod : shut c = (((pump ({ c with state := if (c.state == 4) = true then 6 else 2,s := { c.s with fin := true } }) c.window).1),((pump ({ c with state := if (c.state == 4) = true then 6 else 2,s := { c.s with fin := true } }) c.window).2)) := by first | rfl | (simp [shut, *]; done) | grind [shut]
 exact ⟨[.agg (a6 (pump ({ c with state := if (c.state == 4) = true then 6 else 2,s := { c.s with fin := true } }) c.window).1 (.slice v7a ((pump ({ c with state := if (c.state == 4) = true then 6 else 2,s := { c.s with fin := true } }) c.window).1.r.held.length) v7c)).toArray,.slice v8a ((pump ({ c with state := if (c.state == 4) = true then 6 else 2,s := { c.s with fin := true } }) c.window).2.length) v8c],by kernel_rfl,fun w' hb hf ha => by rw [hmod]; exact xo2 ((v7a,v7c),(v8a,v8c)) rfl rfl (pO (hf _ m0) hB) (pR (hf _ m1) hB) (Apart.sub2 ha (i := 0) (j := 1) rfl rfl (by decide) rfl (fun b h => h) (fun b h => bl h)) hb⟩
theorem ysWrite_c (c : Con) (rV : Value) (text : ByteArray) (w : World) (hZ : Sl w rV 2 (c.r.held.map pC)) (hkn : c.r.held.length ≤ 1048576)(hm : ∀ p ∈ c.r.held, p.text.size ≤ 1048576) (hsz : c.r.data.size ≤ 4611686018427387904) (hts : text.size ≤ 4611686018427387904) (B : Nat) (hB : B ≤ w.heap.size) : Calls Try.prog 38 #[.agg (a6 c rV).toArray, .string text] w fun e w' => XRs w w' e (α := (Option Addr × Nat) × (Option Addr × Nat)) (fun y => .tuple #[.agg (a6 (write c text).1 (.slice y.1.1 ((write c text).1.r.held.length) y.1.2)).toArray, iI ((write c text).2.1), .slice y.2.1 ((write c text).2.2.length) y.2.2]) (fun y => [aC B (.slice y.1.1 ((write c text).1.r.held.length) y.1.2) 2 ((write c text).1.r.held.map pC), aC B (.slice y.2.1 ((write c text).2.2.length) y.2.2) 13 ((write c text).2.2.map ap)]) := by
 obtain ⟨Z,Y,hY⟩ := hZ.form
 rw [List.length_map] at hY; subst hY
 have hJ := hZ.len; rw [List.length_map] at hJ
 have hqcrh := Sl.capLe hZ
 refine bJ (args := [.agg (a6 c (cS Z c Y)).toArray,.string text]) (fn := Try.f38) [cH Z c Y] Try.func38 rfl Try.ntmps38 rfl (by simp only [List.mem_cons,List.not_mem_nil,or_false,forall_eq_or_imp,forall_eq]; exact ⟨rfl,hZ⟩) ?_
 refine kQ <| cv [1,2,4] ⟨[(1,.v (.string text)),(2,.p 0 0),(4,.p 1 0)],[⟨50,a6 c (cS Z c Y)⟩,⟨50,ce⟩],[],[cH Z c Y]⟩ <| kQ <| em 1 [1,2,4,12] [(1,.v (.string text)),(2,.p 0 0),(4,.p 1 0),(12,.v (.agg (a6 c (cS Z c Y)).toArray))] 22 [.agg (a6 c (cS Z c Y)).toArray] (some 13) rfl (cm fun ww hw hf => cV c (cS Z c Y) ww (hf _ m0) (by assumption) w.heap.size hw) ?_
 rintro ⟨v1a,v1c⟩
 refine cv [1,2,4,7] ⟨[(1,.v (.string text)),(2,.p 0 0),(4,.p 1 0),(7,.p 2 0)],[⟨50,a6 c (cS Z c Y)⟩,⟨50,ce⟩,⟨50,a6 c (cS v1a c v1c)⟩],[],[aC w.heap.size (cS v1a c v1c) 2 (c.r.held.map pC),cH Z c Y]⟩ <| kS <| kS <| c7 ⟨[(1,.v (.string text)),(2,.p 0 0),(4,.p 1 0),(7,.p 2 0),(26,aB ((!(aE c)) || ((c.state != 1) && (c.state != 4))))],[⟨50,a6 c (cS Z c Y)⟩,⟨50,ce⟩,⟨50,a6 c (cS v1a c v1c)⟩],[],[aC w.heap.size (cS v1a c v1c) 2 (c.r.held.map pC),cH Z c Y]⟩ ?_ ?_
 refine kG <| em 1 [1,2,4,7,14] [(1,.v (.string text)),(2,.p 0 0),(4,.p 1 0),(7,.p 2 0),(14,.v (.agg (a6 c (cS Z c Y)).toArray))] 58 [.agg (a6 c (cS Z c Y)).toArray] (some 15) rfl (br fun ww hf => dM c (cS Z c Y) ww (hf _ m1) (by assumption) (by omega)) ?_
 intro _
 refine eo 2 [1,2,4,7,17] [(1,.v (.string text)),(2,.p 0 0),(4,.p 1 0),(7,.p 2 0),(17,aB (!(aE c)))] <| kP 17 (!(aE c)) (fun h2 => ?_) (fun h2 => ?_)
 have h2n := co h2
 refine aD [1,2,4,7,26] [(1,.v (.string text)),(2,.p 0 0),(4,.p 1 0),(7,.p 2 0),(26,aB true)] ?_
 show Wk _ _
 try rw [h2]
 exact kF 3 0 [1,2,4,7,26]
 have h2n := bj h2
 have h2nc : aE c = true := (by simpa using h2n)
 have h2nq := fX h2nc; obtain ⟨h2nq0,h2nq1,h2nq2,h2nq3,h2nq4,h2nq5,h2nq6,h2nq7,h2nq8,h2nq9⟩ := h2nq
 refine eo 4 [1,2,4,7,17,21] [(1,.v (.string text)),(2,.p 0 0),(4,.p 1 0),(7,.p 2 0),(17,aB false),(21,aB (c.state != 1))] <| kP 21 (c.state != 1) (fun h3 => ?_) (fun h3 => ?_)
 have h3p := neT h3
 refine aD [1,2,4,7,26] [(1,.v (.string text)),(2,.p 0 0),(4,.p 1 0),(7,.p 2 0),(26,aB (c.state != 4))] ?_
 show Wk _ _
 try rw [h2]
 try rw [h3]
 exact kF 3 0 [1,2,4,7,26]
 have h3p := neF h3
 refine aD [1,2,4,7,26] [(1,.v (.string text)),(2,.p 0 0),(4,.p 1 0),(7,.p 2 0),(26,aB false)] ?_
 show Wk _ _
 try rw [h2]
 try rw [h3]
 exact kF 3 0 [1,2,4,7,26]
 refine kC ((!(aE c)) || ((c.state != 1) && (c.state != 4))) (fun h4 => ?_) (fun h4 => ?_)
 refine kQ <| kHS 1 [4,27] [(4,.p 1 0),(27,.v (.agg (a6 c (cS v1a c v1c)).toArray))] rfl (aQ (e := 85) (K := 13) (bytes := 104) [] (rs := ([] : List Seg).map ap) rfl rfl) ?_
 intro g5
 refine cv [4,5,6] ⟨[(4,.p 1 0),(5,aI 0),(6,.v (.slice (some ⟨g5,0,none⟩) 0 0))],[⟨50,a6 c (cS Z c Y)⟩,⟨50,a6 c (cS v1a c v1c)⟩,⟨50,a6 c (cS v1a c v1c)⟩],[],[a9 w.heap.size 85 13 (.slice (some ⟨g5,0,none⟩) 0 0) (([] : List Seg).map ap),aC w.heap.size (cS v1a c v1c) 2 (c.r.held.map pC),cH Z c Y]⟩ <| kR ?_
 have hmod : write c text = (c,0,([] : List Seg)) := by first | rfl | (simp [write, *]; done) | grind [write]
 exact ⟨[.agg (a6 c (cS v1a c v1c)).toArray,iI 0,.slice (some ⟨g5,0,none⟩) 0 0],by kernel_rfl,fun w' hb hf ha => by rw [hmod]; exact xo2 ((v1a,v1c),(((some ⟨g5,0,none⟩) : Option Addr),0)) rfl rfl (pO (hf _ m1) hB) (pR (hf _ m0) hB) (Apart.sub2 ha (i := 1) (j := 0) rfl rfl (by decide) rfl (fun b h => h) (fun b h => bl h)) hb⟩
 have h4l := gn h4
 have h4ln := bj h4l
 have h4lnc : aE c = true := (by simpa using h4ln)
 have h4lnq := fX h4lnc; obtain ⟨h4lnq0,h4lnq1,h4lnq2,h4lnq3,h4lnq4,h4lnq5,h4lnq6,h4lnq7,h4lnq8,h4lnq9⟩ := h4lnq
 have h4r := gj h4
 refine kK <| kQ <| em 3 [4,7,31,32] [(4,.p 1 0),(7,.p 2 0),(31,.v (.agg (am c.s).toArray)),(32,.v (.string text))] 59 [.agg (am c.s).toArray,.string text] (some 33) rfl (br fun ww hf => fK c.s text ww  (by first | omega | (rw [cU]; omega))) ?_
 intro _
 refine cv [4,7,8,9] ⟨[(4,.p 1 0),(7,.p 2 0),(8,.p 3 0),(9,aI ((aN c.s text).2))],[⟨50,a6 c (cS Z c Y)⟩,⟨50,ce⟩,⟨50,a6 c (cS v1a c v1c)⟩,⟨43,am (aN c.s text).1⟩],[],[aC w.heap.size (cS v1a c v1c) 2 (c.r.held.map pC),cH Z c Y]⟩ <| kQ <| cv [4,7,9] ⟨[(4,.p 1 0),(7,.p 2 0),(9,aI ((aN c.s text).2))],[⟨50,a6 c (cS Z c Y)⟩,⟨50,ce⟩,⟨50,a6 { c with s := (aN c.s text).1 } (cS v1a c v1c)⟩,⟨43,am (aN c.s text).1⟩],[],[aC w.heap.size (cS v1a c v1c) 2 (c.r.held.map pC),cH Z c Y]⟩ <| kQ <| em 3 [4,9,39,41] [(4,.p 1 0),(9,aI ((aN c.s text).2)),(39,.v (.agg (a6 { c with s := (aN c.s text).1 } (cS v1a c v1c)).toArray)),(41,aI c.window)] 60 [.agg (a6 { c with s := (aN c.s text).1 } (cS v1a c v1c)).toArray,iI c.window] (some 42) rfl (cm fun ww hw hf => fP ({ c with s := (aN c.s text).1 }) (cS v1a c v1c) c.window ww (Own.sl (hf _ m0)) (by assumption) (by assumption) (by omega) (by omega) w.heap.size hw) ?_
 rintro ⟨⟨v6a,v6c⟩,⟨v7a,v7c⟩⟩
 have hbd8 : (pump ({ c with s := (aN c.s text).1 }) c.window).1.r.held.length ≤ 1048576 ∧ (pump ({ c with s := (aN c.s text).1 }) c.window).2.length ≤ 49 := fz _ _  (by omega)
 have hbd8a := hbd8.1; have hbd8b := hbd8.2
 refine cv [4,9,10,11] ⟨[(4,.p 1 0),(9,aI ((aN c.s text).2)),(10,.p 4 0),(11,.v (.slice v7a ((pump ({ c with s := (aN c.s text).1 }) c.window).2.length) v7c))],[⟨50,a6 c (cS Z c Y)⟩,⟨50,ce⟩,⟨50,a6 { c with s := (aN c.s text).1 } (cS v1a c v1c)⟩,⟨43,am (aN c.s text).1⟩,⟨50,a6 (pump ({ c with s := (aN c.s text).1 }) c.window).1 (.slice v6a ((pump ({ c with s := (aN c.s text).1 }) c.window).1.r.held.length) v6c)⟩],[],[aC w.heap.size (.slice v6a ((pump ({ c with s := (aN c.s text).1 }) c.window).1.r.held.length) v6c) 2 ((pump ({ c with s := (aN c.s text).1 }) c.window).1.r.held.map pC),a9 w.heap.size 85 13 (.slice v7a ((pump ({ c with s := (aN c.s text).1 }) c.window).2.length) v7c) ((pump ({ c with s := (aN c.s text).1 }) c.window).2.map ap),aC w.heap.size (cS v1a c v1c) 2 (c.r.held.map pC),cH Z c Y]⟩ <| kQ <| cv [4,5,6] ⟨[(4,.p 1 0),(5,aI ((aN c.s text).2)),(6,.v (.slice v7a ((pump ({ c with s := (aN c.s text).1 }) c.window).2.length) v7c))],[⟨50,a6 c (cS Z c Y)⟩,⟨50,a6 (pump ({ c with s := (aN c.s text).1 }) c.window).1 (.slice v6a ((pump ({ c with s := (aN c.s text).1 }) c.window).1.r.held.length) v6c)⟩,⟨50,a6 { c with s := (aN c.s text).1 } (cS v1a c v1c)⟩,⟨43,am (aN c.s text).1⟩,⟨50,a6 (pump ({ c with s := (aN c.s text).1 }) c.window).1 (.slice v6a ((pump ({ c with s := (aN c.s text).1 }) c.window).1.r.held.length) v6c)⟩],[],[aC w.heap.size (.slice v6a ((pump ({ c with s := (aN c.s text).1 }) c.window).1.r.held.length) v6c) 2 ((pump ({ c with s := (aN c.s text).1 }) c.window).1.r.held.map pC),a9 w.heap.size 85 13 (.slice v7a ((pump ({ c with s := (aN c.s text).1 }) c.window).2.length) v7c) ((pump ({ c with s := (aN c.s text).1 }) c.window).2.map ap),aC w.heap.size (cS v1a c v1c) 2 (c.r.held.map pC),cH Z c Y]⟩ <| kR ?_
 have hmod : write c text = (((pump ({ c with s := (aN c.s text).1 }) c.window).1),((aN c.s text).2),((pump ({ c with s := (aN c.s text).1 }) c.window).2)) := by first | rfl | (simp [write, *]; done) | grind [write]
 exact ⟨[.agg (a6 (pump ({ c with s := (aN c.s text).1 }) c.window).1 (.slice v6a ((pump ({ c with s := (aN c.s text).1 }) c.window).1.r.held.length) v6c)).toArray,iI ((aN c.s text).2),.slice v7a ((pump ({ c with s := (aN c.s text).1 }) c.window).2.length) v7c],by kernel_rfl,fun w' hb hf ha => by rw [hmod]; exact xo2 ((v6a,v6c),(v7a,v7c)) rfl rfl (pO (hf _ m0) hB) (pR (hf _ m1) hB) (Apart.sub2 ha (i := 0) (j := 1) rfl rfl (by decide) rfl (fun b h => h) (fun b h => bl h)) hb⟩
theorem ysTickConn_c (c : Con) (rV : Value) (w : World) (hZ : Sl w rV 2 (c.r.held.map pC)) (hkn : c.r.held.length ≤ 1048576)(hm : ∀ p ∈ c.r.held, p.text.size ≤ 1048576) (hsz : c.r.data.size ≤ 4611686018427387904) (B : Nat) (hB : B ≤ w.heap.size) : Calls Try.prog 40 #[.agg (a6 c rV).toArray] w fun e w' => XRs w w' e (α := (Option Addr × Nat) × (Option Addr × Nat)) (fun y => .tuple #[.agg (a6 (aT c).1 (.slice y.1.1 ((aT c).1.r.held.length) y.1.2)).toArray, .slice y.2.1 ((aT c).2.length) y.2.2]) (fun y => [aC B (.slice y.1.1 ((aT c).1.r.held.length) y.1.2) 2 ((aT c).1.r.held.map pC), aC B (.slice y.2.1 ((aT c).2.length) y.2.2) 13 ((aT c).2.map ap)]) := by
 obtain ⟨Z,Y,hY⟩ := hZ.form
 rw [List.length_map] at hY; subst hY
 have hJ := hZ.len; rw [List.length_map] at hJ
 have hqcrh := Sl.capLe hZ
 refine bJ (args := [.agg (a6 c (cS Z c Y)).toArray]) (fn := Try.f40) [cH Z c Y] Try.func40 rfl Try.ntmps40 rfl (by simp only [List.mem_cons,List.not_mem_nil,or_false,forall_eq_or_imp,forall_eq]; exact ⟨rfl,hZ⟩) ?_
 refine kQ <| cv [1,2] ⟨[(1,.p 0 0),(2,.p 1 0)],[⟨50,a6 c (cS Z c Y)⟩,⟨50,ce⟩],[],[cH Z c Y]⟩ <| kQ <| dZ 1 [1,2,9] [(9,.v (.agg (a6 c (cS Z c Y)).toArray))] 22 [.agg (a6 c (cS Z c Y)).toArray] (some 10) rfl (cm fun ww hw hf => cV c (cS Z c Y) ww (hf _ m0) (by assumption) w.heap.size hw) ?_
 rintro ⟨v1a,v1c⟩
 refine kEA [1,2,4] [(4,.p 2 0)] [⟨50,a6 c (cS v1a c v1c)⟩] <| kQ <| kHD 0 [1,2,4] [] rfl (aQ (e := 85) (K := 13) (bytes := 104) [] (rs := ([] : List Seg).map ap) rfl rfl) ?_
 intro g2
 refine aU [1,2,4,5] [(5,.v (.slice (some ⟨g2,0,none⟩) 0 0))] <| kS <| kQ <| dZ 1 [1,2,4,5,12] [(12,.v (.agg (a6 c (cS Z c Y)).toArray))] 61 [.agg (a6 c (cS Z c Y)).toArray] (some 13) rfl (br fun ww hf => ysWaits_c c (cS Z c Y) ww (hf _ m2) (by assumption) (by omega)) ?_
 intro _
 refine aU [1,2,4,5,14] [(14,aB (!(waits c)))] <| kC (!(waits c)) (fun h3 => ?_) (fun h3 => ?_)
 have h3n := co h3
 refine kS <| kQ <| dZ 1 [2,4,5,15] [(15,.v (.agg (a6 c (cS Z c Y)).toArray))] 58 [.agg (a6 c (cS Z c Y)).toArray] (some 16) rfl (br fun ww hf => dM c (cS Z c Y) ww (hf _ m2) (by assumption) (by omega)) ?_
 intro _
 refine aU [2,4,5,16] [] <| kC (aE c) (fun h4 => ?_) (fun h4 => ?_)
 have h4c : aE c = true := (by simpa using h4)
 have h4q := fX h4c; obtain ⟨h4q0,h4q1,h4q2,h4q3,h4q4,h4q5,h4q6,h4q7,h4q8,h4q9⟩ := h4q
 refine kQ <| ba [2,4,5] [] 2 ⟨50,a6 { c with timer := 0 } (cS v1a c v1c)⟩ <| kG <| ba [2,4,5] [] 2 ⟨50,a6 { c with timer := 0,tries := 0 } (cS v1a c v1c)⟩ ?_
 refine kQ <| cv [2,3] ⟨[(2,.p 1 0),(3,.v (.slice (some ⟨g2,0,none⟩) 0 0))],[⟨50,a6 c (cS Z c Y)⟩,⟨50,a6 { c with timer := 0,tries := 0 } (cS v1a c v1c)⟩,⟨50,a6 { c with timer := 0,tries := 0 } (cS v1a c v1c)⟩],[],[a9 w.heap.size 85 13 (.slice (some ⟨g2,0,none⟩) 0 0) (([] : List Seg).map ap),aC w.heap.size (cS v1a c v1c) 2 (c.r.held.map pC),cH Z c Y]⟩ <| kR ?_
 have hmod : aT c = (({ c with timer := 0,tries := 0 }),([] : List Seg)) := by first | rfl | (simp [aT,bQ, *]; done) | (simp [aT,bQ, *]; omega) | grind [aT,bQ]
 exact ⟨[.agg (a6 { c with timer := 0,tries := 0 } (cS v1a c v1c)).toArray,.slice (some ⟨g2,0,none⟩) 0 0],by kernel_rfl,fun w' hb hf ha => by rw [hmod]; exact xo2 ((v1a,v1c),(((some ⟨g2,0,none⟩) : Option Addr),0)) rfl rfl (pO (hf _ m1) hB) (pR (hf _ m0) hB) (Apart.sub2 ha (i := 1) (j := 0) rfl rfl (by decide) rfl (fun b h => h) (fun b h => bl h)) hb⟩
 refine kK <| kQ <| ba [2,3] [(3,.v (.slice (some ⟨g2,0,none⟩) 0 0))] 1 ⟨50,a6 c (cS v1a c v1c)⟩ <| kR ?_
 have hmod : aT c = (c,([] : List Seg)) := by first | rfl | (simp [aT,bQ, *]; done) | (simp [aT,bQ, *]; omega) | grind [aT,bQ]
 exact ⟨[.agg (a6 c (cS v1a c v1c)).toArray,.slice (some ⟨g2,0,none⟩) 0 0],by kernel_rfl,fun w' hb hf ha => by rw [hmod]; exact xo2 ((v1a,v1c),(((some ⟨g2,0,none⟩) : Option Addr),0)) rfl rfl (pO (hf _ m1) hB) (pR (hf _ m0) hB) (Apart.sub2 ha (i := 1) (j := 0) rfl rfl (by decide) rfl (fun b h => h) (fun b h => bl h)) hb⟩
 have h3n := bj h3
 have h3nc : aE c = true := waits_ok (by simpa using h3n)
 have h3nq := fX h3nc; obtain ⟨h3nq0,h3nq1,h3nq2,h3nq3,h3nq4,h3nq5,h3nq6,h3nq7,h3nq8,h3nq9⟩ := h3nq
 refine kK <| kS <| kQ <| aU [1,2,4,5,23] [(23,aB (c.timer == 0))] ?_
 refine kC (c.timer == 0) (fun h5 => ?_) (fun h5 => ?_)
 have h5p := cN h5
 refine kQ <| ba [1,2,4,5] [] 2 ⟨50,a6 { c with timer := 3 } (cS v1a c v1c)⟩ <| kQ <| aU [1,2,4,5,27] [(27,aB (c.state == 7))] ?_
 refine kC (c.state == 7) (fun h6 => ?_) (fun h6 => ?_)
 have h6p := cN h6
 refine kG <| ba [1,2,4,5] [] 2 ⟨50,a6 { c with timer := 4 } (cS v1a c v1c)⟩ <| kQ <| cv [1,2,4,5] ⟨[(1,.p 0 0),(2,.p 1 0),(4,.p 2 0),(5,.v (.slice (some ⟨g2,0,none⟩) 0 0))],[⟨50,a6 c (cS Z c Y)⟩,⟨50,ce⟩,⟨50,a6 { c with timer := 3 } (cS v1a c v1c)⟩],[],[a9 w.heap.size 85 13 (.slice (some ⟨g2,0,none⟩) 0 0) (([] : List Seg).map ap),aC w.heap.size (cS v1a c v1c) 2 (c.r.held.map pC),cH Z c Y]⟩ ?_
 refine kS <| kQ <| aU [1,2,4,5,35] [(35,aB true)] <| kT <| kQ <| ba [2,3] [(3,.v (.slice (some ⟨g2,0,none⟩) 0 0))] 1 ⟨50,a6 { c with timer := 3 } (cS v1a c v1c)⟩ ?_
 refine kR ?_
 have hmod : aT c = (({ c with timer := 3 }),([] : List Seg)) := by first | rfl | (simp [aT,bQ, *]; done) | (simp [aT,bQ, *]; omega) | grind [aT,bQ]
 exact ⟨[.agg (a6 { c with timer := 3 } (cS v1a c v1c)).toArray,.slice (some ⟨g2,0,none⟩) 0 0],by kernel_rfl,fun w' hb hf ha => by rw [hmod]; exact xo2 ((v1a,v1c),(((some ⟨g2,0,none⟩) : Option Addr),0)) rfl rfl (pO (hf _ m1) hB) (pR (hf _ m0) hB) (Apart.sub2 ha (i := 1) (j := 0) rfl rfl (by decide) rfl (fun b h => h) (fun b h => bl h)) hb⟩
 have h6p := cI h6
 refine kK <| kQ <| ba [1,2,4,5] [] 2 ⟨50,a6 { c with timer := 2 } (cS v1a c v1c)⟩ <| kS <| kQ <| aD [1,2,4,5,35] [(1,.p 0 0),(2,.p 1 0),(4,.p 2 0),(5,.v (.slice (some ⟨g2,0,none⟩) 0 0)),(35,aB true)] ?_
 refine kT <| kQ <| ba [2,3] [(3,.v (.slice (some ⟨g2,0,none⟩) 0 0))] 1 ⟨50,a6 { c with timer := 2 } (cS v1a c v1c)⟩ <| kR ?_
 have hmod : aT c = (({ c with timer := 2 }),([] : List Seg)) := by first | rfl | (simp [aT,bQ, *]; done) | (simp [aT,bQ, *]; omega) | grind [aT,bQ]
 exact ⟨[.agg (a6 { c with timer := 2 } (cS v1a c v1c)).toArray,.slice (some ⟨g2,0,none⟩) 0 0],by kernel_rfl,fun w' hb hf ha => by rw [hmod]; exact xo2 ((v1a,v1c),(((some ⟨g2,0,none⟩) : Option Addr),0)) rfl rfl (pO (hf _ m1) hB) (pR (hf _ m0) hB) (Apart.sub2 ha (i := 1) (j := 0) rfl rfl (by decide) rfl (fun b h => h) (fun b h => bl h)) hb⟩
 have h5p := cI h5
 refine kK <| kQ <| kRB 5 [1,2,4,5] [(1,.p 0 0),(2,.p 1 0),(4,.p 2 0),(5,.v (.slice (some ⟨g2,0,none⟩) 0 0))] [⟨50,a6 c (cS Z c Y)⟩,⟨50,ce⟩,⟨50,a6 { c with timer := K6.wrap (c.timer - 1) } (cS v1a c v1c)⟩] <| xl_eq (st' := ⟨[(1,.p 0 0),(2,.p 1 0),(4,.p 2 0),(5,.v (.slice (some ⟨g2,0,none⟩) 0 0))],[⟨50,a6 c (cS Z c Y)⟩,⟨50,ce⟩,⟨50,a6 { c with timer := c.timer - 1 } (cS v1a c v1c)⟩],[],[a9 w.heap.size 85 13 (.slice (some ⟨g2,0,none⟩) 0 0) (([] : List Seg).map ap),aC w.heap.size (cS v1a c v1c) 2 (c.r.held.map pC),cH Z c Y]⟩) (by rw [show (K6.wrap (c.timer - 1)) = (c.timer - 1) from al (by omega) (by omega)] <;> rfl) ?_
 refine aU [1,2,4,5] [] <| kS <| kQ <| aU [1,2,4,5,35] [(35,aB (decide ((c.timer - 1) > 0)))] ?_
 refine kC (decide ((c.timer - 1) > 0)) (fun h7 => ?_) (fun h7 => ?_)
 have h7p := of_decide_eq_true h7
 refine kQ <| ba [2,3] [(3,.v (.slice (some ⟨g2,0,none⟩) 0 0))] 1 ⟨50,a6 { c with timer := c.timer - 1 } (cS v1a c v1c)⟩ <| kR ?_
 have hmod : aT c = (({ c with timer := c.timer - 1 }),([] : List Seg)) := by first | rfl | (simp [aT,bQ, *]; done) | (simp [aT,bQ, *]; omega) | grind [aT,bQ]
 exact ⟨[.agg (a6 { c with timer := c.timer - 1 } (cS v1a c v1c)).toArray,.slice (some ⟨g2,0,none⟩) 0 0],by kernel_rfl,fun w' hb hf ha => by rw [hmod]; exact xo2 ((v1a,v1c),(((some ⟨g2,0,none⟩) : Option Addr),0)) rfl rfl (pO (hf _ m1) hB) (pR (hf _ m0) hB) (Apart.sub2 ha (i := 1) (j := 0) rfl rfl (by decide) rfl (fun b h => h) (fun b h => bl h)) hb⟩
 have h7p := of_decide_eq_false h7
 refine kK <| kS <| kQ <| aU [1,2,4,5,40] [(40,aB (c.state == 7))] ?_
 refine kC (c.state == 7) (fun h8 => ?_) (fun h8 => ?_)
 have h8p := cN h8
 refine kQ <| ba [2,4,5] [] 2 ⟨50,a6 { c with state := 8,timer := c.timer - 1 } (cS v1a c v1c)⟩ <| kQ <| ba [2,4,5] [] 2 ⟨50,a6 { c with state := 8,timer := c.timer - 1,tries := 0 } (cS v1a c v1c)⟩ ?_
 refine kQ <| ba [2,3] [(3,.v (.slice (some ⟨g2,0,none⟩) 0 0))] 1 ⟨50,a6 { c with state := 8,timer := c.timer - 1,tries := 0 } (cS v1a c v1c)⟩ <| kR ?_
 have hmod : aT c = (({ c with state := 8,timer := c.timer - 1,tries := 0 }),([] : List Seg)) := by first | rfl | (simp [aT,bQ, *]; done) | (simp [aT,bQ, *]; omega) | grind [aT,bQ]
 exact ⟨[.agg (a6 { c with state := 8,timer := c.timer - 1,tries := 0 } (cS v1a c v1c)).toArray,.slice (some ⟨g2,0,none⟩) 0 0],by kernel_rfl,fun w' hb hf ha => by rw [hmod]; exact xo2 ((v1a,v1c),(((some ⟨g2,0,none⟩) : Option Addr),0)) rfl rfl (pO (hf _ m1) hB) (pR (hf _ m0) hB) (Apart.sub2 ha (i := 1) (j := 0) rfl rfl (by decide) rfl (fun b h => h) (fun b h => bl h)) hb⟩
 have h8p := cI h8
 refine kK <| kS <| kQ <| aU [1,2,4,47] [(47,aB (c.tries == 3))] ?_
 refine kC (c.tries == 3) (fun h9 => ?_) (fun h9 => ?_)
 have h9p := cN h9
 refine kQ <| dZ 1 [2,4,48] [(48,.v (.agg (a6 c (cS Z c Y)).toArray))] 62 [.agg (a6 c (cS Z c Y)).toArray] (some 49) rfl (br fun ww hf => eL c (cS Z c Y) ww (hf _ m2) (by first | omega | (dsimp only; omega))) ?_
 intro _
 refine kEA [2,4,6] [(6,.p 3 0)] [⟨85,[iI c.t.my,iI c.t.port,iI (ag c.s),iI c.r.next,iI 16,iI (wO c.r),iI 0,iI (-1),.bool false,.bool false,iI 0,iI 0,.string (⟨#[]⟩ : ByteArray)]⟩] <| kQ <| ba [2,4,6] [] 3 ⟨85,[iI c.t.my,iI c.t.port,iI (ag c.s),iI c.r.next,iI 20,iI (wO c.r),iI 0,iI (-1),.bool false,.bool false,iI 0,iI 0,.string (⟨#[]⟩ : ByteArray)]⟩ <| kQ <| ba [2,4,6] [] 2 ⟨50,a6 { c with state := 8,timer := c.timer - 1 } (cS v1a c v1c)⟩ ?_
 refine kQ <| ba [2,4,6] [] 2 ⟨50,a6 { c with state := 8,timer := c.timer - 1,tries := 0 } (cS v1a c v1c)⟩ <| kS <| ef (α := Nat) (fun y => (fun (g11 : Nat) => (⟨[(2,.p 1 0),(3,.v (.slice (some ⟨g11,0,none⟩) 1 1))],[⟨50,a6 c (cS Z c Y)⟩,⟨50,a6 { c with state := 8,timer := c.timer - 1,tries := 0 } (cS v1a c v1c)⟩,⟨50,a6 { c with state := 8,timer := c.timer - 1,tries := 0 } (cS v1a c v1c)⟩,⟨85,[iI c.t.my,iI c.t.port,iI (ag c.s),iI c.r.next,iI 20,iI (wO c.r),iI 0,iI (-1),.bool false,.bool false,iI 0,iI 0,.string (⟨#[]⟩ : ByteArray)]⟩],[],[a9 w.heap.size 85 13 (.slice (some ⟨g11,0,none⟩) 1 1) (([⟨c.t.my,c.t.port,ag c.s,c.r.next,20,wO c.r,⟨0,(-1),false,false,0,0⟩,(⟨#[]⟩ : ByteArray)⟩] : List Seg).map ap),a9 w.heap.size 85 13 (.slice (some ⟨g2,0,none⟩) 0 0) (([] : List Seg).map ap),aC w.heap.size (cS v1a c v1c) 2 (c.r.held.map pC),cH Z c Y]⟩ : St)) y) ?_ ?_
 refine bw [true,false,true,true] (by kernel_rfl) (fun ρ σ => ?_)
 refine cK [0,1] [57,56,2] 3 [(57,.v (.agg #[iI c.t.my,iI c.t.port,iI (ag c.s),iI c.r.next,iI 20,iI (wO c.r),iI 0,iI (-1),.bool false,.bool false,iI 0,iI 0,.string (⟨#[]⟩ : ByteArray)])),(56,.v (.agg (a6 { c with state := 8,timer := c.timer - 1,tries := 0 } (cS v1a c v1c)).toArray)),(2,.p 1 0)] <| kA [2,3] ⟨?_,?_⟩
 refine dG 2 rfl (a5 (aq rfl (a5 (a5 a7)))) (aQ (e := 85) (K := 13) (bytes := 104) [.agg #[iI c.t.my,iI c.t.port,iI (ag c.s),iI c.r.next,iI 20,iI (wO c.r),iI 0,iI (-1),.bool false,.bool false,iI 0,iI 0,.string (⟨#[]⟩ : ByteArray)]] (rs := ([⟨c.t.my,c.t.port,ag c.s,c.r.next,20,wO c.r,⟨0,(-1),false,false,0,0⟩,(⟨#[]⟩ : ByteArray)⟩] : List Seg).map ap) rfl rfl) ?_
 intro g11
 refine kA [3] <| dp 3 1 0 (a6 { c with state := 8,timer := c.timer - 1,tries := 0 } (cS v1a c v1c)) rfl <| cK [4] [3,2] 0 [(3,.v (.slice (some ⟨g11,0,none⟩) 1 1)),(2,.p 1 0)] <| kZ ?_
 exact ⟨(g11),kF 4 0 [2,3]⟩
 refine dp 3 1 0 (a6 { c with state := 8,timer := c.timer - 1,tries := 0 } (cS v1a c v1c)) rfl <| kA [2] <| dG 2 rfl (a5 (aq rfl (a5 (a5 a7)))) (aQ (e := 85) (K := 13) (bytes := 104) [.agg #[iI c.t.my,iI c.t.port,iI (ag c.s),iI c.r.next,iI 20,iI (wO c.r),iI 0,iI (-1),.bool false,.bool false,iI 0,iI 0,.string (⟨#[]⟩ : ByteArray)]] (rs := ([⟨c.t.my,c.t.port,ag c.s,c.r.next,20,wO c.r,⟨0,(-1),false,false,0,0⟩,(⟨#[]⟩ : ByteArray)⟩] : List Seg).map ap) rfl rfl) ?_
 intro g13
 refine cK [4] [3,2] 0 [(3,.v (.slice (some ⟨g13,0,none⟩) 1 1)),(2,.p 1 0)] <| kZ ?_
 exact ⟨(g13),kF 4 0 [2,3]⟩
 intro g11
 refine kR ?_
 have hmod : aT c = (({ c with state := 8,timer := c.timer - 1,tries := 0 }),([⟨c.t.my,c.t.port,ag c.s,c.r.next,20,wO c.r,⟨0,(-1),false,false,0,0⟩,(⟨#[]⟩ : ByteArray)⟩] : List Seg)) := by first | rfl | (simp [aT,bQ, *]; done) | (simp [aT,bQ, *]; omega) | grind [aT,bQ]
 exact ⟨[.agg (a6 { c with state := 8,timer := c.timer - 1,tries := 0 } (cS v1a c v1c)).toArray,.slice (some ⟨g11,0,none⟩) 1 1],by kernel_rfl,fun w' hb hf ha => by rw [hmod]; exact xo2 ((v1a,v1c),(((some ⟨g11,0,none⟩) : Option Addr),1)) rfl rfl (pO (hf _ m2) hB) (pR (hf _ m0) hB) (Apart.sub2 ha (i := 2) (j := 0) rfl rfl (by decide) rfl (fun b h => h) (fun b h => bl h)) hb⟩
 have h9p := cI h9
 refine kK <| kQ <| kRB 5 [1,2,4] [(1,.p 0 0),(2,.p 1 0),(4,.p 2 0)] [⟨50,a6 c (cS Z c Y)⟩,⟨50,ce⟩,⟨50,a6 { c with timer := c.timer - 1,tries := K6.wrap (c.tries + 1) } (cS v1a c v1c)⟩] <| xl_eq (st' := ⟨[(1,.p 0 0),(2,.p 1 0),(4,.p 2 0)],[⟨50,a6 c (cS Z c Y)⟩,⟨50,ce⟩,⟨50,a6 { c with timer := c.timer - 1,tries := c.tries + 1 } (cS v1a c v1c)⟩],[],[a9 w.heap.size 85 13 (.slice (some ⟨g2,0,none⟩) 0 0) (([] : List Seg).map ap),aC w.heap.size (cS v1a c v1c) 2 (c.r.held.map pC),cH Z c Y]⟩) (by rw [show (K6.wrap (c.tries + 1)) = (c.tries + 1) from al (by omega) (by omega)] <;> rfl) ?_
 refine aU [1,2,4] [] <| kQ <| dZ 2 [2,4,64] [(64,.v (.agg (am c.s).toArray))] 63 [.agg (am c.s).toArray] (some 65) rfl (br fun ww hf => sRewound_c c.s.una c.s.data c.s.sent c.s.fin c.s.finSent c.s.done ww ) ?_
 intro _
 refine ba [2,4] [] 2 ⟨50,a6 { c with s := (ac c.s),timer := c.timer - 1,tries := c.tries + 1 } (cS v1a c v1c)⟩ <| kS <| ef (α := Option Addr × Nat × Option Addr × Nat) (fun y => (fun (v15a : Option Addr) (v15c : Nat) (v14a : Option Addr) (v14c : Nat) => (⟨[(2,.p 1 0),(7,.p 3 0),(8,.v (.slice v15a ((pump ({ c with s := (ac c.s),timer := c.timer - 1,tries := c.tries + 1 }) (max 1 c.window)).2.length) v15c))],[⟨50,a6 c (cS Z c Y)⟩,⟨50,ce⟩,⟨50,a6 { c with s := (ac c.s),timer := c.timer - 1,tries := c.tries + 1 } (cS v1a c v1c)⟩,⟨50,a6 (pump ({ c with s := (ac c.s),timer := c.timer - 1,tries := c.tries + 1 }) (max 1 c.window)).1 (.slice v14a ((pump ({ c with s := (ac c.s),timer := c.timer - 1,tries := c.tries + 1 }) (max 1 c.window)).1.r.held.length) v14c)⟩],[],[aC w.heap.size (.slice v14a ((pump ({ c with s := (ac c.s),timer := c.timer - 1,tries := c.tries + 1 }) (max 1 c.window)).1.r.held.length) v14c) 2 ((pump ({ c with s := (ac c.s),timer := c.timer - 1,tries := c.tries + 1 }) (max 1 c.window)).1.r.held.map pC),a9 w.heap.size 85 13 (.slice v15a ((pump ({ c with s := (ac c.s),timer := c.timer - 1,tries := c.tries + 1 }) (max 1 c.window)).2.length) v15c) ((pump ({ c with s := (ac c.s),timer := c.timer - 1,tries := c.tries + 1 }) (max 1 c.window)).2.map ap),a9 w.heap.size 85 13 (.slice (some ⟨g2,0,none⟩) 0 0) (([] : List Seg).map ap),aC w.heap.size (cS v1a c v1c) 2 (c.r.held.map pC),cH Z c Y]⟩ : St)) y.1 y.2.1 y.2.2.1 y.2.2.2) ?_ ?_
 refine bY [] (by kernel_rfl) (fun ρ σ => ?_)
 refine cK [0,1,2] [70,68,2] 8 [(70,aI c.window),(68,.v (.agg (a6 { c with s := (ac c.s),timer := c.timer - 1,tries := c.tries + 1 } (cS v1a c v1c)).toArray)),(2,.p 1 0)] <| kA [3,8] ⟨?_,?_⟩
 refine d8 3 55 [iI 1,iI c.window] (some 71) rfl (bF fun ww hf => dE 1 c.window ww ) ?_
 intro _
 refine kA [4,8] ⟨?_,?_⟩
 refine d8 4 60 [.agg (a6 { c with s := (ac c.s),timer := c.timer - 1,tries := c.tries + 1 } (cS v1a c v1c)).toArray,iI (max 1 c.window)] (some 72) rfl (cm fun ww hw hf => fP ({ c with s := (ac c.s),timer := c.timer - 1,tries := c.tries + 1 }) (cS v1a c v1c) (max 1 c.window) ww (Own.sl (hf _ m1)) (by assumption) (by assumption) (by omega) (by omega) w.heap.size hw) ?_
 rintro ⟨⟨v14a,v14c⟩,⟨v15a,v15c⟩⟩
 have hbd16 : (pump ({ c with s := (ac c.s),timer := c.timer - 1,tries := c.tries + 1 }) (max 1 c.window)).1.r.held.length ≤ 1048576 ∧ (pump ({ c with s := (ac c.s),timer := c.timer - 1,tries := c.tries + 1 }) (max 1 c.window)).2.length ≤ 49 := fz _ _  (by omega)
 have hbd16a := hbd16.1; have hbd16b := hbd16.2
 refine cK [5,6,7] [74,73,2] 3 [(74,.v (.slice v15a ((pump ({ c with s := (ac c.s),timer := c.timer - 1,tries := c.tries + 1 }) (max 1 c.window)).2.length) v15c)),(73,.v (.agg (a6 (pump ({ c with s := (ac c.s),timer := c.timer - 1,tries := c.tries + 1 }) (max 1 c.window)).1 (.slice v14a ((pump ({ c with s := (ac c.s),timer := c.timer - 1,tries := c.tries + 1 }) (max 1 c.window)).1.r.held.length) v14c)).toArray)),(2,.p 1 0)] <| kA [8] <| du 8 ⟨50,ce⟩ _ rfl (by kernel_rfl) (by kernel_rfl) (by kernel_rfl) (by kernel_rfl) rfl ?_
 refine kA [9] <| dp 9 3 0 (a6 (pump ({ c with s := (ac c.s),timer := c.timer - 1,tries := c.tries + 1 }) (max 1 c.window)).1 (.slice v14a ((pump ({ c with s := (ac c.s),timer := c.timer - 1,tries := c.tries + 1 }) (max 1 c.window)).1.r.held.length) v14c)) rfl <| cK [10] [8,7,2] 0 [(8,.v (.slice v15a ((pump ({ c with s := (ac c.s),timer := c.timer - 1,tries := c.tries + 1 }) (max 1 c.window)).2.length) v15c)),(7,.p 3 0),(2,.p 1 0)] <| kZ ?_
 exact ⟨(v15a,v15c,v14a,v14c),kF 4 0 [2,7,8]⟩
 refine du 8 ⟨50,ce⟩ _ rfl (by kernel_rfl) (by kernel_rfl) (by kernel_rfl) (by kernel_rfl) rfl ?_
 refine kA [4] <| d8 4 60 [.agg (a6 { c with s := (ac c.s),timer := c.timer - 1,tries := c.tries + 1 } (cS v1a c v1c)).toArray,iI (max 1 c.window)] (some 72) rfl (cm fun ww hw hf => fP ({ c with s := (ac c.s),timer := c.timer - 1,tries := c.tries + 1 }) (cS v1a c v1c) (max 1 c.window) ww (Own.sl (hf _ m1)) (by assumption) (by assumption) (by omega) (by omega) w.heap.size hw) ?_
 rintro ⟨⟨v17a,v17c⟩,⟨v18a,v18c⟩⟩
 have hbd19 : (pump ({ c with s := (ac c.s),timer := c.timer - 1,tries := c.tries + 1 }) (max 1 c.window)).1.r.held.length ≤ 1048576 ∧ (pump ({ c with s := (ac c.s),timer := c.timer - 1,tries := c.tries + 1 }) (max 1 c.window)).2.length ≤ 49 := fz _ _  (by omega)
 have hbd19a := hbd19.1; have hbd19b := hbd19.2
 refine cK [5,6,7] [74,73,7,2] 2 [(74,.v (.slice v18a ((pump ({ c with s := (ac c.s),timer := c.timer - 1,tries := c.tries + 1 }) (max 1 c.window)).2.length) v18c)),(73,.v (.agg (a6 (pump ({ c with s := (ac c.s),timer := c.timer - 1,tries := c.tries + 1 }) (max 1 c.window)).1 (.slice v17a ((pump ({ c with s := (ac c.s),timer := c.timer - 1,tries := c.tries + 1 }) (max 1 c.window)).1.r.held.length) v17c)).toArray)),(7,.p 3 0),(2,.p 1 0)] <| kA [9] <| dp 9 3 0 (a6 (pump ({ c with s := (ac c.s),timer := c.timer - 1,tries := c.tries + 1 }) (max 1 c.window)).1 (.slice v17a ((pump ({ c with s := (ac c.s),timer := c.timer - 1,tries := c.tries + 1 }) (max 1 c.window)).1.r.held.length) v17c)) rfl <| cK [10] [8,7,2] 0 [(8,.v (.slice v18a ((pump ({ c with s := (ac c.s),timer := c.timer - 1,tries := c.tries + 1 }) (max 1 c.window)).2.length) v18c)),(7,.p 3 0),(2,.p 1 0)] ?_
 refine kZ ?_
 exact ⟨(v18a,v18c,v17a,v17c),kF 4 0 [2,7,8]⟩
 refine du 8 ⟨50,ce⟩ _ rfl (by kernel_rfl) (by kernel_rfl) (by kernel_rfl) (by kernel_rfl) rfl ?_
 refine kA [3] <| d8 3 55 [iI 1,iI c.window] (some 71) rfl (bF fun ww hf => dE 1 c.window ww ) ?_
 intro _
 refine kA [4] <| d8 4 60 [.agg (a6 { c with s := (ac c.s),timer := c.timer - 1,tries := c.tries + 1 } (cS v1a c v1c)).toArray,iI (max 1 c.window)] (some 72) rfl (cm fun ww hw hf => fP ({ c with s := (ac c.s),timer := c.timer - 1,tries := c.tries + 1 }) (cS v1a c v1c) (max 1 c.window) ww (Own.sl (hf _ m1)) (by assumption) (by assumption) (by omega) (by omega) w.heap.size hw) ?_
 rintro ⟨⟨v20a,v20c⟩,⟨v21a,v21c⟩⟩
 have hbd22 : (pump ({ c with s := (ac c.s),timer := c.timer - 1,tries := c.tries + 1 }) (max 1 c.window)).1.r.held.length ≤ 1048576 ∧ (pump ({ c with s := (ac c.s),timer := c.timer - 1,tries := c.tries + 1 }) (max 1 c.window)).2.length ≤ 49 := fz _ _  (by omega)
 have hbd22a := hbd22.1; have hbd22b := hbd22.2
 refine cK [5,6,7] [74,73,7,2] 2 [(74,.v (.slice v21a ((pump ({ c with s := (ac c.s),timer := c.timer - 1,tries := c.tries + 1 }) (max 1 c.window)).2.length) v21c)),(73,.v (.agg (a6 (pump ({ c with s := (ac c.s),timer := c.timer - 1,tries := c.tries + 1 }) (max 1 c.window)).1 (.slice v20a ((pump ({ c with s := (ac c.s),timer := c.timer - 1,tries := c.tries + 1 }) (max 1 c.window)).1.r.held.length) v20c)).toArray)),(7,.p 3 0),(2,.p 1 0)] <| kA [9] <| dp 9 3 0 (a6 (pump ({ c with s := (ac c.s),timer := c.timer - 1,tries := c.tries + 1 }) (max 1 c.window)).1 (.slice v20a ((pump ({ c with s := (ac c.s),timer := c.timer - 1,tries := c.tries + 1 }) (max 1 c.window)).1.r.held.length) v20c)) rfl <| cK [10] [8,7,2] 0 [(8,.v (.slice v21a ((pump ({ c with s := (ac c.s),timer := c.timer - 1,tries := c.tries + 1 }) (max 1 c.window)).2.length) v21c)),(7,.p 3 0),(2,.p 1 0)] ?_
 refine kZ ?_
 exact ⟨(v21a,v21c,v20a,v20c),kF 4 0 [2,7,8]⟩
 rintro ⟨v15a,v15c,v14a,v14c⟩
 refine kQ <| cv [2,7,8] ⟨[(2,.p 1 0),(7,.p 3 0),(8,.v (.slice v15a ((pump ({ c with s := (ac c.s),timer := c.timer - 1,tries := c.tries + 1 }) (max 1 c.window)).2.length) v15c))],[⟨50,a6 c (cS Z c Y)⟩,⟨50,ce⟩,⟨50,a6 { c with s := (ac c.s),timer := c.timer - 1,tries := c.tries + 1 } (cS v1a c v1c)⟩,⟨50,a6 { (pump ({ c with s := (ac c.s),timer := c.timer - 1,tries := c.tries + 1 }) (max 1 c.window)).1 with timer := 3 } (.slice v14a ((pump ({ c with s := (ac c.s),timer := c.timer - 1,tries := c.tries + 1 }) (max 1 c.window)).1.r.held.length) v14c)⟩],[],[aC w.heap.size (.slice v14a ((pump ({ c with s := (ac c.s),timer := c.timer - 1,tries := c.tries + 1 }) (max 1 c.window)).1.r.held.length) v14c) 2 ((pump ({ c with s := (ac c.s),timer := c.timer - 1,tries := c.tries + 1 }) (max 1 c.window)).1.r.held.map pC),a9 w.heap.size 85 13 (.slice v15a ((pump ({ c with s := (ac c.s),timer := c.timer - 1,tries := c.tries + 1 }) (max 1 c.window)).2.length) v15c) ((pump ({ c with s := (ac c.s),timer := c.timer - 1,tries := c.tries + 1 }) (max 1 c.window)).2.map ap),a9 w.heap.size 85 13 (.slice (some ⟨g2,0,none⟩) 0 0) (([] : List Seg).map ap),aC w.heap.size (cS v1a c v1c) 2 (c.r.held.map pC),cH Z c Y]⟩ <| kQ <| ba [2,3] [(3,.v (.slice v15a ((pump ({ c with s := (ac c.s),timer := c.timer - 1,tries := c.tries + 1 }) (max 1 c.window)).2.length) v15c))] 1 ⟨50,a6 { (pump ({ c with s := (ac c.s),timer := c.timer - 1,tries := c.tries + 1 }) (max 1 c.window)).1 with timer := 3 } (.slice v14a ((pump ({ c with s := (ac c.s),timer := c.timer - 1,tries := c.tries + 1 }) (max 1 c.window)).1.r.held.length) v14c)⟩ ?_
 refine kR ?_
 have hmod : aT c = (({ (pump ({ c with s := (ac c.s),timer := c.timer - 1,tries := c.tries + 1 }) (max 1 c.window)).1 with timer := 3 }),((pump ({ c with s := (ac c.s),timer := c.timer - 1,tries := c.tries + 1 }) (max 1 c.window)).2)) := by first | rfl | (simp [aT,bQ, *]; done) | (simp [aT,bQ, *]; omega) | grind [aT,bQ]
 exact ⟨[.agg (a6 { (pump ({ c with s := (ac c.s),timer := c.timer - 1,tries := c.tries + 1 }) (max 1 c.window)).1 with timer := 3 } (.slice v14a ((pump ({ c with s := (ac c.s),timer := c.timer - 1,tries := c.tries + 1 }) (max 1 c.window)).1.r.held.length) v14c)).toArray,.slice v15a ((pump ({ c with s := (ac c.s),timer := c.timer - 1,tries := c.tries + 1 }) (max 1 c.window)).2.length) v15c],by kernel_rfl,fun w' hb hf ha => by rw [hmod]; exact xo2 ((v14a,v14c),(v15a,v15c)) rfl rfl (pO (hf _ m0) hB) (pR (hf _ m1) hB) (Apart.sub2 ha (i := 0) (j := 1) rfl rfl (by decide) rfl (fun b h => h) (fun b h => bl h)) hb⟩
theorem dJ (n : Int) (w : World)  (B : Nat) (hB : B ≤ w.heap.size) : Calls Try.prog 57 #[iI n] w fun e w' => XRs w w' e (α := Option Addr × Nat) (fun y => .agg (ab (rN n) (.slice y.1 ((rN n).held.length) y.2)).toArray) (fun y => [a9 B 72 2 (.slice y.1 ((rN n).held.length) y.2) ((rN n).held.map pC)]) := by
 refine bJ (args := [iI n]) (fn := Try.f57) [] Try.func57 rfl Try.ntmps57 rfl (by simp) ?_
 refine kQ <| cv [0,2] ⟨[(0,aI n),(2,.p 0 0)],[⟨46,eV⟩],[],[]⟩ <| kQ <| em 1 [2,3] [(2,.p 0 0),(3,aI n)] 74 [iI n] (some 4) rfl (bF fun ww hf => fj n ww ) ?_
 intro _
 refine kOS 0 [2,4] [(2,.p 0 0),(4,aI (n % 4294967296))] (.agg #[iI (n % 4294967296),.string (⟨#[]⟩ : ByteArray),.slice none 0 0,iI (-1),.bool false]) rfl (fun _ _ _ ww hr => aH [(0,iI (n % 4294967296)),(3,iI (-1))] hr.1 rfl (by kernel_rfl) (by kernel_rfl) ww) ?_
 refine cv [2] ⟨[(2,.p 0 0)],[⟨46,[iI (n % 4294967296),.string (⟨#[]⟩ : ByteArray),.slice none 0 0,iI (-1),.bool false]⟩],[],[]⟩ <| kR ?_
 have hmod : rN n = (⟨n % 4294967296,(⟨#[]⟩ : ByteArray),[],(-1),false⟩) := by first | rfl | (simp [rN,sA]; done)
 exact ⟨[.agg #[iI (n % 4294967296),.string (⟨#[]⟩ : ByteArray),.slice none 0 0,iI (-1),.bool false]],by kernel_rfl,fun w' hb hf ha => by rw [hmod]; exact xo1 ((none,0)) rfl rfl ⟨rowF_nil _ _ _ _,fun b hb => (nilF_b _ _ _ _ hb).elim⟩ hb⟩
end Go.Proofs.Ytccijpdjfelbmaa
