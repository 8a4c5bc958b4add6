/- Contracts that this law needs, part 4. -/
import Derived.Test.YtccijpdjfelbmaaGreatZ3
namespace Go.Proofs.YtccijpdjfelbmaaGreat
open Go.RowKit
set_option linter.unusedVariables false
set_option linter.unusedSimpArgs false
set_option maxRecDepth 100000
set_option maxHeartbeats 2000000

theorem l12Bent_c (g : Nat) (J : List Int) (A : Option Addr) (cap : Nat)  (w : World) (B : Nat) (hB : B ≤ w.heap.size) (hc : (cF B g A J cap).p w) (hl : Sl w (sJ A J cap) 1 (J.map bR)) (hap : ¬ (sQ A J cap).blk g) (hn : J.length ≤ 1048576)  : Calls Tryz.prog 56 #[gP g] w fun e w' => ∃ y : {y : Tup // True}, e = .returned (.agg (bX y.1).toArray) ∧ (cF B g A J cap).p w' ∧ Chgd (fun b => b = g) w w' := by
 have hq_code := Sl.capLe hl
 have hBw : B ≤ (av w B).heap.size := Nat.le_of_eq (aM hB).symm
 have hlo : ∀ (ww : World) (b : Nat),(cF B g A J cap).p ww → (cF B g A J cap).blk b → (av w B).heap.size ≤ b := fun ww b h hb => Nat.le_trans (cf w B) (d3 h hb)
 refine cQ (args := [gP g]) (fn := Tryz.f56) [cF B g A J cap,sQ A J cap,bF w (fun b => b = g)] B Tryz.func56 rfl Tryz.ntmps56 rfl hB (by simp only [List.mem_cons,List.not_mem_nil,or_false,forall_eq_or_imp,forall_eq]; exact ⟨hc,hl,bT w _⟩) (c5 hap rfl) ?_
 refine kQ <| cm [0,2] ⟨[(0,aP g),(2,.p 0 0)],[⟨32,bX (⟨0,0,0⟩ : Tup)⟩],[],[cF B g A J cap,sQ A J cap,bF w (fun b => b = g)]⟩ <| kQ <| dl 1 [0,2,4] [(4,aP g)] 47 [gP g] (some 5) 0 rfl rfl hlo (fO hBw hap) ?_
 rintro ⟨y1,hy1⟩
 refine gk [0,2,3] [(3,.p 1 0)] [⟨32,bX y1⟩] <| kS <| kQ <| dl 1 [0,2,3,6] [(6,aP g)] 46 [gP g,iI 10] (some 7) 0 rfl rfl hlo (ar hBw hap) ?_
 rintro ⟨y2,hy2⟩
 obtain ⟨hy20,hy21⟩ := hy2
 refine aW [0,2,3,7] [] <| ao <| kQ <| aW [0,2,3,7,8] [(8,aB (y2 == 0))] ?_
 refine kC (y2 == 0) (fun h3 => ?_) (fun h3 => ?_)
 have h3p := cI h3
 refine kG <| dl 1 [2,3,10] [(10,aP g)] 84 [gP g] (some 11) 0 rfl rfl hlo (eI hBw hap) ?_
 rintro ⟨y4,hy4⟩
 refine bC [2,3] [] 1 ⟨32,bX { y1 with ip := y4 }⟩ <| kQ <| bC [2] [(2,.p 0 0)] 0 ⟨32,bX { y1 with ip := y4 }⟩ <| kR ?_
 exact ⟨[.agg (bX { y1 with ip := y4 }).toArray],by kernel_rfl,fun w' hb hf => ⟨⟨{ y1 with ip := y4 },trivial⟩,rfl,hf (cF B g A J cap) (by simp),am (hf (bF w (fun b => b = g)) (by simp)) hb rfl rfl rfl⟩⟩
 have h3p := cB h3
 refine kQ <| aW [0,2,3,7,13] [(13,aB (y2 == 1))] <| kC (y2 == 1) (fun h5 => ?_) (fun h5 => ?_)
 have h5p := cI h5
 refine kG <| dl 1 [2,3,15] [(15,aP g)] 84 [gP g] (some 16) 0 rfl rfl hlo (eI hBw hap) ?_
 rintro ⟨y6,hy6⟩
 refine bC [2,3] [] 1 ⟨32,bX { y1 with port := y6 }⟩ <| kQ <| bC [2] [(2,.p 0 0)] 0 ⟨32,bX { y1 with port := y6 }⟩ <| kR ?_
 exact ⟨[.agg (bX { y1 with port := y6 }).toArray],by kernel_rfl,fun w' hb hf => ⟨⟨{ y1 with port := y6 },trivial⟩,rfl,hf (cF B g A J cap) (by simp),am (hf (bF w (fun b => b = g)) (by simp)) hb rfl rfl rfl⟩⟩
 have h5p := cB h5
 refine kQ <| aW [0,2,3,18] [(18,aB (y2 == 2))] <| kC (y2 == 2) (fun h7 => ?_) (fun h7 => ?_)
 have h7p := cI h7
 refine kG <| dl 1 [2,3,20] [(20,aP g)] 84 [gP g] (some 21) 0 rfl rfl hlo (eI hBw hap) ?_
 rintro ⟨y8,hy8⟩
 refine bC [2,3] [] 1 ⟨32,bX { y1 with my := y8 }⟩ <| kQ <| bC [2] [(2,.p 0 0)] 0 ⟨32,bX { y1 with my := y8 }⟩ <| kR ?_
 exact ⟨[.agg (bX { y1 with my := y8 }).toArray],by kernel_rfl,fun w' hb hf => ⟨⟨{ y1 with my := y8 },trivial⟩,rfl,hf (cF B g A J cap) (by simp),am (hf (bF w (fun b => b = g)) (by simp)) hb rfl rfl rfl⟩⟩
 have h7p := cB h7
 refine kK <| kQ <| bC [2] [(2,.p 0 0)] 0 ⟨32,bX y1⟩ <| kR ?_
 exact ⟨[.agg (bX y1).toArray],by kernel_rfl,fun w' hb hf => ⟨⟨y1,trivial⟩,rfl,hf (cF B g A J cap) (by simp),am (hf (bF w (fun b => b = g)) (by simp)) hb rfl rfl rfl⟩⟩
theorem l12Bent_c_K {g : Nat} {J : List Int} {A : Option Addr} {cap : Nat}  {w0 : World} {fs : List Fact} {B : Nat} (hB : B ≤ w0.heap.size) (hap : ¬ (sQ A J cap).blk g)  (hn : J.length ≤ 1048576 := by omega) (h1 : cF B g A J cap ∈ fs := by simp) (h2 : sQ A J cap ∈ fs := by simp) : XCM Tryz.prog w0 fs (cF B g A J cap).blk 56 [gP g] (α := {y : Tup // True}) (fun y => .agg (bX y.1).toArray) (fun _ => [cF B g A J cap]) := dw fun w hw hf => l12Bent_c g J A cap  w B (Nat.le_trans hB hw) (hf _ h1) (hf _ h2) hap hn  
theorem big_c (J : List Int) (A : Option Addr) (cap : Nat) (w : World) (hl : Sl w (sJ A J cap) 1 (J.map bR)) : Calls Tryz.prog 5 #[.slice A J.length cap] w fun e w' => e = .returned (.bool (decide (((J.length : Nat) : Int) > 1048576))) ∧ Below w.heap.size w w' := by
 refine bZ (args := [.slice A J.length cap]) (fn := Tryz.f5) [sQ A J cap] Tryz.func5 rfl Tryz.ntmps5 rfl (by simp only [List.mem_cons,List.not_mem_nil,or_false,forall_eq]; exact ⟨rfl,hl⟩) ?_
 refine kQ <| cm [0] ⟨[(0,.v (sJ A J cap))],[],[],[sQ A J cap]⟩ <| kQ <| aT [2] [(2,aB (decide (((J.length : Nat) : Int) > 1048576)))] ?_
 refine kR ?_
 exact ⟨[.bool (decide (((J.length : Nat) : Int) > 1048576))],by kernel_rfl,fun w' hb hf => ⟨rfl,hb⟩⟩
theorem fy (g : Nat) (J : List Int) (A : Option Addr) (cap : Nat) (n : Int) (w : World) (B : Nat) (hB : B ≤ w.heap.size) (hc : (cF B g A J cap).p w) (hl : Sl w (sJ A J cap) 1 (J.map bR)) (hap : ¬ (sQ A J cap).blk g) (hn : J.length ≤ 1048576) (hn0 : 0 ≤ n ∧ n ≤ 4096) : Calls Tryz.prog 77 #[gP g, iI n] w fun e w' => ∃ y : {y : List Int × (Option Addr × Nat) // y.1.length ≤ 4096}, e = .returned (.slice y.1.2.1 y.1.1.length y.1.2.2) ∧ (cF B g A J cap).p w' ∧ (a9 w.heap.size 5 1 (.slice y.1.2.1 y.1.1.length y.1.2.2) (y.1.1.map bR)).p w' ∧ g < w.heap.size ∧ Chgd (fun b => b = g) w w' := by
 have hq_code := Sl.capLe hl
 have hBw : B ≤ (av w B).heap.size := Nat.le_of_eq (aM hB).symm
 have hlo : ∀ (ww : World) (b : Nat),(cF B g A J cap).p ww → (cF B g A J cap).blk b → (av w B).heap.size ≤ b := fun ww b h hb => Nat.le_trans (cf w B) (d3 h hb)
 refine fz (args := [gP g,iI n]) (fn := Tryz.f77) [cF B g A J cap,sQ A J cap,bF w (fun b => b = g)] B Tryz.func77 rfl Tryz.ntmps77 rfl hB (by simp only [List.mem_cons,List.not_mem_nil,or_false,forall_eq_or_imp,forall_eq]; exact ⟨hc,hl,bT w _⟩) (c5 hap rfl) ?_
 have hgl : g < w.heap.size := (cF B g A J cap).lt w g hc rfl
 refine kQ <| cm [0,1] ⟨[(0,aP g),(1,aI n)],[],[],[cF B g A J cap,sQ A J cap,bF w (fun b => b = g)]⟩ <| kQ <| kHD 0 [0,1] [] rfl (aH (e := 5) (K := 1) (bytes := 1) [] (rs := ([] : List Int).map bR) rfl rfl) ?_
 intro g1
 refine aW [0,1,5] [(5,.v (.slice (some ⟨g1,0,none⟩) 0 0))] <| kS <| kQ <| aW [0,1,5,6] [(6,aI 0)] ?_
 refine ao <| bc (α := {x : Nat × List Int × Option Addr × Nat // (fun (i : Nat) (bs : List Int) (A1 : Option Addr) (c1 : Nat) => (i : Int) ≤ n ∧ bs.length = i) x.1 x.2.1 x.2.2.1 x.2.2.2}) (fun x => (fun (i : Nat) (bs : List Int) (A1 : Option Addr) (c1 : Nat) => (⟨[(0,aP g),(1,aI n),(5,.v (.slice A1 bs.length c1)),(6,aI (i : Int))],[],[],[a9 (av w B).heap.size 5 1 (.slice A1 bs.length c1) (bs.map bR),cF B g A J cap,sQ A J cap,bF w (fun b => b = g)]⟩ : St)) x.1.1 x.1.2.1 x.1.2.2.1 x.1.2.2.2) (fun x => (fun (i : Nat) (bs : List Int) (A1 : Option Addr) (c1 : Nat) => n.toNat - i) x.1.1 x.1.2.1 x.1.2.2.1 x.1.2.2.2) ⟨(0,([] : List Int),(some ⟨g1,0,none⟩),0),⟨(by omega),rfl⟩⟩ (eW [0,1,2,3] <| kF 0 0 [0,1,5,6]) ?_
 rintro ⟨⟨i,bs,A1,c1⟩,hi,hbl⟩
 try dsimp only
 try dsimp only at hi hbl
 refine kS <| kQ <| aW [0,1,5,6,10] [(10,aB (decide ((i : Int) < n)))] <| kC (decide ((i : Int) < n)) (fun h2 => ?_) (fun h2 => ?_)
 have h2p := of_decide_eq_true h2
 have hlt : (i : Int) < n := of_decide_eq_true h2
 refine kK <| kS <| ao <| kG <| dl 2 [0,1,5,6,13,14] [(13,.v (.slice A1 bs.length c1)),(14,aP g)] 71 [gP g] (some 15) 1 rfl rfl hlo (eL hBw hap) ?_
 rintro ⟨y3,hy3⟩
 refine kHD 1 [0,1,5,6,13,16] [(16,.v (.int .u8 (IntKind.u8.wrap y3)))] rfl (aH (e := 5) (K := 1) (bytes := 1) [.int .u8 (IntKind.u8.wrap y3)] (rs := ([IntKind.u8.wrap y3] : List Int).map bR) rfl rfl) ?_
 intro g4
 refine kHD 0 [0,1,5,6,13,17] [] rfl (aE (e := 5) (K := 1) (bytes := 1) (i := 2) (q := (bs ++ ([IntKind.u8.wrap y3] : List Int)).length) (new := ([IntKind.u8.wrap y3] : List Int).map bR) (rs' := (bs ++ ([IntKind.u8.wrap y3] : List Int)).map bR) rfl rfl rfl rfl (by kernel_rfl) (by kernel_rfl) (by kernel_rfl) rfl (by simp) (by rw [List.map_append]) (by simp) (fun ww hf => (ax (hf (a9 (av w B).heap.size 5 1 (.slice (some ⟨g4,0,none⟩) 1 1) (([IntKind.u8.wrap y3] : List Int).map bR)) (by simp)))) (by intro r hr; obtain ⟨x,hx,rfl⟩ := List.mem_map.1 hr; exact ⟨rfl,by simp [bR,Value.oneCell']⟩) (by (try simp only [List.length_map,List.length_append,List.length_cons,List.length_nil,List.length_take,List.length_drop,maxLen]); omega) (by (try simp only [List.length_map,List.length_append,List.length_cons,List.length_nil,List.length_take,List.length_drop,maxLen]); omega)) ?_
 rintro ⟨v5a,v5c⟩
 refine aW [0,1,5,6] [(5,.v (.slice v5a ((bs ++ ([IntKind.u8.wrap y3] : List Int)).length) v5c))] <| kG <| di 3 [0,1,5,6] [(6,aI (K6.wrap ((i : Int) + 1)))] <| cU [0,1,5,6] [(6,aI (K6.wrap ((i : Int) + 1)))] [(6,aI ((i : Int) + 1))] (by rw [show (K6.wrap ((i : Int) + 1)) = ((i : Int) + 1) from al (by omega) (by omega)]) (by kernel_rfl) ?_
 refine aT [0,1,5,6] [(0,aP g),(1,aI n),(5,.v (.slice v5a ((bs ++ ([IntKind.u8.wrap y3] : List Int)).length) v5c)),(6,aI ((i : Int) + 1))] ?_
 exact ⟨⟨(i + 1,(bs ++ ([IntKind.u8.wrap y3] : List Int)),v5a,v5c),⟨by omega,by simp [hbl]⟩⟩,eW [0,2,3,4] <| kF 0 0 [0,1,5,6],by show (fun (i : Nat) (bs : List Int) (A1 : Option Addr) (c1 : Nat) => n.toNat - i) (i + 1) (bs ++ ([IntKind.u8.wrap y3] : List Int)) v5a v5c < n.toNat - i; (dsimp only; omega)⟩
 have h2p := of_decide_eq_false h2
 have hge : ¬ (i : Int) < n := of_decide_eq_false h2
 refine bH <| kQ <| aT [4] [(4,.v (.slice A1 bs.length c1))] <| kR ?_
 exact ⟨[.slice A1 bs.length c1],by kernel_rfl,fun w' hb hf ha => ⟨⟨(bs,A1,c1),by dsimp only; omega⟩,rfl,hf (cF B g A J cap) (by simp),bi (hf (a9 (av w B).heap.size 5 1 (.slice A1 bs.length c1) (bs.map bR)) (by simp)) (row_new ha (i := 0) (j := 1) (k := 3) rfl rfl rfl (by decide) (by decide)),hgl,am (hf (bF w (fun b => b = g)) (by simp)) hb rfl rfl rfl⟩⟩
theorem l5Long_c (n : Int) (w : World) (h0 : 0 ≤ n ∧ n ≤ 4096) : Calls Tryz.prog 85 #[iI n] w fun e w' => e = .returned (.string (af (List.replicate n.toNat 0))) ∧ Below w.heap.size w w' := by
 obtain ⟨m,rfl⟩ : ∃ m : Nat,n = (m : Int) := ⟨n.toNat,by omega⟩
 have hm : m ≤ 4096 := by omega
 refine bZ (args := [iI (m : Int)]) (fn := Tryz.f85) [] Tryz.func85 rfl Tryz.ntmps85 rfl (by simp) ?_
 refine kQ <| cm [0] ⟨[(0,aI (m : Int))],[],[],[]⟩ <| kQ <| kHS 1 [4] [(4,aI (m : Int))] rfl (hv_make (kl := .i64) (kc := .i64) (e := 5) (K := 1) (bytes := 1) (m := m) (z := .int .u8 0) (rs := (List.replicate m 0).map bR) rfl (by kernel_rfl) (by kernel_rfl) (by kernel_rfl) (by kernel_rfl) (by (try simp only [List.length_map,List.length_append,List.length_cons,List.length_nil,List.length_take,List.length_drop,maxLen]); omega) (by (try simp only [List.length_map,List.length_append,List.length_cons,List.length_nil,List.length_take,List.length_drop,maxLen]); omega) (by rw [List.map_replicate]; rfl)) ?_
 intro g1
 refine aT [3] [(3,.v (.slice (some ⟨g1,0,none⟩) m m))] <| kQ <| kOS 1 [6] [(6,.v (.slice (some ⟨g1,0,none⟩) m m))] (.string (af (List.replicate m 0))) rfl (fun _ _ _ ww hr => dv (e := 5) (List.replicate m 0) hr.1 rfl (by kernel_rfl) (by kernel_rfl) (by kernel_rfl) rfl (ax (hr.2.fact (a9 w.heap.size 5 1 (.slice (some ⟨g1,0,none⟩) m m) ((List.replicate m 0).map bR)) (by simp)).1)) ?_
 refine aT [2] [(2,.v (.string (af (List.replicate m 0))))] <| kR ?_
 exact ⟨[.string (af (List.replicate m 0))],by kernel_rfl,fun w' hb hf => ⟨rfl,hb⟩⟩
theorem l9Flags_c (g : Nat) (J : List Int) (A : Option Addr) (cap : Nat)  (w : World) (B : Nat) (hB : B ≤ w.heap.size) (hc : (cF B g A J cap).p w) (hl : Sl w (sJ A J cap) 1 (J.map bR)) (hap : ¬ (sQ A J cap).blk g) (hn : J.length ≤ 1048576)  : Calls Tryz.prog 110 #[gP g] w fun e w' => ∃ y : {y : Int // True}, e = .returned (iI y.1) ∧ (cF B g A J cap).p w' ∧ Chgd (fun b => b = g) w w' := by
 have hq_code := Sl.capLe hl
 have hBw : B ≤ (av w B).heap.size := Nat.le_of_eq (aM hB).symm
 have hlo : ∀ (ww : World) (b : Nat),(cF B g A J cap).p ww → (cF B g A J cap).blk b → (av w B).heap.size ≤ b := fun ww b h hb => Nat.le_trans (cf w B) (d3 h hb)
 refine cQ (args := [gP g]) (fn := Tryz.f110) [cF B g A J cap,sQ A J cap,bF w (fun b => b = g)] B Tryz.func110 rfl Tryz.ntmps110 rfl hB (by simp only [List.mem_cons,List.not_mem_nil,or_false,forall_eq_or_imp,forall_eq]; exact ⟨hc,hl,bT w _⟩) (c5 hap rfl) ?_
 refine kQ <| cm [0] ⟨[(0,aP g)],[],[],[cF B g A J cap,sQ A J cap,bF w (fun b => b = g)]⟩ <| kQ <| kWS 2 [3,4] [(3,aP g),(4,aP g)] 46 [gP g,iI 64] (some 5) 0 rfl rfl hlo (ar hBw hap) ?_
 rintro ⟨y1,hy1⟩
 obtain ⟨hy10,hy11⟩ := hy1
 refine kHD 0 [3,5] [] rfl (aH (e := 3) (K := 1) (bytes := 8) [iI 2,iI 16,iI 16,iI 18,iI 24,iI 17,iI 4,iI 20,iI 0,iI y1] (rs := ([2,16,16,18,24,17,4,20,0,y1] : List Int).map az) rfl rfl) ?_
 intro g2
 refine dK (φ := ¬ (aJ (.slice (some ⟨g2,0,none⟩) 10 10) 1 (([2,16,16,18,24,17,4,20,0,y1] : List Int).map az)).blk g) (fun _ _ _ _ hr => fun hb => hr.2.apart 0 1 (a9 (av w B).heap.size 3 1 (.slice (some ⟨g2,0,none⟩) 10 10) (([2,16,16,18,24,17,4,20,0,y1] : List Int).map az)) (cF B g A J cap) rfl rfl (by decide) rfl g (bG hb) rfl) (fun hk3 => ?_)
 refine dl 0 [3,6] [] 48 [gP g,.slice (some ⟨g2,0,none⟩) 10 10] (some 7) 1 rfl rfl hlo (bw hBw hap (fun ww hw hf => (ax (hf _ m0))) hk3 (by simp)) ?_
 rintro ⟨y4,hy4⟩
 refine aT [2] [(2,aI y4)] <| kR ?_
 exact ⟨[iI y4],by kernel_rfl,fun w' hb hf => ⟨⟨y4,trivial⟩,rfl,hf (cF B g A J cap) (by simp),am (hf (bF w (fun b => b = g)) (by simp)) hb rfl rfl rfl⟩⟩
theorem l9Flags_c_K {g : Nat} {J : List Int} {A : Option Addr} {cap : Nat}  {w0 : World} {fs : List Fact} {B : Nat} (hB : B ≤ w0.heap.size) (hap : ¬ (sQ A J cap).blk g)  (hn : J.length ≤ 1048576 := by omega) (h1 : cF B g A J cap ∈ fs := by simp) (h2 : sQ A J cap ∈ fs := by simp) : XCM Tryz.prog w0 fs (cF B g A J cap).blk 110 [gP g] (α := {y : Int // True}) (fun y => iI y.1) (fun _ => [cF B g A J cap]) := dw fun w hw hf => l9Flags_c g J A cap  w B (Nat.le_trans hB hw) (hf _ h1) (hf _ h2) hap hn  
theorem l1Pick_c (g : Nat) (J : List Int) (A : Option Addr) (cap : Nat) (list : List ByteArray) (listV : Value) (w : World) (B : Nat) (hB : B ≤ w.heap.size) (hc : (cF B g A J cap).p w) (hl : Sl w (sJ A J cap) 1 (J.map bR)) (hap : ¬ (sQ A J cap).blk g) (hn : J.length ≤ 1048576) (hl_listV : Sl w listV 1 (list.map cC)) (hap2 : ¬ (aJ listV 1 (list.map cC)).blk g) (hne : 0 < list.length) : Calls Tryz.prog 87 #[gP g, listV] w fun e w' => ∃ y : {y : ByteArray // y ∈ list}, e = .returned (.string y.1) ∧ (cF B g A J cap).p w' ∧ Chgd (fun b => b = g) w w' := by
 have hq_code := Sl.capLe hl
 have hBw : B ≤ (av w B).heap.size := Nat.le_of_eq (aM hB).symm
 have hlo : ∀ (ww : World) (b : Nat),(cF B g A J cap).p ww → (cF B g A J cap).blk b → (av w B).heap.size ≤ b := fun ww b h hb => Nat.le_trans (cf w B) (d3 h hb)
 obtain ⟨Al,Cl,hvl⟩ := hl_listV.form
 rw [List.length_map] at hvl; subst hvl
 have hnl := hl_listV.len; rw [List.length_map] at hnl
 have hql := Sl.capLe hl_listV
 refine cQ (args := [gP g,.slice Al list.length Cl]) (fn := Tryz.f87) [cF B g A J cap,sQ A J cap,bF w (fun b => b = g),aJ (.slice Al list.length Cl) 1 (list.map cC)] B Tryz.func87 rfl Tryz.ntmps87 rfl hB (by simp only [List.mem_cons,List.not_mem_nil,or_false,forall_eq_or_imp,forall_eq]; exact ⟨hc,hl,bT w _,hl_listV⟩) (apart_cur2 hap rfl hap2 rfl) ?_
 refine kQ <| cm [0,1] ⟨[(0,aP g),(1,.v (.slice Al list.length Cl))],[],[],[cF B g A J cap,sQ A J cap,bF w (fun b => b = g),aJ (.slice Al list.length Cl) 1 (list.map cC)]⟩ <| kQ <| kWS 4 [5,6,8] [(5,.v (.slice Al list.length Cl)),(6,aP g),(8,aI ((list.length : Nat) : Int))] 46 [gP g,iI ((list.length : Nat) : Int)] (some 9) 0 rfl rfl hlo (ar hBw hap) ?_
 rintro ⟨y1,hy1⟩
 obtain ⟨hy10,hy11⟩ := hy1
 obtain ⟨j2,hj2⟩ : ∃ j : Nat,y1 = (j : Int) := ⟨y1.toNat,by omega⟩
 subst hj2
 have hlt : j2 < list.length := by omega
 obtain ⟨z,hz⟩ : ∃ z,list[j2]? = some z := ⟨_,List.getElem?_eq_getElem hlt⟩
 refine de (kd := .i64) (T := 109) (e := 9) (K := 1) 0 [5,9] [] j2 [.string z] (aJ (.slice Al list.length Cl) 1 (list.map cC)) (by kernel_rfl) rfl (by kernel_rfl) rfl rfl (by kernel_rfl) (by kernel_rfl) (by kernel_rfl) (by kernel_rfl) hlt (by simp) (fun w h => h) (fun b h => h) (by simp only [List.getElem?_map,hz]; rfl) ?_
 refine aT [4] [(4,.v (.string z))] <| kR ?_
 exact ⟨[.string z],by kernel_rfl,fun w' hb hf => ⟨⟨z,List.mem_of_getElem? hz⟩,rfl,hf (cF B g A J cap) (by simp),am (hf (bF w (fun b => b = g)) (by simp)) hb rfl rfl rfl⟩⟩
theorem l1Pick_c_K {g : Nat} {J : List Int} {A : Option Addr} {cap : Nat} {list : List ByteArray} {listV : Value} {w0 : World} {fs : List Fact} {B : Nat} (hB : B ≤ w0.heap.size) (hap : ¬ (sQ A J cap).blk g) (hs0 : ∀ w : World, w0.heap.size ≤ w.heap.size → (∀ f ∈ fs, f.p w) → Sl w listV 1 (list.map cC)) (hq0 : ¬ (aJ listV 1 (list.map cC)).blk g) (hne : 0 < list.length) (hn : J.length ≤ 1048576 := by omega) (h1 : cF B g A J cap ∈ fs := by simp) (h2 : sQ A J cap ∈ fs := by simp) : XCM Tryz.prog w0 fs (cF B g A J cap).blk 87 [gP g, listV] (α := {y : ByteArray // y ∈ list}) (fun y => .string y.1) (fun _ => [cF B g A J cap]) := dw fun w hw hf => l1Pick_c g J A cap list listV w B (Nat.le_trans hB hw) (hf _ h1) (hf _ h2) hap hn (hs0 w hw hf) hq0 hne
theorem l18Stream_c (g : Nat) (J : List Int) (A : Option Addr) (cap : Nat) (r : Rcv) (r_heldV : Value) (w : World) (B : Nat) (hB : B ≤ w.heap.size) (hc : (cF B g A J cap).p w) (hl : Sl w (sJ A J cap) 1 (J.map bR)) (hap : ¬ (sQ A J cap).blk g) (hn : J.length ≤ 1048576)  : Calls Tryz.prog 108 #[gP g, .agg (ag r r_heldV).toArray] w fun e w' => ∃ y : {y : Int × ByteArray × Bool // y.2.1.size ≤ 4096}, e = .returned (.tuple #[iI y.1.1, .string y.1.2.1, .bool y.1.2.2]) ∧ (cF B g A J cap).p w' ∧ Chgd (fun b => b = g) w w' := by
 have hq_code := Sl.capLe hl
 have hBw : B ≤ (av w B).heap.size := Nat.le_of_eq (aM hB).symm
 have hlo : ∀ (ww : World) (b : Nat),(cF B g A J cap).p ww → (cF B g A J cap).blk b → (av w B).heap.size ≤ b := fun ww b h hb => Nat.le_trans (cf w B) (d3 h hb)
 refine cQ (args := [gP g,.agg (ag r r_heldV).toArray]) (fn := Tryz.f108) [cF B g A J cap,sQ A J cap,bF w (fun b => b = g)] B Tryz.func108 rfl Tryz.ntmps108 rfl hB (by simp only [List.mem_cons,List.not_mem_nil,or_false,forall_eq_or_imp,forall_eq]; exact ⟨hc,hl,bT w _⟩) (c5 hap rfl) ?_
 refine kQ <| cm [0,3] ⟨[(0,aP g),(3,.p 0 0)],[⟨37,ag r r_heldV⟩],[],[cF B g A J cap,sQ A J cap,bF w (fun b => b = g)]⟩ <| kQ <| dl 1 [0,3,11] [(11,aP g)] 46 [gP g,iI 40] (some 12) 0 rfl rfl hlo (ar hBw hap) ?_
 rintro ⟨y1,hy1⟩
 obtain ⟨hy10,hy11⟩ := hy1
 refine aW [0,3,7] [(7,aI (K6.wrap (y1 - 6)))] <| kQ <| dl 1 [0,3,7,14] [(14,aP g)] 46 [gP g,iI 9] (some 15) 0 rfl rfl hlo (ar hBw hap) ?_
 rintro ⟨y2,hy2⟩
 obtain ⟨hy20,hy21⟩ := hy2
 refine aW [0,3,7,8] [(8,aI y2)] <| kQ <| kHD 0 [0,3,7,8] [] rfl (aH (e := 5) (K := 1) (bytes := 1) [] (rs := ([] : List Int).map bR) rfl rfl) ?_
 intro g3
 refine aW [0,3,7,8,9] [(9,.v (.slice (some ⟨g3,0,none⟩) 0 0))] <| kS <| kQ <| aW [0,3,7,8,9,10] [(10,aI 0)] ?_
 refine ao <| bc (α := {x : Nat × List Int × Option Addr × Nat // (fun (i : Nat) (bs : List Int) (A1 : Option Addr) (c1 : Nat) => (i : Int) ≤ y2 ∧ bs.length = i) x.1 x.2.1 x.2.2.1 x.2.2.2}) (fun x => (fun (i : Nat) (bs : List Int) (A1 : Option Addr) (c1 : Nat) => (⟨[(0,aP g),(3,.p 0 0),(7,aI (K6.wrap (y1 - 6))),(8,aI y2),(9,.v (.slice A1 bs.length c1)),(10,aI (i : Int))],[⟨37,ag r r_heldV⟩],[],[a9 (av w B).heap.size 5 1 (.slice A1 bs.length c1) (bs.map bR),cF B g A J cap,sQ A J cap,bF w (fun b => b = g)]⟩ : St)) x.1.1 x.1.2.1 x.1.2.2.1 x.1.2.2.2) (fun x => (fun (i : Nat) (bs : List Int) (A1 : Option Addr) (c1 : Nat) => (y2).toNat - i) x.1.1 x.1.2.1 x.1.2.2.1 x.1.2.2.2) ⟨(0,([] : List Int),(some ⟨g3,0,none⟩),0),⟨(by omega),rfl⟩⟩ (eW [0,1,2,3] <| kF 1 0 [0,3,7,8,9,10]) ?_
 rintro ⟨⟨i,bs,A1,c1⟩,hi,hbl⟩
 try dsimp only
 try dsimp only at hi hbl
 refine kS <| kQ <| aW [0,3,7,8,9,10,19] [(19,aB (decide ((i : Int) < y2)))] <| kC (decide ((i : Int) < y2)) (fun h4 => ?_) (fun h4 => ?_)
 have h4p := of_decide_eq_true h4
 have hlt :  (i : Int) < y2 := of_decide_eq_true h4
 refine kK <| kS <| ao <| kG <| dR 7 [0,3,7,8,9,10,22,28] [(22,.v (.slice A1 bs.length c1)),(28,aI (K6.wrap ((K6.wrap (r.next + (K6.wrap (y1 - 6)))) + (i : Int))))] 112 [iI (K6.wrap ((K6.wrap (r.next + (K6.wrap (y1 - 6)))) + (i : Int)))] (some 29) rfl (c6 fun ww hf => fK (K6.wrap ((K6.wrap (r.next + (K6.wrap (y1 - 6)))) + (i : Int))) ww ) ?_
 intro _
 refine gc 0 [0,3,7,8,9,10,22,29] [] (iI (Int.tmod ((K6.wrap ((K6.wrap (r.next + (K6.wrap (y1 - 6)))) + (i : Int))) % 4294967296) 26)) rfl (fun _ _ _ ww hr => co hr.1 rfl (by kernel_rfl) (by kernel_rfl) (rem_run (by first | decide | omega) ww)) ?_
 refine kHS 2 [0,3,7,8,9,10,22,32] [(0,aP g),(3,.p 0 0),(7,aI (K6.wrap (y1 - 6))),(8,aI y2),(9,.v (.slice A1 bs.length c1)),(10,aI (i : Int)),(22,.v (.slice A1 bs.length c1)),(32,.v (.int .u8 (IntKind.u8.wrap (K6.wrap (97 + (Int.tmod ((K6.wrap ((K6.wrap (r.next + (K6.wrap (y1 - 6)))) + (i : Int))) % 4294967296) 26))))))] rfl (aH (e := 5) (K := 1) (bytes := 1) [.int .u8 (IntKind.u8.wrap (K6.wrap (97 + (Int.tmod ((K6.wrap ((K6.wrap (r.next + (K6.wrap (y1 - 6)))) + (i : Int))) % 4294967296) 26))))] (rs := ([IntKind.u8.wrap (K6.wrap (97 + (Int.tmod ((K6.wrap ((K6.wrap (r.next + (K6.wrap (y1 - 6)))) + (i : Int))) % 4294967296) 26)))] : List Int).map bR) rfl rfl) ?_
 intro g5
 refine kHD 0 [0,3,7,8,9,10,22,33] [] rfl (aE (e := 5) (K := 1) (bytes := 1) (i := 1) (q := (bs ++ ([IntKind.u8.wrap (K6.wrap (97 + (Int.tmod ((K6.wrap ((K6.wrap (r.next + (K6.wrap (y1 - 6)))) + (i : Int))) % 4294967296) 26)))] : List Int)).length) (new := ([IntKind.u8.wrap (K6.wrap (97 + (Int.tmod ((K6.wrap ((K6.wrap (r.next + (K6.wrap (y1 - 6)))) + (i : Int))) % 4294967296) 26)))] : List Int).map bR) (rs' := (bs ++ ([IntKind.u8.wrap (K6.wrap (97 + (Int.tmod ((K6.wrap ((K6.wrap (r.next + (K6.wrap (y1 - 6)))) + (i : Int))) % 4294967296) 26)))] : List Int)).map bR) rfl rfl rfl rfl (by kernel_rfl) (by kernel_rfl) (by kernel_rfl) rfl (by simp) (by rw [List.map_append]) (by simp) (fun ww hf => (ax (hf (a9 (av w B).heap.size 5 1 (.slice (some ⟨g5,0,none⟩) 1 1) (([IntKind.u8.wrap (K6.wrap (97 + (Int.tmod ((K6.wrap ((K6.wrap (r.next + (K6.wrap (y1 - 6)))) + (i : Int))) % 4294967296) 26)))] : List Int).map bR)) (by simp)))) (by intro r hr; obtain ⟨x,hx,rfl⟩ := List.mem_map.1 hr; exact ⟨rfl,by simp [bR,Value.oneCell']⟩) (by (try simp only [List.length_map,List.length_append,List.length_cons,List.length_nil,List.length_take,List.length_drop,maxLen]); omega) (by (try simp only [List.length_map,List.length_append,List.length_cons,List.length_nil,List.length_take,List.length_drop,maxLen]); omega)) ?_
 rintro ⟨v6a,v6c⟩
 refine aW [0,3,7,8,9,10] [(9,.v (.slice v6a ((bs ++ ([IntKind.u8.wrap (K6.wrap (97 + (Int.tmod ((K6.wrap ((K6.wrap (r.next + (K6.wrap (y1 - 6)))) + (i : Int))) % 4294967296) 26)))] : List Int)).length) v6c))] <| kG <| di 3 [0,3,7,8,9,10] [(10,aI (K6.wrap ((i : Int) + 1)))] <| cU [0,3,7,8,9,10] [(10,aI (K6.wrap ((i : Int) + 1)))] [(10,aI ((i : Int) + 1))] (by rw [show (K6.wrap ((i : Int) + 1)) = ((i : Int) + 1) from al (by omega) (by omega)]) (by kernel_rfl) ?_
 refine aW [0,3,7,8,9,10] [] ?_
 exact ⟨⟨(i + 1,(bs ++ ([IntKind.u8.wrap (K6.wrap (97 + (Int.tmod ((K6.wrap ((K6.wrap (r.next + (K6.wrap (y1 - 6)))) + (i : Int))) % 4294967296) 26)))] : List Int)),v6a,v6c),⟨(by omega),(by simp [hbl])⟩⟩,eW [0,2,3,4] <| kF 1 0 [0,3,7,8,9,10],by show (fun (i : Nat) (bs : List Int) (A1 : Option Addr) (c1 : Nat) => (y2).toNat - i) (i + 1) (bs ++ ([IntKind.u8.wrap (K6.wrap (97 + (Int.tmod ((K6.wrap ((K6.wrap (r.next + (K6.wrap (y1 - 6)))) + (i : Int))) % 4294967296) 26)))] : List Int)) v6a v6c < (y2).toNat - i; (dsimp only; omega)⟩
 have h4p := of_decide_eq_false h4
 have hge : ¬ (i : Int) < y2 := of_decide_eq_false h4
 refine bH <| kS <| kQ <| dl 1 [0,3,7,8,9,35] [(35,aP g)] 20 [gP g,iI 6] (some 36) 1 rfl rfl hlo (bY hBw hap) ?_
 rintro ⟨y7,hy7⟩
 refine aW [0,3,7,8,9,36] [] <| kC (y7) (fun h8 => ?_) (fun h8 => ?_)
 refine kG <| kWS 2 [0,3,7,9,37,38] [(0,aP g),(3,.p 0 0),(7,aI (K6.wrap (y1 - 6))),(9,.v (.slice A1 bs.length c1)),(37,aP g),(38,aI y2)] 77 [gP g,iI y2] (some 39) 0 rfl rfl hlo (eC fun ww hw hf => fy g J A cap y2 ww B (Nat.le_trans (by first | exact Nat.le_refl _ | exact Nat.le_of_eq (aM hB).symm) hw) (hf (cF B g A J cap) (by simp)) (hf _ m2) hap (by omega) (by omega)) ?_
 rintro ⟨⟨b9l,b9a,b9c⟩,hb9⟩
 dsimp only at hb9
 refine aW [0,3,7,9] [(9,.v (.slice b9a b9l.length b9c))] <| kS <| bo [] (by kernel_rfl) (fun ρ σ => ?_)
 refine cJ [0,1,2,4,6] [46,44,42,41] 6 [(46,aP g),(44,.v (.slice b9a b9l.length b9c)),(42,aI (K6.wrap (y1 - 6))),(41,aI r.next)] <| kA [3,5] ⟨?_,?_⟩
 refine du 3 96 [iI r.next,iI (K6.wrap (y1 - 6))] (some 43) rfl (c6 fun ww hf => bM r.next (K6.wrap (y1 - 6)) ww ) ?_
 intro _
 refine kA [5,7] ⟨?_,?_⟩
 refine kSR 5 (.string (af b9l)) rfl (fun _ _ ww hr => dv (e := 5) b9l hr.1 rfl (by kernel_rfl) (by kernel_rfl) (by kernel_rfl) rfl (ax (hr.2.fact (a9 (av w B).heap.size 5 1 (.slice b9a b9l.length b9c) (b9l.map bR)) (by simp)).1)) ?_
 refine kA [7] <| fw 7 20 [gP g,iI 6] (some 47) 1 rfl rfl hlo (a5 a8) (bY hBw hap) ?_
 rintro ⟨y10,hy10⟩
 refine cJ [8,9,10] [6,5,4] 0 [(6,aB y10),(5,.v (.string (af b9l))),(4,aI (sA r.next (K6.wrap (y1 - 6))))] <| kZ <| kR ?_
 exact ⟨[iI (sA r.next (K6.wrap (y1 - 6))),.string (af b9l),.bool y10],by kernel_rfl,fun w' hb hf => ⟨⟨(sA r.next (K6.wrap (y1 - 6)),af b9l,y10),(by show (af _).size ≤ 4096; rw [d4]; omega)⟩,rfl,hf (cF B g A J cap) (by simp),am (hf (bF w (fun b => b = g)) (by simp)) hb rfl rfl rfl⟩⟩
 refine fw 7 20 [gP g,iI 6] (some 47) 1 rfl rfl hlo (a5 a8) (bY hBw hap) ?_
 rintro ⟨y11,hy11⟩
 refine d9 [8] [4,47,44] 3 [(4,aI (sA r.next (K6.wrap (y1 - 6)))),(47,aB y11)] <| kA [5] <| kSR 5 (.string (af b9l)) rfl (fun _ _ ww hr => dv (e := 5) b9l hr.1 rfl (by kernel_rfl) (by kernel_rfl) (by kernel_rfl) rfl (ax (hr.2.fact (a9 (av w B).heap.size 5 1 (.slice b9a b9l.length b9c) (b9l.map bR)) (by simp)).1)) ?_
 refine d9 [9,10] [6,5,4] 0 [(6,aB y11),(5,.v (.string (af b9l)))] <| kZ <| kR ?_
 exact ⟨[iI (sA r.next (K6.wrap (y1 - 6))),.string (af b9l),.bool y11],by kernel_rfl,fun w' hb hf => ⟨⟨(sA r.next (K6.wrap (y1 - 6)),af b9l,y11),(by show (af _).size ≤ 4096; rw [d4]; omega)⟩,rfl,hf (cF B g A J cap) (by simp),am (hf (bF w (fun b => b = g)) (by simp)) hb rfl rfl rfl⟩⟩
 refine kSR 5 (.string (af b9l)) rfl (fun _ _ ww hr => dv (e := 5) b9l hr.1 rfl (by kernel_rfl) (by kernel_rfl) (by kernel_rfl) rfl (ax (hr.2.fact (a9 (av w B).heap.size 5 1 (.slice b9a b9l.length b9c) (b9l.map bR)) (by simp)).1)) ?_
 refine kA [3] <| du 3 96 [iI r.next,iI (K6.wrap (y1 - 6))] (some 43) rfl (c6 fun ww hf => bM r.next (K6.wrap (y1 - 6)) ww ) ?_
 intro _
 refine kA [7] <| fw 7 20 [gP g,iI 6] (some 47) 1 rfl rfl hlo (a5 a8) (bY hBw hap) ?_
 rintro ⟨y12,hy12⟩
 refine cJ [8,9,10] [6,5,4] 0 [(6,aB y12),(5,.v (.string (af b9l))),(4,aI (sA r.next (K6.wrap (y1 - 6))))] <| kZ <| kR ?_
 exact ⟨[iI (sA r.next (K6.wrap (y1 - 6))),.string (af b9l),.bool y12],by kernel_rfl,fun w' hb hf => ⟨⟨(sA r.next (K6.wrap (y1 - 6)),af b9l,y12),(by show (af _).size ≤ 4096; rw [d4]; omega)⟩,rfl,hf (cF B g A J cap) (by simp),am (hf (bF w (fun b => b = g)) (by simp)) hb rfl rfl rfl⟩⟩
 refine kK <| kS <| bo [] (by kernel_rfl) (fun ρ σ => ?_)
 refine cJ [0,1,2,4,6] [46,44,42,41] 6 [(46,aP g),(44,.v (.slice A1 bs.length c1)),(42,aI (K6.wrap (y1 - 6))),(41,aI r.next)] <| kA [3,5] ⟨?_,?_⟩
 refine du 3 96 [iI r.next,iI (K6.wrap (y1 - 6))] (some 43) rfl (c6 fun ww hf => bM r.next (K6.wrap (y1 - 6)) ww ) ?_
 intro _
 refine kA [5,7] ⟨?_,?_⟩
 refine kSR 5 (.string (af bs)) rfl (fun _ _ ww hr => dv (e := 5) bs hr.1 rfl (by kernel_rfl) (by kernel_rfl) (by kernel_rfl) rfl (ax (hr.2.fact (a9 (av w B).heap.size 5 1 (.slice A1 bs.length c1) (bs.map bR)) (by simp)).1)) ?_
 refine kA [7] <| fw 7 20 [gP g,iI 6] (some 47) 0 rfl rfl hlo (a5 a8) (bY hBw hap) ?_
 rintro ⟨y13,hy13⟩
 refine cJ [8,9,10] [6,5,4] 0 [(6,aB y13),(5,.v (.string (af bs))),(4,aI (sA r.next (K6.wrap (y1 - 6))))] <| kZ <| kR ?_
 exact ⟨[iI (sA r.next (K6.wrap (y1 - 6))),.string (af bs),.bool y13],by kernel_rfl,fun w' hb hf => ⟨⟨(sA r.next (K6.wrap (y1 - 6)),af bs,y13),(by show (af _).size ≤ 4096; rw [d4]; omega)⟩,rfl,hf (cF B g A J cap) (by simp),am (hf (bF w (fun b => b = g)) (by simp)) hb rfl rfl rfl⟩⟩
 refine fw 7 20 [gP g,iI 6] (some 47) 0 rfl rfl hlo (a5 a8) (bY hBw hap) ?_
 rintro ⟨y14,hy14⟩
 refine d9 [8] [4,47,44] 3 [(4,aI (sA r.next (K6.wrap (y1 - 6)))),(47,aB y14)] <| kA [5] <| kSR 5 (.string (af bs)) rfl (fun _ _ ww hr => dv (e := 5) bs hr.1 rfl (by kernel_rfl) (by kernel_rfl) (by kernel_rfl) rfl (ax (hr.2.fact (a9 (av w B).heap.size 5 1 (.slice A1 bs.length c1) (bs.map bR)) (by simp)).1)) ?_
 refine d9 [9,10] [6,5,4] 0 [(6,aB y14),(5,.v (.string (af bs)))] <| kZ <| kR ?_
 exact ⟨[iI (sA r.next (K6.wrap (y1 - 6))),.string (af bs),.bool y14],by kernel_rfl,fun w' hb hf => ⟨⟨(sA r.next (K6.wrap (y1 - 6)),af bs,y14),(by show (af _).size ≤ 4096; rw [d4]; omega)⟩,rfl,hf (cF B g A J cap) (by simp),am (hf (bF w (fun b => b = g)) (by simp)) hb rfl rfl rfl⟩⟩
 refine kSR 5 (.string (af bs)) rfl (fun _ _ ww hr => dv (e := 5) bs hr.1 rfl (by kernel_rfl) (by kernel_rfl) (by kernel_rfl) rfl (ax (hr.2.fact (a9 (av w B).heap.size 5 1 (.slice A1 bs.length c1) (bs.map bR)) (by simp)).1)) ?_
 refine kA [3] <| du 3 96 [iI r.next,iI (K6.wrap (y1 - 6))] (some 43) rfl (c6 fun ww hf => bM r.next (K6.wrap (y1 - 6)) ww ) ?_
 intro _
 refine kA [7] <| fw 7 20 [gP g,iI 6] (some 47) 0 rfl rfl hlo (a5 a8) (bY hBw hap) ?_
 rintro ⟨y15,hy15⟩
 refine cJ [8,9,10] [6,5,4] 0 [(6,aB y15),(5,.v (.string (af bs))),(4,aI (sA r.next (K6.wrap (y1 - 6))))] <| kZ <| kR ?_
 exact ⟨[iI (sA r.next (K6.wrap (y1 - 6))),.string (af bs),.bool y15],by kernel_rfl,fun w' hb hf => ⟨⟨(sA r.next (K6.wrap (y1 - 6)),af bs,y15),(by show (af _).size ≤ 4096; rw [d4]; omega)⟩,rfl,hf (cF B g A J cap) (by simp),am (hf (bF w (fun b => b = g)) (by simp)) hb rfl rfl rfl⟩⟩
theorem l18Stream_c_K {g : Nat} {J : List Int} {A : Option Addr} {cap : Nat} {r : Rcv} {r_heldV : Value} {w0 : World} {fs : List Fact} {B : Nat} (hB : B ≤ w0.heap.size) (hap : ¬ (sQ A J cap).blk g)  (hn : J.length ≤ 1048576 := by omega) (h1 : cF B g A J cap ∈ fs := by simp) (h2 : sQ A J cap ∈ fs := by simp) : XCM Tryz.prog w0 fs (cF B g A J cap).blk 108 [gP g, .agg (ag r r_heldV).toArray] (α := {y : Int × ByteArray × Bool // y.2.1.size ≤ 4096}) (fun y => .tuple #[iI y.1.1, .string y.1.2.1, .bool y.1.2.2]) (fun _ => [cF B g A J cap]) := dw fun w hw hf => l18Stream_c g J A cap r r_heldV w B (Nat.le_trans hB hw) (hf _ h1) (hf _ h2) hap hn  
theorem l18Receiver_c (g : Nat) (J : List Int) (A : Option Addr) (cap : Nat) (w : World) (B : Nat) (hB : B ≤ w.heap.size) (hc : (cF B g A J cap).p w) (hl : Sl w (sJ A J cap) 1 (J.map bR)) (hap : ¬ (sQ A J cap).blk g) (hn : J.length ≤ 1048576) : Calls Tryz.prog 86 #[gP g] w fun e w' => ∃ y : {y : Rcv × (Option Addr × Nat) // RB 3 y.1}, e = .returned (.agg (ag y.1.1 (.slice y.1.2.1 y.1.1.held.length y.1.2.2)).toArray) ∧ (cF B g A J cap).p w' ∧ (a9 w.heap.size 89 2 (.slice y.1.2.1 y.1.1.held.length y.1.2.2) (y.1.1.held.map pC)).p w' ∧ g < w.heap.size ∧ Chgd (fun b => b = g) w w' := by
 have hq_code := Sl.capLe hl
 have hBw : B ≤ (av w B).heap.size := Nat.le_of_eq (aM hB).symm
 have hlo : ∀ (ww : World) (b : Nat),(cF B g A J cap).p ww → (cF B g A J cap).blk b → (av w B).heap.size ≤ b := fun ww b h hb => Nat.le_trans (cf w B) (d3 h hb)
 refine fz (args := [gP g]) (fn := Tryz.f86) [cF B g A J cap,sQ A J cap,bF w (fun b => b = g)] B Tryz.func86 rfl Tryz.ntmps86 rfl hB (by simp only [List.mem_cons,List.not_mem_nil,or_false,forall_eq_or_imp,forall_eq]; exact ⟨hc,hl,bT w _⟩) (c5 hap rfl) ?_
 have hgl : g < w.heap.size := (cF B g A J cap).lt w g hc rfl
 refine kQ <| cm [0,2] ⟨[(0,aP g),(2,.p 0 0)],[⟨37,eD⟩],[],[cF B g A J cap,sQ A J cap,bF w (fun b => b = g)]⟩ <| kQ <| dl 1 [0,2,9] [(9,aP g)] 74 [gP g] (some 10) 0 rfl rfl hlo (dz hBw hap) ?_
 rintro ⟨y1,hy1⟩
 refine dR 0 [0,2,10] [] 97 [iI y1] (some 11) rfl (cb fun ww hw hf => ey y1 ww   ((av w B).heap.size) hw) ?_
 rintro ⟨v2a,v2c⟩
 refine gk [0,2,3] [(3,.p 1 0)] [⟨37,ag (rN y1) (.slice v2a ((rN y1).held.length) v2c)⟩] <| kQ <| dl 1 [0,2,3,12] [(12,aP g)] 46 [gP g,iI 7] (some 13) 1 rfl rfl hlo (ar hBw hap) ?_
 rintro ⟨y3,hy3⟩
 obtain ⟨hy30,hy31⟩ := hy3
 refine aW [0,2,3,4] [(4,aI y3)] <| kS <| kQ <| aW [0,2,3,4,5] [(5,aI 0)] ?_
 refine ao <| bc (α := {x : Nat × Rcv × Option Addr × Nat // (fun (i : Nat) (r : Rcv) (A1 : Option Addr) (c1 : Nat) => (i : Int) ≤ y3 ∧ RB 3 r) x.1 x.2.1 x.2.2.1 x.2.2.2}) (fun x => (fun (i : Nat) (r : Rcv) (A1 : Option Addr) (c1 : Nat) => (⟨[(0,aP g),(2,.p 0 0),(3,.p 1 0),(4,aI y3),(5,aI (i : Int))],[⟨37,eD⟩,⟨37,ag r (.slice A1 r.held.length c1)⟩],[],[a9 (av w B).heap.size 89 2 (.slice A1 r.held.length c1) (r.held.map pC),cF B g A J cap,sQ A J cap,bF w (fun b => b = g)]⟩ : St)) x.1.1 x.1.2.1 x.1.2.2.1 x.1.2.2.2) (fun x => (fun (i : Nat) (r : Rcv) (A1 : Option Addr) (c1 : Nat) => (y3).toNat - i) x.1.1 x.1.2.1 x.1.2.2.1 x.1.2.2.2) ⟨(0,(rN y1),v2a,v2c),⟨(by omega),RB.new _⟩⟩ (eW [1,0,2,3] <| kF 2 0 [0,2,3,4,5]) ?_
 rintro ⟨⟨i,r,A1,c1⟩,hi,hrb⟩
 try dsimp only
 try dsimp only at hi hrb
 have hkn := hrb.up.kn; have hm := hrb.hm; have hsz := hrb.sz
 refine kS <| kQ <| aW [0,2,3,4,5,16] [(16,aB (decide ((i : Int) < y3)))] <| kC (decide ((i : Int) < y3)) (fun h4 => ?_) (fun h4 => ?_)
 have h4p := of_decide_eq_true h4
 have hlt :  (i : Int) < y3 := of_decide_eq_true h4
 refine kK <| kS <| ao <| kQ <| dl 2 [0,2,3,4,5,20,21] [(20,aP g),(21,.v (.agg (ag r (.slice A1 r.held.length c1)).toArray))] 108 [gP g,.agg (ag r (.slice A1 r.held.length c1)).toArray] (some 22) 1 rfl rfl hlo (l18Stream_c_K hBw hap) ?_
 rintro ⟨y5,hy5⟩
 refine aW [0,2,3,4,5,6,7,8] [(6,aI y5.1),(7,.v (.string y5.2.1)),(8,aB y5.2.2)] <| kQ <| dR 4 [0,2,3,4,5,26,27,28,29] [(26,.v (.agg (ag r (.slice A1 r.held.length c1)).toArray)),(27,aI y5.1),(28,.v (.string y5.2.1)),(29,aB y5.2.2)] 117 [.agg (ag r (.slice A1 r.held.length c1)).toArray,iI y5.1,.string y5.2.1,.bool y5.2.2] (some 30) rfl (cb fun ww hw hf => ysArrived_c r (.slice A1 r.held.length c1) y5.1 y5.2.1 y5.2.2 ww (ax (hf _ m1)) (by assumption) (by assumption) (by omega) (by omega) ((av w B).heap.size) hw) ?_
 rintro ⟨v6a,v6c⟩
 have hra := RB.arr hrb (by omega) y5.1 y5.2.1 y5.2.2; have hka := hra.up.kn; have hma := hra.hm; have hza := hra.sz
 refine cm [0,2,3,4,5] ⟨[(0,aP g),(2,.p 0 0),(3,.p 1 0),(4,aI y3),(5,aI (i : Int))],[⟨37,eD⟩,⟨37,ag (ae r y5.1 y5.2.1 y5.2.2) (.slice v6a ((ae r y5.1 y5.2.1 y5.2.2).held.length) v6c)⟩],[],[a9 (av w B).heap.size 89 2 (.slice v6a ((ae r y5.1 y5.2.1 y5.2.2).held.length) v6c) ((ae r y5.1 y5.2.1 y5.2.2).held.map pC),cF B g A J cap,a9 (av w B).heap.size 89 2 (.slice A1 r.held.length c1) (r.held.map pC),sQ A J cap,bF w (fun b => b = g)]⟩ <| kQ <| dl 1 [0,2,3,4,5,31] [(31,aP g)] 20 [gP g,iI 3] (some 32) 1 rfl rfl hlo (bY hBw hap) ?_
 rintro ⟨y7,hy7⟩
 refine aW [0,2,3,4,5,32] [] <| kC (y7) (fun h8 => ?_) (fun h8 => ?_)
 refine bo [true,false] (by kernel_rfl) (fun ρ σ => ?_)
 refine d9 [1] [35,0,2,3,4,5] 7 [(35,aP g)] <| kA [0,2] ⟨?_,?_⟩
 refine ev 0 (.v (.agg (ag (ae r y5.1 y5.2.1 y5.2.2) (.slice v6a ((ae r y5.1 y5.2.1 y5.2.2).held.length) v6c)).toArray)) rfl <| kA [2] <| fw 2 46 [gP g,iI 20] (some 36) 0 rfl rfl hlo (a5 (ap rfl a8)) (ar hBw hap) ?_
 rintro ⟨y9,hy9⟩
 obtain ⟨hy90,hy91⟩ := hy9
 refine kA [3] <| du 3 103 [.agg (ag (ae r y5.1 y5.2.1 y5.2.2) (.slice v6a ((ae r y5.1 y5.2.1 y5.2.2).held.length) v6c)).toArray,iI y9] (some 37) rfl (cb fun ww hw hf => ysTakenIn_c (ae r y5.1 y5.2.1 y5.2.2) (.slice v6a ((ae r y5.1 y5.2.1 y5.2.2).held.length) v6c) y9 ww (ax (hf _ m1)) (by assumption) (by assumption) (by omega) ((av w B).heap.size) hw) ?_
 rintro ⟨v10a,v10c⟩
 refine d9 [4,5,6] [38,0,2,3,4,5] 1 [(38,.v (.agg (ag (ay (ae r y5.1 y5.2.1 y5.2.2) y9).1 (.slice v10a ((ay (ae r y5.1 y5.2.1 y5.2.2) y9).1.held.length) v10c)).toArray))] <| kA [7] <| dg 7 1 0 (ag (ay (ae r y5.1 y5.2.1 y5.2.2) y9).1 (.slice v10a ((ay (ae r y5.1 y5.2.1 y5.2.2) y9).1.held.length) v10c)) rfl <| kZ <| kG <| di 3 [0,2,3,4,5] [(5,aI (K6.wrap ((i : Int) + 1)))] ?_
 refine cU [0,2,3,4,5] [(5,aI (K6.wrap ((i : Int) + 1)))] [(5,aI ((i : Int) + 1))] (by rw [show (K6.wrap ((i : Int) + 1)) = ((i : Int) + 1) from al (by omega) (by omega)]) (by kernel_rfl) ?_
 refine aW [0,2,3,4,5] [] ?_
 exact ⟨⟨(i + 1,(ay (ae r y5.1 y5.2.1 y5.2.2) y9).1,v10a,v10c),⟨(by omega),(by first | exact hra | exact RB.taken hra _ | exact hrb)⟩⟩,eW [0,1,4,5] <| kF 2 0 [0,2,3,4,5],by show (fun (i : Nat) (r : Rcv) (A1 : Option Addr) (c1 : Nat) => (y3).toNat - i) (i + 1) ((ay (ae r y5.1 y5.2.1 y5.2.2) y9).1) v10a v10c < (y3).toNat - i; (dsimp only; omega)⟩
 refine fw 2 46 [gP g,iI 20] (some 36) 0 rfl rfl hlo (a5 (ap rfl a8)) (ar hBw hap) ?_
 rintro ⟨y11,hy11⟩
 obtain ⟨hy110,hy111⟩ := hy11
 refine kA [0] <| ev 0 (.v (.agg (ag (ae r y5.1 y5.2.1 y5.2.2) (.slice v6a ((ae r y5.1 y5.2.1 y5.2.2).held.length) v6c)).toArray)) rfl <| kA [3] <| du 3 103 [.agg (ag (ae r y5.1 y5.2.1 y5.2.2) (.slice v6a ((ae r y5.1 y5.2.1 y5.2.2).held.length) v6c)).toArray,iI y11] (some 37) rfl (cb fun ww hw hf => ysTakenIn_c (ae r y5.1 y5.2.1 y5.2.2) (.slice v6a ((ae r y5.1 y5.2.1 y5.2.2).held.length) v6c) y11 ww (ax (hf _ m1)) (by assumption) (by assumption) (by omega) ((av w B).heap.size) hw) ?_
 rintro ⟨v12a,v12c⟩
 refine d9 [4,5,6] [38,0,2,3,4,5] 1 [(38,.v (.agg (ag (ay (ae r y5.1 y5.2.1 y5.2.2) y11).1 (.slice v12a ((ay (ae r y5.1 y5.2.1 y5.2.2) y11).1.held.length) v12c)).toArray))] <| kA [7] <| dg 7 1 0 (ag (ay (ae r y5.1 y5.2.1 y5.2.2) y11).1 (.slice v12a ((ay (ae r y5.1 y5.2.1 y5.2.2) y11).1.held.length) v12c)) rfl <| kZ <| kG <| di 3 [0,2,3,4,5] [(5,aI (K6.wrap ((i : Int) + 1)))] ?_
 refine cU [0,2,3,4,5] [(5,aI (K6.wrap ((i : Int) + 1)))] [(5,aI ((i : Int) + 1))] (by rw [show (K6.wrap ((i : Int) + 1)) = ((i : Int) + 1) from al (by omega) (by omega)]) (by kernel_rfl) ?_
 refine aW [0,2,3,4,5] [] ?_
 exact ⟨⟨(i + 1,(ay (ae r y5.1 y5.2.1 y5.2.2) y11).1,v12a,v12c),⟨(by omega),(by first | exact hra | exact RB.taken hra _ | exact hrb)⟩⟩,eW [0,1,4,5] <| kF 2 0 [0,2,3,4,5],by show (fun (i : Nat) (r : Rcv) (A1 : Option Addr) (c1 : Nat) => (y3).toNat - i) (i + 1) ((ay (ae r y5.1 y5.2.1 y5.2.2) y11).1) v12a v12c < (y3).toNat - i; (dsimp only; omega)⟩
 refine kK <| kG <| di 3 [0,2,3,4,5] [(5,aI (K6.wrap ((i : Int) + 1)))] <| cU [0,2,3,4,5] [(5,aI (K6.wrap ((i : Int) + 1)))] [(5,aI ((i : Int) + 1))] (by rw [show (K6.wrap ((i : Int) + 1)) = ((i : Int) + 1) from al (by omega) (by omega)]) (by kernel_rfl) ?_
 refine aW [0,2,3,4,5] [] ?_
 exact ⟨⟨(i + 1,(ae r y5.1 y5.2.1 y5.2.2),v6a,v6c),⟨(by omega),(by first | exact hra | exact RB.taken hra _ | exact hrb)⟩⟩,eW [1,0,3,4] <| kF 2 0 [0,2,3,4,5],by show (fun (i : Nat) (r : Rcv) (A1 : Option Addr) (c1 : Nat) => (y3).toNat - i) (i + 1) (ae r y5.1 y5.2.1 y5.2.2) v6a v6c < (y3).toNat - i; (dsimp only; omega)⟩
 have h4p := of_decide_eq_false h4
 have hge : ¬ (i : Int) < y3 := of_decide_eq_false h4
 refine bH <| kQ <| bC [2] [(2,.p 0 0)] 0 ⟨37,ag r (.slice A1 r.held.length c1)⟩ <| kR ?_
 exact ⟨[.agg (ag r (.slice A1 r.held.length c1)).toArray],by kernel_rfl,fun w' hb hf ha => ⟨⟨(r,A1,c1),hrb⟩,rfl,hf (cF B g A J cap) (by simp),bi (hf (a9 (av w B).heap.size 89 2 (.slice A1 r.held.length c1) (r.held.map pC)) (by simp)) (br ha (i := 0) (j := 1) (k := 3) rfl rfl rfl rfl (by decide) (by decide)),hgl,am (hf (bF w (fun b => b = g)) (by simp)) hb rfl rfl rfl⟩⟩
theorem l18Bent_c (g : Nat) (J : List Int) (A : Option Addr) (cap : Nat) (w : World) (B : Nat) (hB : B ≤ w.heap.size) (hc : (cF B g A J cap).p w) (hl : Sl w (sJ A J cap) 1 (J.map bR)) (hap : ¬ (sQ A J cap).blk g) (hn : J.length ≤ 1048576) : Calls Tryz.prog 54 #[gP g] w fun e w' => ∃ y : {y : Rcv × (Option Addr × Nat) // RB 4 y.1}, e = .returned (.agg (ag y.1.1 (.slice y.1.2.1 y.1.1.held.length y.1.2.2)).toArray) ∧ (cF B g A J cap).p w' ∧ (a9 w.heap.size 89 2 (.slice y.1.2.1 y.1.1.held.length y.1.2.2) (y.1.1.held.map pC)).p w' ∧ g < w.heap.size ∧ Chgd (fun b => b = g) w w' := by
 have hq_code := Sl.capLe hl
 have hBw : B ≤ (av w B).heap.size := Nat.le_of_eq (aM hB).symm
 have hlo : ∀ (ww : World) (b : Nat),(cF B g A J cap).p ww → (cF B g A J cap).blk b → (av w B).heap.size ≤ b := fun ww b h hb => Nat.le_trans (cf w B) (d3 h hb)
 refine fz (args := [gP g]) (fn := Tryz.f54) [cF B g A J cap,sQ A J cap,bF w (fun b => b = g)] B Tryz.func54 rfl Tryz.ntmps54 rfl hB (by simp only [List.mem_cons,List.not_mem_nil,or_false,forall_eq_or_imp,forall_eq]; exact ⟨hc,hl,bT w _⟩) (c5 hap rfl) ?_
 have hgl : g < w.heap.size := (cF B g A J cap).lt w g hc rfl
 refine kQ <| cm [0,2] ⟨[(0,aP g),(2,.p 0 0)],[⟨37,eD⟩],[],[cF B g A J cap,sQ A J cap,bF w (fun b => b = g)]⟩ <| kQ <| dl 1 [0,2,4] [(4,aP g)] 86 [gP g] (some 5) 0 rfl rfl hlo (eC fun ww hw hf => l18Receiver_c g J A cap ww B (Nat.le_trans (by first | exact Nat.le_refl _ | exact Nat.le_of_eq (aM hB).symm) hw) (hf (cF B g A J cap) (by simp)) (hf _ m1) hap (by omega)) ?_
 rintro ⟨⟨b1m,b1a,b1c⟩,hb1⟩
 dsimp only at hb1
 have hb1n := hb1.1
 refine gk [0,2,3] [(3,.p 1 0)] [⟨37,ag b1m (.slice b1a b1m.held.length b1c)⟩] <| kS <| dZ (α := {zz : Rcv × Option Addr × Nat // (fun (q : Rcv) (A3 : Option Addr) (c3 : Nat) => RB 4 q) zz.1 zz.2.1 zz.2.2}) (fun zz => (fun (q : Rcv) (A3 : Option Addr) (c3 : Nat) => (⟨[(2,.p 0 0),(3,.p 1 0)],[⟨37,eD⟩,⟨37,ag q (.slice A3 q.held.length c3)⟩],[],[a9 (av w B).heap.size 89 2 (.slice A3 q.held.length c3) (q.held.map pC),cF B g A J cap,sQ A J cap,bF w (fun b => b = g)]⟩ : St)) zz.1.1 zz.1.2.1 zz.1.2.2) ?_ ?_
 refine kQ <| dl 1 [0,2,3,6] [(6,aP g)] 46 [gP g,iI 12] (some 7) 1 rfl rfl hlo (ar hBw hap) ?_
 rintro ⟨y2,hy2⟩
 obtain ⟨hy20,hy21⟩ := hy2
 refine aW [0,2,3,7] [] <| ao <| kQ <| aW [0,2,3,7,8] [(8,aB (y2 == 0))] ?_
 refine kC (y2 == 0) (fun h3 => ?_) (fun h3 => ?_)
 have h3p := cI h3
 refine kG <| dl 1 [2,3,10] [(10,aP g)] 84 [gP g] (some 11) 0 rfl rfl hlo (eI hBw hap) ?_
 rintro ⟨y4,hy4⟩
 refine bC [2,3] [] 1 ⟨37,ag { b1m with next := y4 } (.slice b1a b1m.held.length b1c)⟩ ?_
 exact ⟨⟨({ b1m with next := y4 },b1a,b1c),⟨Nat.le_trans hb1.1 (by decide),hb1.2.1,hb1.2.2⟩⟩,eW [1,0,2,3] <| kF 2 0 [2,3]⟩
 have h3p := cB h3
 refine kQ <| aW [0,2,3,7,13] [(13,aB (y2 == 1))] <| kC (y2 == 1) (fun h5 => ?_) (fun h5 => ?_)
 have h5p := cI h5
 refine kG <| kHD 1 [2,3,15] [(15,aP g)] rfl (aH (e := 3) (K := 1) (bytes := 8) [iI (-2),iI (-1),iI 0,iI 5,iI 32,iI 33] (rs := ([(-2),(-1),0,5,32,33] : List Int).map az) rfl rfl) ?_
 intro g6
 refine dK (φ := ¬ (aJ (.slice (some ⟨g6,0,none⟩) 6 6) 1 (([(-2),(-1),0,5,32,33] : List Int).map az)).blk g) (fun _ _ _ _ hr => fun hb => hr.2.apart 0 1 (a9 (av w B).heap.size 3 1 (.slice (some ⟨g6,0,none⟩) 6 6) (([(-2),(-1),0,5,32,33] : List Int).map az)) (cF B g A J cap) rfl rfl (by decide) rfl g (bG hb) rfl) (fun hk7 => ?_)
 refine dl 0 [2,3,15,16] [] 48 [gP g,.slice (some ⟨g6,0,none⟩) 6 6] (some 17) 1 rfl rfl hlo (bw hBw hap (fun ww hw hf => (ax (hf _ m0))) hk7 (by simp)) ?_
 rintro ⟨y8,hy8⟩
 refine bC [2,3] [] 1 ⟨37,ag { b1m with fin := y8 } (.slice b1a b1m.held.length b1c)⟩ ?_
 exact ⟨⟨({ b1m with fin := y8 },b1a,b1c),⟨Nat.le_trans hb1.1 (by decide),hb1.2.1,hb1.2.2⟩⟩,eW [2,0,3,4] <| kF 2 0 [2,3]⟩
 have h5p := cB h5
 refine kQ <| aW [0,2,3,7,19] [(19,aB (y2 == 2))] <| kC (y2 == 2) (fun h9 => ?_) (fun h9 => ?_)
 have h9p := cI h9
 refine kG <| bC [2,3] [] 1 ⟨37,ag { b1m with done := !b1m.done } (.slice b1a b1m.held.length b1c)⟩ ?_
 exact ⟨⟨({ b1m with done := !b1m.done },b1a,b1c),⟨Nat.le_trans hb1.1 (by decide),hb1.2.1,hb1.2.2⟩⟩,eW [1,0,2,3] <| kF 2 0 [2,3]⟩
 have h9p := cB h9
 refine kQ <| aW [0,2,3,7,25] [(25,aB (y2 == 3))] <| kC (y2 == 3) (fun h10 => ?_) (fun h10 => ?_)
 have h10p := cI h10
 refine bo [true,false] (by kernel_rfl) (fun ρ σ => ?_)
 refine xe_cut (α := {zz : Nat × Int × Nat × ByteArray × Nat × Option Addr × Nat // (fun (g162 : Nat) (y213 : Int) (g312 : Nat) (y363 : ByteArray) (g462 : Nat) (v512a : Option Addr) (v512c : Nat) => y363 ∈ ([(⟨#[]⟩ : ByteArray),(⟨#[120]⟩ : ByteArray),(⟨#[121,122]⟩ : ByteArray)] : List ByteArray)) zz.1 zz.2.1 zz.2.2.1 zz.2.2.2.1 zz.2.2.2.2.1 zz.2.2.2.2.2.1 zz.2.2.2.2.2.2}) (fun zz => (fun (g162 : Nat) (y213 : Int) (g312 : Nat) (y363 : ByteArray) (g462 : Nat) (v512a : Option Addr) (v512c : Nat) => (⟨[(2,.p 0 0),(3,.p 1 0)],[⟨37,eD⟩,⟨37,ag { b1m with held := (b1m.held ++ ([⟨y213,y363⟩] : List Pce)) } (.slice v512a ((b1m.held ++ ([⟨y213,y363⟩] : List Pce)).length) v512c)⟩],[],[cF B g A J cap,sQ A J cap,bF w (fun b => b = g),a9 (av w B).heap.size 3 1 (.slice (some ⟨g162,0,none⟩) 7 7) (([0,1,20,31,32,(-1),9223372036854775807] : List Int).map az),a9 (av w B).heap.size 89 2 (.slice (some ⟨g462,0,none⟩) 1 1) (([⟨y213,y363⟩] : List Pce).map pC),a9 (av w B).heap.size 89 2 (.slice v512a ((b1m.held ++ ([⟨y213,y363⟩] : List Pce)).length) v512c) ((b1m.held ++ ([⟨y213,y363⟩] : List Pce)).map pC),a9 (av w B).heap.size 9 1 (.slice (some ⟨g312,0,none⟩) 3 3) (([(⟨#[]⟩ : ByteArray),(⟨#[120]⟩ : ByteArray),(⟨#[121,122]⟩ : ByteArray)] : List ByteArray).map cC)]⟩ : St)) zz.1.1 zz.1.2.1 zz.1.2.2.1 zz.1.2.2.2.1 zz.1.2.2.2.2.1 zz.1.2.2.2.2.2.1 zz.1.2.2.2.2.2.2) 0 (bJ 13 8191) ?_ (fun hD7 => ?_)
 rintro ⟨⟨g162,y213,g312,y363,g462,v512a,v512c⟩,hy363⟩
 dsimp only
 try dsimp only at hy363
 refine kZ ?_
 exact ⟨⟨({ b1m with held := (b1m.held ++ ([⟨y213,y363⟩] : List Pce)) },v512a,v512c),(RB.more hb1 _ (by have hq := hy363; simp only [List.mem_cons,List.not_mem_nil,or_false] at hq; rcases hq with h | h | h <;> subst h <;> (dsimp only; decide)) hb1.2.2)⟩,eW [5,0,1,2] <| kF 2 0 [2,3]⟩
 refine xe_cut (α := {zz : Nat × Int × Nat × ByteArray × Nat × Option Addr × Nat // (fun (g162 : Nat) (y213 : Int) (g312 : Nat) (y363 : ByteArray) (g462 : Nat) (v512a : Option Addr) (v512c : Nat) => y363 ∈ ([(⟨#[]⟩ : ByteArray),(⟨#[120]⟩ : ByteArray),(⟨#[121,122]⟩ : ByteArray)] : List ByteArray)) zz.1 zz.2.1 zz.2.2.1 zz.2.2.2.1 zz.2.2.2.2.1 zz.2.2.2.2.2.1 zz.2.2.2.2.2.2}) (fun zz => (fun (g162 : Nat) (y213 : Int) (g312 : Nat) (y363 : ByteArray) (g462 : Nat) (v512a : Option Addr) (v512c : Nat) => (⟨[(2,.p 0 0),(3,.p 1 0),(37,.v (.slice v512a ((b1m.held ++ ([⟨y213,y363⟩] : List Pce)).length) v512c))],[⟨37,eD⟩,⟨37,ag b1m (.slice b1a b1m.held.length b1c)⟩],[],[cF B g A J cap,sQ A J cap,bF w (fun b => b = g),a9 (av w B).heap.size 3 1 (.slice (some ⟨g162,0,none⟩) 7 7) (([0,1,20,31,32,(-1),9223372036854775807] : List Int).map az),a9 (av w B).heap.size 89 2 (.slice (some ⟨g462,0,none⟩) 1 1) (([⟨y213,y363⟩] : List Pce).map pC),a9 (av w B).heap.size 89 2 (.slice v512a ((b1m.held ++ ([⟨y213,y363⟩] : List Pce)).length) v512c) ((b1m.held ++ ([⟨y213,y363⟩] : List Pce)).map pC),a9 (av w B).heap.size 9 1 (.slice (some ⟨g312,0,none⟩) 3 3) (([(⟨#[]⟩ : ByteArray),(⟨#[120]⟩ : ByteArray),(⟨#[121,122]⟩ : ByteArray)] : List ByteArray).map cC)]⟩ : St)) zz.1.1 zz.1.2.1 zz.1.2.2.1 zz.1.2.2.2.1 zz.1.2.2.2.2.1 zz.1.2.2.2.2.2.1 zz.1.2.2.2.2.2.2) 2 (bJ 13 2047) ?_ (fun hD6 => ?_)
 rintro ⟨⟨g162,y213,g312,y363,g462,v512a,v512c⟩,hy363⟩
 dsimp only
 try dsimp only at hy363
 refine cJ [11] [38,2,3,37] 1 [(38,.p 1 2),(2,.p 0 0),(3,.p 1 0),(37,.v (.slice v512a ((b1m.held ++ ([⟨y213,y363⟩] : List Pce)).length) v512c))] <| kA [12] <| dg 12 1 2 [.slice v512a ((b1m.held ++ ([⟨y213,y363⟩] : List Pce)).length) v512c] rfl ?_
 exact ah (kF 2 0 [2,3]) (by kernel_rfl) (hD7 ⟨(g162,y213,g312,y363,g462,v512a,v512c),hy363⟩)
 refine bD (α := {zz : Nat × Int × Nat × ByteArray × Nat // (fun (g162 : Nat) (y213 : Int) (g312 : Nat) (y363 : ByteArray) (g462 : Nat) => y363 ∈ ([(⟨#[]⟩ : ByteArray),(⟨#[120]⟩ : ByteArray),(⟨#[121,122]⟩ : ByteArray)] : List ByteArray)) zz.1 zz.2.1 zz.2.2.1 zz.2.2.2.1 zz.2.2.2.2}) (fun zz => (fun (g162 : Nat) (y213 : Int) (g312 : Nat) (y363 : ByteArray) (g462 : Nat) => [(28,.v (.slice b1a b1m.held.length b1c)),(36,.v (.slice (some ⟨g462,0,none⟩) 1 1))]) zz.1.1 zz.1.2.1 zz.1.2.2.1 zz.1.2.2.2.1 zz.1.2.2.2.2) [2,3,28,36] (fun _ => []) (fun zz => (fun (g162 : Nat) (y213 : Int) (g312 : Nat) (y363 : ByteArray) (g462 : Nat) => [a9 (av w B).heap.size 3 1 (.slice (some ⟨g162,0,none⟩) 7 7) (([0,1,20,31,32,(-1),9223372036854775807] : List Int).map az),a9 (av w B).heap.size 89 2 (.slice (some ⟨g462,0,none⟩) 1 1) (([⟨y213,y363⟩] : List Pce).map pC),a9 (av w B).heap.size 9 1 (.slice (some ⟨g312,0,none⟩) 3 3) (([(⟨#[]⟩ : ByteArray),(⟨#[120]⟩ : ByteArray),(⟨#[121,122]⟩ : ByteArray)] : List ByteArray).map cC)]) zz.1.1 zz.1.2.1 zz.1.2.2.1 zz.1.2.2.2.1 zz.1.2.2.2.2) 3 (bJ 13 1023) ?_ (fun hD5 => ?_)
 rintro ⟨⟨g162,y213,g312,y363,g462⟩,hy363⟩
 dsimp only [List.cons_append,List.nil_append]
 try dsimp only at hy363
 refine kA [10] <| e5 10 rfl (a5 (ap rfl a8)) (aE (e := 89) (K := 2) (bytes := 24) (i := 1) (q := (b1m.held ++ ([⟨y213,y363⟩] : List Pce)).length) (new := ([⟨y213,y363⟩] : List Pce).map pC) (rs' := (b1m.held ++ ([⟨y213,y363⟩] : List Pce)).map pC) rfl rfl rfl rfl (by kernel_rfl) (by kernel_rfl) (by kernel_rfl) rfl (by simp) (by rw [List.map_append]) (by simp) (fun ww hf => (ax (hf (a9 (av w B).heap.size 89 2 (.slice (some ⟨g462,0,none⟩) 1 1) (([⟨y213,y363⟩] : List Pce).map pC)) (by simp)))) (by intro r hr; obtain ⟨x,hx,rfl⟩ := List.mem_map.1 hr; exact ⟨rfl,by simp [pC,Value.oneCell']⟩) (by (try simp only [List.length_map,List.length_append,List.length_cons,List.length_nil,List.length_take,List.length_drop,maxLen]); omega) (by (try simp only [List.length_map,List.length_append,List.length_cons,List.length_nil,List.length_take,List.length_drop,maxLen]); omega)) ?_
 rintro ⟨v512a,v512c⟩
 exact ah (eW [1,2,3,4,5,0,6] <| kF 2 0 [2,3,37]) (by kernel_rfl) (hD6 ⟨(g162,y213,g312,y363,g462,v512a,v512c),hy363⟩)
 refine bD (α := {zz : Nat × Int × Nat × ByteArray // (fun (g162 : Nat) (y213 : Int) (g312 : Nat) (y363 : ByteArray) => y363 ∈ ([(⟨#[]⟩ : ByteArray),(⟨#[120]⟩ : ByteArray),(⟨#[121,122]⟩ : ByteArray)] : List ByteArray)) zz.1 zz.2.1 zz.2.2.1 zz.2.2.2}) (fun zz => (fun (g162 : Nat) (y213 : Int) (g312 : Nat) (y363 : ByteArray) => [(28,.v (.slice b1a b1m.held.length b1c)),(31,aI y213),(34,.v (.string y363))]) zz.1.1 zz.1.2.1 zz.1.2.2.1 zz.1.2.2.2) [2,3,28,31,34] (fun _ => []) (fun zz => (fun (g162 : Nat) (y213 : Int) (g312 : Nat) (y363 : ByteArray) => [a9 (av w B).heap.size 3 1 (.slice (some ⟨g162,0,none⟩) 7 7) (([0,1,20,31,32,(-1),9223372036854775807] : List Int).map az),a9 (av w B).heap.size 9 1 (.slice (some ⟨g312,0,none⟩) 3 3) (([(⟨#[]⟩ : ByteArray),(⟨#[120]⟩ : ByteArray),(⟨#[121,122]⟩ : ByteArray)] : List ByteArray).map cC)]) zz.1.1 zz.1.2.1 zz.1.2.2.1 zz.1.2.2.2) 5 (bJ 13 255) ?_ (fun hD4 => ?_)
 rintro ⟨⟨g162,y213,g312,y363⟩,hy363⟩
 dsimp only [List.cons_append,List.nil_append]
 try dsimp only at hy363
 refine kX 8 (.agg (pceL (⟨y213,y363⟩ : Pce)).toArray) rfl (fun _ _ ww hA => bn [(0,iI y213),(1,.string y363)] hA rfl (by kernel_rfl) (by kernel_rfl) ww) ?_
 refine kA [9] <| e5 9 rfl (a5 (ap rfl a8)) (aH (e := 89) (K := 2) (bytes := 24) [.agg (pceL (⟨y213,y363⟩ : Pce)).toArray] (rs := ([⟨y213,y363⟩] : List Pce).map pC) rfl rfl) ?_
 intro g462
 exact ah (eW [1,2,3,4,5,0,6] <| kF 2 0 [2,3,28,36]) (by kernel_rfl) (hD5 ⟨(g162,y213,g312,y363,g462),hy363⟩)
 refine bD (α := Nat × Int × Nat) (fun zz => (fun (g162 : Nat) (y213 : Int) (g312 : Nat) => [(28,.v (.slice b1a b1m.held.length b1c)),(31,aI y213),(32,aP g),(33,.v (.slice (some ⟨g312,0,none⟩) 3 3))]) zz.1 zz.2.1 zz.2.2) [2,3,28,31,32,33] (fun _ => []) (fun zz => (fun (g162 : Nat) (y213 : Int) (g312 : Nat) => [a9 (av w B).heap.size 3 1 (.slice (some ⟨g162,0,none⟩) 7 7) (([0,1,20,31,32,(-1),9223372036854775807] : List Int).map az),a9 (av w B).heap.size 9 1 (.slice (some ⟨g312,0,none⟩) 3 3) (([(⟨#[]⟩ : ByteArray),(⟨#[120]⟩ : ByteArray),(⟨#[121,122]⟩ : ByteArray)] : List ByteArray).map cC)]) zz.1 zz.2.1 zz.2.2) 6 (bJ 13 127) ?_ (fun hD3 => ?_)
 rintro ⟨g162,y213,g312⟩
 dsimp only [List.cons_append,List.nil_append]
 refine kA [7] <| gi (φ := ¬ (aJ (.slice (some ⟨g312,0,none⟩) 3 3) 1 (([(⟨#[]⟩ : ByteArray),(⟨#[120]⟩ : ByteArray),(⟨#[121,122]⟩ : ByteArray)] : List ByteArray).map cC)).blk g) (fun _ _ _ _ hr => fun hb => hr.2.apart 5 0 (a9 (av w B).heap.size 9 1 (.slice (some ⟨g312,0,none⟩) 3 3) (([(⟨#[]⟩ : ByteArray),(⟨#[120]⟩ : ByteArray),(⟨#[121,122]⟩ : ByteArray)] : List ByteArray).map cC)) (cF B g A J cap) rfl rfl (by decide) rfl g (bG hb) rfl) (fun hk362 => ?_)
 refine fw 7 87 [gP g,.slice (some ⟨g312,0,none⟩) 3 3] (some 34) 0 rfl rfl hlo (a5 (ap rfl a8)) (l1Pick_c_K hBw hap (fun ww hw hf => (ax (hf _ m5))) hk362 (by simp)) ?_
 rintro ⟨y363,hy363⟩
 exact ah (kF 2 0 [2,3,28,31,34]) (by kernel_rfl) (hD4 ⟨(g162,y213,g312,y363),hy363⟩)
 refine bD (α := Nat × Int) (fun zz => (fun (g162 : Nat) (y213 : Int) => [(28,.v (.slice b1a b1m.held.length b1c)),(31,aI y213),(32,aP g)]) zz.1 zz.2) [2,3,28,31,32] (fun _ => []) (fun zz => (fun (g162 : Nat) (y213 : Int) => [a9 (av w B).heap.size 3 1 (.slice (some ⟨g162,0,none⟩) 7 7) (([0,1,20,31,32,(-1),9223372036854775807] : List Int).map az)]) zz.1 zz.2) 7 (bJ 13 63) ?_ (fun hD2 => ?_)
 rintro ⟨g162,y213⟩
 dsimp only [List.cons_append,List.nil_append]
 refine kA [6] <| e5 6 rfl (a5 (ap rfl a8)) (aH (e := 9) (K := 1) (bytes := 16) [.string (⟨#[]⟩ : ByteArray),.string (⟨#[120]⟩ : ByteArray),.string (⟨#[121,122]⟩ : ByteArray)] (rs := ([(⟨#[]⟩ : ByteArray),(⟨#[120]⟩ : ByteArray),(⟨#[121,122]⟩ : ByteArray)] : List ByteArray).map cC) rfl rfl) ?_
 intro g312
 exact ah (eW [1,2,3,4,5,0] <| kF 2 0 [2,3,28,31,32,33]) (by kernel_rfl) (hD3 (g162,y213,g312))
 refine bD (α := Nat × Nat) (fun zz => (fun (g162 : Nat) (g312 : Nat) => [(28,.v (.slice b1a b1m.held.length b1c)),(29,aP g),(30,.v (.slice (some ⟨g162,0,none⟩) 7 7)),(32,aP g),(33,.v (.slice (some ⟨g312,0,none⟩) 3 3))]) zz.1 zz.2) [2,3,28,29,30,32,33] (fun _ => []) (fun zz => (fun (g162 : Nat) (g312 : Nat) => [a9 (av w B).heap.size 3 1 (.slice (some ⟨g162,0,none⟩) 7 7) (([0,1,20,31,32,(-1),9223372036854775807] : List Int).map az),a9 (av w B).heap.size 9 1 (.slice (some ⟨g312,0,none⟩) 3 3) (([(⟨#[]⟩ : ByteArray),(⟨#[120]⟩ : ByteArray),(⟨#[121,122]⟩ : ByteArray)] : List ByteArray).map cC)]) zz.1 zz.2) 7 (bJ 13 111) ?_ (fun hD8 => ?_)
 rintro ⟨g162,g312⟩
 dsimp only [List.cons_append,List.nil_append]
 refine kA [4] <| gi (φ := ¬ (aJ (.slice (some ⟨g162,0,none⟩) 7 7) 1 (([0,1,20,31,32,(-1),9223372036854775807] : List Int).map az)).blk g) (fun _ _ _ _ hr => fun hb => hr.2.apart 4 0 (a9 (av w B).heap.size 3 1 (.slice (some ⟨g162,0,none⟩) 7 7) (([0,1,20,31,32,(-1),9223372036854775807] : List Int).map az)) (cF B g A J cap) rfl rfl (by decide) rfl g (bG hb) rfl) (fun hk212 => ?_)
 refine fw 4 48 [gP g,.slice (some ⟨g162,0,none⟩) 7 7] (some 31) 0 rfl rfl hlo (a5 (ap rfl a8)) (bw hBw hap (fun ww hw hf => (ax (hf _ m4))) hk212 (by simp)) ?_
 rintro ⟨y213,hy213⟩
 exact ah (kF 2 0 [2,3,28,31,32,33]) (by kernel_rfl) (hD3 (g162,y213,g312))
 refine bD (α := Nat) (fun zz => (fun (g162 : Nat) => [(28,.v (.slice b1a b1m.held.length b1c)),(29,aP g),(30,.v (.slice (some ⟨g162,0,none⟩) 7 7)),(32,aP g)]) zz) [2,3,28,29,30,32] (fun _ => []) (fun zz => (fun (g162 : Nat) => [a9 (av w B).heap.size 3 1 (.slice (some ⟨g162,0,none⟩) 7 7) (([0,1,20,31,32,(-1),9223372036854775807] : List Int).map az)]) zz) 8 (bJ 13 47) ?_ (fun hD1 => ?_)
 intro g162
 dsimp only [List.cons_append,List.nil_append]
 refine kA [4,6] ⟨?_,?_⟩
 refine gi (φ := ¬ (aJ (.slice (some ⟨g162,0,none⟩) 7 7) 1 (([0,1,20,31,32,(-1),9223372036854775807] : List Int).map az)).blk g) (fun _ _ _ _ hr => fun hb => hr.2.apart 4 0 (a9 (av w B).heap.size 3 1 (.slice (some ⟨g162,0,none⟩) 7 7) (([0,1,20,31,32,(-1),9223372036854775807] : List Int).map az)) (cF B g A J cap) rfl rfl (by decide) rfl g (bG hb) rfl) (fun hk212 => ?_)
 refine fw 4 48 [gP g,.slice (some ⟨g162,0,none⟩) 7 7] (some 31) 0 rfl rfl hlo (a5 (ap rfl a8)) (bw hBw hap (fun ww hw hf => (ax (hf _ m4))) hk212 (by simp)) ?_
 rintro ⟨y213,hy213⟩
 exact ah (kF 2 0 [2,3,28,31,32]) (by kernel_rfl) (hD2 (g162,y213))
 refine e5 6 rfl (a5 (ap rfl a8)) (aH (e := 9) (K := 1) (bytes := 16) [.string (⟨#[]⟩ : ByteArray),.string (⟨#[120]⟩ : ByteArray),.string (⟨#[121,122]⟩ : ByteArray)] (rs := ([(⟨#[]⟩ : ByteArray),(⟨#[120]⟩ : ByteArray),(⟨#[121,122]⟩ : ByteArray)] : List ByteArray).map cC) rfl rfl) ?_
 intro g312
 exact ah (eW [1,2,3,4,5,0] <| kF 2 0 [2,3,28,29,30,32,33]) (by kernel_rfl) (hD8 (g162,g312))
 refine bD (α := Nat) (fun zz => (fun (g312 : Nat) => [(28,.v (.slice b1a b1m.held.length b1c)),(29,aP g),(32,aP g),(33,.v (.slice (some ⟨g312,0,none⟩) 3 3))]) zz) [2,3,28,29,32,33] (fun _ => []) (fun zz => (fun (g312 : Nat) => [a9 (av w B).heap.size 9 1 (.slice (some ⟨g312,0,none⟩) 3 3) (([(⟨#[]⟩ : ByteArray),(⟨#[120]⟩ : ByteArray),(⟨#[121,122]⟩ : ByteArray)] : List ByteArray).map cC)]) zz) 8 (bJ 13 103) ?_ (fun hD9 => ?_)
 intro g312
 dsimp only [List.cons_append,List.nil_append]
 refine kA [3] <| e5 3 rfl (a5 (ap rfl a8)) (aH (e := 3) (K := 1) (bytes := 8) [iI 0,iI 1,iI 20,iI 31,iI 32,iI (-1),iI 9223372036854775807] (rs := ([0,1,20,31,32,(-1),9223372036854775807] : List Int).map az) rfl rfl) ?_
 intro g162
 exact ah (eW [1,2,3,4,0,5] <| kF 2 0 [2,3,28,29,30,32,33]) (by kernel_rfl) (hD8 (g162,g312))
 refine cM (α := Unit) (fun zz => (fun (u_ : Unit) => [(28,.v (.slice b1a b1m.held.length b1c)),(29,aP g),(32,aP g)]) zz) [2,3,28,29,32] 9 (bJ 13 39) ?_ (fun hD0 => ?_)
 intro u_
 try dsimp only
 refine kA [3,6] ⟨?_,?_⟩
 refine e5 3 rfl (a5 (ap rfl a8)) (aH (e := 3) (K := 1) (bytes := 8) [iI 0,iI 1,iI 20,iI 31,iI 32,iI (-1),iI 9223372036854775807] (rs := ([0,1,20,31,32,(-1),9223372036854775807] : List Int).map az) rfl rfl) ?_
 intro g162
 exact ah (eW [1,2,3,4,0] <| kF 2 0 [2,3,28,29,30,32]) (by kernel_rfl) (hD1 (g162))
 refine e5 6 rfl (a5 (ap rfl a8)) (aH (e := 9) (K := 1) (bytes := 16) [.string (⟨#[]⟩ : ByteArray),.string (⟨#[120]⟩ : ByteArray),.string (⟨#[121,122]⟩ : ByteArray)] (rs := ([(⟨#[]⟩ : ByteArray),(⟨#[120]⟩ : ByteArray),(⟨#[121,122]⟩ : ByteArray)] : List ByteArray).map cC) rfl rfl) ?_
 intro g312
 exact ah (eW [1,2,3,4,0] <| kF 2 0 [2,3,28,29,32,33]) (by kernel_rfl) (hD9 (g312))
 refine bD (α := {zz : Nat × Int × Nat × ByteArray // (fun (g162 : Nat) (y213 : Int) (g312 : Nat) (y363 : ByteArray) => y363 ∈ ([(⟨#[]⟩ : ByteArray),(⟨#[120]⟩ : ByteArray),(⟨#[121,122]⟩ : ByteArray)] : List ByteArray)) zz.1 zz.2.1 zz.2.2.1 zz.2.2.2}) (fun zz => (fun (g162 : Nat) (y213 : Int) (g312 : Nat) (y363 : ByteArray) => [(28,.v (.slice b1a b1m.held.length b1c)),(35,.v (.agg (pceL (⟨y213,y363⟩ : Pce)).toArray))]) zz.1.1 zz.1.2.1 zz.1.2.2.1 zz.1.2.2.2) [2,3,28,35] (fun _ => []) (fun zz => (fun (g162 : Nat) (y213 : Int) (g312 : Nat) (y363 : ByteArray) => [a9 (av w B).heap.size 3 1 (.slice (some ⟨g162,0,none⟩) 7 7) (([0,1,20,31,32,(-1),9223372036854775807] : List Int).map az),a9 (av w B).heap.size 9 1 (.slice (some ⟨g312,0,none⟩) 3 3) (([(⟨#[]⟩ : ByteArray),(⟨#[120]⟩ : ByteArray),(⟨#[121,122]⟩ : ByteArray)] : List ByteArray).map cC)]) zz.1.1 zz.1.2.1 zz.1.2.2.1 zz.1.2.2.2) 4 (bJ 13 511) ?_ (fun hD14 => ?_)
 rintro ⟨⟨g162,y213,g312,y363⟩,hy363⟩
 dsimp only [List.cons_append,List.nil_append]
 try dsimp only at hy363
 refine kA [9] <| e5 9 rfl (a5 (ap rfl a8)) (aH (e := 89) (K := 2) (bytes := 24) [.agg (pceL (⟨y213,y363⟩ : Pce)).toArray] (rs := ([⟨y213,y363⟩] : List Pce).map pC) rfl rfl) ?_
 intro g462
 exact ah (eW [1,2,3,4,5,0,6] <| kF 2 0 [2,3,28,36]) (by kernel_rfl) (hD5 ⟨(g162,y213,g312,y363,g462),hy363⟩)
 refine bD (α := {zz : Nat × Int × Nat × ByteArray × Nat // (fun (g162 : Nat) (y213 : Int) (g312 : Nat) (y363 : ByteArray) (g462 : Nat) => y363 ∈ ([(⟨#[]⟩ : ByteArray),(⟨#[120]⟩ : ByteArray),(⟨#[121,122]⟩ : ByteArray)] : List ByteArray)) zz.1 zz.2.1 zz.2.2.1 zz.2.2.2.1 zz.2.2.2.2}) (fun zz => (fun (g162 : Nat) (y213 : Int) (g312 : Nat) (y363 : ByteArray) (g462 : Nat) => [(27,.p 1 2),(36,.v (.slice (some ⟨g462,0,none⟩) 1 1))]) zz.1.1 zz.1.2.1 zz.1.2.2.1 zz.1.2.2.2.1 zz.1.2.2.2.2) [2,3,27,36] (fun _ => []) (fun zz => (fun (g162 : Nat) (y213 : Int) (g312 : Nat) (y363 : ByteArray) (g462 : Nat) => [a9 (av w B).heap.size 3 1 (.slice (some ⟨g162,0,none⟩) 7 7) (([0,1,20,31,32,(-1),9223372036854775807] : List Int).map az),a9 (av w B).heap.size 89 2 (.slice (some ⟨g462,0,none⟩) 1 1) (([⟨y213,y363⟩] : List Pce).map pC),a9 (av w B).heap.size 9 1 (.slice (some ⟨g312,0,none⟩) 3 3) (([(⟨#[]⟩ : ByteArray),(⟨#[120]⟩ : ByteArray),(⟨#[121,122]⟩ : ByteArray)] : List ByteArray).map cC)]) zz.1.1 zz.1.2.1 zz.1.2.2.1 zz.1.2.2.2.1 zz.1.2.2.2.2) 4 (bJ 13 1021) ?_ (fun hD15 => ?_)
 rintro ⟨⟨g162,y213,g312,y363,g462⟩,hy363⟩
 dsimp only [List.cons_append,List.nil_append]
 try dsimp only at hy363
 refine kA [1] <| ev 1 (.v (.slice b1a b1m.held.length b1c)) rfl ?_
 exact ah (kF 2 0 [2,3,28,36]) (by kernel_rfl) (hD5 ⟨(g162,y213,g312,y363,g462),hy363⟩)
 refine bD (α := {zz : Nat × Int × Nat × ByteArray // (fun (g162 : Nat) (y213 : Int) (g312 : Nat) (y363 : ByteArray) => y363 ∈ ([(⟨#[]⟩ : ByteArray),(⟨#[120]⟩ : ByteArray),(⟨#[121,122]⟩ : ByteArray)] : List ByteArray)) zz.1 zz.2.1 zz.2.2.1 zz.2.2.2}) (fun zz => (fun (g162 : Nat) (y213 : Int) (g312 : Nat) (y363 : ByteArray) => [(27,.p 1 2),(31,aI y213),(34,.v (.string y363))]) zz.1.1 zz.1.2.1 zz.1.2.2.1 zz.1.2.2.2) [2,3,27,31,34] (fun _ => []) (fun zz => (fun (g162 : Nat) (y213 : Int) (g312 : Nat) (y363 : ByteArray) => [a9 (av w B).heap.size 3 1 (.slice (some ⟨g162,0,none⟩) 7 7) (([0,1,20,31,32,(-1),9223372036854775807] : List Int).map az),a9 (av w B).heap.size 9 1 (.slice (some ⟨g312,0,none⟩) 3 3) (([(⟨#[]⟩ : ByteArray),(⟨#[120]⟩ : ByteArray),(⟨#[121,122]⟩ : ByteArray)] : List ByteArray).map cC)]) zz.1.1 zz.1.2.1 zz.1.2.2.1 zz.1.2.2.2) 6 (bJ 13 253) ?_ (fun hD13 => ?_)
 rintro ⟨⟨g162,y213,g312,y363⟩,hy363⟩
 dsimp only [List.cons_append,List.nil_append]
 try dsimp only at hy363
 refine kX 8 (.agg (pceL (⟨y213,y363⟩ : Pce)).toArray) rfl (fun _ _ ww hA => bn [(0,iI y213),(1,.string y363)] hA rfl (by kernel_rfl) (by kernel_rfl) ww) ?_
 refine kA [1,9] ⟨?_,?_⟩
 refine ev 1 (.v (.slice b1a b1m.held.length b1c)) rfl ?_
 exact ah (kF 2 0 [2,3,28,35]) (by kernel_rfl) (hD14 ⟨(g162,y213,g312,y363),hy363⟩)
 refine e5 9 rfl (a5 (ap rfl a8)) (aH (e := 89) (K := 2) (bytes := 24) [.agg (pceL (⟨y213,y363⟩ : Pce)).toArray] (rs := ([⟨y213,y363⟩] : List Pce).map pC) rfl rfl) ?_
 intro g462
 exact ah (eW [1,2,3,4,5,0,6] <| kF 2 0 [2,3,27,36]) (by kernel_rfl) (hD15 ⟨(g162,y213,g312,y363,g462),hy363⟩)
 refine bD (α := Nat × Int × Nat) (fun zz => (fun (g162 : Nat) (y213 : Int) (g312 : Nat) => [(27,.p 1 2),(31,aI y213),(32,aP g),(33,.v (.slice (some ⟨g312,0,none⟩) 3 3))]) zz.1 zz.2.1 zz.2.2) [2,3,27,31,32,33] (fun _ => []) (fun zz => (fun (g162 : Nat) (y213 : Int) (g312 : Nat) => [a9 (av w B).heap.size 3 1 (.slice (some ⟨g162,0,none⟩) 7 7) (([0,1,20,31,32,(-1),9223372036854775807] : List Int).map az),a9 (av w B).heap.size 9 1 (.slice (some ⟨g312,0,none⟩) 3 3) (([(⟨#[]⟩ : ByteArray),(⟨#[120]⟩ : ByteArray),(⟨#[121,122]⟩ : ByteArray)] : List ByteArray).map cC)]) zz.1 zz.2.1 zz.2.2) 7 (bJ 13 125) ?_ (fun hD12 => ?_)
 rintro ⟨g162,y213,g312⟩
 dsimp only [List.cons_append,List.nil_append]
 refine kA [1,7] ⟨?_,?_⟩
 refine ev 1 (.v (.slice b1a b1m.held.length b1c)) rfl ?_
 exact ah (kF 2 0 [2,3,28,31,32,33]) (by kernel_rfl) (hD3 (g162,y213,g312))
 refine gi (φ := ¬ (aJ (.slice (some ⟨g312,0,none⟩) 3 3) 1 (([(⟨#[]⟩ : ByteArray),(⟨#[120]⟩ : ByteArray),(⟨#[121,122]⟩ : ByteArray)] : List ByteArray).map cC)).blk g) (fun _ _ _ _ hr => fun hb => hr.2.apart 5 0 (a9 (av w B).heap.size 9 1 (.slice (some ⟨g312,0,none⟩) 3 3) (([(⟨#[]⟩ : ByteArray),(⟨#[120]⟩ : ByteArray),(⟨#[121,122]⟩ : ByteArray)] : List ByteArray).map cC)) (cF B g A J cap) rfl rfl (by decide) rfl g (bG hb) rfl) (fun hk362 => ?_)
 refine fw 7 87 [gP g,.slice (some ⟨g312,0,none⟩) 3 3] (some 34) 0 rfl rfl hlo (a5 (ap rfl a8)) (l1Pick_c_K hBw hap (fun ww hw hf => (ax (hf _ m5))) hk362 (by simp)) ?_
 rintro ⟨y363,hy363⟩
 exact ah (kF 2 0 [2,3,27,31,34]) (by kernel_rfl) (hD13 ⟨(g162,y213,g312,y363),hy363⟩)
 refine bD (α := Nat × Int) (fun zz => (fun (g162 : Nat) (y213 : Int) => [(27,.p 1 2),(31,aI y213),(32,aP g)]) zz.1 zz.2) [2,3,27,31,32] (fun _ => []) (fun zz => (fun (g162 : Nat) (y213 : Int) => [a9 (av w B).heap.size 3 1 (.slice (some ⟨g162,0,none⟩) 7 7) (([0,1,20,31,32,(-1),9223372036854775807] : List Int).map az)]) zz.1 zz.2) 8 (bJ 13 61) ?_ (fun hD11 => ?_)
 rintro ⟨g162,y213⟩
 dsimp only [List.cons_append,List.nil_append]
 refine kA [1,6] ⟨?_,?_⟩
 refine ev 1 (.v (.slice b1a b1m.held.length b1c)) rfl ?_
 exact ah (kF 2 0 [2,3,28,31,32]) (by kernel_rfl) (hD2 (g162,y213))
 refine e5 6 rfl (a5 (ap rfl a8)) (aH (e := 9) (K := 1) (bytes := 16) [.string (⟨#[]⟩ : ByteArray),.string (⟨#[120]⟩ : ByteArray),.string (⟨#[121,122]⟩ : ByteArray)] (rs := ([(⟨#[]⟩ : ByteArray),(⟨#[120]⟩ : ByteArray),(⟨#[121,122]⟩ : ByteArray)] : List ByteArray).map cC) rfl rfl) ?_
 intro g312
 exact ah (eW [1,2,3,4,5,0] <| kF 2 0 [2,3,27,31,32,33]) (by kernel_rfl) (hD12 (g162,y213,g312))
 refine bD (α := Nat × Nat) (fun zz => (fun (g162 : Nat) (g312 : Nat) => [(27,.p 1 2),(29,aP g),(30,.v (.slice (some ⟨g162,0,none⟩) 7 7)),(32,aP g),(33,.v (.slice (some ⟨g312,0,none⟩) 3 3))]) zz.1 zz.2) [2,3,27,29,30,32,33] (fun _ => []) (fun zz => (fun (g162 : Nat) (g312 : Nat) => [a9 (av w B).heap.size 3 1 (.slice (some ⟨g162,0,none⟩) 7 7) (([0,1,20,31,32,(-1),9223372036854775807] : List Int).map az),a9 (av w B).heap.size 9 1 (.slice (some ⟨g312,0,none⟩) 3 3) (([(⟨#[]⟩ : ByteArray),(⟨#[120]⟩ : ByteArray),(⟨#[121,122]⟩ : ByteArray)] : List ByteArray).map cC)]) zz.1 zz.2) 8 (bJ 13 109) ?_ (fun hD16 => ?_)
 rintro ⟨g162,g312⟩
 dsimp only [List.cons_append,List.nil_append]
 refine kA [1,4] ⟨?_,?_⟩
 refine ev 1 (.v (.slice b1a b1m.held.length b1c)) rfl ?_
 exact ah (kF 2 0 [2,3,28,29,30,32,33]) (by kernel_rfl) (hD8 (g162,g312))
 refine gi (φ := ¬ (aJ (.slice (some ⟨g162,0,none⟩) 7 7) 1 (([0,1,20,31,32,(-1),9223372036854775807] : List Int).map az)).blk g) (fun _ _ _ _ hr => fun hb => hr.2.apart 4 0 (a9 (av w B).heap.size 3 1 (.slice (some ⟨g162,0,none⟩) 7 7) (([0,1,20,31,32,(-1),9223372036854775807] : List Int).map az)) (cF B g A J cap) rfl rfl (by decide) rfl g (bG hb) rfl) (fun hk212 => ?_)
 refine fw 4 48 [gP g,.slice (some ⟨g162,0,none⟩) 7 7] (some 31) 0 rfl rfl hlo (a5 (ap rfl a8)) (bw hBw hap (fun ww hw hf => (ax (hf _ m4))) hk212 (by simp)) ?_
 rintro ⟨y213,hy213⟩
 exact ah (kF 2 0 [2,3,27,31,32,33]) (by kernel_rfl) (hD12 (g162,y213,g312))
 refine bD (α := Nat) (fun zz => (fun (g162 : Nat) => [(27,.p 1 2),(29,aP g),(30,.v (.slice (some ⟨g162,0,none⟩) 7 7)),(32,aP g)]) zz) [2,3,27,29,30,32] (fun _ => []) (fun zz => (fun (g162 : Nat) => [a9 (av w B).heap.size 3 1 (.slice (some ⟨g162,0,none⟩) 7 7) (([0,1,20,31,32,(-1),9223372036854775807] : List Int).map az)]) zz) 9 (bJ 13 45) ?_ (fun hD10 => ?_)
 intro g162
 dsimp only [List.cons_append,List.nil_append]
 refine kA [1,4,6] ⟨?_,?_,?_⟩
 refine ev 1 (.v (.slice b1a b1m.held.length b1c)) rfl ?_
 exact ah (kF 2 0 [2,3,28,29,30,32]) (by kernel_rfl) (hD1 (g162))
 refine gi (φ := ¬ (aJ (.slice (some ⟨g162,0,none⟩) 7 7) 1 (([0,1,20,31,32,(-1),9223372036854775807] : List Int).map az)).blk g) (fun _ _ _ _ hr => fun hb => hr.2.apart 4 0 (a9 (av w B).heap.size 3 1 (.slice (some ⟨g162,0,none⟩) 7 7) (([0,1,20,31,32,(-1),9223372036854775807] : List Int).map az)) (cF B g A J cap) rfl rfl (by decide) rfl g (bG hb) rfl) (fun hk212 => ?_)
 refine fw 4 48 [gP g,.slice (some ⟨g162,0,none⟩) 7 7] (some 31) 0 rfl rfl hlo (a5 (ap rfl a8)) (bw hBw hap (fun ww hw hf => (ax (hf _ m4))) hk212 (by simp)) ?_
 rintro ⟨y213,hy213⟩
 exact ah (kF 2 0 [2,3,27,31,32]) (by kernel_rfl) (hD11 (g162,y213))
 refine e5 6 rfl (a5 (ap rfl a8)) (aH (e := 9) (K := 1) (bytes := 16) [.string (⟨#[]⟩ : ByteArray),.string (⟨#[120]⟩ : ByteArray),.string (⟨#[121,122]⟩ : ByteArray)] (rs := ([(⟨#[]⟩ : ByteArray),(⟨#[120]⟩ : ByteArray),(⟨#[121,122]⟩ : ByteArray)] : List ByteArray).map cC) rfl rfl) ?_
 intro g312
 exact ah (eW [1,2,3,4,5,0] <| kF 2 0 [2,3,27,29,30,32,33]) (by kernel_rfl) (hD16 (g162,g312))
 refine bD (α := Nat) (fun zz => (fun (g312 : Nat) => [(27,.p 1 2),(29,aP g),(32,aP g),(33,.v (.slice (some ⟨g312,0,none⟩) 3 3))]) zz) [2,3,27,29,32,33] (fun _ => []) (fun zz => (fun (g312 : Nat) => [a9 (av w B).heap.size 9 1 (.slice (some ⟨g312,0,none⟩) 3 3) (([(⟨#[]⟩ : ByteArray),(⟨#[120]⟩ : ByteArray),(⟨#[121,122]⟩ : ByteArray)] : List ByteArray).map cC)]) zz) 9 (bJ 13 101) ?_ (fun hD17 => ?_)
 intro g312
 dsimp only [List.cons_append,List.nil_append]
 refine kA [1,3] ⟨?_,?_⟩
 refine ev 1 (.v (.slice b1a b1m.held.length b1c)) rfl ?_
 exact ah (kF 2 0 [2,3,28,29,32,33]) (by kernel_rfl) (hD9 (g312))
 refine e5 3 rfl (a5 (ap rfl a8)) (aH (e := 3) (K := 1) (bytes := 8) [iI 0,iI 1,iI 20,iI 31,iI 32,iI (-1),iI 9223372036854775807] (rs := ([0,1,20,31,32,(-1),9223372036854775807] : List Int).map az) rfl rfl) ?_
 intro g162
 exact ah (eW [1,2,3,4,0,5] <| kF 2 0 [2,3,27,29,30,32,33]) (by kernel_rfl) (hD16 (g162,g312))
 refine cJ [0,2,5] [32,29,27,2,3] 10 [(32,aP g),(29,aP g),(27,.p 1 2),(2,.p 0 0),(3,.p 1 0)] <| kA [1,3,6] ⟨?_,?_,?_⟩
 refine ev 1 (.v (.slice b1a b1m.held.length b1c)) rfl ?_
 exact ah (kF 2 0 [2,3,28,29,32]) (by kernel_rfl) (hD0 ())
 refine e5 3 rfl (a5 (ap rfl a8)) (aH (e := 3) (K := 1) (bytes := 8) [iI 0,iI 1,iI 20,iI 31,iI 32,iI (-1),iI 9223372036854775807] (rs := ([0,1,20,31,32,(-1),9223372036854775807] : List Int).map az) rfl rfl) ?_
 intro g162
 exact ah (eW [1,2,3,4,0] <| kF 2 0 [2,3,27,29,30,32]) (by kernel_rfl) (hD10 (g162))
 refine e5 6 rfl (a5 (ap rfl a8)) (aH (e := 9) (K := 1) (bytes := 16) [.string (⟨#[]⟩ : ByteArray),.string (⟨#[120]⟩ : ByteArray),.string (⟨#[121,122]⟩ : ByteArray)] (rs := ([(⟨#[]⟩ : ByteArray),(⟨#[120]⟩ : ByteArray),(⟨#[121,122]⟩ : ByteArray)] : List ByteArray).map cC) rfl rfl) ?_
 intro g312
 exact ah (eW [1,2,3,4,0] <| kF 2 0 [2,3,27,29,32,33]) (by kernel_rfl) (hD17 (g312))
 have h10p := cB h10
 refine kQ <| aW [0,2,3,39] [(39,aB (y2 == 4))] <| kC (y2 == 4) (fun h674 => ?_) (fun h674 => ?_)
 have h674p := cI h674
 refine kG <| dl 1 [2,3,41] [(41,aP g)] 46 [gP g,iI 3] (some 42) 0 rfl rfl hlo (ar hBw hap) ?_
 rintro ⟨y675,hy675⟩
 obtain ⟨hy6750,hy6751⟩ := hy675
 refine dN 1 [2,3,43] [(2,.p 0 0),(3,.p 1 0),(43,aI (K6.wrap (31 + y675)))] 85 [iI (K6.wrap (31 + y675))] (some 44) rfl (aA fun ww hf => l5Long_c (K6.wrap (31 + y675)) ww (by first | omega | (rw [al (by omega) (by omega)]; omega))) ?_
 intro _
 refine kRB 2 [2,3] [(2,.p 0 0),(3,.p 1 0)] [⟨37,eD⟩,⟨37,ag { b1m with data := af (List.replicate ((K6.wrap (31 + y675))).toNat 0) } (.slice b1a b1m.held.length b1c)⟩] <| xl_eq (st' := ⟨[(2,.p 0 0),(3,.p 1 0)],[⟨37,eD⟩,⟨37,ag { b1m with data := af (List.replicate ((31 + y675)).toNat 0) } (.slice b1a b1m.held.length b1c)⟩],[],[cF B g A J cap,a9 (av w B).heap.size 89 2 (.slice b1a b1m.held.length b1c) (b1m.held.map pC),sQ A J cap,bF w (fun b => b = g)]⟩) (by rw [show (K6.wrap (31 + y675)) = (31 + y675) from al (by omega) (by omega)] <;> rfl) ?_
 refine aW [2,3] [] ?_
 exact ⟨⟨({ b1m with data := af (List.replicate ((31 + y675)).toNat 0) },b1a,b1c),⟨Nat.le_trans hb1.1 (by decide),hb1.2.1,(by show (af _).size ≤ 65; rw [d4,List.length_replicate]; omega)⟩⟩,eW [1,0,2,3] <| kF 2 0 [2,3]⟩
 have h674p := cB h674
 refine kK ?_
 exact ⟨⟨(b1m,b1a,b1c),⟨Nat.le_trans hb1.1 (by decide),hb1.2.1,hb1.2.2⟩⟩,eW [1,0,2,3] <| kF 2 0 [2,3]⟩
 rintro ⟨⟨q,A3,c3⟩,hq⟩
 try dsimp only
 try dsimp only at hq
 refine kQ <| bC [2] [(2,.p 0 0)] 0 ⟨37,ag q (.slice A3 q.held.length c3)⟩ <| kR ?_
 exact ⟨[.agg (ag q (.slice A3 q.held.length c3)).toArray],by kernel_rfl,fun w' hb hf ha => ⟨⟨(q,A3,c3),hq⟩,rfl,hf (cF B g A J cap) (by simp),bi (hf (a9 (av w B).heap.size 89 2 (.slice A3 q.held.length c3) (q.held.map pC)) (by simp)) (br ha (i := 0) (j := 1) (k := 3) rfl rfl rfl rfl (by decide) (by decide)),hgl,am (hf (bF w (fun b => b = g)) (by simp)) hb rfl rfl rfl⟩⟩
theorem l17Sender_c (g : Nat) (J : List Int) (A : Option Addr) (cap : Nat)  (w : World) (B : Nat) (hB : B ≤ w.heap.size) (hc : (cF B g A J cap).p w) (hl : Sl w (sJ A J cap) 1 (J.map bR)) (hap : ¬ (sQ A J cap).blk g) (hn : J.length ≤ 1048576)  : Calls Tryz.prog 83 #[gP g] w fun e w' => ∃ y : {y : Snd // True}, e = .returned (.agg (ai y.1).toArray) ∧ (cF B g A J cap).p w' ∧ Chgd (fun b => b = g) w w' := by
 have hq_code := Sl.capLe hl
 have hBw : B ≤ (av w B).heap.size := Nat.le_of_eq (aM hB).symm
 have hlo : ∀ (ww : World) (b : Nat),(cF B g A J cap).p ww → (cF B g A J cap).blk b → (av w B).heap.size ≤ b := fun ww b h hb => Nat.le_trans (cf w B) (d3 h hb)
 refine cQ (args := [gP g]) (fn := Tryz.f83) [cF B g A J cap,sQ A J cap,bF w (fun b => b = g)] B Tryz.func83 rfl Tryz.ntmps83 rfl hB (by simp only [List.mem_cons,List.not_mem_nil,or_false,forall_eq_or_imp,forall_eq]; exact ⟨hc,hl,bT w _⟩) (c5 hap rfl) ?_
 refine kQ <| cm [0,2] ⟨[(0,aP g),(2,.p 0 0)],[⟨34,sndZ⟩],[],[cF B g A J cap,sQ A J cap,bF w (fun b => b = g)]⟩ <| kQ <| dl 1 [0,2,8] [(8,aP g)] 74 [gP g] (some 9) 0 rfl rfl hlo (dz hBw hap) ?_
 rintro ⟨y1,hy1⟩
 refine gc 0 [0,2,9] [] (.agg #[iI y1,.string (⟨#[]⟩ : ByteArray),iI 0,.bool false,.bool false,.bool false]) rfl (fun _ _ _ ww hr => bn [(0,iI y1)] hr.1 rfl (by kernel_rfl) (by kernel_rfl) ww) ?_
 refine gk [0,2,3] [(3,.p 1 0)] [⟨34,[iI y1,.string (⟨#[]⟩ : ByteArray),iI 0,.bool false,.bool false,.bool false]⟩] <| kQ <| dl 1 [0,2,3,11] [(11,aP g)] 46 [gP g,iI 6] (some 12) 0 rfl rfl hlo (ar hBw hap) ?_
 rintro ⟨y2,hy2⟩
 obtain ⟨hy20,hy21⟩ := hy2
 refine aW [0,2,3,4] [(4,aI y2)] <| kS <| kQ <| aW [0,2,3,4,5] [(5,aI 0)] ?_
 refine ao <| bc (α := {x : Nat × Snd // (fun (i : Nat) (s : Snd) => (i : Int) ≤ y2) x.1 x.2}) (fun x => (fun (i : Nat) (s : Snd) => (⟨[(0,aP g),(2,.p 0 0),(3,.p 1 0),(4,aI y2),(5,aI (i : Int))],[⟨34,sndZ⟩,⟨34,ai s⟩],[],[cF B g A J cap,sQ A J cap,bF w (fun b => b = g)]⟩ : St)) x.1.1 x.1.2) (fun x => (fun (i : Nat) (s : Snd) => (y2).toNat - i) x.1.1 x.1.2) ⟨(0,⟨y1,(⟨#[]⟩ : ByteArray),0,false,false,false⟩),(by omega)⟩ (kF 2 0 [0,2,3,4,5]) ?_
 rintro ⟨⟨i,s⟩,hi⟩
 try dsimp only
 try dsimp only at hi
 refine kS <| kQ <| aW [0,2,3,4,5,15] [(15,aB (decide ((i : Int) < y2)))] <| kC (decide ((i : Int) < y2)) (fun h3 => ?_) (fun h3 => ?_)
 have h3p := of_decide_eq_true h3
 have hlt :  (i : Int) < y2 := of_decide_eq_true h3
 refine kK <| kS <| dZ (α := {zz : Snd // (fun (s2 : Snd) => True) zz}) (fun zz => (fun (s2 : Snd) => (⟨[(0,aP g),(2,.p 0 0),(3,.p 1 0),(4,aI y2),(5,aI (i : Int))],[⟨34,sndZ⟩,⟨34,ai s2⟩],[],[cF B g A J cap,sQ A J cap,bF w (fun b => b = g)]⟩ : St)) zz.1) ?_ ?_
 refine ao <| kQ <| dl 1 [0,2,3,4,5,18] [(18,aP g)] 46 [gP g,iI 4] (some 19) 0 rfl rfl hlo (ar hBw hap) ?_
 rintro ⟨y4,hy4⟩
 obtain ⟨hy40,hy41⟩ := hy4
 refine aW [0,2,3,4,5,19] [] <| ao <| kQ <| aW [0,2,3,4,5,19,27] [(27,aB (y4 == 0))] ?_
 refine kC (y4 == 0) (fun h5 => ?_) (fun h5 => ?_)
 have h5p := cI h5
 refine bo [true,false] (by kernel_rfl) (fun ρ σ => ?_)
 refine cJ [1,2] [32,31,0,2,3,4,5] 9 [(32,aP g),(31,aP g),(0,aP g),(2,.p 0 0),(3,.p 1 0),(4,aI y2),(5,aI (i : Int))] <| kA [0,3] ⟨?_,?_⟩
 refine ev 0 (.v (.agg (ai s).toArray)) rfl <| kA [3] <| fw 3 46 [gP g,iI 20] (some 33) 0 rfl rfl hlo (a5 (ap rfl a8)) (ar hBw hap) ?_
 rintro ⟨y6,hy6⟩
 obtain ⟨hy60,hy61⟩ := hy6
 refine kA [4] <| fw 4 77 [gP g,iI y6] (some 34) 0 rfl rfl hlo (a5 (ap rfl a8)) (eC fun ww hw hf => fy g J A cap y6 ww B (Nat.le_trans (by first | exact Nat.le_refl _ | exact Nat.le_of_eq (aM hB).symm) hw) (hf (cF B g A J cap) (by simp)) (hf _ m1) hap (by omega) (by omega)) ?_
 rintro ⟨⟨b7l,b7a,b7c⟩,hb7⟩
 dsimp only at hb7
 refine kA [5] <| kSR 5 (.string (af b7l)) rfl (fun _ _ ww hr => dv (e := 5) b7l hr.1 rfl (by kernel_rfl) (by kernel_rfl) (by kernel_rfl) rfl (ax (hr.2.fact (a9 (av w B).heap.size 5 1 (.slice b7a b7l.length b7c) (b7l.map bR)) (by simp)).1)) ?_
 refine kA [6] <| du 6 98 [.agg (ai s).toArray,.string (af b7l)] (some 36) rfl (aA fun ww hf => fA s (af b7l) ww  (by first | omega | (rw [d4]; omega))) ?_
 intro _
 refine d9 [7,8,9] [37,0,2,3,4,5] 1 [(37,.v (.agg (ai (aC s (af b7l)).1).toArray))] <| kA [10] <| dg 10 1 0 (ai (aC s (af b7l)).1) rfl <| kZ ?_
 exact ⟨⟨((aC s (af b7l)).1),⟨⟩⟩,eW [1,2,3] <| kF 2 0 [0,2,3,4,5]⟩
 refine fw 3 46 [gP g,iI 20] (some 33) 0 rfl rfl hlo (a5 (ap rfl a8)) (ar hBw hap) ?_
 rintro ⟨y8,hy8⟩
 obtain ⟨hy80,hy81⟩ := hy8
 refine kA [0,4] ⟨?_,?_⟩
 refine ev 0 (.v (.agg (ai s).toArray)) rfl <| kA [4] <| fw 4 77 [gP g,iI y8] (some 34) 0 rfl rfl hlo (a5 (ap rfl a8)) (eC fun ww hw hf => fy g J A cap y8 ww B (Nat.le_trans (by first | exact Nat.le_refl _ | exact Nat.le_of_eq (aM hB).symm) hw) (hf (cF B g A J cap) (by simp)) (hf _ m1) hap (by omega) (by omega)) ?_
 rintro ⟨⟨b9l,b9a,b9c⟩,hb9⟩
 dsimp only at hb9
 refine kA [5] <| kSR 5 (.string (af b9l)) rfl (fun _ _ ww hr => dv (e := 5) b9l hr.1 rfl (by kernel_rfl) (by kernel_rfl) (by kernel_rfl) rfl (ax (hr.2.fact (a9 (av w B).heap.size 5 1 (.slice b9a b9l.length b9c) (b9l.map bR)) (by simp)).1)) ?_
 refine kA [6] <| du 6 98 [.agg (ai s).toArray,.string (af b9l)] (some 36) rfl (aA fun ww hf => fA s (af b9l) ww  (by first | omega | (rw [d4]; omega))) ?_
 intro _
 refine d9 [7,8,9] [37,0,2,3,4,5] 1 [(37,.v (.agg (ai (aC s (af b9l)).1).toArray))] <| kA [10] <| dg 10 1 0 (ai (aC s (af b9l)).1) rfl <| kZ ?_
 exact ⟨⟨((aC s (af b9l)).1),⟨⟩⟩,eW [1,2,3] <| kF 2 0 [0,2,3,4,5]⟩
 refine fw 4 77 [gP g,iI y8] (some 34) 0 rfl rfl hlo (a5 (ap rfl a8)) (eC fun ww hw hf => fy g J A cap y8 ww B (Nat.le_trans (by first | exact Nat.le_refl _ | exact Nat.le_of_eq (aM hB).symm) hw) (hf (cF B g A J cap) (by simp)) (hf _ m1) hap (by omega) (by omega)) ?_
 rintro ⟨⟨b10l,b10a,b10c⟩,hb10⟩
 dsimp only at hb10
 refine kA [0,5] ⟨?_,?_⟩
 refine ev 0 (.v (.agg (ai s).toArray)) rfl <| kA [5] <| kSR 5 (.string (af b10l)) rfl (fun _ _ ww hr => dv (e := 5) b10l hr.1 rfl (by kernel_rfl) (by kernel_rfl) (by kernel_rfl) rfl (ax (hr.2.fact (a9 (av w B).heap.size 5 1 (.slice b10a b10l.length b10c) (b10l.map bR)) (by simp)).1)) ?_
 refine kA [6] <| du 6 98 [.agg (ai s).toArray,.string (af b10l)] (some 36) rfl (aA fun ww hf => fA s (af b10l) ww  (by first | omega | (rw [d4]; omega))) ?_
 intro _
 refine d9 [7,8,9] [37,0,2,3,4,5] 1 [(37,.v (.agg (ai (aC s (af b10l)).1).toArray))] <| kA [10] <| dg 10 1 0 (ai (aC s (af b10l)).1) rfl <| kZ ?_
 exact ⟨⟨((aC s (af b10l)).1),⟨⟩⟩,eW [1,2,3] <| kF 2 0 [0,2,3,4,5]⟩
 refine kSR 5 (.string (af b10l)) rfl (fun _ _ ww hr => dv (e := 5) b10l hr.1 rfl (by kernel_rfl) (by kernel_rfl) (by kernel_rfl) rfl (ax (hr.2.fact (a9 (av w B).heap.size 5 1 (.slice b10a b10l.length b10c) (b10l.map bR)) (by simp)).1)) ?_
 refine kA [0] <| ev 0 (.v (.agg (ai s).toArray)) rfl <| kA [6] <| du 6 98 [.agg (ai s).toArray,.string (af b10l)] (some 36) rfl (aA fun ww hf => fA s (af b10l) ww  (by first | omega | (rw [d4]; omega))) ?_
 intro _
 refine d9 [7,8,9] [37,0,2,3,4,5] 1 [(37,.v (.agg (ai (aC s (af b10l)).1).toArray))] <| kA [10] <| dg 10 1 0 (ai (aC s (af b10l)).1) rfl <| kZ ?_
 exact ⟨⟨((aC s (af b10l)).1),⟨⟩⟩,eW [1,2,3] <| kF 2 0 [0,2,3,4,5]⟩
 have h5p := cB h5
 refine kQ <| aT [0,2,3,4,5,19,39] [(0,aP g),(2,.p 0 0),(3,.p 1 0),(4,aI y2),(5,aI (i : Int)),(19,aI y4),(39,aB (y4 == 1))] <| kC (y4 == 1) (fun h11 => ?_) (fun h11 => ?_)
 have h11p := cI h11
 refine kS <| bo [] (by kernel_rfl) (fun ρ σ => ?_)
 refine d9 [0,1,4] [46,43,42,0,2,3,4,5] 11 [(46,aP g),(43,aP g),(42,.v (.agg (ai s).toArray))] <| kA [2,11] ⟨?_,?_⟩
 refine fw 2 46 [gP g,iI 40] (some 44) 0 rfl rfl hlo (a5 (a5 a8)) (ar hBw hap) ?_
 rintro ⟨y12,hy12⟩
 obtain ⟨hy120,hy121⟩ := hy12
 refine d9 [3] [45,46,42,0,2,3,4,5] 9 [(45,aI (K6.wrap (1 + y12)))] <| kA [5,11] ⟨?_,?_⟩
 refine fw 5 46 [gP g,iI 16] (some 47) 0 rfl rfl hlo (a5 (a5 a8)) (ar hBw hap) ?_
 rintro ⟨y13,hy13⟩
 obtain ⟨hy130,hy131⟩ := hy13
 refine d9 [6] [48,45,42,0,2,3,4,5] 7 [(48,aI (K6.wrap (1 + y13)))] <| kA [7,11] ⟨?_,?_⟩
 refine du 7 113 [.agg (ai s).toArray,iI (K6.wrap (1 + y12)),iI (K6.wrap (1 + y13))] (some 49) rfl (aA fun ww hf => dJ s (K6.wrap (1 + y12)) (K6.wrap (1 + y13)) ww  (by first | omega | (rw [al (by omega) (by omega)]; omega))) ?_
 intro _
 refine d9 [8,9,10] [51,50,0,2,3,4,5] 3 [(51,aB ((nC s (K6.wrap (1 + y12)) (K6.wrap (1 + y13))).2)),(50,.v (.agg (cq (nC s (K6.wrap (1 + y12)) (K6.wrap (1 + y13))).1).toArray))] <| kA [11] <| da 11 ⟨134,cq (⟨0,(⟨#[]⟩ : ByteArray),false⟩ : Chk)⟩ _ rfl (by kernel_rfl) (by kernel_rfl) (by kernel_rfl) (by kernel_rfl) rfl ?_
 refine kA [12] <| dg 12 2 0 (cq (nC s (K6.wrap (1 + y12)) (K6.wrap (1 + y13))).1) rfl <| d9 [13] [7,6,0,2,3,4,5] 0 [(7,aB ((nC s (K6.wrap (1 + y12)) (K6.wrap (1 + y13))).2))] <| kZ <| kQ <| aW [0,2,3,4,5,6,52] [(52,aB ((nC s (K6.wrap (1 + y12)) (K6.wrap (1 + y13))).2))] ?_
 refine kC ((nC s (K6.wrap (1 + y12)) (K6.wrap (1 + y13))).2) (fun h14 => ?_) (fun h14 => ?_)
 refine kG <| dR 2 [0,2,3,4,5,53,54] [(53,.v (.agg (ai s).toArray)),(54,.v (.agg (cq (nC s (K6.wrap (1 + y12)) (K6.wrap (1 + y13))).1).toArray))] 114 [.agg (ai s).toArray,.agg (cq (nC s (K6.wrap (1 + y12)) (K6.wrap (1 + y13))).1).toArray] (some 55) rfl (aA fun ww hf => fY s ((nC s (K6.wrap (1 + y12)) (K6.wrap (1 + y13))).1) ww  ) ?_
 intro _
 refine bC [0,2,3,4,5] [] 1 ⟨34,ai (sO s ((nC s (K6.wrap (1 + y12)) (K6.wrap (1 + y13))).1))⟩ ?_
 exact ⟨⟨((sO s ((nC s (K6.wrap (1 + y12)) (K6.wrap (1 + y13))).1))),⟨⟩⟩,kF 2 0 [0,2,3,4,5]⟩
 refine kK ?_
 exact ⟨⟨(s),⟨⟩⟩,kF 2 0 [0,2,3,4,5]⟩
 refine da 11 ⟨134,cq (⟨0,(⟨#[]⟩ : ByteArray),false⟩ : Chk)⟩ _ rfl (by kernel_rfl) (by kernel_rfl) (by kernel_rfl) (by kernel_rfl) rfl ?_
 refine kA [7] <| du 7 113 [.agg (ai s).toArray,iI (K6.wrap (1 + y12)),iI (K6.wrap (1 + y13))] (some 49) rfl (aA fun ww hf => dJ s (K6.wrap (1 + y12)) (K6.wrap (1 + y13)) ww  (by first | omega | (rw [al (by omega) (by omega)]; omega))) ?_
 intro _
 refine d9 [8,9,10] [51,50,6,0,2,3,4,5] 2 [(51,aB ((nC s (K6.wrap (1 + y12)) (K6.wrap (1 + y13))).2)),(50,.v (.agg (cq (nC s (K6.wrap (1 + y12)) (K6.wrap (1 + y13))).1).toArray))] <| kA [12] <| dg 12 2 0 (cq (nC s (K6.wrap (1 + y12)) (K6.wrap (1 + y13))).1) rfl <| d9 [13] [7,6,0,2,3,4,5] 0 [(7,aB ((nC s (K6.wrap (1 + y12)) (K6.wrap (1 + y13))).2))] ?_
 refine kZ <| kQ <| aW [0,2,3,4,5,6,52] [(52,aB ((nC s (K6.wrap (1 + y12)) (K6.wrap (1 + y13))).2))] <| kC ((nC s (K6.wrap (1 + y12)) (K6.wrap (1 + y13))).2) (fun h15 => ?_) (fun h15 => ?_)
 refine kG <| dR 2 [0,2,3,4,5,53,54] [(53,.v (.agg (ai s).toArray)),(54,.v (.agg (cq (nC s (K6.wrap (1 + y12)) (K6.wrap (1 + y13))).1).toArray))] 114 [.agg (ai s).toArray,.agg (cq (nC s (K6.wrap (1 + y12)) (K6.wrap (1 + y13))).1).toArray] (some 55) rfl (aA fun ww hf => fY s ((nC s (K6.wrap (1 + y12)) (K6.wrap (1 + y13))).1) ww  ) ?_
 intro _
 refine bC [0,2,3,4,5] [] 1 ⟨34,ai (sO s ((nC s (K6.wrap (1 + y12)) (K6.wrap (1 + y13))).1))⟩ ?_
 exact ⟨⟨((sO s ((nC s (K6.wrap (1 + y12)) (K6.wrap (1 + y13))).1))),⟨⟩⟩,kF 2 0 [0,2,3,4,5]⟩
 refine kK ?_
 exact ⟨⟨(s),⟨⟩⟩,kF 2 0 [0,2,3,4,5]⟩
 refine da 11 ⟨134,cq (⟨0,(⟨#[]⟩ : ByteArray),false⟩ : Chk)⟩ _ rfl (by kernel_rfl) (by kernel_rfl) (by kernel_rfl) (by kernel_rfl) rfl ?_
 refine kA [5] <| fw 5 46 [gP g,iI 16] (some 47) 0 rfl rfl hlo (a5 (a5 a8)) (ar hBw hap) ?_
 rintro ⟨y16,hy16⟩
 obtain ⟨hy160,hy161⟩ := hy16
 refine d9 [6] [48,6,45,42,0,2,3,4,5] 6 [(48,aI (K6.wrap (1 + y16)))] <| kA [7] <| du 7 113 [.agg (ai s).toArray,iI (K6.wrap (1 + y12)),iI (K6.wrap (1 + y16))] (some 49) rfl (aA fun ww hf => dJ s (K6.wrap (1 + y12)) (K6.wrap (1 + y16)) ww  (by first | omega | (rw [al (by omega) (by omega)]; omega))) ?_
 intro _
 refine d9 [8,9,10] [51,50,6,0,2,3,4,5] 2 [(51,aB ((nC s (K6.wrap (1 + y12)) (K6.wrap (1 + y16))).2)),(50,.v (.agg (cq (nC s (K6.wrap (1 + y12)) (K6.wrap (1 + y16))).1).toArray))] <| kA [12] <| dg 12 2 0 (cq (nC s (K6.wrap (1 + y12)) (K6.wrap (1 + y16))).1) rfl <| d9 [13] [7,6,0,2,3,4,5] 0 [(7,aB ((nC s (K6.wrap (1 + y12)) (K6.wrap (1 + y16))).2))] ?_
 refine kZ <| kQ <| aW [0,2,3,4,5,6,52] [(52,aB ((nC s (K6.wrap (1 + y12)) (K6.wrap (1 + y16))).2))] <| kC ((nC s (K6.wrap (1 + y12)) (K6.wrap (1 + y16))).2) (fun h17 => ?_) (fun h17 => ?_)
 refine kG <| dR 2 [0,2,3,4,5,53,54] [(53,.v (.agg (ai s).toArray)),(54,.v (.agg (cq (nC s (K6.wrap (1 + y12)) (K6.wrap (1 + y16))).1).toArray))] 114 [.agg (ai s).toArray,.agg (cq (nC s (K6.wrap (1 + y12)) (K6.wrap (1 + y16))).1).toArray] (some 55) rfl (aA fun ww hf => fY s ((nC s (K6.wrap (1 + y12)) (K6.wrap (1 + y16))).1) ww  ) ?_
 intro _
 refine bC [0,2,3,4,5] [] 1 ⟨34,ai (sO s ((nC s (K6.wrap (1 + y12)) (K6.wrap (1 + y16))).1))⟩ ?_
 exact ⟨⟨((sO s ((nC s (K6.wrap (1 + y12)) (K6.wrap (1 + y16))).1))),⟨⟩⟩,kF 2 0 [0,2,3,4,5]⟩
 refine kK ?_
 exact ⟨⟨(s),⟨⟩⟩,kF 2 0 [0,2,3,4,5]⟩
 refine da 11 ⟨134,cq (⟨0,(⟨#[]⟩ : ByteArray),false⟩ : Chk)⟩ _ rfl (by kernel_rfl) (by kernel_rfl) (by kernel_rfl) (by kernel_rfl) rfl ?_
 refine kA [2] <| fw 2 46 [gP g,iI 40] (some 44) 0 rfl rfl hlo (a5 (a5 a8)) (ar hBw hap) ?_
 rintro ⟨y18,hy18⟩
 obtain ⟨hy180,hy181⟩ := hy18
 refine d9 [3] [45,6,46,42,0,2,3,4,5] 8 [(45,aI (K6.wrap (1 + y18)))] <| kA [5] <| fw 5 46 [gP g,iI 16] (some 47) 0 rfl rfl hlo (a5 (a5 a8)) (ar hBw hap) ?_
 rintro ⟨y19,hy19⟩
 obtain ⟨hy190,hy191⟩ := hy19
 refine d9 [6] [48,45,6,42,0,2,3,4,5] 6 [(48,aI (K6.wrap (1 + y19)))] <| kA [7] <| du 7 113 [.agg (ai s).toArray,iI (K6.wrap (1 + y18)),iI (K6.wrap (1 + y19))] (some 49) rfl (aA fun ww hf => dJ s (K6.wrap (1 + y18)) (K6.wrap (1 + y19)) ww  (by first | omega | (rw [al (by omega) (by omega)]; omega))) ?_
 intro _
 refine d9 [8,9,10] [51,50,6,0,2,3,4,5] 2 [(51,aB ((nC s (K6.wrap (1 + y18)) (K6.wrap (1 + y19))).2)),(50,.v (.agg (cq (nC s (K6.wrap (1 + y18)) (K6.wrap (1 + y19))).1).toArray))] <| kA [12] <| dg 12 2 0 (cq (nC s (K6.wrap (1 + y18)) (K6.wrap (1 + y19))).1) rfl <| d9 [13] [7,6,0,2,3,4,5] 0 [(7,aB ((nC s (K6.wrap (1 + y18)) (K6.wrap (1 + y19))).2))] ?_
 refine kZ <| kQ <| aW [0,2,3,4,5,6,52] [(52,aB ((nC s (K6.wrap (1 + y18)) (K6.wrap (1 + y19))).2))] <| kC ((nC s (K6.wrap (1 + y18)) (K6.wrap (1 + y19))).2) (fun h20 => ?_) (fun h20 => ?_)
 refine kG <| dR 2 [0,2,3,4,5,53,54] [(53,.v (.agg (ai s).toArray)),(54,.v (.agg (cq (nC s (K6.wrap (1 + y18)) (K6.wrap (1 + y19))).1).toArray))] 114 [.agg (ai s).toArray,.agg (cq (nC s (K6.wrap (1 + y18)) (K6.wrap (1 + y19))).1).toArray] (some 55) rfl (aA fun ww hf => fY s ((nC s (K6.wrap (1 + y18)) (K6.wrap (1 + y19))).1) ww  ) ?_
 intro _
 refine bC [0,2,3,4,5] [] 1 ⟨34,ai (sO s ((nC s (K6.wrap (1 + y18)) (K6.wrap (1 + y19))).1))⟩ ?_
 exact ⟨⟨((sO s ((nC s (K6.wrap (1 + y18)) (K6.wrap (1 + y19))).1))),⟨⟩⟩,kF 2 0 [0,2,3,4,5]⟩
 refine kK ?_
 exact ⟨⟨(s),⟨⟩⟩,kF 2 0 [0,2,3,4,5]⟩
 have h11p := cB h11
 refine kQ <| aW [0,2,3,4,5,56] [(56,aB (y4 == 2))] <| kC (y4 == 2) (fun h21 => ?_) (fun h21 => ?_)
 have h21p := cI h21
 refine bo [true,false] (by kernel_rfl) (fun ρ σ => ?_)
 refine xe_cut (α := {zz : Int // (fun (y373 : Int) => 0 ≤ y373 ∧ (0 < (K6.wrap ((ab s) + 1)) → y373 < (K6.wrap ((ab s) + 1)))) zz}) (fun zz => (fun (y373 : Int) => (⟨[(0,aP g),(2,.p 0 0),(3,.p 1 0),(4,aI y2),(5,aI (i : Int))],[⟨34,sndZ⟩,⟨34,ai (bu s (sA s.una y373)).1⟩],[],[cF B g A J cap,sQ A J cap,bF w (fun b => b = g)]⟩ : St)) zz.1) 0 (bJ 14 16383) ?_ (fun hD7 => ?_)
 rintro ⟨y373,hy373⟩
 try dsimp only
 try dsimp only at hy373
 obtain ⟨hy3730,hy3731⟩ := hy373
 refine kZ ?_
 exact ⟨⟨((bu s (sA s.una y373)).1),⟨⟩⟩,kF 2 0 [0,2,3,4,5]⟩
 refine cM (α := {zz : Int // (fun (y373 : Int) => 0 ≤ y373 ∧ (0 < (K6.wrap ((ab s) + 1)) → y373 < (K6.wrap ((ab s) + 1)))) zz}) (fun zz => (fun (y373 : Int) => [(68,.v (.tuple #[.agg (ai (bu s (sA s.una y373)).1).toArray,.bool ((bu s (sA s.una y373)).2)]))]) zz.1) [0,2,3,4,5,68] 4 (bJ 14 1023) ?_ (fun hD6 => ?_)
 rintro ⟨y373,hy373⟩
 try dsimp only
 try dsimp only at hy373
 obtain ⟨hy3730,hy3731⟩ := hy373
 refine d9 [10,11,12] [69,0,2,3,4,5] 1 [(69,.v (.agg (ai (bu s (sA s.una y373)).1).toArray))] <| kA [13] <| dg 13 1 0 (ai (bu s (sA s.una y373)).1) rfl ?_
 exact ah (kF 2 0 [0,2,3,4,5]) (by kernel_rfl) (hD7 ⟨(y373),⟨hy3730,hy3731⟩⟩)
 refine cM (α := {zz : Int // (fun (y373 : Int) => 0 ≤ y373 ∧ (0 < (K6.wrap ((ab s) + 1)) → y373 < (K6.wrap ((ab s) + 1)))) zz}) (fun zz => (fun (y373 : Int) => [(59,.v (.agg (ai s).toArray)),(67,aI (sA s.una y373))]) zz.1) [0,2,3,4,5,59,67] 5 (bJ 14 511) ?_ (fun hD5 => ?_)
 rintro ⟨y373,hy373⟩
 try dsimp only
 try dsimp only at hy373
 obtain ⟨hy3730,hy3731⟩ := hy373
 refine kA [9] <| du 9 115 [.agg (ai s).toArray,iI (sA s.una y373)] (some 68) rfl (aA fun ww hf => ysAcked_c s (sA s.una y373) ww  ) ?_
 intro _
 exact ah (kF 2 0 [0,2,3,4,5,68]) (by kernel_rfl) (hD6 ⟨(y373),⟨hy3730,hy3731⟩⟩)
 refine cM (α := {zz : Int // (fun (y373 : Int) => 0 ≤ y373 ∧ (0 < (K6.wrap ((ab s) + 1)) → y373 < (K6.wrap ((ab s) + 1)))) zz}) (fun zz => (fun (y373 : Int) => [(59,.v (.agg (ai s).toArray)),(61,aI s.una),(66,aI y373)]) zz.1) [0,2,3,4,5,59,61,66] 6 (bJ 14 255) ?_ (fun hD4 => ?_)
 rintro ⟨y373,hy373⟩
 try dsimp only
 try dsimp only at hy373
 obtain ⟨hy3730,hy3731⟩ := hy373
 refine kA [8] <| du 8 96 [iI s.una,iI y373] (some 67) rfl (c6 fun ww hf => bM s.una y373 ww ) ?_
 intro _
 exact ah (kF 2 0 [0,2,3,4,5,59,67]) (by kernel_rfl) (hD5 ⟨(y373),⟨hy3730,hy3731⟩⟩)
 refine cM (α := Unit) (fun zz => (fun (u_ : Unit) => [(59,.v (.agg (ai s).toArray)),(61,aI s.una),(62,aP g),(64,aI (ab s))]) zz) [0,2,3,4,5,59,61,62,64] 8 (bJ 14 63) ?_ (fun hD3 => ?_)
 intro u_
 try dsimp only
 refine d9 [6] [65,0,2,3,4,5,59,61,62] 7 [(65,aI (K6.wrap ((ab s) + 1)))] <| kA [7] <| fw 7 46 [gP g,iI (K6.wrap ((ab s) + 1))] (some 66) 0 rfl rfl hlo (a5 (ap rfl a8)) (ar hBw hap) ?_
 rintro ⟨y373,hy373⟩
 obtain ⟨hy3730,hy3731⟩ := hy373
 exact ah (kF 2 0 [0,2,3,4,5,59,61,66]) (by kernel_rfl) (hD4 ⟨(y373),⟨hy3730,hy3731⟩⟩)
 refine cM (α := Unit) (fun zz => (fun (u_ : Unit) => [(59,.v (.agg (ai s).toArray)),(61,aI s.una),(62,aP g),(63,.v (.agg (ai s).toArray))]) zz) [0,2,3,4,5,59,61,62,63] 9 (bJ 14 31) ?_ (fun hD2 => ?_)
 intro u_
 try dsimp only
 refine kA [5] <| du 5 109 [.agg (ai s).toArray] (some 64) rfl (aA fun ww hf => dE s.una s.data s.sent s.fin s.finSent s.done ww ) ?_
 intro _
 exact ah (kF 2 0 [0,2,3,4,5,59,61,62,64]) (by kernel_rfl) (hD3 ())
 refine cM (α := Unit) (fun zz => (fun (u_ : Unit) => [(59,.v (.agg (ai s).toArray)),(61,aI s.una),(62,aP g)]) zz) [0,2,3,4,5,59,61,62] 10 (bJ 14 15) ?_ (fun hD1 => ?_)
 intro u_
 try dsimp only
 refine kA [4] <| ev 4 (.v (.agg (ai s).toArray)) rfl ?_
 exact ah (kF 2 0 [0,2,3,4,5,59,61,62,63]) (by kernel_rfl) (hD2 ())
 refine cM (α := Unit) (fun zz => (fun (u_ : Unit) => [(59,.v (.agg (ai s).toArray)),(61,aI s.una),(62,aP g),(65,aI (K6.wrap ((ab s) + 1)))]) zz) [0,2,3,4,5,59,61,62,65] 7 (bJ 14 127) ?_ (fun hD10 => ?_)
 intro u_
 try dsimp only
 refine kA [7] <| fw 7 46 [gP g,iI (K6.wrap ((ab s) + 1))] (some 66) 0 rfl rfl hlo (a5 (ap rfl a8)) (ar hBw hap) ?_
 rintro ⟨y373,hy373⟩
 obtain ⟨hy3730,hy3731⟩ := hy373
 exact ah (kF 2 0 [0,2,3,4,5,59,61,66]) (by kernel_rfl) (hD4 ⟨(y373),⟨hy3730,hy3731⟩⟩)
 refine cM (α := {zz : Int // (fun (y373 : Int) => 0 ≤ y373 ∧ (0 < (K6.wrap ((ab s) + 1)) → y373 < (K6.wrap ((ab s) + 1)))) zz}) (fun zz => (fun (y373 : Int) => [(59,.v (.agg (ai s).toArray)),(60,.p 1 0),(66,aI y373)]) zz.1) [0,2,3,4,5,59,60,66] 7 (bJ 14 251) ?_ (fun hD11 => ?_)
 rintro ⟨y373,hy373⟩
 try dsimp only
 try dsimp only at hy373
 obtain ⟨hy3730,hy3731⟩ := hy373
 refine kA [2] <| ev 2 (aI s.una) rfl ?_
 exact ah (kF 2 0 [0,2,3,4,5,59,61,66]) (by kernel_rfl) (hD4 ⟨(y373),⟨hy3730,hy3731⟩⟩)
 refine cM (α := Unit) (fun zz => (fun (u_ : Unit) => [(59,.v (.agg (ai s).toArray)),(60,.p 1 0),(62,aP g),(64,aI (ab s))]) zz) [0,2,3,4,5,59,60,62,64] 9 (bJ 14 59) ?_ (fun hD9 => ?_)
 intro u_
 try dsimp only
 refine d9 [6] [65,0,2,3,4,5,59,60,62] 8 [(65,aI (K6.wrap ((ab s) + 1)))] <| kA [2,7] ⟨?_,?_⟩
 refine ev 2 (aI s.una) rfl ?_
 exact ah (kF 2 0 [0,2,3,4,5,59,61,62,65]) (by kernel_rfl) (hD10 ())
 refine fw 7 46 [gP g,iI (K6.wrap ((ab s) + 1))] (some 66) 0 rfl rfl hlo (a5 (ap rfl a8)) (ar hBw hap) ?_
 rintro ⟨y373,hy373⟩
 obtain ⟨hy3730,hy3731⟩ := hy373
 exact ah (kF 2 0 [0,2,3,4,5,59,60,66]) (by kernel_rfl) (hD11 ⟨(y373),⟨hy3730,hy3731⟩⟩)
 refine cM (α := Unit) (fun zz => (fun (u_ : Unit) => [(59,.v (.agg (ai s).toArray)),(60,.p 1 0),(62,aP g),(63,.v (.agg (ai s).toArray))]) zz) [0,2,3,4,5,59,60,62,63] 10 (bJ 14 27) ?_ (fun hD8 => ?_)
 intro u_
 try dsimp only
 refine kA [2,5] ⟨?_,?_⟩
 refine ev 2 (aI s.una) rfl ?_
 exact ah (kF 2 0 [0,2,3,4,5,59,61,62,63]) (by kernel_rfl) (hD2 ())
 refine du 5 109 [.agg (ai s).toArray] (some 64) rfl (aA fun ww hf => dE s.una s.data s.sent s.fin s.finSent s.done ww ) ?_
 intro _
 exact ah (kF 2 0 [0,2,3,4,5,59,60,62,64]) (by kernel_rfl) (hD9 ())
 refine cM (α := Unit) (fun zz => (fun (u_ : Unit) => [(59,.v (.agg (ai s).toArray)),(60,.p 1 0),(62,aP g)]) zz) [0,2,3,4,5,59,60,62] 11 (bJ 14 11) ?_ (fun hD0 => ?_)
 intro u_
 try dsimp only
 refine kA [2,4] ⟨?_,?_⟩
 refine ev 2 (aI s.una) rfl ?_
 exact ah (kF 2 0 [0,2,3,4,5,59,61,62]) (by kernel_rfl) (hD1 ())
 refine ev 4 (.v (.agg (ai s).toArray)) rfl ?_
 exact ah (kF 2 0 [0,2,3,4,5,59,60,62,63]) (by kernel_rfl) (hD8 ())
 refine cM (α := {zz : Int // (fun (y373 : Int) => 0 ≤ y373 ∧ (0 < (K6.wrap ((ab s) + 1)) → y373 < (K6.wrap ((ab s) + 1)))) zz}) (fun zz => (fun (y373 : Int) => [(67,aI (sA s.una y373))]) zz.1) [0,2,3,4,5,67] 6 (bJ 14 510) ?_ (fun hD16 => ?_)
 rintro ⟨y373,hy373⟩
 try dsimp only
 try dsimp only at hy373
 obtain ⟨hy3730,hy3731⟩ := hy373
 refine kA [0] <| ev 0 (.v (.agg (ai s).toArray)) rfl ?_
 exact ah (kF 2 0 [0,2,3,4,5,59,67]) (by kernel_rfl) (hD5 ⟨(y373),⟨hy3730,hy3731⟩⟩)
 refine cM (α := {zz : Int // (fun (y373 : Int) => 0 ≤ y373 ∧ (0 < (K6.wrap ((ab s) + 1)) → y373 < (K6.wrap ((ab s) + 1)))) zz}) (fun zz => (fun (y373 : Int) => [(61,aI s.una),(66,aI y373)]) zz.1) [0,2,3,4,5,61,66] 7 (bJ 14 254) ?_ (fun hD15 => ?_)
 rintro ⟨y373,hy373⟩
 try dsimp only
 try dsimp only at hy373
 obtain ⟨hy3730,hy3731⟩ := hy373
 refine kA [0,8] ⟨?_,?_⟩
 refine ev 0 (.v (.agg (ai s).toArray)) rfl ?_
 exact ah (kF 2 0 [0,2,3,4,5,59,61,66]) (by kernel_rfl) (hD4 ⟨(y373),⟨hy3730,hy3731⟩⟩)
 refine du 8 96 [iI s.una,iI y373] (some 67) rfl (c6 fun ww hf => bM s.una y373 ww ) ?_
 intro _
 exact ah (kF 2 0 [0,2,3,4,5,67]) (by kernel_rfl) (hD16 ⟨(y373),⟨hy3730,hy3731⟩⟩)
 refine cM (α := Unit) (fun zz => (fun (u_ : Unit) => [(61,aI s.una),(62,aP g),(64,aI (ab s))]) zz) [0,2,3,4,5,61,62,64] 9 (bJ 14 62) ?_ (fun hD14 => ?_)
 intro u_
 try dsimp only
 refine d9 [6] [65,0,2,3,4,5,61,62] 8 [(65,aI (K6.wrap ((ab s) + 1)))] <| kA [0,7] ⟨?_,?_⟩
 refine ev 0 (.v (.agg (ai s).toArray)) rfl ?_
 exact ah (kF 2 0 [0,2,3,4,5,59,61,62,65]) (by kernel_rfl) (hD10 ())
 refine fw 7 46 [gP g,iI (K6.wrap ((ab s) + 1))] (some 66) 0 rfl rfl hlo (a5 (ap rfl a8)) (ar hBw hap) ?_
 rintro ⟨y373,hy373⟩
 obtain ⟨hy3730,hy3731⟩ := hy373
 exact ah (kF 2 0 [0,2,3,4,5,61,66]) (by kernel_rfl) (hD15 ⟨(y373),⟨hy3730,hy3731⟩⟩)
 refine cM (α := Unit) (fun zz => (fun (u_ : Unit) => [(61,aI s.una),(62,aP g),(63,.v (.agg (ai s).toArray))]) zz) [0,2,3,4,5,61,62,63] 10 (bJ 14 30) ?_ (fun hD13 => ?_)
 intro u_
 try dsimp only
 refine kA [0,5] ⟨?_,?_⟩
 refine ev 0 (.v (.agg (ai s).toArray)) rfl ?_
 exact ah (kF 2 0 [0,2,3,4,5,59,61,62,63]) (by kernel_rfl) (hD2 ())
 refine du 5 109 [.agg (ai s).toArray] (some 64) rfl (aA fun ww hf => dE s.una s.data s.sent s.fin s.finSent s.done ww ) ?_
 intro _
 exact ah (kF 2 0 [0,2,3,4,5,61,62,64]) (by kernel_rfl) (hD14 ())
 refine cM (α := Unit) (fun zz => (fun (u_ : Unit) => [(61,aI s.una),(62,aP g)]) zz) [0,2,3,4,5,61,62] 11 (bJ 14 14) ?_ (fun hD12 => ?_)
 intro u_
 try dsimp only
 refine kA [0,4] ⟨?_,?_⟩
 refine ev 0 (.v (.agg (ai s).toArray)) rfl ?_
 exact ah (kF 2 0 [0,2,3,4,5,59,61,62]) (by kernel_rfl) (hD1 ())
 refine ev 4 (.v (.agg (ai s).toArray)) rfl ?_
 exact ah (kF 2 0 [0,2,3,4,5,61,62,63]) (by kernel_rfl) (hD13 ())
 refine cM (α := Unit) (fun zz => (fun (u_ : Unit) => [(59,.v (.agg (ai s).toArray)),(60,.p 1 0),(62,aP g),(65,aI (K6.wrap ((ab s) + 1)))]) zz) [0,2,3,4,5,59,60,62,65] 8 (bJ 14 123) ?_ (fun hD19 => ?_)
 intro u_
 try dsimp only
 refine kA [2,7] ⟨?_,?_⟩
 refine ev 2 (aI s.una) rfl ?_
 exact ah (kF 2 0 [0,2,3,4,5,59,61,62,65]) (by kernel_rfl) (hD10 ())
 refine fw 7 46 [gP g,iI (K6.wrap ((ab s) + 1))] (some 66) 0 rfl rfl hlo (a5 (ap rfl a8)) (ar hBw hap) ?_
 rintro ⟨y373,hy373⟩
 obtain ⟨hy3730,hy3731⟩ := hy373
 exact ah (kF 2 0 [0,2,3,4,5,59,60,66]) (by kernel_rfl) (hD11 ⟨(y373),⟨hy3730,hy3731⟩⟩)
 refine cM (α := Unit) (fun zz => (fun (u_ : Unit) => [(61,aI s.una),(62,aP g),(65,aI (K6.wrap ((ab s) + 1)))]) zz) [0,2,3,4,5,61,62,65] 8 (bJ 14 126) ?_ (fun hD20 => ?_)
 intro u_
 try dsimp only
 refine kA [0,7] ⟨?_,?_⟩
 refine ev 0 (.v (.agg (ai s).toArray)) rfl ?_
 exact ah (kF 2 0 [0,2,3,4,5,59,61,62,65]) (by kernel_rfl) (hD10 ())
 refine fw 7 46 [gP g,iI (K6.wrap ((ab s) + 1))] (some 66) 0 rfl rfl hlo (a5 (ap rfl a8)) (ar hBw hap) ?_
 rintro ⟨y373,hy373⟩
 obtain ⟨hy3730,hy3731⟩ := hy373
 exact ah (kF 2 0 [0,2,3,4,5,61,66]) (by kernel_rfl) (hD15 ⟨(y373),⟨hy3730,hy3731⟩⟩)
 refine cM (α := {zz : Int // (fun (y373 : Int) => 0 ≤ y373 ∧ (0 < (K6.wrap ((ab s) + 1)) → y373 < (K6.wrap ((ab s) + 1)))) zz}) (fun zz => (fun (y373 : Int) => [(60,.p 1 0),(66,aI y373)]) zz.1) [0,2,3,4,5,60,66] 8 (bJ 14 250) ?_ (fun hD21 => ?_)
 rintro ⟨y373,hy373⟩
 try dsimp only
 try dsimp only at hy373
 obtain ⟨hy3730,hy3731⟩ := hy373
 refine kA [0,2] ⟨?_,?_⟩
 refine ev 0 (.v (.agg (ai s).toArray)) rfl ?_
 exact ah (kF 2 0 [0,2,3,4,5,59,60,66]) (by kernel_rfl) (hD11 ⟨(y373),⟨hy3730,hy3731⟩⟩)
 refine ev 2 (aI s.una) rfl ?_
 exact ah (kF 2 0 [0,2,3,4,5,61,66]) (by kernel_rfl) (hD15 ⟨(y373),⟨hy3730,hy3731⟩⟩)
 refine cM (α := Unit) (fun zz => (fun (u_ : Unit) => [(60,.p 1 0),(62,aP g),(64,aI (ab s))]) zz) [0,2,3,4,5,60,62,64] 10 (bJ 14 58) ?_ (fun hD18 => ?_)
 intro u_
 try dsimp only
 refine d9 [6] [65,0,2,3,4,5,60,62] 9 [(65,aI (K6.wrap ((ab s) + 1)))] <| kA [0,2,7] ⟨?_,?_,?_⟩
 refine ev 0 (.v (.agg (ai s).toArray)) rfl ?_
 exact ah (kF 2 0 [0,2,3,4,5,59,60,62,65]) (by kernel_rfl) (hD19 ())
 refine ev 2 (aI s.una) rfl ?_
 exact ah (kF 2 0 [0,2,3,4,5,61,62,65]) (by kernel_rfl) (hD20 ())
 refine fw 7 46 [gP g,iI (K6.wrap ((ab s) + 1))] (some 66) 0 rfl rfl hlo (a5 (ap rfl a8)) (ar hBw hap) ?_
 rintro ⟨y373,hy373⟩
 obtain ⟨hy3730,hy3731⟩ := hy373
 exact ah (kF 2 0 [0,2,3,4,5,60,66]) (by kernel_rfl) (hD21 ⟨(y373),⟨hy3730,hy3731⟩⟩)
 refine cM (α := Unit) (fun zz => (fun (u_ : Unit) => [(60,.p 1 0),(62,aP g),(63,.v (.agg (ai s).toArray))]) zz) [0,2,3,4,5,60,62,63] 11 (bJ 14 26) ?_ (fun hD17 => ?_)
 intro u_
 try dsimp only
 refine kA [0,2,5] ⟨?_,?_,?_⟩
 refine ev 0 (.v (.agg (ai s).toArray)) rfl ?_
 exact ah (kF 2 0 [0,2,3,4,5,59,60,62,63]) (by kernel_rfl) (hD8 ())
 refine ev 2 (aI s.una) rfl ?_
 exact ah (kF 2 0 [0,2,3,4,5,61,62,63]) (by kernel_rfl) (hD13 ())
 refine du 5 109 [.agg (ai s).toArray] (some 64) rfl (aA fun ww hf => dE s.una s.data s.sent s.fin s.finSent s.done ww ) ?_
 intro _
 exact ah (kF 2 0 [0,2,3,4,5,60,62,64]) (by kernel_rfl) (hD18 ())
 refine d9 [1,3] [62,60,0,2,3,4,5] 12 [(62,aP g),(60,.p 1 0)] <| kA [0,2,4] ⟨?_,?_,?_⟩
 refine ev 0 (.v (.agg (ai s).toArray)) rfl ?_
 exact ah (kF 2 0 [0,2,3,4,5,59,60,62]) (by kernel_rfl) (hD0 ())
 refine ev 2 (aI s.una) rfl ?_
 exact ah (kF 2 0 [0,2,3,4,5,61,62]) (by kernel_rfl) (hD12 ())
 refine ev 4 (.v (.agg (ai s).toArray)) rfl ?_
 exact ah (kF 2 0 [0,2,3,4,5,60,62,63]) (by kernel_rfl) (hD17 ())
 have h21p := cB h21
 refine kG <| di 3 [0,2,3,4,5,22] [(22,aB s.fin)] <| kP 22 (s.fin) (fun h723 => ?_) (fun h723 => ?_)
 refine bC [0,2,3,4,5] [] 1 ⟨34,ai { s with fin := true }⟩ ?_
 exact ⟨⟨({ s with fin := true }),⟨⟩⟩,kF 2 0 [0,2,3,4,5]⟩
 refine dl 1 [0,2,3,4,5,22,23] [(22,aB false),(23,aP g)] 20 [gP g,iI 2] (some 24) 0 rfl rfl hlo (bY hBw hap) ?_
 rintro ⟨y724,hy724⟩
 refine bC [0,2,3,4,5] [] 1 ⟨34,ai { s with fin := y724 }⟩ ?_
 exact ⟨⟨({ s with fin := y724 }),⟨⟩⟩,kF 2 0 [0,2,3,4,5]⟩
 rintro ⟨s2,-⟩
 try dsimp only
 refine kG <| di 3 [0,2,3,4,5] [(5,aI (K6.wrap ((i : Int) + 1)))] <| cU [0,2,3,4,5] [(5,aI (K6.wrap ((i : Int) + 1)))] [(5,aI ((i : Int) + 1))] (by rw [show (K6.wrap ((i : Int) + 1)) = ((i : Int) + 1) from al (by omega) (by omega)]) (by kernel_rfl) ?_
 refine aW [0,2,3,4,5] [] ?_
 exact ⟨⟨(i + 1,s2),(by omega)⟩,kF 2 0 [0,2,3,4,5],by show (fun (i : Nat) (s : Snd) => (y2).toNat - i) (i + 1) s2 < (y2).toNat - i; (dsimp only; omega)⟩
 have h3p := of_decide_eq_false h3
 have hge : ¬ (i : Int) < y2 := of_decide_eq_false h3
 refine bH <| kQ <| bC [2] [(2,.p 0 0)] 0 ⟨34,ai s⟩ <| kR ?_
 exact ⟨[.agg (ai s).toArray],by kernel_rfl,fun w' hb hf => ⟨⟨s,trivial⟩,rfl,hf (cF B g A J cap) (by simp),am (hf (bF w (fun b => b = g)) (by simp)) hb rfl rfl rfl⟩⟩
theorem l17Sender_c_K {g : Nat} {J : List Int} {A : Option Addr} {cap : Nat}  {w0 : World} {fs : List Fact} {B : Nat} (hB : B ≤ w0.heap.size) (hap : ¬ (sQ A J cap).blk g)  (hn : J.length ≤ 1048576 := by omega) (h1 : cF B g A J cap ∈ fs := by simp) (h2 : sQ A J cap ∈ fs := by simp) : XCM Tryz.prog w0 fs (cF B g A J cap).blk 83 [gP g] (α := {y : Snd // True}) (fun y => .agg (ai y.1).toArray) (fun _ => [cF B g A J cap]) := dw fun w hw hf => l17Sender_c g J A cap  w B (Nat.le_trans hB hw) (hf _ h1) (hf _ h2) hap hn  
theorem l17Bent_c (g : Nat) (J : List Int) (A : Option Addr) (cap : Nat)  (w : World) (B : Nat) (hB : B ≤ w.heap.size) (hc : (cF B g A J cap).p w) (hl : Sl w (sJ A J cap) 1 (J.map bR)) (hap : ¬ (sQ A J cap).blk g) (hn : J.length ≤ 1048576)  : Calls Tryz.prog 53 #[gP g] w fun e w' => ∃ y : {y : Snd // True}, e = .returned (.agg (ai y.1).toArray) ∧ (cF B g A J cap).p w' ∧ Chgd (fun b => b = g) w w' := by
 have hq_code := Sl.capLe hl
 have hBw : B ≤ (av w B).heap.size := Nat.le_of_eq (aM hB).symm
 have hlo : ∀ (ww : World) (b : Nat),(cF B g A J cap).p ww → (cF B g A J cap).blk b → (av w B).heap.size ≤ b := fun ww b h hb => Nat.le_trans (cf w B) (d3 h hb)
 refine cQ (args := [gP g]) (fn := Tryz.f53) [cF B g A J cap,sQ A J cap,bF w (fun b => b = g)] B Tryz.func53 rfl Tryz.ntmps53 rfl hB (by simp only [List.mem_cons,List.not_mem_nil,or_false,forall_eq_or_imp,forall_eq]; exact ⟨hc,hl,bT w _⟩) (c5 hap rfl) ?_
 refine kQ <| cm [0,2] ⟨[(0,aP g),(2,.p 0 0)],[⟨34,sndZ⟩],[],[cF B g A J cap,sQ A J cap,bF w (fun b => b = g)]⟩ <| kQ <| dl 1 [0,2,4] [(4,aP g)] 83 [gP g] (some 5) 0 rfl rfl hlo (l17Sender_c_K hBw hap) ?_
 rintro ⟨y1,hy1⟩
 refine gk [0,2,3] [(3,.p 1 0)] [⟨34,ai y1⟩] <| kS <| kQ <| dl 1 [0,2,3,6] [(6,aP g)] 46 [gP g,iI 10] (some 7) 0 rfl rfl hlo (ar hBw hap) ?_
 rintro ⟨y2,hy2⟩
 obtain ⟨hy20,hy21⟩ := hy2
 refine aW [0,2,3,7] [] <| ao <| kQ <| aW [0,2,3,7,8] [(8,aB (y2 == 0))] ?_
 refine kC (y2 == 0) (fun h3 => ?_) (fun h3 => ?_)
 have h3p := cI h3
 refine kG <| dl 1 [2,3,10] [(10,aP g)] 84 [gP g] (some 11) 0 rfl rfl hlo (eI hBw hap) ?_
 rintro ⟨y4,hy4⟩
 refine bC [2,3] [] 1 ⟨34,ai { y1 with una := y4 }⟩ <| kQ <| bC [2] [(2,.p 0 0)] 0 ⟨34,ai { y1 with una := y4 }⟩ <| kR ?_
 exact ⟨[.agg (ai { y1 with una := y4 }).toArray],by kernel_rfl,fun w' hb hf => ⟨⟨{ y1 with una := y4 },trivial⟩,rfl,hf (cF B g A J cap) (by simp),am (hf (bF w (fun b => b = g)) (by simp)) hb rfl rfl rfl⟩⟩
 have h3p := cB h3
 refine kQ <| aW [0,2,3,7,13] [(13,aB (y2 == 1))] <| kC (y2 == 1) (fun h5 => ?_) (fun h5 => ?_)
 have h5p := cI h5
 refine kG <| kHD 5 [2,3,15,19] [(15,aP g),(19,aI (K6.wrap ((y1.data.size : Int) + 1)))] rfl (aH (e := 3) (K := 1) (bytes := 8) [iI (-1),iI 0,iI 48,iI 49,iI (K6.wrap ((y1.data.size : Int) + 1))] (rs := ([(-1),0,48,49,K6.wrap ((y1.data.size : Int) + 1)] : List Int).map az) rfl rfl) ?_
 intro g6
 refine dK (φ := ¬ (aJ (.slice (some ⟨g6,0,none⟩) 5 5) 1 (([(-1),0,48,49,K6.wrap ((y1.data.size : Int) + 1)] : List Int).map az)).blk g) (fun _ _ _ _ hr => fun hb => hr.2.apart 0 1 (a9 (av w B).heap.size 3 1 (.slice (some ⟨g6,0,none⟩) 5 5) (([(-1),0,48,49,K6.wrap ((y1.data.size : Int) + 1)] : List Int).map az)) (cF B g A J cap) rfl rfl (by decide) rfl g (bG hb) rfl) (fun hk7 => ?_)
 refine dl 0 [2,3,15,20] [] 48 [gP g,.slice (some ⟨g6,0,none⟩) 5 5] (some 21) 1 rfl rfl hlo (bw hBw hap (fun ww hw hf => (ax (hf _ m0))) hk7 (by simp)) ?_
 rintro ⟨y8,hy8⟩
 refine bC [2,3] [] 1 ⟨34,ai { y1 with sent := y8 }⟩ <| kQ <| bC [2] [(2,.p 0 0)] 0 ⟨34,ai { y1 with sent := y8 }⟩ <| kR ?_
 exact ⟨[.agg (ai { y1 with sent := y8 }).toArray],by kernel_rfl,fun w' hb hf => ⟨⟨{ y1 with sent := y8 },trivial⟩,rfl,hf (cF B g A J cap) (by simp),am (hf (bF w (fun b => b = g)) (by simp)) hb rfl rfl rfl⟩⟩
 have h5p := cB h5
 refine kQ <| aW [0,2,3,7,23] [(23,aB (y2 == 2))] <| kC (y2 == 2) (fun h9 => ?_) (fun h9 => ?_)
 have h9p := cI h9
 refine kG <| bC [2,3] [] 1 ⟨34,ai { y1 with finSent := !y1.finSent }⟩ <| kQ <| bC [2] [(2,.p 0 0)] 0 ⟨34,ai { y1 with finSent := !y1.finSent }⟩ ?_
 refine kR ?_
 exact ⟨[.agg (ai { y1 with finSent := !y1.finSent }).toArray],by kernel_rfl,fun w' hb hf => ⟨⟨{ y1 with finSent := !y1.finSent },trivial⟩,rfl,hf (cF B g A J cap) (by simp),am (hf (bF w (fun b => b = g)) (by simp)) hb rfl rfl rfl⟩⟩
 have h9p := cB h9
 refine kQ <| aW [0,2,3,7,29] [(29,aB (y2 == 3))] <| kC (y2 == 3) (fun h10 => ?_) (fun h10 => ?_)
 have h10p := cI h10
 refine kG <| bC [2,3] [] 1 ⟨34,ai { y1 with done := !y1.done }⟩ <| kQ <| bC [2] [(2,.p 0 0)] 0 ⟨34,ai { y1 with done := !y1.done }⟩ ?_
 refine kR ?_
 exact ⟨[.agg (ai { y1 with done := !y1.done }).toArray],by kernel_rfl,fun w' hb hf => ⟨⟨{ y1 with done := !y1.done },trivial⟩,rfl,hf (cF B g A J cap) (by simp),am (hf (bF w (fun b => b = g)) (by simp)) hb rfl rfl rfl⟩⟩
 have h10p := cB h10
 refine kQ <| aW [0,2,3,35] [(35,aB (y2 == 4))] <| kC (y2 == 4) (fun h11 => ?_) (fun h11 => ?_)
 have h11p := cI h11
 refine kG <| dl 1 [2,3,37] [(37,aP g)] 46 [gP g,iI 3] (some 38) 0 rfl rfl hlo (ar hBw hap) ?_
 rintro ⟨y12,hy12⟩
 obtain ⟨hy120,hy121⟩ := hy12
 refine dN 1 [2,3,39] [(2,.p 0 0),(3,.p 1 0),(39,aI (K6.wrap (47 + y12)))] 85 [iI (K6.wrap (47 + y12))] (some 40) rfl (aA fun ww hf => l5Long_c (K6.wrap (47 + y12)) ww (by first | omega | (rw [al (by omega) (by omega)]; omega))) ?_
 intro _
 refine bC [2,3] [] 1 ⟨34,ai { y1 with data := af (List.replicate ((K6.wrap (47 + y12))).toNat 0) }⟩ <| kQ <| bC [2] [(2,.p 0 0)] 0 ⟨34,ai { y1 with data := af (List.replicate ((K6.wrap (47 + y12))).toNat 0) }⟩ <| kR ?_
 exact ⟨[.agg (ai { y1 with data := af (List.replicate ((K6.wrap (47 + y12))).toNat 0) }).toArray],by kernel_rfl,fun w' hb hf => ⟨⟨{ y1 with data := af (List.replicate ((K6.wrap (47 + y12))).toNat 0) },trivial⟩,rfl,hf (cF B g A J cap) (by simp),am (hf (bF w (fun b => b = g)) (by simp)) hb rfl rfl rfl⟩⟩
 have h11p := cB h11
 refine kK <| kQ <| bC [2] [(2,.p 0 0)] 0 ⟨34,ai y1⟩ <| kR ?_
 exact ⟨[.agg (ai y1).toArray],by kernel_rfl,fun w' hb hf => ⟨⟨y1,trivial⟩,rfl,hf (cF B g A J cap) (by simp),am (hf (bF w (fun b => b = g)) (by simp)) hb rfl rfl rfl⟩⟩
theorem l17Bent_c_K {g : Nat} {J : List Int} {A : Option Addr} {cap : Nat}  {w0 : World} {fs : List Fact} {B : Nat} (hB : B ≤ w0.heap.size) (hap : ¬ (sQ A J cap).blk g)  (hn : J.length ≤ 1048576 := by omega) (h1 : cF B g A J cap ∈ fs := by simp) (h2 : sQ A J cap ∈ fs := by simp) : XCM Tryz.prog w0 fs (cF B g A J cap).blk 53 [gP g] (α := {y : Snd // True}) (fun y => .agg (ai y.1).toArray) (fun _ => [cF B g A J cap]) := dw fun w hw hf => l17Bent_c g J A cap  w B (Nat.le_trans hB hw) (hf _ h1) (hf _ h2) hap hn  
theorem l4Near_c (g : Nat) (J : List Int) (A : Option Addr) (cap : Nat) (x : Int) (w : World) (B : Nat) (hB : B ≤ w.heap.size) (hc : (cF B g A J cap).p w) (hl : Sl w (sJ A J cap) 1 (J.map bR)) (hap : ¬ (sQ A J cap).blk g) (hn : J.length ≤ 1048576)  : Calls Tryz.prog 111 #[gP g, iI x] w fun e w' => ∃ y : {y : Int // True}, e = .returned (iI y.1) ∧ (cF B g A J cap).p w' ∧ Chgd (fun b => b = g) w w' := by
 have hq_code := Sl.capLe hl
 have hBw : B ≤ (av w B).heap.size := Nat.le_of_eq (aM hB).symm
 have hlo : ∀ (ww : World) (b : Nat),(cF B g A J cap).p ww → (cF B g A J cap).blk b → (av w B).heap.size ≤ b := fun ww b h hb => Nat.le_trans (cf w B) (d3 h hb)
 refine cQ (args := [gP g,iI x]) (fn := Tryz.f111) [cF B g A J cap,sQ A J cap,bF w (fun b => b = g)] B Tryz.func111 rfl Tryz.ntmps111 rfl hB (by simp only [List.mem_cons,List.not_mem_nil,or_false,forall_eq_or_imp,forall_eq]; exact ⟨hc,hl,bT w _⟩) (c5 hap rfl) ?_
 refine kQ <| cm [0,1] ⟨[(0,aP g),(1,aI x)],[],[],[cF B g A J cap,sQ A J cap,bF w (fun b => b = g)]⟩ <| kS <| kQ <| dl 1 [0,1,5] [(5,aP g)] 46 [gP g,iI 4] (some 6) 0 rfl rfl hlo (ar hBw hap) ?_
 rintro ⟨y1,hy1⟩
 obtain ⟨hy10,hy11⟩ := hy1
 refine aW [0,1,6] [] <| ao <| kQ <| aW [0,1,6,7] [(7,aB (y1 == 0))] ?_
 refine kC (y1 == 0) (fun h2 => ?_) (fun h2 => ?_)
 have h2p := cI h2
 refine kQ <| kWS 1 [9] [(9,aP g)] 127 [gP g] (some 10) 0 rfl rfl hlo (l4Place_c_K hBw hap) ?_
 rintro ⟨y3,hy3⟩
 refine aT [4] [(4,aI y3)] <| kR ?_
 exact ⟨[iI y3],by kernel_rfl,fun w' hb hf => ⟨⟨y3,trivial⟩,rfl,hf (cF B g A J cap) (by simp),am (hf (bF w (fun b => b = g)) (by simp)) hb rfl rfl rfl⟩⟩
 have h2p := cB h2
 refine kQ <| aW [0,1,11] [(11,aB (y1 == 1))] <| kC (y1 == 1) (fun h4 => ?_) (fun h4 => ?_)
 have h4p := cI h4
 refine kQ <| kHS 2 [13,14] [(13,aI x),(14,aP g)] rfl (aH (e := 3) (K := 1) (bytes := 8) [iI 2147483647,iI 2147483648,iI (-1),iI 1,iI 0] (rs := ([2147483647,2147483648,(-1),1,0] : List Int).map az) rfl rfl) ?_
 intro g5
 refine dK (φ := ¬ (aJ (.slice (some ⟨g5,0,none⟩) 5 5) 1 (([2147483647,2147483648,(-1),1,0] : List Int).map az)).blk g) (fun _ _ _ _ hr => fun hb => hr.2.apart 0 1 (a9 (av w B).heap.size 3 1 (.slice (some ⟨g5,0,none⟩) 5 5) (([2147483647,2147483648,(-1),1,0] : List Int).map az)) (cF B g A J cap) rfl rfl (by decide) rfl g (bG hb) rfl) (fun hk6 => ?_)
 refine dl 0 [13,14,15] [] 48 [gP g,.slice (some ⟨g5,0,none⟩) 5 5] (some 16) 1 rfl rfl hlo (bw hBw hap (fun ww hw hf => (ax (hf _ m0))) hk6 (by simp)) ?_
 rintro ⟨y7,hy7⟩
 refine dR 0 [13,16] [] 96 [iI x,iI y7] (some 17) rfl (c6 fun ww hf => bM x y7 ww ) ?_
 intro _
 refine aT [4] [(4,aI (sA x y7))] <| kR ?_
 exact ⟨[iI (sA x y7)],by kernel_rfl,fun w' hb hf => ⟨⟨sA x y7,trivial⟩,rfl,hf (cF B g A J cap) (by simp),am (hf (bF w (fun b => b = g)) (by simp)) hb rfl rfl rfl⟩⟩
 have h4p := cB h4
 refine kK <| kQ <| kWS 2 [18,19] [(18,aI x),(19,aP g)] 46 [gP g,iI 41] (some 20) 0 rfl rfl hlo (ar hBw hap) ?_
 rintro ⟨y8,hy8⟩
 obtain ⟨hy80,hy81⟩ := hy8
 refine dR 1 [18,21] [(21,aI (K6.wrap (y8 - 20)))] 96 [iI x,iI (K6.wrap (y8 - 20))] (some 22) rfl (c6 fun ww hf => bM x (K6.wrap (y8 - 20)) ww ) ?_
 intro _
 refine aT [4] [(4,aI (sA x (K6.wrap (y8 - 20))))] <| kR ?_
 exact ⟨[iI (sA x (K6.wrap (y8 - 20)))],by kernel_rfl,fun w' hb hf => ⟨⟨sA x (K6.wrap (y8 - 20)),trivial⟩,rfl,hf (cF B g A J cap) (by simp),am (hf (bF w (fun b => b = g)) (by simp)) hb rfl rfl rfl⟩⟩
theorem l4Near_c_K {g : Nat} {J : List Int} {A : Option Addr} {cap : Nat} {x : Int} {w0 : World} {fs : List Fact} {B : Nat} (hB : B ≤ w0.heap.size) (hap : ¬ (sQ A J cap).blk g)  (hn : J.length ≤ 1048576 := by omega) (h1 : cF B g A J cap ∈ fs := by simp) (h2 : sQ A J cap ∈ fs := by simp) : XCM Tryz.prog w0 fs (cF B g A J cap).blk 111 [gP g, iI x] (α := {y : Int // True}) (fun y => iI y.1) (fun _ => [cF B g A J cap]) := dw fun w hw hf => l4Near_c g J A cap x w B (Nat.le_trans hB hw) (hf _ h1) (hf _ h2) hap hn  
theorem l19Segment_c (g : Nat) (J : List Int) (A : Option Addr) (cap : Nat) (x : Con) (xV : Value) (w : World) (B : Nat) (hB : B ≤ w.heap.size) (hc : (cF B g A J cap).p w) (hl : Sl w (sJ A J cap) 1 (J.map bR)) (hap : ¬ (sQ A J cap).blk g) (hn : J.length ≤ 1048576)  : Calls Tryz.prog 82 #[gP g, .agg (a6 x xV).toArray] w fun e w' => ∃ y : {y : Seg // y.body.size ≤ 4096}, e = .returned (.agg (cl y.1).toArray) ∧ (cF B g A J cap).p w' ∧ Chgd (fun b => b = g) w w' := by
 have hq_code := Sl.capLe hl
 have hBw : B ≤ (av w B).heap.size := Nat.le_of_eq (aM hB).symm
 have hlo : ∀ (ww : World) (b : Nat),(cF B g A J cap).p ww → (cF B g A J cap).blk b → (av w B).heap.size ≤ b := fun ww b h hb => Nat.le_trans (cf w B) (d3 h hb)
 refine cQ (args := [gP g,.agg (a6 x xV).toArray]) (fn := Tryz.f82) [cF B g A J cap,sQ A J cap,bF w (fun b => b = g)] B Tryz.func82 rfl Tryz.ntmps82 rfl hB (by simp only [List.mem_cons,List.not_mem_nil,or_false,forall_eq_or_imp,forall_eq]; exact ⟨hc,hl,bT w _⟩) (c5 hap rfl) ?_
 refine kQ <| cm [0,3,4] ⟨[(0,aP g),(3,.p 0 0),(4,.p 1 0)],[⟨41,a6 x xV⟩,⟨105,eJ⟩],[],[cF B g A J cap,sQ A J cap,bF w (fun b => b = g)]⟩ <| kQ <| dl 3 [0,3,4,10,12] [(10,aP g),(12,.v (.agg (ag x.r xV).toArray))] 108 [gP g,.agg (ag x.r xV).toArray] (some 13) 0 rfl rfl hlo (l18Stream_c_K hBw hap) ?_
 rintro ⟨y1,hy1⟩
 refine aW [0,3,4,5,6,7] [(5,aI y1.1),(6,.v (.string y1.2.1)),(7,aB y1.2.2)] <| kS <| dZ (α := {zz : Int // (fun (sq : Int) => True) zz}) (fun zz => (fun (sq : Int) => (⟨[(0,aP g),(3,.p 0 0),(4,.p 1 0),(5,aI sq),(6,.v (.string y1.2.1)),(7,aB y1.2.2)],[⟨41,a6 x xV⟩,⟨105,eJ⟩],[],[cF B g A J cap,sQ A J cap,bF w (fun b => b = g)]⟩ : St)) zz.1) ?_ ?_
 refine kQ <| dl 1 [0,3,4,5,6,7,17] [(17,aP g)] 20 [gP g,iI 2] (some 18) 0 rfl rfl hlo (bY hBw hap) ?_
 rintro ⟨y2,hy2⟩
 refine aW [0,3,4,5,6,7,18] [] <| kC (y2) (fun h3 => ?_) (fun h3 => ?_)
 refine kG <| aW [0,3,4,5,6,7] [(5,aI x.r.next)] ?_
 exact ⟨⟨(x.r.next),⟨⟩⟩,kF 2 0 [0,3,4,5,6,7]⟩
 refine kK ?_
 exact ⟨⟨(y1.1),⟨⟩⟩,kF 2 0 [0,3,4,5,6,7]⟩
 rintro ⟨sq,-⟩
 try dsimp only
 refine kS <| bo [] (by kernel_rfl) (fun ρ σ => ?_)
 refine bD (α := {zz : Int × Nat × Int // (fun (y755 : Int) (g905 : Nat) (y956 : Int) => 0 ≤ y755 ∧ (0 < (K6.wrap ((ab x.s) + 1)) → y755 < (K6.wrap ((ab x.s) + 1)))) zz.1 zz.2.1 zz.2.2}) (fun zz => (fun (y755 : Int) (g905 : Nat) (y956 : Int) => [(8,.p 2 0)]) zz.1.1 zz.1.2.1 zz.1.2.2) [0,3,4,7,8] (fun zz => (fun (y755 : Int) (g905 : Nat) (y956 : Int) => [⟨105,[iI x.t.port,iI x.t.my,iI sq,iI (sA x.s.una y755),iI 16,iI y956,iI 0,iI (-1),.bool false,.bool false,iI 0,iI 0,.string y1.2.1]⟩]) zz.1.1 zz.1.2.1 zz.1.2.2) (fun zz => (fun (y755 : Int) (g905 : Nat) (y956 : Int) => [a9 (av w B).heap.size 3 1 (.slice (some ⟨g905,0,none⟩) 5 5) (([0,1,8,64,65535] : List Int).map az)]) zz.1.1 zz.1.2.1 zz.1.2.2) 0 (bJ 25 33554431) ?_ (fun hD7 => ?_)
 rintro ⟨⟨y755,g905,y956⟩,hy755⟩
 dsimp only [List.cons_append,List.nil_append]
 try dsimp only at hy755
 obtain ⟨hy7550,hy7551⟩ := hy755
 refine kZ <| kS <| dZ (α := {zz : Seg // (fun (sg : Seg) => sg.body.size ≤ 4096) zz}) (fun zz => (fun (sg : Seg) => (⟨[(0,aP g),(3,.p 0 0),(4,.p 1 0),(8,.p 2 0)],[⟨41,a6 x xV⟩,⟨105,eJ⟩,⟨105,cl sg⟩],[],[cF B g A J cap,sQ A J cap,bF w (fun b => b = g),a9 (av w B).heap.size 3 1 (.slice (some ⟨g905,0,none⟩) 5 5) (([0,1,8,64,65535] : List Int).map az)]⟩ : St)) zz.1) ?_ ?_
 refine kQ <| aW [0,3,4,8,45] [(45,aB y1.2.2)] <| kC (y1.2.2) (fun h1258 => ?_) (fun h1258 => ?_)
 refine kG <| bC [0,3,4,8] [] 2 ⟨105,[iI x.t.port,iI x.t.my,iI sq,iI (sA x.s.una y755),iI 17,iI y956,iI 0,iI (-1),.bool false,.bool false,iI 0,iI 0,.string y1.2.1]⟩ ?_
 exact ⟨⟨(⟨x.t.port,x.t.my,sq,sA x.s.una y755,17,y956,⟨0,(-1),false,false,0,0⟩,y1.2.1⟩),(by first | assumption | (dsimp only; assumption) | exact Nat.zero_le _)⟩,kF 3 0 [0,3,4,8]⟩
 refine kK ?_
 exact ⟨⟨(⟨x.t.port,x.t.my,sq,sA x.s.una y755,16,y956,⟨0,(-1),false,false,0,0⟩,y1.2.1⟩),(by first | assumption | (dsimp only; assumption) | exact Nat.zero_le _)⟩,kF 3 0 [0,3,4,8]⟩
 rintro ⟨sg,hsg⟩
 try dsimp only
 try dsimp only at hsg
 refine kS <| dZ (α := {zz : Seg // (fun (sh : Seg) => sh.body.size ≤ 4096) zz}) (fun zz => (fun (sh : Seg) => (⟨[(4,.p 1 0),(8,.p 2 0)],[⟨41,a6 x xV⟩,⟨105,eJ⟩,⟨105,cl sh⟩],[],[cF B g A J cap,sQ A J cap,bF w (fun b => b = g),a9 (av w B).heap.size 3 1 (.slice (some ⟨g905,0,none⟩) 5 5) (([0,1,8,64,65535] : List Int).map az)]⟩ : St)) zz.1) ?_ ?_
 refine kQ <| dl 1 [0,3,4,8,50] [(50,aP g)] 46 [gP g,iI 10] (some 51) 0 rfl rfl hlo (ar hBw hap) ?_
 rintro ⟨y1259,hy1259⟩
 obtain ⟨hy12590,hy12591⟩ := hy1259
 refine aW [0,3,4,8,51] [] <| ao <| kQ <| aW [0,3,4,8,51,52] [(52,aB (y1259 == 0))] ?_
 refine kC (y1259 == 0) (fun h1260 => ?_) (fun h1260 => ?_)
 have h1260p := cI h1260
 refine kG <| dl 1 [4,8,54] [(54,aP g)] 110 [gP g] (some 55) 0 rfl rfl hlo (l9Flags_c_K hBw hap) ?_
 rintro ⟨y1261,hy1261⟩
 refine bC [4,8] [] 2 ⟨105,cl { sg with flags := y1261 }⟩ ?_
 exact ⟨⟨({ sg with flags := y1261 }),(by first | assumption | (dsimp only; assumption) | exact Nat.zero_le _)⟩,kF 3 0 [4,8]⟩
 have h1260p := cB h1260
 refine kQ <| aW [0,3,4,8,51,57] [(57,aB (y1259 == 1))] <| kC (y1259 == 1) (fun h1262 => ?_) (fun h1262 => ?_)
 have h1262p := cI h1262
 refine kG <| dl 4 [4,8,59,62] [(59,aP g),(62,aI x.s.una)] 111 [gP g,iI x.s.una] (some 63) 0 rfl rfl hlo (l4Near_c_K hBw hap) ?_
 rintro ⟨y1263,hy1263⟩
 refine bC [4,8] [] 2 ⟨105,cl { sg with ack := y1263 }⟩ ?_
 exact ⟨⟨({ sg with ack := y1263 }),(by first | assumption | (dsimp only; assumption) | exact Nat.zero_le _)⟩,kF 3 0 [4,8]⟩
 have h1262p := cB h1262
 refine kQ <| aW [0,3,4,8,51,65] [(65,aB (y1259 == 2))] <| kC (y1259 == 2) (fun h1264 => ?_) (fun h1264 => ?_)
 have h1264p := cI h1264
 refine kG <| dl 4 [4,8,67,70] [(67,aP g),(70,aI x.r.next)] 111 [gP g,iI x.r.next] (some 71) 0 rfl rfl hlo (l4Near_c_K hBw hap) ?_
 rintro ⟨y1265,hy1265⟩
 refine cm [4,8] ⟨[(4,.p 1 0),(8,.p 2 0)],[⟨41,a6 x xV⟩,⟨105,eJ⟩,⟨105,cl { sg with seq := y1265 }⟩],[],[cF B g A J cap,sQ A J cap,bF w (fun b => b = g),a9 (av w B).heap.size 3 1 (.slice (some ⟨g905,0,none⟩) 5 5) (([0,1,8,64,65535] : List Int).map az)]⟩ ?_
 exact ⟨⟨({ sg with seq := y1265 }),(by first | assumption | (dsimp only; assumption) | exact Nat.zero_le _)⟩,kF 3 0 [4,8]⟩
 have h1264p := cB h1264
 refine kQ <| aW [4,8,73] [(73,aB (y1259 == 3))] <| kC (y1259 == 3) (fun h1266 => ?_) (fun h1266 => ?_)
 have h1266p := cI h1266
 refine kG <| cm [4,8] ⟨[(4,.p 1 0),(8,.p 2 0)],[⟨41,a6 x xV⟩,⟨105,eJ⟩,⟨105,cl { sg with body := (⟨#[]⟩ : ByteArray) }⟩],[],[cF B g A J cap,sQ A J cap,bF w (fun b => b = g),a9 (av w B).heap.size 3 1 (.slice (some ⟨g905,0,none⟩) 5 5) (([0,1,8,64,65535] : List Int).map az)]⟩ ?_
 exact ⟨⟨({ sg with body := (⟨#[]⟩ : ByteArray) }),(by first | assumption | (dsimp only; assumption) | exact Nat.zero_le _)⟩,kF 3 0 [4,8]⟩
 have h1266p := cB h1266
 refine kK ?_
 exact ⟨⟨(sg),(by first | assumption | (dsimp only; assumption) | exact Nat.zero_le _)⟩,kF 3 0 [4,8]⟩
 rintro ⟨sh,hsh⟩
 try dsimp only
 try dsimp only at hsh
 refine kQ <| dR 2 [4,8,77] [(77,aI sh.seq)] 112 [iI sh.seq] (some 78) rfl (c6 fun ww hf => fK sh.seq ww ) ?_
 intro _
 refine bC [4,8] [] 2 ⟨105,cl { sh with seq := sh.seq % 4294967296 }⟩ <| kQ <| dR 2 [4,8,81] [(81,aI sh.ack)] 112 [iI sh.ack] (some 82) rfl (c6 fun ww hf => fK sh.ack ww ) ?_
 intro _
 refine bC [4,8] [] 2 ⟨105,cl { sh with seq := sh.seq % 4294967296,ack := sh.ack % 4294967296 }⟩ <| kQ <| bC [4] [(4,.p 1 0)] 1 ⟨105,cl { sh with seq := sh.seq % 4294967296,ack := sh.ack % 4294967296 }⟩ <| kR ?_
 exact ⟨[.agg (cl { sh with seq := sh.seq % 4294967296,ack := sh.ack % 4294967296 }).toArray],by kernel_rfl,fun w' hb hf => ⟨⟨{ sh with seq := sh.seq % 4294967296,ack := sh.ack % 4294967296 },(by first | assumption | (dsimp only; assumption) | exact Nat.zero_le _)⟩,rfl,hf (cF B g A J cap) (by simp),am (hf (bF w (fun b => b = g)) (by simp)) hb rfl rfl rfl⟩⟩
 refine bD (α := {zz : Int × Nat × Int // (fun (y755 : Int) (g905 : Nat) (y956 : Int) => 0 ≤ y755 ∧ (0 < (K6.wrap ((ab x.s) + 1)) → y755 < (K6.wrap ((ab x.s) + 1)))) zz.1 zz.2.1 zz.2.2}) (fun zz => (fun (y755 : Int) (g905 : Nat) (y956 : Int) => [(8,.p 2 0),(44,.v (.agg #[iI x.t.port,iI x.t.my,iI sq,iI (sA x.s.una y755),iI 16,iI y956,iI 0,iI (-1),.bool false,.bool false,iI 0,iI 0,.string y1.2.1]))]) zz.1.1 zz.1.2.1 zz.1.2.2) [0,3,4,7,8,44] (fun zz => (fun (y755 : Int) (g905 : Nat) (y956 : Int) => [⟨105,eJ⟩]) zz.1.1 zz.1.2.1 zz.1.2.2) (fun zz => (fun (y755 : Int) (g905 : Nat) (y956 : Int) => [a9 (av w B).heap.size 3 1 (.slice (some ⟨g905,0,none⟩) 5 5) (([0,1,8,64,65535] : List Int).map az)]) zz.1.1 zz.1.2.1 zz.1.2.2) 1 (bJ 25 16777215) ?_ (fun hD6 => ?_)
 rintro ⟨⟨y755,g905,y956⟩,hy755⟩
 dsimp only [List.cons_append,List.nil_append]
 try dsimp only at hy755
 obtain ⟨hy7550,hy7551⟩ := hy755
 refine kA [24] <| dg 24 2 0 [iI x.t.port,iI x.t.my,iI sq,iI (sA x.s.una y755),iI 16,iI y956,iI 0,iI (-1),.bool false,.bool false,iI 0,iI 0,.string y1.2.1] rfl ?_
 exact ah (kF 3 0 [0,3,4,7,8]) (by kernel_rfl) (hD7 ⟨(y755,g905,y956),⟨hy7550,hy7551⟩⟩)
 refine bD (α := {zz : Int × Nat × Int // (fun (y755 : Int) (g905 : Nat) (y956 : Int) => 0 ≤ y755 ∧ (0 < (K6.wrap ((ab x.s) + 1)) → y755 < (K6.wrap ((ab x.s) + 1)))) zz.1 zz.2.1 zz.2.2}) (fun zz => (fun (y755 : Int) (g905 : Nat) (y956 : Int) => [(24,aI x.t.port),(27,aI x.t.my),(28,aI sq),(38,aI (sA x.s.una y755)),(41,aI y956),(42,.v (.agg #[iI 0,iI (-1),.bool false,.bool false,iI 0,iI 0])),(43,.v (.string y1.2.1))]) zz.1.1 zz.1.2.1 zz.1.2.2) [0,3,4,7,24,27,28,38,41,42,43] (fun _ => []) (fun zz => (fun (y755 : Int) (g905 : Nat) (y956 : Int) => [a9 (av w B).heap.size 3 1 (.slice (some ⟨g905,0,none⟩) 5 5) (([0,1,8,64,65535] : List Int).map az)]) zz.1.1 zz.1.2.1 zz.1.2.2) 3 (bJ 25 4194303) ?_ (fun hD5 => ?_)
 rintro ⟨⟨y755,g905,y956⟩,hy755⟩
 dsimp only [List.cons_append,List.nil_append]
 try dsimp only at hy755
 obtain ⟨hy7550,hy7551⟩ := hy755
 refine kX 22 (.agg #[iI x.t.port,iI x.t.my,iI sq,iI (sA x.s.una y755),iI 16,iI y956,iI 0,iI (-1),.bool false,.bool false,iI 0,iI 0,.string y1.2.1]) rfl (fun _ _ ww hA => bn [(0,iI x.t.port),(1,iI x.t.my),(2,iI sq),(3,iI (sA x.s.una y755)),(4,iI 16),(5,iI y956),(6,.agg #[iI 0,iI (-1),.bool false,.bool false,iI 0,iI 0]),(7,.string y1.2.1)] hA rfl (by kernel_rfl) (by kernel_rfl) ww) ?_
 refine kA [23] <| da 23 ⟨105,eJ⟩ _ rfl (by kernel_rfl) (by kernel_rfl) (by kernel_rfl) (by kernel_rfl) rfl ?_
 exact ah (kF 3 0 [0,3,4,7,8,44]) (by kernel_rfl) (hD6 ⟨(y755,g905,y956),⟨hy7550,hy7551⟩⟩)
 refine bD (α := {zz : Int × Nat × Int // (fun (y755 : Int) (g905 : Nat) (y956 : Int) => 0 ≤ y755 ∧ (0 < (K6.wrap ((ab x.s) + 1)) → y755 < (K6.wrap ((ab x.s) + 1)))) zz.1 zz.2.1 zz.2.2}) (fun zz => (fun (y755 : Int) (g905 : Nat) (y956 : Int) => [(8,.p 2 0),(24,aI x.t.port),(27,aI x.t.my),(28,aI sq),(38,aI (sA x.s.una y755)),(41,aI y956),(42,.v (.agg #[iI 0,iI (-1),.bool false,.bool false,iI 0,iI 0])),(43,.v (.string y1.2.1))]) zz.1.1 zz.1.2.1 zz.1.2.2) [0,3,4,7,8,24,27,28,38,41,42,43] (fun zz => (fun (y755 : Int) (g905 : Nat) (y956 : Int) => [⟨105,eJ⟩]) zz.1.1 zz.1.2.1 zz.1.2.2) (fun zz => (fun (y755 : Int) (g905 : Nat) (y956 : Int) => [a9 (av w B).heap.size 3 1 (.slice (some ⟨g905,0,none⟩) 5 5) (([0,1,8,64,65535] : List Int).map az)]) zz.1.1 zz.1.2.1 zz.1.2.2) 2 (bJ 25 12582911) ?_ (fun hD9 => ?_)
 rintro ⟨⟨y755,g905,y956⟩,hy755⟩
 dsimp only [List.cons_append,List.nil_append]
 try dsimp only at hy755
 obtain ⟨hy7550,hy7551⟩ := hy755
 refine kX 22 (.agg #[iI x.t.port,iI x.t.my,iI sq,iI (sA x.s.una y755),iI 16,iI y956,iI 0,iI (-1),.bool false,.bool false,iI 0,iI 0,.string y1.2.1]) rfl (fun _ _ ww hA => bn [(0,iI x.t.port),(1,iI x.t.my),(2,iI sq),(3,iI (sA x.s.una y755)),(4,iI 16),(5,iI y956),(6,.agg #[iI 0,iI (-1),.bool false,.bool false,iI 0,iI 0]),(7,.string y1.2.1)] hA rfl (by kernel_rfl) (by kernel_rfl) ww) ?_
 refine kA [24] <| dg 24 2 0 [iI x.t.port,iI x.t.my,iI sq,iI (sA x.s.una y755),iI 16,iI y956,iI 0,iI (-1),.bool false,.bool false,iI 0,iI 0,.string y1.2.1] rfl ?_
 exact ah (kF 3 0 [0,3,4,7,8]) (by kernel_rfl) (hD7 ⟨(y755,g905,y956),⟨hy7550,hy7551⟩⟩)
 refine bD (α := {zz : Int × Nat × Int // (fun (y755 : Int) (g905 : Nat) (y956 : Int) => 0 ≤ y755 ∧ (0 < (K6.wrap ((ab x.s) + 1)) → y755 < (K6.wrap ((ab x.s) + 1)))) zz.1 zz.2.1 zz.2.2}) (fun zz => (fun (y755 : Int) (g905 : Nat) (y956 : Int) => [(8,.p 2 0),(24,aI x.t.port),(27,aI x.t.my),(28,aI sq),(38,aI (sA x.s.una y755)),(41,aI y956),(43,.v (.string y1.2.1))]) zz.1.1 zz.1.2.1 zz.1.2.2) [0,3,4,7,8,24,27,28,38,41,43] (fun zz => (fun (y755 : Int) (g905 : Nat) (y956 : Int) => [⟨105,eJ⟩]) zz.1.1 zz.1.2.1 zz.1.2.2) (fun zz => (fun (y755 : Int) (g905 : Nat) (y956 : Int) => [a9 (av w B).heap.size 3 1 (.slice (some ⟨g905,0,none⟩) 5 5) (([0,1,8,64,65535] : List Int).map az)]) zz.1.1 zz.1.2.1 zz.1.2.2) 3 (bJ 25 11534335) ?_ (fun hD8 => ?_)
 rintro ⟨⟨y755,g905,y956⟩,hy755⟩
 dsimp only [List.cons_append,List.nil_append]
 try dsimp only at hy755
 obtain ⟨hy7550,hy7551⟩ := hy755
 refine kA [20] <| du 20 94 [] (some 42) rfl (aA fun ww hf => f3  ww ) ?_
 intro _
 exact ah (kF 3 0 [0,3,4,7,8,24,27,28,38,41,42,43]) (by kernel_rfl) (hD9 ⟨(y755,g905,y956),⟨hy7550,hy7551⟩⟩)
 refine bD (α := {zz : Int × Nat × Int // (fun (y755 : Int) (g905 : Nat) (y956 : Int) => 0 ≤ y755 ∧ (0 < (K6.wrap ((ab x.s) + 1)) → y755 < (K6.wrap ((ab x.s) + 1)))) zz.1 zz.2.1 zz.2.2}) (fun zz => (fun (y755 : Int) (g905 : Nat) (y956 : Int) => [(24,aI x.t.port),(27,aI x.t.my),(28,aI sq),(38,aI (sA x.s.una y755)),(41,aI y956),(43,.v (.string y1.2.1))]) zz.1.1 zz.1.2.1 zz.1.2.2) [0,3,4,7,24,27,28,38,41,43] (fun _ => []) (fun zz => (fun (y755 : Int) (g905 : Nat) (y956 : Int) => [a9 (av w B).heap.size 3 1 (.slice (some ⟨g905,0,none⟩) 5 5) (([0,1,8,64,65535] : List Int).map az)]) zz.1.1 zz.1.2.1 zz.1.2.2) 4 (bJ 25 3145727) ?_ (fun hD4 => ?_)
 rintro ⟨⟨y755,g905,y956⟩,hy755⟩
 dsimp only [List.cons_append,List.nil_append]
 try dsimp only at hy755
 obtain ⟨hy7550,hy7551⟩ := hy755
 refine kA [20,23] ⟨?_,?_⟩
 refine du 20 94 [] (some 42) rfl (aA fun ww hf => f3  ww ) ?_
 intro _
 exact ah (kF 2 0 [0,3,4,7,24,27,28,38,41,42,43]) (by kernel_rfl) (hD5 ⟨(y755,g905,y956),⟨hy7550,hy7551⟩⟩)
 refine da 23 ⟨105,eJ⟩ _ rfl (by kernel_rfl) (by kernel_rfl) (by kernel_rfl) (by kernel_rfl) rfl ?_
 exact ah (kF 3 0 [0,3,4,7,8,24,27,28,38,41,43]) (by kernel_rfl) (hD8 ⟨(y755,g905,y956),⟨hy7550,hy7551⟩⟩)
 refine bD (α := {zz : Int × Nat // (fun (y755 : Int) (g905 : Nat) => 0 ≤ y755 ∧ (0 < (K6.wrap ((ab x.s) + 1)) → y755 < (K6.wrap ((ab x.s) + 1)))) zz.1 zz.2}) (fun zz => (fun (y755 : Int) (g905 : Nat) => [(8,.p 2 0),(24,aI x.t.port),(27,aI x.t.my),(28,aI sq),(38,aI (sA x.s.una y755)),(39,aP g),(40,.v (.slice (some ⟨g905,0,none⟩) 5 5)),(43,.v (.string y1.2.1))]) zz.1.1 zz.1.2) [0,3,4,7,8,24,27,28,38,39,40,43] (fun zz => (fun (y755 : Int) (g905 : Nat) => [⟨105,eJ⟩]) zz.1.1 zz.1.2) (fun zz => (fun (y755 : Int) (g905 : Nat) => [a9 (av w B).heap.size 3 1 (.slice (some ⟨g905,0,none⟩) 5 5) (([0,1,8,64,65535] : List Int).map az)]) zz.1.1 zz.1.2) 4 (bJ 25 11010047) ?_ (fun hD10 => ?_)
 rintro ⟨⟨y755,g905⟩,hy755⟩
 dsimp only [List.cons_append,List.nil_append]
 try dsimp only at hy755
 obtain ⟨hy7550,hy7551⟩ := hy755
 refine kA [19] <| gi (φ := ¬ (aJ (.slice (some ⟨g905,0,none⟩) 5 5) 1 (([0,1,8,64,65535] : List Int).map az)).blk g) (fun _ _ _ _ hr => fun hb => hr.2.apart 3 0 (a9 (av w B).heap.size 3 1 (.slice (some ⟨g905,0,none⟩) 5 5) (([0,1,8,64,65535] : List Int).map az)) (cF B g A J cap) rfl rfl (by decide) rfl g (bG hb) rfl) (fun hk955 => ?_)
 refine fw 19 48 [gP g,.slice (some ⟨g905,0,none⟩) 5 5] (some 41) 0 rfl rfl hlo (a5 (a5 a8)) (bw hBw hap (fun ww hw hf => (ax (hf _ m3))) hk955 (by simp)) ?_
 rintro ⟨y956,hy956⟩
 exact ah (kF 3 0 [0,3,4,7,8,24,27,28,38,41,43]) (by kernel_rfl) (hD8 ⟨(y755,g905,y956),⟨hy7550,hy7551⟩⟩)
 refine bD (α := {zz : Int × Nat // (fun (y755 : Int) (g905 : Nat) => 0 ≤ y755 ∧ (0 < (K6.wrap ((ab x.s) + 1)) → y755 < (K6.wrap ((ab x.s) + 1)))) zz.1 zz.2}) (fun zz => (fun (y755 : Int) (g905 : Nat) => [(24,aI x.t.port),(27,aI x.t.my),(28,aI sq),(38,aI (sA x.s.una y755)),(39,aP g),(40,.v (.slice (some ⟨g905,0,none⟩) 5 5)),(43,.v (.string y1.2.1))]) zz.1.1 zz.1.2) [0,3,4,7,24,27,28,38,39,40,43] (fun _ => []) (fun zz => (fun (y755 : Int) (g905 : Nat) => [a9 (av w B).heap.size 3 1 (.slice (some ⟨g905,0,none⟩) 5 5) (([0,1,8,64,65535] : List Int).map az)]) zz.1.1 zz.1.2) 5 (bJ 25 2621439) ?_ (fun hD3 => ?_)
 rintro ⟨⟨y755,g905⟩,hy755⟩
 dsimp only [List.cons_append,List.nil_append]
 try dsimp only at hy755
 obtain ⟨hy7550,hy7551⟩ := hy755
 refine kA [19,23] ⟨?_,?_⟩
 refine gi (φ := ¬ (aJ (.slice (some ⟨g905,0,none⟩) 5 5) 1 (([0,1,8,64,65535] : List Int).map az)).blk g) (fun _ _ _ _ hr => fun hb => hr.2.apart 3 0 (a9 (av w B).heap.size 3 1 (.slice (some ⟨g905,0,none⟩) 5 5) (([0,1,8,64,65535] : List Int).map az)) (cF B g A J cap) rfl rfl (by decide) rfl g (bG hb) rfl) (fun hk955 => ?_)
 refine fw 19 48 [gP g,.slice (some ⟨g905,0,none⟩) 5 5] (some 41) 0 rfl rfl hlo (a5 (a5 a8)) (bw hBw hap (fun ww hw hf => (ax (hf _ m3))) hk955 (by simp)) ?_
 rintro ⟨y956,hy956⟩
 exact ah (kF 2 0 [0,3,4,7,24,27,28,38,41,43]) (by kernel_rfl) (hD4 ⟨(y755,g905,y956),⟨hy7550,hy7551⟩⟩)
 refine da 23 ⟨105,eJ⟩ _ rfl (by kernel_rfl) (by kernel_rfl) (by kernel_rfl) (by kernel_rfl) rfl ?_
 exact ah (kF 3 0 [0,3,4,7,8,24,27,28,38,39,40,43]) (by kernel_rfl) (hD10 ⟨(y755,g905),⟨hy7550,hy7551⟩⟩)
 refine bD (α := {zz : Int // (fun (y755 : Int) => 0 ≤ y755 ∧ (0 < (K6.wrap ((ab x.s) + 1)) → y755 < (K6.wrap ((ab x.s) + 1)))) zz}) (fun zz => (fun (y755 : Int) => [(8,.p 2 0),(24,aI x.t.port),(27,aI x.t.my),(28,aI sq),(38,aI (sA x.s.una y755)),(39,aP g),(43,.v (.string y1.2.1))]) zz.1) [0,3,4,7,8,24,27,28,38,39,43] (fun zz => (fun (y755 : Int) => [⟨105,eJ⟩]) zz.1) (fun zz => (fun (y755 : Int) => []) zz.1) 5 (bJ 25 10747903) ?_ (fun hD11 => ?_)
 rintro ⟨y755,hy755⟩
 dsimp only [List.cons_append,List.nil_append]
 try dsimp only at hy755
 obtain ⟨hy7550,hy7551⟩ := hy755
 refine kA [18] <| e5 18 rfl (a5 (a5 a8)) (aH (e := 3) (K := 1) (bytes := 8) [iI 0,iI 1,iI 8,iI 64,iI 65535] (rs := ([0,1,8,64,65535] : List Int).map az) rfl rfl) ?_
 intro g905
 exact ah (eW [1,2,3,0] <| kF 3 0 [0,3,4,7,8,24,27,28,38,39,40,43]) (by kernel_rfl) (hD10 ⟨(y755,g905),⟨hy7550,hy7551⟩⟩)
 refine cM (α := {zz : Int // (fun (y755 : Int) => 0 ≤ y755 ∧ (0 < (K6.wrap ((ab x.s) + 1)) → y755 < (K6.wrap ((ab x.s) + 1)))) zz}) (fun zz => (fun (y755 : Int) => [(24,aI x.t.port),(27,aI x.t.my),(28,aI sq),(38,aI (sA x.s.una y755)),(39,aP g),(43,.v (.string y1.2.1))]) zz.1) [0,3,4,7,24,27,28,38,39,43] 6 (bJ 25 2359295) ?_ (fun hD2 => ?_)
 rintro ⟨y755,hy755⟩
 try dsimp only
 try dsimp only at hy755
 obtain ⟨hy7550,hy7551⟩ := hy755
 refine kA [18,23] ⟨?_,?_⟩
 refine e5 18 rfl (a5 (a5 a8)) (aH (e := 3) (K := 1) (bytes := 8) [iI 0,iI 1,iI 8,iI 64,iI 65535] (rs := ([0,1,8,64,65535] : List Int).map az) rfl rfl) ?_
 intro g905
 exact ah (eW [1,2,3,0] <| kF 2 0 [0,3,4,7,24,27,28,38,39,40,43]) (by kernel_rfl) (hD3 ⟨(y755,g905),⟨hy7550,hy7551⟩⟩)
 refine da 23 ⟨105,eJ⟩ _ rfl (by kernel_rfl) (by kernel_rfl) (by kernel_rfl) (by kernel_rfl) rfl ?_
 exact ah (kF 3 0 [0,3,4,7,8,24,27,28,38,39,43]) (by kernel_rfl) (hD11 ⟨(y755),⟨hy7550,hy7551⟩⟩)
 refine bD (α := {zz : Int × Nat // (fun (y755 : Int) (g905 : Nat) => 0 ≤ y755 ∧ (0 < (K6.wrap ((ab x.s) + 1)) → y755 < (K6.wrap ((ab x.s) + 1)))) zz.1 zz.2}) (fun zz => (fun (y755 : Int) (g905 : Nat) => [(8,.p 2 0),(24,aI x.t.port),(27,aI x.t.my),(28,aI sq),(31,aI x.s.una),(37,aI y755),(39,aP g),(40,.v (.slice (some ⟨g905,0,none⟩) 5 5)),(43,.v (.string y1.2.1))]) zz.1.1 zz.1.2) [0,3,4,7,8,24,27,28,31,37,39,40,43] (fun zz => (fun (y755 : Int) (g905 : Nat) => [⟨105,eJ⟩]) zz.1.1 zz.1.2) (fun zz => (fun (y755 : Int) (g905 : Nat) => [a9 (av w B).heap.size 3 1 (.slice (some ⟨g905,0,none⟩) 5 5) (([0,1,8,64,65535] : List Int).map az)]) zz.1.1 zz.1.2) 5 (bJ 25 10944511) ?_ (fun hD13 => ?_)
 rintro ⟨⟨y755,g905⟩,hy755⟩
 dsimp only [List.cons_append,List.nil_append]
 try dsimp only at hy755
 obtain ⟨hy7550,hy7551⟩ := hy755
 refine kA [16] <| du 16 96 [iI x.s.una,iI y755] (some 38) rfl (c6 fun ww hf => bM x.s.una y755 ww ) ?_
 intro _
 exact ah (kF 3 0 [0,3,4,7,8,24,27,28,38,39,40,43]) (by kernel_rfl) (hD10 ⟨(y755,g905),⟨hy7550,hy7551⟩⟩)
 refine bD (α := {zz : Int × Nat // (fun (y755 : Int) (g905 : Nat) => 0 ≤ y755 ∧ (0 < (K6.wrap ((ab x.s) + 1)) → y755 < (K6.wrap ((ab x.s) + 1)))) zz.1 zz.2}) (fun zz => (fun (y755 : Int) (g905 : Nat) => [(24,aI x.t.port),(27,aI x.t.my),(28,aI sq),(31,aI x.s.una),(37,aI y755),(39,aP g),(40,.v (.slice (some ⟨g905,0,none⟩) 5 5)),(43,.v (.string y1.2.1))]) zz.1.1 zz.1.2) [0,3,4,7,24,27,28,31,37,39,40,43] (fun _ => []) (fun zz => (fun (y755 : Int) (g905 : Nat) => [a9 (av w B).heap.size 3 1 (.slice (some ⟨g905,0,none⟩) 5 5) (([0,1,8,64,65535] : List Int).map az)]) zz.1.1 zz.1.2) 6 (bJ 25 2555903) ?_ (fun hD12 => ?_)
 rintro ⟨⟨y755,g905⟩,hy755⟩
 dsimp only [List.cons_append,List.nil_append]
 try dsimp only at hy755
 obtain ⟨hy7550,hy7551⟩ := hy755
 refine kA [16,23] ⟨?_,?_⟩
 refine du 16 96 [iI x.s.una,iI y755] (some 38) rfl (c6 fun ww hf => bM x.s.una y755 ww ) ?_
 intro _
 exact ah (kF 2 0 [0,3,4,7,24,27,28,38,39,40,43]) (by kernel_rfl) (hD3 ⟨(y755,g905),⟨hy7550,hy7551⟩⟩)
 refine da 23 ⟨105,eJ⟩ _ rfl (by kernel_rfl) (by kernel_rfl) (by kernel_rfl) (by kernel_rfl) rfl ?_
 exact ah (kF 3 0 [0,3,4,7,8,24,27,28,31,37,39,40,43]) (by kernel_rfl) (hD13 ⟨(y755,g905),⟨hy7550,hy7551⟩⟩)
 refine bD (α := {zz : Int // (fun (y755 : Int) => 0 ≤ y755 ∧ (0 < (K6.wrap ((ab x.s) + 1)) → y755 < (K6.wrap ((ab x.s) + 1)))) zz}) (fun zz => (fun (y755 : Int) => [(8,.p 2 0),(24,aI x.t.port),(27,aI x.t.my),(28,aI sq),(31,aI x.s.una),(37,aI y755),(39,aP g),(43,.v (.string y1.2.1))]) zz.1) [0,3,4,7,8,24,27,28,31,37,39,43] (fun zz => (fun (y755 : Int) => [⟨105,eJ⟩]) zz.1) (fun zz => (fun (y755 : Int) => []) zz.1) 6 (bJ 25 10682367) ?_ (fun hD14 => ?_)
 rintro ⟨y755,hy755⟩
 dsimp only [List.cons_append,List.nil_append]
 try dsimp only at hy755
 obtain ⟨hy7550,hy7551⟩ := hy755
 refine kA [16,18] ⟨?_,?_⟩
 refine du 16 96 [iI x.s.una,iI y755] (some 38) rfl (c6 fun ww hf => bM x.s.una y755 ww ) ?_
 intro _
 exact ah (kF 3 0 [0,3,4,7,8,24,27,28,38,39,43]) (by kernel_rfl) (hD11 ⟨(y755),⟨hy7550,hy7551⟩⟩)
 refine e5 18 rfl (a5 (a5 a8)) (aH (e := 3) (K := 1) (bytes := 8) [iI 0,iI 1,iI 8,iI 64,iI 65535] (rs := ([0,1,8,64,65535] : List Int).map az) rfl rfl) ?_
 intro g905
 exact ah (eW [1,2,3,0] <| kF 3 0 [0,3,4,7,8,24,27,28,31,37,39,40,43]) (by kernel_rfl) (hD13 ⟨(y755,g905),⟨hy7550,hy7551⟩⟩)
 refine cM (α := {zz : Int // (fun (y755 : Int) => 0 ≤ y755 ∧ (0 < (K6.wrap ((ab x.s) + 1)) → y755 < (K6.wrap ((ab x.s) + 1)))) zz}) (fun zz => (fun (y755 : Int) => [(24,aI x.t.port),(27,aI x.t.my),(28,aI sq),(31,aI x.s.una),(37,aI y755),(39,aP g),(43,.v (.string y1.2.1))]) zz.1) [0,3,4,7,24,27,28,31,37,39,43] 7 (bJ 25 2293759) ?_ (fun hD1 => ?_)
 rintro ⟨y755,hy755⟩
 try dsimp only
 try dsimp only at hy755
 obtain ⟨hy7550,hy7551⟩ := hy755
 refine kA [16,18,23] ⟨?_,?_,?_⟩
 refine du 16 96 [iI x.s.una,iI y755] (some 38) rfl (c6 fun ww hf => bM x.s.una y755 ww ) ?_
 intro _
 exact ah (kF 2 0 [0,3,4,7,24,27,28,38,39,43]) (by kernel_rfl) (hD2 ⟨(y755),⟨hy7550,hy7551⟩⟩)
 refine e5 18 rfl (a5 (a5 a8)) (aH (e := 3) (K := 1) (bytes := 8) [iI 0,iI 1,iI 8,iI 64,iI 65535] (rs := ([0,1,8,64,65535] : List Int).map az) rfl rfl) ?_
 intro g905
 exact ah (eW [1,2,3,0] <| kF 2 0 [0,3,4,7,24,27,28,31,37,39,40,43]) (by kernel_rfl) (hD12 ⟨(y755,g905),⟨hy7550,hy7551⟩⟩)
 refine da 23 ⟨105,eJ⟩ _ rfl (by kernel_rfl) (by kernel_rfl) (by kernel_rfl) (by kernel_rfl) rfl ?_
 exact ah (kF 3 0 [0,3,4,7,8,24,27,28,31,37,39,43]) (by kernel_rfl) (hD14 ⟨(y755),⟨hy7550,hy7551⟩⟩)
 refine bD (α := Nat) (fun zz => (fun (g905 : Nat) => [(8,.p 2 0),(24,aI x.t.port),(27,aI x.t.my),(28,aI sq),(31,aI x.s.una),(32,aP g),(36,aI (K6.wrap ((ab x.s) + 1))),(39,aP g),(40,.v (.slice (some ⟨g905,0,none⟩) 5 5)),(43,.v (.string y1.2.1))]) zz) [0,3,4,7,8,24,27,28,31,32,36,39,40,43] (fun zz => (fun (g905 : Nat) => [⟨105,eJ⟩]) zz) (fun zz => (fun (g905 : Nat) => [a9 (av w B).heap.size 3 1 (.slice (some ⟨g905,0,none⟩) 5 5) (([0,1,8,64,65535] : List Int).map az)]) zz) 6 (bJ 25 10911743) ?_ (fun hD16 => ?_)
 intro g905
 dsimp only [List.cons_append,List.nil_append]
 refine kA [15] <| fw 15 46 [gP g,iI (K6.wrap ((ab x.s) + 1))] (some 37) 0 rfl rfl hlo (a5 (a5 a8)) (ar hBw hap) ?_
 rintro ⟨y755,hy755⟩
 obtain ⟨hy7550,hy7551⟩ := hy755
 exact ah (kF 3 0 [0,3,4,7,8,24,27,28,31,37,39,40,43]) (by kernel_rfl) (hD13 ⟨(y755,g905),⟨hy7550,hy7551⟩⟩)
 refine bD (α := Nat) (fun zz => (fun (g905 : Nat) => [(24,aI x.t.port),(27,aI x.t.my),(28,aI sq),(31,aI x.s.una),(32,aP g),(36,aI (K6.wrap ((ab x.s) + 1))),(39,aP g),(40,.v (.slice (some ⟨g905,0,none⟩) 5 5)),(43,.v (.string y1.2.1))]) zz) [0,3,4,7,24,27,28,31,32,36,39,40,43] (fun _ => []) (fun zz => (fun (g905 : Nat) => [a9 (av w B).heap.size 3 1 (.slice (some ⟨g905,0,none⟩) 5 5) (([0,1,8,64,65535] : List Int).map az)]) zz) 7 (bJ 25 2523135) ?_ (fun hD15 => ?_)
 intro g905
 dsimp only [List.cons_append,List.nil_append]
 refine kA [15,23] ⟨?_,?_⟩
 refine fw 15 46 [gP g,iI (K6.wrap ((ab x.s) + 1))] (some 37) 0 rfl rfl hlo (a5 (a5 a8)) (ar hBw hap) ?_
 rintro ⟨y755,hy755⟩
 obtain ⟨hy7550,hy7551⟩ := hy755
 exact ah (kF 2 0 [0,3,4,7,24,27,28,31,37,39,40,43]) (by kernel_rfl) (hD12 ⟨(y755,g905),⟨hy7550,hy7551⟩⟩)
 refine da 23 ⟨105,eJ⟩ _ rfl (by kernel_rfl) (by kernel_rfl) (by kernel_rfl) (by kernel_rfl) rfl ?_
 exact ah (kF 3 0 [0,3,4,7,8,24,27,28,31,32,36,39,40,43]) (by kernel_rfl) (hD16 (g905))
 refine bD (α := Unit) (fun zz => (fun (u_ : Unit) => [(8,.p 2 0),(24,aI x.t.port),(27,aI x.t.my),(28,aI sq),(31,aI x.s.una),(32,aP g),(36,aI (K6.wrap ((ab x.s) + 1))),(39,aP g),(43,.v (.string y1.2.1))]) zz) [0,3,4,7,8,24,27,28,31,32,36,39,43] (fun zz => (fun (u_ : Unit) => [⟨105,eJ⟩]) zz) (fun zz => (fun (u_ : Unit) => []) zz) 7 (bJ 25 10649599) ?_ (fun hD17 => ?_)
 intro u_
 dsimp only [List.cons_append,List.nil_append]
 refine kA [15,18] ⟨?_,?_⟩
 refine fw 15 46 [gP g,iI (K6.wrap ((ab x.s) + 1))] (some 37) 0 rfl rfl hlo (a5 (a5 a8)) (ar hBw hap) ?_
 rintro ⟨y755,hy755⟩
 obtain ⟨hy7550,hy7551⟩ := hy755
 exact ah (kF 3 0 [0,3,4,7,8,24,27,28,31,37,39,43]) (by kernel_rfl) (hD14 ⟨(y755),⟨hy7550,hy7551⟩⟩)
 refine e5 18 rfl (a5 (a5 a8)) (aH (e := 3) (K := 1) (bytes := 8) [iI 0,iI 1,iI 8,iI 64,iI 65535] (rs := ([0,1,8,64,65535] : List Int).map az) rfl rfl) ?_
 intro g905
 exact ah (eW [1,2,3,0] <| kF 3 0 [0,3,4,7,8,24,27,28,31,32,36,39,40,43]) (by kernel_rfl) (hD16 (g905))
 refine cM (α := Unit) (fun zz => (fun (u_ : Unit) => [(24,aI x.t.port),(27,aI x.t.my),(28,aI sq),(31,aI x.s.una),(32,aP g),(35,aI (ab x.s)),(39,aP g),(43,.v (.string y1.2.1))]) zz) [0,3,4,7,24,27,28,31,32,35,39,43] 9 (bJ 25 2244607) ?_ (fun hD0 => ?_)
 intro u_
 try dsimp only
 refine d9 [14] [36,0,3,4,7,24,27,28,31,32,39,43] 8 [(36,aI (K6.wrap ((ab x.s) + 1)))] <| kA [15,18,23] ⟨?_,?_,?_⟩
 refine fw 15 46 [gP g,iI (K6.wrap ((ab x.s) + 1))] (some 37) 0 rfl rfl hlo (a5 (a5 a8)) (ar hBw hap) ?_
 rintro ⟨y755,hy755⟩
 obtain ⟨hy7550,hy7551⟩ := hy755
 exact ah (kF 2 0 [0,3,4,7,24,27,28,31,37,39,43]) (by kernel_rfl) (hD1 ⟨(y755),⟨hy7550,hy7551⟩⟩)
 refine e5 18 rfl (a5 (a5 a8)) (aH (e := 3) (K := 1) (bytes := 8) [iI 0,iI 1,iI 8,iI 64,iI 65535] (rs := ([0,1,8,64,65535] : List Int).map az) rfl rfl) ?_
 intro g905
 exact ah (eW [1,2,3,0] <| kF 2 0 [0,3,4,7,24,27,28,31,32,36,39,40,43]) (by kernel_rfl) (hD15 (g905))
 refine da 23 ⟨105,eJ⟩ _ rfl (by kernel_rfl) (by kernel_rfl) (by kernel_rfl) (by kernel_rfl) rfl ?_
 exact ah (kF 3 0 [0,3,4,7,8,24,27,28,31,32,36,39,43]) (by kernel_rfl) (hD17 ())
 refine bD (α := Nat) (fun zz => (fun (g905 : Nat) => [(24,aI x.t.port),(27,aI x.t.my),(28,aI sq),(31,aI x.s.una),(32,aP g),(35,aI (ab x.s)),(39,aP g),(40,.v (.slice (some ⟨g905,0,none⟩) 5 5)),(43,.v (.string y1.2.1))]) zz) [0,3,4,7,24,27,28,31,32,35,39,40,43] (fun _ => []) (fun zz => (fun (g905 : Nat) => [a9 (av w B).heap.size 3 1 (.slice (some ⟨g905,0,none⟩) 5 5) (([0,1,8,64,65535] : List Int).map az)]) zz) 8 (bJ 25 2506751) ?_ (fun hD19 => ?_)
 intro g905
 dsimp only [List.cons_append,List.nil_append]
 refine d9 [14] [36,0,3,4,7,24,27,28,31,32,39,40,43] 7 [(36,aI (K6.wrap ((ab x.s) + 1)))] <| kA [15,23] ⟨?_,?_⟩
 refine fw 15 46 [gP g,iI (K6.wrap ((ab x.s) + 1))] (some 37) 0 rfl rfl hlo (a5 (a5 a8)) (ar hBw hap) ?_
 rintro ⟨y755,hy755⟩
 obtain ⟨hy7550,hy7551⟩ := hy755
 exact ah (kF 2 0 [0,3,4,7,24,27,28,31,37,39,40,43]) (by kernel_rfl) (hD12 ⟨(y755,g905),⟨hy7550,hy7551⟩⟩)
 refine da 23 ⟨105,eJ⟩ _ rfl (by kernel_rfl) (by kernel_rfl) (by kernel_rfl) (by kernel_rfl) rfl ?_
 exact ah (kF 3 0 [0,3,4,7,8,24,27,28,31,32,36,39,40,43]) (by kernel_rfl) (hD16 (g905))
 refine bD (α := Nat) (fun zz => (fun (g905 : Nat) => [(8,.p 2 0),(24,aI x.t.port),(27,aI x.t.my),(28,aI sq),(31,aI x.s.una),(32,aP g),(35,aI (ab x.s)),(39,aP g),(40,.v (.slice (some ⟨g905,0,none⟩) 5 5)),(43,.v (.string y1.2.1))]) zz) [0,3,4,7,8,24,27,28,31,32,35,39,40,43] (fun zz => (fun (g905 : Nat) => [⟨105,eJ⟩]) zz) (fun zz => (fun (g905 : Nat) => [a9 (av w B).heap.size 3 1 (.slice (some ⟨g905,0,none⟩) 5 5) (([0,1,8,64,65535] : List Int).map az)]) zz) 7 (bJ 25 10895359) ?_ (fun hD21 => ?_)
 intro g905
 dsimp only [List.cons_append,List.nil_append]
 refine d9 [14] [36,0,3,4,7,8,24,27,28,31,32,39,40,43] 6 [(36,aI (K6.wrap ((ab x.s) + 1)))] <| kA [15] <| fw 15 46 [gP g,iI (K6.wrap ((ab x.s) + 1))] (some 37) 0 rfl rfl hlo (a5 (a5 a8)) (ar hBw hap) ?_
 rintro ⟨y755,hy755⟩
 obtain ⟨hy7550,hy7551⟩ := hy755
 exact ah (kF 3 0 [0,3,4,7,8,24,27,28,31,37,39,40,43]) (by kernel_rfl) (hD13 ⟨(y755,g905),⟨hy7550,hy7551⟩⟩)
 refine bD (α := Nat) (fun zz => (fun (g905 : Nat) => [(8,.p 2 0),(24,aI x.t.port),(27,aI x.t.my),(28,aI sq),(31,aI x.s.una),(32,aP g),(34,.v (.agg (ai x.s).toArray)),(39,aP g),(40,.v (.slice (some ⟨g905,0,none⟩) 5 5)),(43,.v (.string y1.2.1))]) zz) [0,3,4,7,8,24,27,28,31,32,34,39,40,43] (fun zz => (fun (g905 : Nat) => [⟨105,eJ⟩]) zz) (fun zz => (fun (g905 : Nat) => [a9 (av w B).heap.size 3 1 (.slice (some ⟨g905,0,none⟩) 5 5) (([0,1,8,64,65535] : List Int).map az)]) zz) 8 (bJ 25 10887167) ?_ (fun hD20 => ?_)
 intro g905
 dsimp only [List.cons_append,List.nil_append]
 refine kA [13] <| du 13 109 [.agg (ai x.s).toArray] (some 35) rfl (aA fun ww hf => dE x.s.una x.s.data x.s.sent x.s.fin x.s.finSent x.s.done ww ) ?_
 intro _
 exact ah (kF 3 0 [0,3,4,7,8,24,27,28,31,32,35,39,40,43]) (by kernel_rfl) (hD21 (g905))
 refine bD (α := Nat) (fun zz => (fun (g905 : Nat) => [(24,aI x.t.port),(27,aI x.t.my),(28,aI sq),(31,aI x.s.una),(32,aP g),(34,.v (.agg (ai x.s).toArray)),(39,aP g),(40,.v (.slice (some ⟨g905,0,none⟩) 5 5)),(43,.v (.string y1.2.1))]) zz) [0,3,4,7,24,27,28,31,32,34,39,40,43] (fun _ => []) (fun zz => (fun (g905 : Nat) => [a9 (av w B).heap.size 3 1 (.slice (some ⟨g905,0,none⟩) 5 5) (([0,1,8,64,65535] : List Int).map az)]) zz) 9 (bJ 25 2498559) ?_ (fun hD18 => ?_)
 intro g905
 dsimp only [List.cons_append,List.nil_append]
 refine kA [13,23] ⟨?_,?_⟩
 refine du 13 109 [.agg (ai x.s).toArray] (some 35) rfl (aA fun ww hf => dE x.s.una x.s.data x.s.sent x.s.fin x.s.finSent x.s.done ww ) ?_
 intro _
 exact ah (kF 2 0 [0,3,4,7,24,27,28,31,32,35,39,40,43]) (by kernel_rfl) (hD19 (g905))
 refine da 23 ⟨105,eJ⟩ _ rfl (by kernel_rfl) (by kernel_rfl) (by kernel_rfl) (by kernel_rfl) rfl ?_
 exact ah (kF 3 0 [0,3,4,7,8,24,27,28,31,32,34,39,40,43]) (by kernel_rfl) (hD20 (g905))
 refine bD (α := Unit) (fun zz => (fun (u_ : Unit) => [(8,.p 2 0),(24,aI x.t.port),(27,aI x.t.my),(28,aI sq),(31,aI x.s.una),(32,aP g),(35,aI (ab x.s)),(39,aP g),(43,.v (.string y1.2.1))]) zz) [0,3,4,7,8,24,27,28,31,32,35,39,43] (fun zz => (fun (u_ : Unit) => [⟨105,eJ⟩]) zz) (fun zz => (fun (u_ : Unit) => []) zz) 8 (bJ 25 10633215) ?_ (fun hD23 => ?_)
 intro u_
 dsimp only [List.cons_append,List.nil_append]
 refine d9 [14] [36,0,3,4,7,8,24,27,28,31,32,39,43] 7 [(36,aI (K6.wrap ((ab x.s) + 1)))] <| kA [15,18] ⟨?_,?_⟩
 refine fw 15 46 [gP g,iI (K6.wrap ((ab x.s) + 1))] (some 37) 0 rfl rfl hlo (a5 (a5 a8)) (ar hBw hap) ?_
 rintro ⟨y755,hy755⟩
 obtain ⟨hy7550,hy7551⟩ := hy755
 exact ah (kF 3 0 [0,3,4,7,8,24,27,28,31,37,39,43]) (by kernel_rfl) (hD14 ⟨(y755),⟨hy7550,hy7551⟩⟩)
 refine e5 18 rfl (a5 (a5 a8)) (aH (e := 3) (K := 1) (bytes := 8) [iI 0,iI 1,iI 8,iI 64,iI 65535] (rs := ([0,1,8,64,65535] : List Int).map az) rfl rfl) ?_
 intro g905
 exact ah (eW [1,2,3,0] <| kF 3 0 [0,3,4,7,8,24,27,28,31,32,36,39,40,43]) (by kernel_rfl) (hD16 (g905))
 refine bD (α := Unit) (fun zz => (fun (u_ : Unit) => [(8,.p 2 0),(24,aI x.t.port),(27,aI x.t.my),(28,aI sq),(31,aI x.s.una),(32,aP g),(34,.v (.agg (ai x.s).toArray)),(39,aP g),(43,.v (.string y1.2.1))]) zz) [0,3,4,7,8,24,27,28,31,32,34,39,43] (fun zz => (fun (u_ : Unit) => [⟨105,eJ⟩]) zz) (fun zz => (fun (u_ : Unit) => []) zz) 9 (bJ 25 10625023) ?_ (fun hD22 => ?_)
 intro u_
 dsimp only [List.cons_append,List.nil_append]
 refine kA [13,18] ⟨?_,?_⟩
 refine du 13 109 [.agg (ai x.s).toArray] (some 35) rfl (aA fun ww hf => dE x.s.una x.s.data x.s.sent x.s.fin x.s.finSent x.s.done ww ) ?_
 intro _
 exact ah (kF 3 0 [0,3,4,7,8,24,27,28,31,32,35,39,43]) (by kernel_rfl) (hD23 ())
 refine e5 18 rfl (a5 (a5 a8)) (aH (e := 3) (K := 1) (bytes := 8) [iI 0,iI 1,iI 8,iI 64,iI 65535] (rs := ([0,1,8,64,65535] : List Int).map az) rfl rfl) ?_
 intro g905
 exact ah (eW [1,2,3,0] <| kF 3 0 [0,3,4,7,8,24,27,28,31,32,34,39,40,43]) (by kernel_rfl) (hD20 (g905))
 refine d9 [0,1,2,3,4,5,6,7,8,9,10,11,12,17,21] [43,39,34,32,31,28,27,24,0,3,4,7] 10 [(43,.v (.string y1.2.1)),(39,aP g),(34,.v (.agg (ai x.s).toArray)),(32,aP g),(31,aI x.s.una),(28,aI sq),(27,aI x.t.my),(24,aI x.t.port)] <| kA [13,18,23] ⟨?_,?_,?_⟩
 refine du 13 109 [.agg (ai x.s).toArray] (some 35) rfl (aA fun ww hf => dE x.s.una x.s.data x.s.sent x.s.fin x.s.finSent x.s.done ww ) ?_
 intro _
 exact ah (kF 2 0 [0,3,4,7,24,27,28,31,32,35,39,43]) (by kernel_rfl) (hD0 ())
 refine e5 18 rfl (a5 (a5 a8)) (aH (e := 3) (K := 1) (bytes := 8) [iI 0,iI 1,iI 8,iI 64,iI 65535] (rs := ([0,1,8,64,65535] : List Int).map az) rfl rfl) ?_
 intro g905
 exact ah (eW [1,2,3,0] <| kF 2 0 [0,3,4,7,24,27,28,31,32,34,39,40,43]) (by kernel_rfl) (hD18 (g905))
 refine da 23 ⟨105,eJ⟩ _ rfl (by kernel_rfl) (by kernel_rfl) (by kernel_rfl) (by kernel_rfl) rfl ?_
 exact ah (kF 3 0 [0,3,4,7,8,24,27,28,31,32,34,39,43]) (by kernel_rfl) (hD22 ())
theorem gv {g : Nat} {J : List Int} {A : Option Addr} {cap : Nat} {x : Con} {xV : Value} {w0 : World} {fs : List Fact} {B : Nat} (hB : B ≤ w0.heap.size) (hap : ¬ (sQ A J cap).blk g)  (hn : J.length ≤ 1048576 := by omega) (h1 : cF B g A J cap ∈ fs := by simp) (h2 : sQ A J cap ∈ fs := by simp) : XCM Tryz.prog w0 fs (cF B g A J cap).blk 82 [gP g, .agg (a6 x xV).toArray] (α := {y : Seg // y.body.size ≤ 4096}) (fun y => .agg (cl y.1).toArray) (fun _ => [cF B g A J cap]) := dw fun w hw hf => l19Segment_c g J A cap x xV w B (Nat.le_trans hB hw) (hf _ h1) (hf _ h2) hap hn  
theorem l19Conn_c (g : Nat) (J : List Int) (A : Option Addr) (cap : Nat) (w : World) (B : Nat) (hB : B ≤ w.heap.size) (hc : (cF B g A J cap).p w) (hl : Sl w (sJ A J cap) 1 (J.map bR)) (hap : ¬ (sQ A J cap).blk g) (hn : J.length ≤ 1048576) : Calls Tryz.prog 52 #[gP g] w fun e w' => ∃ y : {y : Con × (Option Addr × Nat) // RB 4 y.1.r}, e = .returned (.agg (a6 y.1.1 (.slice y.1.2.1 y.1.1.r.held.length y.1.2.2)).toArray) ∧ (cF B g A J cap).p w' ∧ (f7 w.heap.size (.slice y.1.2.1 y.1.1.r.held.length y.1.2.2) 2 (y.1.1.r.held.map pC)).p w' ∧ g < w.heap.size ∧ Chgd (fun b => b = g) w w' := by
 have hq_code := Sl.capLe hl
 have hBw : B ≤ (av w B).heap.size := Nat.le_of_eq (aM hB).symm
 have hlo : ∀ (ww : World) (b : Nat),(cF B g A J cap).p ww → (cF B g A J cap).blk b → (av w B).heap.size ≤ b := fun ww b h hb => Nat.le_trans (cf w B) (d3 h hb)
 refine fz (args := [gP g]) (fn := Tryz.f52) [cF B g A J cap,sQ A J cap,bF w (fun b => b = g)] B Tryz.func52 rfl Tryz.ntmps52 rfl hB (by simp only [List.mem_cons,List.not_mem_nil,or_false,forall_eq_or_imp,forall_eq]; exact ⟨hc,hl,bT w _⟩) (c5 hap rfl) ?_
 have hgl : g < w.heap.size := (cF B g A J cap).lt w g hc rfl
 refine kQ <| cm [0,2] ⟨[(0,aP g),(2,.p 0 0)],[⟨41,cN⟩],[],[cF B g A J cap,sQ A J cap,bF w (fun b => b = g)]⟩ <| kQ <| dl 1 [0,2,6] [(6,aP g)] 47 [gP g] (some 7) 0 rfl rfl hlo (fO hBw hap) ?_
 rintro ⟨y1,hy1⟩
 refine dl 1 [0,2,7,8] [(8,aP g)] 74 [gP g] (some 9) 0 rfl rfl hlo (dz hBw hap) ?_
 rintro ⟨y2,hy2⟩
 refine dl 1 [0,2,7,9,10] [(10,aP g)] 74 [gP g] (some 11) 0 rfl rfl hlo (dz hBw hap) ?_
 rintro ⟨y3,hy3⟩
 refine dl 1 [0,2,7,9,11,12] [(12,aP g)] 75 [gP g] (some 13) 0 rfl rfl hlo (l8Options_c_K hBw hap) ?_
 rintro ⟨y4,hy4⟩
 refine kHD 1 [0,2,7,9,11,13,14] [(14,aP g)] rfl (aH (e := 3) (K := 1) (bytes := 8) [iI 0,iI 4,iI 64,iI 65535] (rs := ([0,4,64,65535] : List Int).map az) rfl rfl) ?_
 intro g5
 refine dK (φ := ¬ (aJ (.slice (some ⟨g5,0,none⟩) 4 4) 1 (([0,4,64,65535] : List Int).map az)).blk g) (fun _ _ _ _ hr => fun hb => hr.2.apart 0 1 (a9 (av w B).heap.size 3 1 (.slice (some ⟨g5,0,none⟩) 4 4) (([0,4,64,65535] : List Int).map az)) (cF B g A J cap) rfl rfl (by decide) rfl g (bG hb) rfl) (fun hk6 => ?_)
 refine dl 0 [0,2,7,9,11,13,14,15] [] 48 [gP g,.slice (some ⟨g5,0,none⟩) 4 4] (some 16) 1 rfl rfl hlo (bw hBw hap (fun ww hw hf => (ax (hf _ m0))) hk6 (by simp)) ?_
 rintro ⟨y7,hy7⟩
 refine dR 0 [0,2,7,9,11,13,16] [] 73 [.agg (bX y1).toArray,iI y2,iI y3,.agg (dH y4).toArray,iI y7] (some 17) rfl (cb fun ww hw hf => ysConnNew_c y1 y2 y3 y4 y7 ww   ((av w B).heap.size) hw) ?_
 rintro ⟨v8a,v8c⟩
 have hbd9 : (cD y1 y2 y3 y4 y7).r.held.length ≤ 1048576 := connNew_bd _ _ _ _ _  (by omega)
 refine gk [0,2,3] [(3,.p 1 0)] [⟨41,a6 (cD y1 y2 y3 y4 y7) (.slice v8a ((cD y1 y2 y3 y4 y7).r.held.length) v8c)⟩] <| kQ <| dl 1 [0,2,3,18] [(18,aP g)] 46 [gP g,iI 9] (some 19) 1 rfl rfl hlo (ar hBw hap) ?_
 rintro ⟨y10,hy10⟩
 obtain ⟨hy100,hy101⟩ := hy10
 refine aW [0,2,3,4] [(4,aI y10)] <| kS <| kQ <| aT [0,2,3,4,5] [(0,aP g),(2,.p 0 0),(3,.p 1 0),(4,aI y10),(5,aI 0)] ?_
 refine ao <| bc (α := {x : Nat × Con × Option Addr × Nat // (fun (i : Nat) (x : Con) (A1 : Option Addr) (c1 : Nat) => (i : Int) ≤ y10 ∧ RB 3 x.r) x.1 x.2.1 x.2.2.1 x.2.2.2}) (fun x => (fun (i : Nat) (x : Con) (A1 : Option Addr) (c1 : Nat) => (⟨[(0,aP g),(2,.p 0 0),(3,.p 1 0),(4,aI y10),(5,aI (i : Int))],[⟨41,cN⟩,⟨41,a6 x (cS A1 x c1)⟩],[],[bm (av w B).heap.size (cS A1 x c1) 2 (x.r.held.map pC),cF B g A J cap,a9 (av w B).heap.size 3 1 (.slice (some ⟨g5,0,none⟩) 4 4) (([0,4,64,65535] : List Int).map az),sQ A J cap,bF w (fun b => b = g)]⟩ : St)) x.1.1 x.1.2.1 x.1.2.2.1 x.1.2.2.2) (fun x => (fun (i : Nat) (x : Con) (A1 : Option Addr) (c1 : Nat) => (y10).toNat - i) x.1.1 x.1.2.1 x.1.2.2.1 x.1.2.2.2) ⟨(0,(cD y1 y2 y3 y4 y7),v8a,v8c),⟨(by omega),RB.newC _ _ _ _ _⟩⟩ (eW [1,0,2,3,4] <| kF 2 0 [0,2,3,4,5]) ?_
 rintro ⟨⟨i,x,A1,c1⟩,hi,hrb⟩
 try dsimp only
 try dsimp only at hi hrb
 have hkn := hrb.up.kn; have hm := hrb.hm; have hsz := hrb.sz
 refine kS <| kQ <| aW [0,2,3,4,5,22] [(22,aB (decide ((i : Int) < y10)))] <| kC (decide ((i : Int) < y10)) (fun h11 => ?_) (fun h11 => ?_)
 have h11p := of_decide_eq_true h11
 have hlt :  (i : Int) < y10 := of_decide_eq_true h11
 refine kK <| kS <| dZ (α := {zz : Con × Option Addr × Nat // (fun (x2 : Con) (A4 : Option Addr) (c4 : Nat) => RB 3 x2.r) zz.1 zz.2.1 zz.2.2}) (fun zz => (fun (x2 : Con) (A4 : Option Addr) (c4 : Nat) => (⟨[(0,aP g),(2,.p 0 0),(3,.p 1 0),(4,aI y10),(5,aI (i : Int))],[⟨41,cN⟩,⟨41,a6 x2 (cS A4 x2 c4)⟩],[],[bm (av w B).heap.size (cS A4 x2 c4) 2 (x2.r.held.map pC),cF B g A J cap,a9 (av w B).heap.size 3 1 (.slice (some ⟨g5,0,none⟩) 4 4) (([0,4,64,65535] : List Int).map az),sQ A J cap,bF w (fun b => b = g)]⟩ : St)) zz.1.1 zz.1.2.1 zz.1.2.2) ?_ ?_
 refine ao <| kQ <| dl 1 [0,2,3,4,5,25] [(25,aP g)] 46 [gP g,iI 8] (some 26) 1 rfl rfl hlo (ar hBw hap) ?_
 rintro ⟨y12,hy12⟩
 obtain ⟨hy120,hy121⟩ := hy12
 refine aW [0,2,3,4,5,26] [] <| ao <| kQ <| aW [0,2,3,4,5,26,36] [(36,aB (y12 == 0))] ?_
 refine kC (y12 == 0) (fun h13 => ?_) (fun h13 => ?_)
 have h13p := cI h13
 refine bo [true,false] (by kernel_rfl) (fun ρ σ => ?_)
 refine d9 [1,2] [41,40,0,2,3,4,5] 10 [(41,aP g),(40,aP g)] <| kA [0,3] ⟨?_,?_⟩
 refine ev 0 (.v (.agg (a6 x (cS A1 x c1)).toArray)) rfl <| kA [3] <| fw 3 46 [gP g,iI 20] (some 42) 0 rfl rfl hlo (a5 (ap rfl a8)) (ar hBw hap) ?_
 rintro ⟨y14,hy14⟩
 obtain ⟨hy140,hy141⟩ := hy14
 refine kA [4] <| fw 4 77 [gP g,iI y14] (some 43) 0 rfl rfl hlo (a5 (ap rfl a8)) (eC fun ww hw hf => fy g J A cap y14 ww B (Nat.le_trans (by first | exact Nat.le_refl _ | exact Nat.le_of_eq (aM hB).symm) hw) (hf (cF B g A J cap) (by simp)) (hf _ m3) hap (by omega) (by omega)) ?_
 rintro ⟨⟨b15l,b15a,b15c⟩,hb15⟩
 dsimp only at hb15
 refine kA [5] <| kSR 5 (.string (af b15l)) rfl (fun _ _ ww hr => dv (e := 5) b15l hr.1 rfl (by kernel_rfl) (by kernel_rfl) (by kernel_rfl) rfl (ax (hr.2.fact (a9 (av w B).heap.size 5 1 (.slice b15a b15l.length b15c) (b15l.map bR)) (by simp)).1)) ?_
 refine kA [6] <| du 6 76 [.agg (a6 x (cS A1 x c1)).toArray,.string (af b15l)] (some 45) rfl (cb fun ww hw hf => ysWrite_c x (cS A1 x c1) (af b15l) ww (Own.sl (hf _ m2)) (by assumption) (by assumption) (by omega) (by first | omega | (rw [d4]; omega) | decide) ((av w B).heap.size) hw) ?_
 rintro ⟨⟨v16a,v16c⟩,⟨v17a,v17c⟩⟩
 have hbd18 : (write x (af b15l)).1.r.held.length ≤ 1048576 ∧ (write x (af b15l)).2.2.length ≤ 49 := write_bd _ _  (by omega)
 have hbd18a := hbd18.1; have hbd18b := hbd18.2
 refine d9 [7,8,9,10] [46,0,2,3,4,5] 1 [(46,.v (.agg (a6 (write x (af b15l)).1 (.slice v16a ((write x (af b15l)).1.r.held.length) v16c)).toArray))] <| kA [11] <| dg 11 1 0 (a6 (write x (af b15l)).1 (.slice v16a ((write x (af b15l)).1.r.held.length) v16c)) rfl <| kZ ?_
 exact ⟨⟨((write x (af b15l)).1,v16a,v16c),(by first | exact RB.write hrb _ | exact RB.tick hrb | exact RB.shut hrb | exact RB.read hrb _ | exact RB.recv hrb (by omega) _ | exact hrb)⟩,eW [0,3,5,6,7] <| kF 2 0 [0,2,3,4,5]⟩
 refine fw 3 46 [gP g,iI 20] (some 42) 0 rfl rfl hlo (a5 (ap rfl a8)) (ar hBw hap) ?_
 rintro ⟨y19,hy19⟩
 obtain ⟨hy190,hy191⟩ := hy19
 refine kA [0,4] ⟨?_,?_⟩
 refine ev 0 (.v (.agg (a6 x (cS A1 x c1)).toArray)) rfl <| kA [4] <| fw 4 77 [gP g,iI y19] (some 43) 0 rfl rfl hlo (a5 (ap rfl a8)) (eC fun ww hw hf => fy g J A cap y19 ww B (Nat.le_trans (by first | exact Nat.le_refl _ | exact Nat.le_of_eq (aM hB).symm) hw) (hf (cF B g A J cap) (by simp)) (hf _ m3) hap (by omega) (by omega)) ?_
 rintro ⟨⟨b20l,b20a,b20c⟩,hb20⟩
 dsimp only at hb20
 refine kA [5] <| kSR 5 (.string (af b20l)) rfl (fun _ _ ww hr => dv (e := 5) b20l hr.1 rfl (by kernel_rfl) (by kernel_rfl) (by kernel_rfl) rfl (ax (hr.2.fact (a9 (av w B).heap.size 5 1 (.slice b20a b20l.length b20c) (b20l.map bR)) (by simp)).1)) ?_
 refine kA [6] <| du 6 76 [.agg (a6 x (cS A1 x c1)).toArray,.string (af b20l)] (some 45) rfl (cb fun ww hw hf => ysWrite_c x (cS A1 x c1) (af b20l) ww (Own.sl (hf _ m2)) (by assumption) (by assumption) (by omega) (by first | omega | (rw [d4]; omega) | decide) ((av w B).heap.size) hw) ?_
 rintro ⟨⟨v21a,v21c⟩,⟨v22a,v22c⟩⟩
 have hbd23 : (write x (af b20l)).1.r.held.length ≤ 1048576 ∧ (write x (af b20l)).2.2.length ≤ 49 := write_bd _ _  (by omega)
 have hbd23a := hbd23.1; have hbd23b := hbd23.2
 refine d9 [7,8,9,10] [46,0,2,3,4,5] 1 [(46,.v (.agg (a6 (write x (af b20l)).1 (.slice v21a ((write x (af b20l)).1.r.held.length) v21c)).toArray))] <| kA [11] <| dg 11 1 0 (a6 (write x (af b20l)).1 (.slice v21a ((write x (af b20l)).1.r.held.length) v21c)) rfl <| kZ ?_
 exact ⟨⟨((write x (af b20l)).1,v21a,v21c),(by first | exact RB.write hrb _ | exact RB.tick hrb | exact RB.shut hrb | exact RB.read hrb _ | exact RB.recv hrb (by omega) _ | exact hrb)⟩,eW [0,3,5,6,7] <| kF 2 0 [0,2,3,4,5]⟩
 refine fw 4 77 [gP g,iI y19] (some 43) 0 rfl rfl hlo (a5 (ap rfl a8)) (eC fun ww hw hf => fy g J A cap y19 ww B (Nat.le_trans (by first | exact Nat.le_refl _ | exact Nat.le_of_eq (aM hB).symm) hw) (hf (cF B g A J cap) (by simp)) (hf _ m3) hap (by omega) (by omega)) ?_
 rintro ⟨⟨b24l,b24a,b24c⟩,hb24⟩
 dsimp only at hb24
 refine kA [0,5] ⟨?_,?_⟩
 refine ev 0 (.v (.agg (a6 x (cS A1 x c1)).toArray)) rfl <| kA [5] <| kSR 5 (.string (af b24l)) rfl (fun _ _ ww hr => dv (e := 5) b24l hr.1 rfl (by kernel_rfl) (by kernel_rfl) (by kernel_rfl) rfl (ax (hr.2.fact (a9 (av w B).heap.size 5 1 (.slice b24a b24l.length b24c) (b24l.map bR)) (by simp)).1)) ?_
 refine kA [6] <| du 6 76 [.agg (a6 x (cS A1 x c1)).toArray,.string (af b24l)] (some 45) rfl (cb fun ww hw hf => ysWrite_c x (cS A1 x c1) (af b24l) ww (Own.sl (hf _ m2)) (by assumption) (by assumption) (by omega) (by first | omega | (rw [d4]; omega) | decide) ((av w B).heap.size) hw) ?_
 rintro ⟨⟨v25a,v25c⟩,⟨v26a,v26c⟩⟩
 have hbd27 : (write x (af b24l)).1.r.held.length ≤ 1048576 ∧ (write x (af b24l)).2.2.length ≤ 49 := write_bd _ _  (by omega)
 have hbd27a := hbd27.1; have hbd27b := hbd27.2
 refine d9 [7,8,9,10] [46,0,2,3,4,5] 1 [(46,.v (.agg (a6 (write x (af b24l)).1 (.slice v25a ((write x (af b24l)).1.r.held.length) v25c)).toArray))] <| kA [11] <| dg 11 1 0 (a6 (write x (af b24l)).1 (.slice v25a ((write x (af b24l)).1.r.held.length) v25c)) rfl <| kZ ?_
 exact ⟨⟨((write x (af b24l)).1,v25a,v25c),(by first | exact RB.write hrb _ | exact RB.tick hrb | exact RB.shut hrb | exact RB.read hrb _ | exact RB.recv hrb (by omega) _ | exact hrb)⟩,eW [0,3,5,6,7] <| kF 2 0 [0,2,3,4,5]⟩
 refine kSR 5 (.string (af b24l)) rfl (fun _ _ ww hr => dv (e := 5) b24l hr.1 rfl (by kernel_rfl) (by kernel_rfl) (by kernel_rfl) rfl (ax (hr.2.fact (a9 (av w B).heap.size 5 1 (.slice b24a b24l.length b24c) (b24l.map bR)) (by simp)).1)) ?_
 refine kA [0] <| ev 0 (.v (.agg (a6 x (cS A1 x c1)).toArray)) rfl <| kA [6] <| du 6 76 [.agg (a6 x (cS A1 x c1)).toArray,.string (af b24l)] (some 45) rfl (cb fun ww hw hf => ysWrite_c x (cS A1 x c1) (af b24l) ww (Own.sl (hf _ m2)) (by assumption) (by assumption) (by omega) (by first | omega | (rw [d4]; omega) | decide) ((av w B).heap.size) hw) ?_
 rintro ⟨⟨v28a,v28c⟩,⟨v29a,v29c⟩⟩
 have hbd30 : (write x (af b24l)).1.r.held.length ≤ 1048576 ∧ (write x (af b24l)).2.2.length ≤ 49 := write_bd _ _  (by omega)
 have hbd30a := hbd30.1; have hbd30b := hbd30.2
 refine d9 [7,8,9,10] [46,0,2,3,4,5] 1 [(46,.v (.agg (a6 (write x (af b24l)).1 (.slice v28a ((write x (af b24l)).1.r.held.length) v28c)).toArray))] <| kA [11] <| dg 11 1 0 (a6 (write x (af b24l)).1 (.slice v28a ((write x (af b24l)).1.r.held.length) v28c)) rfl <| kZ ?_
 exact ⟨⟨((write x (af b24l)).1,v28a,v28c),(by first | exact RB.write hrb _ | exact RB.tick hrb | exact RB.shut hrb | exact RB.read hrb _ | exact RB.recv hrb (by omega) _ | exact hrb)⟩,eW [0,3,5,6,7] <| kF 2 0 [0,2,3,4,5]⟩
 have h13p := cB h13
 refine kQ <| aW [0,2,3,4,5,26,49] [(49,aB (y12 == 1))] <| kC (y12 == 1) (fun h31 => ?_) (fun h31 => ?_)
 have h31p := cI h31
 refine kG <| dR 1 [0,2,3,4,5,52] [(52,.v (.agg (a6 x (cS A1 x c1)).toArray))] 78 [.agg (a6 x (cS A1 x c1)).toArray] (some 53) rfl (cb fun ww hw hf => ysTickConn_c x (cS A1 x c1) ww (Own.sl (hf _ m1)) (by assumption) (by assumption) (by omega) ((av w B).heap.size) hw) ?_
 rintro ⟨⟨v32a,v32c⟩,⟨v33a,v33c⟩⟩
 have hbd34 : (aK x).1.r.held.length ≤ 1048576 ∧ (aK x).2.length ≤ 49 := tickConn_bd _  (by omega)
 have hbd34a := hbd34.1; have hbd34b := hbd34.2
 refine bC [0,2,3,4,5] [] 1 ⟨41,a6 (aK x).1 (.slice v32a ((aK x).1.r.held.length) v32c)⟩ ?_
 exact ⟨⟨((aK x).1,v32a,v32c),(by first | exact RB.write hrb _ | exact RB.tick hrb | exact RB.shut hrb | exact RB.read hrb _ | exact RB.recv hrb (by omega) _ | exact hrb)⟩,eW [0,2,4,5,6] <| kF 2 0 [0,2,3,4,5]⟩
 have h31p := cB h31
 refine kQ <| aW [0,2,3,4,5,26,56] [(56,aB (y12 == 2))] <| kC (y12 == 2) (fun h35 => ?_) (fun h35 => ?_)
 have h35p := cI h35
 refine kQ <| dl 1 [0,2,3,4,5,58] [(58,aP g)] 20 [gP g,iI 2] (some 59) 0 rfl rfl hlo (bY hBw hap) ?_
 rintro ⟨y36,hy36⟩
 refine aW [0,2,3,4,5,59] [] <| kC (y36) (fun h37 => ?_) (fun h37 => ?_)
 refine kG <| dR 1 [0,2,3,4,5,61] [(61,.v (.agg (a6 x (cS A1 x c1)).toArray))] 79 [.agg (a6 x (cS A1 x c1)).toArray] (some 62) rfl (cb fun ww hw hf => ysShut_c x (cS A1 x c1) ww (Own.sl (hf _ m1)) (by assumption) (by assumption) (by omega) ((av w B).heap.size) hw) ?_
 rintro ⟨⟨v38a,v38c⟩,⟨v39a,v39c⟩⟩
 have hbd40 : (shut x).1.r.held.length ≤ 1048576 ∧ (shut x).2.length ≤ 49 := shut_bd _  (by omega)
 have hbd40a := hbd40.1; have hbd40b := hbd40.2
 refine bC [0,2,3,4,5] [] 1 ⟨41,a6 (shut x).1 (.slice v38a ((shut x).1.r.held.length) v38c)⟩ ?_
 exact ⟨⟨((shut x).1,v38a,v38c),(by first | exact RB.write hrb _ | exact RB.tick hrb | exact RB.shut hrb | exact RB.read hrb _ | exact RB.recv hrb (by omega) _ | exact hrb)⟩,eW [0,2,4,5,6] <| kF 2 0 [0,2,3,4,5]⟩
 refine kK ?_
 exact ⟨⟨(x,A1,c1),(by first | exact RB.write hrb _ | exact RB.tick hrb | exact RB.shut hrb | exact RB.read hrb _ | exact RB.recv hrb (by omega) _ | exact hrb)⟩,eW [1,0,2,3,4] <| kF 2 0 [0,2,3,4,5]⟩
 have h35p := cB h35
 refine kQ <| aW [0,2,3,4,5,65] [(65,aB (y12 == 3))] <| kC (y12 == 3) (fun h41 => ?_) (fun h41 => ?_)
 have h41p := cI h41
 refine bo [true,false] (by kernel_rfl) (fun ρ σ => ?_)
 refine d9 [1] [69,0,2,3,4,5] 8 [(69,aP g)] <| kA [0,2] ⟨?_,?_⟩
 refine ev 0 (.v (.agg (a6 x (cS A1 x c1)).toArray)) rfl <| kA [2] <| fw 2 46 [gP g,iI 9] (some 70) 0 rfl rfl hlo (a5 (ap rfl a8)) (ar hBw hap) ?_
 rintro ⟨y42,hy42⟩
 obtain ⟨hy420,hy421⟩ := hy42
 refine kA [3] <| du 3 80 [.agg (a6 x (cS A1 x c1)).toArray,iI y42] (some 71) rfl (cb fun ww hw hf => ysReadConn_c x (cS A1 x c1) y42 ww (Own.sl (hf _ m1)) (by assumption) (by assumption) (by omega) ((av w B).heap.size) hw) ?_
 rintro ⟨⟨v43a,v43c⟩,⟨v44a,v44c⟩⟩
 have hbd45 : (bh x y42).1.r.held.length ≤ 1048576 ∧ (bh x y42).2.2.length ≤ 1 := readConn_bd _ _  (by omega)
 have hbd45a := hbd45.1; have hbd45b := hbd45.2
 refine d9 [4,5,6,7] [72,0,2,3,4,5] 1 [(72,.v (.agg (a6 (bh x y42).1 (.slice v43a ((bh x y42).1.r.held.length) v43c)).toArray))] <| kA [8] <| dg 8 1 0 (a6 (bh x y42).1 (.slice v43a ((bh x y42).1.r.held.length) v43c)) rfl <| kZ ?_
 exact ⟨⟨((bh x y42).1,v43a,v43c),(by first | exact RB.write hrb _ | exact RB.tick hrb | exact RB.shut hrb | exact RB.read hrb _ | exact RB.recv hrb (by omega) _ | exact hrb)⟩,eW [0,2,4,5,6] <| kF 2 0 [0,2,3,4,5]⟩
 refine fw 2 46 [gP g,iI 9] (some 70) 0 rfl rfl hlo (a5 (ap rfl a8)) (ar hBw hap) ?_
 rintro ⟨y46,hy46⟩
 obtain ⟨hy460,hy461⟩ := hy46
 refine kA [0] <| ev 0 (.v (.agg (a6 x (cS A1 x c1)).toArray)) rfl <| kA [3] <| du 3 80 [.agg (a6 x (cS A1 x c1)).toArray,iI y46] (some 71) rfl (cb fun ww hw hf => ysReadConn_c x (cS A1 x c1) y46 ww (Own.sl (hf _ m1)) (by assumption) (by assumption) (by omega) ((av w B).heap.size) hw) ?_
 rintro ⟨⟨v47a,v47c⟩,⟨v48a,v48c⟩⟩
 have hbd49 : (bh x y46).1.r.held.length ≤ 1048576 ∧ (bh x y46).2.2.length ≤ 1 := readConn_bd _ _  (by omega)
 have hbd49a := hbd49.1; have hbd49b := hbd49.2
 refine d9 [4,5,6,7] [72,0,2,3,4,5] 1 [(72,.v (.agg (a6 (bh x y46).1 (.slice v47a ((bh x y46).1.r.held.length) v47c)).toArray))] <| kA [8] <| dg 8 1 0 (a6 (bh x y46).1 (.slice v47a ((bh x y46).1.r.held.length) v47c)) rfl <| kZ ?_
 exact ⟨⟨((bh x y46).1,v47a,v47c),(by first | exact RB.write hrb _ | exact RB.tick hrb | exact RB.shut hrb | exact RB.read hrb _ | exact RB.recv hrb (by omega) _ | exact hrb)⟩,eW [0,2,4,5,6] <| kF 2 0 [0,2,3,4,5]⟩
 have h41p := cB h41
 refine bo [true,false] (by kernel_rfl) (fun ρ σ => ?_)
 refine d9 [1] [29,0,2,3,4,5] 9 [(29,aP g)] <| kA [0,2] ⟨?_,?_⟩
 refine ev 0 (.v (.agg (a6 x (cS A1 x c1)).toArray)) rfl <| kA [2] <| ev 2 (.v (.agg (a6 x (cS A1 x c1)).toArray)) rfl <| kA [3] ?_
 refine fw 3 82 [gP g,.agg (a6 x (cS A1 x c1)).toArray] (some 31) 0 rfl rfl hlo (a5 (ap rfl a8)) (gv hBw hap) ?_
 rintro ⟨y50,hy50⟩
 refine kA [4] <| du 4 81 [.agg (a6 x (cS A1 x c1)).toArray,.agg (cl y50).toArray] (some 32) rfl (cb fun ww hw hf => ysReceive_c x (cS A1 x c1) y50 ww (Own.sl (hf _ m1)) (by assumption) (by omega) (by assumption) (by omega) ((av w B).heap.size) hw) ?_
 rintro ⟨⟨v51a,v51c⟩,⟨v52a,v52c⟩⟩
 refine d9 [5,6,7,8] [33,0,2,3,4,5] 1 [(33,.v (.agg (a6 (aa x y50).1 (.slice v51a ((aa x y50).1.r.held.length) v51c)).toArray))] <| kA [9] <| dg 9 1 0 (a6 (aa x y50).1 (.slice v51a ((aa x y50).1.r.held.length) v51c)) rfl <| kZ ?_
 exact ⟨⟨((aa x y50).1,v51a,v51c),(by first | exact RB.write hrb _ | exact RB.tick hrb | exact RB.shut hrb | exact RB.read hrb _ | exact RB.recv hrb (by omega) _ | exact hrb)⟩,eW [0,2,4,5,6] <| kF 2 0 [0,2,3,4,5]⟩
 refine ev 2 (.v (.agg (a6 x (cS A1 x c1)).toArray)) rfl <| kA [0,3] ⟨?_,?_⟩
 refine ev 0 (.v (.agg (a6 x (cS A1 x c1)).toArray)) rfl <| kA [3] <| fw 3 82 [gP g,.agg (a6 x (cS A1 x c1)).toArray] (some 31) 0 rfl rfl hlo (a5 (ap rfl a8)) (gv hBw hap) ?_
 rintro ⟨y53,hy53⟩
 refine kA [4] <| du 4 81 [.agg (a6 x (cS A1 x c1)).toArray,.agg (cl y53).toArray] (some 32) rfl (cb fun ww hw hf => ysReceive_c x (cS A1 x c1) y53 ww (Own.sl (hf _ m1)) (by assumption) (by omega) (by assumption) (by omega) ((av w B).heap.size) hw) ?_
 rintro ⟨⟨v54a,v54c⟩,⟨v55a,v55c⟩⟩
 refine d9 [5,6,7,8] [33,0,2,3,4,5] 1 [(33,.v (.agg (a6 (aa x y53).1 (.slice v54a ((aa x y53).1.r.held.length) v54c)).toArray))] <| kA [9] <| dg 9 1 0 (a6 (aa x y53).1 (.slice v54a ((aa x y53).1.r.held.length) v54c)) rfl <| kZ ?_
 exact ⟨⟨((aa x y53).1,v54a,v54c),(by first | exact RB.write hrb _ | exact RB.tick hrb | exact RB.shut hrb | exact RB.read hrb _ | exact RB.recv hrb (by omega) _ | exact hrb)⟩,eW [0,2,4,5,6] <| kF 2 0 [0,2,3,4,5]⟩
 refine fw 3 82 [gP g,.agg (a6 x (cS A1 x c1)).toArray] (some 31) 0 rfl rfl hlo (a5 (ap rfl a8)) (gv hBw hap) ?_
 rintro ⟨y56,hy56⟩
 refine kA [0] <| ev 0 (.v (.agg (a6 x (cS A1 x c1)).toArray)) rfl <| kA [4] <| du 4 81 [.agg (a6 x (cS A1 x c1)).toArray,.agg (cl y56).toArray] (some 32) rfl (cb fun ww hw hf => ysReceive_c x (cS A1 x c1) y56 ww (Own.sl (hf _ m1)) (by assumption) (by omega) (by assumption) (by omega) ((av w B).heap.size) hw) ?_
 rintro ⟨⟨v57a,v57c⟩,⟨v58a,v58c⟩⟩
 refine d9 [5,6,7,8] [33,0,2,3,4,5] 1 [(33,.v (.agg (a6 (aa x y56).1 (.slice v57a ((aa x y56).1.r.held.length) v57c)).toArray))] <| kA [9] <| dg 9 1 0 (a6 (aa x y56).1 (.slice v57a ((aa x y56).1.r.held.length) v57c)) rfl <| kZ ?_
 exact ⟨⟨((aa x y56).1,v57a,v57c),(by first | exact RB.write hrb _ | exact RB.tick hrb | exact RB.shut hrb | exact RB.read hrb _ | exact RB.recv hrb (by omega) _ | exact hrb)⟩,eW [0,2,4,5,6] <| kF 2 0 [0,2,3,4,5]⟩
 rintro ⟨⟨x2,A4,c4⟩,hr2⟩
 try dsimp only
 try dsimp only at hr2
 refine kG <| di 3 [0,2,3,4,5] [(5,aI (K6.wrap ((i : Int) + 1)))] <| cU [0,2,3,4,5] [(5,aI (K6.wrap ((i : Int) + 1)))] [(5,aI ((i : Int) + 1))] (by rw [show (K6.wrap ((i : Int) + 1)) = ((i : Int) + 1) from al (by omega) (by omega)]) (by kernel_rfl) ?_
 refine aW [0,2,3,4,5] [] ?_
 exact ⟨⟨(i + 1,x2,A4,c4),⟨(by omega),hr2⟩⟩,kF 2 0 [0,2,3,4,5],by show (fun (i : Nat) (x : Con) (A1 : Option Addr) (c1 : Nat) => (y10).toNat - i) (i + 1) x2 A4 c4 < (y10).toNat - i; (dsimp only; omega)⟩
 have h11p := of_decide_eq_false h11
 have hge : ¬ (i : Int) < y10 := of_decide_eq_false h11
 refine bH <| kQ <| bC [2] [(2,.p 0 0)] 0 ⟨41,a6 x (cS A1 x c1)⟩ <| kR ?_
 exact ⟨[.agg (a6 x (cS A1 x c1)).toArray],by kernel_rfl,fun w' hb hf ha => ⟨⟨(x,A1,c1),hrb.up⟩,rfl,hf (cF B g A J cap) (by simp),newF_own (hf (bm (av w B).heap.size (cS A1 x c1) 2 (x.r.held.map pC)) (by simp)) (br ha (i := 0) (j := 1) (k := 4) rfl rfl rfl rfl (by decide) (by decide)),hgl,am (hf (bF w (fun b => b = g)) (by simp)) hb rfl rfl rfl⟩⟩
theorem l19Bent_c (g : Nat) (J : List Int) (A : Option Addr) (cap : Nat) (w : World) (B : Nat) (hB : B ≤ w.heap.size) (hc : (cF B g A J cap).p w) (hl : Sl w (sJ A J cap) 1 (J.map bR)) (hap : ¬ (sQ A J cap).blk g) (hn : J.length ≤ 1048576) : Calls Tryz.prog 30 #[gP g] w fun e w' => ∃ y : {y : Con × (Option Addr × Nat) // RB 4 y.1.r}, e = .returned (.agg (a6 y.1.1 (.slice y.1.2.1 y.1.1.r.held.length y.1.2.2)).toArray) ∧ (cF B g A J cap).p w' ∧ (f7 w.heap.size (.slice y.1.2.1 y.1.1.r.held.length y.1.2.2) 2 (y.1.1.r.held.map pC)).p w' ∧ g < w.heap.size ∧ Chgd (fun b => b = g) w w' := by
 have hq_code := Sl.capLe hl
 have hBw : B ≤ (av w B).heap.size := Nat.le_of_eq (aM hB).symm
 have hlo : ∀ (ww : World) (b : Nat),(cF B g A J cap).p ww → (cF B g A J cap).blk b → (av w B).heap.size ≤ b := fun ww b h hb => Nat.le_trans (cf w B) (d3 h hb)
 refine fz (args := [gP g]) (fn := Tryz.f30) [cF B g A J cap,sQ A J cap,bF w (fun b => b = g)] B Tryz.func30 rfl Tryz.ntmps30 rfl hB (by simp only [List.mem_cons,List.not_mem_nil,or_false,forall_eq_or_imp,forall_eq]; exact ⟨hc,hl,bT w _⟩) (c5 hap rfl) ?_
 have hgl : g < w.heap.size := (cF B g A J cap).lt w g hc rfl
 refine kQ <| cm [0,2] ⟨[(0,aP g),(2,.p 0 0)],[⟨41,cN⟩],[],[cF B g A J cap,sQ A J cap,bF w (fun b => b = g)]⟩ <| kQ <| dl 1 [0,2,4] [(4,aP g)] 52 [gP g] (some 5) 0 rfl rfl hlo (xcm_curN fun ww hw hf => l19Conn_c g J A cap ww B (Nat.le_trans (by first | exact Nat.le_refl _ | exact Nat.le_of_eq (aM hB).symm) hw) (hf (cF B g A J cap) (by simp)) (hf _ m1) hap (by omega)) ?_
 rintro ⟨⟨b1m,b1a,b1c⟩,hb1⟩
 dsimp only at hb1
 have hb1n := hb1.1
 refine gk [0,2,3] [(3,.p 1 0)] [⟨41,a6 b1m (cS b1a b1m b1c)⟩] <| kS <| kQ <| dl 1 [0,2,3,6] [(6,aP g)] 46 [gP g,iI 16] (some 7) 1 rfl rfl hlo (ar hBw hap) ?_
 rintro ⟨y2,hy2⟩
 obtain ⟨hy20,hy21⟩ := hy2
 refine aW [0,2,3,7] [] <| ao <| kQ <| aW [0,2,3,7,8] [(8,aB (y2 == 0))] ?_
 refine kC (y2 == 0) (fun h3 => ?_) (fun h3 => ?_)
 have h3p := cI h3
 refine kG <| dl 1 [2,3,10] [(10,aP g)] 46 [gP g,iI 11] (some 11) 0 rfl rfl hlo (ar hBw hap) ?_
 rintro ⟨y4,hy4⟩
 obtain ⟨hy40,hy41⟩ := hy4
 refine bC [2,3] [] 1 ⟨41,a6 { b1m with state := K6.wrap (y4 - 1) } (cS b1a b1m b1c)⟩ <| kQ <| bC [2] [(2,.p 0 0)] 0 ⟨41,a6 { b1m with state := K6.wrap (y4 - 1) } (cS b1a b1m b1c)⟩ <| kR ?_
 exact ⟨[.agg (a6 { b1m with state := K6.wrap (y4 - 1) } (cS b1a b1m b1c)).toArray],by kernel_rfl,fun w' hb hf ha => ⟨⟨({ b1m with state := K6.wrap (y4 - 1) },b1a,b1c),hb1⟩,rfl,hf (cF B g A J cap) (by simp),eQ (hf (f7 (av w B).heap.size (cS b1a b1m b1c) 2 (b1m.r.held.map pC)) (by simp)) (br ha (i := 1) (j := 0) (k := 3) rfl rfl rfl rfl (by decide) (by decide)),hgl,am (hf (bF w (fun b => b = g)) (by simp)) hb rfl rfl rfl⟩⟩
 have h3p := cB h3
 refine kQ <| aW [0,2,3,7,14] [(14,aB (y2 == 1))] <| kC (y2 == 1) (fun h5 => ?_) (fun h5 => ?_)
 have h5p := cI h5
 refine kG <| dl 1 [2,3,16] [(16,aP g)] 53 [gP g] (some 17) 0 rfl rfl hlo (l17Bent_c_K hBw hap) ?_
 rintro ⟨y6,hy6⟩
 refine bC [2,3] [] 1 ⟨41,a6 { b1m with s := y6 } (cS b1a b1m b1c)⟩ <| kQ <| bC [2] [(2,.p 0 0)] 0 ⟨41,a6 { b1m with s := y6 } (cS b1a b1m b1c)⟩ <| kR ?_
 exact ⟨[.agg (a6 { b1m with s := y6 } (cS b1a b1m b1c)).toArray],by kernel_rfl,fun w' hb hf ha => ⟨⟨({ b1m with s := y6 },b1a,b1c),hb1⟩,rfl,hf (cF B g A J cap) (by simp),eQ (hf (f7 (av w B).heap.size (cS b1a b1m b1c) 2 (b1m.r.held.map pC)) (by simp)) (br ha (i := 1) (j := 0) (k := 3) rfl rfl rfl rfl (by decide) (by decide)),hgl,am (hf (bF w (fun b => b = g)) (by simp)) hb rfl rfl rfl⟩⟩
 have h5p := cB h5
 refine kQ <| aW [0,2,3,7,19] [(19,aB (y2 == 2))] <| kC (y2 == 2) (fun h7 => ?_) (fun h7 => ?_)
 have h7p := cI h7
 refine kG <| dl 1 [2,3,21] [(21,aP g)] 54 [gP g] (some 22) 0 rfl rfl hlo (eC fun ww hw hf => l18Bent_c g J A cap ww B (Nat.le_trans (by first | exact Nat.le_refl _ | exact Nat.le_of_eq (aM hB).symm) hw) (hf (cF B g A J cap) (by simp)) (hf _ m2) hap (by omega)) ?_
 rintro ⟨⟨b8m,b8a,b8c⟩,hb8⟩
 dsimp only at hb8
 have hb8n := hb8.1
 refine bC [2,3] [] 1 ⟨41,a6 { b1m with r := b8m } (.slice b8a b8m.held.length b8c)⟩ <| kQ <| bC [2] [(2,.p 0 0)] 0 ⟨41,a6 { b1m with r := b8m } (.slice b8a b8m.held.length b8c)⟩ <| kR ?_
 exact ⟨[.agg (a6 { b1m with r := b8m } (.slice b8a b8m.held.length b8c)).toArray],by kernel_rfl,fun w' hb hf ha => ⟨⟨({ b1m with r := b8m },b8a,b8c),hb8⟩,rfl,hf (cF B g A J cap) (by simp),newF_row (hf (a9 (av w B).heap.size 89 2 (.slice b8a b8m.held.length b8c) (b8m.held.map pC)) (by simp)) (br ha (i := 0) (j := 1) (k := 4) rfl rfl rfl rfl (by decide) (by decide)),hgl,am (hf (bF w (fun b => b = g)) (by simp)) hb rfl rfl rfl⟩⟩
 have h7p := cB h7
 refine kQ <| aW [0,2,3,7,24] [(24,aB (y2 == 3))] <| kC (y2 == 3) (fun h9 => ?_) (fun h9 => ?_)
 have h9p := cI h9
 refine kG <| kHD 6 [2,3,26,28,31] [(26,aP g),(28,aI b1m.most),(31,aI (K6.wrap (b1m.most + 1)))] rfl (aH (e := 3) (K := 1) (bytes := 8) [iI (-1),iI 0,iI b1m.most,iI (K6.wrap (b1m.most + 1))] (rs := ([(-1),0,b1m.most,K6.wrap (b1m.most + 1)] : List Int).map az) rfl rfl) ?_
 intro g10
 refine dK (φ := ¬ (aJ (.slice (some ⟨g10,0,none⟩) 4 4) 1 (([(-1),0,b1m.most,K6.wrap (b1m.most + 1)] : List Int).map az)).blk g) (fun _ _ _ _ hr => fun hb => hr.2.apart 0 1 (a9 (av w B).heap.size 3 1 (.slice (some ⟨g10,0,none⟩) 4 4) (([(-1),0,b1m.most,K6.wrap (b1m.most + 1)] : List Int).map az)) (cF B g A J cap) rfl rfl (by decide) rfl g (bG hb) rfl) (fun hk11 => ?_)
 refine dl 0 [2,3,26,32] [] 48 [gP g,.slice (some ⟨g10,0,none⟩) 4 4] (some 33) 1 rfl rfl hlo (bw hBw hap (fun ww hw hf => (ax (hf _ m0))) hk11 (by simp)) ?_
 rintro ⟨y12,hy12⟩
 refine cm [2,3] ⟨[(2,.p 0 0),(3,.p 1 0)],[⟨41,cN⟩,⟨41,a6 { b1m with window := y12 } (cS b1a b1m b1c)⟩],[],[cF B g A J cap,a9 (av w B).heap.size 3 1 (.slice (some ⟨g10,0,none⟩) 4 4) (([(-1),0,b1m.most,K6.wrap (b1m.most + 1)] : List Int).map az),f7 (av w B).heap.size (cS b1a b1m b1c) 2 (b1m.r.held.map pC),sQ A J cap,bF w (fun b => b = g)]⟩ <| kQ <| bC [2] [(2,.p 0 0)] 0 ⟨41,a6 { b1m with window := y12 } (cS b1a b1m b1c)⟩ <| kR ?_
 exact ⟨[.agg (a6 { b1m with window := y12 } (cS b1a b1m b1c)).toArray],by kernel_rfl,fun w' hb hf ha => ⟨⟨({ b1m with window := y12 },b1a,b1c),hb1⟩,rfl,hf (cF B g A J cap) (by simp),eQ (hf (f7 (av w B).heap.size (cS b1a b1m b1c) 2 (b1m.r.held.map pC)) (by simp)) (br ha (i := 2) (j := 0) (k := 4) rfl rfl rfl rfl (by decide) (by decide)),hgl,am (hf (bF w (fun b => b = g)) (by simp)) hb rfl rfl rfl⟩⟩
 have h9p := cB h9
 refine kQ <| aW [0,2,3,7,35] [(35,aB (y2 == 4))] <| kC (y2 == 4) (fun h13 => ?_) (fun h13 => ?_)
 have h13p := cI h13
 refine kG <| kHD 1 [2,3,37] [(37,aP g)] rfl (aH (e := 3) (K := 1) (bytes := 8) [iI (-1),iI 0,iI 3,iI 4,iI 5] (rs := ([(-1),0,3,4,5] : List Int).map az) rfl rfl) ?_
 intro g14
 refine dK (φ := ¬ (aJ (.slice (some ⟨g14,0,none⟩) 5 5) 1 (([(-1),0,3,4,5] : List Int).map az)).blk g) (fun _ _ _ _ hr => fun hb => hr.2.apart 0 1 (a9 (av w B).heap.size 3 1 (.slice (some ⟨g14,0,none⟩) 5 5) (([(-1),0,3,4,5] : List Int).map az)) (cF B g A J cap) rfl rfl (by decide) rfl g (bG hb) rfl) (fun hk15 => ?_)
 refine kWS 0 [2,3,37,38] [(2,.p 0 0),(3,.p 1 0),(37,aP g),(38,.v (.slice (some ⟨g14,0,none⟩) 5 5))] 48 [gP g,.slice (some ⟨g14,0,none⟩) 5 5] (some 39) 1 rfl rfl hlo (bw hBw hap (fun ww hw hf => (ax (hf _ m0))) hk15 (by simp)) ?_
 rintro ⟨y16,hy16⟩
 refine bC [2,3] [] 1 ⟨41,a6 { b1m with timer := y16 } (cS b1a b1m b1c)⟩ <| kQ <| bC [2] [(2,.p 0 0)] 0 ⟨41,a6 { b1m with timer := y16 } (cS b1a b1m b1c)⟩ <| kR ?_
 exact ⟨[.agg (a6 { b1m with timer := y16 } (cS b1a b1m b1c)).toArray],by kernel_rfl,fun w' hb hf ha => ⟨⟨({ b1m with timer := y16 },b1a,b1c),hb1⟩,rfl,hf (cF B g A J cap) (by simp),eQ (hf (f7 (av w B).heap.size (cS b1a b1m b1c) 2 (b1m.r.held.map pC)) (by simp)) (br ha (i := 2) (j := 0) (k := 4) rfl rfl rfl rfl (by decide) (by decide)),hgl,am (hf (bF w (fun b => b = g)) (by simp)) hb rfl rfl rfl⟩⟩
 have h13p := cB h13
 refine kQ <| aW [0,2,3,7,41] [(41,aB (y2 == 5))] <| kC (y2 == 5) (fun h17 => ?_) (fun h17 => ?_)
 have h17p := cI h17
 refine kG <| kHS 1 [2,3,43] [(2,.p 0 0),(3,.p 1 0),(43,aP g)] rfl (aH (e := 3) (K := 1) (bytes := 8) [iI (-1),iI 0,iI 3,iI 4] (rs := ([(-1),0,3,4] : List Int).map az) rfl rfl) ?_
 intro g18
 refine dK (φ := ¬ (aJ (.slice (some ⟨g18,0,none⟩) 4 4) 1 (([(-1),0,3,4] : List Int).map az)).blk g) (fun _ _ _ _ hr => fun hb => hr.2.apart 0 1 (a9 (av w B).heap.size 3 1 (.slice (some ⟨g18,0,none⟩) 4 4) (([(-1),0,3,4] : List Int).map az)) (cF B g A J cap) rfl rfl (by decide) rfl g (bG hb) rfl) (fun hk19 => ?_)
 refine dl 0 [2,3,43,44] [] 48 [gP g,.slice (some ⟨g18,0,none⟩) 4 4] (some 45) 1 rfl rfl hlo (bw hBw hap (fun ww hw hf => (ax (hf _ m0))) hk19 (by simp)) ?_
 rintro ⟨y20,hy20⟩
 refine bC [2,3] [] 1 ⟨41,a6 { b1m with tries := y20 } (cS b1a b1m b1c)⟩ <| kQ <| bC [2] [(2,.p 0 0)] 0 ⟨41,a6 { b1m with tries := y20 } (cS b1a b1m b1c)⟩ <| kR ?_
 exact ⟨[.agg (a6 { b1m with tries := y20 } (cS b1a b1m b1c)).toArray],by kernel_rfl,fun w' hb hf ha => ⟨⟨({ b1m with tries := y20 },b1a,b1c),hb1⟩,rfl,hf (cF B g A J cap) (by simp),eQ (hf (f7 (av w B).heap.size (cS b1a b1m b1c) 2 (b1m.r.held.map pC)) (by simp)) (br ha (i := 2) (j := 0) (k := 4) rfl rfl rfl rfl (by decide) (by decide)),hgl,am (hf (bF w (fun b => b = g)) (by simp)) hb rfl rfl rfl⟩⟩
 have h17p := cB h17
 refine kQ <| aT [0,2,3,7,47] [(0,aP g),(2,.p 0 0),(3,.p 1 0),(7,aI y2),(47,aB (y2 == 6))] <| kC (y2 == 6) (fun h21 => ?_) (fun h21 => ?_)
 have h21p := cI h21
 refine kG <| dl 1 [2,3,49] [(49,aP g)] 55 [gP g] (some 50) 0 rfl rfl hlo (l8Bent_c_K hBw hap) ?_
 rintro ⟨y22,hy22⟩
 refine bC [2,3] [] 1 ⟨41,a6 { b1m with o := y22 } (cS b1a b1m b1c)⟩ <| kQ <| bC [2] [(2,.p 0 0)] 0 ⟨41,a6 { b1m with o := y22 } (cS b1a b1m b1c)⟩ <| kR ?_
 exact ⟨[.agg (a6 { b1m with o := y22 } (cS b1a b1m b1c)).toArray],by kernel_rfl,fun w' hb hf ha => ⟨⟨({ b1m with o := y22 },b1a,b1c),hb1⟩,rfl,hf (cF B g A J cap) (by simp),eQ (hf (f7 (av w B).heap.size (cS b1a b1m b1c) 2 (b1m.r.held.map pC)) (by simp)) (br ha (i := 1) (j := 0) (k := 3) rfl rfl rfl rfl (by decide) (by decide)),hgl,am (hf (bF w (fun b => b = g)) (by simp)) hb rfl rfl rfl⟩⟩
 have h21p := cB h21
 refine kQ <| aW [0,2,3,52] [(52,aB (y2 == 7))] <| kC (y2 == 7) (fun h23 => ?_) (fun h23 => ?_)
 have h23p := cI h23
 refine kG <| dl 1 [2,3,54] [(54,aP g)] 56 [gP g] (some 55) 0 rfl rfl hlo (l12Bent_c_K hBw hap) ?_
 rintro ⟨y24,hy24⟩
 refine bC [2,3] [] 1 ⟨41,a6 { b1m with t := y24 } (cS b1a b1m b1c)⟩ <| kQ <| bC [2] [(2,.p 0 0)] 0 ⟨41,a6 { b1m with t := y24 } (cS b1a b1m b1c)⟩ <| kR ?_
 exact ⟨[.agg (a6 { b1m with t := y24 } (cS b1a b1m b1c)).toArray],by kernel_rfl,fun w' hb hf ha => ⟨⟨({ b1m with t := y24 },b1a,b1c),hb1⟩,rfl,hf (cF B g A J cap) (by simp),eQ (hf (f7 (av w B).heap.size (cS b1a b1m b1c) 2 (b1m.r.held.map pC)) (by simp)) (br ha (i := 1) (j := 0) (k := 3) rfl rfl rfl rfl (by decide) (by decide)),hgl,am (hf (bF w (fun b => b = g)) (by simp)) hb rfl rfl rfl⟩⟩
 have h23p := cB h23
 refine kK <| kQ <| bC [2] [(2,.p 0 0)] 0 ⟨41,a6 b1m (cS b1a b1m b1c)⟩ <| kR ?_
 exact ⟨[.agg (a6 b1m (cS b1a b1m b1c)).toArray],by kernel_rfl,fun w' hb hf ha => ⟨⟨(b1m,b1a,b1c),hb1⟩,rfl,hf (cF B g A J cap) (by simp),eQ (hf (f7 (av w B).heap.size (cS b1a b1m b1c) 2 (b1m.r.held.map pC)) (by simp)) (br ha (i := 1) (j := 0) (k := 3) rfl rfl rfl rfl (by decide) (by decide)),hgl,am (hf (bF w (fun b => b = g)) (by simp)) hb rfl rfl rfl⟩⟩
theorem sameTable_self (a : Tab) : aQ a a = true := by
 unfold aQ
 rw [sameL_yes rfl fun i x y h1 h2 => by rw [h1] at h2; simp only [Option.some.injEq] at h2; subst h2; exact sameConn_self _,sameL_yes rfl fun i x y h1 h2 => by rw [h1] at h2; simp only [Option.some.injEq] at h2; subst h2; simp [bz]]
 rfl
theorem f0 {a b : Tab} (h : pl a.conns = pl b.conns) (hw : a.waiting = b.waiting) : aQ a b = true := by
 rw [sameTable_pl (a := a) (a' := b) (b := b) (b' := b) h hw rfl rfl]; exact sameTable_self b
theorem l25Limits_c (g : Nat) (J : List Int) (A : Option Addr) (cap : Nat)  (w : World) (B : Nat) (hB : B ≤ w.heap.size) (hc : (cF B g A J cap).p w) (hl : Sl w (sJ A J cap) 1 (J.map bR)) (hap : ¬ (sQ A J cap).blk g) (hn : J.length ≤ 1048576)  : Calls Tryz.prog 44 #[gP g] w fun e w' => ∃ y : {y : Lim // True}, e = .returned (.agg (bd y.1).toArray) ∧ (cF B g A J cap).p w' ∧ Chgd (fun b => b = g) w w' := by
 have hq_code := Sl.capLe hl
 have hBw : B ≤ (av w B).heap.size := Nat.le_of_eq (aM hB).symm
 have hlo : ∀ (ww : World) (b : Nat),(cF B g A J cap).p ww → (cF B g A J cap).blk b → (av w B).heap.size ≤ b := fun ww b h hb => Nat.le_trans (cf w B) (d3 h hb)
 refine cQ (args := [gP g]) (fn := Tryz.f44) [cF B g A J cap,sQ A J cap,bF w (fun b => b = g)] B Tryz.func44 rfl Tryz.ntmps44 rfl hB (by simp only [List.mem_cons,List.not_mem_nil,or_false,forall_eq_or_imp,forall_eq]; exact ⟨hc,hl,bT w _⟩) (c5 hap rfl) ?_
 refine kQ <| cm [0,2] ⟨[(0,aP g),(2,.p 0 0)],[⟨43,[iI 0,iI 0,iI 0,iI 0]⟩],[],[cF B g A J cap,sQ A J cap,bF w (fun b => b = g)]⟩ <| kQ <| dl 1 [0,2,3] [(3,aP g)] 46 [gP g,iI 3] (some 4) 0 rfl rfl hlo (ar hBw hap) ?_
 rintro ⟨y1,hy1⟩
 obtain ⟨hy10,hy11⟩ := hy1
 refine dl 2 [0,2,5,6] [(5,aI (K6.wrap (1 + y1))),(6,aP g)] 46 [gP g,iI 3] (some 7) 0 rfl rfl hlo (ar hBw hap) ?_
 rintro ⟨y2,hy2⟩
 obtain ⟨hy20,hy21⟩ := hy2
 refine dl 2 [0,2,5,8,9] [(8,aI (K6.wrap (1 + y2))),(9,aP g)] 46 [gP g,iI 4] (some 10) 0 rfl rfl hlo (ar hBw hap) ?_
 rintro ⟨y3,hy3⟩
 obtain ⟨hy30,hy31⟩ := hy3
 refine dl 2 [2,5,8,11,12] [(11,aI (K6.wrap (1 + y3))),(12,aP g)] 46 [gP g,iI 4] (some 13) 0 rfl rfl hlo (ar hBw hap) ?_
 rintro ⟨y4,hy4⟩
 obtain ⟨hy40,hy41⟩ := hy4
 refine gc 0 [2,5,8,11,13] [] (.agg #[iI (K6.wrap (1 + y1)),iI (K6.wrap (1 + y2)),iI (K6.wrap (1 + y3)),iI y4]) rfl (fun _ _ _ ww hr => bn [(0,iI (K6.wrap (1 + y1))),(1,iI (K6.wrap (1 + y2))),(2,iI (K6.wrap (1 + y3))),(3,iI y4)] hr.1 rfl (by kernel_rfl) (by kernel_rfl) ww) ?_
 refine kRB 1 [2] [(2,.p 0 0)] [⟨43,[iI (K6.wrap (1 + y1)),iI (K6.wrap (1 + y2)),iI (K6.wrap (1 + y3)),iI y4]⟩] <| xl_eq (st' := ⟨[(2,.p 0 0)],[⟨43,[iI (1 + y1),iI (1 + y2),iI (1 + y3),iI y4]⟩],[],[cF B g A J cap,sQ A J cap,bF w (fun b => b = g)]⟩) (by rw [show (K6.wrap (1 + y3)) = (1 + y3) from al (by omega) (by omega),show (K6.wrap (1 + y2)) = (1 + y2) from al (by omega) (by omega),show (K6.wrap (1 + y1)) = (1 + y1) from al (by omega) (by omega)] <;> rfl) ?_
 refine aT [2] [(2,.p 0 0)] <| kR ?_
 exact ⟨[.agg #[iI (1 + y1),iI (1 + y2),iI (1 + y3),iI y4]],by kernel_rfl,fun w' hb hf => ⟨⟨⟨1 + y1,1 + y2,1 + y3,y4⟩,trivial⟩,rfl,hf (cF B g A J cap) (by simp),am (hf (bF w (fun b => b = g)) (by simp)) hb rfl rfl rfl⟩⟩
theorem l25Limits_c_K {g : Nat} {J : List Int} {A : Option Addr} {cap : Nat}  {w0 : World} {fs : List Fact} {B : Nat} (hB : B ≤ w0.heap.size) (hap : ¬ (sQ A J cap).blk g)  (hn : J.length ≤ 1048576 := by omega) (h1 : cF B g A J cap ∈ fs := by simp) (h2 : sQ A J cap ∈ fs := by simp) : XCM Tryz.prog w0 fs (cF B g A J cap).blk 44 [gP g] (α := {y : Lim // True}) (fun y => .agg (bd y.1).toArray) (fun _ => [cF B g A J cap]) := dw fun w hw hf => l25Limits_c g J A cap  w B (Nat.le_trans hB hw) (hf _ h1) (hf _ h2) hap hn  
theorem l25Table_c (g : Nat) (J : List Int) (A : Option Addr) (cap : Nat) (l : Lim) (w : World) (B : Nat) (hB : B ≤ w.heap.size) (hc : (cF B g A J cap).p w) (hl : Sl w (sJ A J cap) 1 (J.map bR)) (hap : ¬ (sQ A J cap).blk g) (hn : J.length ≤ 1048576) : Calls Tryz.prog 45 #[gP g, .agg (bd l).toArray] w fun e w' => ∃ y : {y : List CV × (Option Addr × Nat) × List Tup × (Option Addr × Nat) // (∀ x ∈ y.1, bW x.1) ∧ y.1.length ≤ 3 ∧ y.2.2.1.length ≤ 3}, e = .returned (.agg #[.slice y.1.2.1.1 y.1.1.length y.1.2.1.2, .slice y.1.2.2.2.1 y.1.2.2.1.length y.1.2.2.2.2]) ∧ (cF B g A J cap).p w' ∧ (a9 w.heap.size 41 25 (.slice y.1.2.1.1 y.1.1.length y.1.2.1.2) (y.1.1.map aq)).p w' ∧ (fL w.heap.size y.1.1).p w' ∧ (a9 w.heap.size 32 3 (.slice y.1.2.2.2.1 y.1.2.2.1.length y.1.2.2.2.2) (y.1.2.2.1.map a7)).p w' ∧ Apart [a9 w.heap.size 41 25 (.slice y.1.2.1.1 y.1.1.length y.1.2.1.2) (y.1.1.map aq), fL w.heap.size y.1.1, a9 w.heap.size 32 3 (.slice y.1.2.2.2.1 y.1.2.2.1.length y.1.2.2.2.2) (y.1.2.2.1.map a7)] ∧ g < w.heap.size ∧ Chgd (fun b => b = g) w w' := by
 have hq_code := Sl.capLe hl
 have hBw : B ≤ (av w B).heap.size := Nat.le_of_eq (aM hB).symm
 have hlo : ∀ (ww : World) (b : Nat),(cF B g A J cap).p ww → (cF B g A J cap).blk b → (av w B).heap.size ≤ b := fun ww b h hb => Nat.le_trans (cf w B) (d3 h hb)
 refine fz (args := [gP g,.agg (bd l).toArray]) (fn := Tryz.f45) [cF B g A J cap,sQ A J cap,bF w (fun b => b = g)] B Tryz.func45 rfl Tryz.ntmps45 rfl hB (by simp only [List.mem_cons,List.not_mem_nil,or_false,forall_eq_or_imp,forall_eq]; exact ⟨hc,hl,bT w _⟩) (c5 hap rfl) ?_
 have hgl : g < w.heap.size := (cF B g A J cap).lt w g hc rfl
 refine kQ <| cm [0,3,4] ⟨[(0,aP g),(3,.p 0 0),(4,.p 1 0)],[⟨43,bd l⟩,⟨27,[.slice none 0 0,.slice none 0 0]⟩],[],[cF B g A J cap,sQ A J cap,bF w (fun b => b = g)]⟩ <| kQ <| gc 0 [0,3,4] [] (.agg #[.slice none 0 0,.slice none 0 0]) rfl (fun _ _ _ ww hr => bn [] hr.1 rfl (by kernel_rfl) (by kernel_rfl) ww) ?_
 refine gk [0,3,4,5] [(5,.p 2 0)] [⟨27,[.slice none 0 0,.slice none 0 0]⟩] <| kQ <| dl 1 [0,3,4,5,10] [(10,aP g)] 46 [gP g,iI 4] (some 11) 0 rfl rfl hlo (ar hBw hap) ?_
 rintro ⟨y1,hy1⟩
 obtain ⟨hy10,hy11⟩ := hy1
 refine aW [0,3,4,5,6] [(6,aI y1)] <| kS <| kQ <| aW [0,3,4,5,6,7] [(7,aI 0)] ?_
 refine ao <| gR (a9 (av w B).heap.size 32 3 (.slice none 0 0) []) (fun ww hww => nilF_p _ _ ww hww) (fun b => nilF_b _ _ _ b) <| gR (cT (av w B).heap.size ([])) hownF_nilp (fun b => hownF_nob) <| gR (a9 (av w B).heap.size 41 25 (.slice none 0 0) []) (fun ww hww => nilF_p _ _ ww hww) (fun b => nilF_b _ _ _ b) ?_
 refine bc (α := {x : Nat × List CV × Option Addr × Nat × List Tup × Option Addr × Nat // (fun (i : Nat) (cs : List CV) (At : Option Addr) (ct : Nat) (W : List Tup) (Aw : Option Addr) (cw : Nat) => (i : Int) ≤ y1 ∧ (∀ x ∈ cs,bW x.1) ∧ cs.length ≤ i ∧ W.length ≤ i) x.1 x.2.1 x.2.2.1 x.2.2.2.1 x.2.2.2.2.1 x.2.2.2.2.2.1 x.2.2.2.2.2.2}) (fun x => (fun (i : Nat) (cs : List CV) (At : Option Addr) (ct : Nat) (W : List Tup) (Aw : Option Addr) (cw : Nat) => (⟨[(0,aP g),(3,.p 0 0),(4,.p 1 0),(5,.p 2 0),(6,aI y1),(7,aI (i : Int))],[⟨43,bd l⟩,⟨27,[.slice none 0 0,.slice none 0 0]⟩,⟨27,[.slice At cs.length ct,.slice Aw W.length cw]⟩],[],[a9 (av w B).heap.size 41 25 (.slice At cs.length ct) (cs.map aq),cT (av w B).heap.size cs,a9 (av w B).heap.size 32 3 (.slice Aw W.length cw) (W.map a7),cF B g A J cap,sQ A J cap,bF w (fun b => b = g)]⟩ : St)) x.1.1 x.1.2.1 x.1.2.2.1 x.1.2.2.2.1 x.1.2.2.2.2.1 x.1.2.2.2.2.2.1 x.1.2.2.2.2.2.2) (fun x => (fun (i : Nat) (cs : List CV) (At : Option Addr) (ct : Nat) (W : List Tup) (Aw : Option Addr) (cw : Nat) => (y1).toNat - i) x.1.1 x.1.2.1 x.1.2.2.1 x.1.2.2.2.1 x.1.2.2.2.2.1 x.1.2.2.2.2.2.1 x.1.2.2.2.2.2.2) ⟨(0,([] : List CV),none,0,([] : List Tup),none,0),⟨(by omega),(fun x hx => by simp at hx),Nat.le_refl 0,Nat.le_refl 0⟩⟩ (kF 3 0 [0,3,4,5,6,7]) ?_
 rintro ⟨⟨i,cs,At,ct,W,Aw,cw⟩,hi,hfit,hcl,hwl⟩
 try dsimp only
 try dsimp only at hi hfit hcl hwl
 refine kS <| kQ <| aW [0,3,4,5,6,7,14] [(14,aB (decide ((i : Int) < y1)))] <| kC (decide ((i : Int) < y1)) (fun h2 => ?_) (fun h2 => ?_)
 have h2p := of_decide_eq_true h2
 have hlt :  (i : Int) < y1 := of_decide_eq_true h2
 refine kK <| kS <| ao <| kQ <| dl 1 [0,3,4,5,6,7,17] [(17,aP g)] 52 [gP g] (some 18) 3 rfl rfl hlo (xcm_curN fun ww hw hf => l19Conn_c g J A cap ww B (Nat.le_trans (by first | exact Nat.le_refl _ | exact Nat.le_of_eq (aM hB).symm) hw) (hf (cF B g A J cap) (by simp)) (hf _ m4) hap (by omega)) ?_
 rintro ⟨⟨b3m,b3a,b3c⟩,hb3⟩
 dsimp only at hb3
 have hb3n := hb3.1
 have hfc_b3m : bW b3m := RB.fit hb3
 refine gk [0,3,4,5,6,7,8] [(8,.p 3 0)] [⟨41,a6 b3m (cS b3a b3m b3c)⟩] <| kQ <| dR 3 [0,3,4,5,6,7,20,21,22] [(20,.v (.agg #[.slice At cs.length ct,.slice Aw W.length cw])),(21,.v (.agg (a6 b3m (cS b3a b3m b3c)).toArray)),(22,.v (.agg (bd l).toArray))] 12 [.agg #[.slice At cs.length ct,.slice Aw W.length cw],.agg (a6 b3m (cS b3a b3m b3c)).toArray,.agg (bd l).toArray] (some 23) rfl (cb fun ww hw hf => ysPutConn_c (⟨cs,W⟩) (.slice At cs.length ct) (.slice Aw W.length cw) b3m (cS b3a b3m b3c) l ww (ax (hf _ m2)) (ew (hf _ m3)) (ax (hf _ m4)) (hf _ m0).1 (by first | assumption | (dsimp only; assumption)) (by first | assumption | omega | (dsimp only; omega)) (by first | assumption | omega | (dsimp only; omega)) (by assumption) ((av w B).heap.size) hw) ?_
 rintro ⟨⟨t4l,ht4l⟩,⟨t4a,t4c⟩,⟨t4d,t4e⟩⟩
 dsimp only
 have hfit_t4l : ∀ x ∈ t4l,bW x.1 := fit_of ht4l (putP_fit (t := (⟨cs,W⟩)) hfit hfc_b3m)
 have hlen_t4l : t4l.length ≤ i + 1 := by have h1 := putP_len1 (⟨cs,W⟩) b3m l; rw [← len_of ht4l] at h1; dsimp only at h1; omega
 have hwl_t4l : (bQ (⟨cs,W⟩) b3m l).length ≤ i + 1 := by have h1 := putW_len1 (⟨cs,W⟩) b3m l; dsimp only at h1; omega
 refine bC [0,3,4,5,6,7] [] 2 ⟨27,[.slice t4a t4l.length t4c,.slice t4d ((bQ (⟨cs,W⟩) b3m l).length) t4e]⟩ <| kQ <| kWS 1 [0,3,4,5,6,7,26] [(0,aP g),(3,.p 0 0),(4,.p 1 0),(5,.p 2 0),(6,aI y1),(7,aI (i : Int)),(26,aP g)] 20 [gP g,iI 3] (some 27) 4 rfl rfl hlo (bY hBw hap) ?_
 rintro ⟨y5,hy5⟩
 refine aW [0,3,4,5,6,7,27] [] <| kC (y5) (fun h6 => ?_) (fun h6 => ?_)
 refine kG <| dR 1 [0,3,4,5,6,7,29] [(29,.v (.agg #[.slice t4a t4l.length t4c,.slice t4d ((bQ (⟨cs,W⟩) b3m l).length) t4e]))] 70 [.agg #[.slice t4a t4l.length t4c,.slice t4d ((bQ (⟨cs,W⟩) b3m l).length) t4e]] (some 30) rfl (cb fun ww hw hf => ysTakeWaiting_c (⟨t4l,(bQ (⟨cs,W⟩) b3m l)⟩) (.slice t4a t4l.length t4c) (.slice t4d ((bQ (⟨cs,W⟩) b3m l).length) t4e) ww (ax (hf _ m1)) (ew (hf _ m2)) (ax (hf _ m3)) (by first | assumption | (dsimp only; assumption)) (by first | assumption | omega | (dsimp only; omega)) (by first | assumption | omega | (dsimp only; omega)) ((av w B).heap.size) hw) ?_
 rintro ⟨⟨t7l,ht7l⟩,⟨t7a,t7c⟩,⟨t7d,t7e⟩⟩
 dsimp only
 have hfit_t7l : ∀ x ∈ t7l,bW x.1 := fJ ht7l hfit_t4l
 have hlen_t7l : t7l.length ≤ i + 1 := by have h1 := pl_len ht7l; dsimp only at h1; omega
 have hwl_t7l : (gn (⟨t4l,(bQ (⟨cs,W⟩) b3m l)⟩)).length ≤ i + 1 := by have h1 := takeW_le (⟨t4l,(bQ (⟨cs,W⟩) b3m l)⟩); dsimp only at h1; omega
 refine bC [0,3,4,5,6,7] [] 2 ⟨27,[.slice t7a t7l.length t7c,.slice t7d ((gn (⟨t4l,(bQ (⟨cs,W⟩) b3m l)⟩)).length) t7e]⟩ <| kG <| di 3 [0,3,4,5,6,7] [(7,aI (K6.wrap ((i : Int) + 1)))] <| cU [0,3,4,5,6,7] [(7,aI (K6.wrap ((i : Int) + 1)))] [(7,aI ((i : Int) + 1))] (by rw [show (K6.wrap ((i : Int) + 1)) = ((i : Int) + 1) from al (by omega) (by omega)]) (by kernel_rfl) ?_
 refine aW [0,3,4,5,6,7] [] ?_
 exact ⟨⟨(i + 1,t7l,t7a,t7c,(gn (⟨t4l,(bQ (⟨cs,W⟩) b3m l)⟩)),t7d,t7e),⟨(by omega),hfit_t7l,hlen_t7l,hwl_t7l⟩⟩,eW [0,1,2,3,11,12] <| kF 3 0 [0,3,4,5,6,7],by show (fun (i : Nat) (cs : List CV) (At : Option Addr) (ct : Nat) (W : List Tup) (Aw : Option Addr) (cw : Nat) => (y1).toNat - i) (i + 1) t7l t7a t7c (gn (⟨t4l,(bQ (⟨cs,W⟩) b3m l)⟩)) t7d t7e < (y1).toNat - i; (dsimp only; omega)⟩
 refine kK <| kG <| di 3 [0,3,4,5,6,7] [(7,aI (K6.wrap ((i : Int) + 1)))] <| cU [0,3,4,5,6,7] [(7,aI (K6.wrap ((i : Int) + 1)))] [(7,aI ((i : Int) + 1))] (by rw [show (K6.wrap ((i : Int) + 1)) = ((i : Int) + 1) from al (by omega) (by omega)]) (by kernel_rfl) ?_
 refine aW [0,3,4,5,6,7] [] ?_
 exact ⟨⟨(i + 1,t4l,t4a,t4c,(bQ (⟨cs,W⟩) b3m l),t4d,t4e),⟨(by omega),hfit_t4l,hlen_t4l,hwl_t4l⟩⟩,eW [1,2,3,0,8,9] <| kF 3 0 [0,3,4,5,6,7],by show (fun (i : Nat) (cs : List CV) (At : Option Addr) (ct : Nat) (W : List Tup) (Aw : Option Addr) (cw : Nat) => (y1).toNat - i) (i + 1) t4l t4a t4c (bQ (⟨cs,W⟩) b3m l) t4d t4e < (y1).toNat - i; (dsimp only; omega)⟩
 have h2p := of_decide_eq_false h2
 have hge : ¬ (i : Int) < y1 := of_decide_eq_false h2
 refine bH <| kQ <| bC [4] [(4,.p 1 0)] 1 ⟨27,[.slice At cs.length ct,.slice Aw W.length cw]⟩ <| kR ?_
 exact ⟨[.agg #[.slice At cs.length ct,.slice Aw W.length cw]],by kernel_rfl,fun w' hb hf ha => ⟨⟨(cs,(At,ct),W,(Aw,cw)),(by dsimp only; exact ⟨hfit,by omega,by omega⟩)⟩,rfl,hf (cF B g A J cap) (by simp),bi (hf (a9 (av w B).heap.size 41 25 (.slice At cs.length ct) (cs.map aq)) (by simp)) (br ha (i := 0) (j := 3) (k := 5) rfl rfl rfl rfl (by decide) (by decide)),dk (hwF_hown (hf (cT (av w B).heap.size cs) (by simp))) (fun b hb => (br ha (i := 1) (j := 3) (k := 5) rfl rfl rfl rfl (by decide) (by decide)) b (hwF_hblk hb)),bi (hf (a9 (av w B).heap.size 32 3 (.slice Aw W.length cw) (W.map a7)) (by simp)) (br ha (i := 2) (j := 3) (k := 5) rfl rfl rfl rfl (by decide) (by decide)),Apart.sub3 ha [0,1,2] rfl (by decide) rfl rfl rfl (fun b h => h) (fun b h => hwF_hblk h) (fun b h => h),hgl,am (hf (bF w (fun b => b = g)) (by simp)) hb rfl rfl rfl⟩⟩
theorem fit_app {L : List CV} {x : CV} (h : ∀ x ∈ L, bW x.1) (hc : bW x.1) : ∀ y ∈ L ++ [x], bW y.1 := fun y hy => by
 rcases List.mem_append.1 hy with hy | hy
 · exact h y hy
 · rw [List.mem_singleton] at hy; subst hy; exact hc
end Go.Proofs.YtccijpdjfelbmaaGreat
