/- Contracts that this law needs, part 2. -/
import Derived.Test.YtebgmdiejgcoiaaZ1
namespace Go.Proofs.Ytebgmdiejgcoiaa
open Go.RowKit
set_option linter.unusedVariables false
set_option linter.unusedSimpArgs false
set_option maxRecDepth 100000
set_option maxHeartbeats 2000000

theorem l18Stream_c (g : Nat) (J : List Int) (A : Option Addr) (cap : Nat) (r : Rcv) (r_heldV : Value) (w : World) (B : Nat) (hB : B ≤ w.heap.size) (hc : (cF B g A J cap).p w) (hl : Sl w (sJ A J cap) 1 (J.map bR)) (hap : ¬ (sQ A J cap).blk g) (hn : J.length ≤ 1048576)  : Calls Try.prog 73 #[gP g, .agg (a7 r r_heldV).toArray] w fun e w' => ∃ y : {y : Int × ByteArray × Bool // y.2.1.size ≤ 4096}, e = .returned (.tuple #[iI y.1.1, .string y.1.2.1, .bool y.1.2.2]) ∧ (cF B g A J cap).p w' ∧ Chgd (fun b => b = g) w w' := by
 have hq_code := Sl.capLe hl
 have hBw : B ≤ (ah w B).heap.size := Nat.le_of_eq (bl hB).symm
 have hlo : ∀ (ww : World) (b : Nat),(cF B g A J cap).p ww → (cF B g A J cap).blk b → (ah w B).heap.size ≤ b := fun ww b h hb => Nat.le_trans (cz w B) (cJ h hb)
 refine cG (args := [gP g,.agg (a7 r r_heldV).toArray]) (fn := Try.f73) [cF B g A J cap,sQ A J cap,cy w (fun b => b = g)] B Try.func73 rfl Try.ntmps73 rfl hB (by simp only [List.mem_cons,List.not_mem_nil,or_false,forall_eq_or_imp,forall_eq]; exact ⟨hc,hl,bc w _⟩) (cg hap rfl) ?_
 refine kQ <| dn [0,3] ⟨[(0,aP g),(3,.p 0 0)],[⟨28,a7 r r_heldV⟩],[],[cF B g A J cap,sQ A J cap,cy w (fun b => b = g)]⟩ <| kQ <| kWD 1 [0,3,11] [(11,aP g)] 101 [gP g,iI 40] (some 12) 0 rfl rfl hlo (aK hBw hap) ?_
 rintro ⟨y1,hy1⟩
 obtain ⟨hy10,hy11⟩ := hy1
 refine ai [0,3,7] [(7,aI (K6.wrap (y1 - 6)))] <| kQ <| kWD 1 [0,3,7,14] [(14,aP g)] 101 [gP g,iI 9] (some 15) 0 rfl rfl hlo (aK hBw hap) ?_
 rintro ⟨y2,hy2⟩
 obtain ⟨hy20,hy21⟩ := hy2
 refine ai [0,3,7,8] [(8,aI y2)] <| kQ <| kHD 0 [0,3,7,8] [] rfl (bj (e := 5) (K := 1) (bytes := 1) [] (rs := ([] : List Int).map bR) rfl rfl) ?_
 intro g3
 refine ai [0,3,7,8,9] [(9,.v (.slice (some ⟨g3,0,none⟩) 0 0))] <| kS <| kQ <| ai [0,3,7,8,9,10] [(10,aI 0)] ?_
 refine au <| aN (α := {x : Nat × List Int × Option Addr × Nat // (fun (i : Nat) (bs : List Int) (A1 : Option Addr) (c1 : Nat) => (i : Int) ≤ y2 ∧ bs.length = i) x.1 x.2.1 x.2.2.1 x.2.2.2}) (fun x => (fun (i : Nat) (bs : List Int) (A1 : Option Addr) (c1 : Nat) => (⟨[(0,aP g),(3,.p 0 0),(7,aI (K6.wrap (y1 - 6))),(8,aI y2),(9,.v (.slice A1 bs.length c1)),(10,aI (i : Int))],[⟨28,a7 r r_heldV⟩],[],[a8 (ah w B).heap.size 5 1 (.slice A1 bs.length c1) (bs.map bR),cF B g A J cap,sQ A J cap,cy w (fun b => b = g)]⟩ : St)) x.1.1 x.1.2.1 x.1.2.2.1 x.1.2.2.2) (fun x => (fun (i : Nat) (bs : List Int) (A1 : Option Addr) (c1 : Nat) => (y2).toNat - i) x.1.1 x.1.2.1 x.1.2.2.1 x.1.2.2.2) ⟨(0,([] : List Int),(some ⟨g3,0,none⟩),0),⟨(by omega),rfl⟩⟩ (dG [0,1,2,3] <| kF 1 0 [0,3,7,8,9,10]) ?_
 rintro ⟨⟨i,bs,A1,c1⟩,hi,hbl⟩
 try dsimp only
 try dsimp only at hi hbl
 refine kS <| kQ <| ai [0,3,7,8,9,10,19] [(19,aB (decide ((i : Int) < y2)))] <| kC (decide ((i : Int) < y2)) (fun h4 => ?_) (fun h4 => ?_)
 have h4p := of_decide_eq_true h4
 have hlt :  (i : Int) < y2 := of_decide_eq_true h4
 refine kK <| kS <| au <| kG <| kCD 7 [0,3,7,8,9,10,22,28] [(22,.v (.slice A1 bs.length c1)),(28,aI (K6.wrap ((K6.wrap (r.next + (K6.wrap (y1 - 6)))) + (i : Int))))] 36 [iI (K6.wrap ((K6.wrap (r.next + (K6.wrap (y1 - 6)))) + (i : Int)))] (some 29) rfl (cI fun ww hf => sRest_c (K6.wrap ((K6.wrap (r.next + (K6.wrap (y1 - 6)))) + (i : Int))) ww ) ?_
 intro _
 refine dZ 0 [0,3,7,8,9,10,22,29] [] (iI (Int.tmod ((K6.wrap ((K6.wrap (r.next + (K6.wrap (y1 - 6)))) + (i : Int))) % 4294967296) 26)) rfl (fun _ _ _ ww hr => bp hr.1 rfl (by kernel_rfl) (by kernel_rfl) (dU (by first | decide | omega) ww)) ?_
 refine kHS 2 [0,3,7,8,9,10,22,32] [(0,aP g),(3,.p 0 0),(7,aI (K6.wrap (y1 - 6))),(8,aI y2),(9,.v (.slice A1 bs.length c1)),(10,aI (i : Int)),(22,.v (.slice A1 bs.length c1)),(32,.v (.int .u8 (IntKind.u8.wrap (K6.wrap (97 + (Int.tmod ((K6.wrap ((K6.wrap (r.next + (K6.wrap (y1 - 6)))) + (i : Int))) % 4294967296) 26))))))] rfl (bj (e := 5) (K := 1) (bytes := 1) [.int .u8 (IntKind.u8.wrap (K6.wrap (97 + (Int.tmod ((K6.wrap ((K6.wrap (r.next + (K6.wrap (y1 - 6)))) + (i : Int))) % 4294967296) 26))))] (rs := ([IntKind.u8.wrap (K6.wrap (97 + (Int.tmod ((K6.wrap ((K6.wrap (r.next + (K6.wrap (y1 - 6)))) + (i : Int))) % 4294967296) 26)))] : List Int).map bR) rfl rfl) ?_
 intro g5
 refine kHD 0 [0,3,7,8,9,10,22,33] [] rfl (bT (e := 5) (K := 1) (bytes := 1) (i := 1) (q := (bs ++ ([IntKind.u8.wrap (K6.wrap (97 + (Int.tmod ((K6.wrap ((K6.wrap (r.next + (K6.wrap (y1 - 6)))) + (i : Int))) % 4294967296) 26)))] : List Int)).length) (new := ([IntKind.u8.wrap (K6.wrap (97 + (Int.tmod ((K6.wrap ((K6.wrap (r.next + (K6.wrap (y1 - 6)))) + (i : Int))) % 4294967296) 26)))] : List Int).map bR) (rs' := (bs ++ ([IntKind.u8.wrap (K6.wrap (97 + (Int.tmod ((K6.wrap ((K6.wrap (r.next + (K6.wrap (y1 - 6)))) + (i : Int))) % 4294967296) 26)))] : List Int)).map bR) rfl rfl rfl rfl (by kernel_rfl) (by kernel_rfl) (by kernel_rfl) rfl (by simp) (by rw [List.map_append]) (by simp) (fun ww hf => (aq (hf (a8 (ah w B).heap.size 5 1 (.slice (some ⟨g5,0,none⟩) 1 1) (([IntKind.u8.wrap (K6.wrap (97 + (Int.tmod ((K6.wrap ((K6.wrap (r.next + (K6.wrap (y1 - 6)))) + (i : Int))) % 4294967296) 26)))] : List Int).map bR)) (by simp)))) (by intro r hr; obtain ⟨x,hx,rfl⟩ := List.mem_map.1 hr; exact ⟨rfl,by simp [bR,Value.oneCell']⟩) (by (try simp only [List.length_map,List.length_append,List.length_cons,List.length_nil,List.length_take,List.length_drop,maxLen]); omega) (by (try simp only [List.length_map,List.length_append,List.length_cons,List.length_nil,List.length_take,List.length_drop,maxLen]); omega)) ?_
 rintro ⟨v6a,v6c⟩
 refine ai [0,3,7,8,9,10] [(9,.v (.slice v6a ((bs ++ ([IntKind.u8.wrap (K6.wrap (97 + (Int.tmod ((K6.wrap ((K6.wrap (r.next + (K6.wrap (y1 - 6)))) + (i : Int))) % 4294967296) 26)))] : List Int)).length) v6c))] <| kG <| cp 3 [0,3,7,8,9,10] [(10,aI (K6.wrap ((i : Int) + 1)))] <| bw [0,3,7,8,9,10] [(10,aI (K6.wrap ((i : Int) + 1)))] [(10,aI ((i : Int) + 1))] (by rw [show (K6.wrap ((i : Int) + 1)) = ((i : Int) + 1) from az (by omega) (by omega)]) (by kernel_rfl) ?_
 refine ai [0,3,7,8,9,10] [] ?_
 exact ⟨⟨(i + 1,(bs ++ ([IntKind.u8.wrap (K6.wrap (97 + (Int.tmod ((K6.wrap ((K6.wrap (r.next + (K6.wrap (y1 - 6)))) + (i : Int))) % 4294967296) 26)))] : List Int)),v6a,v6c),⟨(by omega),(by simp [hbl])⟩⟩,dG [0,2,3,4] <| kF 1 0 [0,3,7,8,9,10],by show (fun (i : Nat) (bs : List Int) (A1 : Option Addr) (c1 : Nat) => (y2).toNat - i) (i + 1) (bs ++ ([IntKind.u8.wrap (K6.wrap (97 + (Int.tmod ((K6.wrap ((K6.wrap (r.next + (K6.wrap (y1 - 6)))) + (i : Int))) % 4294967296) 26)))] : List Int)) v6a v6c < (y2).toNat - i; (dsimp only; omega)⟩
 have h4p := of_decide_eq_false h4
 have hge : ¬ (i : Int) < y2 := of_decide_eq_false h4
 refine aQ <| kS <| kQ <| kWD 1 [0,3,7,8,9,35] [(35,aP g)] 74 [gP g,iI 6] (some 36) 1 rfl rfl hlo (bI hBw hap) ?_
 rintro ⟨y7,hy7⟩
 refine ai [0,3,7,8,9,36] [] <| kC (y7) (fun h8 => ?_) (fun h8 => ?_)
 refine kG <| kWS 2 [0,3,7,9,37,38] [(0,aP g),(3,.p 0 0),(7,aI (K6.wrap (y1 - 6))),(9,.v (.slice A1 bs.length c1)),(37,aP g),(38,aI y2)] 106 [gP g,iI y2] (some 39) 0 rfl rfl hlo (xcm_curR fun ww hw hf => l1Bytes_c g J A cap y2 ww B (Nat.le_trans (by first | exact Nat.le_refl _ | exact Nat.le_of_eq (bl hB).symm) hw) (hf (cF B g A J cap) (by simp)) (hf _ m2) hap (by omega) (by omega)) ?_
 rintro ⟨⟨b9l,b9a,b9c⟩,hb9⟩
 dsimp only at hb9
 refine ai [0,3,7,9] [(9,.v (.slice b9a b9l.length b9c))] <| kS <| bZ [] (by kernel_rfl) (fun ρ σ => ?_)
 refine d4 [0,1,2,4,6] [46,44,42,41] 6 [(46,aP g),(44,.v (.slice b9a b9l.length b9c)),(42,aI (K6.wrap (y1 - 6))),(41,aI r.next)] <| kA [3,5] ⟨?_,?_⟩
 refine kSC 3 28 [iI r.next,iI (K6.wrap (y1 - 6))] (some 43) rfl (cI fun ww hf => cf r.next (K6.wrap (y1 - 6)) ww ) ?_
 intro _
 refine kA [5,7] ⟨?_,?_⟩
 refine ez 5 (.string (a6 b9l)) rfl (fun _ _ ww hr => aF (e := 5) b9l hr.1 rfl (by kernel_rfl) (by kernel_rfl) (by kernel_rfl) rfl (aq (hr.2.fact (a8 (ah w B).heap.size 5 1 (.slice b9a b9l.length b9c) (b9l.map bR)) (by simp)).1)) ?_
 refine kA [7] <| kSW 7 74 [gP g,iI 6] (some 47) 1 rfl rfl hlo (ap av) (bI hBw hap) ?_
 rintro ⟨y10,hy10⟩
 refine d4 [8,9,10] [6,5,4] 0 [(6,aB y10),(5,.v (.string (a6 b9l))),(4,aI (sA r.next (K6.wrap (y1 - 6))))] <| kZ <| kR ?_
 exact ⟨[iI (sA r.next (K6.wrap (y1 - 6))),.string (a6 b9l),.bool y10],by kernel_rfl,fun w' hb hf => ⟨⟨(sA r.next (K6.wrap (y1 - 6)),a6 b9l,y10),(by show (a6 _).size ≤ 4096; rw [bS]; omega)⟩,rfl,hf (cF B g A J cap) (by simp),aZ (hf (cy w (fun b => b = g)) (by simp)) hb rfl rfl rfl⟩⟩
 refine kSW 7 74 [gP g,iI 6] (some 47) 1 rfl rfl hlo (ap av) (bI hBw hap) ?_
 rintro ⟨y11,hy11⟩
 refine kTD [8] [4,47,44] 3 [(4,aI (sA r.next (K6.wrap (y1 - 6)))),(47,aB y11)] <| kA [5] <| ez 5 (.string (a6 b9l)) rfl (fun _ _ ww hr => aF (e := 5) b9l hr.1 rfl (by kernel_rfl) (by kernel_rfl) (by kernel_rfl) rfl (aq (hr.2.fact (a8 (ah w B).heap.size 5 1 (.slice b9a b9l.length b9c) (b9l.map bR)) (by simp)).1)) ?_
 refine kTD [9,10] [6,5,4] 0 [(6,aB y11),(5,.v (.string (a6 b9l)))] <| kZ <| kR ?_
 exact ⟨[iI (sA r.next (K6.wrap (y1 - 6))),.string (a6 b9l),.bool y11],by kernel_rfl,fun w' hb hf => ⟨⟨(sA r.next (K6.wrap (y1 - 6)),a6 b9l,y11),(by show (a6 _).size ≤ 4096; rw [bS]; omega)⟩,rfl,hf (cF B g A J cap) (by simp),aZ (hf (cy w (fun b => b = g)) (by simp)) hb rfl rfl rfl⟩⟩
 refine ez 5 (.string (a6 b9l)) rfl (fun _ _ ww hr => aF (e := 5) b9l hr.1 rfl (by kernel_rfl) (by kernel_rfl) (by kernel_rfl) rfl (aq (hr.2.fact (a8 (ah w B).heap.size 5 1 (.slice b9a b9l.length b9c) (b9l.map bR)) (by simp)).1)) ?_
 refine kA [3] <| kSC 3 28 [iI r.next,iI (K6.wrap (y1 - 6))] (some 43) rfl (cI fun ww hf => cf r.next (K6.wrap (y1 - 6)) ww ) ?_
 intro _
 refine kA [7] <| kSW 7 74 [gP g,iI 6] (some 47) 1 rfl rfl hlo (ap av) (bI hBw hap) ?_
 rintro ⟨y12,hy12⟩
 refine d4 [8,9,10] [6,5,4] 0 [(6,aB y12),(5,.v (.string (a6 b9l))),(4,aI (sA r.next (K6.wrap (y1 - 6))))] <| kZ <| kR ?_
 exact ⟨[iI (sA r.next (K6.wrap (y1 - 6))),.string (a6 b9l),.bool y12],by kernel_rfl,fun w' hb hf => ⟨⟨(sA r.next (K6.wrap (y1 - 6)),a6 b9l,y12),(by show (a6 _).size ≤ 4096; rw [bS]; omega)⟩,rfl,hf (cF B g A J cap) (by simp),aZ (hf (cy w (fun b => b = g)) (by simp)) hb rfl rfl rfl⟩⟩
 refine kK <| kS <| bZ [] (by kernel_rfl) (fun ρ σ => ?_)
 refine d4 [0,1,2,4,6] [46,44,42,41] 6 [(46,aP g),(44,.v (.slice A1 bs.length c1)),(42,aI (K6.wrap (y1 - 6))),(41,aI r.next)] <| kA [3,5] ⟨?_,?_⟩
 refine kSC 3 28 [iI r.next,iI (K6.wrap (y1 - 6))] (some 43) rfl (cI fun ww hf => cf r.next (K6.wrap (y1 - 6)) ww ) ?_
 intro _
 refine kA [5,7] ⟨?_,?_⟩
 refine ez 5 (.string (a6 bs)) rfl (fun _ _ ww hr => aF (e := 5) bs hr.1 rfl (by kernel_rfl) (by kernel_rfl) (by kernel_rfl) rfl (aq (hr.2.fact (a8 (ah w B).heap.size 5 1 (.slice A1 bs.length c1) (bs.map bR)) (by simp)).1)) ?_
 refine kA [7] <| kSW 7 74 [gP g,iI 6] (some 47) 0 rfl rfl hlo (ap av) (bI hBw hap) ?_
 rintro ⟨y13,hy13⟩
 refine d4 [8,9,10] [6,5,4] 0 [(6,aB y13),(5,.v (.string (a6 bs))),(4,aI (sA r.next (K6.wrap (y1 - 6))))] <| kZ <| kR ?_
 exact ⟨[iI (sA r.next (K6.wrap (y1 - 6))),.string (a6 bs),.bool y13],by kernel_rfl,fun w' hb hf => ⟨⟨(sA r.next (K6.wrap (y1 - 6)),a6 bs,y13),(by show (a6 _).size ≤ 4096; rw [bS]; omega)⟩,rfl,hf (cF B g A J cap) (by simp),aZ (hf (cy w (fun b => b = g)) (by simp)) hb rfl rfl rfl⟩⟩
 refine kSW 7 74 [gP g,iI 6] (some 47) 0 rfl rfl hlo (ap av) (bI hBw hap) ?_
 rintro ⟨y14,hy14⟩
 refine kTD [8] [4,47,44] 3 [(4,aI (sA r.next (K6.wrap (y1 - 6)))),(47,aB y14)] <| kA [5] <| ez 5 (.string (a6 bs)) rfl (fun _ _ ww hr => aF (e := 5) bs hr.1 rfl (by kernel_rfl) (by kernel_rfl) (by kernel_rfl) rfl (aq (hr.2.fact (a8 (ah w B).heap.size 5 1 (.slice A1 bs.length c1) (bs.map bR)) (by simp)).1)) ?_
 refine kTD [9,10] [6,5,4] 0 [(6,aB y14),(5,.v (.string (a6 bs)))] <| kZ <| kR ?_
 exact ⟨[iI (sA r.next (K6.wrap (y1 - 6))),.string (a6 bs),.bool y14],by kernel_rfl,fun w' hb hf => ⟨⟨(sA r.next (K6.wrap (y1 - 6)),a6 bs,y14),(by show (a6 _).size ≤ 4096; rw [bS]; omega)⟩,rfl,hf (cF B g A J cap) (by simp),aZ (hf (cy w (fun b => b = g)) (by simp)) hb rfl rfl rfl⟩⟩
 refine ez 5 (.string (a6 bs)) rfl (fun _ _ ww hr => aF (e := 5) bs hr.1 rfl (by kernel_rfl) (by kernel_rfl) (by kernel_rfl) rfl (aq (hr.2.fact (a8 (ah w B).heap.size 5 1 (.slice A1 bs.length c1) (bs.map bR)) (by simp)).1)) ?_
 refine kA [3] <| kSC 3 28 [iI r.next,iI (K6.wrap (y1 - 6))] (some 43) rfl (cI fun ww hf => cf r.next (K6.wrap (y1 - 6)) ww ) ?_
 intro _
 refine kA [7] <| kSW 7 74 [gP g,iI 6] (some 47) 0 rfl rfl hlo (ap av) (bI hBw hap) ?_
 rintro ⟨y15,hy15⟩
 refine d4 [8,9,10] [6,5,4] 0 [(6,aB y15),(5,.v (.string (a6 bs))),(4,aI (sA r.next (K6.wrap (y1 - 6))))] <| kZ <| kR ?_
 exact ⟨[iI (sA r.next (K6.wrap (y1 - 6))),.string (a6 bs),.bool y15],by kernel_rfl,fun w' hb hf => ⟨⟨(sA r.next (K6.wrap (y1 - 6)),a6 bs,y15),(by show (a6 _).size ≤ 4096; rw [bS]; omega)⟩,rfl,hf (cF B g A J cap) (by simp),aZ (hf (cy w (fun b => b = g)) (by simp)) hb rfl rfl rfl⟩⟩
theorem l18Stream_c_K {g : Nat} {J : List Int} {A : Option Addr} {cap : Nat} {r : Rcv} {r_heldV : Value} {w0 : World} {fs : List Fact} {B : Nat} (hB : B ≤ w0.heap.size) (hap : ¬ (sQ A J cap).blk g)  (hn : J.length ≤ 1048576 := by omega) (h1 : cF B g A J cap ∈ fs := by simp) (h2 : sQ A J cap ∈ fs := by simp) : XCM Try.prog w0 fs (cF B g A J cap).blk 73 [gP g, .agg (a7 r r_heldV).toArray] (α := {y : Int × ByteArray × Bool // y.2.1.size ≤ 4096}) (fun y => .tuple #[iI y.1.1, .string y.1.2.1, .bool y.1.2.2]) (fun _ => [cF B g A J cap]) := dm fun w hw hf => l18Stream_c g J A cap r r_heldV w B (Nat.le_trans hB hw) (hf _ h1) (hf _ h2) hap hn  
theorem l18Receiver_c (g : Nat) (J : List Int) (A : Option Addr) (cap : Nat) (w : World) (B : Nat) (hB : B ≤ w.heap.size) (hc : (cF B g A J cap).p w) (hl : Sl w (sJ A J cap) 1 (J.map bR)) (hap : ¬ (sQ A J cap).blk g) (hn : J.length ≤ 1048576) : Calls Try.prog 100 #[gP g] w fun e w' => ∃ y : {y : Rcv × (Option Addr × Nat) // RB 3 y.1}, e = .returned (.agg (a7 y.1.1 (.slice y.1.2.1 y.1.1.held.length y.1.2.2)).toArray) ∧ (cF B g A J cap).p w' ∧ (a8 w.heap.size 81 2 (.slice y.1.2.1 y.1.1.held.length y.1.2.2) (y.1.1.held.map pC)).p w' ∧ g < w.heap.size ∧ Chgd (fun b => b = g) w w' := by
 have hq_code := Sl.capLe hl
 have hBw : B ≤ (ah w B).heap.size := Nat.le_of_eq (bl hB).symm
 have hlo : ∀ (ww : World) (b : Nat),(cF B g A J cap).p ww → (cF B g A J cap).blk b → (ah w B).heap.size ≤ b := fun ww b h hb => Nat.le_trans (cz w B) (cJ h hb)
 refine x_callsMA (args := [gP g]) (fn := Try.f100) [cF B g A J cap,sQ A J cap,cy w (fun b => b = g)] B Try.func100 rfl Try.ntmps100 rfl hB (by simp only [List.mem_cons,List.not_mem_nil,or_false,forall_eq_or_imp,forall_eq]; exact ⟨hc,hl,bc w _⟩) (cg hap rfl) ?_
 have hgl : g < w.heap.size := (cF B g A J cap).lt w g hc rfl
 refine kQ <| dn [0,2] ⟨[(0,aP g),(2,.p 0 0)],[⟨28,aC⟩],[],[cF B g A J cap,sQ A J cap,cy w (fun b => b = g)]⟩ <| kQ <| kWD 1 [0,2,9] [(9,aP g)] 108 [gP g] (some 10) 0 rfl rfl hlo (l2Deep_c_K hBw hap) ?_
 rintro ⟨y1,hy1⟩
 refine kCD 0 [0,2,10] [] 118 [iI y1] (some 11) rfl (dY fun ww hw hf => ysReceiverNew_c y1 ww   ((ah w B).heap.size) hw) ?_
 rintro ⟨v2a,v2c⟩
 refine kEA [0,2,3] [(3,.p 1 0)] [⟨28,a7 (rN y1) (.slice v2a ((rN y1).held.length) v2c)⟩] <| kQ <| kWD 1 [0,2,3,12] [(12,aP g)] 101 [gP g,iI 7] (some 13) 1 rfl rfl hlo (aK hBw hap) ?_
 rintro ⟨y3,hy3⟩
 obtain ⟨hy30,hy31⟩ := hy3
 refine ai [0,2,3,4] [(4,aI y3)] <| kS <| kQ <| ai [0,2,3,4,5] [(5,aI 0)] ?_
 refine au <| aN (α := {x : Nat × Rcv × Option Addr × Nat // (fun (i : Nat) (r : Rcv) (A1 : Option Addr) (c1 : Nat) => (i : Int) ≤ y3 ∧ RB 3 r) x.1 x.2.1 x.2.2.1 x.2.2.2}) (fun x => (fun (i : Nat) (r : Rcv) (A1 : Option Addr) (c1 : Nat) => (⟨[(0,aP g),(2,.p 0 0),(3,.p 1 0),(4,aI y3),(5,aI (i : Int))],[⟨28,aC⟩,⟨28,a7 r (.slice A1 r.held.length c1)⟩],[],[a8 (ah w B).heap.size 81 2 (.slice A1 r.held.length c1) (r.held.map pC),cF B g A J cap,sQ A J cap,cy w (fun b => b = g)]⟩ : St)) x.1.1 x.1.2.1 x.1.2.2.1 x.1.2.2.2) (fun x => (fun (i : Nat) (r : Rcv) (A1 : Option Addr) (c1 : Nat) => (y3).toNat - i) x.1.1 x.1.2.1 x.1.2.2.1 x.1.2.2.2) ⟨(0,(rN y1),v2a,v2c),⟨(by omega),RB.new _⟩⟩ (dG [1,0,2,3] <| kF 2 0 [0,2,3,4,5]) ?_
 rintro ⟨⟨i,r,A1,c1⟩,hi,hrb⟩
 try dsimp only
 try dsimp only at hi hrb
 have hkn := hrb.up.kn; have hm := hrb.hm; have hsz := hrb.sz
 refine kS <| kQ <| ai [0,2,3,4,5,16] [(16,aB (decide ((i : Int) < y3)))] <| kC (decide ((i : Int) < y3)) (fun h4 => ?_) (fun h4 => ?_)
 have h4p := of_decide_eq_true h4
 have hlt :  (i : Int) < y3 := of_decide_eq_true h4
 refine kK <| kS <| au <| kQ <| kWD 2 [0,2,3,4,5,20,21] [(20,aP g),(21,.v (.agg (a7 r (.slice A1 r.held.length c1)).toArray))] 73 [gP g,.agg (a7 r (.slice A1 r.held.length c1)).toArray] (some 22) 1 rfl rfl hlo (l18Stream_c_K hBw hap) ?_
 rintro ⟨y5,hy5⟩
 refine ai [0,2,3,4,5,6,7,8] [(6,aI y5.1),(7,.v (.string y5.2.1)),(8,aB y5.2.2)] <| kQ <| kCD 4 [0,2,3,4,5,26,27,28,29] [(26,.v (.agg (a7 r (.slice A1 r.held.length c1)).toArray)),(27,aI y5.1),(28,.v (.string y5.2.1)),(29,aB y5.2.2)] 7 [.agg (a7 r (.slice A1 r.held.length c1)).toArray,iI y5.1,.string y5.2.1,.bool y5.2.2] (some 30) rfl (dY fun ww hw hf => ysArrived_c r (.slice A1 r.held.length c1) y5.1 y5.2.1 y5.2.2 ww (aq (hf _ m1)) (by assumption) (by assumption) (by omega) (by omega) ((ah w B).heap.size) hw) ?_
 rintro ⟨v6a,v6c⟩
 have hra := RB.arr hrb (by omega) y5.1 y5.2.1 y5.2.2; have hka := hra.up.kn; have hma := hra.hm; have hza := hra.sz
 refine dn [0,2,3,4,5] ⟨[(0,aP g),(2,.p 0 0),(3,.p 1 0),(4,aI y3),(5,aI (i : Int))],[⟨28,aC⟩,⟨28,a7 (a5 r y5.1 y5.2.1 y5.2.2) (.slice v6a ((a5 r y5.1 y5.2.1 y5.2.2).held.length) v6c)⟩],[],[a8 (ah w B).heap.size 81 2 (.slice v6a ((a5 r y5.1 y5.2.1 y5.2.2).held.length) v6c) ((a5 r y5.1 y5.2.1 y5.2.2).held.map pC),cF B g A J cap,a8 (ah w B).heap.size 81 2 (.slice A1 r.held.length c1) (r.held.map pC),sQ A J cap,cy w (fun b => b = g)]⟩ <| kQ <| kWD 1 [0,2,3,4,5,31] [(31,aP g)] 74 [gP g,iI 3] (some 32) 1 rfl rfl hlo (bI hBw hap) ?_
 rintro ⟨y7,hy7⟩
 refine ai [0,2,3,4,5,32] [] <| kC (y7) (fun h8 => ?_) (fun h8 => ?_)
 refine bZ [true,false] (by kernel_rfl) (fun ρ σ => ?_)
 refine kTD [1] [35,0,2,3,4,5] 7 [(35,aP g)] <| kA [0,2] ⟨?_,?_⟩
 refine kSV 0 (.v (.agg (a7 (a5 r y5.1 y5.2.1 y5.2.2) (.slice v6a ((a5 r y5.1 y5.2.1 y5.2.2).held.length) v6c)).toArray)) rfl <| kA [2] <| kSW 2 101 [gP g,iI 20] (some 36) 0 rfl rfl hlo (ap (aO rfl av)) (aK hBw hap) ?_
 rintro ⟨y9,hy9⟩
 obtain ⟨hy90,hy91⟩ := hy9
 refine kA [3] <| kSC 3 119 [.agg (a7 (a5 r y5.1 y5.2.1 y5.2.2) (.slice v6a ((a5 r y5.1 y5.2.1 y5.2.2).held.length) v6c)).toArray,iI y9] (some 37) rfl (dY fun ww hw hf => ysTakenIn_c (a5 r y5.1 y5.2.1 y5.2.2) (.slice v6a ((a5 r y5.1 y5.2.1 y5.2.2).held.length) v6c) y9 ww (aq (hf _ m1)) (by assumption) (by assumption) (by omega) ((ah w B).heap.size) hw) ?_
 rintro ⟨v10a,v10c⟩
 refine kTD [4,5,6] [38,0,2,3,4,5] 1 [(38,.v (.agg (a7 (ay (a5 r y5.1 y5.2.1 y5.2.2) y9).1 (.slice v10a ((ay (a5 r y5.1 y5.2.1 y5.2.2) y9).1.held.length) v10c)).toArray))] <| kA [7] <| kSS 7 1 0 (a7 (ay (a5 r y5.1 y5.2.1 y5.2.2) y9).1 (.slice v10a ((ay (a5 r y5.1 y5.2.1 y5.2.2) y9).1.held.length) v10c)) rfl <| kZ <| kG <| cp 3 [0,2,3,4,5] [(5,aI (K6.wrap ((i : Int) + 1)))] ?_
 refine bw [0,2,3,4,5] [(5,aI (K6.wrap ((i : Int) + 1)))] [(5,aI ((i : Int) + 1))] (by rw [show (K6.wrap ((i : Int) + 1)) = ((i : Int) + 1) from az (by omega) (by omega)]) (by kernel_rfl) ?_
 refine ai [0,2,3,4,5] [] ?_
 exact ⟨⟨(i + 1,(ay (a5 r y5.1 y5.2.1 y5.2.2) y9).1,v10a,v10c),⟨(by omega),(by first | exact hra | exact RB.taken hra _ | exact hrb)⟩⟩,dG [0,1,4,5] <| kF 2 0 [0,2,3,4,5],by show (fun (i : Nat) (r : Rcv) (A1 : Option Addr) (c1 : Nat) => (y3).toNat - i) (i + 1) ((ay (a5 r y5.1 y5.2.1 y5.2.2) y9).1) v10a v10c < (y3).toNat - i; (dsimp only; omega)⟩
 refine kSW 2 101 [gP g,iI 20] (some 36) 0 rfl rfl hlo (ap (aO rfl av)) (aK hBw hap) ?_
 rintro ⟨y11,hy11⟩
 obtain ⟨hy110,hy111⟩ := hy11
 refine kA [0] <| kSV 0 (.v (.agg (a7 (a5 r y5.1 y5.2.1 y5.2.2) (.slice v6a ((a5 r y5.1 y5.2.1 y5.2.2).held.length) v6c)).toArray)) rfl <| kA [3] <| kSC 3 119 [.agg (a7 (a5 r y5.1 y5.2.1 y5.2.2) (.slice v6a ((a5 r y5.1 y5.2.1 y5.2.2).held.length) v6c)).toArray,iI y11] (some 37) rfl (dY fun ww hw hf => ysTakenIn_c (a5 r y5.1 y5.2.1 y5.2.2) (.slice v6a ((a5 r y5.1 y5.2.1 y5.2.2).held.length) v6c) y11 ww (aq (hf _ m1)) (by assumption) (by assumption) (by omega) ((ah w B).heap.size) hw) ?_
 rintro ⟨v12a,v12c⟩
 refine kTD [4,5,6] [38,0,2,3,4,5] 1 [(38,.v (.agg (a7 (ay (a5 r y5.1 y5.2.1 y5.2.2) y11).1 (.slice v12a ((ay (a5 r y5.1 y5.2.1 y5.2.2) y11).1.held.length) v12c)).toArray))] <| kA [7] <| kSS 7 1 0 (a7 (ay (a5 r y5.1 y5.2.1 y5.2.2) y11).1 (.slice v12a ((ay (a5 r y5.1 y5.2.1 y5.2.2) y11).1.held.length) v12c)) rfl <| kZ <| kG <| cp 3 [0,2,3,4,5] [(5,aI (K6.wrap ((i : Int) + 1)))] ?_
 refine bw [0,2,3,4,5] [(5,aI (K6.wrap ((i : Int) + 1)))] [(5,aI ((i : Int) + 1))] (by rw [show (K6.wrap ((i : Int) + 1)) = ((i : Int) + 1) from az (by omega) (by omega)]) (by kernel_rfl) ?_
 refine ai [0,2,3,4,5] [] ?_
 exact ⟨⟨(i + 1,(ay (a5 r y5.1 y5.2.1 y5.2.2) y11).1,v12a,v12c),⟨(by omega),(by first | exact hra | exact RB.taken hra _ | exact hrb)⟩⟩,dG [0,1,4,5] <| kF 2 0 [0,2,3,4,5],by show (fun (i : Nat) (r : Rcv) (A1 : Option Addr) (c1 : Nat) => (y3).toNat - i) (i + 1) ((ay (a5 r y5.1 y5.2.1 y5.2.2) y11).1) v12a v12c < (y3).toNat - i; (dsimp only; omega)⟩
 refine kK <| kG <| cp 3 [0,2,3,4,5] [(5,aI (K6.wrap ((i : Int) + 1)))] <| bw [0,2,3,4,5] [(5,aI (K6.wrap ((i : Int) + 1)))] [(5,aI ((i : Int) + 1))] (by rw [show (K6.wrap ((i : Int) + 1)) = ((i : Int) + 1) from az (by omega) (by omega)]) (by kernel_rfl) ?_
 refine ai [0,2,3,4,5] [] ?_
 exact ⟨⟨(i + 1,(a5 r y5.1 y5.2.1 y5.2.2),v6a,v6c),⟨(by omega),(by first | exact hra | exact RB.taken hra _ | exact hrb)⟩⟩,dG [1,0,3,4] <| kF 2 0 [0,2,3,4,5],by show (fun (i : Nat) (r : Rcv) (A1 : Option Addr) (c1 : Nat) => (y3).toNat - i) (i + 1) (a5 r y5.1 y5.2.1 y5.2.2) v6a v6c < (y3).toNat - i; (dsimp only; omega)⟩
 have h4p := of_decide_eq_false h4
 have hge : ¬ (i : Int) < y3 := of_decide_eq_false h4
 refine aQ <| kQ <| kEU [2] [(2,.p 0 0)] 0 ⟨28,a7 r (.slice A1 r.held.length c1)⟩ <| kR ?_
 exact ⟨[.agg (a7 r (.slice A1 r.held.length c1)).toArray],by kernel_rfl,fun w' hb hf ha => ⟨⟨(r,A1,c1),hrb⟩,rfl,hf (cF B g A J cap) (by simp),rowF_raise (hf (a8 (ah w B).heap.size 81 2 (.slice A1 r.held.length c1) (r.held.map pC)) (by simp)) (own_new ha (i := 0) (j := 1) (k := 3) rfl rfl rfl rfl (by decide) (by decide)),hgl,aZ (hf (cy w (fun b => b = g)) (by simp)) hb rfl rfl rfl⟩⟩
theorem l18Bent_c (g : Nat) (J : List Int) (A : Option Addr) (cap : Nat) (w : World) (B : Nat) (hB : B ≤ w.heap.size) (hc : (cF B g A J cap).p w) (hl : Sl w (sJ A J cap) 1 (J.map bR)) (hap : ¬ (sQ A J cap).blk g) (hn : J.length ≤ 1048576) : Calls Try.prog 72 #[gP g] w fun e w' => ∃ y : {y : Rcv × (Option Addr × Nat) // RB 4 y.1}, e = .returned (.agg (a7 y.1.1 (.slice y.1.2.1 y.1.1.held.length y.1.2.2)).toArray) ∧ (cF B g A J cap).p w' ∧ (a8 w.heap.size 81 2 (.slice y.1.2.1 y.1.1.held.length y.1.2.2) (y.1.1.held.map pC)).p w' ∧ g < w.heap.size ∧ Chgd (fun b => b = g) w w' := by
 have hq_code := Sl.capLe hl
 have hBw : B ≤ (ah w B).heap.size := Nat.le_of_eq (bl hB).symm
 have hlo : ∀ (ww : World) (b : Nat),(cF B g A J cap).p ww → (cF B g A J cap).blk b → (ah w B).heap.size ≤ b := fun ww b h hb => Nat.le_trans (cz w B) (cJ h hb)
 refine x_callsMA (args := [gP g]) (fn := Try.f72) [cF B g A J cap,sQ A J cap,cy w (fun b => b = g)] B Try.func72 rfl Try.ntmps72 rfl hB (by simp only [List.mem_cons,List.not_mem_nil,or_false,forall_eq_or_imp,forall_eq]; exact ⟨hc,hl,bc w _⟩) (cg hap rfl) ?_
 have hgl : g < w.heap.size := (cF B g A J cap).lt w g hc rfl
 refine kQ <| dn [0,2] ⟨[(0,aP g),(2,.p 0 0)],[⟨28,aC⟩],[],[cF B g A J cap,sQ A J cap,cy w (fun b => b = g)]⟩ <| kQ <| kWD 1 [0,2,4] [(4,aP g)] 100 [gP g] (some 5) 0 rfl rfl hlo (xcm_curR fun ww hw hf => l18Receiver_c g J A cap ww B (Nat.le_trans (by first | exact Nat.le_refl _ | exact Nat.le_of_eq (bl hB).symm) hw) (hf (cF B g A J cap) (by simp)) (hf _ m1) hap (by omega)) ?_
 rintro ⟨⟨b1m,b1a,b1c⟩,hb1⟩
 dsimp only at hb1
 have hb1n := hb1.1
 refine kEA [0,2,3] [(3,.p 1 0)] [⟨28,a7 b1m (.slice b1a b1m.held.length b1c)⟩] <| kS <| cH (α := {zz : Rcv × Option Addr × Nat // (fun (q : Rcv) (A3 : Option Addr) (c3 : Nat) => RB 4 q) zz.1 zz.2.1 zz.2.2}) (fun zz => (fun (q : Rcv) (A3 : Option Addr) (c3 : Nat) => (⟨[(2,.p 0 0),(3,.p 1 0)],[⟨28,aC⟩,⟨28,a7 q (.slice A3 q.held.length c3)⟩],[],[a8 (ah w B).heap.size 81 2 (.slice A3 q.held.length c3) (q.held.map pC),cF B g A J cap,sQ A J cap,cy w (fun b => b = g)]⟩ : St)) zz.1.1 zz.1.2.1 zz.1.2.2) ?_ ?_
 refine kQ <| kWD 1 [0,2,3,6] [(6,aP g)] 101 [gP g,iI 12] (some 7) 1 rfl rfl hlo (aK hBw hap) ?_
 rintro ⟨y2,hy2⟩
 obtain ⟨hy20,hy21⟩ := hy2
 refine ai [0,2,3,7] [] <| au <| kQ <| ai [0,2,3,7,8] [(8,aB (y2 == 0))] ?_
 refine kC (y2 == 0) (fun h3 => ?_) (fun h3 => ?_)
 have h3p := eqT h3
 refine kG <| kWD 1 [2,3,10] [(10,aP g)] 102 [gP g] (some 11) 0 rfl rfl hlo (l2Word_c_K hBw hap) ?_
 rintro ⟨y4,hy4⟩
 refine kEU [2,3] [] 1 ⟨28,a7 { b1m with next := y4 } (.slice b1a b1m.held.length b1c)⟩ ?_
 exact ⟨⟨({ b1m with next := y4 },b1a,b1c),⟨Nat.le_trans hb1.1 (by decide),hb1.2.1,hb1.2.2⟩⟩,dG [1,0,2,3] <| kF 2 0 [2,3]⟩
 have h3p := eqF h3
 refine kQ <| ai [0,2,3,7,13] [(13,aB (y2 == 1))] <| kC (y2 == 1) (fun h5 => ?_) (fun h5 => ?_)
 have h5p := eqT h5
 refine kG <| kHD 1 [2,3,15] [(15,aP g)] rfl (bj (e := 3) (K := 1) (bytes := 8) [iI (-2),iI (-1),iI 0,iI 5,iI 32,iI 33] (rs := ([(-2),(-1),0,5,32,33] : List Int).map aw) rfl rfl) ?_
 intro g6
 refine xl_know (φ := ¬ (aM (.slice (some ⟨g6,0,none⟩) 6 6) 1 (([(-2),(-1),0,5,32,33] : List Int).map aw)).blk g) (fun _ _ _ _ hr => fun hb => hr.2.apart 0 1 (a8 (ah w B).heap.size 3 1 (.slice (some ⟨g6,0,none⟩) 6 6) (([(-2),(-1),0,5,32,33] : List Int).map aw)) (cF B g A J cap) rfl rfl (by decide) rfl g (ct hb) rfl) (fun hk7 => ?_)
 refine kWD 0 [2,3,15,16] [] 103 [gP g,.slice (some ⟨g6,0,none⟩) 6 6] (some 17) 1 rfl rfl hlo (bU hBw hap (fun ww hw hf => (aq (hf _ m0))) hk7 (by simp)) ?_
 rintro ⟨y8,hy8⟩
 refine kEU [2,3] [] 1 ⟨28,a7 { b1m with fin := y8 } (.slice b1a b1m.held.length b1c)⟩ ?_
 exact ⟨⟨({ b1m with fin := y8 },b1a,b1c),⟨Nat.le_trans hb1.1 (by decide),hb1.2.1,hb1.2.2⟩⟩,dG [2,0,3,4] <| kF 2 0 [2,3]⟩
 have h5p := eqF h5
 refine kQ <| ai [0,2,3,7,19] [(19,aB (y2 == 2))] <| kC (y2 == 2) (fun h9 => ?_) (fun h9 => ?_)
 have h9p := eqT h9
 refine kG <| kEU [2,3] [] 1 ⟨28,a7 { b1m with done := !b1m.done } (.slice b1a b1m.held.length b1c)⟩ ?_
 exact ⟨⟨({ b1m with done := !b1m.done },b1a,b1c),⟨Nat.le_trans hb1.1 (by decide),hb1.2.1,hb1.2.2⟩⟩,dG [1,0,2,3] <| kF 2 0 [2,3]⟩
 have h9p := eqF h9
 refine kQ <| ai [0,2,3,7,25] [(25,aB (y2 == 3))] <| kC (y2 == 3) (fun h10 => ?_) (fun h10 => ?_)
 have h10p := eqT h10
 refine bZ [true,false] (by kernel_rfl) (fun ρ σ => ?_)
 refine xe_cut (α := {zz : Nat × Int × Nat × ByteArray × Nat × Option Addr × Nat // (fun (g162 : Nat) (y213 : Int) (g312 : Nat) (y363 : ByteArray) (g462 : Nat) (v512a : Option Addr) (v512c : Nat) => y363 ∈ ([(⟨#[]⟩ : ByteArray),(⟨#[120]⟩ : ByteArray),(⟨#[121,122]⟩ : ByteArray)] : List ByteArray)) zz.1 zz.2.1 zz.2.2.1 zz.2.2.2.1 zz.2.2.2.2.1 zz.2.2.2.2.2.1 zz.2.2.2.2.2.2}) (fun zz => (fun (g162 : Nat) (y213 : Int) (g312 : Nat) (y363 : ByteArray) (g462 : Nat) (v512a : Option Addr) (v512c : Nat) => (⟨[(2,.p 0 0),(3,.p 1 0)],[⟨28,aC⟩,⟨28,a7 { b1m with held := (b1m.held ++ ([⟨y213,y363⟩] : List Pce)) } (.slice v512a ((b1m.held ++ ([⟨y213,y363⟩] : List Pce)).length) v512c)⟩],[],[cF B g A J cap,sQ A J cap,cy w (fun b => b = g),a8 (ah w B).heap.size 3 1 (.slice (some ⟨g162,0,none⟩) 7 7) (([0,1,20,31,32,(-1),9223372036854775807] : List Int).map aw),a8 (ah w B).heap.size 81 2 (.slice (some ⟨g462,0,none⟩) 1 1) (([⟨y213,y363⟩] : List Pce).map pC),a8 (ah w B).heap.size 81 2 (.slice v512a ((b1m.held ++ ([⟨y213,y363⟩] : List Pce)).length) v512c) ((b1m.held ++ ([⟨y213,y363⟩] : List Pce)).map pC),a8 (ah w B).heap.size 9 1 (.slice (some ⟨g312,0,none⟩) 3 3) (([(⟨#[]⟩ : ByteArray),(⟨#[120]⟩ : ByteArray),(⟨#[121,122]⟩ : ByteArray)] : List ByteArray).map bu)]⟩ : St)) zz.1.1 zz.1.2.1 zz.1.2.2.1 zz.1.2.2.2.1 zz.1.2.2.2.2.1 zz.1.2.2.2.2.2.1 zz.1.2.2.2.2.2.2) 0 (dy 13 8191) ?_ (fun hD7 => ?_)
 rintro ⟨⟨g162,y213,g312,y363,g462,v512a,v512c⟩,hy363⟩
 dsimp only
 try dsimp only at hy363
 refine kZ ?_
 exact ⟨⟨({ b1m with held := (b1m.held ++ ([⟨y213,y363⟩] : List Pce)) },v512a,v512c),(RB.more hb1 _ (by have hq := hy363; simp only [List.mem_cons,List.not_mem_nil,or_false] at hq; rcases hq with h | h | h <;> subst h <;> (dsimp only; decide)) hb1.2.2)⟩,dG [5,0,1,2] <| kF 2 0 [2,3]⟩
 refine xe_cut (α := {zz : Nat × Int × Nat × ByteArray × Nat × Option Addr × Nat // (fun (g162 : Nat) (y213 : Int) (g312 : Nat) (y363 : ByteArray) (g462 : Nat) (v512a : Option Addr) (v512c : Nat) => y363 ∈ ([(⟨#[]⟩ : ByteArray),(⟨#[120]⟩ : ByteArray),(⟨#[121,122]⟩ : ByteArray)] : List ByteArray)) zz.1 zz.2.1 zz.2.2.1 zz.2.2.2.1 zz.2.2.2.2.1 zz.2.2.2.2.2.1 zz.2.2.2.2.2.2}) (fun zz => (fun (g162 : Nat) (y213 : Int) (g312 : Nat) (y363 : ByteArray) (g462 : Nat) (v512a : Option Addr) (v512c : Nat) => (⟨[(2,.p 0 0),(3,.p 1 0),(37,.v (.slice v512a ((b1m.held ++ ([⟨y213,y363⟩] : List Pce)).length) v512c))],[⟨28,aC⟩,⟨28,a7 b1m (.slice b1a b1m.held.length b1c)⟩],[],[cF B g A J cap,sQ A J cap,cy w (fun b => b = g),a8 (ah w B).heap.size 3 1 (.slice (some ⟨g162,0,none⟩) 7 7) (([0,1,20,31,32,(-1),9223372036854775807] : List Int).map aw),a8 (ah w B).heap.size 81 2 (.slice (some ⟨g462,0,none⟩) 1 1) (([⟨y213,y363⟩] : List Pce).map pC),a8 (ah w B).heap.size 81 2 (.slice v512a ((b1m.held ++ ([⟨y213,y363⟩] : List Pce)).length) v512c) ((b1m.held ++ ([⟨y213,y363⟩] : List Pce)).map pC),a8 (ah w B).heap.size 9 1 (.slice (some ⟨g312,0,none⟩) 3 3) (([(⟨#[]⟩ : ByteArray),(⟨#[120]⟩ : ByteArray),(⟨#[121,122]⟩ : ByteArray)] : List ByteArray).map bu)]⟩ : St)) zz.1.1 zz.1.2.1 zz.1.2.2.1 zz.1.2.2.2.1 zz.1.2.2.2.2.1 zz.1.2.2.2.2.2.1 zz.1.2.2.2.2.2.2) 2 (dy 13 2047) ?_ (fun hD6 => ?_)
 rintro ⟨⟨g162,y213,g312,y363,g462,v512a,v512c⟩,hy363⟩
 dsimp only
 try dsimp only at hy363
 refine d4 [11] [38,2,3,37] 1 [(38,.p 1 2),(2,.p 0 0),(3,.p 1 0),(37,.v (.slice v512a ((b1m.held ++ ([⟨y213,y363⟩] : List Pce)).length) v512c))] <| kA [12] <| kSS 12 1 2 [.slice v512a ((b1m.held ++ ([⟨y213,y363⟩] : List Pce)).length) v512c] rfl ?_
 exact bn (kF 2 0 [2,3]) (by kernel_rfl) (hD7 ⟨(g162,y213,g312,y363,g462,v512a,v512c),hy363⟩)
 refine cl (α := {zz : Nat × Int × Nat × ByteArray × Nat // (fun (g162 : Nat) (y213 : Int) (g312 : Nat) (y363 : ByteArray) (g462 : Nat) => y363 ∈ ([(⟨#[]⟩ : ByteArray),(⟨#[120]⟩ : ByteArray),(⟨#[121,122]⟩ : ByteArray)] : List ByteArray)) zz.1 zz.2.1 zz.2.2.1 zz.2.2.2.1 zz.2.2.2.2}) (fun zz => (fun (g162 : Nat) (y213 : Int) (g312 : Nat) (y363 : ByteArray) (g462 : Nat) => [(28,.v (.slice b1a b1m.held.length b1c)),(36,.v (.slice (some ⟨g462,0,none⟩) 1 1))]) zz.1.1 zz.1.2.1 zz.1.2.2.1 zz.1.2.2.2.1 zz.1.2.2.2.2) [2,3,28,36] (fun _ => []) (fun zz => (fun (g162 : Nat) (y213 : Int) (g312 : Nat) (y363 : ByteArray) (g462 : Nat) => [a8 (ah w B).heap.size 3 1 (.slice (some ⟨g162,0,none⟩) 7 7) (([0,1,20,31,32,(-1),9223372036854775807] : List Int).map aw),a8 (ah w B).heap.size 81 2 (.slice (some ⟨g462,0,none⟩) 1 1) (([⟨y213,y363⟩] : List Pce).map pC),a8 (ah w B).heap.size 9 1 (.slice (some ⟨g312,0,none⟩) 3 3) (([(⟨#[]⟩ : ByteArray),(⟨#[120]⟩ : ByteArray),(⟨#[121,122]⟩ : ByteArray)] : List ByteArray).map bu)]) zz.1.1 zz.1.2.1 zz.1.2.2.1 zz.1.2.2.2.1 zz.1.2.2.2.2) 3 (dy 13 1023) ?_ (fun hD5 => ?_)
 rintro ⟨⟨g162,y213,g312,y363,g462⟩,hy363⟩
 dsimp only [List.cons_append,List.nil_append]
 try dsimp only at hy363
 refine kA [10] <| kSH 10 rfl (ap (aO rfl av)) (bT (e := 81) (K := 2) (bytes := 24) (i := 1) (q := (b1m.held ++ ([⟨y213,y363⟩] : List Pce)).length) (new := ([⟨y213,y363⟩] : List Pce).map pC) (rs' := (b1m.held ++ ([⟨y213,y363⟩] : List Pce)).map pC) rfl rfl rfl rfl (by kernel_rfl) (by kernel_rfl) (by kernel_rfl) rfl (by simp) (by rw [List.map_append]) (by simp) (fun ww hf => (aq (hf (a8 (ah w B).heap.size 81 2 (.slice (some ⟨g462,0,none⟩) 1 1) (([⟨y213,y363⟩] : List Pce).map pC)) (by simp)))) (by intro r hr; obtain ⟨x,hx,rfl⟩ := List.mem_map.1 hr; exact ⟨rfl,by simp [pC,Value.oneCell']⟩) (by (try simp only [List.length_map,List.length_append,List.length_cons,List.length_nil,List.length_take,List.length_drop,maxLen]); omega) (by (try simp only [List.length_map,List.length_append,List.length_cons,List.length_nil,List.length_take,List.length_drop,maxLen]); omega)) ?_
 rintro ⟨v512a,v512c⟩
 exact bn (dG [1,2,3,4,5,0,6] <| kF 2 0 [2,3,37]) (by kernel_rfl) (hD6 ⟨(g162,y213,g312,y363,g462,v512a,v512c),hy363⟩)
 refine cl (α := {zz : Nat × Int × Nat × ByteArray // (fun (g162 : Nat) (y213 : Int) (g312 : Nat) (y363 : ByteArray) => y363 ∈ ([(⟨#[]⟩ : ByteArray),(⟨#[120]⟩ : ByteArray),(⟨#[121,122]⟩ : ByteArray)] : List ByteArray)) zz.1 zz.2.1 zz.2.2.1 zz.2.2.2}) (fun zz => (fun (g162 : Nat) (y213 : Int) (g312 : Nat) (y363 : ByteArray) => [(28,.v (.slice b1a b1m.held.length b1c)),(31,aI y213),(34,.v (.string y363))]) zz.1.1 zz.1.2.1 zz.1.2.2.1 zz.1.2.2.2) [2,3,28,31,34] (fun _ => []) (fun zz => (fun (g162 : Nat) (y213 : Int) (g312 : Nat) (y363 : ByteArray) => [a8 (ah w B).heap.size 3 1 (.slice (some ⟨g162,0,none⟩) 7 7) (([0,1,20,31,32,(-1),9223372036854775807] : List Int).map aw),a8 (ah w B).heap.size 9 1 (.slice (some ⟨g312,0,none⟩) 3 3) (([(⟨#[]⟩ : ByteArray),(⟨#[120]⟩ : ByteArray),(⟨#[121,122]⟩ : ByteArray)] : List ByteArray).map bu)]) zz.1.1 zz.1.2.1 zz.1.2.2.1 zz.1.2.2.2) 5 (dy 13 255) ?_ (fun hD4 => ?_)
 rintro ⟨⟨g162,y213,g312,y363⟩,hy363⟩
 dsimp only [List.cons_append,List.nil_append]
 try dsimp only at hy363
 refine kX 8 (.agg (dt (⟨y213,y363⟩ : Pce)).toArray) rfl (fun _ _ ww hA => cw [(0,iI y213),(1,.string y363)] hA rfl (by kernel_rfl) (by kernel_rfl) ww) ?_
 refine kA [9] <| kSH 9 rfl (ap (aO rfl av)) (bj (e := 81) (K := 2) (bytes := 24) [.agg (dt (⟨y213,y363⟩ : Pce)).toArray] (rs := ([⟨y213,y363⟩] : List Pce).map pC) rfl rfl) ?_
 intro g462
 exact bn (dG [1,2,3,4,5,0,6] <| kF 2 0 [2,3,28,36]) (by kernel_rfl) (hD5 ⟨(g162,y213,g312,y363,g462),hy363⟩)
 refine cl (α := Nat × Int × Nat) (fun zz => (fun (g162 : Nat) (y213 : Int) (g312 : Nat) => [(28,.v (.slice b1a b1m.held.length b1c)),(31,aI y213),(32,aP g),(33,.v (.slice (some ⟨g312,0,none⟩) 3 3))]) zz.1 zz.2.1 zz.2.2) [2,3,28,31,32,33] (fun _ => []) (fun zz => (fun (g162 : Nat) (y213 : Int) (g312 : Nat) => [a8 (ah w B).heap.size 3 1 (.slice (some ⟨g162,0,none⟩) 7 7) (([0,1,20,31,32,(-1),9223372036854775807] : List Int).map aw),a8 (ah w B).heap.size 9 1 (.slice (some ⟨g312,0,none⟩) 3 3) (([(⟨#[]⟩ : ByteArray),(⟨#[120]⟩ : ByteArray),(⟨#[121,122]⟩ : ByteArray)] : List ByteArray).map bu)]) zz.1 zz.2.1 zz.2.2) 6 (dy 13 127) ?_ (fun hD3 => ?_)
 rintro ⟨g162,y213,g312⟩
 dsimp only [List.cons_append,List.nil_append]
 refine kA [7] <| xs_know (φ := ¬ (aM (.slice (some ⟨g312,0,none⟩) 3 3) 1 (([(⟨#[]⟩ : ByteArray),(⟨#[120]⟩ : ByteArray),(⟨#[121,122]⟩ : ByteArray)] : List ByteArray).map bu)).blk g) (fun _ _ _ _ hr => fun hb => hr.2.apart 5 0 (a8 (ah w B).heap.size 9 1 (.slice (some ⟨g312,0,none⟩) 3 3) (([(⟨#[]⟩ : ByteArray),(⟨#[120]⟩ : ByteArray),(⟨#[121,122]⟩ : ByteArray)] : List ByteArray).map bu)) (cF B g A J cap) rfl rfl (by decide) rfl g (ct hb) rfl) (fun hk362 => ?_)
 refine kSW 7 104 [gP g,.slice (some ⟨g312,0,none⟩) 3 3] (some 34) 0 rfl rfl hlo (ap (aO rfl av)) (l1Pick_c_K hBw hap (fun ww hw hf => (aq (hf _ m5))) hk362 (by simp)) ?_
 rintro ⟨y363,hy363⟩
 exact bn (kF 2 0 [2,3,28,31,34]) (by kernel_rfl) (hD4 ⟨(g162,y213,g312,y363),hy363⟩)
 refine cl (α := Nat × Int) (fun zz => (fun (g162 : Nat) (y213 : Int) => [(28,.v (.slice b1a b1m.held.length b1c)),(31,aI y213),(32,aP g)]) zz.1 zz.2) [2,3,28,31,32] (fun _ => []) (fun zz => (fun (g162 : Nat) (y213 : Int) => [a8 (ah w B).heap.size 3 1 (.slice (some ⟨g162,0,none⟩) 7 7) (([0,1,20,31,32,(-1),9223372036854775807] : List Int).map aw)]) zz.1 zz.2) 7 (dy 13 63) ?_ (fun hD2 => ?_)
 rintro ⟨g162,y213⟩
 dsimp only [List.cons_append,List.nil_append]
 refine kA [6] <| kSH 6 rfl (ap (aO rfl av)) (bj (e := 9) (K := 1) (bytes := 16) [.string (⟨#[]⟩ : ByteArray),.string (⟨#[120]⟩ : ByteArray),.string (⟨#[121,122]⟩ : ByteArray)] (rs := ([(⟨#[]⟩ : ByteArray),(⟨#[120]⟩ : ByteArray),(⟨#[121,122]⟩ : ByteArray)] : List ByteArray).map bu) rfl rfl) ?_
 intro g312
 exact bn (dG [1,2,3,4,5,0] <| kF 2 0 [2,3,28,31,32,33]) (by kernel_rfl) (hD3 (g162,y213,g312))
 refine cl (α := Nat × Nat) (fun zz => (fun (g162 : Nat) (g312 : Nat) => [(28,.v (.slice b1a b1m.held.length b1c)),(29,aP g),(30,.v (.slice (some ⟨g162,0,none⟩) 7 7)),(32,aP g),(33,.v (.slice (some ⟨g312,0,none⟩) 3 3))]) zz.1 zz.2) [2,3,28,29,30,32,33] (fun _ => []) (fun zz => (fun (g162 : Nat) (g312 : Nat) => [a8 (ah w B).heap.size 3 1 (.slice (some ⟨g162,0,none⟩) 7 7) (([0,1,20,31,32,(-1),9223372036854775807] : List Int).map aw),a8 (ah w B).heap.size 9 1 (.slice (some ⟨g312,0,none⟩) 3 3) (([(⟨#[]⟩ : ByteArray),(⟨#[120]⟩ : ByteArray),(⟨#[121,122]⟩ : ByteArray)] : List ByteArray).map bu)]) zz.1 zz.2) 7 (dy 13 111) ?_ (fun hD8 => ?_)
 rintro ⟨g162,g312⟩
 dsimp only [List.cons_append,List.nil_append]
 refine kA [4] <| xs_know (φ := ¬ (aM (.slice (some ⟨g162,0,none⟩) 7 7) 1 (([0,1,20,31,32,(-1),9223372036854775807] : List Int).map aw)).blk g) (fun _ _ _ _ hr => fun hb => hr.2.apart 4 0 (a8 (ah w B).heap.size 3 1 (.slice (some ⟨g162,0,none⟩) 7 7) (([0,1,20,31,32,(-1),9223372036854775807] : List Int).map aw)) (cF B g A J cap) rfl rfl (by decide) rfl g (ct hb) rfl) (fun hk212 => ?_)
 refine kSW 4 103 [gP g,.slice (some ⟨g162,0,none⟩) 7 7] (some 31) 0 rfl rfl hlo (ap (aO rfl av)) (bU hBw hap (fun ww hw hf => (aq (hf _ m4))) hk212 (by simp)) ?_
 rintro ⟨y213,hy213⟩
 exact bn (kF 2 0 [2,3,28,31,32,33]) (by kernel_rfl) (hD3 (g162,y213,g312))
 refine cl (α := Nat) (fun zz => (fun (g162 : Nat) => [(28,.v (.slice b1a b1m.held.length b1c)),(29,aP g),(30,.v (.slice (some ⟨g162,0,none⟩) 7 7)),(32,aP g)]) zz) [2,3,28,29,30,32] (fun _ => []) (fun zz => (fun (g162 : Nat) => [a8 (ah w B).heap.size 3 1 (.slice (some ⟨g162,0,none⟩) 7 7) (([0,1,20,31,32,(-1),9223372036854775807] : List Int).map aw)]) zz) 8 (dy 13 47) ?_ (fun hD1 => ?_)
 intro g162
 dsimp only [List.cons_append,List.nil_append]
 refine kA [4,6] ⟨?_,?_⟩
 refine xs_know (φ := ¬ (aM (.slice (some ⟨g162,0,none⟩) 7 7) 1 (([0,1,20,31,32,(-1),9223372036854775807] : List Int).map aw)).blk g) (fun _ _ _ _ hr => fun hb => hr.2.apart 4 0 (a8 (ah w B).heap.size 3 1 (.slice (some ⟨g162,0,none⟩) 7 7) (([0,1,20,31,32,(-1),9223372036854775807] : List Int).map aw)) (cF B g A J cap) rfl rfl (by decide) rfl g (ct hb) rfl) (fun hk212 => ?_)
 refine kSW 4 103 [gP g,.slice (some ⟨g162,0,none⟩) 7 7] (some 31) 0 rfl rfl hlo (ap (aO rfl av)) (bU hBw hap (fun ww hw hf => (aq (hf _ m4))) hk212 (by simp)) ?_
 rintro ⟨y213,hy213⟩
 exact bn (kF 2 0 [2,3,28,31,32]) (by kernel_rfl) (hD2 (g162,y213))
 refine kSH 6 rfl (ap (aO rfl av)) (bj (e := 9) (K := 1) (bytes := 16) [.string (⟨#[]⟩ : ByteArray),.string (⟨#[120]⟩ : ByteArray),.string (⟨#[121,122]⟩ : ByteArray)] (rs := ([(⟨#[]⟩ : ByteArray),(⟨#[120]⟩ : ByteArray),(⟨#[121,122]⟩ : ByteArray)] : List ByteArray).map bu) rfl rfl) ?_
 intro g312
 exact bn (dG [1,2,3,4,5,0] <| kF 2 0 [2,3,28,29,30,32,33]) (by kernel_rfl) (hD8 (g162,g312))
 refine cl (α := Nat) (fun zz => (fun (g312 : Nat) => [(28,.v (.slice b1a b1m.held.length b1c)),(29,aP g),(32,aP g),(33,.v (.slice (some ⟨g312,0,none⟩) 3 3))]) zz) [2,3,28,29,32,33] (fun _ => []) (fun zz => (fun (g312 : Nat) => [a8 (ah w B).heap.size 9 1 (.slice (some ⟨g312,0,none⟩) 3 3) (([(⟨#[]⟩ : ByteArray),(⟨#[120]⟩ : ByteArray),(⟨#[121,122]⟩ : ByteArray)] : List ByteArray).map bu)]) zz) 8 (dy 13 103) ?_ (fun hD9 => ?_)
 intro g312
 dsimp only [List.cons_append,List.nil_append]
 refine kA [3] <| kSH 3 rfl (ap (aO rfl av)) (bj (e := 3) (K := 1) (bytes := 8) [iI 0,iI 1,iI 20,iI 31,iI 32,iI (-1),iI 9223372036854775807] (rs := ([0,1,20,31,32,(-1),9223372036854775807] : List Int).map aw) rfl rfl) ?_
 intro g162
 exact bn (dG [1,2,3,4,0,5] <| kF 2 0 [2,3,28,29,30,32,33]) (by kernel_rfl) (hD8 (g162,g312))
 refine xe_cutT (α := Unit) (fun zz => (fun (u_ : Unit) => [(28,.v (.slice b1a b1m.held.length b1c)),(29,aP g),(32,aP g)]) zz) [2,3,28,29,32] 9 (dy 13 39) ?_ (fun hD0 => ?_)
 intro u_
 try dsimp only
 refine kA [3,6] ⟨?_,?_⟩
 refine kSH 3 rfl (ap (aO rfl av)) (bj (e := 3) (K := 1) (bytes := 8) [iI 0,iI 1,iI 20,iI 31,iI 32,iI (-1),iI 9223372036854775807] (rs := ([0,1,20,31,32,(-1),9223372036854775807] : List Int).map aw) rfl rfl) ?_
 intro g162
 exact bn (dG [1,2,3,4,0] <| kF 2 0 [2,3,28,29,30,32]) (by kernel_rfl) (hD1 (g162))
 refine kSH 6 rfl (ap (aO rfl av)) (bj (e := 9) (K := 1) (bytes := 16) [.string (⟨#[]⟩ : ByteArray),.string (⟨#[120]⟩ : ByteArray),.string (⟨#[121,122]⟩ : ByteArray)] (rs := ([(⟨#[]⟩ : ByteArray),(⟨#[120]⟩ : ByteArray),(⟨#[121,122]⟩ : ByteArray)] : List ByteArray).map bu) rfl rfl) ?_
 intro g312
 exact bn (dG [1,2,3,4,0] <| kF 2 0 [2,3,28,29,32,33]) (by kernel_rfl) (hD9 (g312))
 refine cl (α := {zz : Nat × Int × Nat × ByteArray // (fun (g162 : Nat) (y213 : Int) (g312 : Nat) (y363 : ByteArray) => y363 ∈ ([(⟨#[]⟩ : ByteArray),(⟨#[120]⟩ : ByteArray),(⟨#[121,122]⟩ : ByteArray)] : List ByteArray)) zz.1 zz.2.1 zz.2.2.1 zz.2.2.2}) (fun zz => (fun (g162 : Nat) (y213 : Int) (g312 : Nat) (y363 : ByteArray) => [(28,.v (.slice b1a b1m.held.length b1c)),(35,.v (.agg (dt (⟨y213,y363⟩ : Pce)).toArray))]) zz.1.1 zz.1.2.1 zz.1.2.2.1 zz.1.2.2.2) [2,3,28,35] (fun _ => []) (fun zz => (fun (g162 : Nat) (y213 : Int) (g312 : Nat) (y363 : ByteArray) => [a8 (ah w B).heap.size 3 1 (.slice (some ⟨g162,0,none⟩) 7 7) (([0,1,20,31,32,(-1),9223372036854775807] : List Int).map aw),a8 (ah w B).heap.size 9 1 (.slice (some ⟨g312,0,none⟩) 3 3) (([(⟨#[]⟩ : ByteArray),(⟨#[120]⟩ : ByteArray),(⟨#[121,122]⟩ : ByteArray)] : List ByteArray).map bu)]) zz.1.1 zz.1.2.1 zz.1.2.2.1 zz.1.2.2.2) 4 (dy 13 511) ?_ (fun hD14 => ?_)
 rintro ⟨⟨g162,y213,g312,y363⟩,hy363⟩
 dsimp only [List.cons_append,List.nil_append]
 try dsimp only at hy363
 refine kA [9] <| kSH 9 rfl (ap (aO rfl av)) (bj (e := 81) (K := 2) (bytes := 24) [.agg (dt (⟨y213,y363⟩ : Pce)).toArray] (rs := ([⟨y213,y363⟩] : List Pce).map pC) rfl rfl) ?_
 intro g462
 exact bn (dG [1,2,3,4,5,0,6] <| kF 2 0 [2,3,28,36]) (by kernel_rfl) (hD5 ⟨(g162,y213,g312,y363,g462),hy363⟩)
 refine cl (α := {zz : Nat × Int × Nat × ByteArray × Nat // (fun (g162 : Nat) (y213 : Int) (g312 : Nat) (y363 : ByteArray) (g462 : Nat) => y363 ∈ ([(⟨#[]⟩ : ByteArray),(⟨#[120]⟩ : ByteArray),(⟨#[121,122]⟩ : ByteArray)] : List ByteArray)) zz.1 zz.2.1 zz.2.2.1 zz.2.2.2.1 zz.2.2.2.2}) (fun zz => (fun (g162 : Nat) (y213 : Int) (g312 : Nat) (y363 : ByteArray) (g462 : Nat) => [(27,.p 1 2),(36,.v (.slice (some ⟨g462,0,none⟩) 1 1))]) zz.1.1 zz.1.2.1 zz.1.2.2.1 zz.1.2.2.2.1 zz.1.2.2.2.2) [2,3,27,36] (fun _ => []) (fun zz => (fun (g162 : Nat) (y213 : Int) (g312 : Nat) (y363 : ByteArray) (g462 : Nat) => [a8 (ah w B).heap.size 3 1 (.slice (some ⟨g162,0,none⟩) 7 7) (([0,1,20,31,32,(-1),9223372036854775807] : List Int).map aw),a8 (ah w B).heap.size 81 2 (.slice (some ⟨g462,0,none⟩) 1 1) (([⟨y213,y363⟩] : List Pce).map pC),a8 (ah w B).heap.size 9 1 (.slice (some ⟨g312,0,none⟩) 3 3) (([(⟨#[]⟩ : ByteArray),(⟨#[120]⟩ : ByteArray),(⟨#[121,122]⟩ : ByteArray)] : List ByteArray).map bu)]) zz.1.1 zz.1.2.1 zz.1.2.2.1 zz.1.2.2.2.1 zz.1.2.2.2.2) 4 (dy 13 1021) ?_ (fun hD15 => ?_)
 rintro ⟨⟨g162,y213,g312,y363,g462⟩,hy363⟩
 dsimp only [List.cons_append,List.nil_append]
 try dsimp only at hy363
 refine kA [1] <| kSV 1 (.v (.slice b1a b1m.held.length b1c)) rfl ?_
 exact bn (kF 2 0 [2,3,28,36]) (by kernel_rfl) (hD5 ⟨(g162,y213,g312,y363,g462),hy363⟩)
 refine cl (α := {zz : Nat × Int × Nat × ByteArray // (fun (g162 : Nat) (y213 : Int) (g312 : Nat) (y363 : ByteArray) => y363 ∈ ([(⟨#[]⟩ : ByteArray),(⟨#[120]⟩ : ByteArray),(⟨#[121,122]⟩ : ByteArray)] : List ByteArray)) zz.1 zz.2.1 zz.2.2.1 zz.2.2.2}) (fun zz => (fun (g162 : Nat) (y213 : Int) (g312 : Nat) (y363 : ByteArray) => [(27,.p 1 2),(31,aI y213),(34,.v (.string y363))]) zz.1.1 zz.1.2.1 zz.1.2.2.1 zz.1.2.2.2) [2,3,27,31,34] (fun _ => []) (fun zz => (fun (g162 : Nat) (y213 : Int) (g312 : Nat) (y363 : ByteArray) => [a8 (ah w B).heap.size 3 1 (.slice (some ⟨g162,0,none⟩) 7 7) (([0,1,20,31,32,(-1),9223372036854775807] : List Int).map aw),a8 (ah w B).heap.size 9 1 (.slice (some ⟨g312,0,none⟩) 3 3) (([(⟨#[]⟩ : ByteArray),(⟨#[120]⟩ : ByteArray),(⟨#[121,122]⟩ : ByteArray)] : List ByteArray).map bu)]) zz.1.1 zz.1.2.1 zz.1.2.2.1 zz.1.2.2.2) 6 (dy 13 253) ?_ (fun hD13 => ?_)
 rintro ⟨⟨g162,y213,g312,y363⟩,hy363⟩
 dsimp only [List.cons_append,List.nil_append]
 try dsimp only at hy363
 refine kX 8 (.agg (dt (⟨y213,y363⟩ : Pce)).toArray) rfl (fun _ _ ww hA => cw [(0,iI y213),(1,.string y363)] hA rfl (by kernel_rfl) (by kernel_rfl) ww) ?_
 refine kA [1,9] ⟨?_,?_⟩
 refine kSV 1 (.v (.slice b1a b1m.held.length b1c)) rfl ?_
 exact bn (kF 2 0 [2,3,28,35]) (by kernel_rfl) (hD14 ⟨(g162,y213,g312,y363),hy363⟩)
 refine kSH 9 rfl (ap (aO rfl av)) (bj (e := 81) (K := 2) (bytes := 24) [.agg (dt (⟨y213,y363⟩ : Pce)).toArray] (rs := ([⟨y213,y363⟩] : List Pce).map pC) rfl rfl) ?_
 intro g462
 exact bn (dG [1,2,3,4,5,0,6] <| kF 2 0 [2,3,27,36]) (by kernel_rfl) (hD15 ⟨(g162,y213,g312,y363,g462),hy363⟩)
 refine cl (α := Nat × Int × Nat) (fun zz => (fun (g162 : Nat) (y213 : Int) (g312 : Nat) => [(27,.p 1 2),(31,aI y213),(32,aP g),(33,.v (.slice (some ⟨g312,0,none⟩) 3 3))]) zz.1 zz.2.1 zz.2.2) [2,3,27,31,32,33] (fun _ => []) (fun zz => (fun (g162 : Nat) (y213 : Int) (g312 : Nat) => [a8 (ah w B).heap.size 3 1 (.slice (some ⟨g162,0,none⟩) 7 7) (([0,1,20,31,32,(-1),9223372036854775807] : List Int).map aw),a8 (ah w B).heap.size 9 1 (.slice (some ⟨g312,0,none⟩) 3 3) (([(⟨#[]⟩ : ByteArray),(⟨#[120]⟩ : ByteArray),(⟨#[121,122]⟩ : ByteArray)] : List ByteArray).map bu)]) zz.1 zz.2.1 zz.2.2) 7 (dy 13 125) ?_ (fun hD12 => ?_)
 rintro ⟨g162,y213,g312⟩
 dsimp only [List.cons_append,List.nil_append]
 refine kA [1,7] ⟨?_,?_⟩
 refine kSV 1 (.v (.slice b1a b1m.held.length b1c)) rfl ?_
 exact bn (kF 2 0 [2,3,28,31,32,33]) (by kernel_rfl) (hD3 (g162,y213,g312))
 refine xs_know (φ := ¬ (aM (.slice (some ⟨g312,0,none⟩) 3 3) 1 (([(⟨#[]⟩ : ByteArray),(⟨#[120]⟩ : ByteArray),(⟨#[121,122]⟩ : ByteArray)] : List ByteArray).map bu)).blk g) (fun _ _ _ _ hr => fun hb => hr.2.apart 5 0 (a8 (ah w B).heap.size 9 1 (.slice (some ⟨g312,0,none⟩) 3 3) (([(⟨#[]⟩ : ByteArray),(⟨#[120]⟩ : ByteArray),(⟨#[121,122]⟩ : ByteArray)] : List ByteArray).map bu)) (cF B g A J cap) rfl rfl (by decide) rfl g (ct hb) rfl) (fun hk362 => ?_)
 refine kSW 7 104 [gP g,.slice (some ⟨g312,0,none⟩) 3 3] (some 34) 0 rfl rfl hlo (ap (aO rfl av)) (l1Pick_c_K hBw hap (fun ww hw hf => (aq (hf _ m5))) hk362 (by simp)) ?_
 rintro ⟨y363,hy363⟩
 exact bn (kF 2 0 [2,3,27,31,34]) (by kernel_rfl) (hD13 ⟨(g162,y213,g312,y363),hy363⟩)
 refine cl (α := Nat × Int) (fun zz => (fun (g162 : Nat) (y213 : Int) => [(27,.p 1 2),(31,aI y213),(32,aP g)]) zz.1 zz.2) [2,3,27,31,32] (fun _ => []) (fun zz => (fun (g162 : Nat) (y213 : Int) => [a8 (ah w B).heap.size 3 1 (.slice (some ⟨g162,0,none⟩) 7 7) (([0,1,20,31,32,(-1),9223372036854775807] : List Int).map aw)]) zz.1 zz.2) 8 (dy 13 61) ?_ (fun hD11 => ?_)
 rintro ⟨g162,y213⟩
 dsimp only [List.cons_append,List.nil_append]
 refine kA [1,6] ⟨?_,?_⟩
 refine kSV 1 (.v (.slice b1a b1m.held.length b1c)) rfl ?_
 exact bn (kF 2 0 [2,3,28,31,32]) (by kernel_rfl) (hD2 (g162,y213))
 refine kSH 6 rfl (ap (aO rfl av)) (bj (e := 9) (K := 1) (bytes := 16) [.string (⟨#[]⟩ : ByteArray),.string (⟨#[120]⟩ : ByteArray),.string (⟨#[121,122]⟩ : ByteArray)] (rs := ([(⟨#[]⟩ : ByteArray),(⟨#[120]⟩ : ByteArray),(⟨#[121,122]⟩ : ByteArray)] : List ByteArray).map bu) rfl rfl) ?_
 intro g312
 exact bn (dG [1,2,3,4,5,0] <| kF 2 0 [2,3,27,31,32,33]) (by kernel_rfl) (hD12 (g162,y213,g312))
 refine cl (α := Nat × Nat) (fun zz => (fun (g162 : Nat) (g312 : Nat) => [(27,.p 1 2),(29,aP g),(30,.v (.slice (some ⟨g162,0,none⟩) 7 7)),(32,aP g),(33,.v (.slice (some ⟨g312,0,none⟩) 3 3))]) zz.1 zz.2) [2,3,27,29,30,32,33] (fun _ => []) (fun zz => (fun (g162 : Nat) (g312 : Nat) => [a8 (ah w B).heap.size 3 1 (.slice (some ⟨g162,0,none⟩) 7 7) (([0,1,20,31,32,(-1),9223372036854775807] : List Int).map aw),a8 (ah w B).heap.size 9 1 (.slice (some ⟨g312,0,none⟩) 3 3) (([(⟨#[]⟩ : ByteArray),(⟨#[120]⟩ : ByteArray),(⟨#[121,122]⟩ : ByteArray)] : List ByteArray).map bu)]) zz.1 zz.2) 8 (dy 13 109) ?_ (fun hD16 => ?_)
 rintro ⟨g162,g312⟩
 dsimp only [List.cons_append,List.nil_append]
 refine kA [1,4] ⟨?_,?_⟩
 refine kSV 1 (.v (.slice b1a b1m.held.length b1c)) rfl ?_
 exact bn (kF 2 0 [2,3,28,29,30,32,33]) (by kernel_rfl) (hD8 (g162,g312))
 refine xs_know (φ := ¬ (aM (.slice (some ⟨g162,0,none⟩) 7 7) 1 (([0,1,20,31,32,(-1),9223372036854775807] : List Int).map aw)).blk g) (fun _ _ _ _ hr => fun hb => hr.2.apart 4 0 (a8 (ah w B).heap.size 3 1 (.slice (some ⟨g162,0,none⟩) 7 7) (([0,1,20,31,32,(-1),9223372036854775807] : List Int).map aw)) (cF B g A J cap) rfl rfl (by decide) rfl g (ct hb) rfl) (fun hk212 => ?_)
 refine kSW 4 103 [gP g,.slice (some ⟨g162,0,none⟩) 7 7] (some 31) 0 rfl rfl hlo (ap (aO rfl av)) (bU hBw hap (fun ww hw hf => (aq (hf _ m4))) hk212 (by simp)) ?_
 rintro ⟨y213,hy213⟩
 exact bn (kF 2 0 [2,3,27,31,32,33]) (by kernel_rfl) (hD12 (g162,y213,g312))
 refine cl (α := Nat) (fun zz => (fun (g162 : Nat) => [(27,.p 1 2),(29,aP g),(30,.v (.slice (some ⟨g162,0,none⟩) 7 7)),(32,aP g)]) zz) [2,3,27,29,30,32] (fun _ => []) (fun zz => (fun (g162 : Nat) => [a8 (ah w B).heap.size 3 1 (.slice (some ⟨g162,0,none⟩) 7 7) (([0,1,20,31,32,(-1),9223372036854775807] : List Int).map aw)]) zz) 9 (dy 13 45) ?_ (fun hD10 => ?_)
 intro g162
 dsimp only [List.cons_append,List.nil_append]
 refine kA [1,4,6] ⟨?_,?_,?_⟩
 refine kSV 1 (.v (.slice b1a b1m.held.length b1c)) rfl ?_
 exact bn (kF 2 0 [2,3,28,29,30,32]) (by kernel_rfl) (hD1 (g162))
 refine xs_know (φ := ¬ (aM (.slice (some ⟨g162,0,none⟩) 7 7) 1 (([0,1,20,31,32,(-1),9223372036854775807] : List Int).map aw)).blk g) (fun _ _ _ _ hr => fun hb => hr.2.apart 4 0 (a8 (ah w B).heap.size 3 1 (.slice (some ⟨g162,0,none⟩) 7 7) (([0,1,20,31,32,(-1),9223372036854775807] : List Int).map aw)) (cF B g A J cap) rfl rfl (by decide) rfl g (ct hb) rfl) (fun hk212 => ?_)
 refine kSW 4 103 [gP g,.slice (some ⟨g162,0,none⟩) 7 7] (some 31) 0 rfl rfl hlo (ap (aO rfl av)) (bU hBw hap (fun ww hw hf => (aq (hf _ m4))) hk212 (by simp)) ?_
 rintro ⟨y213,hy213⟩
 exact bn (kF 2 0 [2,3,27,31,32]) (by kernel_rfl) (hD11 (g162,y213))
 refine kSH 6 rfl (ap (aO rfl av)) (bj (e := 9) (K := 1) (bytes := 16) [.string (⟨#[]⟩ : ByteArray),.string (⟨#[120]⟩ : ByteArray),.string (⟨#[121,122]⟩ : ByteArray)] (rs := ([(⟨#[]⟩ : ByteArray),(⟨#[120]⟩ : ByteArray),(⟨#[121,122]⟩ : ByteArray)] : List ByteArray).map bu) rfl rfl) ?_
 intro g312
 exact bn (dG [1,2,3,4,5,0] <| kF 2 0 [2,3,27,29,30,32,33]) (by kernel_rfl) (hD16 (g162,g312))
 refine cl (α := Nat) (fun zz => (fun (g312 : Nat) => [(27,.p 1 2),(29,aP g),(32,aP g),(33,.v (.slice (some ⟨g312,0,none⟩) 3 3))]) zz) [2,3,27,29,32,33] (fun _ => []) (fun zz => (fun (g312 : Nat) => [a8 (ah w B).heap.size 9 1 (.slice (some ⟨g312,0,none⟩) 3 3) (([(⟨#[]⟩ : ByteArray),(⟨#[120]⟩ : ByteArray),(⟨#[121,122]⟩ : ByteArray)] : List ByteArray).map bu)]) zz) 9 (dy 13 101) ?_ (fun hD17 => ?_)
 intro g312
 dsimp only [List.cons_append,List.nil_append]
 refine kA [1,3] ⟨?_,?_⟩
 refine kSV 1 (.v (.slice b1a b1m.held.length b1c)) rfl ?_
 exact bn (kF 2 0 [2,3,28,29,32,33]) (by kernel_rfl) (hD9 (g312))
 refine kSH 3 rfl (ap (aO rfl av)) (bj (e := 3) (K := 1) (bytes := 8) [iI 0,iI 1,iI 20,iI 31,iI 32,iI (-1),iI 9223372036854775807] (rs := ([0,1,20,31,32,(-1),9223372036854775807] : List Int).map aw) rfl rfl) ?_
 intro g162
 exact bn (dG [1,2,3,4,0,5] <| kF 2 0 [2,3,27,29,30,32,33]) (by kernel_rfl) (hD16 (g162,g312))
 refine d4 [0,2,5] [32,29,27,2,3] 10 [(32,aP g),(29,aP g),(27,.p 1 2),(2,.p 0 0),(3,.p 1 0)] <| kA [1,3,6] ⟨?_,?_,?_⟩
 refine kSV 1 (.v (.slice b1a b1m.held.length b1c)) rfl ?_
 exact bn (kF 2 0 [2,3,28,29,32]) (by kernel_rfl) (hD0 ())
 refine kSH 3 rfl (ap (aO rfl av)) (bj (e := 3) (K := 1) (bytes := 8) [iI 0,iI 1,iI 20,iI 31,iI 32,iI (-1),iI 9223372036854775807] (rs := ([0,1,20,31,32,(-1),9223372036854775807] : List Int).map aw) rfl rfl) ?_
 intro g162
 exact bn (dG [1,2,3,4,0] <| kF 2 0 [2,3,27,29,30,32]) (by kernel_rfl) (hD10 (g162))
 refine kSH 6 rfl (ap (aO rfl av)) (bj (e := 9) (K := 1) (bytes := 16) [.string (⟨#[]⟩ : ByteArray),.string (⟨#[120]⟩ : ByteArray),.string (⟨#[121,122]⟩ : ByteArray)] (rs := ([(⟨#[]⟩ : ByteArray),(⟨#[120]⟩ : ByteArray),(⟨#[121,122]⟩ : ByteArray)] : List ByteArray).map bu) rfl rfl) ?_
 intro g312
 exact bn (dG [1,2,3,4,0] <| kF 2 0 [2,3,27,29,32,33]) (by kernel_rfl) (hD17 (g312))
 have h10p := eqF h10
 refine kQ <| ai [0,2,3,39] [(39,aB (y2 == 4))] <| kC (y2 == 4) (fun h674 => ?_) (fun h674 => ?_)
 have h674p := eqT h674
 refine kG <| kWD 1 [2,3,41] [(41,aP g)] 101 [gP g,iI 3] (some 42) 0 rfl rfl hlo (aK hBw hap) ?_
 rintro ⟨y675,hy675⟩
 obtain ⟨hy6750,hy6751⟩ := hy675
 refine kCS 1 [2,3,43] [(2,.p 0 0),(3,.p 1 0),(43,aI (K6.wrap (31 + y675)))] 105 [iI (K6.wrap (31 + y675))] (some 44) rfl (xc_b fun ww hf => l5Long_c (K6.wrap (31 + y675)) ww (by first | omega | (rw [az (by omega) (by omega)]; omega))) ?_
 intro _
 refine kRB 2 [2,3] [(2,.p 0 0),(3,.p 1 0)] [⟨28,aC⟩,⟨28,a7 { b1m with data := a6 (List.replicate ((K6.wrap (31 + y675))).toNat 0) } (.slice b1a b1m.held.length b1c)⟩] <| xl_eq (st' := ⟨[(2,.p 0 0),(3,.p 1 0)],[⟨28,aC⟩,⟨28,a7 { b1m with data := a6 (List.replicate ((31 + y675)).toNat 0) } (.slice b1a b1m.held.length b1c)⟩],[],[cF B g A J cap,a8 (ah w B).heap.size 81 2 (.slice b1a b1m.held.length b1c) (b1m.held.map pC),sQ A J cap,cy w (fun b => b = g)]⟩) (by rw [show (K6.wrap (31 + y675)) = (31 + y675) from az (by omega) (by omega)] <;> rfl) ?_
 refine ai [2,3] [] ?_
 exact ⟨⟨({ b1m with data := a6 (List.replicate ((31 + y675)).toNat 0) },b1a,b1c),⟨Nat.le_trans hb1.1 (by decide),hb1.2.1,(by show (a6 _).size ≤ 65; rw [bS,List.length_replicate]; omega)⟩⟩,dG [1,0,2,3] <| kF 2 0 [2,3]⟩
 have h674p := eqF h674
 refine kK ?_
 exact ⟨⟨(b1m,b1a,b1c),⟨Nat.le_trans hb1.1 (by decide),hb1.2.1,hb1.2.2⟩⟩,dG [1,0,2,3] <| kF 2 0 [2,3]⟩
 rintro ⟨⟨q,A3,c3⟩,hq⟩
 try dsimp only
 try dsimp only at hq
 refine kQ <| kEU [2] [(2,.p 0 0)] 0 ⟨28,a7 q (.slice A3 q.held.length c3)⟩ <| kR ?_
 exact ⟨[.agg (a7 q (.slice A3 q.held.length c3)).toArray],by kernel_rfl,fun w' hb hf ha => ⟨⟨(q,A3,c3),hq⟩,rfl,hf (cF B g A J cap) (by simp),rowF_raise (hf (a8 (ah w B).heap.size 81 2 (.slice A3 q.held.length c3) (q.held.map pC)) (by simp)) (own_new ha (i := 0) (j := 1) (k := 3) rfl rfl rfl rfl (by decide) (by decide)),hgl,aZ (hf (cy w (fun b => b = g)) (by simp)) hb rfl rfl rfl⟩⟩
theorem drawArrived_c (J : List Int) (A : Option Addr) (cap : Nat) (w : World) (hl : Sl w (sJ A J cap) 1 (J.map bR)) (hn : J.length ≤ 1048576) : Calls Try.prog 23 #[.slice A J.length cap] w fun e w' => ∃ y : {y : (Rcv × Int × ByteArray × Bool) × (Option Addr × Nat) // RB 4 y.1.1 ∧ y.1.2.2.1.size ≤ 4096}, e = .returned (.tuple #[.agg (a7 y.1.1.1 (.slice y.1.2.1 y.1.1.1.held.length y.1.2.2)).toArray, iI y.1.1.2.1, .string y.1.1.2.2.1, .bool y.1.1.2.2.2]) ∧ (newF w.heap.size (.slice y.1.2.1 y.1.1.1.held.length y.1.2.2) 2 (y.1.1.1.held.map pC)).p w' ∧ Below w.heap.size w w' := by
 have hq_code := Sl.capLe hl
 refine cj (args := [.slice A J.length cap]) (fn := Try.f23) [sQ A J cap] Try.func23 rfl Try.ntmps23 rfl (by simp only [List.mem_cons,List.not_mem_nil,or_false,forall_eq]; exact ⟨rfl,hl⟩) ?_
 refine kQ <| dn [0,2] ⟨[(0,.v (sJ A J cap)),(2,.p 0 0)],[⟨28,aC⟩],[],[sQ A J cap]⟩ <| kQ <| kCD 1 [2,11] [(11,.v (sJ A J cap))] 71 [.slice A J.length cap] (some 12) rfl (xc_new fun ww hw hf => l1New_c J A cap ww (hf _ m0) (by omega)) ?_
 rintro ⟨g1,hapg1⟩
 refine ai [2,6] [(6,aP g1)] <| kQ <| kWD 1 [2,6,13] [(13,aP g1)] 72 [gP g1] (some 14) 0 rfl rfl (fun ww b h hb => cJ h hb) (xcm_curR fun ww hw hf => l18Bent_c g1 J A cap ww w.heap.size hw (hf (dB w.heap.size g1 123 (sJ A J cap) J.length) (by simp)) (hf _ m1) hapg1 (by omega)) ?_
 rintro ⟨⟨b2m,b2a,b2c⟩,hb2⟩
 dsimp only at hb2
 have hb2n := hb2.1
 have hb2m := hb2.hm; have hb2z := hb2.sz
 refine kEA [2,6,7] [(7,.p 1 0)] [⟨28,a7 b2m (.slice b2a b2m.held.length b2c)⟩] <| kQ <| kWD 2 [2,6,7,16,17] [(16,aP g1),(17,.v (.agg (a7 b2m (.slice b2a b2m.held.length b2c)).toArray))] 73 [gP g1,.agg (a7 b2m (.slice b2a b2m.held.length b2c)).toArray] (some 18) 1 rfl rfl (fun ww b h hb => cJ h hb) (l18Stream_c_K (Nat.le_refl _) hapg1) ?_
 rintro ⟨y3,hy3⟩
 refine ai [2,6,7,8,9,10] [(8,aI y3.1),(9,.v (.string y3.2.1)),(10,aB y3.2.2)] <| kS <| kQ <| kWD 1 [2,6,7,8,9,10,22] [(22,aP g1)] 74 [gP g1,iI 8] (some 23) 0 rfl rfl (fun ww b h hb => cJ h hb) (bI (Nat.le_refl _) hapg1) ?_
 rintro ⟨y4,hy4⟩
 refine ai [2,6,7,8,9,10,23] [] <| kC (y4) (fun h5 => ?_) (fun h5 => ?_)
 refine kG <| kWD 1 [2,7,8,9,10,24] [(24,aP g1)] 75 [gP g1] (some 25) 0 rfl rfl (fun ww b h hb => cJ h hb) (l4Place_c_K (Nat.le_refl _) hapg1) ?_
 rintro ⟨y6,hy6⟩
 refine ai [2,7,8,9,10] [(8,aI y6)] <| kQ <| dn [2,3,4,5] ⟨[(2,.p 0 0),(3,aI y6),(4,.v (.string y3.2.1)),(5,aB y3.2.2)],[⟨28,a7 b2m (.slice b2a b2m.held.length b2c)⟩,⟨28,a7 b2m (.slice b2a b2m.held.length b2c)⟩],[],[dB w.heap.size g1 123 (sJ A J cap) J.length,a8 w.heap.size 81 2 (.slice b2a b2m.held.length b2c) (b2m.held.map pC),sQ A J cap]⟩ <| kR ?_
 exact ⟨[.agg (a7 b2m (.slice b2a b2m.held.length b2c)).toArray,iI y6,.string y3.2.1,.bool y3.2.2],by kernel_rfl,fun w' hb hf ha => ⟨⟨((b2m,y6,y3.2.1,y3.2.2),b2a,b2c),⟨hb2,(by first | assumption | (show (a6 _).size ≤ 4096; rw [bS]; omega))⟩⟩,rfl,newF_row (hf (a8 w.heap.size 81 2 (.slice b2a b2m.held.length b2c) (b2m.held.map pC)) (by simp)) (fun b hb => dW (hf (a8 w.heap.size 81 2 (.slice b2a b2m.held.length b2c) (b2m.held.map pC)) (by simp)) hb),hb⟩⟩
 refine kK <| kQ <| kEU [2,3,4,5] [(3,aI y3.1),(4,.v (.string y3.2.1)),(5,aB y3.2.2)] 0 ⟨28,a7 b2m (.slice b2a b2m.held.length b2c)⟩ <| kR ?_
 exact ⟨[.agg (a7 b2m (.slice b2a b2m.held.length b2c)).toArray,iI y3.1,.string y3.2.1,.bool y3.2.2],by kernel_rfl,fun w' hb hf ha => ⟨⟨((b2m,y3.1,y3.2.1,y3.2.2),b2a,b2c),⟨hb2,(by first | assumption | (show (a6 _).size ≤ 4096; rw [bS]; omega))⟩⟩,rfl,newF_row (hf (a8 w.heap.size 81 2 (.slice b2a b2m.held.length b2c) (b2m.held.map pC)) (by simp)) (fun b hb => dW (hf (a8 w.heap.size 81 2 (.slice b2a b2m.held.length b2c) (b2m.held.map pC)) (by simp)) hb),hb⟩⟩

theorem at0_c (J : List Int) (A : Option Addr) (cap : Nat) (i : Nat) (w : World) (hl : Sl w (sJ A J cap) 1 (J.map bR)) (hn : J.length ≤ 1048576) (hi : i ≤ 1048576) (hby : ∀ x ∈ J, 0 ≤ x ∧ x ≤ 255) : Calls Try.prog 25 #[.slice A J.length cap, iI (i : Int)] w fun e w' => ∃ y : Int, e = .returned (iI y) ∧ (0 ≤ y ∧ y ≤ 255) ∧ Below w.heap.size w w' := by
 have hq_code := Sl.capLe hl
 refine dz (args := [.slice A J.length cap,iI (i : Int)]) (fn := Try.f25) [sQ A J cap] Try.func25 rfl Try.ntmps25 rfl (by simp only [List.mem_cons,List.not_mem_nil,or_false,forall_eq]; exact ⟨rfl,hl⟩) ?_
 refine kQ <| dn [0,1] ⟨[(0,.v (sJ A J cap)),(1,aI (i : Int))],[],[],[sQ A J cap]⟩ <| kS <| kQ <| ai [0,1,8] [(8,aB (decide ((i : Int) < ((J.length : Nat) : Int))))] ?_
 refine kC (decide ((i : Int) < ((J.length : Nat) : Int))) (fun h1 => ?_) (fun h1 => ?_)
 have h1p := of_decide_eq_true h1
 have hlt : i < J.length := by simpa using h1
 obtain ⟨z,hz⟩ : ∃ z,J[i]? = some z := ⟨_,List.getElem?_eq_getElem hlt⟩
 have hzr := hby z (List.mem_of_getElem? hz)
 refine kQ <| xl_indexS (kd := .i64) (T := 59) (e := 5) (K := 1) 2 [9,10] [(9,.v (sJ A J cap)),(10,aI (i : Int))] i [.int .u8 z] (sQ A J cap) (by kernel_rfl) rfl (by kernel_rfl) rfl rfl (by kernel_rfl) (by kernel_rfl) (by kernel_rfl) (by kernel_rfl) hlt (by simp) (fun w h => h) (fun b h => h) (by simp only [List.getElem?_map,hz]; rfl) ?_
 refine ba [4] [(4,aI (K6.wrap z))] <| kR ?_
 exact ⟨[iI (K6.wrap z)],by kernel_rfl,fun w' hb hf => ⟨K6.wrap z,rfl,⟨by first | (rw [az (by omega) (by omega)]; omega) | exact Int.tmod_nonneg _ (by omega),by first | (rw [az (by omega) (by omega)]; omega) | (have := Int.tmod_lt_of_pos (((i : Int) * 7) + ((J.length : Nat) : Int)) (show (0 : Int) < 256 by omega); omega)⟩,hb⟩⟩
 have h1p := of_decide_eq_false h1
 refine kK <| kQ <| kOS 5 [18] [(18,aI (K6.wrap ((K6.wrap ((i : Int) * 7)) + ((J.length : Nat) : Int))))] (iI (Int.tmod (K6.wrap ((K6.wrap ((i : Int) * 7)) + ((J.length : Nat) : Int))) 256)) rfl (fun _ _ _ ww hr => bp hr.1 rfl (by kernel_rfl) (by kernel_rfl) (dU (by first | decide | omega) ww)) ?_
 refine kRS 1 [4] [(4,aI (Int.tmod (K6.wrap ((K6.wrap ((i : Int) * 7)) + ((J.length : Nat) : Int))) 256))] <| bw [4] [(4,aI (Int.tmod (K6.wrap ((K6.wrap ((i : Int) * 7)) + ((J.length : Nat) : Int))) 256))] [(4,aI (Int.tmod (((i : Int) * 7) + ((J.length : Nat) : Int)) 256))] (by rw [show (K6.wrap ((i : Int) * 7)) = ((i : Int) * 7) from az (by omega) (by omega),show (K6.wrap (((i : Int) * 7) + ((J.length : Nat) : Int))) = (((i : Int) * 7) + ((J.length : Nat) : Int)) from az (by omega) (by omega)]) (by kernel_rfl) ?_
 refine ai [4] [] <| kR ?_
 exact ⟨[iI (Int.tmod (((i : Int) * 7) + ((J.length : Nat) : Int)) 256)],by kernel_rfl,fun w' hb hf => ⟨Int.tmod (((i : Int) * 7) + ((J.length : Nat) : Int)) 256,rfl,⟨by first | (rw [az (by omega) (by omega)]; omega) | exact Int.tmod_nonneg _ (by omega),by first | (rw [az (by omega) (by omega)]; omega) | (have := Int.tmod_lt_of_pos (((i : Int) * 7) + ((J.length : Nat) : Int)) (show (0 : Int) < 256 by omega); omega)⟩,hb⟩⟩

theorem at0_i (J : List Int) (A : Option Addr) (cap : Nat) (i : Int) (w : World) (hl : Sl w (sJ A J cap) 1 (J.map bR)) (hn : J.length ≤ 1048576) (hi : 0 ≤ i ∧ i ≤ 1048576) (hby : ∀ x ∈ J, 0 ≤ x ∧ x ≤ 255) : Calls Try.prog 25 #[.slice A J.length cap, iI i] w fun e w' => ∃ y : Int, e = .returned (iI y) ∧ (0 ≤ y ∧ y ≤ 255) ∧ Below w.heap.size w w' := by
 obtain ⟨m,rfl⟩ : ∃ m : Nat,i = (m : Int) := ⟨i.toNat,by omega⟩
 exact at0_c J A cap m w hl hn (by omega) hby
theorem at0_pl {i : Nat} {c : Int} (hi : i < 14) (hc : 0 ≤ c ∧ c ≤ 3) : 0 ≤ K6.wrap (K6.wrap (3 * (i : Int)) + c) ∧ K6.wrap (K6.wrap (3 * (i : Int)) + c) ≤ 1048576 := by
 rw [az (n := 3 * (i : Int)) (by omega) (by omega),az (by omega) (by omega)]; omega
theorem arrStore_c (B gh gd bh bd W off : Nat) (sl : List Int) (x : Int) (w : World) (hB : B ≤ w.heap.size) (hF : (cT B gh gd bh bd 78 59 4 5 W sl).p w) (hlen : W ≤ sl.length) (ho : off < W) (hx : 0 ≤ x ∧ x ≤ 255) : Calls Try.prog 42 #[iI (off : Int), .int .u8 x, gP gh, gP gd] w fun e w' => e = .returned (.tuple #[]) ∧ (cT B gh gd bh bd 78 59 4 5 W (db sl off x)).p w' ∧ Chgd (cT B gh gd bh bd 78 59 4 5 W sl).blk w w' := by
 obtain ⟨hF4,hFa⟩ := hF
 simp only [List.mem_cons,List.not_mem_nil,or_false,forall_eq_or_imp,forall_eq] at hF4
 obtain ⟨hF1,hF2,hF3,hF5⟩ := hF4
 obtain ⟨z,hz⟩ : ∃ z,sl[off]? = some z := ⟨_,List.getElem?_eq_getElem (by omega)⟩
 refine x_callsMA (args := [iI (off : Int),.int .u8 x,gP gh,gP gd]) (fn := Try.f42) [aY B gh 78 [.slice (some ⟨bh,0,none⟩) W W],aY B gd 59 [.slice (some ⟨bd,0,none⟩) W W],a8 B 4 1 (.slice (some ⟨bh,0,none⟩) W W) ((cv W sl).map ab),a8 B 5 1 (.slice (some ⟨bd,0,none⟩) W W) ((ao W sl).map bR),cy w (cT B gh gd bh bd 78 59 4 5 W sl).blk] B Try.func42 rfl Try.ntmps42 rfl hB (by simp only [List.mem_cons,List.not_mem_nil,or_false,forall_eq_or_imp,forall_eq]; exact ⟨hF1,hF2,hF3,hF5,bc w _⟩) (apart_frS hFa fun g hg b hb => ⟨g,hg,hb⟩) ?_
 refine kQ <| kOF 0 [0,1,2,3] ⟨[(0,aI (off : Int)),(1,.v (.int .u8 x)),(2,aP gh),(3,aP gd)],[],[],[aY B gh 78 [.slice (some ⟨bh,0,none⟩) W W],aY B gd 59 [.slice (some ⟨bd,0,none⟩) W W],a8 B 4 1 (.slice (some ⟨bh,0,none⟩) W W) ((cv W sl).map ab),a8 B 5 1 (.slice (some ⟨bd,0,none⟩) W W) ((ao W sl).map bR),cy w (cT B gh gd bh bd 78 59 4 5 W sl).blk]⟩ (.slice (some ⟨bh,0,none⟩) W W) rfl (fun _ _ _ ww hr => d6 (off := 0) (B := B) (g := gh) (T := 78) (cs := [.slice (some ⟨bh,0,none⟩) W W]) hr rfl (by kernel_rfl) (by simp) (by kernel_rfl)) ?_
 refine dZ 1 [0,1,2,3,6,7] [(7,aI (off : Int))] (.pointer (some ⟨bh,off * 1,none⟩)) rfl (fun _ _ _ ww hr => c6 (kd := .i64) (T := 78) (e := 4) (K := 1) (g := bh) (N := W) (cap := W) off rfl hr.1 rfl rfl (by kernel_rfl) (by kernel_rfl) (by kernel_rfl) ho ww) ?_
 refine dZ 0 [0,1,2,3,8] [] (.bool (decide (0 ≤ z))) rfl (fun _ _ _ ww hr => c9 (po := 0) (j := off) (row := [.bool (decide (0 ≤ z))]) (a8 B 4 1 (.slice (some ⟨bh,0,none⟩) W W) ((cv W sl).map ab)) hr rfl (by kernel_rfl) (by simp) (by simp only [List.getElem?_map,eu ho hz]; rfl) (by kernel_rfl) rfl rfl rfl) ?_
 refine ai [0,1,2,3,10] [(10,aB (!(decide (0 ≤ z))))] <| kC (!(decide (0 ≤ z))) (fun h1 => ?_) (fun h1 => ?_)
 have h1n := du h1
 have hzz := of_decide_eq_false h1n
 refine kQ <| dZ 0 [0,1,2,3] [] (.slice (some ⟨bh,0,none⟩) W W) rfl (fun _ _ _ ww hr => d6 (off := 0) (B := B) (g := gh) (T := 78) (cs := [.slice (some ⟨bh,0,none⟩) W W]) hr rfl (by kernel_rfl) (by simp) (by kernel_rfl)) ?_
 refine dZ 1 [0,1,3,11,12] [(12,aI (off : Int))] (.pointer (some ⟨bh,off * 1,none⟩)) rfl (fun _ _ _ ww hr => c6 (kd := .i64) (T := 78) (e := 4) (K := 1) (g := bh) (N := W) (cap := W) off rfl hr.1 rfl rfl (by kernel_rfl) (by kernel_rfl) (by kernel_rfl) ho ww) ?_
 refine xl_hs 0 [0,1,3,13] ⟨[(0,aI (off : Int)),(1,.v (.int .u8 x)),(3,aP gd),(13,.v (.pointer (some ⟨bh,off * 1,none⟩)))],[],[],[aY B gh 78 [.slice (some ⟨bh,0,none⟩) W W],aY B gd 59 [.slice (some ⟨bd,0,none⟩) W W],a8 B 4 1 (.slice (some ⟨bh,0,none⟩) W W) ((cv W sl).map ab),a8 B 5 1 (.slice (some ⟨bd,0,none⟩) W W) ((ao W sl).map bR),cy w (cT B gh gd bh bd 78 59 4 5 W sl).blk]⟩ (by kernel_rfl) rfl (by kernel_rfl) rfl (by kernel_rfl) (HSg.hs (e5 (g := bh) (B := B) (e := 4) (K := 1) (N := W) (cap := W) (rs := ((cv W sl).map ab)) (rs' := ((cv W sl).set off true).map ab) (v := (.bool true)) (i := 2) (off := off * 1) off 0 [.bool (decide (0 ≤ z))] (row' := [.bool true]) rfl rfl (by kernel_rfl) rfl (by kernel_rfl) (by kernel_rfl) (by kernel_rfl) (by kernel_rfl) (cz w B) (by simp only [List.getElem?_map,eu ho hz]; rfl) (by kernel_rfl) rfl (by rw [List.map_set]; rfl))) ?_
 refine ai [0,1,3] [] <| kG <| dZ 0 [0,1,3] [] (.slice (some ⟨bd,0,none⟩) W W) rfl (fun _ _ _ ww hr => d6 (off := 0) (B := B) (g := gd) (T := 59) (cs := [.slice (some ⟨bd,0,none⟩) W W]) hr rfl (by kernel_rfl) (by simp) (by kernel_rfl)) ?_
 refine dZ 2 [14,15,16] [(15,aI (off : Int)),(16,.v (.int .u8 x))] (.pointer (some ⟨bd,off * 1,none⟩)) rfl (fun _ _ _ ww hr => c6 (kd := .i64) (T := 59) (e := 5) (K := 1) (g := bd) (N := W) (cap := W) off rfl hr.1 rfl rfl (by kernel_rfl) (by kernel_rfl) (by kernel_rfl) ho ww) ?_
 refine xl_hs 0 [16,17] ⟨[(16,.v (.int .u8 x)),(17,.v (.pointer (some ⟨bd,off * 1,none⟩)))],[],[],[a8 B 4 1 (.slice (some ⟨bh,0,none⟩) W W) (((cv W sl).set off true).map ab),aY B gh 78 [.slice (some ⟨bh,0,none⟩) W W],aY B gd 59 [.slice (some ⟨bd,0,none⟩) W W],a8 B 5 1 (.slice (some ⟨bd,0,none⟩) W W) ((ao W sl).map bR),cy w (cT B gh gd bh bd 78 59 4 5 W sl).blk]⟩ (by kernel_rfl) rfl (by kernel_rfl) rfl (by kernel_rfl) (HSg.hs (e5 (g := bd) (B := B) (e := 5) (K := 1) (N := W) (cap := W) (rs := ((ao W sl).map bR)) (rs' := ((ao W sl).set off x).map bR) (v := (.int .u8 x)) (i := 3) (off := off * 1) off 0 [.int .u8 (max z 0)] (row' := [.int .u8 x]) rfl rfl (by kernel_rfl) rfl (by kernel_rfl) (by kernel_rfl) (by kernel_rfl) (by kernel_rfl) (cz w B) (by simp only [List.getElem?_map,dtOf_get ho hz]; rfl) (by kernel_rfl) rfl (by rw [List.map_set]; rfl))) ?_
 refine ba [] [] ?_
 exact ⟨[],by kernel_rfl,fun w' hb hf ha => ⟨rfl,(by rw [stOne_free hz (by omega)]; unfold cT; rw [← hvOf_set hx.1,← dtOf_set hx.1]; exact allF_pick [2,3,1,0] hf ha (by kernel_rfl) (by kernel_rfl)),aZ (hf (cy w (cT B gh gd bh bd 78 59 4 5 W sl).blk) (by simp)) hb rfl rfl rfl⟩⟩
 have h1n := d2 h1
 have hzz := of_decide_eq_true h1n
 refine kK ?_
 exact ⟨[],by kernel_rfl,fun w' hb hf ha => ⟨rfl,(by rw [stOne_full hz (by omega)]; exact allF_pick [0,1,2,3] hf ha (by kernel_rfl) (by kernel_rfl)),aZ (hf (cy w (cT B gh gd bh bd 78 59 4 5 W sl).blk) (by simp)) hb rfl rfl rfl⟩⟩
theorem yIndexB_c (l : List Bool) (lV : Value) (b : Bool) (w : World) (hl_lV : Sl w lV 1 (l.map ab))  : Calls Try.prog 82 #[lV, .bool b] w fun e w' => e = .returned (iI (en b l 0)) ∧ Below w.heap.size w w' := by
 obtain ⟨Al,Cl,hvl⟩ := hl_lV.form
 rw [List.length_map] at hvl; subst hvl
 have hnl := hl_lV.len; rw [List.length_map] at hnl
 have hql := Sl.capLe hl_lV
 refine dz (args := [.slice Al l.length Cl,.bool b]) (fn := Try.f82) [aM (.slice Al l.length Cl) 1 (l.map ab)] Try.func82 rfl Try.ntmps82 rfl (by simp only [List.mem_cons,List.not_mem_nil,or_false,forall_eq_or_imp,forall_eq]; exact ⟨rfl,hl_lV⟩) ?_
 refine kQ <| dn [0,1] ⟨[(0,.v (.slice Al l.length Cl)),(1,aB b)],[],[],[aM (.slice Al l.length Cl) 1 (l.map ab)]⟩ <| kS <| kQ <| ai [0,1,7,8] [(7,aI ((l.length : Nat) : Int)),(8,aI 0)] ?_
 refine au <| aN (α := {x : Nat // (fun (k : Nat) => k ≤ l.length ∧ en b l 0 = en b (l.drop k) k) x}) (fun x => (fun (k : Nat) => (⟨[(0,.v (.slice Al l.length Cl)),(1,aB b),(7,aI ((l.length : Nat) : Int)),(8,aI (k : Int))],[],[],[aM (.slice Al l.length Cl) 1 (l.map ab)]⟩ : St)) x.1) (fun x => l.length - x.1) ⟨(0),⟨Nat.zero_le _,rfl⟩⟩ (kF 0 0 [0,1,7,8]) ?_
 rintro ⟨k,hk,HK⟩
 try dsimp only
 try dsimp only at hk HK
 refine kQ <| ai [0,1,7,8,9] [(9,aB (decide ((k : Int) < ((l.length : Nat) : Int))))] <| kS <| kC (decide ((k : Int) < ((l.length : Nat) : Int))) (fun h1 => ?_) (fun h1 => ?_)
 have h1p := of_decide_eq_true h1
 have hlt : k < l.length := by simpa using h1
 obtain ⟨x,hx⟩ : ∃ x,l[k]? = some x := ⟨_,List.getElem?_eq_getElem hlt⟩
 refine kK <| kS <| au <| kQ <| ai [0,1,5,7,8] [(5,aI (k : Int))] ?_
 refine kQ <| cK (kd := .i64) (T := 78) (e := 4) (K := 1) 3 [0,1,5,7,8,11,12,13] [(11,aB b),(12,.v (.slice Al l.length Cl)),(13,aI (k : Int))] k [.bool x] (aM (.slice Al l.length Cl) 1 (l.map ab)) (by kernel_rfl) rfl (by kernel_rfl) rfl rfl (by kernel_rfl) (by kernel_rfl) (by kernel_rfl) (by kernel_rfl) hlt (by simp) (fun w h => h) (fun b h => h) (by simp only [List.getElem?_map,hx]; rfl) ?_
 refine ai [0,1,5,7,8,16] [(16,aB (b == x))] <| kC (b == x) (fun h2 => ?_) (fun h2 => ?_)
 have h2p := eqT h2
 refine kQ <| ba [4] [(4,aI (k : Int))] <| kR ?_
 have hmod : en b l 0 = (k : Int) := by first | exact HK | (rw [HK,bC hx,en,if_pos (by assumption)])
 exact ⟨[iI (k : Int)],by kernel_rfl,fun w' hb hf => by rw [hmod]; exact ⟨rfl,hb⟩⟩
 have h2p := eqF h2
 refine kK <| kG <| cp 2 [0,1,7,8] [(8,aI (K6.wrap ((k : Int) + 1)))] <| bw [0,1,7,8] [(8,aI (K6.wrap ((k : Int) + 1)))] [(8,aI ((k : Int) + 1))] (by rw [show (K6.wrap ((k : Int) + 1)) = ((k : Int) + 1) from az (by omega) (by omega)]) (by kernel_rfl) ?_
 refine ai [0,1,7,8] [] ?_
 exact ⟨⟨(k + 1),⟨by omega,by rw [HK,bC hx,en,if_neg (by assumption)]⟩⟩,kF 0 0 [0,1,7,8],by show l.length - (k + 1) < l.length - k; omega⟩
 have h1p := of_decide_eq_false h1
 have hge : k = l.length := by simp at h1; omega
 subst hge; rw [List.drop_length] at HK
 refine aQ <| kQ <| ba [4] [(4,aI (-1))] <| kR ?_
 have hmod : en b l 0 = (-1) := by first | exact HK | (rw [HK,bC hx,en,if_pos (by assumption)])
 exact ⟨[iI (-1)],by kernel_rfl,fun w' hb hf => by rw [hmod]; exact ⟨rfl,hb⟩⟩
theorem yContainsB_c (l : List Bool) (lV : Value) (b : Bool) (w : World) (hl_lV : Sl w lV 1 (l.map ab))  : Calls Try.prog 44 #[lV, .bool b] w fun e w' => e = .returned (.bool (hasB l b)) ∧ Below w.heap.size w w' := by
 obtain ⟨Al,Cl,hvl⟩ := hl_lV.form
 rw [List.length_map] at hvl; subst hvl
 have hnl := hl_lV.len; rw [List.length_map] at hnl
 have hql := Sl.capLe hl_lV
 refine dz (args := [.slice Al l.length Cl,.bool b]) (fn := Try.f44) [aM (.slice Al l.length Cl) 1 (l.map ab)] Try.func44 rfl Try.ntmps44 rfl (by simp only [List.mem_cons,List.not_mem_nil,or_false,forall_eq_or_imp,forall_eq]; exact ⟨rfl,hl_lV⟩) ?_
 refine kQ <| dn [0,1] ⟨[(0,.v (.slice Al l.length Cl)),(1,aB b)],[],[],[aM (.slice Al l.length Cl) 1 (l.map ab)]⟩ <| kQ <| kCS 2 [5,6] [(5,.v (.slice Al l.length Cl)),(6,aB b)] 82 [.slice Al l.length Cl,.bool b] (some 7) rfl (xc_b fun ww hf => yIndexB_c l (.slice Al l.length Cl) b ww (hf _ m0) ) ?_
 intro _
 refine ba [4] [(4,aB (decide ((en b l 0) ≥ 0)))] <| kR ?_
 have hmod : hasB l b = (decide ((en b l 0) ≥ 0)) := by first | exact (idx_has _ _ _).symm
 exact ⟨[.bool (decide ((en b l 0) ≥ 0))],by kernel_rfl,fun w' hb hf => by rw [hmod]; exact ⟨rfl,hb⟩⟩
theorem cn (r : Rcv) (r_heldV : Value) (seq : Int) (text : ByteArray) (fin : Bool) (w : World) (hl_r_heldV : Sl w r_heldV 2 (r.held.map pC)) (hkn : r.held.length ≤ 1048576) (hm : ∀ p ∈ r.held, p.text.size ≤ 1048576) (hsz : r.data.size ≤ 4611686018427387904) (hts : text.size ≤ 4611686018427387904) (B : Nat) (hB : B ≤ w.heap.size) : Calls Try.prog 9 #[.agg (a7 r r_heldV).toArray, iI seq, .string text, .bool fin] w fun e w' => XRs w w' e (α := Option Addr × Nat) (fun y => .agg (a7 (a5 r seq text fin) (.slice y.1 ((a5 r seq text fin).held.length) y.2)).toArray) (fun y => [br B (.slice y.1 ((a5 r seq text fin).held.length) y.2) 2 ((a5 r seq text fin).held.map pC)]) := by
 obtain ⟨Arh,Crh,hvrh⟩ := hl_r_heldV.form
 rw [List.length_map] at hvrh; subst hvrh
 have hnrh := hl_r_heldV.len; rw [List.length_map] at hnrh
 have hqrh := Sl.capLe hl_r_heldV
 refine cj (args := [.agg (a7 r (.slice Arh r.held.length Crh)).toArray,iI seq,.string text,.bool fin]) (fn := Try.f9) [aM (.slice Arh r.held.length Crh) 2 (r.held.map pC)] Try.func9 rfl Try.ntmps9 rfl (by simp only [List.mem_cons,List.not_mem_nil,or_false,forall_eq_or_imp,forall_eq]; exact ⟨rfl,hl_r_heldV⟩) ?_
 refine kQ <| dn [1,2,3,4,8] ⟨[(1,aI seq),(2,.v (.string text)),(3,aB fin),(4,.p 0 0),(8,.p 1 0)],[⟨28,a7 r (.slice Arh r.held.length Crh)⟩,⟨28,aC⟩],[],[aM (.slice Arh r.held.length Crh) 2 (r.held.map pC)]⟩ <| kQ <| kCD 1 [1,2,3,4,8,24] [(24,.v (.agg (a7 r (.slice Arh r.held.length Crh)).toArray))] 40 [.agg (a7 r (.slice Arh r.held.length Crh)).toArray] (some 25) rfl (dY fun ww hw hf => ew r (.slice Arh r.held.length Crh) ww (hf _ m0) (by assumption) w.heap.size hw) ?_
 rintro ⟨v1a,v1c⟩
 refine kEA [1,2,3,4,8,9] [(9,.p 2 0)] [⟨28,a7 r (.slice v1a r.held.length v1c)⟩] <| kS <| kQ <| kCD 1 [1,2,3,4,8,9,26] [(26,.v (.agg (a7 r (.slice Arh r.held.length Crh)).toArray))] 30 [.agg (a7 r (.slice Arh r.held.length Crh)).toArray] (some 27) rfl (xc_b fun ww hf => dM r (.slice Arh r.held.length Crh) ww (hf _ m1) (by assumption) (by omega)) ?_
 intro _
 refine cp 2 [1,2,3,4,8,9,29] [(29,aB (!(rO r)))] <| kP 29 (!(rO r)) (fun h2 => ?_) (fun h2 => ?_)
 have h2n := du h2
 refine ai [1,2,3,4,8,9,32] [(32,aB true)] <| kT <| kQ <| kEU [8] [(8,.p 1 0)] 1 ⟨28,a7 r (.slice v1a r.held.length v1c)⟩ ?_
 refine kR ?_
 have hmod : a5 r seq text fin = r := by first | exact bo hrk (by assumption) (by rw [← hall,← hnf,hpc]; omega) | (unfold a5; rw [if_neg (by grind)]; done) | (unfold a5; rw [if_pos (by grind),← hall,← hnf,hpc,← hfp]; first | (rw [if_pos (by omega)]; done) | (rw [if_neg (by omega),if_pos (by first | omega | simp_all)]; done) | (rw [if_neg (by omega),if_neg (by first | omega | simp_all)]; done))
 exact ⟨[.agg (a7 r (.slice v1a r.held.length v1c)).toArray],by kernel_rfl,fun w' hb hf ha => by rw [hmod]; exact xo1 ((v1a,v1c)) rfl rfl (pO (hf _ m0) hB) hb⟩
 have h2n := d2 h2
 have hrk := h2n
 obtain ⟨hf0,hf1,hf2,hf3,hf4,hheld⟩ := dR h2n
 have hwb := bW r
 have hN := dC r
 obtain ⟨W,hW⟩ : ∃ W : Nat,wO r = (W : Int) := ⟨(wO r).toNat,by omega⟩
 have hW2 : W ≤ 32 := by omega
 have hM : (if r.fin = -1 then wO r else r.fin) ≤ (W : Int) := by split <;> omega
 refine ai [1,2,3,4,8,9,32] [(32,aB r.done)] <| kC (r.done) (fun h3 => ?_) (fun h3 => ?_)
 refine kQ <| kEU [8] [(8,.p 1 0)] 1 ⟨28,a7 r (.slice v1a r.held.length v1c)⟩ <| kR ?_
 have hmod : a5 r seq text fin = r := by first | exact bo hrk (by assumption) (by rw [← hall,← hnf,hpc]; omega) | (unfold a5; rw [if_neg (by grind)]; done) | (unfold a5; rw [if_pos (by grind),← hall,← hnf,hpc,← hfp]; first | (rw [if_pos (by omega)]; done) | (rw [if_neg (by omega),if_pos (by first | omega | simp_all)]; done) | (rw [if_neg (by omega),if_neg (by first | omega | simp_all)]; done))
 exact ⟨[.agg (a7 r (.slice v1a r.held.length v1c)).toArray],by kernel_rfl,fun w' hb hf ha => by rw [hmod]; exact xo1 ((v1a,v1c)) rfl rfl (pO (hf _ m0) hB) hb⟩
 refine kK <| kQ <| kCD 1 [1,2,3,4,8,9,34] [(34,.v (.agg (a7 r (.slice Arh r.held.length Crh)).toArray))] 41 [.agg (a7 r (.slice Arh r.held.length Crh)).toArray] (some 35) rfl (xc_b fun ww hf => iWindowOf_c r.next r.data r.held (.slice Arh r.held.length Crh) r.fin r.done ww (by omega)) ?_
 intro _
 refine cp 1 [1,2,3,4,8,9,10] [(10,aI (wO r))] <| bw [1,2,3,4,8,9,10] [(10,aI (wO r))] [(10,aI (W : Int))] (by rw [show (wO r) = (W : Int) from hW]) (by kernel_rfl) ?_
 refine ai [1,2,3,4,8,9,10] [] <| kQ <| kHD 1 [1,2,3,4,8,9,10,36] [(36,aI (W : Int))] rfl (hv_make (kl := .i64) (kc := .i64) (e := 5) (K := 1) (bytes := 1) (m := W) (z := .int .u8 0) (rs := (List.replicate W 0).map bR) rfl (by kernel_rfl) (by kernel_rfl) (by kernel_rfl) (by kernel_rfl) (by (try simp only [List.length_map,List.length_append,List.length_cons,List.length_nil,List.length_take,List.length_drop,maxLen]); omega) (by (try simp only [List.length_map,List.length_append,List.length_cons,List.length_nil,List.length_take,List.length_drop,maxLen]); omega) (by rw [List.map_replicate]; rfl)) ?_
 intro g4
 refine dn [1,2,3,4,8,9,10,11] ⟨[(1,aI seq),(2,.v (.string text)),(3,aB fin),(4,.p 0 0),(8,.p 1 0),(9,.p 2 0),(10,aI (W : Int)),(11,.p 3 0)],[⟨28,a7 r (.slice Arh r.held.length Crh)⟩,⟨28,aC⟩,⟨28,a7 r (.slice v1a r.held.length v1c)⟩,⟨59,[.slice (some ⟨g4,0,none⟩) W W]⟩],[],[a8 w.heap.size 5 1 (.slice (some ⟨g4,0,none⟩) W W) ((List.replicate W 0).map bR),br w.heap.size (.slice v1a r.held.length v1c) 2 (r.held.map pC),aM (.slice Arh r.held.length Crh) 2 (r.held.map pC)]⟩ <| kQ <| kHD 1 [1,2,3,4,8,9,10,11,38] [(38,aI (W : Int))] rfl (hv_make (kl := .i64) (kc := .i64) (e := 4) (K := 1) (bytes := 1) (m := W) (z := .bool false) (rs := (List.replicate W false).map ab) rfl (by kernel_rfl) (by kernel_rfl) (by kernel_rfl) (by kernel_rfl) (by (try simp only [List.length_map,List.length_append,List.length_cons,List.length_nil,List.length_take,List.length_drop,maxLen]); omega) (by (try simp only [List.length_map,List.length_append,List.length_cons,List.length_nil,List.length_take,List.length_drop,maxLen]); omega) (by rw [List.map_replicate]; rfl)) ?_
 intro g5
 refine kEA [1,2,3,4,8,9,10,11,12] [(12,.p 4 0)] [⟨78,[.slice (some ⟨g5,0,none⟩) W W]⟩] <| kS <| xw_pinB 12 78 [.slice (some ⟨g5,0,none⟩) W W] [⟨28,a7 r (.slice Arh r.held.length Crh)⟩,⟨28,aC⟩,⟨28,a7 r (.slice v1a r.held.length v1c)⟩,⟨59,[.slice (some ⟨g4,0,none⟩) W W]⟩] rfl (by kernel_rfl) (by kernel_rfl) ?_
 intro gh hgh hghn
 refine xw_pinB 11 59 [.slice (some ⟨g4,0,none⟩) W W] [⟨28,a7 r (.slice Arh r.held.length Crh)⟩,⟨28,aC⟩,⟨28,a7 r (.slice v1a r.held.length v1c)⟩] rfl (by kernel_rfl) (by kernel_rfl) ?_
 intro gd hgd hgdn
 refine xw_wk (wk_pick [1,0,2,3,4,5] [aY w.heap.size gh 78 [.slice (some ⟨g5,0,none⟩) W W],aY w.heap.size gd 59 [.slice (some ⟨g4,0,none⟩) W W],a8 w.heap.size 4 1 (.slice (some ⟨g5,0,none⟩) W W) ((List.replicate W false).map ab),a8 w.heap.size 5 1 (.slice (some ⟨g4,0,none⟩) W W) ((List.replicate W 0).map bR),br w.heap.size (.slice v1a r.held.length v1c) 2 (r.held.map pC),aM (.slice Arh r.held.length Crh) 2 (r.held.map pC)] (by kernel_rfl) (by kernel_rfl)) ?_
 refine xw_turnF (fs' := [cT w.heap.size gh gd g5 g4 78 59 4 5 W (List.replicate 33 (-1)),br w.heap.size (.slice v1a r.held.length v1c) 2 (r.held.map pC),aM (.slice Arh r.held.length Crh) 2 (r.held.map pC)]) (fun ρ σ w' h => by rw [cT,hvOf_start (by omega),dtOf_start (by omega)]; exact all_in (hs := [br w.heap.size (.slice v1a r.held.length v1c) 2 (r.held.map pC),aM (.slice Arh r.held.length Crh) 2 (r.held.map pC)]) (own4 rfl rfl rfl rfl) ρ σ w' h) ?_
 refine kG <| kOF 0 [1,2,3,4,8,9,10,11,12] ⟨[(1,aI seq),(2,.v (.string text)),(3,aB fin),(4,.p 0 0),(8,.p 1 0),(9,.p 2 0),(10,aI (W : Int)),(11,aP gd),(12,aP gh)],[⟨28,a7 r (.slice Arh r.held.length Crh)⟩,⟨28,aC⟩,⟨28,a7 r (.slice v1a r.held.length v1c)⟩],[],[cT w.heap.size gh gd g5 g4 78 59 4 5 W (List.replicate 33 (-1)),br w.heap.size (.slice v1a r.held.length v1c) 2 (r.held.map pC),aM (.slice Arh r.held.length Crh) 2 (r.held.map pC)]⟩ (.func (.func 42) #[] #[gP gh,gP gd]) rfl (fun _ _ _ ww hr => act_mkf [gP gh,gP gd] hr.1 rfl (by kernel_rfl) ww) ?_
 refine ai [1,2,3,4,8,9,10,11,12,13] [(13,.v (.func (.func 42) #[] #[gP gh,gP gd]))] <| kS <| kQ <| ai [1,2,3,4,8,9,10,11,12,13,42,43,44] [(42,.v (.slice Arh r.held.length Crh)),(43,aI ((r.held.length : Nat) : Int)),(44,aI 0)] ?_
 refine au <| aN (α := {x : Nat × List Int × Int // (fun (i : Nat) (l2 : List Int) (e : Int) => i ≤ r.held.length ∧ l2.length = 33 ∧ ax r = aa l2 (r.held.drop i) ∧ aX (if r.fin = -1 then wO r else r.fin) e (r.held.drop i) = true ∧ 0 ≤ e ∧ e ≤ (W : Int) ∧ (∀ j,e.toNat ≤ j → j < 33 → l2[j]? = some (-1))) x.1 x.2.1 x.2.2}) (fun x => (fun (i : Nat) (l2 : List Int) (e : Int) => (⟨[(1,aI seq),(2,.v (.string text)),(3,aB fin),(4,.p 0 0),(8,.p 1 0),(9,.p 2 0),(10,aI (W : Int)),(11,aP gd),(12,aP gh),(13,.v (.func (.func 42) #[] #[gP gh,gP gd])),(42,.v (.slice Arh r.held.length Crh)),(43,aI ((r.held.length : Nat) : Int)),(44,aI (i : Int))],[⟨28,a7 r (.slice Arh r.held.length Crh)⟩,⟨28,aC⟩,⟨28,a7 r (.slice v1a r.held.length v1c)⟩],[],[cT w.heap.size gh gd g5 g4 78 59 4 5 W l2,br w.heap.size (.slice v1a r.held.length v1c) 2 (r.held.map pC),aM (.slice Arh r.held.length Crh) 2 (r.held.map pC)]⟩ : St)) x.1.1 x.1.2.1 x.1.2.2) (fun x => (fun (i : Nat) (l2 : List Int) (e : Int) => r.held.length - i) x.1.1 x.1.2.1 x.1.2.2) ⟨(0,(List.replicate 33 (-1)),0),⟨Nat.zero_le _,(by simp),rfl,rok_held hrk,Int.le_refl _,(by dsimp only; omega),(fun j h1 h2 => by rw [List.getElem?_replicate,if_pos h2])⟩⟩ (dG [0,1,2] <| kF 3 0 [1,2,3,4,8,9,10,11,12,13,42,43,44]) ?_
 rintro ⟨⟨i,l2,e⟩,hi,hl2,H2,hk,he0,heW,hfr⟩
 try dsimp only
 try dsimp only at hi hl2 H2 hk he0 heW hfr
 refine kQ <| ai [1,2,3,4,8,9,10,11,12,13,42,43,44,45] [(45,aB (decide ((i : Int) < ((r.held.length : Nat) : Int))))] <| kS <| kC (decide ((i : Int) < ((r.held.length : Nat) : Int))) (fun h6 => ?_) (fun h6 => ?_)
 have h6p := of_decide_eq_true h6
 have hlt2 : i < r.held.length := by simpa using h6
 obtain ⟨pp,hx⟩ : ∃ p,r.held[i]? = some p := ⟨_,List.getElem?_eq_getElem hlt2⟩
 have hin := hheld pp (List.mem_of_getElem? hx)
 obtain ⟨hst1,hst2,hst3⟩ := held_step hk hx
 have hpW : pp.off + (pp.text.size : Int) ≤ (W : Int) := Int.le_trans hst2 hM
 refine kK <| kS <| au <| kQ <| cK (kd := .i64) (T := 26) (e := 81) (K := 2) 0 [1,2,3,4,8,9,10,11,12,13,42,43,44] [] i [iI pp.off,.string pp.text] (aM (.slice Arh r.held.length Crh) 2 (r.held.map pC)) (by kernel_rfl) rfl (by kernel_rfl) rfl rfl (by kernel_rfl) (by kernel_rfl) (by kernel_rfl) (by kernel_rfl) hlt2 (by simp) (fun w h => h) (fun b h => h) (by simp only [List.getElem?_map,hx]; rfl) ?_
 refine kEA [1,2,3,4,8,9,10,11,12,13,15,42,43,44] [(15,.p 3 0)] [⟨81,dt pp⟩] <| kQ <| ai [1,2,3,4,8,9,10,11,12,13,15,42,43,44,50,51] [(50,aI (pp.text.size : Int)),(51,aI 0)] <| au <| xw_wk (wkf (s' := ⟨[(1,aI seq),(2,.v (.string text)),(3,aB fin),(4,.p 0 0),(8,.p 1 0),(9,.p 2 0),(10,aI (W : Int)),(11,aP gd),(12,aP gh),(13,.v (.func (.func 42) #[] #[gP gh,gP gd])),(15,.p 3 0),(42,.v (.slice Arh r.held.length Crh)),(43,aI ((r.held.length : Nat) : Int)),(44,aI (i : Int)),(50,aI (pp.text.size : Int)),(51,aI 0)],[⟨28,a7 r (.slice Arh r.held.length Crh)⟩,⟨28,aC⟩,⟨28,a7 r (.slice v1a r.held.length v1c)⟩,⟨81,dt pp⟩],[],[cT w.heap.size gh gd g5 g4 78 59 4 5 W l2,br w.heap.size (.slice v1a r.held.length v1c) 2 (r.held.map pC),aM (.slice Arh r.held.length Crh) 2 (r.held.map pC)]⟩) 4 0 [1,2,3,4,8,9,10,11,12,13,15,42,43,44,50,51] (by kernel_rfl)) ?_
 refine aN (α := {x : Nat × List Int // (fun (q : Nat) (l3 : List Int) => q ≤ pp.text.size ∧ l3.length = 33 ∧ l3 = c5 l2 pp.off.toNat pp.text q ∧ (∀ j,pp.off.toNat + q ≤ j → j < 33 → l3[j]? = some (-1))) x.1 x.2}) (fun x => (fun (q : Nat) (l3 : List Int) => (⟨[(1,aI seq),(2,.v (.string text)),(3,aB fin),(4,.p 0 0),(8,.p 1 0),(9,.p 2 0),(10,aI (W : Int)),(11,aP gd),(12,aP gh),(13,.v (.func (.func 42) #[] #[gP gh,gP gd])),(15,.p 3 0),(42,.v (.slice Arh r.held.length Crh)),(43,aI ((r.held.length : Nat) : Int)),(44,aI (i : Int)),(50,aI (pp.text.size : Int)),(51,aI (q : Int))],[⟨28,a7 r (.slice Arh r.held.length Crh)⟩,⟨28,aC⟩,⟨28,a7 r (.slice v1a r.held.length v1c)⟩,⟨81,dt pp⟩],[],[cT w.heap.size gh gd g5 g4 78 59 4 5 W l3,br w.heap.size (.slice v1a r.held.length v1c) 2 (r.held.map pC),aM (.slice Arh r.held.length Crh) 2 (r.held.map pC)]⟩ : St)) x.1.1 x.1.2) (fun x => (fun (q : Nat) (l3 : List Int) => pp.text.size - q) x.1.1 x.1.2) ⟨(0,l2),⟨Nat.zero_le _,hl2,rfl,(fun j h1 h2 => hfr j (by omega) h2)⟩⟩ (dG [0,1,2] <| kF 4 0 [1,2,3,4,8,9,10,11,12,13,15,42,43,44,50,51]) ?_
 rintro ⟨⟨q,l3⟩,hq,hl3,H3,hfr3⟩
 try dsimp only
 try dsimp only at hq hl3 H3 hfr3
 refine kQ <| ai [1,2,3,4,8,9,10,11,12,13,15,42,43,44,50,51,52] [(52,aB (decide ((q : Int) < (pp.text.size : Int))))] <| kS <| kC (decide ((q : Int) < (pp.text.size : Int))) (fun h7 => ?_) (fun h7 => ?_)
 have h7p := of_decide_eq_true h7
 have hlt3 : q < pp.text.size := by simpa using h7
 have hbr := cQ pp.text q
 have hfz := hfr3 (pp.off.toNat + q) (Nat.le_refl _) (by omega)
 refine kK <| kS <| au <| kQ <| ai [1,2,3,4,8,9,10,11,12,13,15,16,42,43,44,50,51] [(16,aI (q : Int))] ?_
 refine bZ [] (by kernel_rfl) (fun ρ σ => ?_)
 refine d4 [0,1,2,3,4,5,6,7] [61,60,58,54,1,2,3,4,8,9,10,11,12,13,15,42,43,44,50,51] 2 [(61,aI (q : Int)),(60,.v (.string pp.text)),(58,aI (K6.wrap (pp.off + (q : Int)))),(54,.v (.func (.func 42) #[] #[gP gh,gP gd])),(1,aI seq),(2,.v (.string text)),(3,aB fin),(4,.p 0 0),(8,.p 1 0),(9,.p 2 0),(10,aI (W : Int)),(11,aP gd),(12,aP gh),(13,.v (.func (.func 42) #[] #[gP gh,gP gd])),(15,.p 3 0),(42,.v (.slice Arh r.held.length Crh)),(43,aI ((r.held.length : Nat) : Int)),(44,aI (i : Int)),(50,aI (pp.text.size : Int)),(51,aI (q : Int))] <| dF [61,60,58,54,1,2,3,4,8,9,10,11,12,13,15,42,43,44,50,51] [(58,aI (K6.wrap (pp.off + (q : Int))))] [(58,aI ((pp.off.toNat + q : Nat) : Int))] (by rw [show (K6.wrap (pp.off + (q : Int))) = ((pp.off.toNat + q : Nat) : Int) from by rw [az (by omega) (by omega)]; omega]) (by kernel_rfl) ?_
 refine kX 8 (.int .u8 (ar pp.text q)) rfl (fun _ _ ww hA => eo (kd := .i64) (t := pp.text) q hA rfl rfl (by kernel_rfl) (by kernel_rfl) hlt3 ww) ?_
 refine kA [9] <| xs_callWC 9 42 [iI ((pp.off.toNat + q : Nat) : Int),.int .u8 (ar pp.text q),gP gh,gP gd] (some 63) 0 (cT w.heap.size gh gd g5 g4 78 59 4 5 W l3) rfl (by kernel_rfl) rfl (by kernel_rfl) rfl rfl (fun ww b h hb => arrF_lo h hb) (by kernel_rfl) (ap (ap (ap (ap av)))) rfl (xcm_arr fun ww hw hf => arrStore_c w.heap.size gh gd g5 g4 W (pp.off.toNat + q) l3 (ar pp.text q) ww hw (hf (cT w.heap.size gh gd g5 g4 78 59 4 5 W l3) (by simp)) (by omega) (by omega) hbr) ?_
 intro _
 refine kZ <| kG <| cp 2 [1,2,3,4,8,9,10,11,12,13,15,42,43,44,50,51] [(51,aI (K6.wrap ((q : Int) + 1)))] <| bw [1,2,3,4,8,9,10,11,12,13,15,42,43,44,50,51] [(51,aI (K6.wrap ((q : Int) + 1)))] [(51,aI ((q : Int) + 1))] (by rw [show (K6.wrap ((q : Int) + 1)) = ((q : Int) + 1) from az (by omega) (by omega)]) (by kernel_rfl) ?_
 refine ai [1,2,3,4,8,9,10,11,12,13,15,42,43,44,50,51] [] ?_
 exact ⟨⟨(q + 1,(db l3 (pp.off.toNat + q) (ar pp.text q))),⟨hlt3,(by rw [stOne_len]; exact hl3),(by rw [stOne_free hfz (by decide),H3]; rfl),(fun j h1 h2 => by rw [stOne_far (by omega)]; exact hfr3 j (by omega) h2)⟩⟩,kF 4 0 [1,2,3,4,8,9,10,11,12,13,15,42,43,44,50,51],by show (fun (q : Nat) (l3 : List Int) => pp.text.size - q) (q + 1) (db l3 (pp.off.toNat + q) (ar pp.text q)) < pp.text.size - q; (dsimp only; omega)⟩
 have h7p := of_decide_eq_false h7
 have hq3 : q = pp.text.size := by simp at h7; omega
 refine aQ <| kG <| cp 2 [1,2,3,4,8,9,10,11,12,13,42,43,44] [(44,aI (K6.wrap ((i : Int) + 1)))] <| bw [1,2,3,4,8,9,10,11,12,13,42,43,44] [(44,aI (K6.wrap ((i : Int) + 1)))] [(44,aI ((i : Int) + 1))] (by rw [show (K6.wrap ((i : Int) + 1)) = ((i : Int) + 1) from az (by omega) (by omega)]) (by kernel_rfl) ?_
 refine ai [1,2,3,4,8,9,10,11,12,13,42,43,44] [] ?_
 exact ⟨⟨(i + 1,l3,(pp.off + (pp.text.size : Int))),⟨hlt2,hl3,(by rw [H2,bC hx,aa,← hq3,← H3]),hst3,(by dsimp only; omega),hpW,(fun j h1 h2 => hfr3 j (by dsimp only at h1; omega) h2)⟩⟩,kF 3 0 [1,2,3,4,8,9,10,11,12,13,42,43,44],by show (fun (i : Nat) (l2 : List Int) (e : Int) => r.held.length - i) (i + 1) l3 (pp.off + (pp.text.size : Int)) < r.held.length - i; (dsimp only; omega)⟩
 have h6p := of_decide_eq_false h6
 have hi2 : i = r.held.length := by simp at h6; omega
 rw [hi2,List.drop_length] at H2; simp only [aa] at H2
 refine aQ <| kS <| kQ <| ai [1,2,3,4,8,9,10,11,12,13,67,68] [(67,aI (text.size : Int)),(68,aI 0)] ?_
 refine au <| aN (α := {x : Nat × List Int // (fun (i : Nat) (sl : List Int) => i ≤ text.size ∧ sl.length = 33 ∧ sl = ck r seq text (ax r) i ∧ (∀ j,W ≤ j → j < 33 → sl[j]? = some (-1))) x.1 x.2}) (fun x => (fun (i : Nat) (sl : List Int) => (⟨[(1,aI seq),(2,.v (.string text)),(3,aB fin),(4,.p 0 0),(8,.p 1 0),(9,.p 2 0),(10,aI (W : Int)),(11,aP gd),(12,aP gh),(13,.v (.func (.func 42) #[] #[gP gh,gP gd])),(67,aI (text.size : Int)),(68,aI (i : Int))],[⟨28,a7 r (.slice Arh r.held.length Crh)⟩,⟨28,aC⟩,⟨28,a7 r (.slice v1a r.held.length v1c)⟩],[],[cT w.heap.size gh gd g5 g4 78 59 4 5 W sl,br w.heap.size (.slice v1a r.held.length v1c) 2 (r.held.map pC),aM (.slice Arh r.held.length Crh) 2 (r.held.map pC)]⟩ : St)) x.1.1 x.1.2) (fun x => (fun (i : Nat) (sl : List Int) => text.size - i) x.1.1 x.1.2) ⟨(0,l2),⟨Nat.zero_le _,hl2,H2.symm,(fun j h1 h2 => hfr j (by omega) h2)⟩⟩ (dG [0,1,2] <| kF 3 0 [1,2,3,4,8,9,10,11,12,13,67,68]) ?_
 rintro ⟨⟨i,sl⟩,hi,hl,HS,hbe⟩
 try dsimp only
 try dsimp only at hi hl HS hbe
 refine kQ <| ai [1,2,3,4,8,9,10,11,12,13,67,68,69] [(69,aB (decide ((i : Int) < (text.size : Int))))] <| kS <| kC (decide ((i : Int) < (text.size : Int))) (fun h8 => ?_) (fun h8 => ?_)
 have h8p := of_decide_eq_true h8
 have hlti : i < text.size := by simpa using h8
 have hbr := cQ text i
 have hsq := e7 seq (i : Int)
 refine kK <| kS <| au <| kQ <| ai [1,2,3,4,8,9,10,11,12,13,17,67,68] [(17,aI (i : Int))] ?_
 refine kS <| bZ [] (by kernel_rfl) (fun ρ σ => ?_)
 refine d4 [0,1,3,4] [75,72,71,1,2,3,4,8,9,10,11,12,13,17,67,68] 3 [(75,aI r.next),(72,aI (i : Int)),(71,aI seq),(1,aI seq),(2,.v (.string text)),(3,aB fin),(4,.p 0 0),(8,.p 1 0),(9,.p 2 0),(10,aI (W : Int)),(11,aP gd),(12,aP gh),(13,.v (.func (.func 42) #[] #[gP gh,gP gd])),(17,aI (i : Int)),(67,aI (text.size : Int)),(68,aI (i : Int))] <| kA [2] <| kSC 2 26 [iI seq,iI (i : Int)] (some 73) rfl (cI fun ww hf => cu seq (i : Int) ww ) ?_
 intro _
 refine kA [5] <| kSC 5 43 [iI (sA seq (i : Int)),iI r.next] (some 76) rfl (cI fun ww hf => ahead_c (sA seq (i : Int)) r.next ww ) ?_
 intro _
 refine dF [76,73,75,72,71,1,2,3,4,8,9,10,11,12,13,17,67,68] [(76,aI (((sA seq (i : Int)) - r.next) % 4294967296))] [(76,aI ((ae r seq i : Nat) : Int))] (by rw [show (((sA seq (i : Int)) - r.next) % 4294967296) = ((ae r seq i : Nat) : Int) from offN_eq r seq i]) (by kernel_rfl) ?_
 refine d4 [6] [18,1,2,3,4,8,9,10,11,12,13,17,67,68] 0 [(18,aI ((ae r seq i : Nat) : Int)),(1,aI seq),(2,.v (.string text)),(3,aB fin),(4,.p 0 0),(8,.p 1 0),(9,.p 2 0),(10,aI (W : Int)),(11,aP gd),(12,aP gh),(13,.v (.func (.func 42) #[] #[gP gh,gP gd])),(17,aI (i : Int)),(67,aI (text.size : Int)),(68,aI (i : Int))] <| kZ <| kQ <| cp 4 [1,2,3,4,8,9,10,11,12,13,17,18,67,68,80] [(80,aB (decide (((ae r seq i : Nat) : Int) < (W : Int))))] ?_
 refine kP 80 (decide (((ae r seq i : Nat) : Int) < (W : Int))) (fun h9 => ?_) (fun h9 => ?_)
 have h9p := of_decide_eq_true h9
 refine cp 4 [1,2,3,4,8,9,10,11,12,13,17,18,67,68,80,84] [(80,aB true),(84,aB (r.fin == (-1)))] <| kP 84 (r.fin == (-1)) (fun h10 => ?_) (fun h10 => ?_)
 have h10p := eqT h10
 refine ai [1,2,3,4,8,9,10,11,12,13,17,18,67,68,90] [(90,aB true)] <| kT <| kG <| dZ 4 [1,2,3,4,8,9,10,11,12,13,67,68,91,92,93,94] [(91,.v (.func (.func 42) #[] #[gP gh,gP gd])),(92,aI ((ae r seq i : Nat) : Int)),(93,.v (.string text)),(94,aI (i : Int))] (.int .u8 (ar text i)) rfl (fun _ _ _ ww hr => eo (kd := .i64) (t := text) i hr.1 rfl rfl (by kernel_rfl) (by kernel_rfl) hlti ww) ?_
 refine xl_callWC 0 [1,2,3,4,8,9,10,11,12,13,67,68,91,92,95] ⟨[(1,aI seq),(2,.v (.string text)),(3,aB fin),(4,.p 0 0),(8,.p 1 0),(9,.p 2 0),(10,aI (W : Int)),(11,aP gd),(12,aP gh),(13,.v (.func (.func 42) #[] #[gP gh,gP gd])),(67,aI (text.size : Int)),(68,aI (i : Int)),(91,.v (.func (.func 42) #[] #[gP gh,gP gd])),(92,aI ((ae r seq i : Nat) : Int)),(95,.v (.int .u8 (ar text i)))],[⟨28,a7 r (.slice Arh r.held.length Crh)⟩,⟨28,aC⟩,⟨28,a7 r (.slice v1a r.held.length v1c)⟩],[],[cT w.heap.size gh gd g5 g4 78 59 4 5 W sl,br w.heap.size (.slice v1a r.held.length v1c) 2 (r.held.map pC),aM (.slice Arh r.held.length Crh) 2 (r.held.map pC)]⟩ 42 [iI ((ae r seq i : Nat) : Int),.int .u8 (ar text i),gP gh,gP gd] (some 96) 0 (cT w.heap.size gh gd g5 g4 78 59 4 5 W sl) (by kernel_rfl) rfl (by kernel_rfl) rfl (by kernel_rfl) rfl rfl (fun ww b h hb => arrF_lo h hb) (by kernel_rfl) (xcm_arr fun ww hw hf => arrStore_c w.heap.size gh gd g5 g4 W (ae r seq i) sl (ar text i) ww hw (hf (cT w.heap.size gh gd g5 g4 78 59 4 5 W sl) (by simp)) (by omega) (by omega) hbr) ?_
 intro _
 refine ai [1,2,3,4,8,9,10,11,12,13,67,68] [] <| kG <| cp 2 [1,2,3,4,8,9,10,11,12,13,67,68] [(68,aI (K6.wrap ((i : Int) + 1)))] <| bw [1,2,3,4,8,9,10,11,12,13,67,68] [(68,aI (K6.wrap ((i : Int) + 1)))] [(68,aI ((i : Int) + 1))] (by rw [show (K6.wrap ((i : Int) + 1)) = ((i : Int) + 1) from az (by omega) (by omega)]) (by kernel_rfl) ?_
 refine ai [1,2,3,4,8,9,10,11,12,13,67,68] [] ?_
 exact ⟨⟨(i + 1,(db sl (ae r seq i) (ar text i))),⟨hlti,(by rw [stOne_len]; exact hl),(by rw [ck,← HS,text_yes (by rw [hW]; omega) (by omega)]),(fun j h1 h2 => by rw [stOne_far (by omega)]; exact hbe j h1 h2)⟩⟩,kF 3 0 [1,2,3,4,8,9,10,11,12,13,67,68],by show (fun (i : Nat) (sl : List Int) => text.size - i) (i + 1) (db sl (ae r seq i) (ar text i)) < text.size - i; (dsimp only; omega)⟩
 have h10p := eqF h10
 refine ai [1,2,3,4,8,9,10,11,12,13,17,18,67,68,90] [(90,aB (decide (((ae r seq i : Nat) : Int) < r.fin)))] <| kC (decide (((ae r seq i : Nat) : Int) < r.fin)) (fun h11 => ?_) (fun h11 => ?_)
 have h11p := of_decide_eq_true h11
 refine kG <| dZ 4 [1,2,3,4,8,9,10,11,12,13,67,68,91,92,93,94] [(91,.v (.func (.func 42) #[] #[gP gh,gP gd])),(92,aI ((ae r seq i : Nat) : Int)),(93,.v (.string text)),(94,aI (i : Int))] (.int .u8 (ar text i)) rfl (fun _ _ _ ww hr => eo (kd := .i64) (t := text) i hr.1 rfl rfl (by kernel_rfl) (by kernel_rfl) hlti ww) ?_
 refine xl_callWC 0 [1,2,3,4,8,9,10,11,12,13,67,68,91,92,95] ⟨[(1,aI seq),(2,.v (.string text)),(3,aB fin),(4,.p 0 0),(8,.p 1 0),(9,.p 2 0),(10,aI (W : Int)),(11,aP gd),(12,aP gh),(13,.v (.func (.func 42) #[] #[gP gh,gP gd])),(67,aI (text.size : Int)),(68,aI (i : Int)),(91,.v (.func (.func 42) #[] #[gP gh,gP gd])),(92,aI ((ae r seq i : Nat) : Int)),(95,.v (.int .u8 (ar text i)))],[⟨28,a7 r (.slice Arh r.held.length Crh)⟩,⟨28,aC⟩,⟨28,a7 r (.slice v1a r.held.length v1c)⟩],[],[cT w.heap.size gh gd g5 g4 78 59 4 5 W sl,br w.heap.size (.slice v1a r.held.length v1c) 2 (r.held.map pC),aM (.slice Arh r.held.length Crh) 2 (r.held.map pC)]⟩ 42 [iI ((ae r seq i : Nat) : Int),.int .u8 (ar text i),gP gh,gP gd] (some 96) 0 (cT w.heap.size gh gd g5 g4 78 59 4 5 W sl) (by kernel_rfl) rfl (by kernel_rfl) rfl (by kernel_rfl) rfl rfl (fun ww b h hb => arrF_lo h hb) (by kernel_rfl) (xcm_arr fun ww hw hf => arrStore_c w.heap.size gh gd g5 g4 W (ae r seq i) sl (ar text i) ww hw (hf (cT w.heap.size gh gd g5 g4 78 59 4 5 W sl) (by simp)) (by omega) (by omega) hbr) ?_
 intro _
 refine ai [1,2,3,4,8,9,10,11,12,13,67,68] [] <| kG <| cp 2 [1,2,3,4,8,9,10,11,12,13,67,68] [(68,aI (K6.wrap ((i : Int) + 1)))] <| bw [1,2,3,4,8,9,10,11,12,13,67,68] [(68,aI (K6.wrap ((i : Int) + 1)))] [(68,aI ((i : Int) + 1))] (by rw [show (K6.wrap ((i : Int) + 1)) = ((i : Int) + 1) from az (by omega) (by omega)]) (by kernel_rfl) ?_
 refine ai [1,2,3,4,8,9,10,11,12,13,67,68] [] ?_
 exact ⟨⟨(i + 1,(db sl (ae r seq i) (ar text i))),⟨hlti,(by rw [stOne_len]; exact hl),(by rw [ck,← HS,text_yes (by rw [hW]; omega) (by omega)]),(fun j h1 h2 => by rw [stOne_far (by omega)]; exact hbe j h1 h2)⟩⟩,kF 3 0 [1,2,3,4,8,9,10,11,12,13,67,68],by show (fun (i : Nat) (sl : List Int) => text.size - i) (i + 1) (db sl (ae r seq i) (ar text i)) < text.size - i; (dsimp only; omega)⟩
 have h11p := of_decide_eq_false h11
 refine kK <| kG <| cp 2 [1,2,3,4,8,9,10,11,12,13,67,68] [(68,aI (K6.wrap ((i : Int) + 1)))] <| bw [1,2,3,4,8,9,10,11,12,13,67,68] [(68,aI (K6.wrap ((i : Int) + 1)))] [(68,aI ((i : Int) + 1))] (by rw [show (K6.wrap ((i : Int) + 1)) = ((i : Int) + 1) from az (by omega) (by omega)]) (by kernel_rfl) ?_
 refine ai [1,2,3,4,8,9,10,11,12,13,67,68] [] ?_
 exact ⟨⟨(i + 1,sl),⟨hlti,hl,(by rw [ck,← HS,text_no (by rw [hW]; omega)]),hbe⟩⟩,kF 3 0 [1,2,3,4,8,9,10,11,12,13,67,68],by show (fun (i : Nat) (sl : List Int) => text.size - i) (i + 1) sl < text.size - i; (dsimp only; omega)⟩
 have h9p := of_decide_eq_false h9
 refine ai [1,2,3,4,8,9,10,11,12,13,17,18,67,68,90] [(90,aB false)] <| kN <| kK <| kG <| cp 2 [1,2,3,4,8,9,10,11,12,13,67,68] [(68,aI (K6.wrap ((i : Int) + 1)))] ?_
 refine bw [1,2,3,4,8,9,10,11,12,13,67,68] [(68,aI (K6.wrap ((i : Int) + 1)))] [(68,aI ((i : Int) + 1))] (by rw [show (K6.wrap ((i : Int) + 1)) = ((i : Int) + 1) from az (by omega) (by omega)]) (by kernel_rfl) ?_
 refine ai [1,2,3,4,8,9,10,11,12,13,67,68] [] ?_
 exact ⟨⟨(i + 1,sl),⟨hlti,hl,(by rw [ck,← HS,text_no (by rw [hW]; omega)]),hbe⟩⟩,kF 3 0 [1,2,3,4,8,9,10,11,12,13,67,68],by show (fun (i : Nat) (sl : List Int) => text.size - i) (i + 1) sl < text.size - i; (dsimp only; omega)⟩
 have h8p := of_decide_eq_false h8
 have hti : i = text.size := by simp at h8; omega
 subst hti
 have hall : sl = aj r seq text := HS
 obtain ⟨E,hE⟩ : ∃ E : Nat,(sA seq (text.size : Int) - r.next) % 4294967296 = ((E : Nat) : Int) ∧ ae r seq text.size = E := ⟨_,offN_eq r seq text.size,rfl⟩
 refine aQ <| kS <| xw_wk (wk_pick [0,1,2] [cT w.heap.size gh gd g5 g4 78 59 4 5 W sl,br w.heap.size (.slice v1a r.held.length v1c) 2 (r.held.map pC),aM (.slice Arh r.held.length Crh) 2 (r.held.map pC)] (by kernel_rfl) (by kernel_rfl)) ?_
 refine xw_turnF (fs' := [aY w.heap.size gh 78 [.slice (some ⟨g5,0,none⟩) W W],aY w.heap.size gd 59 [.slice (some ⟨g4,0,none⟩) W W],a8 w.heap.size 4 1 (.slice (some ⟨g5,0,none⟩) W W) ((cv W sl).map ab),a8 w.heap.size 5 1 (.slice (some ⟨g4,0,none⟩) W W) ((ao W sl).map bR),br w.heap.size (.slice v1a r.held.length v1c) 2 (r.held.map pC),aM (.slice Arh r.held.length Crh) 2 (r.held.map pC)]) (fun ρ σ w' h => all_out (gs := [aY w.heap.size gh 78 [.slice (some ⟨g5,0,none⟩) W W],aY w.heap.size gd 59 [.slice (some ⟨g4,0,none⟩) W W],a8 w.heap.size 4 1 (.slice (some ⟨g5,0,none⟩) W W) ((cv W sl).map ab),a8 w.heap.size 5 1 (.slice (some ⟨g4,0,none⟩) W W) ((ao W sl).map bR)]) (hs := [br w.heap.size (.slice v1a r.held.length v1c) 2 (r.held.map pC),aM (.slice Arh r.held.length Crh) 2 (r.held.map pC)]) ρ σ w' h) <| kG <| dn [1,2,3,4,8,9,10,11,12,19] ⟨[(1,aI seq),(2,.v (.string text)),(3,aB fin),(4,.p 0 0),(8,.p 1 0),(9,.p 2 0),(10,aI (W : Int)),(11,aP gd),(12,aP gh),(19,.p 3 0)],[⟨28,a7 r (.slice Arh r.held.length Crh)⟩,⟨28,aC⟩,⟨28,a7 r (.slice v1a r.held.length v1c)⟩,⟨28,a7 r (.slice Arh r.held.length Crh)⟩],[],[aY w.heap.size gh 78 [.slice (some ⟨g5,0,none⟩) W W],aY w.heap.size gd 59 [.slice (some ⟨g4,0,none⟩) W W],a8 w.heap.size 4 1 (.slice (some ⟨g5,0,none⟩) W W) ((cv W sl).map ab),a8 w.heap.size 5 1 (.slice (some ⟨g4,0,none⟩) W W) ((ao W sl).map bR),br w.heap.size (.slice v1a r.held.length v1c) 2 (r.held.map pC),aM (.slice Arh r.held.length Crh) 2 (r.held.map pC)]⟩ <| kS <| bZ [] (by kernel_rfl) (fun ρ σ => ?_)
 refine d4 [0,1,2,4,5] [104,101,99,3,4,8,9,10,11,12,19] 3 [(104,aI r.next),(101,aI (text.size : Int)),(99,aI seq),(3,aB fin),(4,.p 0 0),(8,.p 1 0),(9,.p 2 0),(10,aI (W : Int)),(11,aP gd),(12,aP gh),(19,.p 3 0)] <| kA [3] <| kSC 3 26 [iI seq,iI (text.size : Int)] (some 102) rfl (cI fun ww hf => cu seq (text.size : Int) ww ) ?_
 intro _
 refine kA [6] <| kSC 6 43 [iI (sA seq (text.size : Int)),iI r.next] (some 105) rfl (cI fun ww hf => ahead_c (sA seq (text.size : Int)) r.next ww ) ?_
 intro _
 refine dF [105,102,104,101,99,3,4,8,9,10,11,12,19] [(105,aI (((sA seq (text.size : Int)) - r.next) % 4294967296))] [(105,aI (E : Int))] (by rw [show (((sA seq (text.size : Int)) - r.next) % 4294967296) = (E : Int) from hE.1]) (by kernel_rfl) ?_
 refine d4 [7] [20,3,4,8,9,10,11,12,19] 0 [(20,aI (E : Int)),(3,aB fin),(4,.p 0 0),(8,.p 1 0),(9,.p 2 0),(10,aI (W : Int)),(11,aP gd),(12,aP gh),(19,.p 3 0)] <| kZ <| kS <| cH (α := {zz : Int // (fun (fo : Int) => fo = bk r seq text fin ∧ (-1 ≤ fo ∧ fo ≤ 32)) zz}) (fun zz => (fun (fo : Int) => (⟨[(4,.p 0 0),(8,.p 1 0),(9,.p 2 0),(10,aI (W : Int)),(11,aP gd),(12,aP gh),(19,.p 3 0)],[⟨28,a7 r (.slice Arh r.held.length Crh)⟩,⟨28,aC⟩,⟨28,a7 r (.slice v1a r.held.length v1c)⟩,⟨28,a7 { r with fin := fo } (.slice Arh r.held.length Crh)⟩],[],[aY w.heap.size gh 78 [.slice (some ⟨g5,0,none⟩) W W],aY w.heap.size gd 59 [.slice (some ⟨g4,0,none⟩) W W],a8 w.heap.size 4 1 (.slice (some ⟨g5,0,none⟩) W W) ((cv W sl).map ab),a8 w.heap.size 5 1 (.slice (some ⟨g4,0,none⟩) W W) ((ao W sl).map bR),br w.heap.size (.slice v1a r.held.length v1c) 2 (r.held.map pC),aM (.slice Arh r.held.length Crh) 2 (r.held.map pC)]⟩ : St)) zz.1) ?_ ?_
 refine kQ <| cp 2 [4,8,9,10,11,12,19,20,107] [(107,aB fin)] <| kP 107 (fin) (fun h12 => ?_) (fun h12 => ?_)
 refine cp 5 [4,8,9,10,11,12,19,20,112] [(112,aB (r.fin == (-1)))] <| kP 112 (r.fin == (-1)) (fun h13 => ?_) (fun h13 => ?_)
 have h13p := eqT h13
 refine cp 5 [4,8,9,10,11,12,19,20,117] [(117,aB (decide ((E : Int) ≤ (W : Int))))] <| kP 117 (decide ((E : Int) ≤ (W : Int))) (fun h14 => ?_) (fun h14 => ?_)
 have h14p := of_decide_eq_true h14
 have hcf := hasB_free (W := W) (p := E) hbe hl hW2 (by omega)
 refine dZ 0 [4,8,9,10,11,12,19,20,117] [(117,aB true)] (.slice (some ⟨g5,0,none⟩) W W) rfl (fun _ _ _ ww hr => d6 (off := 0) (B := w.heap.size) (g := gh) (T := 78) (cs := [.slice (some ⟨g5,0,none⟩) W W]) hr rfl (by kernel_rfl) (by simp) (by kernel_rfl)) ?_
 refine dZ 1 [4,8,9,10,11,12,19,20,117,118,119] [(119,aI (E : Int))] (.slice (if W = E then (some ⟨g5,0,none⟩ : Option Addr) else (some ⟨g5,0,none⟩ : Option Addr).map (·.add (E * 1))) (W - E) (W - E)) rfl (fun _ _ _ ww hr => act_slVe (e := 4) (A := some ⟨g5,0,none⟩) (len := W) (cap := W) (K := 1) (k := .i64) (p' := (E : Int)) E hr.1 rfl (by kernel_rfl) (by kernel_rfl) (by kernel_rfl) (by kernel_rfl) rfl (by omega) ww) ?_
 refine kCD 0 [4,8,9,10,11,12,19,20,117,120] [] 44 [.slice (if W = E then (some ⟨g5,0,none⟩ : Option Addr) else (some ⟨g5,0,none⟩ : Option Addr).map (·.add (E * 1))) (W - E) (W - E),.bool true] (some 121) rfl (xc_b fun ww hf => yContainsB_c (((cv W sl).drop E).take (W - E)) (.slice (if W = E then (some ⟨g5,0,none⟩ : Option Addr) else (some ⟨g5,0,none⟩ : Option Addr).map (·.add (E * 1))) (W - E) (W - E)) true ww (Sl.partM (aq (hf _ m2)) E W (by omega) (by omega)) ) ?_
 intro _
 refine ai [4,8,9,10,11,12,19,20,123] [(123,aB (!(hasB (((cv W sl).drop E).take (W - E)) true)))] <| kC (!(hasB (((cv W sl).drop E).take (W - E)) true)) (fun h15 => ?_) (fun h15 => ?_)
 have h15n := du h15
 refine kG <| kEU [4,8,9,10,11,12,19] [] 3 ⟨28,a7 { r with fin := (E : Int) } (.slice Arh r.held.length Crh)⟩ ?_
 exact ⟨⟨((E : Int)),⟨(by unfold bk; rw [← hall,hW,hE.2]; first | (simp [*]; done) | grind),(by first | omega | (have := hf3; omega))⟩⟩,kF 4 0 [4,8,9,10,11,12,19]⟩
 have h15n := d2 h15
 refine kK ?_
 exact ⟨⟨(r.fin),⟨(by unfold bk; rw [← hall,hW,hE.2]; first | (simp [*]; done) | grind),(by first | omega | (have := hf3; omega))⟩⟩,kF 4 0 [4,8,9,10,11,12,19]⟩
 have h14p := of_decide_eq_false h14
 refine ai [4,8,9,10,11,12,19,20,123] [(123,aB false)] <| kN <| kK ?_
 exact ⟨⟨(r.fin),⟨(by unfold bk; rw [← hall,hW,hE.2]; first | (simp [*]; done) | grind),(by first | omega | (have := hf3; omega))⟩⟩,kF 4 0 [4,8,9,10,11,12,19]⟩
 have h13p := eqF h13
 refine ai [4,8,9,10,11,12,19,20,123] [(123,aB false)] <| kN <| kK ?_
 exact ⟨⟨(r.fin),⟨(by unfold bk; rw [← hall,hW,hE.2]; first | (simp [*]; done) | grind),(by first | omega | (have := hf3; omega))⟩⟩,kF 4 0 [4,8,9,10,11,12,19]⟩
 refine ai [4,8,9,10,11,12,19,20,123] [(123,aB false)] <| kN <| kK ?_
 exact ⟨⟨(r.fin),⟨(by unfold bk; rw [← hall,hW,hE.2]; first | (simp [*]; done) | grind),(by first | omega | (have := hf3; omega))⟩⟩,kF 4 0 [4,8,9,10,11,12,19]⟩
 rintro ⟨fo,hfo,hfb⟩
 try dsimp only
 try dsimp only at hfo hfb
 refine kQ <| ai [4,8,9,10,11,12,19,21] [(21,aI 0)] <| kS <| cH (α := {zz : Nat // (fun (n2 : Nat) => n2 = aS sl ∧ n2 ≤ W ∧ (∀ x ∈ sl.take n2,0 ≤ x)) zz}) (fun zz => (fun (n2 : Nat) => (⟨[(4,.p 0 0),(8,.p 1 0),(9,.p 2 0),(10,aI (W : Int)),(11,aP gd),(12,aP gh),(19,.p 3 0),(21,aI (n2 : Int))],[⟨28,a7 r (.slice Arh r.held.length Crh)⟩,⟨28,aC⟩,⟨28,a7 r (.slice v1a r.held.length v1c)⟩,⟨28,a7 { r with fin := fo } (.slice Arh r.held.length Crh)⟩],[],[aY w.heap.size gh 78 [.slice (some ⟨g5,0,none⟩) W W],aY w.heap.size gd 59 [.slice (some ⟨g4,0,none⟩) W W],a8 w.heap.size 4 1 (.slice (some ⟨g5,0,none⟩) W W) ((cv W sl).map ab),a8 w.heap.size 5 1 (.slice (some ⟨g4,0,none⟩) W W) ((ao W sl).map bR),br w.heap.size (.slice v1a r.held.length v1c) 2 (r.held.map pC),aM (.slice Arh r.held.length Crh) 2 (r.held.map pC)]⟩ : St)) zz.1) ?_ ?_
 refine au <| aN (α := {x : Nat // (fun (n2 : Nat) => n2 ≤ W ∧ (∀ x ∈ sl.take n2,0 ≤ x)) x}) (fun x => (fun (n2 : Nat) => (⟨[(4,.p 0 0),(8,.p 1 0),(9,.p 2 0),(10,aI (W : Int)),(11,aP gd),(12,aP gh),(19,.p 3 0),(21,aI (n2 : Int))],[⟨28,a7 r (.slice Arh r.held.length Crh)⟩,⟨28,aC⟩,⟨28,a7 r (.slice v1a r.held.length v1c)⟩,⟨28,a7 { r with fin := fo } (.slice Arh r.held.length Crh)⟩],[],[aY w.heap.size gh 78 [.slice (some ⟨g5,0,none⟩) W W],aY w.heap.size gd 59 [.slice (some ⟨g4,0,none⟩) W W],a8 w.heap.size 4 1 (.slice (some ⟨g5,0,none⟩) W W) ((cv W sl).map ab),a8 w.heap.size 5 1 (.slice (some ⟨g4,0,none⟩) W W) ((ao W sl).map bR),br w.heap.size (.slice v1a r.held.length v1c) 2 (r.held.map pC),aM (.slice Arh r.held.length Crh) 2 (r.held.map pC)]⟩ : St)) x.1) (fun x => (fun (n2 : Nat) => W - n2) x.1) ⟨(0),⟨Nat.zero_le _,(by simp)⟩⟩ (kF 4 0 [4,8,9,10,11,12,19,21]) ?_
 rintro ⟨n2,hn2,hps⟩
 try dsimp only
 try dsimp only at hn2 hps
 refine kS <| kQ <| cp 4 [4,8,9,10,11,12,19,21,129] [(129,aB (decide ((n2 : Int) < (W : Int))))] <| kP 129 (decide ((n2 : Int) < (W : Int))) (fun h16 => ?_) (fun h16 => ?_)
 have h16p := of_decide_eq_true h16
 have hlt2 : n2 < W := by simp at h16; omega
 obtain ⟨y,hy⟩ : ∃ y,sl[n2]? = some y := ⟨_,List.getElem?_eq_getElem (by omega)⟩
 refine dZ 0 [4,8,9,10,11,12,19,21,129] [(129,aB true)] (.slice (some ⟨g5,0,none⟩) W W) rfl (fun _ _ _ ww hr => d6 (off := 0) (B := w.heap.size) (g := gh) (T := 78) (cs := [.slice (some ⟨g5,0,none⟩) W W]) hr rfl (by kernel_rfl) (by simp) (by kernel_rfl)) ?_
 refine dZ 1 [4,8,9,10,11,12,19,21,129,130,131] [(131,aI (n2 : Int))] (.pointer (some ⟨g5,n2 * 1,none⟩)) rfl (fun _ _ _ ww hr => c6 (kd := .i64) (T := 78) (e := 4) (K := 1) (g := g5) (N := W) (cap := W) n2 rfl hr.1 rfl rfl (by kernel_rfl) (by kernel_rfl) (by kernel_rfl) hlt2 ww) ?_
 refine dZ 0 [4,8,9,10,11,12,19,21,129,132] [] (.bool (decide (0 ≤ y))) rfl (fun _ _ _ ww hr => c9 (po := 0) (j := n2) (row := [.bool (decide (0 ≤ y))]) (a8 w.heap.size 4 1 (.slice (some ⟨g5,0,none⟩) W W) ((cv W sl).map ab)) hr rfl (by kernel_rfl) (by simp) (by simp only [List.getElem?_map,eu hlt2 hy]; rfl) (by kernel_rfl) rfl rfl rfl) ?_
 refine ai [4,8,9,10,11,12,19,21,134] [(134,aB (decide (0 ≤ y)))] <| kC (decide (0 ≤ y)) (fun h17 => ?_) (fun h17 => ?_)
 have h17p := of_decide_eq_true h17
 have hyp := of_decide_eq_true h17
 refine kK <| au <| kG <| cp 3 [4,8,9,10,11,12,19,21] [(21,aI (K6.wrap ((n2 : Int) + 1)))] ?_
 refine bw [4,8,9,10,11,12,19,21] [(21,aI (K6.wrap ((n2 : Int) + 1)))] [(21,aI ((n2 : Int) + 1))] (by rw [show (K6.wrap ((n2 : Int) + 1)) = ((n2 : Int) + 1) from az (by omega) (by omega)]) (by kernel_rfl) ?_
 refine ai [4,8,9,10,11,12,19,21] [] ?_
 exact ⟨⟨(n2 + 1),⟨(by (try dsimp only); omega),(take_pos hps hy (by omega))⟩⟩,kF 4 0 [4,8,9,10,11,12,19,21],by show (fun (n2 : Nat) => W - n2) (n2 + 1) < W - n2; (dsimp only; omega)⟩
 have h17p := of_decide_eq_false h17
 have hyp := of_decide_eq_false h17
 refine aQ ?_
 exact ⟨⟨(n2),⟨(by first | exact (co (k := n2) (by omega) hps (fun z hz => by rw [hy] at hz; simp only [Option.some.injEq] at hz; omega)).symm | exact (co (k := n2) (by omega) hps (fun z hz => by rw [hbe n2 (by omega) (by omega)] at hz; simp only [Option.some.injEq] at hz; omega)).symm),hn2,hps⟩⟩,kF 4 0 [4,8,9,10,11,12,19,21]⟩
 have h16p := of_decide_eq_false h16
 have hge2 : n2 = W := by simp at h16; omega
 refine ai [4,8,9,10,11,12,19,21,134] [(134,aB false)] <| kN <| aQ ?_
 exact ⟨⟨(n2),⟨(by first | exact (co (k := n2) (by omega) hps (fun z hz => by rw [hy] at hz; simp only [Option.some.injEq] at hz; omega)).symm | exact (co (k := n2) (by omega) hps (fun z hz => by rw [hbe n2 (by omega) (by omega)] at hz; simp only [Option.some.injEq] at hz; omega)).symm),hn2,hps⟩⟩,kF 4 0 [4,8,9,10,11,12,19,21]⟩
 rintro ⟨n2,hnf,hn2,hps⟩
 try dsimp only
 try dsimp only at hnf hn2 hps
 refine kS <| xw_join ⟨[(4,.p 0 0),(8,.p 1 0),(9,.p 2 0),(10,aI (W : Int)),(11,aP gd),(12,aP gh),(19,.p 3 0),(21,aI (n2 : Int))],[⟨28,a7 r (.slice Arh r.held.length Crh)⟩,⟨28,aC⟩,⟨28,a7 r (.slice v1a r.held.length v1c)⟩,⟨28,a7 { r with data := r.data ++ (a6 (sl.take n2)),fin := fo } (.slice Arh r.held.length Crh)⟩],[],[aY w.heap.size gh 78 [.slice (some ⟨g5,0,none⟩) W W],aY w.heap.size gd 59 [.slice (some ⟨g4,0,none⟩) W W],a8 w.heap.size 4 1 (.slice (some ⟨g5,0,none⟩) W W) ((cv W sl).map ab),a8 w.heap.size 5 1 (.slice (some ⟨g4,0,none⟩) W W) ((ao W sl).map bR),br w.heap.size (.slice v1a r.held.length v1c) 2 (r.held.map pC),aM (.slice Arh r.held.length Crh) 2 (r.held.map pC)]⟩ ?_ ?_
 refine dO <| xws_cell (B := w.heap.size) (g := gd) (T := 59) (cs := [.slice (some ⟨g4,0,none⟩) W W]) (fun _ _ h => h) (by simp) ?_
 refine cB [true,true,true,false] (by kernel_rfl) (fun ρ σ hq18 => ?_)
 refine d4 [0,3] [140,137,4,8,9,10,11,12,19,21] 7 [(140,aI (n2 : Int)),(137,.p 3 1),(4,.p 0 0),(8,.p 1 0),(9,.p 2 0),(10,aI (W : Int)),(11,aP gd),(12,aP gh),(19,.p 3 0),(21,aI (n2 : Int))] <| xe_opH 2 (.slice (some ⟨g4,0,none⟩) W W) _ rfl (by kernel_rfl) (by kernel_rfl) (by kernel_rfl) (fun _ _ h => h) (by kernel_rfl) rfl (fun _ _ ww hA hS => dd (g := gd) (off := 0) (cs := [.slice (some ⟨g4,0,none⟩) W W]) hA rfl (by kernel_rfl) (rd_row hS (h := 0) rfl hq18.2) (by kernel_rfl)) rfl ?_
 refine kA [1,4] ⟨?_,?_⟩
 refine kSV 1 (.v (.string r.data)) rfl <| kA [4] <| ez 4 (.slice (if W = 0 then (some ⟨g4,0,none⟩ : Option Addr) else (some ⟨g4,0,none⟩ : Option Addr).map (·.add (0 * 1))) (n2 - 0) (W - 0)) rfl (fun _ _ ww hr => act_slV0 (e := 5) (A := some ⟨g4,0,none⟩) (len := W) (cap := W) (K := 1) (k' := .i64) (q' := (n2 : Int)) n2 hr.1 rfl (by kernel_rfl) (by kernel_rfl) (by kernel_rfl) (by kernel_rfl) rfl (Nat.le_trans (show n2 ≤ W by omega) (Sl.capLe (aq (hr.2.fact (a8 w.heap.size 5 1 (.slice (some ⟨g4,0,none⟩) W W) ((ao W sl).map bR)) (by simp)).1))) ww) ?_
 refine kA [5] <| ez 5 (.string (a6 (((ao W sl).drop 0).take (n2 - 0)))) rfl (fun _ _ ww hr => aF (e := 5) (((ao W sl).drop 0).take (n2 - 0)) hr.1 rfl (by kernel_rfl) (by kernel_rfl) (by kernel_rfl) rfl (Sl.partM (aq (hr.2.fact (a8 w.heap.size 5 1 (.slice (some ⟨g4,0,none⟩) W W) ((ao W sl).map bR)) (by simp)).1) 0 n2 (by omega) (by omega))) ?_
 refine dF [142,141,138,139,140,137,4,8,9,10,11,12,19,21] [(142,.v (.string (a6 (((ao W sl).drop 0).take (n2 - 0)))))] [(142,.v (.string (a6 (sl.take n2))))] (by rw [show (a6 (((ao W sl).drop 0).take (n2 - 0))) = (a6 (sl.take n2)) from dt_head hn2 hps]) (by kernel_rfl) ?_
 refine kX 6 (.string (r.data ++ (a6 (sl.take n2)))) rfl (fun _ _ ww hA => bp hA rfl (by kernel_rfl) (by kernel_rfl) (dk (by rw [bS,List.length_take]; omega) ww)) ?_
 refine d4 [7] [144,143,4,8,9,10,11,12,19,21] 1 [(144,.p 3 1),(143,.v (.string (r.data ++ (a6 (sl.take n2))))),(4,.p 0 0),(8,.p 1 0),(9,.p 2 0),(10,aI (W : Int)),(11,aP gd),(12,aP gh),(19,.p 3 0),(21,aI (n2 : Int))] <| kA [8] <| kSS 8 3 1 [.string (r.data ++ (a6 (sl.take n2)))] rfl <| kZ ?_
 exact kF 4 0 [4,8,9,10,11,12,19,21]
 refine ez 4 (.slice (if W = 0 then (some ⟨g4,0,none⟩ : Option Addr) else (some ⟨g4,0,none⟩ : Option Addr).map (·.add (0 * 1))) (n2 - 0) (W - 0)) rfl (fun _ _ ww hr => act_slV0 (e := 5) (A := some ⟨g4,0,none⟩) (len := W) (cap := W) (K := 1) (k' := .i64) (q' := (n2 : Int)) n2 hr.1 rfl (by kernel_rfl) (by kernel_rfl) (by kernel_rfl) (by kernel_rfl) rfl (Nat.le_trans (show n2 ≤ W by omega) (Sl.capLe (aq (hr.2.fact (a8 w.heap.size 5 1 (.slice (some ⟨g4,0,none⟩) W W) ((ao W sl).map bR)) (by simp)).1))) ww) ?_
 refine kA [1,5] ⟨?_,?_⟩
 refine kSV 1 (.v (.string r.data)) rfl <| kA [5] <| ez 5 (.string (a6 (((ao W sl).drop 0).take (n2 - 0)))) rfl (fun _ _ ww hr => aF (e := 5) (((ao W sl).drop 0).take (n2 - 0)) hr.1 rfl (by kernel_rfl) (by kernel_rfl) (by kernel_rfl) rfl (Sl.partM (aq (hr.2.fact (a8 w.heap.size 5 1 (.slice (some ⟨g4,0,none⟩) W W) ((ao W sl).map bR)) (by simp)).1) 0 n2 (by omega) (by omega))) ?_
 refine dF [142,138,141,139,140,137,4,8,9,10,11,12,19,21] [(142,.v (.string (a6 (((ao W sl).drop 0).take (n2 - 0)))))] [(142,.v (.string (a6 (sl.take n2))))] (by rw [show (a6 (((ao W sl).drop 0).take (n2 - 0))) = (a6 (sl.take n2)) from dt_head hn2 hps]) (by kernel_rfl) ?_
 refine kX 6 (.string (r.data ++ (a6 (sl.take n2)))) rfl (fun _ _ ww hA => bp hA rfl (by kernel_rfl) (by kernel_rfl) (dk (by rw [bS,List.length_take]; omega) ww)) ?_
 refine d4 [7] [144,143,4,8,9,10,11,12,19,21] 1 [(144,.p 3 1),(143,.v (.string (r.data ++ (a6 (sl.take n2))))),(4,.p 0 0),(8,.p 1 0),(9,.p 2 0),(10,aI (W : Int)),(11,aP gd),(12,aP gh),(19,.p 3 0),(21,aI (n2 : Int))] <| kA [8] <| kSS 8 3 1 [.string (r.data ++ (a6 (sl.take n2)))] rfl <| kZ ?_
 exact kF 4 0 [4,8,9,10,11,12,19,21]
 refine ez 5 (.string (a6 (((ao W sl).drop 0).take (n2 - 0)))) rfl (fun _ _ ww hr => aF (e := 5) (((ao W sl).drop 0).take (n2 - 0)) hr.1 rfl (by kernel_rfl) (by kernel_rfl) (by kernel_rfl) rfl (Sl.partM (aq (hr.2.fact (a8 w.heap.size 5 1 (.slice (some ⟨g4,0,none⟩) W W) ((ao W sl).map bR)) (by simp)).1) 0 n2 (by omega) (by omega))) ?_
 refine dF [142,141,139,140,137,4,8,9,10,11,12,19,21] [(142,.v (.string (a6 (((ao W sl).drop 0).take (n2 - 0)))))] [(142,.v (.string (a6 (sl.take n2))))] (by rw [show (a6 (((ao W sl).drop 0).take (n2 - 0))) = (a6 (sl.take n2)) from dt_head hn2 hps]) (by kernel_rfl) ?_
 refine kA [1] <| kSV 1 (.v (.string r.data)) rfl <| kX 6 (.string (r.data ++ (a6 (sl.take n2)))) rfl (fun _ _ ww hA => bp hA rfl (by kernel_rfl) (by kernel_rfl) (dk (by rw [bS,List.length_take]; omega) ww)) ?_
 refine d4 [7] [144,143,4,8,9,10,11,12,19,21] 1 [(144,.p 3 1),(143,.v (.string (r.data ++ (a6 (sl.take n2))))),(4,.p 0 0),(8,.p 1 0),(9,.p 2 0),(10,aI (W : Int)),(11,aP gd),(12,aP gh),(19,.p 3 0),(21,aI (n2 : Int))] <| kA [8] <| kSS 8 3 1 [.string (r.data ++ (a6 (sl.take n2)))] rfl <| kZ ?_
 exact kF 4 0 [4,8,9,10,11,12,19,21]
 refine kQ <| kCD 3 [8,9,10,11,12,19,21,146,147] [(146,aI r.next),(147,aI (n2 : Int))] 26 [iI r.next,iI (n2 : Int)] (some 148) rfl (cI fun ww hf => cu r.next (n2 : Int) ww ) ?_
 intro _
 refine kEU [8,9,10,11,12,19,21] [] 3 ⟨28,[iI (sA r.next (n2 : Int)),.string (r.data ++ (a6 (sl.take n2))),.slice Arh r.held.length Crh,iI fo,.bool r.done]⟩ <| kS <| cH (α := {zz : Int // (fun (fp : Int) => fp = cd r seq text fin) zz}) (fun zz => (fun (fp : Int) => (⟨[(8,.p 1 0),(9,.p 2 0),(10,aI (W : Int)),(11,aP gd),(12,aP gh),(19,.p 3 0),(21,aI (n2 : Int))],[⟨28,a7 r (.slice Arh r.held.length Crh)⟩,⟨28,aC⟩,⟨28,a7 r (.slice v1a r.held.length v1c)⟩,⟨28,[iI (sA r.next (n2 : Int)),.string (r.data ++ (a6 (sl.take n2))),.slice Arh r.held.length Crh,iI fp,.bool r.done]⟩],[],[aY w.heap.size gh 78 [.slice (some ⟨g5,0,none⟩) W W],aY w.heap.size gd 59 [.slice (some ⟨g4,0,none⟩) W W],a8 w.heap.size 4 1 (.slice (some ⟨g5,0,none⟩) W W) ((cv W sl).map ab),a8 w.heap.size 5 1 (.slice (some ⟨g4,0,none⟩) W W) ((ao W sl).map bR),br w.heap.size (.slice v1a r.held.length v1c) 2 (r.held.map pC),aM (.slice Arh r.held.length Crh) 2 (r.held.map pC)]⟩ : St)) zz.1) ?_ ?_
 refine kQ <| ai [8,9,10,11,12,19,21,152] [(152,aB (fo != (-1)))] <| kC (fo != (-1)) (fun h19 => ?_) (fun h19 => ?_)
 have h19p := neT h19
 refine kG <| kRB 6 [8,9,10,11,12,19,21] [(8,.p 1 0),(9,.p 2 0),(10,aI (W : Int)),(11,aP gd),(12,aP gh),(19,.p 3 0),(21,aI (n2 : Int))] [⟨28,a7 r (.slice Arh r.held.length Crh)⟩,⟨28,aC⟩,⟨28,a7 r (.slice v1a r.held.length v1c)⟩,⟨28,[iI (sA r.next (n2 : Int)),.string (r.data ++ (a6 (sl.take n2))),.slice Arh r.held.length Crh,iI (K6.wrap (fo - (n2 : Int))),.bool r.done]⟩] <| xl_eq (st' := ⟨[(8,.p 1 0),(9,.p 2 0),(10,aI (W : Int)),(11,aP gd),(12,aP gh),(19,.p 3 0),(21,aI (n2 : Int))],[⟨28,a7 r (.slice Arh r.held.length Crh)⟩,⟨28,aC⟩,⟨28,a7 r (.slice v1a r.held.length v1c)⟩,⟨28,[iI (sA r.next (n2 : Int)),.string (r.data ++ (a6 (sl.take n2))),.slice Arh r.held.length Crh,iI (fo - (n2 : Int)),.bool r.done]⟩],[],[aY w.heap.size gh 78 [.slice (some ⟨g5,0,none⟩) W W],aY w.heap.size gd 59 [.slice (some ⟨g4,0,none⟩) W W],a8 w.heap.size 4 1 (.slice (some ⟨g5,0,none⟩) W W) ((cv W sl).map ab),a8 w.heap.size 5 1 (.slice (some ⟨g4,0,none⟩) W W) ((ao W sl).map bR),br w.heap.size (.slice v1a r.held.length v1c) 2 (r.held.map pC),aM (.slice Arh r.held.length Crh) 2 (r.held.map pC)]⟩) (by rw [show (K6.wrap (fo - (n2 : Int))) = (fo - (n2 : Int)) from az (by omega) (by omega)] <;> rfl) ?_
 refine ai [8,9,10,11,12,19,21] [] ?_
 exact ⟨⟨(fo - (n2 : Int)),(by unfold cd; rw [← hall,← hnf,← hfo]; first | rw [if_pos (by omega)] | rw [if_neg (by omega)])⟩,kF 4 0 [8,9,10,11,12,19,21]⟩
 have h19p := neF h19
 refine kK ?_
 exact ⟨⟨(fo),(by unfold cd; rw [← hall,← hnf,← hfo]; first | rw [if_pos (by omega)] | rw [if_neg (by omega)])⟩,kF 4 0 [8,9,10,11,12,19,21]⟩
 rintro ⟨fp,hfp⟩
 try dsimp only
 try dsimp only at hfp
 refine kQ <| kEU [8,9,10,11,12,19,21] [] 3 ⟨28,[iI (sA r.next (n2 : Int)),.string (r.data ++ (a6 (sl.take n2))),.slice none 0 0,iI fp,.bool r.done]⟩ <| kS <| kQ <| ai [8,9,10,11,12,19,21,22] [(22,aI (n2 : Int))] ?_
 refine au <| xw_free (a8 w.heap.size 81 2 (.slice none 0 0) (([] : List Pce).map pC)) (fun ww hww => nilF_p _ _ ww hww) (fun b => nilF_b _ _ _ b) <| aN (α := {x : Nat × List Pce × Option Addr × Nat // (fun (i : Nat) (out : List Pce) (A1 : Option Addr) (c1 : Nat) => (n2 ≤ i ∧ i ≤ W) ∧ ca [] 0 (sl.drop n2) = ca out (i - n2) (sl.drop i) ∧ (∀ p ∈ out,0 ≤ p.off ∧ p.off + (p.text.size : Int) ≤ ((i - n2 : Nat) : Int)) ∧ (∀ x,sl[i]? = some x → 0 ≤ x → ¬ touches out (i - n2)) ∧ out.length ≤ i) x.1 x.2.1 x.2.2.1 x.2.2.2}) (fun x => (fun (i : Nat) (out : List Pce) (A1 : Option Addr) (c1 : Nat) => (⟨[(8,.p 1 0),(9,.p 2 0),(10,aI (W : Int)),(11,aP gd),(12,aP gh),(19,.p 3 0),(21,aI (n2 : Int)),(22,aI (i : Int))],[⟨28,a7 r (.slice Arh r.held.length Crh)⟩,⟨28,aC⟩,⟨28,a7 r (.slice v1a r.held.length v1c)⟩,⟨28,[iI (sA r.next (n2 : Int)),.string (r.data ++ (a6 (sl.take n2))),.slice A1 out.length c1,iI fp,.bool r.done]⟩],[],[a8 w.heap.size 81 2 (.slice A1 out.length c1) (out.map pC),aY w.heap.size gh 78 [.slice (some ⟨g5,0,none⟩) W W],aY w.heap.size gd 59 [.slice (some ⟨g4,0,none⟩) W W],a8 w.heap.size 4 1 (.slice (some ⟨g5,0,none⟩) W W) ((cv W sl).map ab),a8 w.heap.size 5 1 (.slice (some ⟨g4,0,none⟩) W W) ((ao W sl).map bR),br w.heap.size (.slice v1a r.held.length v1c) 2 (r.held.map pC),aM (.slice Arh r.held.length Crh) 2 (r.held.map pC)]⟩ : St)) x.1.1 x.1.2.1 x.1.2.2.1 x.1.2.2.2) (fun x => (fun (i : Nat) (out : List Pce) (A1 : Option Addr) (c1 : Nat) => W - i) x.1.1 x.1.2.1 x.1.2.2.1 x.1.2.2.2) ⟨(n2,([] : List Pce),none,0),⟨⟨Nat.le_refl _,hn2⟩,(by rw [Nat.sub_self]),(by simp),(fun x _ _ => by rintro ⟨p,hp,-⟩; simp at hp),Nat.zero_le _⟩⟩ (kF 4 0 [8,9,10,11,12,19,21,22]) ?_
 rintro ⟨⟨i,out,A1,c1⟩,hi,HP,hbd,htc,hol⟩
 try dsimp only
 try dsimp only at hi HP hbd htc hol
 refine kS <| kQ <| ai [8,9,10,11,12,19,21,22,162] [(162,aB (decide ((i : Int) < (W : Int))))] <| kC (decide ((i : Int) < (W : Int))) (fun h20 => ?_) (fun h20 => ?_)
 have h20p := of_decide_eq_true h20
 have hlt5 : i < W := by simp at h20; omega
 obtain ⟨y2,hy2⟩ : ∃ y,sl[i]? = some y := ⟨_,List.getElem?_eq_getElem (by omega)⟩
 refine kK <| au <| kS <| kQ <| dZ 0 [8,9,10,11,12,19,21,22] [] (.slice (some ⟨g5,0,none⟩) W W) rfl (fun _ _ _ ww hr => d6 (off := 0) (B := w.heap.size) (g := gh) (T := 78) (cs := [.slice (some ⟨g5,0,none⟩) W W]) hr rfl (by kernel_rfl) (by simp) (by kernel_rfl)) ?_
 refine dZ 1 [8,9,10,11,12,19,21,22,163,164] [(164,aI (i : Int))] (.pointer (some ⟨g5,i * 1,none⟩)) rfl (fun _ _ _ ww hr => c6 (kd := .i64) (T := 78) (e := 4) (K := 1) (g := g5) (N := W) (cap := W) i rfl hr.1 rfl rfl (by kernel_rfl) (by kernel_rfl) (by kernel_rfl) hlt5 ww) ?_
 refine dZ 0 [8,9,10,11,12,19,21,22,165] [] (.bool (decide (0 ≤ y2))) rfl (fun _ _ _ ww hr => c9 (po := 0) (j := i) (row := [.bool (decide (0 ≤ y2))]) (a8 w.heap.size 4 1 (.slice (some ⟨g5,0,none⟩) W W) ((cv W sl).map ab)) hr rfl (by kernel_rfl) (by simp) (by simp only [List.getElem?_map,eu hlt5 hy2]; rfl) (by kernel_rfl) rfl rfl rfl) ?_
 refine ai [8,9,10,11,12,19,21,22,167] [(167,aB (!(decide (0 ≤ y2))))] <| kC (!(decide (0 ≤ y2))) (fun h21 => ?_) (fun h21 => ?_)
 have h21n := du h21
 have hy2p := of_decide_eq_false h21n
 refine kQ <| kRS 3 [8,9,10,11,12,19,21,22] [(8,.p 1 0),(9,.p 2 0),(10,aI (W : Int)),(11,aP gd),(12,aP gh),(19,.p 3 0),(21,aI (n2 : Int)),(22,aI (K6.wrap ((i : Int) + 1)))] <| xl_eqS (t' := [(8,.p 1 0),(9,.p 2 0),(10,aI (W : Int)),(11,aP gd),(12,aP gh),(19,.p 3 0),(21,aI (n2 : Int)),(22,aI ((i : Int) + 1))]) (by rw [show (K6.wrap ((i : Int) + 1)) = ((i : Int) + 1) from az (by omega) (by omega)]) ?_
 refine ai [8,9,10,11,12,19,21,22] [] <| aQ ?_
 exact ⟨⟨(i + 1,out,A1,c1),⟨(by (try dsimp only); omega),(by rw [HP,pcs_step (l := sl) (m := n2) hy2 (by omega),if_pos (by omega)]),(fun p hp => by have := hbd p hp; (try dsimp only); omega),(fun x _ _ => by rw [show i + 1 - n2 = (i - n2) + 1 by omega]; exact touch_skip hbd),(by (try dsimp only); omega)⟩⟩,kF 4 0 [8,9,10,11,12,19,21,22],by show (fun (i : Nat) (out : List Pce) (A1 : Option Addr) (c1 : Nat) => W - i) (i + 1) out A1 c1 < W - i; (dsimp only; omega)⟩
 have h21n := d2 h21
 have hy2p := of_decide_eq_true h21n
 refine kK <| kQ <| ai [8,9,10,11,12,19,21,22,23] [(23,aI (i : Int))] <| kS <| cH (α := {zz : Nat // (fun (j : Nat) => (i < j ∧ j ≤ W) ∧ (∀ x ∈ (sl.drop i).take (j - i),0 ≤ x) ∧ (∀ z,sl[j]? = some z → z < 0)) zz}) (fun zz => (fun (j : Nat) => (⟨[(8,.p 1 0),(9,.p 2 0),(10,aI (W : Int)),(11,aP gd),(12,aP gh),(19,.p 3 0),(21,aI (n2 : Int)),(22,aI (j : Int)),(23,aI (i : Int))],[⟨28,a7 r (.slice Arh r.held.length Crh)⟩,⟨28,aC⟩,⟨28,a7 r (.slice v1a r.held.length v1c)⟩,⟨28,[iI (sA r.next (n2 : Int)),.string (r.data ++ (a6 (sl.take n2))),.slice A1 out.length c1,iI fp,.bool r.done]⟩],[],[a8 w.heap.size 81 2 (.slice A1 out.length c1) (out.map pC),aY w.heap.size gh 78 [.slice (some ⟨g5,0,none⟩) W W],aY w.heap.size gd 59 [.slice (some ⟨g4,0,none⟩) W W],a8 w.heap.size 4 1 (.slice (some ⟨g5,0,none⟩) W W) ((cv W sl).map ab),a8 w.heap.size 5 1 (.slice (some ⟨g4,0,none⟩) W W) ((ao W sl).map bR),br w.heap.size (.slice v1a r.held.length v1c) 2 (r.held.map pC),aM (.slice Arh r.held.length Crh) 2 (r.held.map pC)]⟩ : St)) zz.1) ?_ ?_
 refine au <| aN (α := {x : Nat // (fun (j : Nat) => (i ≤ j ∧ j ≤ W) ∧ (∀ x ∈ (sl.drop i).take (j - i),0 ≤ x)) x}) (fun x => (fun (j : Nat) => (⟨[(8,.p 1 0),(9,.p 2 0),(10,aI (W : Int)),(11,aP gd),(12,aP gh),(19,.p 3 0),(21,aI (n2 : Int)),(22,aI (j : Int)),(23,aI (i : Int))],[⟨28,a7 r (.slice Arh r.held.length Crh)⟩,⟨28,aC⟩,⟨28,a7 r (.slice v1a r.held.length v1c)⟩,⟨28,[iI (sA r.next (n2 : Int)),.string (r.data ++ (a6 (sl.take n2))),.slice A1 out.length c1,iI fp,.bool r.done]⟩],[],[a8 w.heap.size 81 2 (.slice A1 out.length c1) (out.map pC),aY w.heap.size gh 78 [.slice (some ⟨g5,0,none⟩) W W],aY w.heap.size gd 59 [.slice (some ⟨g4,0,none⟩) W W],a8 w.heap.size 4 1 (.slice (some ⟨g5,0,none⟩) W W) ((cv W sl).map ab),a8 w.heap.size 5 1 (.slice (some ⟨g4,0,none⟩) W W) ((ao W sl).map bR),br w.heap.size (.slice v1a r.held.length v1c) 2 (r.held.map pC),aM (.slice Arh r.held.length Crh) 2 (r.held.map pC)]⟩ : St)) x.1) (fun x => (fun (j : Nat) => W - j) x.1) ⟨(i),⟨⟨Nat.le_refl _,by omega⟩,(by rw [Nat.sub_self]; simp)⟩⟩ (kF 4 0 [8,9,10,11,12,19,21,22,23]) ?_
 rintro ⟨j,hij,hrun⟩
 try dsimp only
 try dsimp only at hij hrun
 refine kS <| kQ <| kRS 4 [8,9,10,11,12,19,21,22,23,174] [(8,.p 1 0),(9,.p 2 0),(10,aI (W : Int)),(11,aP gd),(12,aP gh),(19,.p 3 0),(21,aI (n2 : Int)),(22,aI (j : Int)),(23,aI (i : Int)),(174,aB (decide ((j : Int) < (W : Int))))] <| kP 174 (decide ((j : Int) < (W : Int))) (fun h22 => ?_) (fun h22 => ?_)
 have h22p := of_decide_eq_true h22
 have hlt6 : j < W := by simp at h22; omega
 obtain ⟨y3,hy3⟩ : ∃ y,sl[j]? = some y := ⟨_,List.getElem?_eq_getElem (by omega)⟩
 refine dZ 0 [8,9,10,11,12,19,21,22,23,174] [(174,aB true)] (.slice (some ⟨g5,0,none⟩) W W) rfl (fun _ _ _ ww hr => d6 (off := 0) (B := w.heap.size) (g := gh) (T := 78) (cs := [.slice (some ⟨g5,0,none⟩) W W]) hr rfl (by kernel_rfl) (by simp) (by kernel_rfl)) ?_
 refine dZ 1 [8,9,10,11,12,19,21,22,23,174,175,176] [(176,aI (j : Int))] (.pointer (some ⟨g5,j * 1,none⟩)) rfl (fun _ _ _ ww hr => c6 (kd := .i64) (T := 78) (e := 4) (K := 1) (g := g5) (N := W) (cap := W) j rfl hr.1 rfl rfl (by kernel_rfl) (by kernel_rfl) (by kernel_rfl) hlt6 ww) ?_
 refine dZ 0 [8,9,10,11,12,19,21,22,23,174,177] [] (.bool (decide (0 ≤ y3))) rfl (fun _ _ _ ww hr => c9 (po := 0) (j := j) (row := [.bool (decide (0 ≤ y3))]) (a8 w.heap.size 4 1 (.slice (some ⟨g5,0,none⟩) W W) ((cv W sl).map ab)) hr rfl (by kernel_rfl) (by simp) (by simp only [List.getElem?_map,eu hlt6 hy3]; rfl) (by kernel_rfl) rfl rfl rfl) ?_
 refine ai [8,9,10,11,12,19,21,22,23,179] [(179,aB (decide (0 ≤ y3)))] <| kC (decide (0 ≤ y3)) (fun h23 => ?_) (fun h23 => ?_)
 have h23p := of_decide_eq_true h23
 have hy3p := of_decide_eq_true h23
 refine kK <| au <| kG <| cp 3 [8,9,10,11,12,19,21,22,23] [(22,aI (K6.wrap ((j : Int) + 1)))] ?_
 refine bw [8,9,10,11,12,19,21,22,23] [(22,aI (K6.wrap ((j : Int) + 1)))] [(22,aI ((j : Int) + 1))] (by rw [show (K6.wrap ((j : Int) + 1)) = ((j : Int) + 1) from az (by omega) (by omega)]) (by kernel_rfl) ?_
 refine ai [8,9,10,11,12,19,21,22,23] [] ?_
 exact ⟨⟨(j + 1),⟨(by (try dsimp only); omega),run_more hij.1 hrun hy3 (by omega)⟩⟩,kF 4 0 [8,9,10,11,12,19,21,22,23],by show (fun (j : Nat) => W - j) (j + 1) < W - j; (dsimp only; omega)⟩
 have h23p := of_decide_eq_false h23
 have hy3p := of_decide_eq_false h23
 refine aQ ?_
 exact ⟨⟨(j),⟨(by first | omega | (have hne : i ≠ j := (fun e => (by subst e; rw [hy2] at hy3; simp only [Option.some.injEq] at hy3; omega)); omega)),hrun,(by first | exact fun z hz => by rw [hy3] at hz; simp only [Option.some.injEq] at hz; omega | exact fun z hz => by rw [hbe j (by omega) (by omega)] at hz; simp only [Option.some.injEq] at hz; omega)⟩⟩,kF 4 0 [8,9,10,11,12,19,21,22,23]⟩
 have h22p := of_decide_eq_false h22
 have hge6 : j = W := by simp at h22; omega
 refine ai [8,9,10,11,12,19,21,22,23,179] [(179,aB false)] <| kN <| aQ ?_
 exact ⟨⟨(j),⟨(by first | omega | (have hne : i ≠ j := (fun e => (by subst e; rw [hy2] at hy3; simp only [Option.some.injEq] at hy3; omega)); omega)),hrun,(by first | exact fun z hz => by rw [hy3] at hz; simp only [Option.some.injEq] at hz; omega | exact fun z hz => by rw [hbe j (by omega) (by omega)] at hz; simp only [Option.some.injEq] at hz; omega)⟩⟩,kF 4 0 [8,9,10,11,12,19,21,22,23]⟩
 rintro ⟨j,hij,hrun,hstop⟩
 try dsimp only
 try dsimp only at hij hrun hstop
 refine xw_joinE (α := Option Addr × Nat × Nat) (fun y => (fun (v27a : Option Addr) (v27c : Nat) (g25 : Nat) => (⟨[(8,.p 1 0),(9,.p 2 0),(10,aI (W : Int)),(11,aP gd),(12,aP gh),(19,.p 3 0),(21,aI (n2 : Int)),(22,aI (j : Int))],[⟨28,a7 r (.slice Arh r.held.length Crh)⟩,⟨28,aC⟩,⟨28,a7 r (.slice v1a r.held.length v1c)⟩,⟨28,[iI (sA r.next (n2 : Int)),.string (r.data ++ (a6 (sl.take n2))),.slice v27a ((out ++ ([⟨((i - n2 : Nat) : Int),a6 (((ao W sl).drop i).take (j - i))⟩] : List Pce)).length) v27c,iI fp,.bool r.done]⟩],[],[a8 w.heap.size 81 2 (.slice v27a ((out ++ ([⟨((i - n2 : Nat) : Int),a6 (((ao W sl).drop i).take (j - i))⟩] : List Pce)).length) v27c) ((out ++ ([⟨((i - n2 : Nat) : Int),a6 (((ao W sl).drop i).take (j - i))⟩] : List Pce)).map pC),a8 w.heap.size 81 2 (.slice (some ⟨g25,0,none⟩) 1 1) (([⟨((i - n2 : Nat) : Int),a6 (((ao W sl).drop i).take (j - i))⟩] : List Pce).map pC),aY w.heap.size gh 78 [.slice (some ⟨g5,0,none⟩) W W],aY w.heap.size gd 59 [.slice (some ⟨g4,0,none⟩) W W],a8 w.heap.size 4 1 (.slice (some ⟨g5,0,none⟩) W W) ((cv W sl).map ab),a8 w.heap.size 5 1 (.slice (some ⟨g4,0,none⟩) W W) ((ao W sl).map bR),br w.heap.size (.slice v1a r.held.length v1c) 2 (r.held.map pC),aM (.slice Arh r.held.length Crh) 2 (r.held.map pC)]⟩ : St)) y.1 y.2.1 y.2.2) ?_ ?_
 refine bZ [true,true,true,false] (by kernel_rfl) (fun ρ σ => ?_)
 refine d4 [0,2,3,4,6,7] [189,188,186,182,8,9,10,11,12,19,21,22] 9 [(189,aI (j : Int)),(188,aI (i : Int)),(186,aI (K6.wrap ((i : Int) - (n2 : Int)))),(182,.p 3 2),(8,.p 1 0),(9,.p 2 0),(10,aI (W : Int)),(11,aP gd),(12,aP gh),(19,.p 3 0),(21,aI (n2 : Int)),(22,aI (j : Int))] <| dF [189,188,186,182,8,9,10,11,12,19,21,22] [(186,aI (K6.wrap ((i : Int) - (n2 : Int))))] [(186,aI ((i - n2 : Nat) : Int))] (by rw [show (K6.wrap ((i : Int) - (n2 : Int))) = ((i - n2 : Nat) : Int) from by rw [az (by omega) (by omega)]; omega]) (by kernel_rfl) ?_
 refine kA [1,5] ⟨?_,?_⟩
 refine kSV 1 (.v (.slice A1 out.length c1)) rfl <| kA [5] <| ez 5 (.slice (some ⟨g4,0,none⟩) W W) rfl (fun _ _ ww hr => d6 (off := 0) (B := w.heap.size) (g := gd) (T := 59) (cs := [.slice (some ⟨g4,0,none⟩) W W]) hr rfl (by kernel_rfl) (by simp) (by kernel_rfl)) ?_
 refine kA [8] <| ez 8 (.slice (if W = i then (some ⟨g4,0,none⟩ : Option Addr) else (some ⟨g4,0,none⟩ : Option Addr).map (·.add (i * 1))) (j - i) (W - i)) rfl (fun _ _ ww hr => act_slV (e := 5) (A := some ⟨g4,0,none⟩) (len := W) (cap := W) (K := 1) (k := .i64) (p' := (i : Int)) (k' := .i64) (q' := (j : Int)) i j hr.1 rfl (by kernel_rfl) (by kernel_rfl) (by kernel_rfl) (by kernel_rfl) (by kernel_rfl) rfl rfl (by omega) (Nat.le_trans (show j ≤ W by omega) (Sl.capLe (aq (hr.2.fact (a8 w.heap.size 5 1 (.slice (some ⟨g4,0,none⟩) W W) ((ao W sl).map bR)) (by simp)).1))) ww) ?_
 refine kA [9] <| ez 9 (.string (a6 (((ao W sl).drop i).take (j - i)))) rfl (fun _ _ ww hr => aF (e := 5) (((ao W sl).drop i).take (j - i)) hr.1 rfl (by kernel_rfl) (by kernel_rfl) (by kernel_rfl) rfl (Sl.partM (aq (hr.2.fact (a8 w.heap.size 5 1 (.slice (some ⟨g4,0,none⟩) W W) ((ao W sl).map bR)) (by simp)).1) i j (by omega) (by omega))) ?_
 refine kX 10 (.agg (dt (⟨((i - n2 : Nat) : Int),a6 (((ao W sl).drop i).take (j - i))⟩ : Pce)).toArray) rfl (fun _ _ ww hA => cw [(0,iI ((i - n2 : Nat) : Int)),(1,.string (a6 (((ao W sl).drop i).take (j - i))))] hA rfl (by kernel_rfl) (by kernel_rfl) ww) ?_
 refine kA [11] <| kSH 11 rfl (ap (ap (ap (aO rfl av)))) (bj (e := 81) (K := 2) (bytes := 24) [.agg (dt (⟨((i - n2 : Nat) : Int),a6 (((ao W sl).drop i).take (j - i))⟩ : Pce)).toArray] (rs := ([⟨((i - n2 : Nat) : Int),a6 (((ao W sl).drop i).take (j - i))⟩] : List Pce).map pC) rfl rfl) ?_
 intro g25
 refine kA [12] <| kSH 12 rfl (ap (ap (ap (aO rfl av)))) (bT (e := 81) (K := 2) (bytes := 24) (i := 1) (q := (out ++ ([⟨((i - n2 : Nat) : Int),a6 (((ao W sl).drop i).take (j - i))⟩] : List Pce)).length) (new := ([⟨((i - n2 : Nat) : Int),a6 (((ao W sl).drop i).take (j - i))⟩] : List Pce).map pC) (rs' := (out ++ ([⟨((i - n2 : Nat) : Int),a6 (((ao W sl).drop i).take (j - i))⟩] : List Pce)).map pC) rfl rfl rfl rfl (by kernel_rfl) (by kernel_rfl) (by kernel_rfl) rfl (by first | (simp; done) | (simp; omega)) (by rw [List.map_append]) (by first | (simp; done) | (simp; omega)) (fun ww hf => (aq (hf (a8 w.heap.size 81 2 (.slice (some ⟨g25,0,none⟩) 1 1) (([⟨((i - n2 : Nat) : Int),a6 (((ao W sl).drop i).take (j - i))⟩] : List Pce).map pC)) (by simp)))) (by intro r hr; obtain ⟨x,hx,rfl⟩ := List.mem_map.1 hr; exact ⟨rfl,by simp [pC,Value.oneCell']⟩) (by (try simp only [List.length_map,List.length_append,List.length_cons,List.length_nil,List.length_take,List.length_drop,maxLen]); omega) (by (try simp only [List.length_map,List.length_append,List.length_cons,List.length_nil,List.length_take,List.length_drop,maxLen]); omega)) ?_
 rintro ⟨v27a,v27c⟩
 refine d4 [13] [195,194,8,9,10,11,12,19,21,22] 1 [(195,.p 3 2),(194,.v (.slice v27a ((out ++ ([⟨((i - n2 : Nat) : Int),a6 (((ao W sl).drop i).take (j - i))⟩] : List Pce)).length) v27c)),(8,.p 1 0),(9,.p 2 0),(10,aI (W : Int)),(11,aP gd),(12,aP gh),(19,.p 3 0),(21,aI (n2 : Int)),(22,aI (j : Int))] <| kA [14] <| kSS 14 3 2 [.slice v27a ((out ++ ([⟨((i - n2 : Nat) : Int),a6 (((ao W sl).drop i).take (j - i))⟩] : List Pce)).length) v27c] rfl <| kZ ?_
 exact ⟨(v27a,v27c,g25),kF 4 0 [8,9,10,11,12,19,21,22]⟩
 refine ez 5 (.slice (some ⟨g4,0,none⟩) W W) rfl (fun _ _ ww hr => d6 (off := 0) (B := w.heap.size) (g := gd) (T := 59) (cs := [.slice (some ⟨g4,0,none⟩) W W]) hr rfl (by kernel_rfl) (by simp) (by kernel_rfl)) ?_
 refine kA [1,8] ⟨?_,?_⟩
 refine kSV 1 (.v (.slice A1 out.length c1)) rfl <| kA [8] <| ez 8 (.slice (if W = i then (some ⟨g4,0,none⟩ : Option Addr) else (some ⟨g4,0,none⟩ : Option Addr).map (·.add (i * 1))) (j - i) (W - i)) rfl (fun _ _ ww hr => act_slV (e := 5) (A := some ⟨g4,0,none⟩) (len := W) (cap := W) (K := 1) (k := .i64) (p' := (i : Int)) (k' := .i64) (q' := (j : Int)) i j hr.1 rfl (by kernel_rfl) (by kernel_rfl) (by kernel_rfl) (by kernel_rfl) (by kernel_rfl) rfl rfl (by omega) (Nat.le_trans (show j ≤ W by omega) (Sl.capLe (aq (hr.2.fact (a8 w.heap.size 5 1 (.slice (some ⟨g4,0,none⟩) W W) ((ao W sl).map bR)) (by simp)).1))) ww) ?_
 refine kA [9] <| ez 9 (.string (a6 (((ao W sl).drop i).take (j - i)))) rfl (fun _ _ ww hr => aF (e := 5) (((ao W sl).drop i).take (j - i)) hr.1 rfl (by kernel_rfl) (by kernel_rfl) (by kernel_rfl) rfl (Sl.partM (aq (hr.2.fact (a8 w.heap.size 5 1 (.slice (some ⟨g4,0,none⟩) W W) ((ao W sl).map bR)) (by simp)).1) i j (by omega) (by omega))) ?_
 refine kX 10 (.agg (dt (⟨((i - n2 : Nat) : Int),a6 (((ao W sl).drop i).take (j - i))⟩ : Pce)).toArray) rfl (fun _ _ ww hA => cw [(0,iI ((i - n2 : Nat) : Int)),(1,.string (a6 (((ao W sl).drop i).take (j - i))))] hA rfl (by kernel_rfl) (by kernel_rfl) ww) ?_
 refine kA [11] <| kSH 11 rfl (ap (ap (ap (aO rfl av)))) (bj (e := 81) (K := 2) (bytes := 24) [.agg (dt (⟨((i - n2 : Nat) : Int),a6 (((ao W sl).drop i).take (j - i))⟩ : Pce)).toArray] (rs := ([⟨((i - n2 : Nat) : Int),a6 (((ao W sl).drop i).take (j - i))⟩] : List Pce).map pC) rfl rfl) ?_
 intro g29
 refine kA [12] <| kSH 12 rfl (ap (ap (ap (aO rfl av)))) (bT (e := 81) (K := 2) (bytes := 24) (i := 1) (q := (out ++ ([⟨((i - n2 : Nat) : Int),a6 (((ao W sl).drop i).take (j - i))⟩] : List Pce)).length) (new := ([⟨((i - n2 : Nat) : Int),a6 (((ao W sl).drop i).take (j - i))⟩] : List Pce).map pC) (rs' := (out ++ ([⟨((i - n2 : Nat) : Int),a6 (((ao W sl).drop i).take (j - i))⟩] : List Pce)).map pC) rfl rfl rfl rfl (by kernel_rfl) (by kernel_rfl) (by kernel_rfl) rfl (by first | (simp; done) | (simp; omega)) (by rw [List.map_append]) (by first | (simp; done) | (simp; omega)) (fun ww hf => (aq (hf (a8 w.heap.size 81 2 (.slice (some ⟨g29,0,none⟩) 1 1) (([⟨((i - n2 : Nat) : Int),a6 (((ao W sl).drop i).take (j - i))⟩] : List Pce).map pC)) (by simp)))) (by intro r hr; obtain ⟨x,hx,rfl⟩ := List.mem_map.1 hr; exact ⟨rfl,by simp [pC,Value.oneCell']⟩) (by (try simp only [List.length_map,List.length_append,List.length_cons,List.length_nil,List.length_take,List.length_drop,maxLen]); omega) (by (try simp only [List.length_map,List.length_append,List.length_cons,List.length_nil,List.length_take,List.length_drop,maxLen]); omega)) ?_
 rintro ⟨v31a,v31c⟩
 refine d4 [13] [195,194,8,9,10,11,12,19,21,22] 1 [(195,.p 3 2),(194,.v (.slice v31a ((out ++ ([⟨((i - n2 : Nat) : Int),a6 (((ao W sl).drop i).take (j - i))⟩] : List Pce)).length) v31c)),(8,.p 1 0),(9,.p 2 0),(10,aI (W : Int)),(11,aP gd),(12,aP gh),(19,.p 3 0),(21,aI (n2 : Int)),(22,aI (j : Int))] <| kA [14] <| kSS 14 3 2 [.slice v31a ((out ++ ([⟨((i - n2 : Nat) : Int),a6 (((ao W sl).drop i).take (j - i))⟩] : List Pce)).length) v31c] rfl <| kZ ?_
 exact ⟨(v31a,v31c,g29),kF 4 0 [8,9,10,11,12,19,21,22]⟩
 refine ez 8 (.slice (if W = i then (some ⟨g4,0,none⟩ : Option Addr) else (some ⟨g4,0,none⟩ : Option Addr).map (·.add (i * 1))) (j - i) (W - i)) rfl (fun _ _ ww hr => act_slV (e := 5) (A := some ⟨g4,0,none⟩) (len := W) (cap := W) (K := 1) (k := .i64) (p' := (i : Int)) (k' := .i64) (q' := (j : Int)) i j hr.1 rfl (by kernel_rfl) (by kernel_rfl) (by kernel_rfl) (by kernel_rfl) (by kernel_rfl) rfl rfl (by omega) (Nat.le_trans (show j ≤ W by omega) (Sl.capLe (aq (hr.2.fact (a8 w.heap.size 5 1 (.slice (some ⟨g4,0,none⟩) W W) ((ao W sl).map bR)) (by simp)).1))) ww) ?_
 refine kA [1,9] ⟨?_,?_⟩
 refine kSV 1 (.v (.slice A1 out.length c1)) rfl <| kA [9] <| ez 9 (.string (a6 (((ao W sl).drop i).take (j - i)))) rfl (fun _ _ ww hr => aF (e := 5) (((ao W sl).drop i).take (j - i)) hr.1 rfl (by kernel_rfl) (by kernel_rfl) (by kernel_rfl) rfl (Sl.partM (aq (hr.2.fact (a8 w.heap.size 5 1 (.slice (some ⟨g4,0,none⟩) W W) ((ao W sl).map bR)) (by simp)).1) i j (by omega) (by omega))) ?_
 refine kX 10 (.agg (dt (⟨((i - n2 : Nat) : Int),a6 (((ao W sl).drop i).take (j - i))⟩ : Pce)).toArray) rfl (fun _ _ ww hA => cw [(0,iI ((i - n2 : Nat) : Int)),(1,.string (a6 (((ao W sl).drop i).take (j - i))))] hA rfl (by kernel_rfl) (by kernel_rfl) ww) ?_
 refine kA [11] <| kSH 11 rfl (ap (ap (ap (aO rfl av)))) (bj (e := 81) (K := 2) (bytes := 24) [.agg (dt (⟨((i - n2 : Nat) : Int),a6 (((ao W sl).drop i).take (j - i))⟩ : Pce)).toArray] (rs := ([⟨((i - n2 : Nat) : Int),a6 (((ao W sl).drop i).take (j - i))⟩] : List Pce).map pC) rfl rfl) ?_
 intro g33
 refine kA [12] <| kSH 12 rfl (ap (ap (ap (aO rfl av)))) (bT (e := 81) (K := 2) (bytes := 24) (i := 1) (q := (out ++ ([⟨((i - n2 : Nat) : Int),a6 (((ao W sl).drop i).take (j - i))⟩] : List Pce)).length) (new := ([⟨((i - n2 : Nat) : Int),a6 (((ao W sl).drop i).take (j - i))⟩] : List Pce).map pC) (rs' := (out ++ ([⟨((i - n2 : Nat) : Int),a6 (((ao W sl).drop i).take (j - i))⟩] : List Pce)).map pC) rfl rfl rfl rfl (by kernel_rfl) (by kernel_rfl) (by kernel_rfl) rfl (by first | (simp; done) | (simp; omega)) (by rw [List.map_append]) (by first | (simp; done) | (simp; omega)) (fun ww hf => (aq (hf (a8 w.heap.size 81 2 (.slice (some ⟨g33,0,none⟩) 1 1) (([⟨((i - n2 : Nat) : Int),a6 (((ao W sl).drop i).take (j - i))⟩] : List Pce).map pC)) (by simp)))) (by intro r hr; obtain ⟨x,hx,rfl⟩ := List.mem_map.1 hr; exact ⟨rfl,by simp [pC,Value.oneCell']⟩) (by (try simp only [List.length_map,List.length_append,List.length_cons,List.length_nil,List.length_take,List.length_drop,maxLen]); omega) (by (try simp only [List.length_map,List.length_append,List.length_cons,List.length_nil,List.length_take,List.length_drop,maxLen]); omega)) ?_
 rintro ⟨v35a,v35c⟩
 refine d4 [13] [195,194,8,9,10,11,12,19,21,22] 1 [(195,.p 3 2),(194,.v (.slice v35a ((out ++ ([⟨((i - n2 : Nat) : Int),a6 (((ao W sl).drop i).take (j - i))⟩] : List Pce)).length) v35c)),(8,.p 1 0),(9,.p 2 0),(10,aI (W : Int)),(11,aP gd),(12,aP gh),(19,.p 3 0),(21,aI (n2 : Int)),(22,aI (j : Int))] <| kA [14] <| kSS 14 3 2 [.slice v35a ((out ++ ([⟨((i - n2 : Nat) : Int),a6 (((ao W sl).drop i).take (j - i))⟩] : List Pce)).length) v35c] rfl <| kZ ?_
 exact ⟨(v35a,v35c,g33),kF 4 0 [8,9,10,11,12,19,21,22]⟩
 refine ez 9 (.string (a6 (((ao W sl).drop i).take (j - i)))) rfl (fun _ _ ww hr => aF (e := 5) (((ao W sl).drop i).take (j - i)) hr.1 rfl (by kernel_rfl) (by kernel_rfl) (by kernel_rfl) rfl (Sl.partM (aq (hr.2.fact (a8 w.heap.size 5 1 (.slice (some ⟨g4,0,none⟩) W W) ((ao W sl).map bR)) (by simp)).1) i j (by omega) (by omega))) ?_
 refine kX 10 (.agg (dt (⟨((i - n2 : Nat) : Int),a6 (((ao W sl).drop i).take (j - i))⟩ : Pce)).toArray) rfl (fun _ _ ww hA => cw [(0,iI ((i - n2 : Nat) : Int)),(1,.string (a6 (((ao W sl).drop i).take (j - i))))] hA rfl (by kernel_rfl) (by kernel_rfl) ww) ?_
 refine kA [1,11] ⟨?_,?_⟩
 refine kSV 1 (.v (.slice A1 out.length c1)) rfl <| kA [11] <| kSH 11 rfl (ap (ap (ap (aO rfl av)))) (bj (e := 81) (K := 2) (bytes := 24) [.agg (dt (⟨((i - n2 : Nat) : Int),a6 (((ao W sl).drop i).take (j - i))⟩ : Pce)).toArray] (rs := ([⟨((i - n2 : Nat) : Int),a6 (((ao W sl).drop i).take (j - i))⟩] : List Pce).map pC) rfl rfl) ?_
 intro g38
 refine kA [12] <| kSH 12 rfl (ap (ap (ap (aO rfl av)))) (bT (e := 81) (K := 2) (bytes := 24) (i := 1) (q := (out ++ ([⟨((i - n2 : Nat) : Int),a6 (((ao W sl).drop i).take (j - i))⟩] : List Pce)).length) (new := ([⟨((i - n2 : Nat) : Int),a6 (((ao W sl).drop i).take (j - i))⟩] : List Pce).map pC) (rs' := (out ++ ([⟨((i - n2 : Nat) : Int),a6 (((ao W sl).drop i).take (j - i))⟩] : List Pce)).map pC) rfl rfl rfl rfl (by kernel_rfl) (by kernel_rfl) (by kernel_rfl) rfl (by first | (simp; done) | (simp; omega)) (by rw [List.map_append]) (by first | (simp; done) | (simp; omega)) (fun ww hf => (aq (hf (a8 w.heap.size 81 2 (.slice (some ⟨g38,0,none⟩) 1 1) (([⟨((i - n2 : Nat) : Int),a6 (((ao W sl).drop i).take (j - i))⟩] : List Pce).map pC)) (by simp)))) (by intro r hr; obtain ⟨x,hx,rfl⟩ := List.mem_map.1 hr; exact ⟨rfl,by simp [pC,Value.oneCell']⟩) (by (try simp only [List.length_map,List.length_append,List.length_cons,List.length_nil,List.length_take,List.length_drop,maxLen]); omega) (by (try simp only [List.length_map,List.length_append,List.length_cons,List.length_nil,List.length_take,List.length_drop,maxLen]); omega)) ?_
 rintro ⟨v40a,v40c⟩
 refine d4 [13] [195,194,8,9,10,11,12,19,21,22] 1 [(195,.p 3 2),(194,.v (.slice v40a ((out ++ ([⟨((i - n2 : Nat) : Int),a6 (((ao W sl).drop i).take (j - i))⟩] : List Pce)).length) v40c)),(8,.p 1 0),(9,.p 2 0),(10,aI (W : Int)),(11,aP gd),(12,aP gh),(19,.p 3 0),(21,aI (n2 : Int)),(22,aI (j : Int))] <| kA [14] <| kSS 14 3 2 [.slice v40a ((out ++ ([⟨((i - n2 : Nat) : Int),a6 (((ao W sl).drop i).take (j - i))⟩] : List Pce)).length) v40c] rfl <| kZ ?_
 exact ⟨(v40a,v40c,g38),kF 4 0 [8,9,10,11,12,19,21,22]⟩
 refine kSH 11 rfl (ap (ap (ap (aO rfl av)))) (bj (e := 81) (K := 2) (bytes := 24) [.agg (dt (⟨((i - n2 : Nat) : Int),a6 (((ao W sl).drop i).take (j - i))⟩ : Pce)).toArray] (rs := ([⟨((i - n2 : Nat) : Int),a6 (((ao W sl).drop i).take (j - i))⟩] : List Pce).map pC) rfl rfl) ?_
 intro g41
 refine kA [1] <| kSV 1 (.v (.slice A1 out.length c1)) rfl <| kA [12] <| kSH 12 rfl (ap (ap (ap (aO rfl av)))) (bT (e := 81) (K := 2) (bytes := 24) (i := 1) (q := (out ++ ([⟨((i - n2 : Nat) : Int),a6 (((ao W sl).drop i).take (j - i))⟩] : List Pce)).length) (new := ([⟨((i - n2 : Nat) : Int),a6 (((ao W sl).drop i).take (j - i))⟩] : List Pce).map pC) (rs' := (out ++ ([⟨((i - n2 : Nat) : Int),a6 (((ao W sl).drop i).take (j - i))⟩] : List Pce)).map pC) rfl rfl rfl rfl (by kernel_rfl) (by kernel_rfl) (by kernel_rfl) rfl (by first | (simp; done) | (simp; omega)) (by rw [List.map_append]) (by first | (simp; done) | (simp; omega)) (fun ww hf => (aq (hf (a8 w.heap.size 81 2 (.slice (some ⟨g41,0,none⟩) 1 1) (([⟨((i - n2 : Nat) : Int),a6 (((ao W sl).drop i).take (j - i))⟩] : List Pce).map pC)) (by simp)))) (by intro r hr; obtain ⟨x,hx,rfl⟩ := List.mem_map.1 hr; exact ⟨rfl,by simp [pC,Value.oneCell']⟩) (by (try simp only [List.length_map,List.length_append,List.length_cons,List.length_nil,List.length_take,List.length_drop,maxLen]); omega) (by (try simp only [List.length_map,List.length_append,List.length_cons,List.length_nil,List.length_take,List.length_drop,maxLen]); omega)) ?_
 rintro ⟨v43a,v43c⟩
 refine d4 [13] [195,194,8,9,10,11,12,19,21,22] 1 [(195,.p 3 2),(194,.v (.slice v43a ((out ++ ([⟨((i - n2 : Nat) : Int),a6 (((ao W sl).drop i).take (j - i))⟩] : List Pce)).length) v43c)),(8,.p 1 0),(9,.p 2 0),(10,aI (W : Int)),(11,aP gd),(12,aP gh),(19,.p 3 0),(21,aI (n2 : Int)),(22,aI (j : Int))] <| kA [14] <| kSS 14 3 2 [.slice v43a ((out ++ ([⟨((i - n2 : Nat) : Int),a6 (((ao W sl).drop i).take (j - i))⟩] : List Pce)).length) v43c] rfl <| kZ ?_
 exact ⟨(v43a,v43c,g41),kF 4 0 [8,9,10,11,12,19,21,22]⟩
 rintro ⟨v27a,v27c,g25⟩
 exact ⟨⟨(j,(out ++ ([⟨((i - n2 : Nat) : Int),a6 (((ao W sl).drop i).take (j - i))⟩] : List Pce)),v27a,v27c),⟨(by (try dsimp only); omega),(by rw [dt_part (by omega) hrun,HP]; exact pcs_piece (by omega) hij.1 (by omega) hrun (htc y2 hy2 (by omega))),(bd_more hbd (by omega) (by rw [bS,List.length_take,List.length_drop,dtOf_len (by omega)]; omega)),(fun x hx h0 => by have := hstop x hx; omega),(by (try dsimp only); (try simp only [List.length_append,List.length_cons,List.length_nil]); omega)⟩⟩,dG [0,2,3,4,5,6,7] <| kF 4 0 [8,9,10,11,12,19,21,22],by show (fun (i : Nat) (out : List Pce) (A1 : Option Addr) (c1 : Nat) => W - i) j (out ++ ([⟨((i - n2 : Nat) : Int),a6 (((ao W sl).drop i).take (j - i))⟩] : List Pce)) v27a v27c < W - i; (dsimp only; omega)⟩
 have h20p := of_decide_eq_false h20
 have hge5 : i = W := by simp at h20; omega
 have hpc : ca [] 0 (sl.drop n2) = out := by rw [HP,hge5]; exact pcs_neg out _ _ (beyond_neg hbe hl)
 refine aQ <| kS <| kQ <| ai [8,9,19,199] [(199,aB (decide (((out.length : Nat) : Int) > 3)))] ?_
 refine kC (decide (((out.length : Nat) : Int) > 3)) (fun h44 => ?_) (fun h44 => ?_)
 have h44p := of_decide_eq_true h44
 refine kQ <| kEU [8] [(8,.p 1 0)] 1 ⟨28,a7 r (.slice v1a r.held.length v1c)⟩ <| kR ?_
 have hmod : a5 r seq text fin = r := by first | exact bo hrk (by assumption) (by rw [← hall,← hnf,hpc]; omega) | (unfold a5; rw [if_neg (by grind)]; done) | (unfold a5; rw [if_pos (by grind),← hall,← hnf,hpc,← hfp]; first | (rw [if_pos (by omega)]; done) | (rw [if_neg (by omega),if_pos (by first | omega | simp_all)]; done) | (rw [if_neg (by omega),if_neg (by first | omega | simp_all)]; done))
 exact ⟨[.agg (a7 r (.slice v1a r.held.length v1c)).toArray],by kernel_rfl,fun w' hb hf ha => by rw [hmod]; exact xo1 ((v1a,v1c)) rfl rfl (pO (hf _ m5) hB) hb⟩
 have h44p := of_decide_eq_false h44
 refine kK <| kS <| kQ <| ai [8,19,203] [(203,aB (fp == 0))] ?_
 refine kC (fp == 0) (fun h45 => ?_) (fun h45 => ?_)
 have h45p := eqT h45
 refine kQ <| kEU [8,19] [] 3 ⟨28,[iI (sA r.next (n2 : Int)),.string (r.data ++ (a6 (sl.take n2))),.slice A1 out.length c1,iI fp,.bool true]⟩ <| kQ <| kEU [8,19] [] 3 ⟨28,[iI (sA r.next (n2 : Int)),.string (r.data ++ (a6 (sl.take n2))),.slice A1 out.length c1,iI (-1),.bool true]⟩ ?_
 refine kG <| kCD 2 [8,19,207] [(207,aI (sA r.next (n2 : Int)))] 26 [iI (sA r.next (n2 : Int)),iI 1] (some 208) rfl (cI fun ww hf => cu (sA r.next (n2 : Int)) 1 ww ) ?_
 intro _
 refine dn [8,19] ⟨[(8,.p 1 0),(19,.p 3 0)],[⟨28,a7 r (.slice Arh r.held.length Crh)⟩,⟨28,aC⟩,⟨28,a7 r (.slice v1a r.held.length v1c)⟩,⟨28,[iI (sA (sA r.next (n2 : Int)) 1),.string (r.data ++ (a6 (sl.take n2))),.slice A1 out.length c1,iI (-1),.bool true]⟩],[],[a8 w.heap.size 81 2 (.slice A1 out.length c1) (out.map pC),aY w.heap.size gh 78 [.slice (some ⟨g5,0,none⟩) W W],aY w.heap.size gd 59 [.slice (some ⟨g4,0,none⟩) W W],a8 w.heap.size 4 1 (.slice (some ⟨g5,0,none⟩) W W) ((cv W sl).map ab),a8 w.heap.size 5 1 (.slice (some ⟨g4,0,none⟩) W W) ((ao W sl).map bR),br w.heap.size (.slice v1a r.held.length v1c) 2 (r.held.map pC),aM (.slice Arh r.held.length Crh) 2 (r.held.map pC)]⟩ <| kQ <| kEU [8] [(8,.p 1 0)] 1 ⟨28,[iI (sA (sA r.next (n2 : Int)) 1),.string (r.data ++ (a6 (sl.take n2))),.slice A1 out.length c1,iI (-1),.bool true]⟩ <| kR ?_
 have hmod : a5 r seq text fin = (⟨sA (sA r.next (n2 : Int)) 1,r.data ++ (a6 (sl.take n2)),out,(-1),true⟩) := by first | exact bo hrk (by assumption) (by rw [← hall,← hnf,hpc]; omega) | (unfold a5; rw [if_neg (by grind)]; done) | (unfold a5; rw [if_pos (by grind),← hall,← hnf,hpc,← hfp]; first | (rw [if_pos (by omega)]; done) | (rw [if_neg (by omega),if_pos (by first | omega | simp_all)]; done) | (rw [if_neg (by omega),if_neg (by first | omega | simp_all)]; done))
 exact ⟨[.agg #[iI (sA (sA r.next (n2 : Int)) 1),.string (r.data ++ (a6 (sl.take n2))),.slice A1 out.length c1,iI (-1),.bool true]],by kernel_rfl,fun w' hb hf ha => by rw [hmod]; exact xo1 ((A1,c1)) rfl rfl (pR (hf _ m0) hB) hb⟩
 have h45p := eqF h45
 refine kK <| kQ <| kEU [8] [(8,.p 1 0)] 1 ⟨28,[iI (sA r.next (n2 : Int)),.string (r.data ++ (a6 (sl.take n2))),.slice A1 out.length c1,iI fp,.bool r.done]⟩ <| kR ?_
 have hmod : a5 r seq text fin = (⟨sA r.next (n2 : Int),r.data ++ (a6 (sl.take n2)),out,fp,r.done⟩) := by first | exact bo hrk (by assumption) (by rw [← hall,← hnf,hpc]; omega) | (unfold a5; rw [if_neg (by grind)]; done) | (unfold a5; rw [if_pos (by grind),← hall,← hnf,hpc,← hfp]; first | (rw [if_pos (by omega)]; done) | (rw [if_neg (by omega),if_pos (by first | omega | simp_all)]; done) | (rw [if_neg (by omega),if_neg (by first | omega | simp_all)]; done))
 exact ⟨[.agg #[iI (sA r.next (n2 : Int)),.string (r.data ++ (a6 (sl.take n2))),.slice A1 out.length c1,iI fp,.bool r.done]],by kernel_rfl,fun w' hb hf ha => by rw [hmod]; exact xo1 ((A1,c1)) rfl rfl (pR (hf _ m0) hB) hb⟩
end Go.Proofs.Ytebgmdiejgcoiaa
