/- Contracts that this law needs, part 4. -/
import Derived.Test.YtebgmdiejgcoiaaGreatZ3
namespace Go.Proofs.YtebgmdiejgcoiaaGreat
open Go.RowKit
set_option linter.unusedVariables false
set_option linter.unusedSimpArgs false
set_option maxRecDepth 100000
set_option maxHeartbeats 2000000

theorem l9Bent_c (g : Nat) (J : List Int) (A : Option Addr) (cap : Nat)  (w : World) (B : Nat) (hB : B ≤ w.heap.size) (hc : (cF B g A J cap).p w) (hl : Sl w (sJ A J cap) 1 (J.map bR)) (hap : ¬ (sQ A J cap).blk g) (hn : J.length ≤ 1048576)  : Calls Tryz.prog 111 #[gP g] w fun e w' => ∃ y : {y : Seg // y.body.size ≤ 4096}, e = .returned (.agg (aG y.1).toArray) ∧ (cF B g A J cap).p w' ∧ Chgd (fun b => b = g) w w' := by
 have hq_code := Sl.capLe hl
 have hBw : B ≤ (aQ w B).heap.size := Nat.le_of_eq (bn hB).symm
 have hlo : ∀ (ww : World) (b : Nat),(cF B g A J cap).p ww → (cF B g A J cap).blk b → (aQ w B).heap.size ≤ b := fun ww b h hb => Nat.le_trans (ce w B) (cC h hb)
 refine cO (args := [gP g]) (fn := Tryz.f111) [cF B g A J cap,sQ A J cap,c9 w (fun b => b = g)] B Tryz.func111 rfl Tryz.ntmps111 rfl hB (by simp only [List.mem_cons,List.not_mem_nil,or_false,forall_eq_or_imp,forall_eq]; exact ⟨hc,hl,bJ w _⟩) (cu hap rfl) ?_
 refine kQ <| c8 [0,2] ⟨[(0,aP g),(2,.p 0 0)],[⟨50,er⟩],[],[cF B g A J cap,sQ A J cap,c9 w (fun b => b = g)]⟩ <| kQ <| dp 1 [0,2,4] [(4,aP g)] 142 [gP g] (some 5) 0 rfl rfl hlo (l9Segment_c_K hBw hap) ?_
 rintro ⟨y1,hy1⟩
 refine i5 [0,2,3] [(3,.p 1 0)] [⟨50,aG y1⟩] <| kS <| kQ <| dp 1 [0,2,3,6] [(6,aP g)] 133 [gP g,iI 12] (some 7) 0 rfl rfl hlo (ag hBw hap) ?_
 rintro ⟨y2,hy2⟩
 obtain ⟨hy20,hy21⟩ := hy2
 refine aR [0,2,3,7] [] <| aZ <| kQ <| aR [0,2,3,7,8] [(8,aB (y2 == 0))] ?_
 refine kC (y2 == 0) (fun h3 => ?_) (fun h3 => ?_)
 have h3p := bC h3
 refine kG <| dp 1 [2,3,10] [(10,aP g)] 143 [gP g] (some 11) 0 rfl rfl hlo (dK hBw hap) ?_
 rintro ⟨y4,hy4⟩
 refine bf [2,3] [] 1 ⟨50,aG { y1 with src := y4 }⟩ <| kQ <| bf [2] [(2,.p 0 0)] 0 ⟨50,aG { y1 with src := y4 }⟩ <| kR ?_
 exact ⟨[.agg (aG { y1 with src := y4 }).toArray],by kernel_rfl,fun w' hb hf => ⟨⟨{ y1 with src := y4 },(by first | assumption | (dsimp only; assumption) | (show (am _).size ≤ 4096; rw [bL]; (try simp only [List.length_replicate]); omega))⟩,rfl,hf (cF B g A J cap) (by simp),aY (hf (c9 w (fun b => b = g)) (by simp)) hb rfl rfl rfl⟩⟩
 have h3p := bA h3
 refine kQ <| aR [0,2,3,7,13] [(13,aB (y2 == 1))] <| kC (y2 == 1) (fun h5 => ?_) (fun h5 => ?_)
 have h5p := bC h5
 refine kG <| dp 1 [2,3,15] [(15,aP g)] 143 [gP g] (some 16) 0 rfl rfl hlo (dK hBw hap) ?_
 rintro ⟨y6,hy6⟩
 refine bf [2,3] [] 1 ⟨50,aG { y1 with seq := y6 }⟩ <| kQ <| bf [2] [(2,.p 0 0)] 0 ⟨50,aG { y1 with seq := y6 }⟩ <| kR ?_
 exact ⟨[.agg (aG { y1 with seq := y6 }).toArray],by kernel_rfl,fun w' hb hf => ⟨⟨{ y1 with seq := y6 },(by first | assumption | (dsimp only; assumption) | (show (am _).size ≤ 4096; rw [bL]; (try simp only [List.length_replicate]); omega))⟩,rfl,hf (cF B g A J cap) (by simp),aY (hf (c9 w (fun b => b = g)) (by simp)) hb rfl rfl rfl⟩⟩
 have h5p := bA h5
 refine kQ <| aR [0,2,3,7,18] [(18,aB (y2 == 2))] <| kC (y2 == 2) (fun h7 => ?_) (fun h7 => ?_)
 have h7p := bC h7
 refine kG <| kHD 1 [2,3,20] [(20,aP g)] rfl (bi (e := 3) (K := 1) (bytes := 8) [iI 63,iI 64,iI (-1)] (rs := ([63,64,(-1)] : List Int).map aq) rfl rfl) ?_
 intro g8
 refine dd (φ := ¬ (c7 (.slice (some ⟨g8,0,none⟩) 3 3) 1 (([63,64,(-1)] : List Int).map aq)).blk g) (fun _ _ _ _ hr => fun hb => hr.2.apart 0 1 (ap (aQ w B).heap.size 3 1 (.slice (some ⟨g8,0,none⟩) 3 3) (([63,64,(-1)] : List Int).map aq)) (cF B g A J cap) rfl rfl (by decide) rfl g (bK hb) rfl) (fun hk9 => ?_)
 refine dp 0 [2,3,20,21] [] 136 [gP g,.slice (some ⟨g8,0,none⟩) 3 3] (some 22) 1 rfl rfl hlo (bp hBw hap (fun ww hw hf => (aS (hf _ m0))) hk9 (by simp)) ?_
 rintro ⟨y10,hy10⟩
 refine bf [2,3] [] 1 ⟨50,aG { y1 with flags := y10 }⟩ <| kQ <| c8 [2] ⟨[(2,.p 0 0)],[⟨50,aG { y1 with flags := y10 }⟩,⟨50,aG { y1 with flags := y10 }⟩],[],[cF B g A J cap,ap (aQ w B).heap.size 3 1 (.slice (some ⟨g8,0,none⟩) 3 3) (([63,64,(-1)] : List Int).map aq),sQ A J cap,c9 w (fun b => b = g)]⟩ <| kR ?_
 exact ⟨[.agg (aG { y1 with flags := y10 }).toArray],by kernel_rfl,fun w' hb hf => ⟨⟨{ y1 with flags := y10 },(by first | assumption | (dsimp only; assumption) | (show (am _).size ≤ 4096; rw [bL]; (try simp only [List.length_replicate]); omega))⟩,rfl,hf (cF B g A J cap) (by simp),aY (hf (c9 w (fun b => b = g)) (by simp)) hb rfl rfl rfl⟩⟩
 have h7p := bA h7
 refine kQ <| aR [0,2,3,7,24] [(24,aB (y2 == 3))] <| kC (y2 == 3) (fun h11 => ?_) (fun h11 => ?_)
 have h11p := bC h11
 refine kG <| dp 1 [2,3,26] [(26,aP g)] 143 [gP g] (some 27) 0 rfl rfl hlo (dK hBw hap) ?_
 rintro ⟨y12,hy12⟩
 refine bf [2,3] [] 1 ⟨50,aG { y1 with window := y12 }⟩ <| kQ <| c8 [2] ⟨[(2,.p 0 0)],[⟨50,aG { y1 with window := y12 }⟩,⟨50,aG { y1 with window := y12 }⟩],[],[cF B g A J cap,sQ A J cap,c9 w (fun b => b = g)]⟩ <| kR ?_
 exact ⟨[.agg (aG { y1 with window := y12 }).toArray],by kernel_rfl,fun w' hb hf => ⟨⟨{ y1 with window := y12 },(by first | assumption | (dsimp only; assumption) | (show (am _).size ≤ 4096; rw [bL]; (try simp only [List.length_replicate]); omega))⟩,rfl,hf (cF B g A J cap) (by simp),aY (hf (c9 w (fun b => b = g)) (by simp)) hb rfl rfl rfl⟩⟩
 have h11p := bA h11
 refine kQ <| aR [0,2,3,7,29] [(29,aB (y2 == 4))] <| kC (y2 == 4) (fun h13 => ?_) (fun h13 => ?_)
 have h13p := bC h13
 refine kG <| dp 1 [2,3,31] [(31,aP g)] 137 [gP g] (some 32) 0 rfl rfl hlo (l8Bent_c_K hBw hap) ?_
 rintro ⟨y14,hy14⟩
 refine c8 [2,3] ⟨[(2,.p 0 0),(3,.p 1 0)],[⟨50,er⟩,⟨50,aG { y1 with o := y14 }⟩],[],[cF B g A J cap,sQ A J cap,c9 w (fun b => b = g)]⟩ <| kQ <| bf [2] [(2,.p 0 0)] 0 ⟨50,aG { y1 with o := y14 }⟩ <| kR ?_
 exact ⟨[.agg (aG { y1 with o := y14 }).toArray],by kernel_rfl,fun w' hb hf => ⟨⟨{ y1 with o := y14 },(by first | assumption | (dsimp only; assumption) | (show (am _).size ≤ 4096; rw [bL]; (try simp only [List.length_replicate]); omega))⟩,rfl,hf (cF B g A J cap) (by simp),aY (hf (c9 w (fun b => b = g)) (by simp)) hb rfl rfl rfl⟩⟩
 have h13p := bA h13
 refine kQ <| aR [0,2,3,34] [(34,aB (y2 == 5))] <| kC (y2 == 5) (fun h15 => ?_) (fun h15 => ?_)
 have h15p := bC h15
 refine kG <| kWS 1 [2,3,36] [(2,.p 0 0),(3,.p 1 0),(36,aP g)] 133 [gP g,iI 3] (some 37) 0 rfl rfl hlo (ag hBw hap) ?_
 rintro ⟨y16,hy16⟩
 obtain ⟨hy160,hy161⟩ := hy16
 refine dy 1 [2,3,38] [(38,aI (K6.wrap (1419 + y16)))] 144 [iI (K6.wrap (1419 + y16))] (some 39) rfl (aA fun ww hf => l5Long_c (K6.wrap (1419 + y16)) ww (by first | omega | (rw [ab (by omega) (by omega)]; omega))) ?_
 intro _
 refine kRB 2 [2,3] [(2,.p 0 0),(3,.p 1 0)] [⟨50,er⟩,⟨50,aG { y1 with body := am (List.replicate ((K6.wrap (1419 + y16))).toNat 0) }⟩] <| gW (st' := ⟨[(2,.p 0 0),(3,.p 1 0)],[⟨50,er⟩,⟨50,aG { y1 with body := am (List.replicate ((1419 + y16)).toNat 0) }⟩],[],[cF B g A J cap,sQ A J cap,c9 w (fun b => b = g)]⟩) (by rw [show (K6.wrap (1419 + y16)) = (1419 + y16) from ab (by omega) (by omega)] <;> rfl) ?_
 refine aR [2,3] [] <| kQ <| bf [2] [(2,.p 0 0)] 0 ⟨50,aG { y1 with body := am (List.replicate ((1419 + y16)).toNat 0) }⟩ <| kR ?_
 exact ⟨[.agg (aG { y1 with body := am (List.replicate ((1419 + y16)).toNat 0) }).toArray],by kernel_rfl,fun w' hb hf => ⟨⟨{ y1 with body := am (List.replicate ((1419 + y16)).toNat 0) },(by first | assumption | (dsimp only; assumption) | (show (am _).size ≤ 4096; rw [bL]; (try simp only [List.length_replicate]); omega))⟩,rfl,hf (cF B g A J cap) (by simp),aY (hf (c9 w (fun b => b = g)) (by simp)) hb rfl rfl rfl⟩⟩
 have h15p := bA h15
 refine kK <| kQ <| c8 [2] ⟨[(2,.p 0 0)],[⟨50,aG y1⟩,⟨50,aG y1⟩],[],[cF B g A J cap,sQ A J cap,c9 w (fun b => b = g)]⟩ <| kR ?_
 exact ⟨[.agg (aG y1).toArray],by kernel_rfl,fun w' hb hf => ⟨⟨y1,(by first | assumption | (dsimp only; assumption) | (show (am _).size ≤ 4096; rw [bL]; (try simp only [List.length_replicate]); omega))⟩,rfl,hf (cF B g A J cap) (by simp),aY (hf (c9 w (fun b => b = g)) (by simp)) hb rfl rfl rfl⟩⟩
theorem l9Bent_c_K {g : Nat} {J : List Int} {A : Option Addr} {cap : Nat}  {w0 : World} {fs : List Fact} {B : Nat} (hB : B ≤ w0.heap.size) (hap : ¬ (sQ A J cap).blk g)  (hn : J.length ≤ 1048576 := by omega) (h1 : cF B g A J cap ∈ fs := by simp) (h2 : sQ A J cap ∈ fs := by simp) : XCM Tryz.prog w0 fs (cF B g A J cap).blk 111 [gP g] (α := {y : Seg // y.body.size ≤ 4096}) (fun y => .agg (aG y.1).toArray) (fun _ => [cF B g A J cap]) := dq fun w hw hf => l9Bent_c g J A cap  w B (Nat.le_trans hB hw) (hf _ h1) (hf _ h2) hap hn  
theorem l1Pick_c (g : Nat) (J : List Int) (A : Option Addr) (cap : Nat) (list : List ByteArray) (listV : Value) (w : World) (B : Nat) (hB : B ≤ w.heap.size) (hc : (cF B g A J cap).p w) (hl : Sl w (sJ A J cap) 1 (J.map bR)) (hap : ¬ (sQ A J cap).blk g) (hn : J.length ≤ 1048576) (hl_listV : Sl w listV 1 (list.map cB)) (hap2 : ¬ (c7 listV 1 (list.map cB)).blk g) (hne : 0 < list.length) : Calls Tryz.prog 158 #[gP g, listV] w fun e w' => ∃ y : {y : ByteArray // y ∈ list}, e = .returned (.string y.1) ∧ (cF B g A J cap).p w' ∧ Chgd (fun b => b = g) w w' := by
 have hq_code := Sl.capLe hl
 have hBw : B ≤ (aQ w B).heap.size := Nat.le_of_eq (bn hB).symm
 have hlo : ∀ (ww : World) (b : Nat),(cF B g A J cap).p ww → (cF B g A J cap).blk b → (aQ w B).heap.size ≤ b := fun ww b h hb => Nat.le_trans (ce w B) (cC h hb)
 obtain ⟨Al,Cl,hvl⟩ := hl_listV.form
 rw [List.length_map] at hvl; subst hvl
 have hnl := hl_listV.len; rw [List.length_map] at hnl
 have hql := Sl.capLe hl_listV
 refine cO (args := [gP g,.slice Al list.length Cl]) (fn := Tryz.f158) [cF B g A J cap,sQ A J cap,c9 w (fun b => b = g),c7 (.slice Al list.length Cl) 1 (list.map cB)] B Tryz.func158 rfl Tryz.ntmps158 rfl hB (by simp only [List.mem_cons,List.not_mem_nil,or_false,forall_eq_or_imp,forall_eq]; exact ⟨hc,hl,bJ w _,hl_listV⟩) (apart_cur2 hap rfl hap2 rfl) ?_
 refine kQ <| c8 [0,1] ⟨[(0,aP g),(1,.v (.slice Al list.length Cl))],[],[],[cF B g A J cap,sQ A J cap,c9 w (fun b => b = g),c7 (.slice Al list.length Cl) 1 (list.map cB)]⟩ <| kQ <| kWS 4 [5,6,8] [(5,.v (.slice Al list.length Cl)),(6,aP g),(8,aI ((list.length : Nat) : Int))] 133 [gP g,iI ((list.length : Nat) : Int)] (some 9) 0 rfl rfl hlo (ag hBw hap) ?_
 rintro ⟨y1,hy1⟩
 obtain ⟨hy10,hy11⟩ := hy1
 obtain ⟨j2,hj2⟩ : ∃ j : Nat,y1 = (j : Int) := ⟨y1.toNat,by omega⟩
 subst hj2
 have hlt : j2 < list.length := by omega
 obtain ⟨z,hz⟩ : ∃ z,list[j2]? = some z := ⟨_,List.getElem?_eq_getElem hlt⟩
 refine eM (kd := .i64) (T := 156) (e := 9) (K := 1) 0 [5,9] [] j2 [.string z] (c7 (.slice Al list.length Cl) 1 (list.map cB)) (by kernel_rfl) rfl (by kernel_rfl) rfl rfl (by kernel_rfl) (by kernel_rfl) (by kernel_rfl) (by kernel_rfl) hlt (by simp) (fun w h => h) (fun b h => h) (by simp only [List.getElem?_map,hz]; rfl) ?_
 refine aJ [4] [(4,.v (.string z))] <| kR ?_
 exact ⟨[.string z],by kernel_rfl,fun w' hb hf => ⟨⟨z,List.mem_of_getElem? hz⟩,rfl,hf (cF B g A J cap) (by simp),aY (hf (c9 w (fun b => b = g)) (by simp)) hb rfl rfl rfl⟩⟩
theorem l1Pick_c_K {g : Nat} {J : List Int} {A : Option Addr} {cap : Nat} {list : List ByteArray} {listV : Value} {w0 : World} {fs : List Fact} {B : Nat} (hB : B ≤ w0.heap.size) (hap : ¬ (sQ A J cap).blk g) (hs0 : ∀ w : World, w0.heap.size ≤ w.heap.size → (∀ f ∈ fs, f.p w) → Sl w listV 1 (list.map cB)) (hq0 : ¬ (c7 listV 1 (list.map cB)).blk g) (hne : 0 < list.length) (hn : J.length ≤ 1048576 := by omega) (h1 : cF B g A J cap ∈ fs := by simp) (h2 : sQ A J cap ∈ fs := by simp) : XCM Tryz.prog w0 fs (cF B g A J cap).blk 158 [gP g, listV] (α := {y : ByteArray // y ∈ list}) (fun y => .string y.1) (fun _ => [cF B g A J cap]) := dq fun w hw hf => l1Pick_c g J A cap list listV w B (Nat.le_trans hB hw) (hf _ h1) (hf _ h2) hap hn (hs0 w hw hf) hq0 hne
theorem l18Stream_c (g : Nat) (J : List Int) (A : Option Addr) (cap : Nat) (r : Rcv) (r_heldV : Value) (w : World) (B : Nat) (hB : B ≤ w.heap.size) (hc : (cF B g A J cap).p w) (hl : Sl w (sJ A J cap) 1 (J.map bR)) (hap : ¬ (sQ A J cap).blk g) (hn : J.length ≤ 1048576)  : Calls Tryz.prog 139 #[gP g, .agg (ah r r_heldV).toArray] w fun e w' => ∃ y : {y : Int × ByteArray × Bool // y.2.1.size ≤ 4096}, e = .returned (.tuple #[iI y.1.1, .string y.1.2.1, .bool y.1.2.2]) ∧ (cF B g A J cap).p w' ∧ Chgd (fun b => b = g) w w' := by
 have hq_code := Sl.capLe hl
 have hBw : B ≤ (aQ w B).heap.size := Nat.le_of_eq (bn hB).symm
 have hlo : ∀ (ww : World) (b : Nat),(cF B g A J cap).p ww → (cF B g A J cap).blk b → (aQ w B).heap.size ≤ b := fun ww b h hb => Nat.le_trans (ce w B) (cC h hb)
 refine cO (args := [gP g,.agg (ah r r_heldV).toArray]) (fn := Tryz.f139) [cF B g A J cap,sQ A J cap,c9 w (fun b => b = g)] B Tryz.func139 rfl Tryz.ntmps139 rfl hB (by simp only [List.mem_cons,List.not_mem_nil,or_false,forall_eq_or_imp,forall_eq]; exact ⟨hc,hl,bJ w _⟩) (cu hap rfl) ?_
 refine kQ <| c8 [0,3] ⟨[(0,aP g),(3,.p 0 0)],[⟨41,ah r r_heldV⟩],[],[cF B g A J cap,sQ A J cap,c9 w (fun b => b = g)]⟩ <| kQ <| dp 1 [0,3,11] [(11,aP g)] 133 [gP g,iI 40] (some 12) 0 rfl rfl hlo (ag hBw hap) ?_
 rintro ⟨y1,hy1⟩
 obtain ⟨hy10,hy11⟩ := hy1
 refine aR [0,3,7] [(7,aI (K6.wrap (y1 - 6)))] <| kQ <| dp 1 [0,3,7,14] [(14,aP g)] 133 [gP g,iI 9] (some 15) 0 rfl rfl hlo (ag hBw hap) ?_
 rintro ⟨y2,hy2⟩
 obtain ⟨hy20,hy21⟩ := hy2
 refine aR [0,3,7,8] [(8,aI y2)] <| kQ <| kHD 0 [0,3,7,8] [] rfl (bi (e := 5) (K := 1) (bytes := 1) [] (rs := ([] : List Int).map bR) rfl rfl) ?_
 intro g3
 refine aR [0,3,7,8,9] [(9,.v (.slice (some ⟨g3,0,none⟩) 0 0))] <| kS <| kQ <| aR [0,3,7,8,9,10] [(10,aI 0)] ?_
 refine aZ <| cz (α := {x : Nat × List Int × Option Addr × Nat // (fun (i : Nat) (bs : List Int) (A1 : Option Addr) (c1 : Nat) => (i : Int) ≤ y2 ∧ bs.length = i) x.1 x.2.1 x.2.2.1 x.2.2.2}) (fun x => (fun (i : Nat) (bs : List Int) (A1 : Option Addr) (c1 : Nat) => (⟨[(0,aP g),(3,.p 0 0),(7,aI (K6.wrap (y1 - 6))),(8,aI y2),(9,.v (.slice A1 bs.length c1)),(10,aI (i : Int))],[⟨41,ah r r_heldV⟩],[],[ap (aQ w B).heap.size 5 1 (.slice A1 bs.length c1) (bs.map bR),cF B g A J cap,sQ A J cap,c9 w (fun b => b = g)]⟩ : St)) x.1.1 x.1.2.1 x.1.2.2.1 x.1.2.2.2) (fun x => (fun (i : Nat) (bs : List Int) (A1 : Option Addr) (c1 : Nat) => (y2).toNat - i) x.1.1 x.1.2.1 x.1.2.2.1 x.1.2.2.2) ⟨(0,([] : List Int),(some ⟨g3,0,none⟩),0),⟨(by omega),rfl⟩⟩ (ei [0,1,2,3] <| kF 1 0 [0,3,7,8,9,10]) ?_
 rintro ⟨⟨i,bs,A1,c1⟩,hi,hbl⟩
 try dsimp only
 try dsimp only at hi hbl
 refine kS <| kQ <| aR [0,3,7,8,9,10,19] [(19,aB (decide ((i : Int) < y2)))] <| kC (decide ((i : Int) < y2)) (fun h4 => ?_) (fun h4 => ?_)
 have h4p := of_decide_eq_true h4
 have hlt :  (i : Int) < y2 := of_decide_eq_true h4
 refine kK <| kS <| aZ <| kG <| dy 7 [0,3,7,8,9,10,22,28] [(22,.v (.slice A1 bs.length c1)),(28,aI (K6.wrap ((K6.wrap (r.next + (K6.wrap (y1 - 6)))) + (i : Int))))] 122 [iI (K6.wrap ((K6.wrap (r.next + (K6.wrap (y1 - 6)))) + (i : Int)))] (some 29) rfl (bM fun ww hf => gr (K6.wrap ((K6.wrap (r.next + (K6.wrap (y1 - 6)))) + (i : Int))) ww ) ?_
 intro _
 refine fh 0 [0,3,7,8,9,10,22,29] [] (iI (Int.tmod ((K6.wrap ((K6.wrap (r.next + (K6.wrap (y1 - 6)))) + (i : Int))) % 4294967296) 26)) rfl (fun _ _ _ ww hr => cj hr.1 rfl (by kernel_rfl) (by kernel_rfl) (rem_run (by first | decide | omega) ww)) ?_
 refine kHS 2 [0,3,7,8,9,10,22,32] [(0,aP g),(3,.p 0 0),(7,aI (K6.wrap (y1 - 6))),(8,aI y2),(9,.v (.slice A1 bs.length c1)),(10,aI (i : Int)),(22,.v (.slice A1 bs.length c1)),(32,.v (.int .u8 (IntKind.u8.wrap (K6.wrap (97 + (Int.tmod ((K6.wrap ((K6.wrap (r.next + (K6.wrap (y1 - 6)))) + (i : Int))) % 4294967296) 26))))))] rfl (bi (e := 5) (K := 1) (bytes := 1) [.int .u8 (IntKind.u8.wrap (K6.wrap (97 + (Int.tmod ((K6.wrap ((K6.wrap (r.next + (K6.wrap (y1 - 6)))) + (i : Int))) % 4294967296) 26))))] (rs := ([IntKind.u8.wrap (K6.wrap (97 + (Int.tmod ((K6.wrap ((K6.wrap (r.next + (K6.wrap (y1 - 6)))) + (i : Int))) % 4294967296) 26)))] : List Int).map bR) rfl rfl) ?_
 intro g5
 refine kHD 0 [0,3,7,8,9,10,22,33] [] rfl (dt (e := 5) (K := 1) (bytes := 1) (i := 1) (q := (bs ++ ([IntKind.u8.wrap (K6.wrap (97 + (Int.tmod ((K6.wrap ((K6.wrap (r.next + (K6.wrap (y1 - 6)))) + (i : Int))) % 4294967296) 26)))] : List Int)).length) (new := ([IntKind.u8.wrap (K6.wrap (97 + (Int.tmod ((K6.wrap ((K6.wrap (r.next + (K6.wrap (y1 - 6)))) + (i : Int))) % 4294967296) 26)))] : List Int).map bR) (rs' := (bs ++ ([IntKind.u8.wrap (K6.wrap (97 + (Int.tmod ((K6.wrap ((K6.wrap (r.next + (K6.wrap (y1 - 6)))) + (i : Int))) % 4294967296) 26)))] : List Int)).map bR) rfl rfl rfl rfl (by kernel_rfl) (by kernel_rfl) (by kernel_rfl) rfl (by simp) (by rw [List.map_append]) (by simp) (fun ww hf => (aS (hf (ap (aQ w B).heap.size 5 1 (.slice (some ⟨g5,0,none⟩) 1 1) (([IntKind.u8.wrap (K6.wrap (97 + (Int.tmod ((K6.wrap ((K6.wrap (r.next + (K6.wrap (y1 - 6)))) + (i : Int))) % 4294967296) 26)))] : List Int).map bR)) (by simp)))) (by intro r hr; obtain ⟨x,hx,rfl⟩ := List.mem_map.1 hr; exact ⟨rfl,by simp [bR,Value.oneCell']⟩) (by (try simp only [List.length_map,List.length_append,List.length_cons,List.length_nil,List.length_take,List.length_drop,maxLen]); omega) (by (try simp only [List.length_map,List.length_append,List.length_cons,List.length_nil,List.length_take,List.length_drop,maxLen]); omega)) ?_
 rintro ⟨v6a,v6c⟩
 refine aR [0,3,7,8,9,10] [(9,.v (.slice v6a ((bs ++ ([IntKind.u8.wrap (K6.wrap (97 + (Int.tmod ((K6.wrap ((K6.wrap (r.next + (K6.wrap (y1 - 6)))) + (i : Int))) % 4294967296) 26)))] : List Int)).length) v6c))] <| kG <| cA 3 [0,3,7,8,9,10] [(10,aI (K6.wrap ((i : Int) + 1)))] <| cJ [0,3,7,8,9,10] [(10,aI (K6.wrap ((i : Int) + 1)))] [(10,aI ((i : Int) + 1))] (by rw [show (K6.wrap ((i : Int) + 1)) = ((i : Int) + 1) from ab (by omega) (by omega)]) (by kernel_rfl) ?_
 refine aR [0,3,7,8,9,10] [] ?_
 exact ⟨⟨(i + 1,(bs ++ ([IntKind.u8.wrap (K6.wrap (97 + (Int.tmod ((K6.wrap ((K6.wrap (r.next + (K6.wrap (y1 - 6)))) + (i : Int))) % 4294967296) 26)))] : List Int)),v6a,v6c),⟨(by omega),(by simp [hbl])⟩⟩,ei [0,2,3,4] <| kF 1 0 [0,3,7,8,9,10],by show (fun (i : Nat) (bs : List Int) (A1 : Option Addr) (c1 : Nat) => (y2).toNat - i) (i + 1) (bs ++ ([IntKind.u8.wrap (K6.wrap (97 + (Int.tmod ((K6.wrap ((K6.wrap (r.next + (K6.wrap (y1 - 6)))) + (i : Int))) % 4294967296) 26)))] : List Int)) v6a v6c < (y2).toNat - i; (dsimp only; omega)⟩
 have h4p := of_decide_eq_false h4
 have hge : ¬ (i : Int) < y2 := of_decide_eq_false h4
 refine cq <| kS <| kQ <| dp 1 [0,3,7,8,9,35] [(35,aP g)] 110 [gP g,iI 6] (some 36) 1 rfl rfl hlo (bO hBw hap) ?_
 rintro ⟨y7,hy7⟩
 refine aR [0,3,7,8,9,36] [] <| kC (y7) (fun h8 => ?_) (fun h8 => ?_)
 refine kG <| kWS 2 [0,3,7,9,37,38] [(0,aP g),(3,.p 0 0),(7,aI (K6.wrap (y1 - 6))),(9,.v (.slice A1 bs.length c1)),(37,aP g),(38,aI y2)] 151 [gP g,iI y2] (some 39) 0 rfl rfl hlo (eE fun ww hw hf => fk g J A cap y2 ww B (Nat.le_trans (by first | exact Nat.le_refl _ | exact Nat.le_of_eq (bn hB).symm) hw) (hf (cF B g A J cap) (by simp)) (hf _ m2) hap (by omega) (by omega)) ?_
 rintro ⟨⟨b9l,b9a,b9c⟩,hb9⟩
 dsimp only at hb9
 refine aR [0,3,7,9] [(9,.v (.slice b9a b9l.length b9c))] <| kS <| bc [] (by kernel_rfl) (fun ρ σ => ?_)
 refine ca [0,1,2,4,6] [46,44,42,41] 6 [(46,aP g),(44,.v (.slice b9a b9l.length b9c)),(42,aI (K6.wrap (y1 - 6))),(41,aI r.next)] <| kA [3,5] ⟨?_,?_⟩
 refine dr 3 120 [iI r.next,iI (K6.wrap (y1 - 6))] (some 43) rfl (bM fun ww hf => bG r.next (K6.wrap (y1 - 6)) ww ) ?_
 intro _
 refine kA [5,7] ⟨?_,?_⟩
 refine i7 5 (.string (am b9l)) rfl (fun _ _ ww hr => cb (e := 5) b9l hr.1 rfl (by kernel_rfl) (by kernel_rfl) (by kernel_rfl) rfl (aS (hr.2.fact (ap (aQ w B).heap.size 5 1 (.slice b9a b9l.length b9c) (b9l.map bR)) (by simp)).1)) ?_
 refine kA [7] <| gw 7 110 [gP g,iI 6] (some 47) 1 rfl rfl hlo (ax ar) (bO hBw hap) ?_
 rintro ⟨y10,hy10⟩
 refine ca [8,9,10] [6,5,4] 0 [(6,aB y10),(5,.v (.string (am b9l))),(4,aI (sA r.next (K6.wrap (y1 - 6))))] <| kZ <| kR ?_
 exact ⟨[iI (sA r.next (K6.wrap (y1 - 6))),.string (am b9l),.bool y10],by kernel_rfl,fun w' hb hf => ⟨⟨(sA r.next (K6.wrap (y1 - 6)),am b9l,y10),(by show (am _).size ≤ 4096; rw [bL]; omega)⟩,rfl,hf (cF B g A J cap) (by simp),aY (hf (c9 w (fun b => b = g)) (by simp)) hb rfl rfl rfl⟩⟩
 refine gw 7 110 [gP g,iI 6] (some 47) 1 rfl rfl hlo (ax ar) (bO hBw hap) ?_
 rintro ⟨y11,hy11⟩
 refine eI [8] [4,47,44] 3 [(4,aI (sA r.next (K6.wrap (y1 - 6)))),(47,aB y11)] <| kA [5] <| i7 5 (.string (am b9l)) rfl (fun _ _ ww hr => cb (e := 5) b9l hr.1 rfl (by kernel_rfl) (by kernel_rfl) (by kernel_rfl) rfl (aS (hr.2.fact (ap (aQ w B).heap.size 5 1 (.slice b9a b9l.length b9c) (b9l.map bR)) (by simp)).1)) ?_
 refine eI [9,10] [6,5,4] 0 [(6,aB y11),(5,.v (.string (am b9l)))] <| kZ <| kR ?_
 exact ⟨[iI (sA r.next (K6.wrap (y1 - 6))),.string (am b9l),.bool y11],by kernel_rfl,fun w' hb hf => ⟨⟨(sA r.next (K6.wrap (y1 - 6)),am b9l,y11),(by show (am _).size ≤ 4096; rw [bL]; omega)⟩,rfl,hf (cF B g A J cap) (by simp),aY (hf (c9 w (fun b => b = g)) (by simp)) hb rfl rfl rfl⟩⟩
 refine i7 5 (.string (am b9l)) rfl (fun _ _ ww hr => cb (e := 5) b9l hr.1 rfl (by kernel_rfl) (by kernel_rfl) (by kernel_rfl) rfl (aS (hr.2.fact (ap (aQ w B).heap.size 5 1 (.slice b9a b9l.length b9c) (b9l.map bR)) (by simp)).1)) ?_
 refine kA [3] <| dr 3 120 [iI r.next,iI (K6.wrap (y1 - 6))] (some 43) rfl (bM fun ww hf => bG r.next (K6.wrap (y1 - 6)) ww ) ?_
 intro _
 refine kA [7] <| gw 7 110 [gP g,iI 6] (some 47) 1 rfl rfl hlo (ax ar) (bO hBw hap) ?_
 rintro ⟨y12,hy12⟩
 refine ca [8,9,10] [6,5,4] 0 [(6,aB y12),(5,.v (.string (am b9l))),(4,aI (sA r.next (K6.wrap (y1 - 6))))] <| kZ <| kR ?_
 exact ⟨[iI (sA r.next (K6.wrap (y1 - 6))),.string (am b9l),.bool y12],by kernel_rfl,fun w' hb hf => ⟨⟨(sA r.next (K6.wrap (y1 - 6)),am b9l,y12),(by show (am _).size ≤ 4096; rw [bL]; omega)⟩,rfl,hf (cF B g A J cap) (by simp),aY (hf (c9 w (fun b => b = g)) (by simp)) hb rfl rfl rfl⟩⟩
 refine kK <| kS <| bc [] (by kernel_rfl) (fun ρ σ => ?_)
 refine ca [0,1,2,4,6] [46,44,42,41] 6 [(46,aP g),(44,.v (.slice A1 bs.length c1)),(42,aI (K6.wrap (y1 - 6))),(41,aI r.next)] <| kA [3,5] ⟨?_,?_⟩
 refine dr 3 120 [iI r.next,iI (K6.wrap (y1 - 6))] (some 43) rfl (bM fun ww hf => bG r.next (K6.wrap (y1 - 6)) ww ) ?_
 intro _
 refine kA [5,7] ⟨?_,?_⟩
 refine i7 5 (.string (am bs)) rfl (fun _ _ ww hr => cb (e := 5) bs hr.1 rfl (by kernel_rfl) (by kernel_rfl) (by kernel_rfl) rfl (aS (hr.2.fact (ap (aQ w B).heap.size 5 1 (.slice A1 bs.length c1) (bs.map bR)) (by simp)).1)) ?_
 refine kA [7] <| gw 7 110 [gP g,iI 6] (some 47) 0 rfl rfl hlo (ax ar) (bO hBw hap) ?_
 rintro ⟨y13,hy13⟩
 refine ca [8,9,10] [6,5,4] 0 [(6,aB y13),(5,.v (.string (am bs))),(4,aI (sA r.next (K6.wrap (y1 - 6))))] <| kZ <| kR ?_
 exact ⟨[iI (sA r.next (K6.wrap (y1 - 6))),.string (am bs),.bool y13],by kernel_rfl,fun w' hb hf => ⟨⟨(sA r.next (K6.wrap (y1 - 6)),am bs,y13),(by show (am _).size ≤ 4096; rw [bL]; omega)⟩,rfl,hf (cF B g A J cap) (by simp),aY (hf (c9 w (fun b => b = g)) (by simp)) hb rfl rfl rfl⟩⟩
 refine gw 7 110 [gP g,iI 6] (some 47) 0 rfl rfl hlo (ax ar) (bO hBw hap) ?_
 rintro ⟨y14,hy14⟩
 refine eI [8] [4,47,44] 3 [(4,aI (sA r.next (K6.wrap (y1 - 6)))),(47,aB y14)] <| kA [5] <| i7 5 (.string (am bs)) rfl (fun _ _ ww hr => cb (e := 5) bs hr.1 rfl (by kernel_rfl) (by kernel_rfl) (by kernel_rfl) rfl (aS (hr.2.fact (ap (aQ w B).heap.size 5 1 (.slice A1 bs.length c1) (bs.map bR)) (by simp)).1)) ?_
 refine eI [9,10] [6,5,4] 0 [(6,aB y14),(5,.v (.string (am bs)))] <| kZ <| kR ?_
 exact ⟨[iI (sA r.next (K6.wrap (y1 - 6))),.string (am bs),.bool y14],by kernel_rfl,fun w' hb hf => ⟨⟨(sA r.next (K6.wrap (y1 - 6)),am bs,y14),(by show (am _).size ≤ 4096; rw [bL]; omega)⟩,rfl,hf (cF B g A J cap) (by simp),aY (hf (c9 w (fun b => b = g)) (by simp)) hb rfl rfl rfl⟩⟩
 refine i7 5 (.string (am bs)) rfl (fun _ _ ww hr => cb (e := 5) bs hr.1 rfl (by kernel_rfl) (by kernel_rfl) (by kernel_rfl) rfl (aS (hr.2.fact (ap (aQ w B).heap.size 5 1 (.slice A1 bs.length c1) (bs.map bR)) (by simp)).1)) ?_
 refine kA [3] <| dr 3 120 [iI r.next,iI (K6.wrap (y1 - 6))] (some 43) rfl (bM fun ww hf => bG r.next (K6.wrap (y1 - 6)) ww ) ?_
 intro _
 refine kA [7] <| gw 7 110 [gP g,iI 6] (some 47) 0 rfl rfl hlo (ax ar) (bO hBw hap) ?_
 rintro ⟨y15,hy15⟩
 refine ca [8,9,10] [6,5,4] 0 [(6,aB y15),(5,.v (.string (am bs))),(4,aI (sA r.next (K6.wrap (y1 - 6))))] <| kZ <| kR ?_
 exact ⟨[iI (sA r.next (K6.wrap (y1 - 6))),.string (am bs),.bool y15],by kernel_rfl,fun w' hb hf => ⟨⟨(sA r.next (K6.wrap (y1 - 6)),am bs,y15),(by show (am _).size ≤ 4096; rw [bL]; omega)⟩,rfl,hf (cF B g A J cap) (by simp),aY (hf (c9 w (fun b => b = g)) (by simp)) hb rfl rfl rfl⟩⟩
theorem l18Stream_c_K {g : Nat} {J : List Int} {A : Option Addr} {cap : Nat} {r : Rcv} {r_heldV : Value} {w0 : World} {fs : List Fact} {B : Nat} (hB : B ≤ w0.heap.size) (hap : ¬ (sQ A J cap).blk g)  (hn : J.length ≤ 1048576 := by omega) (h1 : cF B g A J cap ∈ fs := by simp) (h2 : sQ A J cap ∈ fs := by simp) : XCM Tryz.prog w0 fs (cF B g A J cap).blk 139 [gP g, .agg (ah r r_heldV).toArray] (α := {y : Int × ByteArray × Bool // y.2.1.size ≤ 4096}) (fun y => .tuple #[iI y.1.1, .string y.1.2.1, .bool y.1.2.2]) (fun _ => [cF B g A J cap]) := dq fun w hw hf => l18Stream_c g J A cap r r_heldV w B (Nat.le_trans hB hw) (hf _ h1) (hf _ h2) hap hn  
theorem l18Receiver_c (g : Nat) (J : List Int) (A : Option Addr) (cap : Nat) (w : World) (B : Nat) (hB : B ≤ w.heap.size) (hc : (cF B g A J cap).p w) (hl : Sl w (sJ A J cap) 1 (J.map bR)) (hap : ¬ (sQ A J cap).blk g) (hn : J.length ≤ 1048576) : Calls Tryz.prog 157 #[gP g] w fun e w' => ∃ y : {y : Rcv × (Option Addr × Nat) // RB 3 y.1}, e = .returned (.agg (ah y.1.1 (.slice y.1.2.1 y.1.1.held.length y.1.2.2)).toArray) ∧ (cF B g A J cap).p w' ∧ (ap w.heap.size 85 2 (.slice y.1.2.1 y.1.1.held.length y.1.2.2) (y.1.1.held.map pC)).p w' ∧ g < w.heap.size ∧ Chgd (fun b => b = g) w w' := by
 have hq_code := Sl.capLe hl
 have hBw : B ≤ (aQ w B).heap.size := Nat.le_of_eq (bn hB).symm
 have hlo : ∀ (ww : World) (b : Nat),(cF B g A J cap).p ww → (cF B g A J cap).blk b → (aQ w B).heap.size ≤ b := fun ww b h hb => Nat.le_trans (ce w B) (cC h hb)
 refine ge (args := [gP g]) (fn := Tryz.f157) [cF B g A J cap,sQ A J cap,c9 w (fun b => b = g)] B Tryz.func157 rfl Tryz.ntmps157 rfl hB (by simp only [List.mem_cons,List.not_mem_nil,or_false,forall_eq_or_imp,forall_eq]; exact ⟨hc,hl,bJ w _⟩) (cu hap rfl) ?_
 have hgl : g < w.heap.size := (cF B g A J cap).lt w g hc rfl
 refine kQ <| c8 [0,2] ⟨[(0,aP g),(2,.p 0 0)],[⟨41,dl⟩],[],[cF B g A J cap,sQ A J cap,c9 w (fun b => b = g)]⟩ <| kQ <| dp 1 [0,2,9] [(9,aP g)] 148 [gP g] (some 10) 0 rfl rfl hlo (cE hBw hap) ?_
 rintro ⟨y1,hy1⟩
 refine dy 0 [0,2,10] [] 161 [iI y1] (some 11) rfl (cZ fun ww hw hf => en y1 ww   ((aQ w B).heap.size) hw) ?_
 rintro ⟨v2a,v2c⟩
 refine i5 [0,2,3] [(3,.p 1 0)] [⟨41,ah (rN y1) (.slice v2a ((rN y1).held.length) v2c)⟩] <| kQ <| dp 1 [0,2,3,12] [(12,aP g)] 133 [gP g,iI 7] (some 13) 1 rfl rfl hlo (ag hBw hap) ?_
 rintro ⟨y3,hy3⟩
 obtain ⟨hy30,hy31⟩ := hy3
 refine aR [0,2,3,4] [(4,aI y3)] <| kS <| kQ <| aR [0,2,3,4,5] [(5,aI 0)] ?_
 refine aZ <| cz (α := {x : Nat × Rcv × Option Addr × Nat // (fun (i : Nat) (r : Rcv) (A1 : Option Addr) (c1 : Nat) => (i : Int) ≤ y3 ∧ RB 3 r) x.1 x.2.1 x.2.2.1 x.2.2.2}) (fun x => (fun (i : Nat) (r : Rcv) (A1 : Option Addr) (c1 : Nat) => (⟨[(0,aP g),(2,.p 0 0),(3,.p 1 0),(4,aI y3),(5,aI (i : Int))],[⟨41,dl⟩,⟨41,ah r (.slice A1 r.held.length c1)⟩],[],[ap (aQ w B).heap.size 85 2 (.slice A1 r.held.length c1) (r.held.map pC),cF B g A J cap,sQ A J cap,c9 w (fun b => b = g)]⟩ : St)) x.1.1 x.1.2.1 x.1.2.2.1 x.1.2.2.2) (fun x => (fun (i : Nat) (r : Rcv) (A1 : Option Addr) (c1 : Nat) => (y3).toNat - i) x.1.1 x.1.2.1 x.1.2.2.1 x.1.2.2.2) ⟨(0,(rN y1),v2a,v2c),⟨(by omega),RB.new _⟩⟩ (ei [1,0,2,3] <| kF 2 0 [0,2,3,4,5]) ?_
 rintro ⟨⟨i,r,A1,c1⟩,hi,hrb⟩
 try dsimp only
 try dsimp only at hi hrb
 have hkn := hrb.up.kn; have hm := hrb.hm; have hsz := hrb.sz
 refine kS <| kQ <| aR [0,2,3,4,5,16] [(16,aB (decide ((i : Int) < y3)))] <| kC (decide ((i : Int) < y3)) (fun h4 => ?_) (fun h4 => ?_)
 have h4p := of_decide_eq_true h4
 have hlt :  (i : Int) < y3 := of_decide_eq_true h4
 refine kK <| kS <| aZ <| kQ <| dp 2 [0,2,3,4,5,20,21] [(20,aP g),(21,.v (.agg (ah r (.slice A1 r.held.length c1)).toArray))] 139 [gP g,.agg (ah r (.slice A1 r.held.length c1)).toArray] (some 22) 1 rfl rfl hlo (l18Stream_c_K hBw hap) ?_
 rintro ⟨y5,hy5⟩
 refine aR [0,2,3,4,5,6,7,8] [(6,aI y5.1),(7,.v (.string y5.2.1)),(8,aB y5.2.2)] <| kQ <| dy 4 [0,2,3,4,5,26,27,28,29] [(26,.v (.agg (ah r (.slice A1 r.held.length c1)).toArray)),(27,aI y5.1),(28,.v (.string y5.2.1)),(29,aB y5.2.2)] 78 [.agg (ah r (.slice A1 r.held.length c1)).toArray,iI y5.1,.string y5.2.1,.bool y5.2.2] (some 30) rfl (cZ fun ww hw hf => ysArrived_c r (.slice A1 r.held.length c1) y5.1 y5.2.1 y5.2.2 ww (aS (hf _ m1)) (by assumption) (by assumption) (by omega) (by omega) ((aQ w B).heap.size) hw) ?_
 rintro ⟨v6a,v6c⟩
 have hra := RB.arr hrb (by omega) y5.1 y5.2.1 y5.2.2; have hka := hra.up.kn; have hma := hra.hm; have hza := hra.sz
 refine c8 [0,2,3,4,5] ⟨[(0,aP g),(2,.p 0 0),(3,.p 1 0),(4,aI y3),(5,aI (i : Int))],[⟨41,dl⟩,⟨41,ah (av r y5.1 y5.2.1 y5.2.2) (.slice v6a ((av r y5.1 y5.2.1 y5.2.2).held.length) v6c)⟩],[],[ap (aQ w B).heap.size 85 2 (.slice v6a ((av r y5.1 y5.2.1 y5.2.2).held.length) v6c) ((av r y5.1 y5.2.1 y5.2.2).held.map pC),cF B g A J cap,ap (aQ w B).heap.size 85 2 (.slice A1 r.held.length c1) (r.held.map pC),sQ A J cap,c9 w (fun b => b = g)]⟩ <| kQ <| dp 1 [0,2,3,4,5,31] [(31,aP g)] 110 [gP g,iI 3] (some 32) 1 rfl rfl hlo (bO hBw hap) ?_
 rintro ⟨y7,hy7⟩
 refine aR [0,2,3,4,5,32] [] <| kC (y7) (fun h8 => ?_) (fun h8 => ?_)
 refine bc [true,false] (by kernel_rfl) (fun ρ σ => ?_)
 refine eI [1] [35,0,2,3,4,5] 7 [(35,aP g)] <| kA [0,2] ⟨?_,?_⟩
 refine fV 0 (.v (.agg (ah (av r y5.1 y5.2.1 y5.2.2) (.slice v6a ((av r y5.1 y5.2.1 y5.2.2).held.length) v6c)).toArray)) rfl <| kA [2] <| gw 2 133 [gP g,iI 20] (some 36) 0 rfl rfl hlo (ax (bz rfl ar)) (ag hBw hap) ?_
 rintro ⟨y9,hy9⟩
 obtain ⟨hy90,hy91⟩ := hy9
 refine kA [3] <| dr 3 166 [.agg (ah (av r y5.1 y5.2.1 y5.2.2) (.slice v6a ((av r y5.1 y5.2.1 y5.2.2).held.length) v6c)).toArray,iI y9] (some 37) rfl (cZ fun ww hw hf => ysTakenIn_c (av r y5.1 y5.2.1 y5.2.2) (.slice v6a ((av r y5.1 y5.2.1 y5.2.2).held.length) v6c) y9 ww (aS (hf _ m1)) (by assumption) (by assumption) (by omega) ((aQ w B).heap.size) hw) ?_
 rintro ⟨v10a,v10c⟩
 refine eI [4,5,6] [38,0,2,3,4,5] 1 [(38,.v (.agg (ah (ao (av r y5.1 y5.2.1 y5.2.2) y9).1 (.slice v10a ((ao (av r y5.1 y5.2.1 y5.2.2) y9).1.held.length) v10c)).toArray))] <| kA [7] <| e8 7 1 0 (ah (ao (av r y5.1 y5.2.1 y5.2.2) y9).1 (.slice v10a ((ao (av r y5.1 y5.2.1 y5.2.2) y9).1.held.length) v10c)) rfl <| kZ <| kG <| cA 3 [0,2,3,4,5] [(5,aI (K6.wrap ((i : Int) + 1)))] ?_
 refine cJ [0,2,3,4,5] [(5,aI (K6.wrap ((i : Int) + 1)))] [(5,aI ((i : Int) + 1))] (by rw [show (K6.wrap ((i : Int) + 1)) = ((i : Int) + 1) from ab (by omega) (by omega)]) (by kernel_rfl) ?_
 refine aR [0,2,3,4,5] [] ?_
 exact ⟨⟨(i + 1,(ao (av r y5.1 y5.2.1 y5.2.2) y9).1,v10a,v10c),⟨(by omega),(by first | exact hra | exact RB.taken hra _ | exact hrb)⟩⟩,ei [0,1,4,5] <| kF 2 0 [0,2,3,4,5],by show (fun (i : Nat) (r : Rcv) (A1 : Option Addr) (c1 : Nat) => (y3).toNat - i) (i + 1) ((ao (av r y5.1 y5.2.1 y5.2.2) y9).1) v10a v10c < (y3).toNat - i; (dsimp only; omega)⟩
 refine gw 2 133 [gP g,iI 20] (some 36) 0 rfl rfl hlo (ax (bz rfl ar)) (ag hBw hap) ?_
 rintro ⟨y11,hy11⟩
 obtain ⟨hy110,hy111⟩ := hy11
 refine kA [0] <| fV 0 (.v (.agg (ah (av r y5.1 y5.2.1 y5.2.2) (.slice v6a ((av r y5.1 y5.2.1 y5.2.2).held.length) v6c)).toArray)) rfl <| kA [3] <| dr 3 166 [.agg (ah (av r y5.1 y5.2.1 y5.2.2) (.slice v6a ((av r y5.1 y5.2.1 y5.2.2).held.length) v6c)).toArray,iI y11] (some 37) rfl (cZ fun ww hw hf => ysTakenIn_c (av r y5.1 y5.2.1 y5.2.2) (.slice v6a ((av r y5.1 y5.2.1 y5.2.2).held.length) v6c) y11 ww (aS (hf _ m1)) (by assumption) (by assumption) (by omega) ((aQ w B).heap.size) hw) ?_
 rintro ⟨v12a,v12c⟩
 refine eI [4,5,6] [38,0,2,3,4,5] 1 [(38,.v (.agg (ah (ao (av r y5.1 y5.2.1 y5.2.2) y11).1 (.slice v12a ((ao (av r y5.1 y5.2.1 y5.2.2) y11).1.held.length) v12c)).toArray))] <| kA [7] <| e8 7 1 0 (ah (ao (av r y5.1 y5.2.1 y5.2.2) y11).1 (.slice v12a ((ao (av r y5.1 y5.2.1 y5.2.2) y11).1.held.length) v12c)) rfl <| kZ <| kG <| cA 3 [0,2,3,4,5] [(5,aI (K6.wrap ((i : Int) + 1)))] ?_
 refine cJ [0,2,3,4,5] [(5,aI (K6.wrap ((i : Int) + 1)))] [(5,aI ((i : Int) + 1))] (by rw [show (K6.wrap ((i : Int) + 1)) = ((i : Int) + 1) from ab (by omega) (by omega)]) (by kernel_rfl) ?_
 refine aR [0,2,3,4,5] [] ?_
 exact ⟨⟨(i + 1,(ao (av r y5.1 y5.2.1 y5.2.2) y11).1,v12a,v12c),⟨(by omega),(by first | exact hra | exact RB.taken hra _ | exact hrb)⟩⟩,ei [0,1,4,5] <| kF 2 0 [0,2,3,4,5],by show (fun (i : Nat) (r : Rcv) (A1 : Option Addr) (c1 : Nat) => (y3).toNat - i) (i + 1) ((ao (av r y5.1 y5.2.1 y5.2.2) y11).1) v12a v12c < (y3).toNat - i; (dsimp only; omega)⟩
 refine kK <| kG <| cA 3 [0,2,3,4,5] [(5,aI (K6.wrap ((i : Int) + 1)))] <| cJ [0,2,3,4,5] [(5,aI (K6.wrap ((i : Int) + 1)))] [(5,aI ((i : Int) + 1))] (by rw [show (K6.wrap ((i : Int) + 1)) = ((i : Int) + 1) from ab (by omega) (by omega)]) (by kernel_rfl) ?_
 refine aR [0,2,3,4,5] [] ?_
 exact ⟨⟨(i + 1,(av r y5.1 y5.2.1 y5.2.2),v6a,v6c),⟨(by omega),(by first | exact hra | exact RB.taken hra _ | exact hrb)⟩⟩,ei [1,0,3,4] <| kF 2 0 [0,2,3,4,5],by show (fun (i : Nat) (r : Rcv) (A1 : Option Addr) (c1 : Nat) => (y3).toNat - i) (i + 1) (av r y5.1 y5.2.1 y5.2.2) v6a v6c < (y3).toNat - i; (dsimp only; omega)⟩
 have h4p := of_decide_eq_false h4
 have hge : ¬ (i : Int) < y3 := of_decide_eq_false h4
 refine cq <| kQ <| bf [2] [(2,.p 0 0)] 0 ⟨41,ah r (.slice A1 r.held.length c1)⟩ <| kR ?_
 exact ⟨[.agg (ah r (.slice A1 r.held.length c1)).toArray],by kernel_rfl,fun w' hb hf ha => ⟨⟨(r,A1,c1),hrb⟩,rfl,hf (cF B g A J cap) (by simp),rowF_raise (hf (ap (aQ w B).heap.size 85 2 (.slice A1 r.held.length c1) (r.held.map pC)) (by simp)) (eB ha (i := 0) (j := 1) (k := 3) rfl rfl rfl rfl (by decide) (by decide)),hgl,aY (hf (c9 w (fun b => b = g)) (by simp)) hb rfl rfl rfl⟩⟩
theorem l18Bent_c (g : Nat) (J : List Int) (A : Option Addr) (cap : Nat) (w : World) (B : Nat) (hB : B ≤ w.heap.size) (hc : (cF B g A J cap).p w) (hl : Sl w (sJ A J cap) 1 (J.map bR)) (hap : ¬ (sQ A J cap).blk g) (hn : J.length ≤ 1048576) : Calls Tryz.prog 135 #[gP g] w fun e w' => ∃ y : {y : Rcv × (Option Addr × Nat) // RB 4 y.1}, e = .returned (.agg (ah y.1.1 (.slice y.1.2.1 y.1.1.held.length y.1.2.2)).toArray) ∧ (cF B g A J cap).p w' ∧ (ap w.heap.size 85 2 (.slice y.1.2.1 y.1.1.held.length y.1.2.2) (y.1.1.held.map pC)).p w' ∧ g < w.heap.size ∧ Chgd (fun b => b = g) w w' := by
 have hq_code := Sl.capLe hl
 have hBw : B ≤ (aQ w B).heap.size := Nat.le_of_eq (bn hB).symm
 have hlo : ∀ (ww : World) (b : Nat),(cF B g A J cap).p ww → (cF B g A J cap).blk b → (aQ w B).heap.size ≤ b := fun ww b h hb => Nat.le_trans (ce w B) (cC h hb)
 refine ge (args := [gP g]) (fn := Tryz.f135) [cF B g A J cap,sQ A J cap,c9 w (fun b => b = g)] B Tryz.func135 rfl Tryz.ntmps135 rfl hB (by simp only [List.mem_cons,List.not_mem_nil,or_false,forall_eq_or_imp,forall_eq]; exact ⟨hc,hl,bJ w _⟩) (cu hap rfl) ?_
 have hgl : g < w.heap.size := (cF B g A J cap).lt w g hc rfl
 refine kQ <| c8 [0,2] ⟨[(0,aP g),(2,.p 0 0)],[⟨41,dl⟩],[],[cF B g A J cap,sQ A J cap,c9 w (fun b => b = g)]⟩ <| kQ <| dp 1 [0,2,4] [(4,aP g)] 157 [gP g] (some 5) 0 rfl rfl hlo (eE fun ww hw hf => l18Receiver_c g J A cap ww B (Nat.le_trans (by first | exact Nat.le_refl _ | exact Nat.le_of_eq (bn hB).symm) hw) (hf (cF B g A J cap) (by simp)) (hf _ m1) hap (by omega)) ?_
 rintro ⟨⟨b1m,b1a,b1c⟩,hb1⟩
 dsimp only at hb1
 have hb1n := hb1.1
 refine i5 [0,2,3] [(3,.p 1 0)] [⟨41,ah b1m (.slice b1a b1m.held.length b1c)⟩] <| kS <| cf (α := {zz : Rcv × Option Addr × Nat // (fun (q : Rcv) (A3 : Option Addr) (c3 : Nat) => RB 4 q) zz.1 zz.2.1 zz.2.2}) (fun zz => (fun (q : Rcv) (A3 : Option Addr) (c3 : Nat) => (⟨[(2,.p 0 0),(3,.p 1 0)],[⟨41,dl⟩,⟨41,ah q (.slice A3 q.held.length c3)⟩],[],[ap (aQ w B).heap.size 85 2 (.slice A3 q.held.length c3) (q.held.map pC),cF B g A J cap,sQ A J cap,c9 w (fun b => b = g)]⟩ : St)) zz.1.1 zz.1.2.1 zz.1.2.2) ?_ ?_
 refine kQ <| dp 1 [0,2,3,6] [(6,aP g)] 133 [gP g,iI 12] (some 7) 1 rfl rfl hlo (ag hBw hap) ?_
 rintro ⟨y2,hy2⟩
 obtain ⟨hy20,hy21⟩ := hy2
 refine aR [0,2,3,7] [] <| aZ <| kQ <| aR [0,2,3,7,8] [(8,aB (y2 == 0))] ?_
 refine kC (y2 == 0) (fun h3 => ?_) (fun h3 => ?_)
 have h3p := bC h3
 refine kG <| dp 1 [2,3,10] [(10,aP g)] 143 [gP g] (some 11) 0 rfl rfl hlo (dK hBw hap) ?_
 rintro ⟨y4,hy4⟩
 refine bf [2,3] [] 1 ⟨41,ah { b1m with next := y4 } (.slice b1a b1m.held.length b1c)⟩ ?_
 exact ⟨⟨({ b1m with next := y4 },b1a,b1c),⟨Nat.le_trans hb1.1 (by decide),hb1.2.1,hb1.2.2⟩⟩,ei [1,0,2,3] <| kF 2 0 [2,3]⟩
 have h3p := bA h3
 refine kQ <| aR [0,2,3,7,13] [(13,aB (y2 == 1))] <| kC (y2 == 1) (fun h5 => ?_) (fun h5 => ?_)
 have h5p := bC h5
 refine kG <| kHD 1 [2,3,15] [(15,aP g)] rfl (bi (e := 3) (K := 1) (bytes := 8) [iI (-2),iI (-1),iI 0,iI 5,iI 32,iI 33] (rs := ([(-2),(-1),0,5,32,33] : List Int).map aq) rfl rfl) ?_
 intro g6
 refine dd (φ := ¬ (c7 (.slice (some ⟨g6,0,none⟩) 6 6) 1 (([(-2),(-1),0,5,32,33] : List Int).map aq)).blk g) (fun _ _ _ _ hr => fun hb => hr.2.apart 0 1 (ap (aQ w B).heap.size 3 1 (.slice (some ⟨g6,0,none⟩) 6 6) (([(-2),(-1),0,5,32,33] : List Int).map aq)) (cF B g A J cap) rfl rfl (by decide) rfl g (bK hb) rfl) (fun hk7 => ?_)
 refine dp 0 [2,3,15,16] [] 136 [gP g,.slice (some ⟨g6,0,none⟩) 6 6] (some 17) 1 rfl rfl hlo (bp hBw hap (fun ww hw hf => (aS (hf _ m0))) hk7 (by simp)) ?_
 rintro ⟨y8,hy8⟩
 refine bf [2,3] [] 1 ⟨41,ah { b1m with fin := y8 } (.slice b1a b1m.held.length b1c)⟩ ?_
 exact ⟨⟨({ b1m with fin := y8 },b1a,b1c),⟨Nat.le_trans hb1.1 (by decide),hb1.2.1,hb1.2.2⟩⟩,ei [2,0,3,4] <| kF 2 0 [2,3]⟩
 have h5p := bA h5
 refine kQ <| aR [0,2,3,7,19] [(19,aB (y2 == 2))] <| kC (y2 == 2) (fun h9 => ?_) (fun h9 => ?_)
 have h9p := bC h9
 refine kG <| bf [2,3] [] 1 ⟨41,ah { b1m with done := !b1m.done } (.slice b1a b1m.held.length b1c)⟩ ?_
 exact ⟨⟨({ b1m with done := !b1m.done },b1a,b1c),⟨Nat.le_trans hb1.1 (by decide),hb1.2.1,hb1.2.2⟩⟩,ei [1,0,2,3] <| kF 2 0 [2,3]⟩
 have h9p := bA h9
 refine kQ <| aR [0,2,3,7,25] [(25,aB (y2 == 3))] <| kC (y2 == 3) (fun h10 => ?_) (fun h10 => ?_)
 have h10p := bC h10
 refine bc [true,false] (by kernel_rfl) (fun ρ σ => ?_)
 refine xe_cut (α := {zz : Nat × Int × Nat × ByteArray × Nat × Option Addr × Nat // (fun (g162 : Nat) (y213 : Int) (g312 : Nat) (y363 : ByteArray) (g462 : Nat) (v512a : Option Addr) (v512c : Nat) => y363 ∈ ([(⟨#[]⟩ : ByteArray),(⟨#[120]⟩ : ByteArray),(⟨#[121,122]⟩ : ByteArray)] : List ByteArray)) zz.1 zz.2.1 zz.2.2.1 zz.2.2.2.1 zz.2.2.2.2.1 zz.2.2.2.2.2.1 zz.2.2.2.2.2.2}) (fun zz => (fun (g162 : Nat) (y213 : Int) (g312 : Nat) (y363 : ByteArray) (g462 : Nat) (v512a : Option Addr) (v512c : Nat) => (⟨[(2,.p 0 0),(3,.p 1 0)],[⟨41,dl⟩,⟨41,ah { b1m with held := (b1m.held ++ ([⟨y213,y363⟩] : List Pce)) } (.slice v512a ((b1m.held ++ ([⟨y213,y363⟩] : List Pce)).length) v512c)⟩],[],[cF B g A J cap,sQ A J cap,c9 w (fun b => b = g),ap (aQ w B).heap.size 3 1 (.slice (some ⟨g162,0,none⟩) 7 7) (([0,1,20,31,32,(-1),9223372036854775807] : List Int).map aq),ap (aQ w B).heap.size 85 2 (.slice (some ⟨g462,0,none⟩) 1 1) (([⟨y213,y363⟩] : List Pce).map pC),ap (aQ w B).heap.size 85 2 (.slice v512a ((b1m.held ++ ([⟨y213,y363⟩] : List Pce)).length) v512c) ((b1m.held ++ ([⟨y213,y363⟩] : List Pce)).map pC),ap (aQ w B).heap.size 9 1 (.slice (some ⟨g312,0,none⟩) 3 3) (([(⟨#[]⟩ : ByteArray),(⟨#[120]⟩ : ByteArray),(⟨#[121,122]⟩ : ByteArray)] : List ByteArray).map cB)]⟩ : St)) zz.1.1 zz.1.2.1 zz.1.2.2.1 zz.1.2.2.2.1 zz.1.2.2.2.2.1 zz.1.2.2.2.2.2.1 zz.1.2.2.2.2.2.2) 0 (bF 13 8191) ?_ (fun hD7 => ?_)
 rintro ⟨⟨g162,y213,g312,y363,g462,v512a,v512c⟩,hy363⟩
 dsimp only
 try dsimp only at hy363
 refine kZ ?_
 exact ⟨⟨({ b1m with held := (b1m.held ++ ([⟨y213,y363⟩] : List Pce)) },v512a,v512c),(RB.more hb1 _ (by have hq := hy363; simp only [List.mem_cons,List.not_mem_nil,or_false] at hq; rcases hq with h | h | h <;> subst h <;> (dsimp only; decide)) hb1.2.2)⟩,ei [5,0,1,2] <| kF 2 0 [2,3]⟩
 refine xe_cut (α := {zz : Nat × Int × Nat × ByteArray × Nat × Option Addr × Nat // (fun (g162 : Nat) (y213 : Int) (g312 : Nat) (y363 : ByteArray) (g462 : Nat) (v512a : Option Addr) (v512c : Nat) => y363 ∈ ([(⟨#[]⟩ : ByteArray),(⟨#[120]⟩ : ByteArray),(⟨#[121,122]⟩ : ByteArray)] : List ByteArray)) zz.1 zz.2.1 zz.2.2.1 zz.2.2.2.1 zz.2.2.2.2.1 zz.2.2.2.2.2.1 zz.2.2.2.2.2.2}) (fun zz => (fun (g162 : Nat) (y213 : Int) (g312 : Nat) (y363 : ByteArray) (g462 : Nat) (v512a : Option Addr) (v512c : Nat) => (⟨[(2,.p 0 0),(3,.p 1 0),(37,.v (.slice v512a ((b1m.held ++ ([⟨y213,y363⟩] : List Pce)).length) v512c))],[⟨41,dl⟩,⟨41,ah b1m (.slice b1a b1m.held.length b1c)⟩],[],[cF B g A J cap,sQ A J cap,c9 w (fun b => b = g),ap (aQ w B).heap.size 3 1 (.slice (some ⟨g162,0,none⟩) 7 7) (([0,1,20,31,32,(-1),9223372036854775807] : List Int).map aq),ap (aQ w B).heap.size 85 2 (.slice (some ⟨g462,0,none⟩) 1 1) (([⟨y213,y363⟩] : List Pce).map pC),ap (aQ w B).heap.size 85 2 (.slice v512a ((b1m.held ++ ([⟨y213,y363⟩] : List Pce)).length) v512c) ((b1m.held ++ ([⟨y213,y363⟩] : List Pce)).map pC),ap (aQ w B).heap.size 9 1 (.slice (some ⟨g312,0,none⟩) 3 3) (([(⟨#[]⟩ : ByteArray),(⟨#[120]⟩ : ByteArray),(⟨#[121,122]⟩ : ByteArray)] : List ByteArray).map cB)]⟩ : St)) zz.1.1 zz.1.2.1 zz.1.2.2.1 zz.1.2.2.2.1 zz.1.2.2.2.2.1 zz.1.2.2.2.2.2.1 zz.1.2.2.2.2.2.2) 2 (bF 13 2047) ?_ (fun hD6 => ?_)
 rintro ⟨⟨g162,y213,g312,y363,g462,v512a,v512c⟩,hy363⟩
 dsimp only
 try dsimp only at hy363
 refine ca [11] [38,2,3,37] 1 [(38,.p 1 2),(2,.p 0 0),(3,.p 1 0),(37,.v (.slice v512a ((b1m.held ++ ([⟨y213,y363⟩] : List Pce)).length) v512c))] <| kA [12] <| e8 12 1 2 [.slice v512a ((b1m.held ++ ([⟨y213,y363⟩] : List Pce)).length) v512c] rfl ?_
 exact aT (kF 2 0 [2,3]) (by kernel_rfl) (hD7 ⟨(g162,y213,g312,y363,g462,v512a,v512c),hy363⟩)
 refine c5 (α := {zz : Nat × Int × Nat × ByteArray × Nat // (fun (g162 : Nat) (y213 : Int) (g312 : Nat) (y363 : ByteArray) (g462 : Nat) => y363 ∈ ([(⟨#[]⟩ : ByteArray),(⟨#[120]⟩ : ByteArray),(⟨#[121,122]⟩ : ByteArray)] : List ByteArray)) zz.1 zz.2.1 zz.2.2.1 zz.2.2.2.1 zz.2.2.2.2}) (fun zz => (fun (g162 : Nat) (y213 : Int) (g312 : Nat) (y363 : ByteArray) (g462 : Nat) => [(28,.v (.slice b1a b1m.held.length b1c)),(36,.v (.slice (some ⟨g462,0,none⟩) 1 1))]) zz.1.1 zz.1.2.1 zz.1.2.2.1 zz.1.2.2.2.1 zz.1.2.2.2.2) [2,3,28,36] (fun _ => []) (fun zz => (fun (g162 : Nat) (y213 : Int) (g312 : Nat) (y363 : ByteArray) (g462 : Nat) => [ap (aQ w B).heap.size 3 1 (.slice (some ⟨g162,0,none⟩) 7 7) (([0,1,20,31,32,(-1),9223372036854775807] : List Int).map aq),ap (aQ w B).heap.size 85 2 (.slice (some ⟨g462,0,none⟩) 1 1) (([⟨y213,y363⟩] : List Pce).map pC),ap (aQ w B).heap.size 9 1 (.slice (some ⟨g312,0,none⟩) 3 3) (([(⟨#[]⟩ : ByteArray),(⟨#[120]⟩ : ByteArray),(⟨#[121,122]⟩ : ByteArray)] : List ByteArray).map cB)]) zz.1.1 zz.1.2.1 zz.1.2.2.1 zz.1.2.2.2.1 zz.1.2.2.2.2) 3 (bF 13 1023) ?_ (fun hD5 => ?_)
 rintro ⟨⟨g162,y213,g312,y363,g462⟩,hy363⟩
 dsimp only [List.cons_append,List.nil_append]
 try dsimp only at hy363
 refine kA [10] <| gj 10 rfl (ax (bz rfl ar)) (dt (e := 85) (K := 2) (bytes := 24) (i := 1) (q := (b1m.held ++ ([⟨y213,y363⟩] : List Pce)).length) (new := ([⟨y213,y363⟩] : List Pce).map pC) (rs' := (b1m.held ++ ([⟨y213,y363⟩] : List Pce)).map pC) rfl rfl rfl rfl (by kernel_rfl) (by kernel_rfl) (by kernel_rfl) rfl (by simp) (by rw [List.map_append]) (by simp) (fun ww hf => (aS (hf (ap (aQ w B).heap.size 85 2 (.slice (some ⟨g462,0,none⟩) 1 1) (([⟨y213,y363⟩] : List Pce).map pC)) (by simp)))) (by intro r hr; obtain ⟨x,hx,rfl⟩ := List.mem_map.1 hr; exact ⟨rfl,by simp [pC,Value.oneCell']⟩) (by (try simp only [List.length_map,List.length_append,List.length_cons,List.length_nil,List.length_take,List.length_drop,maxLen]); omega) (by (try simp only [List.length_map,List.length_append,List.length_cons,List.length_nil,List.length_take,List.length_drop,maxLen]); omega)) ?_
 rintro ⟨v512a,v512c⟩
 exact aT (ei [1,2,3,4,5,0,6] <| kF 2 0 [2,3,37]) (by kernel_rfl) (hD6 ⟨(g162,y213,g312,y363,g462,v512a,v512c),hy363⟩)
 refine c5 (α := {zz : Nat × Int × Nat × ByteArray // (fun (g162 : Nat) (y213 : Int) (g312 : Nat) (y363 : ByteArray) => y363 ∈ ([(⟨#[]⟩ : ByteArray),(⟨#[120]⟩ : ByteArray),(⟨#[121,122]⟩ : ByteArray)] : List ByteArray)) zz.1 zz.2.1 zz.2.2.1 zz.2.2.2}) (fun zz => (fun (g162 : Nat) (y213 : Int) (g312 : Nat) (y363 : ByteArray) => [(28,.v (.slice b1a b1m.held.length b1c)),(31,aI y213),(34,.v (.string y363))]) zz.1.1 zz.1.2.1 zz.1.2.2.1 zz.1.2.2.2) [2,3,28,31,34] (fun _ => []) (fun zz => (fun (g162 : Nat) (y213 : Int) (g312 : Nat) (y363 : ByteArray) => [ap (aQ w B).heap.size 3 1 (.slice (some ⟨g162,0,none⟩) 7 7) (([0,1,20,31,32,(-1),9223372036854775807] : List Int).map aq),ap (aQ w B).heap.size 9 1 (.slice (some ⟨g312,0,none⟩) 3 3) (([(⟨#[]⟩ : ByteArray),(⟨#[120]⟩ : ByteArray),(⟨#[121,122]⟩ : ByteArray)] : List ByteArray).map cB)]) zz.1.1 zz.1.2.1 zz.1.2.2.1 zz.1.2.2.2) 5 (bF 13 255) ?_ (fun hD4 => ?_)
 rintro ⟨⟨g162,y213,g312,y363⟩,hy363⟩
 dsimp only [List.cons_append,List.nil_append]
 try dsimp only at hy363
 refine kX 8 (.agg (ff (⟨y213,y363⟩ : Pce)).toArray) rfl (fun _ _ ww hA => aN [(0,iI y213),(1,.string y363)] hA rfl (by kernel_rfl) (by kernel_rfl) ww) ?_
 refine kA [9] <| gj 9 rfl (ax (bz rfl ar)) (bi (e := 85) (K := 2) (bytes := 24) [.agg (ff (⟨y213,y363⟩ : Pce)).toArray] (rs := ([⟨y213,y363⟩] : List Pce).map pC) rfl rfl) ?_
 intro g462
 exact aT (ei [1,2,3,4,5,0,6] <| kF 2 0 [2,3,28,36]) (by kernel_rfl) (hD5 ⟨(g162,y213,g312,y363,g462),hy363⟩)
 refine c5 (α := Nat × Int × Nat) (fun zz => (fun (g162 : Nat) (y213 : Int) (g312 : Nat) => [(28,.v (.slice b1a b1m.held.length b1c)),(31,aI y213),(32,aP g),(33,.v (.slice (some ⟨g312,0,none⟩) 3 3))]) zz.1 zz.2.1 zz.2.2) [2,3,28,31,32,33] (fun _ => []) (fun zz => (fun (g162 : Nat) (y213 : Int) (g312 : Nat) => [ap (aQ w B).heap.size 3 1 (.slice (some ⟨g162,0,none⟩) 7 7) (([0,1,20,31,32,(-1),9223372036854775807] : List Int).map aq),ap (aQ w B).heap.size 9 1 (.slice (some ⟨g312,0,none⟩) 3 3) (([(⟨#[]⟩ : ByteArray),(⟨#[120]⟩ : ByteArray),(⟨#[121,122]⟩ : ByteArray)] : List ByteArray).map cB)]) zz.1 zz.2.1 zz.2.2) 6 (bF 13 127) ?_ (fun hD3 => ?_)
 rintro ⟨g162,y213,g312⟩
 dsimp only [List.cons_append,List.nil_append]
 refine kA [7] <| hQ (φ := ¬ (c7 (.slice (some ⟨g312,0,none⟩) 3 3) 1 (([(⟨#[]⟩ : ByteArray),(⟨#[120]⟩ : ByteArray),(⟨#[121,122]⟩ : ByteArray)] : List ByteArray).map cB)).blk g) (fun _ _ _ _ hr => fun hb => hr.2.apart 5 0 (ap (aQ w B).heap.size 9 1 (.slice (some ⟨g312,0,none⟩) 3 3) (([(⟨#[]⟩ : ByteArray),(⟨#[120]⟩ : ByteArray),(⟨#[121,122]⟩ : ByteArray)] : List ByteArray).map cB)) (cF B g A J cap) rfl rfl (by decide) rfl g (bK hb) rfl) (fun hk362 => ?_)
 refine gw 7 158 [gP g,.slice (some ⟨g312,0,none⟩) 3 3] (some 34) 0 rfl rfl hlo (ax (bz rfl ar)) (l1Pick_c_K hBw hap (fun ww hw hf => (aS (hf _ m5))) hk362 (by simp)) ?_
 rintro ⟨y363,hy363⟩
 exact aT (kF 2 0 [2,3,28,31,34]) (by kernel_rfl) (hD4 ⟨(g162,y213,g312,y363),hy363⟩)
 refine c5 (α := Nat × Int) (fun zz => (fun (g162 : Nat) (y213 : Int) => [(28,.v (.slice b1a b1m.held.length b1c)),(31,aI y213),(32,aP g)]) zz.1 zz.2) [2,3,28,31,32] (fun _ => []) (fun zz => (fun (g162 : Nat) (y213 : Int) => [ap (aQ w B).heap.size 3 1 (.slice (some ⟨g162,0,none⟩) 7 7) (([0,1,20,31,32,(-1),9223372036854775807] : List Int).map aq)]) zz.1 zz.2) 7 (bF 13 63) ?_ (fun hD2 => ?_)
 rintro ⟨g162,y213⟩
 dsimp only [List.cons_append,List.nil_append]
 refine kA [6] <| gj 6 rfl (ax (bz rfl ar)) (bi (e := 9) (K := 1) (bytes := 16) [.string (⟨#[]⟩ : ByteArray),.string (⟨#[120]⟩ : ByteArray),.string (⟨#[121,122]⟩ : ByteArray)] (rs := ([(⟨#[]⟩ : ByteArray),(⟨#[120]⟩ : ByteArray),(⟨#[121,122]⟩ : ByteArray)] : List ByteArray).map cB) rfl rfl) ?_
 intro g312
 exact aT (ei [1,2,3,4,5,0] <| kF 2 0 [2,3,28,31,32,33]) (by kernel_rfl) (hD3 (g162,y213,g312))
 refine c5 (α := Nat × Nat) (fun zz => (fun (g162 : Nat) (g312 : Nat) => [(28,.v (.slice b1a b1m.held.length b1c)),(29,aP g),(30,.v (.slice (some ⟨g162,0,none⟩) 7 7)),(32,aP g),(33,.v (.slice (some ⟨g312,0,none⟩) 3 3))]) zz.1 zz.2) [2,3,28,29,30,32,33] (fun _ => []) (fun zz => (fun (g162 : Nat) (g312 : Nat) => [ap (aQ w B).heap.size 3 1 (.slice (some ⟨g162,0,none⟩) 7 7) (([0,1,20,31,32,(-1),9223372036854775807] : List Int).map aq),ap (aQ w B).heap.size 9 1 (.slice (some ⟨g312,0,none⟩) 3 3) (([(⟨#[]⟩ : ByteArray),(⟨#[120]⟩ : ByteArray),(⟨#[121,122]⟩ : ByteArray)] : List ByteArray).map cB)]) zz.1 zz.2) 7 (bF 13 111) ?_ (fun hD8 => ?_)
 rintro ⟨g162,g312⟩
 dsimp only [List.cons_append,List.nil_append]
 refine kA [4] <| hQ (φ := ¬ (c7 (.slice (some ⟨g162,0,none⟩) 7 7) 1 (([0,1,20,31,32,(-1),9223372036854775807] : List Int).map aq)).blk g) (fun _ _ _ _ hr => fun hb => hr.2.apart 4 0 (ap (aQ w B).heap.size 3 1 (.slice (some ⟨g162,0,none⟩) 7 7) (([0,1,20,31,32,(-1),9223372036854775807] : List Int).map aq)) (cF B g A J cap) rfl rfl (by decide) rfl g (bK hb) rfl) (fun hk212 => ?_)
 refine gw 4 136 [gP g,.slice (some ⟨g162,0,none⟩) 7 7] (some 31) 0 rfl rfl hlo (ax (bz rfl ar)) (bp hBw hap (fun ww hw hf => (aS (hf _ m4))) hk212 (by simp)) ?_
 rintro ⟨y213,hy213⟩
 exact aT (kF 2 0 [2,3,28,31,32,33]) (by kernel_rfl) (hD3 (g162,y213,g312))
 refine c5 (α := Nat) (fun zz => (fun (g162 : Nat) => [(28,.v (.slice b1a b1m.held.length b1c)),(29,aP g),(30,.v (.slice (some ⟨g162,0,none⟩) 7 7)),(32,aP g)]) zz) [2,3,28,29,30,32] (fun _ => []) (fun zz => (fun (g162 : Nat) => [ap (aQ w B).heap.size 3 1 (.slice (some ⟨g162,0,none⟩) 7 7) (([0,1,20,31,32,(-1),9223372036854775807] : List Int).map aq)]) zz) 8 (bF 13 47) ?_ (fun hD1 => ?_)
 intro g162
 dsimp only [List.cons_append,List.nil_append]
 refine kA [4,6] ⟨?_,?_⟩
 refine hQ (φ := ¬ (c7 (.slice (some ⟨g162,0,none⟩) 7 7) 1 (([0,1,20,31,32,(-1),9223372036854775807] : List Int).map aq)).blk g) (fun _ _ _ _ hr => fun hb => hr.2.apart 4 0 (ap (aQ w B).heap.size 3 1 (.slice (some ⟨g162,0,none⟩) 7 7) (([0,1,20,31,32,(-1),9223372036854775807] : List Int).map aq)) (cF B g A J cap) rfl rfl (by decide) rfl g (bK hb) rfl) (fun hk212 => ?_)
 refine gw 4 136 [gP g,.slice (some ⟨g162,0,none⟩) 7 7] (some 31) 0 rfl rfl hlo (ax (bz rfl ar)) (bp hBw hap (fun ww hw hf => (aS (hf _ m4))) hk212 (by simp)) ?_
 rintro ⟨y213,hy213⟩
 exact aT (kF 2 0 [2,3,28,31,32]) (by kernel_rfl) (hD2 (g162,y213))
 refine gj 6 rfl (ax (bz rfl ar)) (bi (e := 9) (K := 1) (bytes := 16) [.string (⟨#[]⟩ : ByteArray),.string (⟨#[120]⟩ : ByteArray),.string (⟨#[121,122]⟩ : ByteArray)] (rs := ([(⟨#[]⟩ : ByteArray),(⟨#[120]⟩ : ByteArray),(⟨#[121,122]⟩ : ByteArray)] : List ByteArray).map cB) rfl rfl) ?_
 intro g312
 exact aT (ei [1,2,3,4,5,0] <| kF 2 0 [2,3,28,29,30,32,33]) (by kernel_rfl) (hD8 (g162,g312))
 refine c5 (α := Nat) (fun zz => (fun (g312 : Nat) => [(28,.v (.slice b1a b1m.held.length b1c)),(29,aP g),(32,aP g),(33,.v (.slice (some ⟨g312,0,none⟩) 3 3))]) zz) [2,3,28,29,32,33] (fun _ => []) (fun zz => (fun (g312 : Nat) => [ap (aQ w B).heap.size 9 1 (.slice (some ⟨g312,0,none⟩) 3 3) (([(⟨#[]⟩ : ByteArray),(⟨#[120]⟩ : ByteArray),(⟨#[121,122]⟩ : ByteArray)] : List ByteArray).map cB)]) zz) 8 (bF 13 103) ?_ (fun hD9 => ?_)
 intro g312
 dsimp only [List.cons_append,List.nil_append]
 refine kA [3] <| gj 3 rfl (ax (bz rfl ar)) (bi (e := 3) (K := 1) (bytes := 8) [iI 0,iI 1,iI 20,iI 31,iI 32,iI (-1),iI 9223372036854775807] (rs := ([0,1,20,31,32,(-1),9223372036854775807] : List Int).map aq) rfl rfl) ?_
 intro g162
 exact aT (ei [1,2,3,4,0,5] <| kF 2 0 [2,3,28,29,30,32,33]) (by kernel_rfl) (hD8 (g162,g312))
 refine cG (α := Unit) (fun zz => (fun (u_ : Unit) => [(28,.v (.slice b1a b1m.held.length b1c)),(29,aP g),(32,aP g)]) zz) [2,3,28,29,32] 9 (bF 13 39) ?_ (fun hD0 => ?_)
 intro u_
 try dsimp only
 refine kA [3,6] ⟨?_,?_⟩
 refine gj 3 rfl (ax (bz rfl ar)) (bi (e := 3) (K := 1) (bytes := 8) [iI 0,iI 1,iI 20,iI 31,iI 32,iI (-1),iI 9223372036854775807] (rs := ([0,1,20,31,32,(-1),9223372036854775807] : List Int).map aq) rfl rfl) ?_
 intro g162
 exact aT (ei [1,2,3,4,0] <| kF 2 0 [2,3,28,29,30,32]) (by kernel_rfl) (hD1 (g162))
 refine gj 6 rfl (ax (bz rfl ar)) (bi (e := 9) (K := 1) (bytes := 16) [.string (⟨#[]⟩ : ByteArray),.string (⟨#[120]⟩ : ByteArray),.string (⟨#[121,122]⟩ : ByteArray)] (rs := ([(⟨#[]⟩ : ByteArray),(⟨#[120]⟩ : ByteArray),(⟨#[121,122]⟩ : ByteArray)] : List ByteArray).map cB) rfl rfl) ?_
 intro g312
 exact aT (ei [1,2,3,4,0] <| kF 2 0 [2,3,28,29,32,33]) (by kernel_rfl) (hD9 (g312))
 refine c5 (α := {zz : Nat × Int × Nat × ByteArray // (fun (g162 : Nat) (y213 : Int) (g312 : Nat) (y363 : ByteArray) => y363 ∈ ([(⟨#[]⟩ : ByteArray),(⟨#[120]⟩ : ByteArray),(⟨#[121,122]⟩ : ByteArray)] : List ByteArray)) zz.1 zz.2.1 zz.2.2.1 zz.2.2.2}) (fun zz => (fun (g162 : Nat) (y213 : Int) (g312 : Nat) (y363 : ByteArray) => [(28,.v (.slice b1a b1m.held.length b1c)),(35,.v (.agg (ff (⟨y213,y363⟩ : Pce)).toArray))]) zz.1.1 zz.1.2.1 zz.1.2.2.1 zz.1.2.2.2) [2,3,28,35] (fun _ => []) (fun zz => (fun (g162 : Nat) (y213 : Int) (g312 : Nat) (y363 : ByteArray) => [ap (aQ w B).heap.size 3 1 (.slice (some ⟨g162,0,none⟩) 7 7) (([0,1,20,31,32,(-1),9223372036854775807] : List Int).map aq),ap (aQ w B).heap.size 9 1 (.slice (some ⟨g312,0,none⟩) 3 3) (([(⟨#[]⟩ : ByteArray),(⟨#[120]⟩ : ByteArray),(⟨#[121,122]⟩ : ByteArray)] : List ByteArray).map cB)]) zz.1.1 zz.1.2.1 zz.1.2.2.1 zz.1.2.2.2) 4 (bF 13 511) ?_ (fun hD14 => ?_)
 rintro ⟨⟨g162,y213,g312,y363⟩,hy363⟩
 dsimp only [List.cons_append,List.nil_append]
 try dsimp only at hy363
 refine kA [9] <| gj 9 rfl (ax (bz rfl ar)) (bi (e := 85) (K := 2) (bytes := 24) [.agg (ff (⟨y213,y363⟩ : Pce)).toArray] (rs := ([⟨y213,y363⟩] : List Pce).map pC) rfl rfl) ?_
 intro g462
 exact aT (ei [1,2,3,4,5,0,6] <| kF 2 0 [2,3,28,36]) (by kernel_rfl) (hD5 ⟨(g162,y213,g312,y363,g462),hy363⟩)
 refine c5 (α := {zz : Nat × Int × Nat × ByteArray × Nat // (fun (g162 : Nat) (y213 : Int) (g312 : Nat) (y363 : ByteArray) (g462 : Nat) => y363 ∈ ([(⟨#[]⟩ : ByteArray),(⟨#[120]⟩ : ByteArray),(⟨#[121,122]⟩ : ByteArray)] : List ByteArray)) zz.1 zz.2.1 zz.2.2.1 zz.2.2.2.1 zz.2.2.2.2}) (fun zz => (fun (g162 : Nat) (y213 : Int) (g312 : Nat) (y363 : ByteArray) (g462 : Nat) => [(27,.p 1 2),(36,.v (.slice (some ⟨g462,0,none⟩) 1 1))]) zz.1.1 zz.1.2.1 zz.1.2.2.1 zz.1.2.2.2.1 zz.1.2.2.2.2) [2,3,27,36] (fun _ => []) (fun zz => (fun (g162 : Nat) (y213 : Int) (g312 : Nat) (y363 : ByteArray) (g462 : Nat) => [ap (aQ w B).heap.size 3 1 (.slice (some ⟨g162,0,none⟩) 7 7) (([0,1,20,31,32,(-1),9223372036854775807] : List Int).map aq),ap (aQ w B).heap.size 85 2 (.slice (some ⟨g462,0,none⟩) 1 1) (([⟨y213,y363⟩] : List Pce).map pC),ap (aQ w B).heap.size 9 1 (.slice (some ⟨g312,0,none⟩) 3 3) (([(⟨#[]⟩ : ByteArray),(⟨#[120]⟩ : ByteArray),(⟨#[121,122]⟩ : ByteArray)] : List ByteArray).map cB)]) zz.1.1 zz.1.2.1 zz.1.2.2.1 zz.1.2.2.2.1 zz.1.2.2.2.2) 4 (bF 13 1021) ?_ (fun hD15 => ?_)
 rintro ⟨⟨g162,y213,g312,y363,g462⟩,hy363⟩
 dsimp only [List.cons_append,List.nil_append]
 try dsimp only at hy363
 refine kA [1] <| fV 1 (.v (.slice b1a b1m.held.length b1c)) rfl ?_
 exact aT (kF 2 0 [2,3,28,36]) (by kernel_rfl) (hD5 ⟨(g162,y213,g312,y363,g462),hy363⟩)
 refine c5 (α := {zz : Nat × Int × Nat × ByteArray // (fun (g162 : Nat) (y213 : Int) (g312 : Nat) (y363 : ByteArray) => y363 ∈ ([(⟨#[]⟩ : ByteArray),(⟨#[120]⟩ : ByteArray),(⟨#[121,122]⟩ : ByteArray)] : List ByteArray)) zz.1 zz.2.1 zz.2.2.1 zz.2.2.2}) (fun zz => (fun (g162 : Nat) (y213 : Int) (g312 : Nat) (y363 : ByteArray) => [(27,.p 1 2),(31,aI y213),(34,.v (.string y363))]) zz.1.1 zz.1.2.1 zz.1.2.2.1 zz.1.2.2.2) [2,3,27,31,34] (fun _ => []) (fun zz => (fun (g162 : Nat) (y213 : Int) (g312 : Nat) (y363 : ByteArray) => [ap (aQ w B).heap.size 3 1 (.slice (some ⟨g162,0,none⟩) 7 7) (([0,1,20,31,32,(-1),9223372036854775807] : List Int).map aq),ap (aQ w B).heap.size 9 1 (.slice (some ⟨g312,0,none⟩) 3 3) (([(⟨#[]⟩ : ByteArray),(⟨#[120]⟩ : ByteArray),(⟨#[121,122]⟩ : ByteArray)] : List ByteArray).map cB)]) zz.1.1 zz.1.2.1 zz.1.2.2.1 zz.1.2.2.2) 6 (bF 13 253) ?_ (fun hD13 => ?_)
 rintro ⟨⟨g162,y213,g312,y363⟩,hy363⟩
 dsimp only [List.cons_append,List.nil_append]
 try dsimp only at hy363
 refine kX 8 (.agg (ff (⟨y213,y363⟩ : Pce)).toArray) rfl (fun _ _ ww hA => aN [(0,iI y213),(1,.string y363)] hA rfl (by kernel_rfl) (by kernel_rfl) ww) ?_
 refine kA [1,9] ⟨?_,?_⟩
 refine fV 1 (.v (.slice b1a b1m.held.length b1c)) rfl ?_
 exact aT (kF 2 0 [2,3,28,35]) (by kernel_rfl) (hD14 ⟨(g162,y213,g312,y363),hy363⟩)
 refine gj 9 rfl (ax (bz rfl ar)) (bi (e := 85) (K := 2) (bytes := 24) [.agg (ff (⟨y213,y363⟩ : Pce)).toArray] (rs := ([⟨y213,y363⟩] : List Pce).map pC) rfl rfl) ?_
 intro g462
 exact aT (ei [1,2,3,4,5,0,6] <| kF 2 0 [2,3,27,36]) (by kernel_rfl) (hD15 ⟨(g162,y213,g312,y363,g462),hy363⟩)
 refine c5 (α := Nat × Int × Nat) (fun zz => (fun (g162 : Nat) (y213 : Int) (g312 : Nat) => [(27,.p 1 2),(31,aI y213),(32,aP g),(33,.v (.slice (some ⟨g312,0,none⟩) 3 3))]) zz.1 zz.2.1 zz.2.2) [2,3,27,31,32,33] (fun _ => []) (fun zz => (fun (g162 : Nat) (y213 : Int) (g312 : Nat) => [ap (aQ w B).heap.size 3 1 (.slice (some ⟨g162,0,none⟩) 7 7) (([0,1,20,31,32,(-1),9223372036854775807] : List Int).map aq),ap (aQ w B).heap.size 9 1 (.slice (some ⟨g312,0,none⟩) 3 3) (([(⟨#[]⟩ : ByteArray),(⟨#[120]⟩ : ByteArray),(⟨#[121,122]⟩ : ByteArray)] : List ByteArray).map cB)]) zz.1 zz.2.1 zz.2.2) 7 (bF 13 125) ?_ (fun hD12 => ?_)
 rintro ⟨g162,y213,g312⟩
 dsimp only [List.cons_append,List.nil_append]
 refine kA [1,7] ⟨?_,?_⟩
 refine fV 1 (.v (.slice b1a b1m.held.length b1c)) rfl ?_
 exact aT (kF 2 0 [2,3,28,31,32,33]) (by kernel_rfl) (hD3 (g162,y213,g312))
 refine hQ (φ := ¬ (c7 (.slice (some ⟨g312,0,none⟩) 3 3) 1 (([(⟨#[]⟩ : ByteArray),(⟨#[120]⟩ : ByteArray),(⟨#[121,122]⟩ : ByteArray)] : List ByteArray).map cB)).blk g) (fun _ _ _ _ hr => fun hb => hr.2.apart 5 0 (ap (aQ w B).heap.size 9 1 (.slice (some ⟨g312,0,none⟩) 3 3) (([(⟨#[]⟩ : ByteArray),(⟨#[120]⟩ : ByteArray),(⟨#[121,122]⟩ : ByteArray)] : List ByteArray).map cB)) (cF B g A J cap) rfl rfl (by decide) rfl g (bK hb) rfl) (fun hk362 => ?_)
 refine gw 7 158 [gP g,.slice (some ⟨g312,0,none⟩) 3 3] (some 34) 0 rfl rfl hlo (ax (bz rfl ar)) (l1Pick_c_K hBw hap (fun ww hw hf => (aS (hf _ m5))) hk362 (by simp)) ?_
 rintro ⟨y363,hy363⟩
 exact aT (kF 2 0 [2,3,27,31,34]) (by kernel_rfl) (hD13 ⟨(g162,y213,g312,y363),hy363⟩)
 refine c5 (α := Nat × Int) (fun zz => (fun (g162 : Nat) (y213 : Int) => [(27,.p 1 2),(31,aI y213),(32,aP g)]) zz.1 zz.2) [2,3,27,31,32] (fun _ => []) (fun zz => (fun (g162 : Nat) (y213 : Int) => [ap (aQ w B).heap.size 3 1 (.slice (some ⟨g162,0,none⟩) 7 7) (([0,1,20,31,32,(-1),9223372036854775807] : List Int).map aq)]) zz.1 zz.2) 8 (bF 13 61) ?_ (fun hD11 => ?_)
 rintro ⟨g162,y213⟩
 dsimp only [List.cons_append,List.nil_append]
 refine kA [1,6] ⟨?_,?_⟩
 refine fV 1 (.v (.slice b1a b1m.held.length b1c)) rfl ?_
 exact aT (kF 2 0 [2,3,28,31,32]) (by kernel_rfl) (hD2 (g162,y213))
 refine gj 6 rfl (ax (bz rfl ar)) (bi (e := 9) (K := 1) (bytes := 16) [.string (⟨#[]⟩ : ByteArray),.string (⟨#[120]⟩ : ByteArray),.string (⟨#[121,122]⟩ : ByteArray)] (rs := ([(⟨#[]⟩ : ByteArray),(⟨#[120]⟩ : ByteArray),(⟨#[121,122]⟩ : ByteArray)] : List ByteArray).map cB) rfl rfl) ?_
 intro g312
 exact aT (ei [1,2,3,4,5,0] <| kF 2 0 [2,3,27,31,32,33]) (by kernel_rfl) (hD12 (g162,y213,g312))
 refine c5 (α := Nat × Nat) (fun zz => (fun (g162 : Nat) (g312 : Nat) => [(27,.p 1 2),(29,aP g),(30,.v (.slice (some ⟨g162,0,none⟩) 7 7)),(32,aP g),(33,.v (.slice (some ⟨g312,0,none⟩) 3 3))]) zz.1 zz.2) [2,3,27,29,30,32,33] (fun _ => []) (fun zz => (fun (g162 : Nat) (g312 : Nat) => [ap (aQ w B).heap.size 3 1 (.slice (some ⟨g162,0,none⟩) 7 7) (([0,1,20,31,32,(-1),9223372036854775807] : List Int).map aq),ap (aQ w B).heap.size 9 1 (.slice (some ⟨g312,0,none⟩) 3 3) (([(⟨#[]⟩ : ByteArray),(⟨#[120]⟩ : ByteArray),(⟨#[121,122]⟩ : ByteArray)] : List ByteArray).map cB)]) zz.1 zz.2) 8 (bF 13 109) ?_ (fun hD16 => ?_)
 rintro ⟨g162,g312⟩
 dsimp only [List.cons_append,List.nil_append]
 refine kA [1,4] ⟨?_,?_⟩
 refine fV 1 (.v (.slice b1a b1m.held.length b1c)) rfl ?_
 exact aT (kF 2 0 [2,3,28,29,30,32,33]) (by kernel_rfl) (hD8 (g162,g312))
 refine hQ (φ := ¬ (c7 (.slice (some ⟨g162,0,none⟩) 7 7) 1 (([0,1,20,31,32,(-1),9223372036854775807] : List Int).map aq)).blk g) (fun _ _ _ _ hr => fun hb => hr.2.apart 4 0 (ap (aQ w B).heap.size 3 1 (.slice (some ⟨g162,0,none⟩) 7 7) (([0,1,20,31,32,(-1),9223372036854775807] : List Int).map aq)) (cF B g A J cap) rfl rfl (by decide) rfl g (bK hb) rfl) (fun hk212 => ?_)
 refine gw 4 136 [gP g,.slice (some ⟨g162,0,none⟩) 7 7] (some 31) 0 rfl rfl hlo (ax (bz rfl ar)) (bp hBw hap (fun ww hw hf => (aS (hf _ m4))) hk212 (by simp)) ?_
 rintro ⟨y213,hy213⟩
 exact aT (kF 2 0 [2,3,27,31,32,33]) (by kernel_rfl) (hD12 (g162,y213,g312))
 refine c5 (α := Nat) (fun zz => (fun (g162 : Nat) => [(27,.p 1 2),(29,aP g),(30,.v (.slice (some ⟨g162,0,none⟩) 7 7)),(32,aP g)]) zz) [2,3,27,29,30,32] (fun _ => []) (fun zz => (fun (g162 : Nat) => [ap (aQ w B).heap.size 3 1 (.slice (some ⟨g162,0,none⟩) 7 7) (([0,1,20,31,32,(-1),9223372036854775807] : List Int).map aq)]) zz) 9 (bF 13 45) ?_ (fun hD10 => ?_)
 intro g162
 dsimp only [List.cons_append,List.nil_append]
 refine kA [1,4,6] ⟨?_,?_,?_⟩
 refine fV 1 (.v (.slice b1a b1m.held.length b1c)) rfl ?_
 exact aT (kF 2 0 [2,3,28,29,30,32]) (by kernel_rfl) (hD1 (g162))
 refine hQ (φ := ¬ (c7 (.slice (some ⟨g162,0,none⟩) 7 7) 1 (([0,1,20,31,32,(-1),9223372036854775807] : List Int).map aq)).blk g) (fun _ _ _ _ hr => fun hb => hr.2.apart 4 0 (ap (aQ w B).heap.size 3 1 (.slice (some ⟨g162,0,none⟩) 7 7) (([0,1,20,31,32,(-1),9223372036854775807] : List Int).map aq)) (cF B g A J cap) rfl rfl (by decide) rfl g (bK hb) rfl) (fun hk212 => ?_)
 refine gw 4 136 [gP g,.slice (some ⟨g162,0,none⟩) 7 7] (some 31) 0 rfl rfl hlo (ax (bz rfl ar)) (bp hBw hap (fun ww hw hf => (aS (hf _ m4))) hk212 (by simp)) ?_
 rintro ⟨y213,hy213⟩
 exact aT (kF 2 0 [2,3,27,31,32]) (by kernel_rfl) (hD11 (g162,y213))
 refine gj 6 rfl (ax (bz rfl ar)) (bi (e := 9) (K := 1) (bytes := 16) [.string (⟨#[]⟩ : ByteArray),.string (⟨#[120]⟩ : ByteArray),.string (⟨#[121,122]⟩ : ByteArray)] (rs := ([(⟨#[]⟩ : ByteArray),(⟨#[120]⟩ : ByteArray),(⟨#[121,122]⟩ : ByteArray)] : List ByteArray).map cB) rfl rfl) ?_
 intro g312
 exact aT (ei [1,2,3,4,5,0] <| kF 2 0 [2,3,27,29,30,32,33]) (by kernel_rfl) (hD16 (g162,g312))
 refine c5 (α := Nat) (fun zz => (fun (g312 : Nat) => [(27,.p 1 2),(29,aP g),(32,aP g),(33,.v (.slice (some ⟨g312,0,none⟩) 3 3))]) zz) [2,3,27,29,32,33] (fun _ => []) (fun zz => (fun (g312 : Nat) => [ap (aQ w B).heap.size 9 1 (.slice (some ⟨g312,0,none⟩) 3 3) (([(⟨#[]⟩ : ByteArray),(⟨#[120]⟩ : ByteArray),(⟨#[121,122]⟩ : ByteArray)] : List ByteArray).map cB)]) zz) 9 (bF 13 101) ?_ (fun hD17 => ?_)
 intro g312
 dsimp only [List.cons_append,List.nil_append]
 refine kA [1,3] ⟨?_,?_⟩
 refine fV 1 (.v (.slice b1a b1m.held.length b1c)) rfl ?_
 exact aT (kF 2 0 [2,3,28,29,32,33]) (by kernel_rfl) (hD9 (g312))
 refine gj 3 rfl (ax (bz rfl ar)) (bi (e := 3) (K := 1) (bytes := 8) [iI 0,iI 1,iI 20,iI 31,iI 32,iI (-1),iI 9223372036854775807] (rs := ([0,1,20,31,32,(-1),9223372036854775807] : List Int).map aq) rfl rfl) ?_
 intro g162
 exact aT (ei [1,2,3,4,0,5] <| kF 2 0 [2,3,27,29,30,32,33]) (by kernel_rfl) (hD16 (g162,g312))
 refine ca [0,2,5] [32,29,27,2,3] 10 [(32,aP g),(29,aP g),(27,.p 1 2),(2,.p 0 0),(3,.p 1 0)] <| kA [1,3,6] ⟨?_,?_,?_⟩
 refine fV 1 (.v (.slice b1a b1m.held.length b1c)) rfl ?_
 exact aT (kF 2 0 [2,3,28,29,32]) (by kernel_rfl) (hD0 ())
 refine gj 3 rfl (ax (bz rfl ar)) (bi (e := 3) (K := 1) (bytes := 8) [iI 0,iI 1,iI 20,iI 31,iI 32,iI (-1),iI 9223372036854775807] (rs := ([0,1,20,31,32,(-1),9223372036854775807] : List Int).map aq) rfl rfl) ?_
 intro g162
 exact aT (ei [1,2,3,4,0] <| kF 2 0 [2,3,27,29,30,32]) (by kernel_rfl) (hD10 (g162))
 refine gj 6 rfl (ax (bz rfl ar)) (bi (e := 9) (K := 1) (bytes := 16) [.string (⟨#[]⟩ : ByteArray),.string (⟨#[120]⟩ : ByteArray),.string (⟨#[121,122]⟩ : ByteArray)] (rs := ([(⟨#[]⟩ : ByteArray),(⟨#[120]⟩ : ByteArray),(⟨#[121,122]⟩ : ByteArray)] : List ByteArray).map cB) rfl rfl) ?_
 intro g312
 exact aT (ei [1,2,3,4,0] <| kF 2 0 [2,3,27,29,32,33]) (by kernel_rfl) (hD17 (g312))
 have h10p := bA h10
 refine kQ <| aR [0,2,3,39] [(39,aB (y2 == 4))] <| kC (y2 == 4) (fun h674 => ?_) (fun h674 => ?_)
 have h674p := bC h674
 refine kG <| dp 1 [2,3,41] [(41,aP g)] 133 [gP g,iI 3] (some 42) 0 rfl rfl hlo (ag hBw hap) ?_
 rintro ⟨y675,hy675⟩
 obtain ⟨hy6750,hy6751⟩ := hy675
 refine dh 1 [2,3,43] [(2,.p 0 0),(3,.p 1 0),(43,aI (K6.wrap (31 + y675)))] 144 [iI (K6.wrap (31 + y675))] (some 44) rfl (aA fun ww hf => l5Long_c (K6.wrap (31 + y675)) ww (by first | omega | (rw [ab (by omega) (by omega)]; omega))) ?_
 intro _
 refine kRB 2 [2,3] [(2,.p 0 0),(3,.p 1 0)] [⟨41,dl⟩,⟨41,ah { b1m with data := am (List.replicate ((K6.wrap (31 + y675))).toNat 0) } (.slice b1a b1m.held.length b1c)⟩] <| gW (st' := ⟨[(2,.p 0 0),(3,.p 1 0)],[⟨41,dl⟩,⟨41,ah { b1m with data := am (List.replicate ((31 + y675)).toNat 0) } (.slice b1a b1m.held.length b1c)⟩],[],[cF B g A J cap,ap (aQ w B).heap.size 85 2 (.slice b1a b1m.held.length b1c) (b1m.held.map pC),sQ A J cap,c9 w (fun b => b = g)]⟩) (by rw [show (K6.wrap (31 + y675)) = (31 + y675) from ab (by omega) (by omega)] <;> rfl) ?_
 refine aR [2,3] [] ?_
 exact ⟨⟨({ b1m with data := am (List.replicate ((31 + y675)).toNat 0) },b1a,b1c),⟨Nat.le_trans hb1.1 (by decide),hb1.2.1,(by show (am _).size ≤ 65; rw [bL,List.length_replicate]; omega)⟩⟩,ei [1,0,2,3] <| kF 2 0 [2,3]⟩
 have h674p := bA h674
 refine kK ?_
 exact ⟨⟨(b1m,b1a,b1c),⟨Nat.le_trans hb1.1 (by decide),hb1.2.1,hb1.2.2⟩⟩,ei [1,0,2,3] <| kF 2 0 [2,3]⟩
 rintro ⟨⟨q,A3,c3⟩,hq⟩
 try dsimp only
 try dsimp only at hq
 refine kQ <| bf [2] [(2,.p 0 0)] 0 ⟨41,ah q (.slice A3 q.held.length c3)⟩ <| kR ?_
 exact ⟨[.agg (ah q (.slice A3 q.held.length c3)).toArray],by kernel_rfl,fun w' hb hf ha => ⟨⟨(q,A3,c3),hq⟩,rfl,hf (cF B g A J cap) (by simp),rowF_raise (hf (ap (aQ w B).heap.size 85 2 (.slice A3 q.held.length c3) (q.held.map pC)) (by simp)) (eB ha (i := 0) (j := 1) (k := 3) rfl rfl rfl rfl (by decide) (by decide)),hgl,aY (hf (c9 w (fun b => b = g)) (by simp)) hb rfl rfl rfl⟩⟩
theorem l17Sender_c (g : Nat) (J : List Int) (A : Option Addr) (cap : Nat)  (w : World) (B : Nat) (hB : B ≤ w.heap.size) (hc : (cF B g A J cap).p w) (hl : Sl w (sJ A J cap) 1 (J.map bR)) (hap : ¬ (sQ A J cap).blk g) (hn : J.length ≤ 1048576)  : Calls Tryz.prog 156 #[gP g] w fun e w' => ∃ y : {y : Snd // True}, e = .returned (.agg (ai y.1).toArray) ∧ (cF B g A J cap).p w' ∧ Chgd (fun b => b = g) w w' := by
 have hq_code := Sl.capLe hl
 have hBw : B ≤ (aQ w B).heap.size := Nat.le_of_eq (bn hB).symm
 have hlo : ∀ (ww : World) (b : Nat),(cF B g A J cap).p ww → (cF B g A J cap).blk b → (aQ w B).heap.size ≤ b := fun ww b h hb => Nat.le_trans (ce w B) (cC h hb)
 refine cO (args := [gP g]) (fn := Tryz.f156) [cF B g A J cap,sQ A J cap,c9 w (fun b => b = g)] B Tryz.func156 rfl Tryz.ntmps156 rfl hB (by simp only [List.mem_cons,List.not_mem_nil,or_false,forall_eq_or_imp,forall_eq]; exact ⟨hc,hl,bJ w _⟩) (cu hap rfl) ?_
 refine kQ <| c8 [0,2] ⟨[(0,aP g),(2,.p 0 0)],[⟨38,fW⟩],[],[cF B g A J cap,sQ A J cap,c9 w (fun b => b = g)]⟩ <| kQ <| dp 1 [0,2,8] [(8,aP g)] 148 [gP g] (some 9) 0 rfl rfl hlo (cE hBw hap) ?_
 rintro ⟨y1,hy1⟩
 refine fh 0 [0,2,9] [] (.agg #[iI y1,.string (⟨#[]⟩ : ByteArray),iI 0,.bool false,.bool false,.bool false]) rfl (fun _ _ _ ww hr => aN [(0,iI y1)] hr.1 rfl (by kernel_rfl) (by kernel_rfl) ww) ?_
 refine i5 [0,2,3] [(3,.p 1 0)] [⟨38,[iI y1,.string (⟨#[]⟩ : ByteArray),iI 0,.bool false,.bool false,.bool false]⟩] <| kQ <| dp 1 [0,2,3,11] [(11,aP g)] 133 [gP g,iI 6] (some 12) 0 rfl rfl hlo (ag hBw hap) ?_
 rintro ⟨y2,hy2⟩
 obtain ⟨hy20,hy21⟩ := hy2
 refine aR [0,2,3,4] [(4,aI y2)] <| kS <| kQ <| aR [0,2,3,4,5] [(5,aI 0)] ?_
 refine aZ <| cz (α := {x : Nat × Snd // (fun (i : Nat) (s : Snd) => (i : Int) ≤ y2) x.1 x.2}) (fun x => (fun (i : Nat) (s : Snd) => (⟨[(0,aP g),(2,.p 0 0),(3,.p 1 0),(4,aI y2),(5,aI (i : Int))],[⟨38,fW⟩,⟨38,ai s⟩],[],[cF B g A J cap,sQ A J cap,c9 w (fun b => b = g)]⟩ : St)) x.1.1 x.1.2) (fun x => (fun (i : Nat) (s : Snd) => (y2).toNat - i) x.1.1 x.1.2) ⟨(0,⟨y1,(⟨#[]⟩ : ByteArray),0,false,false,false⟩),(by omega)⟩ (kF 2 0 [0,2,3,4,5]) ?_
 rintro ⟨⟨i,s⟩,hi⟩
 try dsimp only
 try dsimp only at hi
 refine kS <| kQ <| aR [0,2,3,4,5,15] [(15,aB (decide ((i : Int) < y2)))] <| kC (decide ((i : Int) < y2)) (fun h3 => ?_) (fun h3 => ?_)
 have h3p := of_decide_eq_true h3
 have hlt :  (i : Int) < y2 := of_decide_eq_true h3
 refine kK <| kS <| cf (α := {zz : Snd // (fun (s2 : Snd) => True) zz}) (fun zz => (fun (s2 : Snd) => (⟨[(0,aP g),(2,.p 0 0),(3,.p 1 0),(4,aI y2),(5,aI (i : Int))],[⟨38,fW⟩,⟨38,ai s2⟩],[],[cF B g A J cap,sQ A J cap,c9 w (fun b => b = g)]⟩ : St)) zz.1) ?_ ?_
 refine aZ <| kQ <| dp 1 [0,2,3,4,5,18] [(18,aP g)] 133 [gP g,iI 4] (some 19) 0 rfl rfl hlo (ag hBw hap) ?_
 rintro ⟨y4,hy4⟩
 obtain ⟨hy40,hy41⟩ := hy4
 refine aR [0,2,3,4,5,19] [] <| aZ <| kQ <| aR [0,2,3,4,5,19,27] [(27,aB (y4 == 0))] ?_
 refine kC (y4 == 0) (fun h5 => ?_) (fun h5 => ?_)
 have h5p := bC h5
 refine bc [true,false] (by kernel_rfl) (fun ρ σ => ?_)
 refine ca [1,2] [32,31,0,2,3,4,5] 9 [(32,aP g),(31,aP g),(0,aP g),(2,.p 0 0),(3,.p 1 0),(4,aI y2),(5,aI (i : Int))] <| kA [0,3] ⟨?_,?_⟩
 refine fV 0 (.v (.agg (ai s).toArray)) rfl <| kA [3] <| gw 3 133 [gP g,iI 20] (some 33) 0 rfl rfl hlo (ax (bz rfl ar)) (ag hBw hap) ?_
 rintro ⟨y6,hy6⟩
 obtain ⟨hy60,hy61⟩ := hy6
 refine kA [4] <| gw 4 151 [gP g,iI y6] (some 34) 0 rfl rfl hlo (ax (bz rfl ar)) (eE fun ww hw hf => fk g J A cap y6 ww B (Nat.le_trans (by first | exact Nat.le_refl _ | exact Nat.le_of_eq (bn hB).symm) hw) (hf (cF B g A J cap) (by simp)) (hf _ m1) hap (by omega) (by omega)) ?_
 rintro ⟨⟨b7l,b7a,b7c⟩,hb7⟩
 dsimp only at hb7
 refine kA [5] <| i7 5 (.string (am b7l)) rfl (fun _ _ ww hr => cb (e := 5) b7l hr.1 rfl (by kernel_rfl) (by kernel_rfl) (by kernel_rfl) rfl (aS (hr.2.fact (ap (aQ w B).heap.size 5 1 (.slice b7a b7l.length b7c) (b7l.map bR)) (by simp)).1)) ?_
 refine kA [6] <| dr 6 163 [.agg (ai s).toArray,.string (am b7l)] (some 36) rfl (aA fun ww hf => gX s (am b7l) ww  (by first | omega | (rw [bL]; omega))) ?_
 intro _
 refine eI [7,8,9] [37,0,2,3,4,5] 1 [(37,.v (.agg (ai (bk s (am b7l)).1).toArray))] <| kA [10] <| e8 10 1 0 (ai (bk s (am b7l)).1) rfl <| kZ ?_
 exact ⟨⟨((bk s (am b7l)).1),⟨⟩⟩,ei [1,2,3] <| kF 2 0 [0,2,3,4,5]⟩
 refine gw 3 133 [gP g,iI 20] (some 33) 0 rfl rfl hlo (ax (bz rfl ar)) (ag hBw hap) ?_
 rintro ⟨y8,hy8⟩
 obtain ⟨hy80,hy81⟩ := hy8
 refine kA [0,4] ⟨?_,?_⟩
 refine fV 0 (.v (.agg (ai s).toArray)) rfl <| kA [4] <| gw 4 151 [gP g,iI y8] (some 34) 0 rfl rfl hlo (ax (bz rfl ar)) (eE fun ww hw hf => fk g J A cap y8 ww B (Nat.le_trans (by first | exact Nat.le_refl _ | exact Nat.le_of_eq (bn hB).symm) hw) (hf (cF B g A J cap) (by simp)) (hf _ m1) hap (by omega) (by omega)) ?_
 rintro ⟨⟨b9l,b9a,b9c⟩,hb9⟩
 dsimp only at hb9
 refine kA [5] <| i7 5 (.string (am b9l)) rfl (fun _ _ ww hr => cb (e := 5) b9l hr.1 rfl (by kernel_rfl) (by kernel_rfl) (by kernel_rfl) rfl (aS (hr.2.fact (ap (aQ w B).heap.size 5 1 (.slice b9a b9l.length b9c) (b9l.map bR)) (by simp)).1)) ?_
 refine kA [6] <| dr 6 163 [.agg (ai s).toArray,.string (am b9l)] (some 36) rfl (aA fun ww hf => gX s (am b9l) ww  (by first | omega | (rw [bL]; omega))) ?_
 intro _
 refine eI [7,8,9] [37,0,2,3,4,5] 1 [(37,.v (.agg (ai (bk s (am b9l)).1).toArray))] <| kA [10] <| e8 10 1 0 (ai (bk s (am b9l)).1) rfl <| kZ ?_
 exact ⟨⟨((bk s (am b9l)).1),⟨⟩⟩,ei [1,2,3] <| kF 2 0 [0,2,3,4,5]⟩
 refine gw 4 151 [gP g,iI y8] (some 34) 0 rfl rfl hlo (ax (bz rfl ar)) (eE fun ww hw hf => fk g J A cap y8 ww B (Nat.le_trans (by first | exact Nat.le_refl _ | exact Nat.le_of_eq (bn hB).symm) hw) (hf (cF B g A J cap) (by simp)) (hf _ m1) hap (by omega) (by omega)) ?_
 rintro ⟨⟨b10l,b10a,b10c⟩,hb10⟩
 dsimp only at hb10
 refine kA [0,5] ⟨?_,?_⟩
 refine fV 0 (.v (.agg (ai s).toArray)) rfl <| kA [5] <| i7 5 (.string (am b10l)) rfl (fun _ _ ww hr => cb (e := 5) b10l hr.1 rfl (by kernel_rfl) (by kernel_rfl) (by kernel_rfl) rfl (aS (hr.2.fact (ap (aQ w B).heap.size 5 1 (.slice b10a b10l.length b10c) (b10l.map bR)) (by simp)).1)) ?_
 refine kA [6] <| dr 6 163 [.agg (ai s).toArray,.string (am b10l)] (some 36) rfl (aA fun ww hf => gX s (am b10l) ww  (by first | omega | (rw [bL]; omega))) ?_
 intro _
 refine eI [7,8,9] [37,0,2,3,4,5] 1 [(37,.v (.agg (ai (bk s (am b10l)).1).toArray))] <| kA [10] <| e8 10 1 0 (ai (bk s (am b10l)).1) rfl <| kZ ?_
 exact ⟨⟨((bk s (am b10l)).1),⟨⟩⟩,ei [1,2,3] <| kF 2 0 [0,2,3,4,5]⟩
 refine i7 5 (.string (am b10l)) rfl (fun _ _ ww hr => cb (e := 5) b10l hr.1 rfl (by kernel_rfl) (by kernel_rfl) (by kernel_rfl) rfl (aS (hr.2.fact (ap (aQ w B).heap.size 5 1 (.slice b10a b10l.length b10c) (b10l.map bR)) (by simp)).1)) ?_
 refine kA [0] <| fV 0 (.v (.agg (ai s).toArray)) rfl <| kA [6] <| dr 6 163 [.agg (ai s).toArray,.string (am b10l)] (some 36) rfl (aA fun ww hf => gX s (am b10l) ww  (by first | omega | (rw [bL]; omega))) ?_
 intro _
 refine eI [7,8,9] [37,0,2,3,4,5] 1 [(37,.v (.agg (ai (bk s (am b10l)).1).toArray))] <| kA [10] <| e8 10 1 0 (ai (bk s (am b10l)).1) rfl <| kZ ?_
 exact ⟨⟨((bk s (am b10l)).1),⟨⟩⟩,ei [1,2,3] <| kF 2 0 [0,2,3,4,5]⟩
 have h5p := bA h5
 refine kQ <| aJ [0,2,3,4,5,19,39] [(0,aP g),(2,.p 0 0),(3,.p 1 0),(4,aI y2),(5,aI (i : Int)),(19,aI y4),(39,aB (y4 == 1))] <| kC (y4 == 1) (fun h11 => ?_) (fun h11 => ?_)
 have h11p := bC h11
 refine kS <| bc [] (by kernel_rfl) (fun ρ σ => ?_)
 refine eI [0,1,4] [46,43,42,0,2,3,4,5] 11 [(46,aP g),(43,aP g),(42,.v (.agg (ai s).toArray))] <| kA [2,11] ⟨?_,?_⟩
 refine gw 2 133 [gP g,iI 40] (some 44) 0 rfl rfl hlo (ax (ax ar)) (ag hBw hap) ?_
 rintro ⟨y12,hy12⟩
 obtain ⟨hy120,hy121⟩ := hy12
 refine eI [3] [45,46,42,0,2,3,4,5] 9 [(45,aI (K6.wrap (1 + y12)))] <| kA [5,11] ⟨?_,?_⟩
 refine gw 5 133 [gP g,iI 16] (some 47) 0 rfl rfl hlo (ax (ax ar)) (ag hBw hap) ?_
 rintro ⟨y13,hy13⟩
 obtain ⟨hy130,hy131⟩ := hy13
 refine eI [6] [48,45,42,0,2,3,4,5] 7 [(48,aI (K6.wrap (1 + y13)))] <| kA [7,11] ⟨?_,?_⟩
 refine dr 7 89 [.agg (ai s).toArray,iI (K6.wrap (1 + y12)),iI (K6.wrap (1 + y13))] (some 49) rfl (aA fun ww hf => dH s (K6.wrap (1 + y12)) (K6.wrap (1 + y13)) ww  (by first | omega | (rw [ab (by omega) (by omega)]; omega))) ?_
 intro _
 refine eI [8,9,10] [51,50,0,2,3,4,5] 3 [(51,aB ((nC s (K6.wrap (1 + y12)) (K6.wrap (1 + y13))).2)),(50,.v (.agg (aH (nC s (K6.wrap (1 + y12)) (K6.wrap (1 + y13))).1).toArray))] <| kA [11] <| cK 11 ⟨107,aH (⟨0,(⟨#[]⟩ : ByteArray),false⟩ : Chk)⟩ _ rfl (by kernel_rfl) (by kernel_rfl) (by kernel_rfl) (by kernel_rfl) rfl ?_
 refine kA [12] <| e8 12 2 0 (aH (nC s (K6.wrap (1 + y12)) (K6.wrap (1 + y13))).1) rfl <| eI [13] [7,6,0,2,3,4,5] 0 [(7,aB ((nC s (K6.wrap (1 + y12)) (K6.wrap (1 + y13))).2))] <| kZ <| kQ <| aR [0,2,3,4,5,6,52] [(52,aB ((nC s (K6.wrap (1 + y12)) (K6.wrap (1 + y13))).2))] ?_
 refine kC ((nC s (K6.wrap (1 + y12)) (K6.wrap (1 + y13))).2) (fun h14 => ?_) (fun h14 => ?_)
 refine kG <| dy 2 [0,2,3,4,5,53,54] [(53,.v (.agg (ai s).toArray)),(54,.v (.agg (aH (nC s (K6.wrap (1 + y12)) (K6.wrap (1 + y13))).1).toArray))] 91 [.agg (ai s).toArray,.agg (aH (nC s (K6.wrap (1 + y12)) (K6.wrap (1 + y13))).1).toArray] (some 55) rfl (aA fun ww hf => gz s ((nC s (K6.wrap (1 + y12)) (K6.wrap (1 + y13))).1) ww  ) ?_
 intro _
 refine bf [0,2,3,4,5] [] 1 ⟨38,ai (sO s ((nC s (K6.wrap (1 + y12)) (K6.wrap (1 + y13))).1))⟩ ?_
 exact ⟨⟨((sO s ((nC s (K6.wrap (1 + y12)) (K6.wrap (1 + y13))).1))),⟨⟩⟩,kF 2 0 [0,2,3,4,5]⟩
 refine kK ?_
 exact ⟨⟨(s),⟨⟩⟩,kF 2 0 [0,2,3,4,5]⟩
 refine cK 11 ⟨107,aH (⟨0,(⟨#[]⟩ : ByteArray),false⟩ : Chk)⟩ _ rfl (by kernel_rfl) (by kernel_rfl) (by kernel_rfl) (by kernel_rfl) rfl ?_
 refine kA [7] <| dr 7 89 [.agg (ai s).toArray,iI (K6.wrap (1 + y12)),iI (K6.wrap (1 + y13))] (some 49) rfl (aA fun ww hf => dH s (K6.wrap (1 + y12)) (K6.wrap (1 + y13)) ww  (by first | omega | (rw [ab (by omega) (by omega)]; omega))) ?_
 intro _
 refine eI [8,9,10] [51,50,6,0,2,3,4,5] 2 [(51,aB ((nC s (K6.wrap (1 + y12)) (K6.wrap (1 + y13))).2)),(50,.v (.agg (aH (nC s (K6.wrap (1 + y12)) (K6.wrap (1 + y13))).1).toArray))] <| kA [12] <| e8 12 2 0 (aH (nC s (K6.wrap (1 + y12)) (K6.wrap (1 + y13))).1) rfl <| eI [13] [7,6,0,2,3,4,5] 0 [(7,aB ((nC s (K6.wrap (1 + y12)) (K6.wrap (1 + y13))).2))] ?_
 refine kZ <| kQ <| aR [0,2,3,4,5,6,52] [(52,aB ((nC s (K6.wrap (1 + y12)) (K6.wrap (1 + y13))).2))] <| kC ((nC s (K6.wrap (1 + y12)) (K6.wrap (1 + y13))).2) (fun h15 => ?_) (fun h15 => ?_)
 refine kG <| dy 2 [0,2,3,4,5,53,54] [(53,.v (.agg (ai s).toArray)),(54,.v (.agg (aH (nC s (K6.wrap (1 + y12)) (K6.wrap (1 + y13))).1).toArray))] 91 [.agg (ai s).toArray,.agg (aH (nC s (K6.wrap (1 + y12)) (K6.wrap (1 + y13))).1).toArray] (some 55) rfl (aA fun ww hf => gz s ((nC s (K6.wrap (1 + y12)) (K6.wrap (1 + y13))).1) ww  ) ?_
 intro _
 refine bf [0,2,3,4,5] [] 1 ⟨38,ai (sO s ((nC s (K6.wrap (1 + y12)) (K6.wrap (1 + y13))).1))⟩ ?_
 exact ⟨⟨((sO s ((nC s (K6.wrap (1 + y12)) (K6.wrap (1 + y13))).1))),⟨⟩⟩,kF 2 0 [0,2,3,4,5]⟩
 refine kK ?_
 exact ⟨⟨(s),⟨⟩⟩,kF 2 0 [0,2,3,4,5]⟩
 refine cK 11 ⟨107,aH (⟨0,(⟨#[]⟩ : ByteArray),false⟩ : Chk)⟩ _ rfl (by kernel_rfl) (by kernel_rfl) (by kernel_rfl) (by kernel_rfl) rfl ?_
 refine kA [5] <| gw 5 133 [gP g,iI 16] (some 47) 0 rfl rfl hlo (ax (ax ar)) (ag hBw hap) ?_
 rintro ⟨y16,hy16⟩
 obtain ⟨hy160,hy161⟩ := hy16
 refine eI [6] [48,6,45,42,0,2,3,4,5] 6 [(48,aI (K6.wrap (1 + y16)))] <| kA [7] <| dr 7 89 [.agg (ai s).toArray,iI (K6.wrap (1 + y12)),iI (K6.wrap (1 + y16))] (some 49) rfl (aA fun ww hf => dH s (K6.wrap (1 + y12)) (K6.wrap (1 + y16)) ww  (by first | omega | (rw [ab (by omega) (by omega)]; omega))) ?_
 intro _
 refine eI [8,9,10] [51,50,6,0,2,3,4,5] 2 [(51,aB ((nC s (K6.wrap (1 + y12)) (K6.wrap (1 + y16))).2)),(50,.v (.agg (aH (nC s (K6.wrap (1 + y12)) (K6.wrap (1 + y16))).1).toArray))] <| kA [12] <| e8 12 2 0 (aH (nC s (K6.wrap (1 + y12)) (K6.wrap (1 + y16))).1) rfl <| eI [13] [7,6,0,2,3,4,5] 0 [(7,aB ((nC s (K6.wrap (1 + y12)) (K6.wrap (1 + y16))).2))] ?_
 refine kZ <| kQ <| aR [0,2,3,4,5,6,52] [(52,aB ((nC s (K6.wrap (1 + y12)) (K6.wrap (1 + y16))).2))] <| kC ((nC s (K6.wrap (1 + y12)) (K6.wrap (1 + y16))).2) (fun h17 => ?_) (fun h17 => ?_)
 refine kG <| dy 2 [0,2,3,4,5,53,54] [(53,.v (.agg (ai s).toArray)),(54,.v (.agg (aH (nC s (K6.wrap (1 + y12)) (K6.wrap (1 + y16))).1).toArray))] 91 [.agg (ai s).toArray,.agg (aH (nC s (K6.wrap (1 + y12)) (K6.wrap (1 + y16))).1).toArray] (some 55) rfl (aA fun ww hf => gz s ((nC s (K6.wrap (1 + y12)) (K6.wrap (1 + y16))).1) ww  ) ?_
 intro _
 refine bf [0,2,3,4,5] [] 1 ⟨38,ai (sO s ((nC s (K6.wrap (1 + y12)) (K6.wrap (1 + y16))).1))⟩ ?_
 exact ⟨⟨((sO s ((nC s (K6.wrap (1 + y12)) (K6.wrap (1 + y16))).1))),⟨⟩⟩,kF 2 0 [0,2,3,4,5]⟩
 refine kK ?_
 exact ⟨⟨(s),⟨⟩⟩,kF 2 0 [0,2,3,4,5]⟩
 refine cK 11 ⟨107,aH (⟨0,(⟨#[]⟩ : ByteArray),false⟩ : Chk)⟩ _ rfl (by kernel_rfl) (by kernel_rfl) (by kernel_rfl) (by kernel_rfl) rfl ?_
 refine kA [2] <| gw 2 133 [gP g,iI 40] (some 44) 0 rfl rfl hlo (ax (ax ar)) (ag hBw hap) ?_
 rintro ⟨y18,hy18⟩
 obtain ⟨hy180,hy181⟩ := hy18
 refine eI [3] [45,6,46,42,0,2,3,4,5] 8 [(45,aI (K6.wrap (1 + y18)))] <| kA [5] <| gw 5 133 [gP g,iI 16] (some 47) 0 rfl rfl hlo (ax (ax ar)) (ag hBw hap) ?_
 rintro ⟨y19,hy19⟩
 obtain ⟨hy190,hy191⟩ := hy19
 refine eI [6] [48,45,6,42,0,2,3,4,5] 6 [(48,aI (K6.wrap (1 + y19)))] <| kA [7] <| dr 7 89 [.agg (ai s).toArray,iI (K6.wrap (1 + y18)),iI (K6.wrap (1 + y19))] (some 49) rfl (aA fun ww hf => dH s (K6.wrap (1 + y18)) (K6.wrap (1 + y19)) ww  (by first | omega | (rw [ab (by omega) (by omega)]; omega))) ?_
 intro _
 refine eI [8,9,10] [51,50,6,0,2,3,4,5] 2 [(51,aB ((nC s (K6.wrap (1 + y18)) (K6.wrap (1 + y19))).2)),(50,.v (.agg (aH (nC s (K6.wrap (1 + y18)) (K6.wrap (1 + y19))).1).toArray))] <| kA [12] <| e8 12 2 0 (aH (nC s (K6.wrap (1 + y18)) (K6.wrap (1 + y19))).1) rfl <| eI [13] [7,6,0,2,3,4,5] 0 [(7,aB ((nC s (K6.wrap (1 + y18)) (K6.wrap (1 + y19))).2))] ?_
 refine kZ <| kQ <| aR [0,2,3,4,5,6,52] [(52,aB ((nC s (K6.wrap (1 + y18)) (K6.wrap (1 + y19))).2))] <| kC ((nC s (K6.wrap (1 + y18)) (K6.wrap (1 + y19))).2) (fun h20 => ?_) (fun h20 => ?_)
 refine kG <| dy 2 [0,2,3,4,5,53,54] [(53,.v (.agg (ai s).toArray)),(54,.v (.agg (aH (nC s (K6.wrap (1 + y18)) (K6.wrap (1 + y19))).1).toArray))] 91 [.agg (ai s).toArray,.agg (aH (nC s (K6.wrap (1 + y18)) (K6.wrap (1 + y19))).1).toArray] (some 55) rfl (aA fun ww hf => gz s ((nC s (K6.wrap (1 + y18)) (K6.wrap (1 + y19))).1) ww  ) ?_
 intro _
 refine bf [0,2,3,4,5] [] 1 ⟨38,ai (sO s ((nC s (K6.wrap (1 + y18)) (K6.wrap (1 + y19))).1))⟩ ?_
 exact ⟨⟨((sO s ((nC s (K6.wrap (1 + y18)) (K6.wrap (1 + y19))).1))),⟨⟩⟩,kF 2 0 [0,2,3,4,5]⟩
 refine kK ?_
 exact ⟨⟨(s),⟨⟩⟩,kF 2 0 [0,2,3,4,5]⟩
 have h11p := bA h11
 refine kQ <| aR [0,2,3,4,5,56] [(56,aB (y4 == 2))] <| kC (y4 == 2) (fun h21 => ?_) (fun h21 => ?_)
 have h21p := bC h21
 refine bc [true,false] (by kernel_rfl) (fun ρ σ => ?_)
 refine xe_cut (α := {zz : Int // (fun (y373 : Int) => 0 ≤ y373 ∧ (0 < (K6.wrap ((aj s) + 1)) → y373 < (K6.wrap ((aj s) + 1)))) zz}) (fun zz => (fun (y373 : Int) => (⟨[(0,aP g),(2,.p 0 0),(3,.p 1 0),(4,aI y2),(5,aI (i : Int))],[⟨38,fW⟩,⟨38,ai (ae s (sA s.una y373)).1⟩],[],[cF B g A J cap,sQ A J cap,c9 w (fun b => b = g)]⟩ : St)) zz.1) 0 (bF 14 16383) ?_ (fun hD7 => ?_)
 rintro ⟨y373,hy373⟩
 try dsimp only
 try dsimp only at hy373
 obtain ⟨hy3730,hy3731⟩ := hy373
 refine kZ ?_
 exact ⟨⟨((ae s (sA s.una y373)).1),⟨⟩⟩,kF 2 0 [0,2,3,4,5]⟩
 refine cG (α := {zz : Int // (fun (y373 : Int) => 0 ≤ y373 ∧ (0 < (K6.wrap ((aj s) + 1)) → y373 < (K6.wrap ((aj s) + 1)))) zz}) (fun zz => (fun (y373 : Int) => [(68,.v (.tuple #[.agg (ai (ae s (sA s.una y373)).1).toArray,.bool ((ae s (sA s.una y373)).2)]))]) zz.1) [0,2,3,4,5,68] 4 (bF 14 1023) ?_ (fun hD6 => ?_)
 rintro ⟨y373,hy373⟩
 try dsimp only
 try dsimp only at hy373
 obtain ⟨hy3730,hy3731⟩ := hy373
 refine eI [10,11,12] [69,0,2,3,4,5] 1 [(69,.v (.agg (ai (ae s (sA s.una y373)).1).toArray))] <| kA [13] <| e8 13 1 0 (ai (ae s (sA s.una y373)).1) rfl ?_
 exact aT (kF 2 0 [0,2,3,4,5]) (by kernel_rfl) (hD7 ⟨(y373),⟨hy3730,hy3731⟩⟩)
 refine cG (α := {zz : Int // (fun (y373 : Int) => 0 ≤ y373 ∧ (0 < (K6.wrap ((aj s) + 1)) → y373 < (K6.wrap ((aj s) + 1)))) zz}) (fun zz => (fun (y373 : Int) => [(59,.v (.agg (ai s).toArray)),(67,aI (sA s.una y373))]) zz.1) [0,2,3,4,5,59,67] 5 (bF 14 511) ?_ (fun hD5 => ?_)
 rintro ⟨y373,hy373⟩
 try dsimp only
 try dsimp only at hy373
 obtain ⟨hy3730,hy3731⟩ := hy373
 refine kA [9] <| dr 9 74 [.agg (ai s).toArray,iI (sA s.una y373)] (some 68) rfl (aA fun ww hf => ysAcked_c s (sA s.una y373) ww  ) ?_
 intro _
 exact aT (kF 2 0 [0,2,3,4,5,68]) (by kernel_rfl) (hD6 ⟨(y373),⟨hy3730,hy3731⟩⟩)
 refine cG (α := {zz : Int // (fun (y373 : Int) => 0 ≤ y373 ∧ (0 < (K6.wrap ((aj s) + 1)) → y373 < (K6.wrap ((aj s) + 1)))) zz}) (fun zz => (fun (y373 : Int) => [(59,.v (.agg (ai s).toArray)),(61,aI s.una),(66,aI y373)]) zz.1) [0,2,3,4,5,59,61,66] 6 (bF 14 255) ?_ (fun hD4 => ?_)
 rintro ⟨y373,hy373⟩
 try dsimp only
 try dsimp only at hy373
 obtain ⟨hy3730,hy3731⟩ := hy373
 refine kA [8] <| dr 8 120 [iI s.una,iI y373] (some 67) rfl (bM fun ww hf => bG s.una y373 ww ) ?_
 intro _
 exact aT (kF 2 0 [0,2,3,4,5,59,67]) (by kernel_rfl) (hD5 ⟨(y373),⟨hy3730,hy3731⟩⟩)
 refine cG (α := Unit) (fun zz => (fun (u_ : Unit) => [(59,.v (.agg (ai s).toArray)),(61,aI s.una),(62,aP g),(64,aI (aj s))]) zz) [0,2,3,4,5,59,61,62,64] 8 (bF 14 63) ?_ (fun hD3 => ?_)
 intro u_
 try dsimp only
 refine eI [6] [65,0,2,3,4,5,59,61,62] 7 [(65,aI (K6.wrap ((aj s) + 1)))] <| kA [7] <| gw 7 133 [gP g,iI (K6.wrap ((aj s) + 1))] (some 66) 0 rfl rfl hlo (ax (bz rfl ar)) (ag hBw hap) ?_
 rintro ⟨y373,hy373⟩
 obtain ⟨hy3730,hy3731⟩ := hy373
 exact aT (kF 2 0 [0,2,3,4,5,59,61,66]) (by kernel_rfl) (hD4 ⟨(y373),⟨hy3730,hy3731⟩⟩)
 refine cG (α := Unit) (fun zz => (fun (u_ : Unit) => [(59,.v (.agg (ai s).toArray)),(61,aI s.una),(62,aP g),(63,.v (.agg (ai s).toArray))]) zz) [0,2,3,4,5,59,61,62,63] 9 (bF 14 31) ?_ (fun hD2 => ?_)
 intro u_
 try dsimp only
 refine kA [5] <| dr 5 77 [.agg (ai s).toArray] (some 64) rfl (aA fun ww hf => dB s.una s.data s.sent s.fin s.finSent s.done ww ) ?_
 intro _
 exact aT (kF 2 0 [0,2,3,4,5,59,61,62,64]) (by kernel_rfl) (hD3 ())
 refine cG (α := Unit) (fun zz => (fun (u_ : Unit) => [(59,.v (.agg (ai s).toArray)),(61,aI s.una),(62,aP g)]) zz) [0,2,3,4,5,59,61,62] 10 (bF 14 15) ?_ (fun hD1 => ?_)
 intro u_
 try dsimp only
 refine kA [4] <| fV 4 (.v (.agg (ai s).toArray)) rfl ?_
 exact aT (kF 2 0 [0,2,3,4,5,59,61,62,63]) (by kernel_rfl) (hD2 ())
 refine cG (α := Unit) (fun zz => (fun (u_ : Unit) => [(59,.v (.agg (ai s).toArray)),(61,aI s.una),(62,aP g),(65,aI (K6.wrap ((aj s) + 1)))]) zz) [0,2,3,4,5,59,61,62,65] 7 (bF 14 127) ?_ (fun hD10 => ?_)
 intro u_
 try dsimp only
 refine kA [7] <| gw 7 133 [gP g,iI (K6.wrap ((aj s) + 1))] (some 66) 0 rfl rfl hlo (ax (bz rfl ar)) (ag hBw hap) ?_
 rintro ⟨y373,hy373⟩
 obtain ⟨hy3730,hy3731⟩ := hy373
 exact aT (kF 2 0 [0,2,3,4,5,59,61,66]) (by kernel_rfl) (hD4 ⟨(y373),⟨hy3730,hy3731⟩⟩)
 refine cG (α := {zz : Int // (fun (y373 : Int) => 0 ≤ y373 ∧ (0 < (K6.wrap ((aj s) + 1)) → y373 < (K6.wrap ((aj s) + 1)))) zz}) (fun zz => (fun (y373 : Int) => [(59,.v (.agg (ai s).toArray)),(60,.p 1 0),(66,aI y373)]) zz.1) [0,2,3,4,5,59,60,66] 7 (bF 14 251) ?_ (fun hD11 => ?_)
 rintro ⟨y373,hy373⟩
 try dsimp only
 try dsimp only at hy373
 obtain ⟨hy3730,hy3731⟩ := hy373
 refine kA [2] <| fV 2 (aI s.una) rfl ?_
 exact aT (kF 2 0 [0,2,3,4,5,59,61,66]) (by kernel_rfl) (hD4 ⟨(y373),⟨hy3730,hy3731⟩⟩)
 refine cG (α := Unit) (fun zz => (fun (u_ : Unit) => [(59,.v (.agg (ai s).toArray)),(60,.p 1 0),(62,aP g),(64,aI (aj s))]) zz) [0,2,3,4,5,59,60,62,64] 9 (bF 14 59) ?_ (fun hD9 => ?_)
 intro u_
 try dsimp only
 refine eI [6] [65,0,2,3,4,5,59,60,62] 8 [(65,aI (K6.wrap ((aj s) + 1)))] <| kA [2,7] ⟨?_,?_⟩
 refine fV 2 (aI s.una) rfl ?_
 exact aT (kF 2 0 [0,2,3,4,5,59,61,62,65]) (by kernel_rfl) (hD10 ())
 refine gw 7 133 [gP g,iI (K6.wrap ((aj s) + 1))] (some 66) 0 rfl rfl hlo (ax (bz rfl ar)) (ag hBw hap) ?_
 rintro ⟨y373,hy373⟩
 obtain ⟨hy3730,hy3731⟩ := hy373
 exact aT (kF 2 0 [0,2,3,4,5,59,60,66]) (by kernel_rfl) (hD11 ⟨(y373),⟨hy3730,hy3731⟩⟩)
 refine cG (α := Unit) (fun zz => (fun (u_ : Unit) => [(59,.v (.agg (ai s).toArray)),(60,.p 1 0),(62,aP g),(63,.v (.agg (ai s).toArray))]) zz) [0,2,3,4,5,59,60,62,63] 10 (bF 14 27) ?_ (fun hD8 => ?_)
 intro u_
 try dsimp only
 refine kA [2,5] ⟨?_,?_⟩
 refine fV 2 (aI s.una) rfl ?_
 exact aT (kF 2 0 [0,2,3,4,5,59,61,62,63]) (by kernel_rfl) (hD2 ())
 refine dr 5 77 [.agg (ai s).toArray] (some 64) rfl (aA fun ww hf => dB s.una s.data s.sent s.fin s.finSent s.done ww ) ?_
 intro _
 exact aT (kF 2 0 [0,2,3,4,5,59,60,62,64]) (by kernel_rfl) (hD9 ())
 refine cG (α := Unit) (fun zz => (fun (u_ : Unit) => [(59,.v (.agg (ai s).toArray)),(60,.p 1 0),(62,aP g)]) zz) [0,2,3,4,5,59,60,62] 11 (bF 14 11) ?_ (fun hD0 => ?_)
 intro u_
 try dsimp only
 refine kA [2,4] ⟨?_,?_⟩
 refine fV 2 (aI s.una) rfl ?_
 exact aT (kF 2 0 [0,2,3,4,5,59,61,62]) (by kernel_rfl) (hD1 ())
 refine fV 4 (.v (.agg (ai s).toArray)) rfl ?_
 exact aT (kF 2 0 [0,2,3,4,5,59,60,62,63]) (by kernel_rfl) (hD8 ())
 refine cG (α := {zz : Int // (fun (y373 : Int) => 0 ≤ y373 ∧ (0 < (K6.wrap ((aj s) + 1)) → y373 < (K6.wrap ((aj s) + 1)))) zz}) (fun zz => (fun (y373 : Int) => [(67,aI (sA s.una y373))]) zz.1) [0,2,3,4,5,67] 6 (bF 14 510) ?_ (fun hD16 => ?_)
 rintro ⟨y373,hy373⟩
 try dsimp only
 try dsimp only at hy373
 obtain ⟨hy3730,hy3731⟩ := hy373
 refine kA [0] <| fV 0 (.v (.agg (ai s).toArray)) rfl ?_
 exact aT (kF 2 0 [0,2,3,4,5,59,67]) (by kernel_rfl) (hD5 ⟨(y373),⟨hy3730,hy3731⟩⟩)
 refine cG (α := {zz : Int // (fun (y373 : Int) => 0 ≤ y373 ∧ (0 < (K6.wrap ((aj s) + 1)) → y373 < (K6.wrap ((aj s) + 1)))) zz}) (fun zz => (fun (y373 : Int) => [(61,aI s.una),(66,aI y373)]) zz.1) [0,2,3,4,5,61,66] 7 (bF 14 254) ?_ (fun hD15 => ?_)
 rintro ⟨y373,hy373⟩
 try dsimp only
 try dsimp only at hy373
 obtain ⟨hy3730,hy3731⟩ := hy373
 refine kA [0,8] ⟨?_,?_⟩
 refine fV 0 (.v (.agg (ai s).toArray)) rfl ?_
 exact aT (kF 2 0 [0,2,3,4,5,59,61,66]) (by kernel_rfl) (hD4 ⟨(y373),⟨hy3730,hy3731⟩⟩)
 refine dr 8 120 [iI s.una,iI y373] (some 67) rfl (bM fun ww hf => bG s.una y373 ww ) ?_
 intro _
 exact aT (kF 2 0 [0,2,3,4,5,67]) (by kernel_rfl) (hD16 ⟨(y373),⟨hy3730,hy3731⟩⟩)
 refine cG (α := Unit) (fun zz => (fun (u_ : Unit) => [(61,aI s.una),(62,aP g),(64,aI (aj s))]) zz) [0,2,3,4,5,61,62,64] 9 (bF 14 62) ?_ (fun hD14 => ?_)
 intro u_
 try dsimp only
 refine eI [6] [65,0,2,3,4,5,61,62] 8 [(65,aI (K6.wrap ((aj s) + 1)))] <| kA [0,7] ⟨?_,?_⟩
 refine fV 0 (.v (.agg (ai s).toArray)) rfl ?_
 exact aT (kF 2 0 [0,2,3,4,5,59,61,62,65]) (by kernel_rfl) (hD10 ())
 refine gw 7 133 [gP g,iI (K6.wrap ((aj s) + 1))] (some 66) 0 rfl rfl hlo (ax (bz rfl ar)) (ag hBw hap) ?_
 rintro ⟨y373,hy373⟩
 obtain ⟨hy3730,hy3731⟩ := hy373
 exact aT (kF 2 0 [0,2,3,4,5,61,66]) (by kernel_rfl) (hD15 ⟨(y373),⟨hy3730,hy3731⟩⟩)
 refine cG (α := Unit) (fun zz => (fun (u_ : Unit) => [(61,aI s.una),(62,aP g),(63,.v (.agg (ai s).toArray))]) zz) [0,2,3,4,5,61,62,63] 10 (bF 14 30) ?_ (fun hD13 => ?_)
 intro u_
 try dsimp only
 refine kA [0,5] ⟨?_,?_⟩
 refine fV 0 (.v (.agg (ai s).toArray)) rfl ?_
 exact aT (kF 2 0 [0,2,3,4,5,59,61,62,63]) (by kernel_rfl) (hD2 ())
 refine dr 5 77 [.agg (ai s).toArray] (some 64) rfl (aA fun ww hf => dB s.una s.data s.sent s.fin s.finSent s.done ww ) ?_
 intro _
 exact aT (kF 2 0 [0,2,3,4,5,61,62,64]) (by kernel_rfl) (hD14 ())
 refine cG (α := Unit) (fun zz => (fun (u_ : Unit) => [(61,aI s.una),(62,aP g)]) zz) [0,2,3,4,5,61,62] 11 (bF 14 14) ?_ (fun hD12 => ?_)
 intro u_
 try dsimp only
 refine kA [0,4] ⟨?_,?_⟩
 refine fV 0 (.v (.agg (ai s).toArray)) rfl ?_
 exact aT (kF 2 0 [0,2,3,4,5,59,61,62]) (by kernel_rfl) (hD1 ())
 refine fV 4 (.v (.agg (ai s).toArray)) rfl ?_
 exact aT (kF 2 0 [0,2,3,4,5,61,62,63]) (by kernel_rfl) (hD13 ())
 refine cG (α := Unit) (fun zz => (fun (u_ : Unit) => [(59,.v (.agg (ai s).toArray)),(60,.p 1 0),(62,aP g),(65,aI (K6.wrap ((aj s) + 1)))]) zz) [0,2,3,4,5,59,60,62,65] 8 (bF 14 123) ?_ (fun hD19 => ?_)
 intro u_
 try dsimp only
 refine kA [2,7] ⟨?_,?_⟩
 refine fV 2 (aI s.una) rfl ?_
 exact aT (kF 2 0 [0,2,3,4,5,59,61,62,65]) (by kernel_rfl) (hD10 ())
 refine gw 7 133 [gP g,iI (K6.wrap ((aj s) + 1))] (some 66) 0 rfl rfl hlo (ax (bz rfl ar)) (ag hBw hap) ?_
 rintro ⟨y373,hy373⟩
 obtain ⟨hy3730,hy3731⟩ := hy373
 exact aT (kF 2 0 [0,2,3,4,5,59,60,66]) (by kernel_rfl) (hD11 ⟨(y373),⟨hy3730,hy3731⟩⟩)
 refine cG (α := Unit) (fun zz => (fun (u_ : Unit) => [(61,aI s.una),(62,aP g),(65,aI (K6.wrap ((aj s) + 1)))]) zz) [0,2,3,4,5,61,62,65] 8 (bF 14 126) ?_ (fun hD20 => ?_)
 intro u_
 try dsimp only
 refine kA [0,7] ⟨?_,?_⟩
 refine fV 0 (.v (.agg (ai s).toArray)) rfl ?_
 exact aT (kF 2 0 [0,2,3,4,5,59,61,62,65]) (by kernel_rfl) (hD10 ())
 refine gw 7 133 [gP g,iI (K6.wrap ((aj s) + 1))] (some 66) 0 rfl rfl hlo (ax (bz rfl ar)) (ag hBw hap) ?_
 rintro ⟨y373,hy373⟩
 obtain ⟨hy3730,hy3731⟩ := hy373
 exact aT (kF 2 0 [0,2,3,4,5,61,66]) (by kernel_rfl) (hD15 ⟨(y373),⟨hy3730,hy3731⟩⟩)
 refine cG (α := {zz : Int // (fun (y373 : Int) => 0 ≤ y373 ∧ (0 < (K6.wrap ((aj s) + 1)) → y373 < (K6.wrap ((aj s) + 1)))) zz}) (fun zz => (fun (y373 : Int) => [(60,.p 1 0),(66,aI y373)]) zz.1) [0,2,3,4,5,60,66] 8 (bF 14 250) ?_ (fun hD21 => ?_)
 rintro ⟨y373,hy373⟩
 try dsimp only
 try dsimp only at hy373
 obtain ⟨hy3730,hy3731⟩ := hy373
 refine kA [0,2] ⟨?_,?_⟩
 refine fV 0 (.v (.agg (ai s).toArray)) rfl ?_
 exact aT (kF 2 0 [0,2,3,4,5,59,60,66]) (by kernel_rfl) (hD11 ⟨(y373),⟨hy3730,hy3731⟩⟩)
 refine fV 2 (aI s.una) rfl ?_
 exact aT (kF 2 0 [0,2,3,4,5,61,66]) (by kernel_rfl) (hD15 ⟨(y373),⟨hy3730,hy3731⟩⟩)
 refine cG (α := Unit) (fun zz => (fun (u_ : Unit) => [(60,.p 1 0),(62,aP g),(64,aI (aj s))]) zz) [0,2,3,4,5,60,62,64] 10 (bF 14 58) ?_ (fun hD18 => ?_)
 intro u_
 try dsimp only
 refine eI [6] [65,0,2,3,4,5,60,62] 9 [(65,aI (K6.wrap ((aj s) + 1)))] <| kA [0,2,7] ⟨?_,?_,?_⟩
 refine fV 0 (.v (.agg (ai s).toArray)) rfl ?_
 exact aT (kF 2 0 [0,2,3,4,5,59,60,62,65]) (by kernel_rfl) (hD19 ())
 refine fV 2 (aI s.una) rfl ?_
 exact aT (kF 2 0 [0,2,3,4,5,61,62,65]) (by kernel_rfl) (hD20 ())
 refine gw 7 133 [gP g,iI (K6.wrap ((aj s) + 1))] (some 66) 0 rfl rfl hlo (ax (bz rfl ar)) (ag hBw hap) ?_
 rintro ⟨y373,hy373⟩
 obtain ⟨hy3730,hy3731⟩ := hy373
 exact aT (kF 2 0 [0,2,3,4,5,60,66]) (by kernel_rfl) (hD21 ⟨(y373),⟨hy3730,hy3731⟩⟩)
 refine cG (α := Unit) (fun zz => (fun (u_ : Unit) => [(60,.p 1 0),(62,aP g),(63,.v (.agg (ai s).toArray))]) zz) [0,2,3,4,5,60,62,63] 11 (bF 14 26) ?_ (fun hD17 => ?_)
 intro u_
 try dsimp only
 refine kA [0,2,5] ⟨?_,?_,?_⟩
 refine fV 0 (.v (.agg (ai s).toArray)) rfl ?_
 exact aT (kF 2 0 [0,2,3,4,5,59,60,62,63]) (by kernel_rfl) (hD8 ())
 refine fV 2 (aI s.una) rfl ?_
 exact aT (kF 2 0 [0,2,3,4,5,61,62,63]) (by kernel_rfl) (hD13 ())
 refine dr 5 77 [.agg (ai s).toArray] (some 64) rfl (aA fun ww hf => dB s.una s.data s.sent s.fin s.finSent s.done ww ) ?_
 intro _
 exact aT (kF 2 0 [0,2,3,4,5,60,62,64]) (by kernel_rfl) (hD18 ())
 refine eI [1,3] [62,60,0,2,3,4,5] 12 [(62,aP g),(60,.p 1 0)] <| kA [0,2,4] ⟨?_,?_,?_⟩
 refine fV 0 (.v (.agg (ai s).toArray)) rfl ?_
 exact aT (kF 2 0 [0,2,3,4,5,59,60,62]) (by kernel_rfl) (hD0 ())
 refine fV 2 (aI s.una) rfl ?_
 exact aT (kF 2 0 [0,2,3,4,5,61,62]) (by kernel_rfl) (hD12 ())
 refine fV 4 (.v (.agg (ai s).toArray)) rfl ?_
 exact aT (kF 2 0 [0,2,3,4,5,60,62,63]) (by kernel_rfl) (hD17 ())
 have h21p := bA h21
 refine kG <| cA 3 [0,2,3,4,5,22] [(22,aB s.fin)] <| kP 22 (s.fin) (fun h723 => ?_) (fun h723 => ?_)
 refine bf [0,2,3,4,5] [] 1 ⟨38,ai { s with fin := true }⟩ ?_
 exact ⟨⟨({ s with fin := true }),⟨⟩⟩,kF 2 0 [0,2,3,4,5]⟩
 refine dp 1 [0,2,3,4,5,22,23] [(22,aB false),(23,aP g)] 110 [gP g,iI 2] (some 24) 0 rfl rfl hlo (bO hBw hap) ?_
 rintro ⟨y724,hy724⟩
 refine bf [0,2,3,4,5] [] 1 ⟨38,ai { s with fin := y724 }⟩ ?_
 exact ⟨⟨({ s with fin := y724 }),⟨⟩⟩,kF 2 0 [0,2,3,4,5]⟩
 rintro ⟨s2,-⟩
 try dsimp only
 refine kG <| cA 3 [0,2,3,4,5] [(5,aI (K6.wrap ((i : Int) + 1)))] <| cJ [0,2,3,4,5] [(5,aI (K6.wrap ((i : Int) + 1)))] [(5,aI ((i : Int) + 1))] (by rw [show (K6.wrap ((i : Int) + 1)) = ((i : Int) + 1) from ab (by omega) (by omega)]) (by kernel_rfl) ?_
 refine aR [0,2,3,4,5] [] ?_
 exact ⟨⟨(i + 1,s2),(by omega)⟩,kF 2 0 [0,2,3,4,5],by show (fun (i : Nat) (s : Snd) => (y2).toNat - i) (i + 1) s2 < (y2).toNat - i; (dsimp only; omega)⟩
 have h3p := of_decide_eq_false h3
 have hge : ¬ (i : Int) < y2 := of_decide_eq_false h3
 refine cq <| kQ <| bf [2] [(2,.p 0 0)] 0 ⟨38,ai s⟩ <| kR ?_
 exact ⟨[.agg (ai s).toArray],by kernel_rfl,fun w' hb hf => ⟨⟨s,trivial⟩,rfl,hf (cF B g A J cap) (by simp),aY (hf (c9 w (fun b => b = g)) (by simp)) hb rfl rfl rfl⟩⟩
theorem l17Sender_c_K {g : Nat} {J : List Int} {A : Option Addr} {cap : Nat}  {w0 : World} {fs : List Fact} {B : Nat} (hB : B ≤ w0.heap.size) (hap : ¬ (sQ A J cap).blk g)  (hn : J.length ≤ 1048576 := by omega) (h1 : cF B g A J cap ∈ fs := by simp) (h2 : sQ A J cap ∈ fs := by simp) : XCM Tryz.prog w0 fs (cF B g A J cap).blk 156 [gP g] (α := {y : Snd // True}) (fun y => .agg (ai y.1).toArray) (fun _ => [cF B g A J cap]) := dq fun w hw hf => l17Sender_c g J A cap  w B (Nat.le_trans hB hw) (hf _ h1) (hf _ h2) hap hn  
theorem l17Bent_c (g : Nat) (J : List Int) (A : Option Addr) (cap : Nat)  (w : World) (B : Nat) (hB : B ≤ w.heap.size) (hc : (cF B g A J cap).p w) (hl : Sl w (sJ A J cap) 1 (J.map bR)) (hap : ¬ (sQ A J cap).blk g) (hn : J.length ≤ 1048576)  : Calls Tryz.prog 134 #[gP g] w fun e w' => ∃ y : {y : Snd // True}, e = .returned (.agg (ai y.1).toArray) ∧ (cF B g A J cap).p w' ∧ Chgd (fun b => b = g) w w' := by
 have hq_code := Sl.capLe hl
 have hBw : B ≤ (aQ w B).heap.size := Nat.le_of_eq (bn hB).symm
 have hlo : ∀ (ww : World) (b : Nat),(cF B g A J cap).p ww → (cF B g A J cap).blk b → (aQ w B).heap.size ≤ b := fun ww b h hb => Nat.le_trans (ce w B) (cC h hb)
 refine cO (args := [gP g]) (fn := Tryz.f134) [cF B g A J cap,sQ A J cap,c9 w (fun b => b = g)] B Tryz.func134 rfl Tryz.ntmps134 rfl hB (by simp only [List.mem_cons,List.not_mem_nil,or_false,forall_eq_or_imp,forall_eq]; exact ⟨hc,hl,bJ w _⟩) (cu hap rfl) ?_
 refine kQ <| c8 [0,2] ⟨[(0,aP g),(2,.p 0 0)],[⟨38,fW⟩],[],[cF B g A J cap,sQ A J cap,c9 w (fun b => b = g)]⟩ <| kQ <| dp 1 [0,2,4] [(4,aP g)] 156 [gP g] (some 5) 0 rfl rfl hlo (l17Sender_c_K hBw hap) ?_
 rintro ⟨y1,hy1⟩
 refine i5 [0,2,3] [(3,.p 1 0)] [⟨38,ai y1⟩] <| kS <| kQ <| dp 1 [0,2,3,6] [(6,aP g)] 133 [gP g,iI 10] (some 7) 0 rfl rfl hlo (ag hBw hap) ?_
 rintro ⟨y2,hy2⟩
 obtain ⟨hy20,hy21⟩ := hy2
 refine aR [0,2,3,7] [] <| aZ <| kQ <| aR [0,2,3,7,8] [(8,aB (y2 == 0))] ?_
 refine kC (y2 == 0) (fun h3 => ?_) (fun h3 => ?_)
 have h3p := bC h3
 refine kG <| dp 1 [2,3,10] [(10,aP g)] 143 [gP g] (some 11) 0 rfl rfl hlo (dK hBw hap) ?_
 rintro ⟨y4,hy4⟩
 refine bf [2,3] [] 1 ⟨38,ai { y1 with una := y4 }⟩ <| kQ <| bf [2] [(2,.p 0 0)] 0 ⟨38,ai { y1 with una := y4 }⟩ <| kR ?_
 exact ⟨[.agg (ai { y1 with una := y4 }).toArray],by kernel_rfl,fun w' hb hf => ⟨⟨{ y1 with una := y4 },trivial⟩,rfl,hf (cF B g A J cap) (by simp),aY (hf (c9 w (fun b => b = g)) (by simp)) hb rfl rfl rfl⟩⟩
 have h3p := bA h3
 refine kQ <| aR [0,2,3,7,13] [(13,aB (y2 == 1))] <| kC (y2 == 1) (fun h5 => ?_) (fun h5 => ?_)
 have h5p := bC h5
 refine kG <| kHD 5 [2,3,15,19] [(15,aP g),(19,aI (K6.wrap ((y1.data.size : Int) + 1)))] rfl (bi (e := 3) (K := 1) (bytes := 8) [iI (-1),iI 0,iI 48,iI 49,iI (K6.wrap ((y1.data.size : Int) + 1))] (rs := ([(-1),0,48,49,K6.wrap ((y1.data.size : Int) + 1)] : List Int).map aq) rfl rfl) ?_
 intro g6
 refine dd (φ := ¬ (c7 (.slice (some ⟨g6,0,none⟩) 5 5) 1 (([(-1),0,48,49,K6.wrap ((y1.data.size : Int) + 1)] : List Int).map aq)).blk g) (fun _ _ _ _ hr => fun hb => hr.2.apart 0 1 (ap (aQ w B).heap.size 3 1 (.slice (some ⟨g6,0,none⟩) 5 5) (([(-1),0,48,49,K6.wrap ((y1.data.size : Int) + 1)] : List Int).map aq)) (cF B g A J cap) rfl rfl (by decide) rfl g (bK hb) rfl) (fun hk7 => ?_)
 refine dp 0 [2,3,15,20] [] 136 [gP g,.slice (some ⟨g6,0,none⟩) 5 5] (some 21) 1 rfl rfl hlo (bp hBw hap (fun ww hw hf => (aS (hf _ m0))) hk7 (by simp)) ?_
 rintro ⟨y8,hy8⟩
 refine bf [2,3] [] 1 ⟨38,ai { y1 with sent := y8 }⟩ <| kQ <| bf [2] [(2,.p 0 0)] 0 ⟨38,ai { y1 with sent := y8 }⟩ <| kR ?_
 exact ⟨[.agg (ai { y1 with sent := y8 }).toArray],by kernel_rfl,fun w' hb hf => ⟨⟨{ y1 with sent := y8 },trivial⟩,rfl,hf (cF B g A J cap) (by simp),aY (hf (c9 w (fun b => b = g)) (by simp)) hb rfl rfl rfl⟩⟩
 have h5p := bA h5
 refine kQ <| aR [0,2,3,7,23] [(23,aB (y2 == 2))] <| kC (y2 == 2) (fun h9 => ?_) (fun h9 => ?_)
 have h9p := bC h9
 refine kG <| bf [2,3] [] 1 ⟨38,ai { y1 with finSent := !y1.finSent }⟩ <| kQ <| bf [2] [(2,.p 0 0)] 0 ⟨38,ai { y1 with finSent := !y1.finSent }⟩ ?_
 refine kR ?_
 exact ⟨[.agg (ai { y1 with finSent := !y1.finSent }).toArray],by kernel_rfl,fun w' hb hf => ⟨⟨{ y1 with finSent := !y1.finSent },trivial⟩,rfl,hf (cF B g A J cap) (by simp),aY (hf (c9 w (fun b => b = g)) (by simp)) hb rfl rfl rfl⟩⟩
 have h9p := bA h9
 refine kQ <| aR [0,2,3,7,29] [(29,aB (y2 == 3))] <| kC (y2 == 3) (fun h10 => ?_) (fun h10 => ?_)
 have h10p := bC h10
 refine kG <| bf [2,3] [] 1 ⟨38,ai { y1 with done := !y1.done }⟩ <| kQ <| bf [2] [(2,.p 0 0)] 0 ⟨38,ai { y1 with done := !y1.done }⟩ ?_
 refine kR ?_
 exact ⟨[.agg (ai { y1 with done := !y1.done }).toArray],by kernel_rfl,fun w' hb hf => ⟨⟨{ y1 with done := !y1.done },trivial⟩,rfl,hf (cF B g A J cap) (by simp),aY (hf (c9 w (fun b => b = g)) (by simp)) hb rfl rfl rfl⟩⟩
 have h10p := bA h10
 refine kQ <| aR [0,2,3,35] [(35,aB (y2 == 4))] <| kC (y2 == 4) (fun h11 => ?_) (fun h11 => ?_)
 have h11p := bC h11
 refine kG <| dp 1 [2,3,37] [(37,aP g)] 133 [gP g,iI 3] (some 38) 0 rfl rfl hlo (ag hBw hap) ?_
 rintro ⟨y12,hy12⟩
 obtain ⟨hy120,hy121⟩ := hy12
 refine dh 1 [2,3,39] [(2,.p 0 0),(3,.p 1 0),(39,aI (K6.wrap (47 + y12)))] 144 [iI (K6.wrap (47 + y12))] (some 40) rfl (aA fun ww hf => l5Long_c (K6.wrap (47 + y12)) ww (by first | omega | (rw [ab (by omega) (by omega)]; omega))) ?_
 intro _
 refine bf [2,3] [] 1 ⟨38,ai { y1 with data := am (List.replicate ((K6.wrap (47 + y12))).toNat 0) }⟩ <| kQ <| bf [2] [(2,.p 0 0)] 0 ⟨38,ai { y1 with data := am (List.replicate ((K6.wrap (47 + y12))).toNat 0) }⟩ <| kR ?_
 exact ⟨[.agg (ai { y1 with data := am (List.replicate ((K6.wrap (47 + y12))).toNat 0) }).toArray],by kernel_rfl,fun w' hb hf => ⟨⟨{ y1 with data := am (List.replicate ((K6.wrap (47 + y12))).toNat 0) },trivial⟩,rfl,hf (cF B g A J cap) (by simp),aY (hf (c9 w (fun b => b = g)) (by simp)) hb rfl rfl rfl⟩⟩
 have h11p := bA h11
 refine kK <| kQ <| bf [2] [(2,.p 0 0)] 0 ⟨38,ai y1⟩ <| kR ?_
 exact ⟨[.agg (ai y1).toArray],by kernel_rfl,fun w' hb hf => ⟨⟨y1,trivial⟩,rfl,hf (cF B g A J cap) (by simp),aY (hf (c9 w (fun b => b = g)) (by simp)) hb rfl rfl rfl⟩⟩
theorem l17Bent_c_K {g : Nat} {J : List Int} {A : Option Addr} {cap : Nat}  {w0 : World} {fs : List Fact} {B : Nat} (hB : B ≤ w0.heap.size) (hap : ¬ (sQ A J cap).blk g)  (hn : J.length ≤ 1048576 := by omega) (h1 : cF B g A J cap ∈ fs := by simp) (h2 : sQ A J cap ∈ fs := by simp) : XCM Tryz.prog w0 fs (cF B g A J cap).blk 134 [gP g] (α := {y : Snd // True}) (fun y => .agg (ai y.1).toArray) (fun _ => [cF B g A J cap]) := dq fun w hw hf => l17Bent_c g J A cap  w B (Nat.le_trans hB hw) (hf _ h1) (hf _ h2) hap hn  
theorem l4Near_c (g : Nat) (J : List Int) (A : Option Addr) (cap : Nat) (x : Int) (w : World) (B : Nat) (hB : B ≤ w.heap.size) (hc : (cF B g A J cap).p w) (hl : Sl w (sJ A J cap) 1 (J.map bR)) (hap : ¬ (sQ A J cap).blk g) (hn : J.length ≤ 1048576)  : Calls Tryz.prog 141 #[gP g, iI x] w fun e w' => ∃ y : {y : Int // True}, e = .returned (iI y.1) ∧ (cF B g A J cap).p w' ∧ Chgd (fun b => b = g) w w' := by
 have hq_code := Sl.capLe hl
 have hBw : B ≤ (aQ w B).heap.size := Nat.le_of_eq (bn hB).symm
 have hlo : ∀ (ww : World) (b : Nat),(cF B g A J cap).p ww → (cF B g A J cap).blk b → (aQ w B).heap.size ≤ b := fun ww b h hb => Nat.le_trans (ce w B) (cC h hb)
 refine cO (args := [gP g,iI x]) (fn := Tryz.f141) [cF B g A J cap,sQ A J cap,c9 w (fun b => b = g)] B Tryz.func141 rfl Tryz.ntmps141 rfl hB (by simp only [List.mem_cons,List.not_mem_nil,or_false,forall_eq_or_imp,forall_eq]; exact ⟨hc,hl,bJ w _⟩) (cu hap rfl) ?_
 refine kQ <| c8 [0,1] ⟨[(0,aP g),(1,aI x)],[],[],[cF B g A J cap,sQ A J cap,c9 w (fun b => b = g)]⟩ <| kS <| kQ <| dp 1 [0,1,5] [(5,aP g)] 133 [gP g,iI 4] (some 6) 0 rfl rfl hlo (ag hBw hap) ?_
 rintro ⟨y1,hy1⟩
 obtain ⟨hy10,hy11⟩ := hy1
 refine aR [0,1,6] [] <| aZ <| kQ <| aR [0,1,6,7] [(7,aB (y1 == 0))] ?_
 refine kC (y1 == 0) (fun h2 => ?_) (fun h2 => ?_)
 have h2p := bC h2
 refine kQ <| kWS 1 [9] [(9,aP g)] 159 [gP g] (some 10) 0 rfl rfl hlo (l4Place_c_K hBw hap) ?_
 rintro ⟨y3,hy3⟩
 refine aJ [4] [(4,aI y3)] <| kR ?_
 exact ⟨[iI y3],by kernel_rfl,fun w' hb hf => ⟨⟨y3,trivial⟩,rfl,hf (cF B g A J cap) (by simp),aY (hf (c9 w (fun b => b = g)) (by simp)) hb rfl rfl rfl⟩⟩
 have h2p := bA h2
 refine kQ <| aR [0,1,11] [(11,aB (y1 == 1))] <| kC (y1 == 1) (fun h4 => ?_) (fun h4 => ?_)
 have h4p := bC h4
 refine kQ <| kHS 2 [13,14] [(13,aI x),(14,aP g)] rfl (bi (e := 3) (K := 1) (bytes := 8) [iI 2147483647,iI 2147483648,iI (-1),iI 1,iI 0] (rs := ([2147483647,2147483648,(-1),1,0] : List Int).map aq) rfl rfl) ?_
 intro g5
 refine dd (φ := ¬ (c7 (.slice (some ⟨g5,0,none⟩) 5 5) 1 (([2147483647,2147483648,(-1),1,0] : List Int).map aq)).blk g) (fun _ _ _ _ hr => fun hb => hr.2.apart 0 1 (ap (aQ w B).heap.size 3 1 (.slice (some ⟨g5,0,none⟩) 5 5) (([2147483647,2147483648,(-1),1,0] : List Int).map aq)) (cF B g A J cap) rfl rfl (by decide) rfl g (bK hb) rfl) (fun hk6 => ?_)
 refine dp 0 [13,14,15] [] 136 [gP g,.slice (some ⟨g5,0,none⟩) 5 5] (some 16) 1 rfl rfl hlo (bp hBw hap (fun ww hw hf => (aS (hf _ m0))) hk6 (by simp)) ?_
 rintro ⟨y7,hy7⟩
 refine dy 0 [13,16] [] 120 [iI x,iI y7] (some 17) rfl (bM fun ww hf => bG x y7 ww ) ?_
 intro _
 refine aJ [4] [(4,aI (sA x y7))] <| kR ?_
 exact ⟨[iI (sA x y7)],by kernel_rfl,fun w' hb hf => ⟨⟨sA x y7,trivial⟩,rfl,hf (cF B g A J cap) (by simp),aY (hf (c9 w (fun b => b = g)) (by simp)) hb rfl rfl rfl⟩⟩
 have h4p := bA h4
 refine kK <| kQ <| kWS 2 [18,19] [(18,aI x),(19,aP g)] 133 [gP g,iI 41] (some 20) 0 rfl rfl hlo (ag hBw hap) ?_
 rintro ⟨y8,hy8⟩
 obtain ⟨hy80,hy81⟩ := hy8
 refine dy 1 [18,21] [(21,aI (K6.wrap (y8 - 20)))] 120 [iI x,iI (K6.wrap (y8 - 20))] (some 22) rfl (bM fun ww hf => bG x (K6.wrap (y8 - 20)) ww ) ?_
 intro _
 refine aJ [4] [(4,aI (sA x (K6.wrap (y8 - 20))))] <| kR ?_
 exact ⟨[iI (sA x (K6.wrap (y8 - 20)))],by kernel_rfl,fun w' hb hf => ⟨⟨sA x (K6.wrap (y8 - 20)),trivial⟩,rfl,hf (cF B g A J cap) (by simp),aY (hf (c9 w (fun b => b = g)) (by simp)) hb rfl rfl rfl⟩⟩
theorem l4Near_c_K {g : Nat} {J : List Int} {A : Option Addr} {cap : Nat} {x : Int} {w0 : World} {fs : List Fact} {B : Nat} (hB : B ≤ w0.heap.size) (hap : ¬ (sQ A J cap).blk g)  (hn : J.length ≤ 1048576 := by omega) (h1 : cF B g A J cap ∈ fs := by simp) (h2 : sQ A J cap ∈ fs := by simp) : XCM Tryz.prog w0 fs (cF B g A J cap).blk 141 [gP g, iI x] (α := {y : Int // True}) (fun y => iI y.1) (fun _ => [cF B g A J cap]) := dq fun w hw hf => l4Near_c g J A cap x w B (Nat.le_trans hB hw) (hf _ h1) (hf _ h2) hap hn  
theorem l19Segment_c (g : Nat) (J : List Int) (A : Option Addr) (cap : Nat) (x : Con) (xV : Value) (w : World) (B : Nat) (hB : B ≤ w.heap.size) (hc : (cF B g A J cap).p w) (hl : Sl w (sJ A J cap) 1 (J.map bR)) (hap : ¬ (sQ A J cap).blk g) (hn : J.length ≤ 1048576)  : Calls Tryz.prog 109 #[gP g, .agg (a7 x xV).toArray] w fun e w' => ∃ y : {y : Seg // y.body.size ≤ 4096}, e = .returned (.agg (aG y.1).toArray) ∧ (cF B g A J cap).p w' ∧ Chgd (fun b => b = g) w w' := by
 have hq_code := Sl.capLe hl
 have hBw : B ≤ (aQ w B).heap.size := Nat.le_of_eq (bn hB).symm
 have hlo : ∀ (ww : World) (b : Nat),(cF B g A J cap).p ww → (cF B g A J cap).blk b → (aQ w B).heap.size ≤ b := fun ww b h hb => Nat.le_trans (ce w B) (cC h hb)
 refine cO (args := [gP g,.agg (a7 x xV).toArray]) (fn := Tryz.f109) [cF B g A J cap,sQ A J cap,c9 w (fun b => b = g)] B Tryz.func109 rfl Tryz.ntmps109 rfl hB (by simp only [List.mem_cons,List.not_mem_nil,or_false,forall_eq_or_imp,forall_eq]; exact ⟨hc,hl,bJ w _⟩) (cu hap rfl) ?_
 refine kQ <| c8 [0,3,4] ⟨[(0,aP g),(3,.p 0 0),(4,.p 1 0)],[⟨44,a7 x xV⟩,⟨50,er⟩],[],[cF B g A J cap,sQ A J cap,c9 w (fun b => b = g)]⟩ <| kQ <| dp 3 [0,3,4,10,12] [(10,aP g),(12,.v (.agg (ah x.r xV).toArray))] 139 [gP g,.agg (ah x.r xV).toArray] (some 13) 0 rfl rfl hlo (l18Stream_c_K hBw hap) ?_
 rintro ⟨y1,hy1⟩
 refine aR [0,3,4,5,6,7] [(5,aI y1.1),(6,.v (.string y1.2.1)),(7,aB y1.2.2)] <| kS <| cf (α := {zz : Int // (fun (sq : Int) => True) zz}) (fun zz => (fun (sq : Int) => (⟨[(0,aP g),(3,.p 0 0),(4,.p 1 0),(5,aI sq),(6,.v (.string y1.2.1)),(7,aB y1.2.2)],[⟨44,a7 x xV⟩,⟨50,er⟩],[],[cF B g A J cap,sQ A J cap,c9 w (fun b => b = g)]⟩ : St)) zz.1) ?_ ?_
 refine kQ <| dp 1 [0,3,4,5,6,7,17] [(17,aP g)] 110 [gP g,iI 2] (some 18) 0 rfl rfl hlo (bO hBw hap) ?_
 rintro ⟨y2,hy2⟩
 refine aR [0,3,4,5,6,7,18] [] <| kC (y2) (fun h3 => ?_) (fun h3 => ?_)
 refine kG <| aR [0,3,4,5,6,7] [(5,aI x.r.next)] ?_
 exact ⟨⟨(x.r.next),⟨⟩⟩,kF 2 0 [0,3,4,5,6,7]⟩
 refine kK ?_
 exact ⟨⟨(y1.1),⟨⟩⟩,kF 2 0 [0,3,4,5,6,7]⟩
 rintro ⟨sq,-⟩
 try dsimp only
 refine kS <| bc [] (by kernel_rfl) (fun ρ σ => ?_)
 refine c5 (α := {zz : Int × Nat × Int // (fun (y755 : Int) (g905 : Nat) (y956 : Int) => 0 ≤ y755 ∧ (0 < (K6.wrap ((aj x.s) + 1)) → y755 < (K6.wrap ((aj x.s) + 1)))) zz.1 zz.2.1 zz.2.2}) (fun zz => (fun (y755 : Int) (g905 : Nat) (y956 : Int) => [(8,.p 2 0)]) zz.1.1 zz.1.2.1 zz.1.2.2) [0,3,4,7,8] (fun zz => (fun (y755 : Int) (g905 : Nat) (y956 : Int) => [⟨50,[iI x.t.port,iI x.t.my,iI sq,iI (sA x.s.una y755),iI 16,iI y956,iI 0,iI (-1),.bool false,.bool false,iI 0,iI 0,.string y1.2.1]⟩]) zz.1.1 zz.1.2.1 zz.1.2.2) (fun zz => (fun (y755 : Int) (g905 : Nat) (y956 : Int) => [ap (aQ w B).heap.size 3 1 (.slice (some ⟨g905,0,none⟩) 5 5) (([0,1,8,64,65535] : List Int).map aq)]) zz.1.1 zz.1.2.1 zz.1.2.2) 0 (bF 25 33554431) ?_ (fun hD7 => ?_)
 rintro ⟨⟨y755,g905,y956⟩,hy755⟩
 dsimp only [List.cons_append,List.nil_append]
 try dsimp only at hy755
 obtain ⟨hy7550,hy7551⟩ := hy755
 refine kZ <| kS <| cf (α := {zz : Seg // (fun (sg : Seg) => sg.body.size ≤ 4096) zz}) (fun zz => (fun (sg : Seg) => (⟨[(0,aP g),(3,.p 0 0),(4,.p 1 0),(8,.p 2 0)],[⟨44,a7 x xV⟩,⟨50,er⟩,⟨50,aG sg⟩],[],[cF B g A J cap,sQ A J cap,c9 w (fun b => b = g),ap (aQ w B).heap.size 3 1 (.slice (some ⟨g905,0,none⟩) 5 5) (([0,1,8,64,65535] : List Int).map aq)]⟩ : St)) zz.1) ?_ ?_
 refine kQ <| aR [0,3,4,8,45] [(45,aB y1.2.2)] <| kC (y1.2.2) (fun h1258 => ?_) (fun h1258 => ?_)
 refine kG <| bf [0,3,4,8] [] 2 ⟨50,[iI x.t.port,iI x.t.my,iI sq,iI (sA x.s.una y755),iI 17,iI y956,iI 0,iI (-1),.bool false,.bool false,iI 0,iI 0,.string y1.2.1]⟩ ?_
 exact ⟨⟨(⟨x.t.port,x.t.my,sq,sA x.s.una y755,17,y956,⟨0,(-1),false,false,0,0⟩,y1.2.1⟩),(by first | assumption | (dsimp only; assumption) | exact Nat.zero_le _)⟩,kF 3 0 [0,3,4,8]⟩
 refine kK ?_
 exact ⟨⟨(⟨x.t.port,x.t.my,sq,sA x.s.una y755,16,y956,⟨0,(-1),false,false,0,0⟩,y1.2.1⟩),(by first | assumption | (dsimp only; assumption) | exact Nat.zero_le _)⟩,kF 3 0 [0,3,4,8]⟩
 rintro ⟨sg,hsg⟩
 try dsimp only
 try dsimp only at hsg
 refine kS <| cf (α := {zz : Seg // (fun (sh : Seg) => sh.body.size ≤ 4096) zz}) (fun zz => (fun (sh : Seg) => (⟨[(4,.p 1 0),(8,.p 2 0)],[⟨44,a7 x xV⟩,⟨50,er⟩,⟨50,aG sh⟩],[],[cF B g A J cap,sQ A J cap,c9 w (fun b => b = g),ap (aQ w B).heap.size 3 1 (.slice (some ⟨g905,0,none⟩) 5 5) (([0,1,8,64,65535] : List Int).map aq)]⟩ : St)) zz.1) ?_ ?_
 refine kQ <| dp 1 [0,3,4,8,50] [(50,aP g)] 133 [gP g,iI 10] (some 51) 0 rfl rfl hlo (ag hBw hap) ?_
 rintro ⟨y1259,hy1259⟩
 obtain ⟨hy12590,hy12591⟩ := hy1259
 refine aR [0,3,4,8,51] [] <| aZ <| kQ <| aR [0,3,4,8,51,52] [(52,aB (y1259 == 0))] ?_
 refine kC (y1259 == 0) (fun h1260 => ?_) (fun h1260 => ?_)
 have h1260p := bC h1260
 refine kG <| dp 1 [4,8,54] [(54,aP g)] 140 [gP g] (some 55) 0 rfl rfl hlo (l9Flags_c_K hBw hap) ?_
 rintro ⟨y1261,hy1261⟩
 refine bf [4,8] [] 2 ⟨50,aG { sg with flags := y1261 }⟩ ?_
 exact ⟨⟨({ sg with flags := y1261 }),(by first | assumption | (dsimp only; assumption) | exact Nat.zero_le _)⟩,kF 3 0 [4,8]⟩
 have h1260p := bA h1260
 refine kQ <| aR [0,3,4,8,51,57] [(57,aB (y1259 == 1))] <| kC (y1259 == 1) (fun h1262 => ?_) (fun h1262 => ?_)
 have h1262p := bC h1262
 refine kG <| dp 4 [4,8,59,62] [(59,aP g),(62,aI x.s.una)] 141 [gP g,iI x.s.una] (some 63) 0 rfl rfl hlo (l4Near_c_K hBw hap) ?_
 rintro ⟨y1263,hy1263⟩
 refine bf [4,8] [] 2 ⟨50,aG { sg with ack := y1263 }⟩ ?_
 exact ⟨⟨({ sg with ack := y1263 }),(by first | assumption | (dsimp only; assumption) | exact Nat.zero_le _)⟩,kF 3 0 [4,8]⟩
 have h1262p := bA h1262
 refine kQ <| aR [0,3,4,8,51,65] [(65,aB (y1259 == 2))] <| kC (y1259 == 2) (fun h1264 => ?_) (fun h1264 => ?_)
 have h1264p := bC h1264
 refine kG <| dp 4 [4,8,67,70] [(67,aP g),(70,aI x.r.next)] 141 [gP g,iI x.r.next] (some 71) 0 rfl rfl hlo (l4Near_c_K hBw hap) ?_
 rintro ⟨y1265,hy1265⟩
 refine c8 [4,8] ⟨[(4,.p 1 0),(8,.p 2 0)],[⟨44,a7 x xV⟩,⟨50,er⟩,⟨50,aG { sg with seq := y1265 }⟩],[],[cF B g A J cap,sQ A J cap,c9 w (fun b => b = g),ap (aQ w B).heap.size 3 1 (.slice (some ⟨g905,0,none⟩) 5 5) (([0,1,8,64,65535] : List Int).map aq)]⟩ ?_
 exact ⟨⟨({ sg with seq := y1265 }),(by first | assumption | (dsimp only; assumption) | exact Nat.zero_le _)⟩,kF 3 0 [4,8]⟩
 have h1264p := bA h1264
 refine kQ <| aR [4,8,73] [(73,aB (y1259 == 3))] <| kC (y1259 == 3) (fun h1266 => ?_) (fun h1266 => ?_)
 have h1266p := bC h1266
 refine kG <| c8 [4,8] ⟨[(4,.p 1 0),(8,.p 2 0)],[⟨44,a7 x xV⟩,⟨50,er⟩,⟨50,aG { sg with body := (⟨#[]⟩ : ByteArray) }⟩],[],[cF B g A J cap,sQ A J cap,c9 w (fun b => b = g),ap (aQ w B).heap.size 3 1 (.slice (some ⟨g905,0,none⟩) 5 5) (([0,1,8,64,65535] : List Int).map aq)]⟩ ?_
 exact ⟨⟨({ sg with body := (⟨#[]⟩ : ByteArray) }),(by first | assumption | (dsimp only; assumption) | exact Nat.zero_le _)⟩,kF 3 0 [4,8]⟩
 have h1266p := bA h1266
 refine kK ?_
 exact ⟨⟨(sg),(by first | assumption | (dsimp only; assumption) | exact Nat.zero_le _)⟩,kF 3 0 [4,8]⟩
 rintro ⟨sh,hsh⟩
 try dsimp only
 try dsimp only at hsh
 refine kQ <| dy 2 [4,8,77] [(77,aI sh.seq)] 122 [iI sh.seq] (some 78) rfl (bM fun ww hf => gr sh.seq ww ) ?_
 intro _
 refine bf [4,8] [] 2 ⟨50,aG { sh with seq := sh.seq % 4294967296 }⟩ <| kQ <| dy 2 [4,8,81] [(81,aI sh.ack)] 122 [iI sh.ack] (some 82) rfl (bM fun ww hf => gr sh.ack ww ) ?_
 intro _
 refine bf [4,8] [] 2 ⟨50,aG { sh with seq := sh.seq % 4294967296,ack := sh.ack % 4294967296 }⟩ <| kQ <| bf [4] [(4,.p 1 0)] 1 ⟨50,aG { sh with seq := sh.seq % 4294967296,ack := sh.ack % 4294967296 }⟩ <| kR ?_
 exact ⟨[.agg (aG { sh with seq := sh.seq % 4294967296,ack := sh.ack % 4294967296 }).toArray],by kernel_rfl,fun w' hb hf => ⟨⟨{ sh with seq := sh.seq % 4294967296,ack := sh.ack % 4294967296 },(by first | assumption | (dsimp only; assumption) | exact Nat.zero_le _)⟩,rfl,hf (cF B g A J cap) (by simp),aY (hf (c9 w (fun b => b = g)) (by simp)) hb rfl rfl rfl⟩⟩
 refine c5 (α := {zz : Int × Nat × Int // (fun (y755 : Int) (g905 : Nat) (y956 : Int) => 0 ≤ y755 ∧ (0 < (K6.wrap ((aj x.s) + 1)) → y755 < (K6.wrap ((aj x.s) + 1)))) zz.1 zz.2.1 zz.2.2}) (fun zz => (fun (y755 : Int) (g905 : Nat) (y956 : Int) => [(8,.p 2 0),(44,.v (.agg #[iI x.t.port,iI x.t.my,iI sq,iI (sA x.s.una y755),iI 16,iI y956,iI 0,iI (-1),.bool false,.bool false,iI 0,iI 0,.string y1.2.1]))]) zz.1.1 zz.1.2.1 zz.1.2.2) [0,3,4,7,8,44] (fun zz => (fun (y755 : Int) (g905 : Nat) (y956 : Int) => [⟨50,er⟩]) zz.1.1 zz.1.2.1 zz.1.2.2) (fun zz => (fun (y755 : Int) (g905 : Nat) (y956 : Int) => [ap (aQ w B).heap.size 3 1 (.slice (some ⟨g905,0,none⟩) 5 5) (([0,1,8,64,65535] : List Int).map aq)]) zz.1.1 zz.1.2.1 zz.1.2.2) 1 (bF 25 16777215) ?_ (fun hD6 => ?_)
 rintro ⟨⟨y755,g905,y956⟩,hy755⟩
 dsimp only [List.cons_append,List.nil_append]
 try dsimp only at hy755
 obtain ⟨hy7550,hy7551⟩ := hy755
 refine kA [24] <| e8 24 2 0 [iI x.t.port,iI x.t.my,iI sq,iI (sA x.s.una y755),iI 16,iI y956,iI 0,iI (-1),.bool false,.bool false,iI 0,iI 0,.string y1.2.1] rfl ?_
 exact aT (kF 3 0 [0,3,4,7,8]) (by kernel_rfl) (hD7 ⟨(y755,g905,y956),⟨hy7550,hy7551⟩⟩)
 refine c5 (α := {zz : Int × Nat × Int // (fun (y755 : Int) (g905 : Nat) (y956 : Int) => 0 ≤ y755 ∧ (0 < (K6.wrap ((aj x.s) + 1)) → y755 < (K6.wrap ((aj x.s) + 1)))) zz.1 zz.2.1 zz.2.2}) (fun zz => (fun (y755 : Int) (g905 : Nat) (y956 : Int) => [(24,aI x.t.port),(27,aI x.t.my),(28,aI sq),(38,aI (sA x.s.una y755)),(41,aI y956),(42,.v (.agg #[iI 0,iI (-1),.bool false,.bool false,iI 0,iI 0])),(43,.v (.string y1.2.1))]) zz.1.1 zz.1.2.1 zz.1.2.2) [0,3,4,7,24,27,28,38,41,42,43] (fun _ => []) (fun zz => (fun (y755 : Int) (g905 : Nat) (y956 : Int) => [ap (aQ w B).heap.size 3 1 (.slice (some ⟨g905,0,none⟩) 5 5) (([0,1,8,64,65535] : List Int).map aq)]) zz.1.1 zz.1.2.1 zz.1.2.2) 3 (bF 25 4194303) ?_ (fun hD5 => ?_)
 rintro ⟨⟨y755,g905,y956⟩,hy755⟩
 dsimp only [List.cons_append,List.nil_append]
 try dsimp only at hy755
 obtain ⟨hy7550,hy7551⟩ := hy755
 refine kX 22 (.agg #[iI x.t.port,iI x.t.my,iI sq,iI (sA x.s.una y755),iI 16,iI y956,iI 0,iI (-1),.bool false,.bool false,iI 0,iI 0,.string y1.2.1]) rfl (fun _ _ ww hA => aN [(0,iI x.t.port),(1,iI x.t.my),(2,iI sq),(3,iI (sA x.s.una y755)),(4,iI 16),(5,iI y956),(6,.agg #[iI 0,iI (-1),.bool false,.bool false,iI 0,iI 0]),(7,.string y1.2.1)] hA rfl (by kernel_rfl) (by kernel_rfl) ww) ?_
 refine kA [23] <| cK 23 ⟨50,er⟩ _ rfl (by kernel_rfl) (by kernel_rfl) (by kernel_rfl) (by kernel_rfl) rfl ?_
 exact aT (kF 3 0 [0,3,4,7,8,44]) (by kernel_rfl) (hD6 ⟨(y755,g905,y956),⟨hy7550,hy7551⟩⟩)
 refine c5 (α := {zz : Int × Nat × Int // (fun (y755 : Int) (g905 : Nat) (y956 : Int) => 0 ≤ y755 ∧ (0 < (K6.wrap ((aj x.s) + 1)) → y755 < (K6.wrap ((aj x.s) + 1)))) zz.1 zz.2.1 zz.2.2}) (fun zz => (fun (y755 : Int) (g905 : Nat) (y956 : Int) => [(8,.p 2 0),(24,aI x.t.port),(27,aI x.t.my),(28,aI sq),(38,aI (sA x.s.una y755)),(41,aI y956),(42,.v (.agg #[iI 0,iI (-1),.bool false,.bool false,iI 0,iI 0])),(43,.v (.string y1.2.1))]) zz.1.1 zz.1.2.1 zz.1.2.2) [0,3,4,7,8,24,27,28,38,41,42,43] (fun zz => (fun (y755 : Int) (g905 : Nat) (y956 : Int) => [⟨50,er⟩]) zz.1.1 zz.1.2.1 zz.1.2.2) (fun zz => (fun (y755 : Int) (g905 : Nat) (y956 : Int) => [ap (aQ w B).heap.size 3 1 (.slice (some ⟨g905,0,none⟩) 5 5) (([0,1,8,64,65535] : List Int).map aq)]) zz.1.1 zz.1.2.1 zz.1.2.2) 2 (bF 25 12582911) ?_ (fun hD9 => ?_)
 rintro ⟨⟨y755,g905,y956⟩,hy755⟩
 dsimp only [List.cons_append,List.nil_append]
 try dsimp only at hy755
 obtain ⟨hy7550,hy7551⟩ := hy755
 refine kX 22 (.agg #[iI x.t.port,iI x.t.my,iI sq,iI (sA x.s.una y755),iI 16,iI y956,iI 0,iI (-1),.bool false,.bool false,iI 0,iI 0,.string y1.2.1]) rfl (fun _ _ ww hA => aN [(0,iI x.t.port),(1,iI x.t.my),(2,iI sq),(3,iI (sA x.s.una y755)),(4,iI 16),(5,iI y956),(6,.agg #[iI 0,iI (-1),.bool false,.bool false,iI 0,iI 0]),(7,.string y1.2.1)] hA rfl (by kernel_rfl) (by kernel_rfl) ww) ?_
 refine kA [24] <| e8 24 2 0 [iI x.t.port,iI x.t.my,iI sq,iI (sA x.s.una y755),iI 16,iI y956,iI 0,iI (-1),.bool false,.bool false,iI 0,iI 0,.string y1.2.1] rfl ?_
 exact aT (kF 3 0 [0,3,4,7,8]) (by kernel_rfl) (hD7 ⟨(y755,g905,y956),⟨hy7550,hy7551⟩⟩)
 refine c5 (α := {zz : Int × Nat × Int // (fun (y755 : Int) (g905 : Nat) (y956 : Int) => 0 ≤ y755 ∧ (0 < (K6.wrap ((aj x.s) + 1)) → y755 < (K6.wrap ((aj x.s) + 1)))) zz.1 zz.2.1 zz.2.2}) (fun zz => (fun (y755 : Int) (g905 : Nat) (y956 : Int) => [(8,.p 2 0),(24,aI x.t.port),(27,aI x.t.my),(28,aI sq),(38,aI (sA x.s.una y755)),(41,aI y956),(43,.v (.string y1.2.1))]) zz.1.1 zz.1.2.1 zz.1.2.2) [0,3,4,7,8,24,27,28,38,41,43] (fun zz => (fun (y755 : Int) (g905 : Nat) (y956 : Int) => [⟨50,er⟩]) zz.1.1 zz.1.2.1 zz.1.2.2) (fun zz => (fun (y755 : Int) (g905 : Nat) (y956 : Int) => [ap (aQ w B).heap.size 3 1 (.slice (some ⟨g905,0,none⟩) 5 5) (([0,1,8,64,65535] : List Int).map aq)]) zz.1.1 zz.1.2.1 zz.1.2.2) 3 (bF 25 11534335) ?_ (fun hD8 => ?_)
 rintro ⟨⟨y755,g905,y956⟩,hy755⟩
 dsimp only [List.cons_append,List.nil_append]
 try dsimp only at hy755
 obtain ⟨hy7550,hy7551⟩ := hy755
 refine kA [20] <| dr 20 88 [] (some 42) rfl (aA fun ww hf => fc  ww ) ?_
 intro _
 exact aT (kF 3 0 [0,3,4,7,8,24,27,28,38,41,42,43]) (by kernel_rfl) (hD9 ⟨(y755,g905,y956),⟨hy7550,hy7551⟩⟩)
 refine c5 (α := {zz : Int × Nat × Int // (fun (y755 : Int) (g905 : Nat) (y956 : Int) => 0 ≤ y755 ∧ (0 < (K6.wrap ((aj x.s) + 1)) → y755 < (K6.wrap ((aj x.s) + 1)))) zz.1 zz.2.1 zz.2.2}) (fun zz => (fun (y755 : Int) (g905 : Nat) (y956 : Int) => [(24,aI x.t.port),(27,aI x.t.my),(28,aI sq),(38,aI (sA x.s.una y755)),(41,aI y956),(43,.v (.string y1.2.1))]) zz.1.1 zz.1.2.1 zz.1.2.2) [0,3,4,7,24,27,28,38,41,43] (fun _ => []) (fun zz => (fun (y755 : Int) (g905 : Nat) (y956 : Int) => [ap (aQ w B).heap.size 3 1 (.slice (some ⟨g905,0,none⟩) 5 5) (([0,1,8,64,65535] : List Int).map aq)]) zz.1.1 zz.1.2.1 zz.1.2.2) 4 (bF 25 3145727) ?_ (fun hD4 => ?_)
 rintro ⟨⟨y755,g905,y956⟩,hy755⟩
 dsimp only [List.cons_append,List.nil_append]
 try dsimp only at hy755
 obtain ⟨hy7550,hy7551⟩ := hy755
 refine kA [20,23] ⟨?_,?_⟩
 refine dr 20 88 [] (some 42) rfl (aA fun ww hf => fc  ww ) ?_
 intro _
 exact aT (kF 2 0 [0,3,4,7,24,27,28,38,41,42,43]) (by kernel_rfl) (hD5 ⟨(y755,g905,y956),⟨hy7550,hy7551⟩⟩)
 refine cK 23 ⟨50,er⟩ _ rfl (by kernel_rfl) (by kernel_rfl) (by kernel_rfl) (by kernel_rfl) rfl ?_
 exact aT (kF 3 0 [0,3,4,7,8,24,27,28,38,41,43]) (by kernel_rfl) (hD8 ⟨(y755,g905,y956),⟨hy7550,hy7551⟩⟩)
 refine c5 (α := {zz : Int × Nat // (fun (y755 : Int) (g905 : Nat) => 0 ≤ y755 ∧ (0 < (K6.wrap ((aj x.s) + 1)) → y755 < (K6.wrap ((aj x.s) + 1)))) zz.1 zz.2}) (fun zz => (fun (y755 : Int) (g905 : Nat) => [(8,.p 2 0),(24,aI x.t.port),(27,aI x.t.my),(28,aI sq),(38,aI (sA x.s.una y755)),(39,aP g),(40,.v (.slice (some ⟨g905,0,none⟩) 5 5)),(43,.v (.string y1.2.1))]) zz.1.1 zz.1.2) [0,3,4,7,8,24,27,28,38,39,40,43] (fun zz => (fun (y755 : Int) (g905 : Nat) => [⟨50,er⟩]) zz.1.1 zz.1.2) (fun zz => (fun (y755 : Int) (g905 : Nat) => [ap (aQ w B).heap.size 3 1 (.slice (some ⟨g905,0,none⟩) 5 5) (([0,1,8,64,65535] : List Int).map aq)]) zz.1.1 zz.1.2) 4 (bF 25 11010047) ?_ (fun hD10 => ?_)
 rintro ⟨⟨y755,g905⟩,hy755⟩
 dsimp only [List.cons_append,List.nil_append]
 try dsimp only at hy755
 obtain ⟨hy7550,hy7551⟩ := hy755
 refine kA [19] <| hQ (φ := ¬ (c7 (.slice (some ⟨g905,0,none⟩) 5 5) 1 (([0,1,8,64,65535] : List Int).map aq)).blk g) (fun _ _ _ _ hr => fun hb => hr.2.apart 3 0 (ap (aQ w B).heap.size 3 1 (.slice (some ⟨g905,0,none⟩) 5 5) (([0,1,8,64,65535] : List Int).map aq)) (cF B g A J cap) rfl rfl (by decide) rfl g (bK hb) rfl) (fun hk955 => ?_)
 refine gw 19 136 [gP g,.slice (some ⟨g905,0,none⟩) 5 5] (some 41) 0 rfl rfl hlo (ax (ax ar)) (bp hBw hap (fun ww hw hf => (aS (hf _ m3))) hk955 (by simp)) ?_
 rintro ⟨y956,hy956⟩
 exact aT (kF 3 0 [0,3,4,7,8,24,27,28,38,41,43]) (by kernel_rfl) (hD8 ⟨(y755,g905,y956),⟨hy7550,hy7551⟩⟩)
 refine c5 (α := {zz : Int × Nat // (fun (y755 : Int) (g905 : Nat) => 0 ≤ y755 ∧ (0 < (K6.wrap ((aj x.s) + 1)) → y755 < (K6.wrap ((aj x.s) + 1)))) zz.1 zz.2}) (fun zz => (fun (y755 : Int) (g905 : Nat) => [(24,aI x.t.port),(27,aI x.t.my),(28,aI sq),(38,aI (sA x.s.una y755)),(39,aP g),(40,.v (.slice (some ⟨g905,0,none⟩) 5 5)),(43,.v (.string y1.2.1))]) zz.1.1 zz.1.2) [0,3,4,7,24,27,28,38,39,40,43] (fun _ => []) (fun zz => (fun (y755 : Int) (g905 : Nat) => [ap (aQ w B).heap.size 3 1 (.slice (some ⟨g905,0,none⟩) 5 5) (([0,1,8,64,65535] : List Int).map aq)]) zz.1.1 zz.1.2) 5 (bF 25 2621439) ?_ (fun hD3 => ?_)
 rintro ⟨⟨y755,g905⟩,hy755⟩
 dsimp only [List.cons_append,List.nil_append]
 try dsimp only at hy755
 obtain ⟨hy7550,hy7551⟩ := hy755
 refine kA [19,23] ⟨?_,?_⟩
 refine hQ (φ := ¬ (c7 (.slice (some ⟨g905,0,none⟩) 5 5) 1 (([0,1,8,64,65535] : List Int).map aq)).blk g) (fun _ _ _ _ hr => fun hb => hr.2.apart 3 0 (ap (aQ w B).heap.size 3 1 (.slice (some ⟨g905,0,none⟩) 5 5) (([0,1,8,64,65535] : List Int).map aq)) (cF B g A J cap) rfl rfl (by decide) rfl g (bK hb) rfl) (fun hk955 => ?_)
 refine gw 19 136 [gP g,.slice (some ⟨g905,0,none⟩) 5 5] (some 41) 0 rfl rfl hlo (ax (ax ar)) (bp hBw hap (fun ww hw hf => (aS (hf _ m3))) hk955 (by simp)) ?_
 rintro ⟨y956,hy956⟩
 exact aT (kF 2 0 [0,3,4,7,24,27,28,38,41,43]) (by kernel_rfl) (hD4 ⟨(y755,g905,y956),⟨hy7550,hy7551⟩⟩)
 refine cK 23 ⟨50,er⟩ _ rfl (by kernel_rfl) (by kernel_rfl) (by kernel_rfl) (by kernel_rfl) rfl ?_
 exact aT (kF 3 0 [0,3,4,7,8,24,27,28,38,39,40,43]) (by kernel_rfl) (hD10 ⟨(y755,g905),⟨hy7550,hy7551⟩⟩)
 refine c5 (α := {zz : Int // (fun (y755 : Int) => 0 ≤ y755 ∧ (0 < (K6.wrap ((aj x.s) + 1)) → y755 < (K6.wrap ((aj x.s) + 1)))) zz}) (fun zz => (fun (y755 : Int) => [(8,.p 2 0),(24,aI x.t.port),(27,aI x.t.my),(28,aI sq),(38,aI (sA x.s.una y755)),(39,aP g),(43,.v (.string y1.2.1))]) zz.1) [0,3,4,7,8,24,27,28,38,39,43] (fun zz => (fun (y755 : Int) => [⟨50,er⟩]) zz.1) (fun zz => (fun (y755 : Int) => []) zz.1) 5 (bF 25 10747903) ?_ (fun hD11 => ?_)
 rintro ⟨y755,hy755⟩
 dsimp only [List.cons_append,List.nil_append]
 try dsimp only at hy755
 obtain ⟨hy7550,hy7551⟩ := hy755
 refine kA [18] <| gj 18 rfl (ax (ax ar)) (bi (e := 3) (K := 1) (bytes := 8) [iI 0,iI 1,iI 8,iI 64,iI 65535] (rs := ([0,1,8,64,65535] : List Int).map aq) rfl rfl) ?_
 intro g905
 exact aT (ei [1,2,3,0] <| kF 3 0 [0,3,4,7,8,24,27,28,38,39,40,43]) (by kernel_rfl) (hD10 ⟨(y755,g905),⟨hy7550,hy7551⟩⟩)
 refine cG (α := {zz : Int // (fun (y755 : Int) => 0 ≤ y755 ∧ (0 < (K6.wrap ((aj x.s) + 1)) → y755 < (K6.wrap ((aj x.s) + 1)))) zz}) (fun zz => (fun (y755 : Int) => [(24,aI x.t.port),(27,aI x.t.my),(28,aI sq),(38,aI (sA x.s.una y755)),(39,aP g),(43,.v (.string y1.2.1))]) zz.1) [0,3,4,7,24,27,28,38,39,43] 6 (bF 25 2359295) ?_ (fun hD2 => ?_)
 rintro ⟨y755,hy755⟩
 try dsimp only
 try dsimp only at hy755
 obtain ⟨hy7550,hy7551⟩ := hy755
 refine kA [18,23] ⟨?_,?_⟩
 refine gj 18 rfl (ax (ax ar)) (bi (e := 3) (K := 1) (bytes := 8) [iI 0,iI 1,iI 8,iI 64,iI 65535] (rs := ([0,1,8,64,65535] : List Int).map aq) rfl rfl) ?_
 intro g905
 exact aT (ei [1,2,3,0] <| kF 2 0 [0,3,4,7,24,27,28,38,39,40,43]) (by kernel_rfl) (hD3 ⟨(y755,g905),⟨hy7550,hy7551⟩⟩)
 refine cK 23 ⟨50,er⟩ _ rfl (by kernel_rfl) (by kernel_rfl) (by kernel_rfl) (by kernel_rfl) rfl ?_
 exact aT (kF 3 0 [0,3,4,7,8,24,27,28,38,39,43]) (by kernel_rfl) (hD11 ⟨(y755),⟨hy7550,hy7551⟩⟩)
 refine c5 (α := {zz : Int × Nat // (fun (y755 : Int) (g905 : Nat) => 0 ≤ y755 ∧ (0 < (K6.wrap ((aj x.s) + 1)) → y755 < (K6.wrap ((aj x.s) + 1)))) zz.1 zz.2}) (fun zz => (fun (y755 : Int) (g905 : Nat) => [(8,.p 2 0),(24,aI x.t.port),(27,aI x.t.my),(28,aI sq),(31,aI x.s.una),(37,aI y755),(39,aP g),(40,.v (.slice (some ⟨g905,0,none⟩) 5 5)),(43,.v (.string y1.2.1))]) zz.1.1 zz.1.2) [0,3,4,7,8,24,27,28,31,37,39,40,43] (fun zz => (fun (y755 : Int) (g905 : Nat) => [⟨50,er⟩]) zz.1.1 zz.1.2) (fun zz => (fun (y755 : Int) (g905 : Nat) => [ap (aQ w B).heap.size 3 1 (.slice (some ⟨g905,0,none⟩) 5 5) (([0,1,8,64,65535] : List Int).map aq)]) zz.1.1 zz.1.2) 5 (bF 25 10944511) ?_ (fun hD13 => ?_)
 rintro ⟨⟨y755,g905⟩,hy755⟩
 dsimp only [List.cons_append,List.nil_append]
 try dsimp only at hy755
 obtain ⟨hy7550,hy7551⟩ := hy755
 refine kA [16] <| dr 16 120 [iI x.s.una,iI y755] (some 38) rfl (bM fun ww hf => bG x.s.una y755 ww ) ?_
 intro _
 exact aT (kF 3 0 [0,3,4,7,8,24,27,28,38,39,40,43]) (by kernel_rfl) (hD10 ⟨(y755,g905),⟨hy7550,hy7551⟩⟩)
 refine c5 (α := {zz : Int × Nat // (fun (y755 : Int) (g905 : Nat) => 0 ≤ y755 ∧ (0 < (K6.wrap ((aj x.s) + 1)) → y755 < (K6.wrap ((aj x.s) + 1)))) zz.1 zz.2}) (fun zz => (fun (y755 : Int) (g905 : Nat) => [(24,aI x.t.port),(27,aI x.t.my),(28,aI sq),(31,aI x.s.una),(37,aI y755),(39,aP g),(40,.v (.slice (some ⟨g905,0,none⟩) 5 5)),(43,.v (.string y1.2.1))]) zz.1.1 zz.1.2) [0,3,4,7,24,27,28,31,37,39,40,43] (fun _ => []) (fun zz => (fun (y755 : Int) (g905 : Nat) => [ap (aQ w B).heap.size 3 1 (.slice (some ⟨g905,0,none⟩) 5 5) (([0,1,8,64,65535] : List Int).map aq)]) zz.1.1 zz.1.2) 6 (bF 25 2555903) ?_ (fun hD12 => ?_)
 rintro ⟨⟨y755,g905⟩,hy755⟩
 dsimp only [List.cons_append,List.nil_append]
 try dsimp only at hy755
 obtain ⟨hy7550,hy7551⟩ := hy755
 refine kA [16,23] ⟨?_,?_⟩
 refine dr 16 120 [iI x.s.una,iI y755] (some 38) rfl (bM fun ww hf => bG x.s.una y755 ww ) ?_
 intro _
 exact aT (kF 2 0 [0,3,4,7,24,27,28,38,39,40,43]) (by kernel_rfl) (hD3 ⟨(y755,g905),⟨hy7550,hy7551⟩⟩)
 refine cK 23 ⟨50,er⟩ _ rfl (by kernel_rfl) (by kernel_rfl) (by kernel_rfl) (by kernel_rfl) rfl ?_
 exact aT (kF 3 0 [0,3,4,7,8,24,27,28,31,37,39,40,43]) (by kernel_rfl) (hD13 ⟨(y755,g905),⟨hy7550,hy7551⟩⟩)
 refine c5 (α := {zz : Int // (fun (y755 : Int) => 0 ≤ y755 ∧ (0 < (K6.wrap ((aj x.s) + 1)) → y755 < (K6.wrap ((aj x.s) + 1)))) zz}) (fun zz => (fun (y755 : Int) => [(8,.p 2 0),(24,aI x.t.port),(27,aI x.t.my),(28,aI sq),(31,aI x.s.una),(37,aI y755),(39,aP g),(43,.v (.string y1.2.1))]) zz.1) [0,3,4,7,8,24,27,28,31,37,39,43] (fun zz => (fun (y755 : Int) => [⟨50,er⟩]) zz.1) (fun zz => (fun (y755 : Int) => []) zz.1) 6 (bF 25 10682367) ?_ (fun hD14 => ?_)
 rintro ⟨y755,hy755⟩
 dsimp only [List.cons_append,List.nil_append]
 try dsimp only at hy755
 obtain ⟨hy7550,hy7551⟩ := hy755
 refine kA [16,18] ⟨?_,?_⟩
 refine dr 16 120 [iI x.s.una,iI y755] (some 38) rfl (bM fun ww hf => bG x.s.una y755 ww ) ?_
 intro _
 exact aT (kF 3 0 [0,3,4,7,8,24,27,28,38,39,43]) (by kernel_rfl) (hD11 ⟨(y755),⟨hy7550,hy7551⟩⟩)
 refine gj 18 rfl (ax (ax ar)) (bi (e := 3) (K := 1) (bytes := 8) [iI 0,iI 1,iI 8,iI 64,iI 65535] (rs := ([0,1,8,64,65535] : List Int).map aq) rfl rfl) ?_
 intro g905
 exact aT (ei [1,2,3,0] <| kF 3 0 [0,3,4,7,8,24,27,28,31,37,39,40,43]) (by kernel_rfl) (hD13 ⟨(y755,g905),⟨hy7550,hy7551⟩⟩)
 refine cG (α := {zz : Int // (fun (y755 : Int) => 0 ≤ y755 ∧ (0 < (K6.wrap ((aj x.s) + 1)) → y755 < (K6.wrap ((aj x.s) + 1)))) zz}) (fun zz => (fun (y755 : Int) => [(24,aI x.t.port),(27,aI x.t.my),(28,aI sq),(31,aI x.s.una),(37,aI y755),(39,aP g),(43,.v (.string y1.2.1))]) zz.1) [0,3,4,7,24,27,28,31,37,39,43] 7 (bF 25 2293759) ?_ (fun hD1 => ?_)
 rintro ⟨y755,hy755⟩
 try dsimp only
 try dsimp only at hy755
 obtain ⟨hy7550,hy7551⟩ := hy755
 refine kA [16,18,23] ⟨?_,?_,?_⟩
 refine dr 16 120 [iI x.s.una,iI y755] (some 38) rfl (bM fun ww hf => bG x.s.una y755 ww ) ?_
 intro _
 exact aT (kF 2 0 [0,3,4,7,24,27,28,38,39,43]) (by kernel_rfl) (hD2 ⟨(y755),⟨hy7550,hy7551⟩⟩)
 refine gj 18 rfl (ax (ax ar)) (bi (e := 3) (K := 1) (bytes := 8) [iI 0,iI 1,iI 8,iI 64,iI 65535] (rs := ([0,1,8,64,65535] : List Int).map aq) rfl rfl) ?_
 intro g905
 exact aT (ei [1,2,3,0] <| kF 2 0 [0,3,4,7,24,27,28,31,37,39,40,43]) (by kernel_rfl) (hD12 ⟨(y755,g905),⟨hy7550,hy7551⟩⟩)
 refine cK 23 ⟨50,er⟩ _ rfl (by kernel_rfl) (by kernel_rfl) (by kernel_rfl) (by kernel_rfl) rfl ?_
 exact aT (kF 3 0 [0,3,4,7,8,24,27,28,31,37,39,43]) (by kernel_rfl) (hD14 ⟨(y755),⟨hy7550,hy7551⟩⟩)
 refine c5 (α := Nat) (fun zz => (fun (g905 : Nat) => [(8,.p 2 0),(24,aI x.t.port),(27,aI x.t.my),(28,aI sq),(31,aI x.s.una),(32,aP g),(36,aI (K6.wrap ((aj x.s) + 1))),(39,aP g),(40,.v (.slice (some ⟨g905,0,none⟩) 5 5)),(43,.v (.string y1.2.1))]) zz) [0,3,4,7,8,24,27,28,31,32,36,39,40,43] (fun zz => (fun (g905 : Nat) => [⟨50,er⟩]) zz) (fun zz => (fun (g905 : Nat) => [ap (aQ w B).heap.size 3 1 (.slice (some ⟨g905,0,none⟩) 5 5) (([0,1,8,64,65535] : List Int).map aq)]) zz) 6 (bF 25 10911743) ?_ (fun hD16 => ?_)
 intro g905
 dsimp only [List.cons_append,List.nil_append]
 refine kA [15] <| gw 15 133 [gP g,iI (K6.wrap ((aj x.s) + 1))] (some 37) 0 rfl rfl hlo (ax (ax ar)) (ag hBw hap) ?_
 rintro ⟨y755,hy755⟩
 obtain ⟨hy7550,hy7551⟩ := hy755
 exact aT (kF 3 0 [0,3,4,7,8,24,27,28,31,37,39,40,43]) (by kernel_rfl) (hD13 ⟨(y755,g905),⟨hy7550,hy7551⟩⟩)
 refine c5 (α := Nat) (fun zz => (fun (g905 : Nat) => [(24,aI x.t.port),(27,aI x.t.my),(28,aI sq),(31,aI x.s.una),(32,aP g),(36,aI (K6.wrap ((aj x.s) + 1))),(39,aP g),(40,.v (.slice (some ⟨g905,0,none⟩) 5 5)),(43,.v (.string y1.2.1))]) zz) [0,3,4,7,24,27,28,31,32,36,39,40,43] (fun _ => []) (fun zz => (fun (g905 : Nat) => [ap (aQ w B).heap.size 3 1 (.slice (some ⟨g905,0,none⟩) 5 5) (([0,1,8,64,65535] : List Int).map aq)]) zz) 7 (bF 25 2523135) ?_ (fun hD15 => ?_)
 intro g905
 dsimp only [List.cons_append,List.nil_append]
 refine kA [15,23] ⟨?_,?_⟩
 refine gw 15 133 [gP g,iI (K6.wrap ((aj x.s) + 1))] (some 37) 0 rfl rfl hlo (ax (ax ar)) (ag hBw hap) ?_
 rintro ⟨y755,hy755⟩
 obtain ⟨hy7550,hy7551⟩ := hy755
 exact aT (kF 2 0 [0,3,4,7,24,27,28,31,37,39,40,43]) (by kernel_rfl) (hD12 ⟨(y755,g905),⟨hy7550,hy7551⟩⟩)
 refine cK 23 ⟨50,er⟩ _ rfl (by kernel_rfl) (by kernel_rfl) (by kernel_rfl) (by kernel_rfl) rfl ?_
 exact aT (kF 3 0 [0,3,4,7,8,24,27,28,31,32,36,39,40,43]) (by kernel_rfl) (hD16 (g905))
 refine c5 (α := Unit) (fun zz => (fun (u_ : Unit) => [(8,.p 2 0),(24,aI x.t.port),(27,aI x.t.my),(28,aI sq),(31,aI x.s.una),(32,aP g),(36,aI (K6.wrap ((aj x.s) + 1))),(39,aP g),(43,.v (.string y1.2.1))]) zz) [0,3,4,7,8,24,27,28,31,32,36,39,43] (fun zz => (fun (u_ : Unit) => [⟨50,er⟩]) zz) (fun zz => (fun (u_ : Unit) => []) zz) 7 (bF 25 10649599) ?_ (fun hD17 => ?_)
 intro u_
 dsimp only [List.cons_append,List.nil_append]
 refine kA [15,18] ⟨?_,?_⟩
 refine gw 15 133 [gP g,iI (K6.wrap ((aj x.s) + 1))] (some 37) 0 rfl rfl hlo (ax (ax ar)) (ag hBw hap) ?_
 rintro ⟨y755,hy755⟩
 obtain ⟨hy7550,hy7551⟩ := hy755
 exact aT (kF 3 0 [0,3,4,7,8,24,27,28,31,37,39,43]) (by kernel_rfl) (hD14 ⟨(y755),⟨hy7550,hy7551⟩⟩)
 refine gj 18 rfl (ax (ax ar)) (bi (e := 3) (K := 1) (bytes := 8) [iI 0,iI 1,iI 8,iI 64,iI 65535] (rs := ([0,1,8,64,65535] : List Int).map aq) rfl rfl) ?_
 intro g905
 exact aT (ei [1,2,3,0] <| kF 3 0 [0,3,4,7,8,24,27,28,31,32,36,39,40,43]) (by kernel_rfl) (hD16 (g905))
 refine cG (α := Unit) (fun zz => (fun (u_ : Unit) => [(24,aI x.t.port),(27,aI x.t.my),(28,aI sq),(31,aI x.s.una),(32,aP g),(35,aI (aj x.s)),(39,aP g),(43,.v (.string y1.2.1))]) zz) [0,3,4,7,24,27,28,31,32,35,39,43] 9 (bF 25 2244607) ?_ (fun hD0 => ?_)
 intro u_
 try dsimp only
 refine eI [14] [36,0,3,4,7,24,27,28,31,32,39,43] 8 [(36,aI (K6.wrap ((aj x.s) + 1)))] <| kA [15,18,23] ⟨?_,?_,?_⟩
 refine gw 15 133 [gP g,iI (K6.wrap ((aj x.s) + 1))] (some 37) 0 rfl rfl hlo (ax (ax ar)) (ag hBw hap) ?_
 rintro ⟨y755,hy755⟩
 obtain ⟨hy7550,hy7551⟩ := hy755
 exact aT (kF 2 0 [0,3,4,7,24,27,28,31,37,39,43]) (by kernel_rfl) (hD1 ⟨(y755),⟨hy7550,hy7551⟩⟩)
 refine gj 18 rfl (ax (ax ar)) (bi (e := 3) (K := 1) (bytes := 8) [iI 0,iI 1,iI 8,iI 64,iI 65535] (rs := ([0,1,8,64,65535] : List Int).map aq) rfl rfl) ?_
 intro g905
 exact aT (ei [1,2,3,0] <| kF 2 0 [0,3,4,7,24,27,28,31,32,36,39,40,43]) (by kernel_rfl) (hD15 (g905))
 refine cK 23 ⟨50,er⟩ _ rfl (by kernel_rfl) (by kernel_rfl) (by kernel_rfl) (by kernel_rfl) rfl ?_
 exact aT (kF 3 0 [0,3,4,7,8,24,27,28,31,32,36,39,43]) (by kernel_rfl) (hD17 ())
 refine c5 (α := Nat) (fun zz => (fun (g905 : Nat) => [(24,aI x.t.port),(27,aI x.t.my),(28,aI sq),(31,aI x.s.una),(32,aP g),(35,aI (aj x.s)),(39,aP g),(40,.v (.slice (some ⟨g905,0,none⟩) 5 5)),(43,.v (.string y1.2.1))]) zz) [0,3,4,7,24,27,28,31,32,35,39,40,43] (fun _ => []) (fun zz => (fun (g905 : Nat) => [ap (aQ w B).heap.size 3 1 (.slice (some ⟨g905,0,none⟩) 5 5) (([0,1,8,64,65535] : List Int).map aq)]) zz) 8 (bF 25 2506751) ?_ (fun hD19 => ?_)
 intro g905
 dsimp only [List.cons_append,List.nil_append]
 refine eI [14] [36,0,3,4,7,24,27,28,31,32,39,40,43] 7 [(36,aI (K6.wrap ((aj x.s) + 1)))] <| kA [15,23] ⟨?_,?_⟩
 refine gw 15 133 [gP g,iI (K6.wrap ((aj x.s) + 1))] (some 37) 0 rfl rfl hlo (ax (ax ar)) (ag hBw hap) ?_
 rintro ⟨y755,hy755⟩
 obtain ⟨hy7550,hy7551⟩ := hy755
 exact aT (kF 2 0 [0,3,4,7,24,27,28,31,37,39,40,43]) (by kernel_rfl) (hD12 ⟨(y755,g905),⟨hy7550,hy7551⟩⟩)
 refine cK 23 ⟨50,er⟩ _ rfl (by kernel_rfl) (by kernel_rfl) (by kernel_rfl) (by kernel_rfl) rfl ?_
 exact aT (kF 3 0 [0,3,4,7,8,24,27,28,31,32,36,39,40,43]) (by kernel_rfl) (hD16 (g905))
 refine c5 (α := Nat) (fun zz => (fun (g905 : Nat) => [(8,.p 2 0),(24,aI x.t.port),(27,aI x.t.my),(28,aI sq),(31,aI x.s.una),(32,aP g),(35,aI (aj x.s)),(39,aP g),(40,.v (.slice (some ⟨g905,0,none⟩) 5 5)),(43,.v (.string y1.2.1))]) zz) [0,3,4,7,8,24,27,28,31,32,35,39,40,43] (fun zz => (fun (g905 : Nat) => [⟨50,er⟩]) zz) (fun zz => (fun (g905 : Nat) => [ap (aQ w B).heap.size 3 1 (.slice (some ⟨g905,0,none⟩) 5 5) (([0,1,8,64,65535] : List Int).map aq)]) zz) 7 (bF 25 10895359) ?_ (fun hD21 => ?_)
 intro g905
 dsimp only [List.cons_append,List.nil_append]
 refine eI [14] [36,0,3,4,7,8,24,27,28,31,32,39,40,43] 6 [(36,aI (K6.wrap ((aj x.s) + 1)))] <| kA [15] <| gw 15 133 [gP g,iI (K6.wrap ((aj x.s) + 1))] (some 37) 0 rfl rfl hlo (ax (ax ar)) (ag hBw hap) ?_
 rintro ⟨y755,hy755⟩
 obtain ⟨hy7550,hy7551⟩ := hy755
 exact aT (kF 3 0 [0,3,4,7,8,24,27,28,31,37,39,40,43]) (by kernel_rfl) (hD13 ⟨(y755,g905),⟨hy7550,hy7551⟩⟩)
 refine c5 (α := Nat) (fun zz => (fun (g905 : Nat) => [(8,.p 2 0),(24,aI x.t.port),(27,aI x.t.my),(28,aI sq),(31,aI x.s.una),(32,aP g),(34,.v (.agg (ai x.s).toArray)),(39,aP g),(40,.v (.slice (some ⟨g905,0,none⟩) 5 5)),(43,.v (.string y1.2.1))]) zz) [0,3,4,7,8,24,27,28,31,32,34,39,40,43] (fun zz => (fun (g905 : Nat) => [⟨50,er⟩]) zz) (fun zz => (fun (g905 : Nat) => [ap (aQ w B).heap.size 3 1 (.slice (some ⟨g905,0,none⟩) 5 5) (([0,1,8,64,65535] : List Int).map aq)]) zz) 8 (bF 25 10887167) ?_ (fun hD20 => ?_)
 intro g905
 dsimp only [List.cons_append,List.nil_append]
 refine kA [13] <| dr 13 77 [.agg (ai x.s).toArray] (some 35) rfl (aA fun ww hf => dB x.s.una x.s.data x.s.sent x.s.fin x.s.finSent x.s.done ww ) ?_
 intro _
 exact aT (kF 3 0 [0,3,4,7,8,24,27,28,31,32,35,39,40,43]) (by kernel_rfl) (hD21 (g905))
 refine c5 (α := Nat) (fun zz => (fun (g905 : Nat) => [(24,aI x.t.port),(27,aI x.t.my),(28,aI sq),(31,aI x.s.una),(32,aP g),(34,.v (.agg (ai x.s).toArray)),(39,aP g),(40,.v (.slice (some ⟨g905,0,none⟩) 5 5)),(43,.v (.string y1.2.1))]) zz) [0,3,4,7,24,27,28,31,32,34,39,40,43] (fun _ => []) (fun zz => (fun (g905 : Nat) => [ap (aQ w B).heap.size 3 1 (.slice (some ⟨g905,0,none⟩) 5 5) (([0,1,8,64,65535] : List Int).map aq)]) zz) 9 (bF 25 2498559) ?_ (fun hD18 => ?_)
 intro g905
 dsimp only [List.cons_append,List.nil_append]
 refine kA [13,23] ⟨?_,?_⟩
 refine dr 13 77 [.agg (ai x.s).toArray] (some 35) rfl (aA fun ww hf => dB x.s.una x.s.data x.s.sent x.s.fin x.s.finSent x.s.done ww ) ?_
 intro _
 exact aT (kF 2 0 [0,3,4,7,24,27,28,31,32,35,39,40,43]) (by kernel_rfl) (hD19 (g905))
 refine cK 23 ⟨50,er⟩ _ rfl (by kernel_rfl) (by kernel_rfl) (by kernel_rfl) (by kernel_rfl) rfl ?_
 exact aT (kF 3 0 [0,3,4,7,8,24,27,28,31,32,34,39,40,43]) (by kernel_rfl) (hD20 (g905))
 refine c5 (α := Unit) (fun zz => (fun (u_ : Unit) => [(8,.p 2 0),(24,aI x.t.port),(27,aI x.t.my),(28,aI sq),(31,aI x.s.una),(32,aP g),(35,aI (aj x.s)),(39,aP g),(43,.v (.string y1.2.1))]) zz) [0,3,4,7,8,24,27,28,31,32,35,39,43] (fun zz => (fun (u_ : Unit) => [⟨50,er⟩]) zz) (fun zz => (fun (u_ : Unit) => []) zz) 8 (bF 25 10633215) ?_ (fun hD23 => ?_)
 intro u_
 dsimp only [List.cons_append,List.nil_append]
 refine eI [14] [36,0,3,4,7,8,24,27,28,31,32,39,43] 7 [(36,aI (K6.wrap ((aj x.s) + 1)))] <| kA [15,18] ⟨?_,?_⟩
 refine gw 15 133 [gP g,iI (K6.wrap ((aj x.s) + 1))] (some 37) 0 rfl rfl hlo (ax (ax ar)) (ag hBw hap) ?_
 rintro ⟨y755,hy755⟩
 obtain ⟨hy7550,hy7551⟩ := hy755
 exact aT (kF 3 0 [0,3,4,7,8,24,27,28,31,37,39,43]) (by kernel_rfl) (hD14 ⟨(y755),⟨hy7550,hy7551⟩⟩)
 refine gj 18 rfl (ax (ax ar)) (bi (e := 3) (K := 1) (bytes := 8) [iI 0,iI 1,iI 8,iI 64,iI 65535] (rs := ([0,1,8,64,65535] : List Int).map aq) rfl rfl) ?_
 intro g905
 exact aT (ei [1,2,3,0] <| kF 3 0 [0,3,4,7,8,24,27,28,31,32,36,39,40,43]) (by kernel_rfl) (hD16 (g905))
 refine c5 (α := Unit) (fun zz => (fun (u_ : Unit) => [(8,.p 2 0),(24,aI x.t.port),(27,aI x.t.my),(28,aI sq),(31,aI x.s.una),(32,aP g),(34,.v (.agg (ai x.s).toArray)),(39,aP g),(43,.v (.string y1.2.1))]) zz) [0,3,4,7,8,24,27,28,31,32,34,39,43] (fun zz => (fun (u_ : Unit) => [⟨50,er⟩]) zz) (fun zz => (fun (u_ : Unit) => []) zz) 9 (bF 25 10625023) ?_ (fun hD22 => ?_)
 intro u_
 dsimp only [List.cons_append,List.nil_append]
 refine kA [13,18] ⟨?_,?_⟩
 refine dr 13 77 [.agg (ai x.s).toArray] (some 35) rfl (aA fun ww hf => dB x.s.una x.s.data x.s.sent x.s.fin x.s.finSent x.s.done ww ) ?_
 intro _
 exact aT (kF 3 0 [0,3,4,7,8,24,27,28,31,32,35,39,43]) (by kernel_rfl) (hD23 ())
 refine gj 18 rfl (ax (ax ar)) (bi (e := 3) (K := 1) (bytes := 8) [iI 0,iI 1,iI 8,iI 64,iI 65535] (rs := ([0,1,8,64,65535] : List Int).map aq) rfl rfl) ?_
 intro g905
 exact aT (ei [1,2,3,0] <| kF 3 0 [0,3,4,7,8,24,27,28,31,32,34,39,40,43]) (by kernel_rfl) (hD20 (g905))
 refine eI [0,1,2,3,4,5,6,7,8,9,10,11,12,17,21] [43,39,34,32,31,28,27,24,0,3,4,7] 10 [(43,.v (.string y1.2.1)),(39,aP g),(34,.v (.agg (ai x.s).toArray)),(32,aP g),(31,aI x.s.una),(28,aI sq),(27,aI x.t.my),(24,aI x.t.port)] <| kA [13,18,23] ⟨?_,?_,?_⟩
 refine dr 13 77 [.agg (ai x.s).toArray] (some 35) rfl (aA fun ww hf => dB x.s.una x.s.data x.s.sent x.s.fin x.s.finSent x.s.done ww ) ?_
 intro _
 exact aT (kF 2 0 [0,3,4,7,24,27,28,31,32,35,39,43]) (by kernel_rfl) (hD0 ())
 refine gj 18 rfl (ax (ax ar)) (bi (e := 3) (K := 1) (bytes := 8) [iI 0,iI 1,iI 8,iI 64,iI 65535] (rs := ([0,1,8,64,65535] : List Int).map aq) rfl rfl) ?_
 intro g905
 exact aT (ei [1,2,3,0] <| kF 2 0 [0,3,4,7,24,27,28,31,32,34,39,40,43]) (by kernel_rfl) (hD18 (g905))
 refine cK 23 ⟨50,er⟩ _ rfl (by kernel_rfl) (by kernel_rfl) (by kernel_rfl) (by kernel_rfl) rfl ?_
 exact aT (kF 3 0 [0,3,4,7,8,24,27,28,31,32,34,39,43]) (by kernel_rfl) (hD22 ())
theorem fa {g : Nat} {J : List Int} {A : Option Addr} {cap : Nat} {x : Con} {xV : Value} {w0 : World} {fs : List Fact} {B : Nat} (hB : B ≤ w0.heap.size) (hap : ¬ (sQ A J cap).blk g)  (hn : J.length ≤ 1048576 := by omega) (h1 : cF B g A J cap ∈ fs := by simp) (h2 : sQ A J cap ∈ fs := by simp) : XCM Tryz.prog w0 fs (cF B g A J cap).blk 109 [gP g, .agg (a7 x xV).toArray] (α := {y : Seg // y.body.size ≤ 4096}) (fun y => .agg (aG y.1).toArray) (fun _ => [cF B g A J cap]) := dq fun w hw hf => l19Segment_c g J A cap x xV w B (Nat.le_trans hB hw) (hf _ h1) (hf _ h2) hap hn  
theorem l19Conn_c (g : Nat) (J : List Int) (A : Option Addr) (cap : Nat) (w : World) (B : Nat) (hB : B ≤ w.heap.size) (hc : (cF B g A J cap).p w) (hl : Sl w (sJ A J cap) 1 (J.map bR)) (hap : ¬ (sQ A J cap).blk g) (hn : J.length ≤ 1048576) : Calls Tryz.prog 132 #[gP g] w fun e w' => ∃ y : {y : Con × (Option Addr × Nat) // RB 4 y.1.r}, e = .returned (.agg (a7 y.1.1 (.slice y.1.2.1 y.1.1.r.held.length y.1.2.2)).toArray) ∧ (cF B g A J cap).p w' ∧ (f7 w.heap.size (.slice y.1.2.1 y.1.1.r.held.length y.1.2.2) 2 (y.1.1.r.held.map pC)).p w' ∧ g < w.heap.size ∧ Chgd (fun b => b = g) w w' := by
 have hq_code := Sl.capLe hl
 have hBw : B ≤ (aQ w B).heap.size := Nat.le_of_eq (bn hB).symm
 have hlo : ∀ (ww : World) (b : Nat),(cF B g A J cap).p ww → (cF B g A J cap).blk b → (aQ w B).heap.size ≤ b := fun ww b h hb => Nat.le_trans (ce w B) (cC h hb)
 refine ge (args := [gP g]) (fn := Tryz.f132) [cF B g A J cap,sQ A J cap,c9 w (fun b => b = g)] B Tryz.func132 rfl Tryz.ntmps132 rfl hB (by simp only [List.mem_cons,List.not_mem_nil,or_false,forall_eq_or_imp,forall_eq]; exact ⟨hc,hl,bJ w _⟩) (cu hap rfl) ?_
 have hgl : g < w.heap.size := (cF B g A J cap).lt w g hc rfl
 refine kQ <| c8 [0,2] ⟨[(0,aP g),(2,.p 0 0)],[⟨44,bN⟩],[],[cF B g A J cap,sQ A J cap,c9 w (fun b => b = g)]⟩ <| kQ <| dp 1 [0,2,6] [(6,aP g)] 147 [gP g] (some 7) 0 rfl rfl hlo (l12Tuple_c_K hBw hap) ?_
 rintro ⟨y1,hy1⟩
 refine dp 1 [0,2,7,8] [(8,aP g)] 148 [gP g] (some 9) 0 rfl rfl hlo (cE hBw hap) ?_
 rintro ⟨y2,hy2⟩
 refine dp 1 [0,2,7,9,10] [(10,aP g)] 148 [gP g] (some 11) 0 rfl rfl hlo (cE hBw hap) ?_
 rintro ⟨y3,hy3⟩
 refine dp 1 [0,2,7,9,11,12] [(12,aP g)] 149 [gP g] (some 13) 0 rfl rfl hlo (hO hBw hap) ?_
 rintro ⟨y4,hy4⟩
 refine kHD 1 [0,2,7,9,11,13,14] [(14,aP g)] rfl (bi (e := 3) (K := 1) (bytes := 8) [iI 0,iI 4,iI 64,iI 65535] (rs := ([0,4,64,65535] : List Int).map aq) rfl rfl) ?_
 intro g5
 refine dd (φ := ¬ (c7 (.slice (some ⟨g5,0,none⟩) 4 4) 1 (([0,4,64,65535] : List Int).map aq)).blk g) (fun _ _ _ _ hr => fun hb => hr.2.apart 0 1 (ap (aQ w B).heap.size 3 1 (.slice (some ⟨g5,0,none⟩) 4 4) (([0,4,64,65535] : List Int).map aq)) (cF B g A J cap) rfl rfl (by decide) rfl g (bK hb) rfl) (fun hk6 => ?_)
 refine dp 0 [0,2,7,9,11,13,14,15] [] 136 [gP g,.slice (some ⟨g5,0,none⟩) 4 4] (some 16) 1 rfl rfl hlo (bp hBw hap (fun ww hw hf => (aS (hf _ m0))) hk6 (by simp)) ?_
 rintro ⟨y7,hy7⟩
 refine dy 0 [0,2,7,9,11,13,16] [] 146 [.agg (dI y1).toArray,iI y2,iI y3,.agg (df y4).toArray,iI y7] (some 17) rfl (cZ fun ww hw hf => ysConnNew_c y1 y2 y3 y4 y7 ww   ((aQ w B).heap.size) hw) ?_
 rintro ⟨v8a,v8c⟩
 have hbd9 : (cD y1 y2 y3 y4 y7).r.held.length ≤ 1048576 := connNew_bd _ _ _ _ _  (by omega)
 refine i5 [0,2,3] [(3,.p 1 0)] [⟨44,a7 (cD y1 y2 y3 y4 y7) (.slice v8a ((cD y1 y2 y3 y4 y7).r.held.length) v8c)⟩] <| kQ <| dp 1 [0,2,3,18] [(18,aP g)] 133 [gP g,iI 9] (some 19) 1 rfl rfl hlo (ag hBw hap) ?_
 rintro ⟨y10,hy10⟩
 obtain ⟨hy100,hy101⟩ := hy10
 refine aR [0,2,3,4] [(4,aI y10)] <| kS <| kQ <| aJ [0,2,3,4,5] [(0,aP g),(2,.p 0 0),(3,.p 1 0),(4,aI y10),(5,aI 0)] ?_
 refine aZ <| cz (α := {x : Nat × Con × Option Addr × Nat // (fun (i : Nat) (x : Con) (A1 : Option Addr) (c1 : Nat) => (i : Int) ≤ y10 ∧ RB 3 x.r) x.1 x.2.1 x.2.2.1 x.2.2.2}) (fun x => (fun (i : Nat) (x : Con) (A1 : Option Addr) (c1 : Nat) => (⟨[(0,aP g),(2,.p 0 0),(3,.p 1 0),(4,aI y10),(5,aI (i : Int))],[⟨44,bN⟩,⟨44,a7 x (cS A1 x c1)⟩],[],[aF (aQ w B).heap.size (cS A1 x c1) 2 (x.r.held.map pC),cF B g A J cap,ap (aQ w B).heap.size 3 1 (.slice (some ⟨g5,0,none⟩) 4 4) (([0,4,64,65535] : List Int).map aq),sQ A J cap,c9 w (fun b => b = g)]⟩ : St)) x.1.1 x.1.2.1 x.1.2.2.1 x.1.2.2.2) (fun x => (fun (i : Nat) (x : Con) (A1 : Option Addr) (c1 : Nat) => (y10).toNat - i) x.1.1 x.1.2.1 x.1.2.2.1 x.1.2.2.2) ⟨(0,(cD y1 y2 y3 y4 y7),v8a,v8c),⟨(by omega),RB.newC _ _ _ _ _⟩⟩ (ei [1,0,2,3,4] <| kF 2 0 [0,2,3,4,5]) ?_
 rintro ⟨⟨i,x,A1,c1⟩,hi,hrb⟩
 try dsimp only
 try dsimp only at hi hrb
 have hkn := hrb.up.kn; have hm := hrb.hm; have hsz := hrb.sz
 refine kS <| kQ <| aR [0,2,3,4,5,22] [(22,aB (decide ((i : Int) < y10)))] <| kC (decide ((i : Int) < y10)) (fun h11 => ?_) (fun h11 => ?_)
 have h11p := of_decide_eq_true h11
 have hlt :  (i : Int) < y10 := of_decide_eq_true h11
 refine kK <| kS <| cf (α := {zz : Con × Option Addr × Nat // (fun (x2 : Con) (A4 : Option Addr) (c4 : Nat) => RB 3 x2.r) zz.1 zz.2.1 zz.2.2}) (fun zz => (fun (x2 : Con) (A4 : Option Addr) (c4 : Nat) => (⟨[(0,aP g),(2,.p 0 0),(3,.p 1 0),(4,aI y10),(5,aI (i : Int))],[⟨44,bN⟩,⟨44,a7 x2 (cS A4 x2 c4)⟩],[],[aF (aQ w B).heap.size (cS A4 x2 c4) 2 (x2.r.held.map pC),cF B g A J cap,ap (aQ w B).heap.size 3 1 (.slice (some ⟨g5,0,none⟩) 4 4) (([0,4,64,65535] : List Int).map aq),sQ A J cap,c9 w (fun b => b = g)]⟩ : St)) zz.1.1 zz.1.2.1 zz.1.2.2) ?_ ?_
 refine aZ <| kQ <| dp 1 [0,2,3,4,5,25] [(25,aP g)] 133 [gP g,iI 8] (some 26) 1 rfl rfl hlo (ag hBw hap) ?_
 rintro ⟨y12,hy12⟩
 obtain ⟨hy120,hy121⟩ := hy12
 refine aR [0,2,3,4,5,26] [] <| aZ <| kQ <| aR [0,2,3,4,5,26,36] [(36,aB (y12 == 0))] ?_
 refine kC (y12 == 0) (fun h13 => ?_) (fun h13 => ?_)
 have h13p := bC h13
 refine bc [true,false] (by kernel_rfl) (fun ρ σ => ?_)
 refine eI [1,2] [41,40,0,2,3,4,5] 10 [(41,aP g),(40,aP g)] <| kA [0,3] ⟨?_,?_⟩
 refine fV 0 (.v (.agg (a7 x (cS A1 x c1)).toArray)) rfl <| kA [3] <| gw 3 133 [gP g,iI 20] (some 42) 0 rfl rfl hlo (ax (bz rfl ar)) (ag hBw hap) ?_
 rintro ⟨y14,hy14⟩
 obtain ⟨hy140,hy141⟩ := hy14
 refine kA [4] <| gw 4 151 [gP g,iI y14] (some 43) 0 rfl rfl hlo (ax (bz rfl ar)) (eE fun ww hw hf => fk g J A cap y14 ww B (Nat.le_trans (by first | exact Nat.le_refl _ | exact Nat.le_of_eq (bn hB).symm) hw) (hf (cF B g A J cap) (by simp)) (hf _ m3) hap (by omega) (by omega)) ?_
 rintro ⟨⟨b15l,b15a,b15c⟩,hb15⟩
 dsimp only at hb15
 refine kA [5] <| i7 5 (.string (am b15l)) rfl (fun _ _ ww hr => cb (e := 5) b15l hr.1 rfl (by kernel_rfl) (by kernel_rfl) (by kernel_rfl) rfl (aS (hr.2.fact (ap (aQ w B).heap.size 5 1 (.slice b15a b15l.length b15c) (b15l.map bR)) (by simp)).1)) ?_
 refine kA [6] <| dr 6 150 [.agg (a7 x (cS A1 x c1)).toArray,.string (am b15l)] (some 45) rfl (cZ fun ww hw hf => ysWrite_c x (cS A1 x c1) (am b15l) ww (Own.sl (hf _ m2)) (by assumption) (by assumption) (by omega) (by first | omega | (rw [bL]; omega) | decide) ((aQ w B).heap.size) hw) ?_
 rintro ⟨⟨v16a,v16c⟩,⟨v17a,v17c⟩⟩
 have hbd18 : (write x (am b15l)).1.r.held.length ≤ 1048576 ∧ (write x (am b15l)).2.2.length ≤ 49 := write_bd _ _  (by omega)
 have hbd18a := hbd18.1; have hbd18b := hbd18.2
 refine eI [7,8,9,10] [46,0,2,3,4,5] 1 [(46,.v (.agg (a7 (write x (am b15l)).1 (.slice v16a ((write x (am b15l)).1.r.held.length) v16c)).toArray))] <| kA [11] <| e8 11 1 0 (a7 (write x (am b15l)).1 (.slice v16a ((write x (am b15l)).1.r.held.length) v16c)) rfl <| kZ ?_
 exact ⟨⟨((write x (am b15l)).1,v16a,v16c),(by first | exact RB.write hrb _ | exact RB.tick hrb | exact RB.shut hrb | exact RB.read hrb _ | exact RB.recv hrb (by omega) _ | exact hrb)⟩,ei [0,3,5,6,7] <| kF 2 0 [0,2,3,4,5]⟩
 refine gw 3 133 [gP g,iI 20] (some 42) 0 rfl rfl hlo (ax (bz rfl ar)) (ag hBw hap) ?_
 rintro ⟨y19,hy19⟩
 obtain ⟨hy190,hy191⟩ := hy19
 refine kA [0,4] ⟨?_,?_⟩
 refine fV 0 (.v (.agg (a7 x (cS A1 x c1)).toArray)) rfl <| kA [4] <| gw 4 151 [gP g,iI y19] (some 43) 0 rfl rfl hlo (ax (bz rfl ar)) (eE fun ww hw hf => fk g J A cap y19 ww B (Nat.le_trans (by first | exact Nat.le_refl _ | exact Nat.le_of_eq (bn hB).symm) hw) (hf (cF B g A J cap) (by simp)) (hf _ m3) hap (by omega) (by omega)) ?_
 rintro ⟨⟨b20l,b20a,b20c⟩,hb20⟩
 dsimp only at hb20
 refine kA [5] <| i7 5 (.string (am b20l)) rfl (fun _ _ ww hr => cb (e := 5) b20l hr.1 rfl (by kernel_rfl) (by kernel_rfl) (by kernel_rfl) rfl (aS (hr.2.fact (ap (aQ w B).heap.size 5 1 (.slice b20a b20l.length b20c) (b20l.map bR)) (by simp)).1)) ?_
 refine kA [6] <| dr 6 150 [.agg (a7 x (cS A1 x c1)).toArray,.string (am b20l)] (some 45) rfl (cZ fun ww hw hf => ysWrite_c x (cS A1 x c1) (am b20l) ww (Own.sl (hf _ m2)) (by assumption) (by assumption) (by omega) (by first | omega | (rw [bL]; omega) | decide) ((aQ w B).heap.size) hw) ?_
 rintro ⟨⟨v21a,v21c⟩,⟨v22a,v22c⟩⟩
 have hbd23 : (write x (am b20l)).1.r.held.length ≤ 1048576 ∧ (write x (am b20l)).2.2.length ≤ 49 := write_bd _ _  (by omega)
 have hbd23a := hbd23.1; have hbd23b := hbd23.2
 refine eI [7,8,9,10] [46,0,2,3,4,5] 1 [(46,.v (.agg (a7 (write x (am b20l)).1 (.slice v21a ((write x (am b20l)).1.r.held.length) v21c)).toArray))] <| kA [11] <| e8 11 1 0 (a7 (write x (am b20l)).1 (.slice v21a ((write x (am b20l)).1.r.held.length) v21c)) rfl <| kZ ?_
 exact ⟨⟨((write x (am b20l)).1,v21a,v21c),(by first | exact RB.write hrb _ | exact RB.tick hrb | exact RB.shut hrb | exact RB.read hrb _ | exact RB.recv hrb (by omega) _ | exact hrb)⟩,ei [0,3,5,6,7] <| kF 2 0 [0,2,3,4,5]⟩
 refine gw 4 151 [gP g,iI y19] (some 43) 0 rfl rfl hlo (ax (bz rfl ar)) (eE fun ww hw hf => fk g J A cap y19 ww B (Nat.le_trans (by first | exact Nat.le_refl _ | exact Nat.le_of_eq (bn hB).symm) hw) (hf (cF B g A J cap) (by simp)) (hf _ m3) hap (by omega) (by omega)) ?_
 rintro ⟨⟨b24l,b24a,b24c⟩,hb24⟩
 dsimp only at hb24
 refine kA [0,5] ⟨?_,?_⟩
 refine fV 0 (.v (.agg (a7 x (cS A1 x c1)).toArray)) rfl <| kA [5] <| i7 5 (.string (am b24l)) rfl (fun _ _ ww hr => cb (e := 5) b24l hr.1 rfl (by kernel_rfl) (by kernel_rfl) (by kernel_rfl) rfl (aS (hr.2.fact (ap (aQ w B).heap.size 5 1 (.slice b24a b24l.length b24c) (b24l.map bR)) (by simp)).1)) ?_
 refine kA [6] <| dr 6 150 [.agg (a7 x (cS A1 x c1)).toArray,.string (am b24l)] (some 45) rfl (cZ fun ww hw hf => ysWrite_c x (cS A1 x c1) (am b24l) ww (Own.sl (hf _ m2)) (by assumption) (by assumption) (by omega) (by first | omega | (rw [bL]; omega) | decide) ((aQ w B).heap.size) hw) ?_
 rintro ⟨⟨v25a,v25c⟩,⟨v26a,v26c⟩⟩
 have hbd27 : (write x (am b24l)).1.r.held.length ≤ 1048576 ∧ (write x (am b24l)).2.2.length ≤ 49 := write_bd _ _  (by omega)
 have hbd27a := hbd27.1; have hbd27b := hbd27.2
 refine eI [7,8,9,10] [46,0,2,3,4,5] 1 [(46,.v (.agg (a7 (write x (am b24l)).1 (.slice v25a ((write x (am b24l)).1.r.held.length) v25c)).toArray))] <| kA [11] <| e8 11 1 0 (a7 (write x (am b24l)).1 (.slice v25a ((write x (am b24l)).1.r.held.length) v25c)) rfl <| kZ ?_
 exact ⟨⟨((write x (am b24l)).1,v25a,v25c),(by first | exact RB.write hrb _ | exact RB.tick hrb | exact RB.shut hrb | exact RB.read hrb _ | exact RB.recv hrb (by omega) _ | exact hrb)⟩,ei [0,3,5,6,7] <| kF 2 0 [0,2,3,4,5]⟩
 refine i7 5 (.string (am b24l)) rfl (fun _ _ ww hr => cb (e := 5) b24l hr.1 rfl (by kernel_rfl) (by kernel_rfl) (by kernel_rfl) rfl (aS (hr.2.fact (ap (aQ w B).heap.size 5 1 (.slice b24a b24l.length b24c) (b24l.map bR)) (by simp)).1)) ?_
 refine kA [0] <| fV 0 (.v (.agg (a7 x (cS A1 x c1)).toArray)) rfl <| kA [6] <| dr 6 150 [.agg (a7 x (cS A1 x c1)).toArray,.string (am b24l)] (some 45) rfl (cZ fun ww hw hf => ysWrite_c x (cS A1 x c1) (am b24l) ww (Own.sl (hf _ m2)) (by assumption) (by assumption) (by omega) (by first | omega | (rw [bL]; omega) | decide) ((aQ w B).heap.size) hw) ?_
 rintro ⟨⟨v28a,v28c⟩,⟨v29a,v29c⟩⟩
 have hbd30 : (write x (am b24l)).1.r.held.length ≤ 1048576 ∧ (write x (am b24l)).2.2.length ≤ 49 := write_bd _ _  (by omega)
 have hbd30a := hbd30.1; have hbd30b := hbd30.2
 refine eI [7,8,9,10] [46,0,2,3,4,5] 1 [(46,.v (.agg (a7 (write x (am b24l)).1 (.slice v28a ((write x (am b24l)).1.r.held.length) v28c)).toArray))] <| kA [11] <| e8 11 1 0 (a7 (write x (am b24l)).1 (.slice v28a ((write x (am b24l)).1.r.held.length) v28c)) rfl <| kZ ?_
 exact ⟨⟨((write x (am b24l)).1,v28a,v28c),(by first | exact RB.write hrb _ | exact RB.tick hrb | exact RB.shut hrb | exact RB.read hrb _ | exact RB.recv hrb (by omega) _ | exact hrb)⟩,ei [0,3,5,6,7] <| kF 2 0 [0,2,3,4,5]⟩
 have h13p := bA h13
 refine kQ <| aR [0,2,3,4,5,26,49] [(49,aB (y12 == 1))] <| kC (y12 == 1) (fun h31 => ?_) (fun h31 => ?_)
 have h31p := bC h31
 refine kG <| dy 1 [0,2,3,4,5,52] [(52,.v (.agg (a7 x (cS A1 x c1)).toArray))] 152 [.agg (a7 x (cS A1 x c1)).toArray] (some 53) rfl (cZ fun ww hw hf => ysTickConn_c x (cS A1 x c1) ww (Own.sl (hf _ m1)) (by assumption) (by assumption) (by omega) ((aQ w B).heap.size) hw) ?_
 rintro ⟨⟨v32a,v32c⟩,⟨v33a,v33c⟩⟩
 have hbd34 : (bu x).1.r.held.length ≤ 1048576 ∧ (bu x).2.length ≤ 49 := tickConn_bd _  (by omega)
 have hbd34a := hbd34.1; have hbd34b := hbd34.2
 refine bf [0,2,3,4,5] [] 1 ⟨44,a7 (bu x).1 (.slice v32a ((bu x).1.r.held.length) v32c)⟩ ?_
 exact ⟨⟨((bu x).1,v32a,v32c),(by first | exact RB.write hrb _ | exact RB.tick hrb | exact RB.shut hrb | exact RB.read hrb _ | exact RB.recv hrb (by omega) _ | exact hrb)⟩,ei [0,2,4,5,6] <| kF 2 0 [0,2,3,4,5]⟩
 have h31p := bA h31
 refine kQ <| aR [0,2,3,4,5,26,56] [(56,aB (y12 == 2))] <| kC (y12 == 2) (fun h35 => ?_) (fun h35 => ?_)
 have h35p := bC h35
 refine kQ <| dp 1 [0,2,3,4,5,58] [(58,aP g)] 110 [gP g,iI 2] (some 59) 0 rfl rfl hlo (bO hBw hap) ?_
 rintro ⟨y36,hy36⟩
 refine aR [0,2,3,4,5,59] [] <| kC (y36) (fun h37 => ?_) (fun h37 => ?_)
 refine kG <| dy 1 [0,2,3,4,5,61] [(61,.v (.agg (a7 x (cS A1 x c1)).toArray))] 153 [.agg (a7 x (cS A1 x c1)).toArray] (some 62) rfl (cZ fun ww hw hf => ysShut_c x (cS A1 x c1) ww (Own.sl (hf _ m1)) (by assumption) (by assumption) (by omega) ((aQ w B).heap.size) hw) ?_
 rintro ⟨⟨v38a,v38c⟩,⟨v39a,v39c⟩⟩
 have hbd40 : (shut x).1.r.held.length ≤ 1048576 ∧ (shut x).2.length ≤ 49 := shut_bd _  (by omega)
 have hbd40a := hbd40.1; have hbd40b := hbd40.2
 refine bf [0,2,3,4,5] [] 1 ⟨44,a7 (shut x).1 (.slice v38a ((shut x).1.r.held.length) v38c)⟩ ?_
 exact ⟨⟨((shut x).1,v38a,v38c),(by first | exact RB.write hrb _ | exact RB.tick hrb | exact RB.shut hrb | exact RB.read hrb _ | exact RB.recv hrb (by omega) _ | exact hrb)⟩,ei [0,2,4,5,6] <| kF 2 0 [0,2,3,4,5]⟩
 refine kK ?_
 exact ⟨⟨(x,A1,c1),(by first | exact RB.write hrb _ | exact RB.tick hrb | exact RB.shut hrb | exact RB.read hrb _ | exact RB.recv hrb (by omega) _ | exact hrb)⟩,ei [1,0,2,3,4] <| kF 2 0 [0,2,3,4,5]⟩
 have h35p := bA h35
 refine kQ <| aR [0,2,3,4,5,65] [(65,aB (y12 == 3))] <| kC (y12 == 3) (fun h41 => ?_) (fun h41 => ?_)
 have h41p := bC h41
 refine bc [true,false] (by kernel_rfl) (fun ρ σ => ?_)
 refine eI [1] [69,0,2,3,4,5] 8 [(69,aP g)] <| kA [0,2] ⟨?_,?_⟩
 refine fV 0 (.v (.agg (a7 x (cS A1 x c1)).toArray)) rfl <| kA [2] <| gw 2 133 [gP g,iI 9] (some 70) 0 rfl rfl hlo (ax (bz rfl ar)) (ag hBw hap) ?_
 rintro ⟨y42,hy42⟩
 obtain ⟨hy420,hy421⟩ := hy42
 refine kA [3] <| dr 3 154 [.agg (a7 x (cS A1 x c1)).toArray,iI y42] (some 71) rfl (cZ fun ww hw hf => ysReadConn_c x (cS A1 x c1) y42 ww (Own.sl (hf _ m1)) (by assumption) (by assumption) (by omega) ((aQ w B).heap.size) hw) ?_
 rintro ⟨⟨v43a,v43c⟩,⟨v44a,v44c⟩⟩
 have hbd45 : (bW x y42).1.r.held.length ≤ 1048576 ∧ (bW x y42).2.2.length ≤ 1 := readConn_bd _ _  (by omega)
 have hbd45a := hbd45.1; have hbd45b := hbd45.2
 refine eI [4,5,6,7] [72,0,2,3,4,5] 1 [(72,.v (.agg (a7 (bW x y42).1 (.slice v43a ((bW x y42).1.r.held.length) v43c)).toArray))] <| kA [8] <| e8 8 1 0 (a7 (bW x y42).1 (.slice v43a ((bW x y42).1.r.held.length) v43c)) rfl <| kZ ?_
 exact ⟨⟨((bW x y42).1,v43a,v43c),(by first | exact RB.write hrb _ | exact RB.tick hrb | exact RB.shut hrb | exact RB.read hrb _ | exact RB.recv hrb (by omega) _ | exact hrb)⟩,ei [0,2,4,5,6] <| kF 2 0 [0,2,3,4,5]⟩
 refine gw 2 133 [gP g,iI 9] (some 70) 0 rfl rfl hlo (ax (bz rfl ar)) (ag hBw hap) ?_
 rintro ⟨y46,hy46⟩
 obtain ⟨hy460,hy461⟩ := hy46
 refine kA [0] <| fV 0 (.v (.agg (a7 x (cS A1 x c1)).toArray)) rfl <| kA [3] <| dr 3 154 [.agg (a7 x (cS A1 x c1)).toArray,iI y46] (some 71) rfl (cZ fun ww hw hf => ysReadConn_c x (cS A1 x c1) y46 ww (Own.sl (hf _ m1)) (by assumption) (by assumption) (by omega) ((aQ w B).heap.size) hw) ?_
 rintro ⟨⟨v47a,v47c⟩,⟨v48a,v48c⟩⟩
 have hbd49 : (bW x y46).1.r.held.length ≤ 1048576 ∧ (bW x y46).2.2.length ≤ 1 := readConn_bd _ _  (by omega)
 have hbd49a := hbd49.1; have hbd49b := hbd49.2
 refine eI [4,5,6,7] [72,0,2,3,4,5] 1 [(72,.v (.agg (a7 (bW x y46).1 (.slice v47a ((bW x y46).1.r.held.length) v47c)).toArray))] <| kA [8] <| e8 8 1 0 (a7 (bW x y46).1 (.slice v47a ((bW x y46).1.r.held.length) v47c)) rfl <| kZ ?_
 exact ⟨⟨((bW x y46).1,v47a,v47c),(by first | exact RB.write hrb _ | exact RB.tick hrb | exact RB.shut hrb | exact RB.read hrb _ | exact RB.recv hrb (by omega) _ | exact hrb)⟩,ei [0,2,4,5,6] <| kF 2 0 [0,2,3,4,5]⟩
 have h41p := bA h41
 refine bc [true,false] (by kernel_rfl) (fun ρ σ => ?_)
 refine eI [1] [29,0,2,3,4,5] 9 [(29,aP g)] <| kA [0,2] ⟨?_,?_⟩
 refine fV 0 (.v (.agg (a7 x (cS A1 x c1)).toArray)) rfl <| kA [2] <| fV 2 (.v (.agg (a7 x (cS A1 x c1)).toArray)) rfl <| kA [3] ?_
 refine gw 3 109 [gP g,.agg (a7 x (cS A1 x c1)).toArray] (some 31) 0 rfl rfl hlo (ax (bz rfl ar)) (fa hBw hap) ?_
 rintro ⟨y50,hy50⟩
 refine kA [4] <| dr 4 8 [.agg (a7 x (cS A1 x c1)).toArray,.agg (aG y50).toArray] (some 32) rfl (cZ fun ww hw hf => gH x (cS A1 x c1) y50 ww (Own.sl (hf _ m1)) (by assumption) (by omega) (by assumption) (by omega) ((aQ w B).heap.size) hw) ?_
 rintro ⟨⟨v51a,v51c⟩,⟨v52a,v52c⟩⟩
 refine eI [5,6,7,8] [33,0,2,3,4,5] 1 [(33,.v (.agg (a7 (a8 x y50).1 (.slice v51a ((a8 x y50).1.r.held.length) v51c)).toArray))] <| kA [9] <| e8 9 1 0 (a7 (a8 x y50).1 (.slice v51a ((a8 x y50).1.r.held.length) v51c)) rfl <| kZ ?_
 exact ⟨⟨((a8 x y50).1,v51a,v51c),(by first | exact RB.write hrb _ | exact RB.tick hrb | exact RB.shut hrb | exact RB.read hrb _ | exact RB.recv hrb (by omega) _ | exact hrb)⟩,ei [0,2,4,5,6] <| kF 2 0 [0,2,3,4,5]⟩
 refine fV 2 (.v (.agg (a7 x (cS A1 x c1)).toArray)) rfl <| kA [0,3] ⟨?_,?_⟩
 refine fV 0 (.v (.agg (a7 x (cS A1 x c1)).toArray)) rfl <| kA [3] <| gw 3 109 [gP g,.agg (a7 x (cS A1 x c1)).toArray] (some 31) 0 rfl rfl hlo (ax (bz rfl ar)) (fa hBw hap) ?_
 rintro ⟨y53,hy53⟩
 refine kA [4] <| dr 4 8 [.agg (a7 x (cS A1 x c1)).toArray,.agg (aG y53).toArray] (some 32) rfl (cZ fun ww hw hf => gH x (cS A1 x c1) y53 ww (Own.sl (hf _ m1)) (by assumption) (by omega) (by assumption) (by omega) ((aQ w B).heap.size) hw) ?_
 rintro ⟨⟨v54a,v54c⟩,⟨v55a,v55c⟩⟩
 refine eI [5,6,7,8] [33,0,2,3,4,5] 1 [(33,.v (.agg (a7 (a8 x y53).1 (.slice v54a ((a8 x y53).1.r.held.length) v54c)).toArray))] <| kA [9] <| e8 9 1 0 (a7 (a8 x y53).1 (.slice v54a ((a8 x y53).1.r.held.length) v54c)) rfl <| kZ ?_
 exact ⟨⟨((a8 x y53).1,v54a,v54c),(by first | exact RB.write hrb _ | exact RB.tick hrb | exact RB.shut hrb | exact RB.read hrb _ | exact RB.recv hrb (by omega) _ | exact hrb)⟩,ei [0,2,4,5,6] <| kF 2 0 [0,2,3,4,5]⟩
 refine gw 3 109 [gP g,.agg (a7 x (cS A1 x c1)).toArray] (some 31) 0 rfl rfl hlo (ax (bz rfl ar)) (fa hBw hap) ?_
 rintro ⟨y56,hy56⟩
 refine kA [0] <| fV 0 (.v (.agg (a7 x (cS A1 x c1)).toArray)) rfl <| kA [4] <| dr 4 8 [.agg (a7 x (cS A1 x c1)).toArray,.agg (aG y56).toArray] (some 32) rfl (cZ fun ww hw hf => gH x (cS A1 x c1) y56 ww (Own.sl (hf _ m1)) (by assumption) (by omega) (by assumption) (by omega) ((aQ w B).heap.size) hw) ?_
 rintro ⟨⟨v57a,v57c⟩,⟨v58a,v58c⟩⟩
 refine eI [5,6,7,8] [33,0,2,3,4,5] 1 [(33,.v (.agg (a7 (a8 x y56).1 (.slice v57a ((a8 x y56).1.r.held.length) v57c)).toArray))] <| kA [9] <| e8 9 1 0 (a7 (a8 x y56).1 (.slice v57a ((a8 x y56).1.r.held.length) v57c)) rfl <| kZ ?_
 exact ⟨⟨((a8 x y56).1,v57a,v57c),(by first | exact RB.write hrb _ | exact RB.tick hrb | exact RB.shut hrb | exact RB.read hrb _ | exact RB.recv hrb (by omega) _ | exact hrb)⟩,ei [0,2,4,5,6] <| kF 2 0 [0,2,3,4,5]⟩
 rintro ⟨⟨x2,A4,c4⟩,hr2⟩
 try dsimp only
 try dsimp only at hr2
 refine kG <| cA 3 [0,2,3,4,5] [(5,aI (K6.wrap ((i : Int) + 1)))] <| cJ [0,2,3,4,5] [(5,aI (K6.wrap ((i : Int) + 1)))] [(5,aI ((i : Int) + 1))] (by rw [show (K6.wrap ((i : Int) + 1)) = ((i : Int) + 1) from ab (by omega) (by omega)]) (by kernel_rfl) ?_
 refine aR [0,2,3,4,5] [] ?_
 exact ⟨⟨(i + 1,x2,A4,c4),⟨(by omega),hr2⟩⟩,kF 2 0 [0,2,3,4,5],by show (fun (i : Nat) (x : Con) (A1 : Option Addr) (c1 : Nat) => (y10).toNat - i) (i + 1) x2 A4 c4 < (y10).toNat - i; (dsimp only; omega)⟩
 have h11p := of_decide_eq_false h11
 have hge : ¬ (i : Int) < y10 := of_decide_eq_false h11
 refine cq <| kQ <| bf [2] [(2,.p 0 0)] 0 ⟨44,a7 x (cS A1 x c1)⟩ <| kR ?_
 exact ⟨[.agg (a7 x (cS A1 x c1)).toArray],by kernel_rfl,fun w' hb hf ha => ⟨⟨(x,A1,c1),hrb.up⟩,rfl,hf (cF B g A J cap) (by simp),newF_own (hf (aF (aQ w B).heap.size (cS A1 x c1) 2 (x.r.held.map pC)) (by simp)) (eB ha (i := 0) (j := 1) (k := 4) rfl rfl rfl rfl (by decide) (by decide)),hgl,aY (hf (c9 w (fun b => b = g)) (by simp)) hb rfl rfl rfl⟩⟩
theorem l19Bent_c (g : Nat) (J : List Int) (A : Option Addr) (cap : Nat) (w : World) (B : Nat) (hB : B ≤ w.heap.size) (hc : (cF B g A J cap).p w) (hl : Sl w (sJ A J cap) 1 (J.map bR)) (hap : ¬ (sQ A J cap).blk g) (hn : J.length ≤ 1048576) : Calls Tryz.prog 108 #[gP g] w fun e w' => ∃ y : {y : Con × (Option Addr × Nat) // RB 4 y.1.r}, e = .returned (.agg (a7 y.1.1 (.slice y.1.2.1 y.1.1.r.held.length y.1.2.2)).toArray) ∧ (cF B g A J cap).p w' ∧ (f7 w.heap.size (.slice y.1.2.1 y.1.1.r.held.length y.1.2.2) 2 (y.1.1.r.held.map pC)).p w' ∧ g < w.heap.size ∧ Chgd (fun b => b = g) w w' := by
 have hq_code := Sl.capLe hl
 have hBw : B ≤ (aQ w B).heap.size := Nat.le_of_eq (bn hB).symm
 have hlo : ∀ (ww : World) (b : Nat),(cF B g A J cap).p ww → (cF B g A J cap).blk b → (aQ w B).heap.size ≤ b := fun ww b h hb => Nat.le_trans (ce w B) (cC h hb)
 refine ge (args := [gP g]) (fn := Tryz.f108) [cF B g A J cap,sQ A J cap,c9 w (fun b => b = g)] B Tryz.func108 rfl Tryz.ntmps108 rfl hB (by simp only [List.mem_cons,List.not_mem_nil,or_false,forall_eq_or_imp,forall_eq]; exact ⟨hc,hl,bJ w _⟩) (cu hap rfl) ?_
 have hgl : g < w.heap.size := (cF B g A J cap).lt w g hc rfl
 refine kQ <| c8 [0,2] ⟨[(0,aP g),(2,.p 0 0)],[⟨44,bN⟩],[],[cF B g A J cap,sQ A J cap,c9 w (fun b => b = g)]⟩ <| kQ <| dp 1 [0,2,4] [(4,aP g)] 132 [gP g] (some 5) 0 rfl rfl hlo (xcm_curN fun ww hw hf => l19Conn_c g J A cap ww B (Nat.le_trans (by first | exact Nat.le_refl _ | exact Nat.le_of_eq (bn hB).symm) hw) (hf (cF B g A J cap) (by simp)) (hf _ m1) hap (by omega)) ?_
 rintro ⟨⟨b1m,b1a,b1c⟩,hb1⟩
 dsimp only at hb1
 have hb1n := hb1.1
 refine i5 [0,2,3] [(3,.p 1 0)] [⟨44,a7 b1m (cS b1a b1m b1c)⟩] <| kS <| kQ <| dp 1 [0,2,3,6] [(6,aP g)] 133 [gP g,iI 16] (some 7) 1 rfl rfl hlo (ag hBw hap) ?_
 rintro ⟨y2,hy2⟩
 obtain ⟨hy20,hy21⟩ := hy2
 refine aR [0,2,3,7] [] <| aZ <| kQ <| aR [0,2,3,7,8] [(8,aB (y2 == 0))] ?_
 refine kC (y2 == 0) (fun h3 => ?_) (fun h3 => ?_)
 have h3p := bC h3
 refine kG <| dp 1 [2,3,10] [(10,aP g)] 133 [gP g,iI 11] (some 11) 0 rfl rfl hlo (ag hBw hap) ?_
 rintro ⟨y4,hy4⟩
 obtain ⟨hy40,hy41⟩ := hy4
 refine bf [2,3] [] 1 ⟨44,a7 { b1m with state := K6.wrap (y4 - 1) } (cS b1a b1m b1c)⟩ <| kQ <| bf [2] [(2,.p 0 0)] 0 ⟨44,a7 { b1m with state := K6.wrap (y4 - 1) } (cS b1a b1m b1c)⟩ <| kR ?_
 exact ⟨[.agg (a7 { b1m with state := K6.wrap (y4 - 1) } (cS b1a b1m b1c)).toArray],by kernel_rfl,fun w' hb hf ha => ⟨⟨({ b1m with state := K6.wrap (y4 - 1) },b1a,b1c),hb1⟩,rfl,hf (cF B g A J cap) (by simp),e7 (hf (f7 (aQ w B).heap.size (cS b1a b1m b1c) 2 (b1m.r.held.map pC)) (by simp)) (eB ha (i := 1) (j := 0) (k := 3) rfl rfl rfl rfl (by decide) (by decide)),hgl,aY (hf (c9 w (fun b => b = g)) (by simp)) hb rfl rfl rfl⟩⟩
 have h3p := bA h3
 refine kQ <| aR [0,2,3,7,14] [(14,aB (y2 == 1))] <| kC (y2 == 1) (fun h5 => ?_) (fun h5 => ?_)
 have h5p := bC h5
 refine kG <| dp 1 [2,3,16] [(16,aP g)] 134 [gP g] (some 17) 0 rfl rfl hlo (l17Bent_c_K hBw hap) ?_
 rintro ⟨y6,hy6⟩
 refine bf [2,3] [] 1 ⟨44,a7 { b1m with s := y6 } (cS b1a b1m b1c)⟩ <| kQ <| bf [2] [(2,.p 0 0)] 0 ⟨44,a7 { b1m with s := y6 } (cS b1a b1m b1c)⟩ <| kR ?_
 exact ⟨[.agg (a7 { b1m with s := y6 } (cS b1a b1m b1c)).toArray],by kernel_rfl,fun w' hb hf ha => ⟨⟨({ b1m with s := y6 },b1a,b1c),hb1⟩,rfl,hf (cF B g A J cap) (by simp),e7 (hf (f7 (aQ w B).heap.size (cS b1a b1m b1c) 2 (b1m.r.held.map pC)) (by simp)) (eB ha (i := 1) (j := 0) (k := 3) rfl rfl rfl rfl (by decide) (by decide)),hgl,aY (hf (c9 w (fun b => b = g)) (by simp)) hb rfl rfl rfl⟩⟩
 have h5p := bA h5
 refine kQ <| aR [0,2,3,7,19] [(19,aB (y2 == 2))] <| kC (y2 == 2) (fun h7 => ?_) (fun h7 => ?_)
 have h7p := bC h7
 refine kG <| dp 1 [2,3,21] [(21,aP g)] 135 [gP g] (some 22) 0 rfl rfl hlo (eE fun ww hw hf => l18Bent_c g J A cap ww B (Nat.le_trans (by first | exact Nat.le_refl _ | exact Nat.le_of_eq (bn hB).symm) hw) (hf (cF B g A J cap) (by simp)) (hf _ m2) hap (by omega)) ?_
 rintro ⟨⟨b8m,b8a,b8c⟩,hb8⟩
 dsimp only at hb8
 have hb8n := hb8.1
 refine bf [2,3] [] 1 ⟨44,a7 { b1m with r := b8m } (.slice b8a b8m.held.length b8c)⟩ <| kQ <| bf [2] [(2,.p 0 0)] 0 ⟨44,a7 { b1m with r := b8m } (.slice b8a b8m.held.length b8c)⟩ <| kR ?_
 exact ⟨[.agg (a7 { b1m with r := b8m } (.slice b8a b8m.held.length b8c)).toArray],by kernel_rfl,fun w' hb hf ha => ⟨⟨({ b1m with r := b8m },b8a,b8c),hb8⟩,rfl,hf (cF B g A J cap) (by simp),newF_row (hf (ap (aQ w B).heap.size 85 2 (.slice b8a b8m.held.length b8c) (b8m.held.map pC)) (by simp)) (eB ha (i := 0) (j := 1) (k := 4) rfl rfl rfl rfl (by decide) (by decide)),hgl,aY (hf (c9 w (fun b => b = g)) (by simp)) hb rfl rfl rfl⟩⟩
 have h7p := bA h7
 refine kQ <| aR [0,2,3,7,24] [(24,aB (y2 == 3))] <| kC (y2 == 3) (fun h9 => ?_) (fun h9 => ?_)
 have h9p := bC h9
 refine kG <| kHD 6 [2,3,26,28,31] [(26,aP g),(28,aI b1m.most),(31,aI (K6.wrap (b1m.most + 1)))] rfl (bi (e := 3) (K := 1) (bytes := 8) [iI (-1),iI 0,iI b1m.most,iI (K6.wrap (b1m.most + 1))] (rs := ([(-1),0,b1m.most,K6.wrap (b1m.most + 1)] : List Int).map aq) rfl rfl) ?_
 intro g10
 refine dd (φ := ¬ (c7 (.slice (some ⟨g10,0,none⟩) 4 4) 1 (([(-1),0,b1m.most,K6.wrap (b1m.most + 1)] : List Int).map aq)).blk g) (fun _ _ _ _ hr => fun hb => hr.2.apart 0 1 (ap (aQ w B).heap.size 3 1 (.slice (some ⟨g10,0,none⟩) 4 4) (([(-1),0,b1m.most,K6.wrap (b1m.most + 1)] : List Int).map aq)) (cF B g A J cap) rfl rfl (by decide) rfl g (bK hb) rfl) (fun hk11 => ?_)
 refine dp 0 [2,3,26,32] [] 136 [gP g,.slice (some ⟨g10,0,none⟩) 4 4] (some 33) 1 rfl rfl hlo (bp hBw hap (fun ww hw hf => (aS (hf _ m0))) hk11 (by simp)) ?_
 rintro ⟨y12,hy12⟩
 refine c8 [2,3] ⟨[(2,.p 0 0),(3,.p 1 0)],[⟨44,bN⟩,⟨44,a7 { b1m with window := y12 } (cS b1a b1m b1c)⟩],[],[cF B g A J cap,ap (aQ w B).heap.size 3 1 (.slice (some ⟨g10,0,none⟩) 4 4) (([(-1),0,b1m.most,K6.wrap (b1m.most + 1)] : List Int).map aq),f7 (aQ w B).heap.size (cS b1a b1m b1c) 2 (b1m.r.held.map pC),sQ A J cap,c9 w (fun b => b = g)]⟩ <| kQ <| bf [2] [(2,.p 0 0)] 0 ⟨44,a7 { b1m with window := y12 } (cS b1a b1m b1c)⟩ <| kR ?_
 exact ⟨[.agg (a7 { b1m with window := y12 } (cS b1a b1m b1c)).toArray],by kernel_rfl,fun w' hb hf ha => ⟨⟨({ b1m with window := y12 },b1a,b1c),hb1⟩,rfl,hf (cF B g A J cap) (by simp),e7 (hf (f7 (aQ w B).heap.size (cS b1a b1m b1c) 2 (b1m.r.held.map pC)) (by simp)) (eB ha (i := 2) (j := 0) (k := 4) rfl rfl rfl rfl (by decide) (by decide)),hgl,aY (hf (c9 w (fun b => b = g)) (by simp)) hb rfl rfl rfl⟩⟩
 have h9p := bA h9
 refine kQ <| aR [0,2,3,7,35] [(35,aB (y2 == 4))] <| kC (y2 == 4) (fun h13 => ?_) (fun h13 => ?_)
 have h13p := bC h13
 refine kG <| kHD 1 [2,3,37] [(37,aP g)] rfl (bi (e := 3) (K := 1) (bytes := 8) [iI (-1),iI 0,iI 3,iI 4,iI 5] (rs := ([(-1),0,3,4,5] : List Int).map aq) rfl rfl) ?_
 intro g14
 refine dd (φ := ¬ (c7 (.slice (some ⟨g14,0,none⟩) 5 5) 1 (([(-1),0,3,4,5] : List Int).map aq)).blk g) (fun _ _ _ _ hr => fun hb => hr.2.apart 0 1 (ap (aQ w B).heap.size 3 1 (.slice (some ⟨g14,0,none⟩) 5 5) (([(-1),0,3,4,5] : List Int).map aq)) (cF B g A J cap) rfl rfl (by decide) rfl g (bK hb) rfl) (fun hk15 => ?_)
 refine kWS 0 [2,3,37,38] [(2,.p 0 0),(3,.p 1 0),(37,aP g),(38,.v (.slice (some ⟨g14,0,none⟩) 5 5))] 136 [gP g,.slice (some ⟨g14,0,none⟩) 5 5] (some 39) 1 rfl rfl hlo (bp hBw hap (fun ww hw hf => (aS (hf _ m0))) hk15 (by simp)) ?_
 rintro ⟨y16,hy16⟩
 refine bf [2,3] [] 1 ⟨44,a7 { b1m with timer := y16 } (cS b1a b1m b1c)⟩ <| kQ <| bf [2] [(2,.p 0 0)] 0 ⟨44,a7 { b1m with timer := y16 } (cS b1a b1m b1c)⟩ <| kR ?_
 exact ⟨[.agg (a7 { b1m with timer := y16 } (cS b1a b1m b1c)).toArray],by kernel_rfl,fun w' hb hf ha => ⟨⟨({ b1m with timer := y16 },b1a,b1c),hb1⟩,rfl,hf (cF B g A J cap) (by simp),e7 (hf (f7 (aQ w B).heap.size (cS b1a b1m b1c) 2 (b1m.r.held.map pC)) (by simp)) (eB ha (i := 2) (j := 0) (k := 4) rfl rfl rfl rfl (by decide) (by decide)),hgl,aY (hf (c9 w (fun b => b = g)) (by simp)) hb rfl rfl rfl⟩⟩
 have h13p := bA h13
 refine kQ <| aR [0,2,3,7,41] [(41,aB (y2 == 5))] <| kC (y2 == 5) (fun h17 => ?_) (fun h17 => ?_)
 have h17p := bC h17
 refine kG <| kHS 1 [2,3,43] [(2,.p 0 0),(3,.p 1 0),(43,aP g)] rfl (bi (e := 3) (K := 1) (bytes := 8) [iI (-1),iI 0,iI 3,iI 4] (rs := ([(-1),0,3,4] : List Int).map aq) rfl rfl) ?_
 intro g18
 refine dd (φ := ¬ (c7 (.slice (some ⟨g18,0,none⟩) 4 4) 1 (([(-1),0,3,4] : List Int).map aq)).blk g) (fun _ _ _ _ hr => fun hb => hr.2.apart 0 1 (ap (aQ w B).heap.size 3 1 (.slice (some ⟨g18,0,none⟩) 4 4) (([(-1),0,3,4] : List Int).map aq)) (cF B g A J cap) rfl rfl (by decide) rfl g (bK hb) rfl) (fun hk19 => ?_)
 refine dp 0 [2,3,43,44] [] 136 [gP g,.slice (some ⟨g18,0,none⟩) 4 4] (some 45) 1 rfl rfl hlo (bp hBw hap (fun ww hw hf => (aS (hf _ m0))) hk19 (by simp)) ?_
 rintro ⟨y20,hy20⟩
 refine bf [2,3] [] 1 ⟨44,a7 { b1m with tries := y20 } (cS b1a b1m b1c)⟩ <| kQ <| bf [2] [(2,.p 0 0)] 0 ⟨44,a7 { b1m with tries := y20 } (cS b1a b1m b1c)⟩ <| kR ?_
 exact ⟨[.agg (a7 { b1m with tries := y20 } (cS b1a b1m b1c)).toArray],by kernel_rfl,fun w' hb hf ha => ⟨⟨({ b1m with tries := y20 },b1a,b1c),hb1⟩,rfl,hf (cF B g A J cap) (by simp),e7 (hf (f7 (aQ w B).heap.size (cS b1a b1m b1c) 2 (b1m.r.held.map pC)) (by simp)) (eB ha (i := 2) (j := 0) (k := 4) rfl rfl rfl rfl (by decide) (by decide)),hgl,aY (hf (c9 w (fun b => b = g)) (by simp)) hb rfl rfl rfl⟩⟩
 have h17p := bA h17
 refine kQ <| aJ [0,2,3,7,47] [(0,aP g),(2,.p 0 0),(3,.p 1 0),(7,aI y2),(47,aB (y2 == 6))] <| kC (y2 == 6) (fun h21 => ?_) (fun h21 => ?_)
 have h21p := bC h21
 refine kG <| dp 1 [2,3,49] [(49,aP g)] 137 [gP g] (some 50) 0 rfl rfl hlo (l8Bent_c_K hBw hap) ?_
 rintro ⟨y22,hy22⟩
 refine bf [2,3] [] 1 ⟨44,a7 { b1m with o := y22 } (cS b1a b1m b1c)⟩ <| kQ <| bf [2] [(2,.p 0 0)] 0 ⟨44,a7 { b1m with o := y22 } (cS b1a b1m b1c)⟩ <| kR ?_
 exact ⟨[.agg (a7 { b1m with o := y22 } (cS b1a b1m b1c)).toArray],by kernel_rfl,fun w' hb hf ha => ⟨⟨({ b1m with o := y22 },b1a,b1c),hb1⟩,rfl,hf (cF B g A J cap) (by simp),e7 (hf (f7 (aQ w B).heap.size (cS b1a b1m b1c) 2 (b1m.r.held.map pC)) (by simp)) (eB ha (i := 1) (j := 0) (k := 3) rfl rfl rfl rfl (by decide) (by decide)),hgl,aY (hf (c9 w (fun b => b = g)) (by simp)) hb rfl rfl rfl⟩⟩
 have h21p := bA h21
 refine kQ <| aR [0,2,3,52] [(52,aB (y2 == 7))] <| kC (y2 == 7) (fun h23 => ?_) (fun h23 => ?_)
 have h23p := bC h23
 refine kG <| dp 1 [2,3,54] [(54,aP g)] 138 [gP g] (some 55) 0 rfl rfl hlo (l12Bent_c_K hBw hap) ?_
 rintro ⟨y24,hy24⟩
 refine bf [2,3] [] 1 ⟨44,a7 { b1m with t := y24 } (cS b1a b1m b1c)⟩ <| kQ <| bf [2] [(2,.p 0 0)] 0 ⟨44,a7 { b1m with t := y24 } (cS b1a b1m b1c)⟩ <| kR ?_
 exact ⟨[.agg (a7 { b1m with t := y24 } (cS b1a b1m b1c)).toArray],by kernel_rfl,fun w' hb hf ha => ⟨⟨({ b1m with t := y24 },b1a,b1c),hb1⟩,rfl,hf (cF B g A J cap) (by simp),e7 (hf (f7 (aQ w B).heap.size (cS b1a b1m b1c) 2 (b1m.r.held.map pC)) (by simp)) (eB ha (i := 1) (j := 0) (k := 3) rfl rfl rfl rfl (by decide) (by decide)),hgl,aY (hf (c9 w (fun b => b = g)) (by simp)) hb rfl rfl rfl⟩⟩
 have h23p := bA h23
 refine kK <| kQ <| bf [2] [(2,.p 0 0)] 0 ⟨44,a7 b1m (cS b1a b1m b1c)⟩ <| kR ?_
 exact ⟨[.agg (a7 b1m (cS b1a b1m b1c)).toArray],by kernel_rfl,fun w' hb hf ha => ⟨⟨(b1m,b1a,b1c),hb1⟩,rfl,hf (cF B g A J cap) (by simp),e7 (hf (f7 (aQ w B).heap.size (cS b1a b1m b1c) 2 (b1m.r.held.map pC)) (by simp)) (eB ha (i := 1) (j := 0) (k := 3) rfl rfl rfl rfl (by decide) (by decide)),hgl,aY (hf (c9 w (fun b => b = g)) (by simp)) hb rfl rfl rfl⟩⟩
theorem l20Args_c (J : List Int) (A : Option Addr) (cap : Nat) (w : World) (hl : Sl w (sJ A J cap) 1 (J.map bR)) (hn : J.length ≤ 1048576) : Calls Tryz.prog 56 #[.slice A J.length cap] w fun e w' => ∃ y : {y : (Con × Seg) × (Option Addr × Nat) // RB 4 y.1.1.r ∧ y.1.2.body.size ≤ 4096}, e = .returned (.tuple #[.agg (a7 y.1.1.1 (.slice y.1.2.1 y.1.1.1.r.held.length y.1.2.2)).toArray, .agg (aG y.1.1.2).toArray]) ∧ (f7 w.heap.size (.slice y.1.2.1 y.1.1.1.r.held.length y.1.2.2) 2 (y.1.1.1.r.held.map pC)).p w' ∧ Below w.heap.size w w' := by
 have hq_code := Sl.capLe hl
 refine ck (args := [.slice A J.length cap]) (fn := Tryz.f56) [sQ A J cap] Tryz.func56 rfl Tryz.ntmps56 rfl (by simp only [List.mem_cons,List.not_mem_nil,or_false,forall_eq]; exact ⟨rfl,hl⟩) ?_
 refine kQ <| c8 [0,2,3] ⟨[(0,.v (sJ A J cap)),(2,.p 0 0),(3,.p 1 0)],[⟨44,bN⟩,⟨50,er⟩],[],[sQ A J cap]⟩ <| kQ <| dy 1 [2,3,7] [(7,.v (sJ A J cap))] 107 [.slice A J.length cap] (some 8) rfl (xc_new fun ww hw hf => l1New_c J A cap ww (hf _ m0) (by omega)) ?_
 rintro ⟨g1,hapg1⟩
 refine aR [2,3,4] [(4,aP g1)] <| kQ <| dp 1 [2,3,4,9] [(9,aP g1)] 108 [gP g1] (some 10) 0 rfl rfl (fun ww b h hb => cC h hb) (xcm_curN fun ww hw hf => l19Bent_c g1 J A cap ww w.heap.size hw (hf (gm w.heap.size g1 137 (sJ A J cap) J.length) (by simp)) (hf _ m1) hapg1 (by omega)) ?_
 rintro ⟨⟨b2m,b2a,b2c⟩,hb2⟩
 dsimp only at hb2
 have hb2n := hb2.1
 have hb2m := hb2.hm; have hb2z := hb2.sz
 refine i5 [2,3,4,5] [(5,.p 2 0)] [⟨44,a7 b2m (cS b2a b2m b2c)⟩] <| kQ <| dp 2 [2,3,4,5,11,12] [(11,aP g1),(12,.v (.agg (a7 b2m (cS b2a b2m b2c)).toArray))] 109 [gP g1,.agg (a7 b2m (cS b2a b2m b2c)).toArray] (some 13) 1 rfl rfl (fun ww b h hb => cC h hb) (fa (Nat.le_refl _) hapg1) ?_
 rintro ⟨y3,hy3⟩
 refine i5 [2,3,4,5,6] [(6,.p 3 0)] [⟨50,aG y3⟩] <| kS <| kQ <| dp 1 [2,3,4,5,6,14] [(14,aP g1)] 110 [gP g1,iI 12] (some 15) 0 rfl rfl (fun ww b h hb => cC h hb) (bO (Nat.le_refl _) hapg1) ?_
 rintro ⟨y4,hy4⟩
 refine aR [2,3,4,5,6,15] [] <| kC (y4) (fun h5 => ?_) (fun h5 => ?_)
 refine kG <| dp 1 [2,3,5,6,16] [(16,aP g1)] 111 [gP g1] (some 17) 0 rfl rfl (fun ww b h hb => cC h hb) (l9Bent_c_K (Nat.le_refl _) hapg1) ?_
 rintro ⟨y6,hy6⟩
 refine bf [2,3,5,6] [] 3 ⟨50,aG y6⟩ <| kS <| cm [false,false,true,true] (by kernel_rfl) (fun ρ σ => ?_)
 refine ca [0,1] [19,18,2,3] 2 [(19,.v (.agg (aG y6).toArray)),(18,.v (.agg (a7 b2m (cS b2a b2m b2c)).toArray)),(2,.p 0 0),(3,.p 1 0)] <| kA [2] <| e8 2 0 0 (a7 b2m (cS b2a b2m b2c)) rfl <| kA [3] ?_
 refine e8 3 1 0 (aG y6) rfl <| kZ <| kR ?_
 exact ⟨[.agg (a7 b2m (cS b2a b2m b2c)).toArray,.agg (aG y6).toArray],by kernel_rfl,fun w' hb hf ha => ⟨⟨((b2m,y6),b2a,b2c),⟨hb2,(by first | assumption | (dsimp only; assumption))⟩⟩,rfl,e7 (hf (f7 w.heap.size (cS b2a b2m b2c) 2 (b2m.r.held.map pC)) (by simp)) (fun b hb => gD (hf (f7 w.heap.size (cS b2a b2m b2c) 2 (b2m.r.held.map pC)) (by simp)) hb),hb⟩⟩
 refine kK <| kS <| cm [false,false,true,true] (by kernel_rfl) (fun ρ σ => ?_)
 refine eI [0,1] [19,18,2,3] 2 [(19,.v (.agg (aG y3).toArray)),(18,.v (.agg (a7 b2m (cS b2a b2m b2c)).toArray))] <| kA [2] <| e8 2 0 0 (a7 b2m (cS b2a b2m b2c)) rfl <| kA [3] ?_
 refine e8 3 1 0 (aG y3) rfl <| kZ <| kR ?_
 exact ⟨[.agg (a7 b2m (cS b2a b2m b2c)).toArray,.agg (aG y3).toArray],by kernel_rfl,fun w' hb hf ha => ⟨⟨((b2m,y3),b2a,b2c),⟨hb2,(by first | assumption | (dsimp only; assumption))⟩⟩,rfl,e7 (hf (f7 w.heap.size (cS b2a b2m b2c) 2 (b2m.r.held.map pC)) (by simp)) (fun b hb => gD (hf (f7 w.heap.size (cS b2a b2m b2c) 2 (b2m.r.held.map pC)) (by simp)) hb),hb⟩⟩

theorem drawReceive_c (J : List Int) (A : Option Addr) (cap : Nat) (w : World) (hl : Sl w (sJ A J cap) 1 (J.map bR)) (hn : J.length ≤ 1048576) : Calls Tryz.prog 19 #[.slice A J.length cap] w fun e w' => ∃ y : {y : (Con × Seg) × (Option Addr × Nat) // RB 4 y.1.1.r ∧ y.1.2.body.size ≤ 4096}, e = .returned (.tuple #[.agg (a7 y.1.1.1 (.slice y.1.2.1 y.1.1.1.r.held.length y.1.2.2)).toArray, .agg (aG y.1.1.2).toArray]) ∧ (f7 w.heap.size (.slice y.1.2.1 y.1.1.1.r.held.length y.1.2.2) 2 (y.1.1.1.r.held.map pC)).p w' ∧ Below w.heap.size w w' := by
 have hq_code := Sl.capLe hl
 refine ck (args := [.slice A J.length cap]) (fn := Tryz.f19) [sQ A J cap] Tryz.func19 rfl Tryz.ntmps19 rfl (by simp only [List.mem_cons,List.not_mem_nil,or_false,forall_eq]; exact ⟨rfl,hl⟩) ?_
 refine kQ <| c8 [0,2,3] ⟨[(0,.v (sJ A J cap)),(2,.p 0 0),(3,.p 1 0)],[⟨44,bN⟩,⟨50,er⟩],[],[sQ A J cap]⟩ <| kQ <| dy 1 [2,3,4] [(4,.v (sJ A J cap))] 56 [.slice A J.length cap] (some 5) rfl (xc_newF (α := {y : (Con × Seg) × (Option Addr × Nat) // RB 4 y.1.1.r ∧ y.1.2.body.size ≤ 4096}) (F := fun y => .tuple #[.agg #[iI y.1.1.1.t.ip,iI y.1.1.1.t.port,iI y.1.1.1.t.my,iI y.1.1.1.state,iI y.1.1.1.s.una,.string y.1.1.1.s.data,iI y.1.1.1.s.sent,.bool y.1.1.1.s.fin,.bool y.1.1.1.s.finSent,.bool y.1.1.1.s.done,iI y.1.1.1.r.next,.string y.1.1.1.r.data,.slice y.1.2.1 y.1.1.1.r.held.length y.1.2.2,iI y.1.1.1.r.fin,.bool y.1.1.1.r.done,iI y.1.1.1.window,iI y.1.1.1.most,iI y.1.1.1.o.mss,iI y.1.1.1.o.scale,.bool y.1.1.1.o.sack,.bool y.1.1.1.o.stamp,iI y.1.1.1.o.val,iI y.1.1.1.o.echo,iI y.1.1.1.timer,iI y.1.1.1.tries],.agg (aG y.1.1.2).toArray]) (v := fun y => .slice y.1.2.1 y.1.1.1.r.held.length y.1.2.2) (rs := fun y => y.1.1.1.r.held.map pC) fun ww hw hf => l20Args_c J A cap ww (hf _ m0) (by omega)) ?_
 rintro ⟨⟨⟨d1a,d1b⟩,d1A,d1C⟩,hd1⟩
 dsimp only at hd1
 refine kEV [2,3] [] [⟨44,a7 d1a (cS d1A d1a d1C)⟩,⟨50,aG d1b⟩] <| kR ?_
 exact ⟨[.agg (a7 d1a (cS d1A d1a d1C)).toArray,.agg (aG d1b).toArray],by kernel_rfl,fun w' hb hf ha => ⟨⟨((d1a,d1b),d1A,d1C),hd1⟩,rfl,e7 (hf (f7 w.heap.size (cS d1A d1a d1C) 2 (d1a.r.held.map pC)) (by simp)) (fun b hb => gD (hf (f7 w.heap.size (cS d1A d1a d1C) 2 (d1a.r.held.map pC)) (by simp)) hb),hb⟩⟩

theorem arrStore_c (B gh gd bh bd W off : Nat) (sl : List Int) (x : Int) (w : World) (hB : B ≤ w.heap.size) (hF : (ea B gh gd bh bd 122 57 4 5 W sl).p w) (hlen : W ≤ sl.length) (ho : off < W) (hx : 0 ≤ x ∧ x ≤ 255) : Calls Tryz.prog 116 #[iI (off : Int), .int .u8 x, gP gh, gP gd] w fun e w' => e = .returned (.tuple #[]) ∧ (ea B gh gd bh bd 122 57 4 5 W (fB sl off x)).p w' ∧ Chgd (ea B gh gd bh bd 122 57 4 5 W sl).blk w w' := by
 obtain ⟨hF4,hFa⟩ := hF
 simp only [List.mem_cons,List.not_mem_nil,or_false,forall_eq_or_imp,forall_eq] at hF4
 obtain ⟨hF1,hF2,hF3,hF5⟩ := hF4
 obtain ⟨z,hz⟩ : ∃ z,sl[off]? = some z := ⟨_,List.getElem?_eq_getElem (by omega)⟩
 refine ge (args := [iI (off : Int),.int .u8 x,gP gh,gP gd]) (fn := Tryz.f116) [cy B gh 122 [.slice (some ⟨bh,0,none⟩) W W],cy B gd 57 [.slice (some ⟨bd,0,none⟩) W W],ap B 4 1 (.slice (some ⟨bh,0,none⟩) W W) ((dA W sl).map cx),ap B 5 1 (.slice (some ⟨bd,0,none⟩) W W) ((bY W sl).map bR),c9 w (ea B gh gd bh bd 122 57 4 5 W sl).blk] B Tryz.func116 rfl Tryz.ntmps116 rfl hB (by simp only [List.mem_cons,List.not_mem_nil,or_false,forall_eq_or_imp,forall_eq]; exact ⟨hF1,hF2,hF3,hF5,bJ w _⟩) (apart_frS hFa fun g hg b hb => ⟨g,hg,hb⟩) ?_
 refine kQ <| kOF 0 [0,1,2,3] ⟨[(0,aI (off : Int)),(1,.v (.int .u8 x)),(2,aP gh),(3,aP gd)],[],[],[cy B gh 122 [.slice (some ⟨bh,0,none⟩) W W],cy B gd 57 [.slice (some ⟨bd,0,none⟩) W W],ap B 4 1 (.slice (some ⟨bh,0,none⟩) W W) ((dA W sl).map cx),ap B 5 1 (.slice (some ⟨bd,0,none⟩) W W) ((bY W sl).map bR),c9 w (ea B gh gd bh bd 122 57 4 5 W sl).blk]⟩ (.slice (some ⟨bh,0,none⟩) W W) rfl (fun _ _ _ ww hr => fX (off := 0) (B := B) (g := gh) (T := 122) (cs := [.slice (some ⟨bh,0,none⟩) W W]) hr rfl (by kernel_rfl) (by simp) (by kernel_rfl)) ?_
 refine fh 1 [0,1,2,3,6,7] [(7,aI (off : Int))] (.pointer (some ⟨bh,off * 1,none⟩)) rfl (fun _ _ _ ww hr => dF (kd := .i64) (T := 122) (e := 4) (K := 1) (g := bh) (N := W) (cap := W) off rfl hr.1 rfl rfl (by kernel_rfl) (by kernel_rfl) (by kernel_rfl) ho ww) ?_
 refine fh 0 [0,1,2,3,8] [] (.bool (decide (0 ≤ z))) rfl (fun _ _ _ ww hr => dD (po := 0) (j := off) (row := [.bool (decide (0 ≤ z))]) (ap B 4 1 (.slice (some ⟨bh,0,none⟩) W W) ((dA W sl).map cx)) hr rfl (by kernel_rfl) (by simp) (by simp only [List.getElem?_map,io ho hz]; rfl) (by kernel_rfl) rfl rfl rfl) ?_
 refine aR [0,1,2,3,10] [(10,aB (!(decide (0 ≤ z))))] <| kC (!(decide (0 ≤ z))) (fun h1 => ?_) (fun h1 => ?_)
 have h1n := bg h1
 have hzz := of_decide_eq_false h1n
 refine kQ <| fh 0 [0,1,2,3] [] (.slice (some ⟨bh,0,none⟩) W W) rfl (fun _ _ _ ww hr => fX (off := 0) (B := B) (g := gh) (T := 122) (cs := [.slice (some ⟨bh,0,none⟩) W W]) hr rfl (by kernel_rfl) (by simp) (by kernel_rfl)) ?_
 refine fh 1 [0,1,3,11,12] [(12,aI (off : Int))] (.pointer (some ⟨bh,off * 1,none⟩)) rfl (fun _ _ _ ww hr => dF (kd := .i64) (T := 122) (e := 4) (K := 1) (g := bh) (N := W) (cap := W) off rfl hr.1 rfl rfl (by kernel_rfl) (by kernel_rfl) (by kernel_rfl) ho ww) ?_
 refine xl_hs 0 [0,1,3,13] ⟨[(0,aI (off : Int)),(1,.v (.int .u8 x)),(3,aP gd),(13,.v (.pointer (some ⟨bh,off * 1,none⟩)))],[],[],[cy B gh 122 [.slice (some ⟨bh,0,none⟩) W W],cy B gd 57 [.slice (some ⟨bd,0,none⟩) W W],ap B 4 1 (.slice (some ⟨bh,0,none⟩) W W) ((dA W sl).map cx),ap B 5 1 (.slice (some ⟨bd,0,none⟩) W W) ((bY W sl).map bR),c9 w (ea B gh gd bh bd 122 57 4 5 W sl).blk]⟩ (by kernel_rfl) rfl (by kernel_rfl) rfl (by kernel_rfl) (HSg.hs (i0 (g := bh) (B := B) (e := 4) (K := 1) (N := W) (cap := W) (rs := ((dA W sl).map cx)) (rs' := ((dA W sl).set off true).map cx) (v := (.bool true)) (i := 2) (off := off * 1) off 0 [.bool (decide (0 ≤ z))] (row' := [.bool true]) rfl rfl (by kernel_rfl) rfl (by kernel_rfl) (by kernel_rfl) (by kernel_rfl) (by kernel_rfl) (ce w B) (by simp only [List.getElem?_map,io ho hz]; rfl) (by kernel_rfl) rfl (by rw [List.map_set]; rfl))) ?_
 refine aR [0,1,3] [] <| kG <| fh 0 [0,1,3] [] (.slice (some ⟨bd,0,none⟩) W W) rfl (fun _ _ _ ww hr => fX (off := 0) (B := B) (g := gd) (T := 57) (cs := [.slice (some ⟨bd,0,none⟩) W W]) hr rfl (by kernel_rfl) (by simp) (by kernel_rfl)) ?_
 refine fh 2 [14,15,16] [(15,aI (off : Int)),(16,.v (.int .u8 x))] (.pointer (some ⟨bd,off * 1,none⟩)) rfl (fun _ _ _ ww hr => dF (kd := .i64) (T := 57) (e := 5) (K := 1) (g := bd) (N := W) (cap := W) off rfl hr.1 rfl rfl (by kernel_rfl) (by kernel_rfl) (by kernel_rfl) ho ww) ?_
 refine xl_hs 0 [16,17] ⟨[(16,.v (.int .u8 x)),(17,.v (.pointer (some ⟨bd,off * 1,none⟩)))],[],[],[ap B 4 1 (.slice (some ⟨bh,0,none⟩) W W) (((dA W sl).set off true).map cx),cy B gh 122 [.slice (some ⟨bh,0,none⟩) W W],cy B gd 57 [.slice (some ⟨bd,0,none⟩) W W],ap B 5 1 (.slice (some ⟨bd,0,none⟩) W W) ((bY W sl).map bR),c9 w (ea B gh gd bh bd 122 57 4 5 W sl).blk]⟩ (by kernel_rfl) rfl (by kernel_rfl) rfl (by kernel_rfl) (HSg.hs (i0 (g := bd) (B := B) (e := 5) (K := 1) (N := W) (cap := W) (rs := ((bY W sl).map bR)) (rs' := ((bY W sl).set off x).map bR) (v := (.int .u8 x)) (i := 3) (off := off * 1) off 0 [.int .u8 (max z 0)] (row' := [.int .u8 x]) rfl rfl (by kernel_rfl) rfl (by kernel_rfl) (by kernel_rfl) (by kernel_rfl) (by kernel_rfl) (ce w B) (by simp only [List.getElem?_map,dtOf_get ho hz]; rfl) (by kernel_rfl) rfl (by rw [List.map_set]; rfl))) ?_
 refine aJ [] [] ?_
 exact ⟨[],by kernel_rfl,fun w' hb hf ha => ⟨rfl,(by rw [stOne_free hz (by omega)]; unfold ea; rw [← hvOf_set hx.1,← dtOf_set hx.1]; exact allF_pick [2,3,1,0] hf ha (by kernel_rfl) (by kernel_rfl)),aY (hf (c9 w (ea B gh gd bh bd 122 57 4 5 W sl).blk) (by simp)) hb rfl rfl rfl⟩⟩
 have h1n := aD h1
 have hzz := of_decide_eq_true h1n
 refine kK ?_
 exact ⟨[],by kernel_rfl,fun w' hb hf ha => ⟨rfl,(by rw [stOne_full hz (by omega)]; exact allF_pick [0,1,2,3] hf ha (by kernel_rfl) (by kernel_rfl)),aY (hf (c9 w (ea B gh gd bh bd 122 57 4 5 W sl).blk) (by simp)) hb rfl rfl rfl⟩⟩
theorem yIndexB_c (l : List Bool) (lV : Value) (b : Bool) (w : World) (hl_lV : Sl w lV 1 (l.map cx))  : Calls Tryz.prog 145 #[lV, .bool b] w fun e w' => e = .returned (iI (ik b l 0)) ∧ Below w.heap.size w w' := by
 obtain ⟨Al,Cl,hvl⟩ := hl_lV.form
 rw [List.length_map] at hvl; subst hvl
 have hnl := hl_lV.len; rw [List.length_map] at hnl
 have hql := Sl.capLe hl_lV
 refine bH (args := [.slice Al l.length Cl,.bool b]) (fn := Tryz.f145) [c7 (.slice Al l.length Cl) 1 (l.map cx)] Tryz.func145 rfl Tryz.ntmps145 rfl (by simp only [List.mem_cons,List.not_mem_nil,or_false,forall_eq_or_imp,forall_eq]; exact ⟨rfl,hl_lV⟩) ?_
 refine kQ <| c8 [0,1] ⟨[(0,.v (.slice Al l.length Cl)),(1,aB b)],[],[],[c7 (.slice Al l.length Cl) 1 (l.map cx)]⟩ <| kS <| kQ <| aR [0,1,7,8] [(7,aI ((l.length : Nat) : Int)),(8,aI 0)] ?_
 refine aZ <| cz (α := {x : Nat // (fun (k : Nat) => k ≤ l.length ∧ ik b l 0 = ik b (l.drop k) k) x}) (fun x => (fun (k : Nat) => (⟨[(0,.v (.slice Al l.length Cl)),(1,aB b),(7,aI ((l.length : Nat) : Int)),(8,aI (k : Int))],[],[],[c7 (.slice Al l.length Cl) 1 (l.map cx)]⟩ : St)) x.1) (fun x => l.length - x.1) ⟨(0),⟨Nat.zero_le _,rfl⟩⟩ (kF 0 0 [0,1,7,8]) ?_
 rintro ⟨k,hk,HK⟩
 try dsimp only
 try dsimp only at hk HK
 refine kQ <| aR [0,1,7,8,9] [(9,aB (decide ((k : Int) < ((l.length : Nat) : Int))))] <| kS <| kC (decide ((k : Int) < ((l.length : Nat) : Int))) (fun h1 => ?_) (fun h1 => ?_)
 have h1p := of_decide_eq_true h1
 have hlt : k < l.length := by simpa using h1
 obtain ⟨x,hx⟩ : ∃ x,l[k]? = some x := ⟨_,List.getElem?_eq_getElem hlt⟩
 refine kK <| kS <| aZ <| kQ <| aR [0,1,5,7,8] [(5,aI (k : Int))] ?_
 refine kQ <| eM (kd := .i64) (T := 122) (e := 4) (K := 1) 3 [0,1,5,7,8,11,12,13] [(11,aB b),(12,.v (.slice Al l.length Cl)),(13,aI (k : Int))] k [.bool x] (c7 (.slice Al l.length Cl) 1 (l.map cx)) (by kernel_rfl) rfl (by kernel_rfl) rfl rfl (by kernel_rfl) (by kernel_rfl) (by kernel_rfl) (by kernel_rfl) hlt (by simp) (fun w h => h) (fun b h => h) (by simp only [List.getElem?_map,hx]; rfl) ?_
 refine aR [0,1,5,7,8,16] [(16,aB (b == x))] <| kC (b == x) (fun h2 => ?_) (fun h2 => ?_)
 have h2p := bC h2
 refine kQ <| aJ [4] [(4,aI (k : Int))] <| kR ?_
 have hmod : ik b l 0 = (k : Int) := by first | exact HK | (rw [HK,dQ hx,ik,if_pos (by assumption)])
 exact ⟨[iI (k : Int)],by kernel_rfl,fun w' hb hf => by rw [hmod]; exact ⟨rfl,hb⟩⟩
 have h2p := bA h2
 refine kK <| kG <| cA 2 [0,1,7,8] [(8,aI (K6.wrap ((k : Int) + 1)))] <| cJ [0,1,7,8] [(8,aI (K6.wrap ((k : Int) + 1)))] [(8,aI ((k : Int) + 1))] (by rw [show (K6.wrap ((k : Int) + 1)) = ((k : Int) + 1) from ab (by omega) (by omega)]) (by kernel_rfl) ?_
 refine aR [0,1,7,8] [] ?_
 exact ⟨⟨(k + 1),⟨by omega,by rw [HK,dQ hx,ik,if_neg (by assumption)]⟩⟩,kF 0 0 [0,1,7,8],by show l.length - (k + 1) < l.length - k; omega⟩
 have h1p := of_decide_eq_false h1
 have hge : k = l.length := by simp at h1; omega
 subst hge; rw [List.drop_length] at HK
 refine cq <| kQ <| aJ [4] [(4,aI (-1))] <| kR ?_
 have hmod : ik b l 0 = (-1) := by first | exact HK | (rw [HK,dQ hx,ik,if_pos (by assumption)])
 exact ⟨[iI (-1)],by kernel_rfl,fun w' hb hf => by rw [hmod]; exact ⟨rfl,hb⟩⟩
theorem yContainsB_c (l : List Bool) (lV : Value) (b : Bool) (w : World) (hl_lV : Sl w lV 1 (l.map cx))  : Calls Tryz.prog 118 #[lV, .bool b] w fun e w' => e = .returned (.bool (hasB l b)) ∧ Below w.heap.size w w' := by
 obtain ⟨Al,Cl,hvl⟩ := hl_lV.form
 rw [List.length_map] at hvl; subst hvl
 have hnl := hl_lV.len; rw [List.length_map] at hnl
 have hql := Sl.capLe hl_lV
 refine bH (args := [.slice Al l.length Cl,.bool b]) (fn := Tryz.f118) [c7 (.slice Al l.length Cl) 1 (l.map cx)] Tryz.func118 rfl Tryz.ntmps118 rfl (by simp only [List.mem_cons,List.not_mem_nil,or_false,forall_eq_or_imp,forall_eq]; exact ⟨rfl,hl_lV⟩) ?_
 refine kQ <| c8 [0,1] ⟨[(0,.v (.slice Al l.length Cl)),(1,aB b)],[],[],[c7 (.slice Al l.length Cl) 1 (l.map cx)]⟩ <| kQ <| dh 2 [5,6] [(5,.v (.slice Al l.length Cl)),(6,aB b)] 145 [.slice Al l.length Cl,.bool b] (some 7) rfl (aA fun ww hf => yIndexB_c l (.slice Al l.length Cl) b ww (hf _ m0) ) ?_
 intro _
 refine aJ [4] [(4,aB (decide ((ik b l 0) ≥ 0)))] <| kR ?_
 have hmod : hasB l b = (decide ((ik b l 0) ≥ 0)) := by first | exact (idx_has _ _ _).symm
 exact ⟨[.bool (decide ((ik b l 0) ≥ 0))],by kernel_rfl,fun w' hb hf => by rw [hmod]; exact ⟨rfl,hb⟩⟩
end Go.Proofs.YtebgmdiejgcoiaaGreat
