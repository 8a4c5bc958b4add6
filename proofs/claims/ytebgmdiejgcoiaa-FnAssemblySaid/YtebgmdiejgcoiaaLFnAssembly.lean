/- The law FnAssembly holds: for every argument the program's function answers true and leaves its arguments as they were. Conditions: none beyond the given row's. -/
import Derived.Test.YtebgmdiejgcoiaaZ2
import Derived.Test.YtebgmdiejgcoiaaG3
import Derived.Test.YtebgmdiejgcoiaaG2
namespace Go.Proofs.Ytebgmdiejgcoiaa
open Go.RowKit Go.ChangeShapes Go.WideShapes Go.ChangeAt
set_option linter.unusedVariables false
set_option linter.unusedSimpArgs false

set_option maxRecDepth 100000 in
set_option maxHeartbeats 2000000 in
theorem fnAssembly_walk (J : List Int) (codeV : Value) (w : World) (hl_codeV : Sl w codeV 1 (J.map bR)) (hby : ∀ x ∈ J, 0 ≤ x ∧ x ≤ 255) : Calls Try.prog 5 #[codeV] w fun e w' => e = .returned (.bool true) ∧ Below w.heap.size w w' := by
 obtain ⟨Ac,Cc,hvc⟩ := hl_codeV.form
 rw [List.length_map] at hvc; subst hvc
 have hnc := hl_codeV.len; rw [List.length_map] at hnc
 have hqc := Sl.capLe hl_codeV
 refine dz (args := [.slice Ac J.length Cc]) (fn := Try.f5) [aM (.slice Ac J.length Cc) 1 (J.map bR)] Try.func5 rfl Try.ntmps5 rfl (by simp only [List.mem_cons,List.not_mem_nil,or_false,forall_eq_or_imp,forall_eq]; exact ⟨rfl,hl_codeV⟩) ?_
 refine kQ <| dn [0] ⟨[(0,.v (.slice Ac J.length Cc))],[],[],[aM (.slice Ac J.length Cc) 1 (J.map bR)]⟩ <| kS <| kQ <| kCD 1 [0,19] [(19,.v (.slice Ac J.length Cc))] 22 [.slice Ac J.length Cc] (some 20) rfl (xc_b fun ww hf => big_c J Ac Cc ww (hf _ m0)) ?_
 intro _
 refine ai [0,20] [] <| kC (decide (((J.length : Nat) : Int) > 1048576)) (fun h1 => ?_) (fun h1 => ?_)
 have h1p := of_decide_eq_true h1
 refine kQ <| ba [2] [(2,aB true)] <| kR ?_
 exact ⟨[.bool true],by kernel_rfl,fun w' hb hf => ⟨rfl,hb⟩⟩
 have h1p := of_decide_eq_false h1
 have hbig : J.length ≤ 1048576 := by simp at h1; omega
 refine kK <| kQ <| kCD 1 [0,22] [(22,.v (.slice Ac J.length Cc))] 23 [.slice Ac J.length Cc] (some 23) rfl (xc_newF (α := {y : (Rcv × Int × ByteArray × Bool) × (Option Addr × Nat) // RB 4 y.1.1 ∧ y.1.2.2.1.size ≤ 4096}) (F := fun y => .tuple #[.agg #[iI y.1.1.1.next,.string y.1.1.1.data,.slice y.1.2.1 y.1.1.1.held.length y.1.2.2,iI y.1.1.1.fin,.bool y.1.1.1.done],iI y.1.1.2.1,.string y.1.1.2.2.1,.bool y.1.1.2.2.2]) (v := fun y => .slice y.1.2.1 y.1.1.1.held.length y.1.2.2) (rs := fun y => y.1.1.1.held.map pC) fun ww hw hf => drawArrived_c J Ac Cc ww (hf _ m0) (by omega)) ?_
 rintro ⟨⟨⟨d2a,d2b,d2c,d2d⟩,d2A,d2C⟩,hd2⟩
 dsimp only at hd2
 refine kEA [0,3] [(3,.p 0 0)] [⟨28,a7 d2a (.slice d2A d2a.held.length d2C)⟩] <| kQ <| ai [0,7] [(7,aI d2a.next)] <| kS <| cH (α := {zz : Int // (fun (s0 : Int) => 0 ≤ s0 ∧ s0 ≤ 4294967295) zz}) (fun zz => (fun (s0 : Int) => (⟨[(0,.v (.slice Ac J.length Cc)),(7,aI s0)],[⟨28,a7 d2a (.slice d2A d2a.held.length d2C)⟩],[],[newF w.heap.size (.slice d2A d2a.held.length d2C) 2 (d2a.held.map pC),aM (.slice Ac J.length Cc) 1 (J.map bR)]⟩ : St)) zz.1) ?_ ?_
 refine kQ <| cp 3 [0,7,32] [(32,aB (decide (d2a.next < 0)))] <| kP 32 (decide (d2a.next < 0)) (fun h3 => ?_) (fun h3 => ?_)
 have h3p := of_decide_eq_true h3
 have hnx0 := of_decide_eq_true h3
 refine ai [0,7,35] [(35,aB true)] <| kT <| kG <| ai [0,7] [(7,aI 5)] ?_
 exact ⟨⟨(5),(by omega)⟩,kF 1 0 [0,7]⟩
 have h3p := of_decide_eq_false h3
 have hnx0 := of_decide_eq_false h3
 refine ai [0,7,35] [(35,aB (decide (d2a.next > 4294967295)))] <| kC (decide (d2a.next > 4294967295)) (fun h4 => ?_) (fun h4 => ?_)
 have h4p := of_decide_eq_true h4
 have hnx1 := of_decide_eq_true h4
 refine kG <| ai [0,7] [(7,aI 5)] ?_
 exact ⟨⟨(5),(by omega)⟩,kF 1 0 [0,7]⟩
 have h4p := of_decide_eq_false h4
 have hnx1 := of_decide_eq_false h4
 refine kK ?_
 exact ⟨⟨(d2a.next),(by omega)⟩,kF 1 0 [0,7]⟩
 rintro ⟨s0,hs0⟩
 try dsimp only
 try dsimp only at hs0
 refine kQ <| kCD 1 [0,7,36] [(36,aI s0)] 24 [iI s0] (some 37) rfl (dY fun ww hw hf => yiReceiverNew_c s0 ww   w.heap.size hw) ?_
 rintro ⟨v5a,v5c⟩
 refine kEA [0,7,8] [(8,.p 1 0)] [⟨28,a7 (rN s0) (.slice v5a ((rN s0).held.length) v5c)⟩] <| kQ <| ai [0,7,8,9] [(9,.v (.string (⟨#[]⟩ : ByteArray)))] <| kS <| kQ <| ai [0,7,8,9,10] [(10,aI 0)] ?_
 refine au <| aN (α := {x : Nat × Rcv × Option Addr × Nat × ByteArray // (fun (i : Nat) (rx : Rcv) (A1 : Option Addr) (c1 : Nat) (got : ByteArray) => i ≤ 14 ∧ RB 3 rx ∧ Asm s0 got rx ∧ got.size ≤ 65 * i) x.1 x.2.1 x.2.2.1 x.2.2.2.1 x.2.2.2.2}) (fun x => (fun (i : Nat) (rx : Rcv) (A1 : Option Addr) (c1 : Nat) (got : ByteArray) => (⟨[(0,.v (.slice Ac J.length Cc)),(7,aI s0),(8,.p 1 0),(9,.v (.string got)),(10,aI (i : Int))],[⟨28,a7 d2a (.slice d2A d2a.held.length d2C)⟩,⟨28,a7 rx (.slice A1 rx.held.length c1)⟩],[],[br w.heap.size (.slice A1 rx.held.length c1) 2 (rx.held.map pC),aM (.slice Ac J.length Cc) 1 (J.map bR)]⟩ : St)) x.1.1 x.1.2.1 x.1.2.2.1 x.1.2.2.2.1 x.1.2.2.2.2) (fun x => (fun (i : Nat) (rx : Rcv) (A1 : Option Addr) (c1 : Nat) (got : ByteArray) => 14 - i) x.1.1 x.1.2.1 x.1.2.2.1 x.1.2.2.2.1 x.1.2.2.2.2) ⟨(0,(rN s0),v5a,v5c,⟨#[]⟩),⟨Nat.zero_le _,RB.new _,asm_start hs0,Nat.le_refl 0⟩⟩ (dG [0,2] <| kF 2 0 [0,7,8,9,10]) ?_
 rintro ⟨⟨i,rx,A1,c1,got⟩,hi,hrb,has,hgz⟩
 try dsimp only
 try dsimp only at hi hrb has hgz
 have hkn := hrb.up.kn; have hm := hrb.hm; have hsz := hrb.sz; have hd65 := hrb.2.2; have hatx := asm_size (x := rx) got
 refine kS <| kQ <| ai [0,7,8,9,10,39] [(39,aB (decide ((i : Int) < 14)))] <| kC (decide ((i : Int) < 14)) (fun h6 => ?_) (fun h6 => ?_)
 have h6p := of_decide_eq_true h6
 have hlt :  (i : Int) < 14 := of_decide_eq_true h6
 refine kK <| kS <| au <| kQ <| kCS 4 [0,7,8,9,10,42,45] [(0,.v (.slice Ac J.length Cc)),(7,aI s0),(8,.p 1 0),(9,.v (.string got)),(10,aI (i : Int)),(42,.v (.slice Ac J.length Cc)),(45,aI (K6.wrap ((K6.wrap (3 * (i : Int))) + 1)))] 25 [.slice Ac J.length Cc,iI (K6.wrap ((K6.wrap (3 * (i : Int))) + 1))] (some 46) rfl (xc_e (α := Int) (F := fun y => iI y) (p := fun y => 0 ≤ y ∧ y ≤ 255) fun ww hf => at0_i J Ac Cc (K6.wrap ((K6.wrap (3 * (i : Int))) + 1)) ww (hf _ m1) (by omega) (by first | omega | exact at0_pl (by omega) (by decide)) hby) ?_
 rintro ⟨d7,hd8⟩
 have hrd7_40 := cb (a := d7) (n := 40) hd8.1 (by decide)
 have hrd7_9 := cb (a := d7) (n := 9) hd8.1 (by decide)
 have hrd7_5 := cb (a := d7) (n := 5) hd8.1 (by decide)
 refine dZ 0 [0,7,8,9,10,46] [] (iI (Int.tmod d7 40)) rfl (fun _ _ _ ww hr => bp hr.1 rfl (by kernel_rfl) (by kernel_rfl) (dU (by first | decide | omega) ww)) ?_
 refine cp 2 [0,7,8,9,10,11] [(11,aI (K6.wrap ((Int.tmod d7 40) - 4)))] <| bw [0,7,8,9,10,11] [(11,aI (K6.wrap ((Int.tmod d7 40) - 4)))] [(11,aI ((Int.tmod d7 40) - 4))] (by rw [show (K6.wrap ((Int.tmod d7 40) - 4)) = ((Int.tmod d7 40) - 4) from az (by omega) (by omega)]) (by kernel_rfl) ?_
 refine ai [0,7,8,9,10,11] [] <| kQ <| kCD 4 [0,7,8,9,10,11,49,52] [(49,.v (.slice Ac J.length Cc)),(52,aI (K6.wrap ((K6.wrap (3 * (i : Int))) + 2)))] 25 [.slice Ac J.length Cc,iI (K6.wrap ((K6.wrap (3 * (i : Int))) + 2))] (some 53) rfl (xc_e (α := Int) (F := fun y => iI y) (p := fun y => 0 ≤ y ∧ y ≤ 255) fun ww hf => at0_i J Ac Cc (K6.wrap ((K6.wrap (3 * (i : Int))) + 2)) ww (hf _ m1) (by omega) (by first | omega | exact at0_pl (by omega) (by decide)) hby) ?_
 rintro ⟨d9,hd10⟩
 have hrd9_40 := cb (a := d9) (n := 40) hd10.1 (by decide)
 have hrd9_9 := cb (a := d9) (n := 9) hd10.1 (by decide)
 have hrd9_5 := cb (a := d9) (n := 5) hd10.1 (by decide)
 refine dZ 0 [0,7,8,9,10,11,53] [] (iI (Int.tmod d9 9)) rfl (fun _ _ _ ww hr => bp hr.1 rfl (by kernel_rfl) (by kernel_rfl) (dU (by first | decide | omega) ww)) ?_
 refine ai [0,7,8,9,10,11,12] [(12,aI (Int.tmod d9 9))] <| kS ?_
 obtain ⟨off,hoff⟩ : ∃ o : Int,o = (Int.tmod d7 40) - 4 := ⟨_,rfl⟩
 obtain ⟨nn,hnn⟩ : ∃ o : Int,o = Int.tmod d9 9 := ⟨_,rfl⟩
 have hofb : -4 ≤ off ∧ off ≤ 35 := by omega
 have hnb : 0 ≤ nn ∧ nn ≤ 8 := by omega
 refine xw_eq (st' := ⟨[(0,.v (.slice Ac J.length Cc)),(7,aI s0),(8,.p 1 0),(9,.v (.string got)),(10,aI (i : Int)),(11,aI off),(12,aI nn)],[⟨28,a7 d2a (.slice d2A d2a.held.length d2C)⟩,⟨28,a7 rx (.slice A1 rx.held.length c1)⟩],[],[br w.heap.size (.slice A1 rx.held.length c1) 2 (rx.held.map pC),aM (.slice Ac J.length Cc) 1 (J.map bR)]⟩) (by rw [hoff,hnn]; rfl) ?_
 refine kG <| kHD 0 [0,7,8,9,10,11,12] [] rfl (bj (e := 5) (K := 1) (bytes := 1) [] (rs := ([] : List Int).map bR) rfl rfl) ?_
 intro g11
 refine ai [0,7,8,9,10,11,12,13] [(13,.v (.slice (some ⟨g11,0,none⟩) 0 0))] <| kS <| kQ <| ai [0,7,8,9,10,11,12,13,14] [(14,aI 0)] ?_
 refine au <| aN (α := {x : Nat × List Int × Option Addr × Nat // (fun (k : Nat) (bs : List Int) (A2 : Option Addr) (c2 : Nat) => (k : Int) ≤ nn ∧ bs.length = k ∧ ∀ (j : Nat) v,bs[j]? = some v → v = chA (off + (j : Int))) x.1 x.2.1 x.2.2.1 x.2.2.2}) (fun x => (fun (k : Nat) (bs : List Int) (A2 : Option Addr) (c2 : Nat) => (⟨[(0,.v (.slice Ac J.length Cc)),(7,aI s0),(8,.p 1 0),(9,.v (.string got)),(10,aI (i : Int)),(11,aI off),(12,aI nn),(13,.v (.slice A2 bs.length c2)),(14,aI (k : Int))],[⟨28,a7 d2a (.slice d2A d2a.held.length d2C)⟩,⟨28,a7 rx (.slice A1 rx.held.length c1)⟩],[],[a8 w.heap.size 5 1 (.slice A2 bs.length c2) (bs.map bR),br w.heap.size (.slice A1 rx.held.length c1) 2 (rx.held.map pC),aM (.slice Ac J.length Cc) 1 (J.map bR)]⟩ : St)) x.1.1 x.1.2.1 x.1.2.2.1 x.1.2.2.2) (fun x => (fun (k : Nat) (bs : List Int) (A2 : Option Addr) (c2 : Nat) => nn.toNat - k) x.1.1 x.1.2.1 x.1.2.2.1 x.1.2.2.2) ⟨(0,([] : List Int),(some ⟨g11,0,none⟩),0),⟨(by omega),rfl,(fun j v h => by simp at h)⟩⟩ (dG [0,1,2] <| kF 2 0 [0,7,8,9,10,11,12,13,14]) ?_
 rintro ⟨⟨k,bs,A2,c2⟩,hk,hbl,hbv⟩
 try dsimp only
 try dsimp only at hk hbl hbv
 refine kS <| kQ <| ba [0,7,8,9,10,11,12,13,14,58] [(0,.v (.slice Ac J.length Cc)),(7,aI s0),(8,.p 1 0),(9,.v (.string got)),(10,aI (i : Int)),(11,aI off),(12,aI nn),(13,.v (.slice A2 bs.length c2)),(14,aI (k : Int)),(58,aB (decide ((k : Int) < nn)))] <| kC (decide ((k : Int) < nn)) (fun h12 => ?_) (fun h12 => ?_)
 have h12p := of_decide_eq_true h12
 have hklt :  (k : Int) < nn := of_decide_eq_true h12
 have hq26 := cb (a := off + (k : Int) + 100) (n := 26) (by omega) (by decide)
 refine kK <| kS <| au <| kG <| dZ 5 [0,7,8,9,10,11,12,13,14,61,65] [(61,.v (.slice A2 bs.length c2)),(65,aI (K6.wrap ((K6.wrap (off + (k : Int))) + 100)))] (iI (Int.tmod (K6.wrap ((K6.wrap (off + (k : Int))) + 100)) 26)) rfl (fun _ _ _ ww hr => bp hr.1 rfl (by kernel_rfl) (by kernel_rfl) (dU (by first | decide | omega) ww)) ?_
 refine kHD 2 [0,7,8,9,10,11,12,13,14,61,68] [(68,.v (.int .u8 (IntKind.u8.wrap (K6.wrap (97 + (Int.tmod (K6.wrap ((K6.wrap (off + (k : Int))) + 100)) 26))))))] rfl (bj (e := 5) (K := 1) (bytes := 1) [.int .u8 (IntKind.u8.wrap (K6.wrap (97 + (Int.tmod (K6.wrap ((K6.wrap (off + (k : Int))) + 100)) 26))))] (rs := ([IntKind.u8.wrap (K6.wrap (97 + (Int.tmod (K6.wrap ((K6.wrap (off + (k : Int))) + 100)) 26)))] : List Int).map bR) rfl rfl) ?_
 intro g13
 refine kHD 0 [0,7,8,9,10,11,12,13,14,61,69] [] rfl (bT (e := 5) (K := 1) (bytes := 1) (i := 1) (q := (bs ++ ([IntKind.u8.wrap (K6.wrap (97 + (Int.tmod (K6.wrap ((K6.wrap (off + (k : Int))) + 100)) 26)))] : List Int)).length) (new := ([IntKind.u8.wrap (K6.wrap (97 + (Int.tmod (K6.wrap ((K6.wrap (off + (k : Int))) + 100)) 26)))] : List Int).map bR) (rs' := (bs ++ ([IntKind.u8.wrap (K6.wrap (97 + (Int.tmod (K6.wrap ((K6.wrap (off + (k : Int))) + 100)) 26)))] : List Int)).map bR) rfl rfl rfl rfl (by kernel_rfl) (by kernel_rfl) (by kernel_rfl) rfl (by simp) (by rw [List.map_append]) (by simp) (fun ww hf => (aq (hf (a8 w.heap.size 5 1 (.slice (some ⟨g13,0,none⟩) 1 1) (([IntKind.u8.wrap (K6.wrap (97 + (Int.tmod (K6.wrap ((K6.wrap (off + (k : Int))) + 100)) 26)))] : List Int).map bR)) (by simp)))) (by intro r hr; obtain ⟨x,hx,rfl⟩ := List.mem_map.1 hr; exact ⟨rfl,by simp [bR,Value.oneCell']⟩) (by (try simp only [List.length_map,List.length_append,List.length_cons,List.length_nil,List.length_take,List.length_drop,maxLen]); omega) (by (try simp only [List.length_map,List.length_append,List.length_cons,List.length_nil,List.length_take,List.length_drop,maxLen]); omega)) ?_
 rintro ⟨v14a,v14c⟩
 refine kRS 1 [0,7,8,9,10,11,12,13,14] [(0,.v (.slice Ac J.length Cc)),(7,aI s0),(8,.p 1 0),(9,.v (.string got)),(10,aI (i : Int)),(11,aI off),(12,aI nn),(13,.v (.slice v14a ((bs ++ ([IntKind.u8.wrap (K6.wrap (97 + (Int.tmod (K6.wrap ((K6.wrap (off + (k : Int))) + 100)) 26)))] : List Int)).length) v14c)),(14,aI (k : Int))] <| xl_eq (st' := ⟨[(0,.v (.slice Ac J.length Cc)),(7,aI s0),(8,.p 1 0),(9,.v (.string got)),(10,aI (i : Int)),(11,aI off),(12,aI nn),(13,.v (.slice v14a ((bs ++ ([IntKind.u8.wrap (97 + (Int.tmod ((off + (k : Int)) + 100) 26))] : List Int)).length) v14c)),(14,aI (k : Int))],[⟨28,a7 d2a (.slice d2A d2a.held.length d2C)⟩,⟨28,a7 rx (.slice A1 rx.held.length c1)⟩],[],[a8 w.heap.size 5 1 (.slice v14a ((bs ++ ([IntKind.u8.wrap (97 + (Int.tmod ((off + (k : Int)) + 100) 26))] : List Int)).length) v14c) ((bs ++ ([IntKind.u8.wrap (97 + (Int.tmod ((off + (k : Int)) + 100) 26))] : List Int)).map bR),a8 w.heap.size 5 1 (.slice (some ⟨g13,0,none⟩) 1 1) (([IntKind.u8.wrap (97 + (Int.tmod ((off + (k : Int)) + 100) 26))] : List Int).map bR),br w.heap.size (.slice A1 rx.held.length c1) 2 (rx.held.map pC),aM (.slice Ac J.length Cc) 1 (J.map bR)]⟩) (by rw [show (K6.wrap (off + (k : Int))) = (off + (k : Int)) from az (by omega) (by omega),show (K6.wrap ((off + (k : Int)) + 100)) = ((off + (k : Int)) + 100) from az (by omega) (by omega),show (K6.wrap (97 + (Int.tmod ((off + (k : Int)) + 100) 26))) = (97 + (Int.tmod ((off + (k : Int)) + 100) 26)) from az (by omega) (by omega)] <;> rfl) ?_
 refine ai [0,7,8,9,10,11,12,13,14] [] <| kG <| cp 3 [0,7,8,9,10,11,12,13,14] [(14,aI (K6.wrap ((k : Int) + 1)))] <| bw [0,7,8,9,10,11,12,13,14] [(14,aI (K6.wrap ((k : Int) + 1)))] [(14,aI ((k : Int) + 1))] (by rw [show (K6.wrap ((k : Int) + 1)) = ((k : Int) + 1) from az (by omega) (by omega)]) (by kernel_rfl) ?_
 refine ai [0,7,8,9,10,11,12,13,14] [] ?_
 exact ⟨⟨(k + 1,(bs ++ ([IntKind.u8.wrap (97 + (Int.tmod ((off + (k : Int)) + 100) 26))] : List Int)),v14a,v14c),⟨(by omega),(by simp [hbl]),chs_snoc hbl hbv (by exact chA_val (by omega))⟩⟩,dG [0,2,3] <| kF 2 0 [0,7,8,9,10,11,12,13,14],by show (fun (k : Nat) (bs : List Int) (A2 : Option Addr) (c2 : Nat) => nn.toNat - k) (k + 1) (bs ++ ([IntKind.u8.wrap (97 + (Int.tmod ((off + (k : Int)) + 100) 26))] : List Int)) v14a v14c < nn.toNat - k; (dsimp only; omega)⟩
 have h12p := of_decide_eq_false h12
 have hkge : ¬ (k : Int) < nn := of_decide_eq_false h12
 refine aQ <| kS ?_
 have hbz : (a6 bs).size ≤ 8 := by rw [ci]; omega
 have hra := RB.arr hrb (by omega) (sA s0 off) (a6 bs) false; have hka := hra.up.kn; have hma := hra.hm; have hza := hra.sz
 have hay : Asm s0 got (a5 rx (sA s0 off) (a6 bs) false) := asm_arrived has (by have := hrb.2.2; omega) hofb hbz (asm_text hbv)
 refine xw_joinE (α := Option Addr × Nat) (fun y => (fun (v15a : Option Addr) (v15c : Nat) => (⟨[(0,.v (.slice Ac J.length Cc)),(7,aI s0),(8,.p 1 0),(9,.v (.string got)),(10,aI (i : Int)),(11,aI off),(13,.v (.slice A2 bs.length c2)),(15,.p 2 0)],[⟨28,a7 d2a (.slice d2A d2a.held.length d2C)⟩,⟨28,a7 rx (.slice A1 rx.held.length c1)⟩,⟨28,a7 (a5 rx (sA s0 off) (a6 bs) false) (.slice v15a ((a5 rx (sA s0 off) (a6 bs) false).held.length) v15c)⟩],[],[br w.heap.size (.slice v15a ((a5 rx (sA s0 off) (a6 bs) false).held.length) v15c) 2 ((a5 rx (sA s0 off) (a6 bs) false).held.map pC),a8 w.heap.size 5 1 (.slice A2 bs.length c2) (bs.map bR),br w.heap.size (.slice A1 rx.held.length c1) 2 (rx.held.map pC),aM (.slice Ac J.length Cc) 1 (J.map bR)]⟩ : St)) y.1 y.2) ?_ ?_
 refine dS [] (by kernel_rfl) (fun ρ σ => ?_)
 refine d4 [0,1,2,4] [75,73,72,71,0,7,8,9,10,11,13] 5 [(75,.v (.slice A2 bs.length c2)),(73,aI off),(72,aI s0),(71,.v (.agg (a7 rx (.slice A1 rx.held.length c1)).toArray)),(0,.v (.slice Ac J.length Cc)),(7,aI s0),(8,.p 1 0),(9,.v (.string got)),(10,aI (i : Int)),(11,aI off),(13,.v (.slice A2 bs.length c2))] <| kA [3,5,7] ⟨?_,?_,?_⟩
 refine kSC 3 26 [iI s0,iI off] (some 74) rfl (cI fun ww hf => cu s0 off ww ) ?_
 intro _
 refine kA [5,7] ⟨?_,?_⟩
 refine ez 5 (.string (a6 bs)) rfl (fun _ _ ww hr => aF (e := 5) bs hr.1 rfl (by kernel_rfl) (by kernel_rfl) (by kernel_rfl) rfl (aq (hr.2.fact (a8 w.heap.size 5 1 (.slice A2 bs.length c2) (bs.map bR)) (by simp)).1)) ?_
 refine kA [6,7] ⟨?_,?_⟩
 refine kSC 6 9 [.agg (a7 rx (.slice A1 rx.held.length c1)).toArray,iI (sA s0 off),.string (a6 bs),.bool false] (some 77) rfl (dY fun ww hw hf => cn rx (.slice A1 rx.held.length c1) (sA s0 off) (a6 bs) false ww (Own.sl (hf _ m1)) (by assumption) (by assumption) (by omega) (by omega) w.heap.size hw) ?_
 rintro ⟨v15a,v15c⟩
 refine kA [7] <| xs_box 7 ⟨28,aC⟩ _ rfl (by kernel_rfl) (by kernel_rfl) (by kernel_rfl) (by kernel_rfl) rfl ?_
 refine kA [8] <| kSS 8 2 0 (a7 (a5 rx (sA s0 off) (a6 bs) false) (.slice v15a ((a5 rx (sA s0 off) (a6 bs) false).held.length) v15c)) rfl <| kZ ?_
 exact ⟨(v15a,v15c),kF 3 0 [0,7,8,9,10,11,13,15]⟩
 refine xs_box 7 ⟨28,aC⟩ _ rfl (by kernel_rfl) (by kernel_rfl) (by kernel_rfl) (by kernel_rfl) rfl ?_
 refine kA [6] <| kSC 6 9 [.agg (a7 rx (.slice A1 rx.held.length c1)).toArray,iI (sA s0 off),.string (a6 bs),.bool false] (some 77) rfl (dY fun ww hw hf => cn rx (.slice A1 rx.held.length c1) (sA s0 off) (a6 bs) false ww (Own.sl (hf _ m1)) (by assumption) (by assumption) (by omega) (by omega) w.heap.size hw) ?_
 rintro ⟨v16a,v16c⟩
 refine kA [8] <| kSS 8 2 0 (a7 (a5 rx (sA s0 off) (a6 bs) false) (.slice v16a ((a5 rx (sA s0 off) (a6 bs) false).held.length) v16c)) rfl <| kZ ?_
 exact ⟨(v16a,v16c),kF 3 0 [0,7,8,9,10,11,13,15]⟩
 refine xs_box 7 ⟨28,aC⟩ _ rfl (by kernel_rfl) (by kernel_rfl) (by kernel_rfl) (by kernel_rfl) rfl ?_
 refine kA [5] <| ez 5 (.string (a6 bs)) rfl (fun _ _ ww hr => aF (e := 5) bs hr.1 rfl (by kernel_rfl) (by kernel_rfl) (by kernel_rfl) rfl (aq (hr.2.fact (a8 w.heap.size 5 1 (.slice A2 bs.length c2) (bs.map bR)) (by simp)).1)) ?_
 refine kA [6] <| kSC 6 9 [.agg (a7 rx (.slice A1 rx.held.length c1)).toArray,iI (sA s0 off),.string (a6 bs),.bool false] (some 77) rfl (dY fun ww hw hf => cn rx (.slice A1 rx.held.length c1) (sA s0 off) (a6 bs) false ww (Own.sl (hf _ m1)) (by assumption) (by assumption) (by omega) (by omega) w.heap.size hw) ?_
 rintro ⟨v17a,v17c⟩
 refine kA [8] <| kSS 8 2 0 (a7 (a5 rx (sA s0 off) (a6 bs) false) (.slice v17a ((a5 rx (sA s0 off) (a6 bs) false).held.length) v17c)) rfl <| kZ ?_
 exact ⟨(v17a,v17c),kF 3 0 [0,7,8,9,10,11,13,15]⟩
 refine ez 5 (.string (a6 bs)) rfl (fun _ _ ww hr => aF (e := 5) bs hr.1 rfl (by kernel_rfl) (by kernel_rfl) (by kernel_rfl) rfl (aq (hr.2.fact (a8 w.heap.size 5 1 (.slice A2 bs.length c2) (bs.map bR)) (by simp)).1)) ?_
 refine kA [3,7] ⟨?_,?_⟩
 refine kSC 3 26 [iI s0,iI off] (some 74) rfl (cI fun ww hf => cu s0 off ww ) ?_
 intro _
 refine kA [6,7] ⟨?_,?_⟩
 refine kSC 6 9 [.agg (a7 rx (.slice A1 rx.held.length c1)).toArray,iI (sA s0 off),.string (a6 bs),.bool false] (some 77) rfl (dY fun ww hw hf => cn rx (.slice A1 rx.held.length c1) (sA s0 off) (a6 bs) false ww (Own.sl (hf _ m1)) (by assumption) (by assumption) (by omega) (by omega) w.heap.size hw) ?_
 rintro ⟨v18a,v18c⟩
 refine kA [7] <| xs_box 7 ⟨28,aC⟩ _ rfl (by kernel_rfl) (by kernel_rfl) (by kernel_rfl) (by kernel_rfl) rfl ?_
 refine kA [8] <| kSS 8 2 0 (a7 (a5 rx (sA s0 off) (a6 bs) false) (.slice v18a ((a5 rx (sA s0 off) (a6 bs) false).held.length) v18c)) rfl <| kZ ?_
 exact ⟨(v18a,v18c),kF 3 0 [0,7,8,9,10,11,13,15]⟩
 refine xs_box 7 ⟨28,aC⟩ _ rfl (by kernel_rfl) (by kernel_rfl) (by kernel_rfl) (by kernel_rfl) rfl ?_
 refine kA [6] <| kSC 6 9 [.agg (a7 rx (.slice A1 rx.held.length c1)).toArray,iI (sA s0 off),.string (a6 bs),.bool false] (some 77) rfl (dY fun ww hw hf => cn rx (.slice A1 rx.held.length c1) (sA s0 off) (a6 bs) false ww (Own.sl (hf _ m1)) (by assumption) (by assumption) (by omega) (by omega) w.heap.size hw) ?_
 rintro ⟨v19a,v19c⟩
 refine kA [8] <| kSS 8 2 0 (a7 (a5 rx (sA s0 off) (a6 bs) false) (.slice v19a ((a5 rx (sA s0 off) (a6 bs) false).held.length) v19c)) rfl <| kZ ?_
 exact ⟨(v19a,v19c),kF 3 0 [0,7,8,9,10,11,13,15]⟩
 refine xs_box 7 ⟨28,aC⟩ _ rfl (by kernel_rfl) (by kernel_rfl) (by kernel_rfl) (by kernel_rfl) rfl ?_
 refine kA [3] <| kSC 3 26 [iI s0,iI off] (some 74) rfl (cI fun ww hf => cu s0 off ww ) ?_
 intro _
 refine kA [6] <| kSC 6 9 [.agg (a7 rx (.slice A1 rx.held.length c1)).toArray,iI (sA s0 off),.string (a6 bs),.bool false] (some 77) rfl (dY fun ww hw hf => cn rx (.slice A1 rx.held.length c1) (sA s0 off) (a6 bs) false ww (Own.sl (hf _ m1)) (by assumption) (by assumption) (by omega) (by omega) w.heap.size hw) ?_
 rintro ⟨v20a,v20c⟩
 refine kA [8] <| kSS 8 2 0 (a7 (a5 rx (sA s0 off) (a6 bs) false) (.slice v20a ((a5 rx (sA s0 off) (a6 bs) false).held.length) v20c)) rfl <| kZ ?_
 exact ⟨(v20a,v20c),kF 3 0 [0,7,8,9,10,11,13,15]⟩
 refine xs_box 7 ⟨28,aC⟩ _ rfl (by kernel_rfl) (by kernel_rfl) (by kernel_rfl) (by kernel_rfl) rfl ?_
 refine kA [3,5] ⟨?_,?_⟩
 refine kSC 3 26 [iI s0,iI off] (some 74) rfl (cI fun ww hf => cu s0 off ww ) ?_
 intro _
 refine kA [5] <| ez 5 (.string (a6 bs)) rfl (fun _ _ ww hr => aF (e := 5) bs hr.1 rfl (by kernel_rfl) (by kernel_rfl) (by kernel_rfl) rfl (aq (hr.2.fact (a8 w.heap.size 5 1 (.slice A2 bs.length c2) (bs.map bR)) (by simp)).1)) ?_
 refine kA [6] <| kSC 6 9 [.agg (a7 rx (.slice A1 rx.held.length c1)).toArray,iI (sA s0 off),.string (a6 bs),.bool false] (some 77) rfl (dY fun ww hw hf => cn rx (.slice A1 rx.held.length c1) (sA s0 off) (a6 bs) false ww (Own.sl (hf _ m1)) (by assumption) (by assumption) (by omega) (by omega) w.heap.size hw) ?_
 rintro ⟨v21a,v21c⟩
 refine kA [8] <| kSS 8 2 0 (a7 (a5 rx (sA s0 off) (a6 bs) false) (.slice v21a ((a5 rx (sA s0 off) (a6 bs) false).held.length) v21c)) rfl <| kZ ?_
 exact ⟨(v21a,v21c),kF 3 0 [0,7,8,9,10,11,13,15]⟩
 refine ez 5 (.string (a6 bs)) rfl (fun _ _ ww hr => aF (e := 5) bs hr.1 rfl (by kernel_rfl) (by kernel_rfl) (by kernel_rfl) rfl (aq (hr.2.fact (a8 w.heap.size 5 1 (.slice A2 bs.length c2) (bs.map bR)) (by simp)).1)) ?_
 refine kA [3] <| kSC 3 26 [iI s0,iI off] (some 74) rfl (cI fun ww hf => cu s0 off ww ) ?_
 intro _
 refine kA [6] <| kSC 6 9 [.agg (a7 rx (.slice A1 rx.held.length c1)).toArray,iI (sA s0 off),.string (a6 bs),.bool false] (some 77) rfl (dY fun ww hw hf => cn rx (.slice A1 rx.held.length c1) (sA s0 off) (a6 bs) false ww (Own.sl (hf _ m1)) (by assumption) (by assumption) (by omega) (by omega) w.heap.size hw) ?_
 rintro ⟨v22a,v22c⟩
 refine kA [8] <| kSS 8 2 0 (a7 (a5 rx (sA s0 off) (a6 bs) false) (.slice v22a ((a5 rx (sA s0 off) (a6 bs) false).held.length) v22c)) rfl <| kZ ?_
 exact ⟨(v22a,v22c),kF 3 0 [0,7,8,9,10,11,13,15]⟩
 rintro ⟨v15a,v15c⟩
 refine kS <| kS <| xw_joinE (α := Option Addr × Nat) (fun y => (fun (v23a : Option Addr) (v23c : Nat) => (⟨[(0,.v (.slice Ac J.length Cc)),(7,aI s0),(8,.p 1 0),(9,.v (.string got)),(10,aI (i : Int)),(15,.p 2 0),(87,aB (!(aU (a5 rx (sA s0 off) (a6 bs) false) (a5 rx (sA s0 off) (a6 bs) false))))],[⟨28,a7 d2a (.slice d2A d2a.held.length d2C)⟩,⟨28,a7 rx (.slice A1 rx.held.length c1)⟩,⟨28,a7 (a5 rx (sA s0 off) (a6 bs) false) (.slice v15a ((a5 rx (sA s0 off) (a6 bs) false).held.length) v15c)⟩],[],[a8 w.heap.size 81 2 (.slice v23a ((a5 rx (sA s0 off) (a6 bs) false).held.length) v23c) ((a5 rx (sA s0 off) (a6 bs) false).held.map pC),br w.heap.size (.slice v15a ((a5 rx (sA s0 off) (a6 bs) false).held.length) v15c) 2 ((a5 rx (sA s0 off) (a6 bs) false).held.map pC),a8 w.heap.size 5 1 (.slice A2 bs.length c2) (bs.map bR),br w.heap.size (.slice A1 rx.held.length c1) 2 (rx.held.map pC),aM (.slice Ac J.length Cc) 1 (J.map bR)]⟩ : St)) y.1 y.2) ?_ ?_
 refine dS [] (by kernel_rfl) (fun ρ σ => ?_)
 refine kTF [0,1,2,3,5] [83,81,80,79,78,0,7,8,9,10,15] 5 ⟨[(83,.v (.slice A2 bs.length c2)),(81,aI off),(80,aI s0),(79,.v (.agg (a7 rx (.slice A1 rx.held.length c1)).toArray)),(78,.v (.agg (a7 (a5 rx (sA s0 off) (a6 bs) false) (.slice v15a ((a5 rx (sA s0 off) (a6 bs) false).held.length) v15c)).toArray)),(0,.v (.slice Ac J.length Cc)),(7,aI s0),(8,.p 1 0),(9,.v (.string got)),(10,aI (i : Int)),(15,.p 2 0)],[⟨28,a7 d2a (.slice d2A d2a.held.length d2C)⟩,⟨28,a7 rx (.slice A1 rx.held.length c1)⟩,⟨28,a7 (a5 rx (sA s0 off) (a6 bs) false) (.slice v15a ((a5 rx (sA s0 off) (a6 bs) false).held.length) v15c)⟩],[],[br w.heap.size (.slice v15a ((a5 rx (sA s0 off) (a6 bs) false).held.length) v15c) 2 ((a5 rx (sA s0 off) (a6 bs) false).held.map pC),a8 w.heap.size 5 1 (.slice A2 bs.length c2) (bs.map bR),br w.heap.size (.slice A1 rx.held.length c1) 2 (rx.held.map pC),aM (.slice Ac J.length Cc) 1 (J.map bR)]⟩ <| kA [4,6] ⟨?_,?_⟩
 refine kSC 4 28 [iI s0,iI off] (some 82) rfl (cI fun ww hf => cf s0 off ww ) ?_
 intro _
 refine kA [6] <| ez 6 (.string (a6 bs)) rfl (fun _ _ ww hr => aF (e := 5) bs hr.1 rfl (by kernel_rfl) (by kernel_rfl) (by kernel_rfl) rfl (aq (hr.2.fact (a8 w.heap.size 5 1 (.slice A2 bs.length c2) (bs.map bR)) (by simp)).1)) ?_
 refine kA [7] <| kSC 7 7 [.agg (a7 rx (.slice A1 rx.held.length c1)).toArray,iI (sA s0 off),.string (a6 bs),.bool false] (some 85) rfl (dY fun ww hw hf => ysArrived_c rx (.slice A1 rx.held.length c1) (sA s0 off) (a6 bs) false ww (Own.sl (hf _ m2)) (by assumption) (by assumption) (by omega) (by omega) w.heap.size hw) ?_
 rintro ⟨v23a,v23c⟩
 refine kA [8] <| kSC 8 27 [.agg (a7 (a5 rx (sA s0 off) (a6 bs) false) (.slice v15a ((a5 rx (sA s0 off) (a6 bs) false).held.length) v15c)).toArray,.agg (a7 (a5 rx (sA s0 off) (a6 bs) false) (.slice v23a ((a5 rx (sA s0 off) (a6 bs) false).held.length) v23c)).toArray] (some 86) rfl (xc_b fun ww hf => ey (a5 rx (sA s0 off) (a6 bs) false) (.slice v15a ((a5 rx (sA s0 off) (a6 bs) false).held.length) v15c) (a5 rx (sA s0 off) (a6 bs) false) (.slice v23a ((a5 rx (sA s0 off) (a6 bs) false).held.length) v23c) ww (Own.sl (hf _ m1)) (aq (hf _ m0)) ) ?_
 intro _
 refine d4 [9] [87,0,7,8,9,10,15] 0 [(87,aB (!(aU (a5 rx (sA s0 off) (a6 bs) false) (a5 rx (sA s0 off) (a6 bs) false)))),(0,.v (.slice Ac J.length Cc)),(7,aI s0),(8,.p 1 0),(9,.v (.string got)),(10,aI (i : Int)),(15,.p 2 0)] <| kZ ?_
 exact ⟨(v23a,v23c),kF 3 0 [0,7,8,9,10,15,87]⟩
 refine ez 6 (.string (a6 bs)) rfl (fun _ _ ww hr => aF (e := 5) bs hr.1 rfl (by kernel_rfl) (by kernel_rfl) (by kernel_rfl) rfl (aq (hr.2.fact (a8 w.heap.size 5 1 (.slice A2 bs.length c2) (bs.map bR)) (by simp)).1)) ?_
 refine kA [4] <| kSC 4 28 [iI s0,iI off] (some 82) rfl (cI fun ww hf => cf s0 off ww ) ?_
 intro _
 refine kA [7] <| kSC 7 7 [.agg (a7 rx (.slice A1 rx.held.length c1)).toArray,iI (sA s0 off),.string (a6 bs),.bool false] (some 85) rfl (dY fun ww hw hf => ysArrived_c rx (.slice A1 rx.held.length c1) (sA s0 off) (a6 bs) false ww (Own.sl (hf _ m2)) (by assumption) (by assumption) (by omega) (by omega) w.heap.size hw) ?_
 rintro ⟨v24a,v24c⟩
 refine kA [8] <| kSC 8 27 [.agg (a7 (a5 rx (sA s0 off) (a6 bs) false) (.slice v15a ((a5 rx (sA s0 off) (a6 bs) false).held.length) v15c)).toArray,.agg (a7 (a5 rx (sA s0 off) (a6 bs) false) (.slice v24a ((a5 rx (sA s0 off) (a6 bs) false).held.length) v24c)).toArray] (some 86) rfl (xc_b fun ww hf => ey (a5 rx (sA s0 off) (a6 bs) false) (.slice v15a ((a5 rx (sA s0 off) (a6 bs) false).held.length) v15c) (a5 rx (sA s0 off) (a6 bs) false) (.slice v24a ((a5 rx (sA s0 off) (a6 bs) false).held.length) v24c) ww (Own.sl (hf _ m1)) (aq (hf _ m0)) ) ?_
 intro _
 refine d4 [9] [87,0,7,8,9,10,15] 0 [(87,aB (!(aU (a5 rx (sA s0 off) (a6 bs) false) (a5 rx (sA s0 off) (a6 bs) false)))),(0,.v (.slice Ac J.length Cc)),(7,aI s0),(8,.p 1 0),(9,.v (.string got)),(10,aI (i : Int)),(15,.p 2 0)] <| kZ ?_
 exact ⟨(v24a,v24c),kF 3 0 [0,7,8,9,10,15,87]⟩
 rintro ⟨v23a,v23c⟩
 refine kC (!(aU (a5 rx (sA s0 off) (a6 bs) false) (a5 rx (sA s0 off) (a6 bs) false))) (fun h25 => ?_) (fun h25 => ?_)
 have h25n := du h25
 exfalso; rw [sameR_self] at h25n; cases h25n
 have h25n := d2 h25
 refine kK <| kQ <| dn [0,7,8,9,10,15] ⟨[(0,.v (.slice Ac J.length Cc)),(7,aI s0),(8,.p 1 0),(9,.v (.string got)),(10,aI (i : Int)),(15,.p 2 0)],[⟨28,a7 d2a (.slice d2A d2a.held.length d2C)⟩,⟨28,a7 rx (.slice A1 rx.held.length c1)⟩,⟨28,a7 (a5 rx (sA s0 off) (a6 bs) false) (.slice v15a ((a5 rx (sA s0 off) (a6 bs) false).held.length) v15c)⟩],[],[a8 w.heap.size 81 2 (.slice v23a ((a5 rx (sA s0 off) (a6 bs) false).held.length) v23c) ((a5 rx (sA s0 off) (a6 bs) false).held.map pC),br w.heap.size (.slice v15a ((a5 rx (sA s0 off) (a6 bs) false).held.length) v15c) 2 ((a5 rx (sA s0 off) (a6 bs) false).held.map pC),a8 w.heap.size 5 1 (.slice A2 bs.length c2) (bs.map bR),br w.heap.size (.slice A1 rx.held.length c1) 2 (rx.held.map pC),aM (.slice Ac J.length Cc) 1 (J.map bR)]⟩ <| kS <| dS [true,false,true] (by kernel_rfl) (fun ρ σ => ?_)
 refine d4 [0,1,2,3,4] [93,90,89,0,7,8,9,10] 8 [(93,aI (K6.wrap ((K6.wrap (3 * (i : Int))) + 3))),(90,.v (.slice Ac J.length Cc)),(89,.v (.agg (a7 (a5 rx (sA s0 off) (a6 bs) false) (.slice v15a ((a5 rx (sA s0 off) (a6 bs) false).held.length) v15c)).toArray)),(0,.v (.slice Ac J.length Cc)),(7,aI s0),(8,.p 1 0),(9,.v (.string got)),(10,aI (i : Int))] <| dF [93,90,89,0,7,8,9,10] [(93,aI (K6.wrap ((K6.wrap (3 * (i : Int))) + 3)))] [(93,aI ((3 * (i : Int)) + 3))] (by rw [show (K6.wrap (3 * (i : Int))) = (3 * (i : Int)) from az (by omega) (by omega),show (K6.wrap ((3 * (i : Int)) + 3)) = ((3 * (i : Int)) + 3) from az (by omega) (by omega)]) (by kernel_rfl) ?_
 refine kA [5] <| kSC 5 25 [.slice Ac J.length Cc,iI ((3 * (i : Int)) + 3)] (some 94) rfl (xc_e (α := Int) (F := fun y => iI y) (p := fun y => 0 ≤ y ∧ y ≤ 255) fun ww hf => at0_i J Ac Cc ((3 * (i : Int)) + 3) ww (hf _ m4) (by omega) (by first | omega | exact at0_pl (by omega) (by decide)) hby) ?_
 rintro ⟨d26,hd27⟩
 have hrd26_40 := cb (a := d26) (n := 40) hd27.1 (by decide)
 have hrd26_9 := cb (a := d26) (n := 9) hd27.1 (by decide)
 have hrd26_5 := cb (a := d26) (n := 5) hd27.1 (by decide)
 refine kX 6 (iI (Int.tmod d26 5)) rfl (fun _ _ ww hA => bp hA rfl (by kernel_rfl) (by kernel_rfl) (dU (by first | decide | omega) ww)) ?_
 refine kA [7] <| kSC 7 29 [.agg (a7 (a5 rx (sA s0 off) (a6 bs) false) (.slice v15a ((a5 rx (sA s0 off) (a6 bs) false).held.length) v15c)).toArray,iI (Int.tmod d26 5)] (some 96) rfl (dY fun ww hw hf => yiTakenIn_c (a5 rx (sA s0 off) (a6 bs) false) (.slice v15a ((a5 rx (sA s0 off) (a6 bs) false).held.length) v15c) (Int.tmod d26 5) ww (Own.sl (hf _ m1)) (by assumption) (by assumption) (by omega) w.heap.size hw) ?_
 rintro ⟨v28a,v28c⟩
 refine d4 [8,9,10] [98,97,0,7,8,9,10] 2 [(98,.v (.string ((ay (a5 rx (sA s0 off) (a6 bs) false) (Int.tmod d26 5)).2))),(97,.v (.agg (a7 (ay (a5 rx (sA s0 off) (a6 bs) false) (Int.tmod d26 5)).1 (.slice v28a ((ay (a5 rx (sA s0 off) (a6 bs) false) (Int.tmod d26 5)).1.held.length) v28c)).toArray)),(0,.v (.slice Ac J.length Cc)),(7,aI s0),(8,.p 1 0),(9,.v (.string got)),(10,aI (i : Int))] <| kA [11] <| kSS 11 1 0 (a7 (ay (a5 rx (sA s0 off) (a6 bs) false) (Int.tmod d26 5)).1 (.slice v28a ((ay (a5 rx (sA s0 off) (a6 bs) false) (Int.tmod d26 5)).1.held.length) v28c)) rfl <| d4 [12] [16,0,7,8,9,10] 0 [(16,.v (.string ((ay (a5 rx (sA s0 off) (a6 bs) false) (Int.tmod d26 5)).2))),(0,.v (.slice Ac J.length Cc)),(7,aI s0),(8,.p 1 0),(9,.v (.string got)),(10,aI (i : Int))] ?_
 refine kZ ?_
 have hts : ((ay (a5 rx (sA s0 off) (a6 bs) false) (Int.tmod d26 5)).2).size ≤ 65 := asm_ts _ hay hra
 refine kG <| dZ 2 [0,7,8,9,10,99,100] [(99,.v (.string got)),(100,.v (.string ((ay (a5 rx (sA s0 off) (a6 bs) false) (Int.tmod d26 5)).2)))] (.string (got ++ ((ay (a5 rx (sA s0 off) (a6 bs) false) (Int.tmod d26 5)).2))) rfl (fun _ _ _ ww hr => bp hr.1 rfl (by kernel_rfl) (by kernel_rfl) (dk (by first | omega | (simp only [ByteArray.size_extract]; omega)) ww)) ?_
 refine ai [0,7,8,9,10] [(9,.v (.string (got ++ ((ay (a5 rx (sA s0 off) (a6 bs) false) (Int.tmod d26 5)).2))))] <| kG <| cp 3 [0,7,8,9,10] [(10,aI (K6.wrap ((i : Int) + 1)))] <| bw [0,7,8,9,10] [(10,aI (K6.wrap ((i : Int) + 1)))] [(10,aI ((i : Int) + 1))] (by rw [show (K6.wrap ((i : Int) + 1)) = ((i : Int) + 1) from az (by omega) (by omega)]) (by kernel_rfl) ?_
 refine ai [0,7,8,9,10] [] ?_
 exact ⟨⟨(i + 1,(ay (a5 rx (sA s0 off) (a6 bs) false) (Int.tmod d26 5)).1,v28a,v28c,got ++ ((ay (a5 rx (sA s0 off) (a6 bs) false) (Int.tmod d26 5)).2)),⟨(by omega),RB.taken hra _,asm_taken _ hay,asm_sz _ hay hra hgz⟩⟩,dG [0,5] <| kF 2 0 [0,7,8,9,10],by show (fun (i : Nat) (rx : Rcv) (A1 : Option Addr) (c1 : Nat) (got : ByteArray) => 14 - i) (i + 1) ((ay (a5 rx (sA s0 off) (a6 bs) false) (Int.tmod d26 5)).1) v28a v28c (got ++ ((ay (a5 rx (sA s0 off) (a6 bs) false) (Int.tmod d26 5)).2)) < 14 - i; (dsimp only; omega)⟩
 have h6p := of_decide_eq_false h6
 have hge : ¬ (i : Int) < 14 := of_decide_eq_false h6
 refine aQ <| kQ <| kOS 3 [7,8,102,104] [(7,aI s0),(8,.p 1 0),(102,.v (.string got)),(104,.v (.string rx.data))] (.string (got ++ rx.data)) rfl (fun _ _ _ ww hr => bp hr.1 rfl (by kernel_rfl) (by kernel_rfl) (dk (by first | omega | (simp only [ByteArray.size_extract]; omega)) ww)) ?_
 refine ai [7,8,17] [(17,.v (.string (got ++ rx.data)))] <| kS <| kQ <| ai [7,8,17,18] [(18,aI 0)] ?_
 refine au <| aN (α := {x : Nat // (fun (j : Nat) => j ≤ (got ++ rx.data).size) x}) (fun x => (fun (j : Nat) => (⟨[(7,aI s0),(8,.p 1 0),(17,.v (.string (got ++ rx.data))),(18,aI (j : Int))],[⟨28,a7 d2a (.slice d2A d2a.held.length d2C)⟩,⟨28,a7 rx (.slice A1 rx.held.length c1)⟩],[],[br w.heap.size (.slice A1 rx.held.length c1) 2 (rx.held.map pC),aM (.slice Ac J.length Cc) 1 (J.map bR)]⟩ : St)) x.1) (fun x => (fun (j : Nat) => (got ++ rx.data).size - j) x.1) ⟨(0),Nat.zero_le _⟩ (kF 2 0 [7,8,17,18]) ?_
 rintro ⟨j,hj⟩
 try dsimp only
 try dsimp only at hj
 refine kS <| kQ <| ai [7,8,17,18,109] [(109,aB (decide ((j : Int) < ((got ++ rx.data).size : Int))))] <| kC (decide ((j : Int) < ((got ++ rx.data).size : Int))) (fun h29 => ?_) (fun h29 => ?_)
 have h29p := of_decide_eq_true h29
 have hjl : j < (got ++ rx.data).size := by have := of_decide_eq_true h29; omega
 have hq26 := cb (a := (j : Int) + 100) (n := 26) (by omega) (by decide)
 have htx := has.txt j hjl
 refine kK <| kS <| au <| kQ <| dZ 2 [7,8,17,18,112,113] [(112,.v (.string (got ++ rx.data))),(113,aI (j : Int))] (.int .u8 (ar (got ++ rx.data) j)) rfl (fun _ _ _ ww hr => eo (kd := .i64) (t := (got ++ rx.data)) j hr.1 rfl rfl (by kernel_rfl) (by kernel_rfl) hjl ww) ?_
 refine dZ 2 [7,8,17,18,114,116] [(116,aI (K6.wrap ((j : Int) + 100)))] (iI (Int.tmod (K6.wrap ((j : Int) + 100)) 26)) rfl (fun _ _ _ ww hr => bp hr.1 rfl (by kernel_rfl) (by kernel_rfl) (dU (by first | decide | omega) ww)) ?_
 refine cp 3 [7,8,17,18,120] [(120,aB ((ar (got ++ rx.data) j) != (IntKind.u8.wrap (K6.wrap (97 + (Int.tmod (K6.wrap ((j : Int) + 100)) 26))))))] <| bw [7,8,17,18,120] [(120,aB ((ar (got ++ rx.data) j) != (IntKind.u8.wrap (K6.wrap (97 + (Int.tmod (K6.wrap ((j : Int) + 100)) 26))))))] [(120,aB ((ar (got ++ rx.data) j) != (IntKind.u8.wrap (97 + (Int.tmod ((j : Int) + 100) 26)))))] (by rw [show (K6.wrap ((j : Int) + 100)) = ((j : Int) + 100) from az (by omega) (by omega),show (K6.wrap (97 + (Int.tmod ((j : Int) + 100) 26))) = (97 + (Int.tmod ((j : Int) + 100) 26)) from az (by omega) (by omega)]) (by kernel_rfl) ?_
 refine ai [7,8,17,18,120] [] <| kC ((ar (got ++ rx.data) j) != (IntKind.u8.wrap (97 + (Int.tmod ((j : Int) + 100) 26)))) (fun h30 => ?_) (fun h30 => ?_)
 have h30p := neT h30
 exfalso; rw [htx,← chA_val0 (by omega)] at h30; simp at h30
 have h30p := neF h30
 refine kK <| kG <| cp 3 [7,8,17,18] [(18,aI (K6.wrap ((j : Int) + 1)))] <| bw [7,8,17,18] [(18,aI (K6.wrap ((j : Int) + 1)))] [(18,aI ((j : Int) + 1))] (by rw [show (K6.wrap ((j : Int) + 1)) = ((j : Int) + 1) from az (by omega) (by omega)]) (by kernel_rfl) ?_
 refine ba [7,8,17,18] [(7,aI s0),(8,.p 1 0),(17,.v (.string (got ++ rx.data))),(18,aI ((j : Int) + 1))] ?_
 exact ⟨⟨(j + 1),hjl⟩,kF 2 0 [7,8,17,18],by show (fun (j : Nat) => (got ++ rx.data).size - j) (j + 1) < (got ++ rx.data).size - j; (dsimp only; omega)⟩
 have h29p := of_decide_eq_false h29
 refine aQ <| kS <| dS [] (by kernel_rfl) (fun ρ σ => ?_)
 refine d4 [0,1,2,4,5] [126,123,121,8] 7 [(126,aI rx.next),(123,aI ((got ++ rx.data).size : Int)),(121,aI s0),(8,.p 1 0)] <| kA [3] <| kSC 3 26 [iI s0,iI ((got ++ rx.data).size : Int)] (some 124) rfl (cI fun ww hf => cu s0 ((got ++ rx.data).size : Int) ww ) ?_
 intro _
 refine d4 [6,7] [128,8] 4 [(128,aB ((sA s0 ((got ++ rx.data).size : Int)) == rx.next)),(8,.p 1 0)] <| kY 128 ((sA s0 ((got ++ rx.data).size : Int)) == rx.next) (fun h31 => ?_) (fun h31 => ?_)
 have h31p := eqT h31
 refine d4 [8] [129,128] 3 [(129,.v (.agg (a7 rx (.slice A1 rx.held.length c1)).toArray)),(128,aB true)] <| kA [9] <| kSC 9 30 [.agg (a7 rx (.slice A1 rx.held.length c1)).toArray] (some 130) rfl (xc_b fun ww hf => dM rx (.slice A1 rx.held.length c1) ww (Own.sl (hf _ m0)) (by assumption) (by omega)) ?_
 intro _
 refine d4 [10,11] [2] 0 [(2,aB (rO rx))] <| kZ <| kR ?_
 exact ⟨[.bool (rO rx)],by kernel_rfl,fun w' hb hf => ⟨am (show (rO rx : Bool) = true from by exact has.ok),hb⟩⟩
 have h31p := eqF h31
 exfalso; rw [asm_end has] at h31; simp at h31

set_option maxRecDepth 100000 in
theorem fnAssembly_lifted (os : Os) (started : os.Started) (H : Type) (enc : TypeId × Value → H) :
    ReturnsInHanded {} Try.checked os 5 .any (Rows.fnAssemblySpec.pre6 enc Try.prog Try.f5 Rows.fnAssemblyRow.domain false) (Rows.fnAssemblySpec.post enc Try.prog Try.f5 false true false false) := by
  refine returnsInHanded_of_change (C := Try.checked) Try.ownK started (by kernel_rfl) Try.func5
    (ChangeSpec.witness6 (enc := enc) (C := Try.checked) false ⟨#[], #[.slice none 0 0], []⟩ 8 (by kernel_rfl) (by kernel_rfl) (by kernel_rfl) (by kernel_rfl)) ?_
  intro W base args ds gs before hval0 hW hcnd _
  have hval : ∀ (j : Nat) t v, Try.f5.params[j]? = some t → args[j]? = some v → Value.okWide Try.prog W .any base t v := hval0
  have hW' := hW
  obtain ⟨p, q, hA0, hV, rfl, hfz, hnd⟩ := hW
  have hA : DataW.TrodAll enc Try.prog W 0 (fun _ => true) true Try.f5.params.toList args.toList ds p := hA0
  rw [Try.params5] at hA hval
  obtain ⟨v0, vs0, d0, ds0, p0, q0, hargs, rfl, rfl, h0, r0⟩ := trodAll_cons hA
  obtain ⟨rfl, rfl, rfl⟩ := trodAll_nil r0
  obtain rfl : args = #[v0] := by cases args; simp_all
  obtain ⟨rfl, rfl⟩ := trodVars_none hV
  clear hA0 hval0
  have g0 := h0
  obtain ⟨l0, L0, M0⟩ := openS_byteR (hval 0 _ v0 rfl rfl) g0
  refine (fnAssembly_walk l0 v0 W L0 M0).mono fun e W' ⟨he, hb⟩ => ?_
  subst he
  have hlt : ∀ x ∈ (p0 ++ ([])) ++ [], x.block < W.heap.size := fun x hx => hW'.lt x hx
  refine ⟨_, rfl, post_of_below (pa := (p0 ++ ([]))) (pv := []) hW' (fun _ _ _ => trodAll_cons_mk (shut_bool Try.underlying4 _) trodAll_mk0) (fun sp hsp => trodAll_cons_mk (WideElems.Trod_stays Try.laidOut (by kernel_rfl) (of_decide_eq_true (by kernel_rfl)) h0 (fun x hx => hb.same (hlt x (List.mem_append_left _ (List.mem_append_left _ hx)))) (fun x hx => hsp x (List.mem_append_left _ (List.mem_append_left _ hx)))) (trodAll_mk0)) (fun _ _ => rfl) rfl hb (ok_one (by kernel_rfl) rfl (okWide_bool_mk Try.underlying4 _))⟩

theorem fnAssembly_over : Rows.fnAssemblyRow.holds Try.pinned (OpenSpec.ofChange Rows.fnAssemblySpec) :=
  OpenClaim.holds_of_wide 5 Try.f5 rfl rfl rfl rfl rfl rfl rfl ⟨rfl, rfl, rfl, rfl, rfl⟩ rfl rfl rfl rfl rfl (by kernel_rfl) Try.func5 (by kernel_rfl)
    (of_decide_eq_true (by kernel_rfl)) (by unfold Func.isWrapper; first | (rw [if_pos (by decide +kernel)]; kernel_rfl) | (rw [if_neg (by decide +kernel)]; exact ⟨rfl, rfl⟩))
    (fun os started H enc _ => fnAssembly_lifted os started H enc)

theorem fnAssembly_holds : Rows.FnAssemblySaid := fnAssembly_over
#print axioms fnAssembly_holds
end Go.Proofs.Ytebgmdiejgcoiaa
