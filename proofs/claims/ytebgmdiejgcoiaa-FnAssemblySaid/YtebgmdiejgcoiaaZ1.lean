/- Contracts that this law needs, part 1. -/
import Derived.Test.YtebgmdiejgcoiaaYW
import Derived.Test.YtebgmdiejgcoiaaA5
import Derived.Test.YtebgmdiejgcoiaaG1
import Derived.Test.YtebgmdiejgcoiaaYD
import Derived.Test.YtebgmdiejgcoiaaG3
import Derived.Test.YtebgmdiejgcoiaaG2
import Derived.Test.YtebgmdiejgcoiaaA2
namespace Go.Proofs.Ytebgmdiejgcoiaa
open Go.RowKit
set_option linter.unusedVariables false
set_option linter.unusedSimpArgs false
set_option maxRecDepth 100000
set_option maxHeartbeats 2000000
abbrev aI (x : Int) : AV := .v (.int .i64 x)
abbrev aB (x : Bool) : AV := .v (.bool x)
abbrev aP (x : Nat) : AV := .v (.pointer (some ⟨x, 0, none⟩))
abbrev gP (x : Nat) : Value := .pointer (some ⟨x, 0, none⟩)
abbrev iI (x : Int) : Value := .int .i64 x
abbrev cF (B g : Nat) (A : Option Addr) (c : List Int) (cap : Nat) : Fact := dB B g 123 (.slice A c.length cap) c.length
abbrev sJ (a : Option Addr) (c : List Int) (n : Nat) : Value := .slice a c.length n
abbrev sQ (a : Option Addr) (c : List Int) (n : Nat) : Fact := aM (sJ a c n) 1 (c.map bR)
abbrev K6 : IntKind := .i64


theorem ysReceiverOk_c (r : Rcv) (r_heldV : Value) (w : World) (hl_r_heldV : Sl w r_heldV 2 (r.held.map pC)) (hm : ∀ p ∈ r.held, p.text.size ≤ 1048576) (hsz : r.data.size ≤ 4611686018427387904) : Calls Try.prog 33 #[.agg (a7 r r_heldV).toArray] w fun e w' => e = .returned (.bool (rO r)) ∧ Below w.heap.size w w' := by
 have hw := bW r
 obtain ⟨Arh,Crh,hvrh⟩ := hl_r_heldV.form
 rw [List.length_map] at hvrh; subst hvrh
 have hnrh := hl_r_heldV.len; rw [List.length_map] at hnrh
 have hqrh := Sl.capLe hl_r_heldV
 refine dz (args := [.agg (a7 r (.slice Arh r.held.length Crh)).toArray]) (fn := Try.f33) [aM (.slice Arh r.held.length Crh) 2 (r.held.map pC)] Try.func33 rfl Try.ntmps33 rfl (by simp only [List.mem_cons,List.not_mem_nil,or_false,forall_eq_or_imp,forall_eq]; exact ⟨rfl,hl_r_heldV⟩) ?_
 refine kQ <| dn [1] ⟨[(1,.p 0 0)],[⟨28,a7 r (.slice Arh r.held.length Crh)⟩],[],[aM (.slice Arh r.held.length Crh) 2 (r.held.map pC)]⟩ <| kQ <| kCD 1 [1,7] [(7,.v (.agg (a7 r (.slice Arh r.held.length Crh)).toArray))] 34 [.agg (a7 r (.slice Arh r.held.length Crh)).toArray] (some 8) rfl (xc_b fun ww hf => sWindowOf_c r.next r.data r.held (.slice Arh r.held.length Crh) r.fin r.done ww (by omega)) ?_
 intro _
 refine ai [1,3] [(3,aI (wO r))] <| kS <| kQ <| kCD 2 [1,3,10] [(10,aI r.next)] 79 [iI r.next,iI 32] (some 11) rfl (cI fun ww hf => sWordOk32_c r.next ww) ?_
 intro _
 refine cp 2 [1,3,13] [(13,aB (!(aD r.next 32)))] <| kP 13 (!(aD r.next 32)) (fun h1 => ?_) (fun h1 => ?_)
 have h1n := du h1
 refine ai [1,3,36] [(36,aB true)] <| kT <| kQ <| ba [2] [(2,aB false)] ?_
 refine kR ?_
 exact ⟨[.bool false],by kernel_rfl,fun w' hb hf => ⟨am (show (false : Bool) = rO r from by first | rfl | (rw [HR,HK]; simp [*]; done) | (rw [HR,HK]; simp [*]; omega) | (rw [HR,HK]; grind [ag]) | (simp [rO,a9, *]; done) | (simp [rO,a9, *]; omega) | grind [rO,a9]),hb⟩⟩
 have h1n := d2 h1
 refine cp 6 [1,3,19] [(19,aB (decide ((r.data.size : Int) > 32)))] <| kP 19 (decide ((r.data.size : Int) > 32)) (fun h2 => ?_) (fun h2 => ?_)
 have h2p := of_decide_eq_true h2
 refine ai [1,3,36] [(36,aB true)] <| kT <| kQ <| ba [2] [(2,aB false)] ?_
 refine kR ?_
 exact ⟨[.bool false],by kernel_rfl,fun w' hb hf => ⟨am (show (false : Bool) = rO r from by first | rfl | (rw [HR,HK]; simp [*]; done) | (rw [HR,HK]; simp [*]; omega) | (rw [HR,HK]; grind [ag]) | (simp [rO,a9, *]; done) | (simp [rO,a9, *]; omega) | grind [rO,a9]),hb⟩⟩
 have h2p := of_decide_eq_false h2
 refine cp 6 [1,3,25] [(25,aB (decide (((r.held.length : Nat) : Int) > 3)))] <| kP 25 (decide (((r.held.length : Nat) : Int) > 3)) (fun h3 => ?_) (fun h3 => ?_)
 have h3p := of_decide_eq_true h3
 refine ai [1,3,36] [(36,aB true)] <| kT <| kQ <| ba [2] [(2,aB false)] ?_
 refine kR ?_
 exact ⟨[.bool false],by kernel_rfl,fun w' hb hf => ⟨am (show (false : Bool) = rO r from by first | rfl | (rw [HR,HK]; simp [*]; done) | (rw [HR,HK]; simp [*]; omega) | (rw [HR,HK]; grind [ag]) | (simp [rO,a9, *]; done) | (simp [rO,a9, *]; omega) | grind [rO,a9]),hb⟩⟩
 have h3p := of_decide_eq_false h3
 refine kCD 3 [1,3,25,27,28] [(25,aB false),(27,aI r.fin),(28,aI (wO r))] 55 [iI r.fin,iI (-1),iI (wO r)] (some 29) rfl (cI fun ww hf => l1In_c r.fin (-1) (wO r) ww ) ?_
 intro _
 refine cp 3 [1,3,32] [(32,aB (!(dT r.fin (-1) (wO r))))] <| kP 32 (!(dT r.fin (-1) (wO r))) (fun h4 => ?_) (fun h4 => ?_)
 have h4n := du h4
 refine ai [1,3,36] [(36,aB true)] <| kT <| kQ <| ba [2] [(2,aB false)] ?_
 refine kR ?_
 exact ⟨[.bool false],by kernel_rfl,fun w' hb hf => ⟨am (show (false : Bool) = rO r from by first | rfl | (rw [HR,HK]; simp [*]; done) | (rw [HR,HK]; simp [*]; omega) | (rw [HR,HK]; grind [ag]) | (simp [rO,a9, *]; done) | (simp [rO,a9, *]; omega) | grind [rO,a9]),hb⟩⟩
 have h4n := d2 h4
 refine ai [1,3,36] [(36,aB (r.fin == 0))] <| kC (r.fin == 0) (fun h5 => ?_) (fun h5 => ?_)
 have h5p := eqT h5
 refine kQ <| ba [2] [(2,aB false)] <| kR ?_
 exact ⟨[.bool false],by kernel_rfl,fun w' hb hf => ⟨am (show (false : Bool) = rO r from by first | rfl | (rw [HR,HK]; simp [*]; done) | (rw [HR,HK]; simp [*]; omega) | (rw [HR,HK]; grind [ag]) | (simp [rO,a9, *]; done) | (simp [rO,a9, *]; omega) | grind [rO,a9]),hb⟩⟩
 have h5p := eqF h5
 refine kK <| kQ <| ai [1,3,4] [(4,aI 0)] <| kS <| kQ <| ba [1,3,4,5] [(1,.p 0 0),(3,aI (wO r)),(4,aI 0),(5,aI 0)] ?_
 refine au ?_
 have hp : a9 r = true := by first | (simp [a9, *]; done) | (simp [a9, *]; omega) | grind [a9]
 have hin := inB_tt.1 (rcvPre_iff.1 hp).2.2.2.1
 have HR := receiverOkS r hp
 refine aN (α := {x : Nat × Int // (fun (k : Nat) (z : Int) => k ≤ r.held.length ∧ 0 ≤ z ∧ z ≤ 32 ∧ bX (wO r) r.fin 0 r.held = bX (wO r) r.fin z (r.held.drop k)) x.1 x.2}) (fun x => (fun (k : Nat) (z : Int) => (⟨[(1,.p 0 0),(3,aI (wO r)),(4,aI z),(5,aI (k : Int))],[⟨28,a7 r (.slice Arh r.held.length Crh)⟩],[],[aM (.slice Arh r.held.length Crh) 2 (r.held.map pC)]⟩ : St)) x.1.1 x.1.2) (fun x => r.held.length - x.1.1) ⟨(0,0),⟨Nat.zero_le _,by omega,by omega,rfl⟩⟩ (kF 1 0 [1,3,4,5]) ?_
 rintro ⟨⟨k,z⟩,hk,hz0,hz1,HK⟩
 try dsimp only
 try dsimp only at hk hz0 hz1 HK
 refine kS <| kQ <| ai [1,3,4,5,41] [(41,aB (decide ((k : Int) < ((r.held.length : Nat) : Int))))] <| kC (decide ((k : Int) < ((r.held.length : Nat) : Int))) (fun h6 => ?_) (fun h6 => ?_)
 have h6p := of_decide_eq_true h6
 have hlt : k < r.held.length := by simpa using h6
 obtain ⟨x,hx⟩ : ∃ x,r.held[k]? = some x := ⟨_,List.getElem?_eq_getElem hlt⟩
 have hxm := hm x (List.mem_of_getElem? hx)
 rw [bC hx] at HK; simp only [bX,aX] at HK
 refine kK <| kS <| au <| kQ <| cK (kd := .i64) (T := 26) (e := 81) (K := 2) 3 [1,3,4,5,45,46] [(45,.v (.slice Arh r.held.length Crh)),(46,aI (k : Int))] k [iI x.off,.string x.text] (aM (.slice Arh r.held.length Crh) 2 (r.held.map pC)) (by kernel_rfl) rfl (by kernel_rfl) rfl rfl (by kernel_rfl) (by kernel_rfl) (by kernel_rfl) (by kernel_rfl) hlt (by simp) (fun w h => h) (fun b h => h) (by simp only [List.getElem?_map,hx]; rfl) ?_
 refine kEA [1,3,4,5,6] [(6,.p 1 0)] [⟨81,dt x⟩] <| kS <| kQ <| cp 4 [1,3,4,5,6,52] [(52,aB (x.text.toList == (⟨#[]⟩ : ByteArray).toList))] ?_
 refine kP 52 (x.text.toList == (⟨#[]⟩ : ByteArray).toList) (fun h7 => ?_) (fun h7 => ?_)
 have h7p := h7; simp only [beq_iff_eq,bne_iff_ne,beq_eq_false_iff_ne,bne_eq_false_iff_eq,ne_eq,bA] at h7p
 refine ai [1,3,5,6,73] [(73,aB true)] <| kT <| kQ <| ba [2] [(2,aB false)] ?_
 refine kR ?_
 exact ⟨[.bool false],by kernel_rfl,fun w' hb hf => ⟨am (show (false : Bool) = rO r from by first | rfl | (rw [HR,HK]; simp [*]; done) | (rw [HR,HK]; simp [*]; omega) | (rw [HR,HK]; grind [ag]) | (simp [rO,a9, *]; done) | (simp [rO,a9, *]; omega) | grind [rO,a9]),hb⟩⟩
 have h7p := h7; simp only [beq_iff_eq,bne_iff_ne,beq_eq_false_iff_ne,bne_eq_false_iff_eq,ne_eq,bA] at h7p
 refine cp 6 [1,3,5,6,58] [(58,aB (decide (x.off ≤ z)))] <| kP 58 (decide (x.off ≤ z)) (fun h8 => ?_) (fun h8 => ?_)
 have h8p := of_decide_eq_true h8
 refine ai [1,3,5,6,73] [(73,aB true)] <| kT <| kQ <| ba [2] [(2,aB false)] ?_
 refine kR ?_
 exact ⟨[.bool false],by kernel_rfl,fun w' hb hf => ⟨am (show (false : Bool) = rO r from by first | rfl | (rw [HR,HK]; simp [*]; done) | (rw [HR,HK]; simp [*]; omega) | (rw [HR,HK]; grind [ag]) | (simp [rO,a9, *]; done) | (simp [rO,a9, *]; omega) | grind [rO,a9]),hb⟩⟩
 have h8p := of_decide_eq_false h8
 refine cp 6 [1,3,5,6,64] [(64,aB (decide (x.off > (wO r))))] <| kP 64 (decide (x.off > (wO r))) (fun h9 => ?_) (fun h9 => ?_)
 have h9p := of_decide_eq_true h9
 refine ai [1,3,5,6,73] [(73,aB true)] <| kT <| kQ <| ba [2] [(2,aB false)] ?_
 refine kR ?_
 exact ⟨[.bool false],by kernel_rfl,fun w' hb hf => ⟨am (show (false : Bool) = rO r from by first | rfl | (rw [HR,HK]; simp [*]; done) | (rw [HR,HK]; simp [*]; omega) | (rw [HR,HK]; grind [ag]) | (simp [rO,a9, *]; done) | (simp [rO,a9, *]; omega) | grind [rO,a9]),hb⟩⟩
 have h9p := of_decide_eq_false h9
 refine cp 9 [1,3,5,6,73] [(73,aB (decide ((K6.wrap (x.off + (x.text.size : Int))) > (wO r))))] <| bw [1,3,5,6,73] [(73,aB (decide ((K6.wrap (x.off + (x.text.size : Int))) > (wO r))))] [(73,aB (decide ((x.off + (x.text.size : Int)) > (wO r))))] (by rw [show (K6.wrap (x.off + (x.text.size : Int))) = (x.off + (x.text.size : Int)) from az (by omega) (by omega)]) (by kernel_rfl) ?_
 refine ai [1,3,5,6,73] [] <| kC (decide ((x.off + (x.text.size : Int)) > (wO r))) (fun h10 => ?_) (fun h10 => ?_)
 have h10p := of_decide_eq_true h10
 refine kQ <| ba [2] [(2,aB false)] <| kR ?_
 exact ⟨[.bool false],by kernel_rfl,fun w' hb hf => ⟨am (show (false : Bool) = rO r from by first | rfl | (rw [HR,HK]; simp [*]; done) | (rw [HR,HK]; simp [*]; omega) | (rw [HR,HK]; grind [ag]) | (simp [rO,a9, *]; done) | (simp [rO,a9, *]; omega) | grind [rO,a9]),hb⟩⟩
 have h10p := of_decide_eq_false h10
 refine kK <| kG <| kRS 7 [1,3,4,5] [(1,.p 0 0),(3,aI (wO r)),(4,aI (K6.wrap (x.off + (x.text.size : Int)))),(5,aI (k : Int))] <| xl_eqS (t' := [(1,.p 0 0),(3,aI (wO r)),(4,aI (x.off + (x.text.size : Int))),(5,aI (k : Int))]) (by rw [show (K6.wrap (x.off + (x.text.size : Int))) = (x.off + (x.text.size : Int)) from az (by omega) (by omega)]) ?_
 refine ai [1,3,4,5] [] <| kG <| cp 3 [1,3,4,5] [(5,aI (K6.wrap ((k : Int) + 1)))] <| bw [1,3,4,5] [(5,aI (K6.wrap ((k : Int) + 1)))] [(5,aI ((k : Int) + 1))] (by rw [show (K6.wrap ((k : Int) + 1)) = ((k : Int) + 1) from az (by omega) (by omega)]) (by kernel_rfl) ?_
 refine ai [1,3,4,5] [] ?_
 exact ⟨⟨(k + 1,x.off + (x.text.size : Int)),⟨by omega,by omega,by omega,by rw [HK]; first | (simp [*]; done) | (simp [*]; omega) | grind⟩⟩,kF 1 0 [1,3,4,5],by show r.held.length - (k + 1) < r.held.length - k; omega⟩
 have h6p := of_decide_eq_false h6
 have hge : k = r.held.length := by simp at h6; omega
 subst hge; simp only [List.drop_length,bX,aX] at HK
 refine aQ <| kQ <| cp 4 [1,4,83] [(83,aB (decide (r.fin < 0)))] <| kP 83 (decide (r.fin < 0)) (fun h11 => ?_) (fun h11 => ?_)
 have h11p := of_decide_eq_true h11
 refine cp 10 [1,89,93] [(89,aB true),(93,aB (!r.done))] <| kP 93 (!r.done) (fun h12 => ?_) (fun h12 => ?_)
 have h12n := du h12
 refine ba [2] [(2,aB true)] <| kR ?_
 exact ⟨[.bool true],by kernel_rfl,fun w' hb hf => ⟨am (show (true : Bool) = rO r from by first | rfl | (rw [HR,HK]; simp [*]; done) | (rw [HR,HK]; simp [*]; omega) | (rw [HR,HK]; grind [ag]) | (simp [rO,a9, *]; done) | (simp [rO,a9, *]; omega) | grind [rO,a9]),hb⟩⟩
 have h12n := d2 h12
 refine cp 5 [1,89,93,98] [(93,aB false),(98,aB (((r.held.length : Nat) : Int) == 0))] <| kP 98 (((r.held.length : Nat) : Int) == 0) (fun h13 => ?_) (fun h13 => ?_)
 have h13p := eqT h13
 refine ba [2] [(2,aB (r.fin == (-1)))] <| kR ?_
 exact ⟨[.bool (r.fin == (-1))],by kernel_rfl,fun w' hb hf => ⟨am (show (r.fin == (-1) : Bool) = rO r from by first | rfl | (rw [HR,HK]; simp [*]; done) | (rw [HR,HK]; simp [*]; omega) | (rw [HR,HK]; grind [ag]) | (simp [rO,a9, *]; done) | (simp [rO,a9, *]; omega) | grind [rO,a9]),hb⟩⟩
 have h13p := eqF h13
 refine ba [2] [(2,aB false)] <| kR ?_
 exact ⟨[.bool false],by kernel_rfl,fun w' hb hf => ⟨am (show (false : Bool) = rO r from by first | rfl | (rw [HR,HK]; simp [*]; done) | (rw [HR,HK]; simp [*]; omega) | (rw [HR,HK]; grind [ag]) | (simp [rO,a9, *]; done) | (simp [rO,a9, *]; omega) | grind [rO,a9]),hb⟩⟩
 have h11p := of_decide_eq_false h11
 refine cp 6 [1,89] [(89,aB (decide (z ≤ r.fin)))] <| kP 89 (decide (z ≤ r.fin)) (fun h14 => ?_) (fun h14 => ?_)
 have h14p := of_decide_eq_true h14
 refine cp 4 [1,89,93] [(89,aB true),(93,aB (!r.done))] <| kP 93 (!r.done) (fun h15 => ?_) (fun h15 => ?_)
 have h15n := du h15
 refine ba [2] [(2,aB true)] <| kR ?_
 exact ⟨[.bool true],by kernel_rfl,fun w' hb hf => ⟨am (show (true : Bool) = rO r from by first | rfl | (rw [HR,HK]; simp [*]; done) | (rw [HR,HK]; simp [*]; omega) | (rw [HR,HK]; grind [ag]) | (simp [rO,a9, *]; done) | (simp [rO,a9, *]; omega) | grind [rO,a9]),hb⟩⟩
 have h15n := d2 h15
 refine cp 5 [1,89,93,98] [(93,aB false),(98,aB (((r.held.length : Nat) : Int) == 0))] <| kP 98 (((r.held.length : Nat) : Int) == 0) (fun h16 => ?_) (fun h16 => ?_)
 have h16p := eqT h16
 refine ba [2] [(2,aB (r.fin == (-1)))] <| kR ?_
 exact ⟨[.bool (r.fin == (-1))],by kernel_rfl,fun w' hb hf => ⟨am (show (r.fin == (-1) : Bool) = rO r from by first | rfl | (rw [HR,HK]; simp [*]; done) | (rw [HR,HK]; simp [*]; omega) | (rw [HR,HK]; grind [ag]) | (simp [rO,a9, *]; done) | (simp [rO,a9, *]; omega) | grind [rO,a9]),hb⟩⟩
 have h16p := eqF h16
 refine ba [2] [(2,aB false)] <| kR ?_
 exact ⟨[.bool false],by kernel_rfl,fun w' hb hf => ⟨am (show (false : Bool) = rO r from by first | rfl | (rw [HR,HK]; simp [*]; done) | (rw [HR,HK]; simp [*]; omega) | (rw [HR,HK]; grind [ag]) | (simp [rO,a9, *]; done) | (simp [rO,a9, *]; omega) | grind [rO,a9]),hb⟩⟩
 have h14p := of_decide_eq_false h14
 refine ba [2] [(2,aB false)] <| kR ?_
 exact ⟨[.bool false],by kernel_rfl,fun w' hb hf => ⟨am (show (false : Bool) = rO r from by first | rfl | (rw [HR,HK]; simp [*]; done) | (rw [HR,HK]; simp [*]; omega) | (rw [HR,HK]; grind [ag]) | (simp [rO,a9, *]; done) | (simp [rO,a9, *]; omega) | grind [rO,a9]),hb⟩⟩
theorem dM (r : Rcv) (r_heldV : Value) (w : World) (hl_r_heldV : Sl w r_heldV 2 (r.held.map pC)) (hm : ∀ p ∈ r.held, p.text.size ≤ 1048576) (hsz : r.data.size ≤ 4611686018427387904) : Calls Try.prog 30 #[.agg (a7 r r_heldV).toArray] w fun e w' => e = .returned (.bool (rO r)) ∧ Below w.heap.size w w' := by
 have hw := bW r
 obtain ⟨Arh,Crh,hvrh⟩ := hl_r_heldV.form
 rw [List.length_map] at hvrh; subst hvrh
 have hnrh := hl_r_heldV.len; rw [List.length_map] at hnrh
 have hqrh := Sl.capLe hl_r_heldV
 refine dz (args := [.agg (a7 r (.slice Arh r.held.length Crh)).toArray]) (fn := Try.f30) [aM (.slice Arh r.held.length Crh) 2 (r.held.map pC)] Try.func30 rfl Try.ntmps30 rfl (by simp only [List.mem_cons,List.not_mem_nil,or_false,forall_eq_or_imp,forall_eq]; exact ⟨rfl,hl_r_heldV⟩) ?_
 refine kQ <| dn [1] ⟨[(1,.p 0 0)],[⟨28,a7 r (.slice Arh r.held.length Crh)⟩],[],[aM (.slice Arh r.held.length Crh) 2 (r.held.map pC)]⟩ <| kQ <| kCD 1 [1,8] [(8,.v (.agg (a7 r (.slice Arh r.held.length Crh)).toArray))] 41 [.agg (a7 r (.slice Arh r.held.length Crh)).toArray] (some 9) rfl (xc_b fun ww hf => iWindowOf_c r.next r.data r.held (.slice Arh r.held.length Crh) r.fin r.done ww (by omega)) ?_
 intro _
 refine ai [1,3] [(3,aI (wO r))] <| kS <| kQ <| kCD 2 [1,3,11] [(11,aI r.next)] 76 [iI r.next,iI 32] (some 12) rfl (cI fun ww hf => iWordOk32_c r.next ww) ?_
 intro _
 refine cp 2 [1,3,14] [(14,aB (!(aD r.next 32)))] <| kP 14 (!(aD r.next 32)) (fun h1 => ?_) (fun h1 => ?_)
 have h1n := du h1
 refine ai [1,3,37] [(37,aB true)] <| kT <| kQ <| ba [2] [(2,aB false)] ?_
 refine kR ?_
 exact ⟨[.bool false],by kernel_rfl,fun w' hb hf => ⟨am (show (false : Bool) = rO r from by first | rfl | (rw [HR,HK]; simp [*]; done) | (rw [HR,HK]; simp [*]; omega) | (rw [HR,HK]; grind [ag]) | (simp [rO,a9, *]; done) | (simp [rO,a9, *]; omega) | grind [rO,a9]),hb⟩⟩
 have h1n := d2 h1
 refine cp 6 [1,3,20] [(20,aB (decide ((r.data.size : Int) > 32)))] <| kP 20 (decide ((r.data.size : Int) > 32)) (fun h2 => ?_) (fun h2 => ?_)
 have h2p := of_decide_eq_true h2
 refine ai [1,3,37] [(37,aB true)] <| kT <| kQ <| ba [2] [(2,aB false)] ?_
 refine kR ?_
 exact ⟨[.bool false],by kernel_rfl,fun w' hb hf => ⟨am (show (false : Bool) = rO r from by first | rfl | (rw [HR,HK]; simp [*]; done) | (rw [HR,HK]; simp [*]; omega) | (rw [HR,HK]; grind [ag]) | (simp [rO,a9, *]; done) | (simp [rO,a9, *]; omega) | grind [rO,a9]),hb⟩⟩
 have h2p := of_decide_eq_false h2
 refine cp 6 [1,3,26] [(26,aB (decide (((r.held.length : Nat) : Int) > 3)))] <| kP 26 (decide (((r.held.length : Nat) : Int) > 3)) (fun h3 => ?_) (fun h3 => ?_)
 have h3p := of_decide_eq_true h3
 refine ai [1,3,37] [(37,aB true)] <| kT <| kQ <| ba [2] [(2,aB false)] ?_
 refine kR ?_
 exact ⟨[.bool false],by kernel_rfl,fun w' hb hf => ⟨am (show (false : Bool) = rO r from by first | rfl | (rw [HR,HK]; simp [*]; done) | (rw [HR,HK]; simp [*]; omega) | (rw [HR,HK]; grind [ag]) | (simp [rO,a9, *]; done) | (simp [rO,a9, *]; omega) | grind [rO,a9]),hb⟩⟩
 have h3p := of_decide_eq_false h3
 refine kCD 3 [1,3,26,28,29] [(26,aB false),(28,aI r.fin),(29,aI (wO r))] 77 [iI r.fin,iI (-1),iI (wO r)] (some 30) rfl (cI fun ww hf => within_c r.fin (-1) (wO r) ww ) ?_
 intro _
 refine cp 3 [1,3,33] [(33,aB (!(dT r.fin (-1) (wO r))))] <| kP 33 (!(dT r.fin (-1) (wO r))) (fun h4 => ?_) (fun h4 => ?_)
 have h4n := du h4
 refine ai [1,3,37] [(37,aB true)] <| kT <| kQ <| ba [2] [(2,aB false)] ?_
 refine kR ?_
 exact ⟨[.bool false],by kernel_rfl,fun w' hb hf => ⟨am (show (false : Bool) = rO r from by first | rfl | (rw [HR,HK]; simp [*]; done) | (rw [HR,HK]; simp [*]; omega) | (rw [HR,HK]; grind [ag]) | (simp [rO,a9, *]; done) | (simp [rO,a9, *]; omega) | grind [rO,a9]),hb⟩⟩
 have h4n := d2 h4
 refine ai [1,3,37] [(37,aB (r.fin == 0))] <| kC (r.fin == 0) (fun h5 => ?_) (fun h5 => ?_)
 have h5p := eqT h5
 refine kQ <| ba [2] [(2,aB false)] <| kR ?_
 exact ⟨[.bool false],by kernel_rfl,fun w' hb hf => ⟨am (show (false : Bool) = rO r from by first | rfl | (rw [HR,HK]; simp [*]; done) | (rw [HR,HK]; simp [*]; omega) | (rw [HR,HK]; grind [ag]) | (simp [rO,a9, *]; done) | (simp [rO,a9, *]; omega) | grind [rO,a9]),hb⟩⟩
 have h5p := eqF h5
 refine kK <| kQ <| ai [1,4] [(4,aI (wO r))] <| kS <| kQ <| ba [1,4,41] [(1,.p 0 0),(4,aI (wO r)),(41,aB (r.fin != (-1)))] ?_
 refine kC (r.fin != (-1)) (fun h6 => ?_) (fun h6 => ?_)
 have h6p := neT h6
 refine kG <| ai [1,4] [(4,aI r.fin)] <| kQ <| ai [1,4,5] [(5,aI 0)] ?_
 refine kS <| kQ <| ai [1,4,5,45,46,47] [(45,.v (.slice Arh r.held.length Crh)),(46,aI ((r.held.length : Nat) : Int)),(47,aI 0)] <| au ?_
 have hp : a9 r = true := by first | (simp [a9, *]; done) | (simp [a9, *]; omega) | grind [a9]
 have hin := inB_tt.1 (rcvPre_iff.1 hp).2.2.2.1
 have HR : rO r = (aX (if r.fin = -1 then wO r else r.fin) 0 r.held && ag r) := by unfold rO; rw [hp]; rfl
 refine aN (α := {x : Nat × Int // (fun (k : Nat) (z : Int) => k ≤ r.held.length ∧ 0 ≤ z ∧ z ≤ 32 ∧ aX (if r.fin = -1 then wO r else r.fin) 0 r.held = aX (if r.fin = -1 then wO r else r.fin) z (r.held.drop k)) x.1 x.2}) (fun x => (fun (k : Nat) (z : Int) => (⟨[(1,.p 0 0),(4,aI r.fin),(5,aI z),(45,.v (.slice Arh r.held.length Crh)),(46,aI ((r.held.length : Nat) : Int)),(47,aI (k : Int))],[⟨28,a7 r (.slice Arh r.held.length Crh)⟩],[],[aM (.slice Arh r.held.length Crh) 2 (r.held.map pC)]⟩ : St)) x.1.1 x.1.2) (fun x => r.held.length - x.1.1) ⟨(0,0),⟨Nat.zero_le _,by omega,by omega,rfl⟩⟩ (kF 1 0 [1,4,5,45,46,47]) ?_
 rintro ⟨⟨k,z⟩,hk,hz0,hz1,HK⟩
 try dsimp only
 try dsimp only at hk hz0 hz1 HK
 refine kQ <| ai [1,4,5,45,46,47,48] [(48,aB (decide ((k : Int) < ((r.held.length : Nat) : Int))))] <| kS <| kC (decide ((k : Int) < ((r.held.length : Nat) : Int))) (fun h7 => ?_) (fun h7 => ?_)
 have h7p := of_decide_eq_true h7
 have hlt : k < r.held.length := by simpa using h7
 obtain ⟨x,hx⟩ : ∃ x,r.held[k]? = some x := ⟨_,List.getElem?_eq_getElem hlt⟩
 have hxm := hm x (List.mem_of_getElem? hx)
 rw [bC hx] at HK; simp only [bX,aX] at HK
 refine kK <| kS <| au <| kQ <| cK (kd := .i64) (T := 26) (e := 81) (K := 2) 0 [1,4,5,45,46,47] [] k [iI x.off,.string x.text] (aM (.slice Arh r.held.length Crh) 2 (r.held.map pC)) (by kernel_rfl) rfl (by kernel_rfl) rfl rfl (by kernel_rfl) (by kernel_rfl) (by kernel_rfl) (by kernel_rfl) hlt (by simp) (fun w h => h) (fun b h => h) (by simp only [List.getElem?_map,hx]; rfl) ?_
 refine kEA [1,4,5,7,45,46,47] [(7,.p 1 0)] [⟨81,dt x⟩] <| kS <| kQ <| cp 4 [1,4,5,7,45,46,47,54] [(54,aB (x.text.toList == (⟨#[]⟩ : ByteArray).toList))] ?_
 refine kP 54 (x.text.toList == (⟨#[]⟩ : ByteArray).toList) (fun h8 => ?_) (fun h8 => ?_)
 have h8p := h8; simp only [beq_iff_eq,bne_iff_ne,beq_eq_false_iff_ne,bne_eq_false_iff_eq,ne_eq,bA] at h8p
 refine ai [1,4,7,45,46,47,69] [(69,aB true)] <| kT <| kQ <| ba [2] [(2,aB false)] ?_
 refine kR ?_
 exact ⟨[.bool false],by kernel_rfl,fun w' hb hf => ⟨am (show (false : Bool) = rO r from by first | rfl | (rw [HR,HK]; simp [*]; done) | (rw [HR,HK]; simp [*]; omega) | (rw [HR,HK]; grind [ag]) | (simp [rO,a9, *]; done) | (simp [rO,a9, *]; omega) | grind [rO,a9]),hb⟩⟩
 have h8p := h8; simp only [beq_iff_eq,bne_iff_ne,beq_eq_false_iff_ne,bne_eq_false_iff_eq,ne_eq,bA] at h8p
 refine cp 6 [1,4,7,45,46,47,60] [(60,aB (decide (x.off ≤ z)))] <| kP 60 (decide (x.off ≤ z)) (fun h9 => ?_) (fun h9 => ?_)
 have h9p := of_decide_eq_true h9
 refine ai [1,4,7,45,46,47,69] [(69,aB true)] <| kT <| kQ <| ba [2] [(2,aB false)] ?_
 refine kR ?_
 exact ⟨[.bool false],by kernel_rfl,fun w' hb hf => ⟨am (show (false : Bool) = rO r from by first | rfl | (rw [HR,HK]; simp [*]; done) | (rw [HR,HK]; simp [*]; omega) | (rw [HR,HK]; grind [ag]) | (simp [rO,a9, *]; done) | (simp [rO,a9, *]; omega) | grind [rO,a9]),hb⟩⟩
 have h9p := of_decide_eq_false h9
 refine cp 9 [1,4,7,45,46,47,69] [(69,aB (decide (x.off > (K6.wrap (r.fin - (x.text.size : Int))))))] <| bw [1,4,7,45,46,47,69] [(69,aB (decide (x.off > (K6.wrap (r.fin - (x.text.size : Int))))))] [(69,aB (decide (x.off > (r.fin - (x.text.size : Int)))))] (by rw [show (K6.wrap (r.fin - (x.text.size : Int))) = (r.fin - (x.text.size : Int)) from az (by omega) (by omega)]) (by kernel_rfl) ?_
 refine ba [1,4,7,45,46,47,69] [(1,.p 0 0),(4,aI r.fin),(7,.p 1 0),(45,.v (.slice Arh r.held.length Crh)),(46,aI ((r.held.length : Nat) : Int)),(47,aI (k : Int)),(69,aB (decide (x.off > (r.fin - (x.text.size : Int)))))] <| kC (decide (x.off > (r.fin - (x.text.size : Int)))) (fun h10 => ?_) (fun h10 => ?_)
 have h10p := of_decide_eq_true h10
 refine kQ <| ba [2] [(2,aB false)] <| kR ?_
 exact ⟨[.bool false],by kernel_rfl,fun w' hb hf => ⟨am (show (false : Bool) = rO r from by first | rfl | (rw [HR,HK]; simp [*]; done) | (rw [HR,HK]; simp [*]; omega) | (rw [HR,HK]; grind [ag]) | (simp [rO,a9, *]; done) | (simp [rO,a9, *]; omega) | grind [rO,a9]),hb⟩⟩
 have h10p := of_decide_eq_false h10
 refine kK <| kG <| cp 7 [1,4,5,45,46,47] [(5,aI (K6.wrap (x.off + (x.text.size : Int))))] <| bw [1,4,5,45,46,47] [(5,aI (K6.wrap (x.off + (x.text.size : Int))))] [(5,aI (x.off + (x.text.size : Int)))] (by rw [show (K6.wrap (x.off + (x.text.size : Int))) = (x.off + (x.text.size : Int)) from az (by omega) (by omega)]) (by kernel_rfl) ?_
 refine ai [1,4,5,45,46,47] [] <| kG <| cp 2 [1,4,5,45,46,47] [(47,aI (K6.wrap ((k : Int) + 1)))] <| bw [1,4,5,45,46,47] [(47,aI (K6.wrap ((k : Int) + 1)))] [(47,aI ((k : Int) + 1))] (by rw [show (K6.wrap ((k : Int) + 1)) = ((k : Int) + 1) from az (by omega) (by omega)]) (by kernel_rfl) ?_
 refine ai [1,4,5,45,46,47] [] ?_
 exact ⟨⟨(k + 1,x.off + (x.text.size : Int)),⟨by omega,by omega,by omega,by rw [HK]; first | (simp [*]; done) | (simp [*]; omega) | grind⟩⟩,kF 1 0 [1,4,5,45,46,47],by show r.held.length - (k + 1) < r.held.length - k; omega⟩
 have h7p := of_decide_eq_false h7
 have hge : k = r.held.length := by simp at h7; omega
 subst hge; simp only [List.drop_length,bX,aX] at HK
 refine aQ <| kQ <| cp 4 [1,80] [(80,aB (!r.done))] <| kP 80 (!r.done) (fun h11 => ?_) (fun h11 => ?_)
 have h11n := du h11
 refine ba [2] [(2,aB true)] <| kR ?_
 exact ⟨[.bool true],by kernel_rfl,fun w' hb hf => ⟨am (show (true : Bool) = rO r from by first | rfl | (rw [HR,HK]; simp [*]; done) | (rw [HR,HK]; simp [*]; omega) | (rw [HR,HK]; grind [ag]) | (simp [rO,a9, *]; done) | (simp [rO,a9, *]; omega) | grind [rO,a9]),hb⟩⟩
 have h11n := d2 h11
 refine cp 5 [1,80,85] [(80,aB false),(85,aB (((r.held.length : Nat) : Int) == 0))] <| kP 85 (((r.held.length : Nat) : Int) == 0) (fun h12 => ?_) (fun h12 => ?_)
 have h12p := eqT h12
 refine ba [2] [(2,aB (r.fin == (-1)))] <| kR ?_
 exact ⟨[.bool (r.fin == (-1))],by kernel_rfl,fun w' hb hf => ⟨am (show (r.fin == (-1) : Bool) = rO r from by first | rfl | (rw [HR,HK]; simp [*]; done) | (rw [HR,HK]; simp [*]; omega) | (rw [HR,HK]; grind [ag]) | (simp [rO,a9, *]; done) | (simp [rO,a9, *]; omega) | grind [rO,a9]),hb⟩⟩
 have h12p := eqF h12
 refine ba [2] [(2,aB false)] <| kR ?_
 exact ⟨[.bool false],by kernel_rfl,fun w' hb hf => ⟨am (show (false : Bool) = rO r from by first | rfl | (rw [HR,HK]; simp [*]; done) | (rw [HR,HK]; simp [*]; omega) | (rw [HR,HK]; grind [ag]) | (simp [rO,a9, *]; done) | (simp [rO,a9, *]; omega) | grind [rO,a9]),hb⟩⟩
 have h6p := neF h6
 refine kK <| kQ <| ai [1,4,5] [(5,aI 0)] <| kS <| kQ <| ai [1,4,5,45,46,47] [(45,.v (.slice Arh r.held.length Crh)),(46,aI ((r.held.length : Nat) : Int)),(47,aI 0)] ?_
 refine au ?_
 have hp : a9 r = true := by first | (simp [a9, *]; done) | (simp [a9, *]; omega) | grind [a9]
 have hin := inB_tt.1 (rcvPre_iff.1 hp).2.2.2.1
 have HR : rO r = (aX (if r.fin = -1 then wO r else r.fin) 0 r.held && ag r) := by unfold rO; rw [hp]; rfl
 refine aN (α := {x : Nat × Int // (fun (k : Nat) (z : Int) => k ≤ r.held.length ∧ 0 ≤ z ∧ z ≤ 32 ∧ aX (if r.fin = -1 then wO r else r.fin) 0 r.held = aX (if r.fin = -1 then wO r else r.fin) z (r.held.drop k)) x.1 x.2}) (fun x => (fun (k : Nat) (z : Int) => (⟨[(1,.p 0 0),(4,aI (wO r)),(5,aI z),(45,.v (.slice Arh r.held.length Crh)),(46,aI ((r.held.length : Nat) : Int)),(47,aI (k : Int))],[⟨28,a7 r (.slice Arh r.held.length Crh)⟩],[],[aM (.slice Arh r.held.length Crh) 2 (r.held.map pC)]⟩ : St)) x.1.1 x.1.2) (fun x => r.held.length - x.1.1) ⟨(0,0),⟨Nat.zero_le _,by omega,by omega,rfl⟩⟩ (kF 1 0 [1,4,5,45,46,47]) ?_
 rintro ⟨⟨k,z⟩,hk,hz0,hz1,HK⟩
 try dsimp only
 try dsimp only at hk hz0 hz1 HK
 refine kQ <| ai [1,4,5,45,46,47,48] [(48,aB (decide ((k : Int) < ((r.held.length : Nat) : Int))))] <| kS <| kC (decide ((k : Int) < ((r.held.length : Nat) : Int))) (fun h13 => ?_) (fun h13 => ?_)
 have h13p := of_decide_eq_true h13
 have hlt : k < r.held.length := by simpa using h13
 obtain ⟨x,hx⟩ : ∃ x,r.held[k]? = some x := ⟨_,List.getElem?_eq_getElem hlt⟩
 have hxm := hm x (List.mem_of_getElem? hx)
 rw [bC hx] at HK; simp only [bX,aX] at HK
 refine kK <| kS <| au <| kQ <| cK (kd := .i64) (T := 26) (e := 81) (K := 2) 0 [1,4,5,45,46,47] [] k [iI x.off,.string x.text] (aM (.slice Arh r.held.length Crh) 2 (r.held.map pC)) (by kernel_rfl) rfl (by kernel_rfl) rfl rfl (by kernel_rfl) (by kernel_rfl) (by kernel_rfl) (by kernel_rfl) hlt (by simp) (fun w h => h) (fun b h => h) (by simp only [List.getElem?_map,hx]; rfl) ?_
 refine kEA [1,4,5,7,45,46,47] [(7,.p 1 0)] [⟨81,dt x⟩] <| kS <| kQ <| cp 4 [1,4,5,7,45,46,47,54] [(54,aB (x.text.toList == (⟨#[]⟩ : ByteArray).toList))] ?_
 refine kP 54 (x.text.toList == (⟨#[]⟩ : ByteArray).toList) (fun h14 => ?_) (fun h14 => ?_)
 have h14p := h14; simp only [beq_iff_eq,bne_iff_ne,beq_eq_false_iff_ne,bne_eq_false_iff_eq,ne_eq,bA] at h14p
 refine ai [1,4,7,45,46,47,69] [(69,aB true)] <| kT <| kQ <| ba [2] [(2,aB false)] ?_
 refine kR ?_
 exact ⟨[.bool false],by kernel_rfl,fun w' hb hf => ⟨am (show (false : Bool) = rO r from by first | rfl | (rw [HR,HK]; simp [*]; done) | (rw [HR,HK]; simp [*]; omega) | (rw [HR,HK]; grind [ag]) | (simp [rO,a9, *]; done) | (simp [rO,a9, *]; omega) | grind [rO,a9]),hb⟩⟩
 have h14p := h14; simp only [beq_iff_eq,bne_iff_ne,beq_eq_false_iff_ne,bne_eq_false_iff_eq,ne_eq,bA] at h14p
 refine cp 6 [1,4,7,45,46,47,60] [(60,aB (decide (x.off ≤ z)))] <| kP 60 (decide (x.off ≤ z)) (fun h15 => ?_) (fun h15 => ?_)
 have h15p := of_decide_eq_true h15
 refine ai [1,4,7,45,46,47,69] [(69,aB true)] <| kT <| kQ <| ba [2] [(2,aB false)] ?_
 refine kR ?_
 exact ⟨[.bool false],by kernel_rfl,fun w' hb hf => ⟨am (show (false : Bool) = rO r from by first | rfl | (rw [HR,HK]; simp [*]; done) | (rw [HR,HK]; simp [*]; omega) | (rw [HR,HK]; grind [ag]) | (simp [rO,a9, *]; done) | (simp [rO,a9, *]; omega) | grind [rO,a9]),hb⟩⟩
 have h15p := of_decide_eq_false h15
 refine cp 9 [1,4,7,45,46,47,69] [(69,aB (decide (x.off > (K6.wrap ((wO r) - (x.text.size : Int))))))] <| bw [1,4,7,45,46,47,69] [(69,aB (decide (x.off > (K6.wrap ((wO r) - (x.text.size : Int))))))] [(69,aB (decide (x.off > ((wO r) - (x.text.size : Int)))))] (by rw [show (K6.wrap ((wO r) - (x.text.size : Int))) = ((wO r) - (x.text.size : Int)) from az (by omega) (by omega)]) (by kernel_rfl) ?_
 refine ai [1,4,7,45,46,47,69] [] <| kC (decide (x.off > ((wO r) - (x.text.size : Int)))) (fun h16 => ?_) (fun h16 => ?_)
 have h16p := of_decide_eq_true h16
 refine kQ <| ba [2] [(2,aB false)] <| kR ?_
 exact ⟨[.bool false],by kernel_rfl,fun w' hb hf => ⟨am (show (false : Bool) = rO r from by first | rfl | (rw [HR,HK]; simp [*]; done) | (rw [HR,HK]; simp [*]; omega) | (rw [HR,HK]; grind [ag]) | (simp [rO,a9, *]; done) | (simp [rO,a9, *]; omega) | grind [rO,a9]),hb⟩⟩
 have h16p := of_decide_eq_false h16
 refine kK <| kG <| kRS 7 [1,4,5,45,46,47] [(1,.p 0 0),(4,aI (wO r)),(5,aI (K6.wrap (x.off + (x.text.size : Int)))),(45,.v (.slice Arh r.held.length Crh)),(46,aI ((r.held.length : Nat) : Int)),(47,aI (k : Int))] <| xl_eqS (t' := [(1,.p 0 0),(4,aI (wO r)),(5,aI (x.off + (x.text.size : Int))),(45,.v (.slice Arh r.held.length Crh)),(46,aI ((r.held.length : Nat) : Int)),(47,aI (k : Int))]) (by rw [show (K6.wrap (x.off + (x.text.size : Int))) = (x.off + (x.text.size : Int)) from az (by omega) (by omega)]) ?_
 refine ai [1,4,5,45,46,47] [] <| kG <| cp 2 [1,4,5,45,46,47] [(47,aI (K6.wrap ((k : Int) + 1)))] <| bw [1,4,5,45,46,47] [(47,aI (K6.wrap ((k : Int) + 1)))] [(47,aI ((k : Int) + 1))] (by rw [show (K6.wrap ((k : Int) + 1)) = ((k : Int) + 1) from az (by omega) (by omega)]) (by kernel_rfl) ?_
 refine ai [1,4,5,45,46,47] [] ?_
 exact ⟨⟨(k + 1,x.off + (x.text.size : Int)),⟨by omega,by omega,by omega,by rw [HK]; first | (simp [*]; done) | (simp [*]; omega) | grind⟩⟩,kF 1 0 [1,4,5,45,46,47],by show r.held.length - (k + 1) < r.held.length - k; omega⟩
 have h13p := of_decide_eq_false h13
 have hge : k = r.held.length := by simp at h13; omega
 subst hge; simp only [List.drop_length,bX,aX] at HK
 refine aQ <| kQ <| cp 4 [1,80] [(80,aB (!r.done))] <| kP 80 (!r.done) (fun h17 => ?_) (fun h17 => ?_)
 have h17n := du h17
 refine ba [2] [(2,aB true)] <| kR ?_
 exact ⟨[.bool true],by kernel_rfl,fun w' hb hf => ⟨am (show (true : Bool) = rO r from by first | rfl | (rw [HR,HK]; simp [*]; done) | (rw [HR,HK]; simp [*]; omega) | (rw [HR,HK]; grind [ag]) | (simp [rO,a9, *]; done) | (simp [rO,a9, *]; omega) | grind [rO,a9]),hb⟩⟩
 have h17n := d2 h17
 refine cp 5 [1,80,85] [(80,aB false),(85,aB (((r.held.length : Nat) : Int) == 0))] <| kP 85 (((r.held.length : Nat) : Int) == 0) (fun h18 => ?_) (fun h18 => ?_)
 have h18p := eqT h18
 refine ba [2] [(2,aB (r.fin == (-1)))] <| kR ?_
 exact ⟨[.bool (r.fin == (-1))],by kernel_rfl,fun w' hb hf => ⟨am (show (r.fin == (-1) : Bool) = rO r from by first | rfl | (rw [HR,HK]; simp [*]; done) | (rw [HR,HK]; simp [*]; omega) | (rw [HR,HK]; grind [ag]) | (simp [rO,a9, *]; done) | (simp [rO,a9, *]; omega) | grind [rO,a9]),hb⟩⟩
 have h18p := eqF h18
 refine ba [2] [(2,aB false)] <| kR ?_
 exact ⟨[.bool false],by kernel_rfl,fun w' hb hf => ⟨am (show (false : Bool) = rO r from by first | rfl | (rw [HR,HK]; simp [*]; done) | (rw [HR,HK]; simp [*]; omega) | (rw [HR,HK]; grind [ag]) | (simp [rO,a9, *]; done) | (simp [rO,a9, *]; omega) | grind [rO,a9]),hb⟩⟩
theorem ey (a : Rcv) (a_heldV : Value) (b : Rcv) (b_heldV : Value) (w : World) (hl_a_heldV : Sl w a_heldV 2 (a.held.map pC)) (hl_b_heldV : Sl w b_heldV 2 (b.held.map pC))  : Calls Try.prog 27 #[.agg (a7 a a_heldV).toArray, .agg (a7 b b_heldV).toArray] w fun e w' => e = .returned (.bool (aU a b)) ∧ Below w.heap.size w w' := by
 obtain ⟨Aah,Cah,hvah⟩ := hl_a_heldV.form
 rw [List.length_map] at hvah; subst hvah
 have hnah := hl_a_heldV.len; rw [List.length_map] at hnah
 have hqah := Sl.capLe hl_a_heldV
 obtain ⟨Abh,Cbh,hvbh⟩ := hl_b_heldV.form
 rw [List.length_map] at hvbh; subst hvbh
 have hnbh := hl_b_heldV.len; rw [List.length_map] at hnbh
 have hqbh := Sl.capLe hl_b_heldV
 refine dz (args := [.agg (a7 a (.slice Aah a.held.length Cah)).toArray,.agg (a7 b (.slice Abh b.held.length Cbh)).toArray]) (fn := Try.f27) [aM (.slice Aah a.held.length Cah) 2 (a.held.map pC),aM (.slice Abh b.held.length Cbh) 2 (b.held.map pC)] Try.func27 rfl Try.ntmps27 rfl (by simp only [List.mem_cons,List.not_mem_nil,or_false,forall_eq_or_imp,forall_eq]; exact ⟨⟨rfl,hl_a_heldV⟩,⟨rfl,hl_b_heldV⟩⟩) ?_
 refine kQ <| dn [2,3] ⟨[(2,.p 0 0),(3,.p 1 0)],[⟨28,a7 a (.slice Aah a.held.length Cah)⟩,⟨28,a7 b (.slice Abh b.held.length Cbh)⟩],[],[aM (.slice Aah a.held.length Cah) 2 (a.held.map pC),aM (.slice Abh b.held.length Cbh) 2 (b.held.map pC)]⟩ <| kS <| kS <| xw_join ⟨[(2,.p 0 0),(3,.p 1 0),(40,aB ((a.next != b.next) || ((!(a.data.toList == b.data.toList)) || ((a.fin != b.fin) || ((!(a.done == b.done)) || (((a.held.length : Nat) : Int) != ((b.held.length : Nat) : Int)))))))],[⟨28,a7 a (.slice Aah a.held.length Cah)⟩,⟨28,a7 b (.slice Abh b.held.length Cbh)⟩],[],[aM (.slice Aah a.held.length Cah) 2 (a.held.map pC),aM (.slice Abh b.held.length Cbh) 2 (b.held.map pC)]⟩ ?_ ?_
 refine kG <| kRS 6 [2,3,11] [(2,.p 0 0),(3,.p 1 0),(11,aB (a.next != b.next))] <| kP 11 (a.next != b.next) (fun h1 => ?_) (fun h1 => ?_)
 have h1p := neT h1
 refine ba [2,3,40] [(2,.p 0 0),(3,.p 1 0),(40,aB true)] ?_
 show Wk _ _
 try rw [h1]
 exact kF 2 0 [2,3,40]
 have h1p := neF h1
 refine kRS 7 [2,3,18] [(2,.p 0 0),(3,.p 1 0),(18,aB (!(a.data.toList == b.data.toList)))] <| kP 18 (!(a.data.toList == b.data.toList)) (fun h2 => ?_) (fun h2 => ?_)
 have h2n := du h2
 have h2np := h2n; simp only [beq_iff_eq,bne_iff_ne,beq_eq_false_iff_ne,bne_eq_false_iff_eq,ne_eq,bA] at h2np
 refine ba [2,3,40] [(2,.p 0 0),(3,.p 1 0),(40,aB true)] ?_
 show Wk _ _
 try rw [h1]
 try rw [h2]
 exact kF 2 0 [2,3,40]
 have h2n := d2 h2
 have h2np := h2n; simp only [beq_iff_eq,bne_iff_ne,beq_eq_false_iff_ne,bne_eq_false_iff_eq,ne_eq,bA] at h2np
 refine kRS 7 [2,3,25] [(2,.p 0 0),(3,.p 1 0),(25,aB (a.fin != b.fin))] <| kP 25 (a.fin != b.fin) (fun h3 => ?_) (fun h3 => ?_)
 have h3p := neT h3
 refine ba [2,3,40] [(2,.p 0 0),(3,.p 1 0),(40,aB true)] ?_
 show Wk _ _
 try rw [h1]
 try rw [h2]
 try rw [h3]
 exact kF 2 0 [2,3,40]
 have h3p := neF h3
 refine kRS 7 [2,3,32] [(2,.p 0 0),(3,.p 1 0),(32,aB (!(a.done == b.done)))] <| kP 32 (!(a.done == b.done)) (fun h4 => ?_) (fun h4 => ?_)
 have h4n := du h4
 have h4np := eqF h4n
 refine ba [2,3,40] [(2,.p 0 0),(3,.p 1 0),(40,aB true)] ?_
 show Wk _ _
 try rw [h1]
 try rw [h2]
 try rw [h3]
 try rw [h4]
 exact kF 2 0 [2,3,40]
 have h4n := d2 h4
 have h4np := eqT h4n
 refine ba [2,3,40] [(2,.p 0 0),(3,.p 1 0),(40,aB (((a.held.length : Nat) : Int) != ((b.held.length : Nat) : Int)))] ?_
 show Wk _ _
 try rw [h1]
 try rw [h2]
 try rw [h3]
 try rw [h4]
 exact kF 2 0 [2,3,40]
 refine kC ((a.next != b.next) || ((!(a.data.toList == b.data.toList)) || ((a.fin != b.fin) || ((!(a.done == b.done)) || (((a.held.length : Nat) : Int) != ((b.held.length : Nat) : Int)))))) (fun h5 => ?_) (fun h5 => ?_)
 refine kQ <| ba [4] [(4,aB false)] <| kR ?_
 exact ⟨[.bool false],by kernel_rfl,fun w' hb hf => ⟨am (show (false : Bool) = aU a b from by first | rfl | (simp [aU, *]; done) | grind [aU,sameL_len]),hb⟩⟩
 have h5l := or_l h5
 have h5lp := neF h5l
 have h5r := or_r h5
 have h5rl := or_l h5r
 have h5rln := d2 h5rl
 have h5rlnp := h5rln; simp only [beq_iff_eq,bne_iff_ne,beq_eq_false_iff_ne,bne_eq_false_iff_eq,ne_eq,bA] at h5rlnp
 have h5rr := or_r h5r
 have h5rrl := or_l h5rr
 have h5rrlp := neF h5rrl
 have h5rrr := or_r h5rr
 have h5rrrl := or_l h5rrr
 have h5rrrln := d2 h5rrrl
 have h5rrrlnp := eqT h5rrrln
 have h5rrrr := or_r h5rrr
 have h5rrrrp := neF h5rrrr
 refine kK <| kS <| kQ <| ba [2,3,5] [(2,.p 0 0),(3,.p 1 0),(5,aI 0)] ?_
 refine au ?_
 have hlen : a.held.length = b.held.length := by omega
 refine aN (α := {x : Nat // (fun (k : Nat) => k ≤ a.held.length ∧ ∀ (i : Nat) (x y : Pce),i < k → a.held[i]? = some x → b.held[i]? = some y → pceEq x y = true) x}) (fun x => (fun (k : Nat) => (⟨[(2,.p 0 0),(3,.p 1 0),(5,aI (k : Int))],[⟨28,a7 a (.slice Aah a.held.length Cah)⟩,⟨28,a7 b (.slice Abh b.held.length Cbh)⟩],[],[aM (.slice Aah a.held.length Cah) 2 (a.held.map pC),aM (.slice Abh b.held.length Cbh) 2 (b.held.map pC)]⟩ : St)) x.1) (fun x => a.held.length - x.1) ⟨(0),⟨Nat.zero_le _,fun i x y hi => by omega⟩⟩ (kF 2 0 [2,3,5]) ?_
 rintro ⟨k,hk,HK⟩
 try dsimp only
 try dsimp only at hk HK
 refine kS <| kQ <| ba [2,3,5,45] [(2,.p 0 0),(3,.p 1 0),(5,aI (k : Int)),(45,aB (decide ((k : Int) < ((a.held.length : Nat) : Int))))] <| kC (decide ((k : Int) < ((a.held.length : Nat) : Int))) (fun h6 => ?_) (fun h6 => ?_)
 have h6p := of_decide_eq_true h6
 have hlt : k < a.held.length := by simpa using h6
 obtain ⟨x,hx⟩ : ∃ x,a.held[k]? = some x := ⟨_,List.getElem?_eq_getElem hlt⟩
 obtain ⟨y,hy⟩ : ∃ y,b.held[k]? = some y := ⟨_,List.getElem?_eq_getElem (by omega)⟩
 refine kK <| kS <| au <| kS <| dO ?_
 refine xws_row (K := 2) (j := k) [iI x.off,.string x.text] (aM (.slice Aah a.held.length Cah) 2 (a.held.map pC)) (fun _ _ h => h) (by simp) (fun w h => h) (fun b h => h) (by simp only [List.getElem?_map,hx]; rfl) (fun bq7 offq7 hAq7 => ?_)
 refine xws_row (K := 2) (j := k) [iI y.off,.string y.text] (aM (.slice Abh b.held.length Cbh) 2 (b.held.map pC)) (fun _ _ h => h) (by simp) (fun w h => h) (fun b h => h) (by simp only [List.getElem?_map,hy]; rfl) (fun bq8 offq8 hAq8 => ?_)
 refine cB [] (by kernel_rfl) (fun ρ σ hq9 => ?_)
 refine d4 [0,1,2,5,6,7] [55,54,50,49,2,3,5] 5 [(55,aI (k : Int)),(54,.v (.slice Abh b.held.length Cbh)),(50,aI (k : Int)),(49,.v (.slice Aah a.held.length Cah)),(2,.p 0 0),(3,.p 1 0),(5,aI (k : Int))] <| xe_takeI (kd := .i64) (T := 26) (e := 81) (K := 2) (j := k) (A := Aah) (len := a.held.length) (cap := Cah) 3 0 _ rfl (by kernel_rfl) (by kernel_rfl) (by kernel_rfl) (fun _ _ h => h) (by kernel_rfl) rfl rfl (by kernel_rfl) (by kernel_rfl) (by kernel_rfl) (by kernel_rfl) hlt hAq7 hq9.1.2 (by kernel_rfl) rfl ?_
 refine d4 [4] [52,55,54,2,3,5] 3 [(52,.v (.agg (dt x).toArray)),(55,aI (k : Int)),(54,.v (.slice Abh b.held.length Cbh)),(2,.p 0 0),(3,.p 1 0),(5,aI (k : Int))] <| xe_takeI (kd := .i64) (T := 26) (e := 81) (K := 2) (j := k) (A := Abh) (len := b.held.length) (cap := Cbh) 8 1 _ rfl (by kernel_rfl) (by kernel_rfl) (by kernel_rfl) (fun _ _ h => h) (by kernel_rfl) rfl rfl (by kernel_rfl) (by kernel_rfl) (by kernel_rfl) (by kernel_rfl) (by omega) hAq8 hq9.2 (by kernel_rfl) rfl ?_
 refine d4 [9] [57,52,2,3,5] 1 [(57,.v (.agg (dt y).toArray)),(52,.v (.agg (dt x).toArray)),(2,.p 0 0),(3,.p 1 0),(5,aI (k : Int))] <| kX 10 (.bool (!pceEq x y)) rfl (fun _ _ ww hA => bp hA rfl (by kernel_rfl) (by kernel_rfl) (agg_bin (by kernel_rfl) (run_neq_PCE x.off x.text y.off y.text ww))) ?_
 refine kZ <| kC (!pceEq x y) (fun h10 => ?_) (fun h10 => ?_)
 have hno := sameL_no hx hy (by simpa using h10)
 refine kQ <| ba [4] [(4,aB false)] <| kR ?_
 exact ⟨[.bool false],by kernel_rfl,fun w' hb hf => ⟨am (show (false : Bool) = aU a b from by first | rfl | (simp [aU, *]; done) | grind [aU,sameL_len]),hb⟩⟩
 have hye : pceEq x y = true := by simpa using h10
 refine kK <| kG <| kRS 3 [2,3,5] [(2,.p 0 0),(3,.p 1 0),(5,aI (K6.wrap ((k : Int) + 1)))] <| xl_eqS (t' := [(2,.p 0 0),(3,.p 1 0),(5,aI ((k : Int) + 1))]) (by rw [show (K6.wrap ((k : Int) + 1)) = ((k : Int) + 1) from az (by omega) (by omega)]) ?_
 refine ba [2,3,5] [(2,.p 0 0),(3,.p 1 0),(5,aI ((k : Int) + 1))] ?_
 exact ⟨⟨(k + 1),⟨by omega,same_step hx hy hye HK⟩⟩,kF 2 0 [2,3,5],by show a.held.length - (k + 1) < a.held.length - k; omega⟩
 have h6p := of_decide_eq_false h6
 have hge : k = a.held.length := by simp at h6; omega
 have hall := sameL_nil_of hge hlen HK
 refine aQ <| kQ <| ba [4] [(4,aB true)] <| kR ?_
 exact ⟨[.bool true],by kernel_rfl,fun w' hb hf => ⟨am (show (true : Bool) = aU a b from by first | rfl | (simp [aU, *]; done) | grind [aU,sameL_len]),hb⟩⟩
@[simp] theorem inB18_1 : dT 1 1 8 = true := rfl
@[simp] theorem inB18_2 : dT 2 1 8 = true := rfl
@[simp] theorem inB18_3 : dT 3 1 8 = true := rfl
@[simp] theorem inB18_4 : dT 4 1 8 = true := rfl
@[simp] theorem inB18_5 : dT 5 1 8 = true := rfl
@[simp] theorem inB18_6 : dT 6 1 8 = true := rfl
@[simp] theorem inB18_7 : dT 7 1 8 = true := rfl
@[simp] theorem inB18_8 : dT 8 1 8 = true := rfl
theorem yClonePiece_c (a : List Pce) (aV : Value) (w : World) (hl_aV : Sl w aV 2 (a.map pC)) (hkn : a.length ≤ 1048576) (B : Nat) (hB : B ≤ w.heap.size) : Calls Try.prog 81 #[aV] w fun e w' => XRs w w' e (α := Option Addr × Nat) (fun y => .slice y.1 a.length y.2) (fun y => [br B (.slice y.1 a.length y.2) 2 (a.map pC)]) := by
 obtain ⟨Aa,Ca,hva⟩ := hl_aV.form
 rw [List.length_map] at hva; subst hva
 have hna := hl_aV.len; rw [List.length_map] at hna
 have hqa := Sl.capLe hl_aV
 have hnil := fun h => Sl.nil_of h hl_aV
 refine cj (args := [.slice Aa a.length Ca]) (fn := Try.f81) [aM (.slice Aa a.length Ca) 2 (a.map pC)] Try.func81 rfl Try.ntmps81 rfl (by simp only [List.mem_cons,List.not_mem_nil,or_false,forall_eq_or_imp,forall_eq]; exact ⟨rfl,hl_aV⟩) ?_
 refine kQ <| dn [0] ⟨[(0,.v (.slice Aa a.length Ca))],[],[],[aM (.slice Aa a.length Ca) 2 (a.map pC)]⟩ <| kS <| kQ <| kOS 1 [0,3] [(0,.v (.slice Aa a.length Ca)),(3,.v (.slice Aa a.length Ca))] (.bool Aa.isNone) rfl (fun _ _ _ ww hr => act_nilEq (e := 81) hr.1 rfl (by kernel_rfl) rfl rfl ww) ?_
 refine ba [0,4] [(0,.v (.slice Aa a.length Ca)),(4,aB Aa.isNone)] <| kC (Aa.isNone) (fun h1 => ?_) (fun h1 => ?_)
 refine kQ <| ba [2] [(2,.v (.slice none 0 0))] <| kR ?_
 have hmod : a = [] := by exact hnil (by assumption)
 exact ⟨[.slice none 0 0],by kernel_rfl,fun w' hb hf ha => by rw [hmod]; exact xo1 ((none,0)) rfl rfl ⟨.inl ⟨rfl,_,rfl⟩,fun b hb => (hb.1 rfl).elim⟩ hb⟩
 refine kK <| kQ <| kHS 0 [0] [(0,.v (.slice Aa a.length Ca))] rfl (bj (e := 81) (K := 2) (bytes := 24) [] (rs := ([] : List Pce).map pC) rfl rfl) ?_
 intro g2
 refine kHS 1 [5,6] [(5,.v (.slice (some ⟨g2,0,none⟩) 0 0)),(6,.v (.slice Aa a.length Ca))] rfl (bT (e := 81) (K := 2) (bytes := 24) (i := 0) (q := a.length) (new := a.map pC) (rs' := a.map pC) rfl rfl rfl rfl (by kernel_rfl) (by kernel_rfl) (by kernel_rfl) rfl (by simp) rfl (by simp) (fun ww hf => (hf (aM (.slice Aa a.length Ca) 2 (a.map pC)) (by simp))) (by intro r hr; obtain ⟨x,hx,rfl⟩ := List.mem_map.1 hr; exact ⟨rfl,by simp [pC,Value.oneCell']⟩) (by (try simp only [List.length_map,List.length_append,List.length_cons,List.length_nil,List.length_take,List.length_drop,maxLen]); omega) (by (try simp only [List.length_map,List.length_append,List.length_cons,List.length_nil,List.length_take,List.length_drop,maxLen]); omega)) ?_
 rintro ⟨v3a,v3c⟩
 refine ba [2] [(2,.v (.slice v3a a.length v3c))] <| kR ?_
 exact ⟨[.slice v3a a.length v3c],by kernel_rfl,fun w' hb hf ha => by exact xo1 ((v3a,v3c)) rfl rfl (pR (hf _ m0) hB) hb⟩
theorem er (r : Rcv) (r_heldV : Value) (w : World) (hl_r_heldV : Sl w r_heldV 2 (r.held.map pC)) (hkn : r.held.length ≤ 1048576) (B : Nat) (hB : B ≤ w.heap.size) : Calls Try.prog 32 #[.agg (a7 r r_heldV).toArray] w fun e w' => XRs w w' e (α := Option Addr × Nat) (fun y => .agg (a7 r (.slice y.1 r.held.length y.2)).toArray) (fun y => [a8 B 81 2 (.slice y.1 r.held.length y.2) (r.held.map pC)]) := by
 obtain ⟨Arh,Crh,hvrh⟩ := hl_r_heldV.form
 rw [List.length_map] at hvrh; subst hvrh
 have hnrh := hl_r_heldV.len; rw [List.length_map] at hnrh
 have hqrh := Sl.capLe hl_r_heldV
 refine cj (args := [.agg (a7 r (.slice Arh r.held.length Crh)).toArray]) (fn := Try.f32) [aM (.slice Arh r.held.length Crh) 2 (r.held.map pC)] Try.func32 rfl Try.ntmps32 rfl (by simp only [List.mem_cons,List.not_mem_nil,or_false,forall_eq_or_imp,forall_eq]; exact ⟨rfl,hl_r_heldV⟩) ?_
 refine kQ <| dn [1,2] ⟨[(1,.p 0 0),(2,.p 1 0)],[⟨28,a7 r (.slice Arh r.held.length Crh)⟩,⟨28,aC⟩],[],[aM (.slice Arh r.held.length Crh) 2 (r.held.map pC)]⟩ <| kQ <| kHS 0 [1,2] [(1,.p 0 0),(2,.p 1 0)] rfl (bj (e := 81) (K := 2) (bytes := 24) [] (rs := ([] : List Pce).map pC) rfl rfl) ?_
 intro g1
 refine kHS 2 [1,2,3,5] [(1,.p 0 0),(2,.p 1 0),(3,.v (.slice (some ⟨g1,0,none⟩) 0 0)),(5,.v (.slice Arh r.held.length Crh))] rfl (bT (e := 81) (K := 2) (bytes := 24) (i := 0) (q := r.held.length) (new := r.held.map pC) (rs' := r.held.map pC) rfl rfl rfl rfl (by kernel_rfl) (by kernel_rfl) (by kernel_rfl) rfl (by simp) rfl (by simp) (fun ww hf => (hf (aM (.slice Arh r.held.length Crh) 2 (r.held.map pC)) (by simp))) (by intro r hr; obtain ⟨x,hx,rfl⟩ := List.mem_map.1 hr; exact ⟨rfl,by simp [pC,Value.oneCell']⟩) (by (try simp only [List.length_map,List.length_append,List.length_cons,List.length_nil,List.length_take,List.length_drop,maxLen]); omega) (by (try simp only [List.length_map,List.length_append,List.length_cons,List.length_nil,List.length_take,List.length_drop,maxLen]); omega)) ?_
 rintro ⟨v2a,v2c⟩
 refine dn [1,2] ⟨[(1,.p 0 0),(2,.p 1 0)],[⟨28,a7 r (.slice v2a r.held.length v2c)⟩,⟨28,aC⟩],[],[a8 w.heap.size 81 2 (.slice v2a r.held.length v2c) (r.held.map pC),aM (.slice Arh r.held.length Crh) 2 (r.held.map pC)]⟩ <| kQ <| dn [2] ⟨[(2,.p 1 0)],[⟨28,a7 r (.slice v2a r.held.length v2c)⟩,⟨28,a7 r (.slice v2a r.held.length v2c)⟩],[],[a8 w.heap.size 81 2 (.slice v2a r.held.length v2c) (r.held.map pC),aM (.slice Arh r.held.length Crh) 2 (r.held.map pC)]⟩ <| kR ?_
 exact ⟨[.agg (a7 r (.slice v2a r.held.length v2c)).toArray],by kernel_rfl,fun w' hb hf ha => by exact xo1 ((v2a,v2c)) rfl rfl (pW (hf _ m0) hB) hb⟩
theorem ew (r : Rcv) (r_heldV : Value) (w : World) (hl_r_heldV : Sl w r_heldV 2 (r.held.map pC)) (hkn : r.held.length ≤ 1048576) (B : Nat) (hB : B ≤ w.heap.size) : Calls Try.prog 40 #[.agg (a7 r r_heldV).toArray] w fun e w' => XRs w w' e (α := Option Addr × Nat) (fun y => .agg (a7 r (.slice y.1 r.held.length y.2)).toArray) (fun y => [br B (.slice y.1 r.held.length y.2) 2 (r.held.map pC)]) := by
 obtain ⟨Arh,Crh,hvrh⟩ := hl_r_heldV.form
 rw [List.length_map] at hvrh; subst hvrh
 have hnrh := hl_r_heldV.len; rw [List.length_map] at hnrh
 have hqrh := Sl.capLe hl_r_heldV
 refine cj (args := [.agg (a7 r (.slice Arh r.held.length Crh)).toArray]) (fn := Try.f40) [aM (.slice Arh r.held.length Crh) 2 (r.held.map pC)] Try.func40 rfl Try.ntmps40 rfl (by simp only [List.mem_cons,List.not_mem_nil,or_false,forall_eq_or_imp,forall_eq]; exact ⟨rfl,hl_r_heldV⟩) ?_
 refine kQ <| dn [1,2] ⟨[(1,.p 0 0),(2,.p 1 0)],[⟨28,a7 r (.slice Arh r.held.length Crh)⟩,⟨28,aC⟩],[],[aM (.slice Arh r.held.length Crh) 2 (r.held.map pC)]⟩ <| kQ <| kCS 2 [1,2,4] [(1,.p 0 0),(2,.p 1 0),(4,.v (.slice Arh r.held.length Crh))] 81 [.slice Arh r.held.length Crh] (some 5) rfl (dY fun ww hw hf => yClonePiece_c r.held (.slice Arh r.held.length Crh) ww (hf _ m0) (by assumption) w.heap.size hw) ?_
 rintro ⟨v1a,v1c⟩
 refine dn [1,2] ⟨[(1,.p 0 0),(2,.p 1 0)],[⟨28,a7 r (.slice v1a r.held.length v1c)⟩,⟨28,aC⟩],[],[br w.heap.size (.slice v1a r.held.length v1c) 2 (r.held.map pC),aM (.slice Arh r.held.length Crh) 2 (r.held.map pC)]⟩ <| kQ <| dn [2] ⟨[(2,.p 1 0)],[⟨28,a7 r (.slice v1a r.held.length v1c)⟩,⟨28,a7 r (.slice v1a r.held.length v1c)⟩],[],[br w.heap.size (.slice v1a r.held.length v1c) 2 (r.held.map pC),aM (.slice Arh r.held.length Crh) 2 (r.held.map pC)]⟩ <| kR ?_
 exact ⟨[.agg (a7 r (.slice v1a r.held.length v1c)).toArray],by kernel_rfl,fun w' hb hf ha => by exact xo1 ((v1a,v1c)) rfl rfl (pO (hf _ m0) hB) hb⟩
theorem yl18Free_c (l : List Int) (lV : Value) (m : Nat) (w : World) (hl_lV : Sl w lV 1 (l.map aw)) (hm : m ≤ l.length) : Calls Try.prog 37 #[lV, iI (m : Int)] w fun e w' => e = .returned (.bool (bm l m)) ∧ Below w.heap.size w w' := by
 obtain ⟨Al,Cl,hvl⟩ := hl_lV.form
 rw [List.length_map] at hvl; subst hvl
 have hnl := hl_lV.len; rw [List.length_map] at hnl
 have hql := Sl.capLe hl_lV
 refine dz (args := [.slice Al l.length Cl,iI (m : Int)]) (fn := Try.f37) [aM (.slice Al l.length Cl) 1 (l.map aw)] Try.func37 rfl Try.ntmps37 rfl (by simp only [List.mem_cons,List.not_mem_nil,or_false,forall_eq_or_imp,forall_eq]; exact ⟨rfl,hl_lV⟩) ?_
 refine kQ <| dn [0,1] ⟨[(0,.v (.slice Al l.length Cl)),(1,aI (m : Int))],[],[],[aM (.slice Al l.length Cl) 1 (l.map aw)]⟩ <| kS <| kQ <| ba [0,5] [(0,.v (.slice Al l.length Cl)),(5,aI (m : Int))] ?_
 refine au <| aN (α := {x : Nat // (fun (k : Nat) => k ≤ l.length ∧ bm l m = bm l k) x}) (fun x => (fun (k : Nat) => (⟨[(0,.v (.slice Al l.length Cl)),(5,aI (k : Int))],[],[],[aM (.slice Al l.length Cl) 1 (l.map aw)]⟩ : St)) x.1) (fun x => l.length - x.1) ⟨(m),⟨hm,rfl⟩⟩ (kF 0 0 [0,5]) ?_
 rintro ⟨k,hk,HK⟩
 try dsimp only
 try dsimp only at hk HK
 refine kS <| kQ <| ba [0,5,10] [(0,.v (.slice Al l.length Cl)),(5,aI (k : Int)),(10,aB (decide ((k : Int) < ((l.length : Nat) : Int))))] <| kC (decide ((k : Int) < ((l.length : Nat) : Int))) (fun h1 => ?_) (fun h1 => ?_)
 have h1p := of_decide_eq_true h1
 have hlt : k < l.length := by simpa using h1
 obtain ⟨x,hx⟩ : ∃ x,l[k]? = some x := ⟨_,List.getElem?_eq_getElem hlt⟩
 have hfs := freeFrom_step hx
 refine kK <| kS <| au <| kQ <| xl_indexS (kd := .i64) (T := 72) (e := 3) (K := 1) 2 [0,5,13,14] [(0,.v (.slice Al l.length Cl)),(5,aI (k : Int)),(13,.v (.slice Al l.length Cl)),(14,aI (k : Int))] k [iI x] (aM (.slice Al l.length Cl) 1 (l.map aw)) (by kernel_rfl) rfl (by kernel_rfl) rfl rfl (by kernel_rfl) (by kernel_rfl) (by kernel_rfl) (by kernel_rfl) hlt (by simp) (fun w h => h) (fun b h => h) (by simp only [List.getElem?_map,hx]; rfl) ?_
 refine ba [0,5,17] [(0,.v (.slice Al l.length Cl)),(5,aI (k : Int)),(17,aB (decide (x ≥ 0)))] <| kC (decide (x ≥ 0)) (fun h2 => ?_) (fun h2 => ?_)
 have h2p := of_decide_eq_true h2
 refine kQ <| ba [4] [(4,aB false)] <| kR ?_
 have hmod : bm l m = false := by first | (rw [HK]; exact hfe) | (rw [HK,hfs]; simp; omega) | (rw [HK,hfs]; simp [*])
 exact ⟨[.bool false],by kernel_rfl,fun w' hb hf => by rw [hmod]; exact ⟨rfl,hb⟩⟩
 have h2p := of_decide_eq_false h2
 refine kK <| kG <| kRS 3 [0,5] [(0,.v (.slice Al l.length Cl)),(5,aI (K6.wrap ((k : Int) + 1)))] <| xl_eqS (t' := [(0,.v (.slice Al l.length Cl)),(5,aI ((k : Int) + 1))]) (by rw [show (K6.wrap ((k : Int) + 1)) = ((k : Int) + 1) from az (by omega) (by omega)]) ?_
 refine ba [0,5] [(0,.v (.slice Al l.length Cl)),(5,aI ((k : Int) + 1))] ?_
 exact ⟨⟨(k + 1),⟨by omega,by rw [HK,hfs]; simp; omega⟩⟩,kF 0 0 [0,5],by show l.length - (k + 1) < l.length - k; omega⟩
 have h1p := of_decide_eq_false h1
 have hge : k = l.length := by simp at h1; omega
 have hfe := freeFrom_end l
 subst hge
 refine aQ <| kQ <| ba [4] [(4,aB true)] <| kR ?_
 have hmod : bm l m = true := by first | (rw [HK]; exact hfe) | (rw [HK,hfs]; simp; omega) | (rw [HK,hfs]; simp [*])
 exact ⟨[.bool true],by kernel_rfl,fun w' hb hf => by rw [hmod]; exact ⟨rfl,hb⟩⟩
theorem yl18Slots_c (r : Rcv) (r_heldV : Value) (w : World) (hl_r_heldV : Sl w r_heldV 2 (r.held.map pC)) (hkn : r.held.length ≤ 1048576) (hheld : ∀ p ∈ r.held, 0 < p.off ∧ p.off + (p.text.size : Int) ≤ 32) (B : Nat) (hB : B ≤ w.heap.size) : Calls Try.prog 35 #[.agg (a7 r r_heldV).toArray] w fun e w' => XRs w w' e (α := Option Addr × Nat) (fun y => .slice y.1 ((ax r).length) y.2) (fun y => [a8 B 3 1 (.slice y.1 ((ax r).length) y.2) ((ax r).map aw)]) := by
 obtain ⟨Arh,Crh,hvrh⟩ := hl_r_heldV.form
 rw [List.length_map] at hvrh; subst hvrh
 have hnrh := hl_r_heldV.len; rw [List.length_map] at hnrh
 have hqrh := Sl.capLe hl_r_heldV
 refine cj (args := [.agg (a7 r (.slice Arh r.held.length Crh)).toArray]) (fn := Try.f35) [aM (.slice Arh r.held.length Crh) 2 (r.held.map pC)] Try.func35 rfl Try.ntmps35 rfl (by simp only [List.mem_cons,List.not_mem_nil,or_false,forall_eq_or_imp,forall_eq]; exact ⟨rfl,hl_r_heldV⟩) ?_
 refine kQ <| dn [1] ⟨[(1,.p 0 0)],[⟨28,a7 r (.slice Arh r.held.length Crh)⟩],[],[aM (.slice Arh r.held.length Crh) 2 (r.held.map pC)]⟩ <| kQ <| kHS 0 [1] [(1,.p 0 0)] rfl (hv_make (kl := .i64) (kc := .i64) (e := 3) (K := 1) (bytes := 8) (m := 33) (z := iI 0) (rs := (List.replicate 33 0).map aw) rfl (by kernel_rfl) (by kernel_rfl) (by kernel_rfl) (by kernel_rfl) (by (try simp only [List.length_map,List.length_append,List.length_cons,List.length_nil,List.length_take,List.length_drop,maxLen]); omega) (by (try simp only [List.length_map,List.length_append,List.length_cons,List.length_nil,List.length_take,List.length_drop,maxLen]); omega) (by rw [List.map_replicate]; rfl)) ?_
 intro g1
 refine ai [1,3] [(3,.v (.slice (some ⟨g1,0,none⟩) 33 33))] <| kS <| kQ <| ai [1,3,4] [(4,aI 0)] ?_
 refine au <| aN (α := {x : Nat × List Int // (fun (k : Nat) (l : List Int) => k ≤ 33 ∧ l.length = 33 ∧ l.take k = List.replicate k (-1)) x.1 x.2}) (fun x => (fun (k : Nat) (l : List Int) => (⟨[(1,.p 0 0),(3,.v (.slice (some ⟨g1,0,none⟩) 33 33)),(4,aI (k : Int))],[⟨28,a7 r (.slice Arh r.held.length Crh)⟩],[],[a8 w.heap.size 3 1 (.slice (some ⟨g1,0,none⟩) 33 33) (l.map aw),aM (.slice Arh r.held.length Crh) 2 (r.held.map pC)]⟩ : St)) x.1.1 x.1.2) (fun x => (fun (k : Nat) (l : List Int) => 33 - k) x.1.1 x.1.2) ⟨(0,(List.replicate 33 0)),⟨Nat.zero_le _,by simp,rfl⟩⟩ (dG [0,1] <| kF 1 0 [1,3,4]) ?_
 rintro ⟨⟨k,l⟩,hk,hl,HK⟩
 try dsimp only
 try dsimp only at hk hl HK
 refine kS <| kQ <| ai [1,3,4,11] [(11,aB (decide ((k : Int) < 33)))] <| kC (decide ((k : Int) < 33)) (fun h2 => ?_) (fun h2 => ?_)
 have h2p := of_decide_eq_true h2
 have hlt : k < 33 := by simp at h2; omega
 obtain ⟨x0,hx0⟩ : ∃ x,l[k]? = some x := ⟨_,List.getElem?_eq_getElem (by omega)⟩
 refine kK <| kS <| au <| kG <| dZ 2 [1,3,4,14,15] [(14,.v (.slice (some ⟨g1,0,none⟩) 33 33)),(15,aI (k : Int))] (.pointer (some ⟨g1,k * 1,none⟩)) rfl (fun _ _ _ ww hr => c6 (kd := .i64) (T := 72) (e := 3) (K := 1) (g := g1) (N := 33) (cap := 33) k rfl hr.1 rfl rfl (by kernel_rfl) (by kernel_rfl) (by kernel_rfl) hlt ww) ?_
 refine xl_hs 0 [1,3,4,16] ⟨[(1,.p 0 0),(3,.v (.slice (some ⟨g1,0,none⟩) 33 33)),(4,aI (k : Int)),(16,.v (.pointer (some ⟨g1,k * 1,none⟩)))],[⟨28,a7 r (.slice Arh r.held.length Crh)⟩],[],[a8 w.heap.size 3 1 (.slice (some ⟨g1,0,none⟩) 33 33) (l.map aw),aM (.slice Arh r.held.length Crh) 2 (r.held.map pC)]⟩ (by kernel_rfl) rfl (by kernel_rfl) rfl (by kernel_rfl) (HSg.hs (e5 (g := g1) (B := w.heap.size) (e := 3) (K := 1) (N := 33) (cap := 33) (rs := (l.map aw)) (rs' := (l.set k (-1)).map aw) (v := (iI (-1))) (i := 0) (off := k * 1) k 0 [iI x0] (row' := [iI (-1)]) rfl rfl (by kernel_rfl) rfl (by kernel_rfl) (by kernel_rfl) (by kernel_rfl) (by kernel_rfl) (Nat.le_refl _) (by simp only [List.getElem?_map,hx0]; rfl) (by kernel_rfl) rfl (by rw [List.map_set]; rfl))) ?_
 refine ai [1,3,4] [] <| kG <| cp 3 [1,3,4] [(4,aI (K6.wrap ((k : Int) + 1)))] <| bw [1,3,4] [(4,aI (K6.wrap ((k : Int) + 1)))] [(4,aI ((k : Int) + 1))] (by rw [show (K6.wrap ((k : Int) + 1)) = ((k : Int) + 1) from az (by omega) (by omega)]) (by kernel_rfl) ?_
 refine ai [1,3,4] [] ?_
 exact ⟨⟨(k + 1,l.set k (-1)),⟨hlt,(by rw [List.length_set]; exact hl),init_step HK (by omega)⟩⟩,kF 1 0 [1,3,4],by show (fun (k : Nat) (l : List Int) => 33 - k) (k + 1) (l.set k (-1)) < 33 - k; (dsimp only; omega)⟩
 have h2p := of_decide_eq_false h2
 have hk33 : k = 33 := by simp at h2; omega
 have hl1 : l = List.replicate 33 (-1) := by rw [hk33,← hl,List.take_length] at HK; rw [HK,hl]
 refine aQ <| kS <| kQ <| ai [1,3,5] [(5,aI 0)] ?_
 refine au <| aN (α := {x : Nat × List Int // (fun (i : Nat) (l2 : List Int) => i ≤ r.held.length ∧ l2.length = 33 ∧ aa l r.held = aa l2 (r.held.drop i)) x.1 x.2}) (fun x => (fun (i : Nat) (l2 : List Int) => (⟨[(1,.p 0 0),(3,.v (.slice (some ⟨g1,0,none⟩) 33 33)),(5,aI (i : Int))],[⟨28,a7 r (.slice Arh r.held.length Crh)⟩],[],[a8 w.heap.size 3 1 (.slice (some ⟨g1,0,none⟩) 33 33) (l2.map aw),aM (.slice Arh r.held.length Crh) 2 (r.held.map pC)]⟩ : St)) x.1.1 x.1.2) (fun x => (fun (i : Nat) (l2 : List Int) => r.held.length - i) x.1.1 x.1.2) ⟨(0,l),⟨Nat.zero_le _,hl,rfl⟩⟩ (dG [0,1] <| kF 1 0 [1,3,5]) ?_
 rintro ⟨⟨i,l2⟩,hi,hl2,H2⟩
 try dsimp only
 try dsimp only at hi hl2 H2
 refine kS <| kQ <| ai [1,3,5,21] [(21,aB (decide ((i : Int) < ((r.held.length : Nat) : Int))))] <| kC (decide ((i : Int) < ((r.held.length : Nat) : Int))) (fun h3 => ?_) (fun h3 => ?_)
 have h3p := of_decide_eq_true h3
 have hlt2 : i < r.held.length := by simpa using h3
 obtain ⟨pp,hx⟩ : ∃ p,r.held[i]? = some p := ⟨_,List.getElem?_eq_getElem hlt2⟩
 have hin := hheld pp (List.mem_of_getElem? hx)
 refine kK <| kS <| au <| kQ <| ai [1,3,5,6] [(6,aI 0)] ?_
 refine au <| aN (α := {x : Nat × List Int // (fun (q : Nat) (l3 : List Int) => q ≤ pp.text.size ∧ l3.length = 33 ∧ l3 = c5 l2 pp.off.toNat pp.text q) x.1 x.2}) (fun x => (fun (q : Nat) (l3 : List Int) => (⟨[(1,.p 0 0),(3,.v (.slice (some ⟨g1,0,none⟩) 33 33)),(5,aI (i : Int)),(6,aI (q : Int))],[⟨28,a7 r (.slice Arh r.held.length Crh)⟩],[],[a8 w.heap.size 3 1 (.slice (some ⟨g1,0,none⟩) 33 33) (l3.map aw),aM (.slice Arh r.held.length Crh) 2 (r.held.map pC)]⟩ : St)) x.1.1 x.1.2) (fun x => (fun (q : Nat) (l3 : List Int) => pp.text.size - q) x.1.1 x.1.2) ⟨(0,l2),⟨Nat.zero_le _,hl2,rfl⟩⟩ (dG [0,1] <| kF 1 0 [1,3,5,6]) ?_
 rintro ⟨⟨q,l3⟩,hq,hl3,H3⟩
 try dsimp only
 try dsimp only at hq hl3 H3
 refine kS <| kQ <| cK (kd := .i64) (T := 26) (e := 81) (K := 2) 4 [1,3,5,6,24,26,27] [(24,aI (q : Int)),(26,.v (.slice Arh r.held.length Crh)),(27,aI (i : Int))] i [iI pp.off,.string pp.text] (aM (.slice Arh r.held.length Crh) 2 (r.held.map pC)) (by kernel_rfl) rfl (by kernel_rfl) rfl rfl (by kernel_rfl) (by kernel_rfl) (by kernel_rfl) (by kernel_rfl) hlt2 (by simp) (fun w h => h) (fun b h => h) (by simp only [List.getElem?_map,hx]; rfl) ?_
 refine ai [1,3,5,6,32] [(32,aB (decide ((q : Int) < (pp.text.size : Int))))] <| kC (decide ((q : Int) < (pp.text.size : Int))) (fun h4 => ?_) (fun h4 => ?_)
 have h4p := of_decide_eq_true h4
 have hlt3 : q < pp.text.size := by simpa using h4
 have hbr := cQ pp.text q
 obtain ⟨x3,hx3⟩ : ∃ x,l3[pp.off.toNat + q]? = some x := ⟨_,List.getElem?_eq_getElem (by omega)⟩
 refine kK <| kS <| au <| xw_wk (wkf (s' := ⟨[(1,.p 0 0),(3,.v (.slice (some ⟨g1,0,none⟩) 33 33)),(5,aI (i : Int)),(6,aI (q : Int)),(32,aB (decide ((q : Int) < (pp.text.size : Int))))],[⟨28,a7 r (.slice Arh r.held.length Crh)⟩],[],[a8 w.heap.size 3 1 (.slice (some ⟨g1,0,none⟩) 33 33) (l3.map aw),aM (.slice Arh r.held.length Crh) 2 (r.held.map pC)]⟩) 1 0 [1,3,5,6,32] (by kernel_rfl)) ?_
 refine dO <| xws_row (K := 2) (j := i) [iI pp.off,.string pp.text] (aM (.slice Arh r.held.length Crh) 2 (r.held.map pC)) (fun _ _ h => h) (by simp) (fun w h => h) (fun b h => h) (by simp only [List.getElem?_map,hx]; rfl) (fun bq5 offq5 hAq5 => ?_)
 refine xws_know (ψ := bq5 ≠ g1) (fun _ _ _ _ hr => row_ne hr 0 1 rfl rfl rfl (by decide) hAq5 i [iI pp.off,.string pp.text] (by simp only [List.getElem?_map,hx]; rfl)) (fun hneq5g1 => ?_)
 refine xws_row (K := 2) (j := i) [iI pp.off,.string pp.text] (aM (.slice Arh r.held.length Crh) 2 (r.held.map pC)) (fun _ _ h => h) (by simp) (fun w h => h) (fun b h => h) (by simp only [List.getElem?_map,hx]; rfl) (fun bq6 offq6 hAq6 => ?_)
 refine xws_know (ψ := bq6 ≠ g1) (fun _ _ _ _ hr => row_ne hr 0 1 rfl rfl rfl (by decide) hAq6 i [iI pp.off,.string pp.text] (by simp only [List.getElem?_map,hx]; rfl)) (fun hneq6g1 => ?_)
 refine cB [] (by kernel_rfl) (fun ρ σ hq7 => ?_)
 refine d4 [0,1,2,3,7,9,10,11,15] [50,46,45,42,38,37,35,1,3,5,6] 11 [(50,aI (q : Int)),(46,aI (i : Int)),(45,.v (.slice Arh r.held.length Crh)),(42,aI (q : Int)),(38,aI (i : Int)),(37,.v (.slice Arh r.held.length Crh)),(35,.v (.slice (some ⟨g1,0,none⟩) 33 33)),(1,.p 0 0),(3,.v (.slice (some ⟨g1,0,none⟩) 33 33)),(5,aI (i : Int)),(6,aI (q : Int))] <| xe_takeI (kd := .i64) (T := 26) (e := 81) (K := 2) (j := i) (A := Arh) (len := r.held.length) (cap := Crh) 4 0 _ rfl (by kernel_rfl) (by kernel_rfl) (by kernel_rfl) (fun _ _ h => h) (by kernel_rfl) rfl rfl (by kernel_rfl) (by kernel_rfl) (by kernel_rfl) (by kernel_rfl) hlt2 hAq5 hq7.1.2 (by kernel_rfl) rfl ?_
 refine d4 [5,6,8] [43,50,46,45,35,1,3,5,6] 7 [(43,aI (K6.wrap (pp.off + (q : Int)))),(50,aI (q : Int)),(46,aI (i : Int)),(45,.v (.slice Arh r.held.length Crh)),(35,.v (.slice (some ⟨g1,0,none⟩) 33 33)),(1,.p 0 0),(3,.v (.slice (some ⟨g1,0,none⟩) 33 33)),(5,aI (i : Int)),(6,aI (q : Int))] <| dF [43,50,46,45,35,1,3,5,6] [(43,aI (K6.wrap (pp.off + (q : Int))))] [(43,aI ((pp.off.toNat + q : Nat) : Int))] (by rw [show (K6.wrap (pp.off + (q : Int))) = ((pp.off.toNat + q : Nat) : Int) from by rw [az (by omega) (by omega)]; omega]) (by kernel_rfl) ?_
 refine xe_takeI (kd := .i64) (T := 26) (e := 81) (K := 2) (j := i) (A := Arh) (len := r.held.length) (cap := Crh) 12 1 _ rfl (by kernel_rfl) (by kernel_rfl) (by kernel_rfl) (fun _ _ h => h) (by kernel_rfl) rfl rfl (by kernel_rfl) (by kernel_rfl) (by kernel_rfl) (by kernel_rfl) hlt2 hAq6 hq7.2 (by kernel_rfl) rfl ?_
 refine d4 [13,14] [49,43,50,35,1,3,5,6] 4 [(49,.v (.string pp.text)),(43,aI ((pp.off.toNat + q : Nat) : Int)),(50,aI (q : Int)),(35,.v (.slice (some ⟨g1,0,none⟩) 33 33)),(1,.p 0 0),(3,.v (.slice (some ⟨g1,0,none⟩) 33 33)),(5,aI (i : Int)),(6,aI (q : Int))] <| kX 16 (.int .u8 (ar pp.text q)) rfl (fun _ _ ww hA => eo (kd := .i64) (t := pp.text) q hA rfl rfl (by kernel_rfl) (by kernel_rfl) hlt3 ww) ?_
 refine d4 [17] [52,43,35,1,3,5,6] 2 [(52,aI (K6.wrap (ar pp.text q))),(43,aI ((pp.off.toNat + q : Nat) : Int)),(35,.v (.slice (some ⟨g1,0,none⟩) 33 33)),(1,.p 0 0),(3,.v (.slice (some ⟨g1,0,none⟩) 33 33)),(5,aI (i : Int)),(6,aI (q : Int))] <| dF [52,43,35,1,3,5,6] [(52,aI (K6.wrap (ar pp.text q)))] [(52,aI (ar pp.text q))] (by rw [show (K6.wrap (ar pp.text q)) = (ar pp.text q) from az (by omega) (by omega)]) (by kernel_rfl) ?_
 refine kX 18 (.pointer (some ⟨g1,(pp.off.toNat + q) * 1,none⟩)) rfl (fun _ _ ww hA => c6 (kd := .i64) (T := 72) (e := 3) (K := 1) (g := g1) (N := 33) (cap := 33) (pp.off.toNat + q) rfl hA rfl rfl (by kernel_rfl) (by kernel_rfl) (by kernel_rfl) (by omega) ww) ?_
 refine kA [19] <| xs_hsG 19 g1 rfl (by kernel_rfl) (by kernel_rfl) (by kernel_rfl) (ap av) (fun kk rr hk => match kk,hk with | 0,_ => .inr (fun h => hneq5g1 ((congrArg Prod.fst hq7.1.2).symm.trans h)) | 1,_ => .inr (fun h => hneq6g1 ((congrArg Prod.fst hq7.2).symm.trans h)) | nn + 2,hk => (by simp [addRow] at hk)) (e5 (g := g1) (B := w.heap.size) (e := 3) (K := 1) (N := 33) (cap := 33) (rs := (l3.map aw)) (rs' := (l3.set (pp.off.toNat + q) (ar pp.text q)).map aw) (v := (iI (ar pp.text q))) (i := 0) (off := (pp.off.toNat + q) * 1) (pp.off.toNat + q) 0 [iI x3] (row' := [iI (ar pp.text q)]) rfl rfl (by kernel_rfl) rfl (by kernel_rfl) (by kernel_rfl) (by kernel_rfl) (by kernel_rfl) (Nat.le_refl _) (by simp only [List.getElem?_map,hx3]; rfl) (by kernel_rfl) rfl (by rw [List.map_set]; rfl)) ?_
 refine kZ <| kG <| cp 3 [1,3,5,6] [(6,aI (K6.wrap ((q : Int) + 1)))] <| bw [1,3,5,6] [(6,aI (K6.wrap ((q : Int) + 1)))] [(6,aI ((q : Int) + 1))] (by rw [show (K6.wrap ((q : Int) + 1)) = ((q : Int) + 1) from az (by omega) (by omega)]) (by kernel_rfl) ?_
 refine ai [1,3,5,6] [] ?_
 exact ⟨⟨(q + 1,(l3.set (pp.off.toNat + q) (ar pp.text q))),⟨hlt3,(by rw [List.length_set]; exact hl3),(by rw [H3]; rfl)⟩⟩,kF 1 0 [1,3,5,6],by show (fun (q : Nat) (l3 : List Int) => pp.text.size - q) (q + 1) (l3.set (pp.off.toNat + q) (ar pp.text q)) < pp.text.size - q; (dsimp only; omega)⟩
 have h4p := of_decide_eq_false h4
 have hq3 : q = pp.text.size := by simp at h4; omega
 refine aQ <| kG <| cp 3 [1,3,5] [(5,aI (K6.wrap ((i : Int) + 1)))] <| bw [1,3,5] [(5,aI (K6.wrap ((i : Int) + 1)))] [(5,aI ((i : Int) + 1))] (by rw [show (K6.wrap ((i : Int) + 1)) = ((i : Int) + 1) from az (by omega) (by omega)]) (by kernel_rfl) ?_
 refine ba [1,3,5] [(1,.p 0 0),(3,.v (.slice (some ⟨g1,0,none⟩) 33 33)),(5,aI ((i : Int) + 1))] ?_
 exact ⟨⟨(i + 1,l3),⟨hlt2,hl3,(by rw [H2,bC hx,aa,← hq3,← H3])⟩⟩,kF 1 0 [1,3,5],by show (fun (i : Nat) (l2 : List Int) => r.held.length - i) (i + 1) l3 < r.held.length - i; (dsimp only; omega)⟩
 have h3p := of_decide_eq_false h3
 have hi2 : i = r.held.length := by simp at h3; omega
 rw [hi2,List.drop_length] at H2; simp only [aa] at H2
 refine aQ <| kQ <| ba [2] [(2,.v (.slice (some ⟨g1,0,none⟩) 33 33))] <| kR ?_
 have hmod : ax r = l2 := by (unfold ax; rw [← hl1]; exact H2)
 exact ⟨[.slice (some ⟨g1,0,none⟩) 33 33],by kernel_rfl,fun w' hb hf ha => by rw [hmod,hl2]; exact xo1 ((((some ⟨g1,0,none⟩) : Option Addr),33)) rfl rfl (pW (hf _ m0) hB) hb⟩
theorem yl18Pieces_c (l : List Int) (lV : Value) (m : Nat) (w : World) (hl_lV : Sl w lV 1 (l.map aw)) (hm : m ≤ l.length) (hll : l.length ≤ 64) (hby : ∀ x ∈ l, x ≤ 255) (B : Nat) (hB : B ≤ w.heap.size) : Calls Try.prog 38 #[lV, iI (m : Int)] w fun e w' => XRs w w' e (α := Option Addr × Nat) (fun y => .slice y.1 ((ca [] 0 (l.drop m)).length) y.2) (fun y => [a8 B 81 2 (.slice y.1 ((ca [] 0 (l.drop m)).length) y.2) ((ca [] 0 (l.drop m)).map pC)]) := by
 obtain ⟨Al,Cl,hvl⟩ := hl_lV.form
 rw [List.length_map] at hvl; subst hvl
 have hnl := hl_lV.len; rw [List.length_map] at hnl
 have hql := Sl.capLe hl_lV
 refine cj (args := [.slice Al l.length Cl,iI (m : Int)]) (fn := Try.f38) [aM (.slice Al l.length Cl) 1 (l.map aw)] Try.func38 rfl Try.ntmps38 rfl (by simp only [List.mem_cons,List.not_mem_nil,or_false,forall_eq_or_imp,forall_eq]; exact ⟨rfl,hl_lV⟩) ?_
 refine kQ <| dn [0,1] ⟨[(0,.v (.slice Al l.length Cl)),(1,aI (m : Int))],[],[],[aM (.slice Al l.length Cl) 1 (l.map aw)]⟩ <| kQ <| kHS 0 [0,1] [(0,.v (.slice Al l.length Cl)),(1,aI (m : Int))] rfl (bj (e := 81) (K := 2) (bytes := 24) [] (rs := ([] : List Pce).map pC) rfl rfl) ?_
 intro g1
 refine ba [0,1,5] [(0,.v (.slice Al l.length Cl)),(1,aI (m : Int)),(5,.v (.slice (some ⟨g1,0,none⟩) 0 0))] <| kS <| kQ <| ba [0,1,5,6] [(0,.v (.slice Al l.length Cl)),(1,aI (m : Int)),(5,.v (.slice (some ⟨g1,0,none⟩) 0 0)),(6,aI (m : Int))] ?_
 refine au <| aN (α := {x : Nat × List Pce × Option Addr × Nat × Nat // (fun (i : Nat) (out : List Pce) (A1 : Option Addr) (c1 : Nat) (n : Nat) => (m ≤ i ∧ i ≤ l.length) ∧ ca [] 0 (l.drop m) = ca out (i - m) (l.drop i) ∧ (∀ p ∈ out,0 ≤ p.off ∧ p.off + (p.text.size : Int) ≤ ((i - m : Nat) : Int)) ∧ out.length = n ∧ n ≤ i) x.1 x.2.1 x.2.2.1 x.2.2.2.1 x.2.2.2.2}) (fun x => (fun (i : Nat) (out : List Pce) (A1 : Option Addr) (c1 : Nat) (n : Nat) => (⟨[(0,.v (.slice Al l.length Cl)),(1,aI (m : Int)),(5,.v (.slice A1 n c1)),(6,aI (i : Int))],[],[],[a8 w.heap.size 81 2 (.slice A1 n c1) (out.map pC),aM (.slice Al l.length Cl) 1 (l.map aw)]⟩ : St)) x.1.1 x.1.2.1 x.1.2.2.1 x.1.2.2.2.1 x.1.2.2.2.2) (fun x => (fun (i : Nat) (out : List Pce) (A1 : Option Addr) (c1 : Nat) (n : Nat) => l.length - i) x.1.1 x.1.2.1 x.1.2.2.1 x.1.2.2.2.1 x.1.2.2.2.2) ⟨(m,([] : List Pce),(some ⟨g1,0,none⟩),0,0),⟨⟨Nat.le_refl _,hm⟩,(by rw [Nat.sub_self]),(by simp),rfl,Nat.zero_le _⟩⟩ (dG [0,1] <| kF 0 0 [0,1,5,6]) ?_
 rintro ⟨⟨i,out,A1,c1,n⟩,hi,HP,hbd,hn,hni⟩
 try dsimp only
 try dsimp only at hi HP hbd hn hni
 refine kS <| kQ <| ba [0,1,5,6,13] [(0,.v (.slice Al l.length Cl)),(1,aI (m : Int)),(5,.v (.slice A1 n c1)),(6,aI (i : Int)),(13,aB (decide ((i : Int) < ((l.length : Nat) : Int))))] <| kC (decide ((i : Int) < ((l.length : Nat) : Int))) (fun h2 => ?_) (fun h2 => ?_)
 have h2p := of_decide_eq_true h2
 have hlt : i < l.length := by simpa using h2
 obtain ⟨x,hx⟩ : ∃ x,l[i]? = some x := ⟨_,List.getElem?_eq_getElem hlt⟩
 have hx255 := hby x (List.mem_of_getElem? hx)
 have hps := pcs_step (out := out) hx hi.1
 refine xw_know (φ := ∃ b off,Al = some ⟨b,off,none⟩) (fun _ _ _ _ hr => know_sl hr (K := 1) (rs := l.map aw) 1 rfl (j := i) (row := [iI x]) (by simp only [List.getElem?_map,hx]; rfl)) ?_
 rintro ⟨bb,ob,hbb⟩
 refine kK <| kS <| au <| kS <| kQ <| kOS 2 [0,1,5,6,16,17] [(0,.v (.slice Al l.length Cl)),(1,aI (m : Int)),(5,.v (.slice A1 n c1)),(6,aI (i : Int)),(16,.v (.slice Al l.length Cl)),(17,aI (i : Int))] (.pointer (some ⟨bb,ob + i * 1,none⟩)) rfl (fun _ _ _ ww hr => act_ixO (kd := .i64) (T := 72) (e := 3) (K := 1) (b := bb) (off := ob) (N := l.length) (cap := Cl) i hbb hr.1 rfl rfl (by kernel_rfl) (by kernel_rfl) (by kernel_rfl) hlt ww) ?_
 refine kOS 0 [0,1,5,6,18] [(0,.v (.slice Al l.length Cl)),(1,aI (m : Int)),(5,.v (.slice A1 n c1)),(6,aI (i : Int)),(18,.v (.pointer (some ⟨bb,ob + i * 1,none⟩)))] (iI x) rfl (fun _ _ _ ww hr => ldS_run (j := i) (row := [iI x]) (aM (.slice Al l.length Cl) 1 (l.map aw)) hr rfl (by kernel_rfl) (by simp) (by simp only [List.getElem?_map,hx]; rfl) (by kernel_rfl) hbb rfl) ?_
 refine ba [0,1,5,6,20] [(0,.v (.slice Al l.length Cl)),(1,aI (m : Int)),(5,.v (.slice A1 n c1)),(6,aI (i : Int)),(20,aB (decide (x < 0)))] <| kC (decide (x < 0)) (fun h3 => ?_) (fun h3 => ?_)
 have h3p := of_decide_eq_true h3
 refine aQ <| kG <| kRS 3 [0,1,5,6] [(0,.v (.slice Al l.length Cl)),(1,aI (m : Int)),(5,.v (.slice A1 n c1)),(6,aI (K6.wrap ((i : Int) + 1)))] <| xl_eqS (t' := [(0,.v (.slice Al l.length Cl)),(1,aI (m : Int)),(5,.v (.slice A1 n c1)),(6,aI ((i : Int) + 1))]) (by rw [show (K6.wrap ((i : Int) + 1)) = ((i : Int) + 1) from az (by omega) (by omega)]) ?_
 refine ba [0,1,5,6] [(0,.v (.slice Al l.length Cl)),(1,aI (m : Int)),(5,.v (.slice A1 n c1)),(6,aI ((i : Int) + 1))] ?_
 exact ⟨⟨(i + 1,out,A1,c1,n),⟨(by (try dsimp only); omega),(by rw [HP,hps,if_pos (by omega)]),(fun q hq => by have := hbd q hq; (try dsimp only); omega),hn,(by (try dsimp only); omega)⟩⟩,kF 0 0 [0,1,5,6],by show (fun (i : Nat) (out : List Pce) (A1 : Option Addr) (c1 : Nat) (n : Nat) => l.length - i) (i + 1) out A1 c1 n < l.length - i; (dsimp only; omega)⟩
 have h3p := of_decide_eq_false h3
 have hx0 : 0 ≤ x := by simp at h3; omega
 have hb1 : (a6 [x]).size = 1 := ci [x]
 obtain ⟨p,hp⟩ : ∃ p : Pce,0 < n → out[n - 1]? = some p := if h : 0 < n then ⟨out[n - 1]'(by omega),fun _ => List.getElem?_eq_getElem _⟩ else ⟨⟨0,⟨#[]⟩⟩,fun h' => absurd h' h⟩
 refine xw_know (φ := ∃ g,0 < n → A1 = some ⟨g,0,none⟩) (fun _ _ _ _ hr => know_row hr (K := 2) (rs := out.map pC) 0 rfl (j := n - 1) (row := [iI p.off,.string p.text]) (fun hpos => by simp only [List.getElem?_map,hp hpos]; rfl)) ?_
 rintro ⟨gg,hgg⟩
 refine kK <| kQ <| ba [0,1,5,6,7] [(0,.v (.slice Al l.length Cl)),(1,aI (m : Int)),(5,.v (.slice A1 n c1)),(6,aI (i : Int)),(7,aI ((n : Nat) : Int))] <| kS <| cH (α := {zz : Bool // (fun (bq : Bool) => (bq = true ↔ (0 < n ∧ p.off + (p.text.size : Int) = ((i - m : Nat) : Int)))) zz}) (fun zz => (fun (bq : Bool) => (⟨[(0,.v (.slice Al l.length Cl)),(1,aI (m : Int)),(5,.v (.slice A1 n c1)),(6,aI (i : Int)),(7,aI ((n : Nat) : Int)),(44,aB bq)],[],[],[a8 w.heap.size 81 2 (.slice A1 n c1) (out.map pC),aM (.slice Al l.length Cl) 1 (l.map aw)]⟩ : St)) zz.1) ?_ ?_
 refine bZ [] (by kernel_rfl) (fun ρ σ => ?_)
 refine d4 [0,1,2] [25,0,1,5,6,7] 19 [(25,aB (decide (((n : Nat) : Int) > 0))),(0,.v (.slice Al l.length Cl)),(1,aI (m : Int)),(5,.v (.slice A1 n c1)),(6,aI (i : Int)),(7,aI ((n : Nat) : Int))] <| kY 25 (decide (((n : Nat) : Int) > 0)) (fun h4 => ?_) (fun h4 => ?_)
 have h4p := of_decide_eq_true h4
 have hpos : 0 < n := by simp at h4; omega
 have hpb := hbd p (List.mem_of_getElem? (hp hpos))
 refine d4 [3,4,5,9,10,11,17,18,19] [42,34,32,28,26,25,0,1,5,6,7] 10 [(42,aI (K6.wrap ((i : Int) - (m : Int)))),(34,aI (K6.wrap (((n : Nat) : Int) - 1))),(32,.v (.slice A1 n c1)),(28,aI (K6.wrap (((n : Nat) : Int) - 1))),(26,.v (.slice A1 n c1)),(25,aB true),(0,.v (.slice Al l.length Cl)),(1,aI (m : Int)),(5,.v (.slice A1 n c1)),(6,aI (i : Int)),(7,aI ((n : Nat) : Int))] <| xe_eqS (t := [(42,aI (K6.wrap ((i : Int) - (m : Int)))),(34,aI (K6.wrap (((n : Nat) : Int) - 1))),(32,.v (.slice A1 n c1)),(28,aI (K6.wrap (((n : Nat) : Int) - 1))),(26,.v (.slice A1 n c1)),(25,aB true),(0,.v (.slice Al l.length Cl)),(1,aI (m : Int)),(5,.v (.slice A1 n c1)),(6,aI (i : Int)),(7,aI ((n : Nat) : Int))]) (t' := [(42,aI ((i - m : Nat) : Int)),(34,aI ((n - 1 : Nat) : Int)),(32,.v (.slice A1 n c1)),(28,aI ((n - 1 : Nat) : Int)),(26,.v (.slice A1 n c1)),(25,aB true),(0,.v (.slice Al l.length Cl)),(1,aI (m : Int)),(5,.v (.slice A1 n c1)),(6,aI (i : Int)),(7,aI ((n : Nat) : Int))]) (by rw [show (K6.wrap (((n : Nat) : Int) - 1)) = ((n - 1 : Nat) : Int) from by rw [az (by omega) (by omega)]; omega,show (K6.wrap ((i : Int) - (m : Int))) = ((i - m : Nat) : Int) from by rw [az (by omega) (by omega)]; omega]) ?_
 refine kX 6 (.pointer (some ⟨gg,(n - 1) * 2,none⟩)) rfl (fun _ _ ww hA => c6 (kd := .i64) (T := 26) (e := 81) (K := 2) (g := gg) (N := n) (cap := c1) (n - 1) (hgg hpos) hA rfl rfl (by kernel_rfl) (by kernel_rfl) (by kernel_rfl) (by omega) ww) ?_
 refine kX 7 (.pointer (some ⟨gg,(n - 1) * 2,none⟩)) rfl (fun _ _ ww hA => bD (sz := 1) (b := gg) (m := (n - 1) * 2) hA rfl Try.underlying81 rfl (by kernel_rfl) rfl (by kernel_rfl) rfl) ?_
 refine kX 12 (.pointer (some ⟨gg,(n - 1) * 2,none⟩)) rfl (fun _ _ ww hA => c6 (kd := .i64) (T := 26) (e := 81) (K := 2) (g := gg) (N := n) (cap := c1) (n - 1) (hgg hpos) hA rfl rfl (by kernel_rfl) (by kernel_rfl) (by kernel_rfl) (by omega) ww) ?_
 refine kX 13 (.pointer (some ⟨gg,(n - 1) * 2 + 1,none⟩)) rfl (fun _ _ ww hA => bD (sz := 1) (b := gg) (m := (n - 1) * 2) hA rfl Try.underlying81 rfl (by kernel_rfl) rfl (by kernel_rfl) rfl) ?_
 refine kA [8,14] ⟨?_,?_⟩
 refine ez 8 (iI p.off) rfl (fun _ _ ww hr => c9 (po := 0) (j := (n - 1)) (row := [iI p.off,.string p.text]) (a8 w.heap.size 81 2 (.slice A1 n c1) (out.map pC)) hr rfl (by kernel_rfl) (by simp) (by simp only [List.getElem?_map,hp hpos]; rfl) (by kernel_rfl) (hgg hpos) rfl rfl) ?_
 refine kA [14] <| ez 14 (.string p.text) rfl (fun _ _ ww hr => c9 (po := 1) (j := (n - 1)) (row := [iI p.off,.string p.text]) (a8 w.heap.size 81 2 (.slice A1 n c1) (out.map pC)) hr rfl (by kernel_rfl) (by simp) (by simp only [List.getElem?_map,hp hpos]; rfl) (by kernel_rfl) (hgg hpos) rfl rfl) ?_
 refine d4 [15,16,20,21] [44,0,1,5,6,7] 0 [(44,aB ((K6.wrap (p.off + (p.text.size : Int))) == ((i - m : Nat) : Int))),(0,.v (.slice Al l.length Cl)),(1,aI (m : Int)),(5,.v (.slice A1 n c1)),(6,aI (i : Int)),(7,aI ((n : Nat) : Int))] <| xe_eqS (t := [(44,aB ((K6.wrap (p.off + (p.text.size : Int))) == ((i - m : Nat) : Int))),(0,.v (.slice Al l.length Cl)),(1,aI (m : Int)),(5,.v (.slice A1 n c1)),(6,aI (i : Int)),(7,aI ((n : Nat) : Int))]) (t' := [(44,aB ((p.off + (p.text.size : Int)) == ((i - m : Nat) : Int))),(0,.v (.slice Al l.length Cl)),(1,aI (m : Int)),(5,.v (.slice A1 n c1)),(6,aI (i : Int)),(7,aI ((n : Nat) : Int))]) (by rw [show (K6.wrap (p.off + (p.text.size : Int))) = (p.off + (p.text.size : Int)) from az (by omega) (by omega)]) ?_
 refine kZ ?_
 exact ⟨⟨((p.off + (p.text.size : Int)) == ((i - m : Nat) : Int)),⟨fun h => ⟨hpos,eq_of_beq h⟩,fun h => beq_iff_eq.2 h.2⟩⟩,kF 0 0 [0,1,5,6,7,44]⟩
 refine ez 14 (.string p.text) rfl (fun _ _ ww hr => c9 (po := 1) (j := (n - 1)) (row := [iI p.off,.string p.text]) (a8 w.heap.size 81 2 (.slice A1 n c1) (out.map pC)) hr rfl (by kernel_rfl) (by simp) (by simp only [List.getElem?_map,hp hpos]; rfl) (by kernel_rfl) (hgg hpos) rfl rfl) ?_
 refine d4 [15] [38,30,42,25,0,1,5,6,7] 4 [(38,aI (p.text.size : Int)),(30,.v (.pointer (some ⟨gg,(n - 1) * 2,none⟩))),(42,aI ((i - m : Nat) : Int)),(25,aB true),(0,.v (.slice Al l.length Cl)),(1,aI (m : Int)),(5,.v (.slice A1 n c1)),(6,aI (i : Int)),(7,aI ((n : Nat) : Int))] <| kA [8] <| ez 8 (iI p.off) rfl (fun _ _ ww hr => c9 (po := 0) (j := (n - 1)) (row := [iI p.off,.string p.text]) (a8 w.heap.size 81 2 (.slice A1 n c1) (out.map pC)) hr rfl (by kernel_rfl) (by simp) (by simp only [List.getElem?_map,hp hpos]; rfl) (by kernel_rfl) (hgg hpos) rfl rfl) ?_
 refine d4 [16,20,21] [44,0,1,5,6,7] 0 [(44,aB ((K6.wrap (p.off + (p.text.size : Int))) == ((i - m : Nat) : Int))),(0,.v (.slice Al l.length Cl)),(1,aI (m : Int)),(5,.v (.slice A1 n c1)),(6,aI (i : Int)),(7,aI ((n : Nat) : Int))] <| xe_eqS (t := [(44,aB ((K6.wrap (p.off + (p.text.size : Int))) == ((i - m : Nat) : Int))),(0,.v (.slice Al l.length Cl)),(1,aI (m : Int)),(5,.v (.slice A1 n c1)),(6,aI (i : Int)),(7,aI ((n : Nat) : Int))]) (t' := [(44,aB ((p.off + (p.text.size : Int)) == ((i - m : Nat) : Int))),(0,.v (.slice Al l.length Cl)),(1,aI (m : Int)),(5,.v (.slice A1 n c1)),(6,aI (i : Int)),(7,aI ((n : Nat) : Int))]) (by rw [show (K6.wrap (p.off + (p.text.size : Int))) = (p.off + (p.text.size : Int)) from az (by omega) (by omega)]) ?_
 refine kZ ?_
 exact ⟨⟨((p.off + (p.text.size : Int)) == ((i - m : Nat) : Int)),⟨fun h => ⟨hpos,eq_of_beq h⟩,fun h => beq_iff_eq.2 h.2⟩⟩,kF 0 0 [0,1,5,6,7,44]⟩
 have h4p := of_decide_eq_false h4
 have hn0 : n = 0 := by simp at h4; omega
 refine d4 [3,4,5,6,7,8,9,10,11,12,13,14,15,16,17,18,19,20,21] [44,0,1,5,6,7] 0 [(44,aB false),(0,.v (.slice Al l.length Cl)),(1,aI (m : Int)),(5,.v (.slice A1 n c1)),(6,aI (i : Int)),(7,aI ((n : Nat) : Int))] <| kZ ?_
 exact ⟨⟨(false),⟨fun h => (by cases h),fun h => (by omega)⟩⟩,kF 0 0 [0,1,5,6,7,44]⟩
 rintro ⟨bq,hbq⟩
 try dsimp only
 try dsimp only at hbq
 refine kC (bq) (fun h5 => ?_) (fun h5 => ?_)
 obtain ⟨hpos,heq⟩ := hbq.1 h5
 have hpb := hbd p (List.mem_of_getElem? (hp hpos))
 refine xw_joinE (α := Nat) (fun y => (fun (g7 : Nat) => (⟨[(0,.v (.slice Al l.length Cl)),(1,aI (m : Int)),(5,.v (.slice A1 n c1)),(6,aI (i : Int))],[],[],[a8 w.heap.size 81 2 (.slice A1 n c1) ((out.set (n - 1) ⟨p.off,p.text ++ (a6 ([x] : List Int))⟩).map pC),a8 w.heap.size 5 1 (.slice (some ⟨g7,0,none⟩) 1 1) (([x] : List Int).map bR),aM (.slice Al l.length Cl) 1 (l.map aw)]⟩ : St)) y) ?_ ?_
 refine bZ [] (by kernel_rfl) (fun ρ σ => ?_)
 refine d4 [0,1,2,3,4,5,9,10] [55,54,50,48,47,45,0,1,5,6] 12 [(55,aI (i : Int)),(54,.v (.slice Al l.length Cl)),(50,aI (K6.wrap (((n : Nat) : Int) - 1))),(48,.v (.slice A1 n c1)),(47,aI (K6.wrap (((n : Nat) : Int) - 1))),(45,.v (.slice A1 n c1)),(0,.v (.slice Al l.length Cl)),(1,aI (m : Int)),(5,.v (.slice A1 n c1)),(6,aI (i : Int))] <| xe_eqS (t := [(55,aI (i : Int)),(54,.v (.slice Al l.length Cl)),(50,aI (K6.wrap (((n : Nat) : Int) - 1))),(48,.v (.slice A1 n c1)),(47,aI (K6.wrap (((n : Nat) : Int) - 1))),(45,.v (.slice A1 n c1)),(0,.v (.slice Al l.length Cl)),(1,aI (m : Int)),(5,.v (.slice A1 n c1)),(6,aI (i : Int))]) (t' := [(55,aI (i : Int)),(54,.v (.slice Al l.length Cl)),(50,aI ((n - 1 : Nat) : Int)),(48,.v (.slice A1 n c1)),(47,aI ((n - 1 : Nat) : Int)),(45,.v (.slice A1 n c1)),(0,.v (.slice Al l.length Cl)),(1,aI (m : Int)),(5,.v (.slice A1 n c1)),(6,aI (i : Int))]) (by rw [show (K6.wrap (((n : Nat) : Int) - 1)) = ((n - 1 : Nat) : Int) from by rw [az (by omega) (by omega)]; omega]) ?_
 refine kX 6 (.pointer (some ⟨gg,(n - 1) * 2,none⟩)) rfl (fun _ _ ww hA => c6 (kd := .i64) (T := 26) (e := 81) (K := 2) (g := gg) (N := n) (cap := c1) (n - 1) (hgg hpos) hA rfl rfl (by kernel_rfl) (by kernel_rfl) (by kernel_rfl) (by omega) ww) ?_
 refine kX 7 (.pointer (some ⟨gg,(n - 1) * 2 + 1,none⟩)) rfl (fun _ _ ww hA => bD (sz := 1) (b := gg) (m := (n - 1) * 2) hA rfl Try.underlying81 rfl (by kernel_rfl) rfl (by kernel_rfl) rfl) ?_
 refine kX 11 (.pointer (some ⟨bb,ob + i * 1,none⟩)) rfl (fun _ _ ww hA => act_ixO (kd := .i64) (T := 72) (e := 3) (K := 1) (b := bb) (off := ob) (N := l.length) (cap := Cl) i hbb hA rfl rfl (by kernel_rfl) (by kernel_rfl) (by kernel_rfl) hlt ww) ?_
 refine kA [8,12] ⟨?_,?_⟩
 refine ez 8 (.string p.text) rfl (fun _ _ ww hr => c9 (po := 1) (j := (n - 1)) (row := [iI p.off,.string p.text]) (a8 w.heap.size 81 2 (.slice A1 n c1) (out.map pC)) hr rfl (by kernel_rfl) (by simp) (by simp only [List.getElem?_map,hp hpos]; rfl) (by kernel_rfl) (hgg hpos) rfl rfl) ?_
 refine kA [12] <| ez 12 (iI x) rfl (fun _ _ ww hr => ldS_run (j := i) (row := [iI x]) (aM (.slice Al l.length Cl) 1 (l.map aw)) hr rfl (by kernel_rfl) (by simp) (by simp only [List.getElem?_map,hx]; rfl) (by kernel_rfl) hbb rfl) ?_
 refine d4 [13] [58,53,47,45,0,1,5,6] 6 [(58,.v (.int .u8 (IntKind.u8.wrap x))),(53,.v (.string p.text)),(47,aI ((n - 1 : Nat) : Int)),(45,.v (.slice A1 n c1)),(0,.v (.slice Al l.length Cl)),(1,aI (m : Int)),(5,.v (.slice A1 n c1)),(6,aI (i : Int))] <| xe_eqS (t := [(58,.v (.int .u8 (IntKind.u8.wrap x))),(53,.v (.string p.text)),(47,aI ((n - 1 : Nat) : Int)),(45,.v (.slice A1 n c1)),(0,.v (.slice Al l.length Cl)),(1,aI (m : Int)),(5,.v (.slice A1 n c1)),(6,aI (i : Int))]) (t' := [(58,.v (.int .u8 x)),(53,.v (.string p.text)),(47,aI ((n - 1 : Nat) : Int)),(45,.v (.slice A1 n c1)),(0,.v (.slice Al l.length Cl)),(1,aI (m : Int)),(5,.v (.slice A1 n c1)),(6,aI (i : Int))]) (by rw [show (IntKind.u8.wrap x) = x from u8_id (by omega) (by omega)]) ?_
 refine kA [14] <| kSH 14 rfl av (bj (e := 5) (K := 1) (bytes := 1) [.int .u8 x] (rs := ([x] : List Int).map bR) rfl rfl) ?_
 intro g7
 refine kA [15] <| ez 15 (.string (a6 ([x] : List Int))) rfl (fun _ _ ww hr => aF (e := 5) ([x] : List Int) hr.1 rfl (by kernel_rfl) (by kernel_rfl) (by kernel_rfl) rfl (aq (hr.2.fact (a8 w.heap.size 5 1 (.slice (some ⟨g7,0,none⟩) 1 1) (([x] : List Int).map bR)) (by simp)).1)) ?_
 refine kX 16 (.string (p.text ++ (a6 ([x] : List Int)))) rfl (fun _ _ ww hA => bp hA rfl (by kernel_rfl) (by kernel_rfl) (dk (by first | omega | (simp only [ByteArray.size_extract]; omega)) ww)) ?_
 refine kX 17 (.pointer (some ⟨gg,(n - 1) * 2,none⟩)) rfl (fun _ _ ww hA => c6 (kd := .i64) (T := 26) (e := 81) (K := 2) (g := gg) (N := n) (cap := c1) (n - 1) (hgg hpos) hA rfl rfl (by kernel_rfl) (by kernel_rfl) (by kernel_rfl) (by omega) ww) ?_
 refine kX 18 (.pointer (some ⟨gg,(n - 1) * 2 + 1,none⟩)) rfl (fun _ _ ww hA => bD (sz := 1) (b := gg) (m := (n - 1) * 2) hA rfl Try.underlying81 rfl (by kernel_rfl) rfl (by kernel_rfl) rfl) ?_
 refine kA [19] <| xs_hsG 19 gg rfl (by kernel_rfl) (by kernel_rfl) (by kernel_rfl) av (fun kk rr hk => by simp at hk) (e5 (g := gg) (B := w.heap.size) (e := 81) (K := 2) (N := n) (cap := c1) (rs := (out.map pC)) (rs' := (out.set (n - 1) ⟨p.off,p.text ++ (a6 ([x] : List Int))⟩).map pC) (v := (.string (p.text ++ (a6 ([x] : List Int))))) (i := 1) (off := (n - 1) * 2 + 1) (n - 1) 1 [iI p.off,.string p.text] (row' := [iI p.off,.string (p.text ++ (a6 ([x] : List Int)))]) (hgg hpos) rfl (by kernel_rfl) rfl (by kernel_rfl) (by kernel_rfl) (by kernel_rfl) (by kernel_rfl) (Nat.le_refl _) (by simp only [List.getElem?_map,hp hpos]; rfl) (by kernel_rfl) rfl (by rw [List.map_set]; rfl)) ?_
 refine kZ ?_
 exact ⟨(g7),kF 0 0 [0,1,5,6]⟩
 refine ez 12 (iI x) rfl (fun _ _ ww hr => ldS_run (j := i) (row := [iI x]) (aM (.slice Al l.length Cl) 1 (l.map aw)) hr rfl (by kernel_rfl) (by simp) (by simp only [List.getElem?_map,hx]; rfl) (by kernel_rfl) hbb rfl) ?_
 refine d4 [13] [58,52,47,45,0,1,5,6] 7 [(58,.v (.int .u8 (IntKind.u8.wrap x))),(52,.v (.pointer (some ⟨gg,(n - 1) * 2 + 1,none⟩))),(47,aI ((n - 1 : Nat) : Int)),(45,.v (.slice A1 n c1)),(0,.v (.slice Al l.length Cl)),(1,aI (m : Int)),(5,.v (.slice A1 n c1)),(6,aI (i : Int))] <| xe_eqS (t := [(58,.v (.int .u8 (IntKind.u8.wrap x))),(52,.v (.pointer (some ⟨gg,(n - 1) * 2 + 1,none⟩))),(47,aI ((n - 1 : Nat) : Int)),(45,.v (.slice A1 n c1)),(0,.v (.slice Al l.length Cl)),(1,aI (m : Int)),(5,.v (.slice A1 n c1)),(6,aI (i : Int))]) (t' := [(58,.v (.int .u8 x)),(52,.v (.pointer (some ⟨gg,(n - 1) * 2 + 1,none⟩))),(47,aI ((n - 1 : Nat) : Int)),(45,.v (.slice A1 n c1)),(0,.v (.slice Al l.length Cl)),(1,aI (m : Int)),(5,.v (.slice A1 n c1)),(6,aI (i : Int))]) (by rw [show (IntKind.u8.wrap x) = x from u8_id (by omega) (by omega)]) ?_
 refine kA [8,14] ⟨?_,?_⟩
 refine ez 8 (.string p.text) rfl (fun _ _ ww hr => c9 (po := 1) (j := (n - 1)) (row := [iI p.off,.string p.text]) (a8 w.heap.size 81 2 (.slice A1 n c1) (out.map pC)) hr rfl (by kernel_rfl) (by simp) (by simp only [List.getElem?_map,hp hpos]; rfl) (by kernel_rfl) (hgg hpos) rfl rfl) ?_
 refine kA [14] <| kSH 14 rfl av (bj (e := 5) (K := 1) (bytes := 1) [.int .u8 x] (rs := ([x] : List Int).map bR) rfl rfl) ?_
 intro g10
 refine kA [15] <| ez 15 (.string (a6 ([x] : List Int))) rfl (fun _ _ ww hr => aF (e := 5) ([x] : List Int) hr.1 rfl (by kernel_rfl) (by kernel_rfl) (by kernel_rfl) rfl (aq (hr.2.fact (a8 w.heap.size 5 1 (.slice (some ⟨g10,0,none⟩) 1 1) (([x] : List Int).map bR)) (by simp)).1)) ?_
 refine kX 16 (.string (p.text ++ (a6 ([x] : List Int)))) rfl (fun _ _ ww hA => bp hA rfl (by kernel_rfl) (by kernel_rfl) (dk (by first | omega | (simp only [ByteArray.size_extract]; omega)) ww)) ?_
 refine kX 17 (.pointer (some ⟨gg,(n - 1) * 2,none⟩)) rfl (fun _ _ ww hA => c6 (kd := .i64) (T := 26) (e := 81) (K := 2) (g := gg) (N := n) (cap := c1) (n - 1) (hgg hpos) hA rfl rfl (by kernel_rfl) (by kernel_rfl) (by kernel_rfl) (by omega) ww) ?_
 refine kX 18 (.pointer (some ⟨gg,(n - 1) * 2 + 1,none⟩)) rfl (fun _ _ ww hA => bD (sz := 1) (b := gg) (m := (n - 1) * 2) hA rfl Try.underlying81 rfl (by kernel_rfl) rfl (by kernel_rfl) rfl) ?_
 refine kA [19] <| xs_hsG 19 gg rfl (by kernel_rfl) (by kernel_rfl) (by kernel_rfl) av (fun kk rr hk => by simp at hk) (e5 (g := gg) (B := w.heap.size) (e := 81) (K := 2) (N := n) (cap := c1) (rs := (out.map pC)) (rs' := (out.set (n - 1) ⟨p.off,p.text ++ (a6 ([x] : List Int))⟩).map pC) (v := (.string (p.text ++ (a6 ([x] : List Int))))) (i := 1) (off := (n - 1) * 2 + 1) (n - 1) 1 [iI p.off,.string p.text] (row' := [iI p.off,.string (p.text ++ (a6 ([x] : List Int)))]) (hgg hpos) rfl (by kernel_rfl) rfl (by kernel_rfl) (by kernel_rfl) (by kernel_rfl) (by kernel_rfl) (Nat.le_refl _) (by simp only [List.getElem?_map,hp hpos]; rfl) (by kernel_rfl) rfl (by rw [List.map_set]; rfl)) ?_
 refine kZ ?_
 exact ⟨(g10),kF 0 0 [0,1,5,6]⟩
 refine kSH 14 rfl av (bj (e := 5) (K := 1) (bytes := 1) [.int .u8 x] (rs := ([x] : List Int).map bR) rfl rfl) ?_
 intro g11
 refine kA [8,15] ⟨?_,?_⟩
 refine ez 8 (.string p.text) rfl (fun _ _ ww hr => c9 (po := 1) (j := (n - 1)) (row := [iI p.off,.string p.text]) (a8 w.heap.size 81 2 (.slice A1 n c1) (out.map pC)) hr rfl (by kernel_rfl) (by simp) (by simp only [List.getElem?_map,hp hpos]; rfl) (by kernel_rfl) (hgg hpos) rfl rfl) ?_
 refine kA [15] <| ez 15 (.string (a6 ([x] : List Int))) rfl (fun _ _ ww hr => aF (e := 5) ([x] : List Int) hr.1 rfl (by kernel_rfl) (by kernel_rfl) (by kernel_rfl) rfl (aq (hr.2.fact (a8 w.heap.size 5 1 (.slice (some ⟨g11,0,none⟩) 1 1) (([x] : List Int).map bR)) (by simp)).1)) ?_
 refine kX 16 (.string (p.text ++ (a6 ([x] : List Int)))) rfl (fun _ _ ww hA => bp hA rfl (by kernel_rfl) (by kernel_rfl) (dk (by first | omega | (simp only [ByteArray.size_extract]; omega)) ww)) ?_
 refine kX 17 (.pointer (some ⟨gg,(n - 1) * 2,none⟩)) rfl (fun _ _ ww hA => c6 (kd := .i64) (T := 26) (e := 81) (K := 2) (g := gg) (N := n) (cap := c1) (n - 1) (hgg hpos) hA rfl rfl (by kernel_rfl) (by kernel_rfl) (by kernel_rfl) (by omega) ww) ?_
 refine kX 18 (.pointer (some ⟨gg,(n - 1) * 2 + 1,none⟩)) rfl (fun _ _ ww hA => bD (sz := 1) (b := gg) (m := (n - 1) * 2) hA rfl Try.underlying81 rfl (by kernel_rfl) rfl (by kernel_rfl) rfl) ?_
 refine kA [19] <| xs_hsG 19 gg rfl (by kernel_rfl) (by kernel_rfl) (by kernel_rfl) av (fun kk rr hk => by simp at hk) (e5 (g := gg) (B := w.heap.size) (e := 81) (K := 2) (N := n) (cap := c1) (rs := (out.map pC)) (rs' := (out.set (n - 1) ⟨p.off,p.text ++ (a6 ([x] : List Int))⟩).map pC) (v := (.string (p.text ++ (a6 ([x] : List Int))))) (i := 1) (off := (n - 1) * 2 + 1) (n - 1) 1 [iI p.off,.string p.text] (row' := [iI p.off,.string (p.text ++ (a6 ([x] : List Int)))]) (hgg hpos) rfl (by kernel_rfl) rfl (by kernel_rfl) (by kernel_rfl) (by kernel_rfl) (by kernel_rfl) (Nat.le_refl _) (by simp only [List.getElem?_map,hp hpos]; rfl) (by kernel_rfl) rfl (by rw [List.map_set]; rfl)) ?_
 refine kZ ?_
 exact ⟨(g11),kF 0 0 [0,1,5,6]⟩
 refine ez 15 (.string (a6 ([x] : List Int))) rfl (fun _ _ ww hr => aF (e := 5) ([x] : List Int) hr.1 rfl (by kernel_rfl) (by kernel_rfl) (by kernel_rfl) rfl (aq (hr.2.fact (a8 w.heap.size 5 1 (.slice (some ⟨g11,0,none⟩) 1 1) (([x] : List Int).map bR)) (by simp)).1)) ?_
 refine kA [8] <| ez 8 (.string p.text) rfl (fun _ _ ww hr => c9 (po := 1) (j := (n - 1)) (row := [iI p.off,.string p.text]) (a8 w.heap.size 81 2 (.slice A1 n c1) (out.map pC)) hr rfl (by kernel_rfl) (by simp) (by simp only [List.getElem?_map,hp hpos]; rfl) (by kernel_rfl) (hgg hpos) rfl rfl) ?_
 refine kX 16 (.string (p.text ++ (a6 ([x] : List Int)))) rfl (fun _ _ ww hA => bp hA rfl (by kernel_rfl) (by kernel_rfl) (dk (by first | omega | (simp only [ByteArray.size_extract]; omega)) ww)) ?_
 refine kX 17 (.pointer (some ⟨gg,(n - 1) * 2,none⟩)) rfl (fun _ _ ww hA => c6 (kd := .i64) (T := 26) (e := 81) (K := 2) (g := gg) (N := n) (cap := c1) (n - 1) (hgg hpos) hA rfl rfl (by kernel_rfl) (by kernel_rfl) (by kernel_rfl) (by omega) ww) ?_
 refine kX 18 (.pointer (some ⟨gg,(n - 1) * 2 + 1,none⟩)) rfl (fun _ _ ww hA => bD (sz := 1) (b := gg) (m := (n - 1) * 2) hA rfl Try.underlying81 rfl (by kernel_rfl) rfl (by kernel_rfl) rfl) ?_
 refine kA [19] <| xs_hsG 19 gg rfl (by kernel_rfl) (by kernel_rfl) (by kernel_rfl) av (fun kk rr hk => by simp at hk) (e5 (g := gg) (B := w.heap.size) (e := 81) (K := 2) (N := n) (cap := c1) (rs := (out.map pC)) (rs' := (out.set (n - 1) ⟨p.off,p.text ++ (a6 ([x] : List Int))⟩).map pC) (v := (.string (p.text ++ (a6 ([x] : List Int))))) (i := 1) (off := (n - 1) * 2 + 1) (n - 1) 1 [iI p.off,.string p.text] (row' := [iI p.off,.string (p.text ++ (a6 ([x] : List Int)))]) (hgg hpos) rfl (by kernel_rfl) rfl (by kernel_rfl) (by kernel_rfl) (by kernel_rfl) (by kernel_rfl) (Nat.le_refl _) (by simp only [List.getElem?_map,hp hpos]; rfl) (by kernel_rfl) rfl (by rw [List.map_set]; rfl)) ?_
 refine kZ ?_
 exact ⟨(g11),kF 0 0 [0,1,5,6]⟩
 intro g7
 refine kG <| kRF 3 [0,1,5,6] ⟨[(0,.v (.slice Al l.length Cl)),(1,aI (m : Int)),(5,.v (.slice A1 n c1)),(6,aI (K6.wrap ((i : Int) + 1)))],[],[],[a8 w.heap.size 81 2 (.slice A1 n c1) ((out.set (n - 1) ⟨p.off,p.text ++ (a6 ([x] : List Int))⟩).map pC),a8 w.heap.size 5 1 (.slice (some ⟨g7,0,none⟩) 1 1) (([x] : List Int).map bR),aM (.slice Al l.length Cl) 1 (l.map aw)]⟩ <| xl_eqS (t' := [(0,.v (.slice Al l.length Cl)),(1,aI (m : Int)),(5,.v (.slice A1 n c1)),(6,aI ((i : Int) + 1))]) (by rw [show (K6.wrap ((i : Int) + 1)) = ((i : Int) + 1) from az (by omega) (by omega)]) ?_
 refine ba [0,1,5,6] [(0,.v (.slice Al l.length Cl)),(1,aI (m : Int)),(5,.v (.slice A1 n c1)),(6,aI ((i : Int) + 1))] ?_
 have hadd : bG out (i - m) x = (out.set (n - 1) ⟨p.off,p.text ++ (a6 ([x] : List Int))⟩) := by first | (rw [dc (p := p) (by rw [hn]; exact hp hpos) heq,hn]) | (exact if hz : 0 < n then da (p := p) (by rw [hn]; exact hp hz) (fun e => heqn ⟨hz,e⟩) else df (by omega))
 exact ⟨⟨(i + 1,(out.set (n - 1) ⟨p.off,p.text ++ (a6 ([x] : List Int))⟩),A1,c1,n),⟨(by (try dsimp only); omega),(by rw [HP,hps,if_neg (by omega),hadd]),(by rw [← hadd]; intro q hq; have := es hbd q hq; (try dsimp only); omega),(by simp [hn]),(by (try dsimp only); (try simp only [List.length_append,List.length_cons,List.length_nil]); omega)⟩⟩,dG [0,2] <| kF 0 0 [0,1,5,6],by show (fun (i : Nat) (out : List Pce) (A1 : Option Addr) (c1 : Nat) (n : Nat) => l.length - i) (i + 1) (out.set (n - 1) ⟨p.off,p.text ++ (a6 ([x] : List Int))⟩) A1 c1 n < l.length - i; (dsimp only; omega)⟩
 have heqn : ¬ (0 < n ∧ p.off + (p.text.size : Int) = ((i - m : Nat) : Int)) := fun e => by rw [hbq.2 e] at h5; cases h5
 refine kG <| kOS 6 [0,1,5,6,64,67,68,69] [(0,.v (.slice Al l.length Cl)),(1,aI (m : Int)),(5,.v (.slice A1 n c1)),(6,aI (i : Int)),(64,.v (.slice A1 n c1)),(67,aI (K6.wrap ((i : Int) - (m : Int)))),(68,.v (.slice Al l.length Cl)),(69,aI (i : Int))] (.pointer (some ⟨bb,ob + i * 1,none⟩)) rfl (fun _ _ _ ww hr => act_ixO (kd := .i64) (T := 72) (e := 3) (K := 1) (b := bb) (off := ob) (N := l.length) (cap := Cl) i hbb hr.1 rfl rfl (by kernel_rfl) (by kernel_rfl) (by kernel_rfl) hlt ww) ?_
 refine kOS 0 [0,1,5,6,64,67,70] [(0,.v (.slice Al l.length Cl)),(1,aI (m : Int)),(5,.v (.slice A1 n c1)),(6,aI (i : Int)),(64,.v (.slice A1 n c1)),(67,aI (K6.wrap ((i : Int) - (m : Int)))),(70,.v (.pointer (some ⟨bb,ob + i * 1,none⟩)))] (iI x) rfl (fun _ _ _ ww hr => ldS_run (j := i) (row := [iI x]) (aM (.slice Al l.length Cl) 1 (l.map aw)) hr rfl (by kernel_rfl) (by simp) (by simp only [List.getElem?_map,hx]; rfl) (by kernel_rfl) hbb rfl) ?_
 refine kHS 1 [0,1,5,6,64,67,72] [(0,.v (.slice Al l.length Cl)),(1,aI (m : Int)),(5,.v (.slice A1 n c1)),(6,aI (i : Int)),(64,.v (.slice A1 n c1)),(67,aI (K6.wrap ((i : Int) - (m : Int)))),(72,.v (.int .u8 (IntKind.u8.wrap x)))] rfl (bj (e := 5) (K := 1) (bytes := 1) [.int .u8 (IntKind.u8.wrap x)] (rs := ([IntKind.u8.wrap x] : List Int).map bR) rfl rfl) ?_
 intro g12
 refine kOS 0 [0,1,5,6,64,67,73] [(0,.v (.slice Al l.length Cl)),(1,aI (m : Int)),(5,.v (.slice A1 n c1)),(6,aI (i : Int)),(64,.v (.slice A1 n c1)),(67,aI (K6.wrap ((i : Int) - (m : Int)))),(73,.v (.slice (some ⟨g12,0,none⟩) 1 1))] (.string (a6 ([IntKind.u8.wrap x] : List Int))) rfl (fun _ _ _ ww hr => aF (e := 5) ([IntKind.u8.wrap x] : List Int) hr.1 rfl (by kernel_rfl) (by kernel_rfl) (by kernel_rfl) rfl (aq (hr.2.fact (a8 w.heap.size 5 1 (.slice (some ⟨g12,0,none⟩) 1 1) (([IntKind.u8.wrap x] : List Int).map bR)) (by simp)).1)) ?_
 refine kOS 0 [0,1,5,6,64,67,74] [(0,.v (.slice Al l.length Cl)),(1,aI (m : Int)),(5,.v (.slice A1 n c1)),(6,aI (i : Int)),(64,.v (.slice A1 n c1)),(67,aI (K6.wrap ((i : Int) - (m : Int)))),(74,.v (.string (a6 ([IntKind.u8.wrap x] : List Int))))] (.agg (dt (⟨K6.wrap ((i : Int) - (m : Int)),a6 ([IntKind.u8.wrap x] : List Int)⟩ : Pce)).toArray) rfl (fun _ _ _ ww hr => cw [(0,iI (K6.wrap ((i : Int) - (m : Int)))),(1,.string (a6 ([IntKind.u8.wrap x] : List Int)))] hr.1 rfl (by kernel_rfl) (by kernel_rfl) ww) ?_
 refine kHS 0 [0,1,5,6,64,75] [(0,.v (.slice Al l.length Cl)),(1,aI (m : Int)),(5,.v (.slice A1 n c1)),(6,aI (i : Int)),(64,.v (.slice A1 n c1)),(75,.v (.agg (dt (⟨K6.wrap ((i : Int) - (m : Int)),a6 ([IntKind.u8.wrap x] : List Int)⟩ : Pce)).toArray))] rfl (bj (e := 81) (K := 2) (bytes := 24) [.agg (dt (⟨K6.wrap ((i : Int) - (m : Int)),a6 ([IntKind.u8.wrap x] : List Int)⟩ : Pce)).toArray] (rs := ([⟨K6.wrap ((i : Int) - (m : Int)),a6 ([IntKind.u8.wrap x] : List Int)⟩] : List Pce).map pC) rfl rfl) ?_
 intro g13
 refine kHS 0 [0,1,5,6,64,76] [(0,.v (.slice Al l.length Cl)),(1,aI (m : Int)),(5,.v (.slice A1 n c1)),(6,aI (i : Int)),(64,.v (.slice A1 n c1)),(76,.v (.slice (some ⟨g13,0,none⟩) 1 1))] rfl (bT (e := 81) (K := 2) (bytes := 24) (i := 2) (q := (out ++ ([⟨K6.wrap ((i : Int) - (m : Int)),a6 ([IntKind.u8.wrap x] : List Int)⟩] : List Pce)).length) (new := ([⟨K6.wrap ((i : Int) - (m : Int)),a6 ([IntKind.u8.wrap x] : List Int)⟩] : List Pce).map pC) (rs' := (out ++ ([⟨K6.wrap ((i : Int) - (m : Int)),a6 ([IntKind.u8.wrap x] : List Int)⟩] : List Pce)).map pC) rfl rfl rfl rfl (by kernel_rfl) (by kernel_rfl) (by kernel_rfl) rfl (by simp) (by rw [List.map_append]) (by simp) (fun ww hf => (aq (hf (a8 w.heap.size 81 2 (.slice (some ⟨g13,0,none⟩) 1 1) (([⟨K6.wrap ((i : Int) - (m : Int)),a6 ([IntKind.u8.wrap x] : List Int)⟩] : List Pce).map pC)) (by simp)))) (by intro r hr; obtain ⟨x,hx,rfl⟩ := List.mem_map.1 hr; exact ⟨rfl,by simp [pC,Value.oneCell']⟩) (by (try simp only [List.length_map,List.length_append,List.length_cons,List.length_nil,List.length_take,List.length_drop,maxLen]); omega) (by (try simp only [List.length_map,List.length_append,List.length_cons,List.length_nil,List.length_take,List.length_drop,maxLen]); omega)) ?_
 rintro ⟨v14a,v14c⟩
 refine kRS 1 [0,1,5,6] [(0,.v (.slice Al l.length Cl)),(1,aI (m : Int)),(5,.v (.slice v14a ((out ++ ([⟨K6.wrap ((i : Int) - (m : Int)),a6 ([IntKind.u8.wrap x] : List Int)⟩] : List Pce)).length) v14c)),(6,aI (i : Int))] <| xl_eq (st' := ⟨[(0,.v (.slice Al l.length Cl)),(1,aI (m : Int)),(5,.v (.slice v14a ((out ++ ([⟨((i - m : Nat) : Int),a6 ([x] : List Int)⟩] : List Pce)).length) v14c)),(6,aI (i : Int))],[],[],[a8 w.heap.size 81 2 (.slice v14a ((out ++ ([⟨((i - m : Nat) : Int),a6 ([x] : List Int)⟩] : List Pce)).length) v14c) ((out ++ ([⟨((i - m : Nat) : Int),a6 ([x] : List Int)⟩] : List Pce)).map pC),a8 w.heap.size 81 2 (.slice (some ⟨g13,0,none⟩) 1 1) (([⟨((i - m : Nat) : Int),a6 ([x] : List Int)⟩] : List Pce).map pC),a8 w.heap.size 5 1 (.slice (some ⟨g12,0,none⟩) 1 1) (([x] : List Int).map bR),aM (.slice Al l.length Cl) 1 (l.map aw)]⟩) (by rw [show (K6.wrap ((i : Int) - (m : Int))) = ((i - m : Nat) : Int) from by rw [az (by omega) (by omega)]; omega,show (IntKind.u8.wrap x) = x from u8_id (by omega) (by omega)] <;> rfl) ?_
 refine ba [0,1,5,6] [(0,.v (.slice Al l.length Cl)),(1,aI (m : Int)),(5,.v (.slice v14a ((out ++ ([⟨((i - m : Nat) : Int),a6 ([x] : List Int)⟩] : List Pce)).length) v14c)),(6,aI (i : Int))] <| kG <| kRS 3 [0,1,5,6] [(0,.v (.slice Al l.length Cl)),(1,aI (m : Int)),(5,.v (.slice v14a ((out ++ ([⟨((i - m : Nat) : Int),a6 ([x] : List Int)⟩] : List Pce)).length) v14c)),(6,aI (K6.wrap ((i : Int) + 1)))] <| xl_eqS (t' := [(0,.v (.slice Al l.length Cl)),(1,aI (m : Int)),(5,.v (.slice v14a ((out ++ ([⟨((i - m : Nat) : Int),a6 ([x] : List Int)⟩] : List Pce)).length) v14c)),(6,aI ((i : Int) + 1))]) (by rw [show (K6.wrap ((i : Int) + 1)) = ((i : Int) + 1) from az (by omega) (by omega)]) ?_
 refine ba [0,1,5,6] [(0,.v (.slice Al l.length Cl)),(1,aI (m : Int)),(5,.v (.slice v14a ((out ++ ([⟨((i - m : Nat) : Int),a6 ([x] : List Int)⟩] : List Pce)).length) v14c)),(6,aI ((i : Int) + 1))] ?_
 have hadd : bG out (i - m) x = (out ++ ([⟨((i - m : Nat) : Int),a6 ([x] : List Int)⟩] : List Pce)) := by first | (rw [dc (p := p) (by rw [hn]; exact hp hpos) heq,hn]) | (exact if hz : 0 < n then da (p := p) (by rw [hn]; exact hp hz) (fun e => heqn ⟨hz,e⟩) else df (by omega))
 exact ⟨⟨(i + 1,(out ++ ([⟨((i - m : Nat) : Int),a6 ([x] : List Int)⟩] : List Pce)),v14a,v14c,(out ++ ([⟨((i - m : Nat) : Int),a6 ([x] : List Int)⟩] : List Pce)).length),⟨(by (try dsimp only); omega),(by rw [HP,hps,if_neg (by omega),hadd]),(by rw [← hadd]; intro q hq; have := es hbd q hq; (try dsimp only); omega),(by simp [hn]),(by (try dsimp only); (try simp only [List.length_append,List.length_cons,List.length_nil]); omega)⟩⟩,dG [0,3] <| kF 0 0 [0,1,5,6],by show (fun (i : Nat) (out : List Pce) (A1 : Option Addr) (c1 : Nat) (n : Nat) => l.length - i) (i + 1) (out ++ ([⟨((i - m : Nat) : Int),a6 ([x] : List Int)⟩] : List Pce)) v14a v14c ((out ++ ([⟨((i - m : Nat) : Int),a6 ([x] : List Int)⟩] : List Pce)).length) < l.length - i; (dsimp only; omega)⟩
 have h2p := of_decide_eq_false h2
 have hge : i = l.length := by simp at h2; omega
 rw [hge,List.drop_length,ca] at HP
 refine aQ <| kQ <| ba [4] [(4,.v (.slice A1 n c1))] <| kR ?_
 have hmod : ca [] 0 (l.drop m) = out := by exact HP
 exact ⟨[.slice A1 n c1],by kernel_rfl,fun w' hb hf ha => by rw [hmod,hn]; exact xo1 ((A1,c1)) rfl rfl (pW (hf _ m0) hB) hb⟩
theorem ysArrived_c (r : Rcv) (r_heldV : Value) (seq : Int) (text : ByteArray) (fin : Bool) (w : World) (hl_r_heldV : Sl w r_heldV 2 (r.held.map pC)) (hkn : r.held.length ≤ 1048576) (hm : ∀ p ∈ r.held, p.text.size ≤ 1048576) (hsz : r.data.size ≤ 4611686018427387904) (hts : text.size ≤ 4611686018427387904) (B : Nat) (hB : B ≤ w.heap.size) : Calls Try.prog 7 #[.agg (a7 r r_heldV).toArray, iI seq, .string text, .bool fin] w fun e w' => XRs w w' e (α := Option Addr × Nat) (fun y => .agg (a7 (a5 r seq text fin) (.slice y.1 ((a5 r seq text fin).held.length) y.2)).toArray) (fun y => [a8 B 81 2 (.slice y.1 ((a5 r seq text fin).held.length) y.2) ((a5 r seq text fin).held.map pC)]) := by
 obtain ⟨Arh,Crh,hvrh⟩ := hl_r_heldV.form
 rw [List.length_map] at hvrh; subst hvrh
 have hnrh := hl_r_heldV.len; rw [List.length_map] at hnrh
 have hqrh := Sl.capLe hl_r_heldV
 refine cj (args := [.agg (a7 r (.slice Arh r.held.length Crh)).toArray,iI seq,.string text,.bool fin]) (fn := Try.f7) [aM (.slice Arh r.held.length Crh) 2 (r.held.map pC)] Try.func7 rfl Try.ntmps7 rfl (by simp only [List.mem_cons,List.not_mem_nil,or_false,forall_eq_or_imp,forall_eq]; exact ⟨rfl,hl_r_heldV⟩) ?_
 refine kQ <| dn [1,2,3,4,8] ⟨[(1,aI seq),(2,.v (.string text)),(3,aB fin),(4,.p 0 0),(8,.p 1 0)],[⟨28,a7 r (.slice Arh r.held.length Crh)⟩,⟨28,aC⟩],[],[aM (.slice Arh r.held.length Crh) 2 (r.held.map pC)]⟩ <| kQ <| kCD 1 [1,2,3,4,8,17] [(17,.v (.agg (a7 r (.slice Arh r.held.length Crh)).toArray))] 32 [.agg (a7 r (.slice Arh r.held.length Crh)).toArray] (some 18) rfl (dY fun ww hw hf => er r (.slice Arh r.held.length Crh) ww (hf _ m0) (by assumption) w.heap.size hw) ?_
 rintro ⟨v1a,v1c⟩
 refine kEA [1,2,3,4,8,9] [(9,.p 2 0)] [⟨28,a7 r (.slice v1a r.held.length v1c)⟩] <| kS <| kQ <| kCD 1 [1,2,3,4,8,9,19] [(19,.v (.agg (a7 r (.slice Arh r.held.length Crh)).toArray))] 33 [.agg (a7 r (.slice Arh r.held.length Crh)).toArray] (some 20) rfl (xc_b fun ww hf => ysReceiverOk_c r (.slice Arh r.held.length Crh) ww (hf _ m1) (by assumption) (by omega)) ?_
 intro _
 refine cp 2 [1,2,3,4,8,9,22] [(22,aB (!(rO r)))] <| kP 22 (!(rO r)) (fun h2 => ?_) (fun h2 => ?_)
 have h2n := du h2
 refine ai [1,2,3,4,8,9,25] [(25,aB true)] <| kT <| kQ <| kEU [8] [(8,.p 1 0)] 1 ⟨28,a7 r (.slice v1a r.held.length v1c)⟩ ?_
 refine kR ?_
 have hmod : a5 r seq text fin = r := by first | exact bo hrk (by assumption) (by rw [← hall,← hnf]; omega) | (unfold a5; rw [if_neg (by grind)]; done) | (unfold a5; rw [if_pos (by grind),← hall,← hnf,← hg2,← hfp]; first | (rw [if_pos (by omega)]; done) | (rw [if_neg (by omega),if_pos (by first | omega | simp_all)]; done) | (rw [if_neg (by omega),if_neg (by first | omega | simp_all)]; done))
 exact ⟨[.agg (a7 r (.slice v1a r.held.length v1c)).toArray],by kernel_rfl,fun w' hb hf ha => by rw [hmod]; exact xo1 ((v1a,v1c)) rfl rfl (pW (hf _ m0) hB) hb⟩
 have h2n := d2 h2
 have hrk := h2n
 obtain ⟨hf0,hf1,hf2,hf3,hf4,hheld⟩ := dR h2n
 have hwb := bW r
 have hN := dC r
 have hsqt := e7 seq (text.size : Int)
 refine ai [1,2,3,4,8,9,25] [(25,aB r.done)] <| kC (r.done) (fun h3 => ?_) (fun h3 => ?_)
 refine kQ <| kEU [8] [(8,.p 1 0)] 1 ⟨28,a7 r (.slice v1a r.held.length v1c)⟩ <| kR ?_
 have hmod : a5 r seq text fin = r := by first | exact bo hrk (by assumption) (by rw [← hall,← hnf]; omega) | (unfold a5; rw [if_neg (by grind)]; done) | (unfold a5; rw [if_pos (by grind),← hall,← hnf,← hg2,← hfp]; first | (rw [if_pos (by omega)]; done) | (rw [if_neg (by omega),if_pos (by first | omega | simp_all)]; done) | (rw [if_neg (by omega),if_neg (by first | omega | simp_all)]; done))
 exact ⟨[.agg (a7 r (.slice v1a r.held.length v1c)).toArray],by kernel_rfl,fun w' hb hf ha => by rw [hmod]; exact xo1 ((v1a,v1c)) rfl rfl (pW (hf _ m0) hB) hb⟩
 refine kK <| kQ <| kCD 1 [1,2,3,4,8,9,27] [(27,.v (.agg (a7 r (.slice Arh r.held.length Crh)).toArray))] 34 [.agg (a7 r (.slice Arh r.held.length Crh)).toArray] (some 28) rfl (xc_b fun ww hf => sWindowOf_c r.next r.data r.held (.slice Arh r.held.length Crh) r.fin r.done ww (by omega)) ?_
 intro _
 refine ai [1,2,3,4,8,9,10] [(10,aI (wO r))] <| kQ <| kCD 1 [1,2,3,4,8,9,10,29] [(29,.v (.agg (a7 r (.slice Arh r.held.length Crh)).toArray))] 35 [.agg (a7 r (.slice Arh r.held.length Crh)).toArray] (some 30) rfl (dY fun ww hw hf => yl18Slots_c r (.slice Arh r.held.length Crh) ww (hf _ m1) (by assumption) (by assumption) w.heap.size hw) ?_
 rintro ⟨v4a,v4c⟩
 refine ai [1,2,3,4,8,9,10,11] [(11,.v (.slice v4a ((ax r).length) v4c))] <| kS <| kQ <| ai [1,2,3,4,8,9,10,11,12] [(12,aI 0)] ?_
 refine au <| xw_know (φ := ∃ g,True → v4a = some ⟨g,0,none⟩) (fun _ _ _ _ hr => know_row hr (K := 1) (rs := (ax r).map aw) 0 rfl (j := 0) (row := aw ((ax r)[0]'(by omega))) (fun _ => by rw [List.getElem?_map,List.getElem?_eq_getElem (by omega)]; rfl)) ?_
 rintro ⟨gg,hgg⟩
 refine aN (α := {x : Nat × List Int // (fun (i : Nat) (sl : List Int) => i ≤ text.size ∧ sl.length = 33 ∧ sl = ck r seq text (ax r) i) x.1 x.2}) (fun x => (fun (i : Nat) (sl : List Int) => (⟨[(1,aI seq),(2,.v (.string text)),(3,aB fin),(4,.p 0 0),(8,.p 1 0),(9,.p 2 0),(10,aI (wO r)),(11,.v (.slice v4a ((ax r).length) v4c)),(12,aI (i : Int))],[⟨28,a7 r (.slice Arh r.held.length Crh)⟩,⟨28,aC⟩,⟨28,a7 r (.slice v1a r.held.length v1c)⟩],[],[a8 w.heap.size 3 1 (.slice v4a ((ax r).length) v4c) (sl.map aw),a8 w.heap.size 81 2 (.slice v1a r.held.length v1c) (r.held.map pC),aM (.slice Arh r.held.length Crh) 2 (r.held.map pC)]⟩ : St)) x.1.1 x.1.2) (fun x => (fun (i : Nat) (sl : List Int) => text.size - i) x.1.1 x.1.2) ⟨(0,(ax r)),⟨Nat.zero_le _,hN,rfl⟩⟩ (dG [0,1,2] <| kF 3 0 [1,2,3,4,8,9,10,11,12]) ?_
 rintro ⟨⟨i,sl⟩,hi,hl,HS⟩
 try dsimp only
 try dsimp only at hi hl HS
 refine kS <| kQ <| ba [1,2,3,4,8,9,10,11,12,34] [(1,aI seq),(2,.v (.string text)),(3,aB fin),(4,.p 0 0),(8,.p 1 0),(9,.p 2 0),(10,aI (wO r)),(11,.v (.slice v4a ((ax r).length) v4c)),(12,aI (i : Int)),(34,aB (decide ((i : Int) < (text.size : Int))))] <| kC (decide ((i : Int) < (text.size : Int))) (fun h5 => ?_) (fun h5 => ?_)
 have h5p := of_decide_eq_true h5
 have hlti : i < text.size := by simpa using h5
 have hbt := cQ text i
 have hsq := e7 seq (i : Int)
 refine kK <| kS <| au <| kS <| bZ [] (by kernel_rfl) (fun ρ σ => ?_)
 refine d4 [0,1,3,4] [41,38,37,1,2,3,4,8,9,10,11,12] 4 [(41,aI r.next),(38,aI (i : Int)),(37,aI seq),(1,aI seq),(2,.v (.string text)),(3,aB fin),(4,.p 0 0),(8,.p 1 0),(9,.p 2 0),(10,aI (wO r)),(11,.v (.slice v4a ((ax r).length) v4c)),(12,aI (i : Int))] <| kA [2] <| kSC 2 28 [iI seq,iI (i : Int)] (some 39) rfl (cI fun ww hf => cf seq (i : Int) ww ) ?_
 intro _
 refine d4 [5] [42,1,2,3,4,8,9,10,11,12] 2 [(42,aI (K6.wrap ((sA seq (i : Int)) - r.next))),(1,aI seq),(2,.v (.string text)),(3,aB fin),(4,.p 0 0),(8,.p 1 0),(9,.p 2 0),(10,aI (wO r)),(11,.v (.slice v4a ((ax r).length) v4c)),(12,aI (i : Int))] <| dF [42,1,2,3,4,8,9,10,11,12] [(42,aI (K6.wrap ((sA seq (i : Int)) - r.next)))] [(42,aI ((sA seq (i : Int)) - r.next))] (by rw [show (K6.wrap ((sA seq (i : Int)) - r.next)) = ((sA seq (i : Int)) - r.next) from az (by omega) (by omega)]) (by kernel_rfl) ?_
 refine kA [6] <| kSC 6 36 [iI ((sA seq (i : Int)) - r.next)] (some 43) rfl (cI fun ww hf => sRest_c ((sA seq (i : Int)) - r.next) ww ) ?_
 intro _
 refine dF [43,42,1,2,3,4,8,9,10,11,12] [(43,aI (((sA seq (i : Int)) - r.next) % 4294967296))] [(43,aI ((ae r seq i : Nat) : Int))] (by rw [show (((sA seq (i : Int)) - r.next) % 4294967296) = ((ae r seq i : Nat) : Int) from offN_eq r seq i]) (by kernel_rfl) ?_
 refine d4 [7] [13,1,2,3,4,8,9,10,11,12] 0 [(13,aI ((ae r seq i : Nat) : Int)),(1,aI seq),(2,.v (.string text)),(3,aB fin),(4,.p 0 0),(8,.p 1 0),(9,.p 2 0),(10,aI (wO r)),(11,.v (.slice v4a ((ax r).length) v4c)),(12,aI (i : Int))] <| kZ <| kQ <| cp 4 [1,2,3,4,8,9,10,11,12,13,47] [(47,aB (decide (((ae r seq i : Nat) : Int) < (wO r))))] ?_
 refine kP 47 (decide (((ae r seq i : Nat) : Int) < (wO r))) (fun h6 => ?_) (fun h6 => ?_)
 have h6p := of_decide_eq_true h6
 obtain ⟨x,hx⟩ : ∃ x,sl[ae r seq i]? = some x := ⟨_,List.getElem?_eq_getElem (by omega)⟩
 have hsx := slotAt_of hx
 refine cp 4 [1,2,3,4,8,9,10,11,12,13,47,51] [(47,aB true),(51,aB (decide (r.fin < 0)))] <| kP 51 (decide (r.fin < 0)) (fun h7 => ?_) (fun h7 => ?_)
 have h7p := of_decide_eq_true h7
 refine dZ 9 [1,2,3,4,8,9,10,11,12,13,58,59,60] [(58,aB true),(59,.v (.slice v4a ((ax r).length) v4c)),(60,aI ((ae r seq i : Nat) : Int))] (.pointer (some ⟨gg,(ae r seq i) * 1,none⟩)) rfl (fun _ _ _ ww hr => c6 (kd := .i64) (T := 72) (e := 3) (K := 1) (g := gg) (N := ((ax r).length)) (cap := v4c) (ae r seq i) (hgg trivial) hr.1 rfl rfl (by kernel_rfl) (by kernel_rfl) (by kernel_rfl) (by omega) ww) ?_
 refine dZ 0 [1,2,3,4,8,9,10,11,12,13,58,61] [] (iI x) rfl (fun _ _ _ ww hr => c9 (po := 0) (j := (ae r seq i)) (row := [iI x]) (a8 w.heap.size 3 1 (.slice v4a ((ax r).length) v4c) (sl.map aw)) hr rfl (by kernel_rfl) (by simp) (by simp only [List.getElem?_map,hx]; rfl) (by kernel_rfl) (hgg trivial) rfl rfl) ?_
 refine ai [1,2,3,4,8,9,10,11,12,13,64] [(64,aB (decide (x < 0)))] <| kC (decide (x < 0)) (fun h8 => ?_) (fun h8 => ?_)
 have h8p := of_decide_eq_true h8
 refine kG <| dZ 4 [1,2,3,4,8,9,10,11,12,65,66,67,68] [(65,.v (.slice v4a ((ax r).length) v4c)),(66,aI ((ae r seq i : Nat) : Int)),(67,.v (.string text)),(68,aI (i : Int))] (.int .u8 (ar text i)) rfl (fun _ _ _ ww hr => eo (kd := .i64) (t := text) i hr.1 rfl rfl (by kernel_rfl) (by kernel_rfl) hlti ww) ?_
 refine dZ 1 [1,2,3,4,8,9,10,11,12,65,66,70] [(70,aI (K6.wrap (ar text i)))] (.pointer (some ⟨gg,(ae r seq i) * 1,none⟩)) rfl (fun _ _ _ ww hr => c6 (kd := .i64) (T := 72) (e := 3) (K := 1) (g := gg) (N := ((ax r).length)) (cap := v4c) (ae r seq i) (hgg trivial) hr.1 rfl rfl (by kernel_rfl) (by kernel_rfl) (by kernel_rfl) (by omega) ww) ?_
 refine xl_hs 0 [1,2,3,4,8,9,10,11,12,70,71] ⟨[(1,aI seq),(2,.v (.string text)),(3,aB fin),(4,.p 0 0),(8,.p 1 0),(9,.p 2 0),(10,aI (wO r)),(11,.v (.slice v4a ((ax r).length) v4c)),(12,aI (i : Int)),(70,aI (K6.wrap (ar text i))),(71,.v (.pointer (some ⟨gg,(ae r seq i) * 1,none⟩)))],[⟨28,a7 r (.slice Arh r.held.length Crh)⟩,⟨28,aC⟩,⟨28,a7 r (.slice v1a r.held.length v1c)⟩],[],[a8 w.heap.size 3 1 (.slice v4a ((ax r).length) v4c) (sl.map aw),a8 w.heap.size 81 2 (.slice v1a r.held.length v1c) (r.held.map pC),aM (.slice Arh r.held.length Crh) 2 (r.held.map pC)]⟩ (by kernel_rfl) rfl (by kernel_rfl) rfl (by kernel_rfl) (HSg.hs (e5 (g := gg) (B := w.heap.size) (e := 3) (K := 1) (N := ((ax r).length)) (cap := v4c) (rs := (sl.map aw)) (rs' := (sl.set (ae r seq i) (K6.wrap (ar text i))).map aw) (v := (iI (K6.wrap (ar text i)))) (i := 0) (off := (ae r seq i) * 1) (ae r seq i) 0 [iI x] (row' := [iI (K6.wrap (ar text i))]) (hgg trivial) rfl (by kernel_rfl) rfl (by kernel_rfl) (by kernel_rfl) (by kernel_rfl) (by kernel_rfl) (Nat.le_refl _) (by simp only [List.getElem?_map,hx]; rfl) (by kernel_rfl) rfl (by rw [List.map_set]; rfl))) ?_
 refine kRS 0 [1,2,3,4,8,9,10,11,12] [(1,aI seq),(2,.v (.string text)),(3,aB fin),(4,.p 0 0),(8,.p 1 0),(9,.p 2 0),(10,aI (wO r)),(11,.v (.slice v4a ((ax r).length) v4c)),(12,aI (i : Int))] <| xl_eq (st' := ⟨[(1,aI seq),(2,.v (.string text)),(3,aB fin),(4,.p 0 0),(8,.p 1 0),(9,.p 2 0),(10,aI (wO r)),(11,.v (.slice v4a ((ax r).length) v4c)),(12,aI (i : Int))],[⟨28,a7 r (.slice Arh r.held.length Crh)⟩,⟨28,aC⟩,⟨28,a7 r (.slice v1a r.held.length v1c)⟩],[],[a8 w.heap.size 3 1 (.slice v4a ((ax r).length) v4c) ((sl.set (ae r seq i) (ar text i)).map aw),a8 w.heap.size 81 2 (.slice v1a r.held.length v1c) (r.held.map pC),aM (.slice Arh r.held.length Crh) 2 (r.held.map pC)]⟩) (by rw [show (K6.wrap (ar text i)) = (ar text i) from az (by omega) (by omega)] <;> rfl) ?_
 refine ai [1,2,3,4,8,9,10,11,12] [] <| kG <| cp 3 [1,2,3,4,8,9,10,11,12] [(12,aI (K6.wrap ((i : Int) + 1)))] <| bw [1,2,3,4,8,9,10,11,12] [(12,aI (K6.wrap ((i : Int) + 1)))] [(12,aI ((i : Int) + 1))] (by rw [show (K6.wrap ((i : Int) + 1)) = ((i : Int) + 1) from az (by omega) (by omega)]) (by kernel_rfl) ?_
 refine ai [1,2,3,4,8,9,10,11,12] [] ?_
 exact ⟨⟨(i + 1,(sl.set (ae r seq i) (ar text i))),⟨hlti,(by rw [List.length_set]; exact hl),(by rw [ck,← HS,bV]; first | (rw [if_pos (by refine ⟨by omega,by omega,?_⟩; rw [hsx]; omega)]) | (rw [if_neg (by intro hh; have hh1 := hh.1; have hh2 := hh.2.1; have hh3 := hh.2.2; (try rw [hsx] at hh3); omega)]))⟩⟩,kF 3 0 [1,2,3,4,8,9,10,11,12],by show (fun (i : Nat) (sl : List Int) => text.size - i) (i + 1) (sl.set (ae r seq i) (ar text i)) < text.size - i; (dsimp only; omega)⟩
 have h8p := of_decide_eq_false h8
 refine kK <| kG <| cp 3 [1,2,3,4,8,9,10,11,12] [(12,aI (K6.wrap ((i : Int) + 1)))] <| bw [1,2,3,4,8,9,10,11,12] [(12,aI (K6.wrap ((i : Int) + 1)))] [(12,aI ((i : Int) + 1))] (by rw [show (K6.wrap ((i : Int) + 1)) = ((i : Int) + 1) from az (by omega) (by omega)]) (by kernel_rfl) ?_
 refine ai [1,2,3,4,8,9,10,11,12] [] ?_
 exact ⟨⟨(i + 1,sl),⟨hlti,hl,(by rw [ck,← HS,bV]; first | (rw [if_pos (by refine ⟨by omega,by omega,?_⟩; rw [hsx]; omega)]) | (rw [if_neg (by intro hh; have hh1 := hh.1; have hh2 := hh.2.1; have hh3 := hh.2.2; (try rw [hsx] at hh3); omega)]))⟩⟩,kF 3 0 [1,2,3,4,8,9,10,11,12],by show (fun (i : Nat) (sl : List Int) => text.size - i) (i + 1) sl < text.size - i; (dsimp only; omega)⟩
 have h7p := of_decide_eq_false h7
 refine cp 7 [1,2,3,4,8,9,10,11,12,13,58] [(58,aB (decide (((ae r seq i : Nat) : Int) < r.fin)))] <| kP 58 (decide (((ae r seq i : Nat) : Int) < r.fin)) (fun h9 => ?_) (fun h9 => ?_)
 have h9p := of_decide_eq_true h9
 refine dZ 2 [1,2,3,4,8,9,10,11,12,13,58,59,60] [(58,aB true),(59,.v (.slice v4a ((ax r).length) v4c)),(60,aI ((ae r seq i : Nat) : Int))] (.pointer (some ⟨gg,(ae r seq i) * 1,none⟩)) rfl (fun _ _ _ ww hr => c6 (kd := .i64) (T := 72) (e := 3) (K := 1) (g := gg) (N := ((ax r).length)) (cap := v4c) (ae r seq i) (hgg trivial) hr.1 rfl rfl (by kernel_rfl) (by kernel_rfl) (by kernel_rfl) (by omega) ww) ?_
 refine dZ 0 [1,2,3,4,8,9,10,11,12,13,58,61] [] (iI x) rfl (fun _ _ _ ww hr => c9 (po := 0) (j := (ae r seq i)) (row := [iI x]) (a8 w.heap.size 3 1 (.slice v4a ((ax r).length) v4c) (sl.map aw)) hr rfl (by kernel_rfl) (by simp) (by simp only [List.getElem?_map,hx]; rfl) (by kernel_rfl) (hgg trivial) rfl rfl) ?_
 refine ai [1,2,3,4,8,9,10,11,12,13,64] [(64,aB (decide (x < 0)))] <| kC (decide (x < 0)) (fun h10 => ?_) (fun h10 => ?_)
 have h10p := of_decide_eq_true h10
 refine kG <| dZ 4 [1,2,3,4,8,9,10,11,12,65,66,67,68] [(65,.v (.slice v4a ((ax r).length) v4c)),(66,aI ((ae r seq i : Nat) : Int)),(67,.v (.string text)),(68,aI (i : Int))] (.int .u8 (ar text i)) rfl (fun _ _ _ ww hr => eo (kd := .i64) (t := text) i hr.1 rfl rfl (by kernel_rfl) (by kernel_rfl) hlti ww) ?_
 refine dZ 1 [1,2,3,4,8,9,10,11,12,65,66,70] [(70,aI (K6.wrap (ar text i)))] (.pointer (some ⟨gg,(ae r seq i) * 1,none⟩)) rfl (fun _ _ _ ww hr => c6 (kd := .i64) (T := 72) (e := 3) (K := 1) (g := gg) (N := ((ax r).length)) (cap := v4c) (ae r seq i) (hgg trivial) hr.1 rfl rfl (by kernel_rfl) (by kernel_rfl) (by kernel_rfl) (by omega) ww) ?_
 refine xl_hs 0 [1,2,3,4,8,9,10,11,12,70,71] ⟨[(1,aI seq),(2,.v (.string text)),(3,aB fin),(4,.p 0 0),(8,.p 1 0),(9,.p 2 0),(10,aI (wO r)),(11,.v (.slice v4a ((ax r).length) v4c)),(12,aI (i : Int)),(70,aI (K6.wrap (ar text i))),(71,.v (.pointer (some ⟨gg,(ae r seq i) * 1,none⟩)))],[⟨28,a7 r (.slice Arh r.held.length Crh)⟩,⟨28,aC⟩,⟨28,a7 r (.slice v1a r.held.length v1c)⟩],[],[a8 w.heap.size 3 1 (.slice v4a ((ax r).length) v4c) (sl.map aw),a8 w.heap.size 81 2 (.slice v1a r.held.length v1c) (r.held.map pC),aM (.slice Arh r.held.length Crh) 2 (r.held.map pC)]⟩ (by kernel_rfl) rfl (by kernel_rfl) rfl (by kernel_rfl) (HSg.hs (e5 (g := gg) (B := w.heap.size) (e := 3) (K := 1) (N := ((ax r).length)) (cap := v4c) (rs := (sl.map aw)) (rs' := (sl.set (ae r seq i) (K6.wrap (ar text i))).map aw) (v := (iI (K6.wrap (ar text i)))) (i := 0) (off := (ae r seq i) * 1) (ae r seq i) 0 [iI x] (row' := [iI (K6.wrap (ar text i))]) (hgg trivial) rfl (by kernel_rfl) rfl (by kernel_rfl) (by kernel_rfl) (by kernel_rfl) (by kernel_rfl) (Nat.le_refl _) (by simp only [List.getElem?_map,hx]; rfl) (by kernel_rfl) rfl (by rw [List.map_set]; rfl))) ?_
 refine kRS 0 [1,2,3,4,8,9,10,11,12] [(1,aI seq),(2,.v (.string text)),(3,aB fin),(4,.p 0 0),(8,.p 1 0),(9,.p 2 0),(10,aI (wO r)),(11,.v (.slice v4a ((ax r).length) v4c)),(12,aI (i : Int))] <| xl_eq (st' := ⟨[(1,aI seq),(2,.v (.string text)),(3,aB fin),(4,.p 0 0),(8,.p 1 0),(9,.p 2 0),(10,aI (wO r)),(11,.v (.slice v4a ((ax r).length) v4c)),(12,aI (i : Int))],[⟨28,a7 r (.slice Arh r.held.length Crh)⟩,⟨28,aC⟩,⟨28,a7 r (.slice v1a r.held.length v1c)⟩],[],[a8 w.heap.size 3 1 (.slice v4a ((ax r).length) v4c) ((sl.set (ae r seq i) (ar text i)).map aw),a8 w.heap.size 81 2 (.slice v1a r.held.length v1c) (r.held.map pC),aM (.slice Arh r.held.length Crh) 2 (r.held.map pC)]⟩) (by rw [show (K6.wrap (ar text i)) = (ar text i) from az (by omega) (by omega)] <;> rfl) ?_
 refine ai [1,2,3,4,8,9,10,11,12] [] <| kG <| cp 3 [1,2,3,4,8,9,10,11,12] [(12,aI (K6.wrap ((i : Int) + 1)))] <| bw [1,2,3,4,8,9,10,11,12] [(12,aI (K6.wrap ((i : Int) + 1)))] [(12,aI ((i : Int) + 1))] (by rw [show (K6.wrap ((i : Int) + 1)) = ((i : Int) + 1) from az (by omega) (by omega)]) (by kernel_rfl) ?_
 refine ai [1,2,3,4,8,9,10,11,12] [] ?_
 exact ⟨⟨(i + 1,(sl.set (ae r seq i) (ar text i))),⟨hlti,(by rw [List.length_set]; exact hl),(by rw [ck,← HS,bV]; first | (rw [if_pos (by refine ⟨by omega,by omega,?_⟩; rw [hsx]; omega)]) | (rw [if_neg (by intro hh; have hh1 := hh.1; have hh2 := hh.2.1; have hh3 := hh.2.2; (try rw [hsx] at hh3); omega)]))⟩⟩,kF 3 0 [1,2,3,4,8,9,10,11,12],by show (fun (i : Nat) (sl : List Int) => text.size - i) (i + 1) (sl.set (ae r seq i) (ar text i)) < text.size - i; (dsimp only; omega)⟩
 have h10p := of_decide_eq_false h10
 refine kK <| kG <| cp 3 [1,2,3,4,8,9,10,11,12] [(12,aI (K6.wrap ((i : Int) + 1)))] <| bw [1,2,3,4,8,9,10,11,12] [(12,aI (K6.wrap ((i : Int) + 1)))] [(12,aI ((i : Int) + 1))] (by rw [show (K6.wrap ((i : Int) + 1)) = ((i : Int) + 1) from az (by omega) (by omega)]) (by kernel_rfl) ?_
 refine ai [1,2,3,4,8,9,10,11,12] [] ?_
 exact ⟨⟨(i + 1,sl),⟨hlti,hl,(by rw [ck,← HS,bV]; first | (rw [if_pos (by refine ⟨by omega,by omega,?_⟩; rw [hsx]; omega)]) | (rw [if_neg (by intro hh; have hh1 := hh.1; have hh2 := hh.2.1; have hh3 := hh.2.2; (try rw [hsx] at hh3); omega)]))⟩⟩,kF 3 0 [1,2,3,4,8,9,10,11,12],by show (fun (i : Nat) (sl : List Int) => text.size - i) (i + 1) sl < text.size - i; (dsimp only; omega)⟩
 have h9p := of_decide_eq_false h9
 refine ai [1,2,3,4,8,9,10,11,12,13,64] [(64,aB false)] <| kN <| kK <| kG <| cp 3 [1,2,3,4,8,9,10,11,12] [(12,aI (K6.wrap ((i : Int) + 1)))] ?_
 refine bw [1,2,3,4,8,9,10,11,12] [(12,aI (K6.wrap ((i : Int) + 1)))] [(12,aI ((i : Int) + 1))] (by rw [show (K6.wrap ((i : Int) + 1)) = ((i : Int) + 1) from az (by omega) (by omega)]) (by kernel_rfl) ?_
 refine ai [1,2,3,4,8,9,10,11,12] [] ?_
 exact ⟨⟨(i + 1,sl),⟨hlti,hl,(by rw [ck,← HS,bV]; first | (rw [if_pos (by refine ⟨by omega,by omega,?_⟩; rw [hsx]; omega)]) | (rw [if_neg (by intro hh; have hh1 := hh.1; have hh2 := hh.2.1; have hh3 := hh.2.2; (try rw [hsx] at hh3); omega)]))⟩⟩,kF 3 0 [1,2,3,4,8,9,10,11,12],by show (fun (i : Nat) (sl : List Int) => text.size - i) (i + 1) sl < text.size - i; (dsimp only; omega)⟩
 have h6p := of_decide_eq_false h6
 refine ai [1,2,3,4,8,9,10,11,12,13,64] [(64,aB false)] <| kN <| kK <| kG <| cp 3 [1,2,3,4,8,9,10,11,12] [(12,aI (K6.wrap ((i : Int) + 1)))] ?_
 refine bw [1,2,3,4,8,9,10,11,12] [(12,aI (K6.wrap ((i : Int) + 1)))] [(12,aI ((i : Int) + 1))] (by rw [show (K6.wrap ((i : Int) + 1)) = ((i : Int) + 1) from az (by omega) (by omega)]) (by kernel_rfl) ?_
 refine ai [1,2,3,4,8,9,10,11,12] [] ?_
 exact ⟨⟨(i + 1,sl),⟨hlti,hl,(by rw [ck,← HS,bV]; first | (rw [if_pos (by refine ⟨by omega,by omega,?_⟩; rw [hsx]; omega)]) | (rw [if_neg (by intro hh; have hh1 := hh.1; have hh2 := hh.2.1; have hh3 := hh.2.2; (try rw [hsx] at hh3); omega)]))⟩⟩,kF 3 0 [1,2,3,4,8,9,10,11,12],by show (fun (i : Nat) (sl : List Int) => text.size - i) (i + 1) sl < text.size - i; (dsimp only; omega)⟩
 have h5p := of_decide_eq_false h5
 have hti : i = text.size := by simp at h5; omega
 subst hti
 have hall : sl = aj r seq text := HS
 have hby : ∀ x ∈ sl,x ≤ 255 := by rw [hall]; exact allIn_le _ _ _
 refine aQ <| kS <| bZ [] (by kernel_rfl) (fun ρ σ => ?_)
 refine d4 [0,1,2,4,5] [77,74,72,3,4,8,9,10,11] 4 [(77,aI r.next),(74,aI (text.size : Int)),(72,aI seq),(3,aB fin),(4,.p 0 0),(8,.p 1 0),(9,.p 2 0),(10,aI (wO r)),(11,.v (.slice v4a ((ax r).length) v4c))] <| kA [3] <| kSC 3 28 [iI seq,iI (text.size : Int)] (some 75) rfl (cI fun ww hf => cf seq (text.size : Int) ww ) ?_
 intro _
 refine d4 [6] [78,3,4,8,9,10,11] 2 [(78,aI (K6.wrap ((sA seq (text.size : Int)) - r.next))),(3,aB fin),(4,.p 0 0),(8,.p 1 0),(9,.p 2 0),(10,aI (wO r)),(11,.v (.slice v4a ((ax r).length) v4c))] <| dF [78,3,4,8,9,10,11] [(78,aI (K6.wrap ((sA seq (text.size : Int)) - r.next)))] [(78,aI ((sA seq (text.size : Int)) - r.next))] (by rw [show (K6.wrap ((sA seq (text.size : Int)) - r.next)) = ((sA seq (text.size : Int)) - r.next) from az (by omega) (by omega)]) (by kernel_rfl) ?_
 refine kA [7] <| kSC 7 36 [iI ((sA seq (text.size : Int)) - r.next)] (some 79) rfl (cI fun ww hf => sRest_c ((sA seq (text.size : Int)) - r.next) ww ) ?_
 intro _
 refine dF [79,78,3,4,8,9,10,11] [(79,aI (((sA seq (text.size : Int)) - r.next) % 4294967296))] [(79,aI ((ae r seq text.size : Nat) : Int))] (by rw [show (((sA seq (text.size : Int)) - r.next) % 4294967296) = ((ae r seq text.size : Nat) : Int) from offN_eq r seq text.size]) (by kernel_rfl) ?_
 refine d4 [8] [14,3,4,8,9,10,11] 0 [(14,aI ((ae r seq text.size : Nat) : Int)),(3,aB fin),(4,.p 0 0),(8,.p 1 0),(9,.p 2 0),(10,aI (wO r)),(11,.v (.slice v4a ((ax r).length) v4c))] <| kZ <| kS <| cH (α := {zz : Int // (fun (fo : Int) => fo = bk r seq text fin ∧ (-1 ≤ fo ∧ fo ≤ 32)) zz}) (fun zz => (fun (fo : Int) => (⟨[(4,.p 0 0),(8,.p 1 0),(9,.p 2 0),(11,.v (.slice v4a ((ax r).length) v4c))],[⟨28,a7 r (.slice Arh r.held.length Crh)⟩,⟨28,aC⟩,⟨28,a7 { r with fin := fo } (.slice v1a r.held.length v1c)⟩],[],[a8 w.heap.size 3 1 (.slice v4a ((ax r).length) v4c) (sl.map aw),a8 w.heap.size 81 2 (.slice v1a r.held.length v1c) (r.held.map pC),aM (.slice Arh r.held.length Crh) 2 (r.held.map pC)]⟩ : St)) zz.1) ?_ ?_
 refine kQ <| cp 2 [4,8,9,10,11,14,81] [(81,aB fin)] <| kP 81 (fin) (fun h11 => ?_) (fun h11 => ?_)
 refine cp 5 [4,8,9,10,11,14,86] [(86,aB (decide (r.fin < 0)))] <| kP 86 (decide (r.fin < 0)) (fun h12 => ?_) (fun h12 => ?_)
 have h12p := of_decide_eq_true h12
 refine cp 5 [4,8,9,11,14,91] [(91,aB (decide (((ae r seq text.size : Nat) : Int) ≤ (wO r))))] <| kP 91 (decide (((ae r seq text.size : Nat) : Int) ≤ (wO r))) (fun h13 => ?_) (fun h13 => ?_)
 have h13p := of_decide_eq_true h13
 refine kCD 2 [4,8,9,11,14,91,92,93] [(91,aB true),(92,.v (.slice v4a ((ax r).length) v4c)),(93,aI ((ae r seq text.size : Nat) : Int))] 37 [.slice v4a ((ax r).length) v4c,iI ((ae r seq text.size : Nat) : Int)] (some 94) rfl (xc_b fun ww hf => yl18Free_c sl (.slice v4a ((ax r).length) v4c) (ae r seq text.size : Nat) ww (aq (hf _ m0)) (by omega)) ?_
 intro _
 refine ai [4,8,9,11,14,95] [(95,aB (bm sl (ae r seq text.size : Nat)))] <| kC ((bm sl (ae r seq text.size : Nat))) (fun h14 => ?_) (fun h14 => ?_)
 refine kG <| kEU [4,8,9,11] [] 2 ⟨28,a7 { r with fin := ((ae r seq text.size : Nat) : Int) } (.slice v1a r.held.length v1c)⟩ ?_
 exact ⟨⟨(((ae r seq text.size : Nat) : Int)),⟨(by unfold bk; rw [← hall]; first | (simp [*]; done) | grind),(by first | omega | (have := hf3; omega))⟩⟩,kF 3 0 [4,8,9,11]⟩
 refine kK ?_
 exact ⟨⟨(r.fin),⟨(by unfold bk; rw [← hall]; first | (simp [*]; done) | grind),(by first | omega | (have := hf3; omega))⟩⟩,kF 3 0 [4,8,9,11]⟩
 have h13p := of_decide_eq_false h13
 refine ai [4,8,9,11,14,95] [(95,aB false)] <| kN <| kK ?_
 exact ⟨⟨(r.fin),⟨(by unfold bk; rw [← hall]; first | (simp [*]; done) | grind),(by first | omega | (have := hf3; omega))⟩⟩,kF 3 0 [4,8,9,11]⟩
 have h12p := of_decide_eq_false h12
 refine ai [4,8,9,11,14,95] [(95,aB false)] <| kN <| kK ?_
 exact ⟨⟨(r.fin),⟨(by unfold bk; rw [← hall]; first | (simp [*]; done) | grind),(by first | omega | (have := hf3; omega))⟩⟩,kF 3 0 [4,8,9,11]⟩
 refine ai [4,8,9,11,14,95] [(95,aB false)] <| kN <| kK ?_
 exact ⟨⟨(r.fin),⟨(by unfold bk; rw [← hall]; first | (simp [*]; done) | grind),(by first | omega | (have := hf3; omega))⟩⟩,kF 3 0 [4,8,9,11]⟩
 rintro ⟨fo,hfo,hfb⟩
 try dsimp only
 try dsimp only at hfo hfb
 refine kQ <| ai [4,8,9,11,15] [(15,aI 0)] <| kQ <| kHD 0 [4,8,9,11,15] [] rfl (bj (e := 5) (K := 1) (bytes := 1) [] (rs := ([] : List Int).map bR) rfl rfl) ?_
 intro g15
 refine ai [4,8,9,11,15,16] [(16,.v (.slice (some ⟨g15,0,none⟩) 0 0))] <| kS <| cH (α := {zz : Nat × List Int × Option Addr × Nat // (fun (n2 : Nat) (gt : List Int) (A2 : Option Addr) (c2 : Nat) => n2 = aS sl ∧ gt = sl.take n2 ∧ n2 ≤ 33) zz.1 zz.2.1 zz.2.2.1 zz.2.2.2}) (fun zz => (fun (n2 : Nat) (gt : List Int) (A2 : Option Addr) (c2 : Nat) => (⟨[(4,.p 0 0),(8,.p 1 0),(9,.p 2 0),(11,.v (.slice v4a ((ax r).length) v4c)),(15,aI (n2 : Int)),(16,.v (.slice A2 gt.length c2))],[⟨28,a7 r (.slice Arh r.held.length Crh)⟩,⟨28,aC⟩,⟨28,a7 { r with fin := fo } (.slice v1a r.held.length v1c)⟩],[],[a8 w.heap.size 5 1 (.slice A2 gt.length c2) (gt.map bR),a8 w.heap.size 3 1 (.slice v4a ((ax r).length) v4c) (sl.map aw),a8 w.heap.size 81 2 (.slice v1a r.held.length v1c) (r.held.map pC),aM (.slice Arh r.held.length Crh) 2 (r.held.map pC)]⟩ : St)) zz.1.1 zz.1.2.1 zz.1.2.2.1 zz.1.2.2.2) ?_ ?_
 refine au <| aN (α := {x : Nat × List Int × Option Addr × Nat // (fun (n2 : Nat) (gt : List Int) (A2 : Option Addr) (c2 : Nat) => n2 ≤ 33 ∧ gt = sl.take n2 ∧ (∀ x ∈ sl.take n2,0 ≤ x)) x.1 x.2.1 x.2.2.1 x.2.2.2}) (fun x => (fun (n2 : Nat) (gt : List Int) (A2 : Option Addr) (c2 : Nat) => (⟨[(4,.p 0 0),(8,.p 1 0),(9,.p 2 0),(11,.v (.slice v4a ((ax r).length) v4c)),(15,aI (n2 : Int)),(16,.v (.slice A2 gt.length c2))],[⟨28,a7 r (.slice Arh r.held.length Crh)⟩,⟨28,aC⟩,⟨28,a7 { r with fin := fo } (.slice v1a r.held.length v1c)⟩],[],[a8 w.heap.size 5 1 (.slice A2 gt.length c2) (gt.map bR),a8 w.heap.size 3 1 (.slice v4a ((ax r).length) v4c) (sl.map aw),a8 w.heap.size 81 2 (.slice v1a r.held.length v1c) (r.held.map pC),aM (.slice Arh r.held.length Crh) 2 (r.held.map pC)]⟩ : St)) x.1.1 x.1.2.1 x.1.2.2.1 x.1.2.2.2) (fun x => (fun (n2 : Nat) (gt : List Int) (A2 : Option Addr) (c2 : Nat) => 33 - n2) x.1.1 x.1.2.1 x.1.2.2.1 x.1.2.2.2) ⟨(0,([] : List Int),(some ⟨g15,0,none⟩),0),⟨Nat.zero_le _,rfl,(by simp)⟩⟩ (dG [0,1,2,3] <| kF 3 0 [4,8,9,11,15,16]) ?_
 rintro ⟨⟨n2,gt,A2,c2⟩,hn2,hg2,hps⟩
 try dsimp only
 try dsimp only at hn2 hg2 hps
 refine kS <| kQ <| cp 5 [4,8,9,11,15,16,103] [(103,aB (decide ((n2 : Int) < (((ax r).length : Nat) : Int))))] <| kP 103 (decide ((n2 : Int) < (((ax r).length : Nat) : Int))) (fun h16 => ?_) (fun h16 => ?_)
 have h16p := of_decide_eq_true h16
 have hlt2 : n2 < 33 := by simp at h16; omega
 obtain ⟨y,hy⟩ : ∃ y,sl[n2]? = some y := ⟨_,List.getElem?_eq_getElem (by omega)⟩
 have hy255 := hby y (List.mem_of_getElem? hy)
 have hgl : gt.length ≤ 33 := by rw [hg2,List.length_take]; omega
 refine dZ 2 [4,8,9,11,15,16,103,104,105] [(103,aB true),(104,.v (.slice v4a ((ax r).length) v4c)),(105,aI (n2 : Int))] (.pointer (some ⟨gg,n2 * 1,none⟩)) rfl (fun _ _ _ ww hr => c6 (kd := .i64) (T := 72) (e := 3) (K := 1) (g := gg) (N := ((ax r).length)) (cap := v4c) n2 (hgg trivial) hr.1 rfl rfl (by kernel_rfl) (by kernel_rfl) (by kernel_rfl) (by omega) ww) ?_
 refine dZ 0 [4,8,9,11,15,16,103,106] [] (iI y) rfl (fun _ _ _ ww hr => c9 (po := 0) (j := n2) (row := [iI y]) (a8 w.heap.size 3 1 (.slice v4a ((ax r).length) v4c) (sl.map aw)) hr rfl (by kernel_rfl) (by simp) (by simp only [List.getElem?_map,hy]; rfl) (by kernel_rfl) (hgg trivial) rfl rfl) ?_
 refine ai [4,8,9,11,15,16,109] [(109,aB (decide (y ≥ 0)))] <| kC (decide (y ≥ 0)) (fun h17 => ?_) (fun h17 => ?_)
 have h17p := of_decide_eq_true h17
 refine kK <| au <| kQ <| dZ 3 [4,8,9,11,15,16,110,111,112] [(110,.v (.slice A2 gt.length c2)),(111,.v (.slice v4a ((ax r).length) v4c)),(112,aI (n2 : Int))] (.pointer (some ⟨gg,n2 * 1,none⟩)) rfl (fun _ _ _ ww hr => c6 (kd := .i64) (T := 72) (e := 3) (K := 1) (g := gg) (N := ((ax r).length)) (cap := v4c) n2 (hgg trivial) hr.1 rfl rfl (by kernel_rfl) (by kernel_rfl) (by kernel_rfl) (by omega) ww) ?_
 refine dZ 0 [4,8,9,11,15,16,110,113] [] (iI y) rfl (fun _ _ _ ww hr => c9 (po := 0) (j := n2) (row := [iI y]) (a8 w.heap.size 3 1 (.slice v4a ((ax r).length) v4c) (sl.map aw)) hr rfl (by kernel_rfl) (by simp) (by simp only [List.getElem?_map,hy]; rfl) (by kernel_rfl) (hgg trivial) rfl rfl) ?_
 refine kHD 1 [4,8,9,11,15,16,110,115] [(115,.v (.int .u8 (IntKind.u8.wrap y)))] rfl (bj (e := 5) (K := 1) (bytes := 1) [.int .u8 (IntKind.u8.wrap y)] (rs := ([IntKind.u8.wrap y] : List Int).map bR) rfl rfl) ?_
 intro g18
 refine kHS 0 [4,8,9,11,15,16,110,116] [(4,.p 0 0),(8,.p 1 0),(9,.p 2 0),(11,.v (.slice v4a ((ax r).length) v4c)),(15,aI (n2 : Int)),(16,.v (.slice A2 gt.length c2)),(110,.v (.slice A2 gt.length c2)),(116,.v (.slice (some ⟨g18,0,none⟩) 1 1))] rfl (bT (e := 5) (K := 1) (bytes := 1) (i := 1) (q := (gt ++ ([IntKind.u8.wrap y] : List Int)).length) (new := ([IntKind.u8.wrap y] : List Int).map bR) (rs' := (gt ++ ([IntKind.u8.wrap y] : List Int)).map bR) rfl rfl rfl rfl (by kernel_rfl) (by kernel_rfl) (by kernel_rfl) rfl (by simp) (by rw [List.map_append]) (by simp) (fun ww hf => (aq (hf (a8 w.heap.size 5 1 (.slice (some ⟨g18,0,none⟩) 1 1) (([IntKind.u8.wrap y] : List Int).map bR)) (by simp)))) (by intro r hr; obtain ⟨x,hx,rfl⟩ := List.mem_map.1 hr; exact ⟨rfl,by simp [bR,Value.oneCell']⟩) (by (try simp only [List.length_map,List.length_append,List.length_cons,List.length_nil,List.length_take,List.length_drop,maxLen]); omega) (by (try simp only [List.length_map,List.length_append,List.length_cons,List.length_nil,List.length_take,List.length_drop,maxLen]); omega)) ?_
 rintro ⟨v19a,v19c⟩
 refine kRS 1 [4,8,9,11,15,16] [(4,.p 0 0),(8,.p 1 0),(9,.p 2 0),(11,.v (.slice v4a ((ax r).length) v4c)),(15,aI (n2 : Int)),(16,.v (.slice v19a ((gt ++ ([IntKind.u8.wrap y] : List Int)).length) v19c))] <| xl_eq (st' := ⟨[(4,.p 0 0),(8,.p 1 0),(9,.p 2 0),(11,.v (.slice v4a ((ax r).length) v4c)),(15,aI (n2 : Int)),(16,.v (.slice v19a ((gt ++ ([y] : List Int)).length) v19c))],[⟨28,a7 r (.slice Arh r.held.length Crh)⟩,⟨28,aC⟩,⟨28,a7 { r with fin := fo } (.slice v1a r.held.length v1c)⟩],[],[a8 w.heap.size 5 1 (.slice v19a ((gt ++ ([y] : List Int)).length) v19c) ((gt ++ ([y] : List Int)).map bR),a8 w.heap.size 5 1 (.slice (some ⟨g18,0,none⟩) 1 1) (([y] : List Int).map bR),a8 w.heap.size 3 1 (.slice v4a ((ax r).length) v4c) (sl.map aw),a8 w.heap.size 81 2 (.slice v1a r.held.length v1c) (r.held.map pC),aM (.slice Arh r.held.length Crh) 2 (r.held.map pC)]⟩) (by rw [show (IntKind.u8.wrap y) = y from u8_id (by omega) (by omega)] <;> rfl) ?_
 refine ai [4,8,9,11,15,16] [] <| kG <| cp 3 [4,8,9,11,15,16] [(15,aI (K6.wrap ((n2 : Int) + 1)))] <| bw [4,8,9,11,15,16] [(15,aI (K6.wrap ((n2 : Int) + 1)))] [(15,aI ((n2 : Int) + 1))] (by rw [show (K6.wrap ((n2 : Int) + 1)) = ((n2 : Int) + 1) from az (by omega) (by omega)]) (by kernel_rfl) ?_
 refine ai [4,8,9,11,15,16] [] ?_
 exact ⟨⟨(n2 + 1,(gt ++ ([y] : List Int)),v19a,v19c),⟨(by omega),(by rw [hg2,take_more hy]),(take_pos hps hy (by omega))⟩⟩,dG [0,2,3,4] <| kF 3 0 [4,8,9,11,15,16],by show (fun (n2 : Nat) (gt : List Int) (A2 : Option Addr) (c2 : Nat) => 33 - n2) (n2 + 1) (gt ++ ([y] : List Int)) v19a v19c < 33 - n2; (dsimp only; omega)⟩
 have h17p := of_decide_eq_false h17
 refine aQ ?_
 exact ⟨⟨(n2,gt,A2,c2),⟨(by first | exact (co (k := n2) (by omega) hps (fun z hz => by rw [hy] at hz; simp only [Option.some.injEq] at hz; omega)).symm | exact (co (k := n2) (by omega) hps (fun z hz => by rw [List.getElem?_eq_none (by omega)] at hz; simp at hz)).symm),hg2,hn2⟩⟩,kF 3 0 [4,8,9,11,15,16]⟩
 have h16p := of_decide_eq_false h16
 have hge2 : 33 ≤ n2 := by simp at h16; omega
 refine ai [4,8,9,11,15,16,109] [(109,aB false)] <| kN <| aQ ?_
 exact ⟨⟨(n2,gt,A2,c2),⟨(by first | exact (co (k := n2) (by omega) hps (fun z hz => by rw [hy] at hz; simp only [Option.some.injEq] at hz; omega)).symm | exact (co (k := n2) (by omega) hps (fun z hz => by rw [List.getElem?_eq_none (by omega)] at hz; simp at hz)).symm),hg2,hn2⟩⟩,kF 3 0 [4,8,9,11,15,16]⟩
 rintro ⟨⟨n2,gt,A2,c2⟩,hnf,hg2,hn2⟩
 try dsimp only
 try dsimp only at hnf hg2 hn2
 have hbl := ci gt
 have hgl : gt.length ≤ 33 := by rw [hg2,List.length_take]; omega
 refine kQ <| dZ 3 [4,8,9,11,15,121,122] [(121,.v (.string r.data)),(122,.v (.slice A2 gt.length c2))] (.string (a6 gt)) rfl (fun _ _ _ ww hr => aF (e := 5) gt hr.1 rfl (by kernel_rfl) (by kernel_rfl) (by kernel_rfl) rfl (aq (hr.2.fact (a8 w.heap.size 5 1 (.slice A2 gt.length c2) (gt.map bR)) (by simp)).1)) ?_
 refine dZ 0 [4,8,9,11,15,121,123] [] (.string (r.data ++ (a6 gt))) rfl (fun _ _ _ ww hr => bp hr.1 rfl (by kernel_rfl) (by kernel_rfl) (dk (by first | omega | (simp only [ByteArray.size_extract]; omega)) ww)) ?_
 refine kEU [4,8,9,11,15] [] 2 ⟨28,a7 { r with data := r.data ++ (a6 gt),fin := fo } (.slice v1a r.held.length v1c)⟩ <| kQ <| kCD 3 [4,8,9,11,15,127,128] [(127,aI r.next),(128,aI (n2 : Int))] 28 [iI r.next,iI (n2 : Int)] (some 129) rfl (cI fun ww hf => cf r.next (n2 : Int) ww ) ?_
 intro _
 refine kEU [4,8,9,11,15] [] 2 ⟨28,[iI (sA r.next (n2 : Int)),.string (r.data ++ (a6 gt)),.slice v1a r.held.length v1c,iI fo,.bool r.done]⟩ <| kQ <| kCD 2 [4,8,9,15,131,132] [(131,.v (.slice v4a ((ax r).length) v4c)),(132,aI (n2 : Int))] 38 [.slice v4a ((ax r).length) v4c,iI (n2 : Int)] (some 133) rfl (dY fun ww hw hf => yl18Pieces_c sl (.slice v4a ((ax r).length) v4c) n2 ww (aq (hf _ m1)) (by omega) (by omega) (by assumption) w.heap.size hw) ?_
 rintro ⟨v20a,v20c⟩
 refine kEU [4,8,9,15] [] 2 ⟨28,[iI (sA r.next (n2 : Int)),.string (r.data ++ (a6 gt)),.slice v20a ((ca [] 0 (sl.drop n2)).length) v20c,iI fo,.bool r.done]⟩ <| kS <| cH (α := {zz : Int // (fun (fp : Int) => fp = cd r seq text fin) zz}) (fun zz => (fun (fp : Int) => (⟨[(4,.p 0 0),(8,.p 1 0),(9,.p 2 0)],[⟨28,a7 r (.slice Arh r.held.length Crh)⟩,⟨28,aC⟩,⟨28,[iI (sA r.next (n2 : Int)),.string (r.data ++ (a6 gt)),.slice v20a ((ca [] 0 (sl.drop n2)).length) v20c,iI fp,.bool r.done]⟩],[],[a8 w.heap.size 81 2 (.slice v20a ((ca [] 0 (sl.drop n2)).length) v20c) ((ca [] 0 (sl.drop n2)).map pC),a8 w.heap.size 5 1 (.slice A2 gt.length c2) (gt.map bR),a8 w.heap.size 3 1 (.slice v4a ((ax r).length) v4c) (sl.map aw),a8 w.heap.size 81 2 (.slice v1a r.held.length v1c) (r.held.map pC),aM (.slice Arh r.held.length Crh) 2 (r.held.map pC)]⟩ : St)) zz.1) ?_ ?_
 refine kQ <| ba [4,8,9,15,137] [(4,.p 0 0),(8,.p 1 0),(9,.p 2 0),(15,aI (n2 : Int)),(137,aB (decide (fo ≥ 0)))] <| kC (decide (fo ≥ 0)) (fun h21 => ?_) (fun h21 => ?_)
 have h21p := of_decide_eq_true h21
 refine kG <| kRB 6 [4,8,9] [(4,.p 0 0),(8,.p 1 0),(9,.p 2 0)] [⟨28,a7 r (.slice Arh r.held.length Crh)⟩,⟨28,aC⟩,⟨28,[iI (sA r.next (n2 : Int)),.string (r.data ++ (a6 gt)),.slice v20a ((ca [] 0 (sl.drop n2)).length) v20c,iI (K6.wrap (fo - (n2 : Int))),.bool r.done]⟩] <| xl_eq (st' := ⟨[(4,.p 0 0),(8,.p 1 0),(9,.p 2 0)],[⟨28,a7 r (.slice Arh r.held.length Crh)⟩,⟨28,aC⟩,⟨28,[iI (sA r.next (n2 : Int)),.string (r.data ++ (a6 gt)),.slice v20a ((ca [] 0 (sl.drop n2)).length) v20c,iI (fo - (n2 : Int)),.bool r.done]⟩],[],[a8 w.heap.size 81 2 (.slice v20a ((ca [] 0 (sl.drop n2)).length) v20c) ((ca [] 0 (sl.drop n2)).map pC),a8 w.heap.size 5 1 (.slice A2 gt.length c2) (gt.map bR),a8 w.heap.size 3 1 (.slice v4a ((ax r).length) v4c) (sl.map aw),a8 w.heap.size 81 2 (.slice v1a r.held.length v1c) (r.held.map pC),aM (.slice Arh r.held.length Crh) 2 (r.held.map pC)]⟩) (by rw [show (K6.wrap (fo - (n2 : Int))) = (fo - (n2 : Int)) from az (by omega) (by omega)] <;> rfl) ?_
 refine ai [4,8,9] [] ?_
 exact ⟨⟨(fo - (n2 : Int)),(by unfold cd; rw [← hall,← hnf,← hfo]; first | rw [if_pos (by omega)] | rw [if_neg (by omega)])⟩,kF 3 0 [4,8,9]⟩
 have h21p := of_decide_eq_false h21
 refine kK ?_
 exact ⟨⟨(fo),(by unfold cd; rw [← hall,← hnf,← hfo]; first | rw [if_pos (by omega)] | rw [if_neg (by omega)])⟩,kF 3 0 [4,8,9]⟩
 rintro ⟨fp,hfp⟩
 try dsimp only
 try dsimp only at hfp
 refine kS <| kQ <| ba [4,8,9,145] [(4,.p 0 0),(8,.p 1 0),(9,.p 2 0),(145,aB (fp == 0))] <| kC (fp == 0) (fun h22 => ?_) (fun h22 => ?_)
 have h22p := eqT h22
 refine kQ <| kEU [4,8,9] [] 2 ⟨28,[iI (sA r.next (n2 : Int)),.string (r.data ++ (a6 gt)),.slice v20a ((ca [] 0 (sl.drop n2)).length) v20c,iI (-1),.bool r.done]⟩ <| kQ <| kEU [4,8,9] [] 2 ⟨28,[iI (sA r.next (n2 : Int)),.string (r.data ++ (a6 gt)),.slice v20a ((ca [] 0 (sl.drop n2)).length) v20c,iI (-1),.bool true]⟩ ?_
 refine kG <| kCD 2 [4,8,9,149] [(149,aI (sA r.next (n2 : Int)))] 28 [iI (sA r.next (n2 : Int)),iI 1] (some 150) rfl (cI fun ww hf => cf (sA r.next (n2 : Int)) 1 ww ) ?_
 intro _
 refine kEU [4,8,9] [] 2 ⟨28,[iI (sA (sA r.next (n2 : Int)) 1),.string (r.data ++ (a6 gt)),.slice v20a ((ca [] 0 (sl.drop n2)).length) v20c,iI (-1),.bool true]⟩ <| kS <| kQ <| ai [4,8,9,155] [(155,aB (decide ((((ca [] 0 (sl.drop n2)).length : Nat) : Int) > 3)))] ?_
 refine kC (decide ((((ca [] 0 (sl.drop n2)).length : Nat) : Int) > 3)) (fun h23 => ?_) (fun h23 => ?_)
 have h23p := of_decide_eq_true h23
 refine kQ <| kCD 1 [8,156] [(156,.v (.agg (a7 r (.slice Arh r.held.length Crh)).toArray))] 32 [.agg (a7 r (.slice Arh r.held.length Crh)).toArray] (some 157) rfl (dY fun ww hw hf => er r (.slice Arh r.held.length Crh) ww (hf _ m4) (by assumption) w.heap.size hw) ?_
 rintro ⟨v24a,v24c⟩
 refine kEU [8] [(8,.p 1 0)] 1 ⟨28,a7 r (.slice v24a r.held.length v24c)⟩ <| kR ?_
 have hmod : a5 r seq text fin = r := by first | exact bo hrk (by assumption) (by rw [← hall,← hnf]; omega) | (unfold a5; rw [if_neg (by grind)]; done) | (unfold a5; rw [if_pos (by grind),← hall,← hnf,← hg2,← hfp]; first | (rw [if_pos (by omega)]; done) | (rw [if_neg (by omega),if_pos (by first | omega | simp_all)]; done) | (rw [if_neg (by omega),if_neg (by first | omega | simp_all)]; done))
 exact ⟨[.agg (a7 r (.slice v24a r.held.length v24c)).toArray],by kernel_rfl,fun w' hb hf ha => by rw [hmod]; exact xo1 ((v24a,v24c)) rfl rfl (pW (hf _ m0) hB) hb⟩
 have h23p := of_decide_eq_false h23
 refine kK <| kQ <| kEU [8] [(8,.p 1 0)] 1 ⟨28,[iI (sA (sA r.next (n2 : Int)) 1),.string (r.data ++ (a6 gt)),.slice v20a ((ca [] 0 (sl.drop n2)).length) v20c,iI (-1),.bool true]⟩ <| kR ?_
 have hmod : a5 r seq text fin = (⟨sA (sA r.next (n2 : Int)) 1,r.data ++ (a6 gt),(ca [] 0 (sl.drop n2)),(-1),true⟩) := by first | exact bo hrk (by assumption) (by rw [← hall,← hnf]; omega) | (unfold a5; rw [if_neg (by grind)]; done) | (unfold a5; rw [if_pos (by grind),← hall,← hnf,← hg2,← hfp]; first | (rw [if_pos (by omega)]; done) | (rw [if_neg (by omega),if_pos (by first | omega | simp_all)]; done) | (rw [if_neg (by omega),if_neg (by first | omega | simp_all)]; done))
 exact ⟨[.agg #[iI (sA (sA r.next (n2 : Int)) 1),.string (r.data ++ (a6 gt)),.slice v20a ((ca [] 0 (sl.drop n2)).length) v20c,iI (-1),.bool true]],by kernel_rfl,fun w' hb hf ha => by rw [hmod]; exact xo1 ((v20a,v20c)) rfl rfl (pW (hf _ m0) hB) hb⟩
 have h22p := eqF h22
 refine kK <| kS <| kQ <| ai [4,8,9,155] [(155,aB (decide ((((ca [] 0 (sl.drop n2)).length : Nat) : Int) > 3)))] ?_
 refine kC (decide ((((ca [] 0 (sl.drop n2)).length : Nat) : Int) > 3)) (fun h25 => ?_) (fun h25 => ?_)
 have h25p := of_decide_eq_true h25
 refine kQ <| kCD 1 [8,156] [(156,.v (.agg (a7 r (.slice Arh r.held.length Crh)).toArray))] 32 [.agg (a7 r (.slice Arh r.held.length Crh)).toArray] (some 157) rfl (dY fun ww hw hf => er r (.slice Arh r.held.length Crh) ww (hf _ m4) (by assumption) w.heap.size hw) ?_
 rintro ⟨v26a,v26c⟩
 refine kEU [8] [(8,.p 1 0)] 1 ⟨28,a7 r (.slice v26a r.held.length v26c)⟩ <| kR ?_
 have hmod : a5 r seq text fin = r := by first | exact bo hrk (by assumption) (by rw [← hall,← hnf]; omega) | (unfold a5; rw [if_neg (by grind)]; done) | (unfold a5; rw [if_pos (by grind),← hall,← hnf,← hg2,← hfp]; first | (rw [if_pos (by omega)]; done) | (rw [if_neg (by omega),if_pos (by first | omega | simp_all)]; done) | (rw [if_neg (by omega),if_neg (by first | omega | simp_all)]; done))
 exact ⟨[.agg (a7 r (.slice v26a r.held.length v26c)).toArray],by kernel_rfl,fun w' hb hf ha => by rw [hmod]; exact xo1 ((v26a,v26c)) rfl rfl (pW (hf _ m0) hB) hb⟩
 have h25p := of_decide_eq_false h25
 refine kK <| kQ <| kEU [8] [(8,.p 1 0)] 1 ⟨28,[iI (sA r.next (n2 : Int)),.string (r.data ++ (a6 gt)),.slice v20a ((ca [] 0 (sl.drop n2)).length) v20c,iI fp,.bool r.done]⟩ <| kR ?_
 have hmod : a5 r seq text fin = (⟨sA r.next (n2 : Int),r.data ++ (a6 gt),(ca [] 0 (sl.drop n2)),fp,r.done⟩) := by first | exact bo hrk (by assumption) (by rw [← hall,← hnf]; omega) | (unfold a5; rw [if_neg (by grind)]; done) | (unfold a5; rw [if_pos (by grind),← hall,← hnf,← hg2,← hfp]; first | (rw [if_pos (by omega)]; done) | (rw [if_neg (by omega),if_pos (by first | omega | simp_all)]; done) | (rw [if_neg (by omega),if_neg (by first | omega | simp_all)]; done))
 exact ⟨[.agg #[iI (sA r.next (n2 : Int)),.string (r.data ++ (a6 gt)),.slice v20a ((ca [] 0 (sl.drop n2)).length) v20c,iI fp,.bool r.done]],by kernel_rfl,fun w' hb hf ha => by rw [hmod]; exact xo1 ((v20a,v20c)) rfl rfl (pW (hf _ m0) hB) hb⟩
theorem ysTakenIn_c (r : Rcv) (r_heldV : Value) (n : Int) (w : World) (hl_r_heldV : Sl w r_heldV 2 (r.held.map pC)) (hkn : r.held.length ≤ 1048576) (hm : ∀ p ∈ r.held, p.text.size ≤ 1048576) (hsz : r.data.size ≤ 4611686018427387904) (B : Nat) (hB : B ≤ w.heap.size) : Calls Try.prog 119 #[.agg (a7 r r_heldV).toArray, iI n] w fun e w' => XRs w w' e (α := Option Addr × Nat) (fun y => .tuple #[.agg (a7 (ay r n).1 (.slice y.1 ((ay r n).1.held.length) y.2)).toArray, .string ((ay r n).2)]) (fun y => [a8 B 81 2 (.slice y.1 ((ay r n).1.held.length) y.2) ((ay r n).1.held.map pC)]) := by
 obtain ⟨Arh,Crh,hvrh⟩ := hl_r_heldV.form
 rw [List.length_map] at hvrh; subst hvrh
 have hnrh := hl_r_heldV.len; rw [List.length_map] at hnrh
 have hqrh := Sl.capLe hl_r_heldV
 refine cj (args := [.agg (a7 r (.slice Arh r.held.length Crh)).toArray,iI n]) (fn := Try.f119) [aM (.slice Arh r.held.length Crh) 2 (r.held.map pC)] Try.func119 rfl Try.ntmps119 rfl (by simp only [List.mem_cons,List.not_mem_nil,or_false,forall_eq_or_imp,forall_eq]; exact ⟨rfl,hl_r_heldV⟩) ?_
 refine kQ <| dn [1,2,4] ⟨[(1,aI n),(2,.p 0 0),(4,.p 1 0)],[⟨28,a7 r (.slice Arh r.held.length Crh)⟩,⟨28,aC⟩],[],[aM (.slice Arh r.held.length Crh) 2 (r.held.map pC)]⟩ <| kQ <| kCS 1 [1,2,4,7] [(1,aI n),(2,.p 0 0),(4,.p 1 0),(7,.v (.agg (a7 r (.slice Arh r.held.length Crh)).toArray))] 32 [.agg (a7 r (.slice Arh r.held.length Crh)).toArray] (some 8) rfl (dY fun ww hw hf => er r (.slice Arh r.held.length Crh) ww (hf _ m0) (by assumption) w.heap.size hw) ?_
 rintro ⟨v1a,v1c⟩
 refine dn [1,2,4,6] ⟨[(1,aI n),(2,.p 0 0),(4,.p 1 0),(6,.p 2 0)],[⟨28,a7 r (.slice Arh r.held.length Crh)⟩,⟨28,aC⟩,⟨28,a7 r (.slice v1a r.held.length v1c)⟩],[],[a8 w.heap.size 81 2 (.slice v1a r.held.length v1c) (r.held.map pC),aM (.slice Arh r.held.length Crh) 2 (r.held.map pC)]⟩ <| kS <| kQ <| kCS 1 [1,2,4,6,9] [(1,aI n),(2,.p 0 0),(4,.p 1 0),(6,.p 2 0),(9,.v (.agg (a7 r (.slice Arh r.held.length Crh)).toArray))] 33 [.agg (a7 r (.slice Arh r.held.length Crh)).toArray] (some 10) rfl (xc_b fun ww hf => ysReceiverOk_c r (.slice Arh r.held.length Crh) ww (hf _ m1) (by assumption) (by omega)) ?_
 intro _
 refine ba [1,2,4,6,11] [(1,aI n),(2,.p 0 0),(4,.p 1 0),(6,.p 2 0),(11,aB (!(rO r)))] <| kC (!(rO r)) (fun h2 => ?_) (fun h2 => ?_)
 have h2n := du h2
 refine kQ <| dn [4,5] ⟨[(4,.p 1 0),(5,.v (.string (⟨#[]⟩ : ByteArray)))],[⟨28,a7 r (.slice Arh r.held.length Crh)⟩,⟨28,a7 r (.slice v1a r.held.length v1c)⟩,⟨28,a7 r (.slice v1a r.held.length v1c)⟩],[],[a8 w.heap.size 81 2 (.slice v1a r.held.length v1c) (r.held.map pC),aM (.slice Arh r.held.length Crh) 2 (r.held.map pC)]⟩ <| kR ?_
 have hmod : ay r n = (r,(⟨#[]⟩ : ByteArray)) := by first | rfl | (simp [ay,cut, *]; done) | grind [ay,cut]
 exact ⟨[.agg (a7 r (.slice v1a r.held.length v1c)).toArray,.string (⟨#[]⟩ : ByteArray)],by kernel_rfl,fun w' hb hf ha => by rw [hmod]; exact xo1 ((v1a,v1c)) rfl rfl (pW (hf _ m0) hB) hb⟩
 have h2n := d2 h2
 refine kK <| kQ <| kCS 4 [1,2,4,6,13,16] [(1,aI n),(2,.p 0 0),(4,.p 1 0),(6,.p 2 0),(13,aI n),(16,aI (r.data.size : Int))] 52 [iI n,iI (r.data.size : Int)] (some 17) rfl (cI fun ww hf => l1Min_c n (r.data.size : Int) ww ) ?_
 intro _
 refine kCS 0 [1,2,4,6,17] [(1,aI n),(2,.p 0 0),(4,.p 1 0),(6,.p 2 0),(17,aI (min n (r.data.size : Int)))] 53 [iI 0,iI (min n (r.data.size : Int))] (some 18) rfl (cI fun ww hf => l1Max_c 0 (min n (r.data.size : Int)) ww ) ?_
 intro _
 refine ba [1,2,4,6] [(1,aI (max 0 (min n (r.data.size : Int)))),(2,.p 0 0),(4,.p 1 0),(6,.p 2 0)] <| kQ <| kOS 3 [1,2,4,6,20,21] [(1,aI (max 0 (min n (r.data.size : Int)))),(2,.p 0 0),(4,.p 1 0),(6,.p 2 0),(20,.v (.string r.data)),(21,aI (max 0 (min n (r.data.size : Int))))] (.string (r.data.extract (max 0 (min n (r.data.size : Int))).toNat r.data.size)) rfl (fun _ _ _ ww hr => act_slSe (max 0 (min n (r.data.size : Int))) hr.1 rfl (by kernel_rfl) rfl rfl (by omega) (by omega) ww) ?_
 refine dn [1,2,4,6] ⟨[(1,aI (max 0 (min n (r.data.size : Int)))),(2,.p 0 0),(4,.p 1 0),(6,.p 2 0)],[⟨28,a7 r (.slice Arh r.held.length Crh)⟩,⟨28,aC⟩,⟨28,a7 { r with data := r.data.extract (max 0 (min n (r.data.size : Int))).toNat r.data.size } (.slice v1a r.held.length v1c)⟩],[],[a8 w.heap.size 81 2 (.slice v1a r.held.length v1c) (r.held.map pC),aM (.slice Arh r.held.length Crh) 2 (r.held.map pC)]⟩ <| kS <| dS [true,false,true] (by kernel_rfl) (fun ρ σ => ?_)
 refine d4 [0,1,2,3] [27,26,24,4] 3 [(27,aI (max 0 (min n (r.data.size : Int)))),(26,.v (.string r.data)),(24,.v (.agg (a7 { r with data := r.data.extract (max 0 (min n (r.data.size : Int))).toNat r.data.size } (.slice v1a r.held.length v1c)).toArray)),(4,.p 1 0)] <| kX 4 (.string (r.data.extract 0 (max 0 (min n (r.data.size : Int))).toNat)) rfl (fun _ _ ww hA => act_slS0 (max 0 (min n (r.data.size : Int))) hA rfl (by kernel_rfl) rfl rfl (by omega) (by omega) ww) ?_
 refine kA [5] <| kSS 5 1 0 (a7 { r with data := r.data.extract (max 0 (min n (r.data.size : Int))).toNat r.data.size } (.slice v1a r.held.length v1c)) rfl <| d4 [6] [5,4] 0 [(5,.v (.string (r.data.extract 0 (max 0 (min n (r.data.size : Int))).toNat))),(4,.p 1 0)] <| kZ <| kR ?_
 have hmod : ay r n = (({ r with data := r.data.extract (max 0 (min n (r.data.size : Int))).toNat r.data.size }),(r.data.extract 0 (max 0 (min n (r.data.size : Int))).toNat)) := by first | rfl | (simp [ay,cut, *]; done) | grind [ay,cut]
 exact ⟨[.agg (a7 { r with data := r.data.extract (max 0 (min n (r.data.size : Int))).toNat r.data.size } (.slice v1a r.held.length v1c)).toArray,.string (r.data.extract 0 (max 0 (min n (r.data.size : Int))).toNat)],by kernel_rfl,fun w' hb hf ha => by rw [hmod]; exact xo1 ((v1a,v1c)) rfl rfl (pW (hf _ m0) hB) hb⟩
theorem yiTakenIn_c (r : Rcv) (r_heldV : Value) (n : Int) (w : World) (hl_r_heldV : Sl w r_heldV 2 (r.held.map pC)) (hkn : r.held.length ≤ 1048576) (hm : ∀ p ∈ r.held, p.text.size ≤ 1048576) (hsz : r.data.size ≤ 4611686018427387904) (B : Nat) (hB : B ≤ w.heap.size) : Calls Try.prog 29 #[.agg (a7 r r_heldV).toArray, iI n] w fun e w' => XRs w w' e (α := Option Addr × Nat) (fun y => .tuple #[.agg (a7 (ay r n).1 (.slice y.1 ((ay r n).1.held.length) y.2)).toArray, .string ((ay r n).2)]) (fun y => [br B (.slice y.1 ((ay r n).1.held.length) y.2) 2 ((ay r n).1.held.map pC)]) := by
 obtain ⟨Arh,Crh,hvrh⟩ := hl_r_heldV.form
 rw [List.length_map] at hvrh; subst hvrh
 have hnrh := hl_r_heldV.len; rw [List.length_map] at hnrh
 have hqrh := Sl.capLe hl_r_heldV
 refine cj (args := [.agg (a7 r (.slice Arh r.held.length Crh)).toArray,iI n]) (fn := Try.f29) [aM (.slice Arh r.held.length Crh) 2 (r.held.map pC)] Try.func29 rfl Try.ntmps29 rfl (by simp only [List.mem_cons,List.not_mem_nil,or_false,forall_eq_or_imp,forall_eq]; exact ⟨rfl,hl_r_heldV⟩) ?_
 refine kQ <| dn [1,2,4] ⟨[(1,aI n),(2,.p 0 0),(4,.p 1 0)],[⟨28,a7 r (.slice Arh r.held.length Crh)⟩,⟨28,aC⟩],[],[aM (.slice Arh r.held.length Crh) 2 (r.held.map pC)]⟩ <| kQ <| kCS 1 [1,2,4,7] [(1,aI n),(2,.p 0 0),(4,.p 1 0),(7,.v (.agg (a7 r (.slice Arh r.held.length Crh)).toArray))] 40 [.agg (a7 r (.slice Arh r.held.length Crh)).toArray] (some 8) rfl (dY fun ww hw hf => ew r (.slice Arh r.held.length Crh) ww (hf _ m0) (by assumption) w.heap.size hw) ?_
 rintro ⟨v1a,v1c⟩
 refine dn [1,2,4,6] ⟨[(1,aI n),(2,.p 0 0),(4,.p 1 0),(6,.p 2 0)],[⟨28,a7 r (.slice Arh r.held.length Crh)⟩,⟨28,aC⟩,⟨28,a7 r (.slice v1a r.held.length v1c)⟩],[],[br w.heap.size (.slice v1a r.held.length v1c) 2 (r.held.map pC),aM (.slice Arh r.held.length Crh) 2 (r.held.map pC)]⟩ <| kS <| kQ <| kCS 1 [1,2,4,6,9] [(1,aI n),(2,.p 0 0),(4,.p 1 0),(6,.p 2 0),(9,.v (.agg (a7 r (.slice Arh r.held.length Crh)).toArray))] 30 [.agg (a7 r (.slice Arh r.held.length Crh)).toArray] (some 10) rfl (xc_b fun ww hf => dM r (.slice Arh r.held.length Crh) ww (hf _ m1) (by assumption) (by omega)) ?_
 intro _
 refine ba [1,2,4,6,11] [(1,aI n),(2,.p 0 0),(4,.p 1 0),(6,.p 2 0),(11,aB (!(rO r)))] <| kC (!(rO r)) (fun h2 => ?_) (fun h2 => ?_)
 have h2n := du h2
 refine kQ <| dn [4,5] ⟨[(4,.p 1 0),(5,.v (.string (⟨#[]⟩ : ByteArray)))],[⟨28,a7 r (.slice Arh r.held.length Crh)⟩,⟨28,a7 r (.slice v1a r.held.length v1c)⟩,⟨28,a7 r (.slice v1a r.held.length v1c)⟩],[],[br w.heap.size (.slice v1a r.held.length v1c) 2 (r.held.map pC),aM (.slice Arh r.held.length Crh) 2 (r.held.map pC)]⟩ <| kR ?_
 have hmod : ay r n = (r,(⟨#[]⟩ : ByteArray)) := by first | rfl | (simp [ay,cut, *]; done) | grind [ay,cut]
 exact ⟨[.agg (a7 r (.slice v1a r.held.length v1c)).toArray,.string (⟨#[]⟩ : ByteArray)],by kernel_rfl,fun w' hb hf ha => by rw [hmod]; exact xo1 ((v1a,v1c)) rfl rfl (pO (hf _ m0) hB) hb⟩
 have h2n := d2 h2
 refine kK <| kQ <| ba [1,2,4,6] [(1,aI (if 0 < (if (r.data.size : Int) < n then (r.data.size : Int) else n) then if (r.data.size : Int) < n then (r.data.size : Int) else n else 0)),(2,.p 0 0),(4,.p 1 0),(6,.p 2 0)] <| kQ <| kOS 3 [1,2,4,6,20,21] [(1,aI (if 0 < (if (r.data.size : Int) < n then (r.data.size : Int) else n) then if (r.data.size : Int) < n then (r.data.size : Int) else n else 0)),(2,.p 0 0),(4,.p 1 0),(6,.p 2 0),(20,.v (.string r.data)),(21,aI (if 0 < (if (r.data.size : Int) < n then (r.data.size : Int) else n) then if (r.data.size : Int) < n then (r.data.size : Int) else n else 0))] (.string (r.data.extract (if 0 < (if (r.data.size : Int) < n then (r.data.size : Int) else n) then if (r.data.size : Int) < n then (r.data.size : Int) else n else 0).toNat r.data.size)) rfl (fun _ _ _ ww hr => act_slSe (if 0 < (if (r.data.size : Int) < n then (r.data.size : Int) else n) then if (r.data.size : Int) < n then (r.data.size : Int) else n else 0) hr.1 rfl (by kernel_rfl) rfl rfl (by omega) (by omega) ww) ?_
 refine dn [1,2,4,6] ⟨[(1,aI (if 0 < (if (r.data.size : Int) < n then (r.data.size : Int) else n) then if (r.data.size : Int) < n then (r.data.size : Int) else n else 0)),(2,.p 0 0),(4,.p 1 0),(6,.p 2 0)],[⟨28,a7 r (.slice Arh r.held.length Crh)⟩,⟨28,aC⟩,⟨28,a7 { r with data := r.data.extract (if 0 < (if (r.data.size : Int) < n then (r.data.size : Int) else n) then if (r.data.size : Int) < n then (r.data.size : Int) else n else 0).toNat r.data.size } (.slice v1a r.held.length v1c)⟩],[],[br w.heap.size (.slice v1a r.held.length v1c) 2 (r.held.map pC),aM (.slice Arh r.held.length Crh) 2 (r.held.map pC)]⟩ <| kS <| dS [true,false,true] (by kernel_rfl) (fun ρ σ => ?_)
 refine d4 [0,1,2,3] [27,26,24,4] 3 [(27,aI (if 0 < (if (r.data.size : Int) < n then (r.data.size : Int) else n) then if (r.data.size : Int) < n then (r.data.size : Int) else n else 0)),(26,.v (.string r.data)),(24,.v (.agg (a7 { r with data := r.data.extract (if 0 < (if (r.data.size : Int) < n then (r.data.size : Int) else n) then if (r.data.size : Int) < n then (r.data.size : Int) else n else 0).toNat r.data.size } (.slice v1a r.held.length v1c)).toArray)),(4,.p 1 0)] <| kX 4 (.string (r.data.extract 0 (if 0 < (if (r.data.size : Int) < n then (r.data.size : Int) else n) then if (r.data.size : Int) < n then (r.data.size : Int) else n else 0).toNat)) rfl (fun _ _ ww hA => act_slS0 (if 0 < (if (r.data.size : Int) < n then (r.data.size : Int) else n) then if (r.data.size : Int) < n then (r.data.size : Int) else n else 0) hA rfl (by kernel_rfl) rfl rfl (by omega) (by omega) ww) ?_
 refine kA [5] <| kSS 5 1 0 (a7 { r with data := r.data.extract (if 0 < (if (r.data.size : Int) < n then (r.data.size : Int) else n) then if (r.data.size : Int) < n then (r.data.size : Int) else n else 0).toNat r.data.size } (.slice v1a r.held.length v1c)) rfl <| d4 [6] [5,4] 0 [(5,.v (.string (r.data.extract 0 (if 0 < (if (r.data.size : Int) < n then (r.data.size : Int) else n) then if (r.data.size : Int) < n then (r.data.size : Int) else n else 0).toNat))),(4,.p 1 0)] <| kZ <| kR ?_
 have hmod : ay r n = (({ r with data := r.data.extract (if 0 < (if (r.data.size : Int) < n then (r.data.size : Int) else n) then if (r.data.size : Int) < n then (r.data.size : Int) else n else 0).toNat r.data.size }),(r.data.extract 0 (if 0 < (if (r.data.size : Int) < n then (r.data.size : Int) else n) then if (r.data.size : Int) < n then (r.data.size : Int) else n else 0).toNat)) := by first | rfl | (simp [ay,cut, *]; done) | grind [ay,cut]
 exact ⟨[.agg (a7 { r with data := r.data.extract (if 0 < (if (r.data.size : Int) < n then (r.data.size : Int) else n) then if (r.data.size : Int) < n then (r.data.size : Int) else n else 0).toNat r.data.size } (.slice v1a r.held.length v1c)).toArray,.string (r.data.extract 0 (if 0 < (if (r.data.size : Int) < n then (r.data.size : Int) else n) then if (r.data.size : Int) < n then (r.data.size : Int) else n else 0).toNat)],by kernel_rfl,fun w' hb hf ha => by rw [hmod]; exact xo1 ((v1a,v1c)) rfl rfl (pO (hf _ m0) hB) hb⟩
theorem ysReceiverNew_c (n : Int) (w : World)  (B : Nat) (hB : B ≤ w.heap.size) : Calls Try.prog 118 #[iI n] w fun e w' => XRs w w' e (α := Option Addr × Nat) (fun y => .agg (a7 (rN n) (.slice y.1 ((rN n).held.length) y.2)).toArray) (fun y => [a8 B 81 2 (.slice y.1 ((rN n).held.length) y.2) ((rN n).held.map pC)]) := by
 refine cj (args := [iI n]) (fn := Try.f118) [] Try.func118 rfl Try.ntmps118 rfl (by simp) ?_
 refine kQ <| dn [0,2] ⟨[(0,aI n),(2,.p 0 0)],[⟨28,aC⟩],[],[]⟩ <| kQ <| kCS 1 [2,3] [(2,.p 0 0),(3,aI n)] 36 [iI n] (some 4) rfl (cI fun ww hf => sRest_c n ww ) ?_
 intro _
 refine kOS 0 [2,4] [(2,.p 0 0),(4,aI (n % 4294967296))] (.agg #[iI (n % 4294967296),.string (⟨#[]⟩ : ByteArray),.slice none 0 0,iI (-1),.bool false]) rfl (fun _ _ _ ww hr => cw [(0,iI (n % 4294967296)),(3,iI (-1))] hr.1 rfl (by kernel_rfl) (by kernel_rfl) ww) ?_
 refine dn [2] ⟨[(2,.p 0 0)],[⟨28,[iI (n % 4294967296),.string (⟨#[]⟩ : ByteArray),.slice none 0 0,iI (-1),.bool false]⟩],[],[]⟩ <| kR ?_
 have hmod : rN n = (⟨n % 4294967296,(⟨#[]⟩ : ByteArray),[],(-1),false⟩) := by first | rfl | (simp [rN,sA]; done)
 exact ⟨[.agg #[iI (n % 4294967296),.string (⟨#[]⟩ : ByteArray),.slice none 0 0,iI (-1),.bool false]],by kernel_rfl,fun w' hb hf ha => by rw [hmod]; exact xo1 ((none,0)) rfl rfl ⟨rowF_nil _ _ _ _,fun b hb => (nilF_b _ _ _ _ hb).elim⟩ hb⟩
theorem yiReceiverNew_c (n : Int) (w : World)  (B : Nat) (hB : B ≤ w.heap.size) : Calls Try.prog 24 #[iI n] w fun e w' => XRs w w' e (α := Option Addr × Nat) (fun y => .agg (a7 (rN n) (.slice y.1 ((rN n).held.length) y.2)).toArray) (fun y => [br B (.slice y.1 ((rN n).held.length) y.2) 2 ((rN n).held.map pC)]) := by
 refine cj (args := [iI n]) (fn := Try.f24) [] Try.func24 rfl Try.ntmps24 rfl (by simp) ?_
 refine kQ <| dn [0,2] ⟨[(0,aI n),(2,.p 0 0)],[⟨28,aC⟩],[],[]⟩ <| kQ <| kCS 1 [2,3] [(2,.p 0 0),(3,aI n)] 26 [iI n,iI 0] (some 4) rfl (cI fun ww hf => cu n 0 ww ) ?_
 intro _
 refine kOS 0 [2,4] [(2,.p 0 0),(4,aI (sA n 0))] (.agg #[iI (sA n 0),.string (⟨#[]⟩ : ByteArray),.slice none 0 0,iI (-1),.bool false]) rfl (fun _ _ _ ww hr => cw [(0,iI (sA n 0)),(3,iI (-1))] hr.1 rfl (by kernel_rfl) (by kernel_rfl) ww) ?_
 refine dn [2] ⟨[(2,.p 0 0)],[⟨28,[iI (sA n 0),.string (⟨#[]⟩ : ByteArray),.slice none 0 0,iI (-1),.bool false]⟩],[],[]⟩ <| kR ?_
 have hmod : rN n = (⟨sA n 0,(⟨#[]⟩ : ByteArray),[],(-1),false⟩) := by first | rfl | (simp [rN,sA]; done)
 exact ⟨[.agg #[iI (sA n 0),.string (⟨#[]⟩ : ByteArray),.slice none 0 0,iI (-1),.bool false]],by kernel_rfl,fun w' hb hf ha => by rw [hmod]; exact xo1 ((none,0)) rfl rfl ⟨.inl ⟨rfl,_,rfl⟩,fun b hb => (hb.1 rfl).elim⟩ hb⟩
theorem l1New_c (J : List Int) (A : Option Addr) (cap : Nat) (w : World) (hl : Sl w (sJ A J cap) 1 (J.map bR)) (hn : J.length ≤ 1048576) : Calls Try.prog 71 #[.slice A J.length cap] w fun e w' => ∃ y : {g : Nat // ¬ (sQ A J cap).blk g}, e = .returned (gP y.1) ∧ (dB w.heap.size y.1 123 (sJ A J cap) J.length).p w' ∧ Below w.heap.size w w' := by
 have hq_code := Sl.capLe hl
 refine dz (args := [.slice A J.length cap]) (fn := Try.f71) [sQ A J cap] Try.func71 rfl Try.ntmps71 rfl (by simp only [List.mem_cons,List.not_mem_nil,or_false,forall_eq]; exact ⟨rfl,hl⟩) ?_
 refine kQ <| dn [0] ⟨[(0,.v (sJ A J cap))],[],[],[sQ A J cap]⟩ <| kQ <| ai [0,3] [(3,aI (K6.wrap (28655 + ((J.length : Nat) : Int))))] ?_
 refine kS <| kQ <| ai [0,3,4] [(4,aI 0)] <| au <| aN (α := {x : Nat × Int // (fun (i : Nat) (h : Int) => i ≤ J.length) x.1 x.2}) (fun x => (fun (i : Nat) (h : Int) => (⟨[(0,.v (sJ A J cap)),(3,aI h),(4,aI (i : Int))],[],[],[sQ A J cap]⟩ : St)) x.1.1 x.1.2) (fun x => (fun (i : Nat) (h : Int) => J.length - i) x.1.1 x.1.2) ⟨(0,K6.wrap (28655 + ((J.length : Nat) : Int))),Nat.zero_le _⟩ (kF 0 0 [0,3,4]) ?_
 rintro ⟨⟨i,h⟩,hi⟩
 try dsimp only
 try dsimp only at hi
 refine kS <| kQ <| cp 5 [0,3,4,12] [(12,aB (decide ((i : Int) < ((J.length : Nat) : Int))))] <| kP 12 (decide ((i : Int) < ((J.length : Nat) : Int))) (fun h1 => ?_) (fun h1 => ?_)
 have h1p := of_decide_eq_true h1
 have hlt : i < J.length := by simpa using h1
 obtain ⟨z,hz⟩ : ∃ z,J[i]? = some z := ⟨_,List.getElem?_eq_getElem hlt⟩
 refine ai [0,3,4,15] [(15,aB (decide ((i : Int) < 4000)))] <| kC (decide ((i : Int) < 4000)) (fun h2 => ?_) (fun h2 => ?_)
 have h2p := of_decide_eq_true h2
 refine kK <| kS <| au <| kG <| cK (kd := .i64) (T := 59) (e := 5) (K := 1) 4 [0,3,4,19,20,21] [(19,aI (K6.wrap (h * 131))),(20,.v (sJ A J cap)),(21,aI (i : Int))] i [.int .u8 z] (sQ A J cap) (by kernel_rfl) rfl (by kernel_rfl) rfl rfl (by kernel_rfl) (by kernel_rfl) (by kernel_rfl) (by kernel_rfl) hlt (by simp) (fun w h => h) (fun b h => h) (by simp only [List.getElem?_map,hz]; rfl) ?_
 refine ai [0,3,4] [(3,aI (K6.wrap (BitVec.ofInt 64 (K6.wrap ((K6.wrap ((K6.wrap (h * 131)) + (K6.wrap z))) + 7)) &&& BitVec.ofInt 64 1073741823).toNat))] <| kG <| cp 3 [0,3,4] [(4,aI (K6.wrap ((i : Int) + 1)))] <| bw [0,3,4] [(4,aI (K6.wrap ((i : Int) + 1)))] [(4,aI ((i : Int) + 1))] (by rw [show (K6.wrap ((i : Int) + 1)) = ((i : Int) + 1) from az (by omega) (by omega)]) (by kernel_rfl) ?_
 refine ai [0,3,4] [] ?_
 exact ⟨⟨(i + 1,K6.wrap (BitVec.ofInt 64 (K6.wrap ((K6.wrap ((K6.wrap (h * 131)) + (K6.wrap z))) + 7)) &&& BitVec.ofInt 64 1073741823).toNat),hlt⟩,kF 0 0 [0,3,4],by show (fun (i : Nat) (h : Int) => J.length - i) (i + 1) (K6.wrap (BitVec.ofInt 64 (K6.wrap ((K6.wrap ((K6.wrap (h * 131)) + (K6.wrap z))) + 7)) &&& BitVec.ofInt 64 1073741823).toNat) < J.length - i; (dsimp only; omega)⟩
 have h2p := of_decide_eq_false h2
 refine aQ <| kQ <| kOS 2 [28,29] [(28,.v (sJ A J cap)),(29,aI h)] (.agg #[.slice A J.length cap,iI 0,iI h]) rfl (fun _ _ _ ww hr => cw [(0,.slice A J.length cap),(2,iI h)] hr.1 rfl (by kernel_rfl) (by kernel_rfl) ww) ?_
 refine kEA [2] [(2,.p 0 0)] [⟨123,[.slice A J.length cap,iI 0,iI h]⟩] <| xw_pin ?_
 intro g hg hgn
 refine kR ?_
 exact ⟨[gP g],by kernel_rfl,fun w' hb hf => ⟨⟨g,hgn _ (by simp)⟩,rfl,⟨hg,0,h,Nat.zero_le _,(hf (aY w.heap.size g 123 [.slice A J.length cap,iI 0,iI h]) (by simp)).2⟩,hb⟩⟩
 have h1p := of_decide_eq_false h1
 refine ai [0,3,4,15] [(15,aB false)] <| kN <| aQ <| kQ <| kOS 2 [28,29] [(28,.v (sJ A J cap)),(29,aI h)] (.agg #[.slice A J.length cap,iI 0,iI h]) rfl (fun _ _ _ ww hr => cw [(0,.slice A J.length cap),(2,iI h)] hr.1 rfl (by kernel_rfl) (by kernel_rfl) ww) ?_
 refine kEA [2] [(2,.p 0 0)] [⟨123,[.slice A J.length cap,iI 0,iI h]⟩] <| xw_pin ?_
 intro g hg hgn
 refine kR ?_
 exact ⟨[gP g],by kernel_rfl,fun w' hb hf => ⟨⟨g,hgn _ (by simp)⟩,rfl,⟨hg,0,h,Nat.zero_le _,(hf (aY w.heap.size g 123 [.slice A J.length cap,iI 0,iI h]) (by simp)).2⟩,hb⟩⟩
theorem l1Byte_c (g : Nat) (J : List Int) (A : Option Addr) (cap : Nat)  (w : World) (B : Nat) (hB : B ≤ w.heap.size) (hc : (cF B g A J cap).p w) (hl : Sl w (sJ A J cap) 1 (J.map bR)) (hap : ¬ (sQ A J cap).blk g) (hn : J.length ≤ 1048576)  : Calls Try.prog 120 #[gP g] w fun e w' => ∃ y : {y : Int // 0 ≤ y ∧ y ≤ 255}, e = .returned (iI y.1) ∧ (cF B g A J cap).p w' ∧ Chgd (fun b => b = g) w w' := by
 have hq_code := Sl.capLe hl
 obtain ⟨hBg,i,h,hi,hg⟩ := hc
 refine cG (args := [gP g]) (fn := Try.f120) [aY B g 123 [.slice A J.length cap,iI (i : Int),iI h],sQ A J cap,cy w (fun b => b = g)] B Try.func120 rfl Try.ntmps120 rfl hB (by simp only [List.mem_cons,List.not_mem_nil,or_false,forall_eq_or_imp,forall_eq]; exact ⟨⟨hBg,hg⟩,hl,bc w _⟩) (apart_cell hap rfl) ?_
 refine kQ <| dn [0] ⟨[(0,aP g)],[],[],[aY B g 123 [.slice A J.length cap,iI (i : Int),iI h],sQ A J cap,cy w (fun b => b = g)]⟩ <| kQ <| dZ 2 [0,4,5] [(4,aP g),(5,aP g)] (gP g) rfl (fun _ _ _ ww hr => dj (b := g) (m := 0) hr.1 rfl (by kernel_rfl) ww) ?_
 refine dZ 0 [0,4,6] [] (.pointer (some ⟨g,2,none⟩)) rfl (fun _ _ _ ww hr => bD (sz := 1) (b := g) (m := 0) hr.1 rfl Try.underlying123 rfl (by kernel_rfl) rfl (by kernel_rfl) rfl) ?_
 refine dZ 0 [0,4,7] [] (iI h) rfl (fun _ _ _ ww hr => d6 (off := 2) (B := B) (g := g) (T := 123) (cs := [.slice A J.length cap,iI (i : Int),iI h]) hr rfl (by kernel_rfl) (by simp) (by kernel_rfl)) ?_
 refine dZ 2 [0,4,10] [(10,aI (K6.wrap ((K6.wrap (h * 6364136223846793005)) + 1442695040888963407)))] (gP g) rfl (fun _ _ _ ww hr => dj (b := g) (m := 0) hr.1 rfl (by kernel_rfl) ww) ?_
 refine dZ 0 [0,10,11] [] (.pointer (some ⟨g,2,none⟩)) rfl (fun _ _ _ ww hr => bD (sz := 1) (b := g) (m := 0) hr.1 rfl Try.underlying123 rfl (by kernel_rfl) rfl (by kernel_rfl) rfl) ?_
 refine xl_hs 0 [0,10,12] ⟨[(0,aP g),(10,aI (K6.wrap ((K6.wrap (h * 6364136223846793005)) + 1442695040888963407))),(12,.v (.pointer (some ⟨g,2,none⟩)))],[],[],[aY B g 123 [.slice A J.length cap,iI (i : Int),iI h],sQ A J cap,cy w (fun b => b = g)]⟩ (by kernel_rfl) rfl (by kernel_rfl) rfl (by kernel_rfl) (hs_stP (g := g) (T := 123) (off := 2) (v := (iI (K6.wrap ((K6.wrap (h * 6364136223846793005)) + 1442695040888963407)))) (i := 0) (B := B) (cs := [.slice A J.length cap,iI (i : Int),iI h]) [iI (K6.wrap ((K6.wrap (h * 6364136223846793005)) + 1442695040888963407))] (cs' := [.slice A J.length cap,iI (i : Int),iI (K6.wrap ((K6.wrap (h * 6364136223846793005)) + 1442695040888963407))]) rfl (by kernel_rfl) (by kernel_rfl) rfl (by kernel_rfl) rfl (by kernel_rfl) rfl rfl (cz w B)) ?_
 refine ai [0] [] <| kS <| dO <| xws_cell (B := B) (g := g) (T := 123) (cs := [.slice A J.length cap,iI (i : Int),iI (K6.wrap ((K6.wrap (h * 6364136223846793005)) + 1442695040888963407))]) (fun _ _ h => h) (by simp) ?_
 refine cB [] (by kernel_rfl) (fun ρ σ hq1 => ?_)
 refine kTD [0,5] [18,13,0] 11 [(18,aP g),(13,aP g)] <| kX 1 (gP g) rfl (fun _ _ ww hA => dj (b := g) (m := 0) hA rfl (by kernel_rfl) ww) ?_
 refine kX 2 (.pointer (some ⟨g,2,none⟩)) rfl (fun _ _ ww hA => bD (sz := 1) (b := g) (m := 0) hA rfl Try.underlying123 rfl (by kernel_rfl) rfl (by kernel_rfl) rfl) ?_
 refine xe_opH 3 (iI (K6.wrap ((K6.wrap (h * 6364136223846793005)) + 1442695040888963407))) _ rfl (by kernel_rfl) (by kernel_rfl) (by kernel_rfl) (fun _ _ h => h) (by kernel_rfl) rfl (fun _ _ ww hA hS => dd (g := g) (off := 2) (cs := [.slice A J.length cap,iI (i : Int),iI (K6.wrap ((K6.wrap (h * 6364136223846793005)) + 1442695040888963407))]) hA rfl (by kernel_rfl) (rd_row hS (h := 0) rfl hq1.2) (by kernel_rfl)) rfl ?_
 refine kX 4 (iI (Int.fdiv (K6.wrap ((K6.wrap (h * 6364136223846793005)) + 1442695040888963407)) (2 ^ (33 : Int).toNat))) rfl (fun _ _ ww hA => bp hA rfl (by kernel_rfl) (by kernel_rfl) (shr_run (k' := .u64) (by decide) (by decide) ww)) ?_
 refine kX 6 (gP g) rfl (fun _ _ ww hA => dj (b := g) (m := 0) hA rfl (by kernel_rfl) ww) ?_
 refine kX 7 (.pointer (some ⟨g,2,none⟩)) rfl (fun _ _ ww hA => bD (sz := 1) (b := g) (m := 0) hA rfl Try.underlying123 rfl (by kernel_rfl) rfl (by kernel_rfl) rfl) ?_
 refine xe_opH 8 (iI (K6.wrap ((K6.wrap (h * 6364136223846793005)) + 1442695040888963407))) _ rfl (by kernel_rfl) (by kernel_rfl) (by kernel_rfl) (fun _ _ h => h) (by kernel_rfl) rfl (fun _ _ ww hA hS => dd (g := g) (off := 2) (cs := [.slice A J.length cap,iI (i : Int),iI (K6.wrap ((K6.wrap (h * 6364136223846793005)) + 1442695040888963407))]) hA rfl (by kernel_rfl) (rd_row hS (h := 0) rfl hq1.2) (by kernel_rfl)) rfl ?_
 refine kX 9 (iI (Int.fdiv (K6.wrap ((K6.wrap (h * 6364136223846793005)) + 1442695040888963407)) (2 ^ (45 : Int).toNat))) rfl (fun _ _ ww hA => bp hA rfl (by kernel_rfl) (by kernel_rfl) (shr_run (k' := .u64) (by decide) (by decide) ww)) ?_
 refine kX 10 (iI (K6.wrap (BitVec.ofInt 64 (Int.fdiv (K6.wrap ((K6.wrap (h * 6364136223846793005)) + 1442695040888963407)) (2 ^ (33 : Int).toNat)) ^^^ BitVec.ofInt 64 (Int.fdiv (K6.wrap ((K6.wrap (h * 6364136223846793005)) + 1442695040888963407)) (2 ^ (45 : Int).toNat))).toNat)) rfl (fun _ _ ww hA => bp hA rfl (by kernel_rfl) (by kernel_rfl) (xor_run ww)) ?_
 refine kTD [11,12] [3,0] 0 [(3,aI (K6.wrap (BitVec.ofInt 64 (K6.wrap (BitVec.ofInt 64 (Int.fdiv (K6.wrap ((K6.wrap (h * 6364136223846793005)) + 1442695040888963407)) (2 ^ (33 : Int).toNat)) ^^^ BitVec.ofInt 64 (Int.fdiv (K6.wrap ((K6.wrap (h * 6364136223846793005)) + 1442695040888963407)) (2 ^ (45 : Int).toNat))).toNat) &&& BitVec.ofInt 64 255).toNat))] <| kZ <| kS <| kS <| xw_wk (wkf (s' := ⟨[(3,aI (K6.wrap (BitVec.ofInt 64 (K6.wrap (BitVec.ofInt 64 (Int.fdiv (K6.wrap ((K6.wrap (h * 6364136223846793005)) + 1442695040888963407)) (2 ^ (33 : Int).toNat)) ^^^ BitVec.ofInt 64 (Int.fdiv (K6.wrap ((K6.wrap (h * 6364136223846793005)) + 1442695040888963407)) (2 ^ (45 : Int).toNat))).toNat) &&& BitVec.ofInt 64 255).toNat)),(0,aP g)],[],[],[aY B g 123 [.slice A J.length cap,iI (i : Int),iI (K6.wrap ((K6.wrap (h * 6364136223846793005)) + 1442695040888963407))],sQ A J cap,cy w (fun b => b = g)]⟩) 0 0 [3,0] (by kernel_rfl)) ?_
 refine dO <| xws_cell (B := B) (g := g) (T := 123) (cs := [.slice A J.length cap,iI (i : Int),iI (K6.wrap ((K6.wrap (h * 6364136223846793005)) + 1442695040888963407))]) (fun _ _ h => h) (by simp) ?_
 refine cB [] (by kernel_rfl) (fun ρ σ hq2 => ?_)
 refine kTD [0,4] [29,25,3,0] 8 [(29,aP g),(25,aP g)] <| kX 1 (gP g) rfl (fun _ _ ww hA => dj (b := g) (m := 0) hA rfl (by kernel_rfl) ww) ?_
 refine kX 2 (.pointer (some ⟨g,1,none⟩)) rfl (fun _ _ ww hA => bD (sz := 1) (b := g) (m := 0) hA rfl Try.underlying123 rfl (by kernel_rfl) rfl (by kernel_rfl) rfl) ?_
 refine xe_opH 3 (iI (i : Int)) _ rfl (by kernel_rfl) (by kernel_rfl) (by kernel_rfl) (fun _ _ h => h) (by kernel_rfl) rfl (fun _ _ ww hA hS => dd (g := g) (off := 1) (cs := [.slice A J.length cap,iI (i : Int),iI (K6.wrap ((K6.wrap (h * 6364136223846793005)) + 1442695040888963407))]) hA rfl (by kernel_rfl) (rd_row hS (h := 0) rfl hq2.2) (by kernel_rfl)) rfl ?_
 refine kX 5 (gP g) rfl (fun _ _ ww hA => dj (b := g) (m := 0) hA rfl (by kernel_rfl) ww) ?_
 refine kX 6 (gP g) rfl (fun _ _ ww hA => bD (sz := 1) (b := g) (m := 0) hA rfl Try.underlying123 rfl (by kernel_rfl) rfl (by kernel_rfl) rfl) ?_
 refine xe_opH 7 (sJ A J cap) _ rfl (by kernel_rfl) (by kernel_rfl) (by kernel_rfl) (fun _ _ h => h) (by kernel_rfl) rfl (fun _ _ ww hA hS => dd (g := g) (off := 0) (cs := [.slice A J.length cap,iI (i : Int),iI (K6.wrap ((K6.wrap (h * 6364136223846793005)) + 1442695040888963407))]) hA rfl (by kernel_rfl) (rd_row hS (h := 0) rfl hq2.2) (by kernel_rfl)) rfl ?_
 refine kTD [8,9] [34,3,0] 0 [(34,aB (decide ((i : Int) < ((J.length : Nat) : Int))))] <| kZ <| kC (decide ((i : Int) < ((J.length : Nat) : Int))) (fun h3 => ?_) (fun h3 => ?_)
 have h3p := of_decide_eq_true h3
 have hlt : i < J.length := by simpa using h3
 obtain ⟨z,hz⟩ : ∃ z,J[i]? = some z := ⟨_,List.getElem?_eq_getElem hlt⟩
 refine kS <| xw_wk (wkf (s' := ⟨[(34,aB (decide ((i : Int) < ((J.length : Nat) : Int)))),(3,aI (K6.wrap (BitVec.ofInt 64 (K6.wrap (BitVec.ofInt 64 (Int.fdiv (K6.wrap ((K6.wrap (h * 6364136223846793005)) + 1442695040888963407)) (2 ^ (33 : Int).toNat)) ^^^ BitVec.ofInt 64 (Int.fdiv (K6.wrap ((K6.wrap (h * 6364136223846793005)) + 1442695040888963407)) (2 ^ (45 : Int).toNat))).toNat) &&& BitVec.ofInt 64 255).toNat)),(0,aP g)],[],[],[aY B g 123 [.slice A J.length cap,iI (i : Int),iI (K6.wrap ((K6.wrap (h * 6364136223846793005)) + 1442695040888963407))],sQ A J cap,cy w (fun b => b = g)]⟩) 0 0 [34,3,0] (by kernel_rfl)) ?_
 refine dO <| xws_row (K := 1) (j := i) [.int .u8 z] (sQ A J cap) (fun _ _ h => h) (by simp) (fun w h => h) (fun b h => h) (by simp only [List.getElem?_map,hz]; rfl) (fun bq4 offq4 hAq4 => ?_)
 refine xws_cell (B := B) (g := g) (T := 123) (cs := [.slice A J.length cap,iI (i : Int),iI (K6.wrap ((K6.wrap (h * 6364136223846793005)) + 1442695040888963407))]) (fun _ _ h => h) (by simp) ?_
 refine cB [] (by kernel_rfl) (fun ρ σ hq5 => ?_)
 refine d4 [0,1,5] [40,36,35,3,0] 12 [(40,aP g),(36,aP g),(35,aI (K6.wrap (BitVec.ofInt 64 (K6.wrap (BitVec.ofInt 64 (Int.fdiv (K6.wrap ((K6.wrap (h * 6364136223846793005)) + 1442695040888963407)) (2 ^ (33 : Int).toNat)) ^^^ BitVec.ofInt 64 (Int.fdiv (K6.wrap ((K6.wrap (h * 6364136223846793005)) + 1442695040888963407)) (2 ^ (45 : Int).toNat))).toNat) &&& BitVec.ofInt 64 255).toNat)),(3,aI (K6.wrap (BitVec.ofInt 64 (K6.wrap (BitVec.ofInt 64 (Int.fdiv (K6.wrap ((K6.wrap (h * 6364136223846793005)) + 1442695040888963407)) (2 ^ (33 : Int).toNat)) ^^^ BitVec.ofInt 64 (Int.fdiv (K6.wrap ((K6.wrap (h * 6364136223846793005)) + 1442695040888963407)) (2 ^ (45 : Int).toNat))).toNat) &&& BitVec.ofInt 64 255).toNat)),(0,aP g)] <| kX 2 (gP g) rfl (fun _ _ ww hA => dj (b := g) (m := 0) hA rfl (by kernel_rfl) ww) ?_
 refine kX 3 (gP g) rfl (fun _ _ ww hA => bD (sz := 1) (b := g) (m := 0) hA rfl Try.underlying123 rfl (by kernel_rfl) rfl (by kernel_rfl) rfl) ?_
 refine xe_opH 4 (sJ A J cap) _ rfl (by kernel_rfl) (by kernel_rfl) (by kernel_rfl) (fun _ _ h => h) (by kernel_rfl) rfl (fun _ _ ww hA hS => dd (g := g) (off := 0) (cs := [.slice A J.length cap,iI (i : Int),iI (K6.wrap ((K6.wrap (h * 6364136223846793005)) + 1442695040888963407))]) hA rfl (by kernel_rfl) (rd_row hS (h := 1) rfl hq5.2) (by kernel_rfl)) rfl ?_
 refine kX 6 (gP g) rfl (fun _ _ ww hA => dj (b := g) (m := 0) hA rfl (by kernel_rfl) ww) ?_
 refine kX 7 (.pointer (some ⟨g,1,none⟩)) rfl (fun _ _ ww hA => bD (sz := 1) (b := g) (m := 0) hA rfl Try.underlying123 rfl (by kernel_rfl) rfl (by kernel_rfl) rfl) ?_
 refine xe_opH 8 (iI (i : Int)) _ rfl (by kernel_rfl) (by kernel_rfl) (by kernel_rfl) (fun _ _ h => h) (by kernel_rfl) rfl (fun _ _ ww hA hS => dd (g := g) (off := 1) (cs := [.slice A J.length cap,iI (i : Int),iI (K6.wrap ((K6.wrap (h * 6364136223846793005)) + 1442695040888963407))]) hA rfl (by kernel_rfl) (rd_row hS (h := 1) rfl hq5.2) (by kernel_rfl)) rfl ?_
 refine xe_takeI (kd := .i64) (T := 59) (e := 5) (K := 1) (j := i) (A := A) (len := J.length) (cap := cap) 9 0 _ rfl (by kernel_rfl) (by kernel_rfl) (by kernel_rfl) (fun _ _ h => h) (by kernel_rfl) rfl rfl (by kernel_rfl) (by kernel_rfl) (by kernel_rfl) (by kernel_rfl) hlt hAq4 hq5.1.2 (by kernel_rfl) rfl ?_
 refine kTD [10,11,12,13,14] [3,0] 0 [(3,aI (K6.wrap (BitVec.ofInt 64 (K6.wrap ((K6.wrap (BitVec.ofInt 64 (K6.wrap (BitVec.ofInt 64 (Int.fdiv (K6.wrap ((K6.wrap (h * 6364136223846793005)) + 1442695040888963407)) (2 ^ (33 : Int).toNat)) ^^^ BitVec.ofInt 64 (Int.fdiv (K6.wrap ((K6.wrap (h * 6364136223846793005)) + 1442695040888963407)) (2 ^ (45 : Int).toNat))).toNat) &&& BitVec.ofInt 64 255).toNat) + (K6.wrap z))) &&& BitVec.ofInt 64 255).toNat))] <| kZ <| kG <| dZ 2 [3,49,50] [(49,aP g),(50,aP g)] (gP g) rfl (fun _ _ _ ww hr => dj (b := g) (m := 0) hr.1 rfl (by kernel_rfl) ww) ?_
 refine dZ 0 [3,49,51] [] (.pointer (some ⟨g,1,none⟩)) rfl (fun _ _ _ ww hr => bD (sz := 1) (b := g) (m := 0) hr.1 rfl Try.underlying123 rfl (by kernel_rfl) rfl (by kernel_rfl) rfl) ?_
 refine dZ 0 [3,49,52] [] (iI (i : Int)) rfl (fun _ _ _ ww hr => d6 (off := 1) (B := B) (g := g) (T := 123) (cs := [.slice A J.length cap,iI (i : Int),iI (K6.wrap ((K6.wrap (h * 6364136223846793005)) + 1442695040888963407))]) hr rfl (by kernel_rfl) (by simp) (by kernel_rfl)) ?_
 refine dZ 1 [3,49,54] [(54,aI (K6.wrap ((i : Int) + 1)))] (gP g) rfl (fun _ _ _ ww hr => dj (b := g) (m := 0) hr.1 rfl (by kernel_rfl) ww) ?_
 refine dZ 0 [3,54,55] [] (.pointer (some ⟨g,1,none⟩)) rfl (fun _ _ _ ww hr => bD (sz := 1) (b := g) (m := 0) hr.1 rfl Try.underlying123 rfl (by kernel_rfl) rfl (by kernel_rfl) rfl) ?_
 refine xl_hs 0 [3,54,56] ⟨[(3,aI (K6.wrap (BitVec.ofInt 64 (K6.wrap ((K6.wrap (BitVec.ofInt 64 (K6.wrap (BitVec.ofInt 64 (Int.fdiv (K6.wrap ((K6.wrap (h * 6364136223846793005)) + 1442695040888963407)) (2 ^ (33 : Int).toNat)) ^^^ BitVec.ofInt 64 (Int.fdiv (K6.wrap ((K6.wrap (h * 6364136223846793005)) + 1442695040888963407)) (2 ^ (45 : Int).toNat))).toNat) &&& BitVec.ofInt 64 255).toNat) + (K6.wrap z))) &&& BitVec.ofInt 64 255).toNat)),(54,aI (K6.wrap ((i : Int) + 1))),(56,.v (.pointer (some ⟨g,1,none⟩)))],[],[[.int .u8 z],[.slice A J.length cap,iI (i : Int),iI (K6.wrap ((K6.wrap (h * 6364136223846793005)) + 1442695040888963407))]],[aY B g 123 [.slice A J.length cap,iI (i : Int),iI (K6.wrap ((K6.wrap (h * 6364136223846793005)) + 1442695040888963407))],sQ A J cap,cy w (fun b => b = g)]⟩ (by kernel_rfl) rfl (by kernel_rfl) rfl (by kernel_rfl) (hs_stP (g := g) (T := 123) (off := 1) (v := (iI (K6.wrap ((i : Int) + 1)))) (i := 0) (B := B) (cs := [.slice A J.length cap,iI (i : Int),iI (K6.wrap ((K6.wrap (h * 6364136223846793005)) + 1442695040888963407))]) [iI (K6.wrap ((i : Int) + 1))] (cs' := [.slice A J.length cap,iI (K6.wrap ((i : Int) + 1)),iI (K6.wrap ((K6.wrap (h * 6364136223846793005)) + 1442695040888963407))]) rfl (by kernel_rfl) (by kernel_rfl) rfl (by kernel_rfl) rfl (by kernel_rfl) rfl rfl (cz w B)) ?_
 refine ai [3] [] <| kQ <| ba [2] [(2,aI (K6.wrap (BitVec.ofInt 64 (K6.wrap ((K6.wrap (BitVec.ofInt 64 (K6.wrap (BitVec.ofInt 64 (Int.fdiv (K6.wrap ((K6.wrap (h * 6364136223846793005)) + 1442695040888963407)) (2 ^ (33 : Int).toNat)) ^^^ BitVec.ofInt 64 (Int.fdiv (K6.wrap ((K6.wrap (h * 6364136223846793005)) + 1442695040888963407)) (2 ^ (45 : Int).toNat))).toNat) &&& BitVec.ofInt 64 255).toNat) + (K6.wrap z))) &&& BitVec.ofInt 64 255).toNat))] <| kR ?_
 exact ⟨[iI (K6.wrap (BitVec.ofInt 64 (K6.wrap ((K6.wrap (BitVec.ofInt 64 (K6.wrap (BitVec.ofInt 64 (Int.fdiv (K6.wrap ((K6.wrap (h * 6364136223846793005)) + 1442695040888963407)) (2 ^ (33 : Int).toNat)) ^^^ BitVec.ofInt 64 (Int.fdiv (K6.wrap ((K6.wrap (h * 6364136223846793005)) + 1442695040888963407)) (2 ^ (45 : Int).toNat))).toNat) &&& BitVec.ofInt 64 255).toNat) + (K6.wrap z))) &&& BitVec.ofInt 64 255).toNat)],by kernel_rfl,fun w' hb hf => ⟨⟨K6.wrap (BitVec.ofInt 64 (K6.wrap ((K6.wrap (BitVec.ofInt 64 (K6.wrap (BitVec.ofInt 64 (Int.fdiv (K6.wrap ((K6.wrap (h * 6364136223846793005)) + 1442695040888963407)) (2 ^ (33 : Int).toNat)) ^^^ BitVec.ofInt 64 (Int.fdiv (K6.wrap ((K6.wrap (h * 6364136223846793005)) + 1442695040888963407)) (2 ^ (45 : Int).toNat))).toNat) &&& BitVec.ofInt 64 255).toNat) + (K6.wrap z))) &&& BitVec.ofInt 64 255).toNat,and255 _⟩,rfl,⟨hBg,i + 1,K6.wrap ((K6.wrap (h * 6364136223846793005)) + 1442695040888963407),by omega,by have := (hf (aY B g 123 [.slice A J.length cap,iI (K6.wrap ((i : Int) + 1)),iI (K6.wrap ((K6.wrap (h * 6364136223846793005)) + 1442695040888963407))]) (by simp)).2; rw [show K6.wrap ((i : Int) + 1) = ((i + 1 : Nat) : Int) from by rw [az (by omega) (by omega)]; omega] at this; exact this⟩,aZ (hf (cy w (fun b => b = g)) (by simp)) hb rfl rfl rfl⟩⟩
 have h3p := of_decide_eq_false h3
 refine kK <| kQ <| ba [2] [(2,aI (K6.wrap (BitVec.ofInt 64 (K6.wrap (BitVec.ofInt 64 (Int.fdiv (K6.wrap ((K6.wrap (h * 6364136223846793005)) + 1442695040888963407)) (2 ^ (33 : Int).toNat)) ^^^ BitVec.ofInt 64 (Int.fdiv (K6.wrap ((K6.wrap (h * 6364136223846793005)) + 1442695040888963407)) (2 ^ (45 : Int).toNat))).toNat) &&& BitVec.ofInt 64 255).toNat))] <| kR ?_
 exact ⟨[iI (K6.wrap (BitVec.ofInt 64 (K6.wrap (BitVec.ofInt 64 (Int.fdiv (K6.wrap ((K6.wrap (h * 6364136223846793005)) + 1442695040888963407)) (2 ^ (33 : Int).toNat)) ^^^ BitVec.ofInt 64 (Int.fdiv (K6.wrap ((K6.wrap (h * 6364136223846793005)) + 1442695040888963407)) (2 ^ (45 : Int).toNat))).toNat) &&& BitVec.ofInt 64 255).toNat)],by kernel_rfl,fun w' hb hf => ⟨⟨K6.wrap (BitVec.ofInt 64 (K6.wrap (BitVec.ofInt 64 (Int.fdiv (K6.wrap ((K6.wrap (h * 6364136223846793005)) + 1442695040888963407)) (2 ^ (33 : Int).toNat)) ^^^ BitVec.ofInt 64 (Int.fdiv (K6.wrap ((K6.wrap (h * 6364136223846793005)) + 1442695040888963407)) (2 ^ (45 : Int).toNat))).toNat) &&& BitVec.ofInt 64 255).toNat,and255 _⟩,rfl,⟨hBg,i,K6.wrap ((K6.wrap (h * 6364136223846793005)) + 1442695040888963407),hi,(hf (aY B g 123 [.slice A J.length cap,iI (i : Int),iI (K6.wrap ((K6.wrap (h * 6364136223846793005)) + 1442695040888963407))]) (by simp)).2⟩,aZ (hf (cy w (fun b => b = g)) (by simp)) hb rfl rfl rfl⟩⟩
theorem cC {g : Nat} {J : List Int} {A : Option Addr} {cap : Nat}  {w0 : World} {fs : List Fact} {B : Nat} (hB : B ≤ w0.heap.size) (hap : ¬ (sQ A J cap).blk g)  (hn : J.length ≤ 1048576 := by omega) (h1 : cF B g A J cap ∈ fs := by simp) (h2 : sQ A J cap ∈ fs := by simp) : XCM Try.prog w0 fs (cF B g A J cap).blk 120 [gP g] (α := {y : Int // 0 ≤ y ∧ y ≤ 255}) (fun y => iI y.1) (fun _ => [cF B g A J cap]) := dm fun w hw hf => l1Byte_c g J A cap  w B (Nat.le_trans hB hw) (hf _ h1) (hf _ h2) hap hn  
theorem l1Below_c (g : Nat) (J : List Int) (A : Option Addr) (cap : Nat) (n : Int) (w : World) (B : Nat) (hB : B ≤ w.heap.size) (hc : (cF B g A J cap).p w) (hl : Sl w (sJ A J cap) 1 (J.map bR)) (hap : ¬ (sQ A J cap).blk g) (hn : J.length ≤ 1048576)  : Calls Try.prog 101 #[gP g, iI n] w fun e w' => ∃ y : {y : Int // 0 ≤ y ∧ (0 < n → y < n)}, e = .returned (iI y.1) ∧ (cF B g A J cap).p w' ∧ Chgd (fun b => b = g) w w' := by
 have hq_code := Sl.capLe hl
 have hBw : B ≤ (ah w B).heap.size := Nat.le_of_eq (bl hB).symm
 have hlo : ∀ (ww : World) (b : Nat),(cF B g A J cap).p ww → (cF B g A J cap).blk b → (ah w B).heap.size ≤ b := fun ww b h hb => Nat.le_trans (cz w B) (cJ h hb)
 refine cG (args := [gP g,iI n]) (fn := Try.f101) [cF B g A J cap,sQ A J cap,cy w (fun b => b = g)] B Try.func101 rfl Try.ntmps101 rfl hB (by simp only [List.mem_cons,List.not_mem_nil,or_false,forall_eq_or_imp,forall_eq]; exact ⟨hc,hl,bc w _⟩) (cg hap rfl) ?_
 refine kQ <| dn [0,1] ⟨[(0,aP g),(1,aI n)],[],[],[cF B g A J cap,sQ A J cap,cy w (fun b => b = g)]⟩ <| kS <| kQ <| ai [0,1,10] [(10,aB (decide (n ≤ 0)))] ?_
 refine kC (decide (n ≤ 0)) (fun h1 => ?_) (fun h1 => ?_)
 have h1p := of_decide_eq_true h1
 refine kQ <| ba [4] [(4,aI 0)] <| kR ?_
 exact ⟨[iI 0],by kernel_rfl,fun w' hb hf => ⟨⟨0,(by first | (exact ⟨by omega,fun _ => by omega⟩) | (exact cb (by omega) (by omega)))⟩,rfl,hf (cF B g A J cap) (by simp),aZ (hf (cy w (fun b => b = g)) (by simp)) hb rfl rfl rfl⟩⟩
 have h1p := of_decide_eq_false h1
 refine kK <| kS <| kQ <| ai [0,1,12] [(12,aB (decide (n ≤ 256)))] ?_
 refine kC (decide (n ≤ 256)) (fun h2 => ?_) (fun h2 => ?_)
 have h2p := of_decide_eq_true h2
 refine kQ <| kWD 1 [1,13] [(13,aP g)] 120 [gP g] (some 14) 0 rfl rfl hlo (cC hBw hap) ?_
 rintro ⟨y3,hy3⟩
 refine dZ 1 [14,15] [(15,aI n)] (iI (Int.tmod y3 n)) rfl (fun _ _ _ ww hr => bp hr.1 rfl (by kernel_rfl) (by kernel_rfl) (dU (by first | decide | omega) ww)) ?_
 refine ba [4] [(4,aI (Int.tmod y3 n))] <| kR ?_
 exact ⟨[iI (Int.tmod y3 n)],by kernel_rfl,fun w' hb hf => ⟨⟨Int.tmod y3 n,(by first | (exact ⟨by omega,fun _ => by omega⟩) | (exact cb (by omega) (by omega)))⟩,rfl,hf (cF B g A J cap) (by simp),aZ (hf (cy w (fun b => b = g)) (by simp)) hb rfl rfl rfl⟩⟩
 have h2p := of_decide_eq_false h2
 refine kK <| kQ <| kWD 1 [0,1,17] [(17,aP g)] 120 [gP g] (some 18) 0 rfl rfl hlo (cC hBw hap) ?_
 rintro ⟨y4,hy4⟩
 refine ai [0,1,5] [(5,aI y4)] <| kQ <| kWD 1 [0,1,5,19] [(19,aP g)] 120 [gP g] (some 20) 0 rfl rfl hlo (cC hBw hap) ?_
 rintro ⟨y5,hy5⟩
 refine ai [0,1,5,6] [(6,aI y5)] <| kQ <| kWD 1 [0,1,5,6,21] [(21,aP g)] 120 [gP g] (some 22) 0 rfl rfl hlo (cC hBw hap) ?_
 rintro ⟨y6,hy6⟩
 refine ai [0,1,5,6,7] [(7,aI y6)] <| kQ <| kWD 1 [1,5,6,7,23] [(23,aP g)] 120 [gP g] (some 24) 0 rfl rfl hlo (cC hBw hap) ?_
 rintro ⟨y7,hy7⟩
 refine ai [1,5,6,7,8] [(8,aI y7)] <| kQ <| kOS 11 [34,35] [(34,aI (K6.wrap ((K6.wrap ((K6.wrap ((K6.wrap (y4 * 16777216)) + (K6.wrap (y5 * 65536)))) + (K6.wrap (y6 * 256)))) + y7))),(35,aI n)] (iI (Int.tmod (K6.wrap ((K6.wrap ((K6.wrap ((K6.wrap (y4 * 16777216)) + (K6.wrap (y5 * 65536)))) + (K6.wrap (y6 * 256)))) + y7)) n)) rfl (fun _ _ _ ww hr => bp hr.1 rfl (by kernel_rfl) (by kernel_rfl) (dU (by first | decide | omega) ww)) ?_
 refine kRS 1 [4] [(4,aI (Int.tmod (K6.wrap ((K6.wrap ((K6.wrap ((K6.wrap (y4 * 16777216)) + (K6.wrap (y5 * 65536)))) + (K6.wrap (y6 * 256)))) + y7)) n))] <| bw [4] [(4,aI (Int.tmod (K6.wrap ((K6.wrap ((K6.wrap ((K6.wrap (y4 * 16777216)) + (K6.wrap (y5 * 65536)))) + (K6.wrap (y6 * 256)))) + y7)) n))] [(4,aI (Int.tmod ((((y4 * 16777216) + (y5 * 65536)) + (y6 * 256)) + y7) n))] (by rw [show (K6.wrap (y6 * 256)) = (y6 * 256) from az (by omega) (by omega),show (K6.wrap (y5 * 65536)) = (y5 * 65536) from az (by omega) (by omega),show (K6.wrap (y4 * 16777216)) = (y4 * 16777216) from az (by omega) (by omega),show (K6.wrap ((y4 * 16777216) + (y5 * 65536))) = ((y4 * 16777216) + (y5 * 65536)) from az (by omega) (by omega),show (K6.wrap (((y4 * 16777216) + (y5 * 65536)) + (y6 * 256))) = (((y4 * 16777216) + (y5 * 65536)) + (y6 * 256)) from az (by omega) (by omega),show (K6.wrap ((((y4 * 16777216) + (y5 * 65536)) + (y6 * 256)) + y7)) = ((((y4 * 16777216) + (y5 * 65536)) + (y6 * 256)) + y7) from az (by omega) (by omega)]) (by kernel_rfl) ?_
 refine ai [4] [] <| kR ?_
 exact ⟨[iI (Int.tmod ((((y4 * 16777216) + (y5 * 65536)) + (y6 * 256)) + y7) n)],by kernel_rfl,fun w' hb hf => ⟨⟨Int.tmod ((((y4 * 16777216) + (y5 * 65536)) + (y6 * 256)) + y7) n,(by first | (exact ⟨by omega,fun _ => by omega⟩) | (exact cb (by omega) (by omega)))⟩,rfl,hf (cF B g A J cap) (by simp),aZ (hf (cy w (fun b => b = g)) (by simp)) hb rfl rfl rfl⟩⟩
theorem aK {g : Nat} {J : List Int} {A : Option Addr} {cap : Nat} {n : Int} {w0 : World} {fs : List Fact} {B : Nat} (hB : B ≤ w0.heap.size) (hap : ¬ (sQ A J cap).blk g)  (hn : J.length ≤ 1048576 := by omega) (h1 : cF B g A J cap ∈ fs := by simp) (h2 : sQ A J cap ∈ fs := by simp) : XCM Try.prog w0 fs (cF B g A J cap).blk 101 [gP g, iI n] (α := {y : Int // 0 ≤ y ∧ (0 < n → y < n)}) (fun y => iI y.1) (fun _ => [cF B g A J cap]) := dm fun w hw hf => l1Below_c g J A cap n w B (Nat.le_trans hB hw) (hf _ h1) (hf _ h2) hap hn  
theorem l1Once_c (g : Nat) (J : List Int) (A : Option Addr) (cap : Nat) (n : Int) (w : World) (B : Nat) (hB : B ≤ w.heap.size) (hc : (cF B g A J cap).p w) (hl : Sl w (sJ A J cap) 1 (J.map bR)) (hap : ¬ (sQ A J cap).blk g) (hn : J.length ≤ 1048576)  : Calls Try.prog 74 #[gP g, iI n] w fun e w' => ∃ y : {y : Bool // True}, e = .returned (.bool y.1) ∧ (cF B g A J cap).p w' ∧ Chgd (fun b => b = g) w w' := by
 have hq_code := Sl.capLe hl
 have hBw : B ≤ (ah w B).heap.size := Nat.le_of_eq (bl hB).symm
 have hlo : ∀ (ww : World) (b : Nat),(cF B g A J cap).p ww → (cF B g A J cap).blk b → (ah w B).heap.size ≤ b := fun ww b h hb => Nat.le_trans (cz w B) (cJ h hb)
 refine cG (args := [gP g,iI n]) (fn := Try.f74) [cF B g A J cap,sQ A J cap,cy w (fun b => b = g)] B Try.func74 rfl Try.ntmps74 rfl hB (by simp only [List.mem_cons,List.not_mem_nil,or_false,forall_eq_or_imp,forall_eq]; exact ⟨hc,hl,bc w _⟩) (cg hap rfl) ?_
 refine kQ <| dn [0,1] ⟨[(0,aP g),(1,aI n)],[],[],[cF B g A J cap,sQ A J cap,cy w (fun b => b = g)]⟩ <| kQ <| kWS 2 [5,6] [(5,aP g),(6,aI n)] 101 [gP g,iI n] (some 7) 0 rfl rfl hlo (aK hBw hap) ?_
 rintro ⟨y1,hy1⟩
 obtain ⟨hy10,hy11⟩ := hy1
 refine ba [4] [(4,aB (y1 == 0))] <| kR ?_
 exact ⟨[.bool (y1 == 0)],by kernel_rfl,fun w' hb hf => ⟨⟨y1 == 0,trivial⟩,rfl,hf (cF B g A J cap) (by simp),aZ (hf (cy w (fun b => b = g)) (by simp)) hb rfl rfl rfl⟩⟩
theorem bI {g : Nat} {J : List Int} {A : Option Addr} {cap : Nat} {n : Int} {w0 : World} {fs : List Fact} {B : Nat} (hB : B ≤ w0.heap.size) (hap : ¬ (sQ A J cap).blk g)  (hn : J.length ≤ 1048576 := by omega) (h1 : cF B g A J cap ∈ fs := by simp) (h2 : sQ A J cap ∈ fs := by simp) : XCM Try.prog w0 fs (cF B g A J cap).blk 74 [gP g, iI n] (α := {y : Bool // True}) (fun y => .bool y.1) (fun _ => [cF B g A J cap]) := dm fun w hw hf => l1Once_c g J A cap n w B (Nat.le_trans hB hw) (hf _ h1) (hf _ h2) hap hn  
theorem l1PickInt_c (g : Nat) (J : List Int) (A : Option Addr) (cap : Nat) (list : List Int) (listV : Value) (w : World) (B : Nat) (hB : B ≤ w.heap.size) (hc : (cF B g A J cap).p w) (hl : Sl w (sJ A J cap) 1 (J.map bR)) (hap : ¬ (sQ A J cap).blk g) (hn : J.length ≤ 1048576) (hl_listV : Sl w listV 1 (list.map aw)) (hap2 : ¬ (aM listV 1 (list.map aw)).blk g) (hne : 0 < list.length) : Calls Try.prog 103 #[gP g, listV] w fun e w' => ∃ y : {y : Int // y ∈ list}, e = .returned (iI y.1) ∧ (cF B g A J cap).p w' ∧ Chgd (fun b => b = g) w w' := by
 have hq_code := Sl.capLe hl
 have hBw : B ≤ (ah w B).heap.size := Nat.le_of_eq (bl hB).symm
 have hlo : ∀ (ww : World) (b : Nat),(cF B g A J cap).p ww → (cF B g A J cap).blk b → (ah w B).heap.size ≤ b := fun ww b h hb => Nat.le_trans (cz w B) (cJ h hb)
 obtain ⟨Al,Cl,hvl⟩ := hl_listV.form
 rw [List.length_map] at hvl; subst hvl
 have hnl := hl_listV.len; rw [List.length_map] at hnl
 have hql := Sl.capLe hl_listV
 refine cG (args := [gP g,.slice Al list.length Cl]) (fn := Try.f103) [cF B g A J cap,sQ A J cap,cy w (fun b => b = g),aM (.slice Al list.length Cl) 1 (list.map aw)] B Try.func103 rfl Try.ntmps103 rfl hB (by simp only [List.mem_cons,List.not_mem_nil,or_false,forall_eq_or_imp,forall_eq]; exact ⟨hc,hl,bc w _,hl_listV⟩) (apart_cur2 hap rfl hap2 rfl) ?_
 refine kQ <| dn [0,1] ⟨[(0,aP g),(1,.v (.slice Al list.length Cl))],[],[],[cF B g A J cap,sQ A J cap,cy w (fun b => b = g),aM (.slice Al list.length Cl) 1 (list.map aw)]⟩ <| kQ <| kWS 4 [5,6,8] [(5,.v (.slice Al list.length Cl)),(6,aP g),(8,aI ((list.length : Nat) : Int))] 101 [gP g,iI ((list.length : Nat) : Int)] (some 9) 0 rfl rfl hlo (aK hBw hap) ?_
 rintro ⟨y1,hy1⟩
 obtain ⟨hy10,hy11⟩ := hy1
 obtain ⟨j2,hj2⟩ : ∃ j : Nat,y1 = (j : Int) := ⟨y1.toNat,by omega⟩
 subst hj2
 have hlt : j2 < list.length := by omega
 obtain ⟨z,hz⟩ : ∃ z,list[j2]? = some z := ⟨_,List.getElem?_eq_getElem hlt⟩
 refine cK (kd := .i64) (T := 72) (e := 3) (K := 1) 0 [5,9] [] j2 [iI z] (aM (.slice Al list.length Cl) 1 (list.map aw)) (by kernel_rfl) rfl (by kernel_rfl) rfl rfl (by kernel_rfl) (by kernel_rfl) (by kernel_rfl) (by kernel_rfl) hlt (by simp) (fun w h => h) (fun b h => h) (by simp only [List.getElem?_map,hz]; rfl) ?_
 refine ba [4] [(4,aI z)] <| kR ?_
 exact ⟨[iI z],by kernel_rfl,fun w' hb hf => ⟨⟨z,List.mem_of_getElem? hz⟩,rfl,hf (cF B g A J cap) (by simp),aZ (hf (cy w (fun b => b = g)) (by simp)) hb rfl rfl rfl⟩⟩
theorem bU {g : Nat} {J : List Int} {A : Option Addr} {cap : Nat} {list : List Int} {listV : Value} {w0 : World} {fs : List Fact} {B : Nat} (hB : B ≤ w0.heap.size) (hap : ¬ (sQ A J cap).blk g) (hs0 : ∀ w : World, w0.heap.size ≤ w.heap.size → (∀ f ∈ fs, f.p w) → Sl w listV 1 (list.map aw)) (hq0 : ¬ (aM listV 1 (list.map aw)).blk g) (hne : 0 < list.length) (hn : J.length ≤ 1048576 := by omega) (h1 : cF B g A J cap ∈ fs := by simp) (h2 : sQ A J cap ∈ fs := by simp) : XCM Try.prog w0 fs (cF B g A J cap).blk 103 [gP g, listV] (α := {y : Int // y ∈ list}) (fun y => iI y.1) (fun _ => [cF B g A J cap]) := dm fun w hw hf => l1PickInt_c g J A cap list listV w B (Nat.le_trans hB hw) (hf _ h1) (hf _ h2) hap hn (hs0 w hw hf) hq0 hne
theorem l1Whole_c (g : Nat) (J : List Int) (A : Option Addr) (cap : Nat)  (w : World) (B : Nat) (hB : B ≤ w.heap.size) (hc : (cF B g A J cap).p w) (hl : Sl w (sJ A J cap) 1 (J.map bR)) (hap : ¬ (sQ A J cap).blk g) (hn : J.length ≤ 1048576)  : Calls Try.prog 107 #[gP g] w fun e w' => ∃ y : {y : Int // True}, e = .returned (iI y.1) ∧ (cF B g A J cap).p w' ∧ Chgd (fun b => b = g) w w' := by
 have hq_code := Sl.capLe hl
 have hBw : B ≤ (ah w B).heap.size := Nat.le_of_eq (bl hB).symm
 have hlo : ∀ (ww : World) (b : Nat),(cF B g A J cap).p ww → (cF B g A J cap).blk b → (ah w B).heap.size ≤ b := fun ww b h hb => Nat.le_trans (cz w B) (cJ h hb)
 refine cG (args := [gP g]) (fn := Try.f107) [cF B g A J cap,sQ A J cap,cy w (fun b => b = g)] B Try.func107 rfl Try.ntmps107 rfl hB (by simp only [List.mem_cons,List.not_mem_nil,or_false,forall_eq_or_imp,forall_eq]; exact ⟨hc,hl,bc w _⟩) (cg hap rfl) ?_
 refine kQ <| dn [0] ⟨[(0,aP g)],[],[],[cF B g A J cap,sQ A J cap,cy w (fun b => b = g)]⟩ <| kS <| kQ <| kWD 1 [0,3] [(3,aP g)] 101 [gP g,iI 3] (some 4) 0 rfl rfl hlo (aK hBw hap) ?_
 rintro ⟨y1,hy1⟩
 obtain ⟨hy10,hy11⟩ := hy1
 refine ai [0,4] [] <| au <| kQ <| ai [0,4,5] [(5,aB (y1 == 0))] ?_
 refine kC (y1 == 0) (fun h2 => ?_) (fun h2 => ?_)
 have h2p := eqT h2
 refine kQ <| kHS 1 [7] [(7,aP g)] rfl (bj (e := 3) (K := 1) (bytes := 8) [iI 0,iI 1,iI (-1),iI 9,iI 10,iI 999999999999,iI 1000000000000,iI 9223372036854775807,iI 4294967295,iI 4294967296,iI 65535,iI 65536,iI (-9223372036854775808)] (rs := ([0,1,(-1),9,10,999999999999,1000000000000,9223372036854775807,4294967295,4294967296,65535,65536,(-9223372036854775808)] : List Int).map aw) rfl rfl) ?_
 intro g3
 refine xl_know (φ := ¬ (aM (.slice (some ⟨g3,0,none⟩) 13 13) 1 (([0,1,(-1),9,10,999999999999,1000000000000,9223372036854775807,4294967295,4294967296,65535,65536,(-9223372036854775808)] : List Int).map aw)).blk g) (fun _ _ _ _ hr => fun hb => hr.2.apart 0 1 (a8 (ah w B).heap.size 3 1 (.slice (some ⟨g3,0,none⟩) 13 13) (([0,1,(-1),9,10,999999999999,1000000000000,9223372036854775807,4294967295,4294967296,65535,65536,(-9223372036854775808)] : List Int).map aw)) (cF B g A J cap) rfl rfl (by decide) rfl g (ct hb) rfl) (fun hk4 => ?_)
 refine kWD 0 [7,8] [] 103 [gP g,.slice (some ⟨g3,0,none⟩) 13 13] (some 9) 1 rfl rfl hlo (bU hBw hap (fun ww hw hf => (aq (hf _ m0))) hk4 (by simp)) ?_
 rintro ⟨y5,hy5⟩
 refine ba [2] [(2,aI y5)] <| kR ?_
 exact ⟨[iI y5],by kernel_rfl,fun w' hb hf => ⟨⟨y5,trivial⟩,rfl,hf (cF B g A J cap) (by simp),aZ (hf (cy w (fun b => b = g)) (by simp)) hb rfl rfl rfl⟩⟩
 have h2p := eqF h2
 refine kQ <| ai [0,10] [(10,aB (y1 == 1))] <| kC (y1 == 1) (fun h6 => ?_) (fun h6 => ?_)
 have h6p := eqT h6
 refine kQ <| kWS 1 [12] [(12,aP g)] 101 [gP g,iI 1000000] (some 13) 0 rfl rfl hlo (aK hBw hap) ?_
 rintro ⟨y7,hy7⟩
 obtain ⟨hy70,hy71⟩ := hy7
 refine kRS 2 [2] [(2,aI (K6.wrap (y7 - 500000)))] <| bw [2] [(2,aI (K6.wrap (y7 - 500000)))] [(2,aI (y7 - 500000))] (by rw [show (K6.wrap (y7 - 500000)) = (y7 - 500000) from az (by omega) (by omega)]) (by kernel_rfl) ?_
 refine ai [2] [] <| kR ?_
 exact ⟨[iI (y7 - 500000)],by kernel_rfl,fun w' hb hf => ⟨⟨y7 - 500000,trivial⟩,rfl,hf (cF B g A J cap) (by simp),aZ (hf (cy w (fun b => b = g)) (by simp)) hb rfl rfl rfl⟩⟩
 have h6p := eqF h6
 refine kK <| kQ <| kWS 1 [15] [(15,aP g)] 101 [gP g,iI 20] (some 16) 0 rfl rfl hlo (aK hBw hap) ?_
 rintro ⟨y8,hy8⟩
 obtain ⟨hy80,hy81⟩ := hy8
 refine ba [2] [(2,aI y8)] <| kR ?_
 exact ⟨[iI y8],by kernel_rfl,fun w' hb hf => ⟨⟨y8,trivial⟩,rfl,hf (cF B g A J cap) (by simp),aZ (hf (cy w (fun b => b = g)) (by simp)) hb rfl rfl rfl⟩⟩
theorem l1Whole_c_K {g : Nat} {J : List Int} {A : Option Addr} {cap : Nat}  {w0 : World} {fs : List Fact} {B : Nat} (hB : B ≤ w0.heap.size) (hap : ¬ (sQ A J cap).blk g)  (hn : J.length ≤ 1048576 := by omega) (h1 : cF B g A J cap ∈ fs := by simp) (h2 : sQ A J cap ∈ fs := by simp) : XCM Try.prog w0 fs (cF B g A J cap).blk 107 [gP g] (α := {y : Int // True}) (fun y => iI y.1) (fun _ => [cF B g A J cap]) := dm fun w hw hf => l1Whole_c g J A cap  w B (Nat.le_trans hB hw) (hf _ h1) (hf _ h2) hap hn  
theorem l2Word_c (g : Nat) (J : List Int) (A : Option Addr) (cap : Nat)  (w : World) (B : Nat) (hB : B ≤ w.heap.size) (hc : (cF B g A J cap).p w) (hl : Sl w (sJ A J cap) 1 (J.map bR)) (hap : ¬ (sQ A J cap).blk g) (hn : J.length ≤ 1048576)  : Calls Try.prog 102 #[gP g] w fun e w' => ∃ y : {y : Int // True}, e = .returned (iI y.1) ∧ (cF B g A J cap).p w' ∧ Chgd (fun b => b = g) w w' := by
 have hq_code := Sl.capLe hl
 have hBw : B ≤ (ah w B).heap.size := Nat.le_of_eq (bl hB).symm
 have hlo : ∀ (ww : World) (b : Nat),(cF B g A J cap).p ww → (cF B g A J cap).blk b → (ah w B).heap.size ≤ b := fun ww b h hb => Nat.le_trans (cz w B) (cJ h hb)
 refine cG (args := [gP g]) (fn := Try.f102) [cF B g A J cap,sQ A J cap,cy w (fun b => b = g)] B Try.func102 rfl Try.ntmps102 rfl hB (by simp only [List.mem_cons,List.not_mem_nil,or_false,forall_eq_or_imp,forall_eq]; exact ⟨hc,hl,bc w _⟩) (cg hap rfl) ?_
 refine kQ <| dn [0] ⟨[(0,aP g)],[],[],[cF B g A J cap,sQ A J cap,cy w (fun b => b = g)]⟩ <| kS <| kQ <| kWD 1 [0,3] [(3,aP g)] 101 [gP g,iI 3] (some 4) 0 rfl rfl hlo (aK hBw hap) ?_
 rintro ⟨y1,hy1⟩
 obtain ⟨hy10,hy11⟩ := hy1
 refine ai [0,4] [] <| au <| kQ <| ai [0,4,5] [(5,aB (y1 == 0))] ?_
 refine kC (y1 == 0) (fun h2 => ?_) (fun h2 => ?_)
 have h2p := eqT h2
 refine kQ <| kWS 1 [7] [(7,aP g)] 107 [gP g] (some 8) 0 rfl rfl hlo (l1Whole_c_K hBw hap) ?_
 rintro ⟨y3,hy3⟩
 refine ba [2] [(2,aI y3)] <| kR ?_
 exact ⟨[iI y3],by kernel_rfl,fun w' hb hf => ⟨⟨y3,trivial⟩,rfl,hf (cF B g A J cap) (by simp),aZ (hf (cy w (fun b => b = g)) (by simp)) hb rfl rfl rfl⟩⟩
 have h2p := eqF h2
 refine kQ <| ai [0,9] [(9,aB (y1 == 1))] <| kC (y1 == 1) (fun h4 => ?_) (fun h4 => ?_)
 have h4p := eqT h4
 refine kQ <| kHS 1 [11] [(11,aP g)] rfl (bj (e := 3) (K := 1) (bytes := 8) [iI 0,iI 1,iI 255,iI 256,iI 65535,iI 65536,iI 16777215,iI 4294967295,iI 4294967296,iI 281474976710655,iI 281474976710656] (rs := ([0,1,255,256,65535,65536,16777215,4294967295,4294967296,281474976710655,281474976710656] : List Int).map aw) rfl rfl) ?_
 intro g5
 refine xl_know (φ := ¬ (aM (.slice (some ⟨g5,0,none⟩) 11 11) 1 (([0,1,255,256,65535,65536,16777215,4294967295,4294967296,281474976710655,281474976710656] : List Int).map aw)).blk g) (fun _ _ _ _ hr => fun hb => hr.2.apart 0 1 (a8 (ah w B).heap.size 3 1 (.slice (some ⟨g5,0,none⟩) 11 11) (([0,1,255,256,65535,65536,16777215,4294967295,4294967296,281474976710655,281474976710656] : List Int).map aw)) (cF B g A J cap) rfl rfl (by decide) rfl g (ct hb) rfl) (fun hk6 => ?_)
 refine kWD 0 [11,12] [] 103 [gP g,.slice (some ⟨g5,0,none⟩) 11 11] (some 13) 1 rfl rfl hlo (bU hBw hap (fun ww hw hf => (aq (hf _ m0))) hk6 (by simp)) ?_
 rintro ⟨y7,hy7⟩
 refine ba [2] [(2,aI y7)] <| kR ?_
 exact ⟨[iI y7],by kernel_rfl,fun w' hb hf => ⟨⟨y7,trivial⟩,rfl,hf (cF B g A J cap) (by simp),aZ (hf (cy w (fun b => b = g)) (by simp)) hb rfl rfl rfl⟩⟩
 have h4p := eqF h4
 refine kK <| kQ <| kWS 1 [14] [(14,aP g)] 101 [gP g,iI 65536] (some 15) 0 rfl rfl hlo (aK hBw hap) ?_
 rintro ⟨y8,hy8⟩
 obtain ⟨hy80,hy81⟩ := hy8
 refine ba [2] [(2,aI y8)] <| kR ?_
 exact ⟨[iI y8],by kernel_rfl,fun w' hb hf => ⟨⟨y8,trivial⟩,rfl,hf (cF B g A J cap) (by simp),aZ (hf (cy w (fun b => b = g)) (by simp)) hb rfl rfl rfl⟩⟩
theorem l2Word_c_K {g : Nat} {J : List Int} {A : Option Addr} {cap : Nat}  {w0 : World} {fs : List Fact} {B : Nat} (hB : B ≤ w0.heap.size) (hap : ¬ (sQ A J cap).blk g)  (hn : J.length ≤ 1048576 := by omega) (h1 : cF B g A J cap ∈ fs := by simp) (h2 : sQ A J cap ∈ fs := by simp) : XCM Try.prog w0 fs (cF B g A J cap).blk 102 [gP g] (α := {y : Int // True}) (fun y => iI y.1) (fun _ => [cF B g A J cap]) := dm fun w hw hf => l2Word_c g J A cap  w B (Nat.le_trans hB hw) (hf _ h1) (hf _ h2) hap hn  
theorem l2Deep_c (g : Nat) (J : List Int) (A : Option Addr) (cap : Nat)  (w : World) (B : Nat) (hB : B ≤ w.heap.size) (hc : (cF B g A J cap).p w) (hl : Sl w (sJ A J cap) 1 (J.map bR)) (hap : ¬ (sQ A J cap).blk g) (hn : J.length ≤ 1048576)  : Calls Try.prog 108 #[gP g] w fun e w' => ∃ y : {y : Int // True}, e = .returned (iI y.1) ∧ (cF B g A J cap).p w' ∧ Chgd (fun b => b = g) w w' := by
 have hq_code := Sl.capLe hl
 have hBw : B ≤ (ah w B).heap.size := Nat.le_of_eq (bl hB).symm
 have hlo : ∀ (ww : World) (b : Nat),(cF B g A J cap).p ww → (cF B g A J cap).blk b → (ah w B).heap.size ≤ b := fun ww b h hb => Nat.le_trans (cz w B) (cJ h hb)
 refine cG (args := [gP g]) (fn := Try.f108) [cF B g A J cap,sQ A J cap,cy w (fun b => b = g)] B Try.func108 rfl Try.ntmps108 rfl hB (by simp only [List.mem_cons,List.not_mem_nil,or_false,forall_eq_or_imp,forall_eq]; exact ⟨hc,hl,bc w _⟩) (cg hap rfl) ?_
 refine kQ <| dn [0] ⟨[(0,aP g)],[],[],[cF B g A J cap,sQ A J cap,cy w (fun b => b = g)]⟩ <| kS <| kQ <| kWD 1 [0,5] [(5,aP g)] 74 [gP g,iI 3] (some 6) 0 rfl rfl hlo (bI hBw hap) ?_
 rintro ⟨y1,hy1⟩
 refine ai [0,6] [] <| kC (y1) (fun h2 => ?_) (fun h2 => ?_)
 refine kQ <| kHS 1 [7] [(7,aP g)] rfl (bj (e := 3) (K := 1) (bytes := 8) [iI 0,iI 1,iI 4294967295,iI 2147483647,iI 2147483648,iI 4294967294] (rs := ([0,1,4294967295,2147483647,2147483648,4294967294] : List Int).map aw) rfl rfl) ?_
 intro g3
 refine xl_know (φ := ¬ (aM (.slice (some ⟨g3,0,none⟩) 6 6) 1 (([0,1,4294967295,2147483647,2147483648,4294967294] : List Int).map aw)).blk g) (fun _ _ _ _ hr => fun hb => hr.2.apart 0 1 (a8 (ah w B).heap.size 3 1 (.slice (some ⟨g3,0,none⟩) 6 6) (([0,1,4294967295,2147483647,2147483648,4294967294] : List Int).map aw)) (cF B g A J cap) rfl rfl (by decide) rfl g (ct hb) rfl) (fun hk4 => ?_)
 refine kWD 0 [7,8] [] 103 [gP g,.slice (some ⟨g3,0,none⟩) 6 6] (some 9) 1 rfl rfl hlo (bU hBw hap (fun ww hw hf => (aq (hf _ m0))) hk4 (by simp)) ?_
 rintro ⟨y5,hy5⟩
 refine ba [2] [(2,aI y5)] <| kR ?_
 exact ⟨[iI y5],by kernel_rfl,fun w' hb hf => ⟨⟨y5,trivial⟩,rfl,hf (cF B g A J cap) (by simp),aZ (hf (cy w (fun b => b = g)) (by simp)) hb rfl rfl rfl⟩⟩
 refine kK <| kQ <| ai [0,3] [(3,aI 0)] <| kS <| kQ <| ai [0,3,4] [(4,aI 0)] ?_
 refine au <| aN (α := {x : Nat × Int // (fun (i : Nat) (x : Int) => i ≤ 4) x.1 x.2}) (fun x => (fun (i : Nat) (x : Int) => (⟨[(0,aP g),(3,aI x),(4,aI (i : Int))],[],[],[cF B g A J cap,sQ A J cap,cy w (fun b => b = g)]⟩ : St)) x.1.1 x.1.2) (fun x => (fun (i : Nat) (x : Int) => 4 - i) x.1.1 x.1.2) ⟨(0,0),Nat.zero_le _⟩ (kF 0 0 [0,3,4]) ?_
 rintro ⟨⟨i,x⟩,hi⟩
 try dsimp only
 try dsimp only at hi
 refine kS <| kQ <| ai [0,3,4,11] [(11,aB (decide ((i : Int) < 4)))] <| kC (decide ((i : Int) < 4)) (fun h6 => ?_) (fun h6 => ?_)
 have h6p := of_decide_eq_true h6
 have hlt : i < 4 := by simp at h6; omega
 refine kK <| kS <| au <| kG <| kWD 3 [0,3,4,15,16] [(15,aI (K6.wrap (256 * x))),(16,aP g)] 120 [gP g] (some 17) 0 rfl rfl hlo (cC hBw hap) ?_
 rintro ⟨y7,hy7⟩
 refine ai [0,3,4] [(3,aI (K6.wrap ((K6.wrap (256 * x)) + y7)))] <| kG <| cp 3 [0,3,4] [(4,aI (K6.wrap ((i : Int) + 1)))] <| bw [0,3,4] [(4,aI (K6.wrap ((i : Int) + 1)))] [(4,aI ((i : Int) + 1))] (by rw [show (K6.wrap ((i : Int) + 1)) = ((i : Int) + 1) from az (by omega) (by omega)]) (by kernel_rfl) ?_
 refine ai [0,3,4] [] ?_
 exact ⟨⟨(i + 1,K6.wrap ((K6.wrap (256 * x)) + y7)),hlt⟩,kF 0 0 [0,3,4],by show (fun (i : Nat) (x : Int) => 4 - i) (i + 1) (K6.wrap ((K6.wrap (256 * x)) + y7)) < 4 - i; (dsimp only; omega)⟩
 have h6p := of_decide_eq_false h6
 refine aQ <| kQ <| ba [2] [(2,aI x)] <| kR ?_
 exact ⟨[iI x],by kernel_rfl,fun w' hb hf => ⟨⟨x,trivial⟩,rfl,hf (cF B g A J cap) (by simp),aZ (hf (cy w (fun b => b = g)) (by simp)) hb rfl rfl rfl⟩⟩
theorem l2Deep_c_K {g : Nat} {J : List Int} {A : Option Addr} {cap : Nat}  {w0 : World} {fs : List Fact} {B : Nat} (hB : B ≤ w0.heap.size) (hap : ¬ (sQ A J cap).blk g)  (hn : J.length ≤ 1048576 := by omega) (h1 : cF B g A J cap ∈ fs := by simp) (h2 : sQ A J cap ∈ fs := by simp) : XCM Try.prog w0 fs (cF B g A J cap).blk 108 [gP g] (α := {y : Int // True}) (fun y => iI y.1) (fun _ => [cF B g A J cap]) := dm fun w hw hf => l2Deep_c g J A cap  w B (Nat.le_trans hB hw) (hf _ h1) (hf _ h2) hap hn  
theorem l4Place_c (g : Nat) (J : List Int) (A : Option Addr) (cap : Nat)  (w : World) (B : Nat) (hB : B ≤ w.heap.size) (hc : (cF B g A J cap).p w) (hl : Sl w (sJ A J cap) 1 (J.map bR)) (hap : ¬ (sQ A J cap).blk g) (hn : J.length ≤ 1048576)  : Calls Try.prog 75 #[gP g] w fun e w' => ∃ y : {y : Int // True}, e = .returned (iI y.1) ∧ (cF B g A J cap).p w' ∧ Chgd (fun b => b = g) w w' := by
 have hq_code := Sl.capLe hl
 have hBw : B ≤ (ah w B).heap.size := Nat.le_of_eq (bl hB).symm
 have hlo : ∀ (ww : World) (b : Nat),(cF B g A J cap).p ww → (cF B g A J cap).blk b → (ah w B).heap.size ≤ b := fun ww b h hb => Nat.le_trans (cz w B) (cJ h hb)
 refine cG (args := [gP g]) (fn := Try.f75) [cF B g A J cap,sQ A J cap,cy w (fun b => b = g)] B Try.func75 rfl Try.ntmps75 rfl hB (by simp only [List.mem_cons,List.not_mem_nil,or_false,forall_eq_or_imp,forall_eq]; exact ⟨hc,hl,bc w _⟩) (cg hap rfl) ?_
 refine kQ <| dn [0] ⟨[(0,aP g)],[],[],[cF B g A J cap,sQ A J cap,cy w (fun b => b = g)]⟩ <| kS <| kQ <| kWD 1 [0,3] [(3,aP g)] 74 [gP g,iI 12] (some 4) 0 rfl rfl hlo (bI hBw hap) ?_
 rintro ⟨y1,hy1⟩
 refine ai [0,4] [] <| kC (y1) (fun h2 => ?_) (fun h2 => ?_)
 refine kQ <| kWS 1 [5] [(5,aP g)] 107 [gP g] (some 6) 0 rfl rfl hlo (l1Whole_c_K hBw hap) ?_
 rintro ⟨y3,hy3⟩
 refine ba [2] [(2,aI y3)] <| kR ?_
 exact ⟨[iI y3],by kernel_rfl,fun w' hb hf => ⟨⟨y3,trivial⟩,rfl,hf (cF B g A J cap) (by simp),aZ (hf (cy w (fun b => b = g)) (by simp)) hb rfl rfl rfl⟩⟩
 refine kK <| kQ <| kWS 1 [7] [(7,aP g)] 108 [gP g] (some 8) 0 rfl rfl hlo (l2Deep_c_K hBw hap) ?_
 rintro ⟨y4,hy4⟩
 refine ba [2] [(2,aI y4)] <| kR ?_
 exact ⟨[iI y4],by kernel_rfl,fun w' hb hf => ⟨⟨y4,trivial⟩,rfl,hf (cF B g A J cap) (by simp),aZ (hf (cy w (fun b => b = g)) (by simp)) hb rfl rfl rfl⟩⟩
theorem l4Place_c_K {g : Nat} {J : List Int} {A : Option Addr} {cap : Nat}  {w0 : World} {fs : List Fact} {B : Nat} (hB : B ≤ w0.heap.size) (hap : ¬ (sQ A J cap).blk g)  (hn : J.length ≤ 1048576 := by omega) (h1 : cF B g A J cap ∈ fs := by simp) (h2 : sQ A J cap ∈ fs := by simp) : XCM Try.prog w0 fs (cF B g A J cap).blk 75 [gP g] (α := {y : Int // True}) (fun y => iI y.1) (fun _ => [cF B g A J cap]) := dm fun w hw hf => l4Place_c g J A cap  w B (Nat.le_trans hB hw) (hf _ h1) (hf _ h2) hap hn  
theorem big_c (J : List Int) (A : Option Addr) (cap : Nat) (w : World) (hl : Sl w (sJ A J cap) 1 (J.map bR)) : Calls Try.prog 22 #[.slice A J.length cap] w fun e w' => e = .returned (.bool (decide (((J.length : Nat) : Int) > 1048576))) ∧ Below w.heap.size w w' := by
 refine dz (args := [.slice A J.length cap]) (fn := Try.f22) [sQ A J cap] Try.func22 rfl Try.ntmps22 rfl (by simp only [List.mem_cons,List.not_mem_nil,or_false,forall_eq]; exact ⟨rfl,hl⟩) ?_
 refine kQ <| dn [0] ⟨[(0,.v (sJ A J cap))],[],[],[sQ A J cap]⟩ <| kQ <| ba [2] [(2,aB (decide (((J.length : Nat) : Int) > 1048576)))] ?_
 refine kR ?_
 exact ⟨[.bool (decide (((J.length : Nat) : Int) > 1048576))],by kernel_rfl,fun w' hb hf => ⟨rfl,hb⟩⟩
theorem l1Bytes_c (g : Nat) (J : List Int) (A : Option Addr) (cap : Nat) (n : Int) (w : World) (B : Nat) (hB : B ≤ w.heap.size) (hc : (cF B g A J cap).p w) (hl : Sl w (sJ A J cap) 1 (J.map bR)) (hap : ¬ (sQ A J cap).blk g) (hn : J.length ≤ 1048576) (hn0 : 0 ≤ n ∧ n ≤ 4096) : Calls Try.prog 106 #[gP g, iI n] w fun e w' => ∃ y : {y : List Int × (Option Addr × Nat) // y.1.length ≤ 4096}, e = .returned (.slice y.1.2.1 y.1.1.length y.1.2.2) ∧ (cF B g A J cap).p w' ∧ (a8 w.heap.size 5 1 (.slice y.1.2.1 y.1.1.length y.1.2.2) (y.1.1.map bR)).p w' ∧ g < w.heap.size ∧ Chgd (fun b => b = g) w w' := by
 have hq_code := Sl.capLe hl
 have hBw : B ≤ (ah w B).heap.size := Nat.le_of_eq (bl hB).symm
 have hlo : ∀ (ww : World) (b : Nat),(cF B g A J cap).p ww → (cF B g A J cap).blk b → (ah w B).heap.size ≤ b := fun ww b h hb => Nat.le_trans (cz w B) (cJ h hb)
 refine x_callsMA (args := [gP g,iI n]) (fn := Try.f106) [cF B g A J cap,sQ A J cap,cy w (fun b => b = g)] B Try.func106 rfl Try.ntmps106 rfl hB (by simp only [List.mem_cons,List.not_mem_nil,or_false,forall_eq_or_imp,forall_eq]; exact ⟨hc,hl,bc w _⟩) (cg hap rfl) ?_
 have hgl : g < w.heap.size := (cF B g A J cap).lt w g hc rfl
 refine kQ <| dn [0,1] ⟨[(0,aP g),(1,aI n)],[],[],[cF B g A J cap,sQ A J cap,cy w (fun b => b = g)]⟩ <| kQ <| kHD 0 [0,1] [] rfl (bj (e := 5) (K := 1) (bytes := 1) [] (rs := ([] : List Int).map bR) rfl rfl) ?_
 intro g1
 refine ai [0,1,5] [(5,.v (.slice (some ⟨g1,0,none⟩) 0 0))] <| kS <| kQ <| ai [0,1,5,6] [(6,aI 0)] ?_
 refine au <| aN (α := {x : Nat × List Int × Option Addr × Nat // (fun (i : Nat) (bs : List Int) (A1 : Option Addr) (c1 : Nat) => (i : Int) ≤ n ∧ bs.length = i) x.1 x.2.1 x.2.2.1 x.2.2.2}) (fun x => (fun (i : Nat) (bs : List Int) (A1 : Option Addr) (c1 : Nat) => (⟨[(0,aP g),(1,aI n),(5,.v (.slice A1 bs.length c1)),(6,aI (i : Int))],[],[],[a8 (ah w B).heap.size 5 1 (.slice A1 bs.length c1) (bs.map bR),cF B g A J cap,sQ A J cap,cy w (fun b => b = g)]⟩ : St)) x.1.1 x.1.2.1 x.1.2.2.1 x.1.2.2.2) (fun x => (fun (i : Nat) (bs : List Int) (A1 : Option Addr) (c1 : Nat) => n.toNat - i) x.1.1 x.1.2.1 x.1.2.2.1 x.1.2.2.2) ⟨(0,([] : List Int),(some ⟨g1,0,none⟩),0),⟨(by omega),rfl⟩⟩ (dG [0,1,2,3] <| kF 0 0 [0,1,5,6]) ?_
 rintro ⟨⟨i,bs,A1,c1⟩,hi,hbl⟩
 try dsimp only
 try dsimp only at hi hbl
 refine kS <| kQ <| ai [0,1,5,6,10] [(10,aB (decide ((i : Int) < n)))] <| kC (decide ((i : Int) < n)) (fun h2 => ?_) (fun h2 => ?_)
 have h2p := of_decide_eq_true h2
 have hlt : (i : Int) < n := of_decide_eq_true h2
 refine kK <| kS <| au <| kG <| kWD 2 [0,1,5,6,13,14] [(13,.v (.slice A1 bs.length c1)),(14,aP g)] 120 [gP g] (some 15) 1 rfl rfl hlo (cC hBw hap) ?_
 rintro ⟨y3,hy3⟩
 refine kHD 1 [0,1,5,6,13,16] [(16,.v (.int .u8 (IntKind.u8.wrap y3)))] rfl (bj (e := 5) (K := 1) (bytes := 1) [.int .u8 (IntKind.u8.wrap y3)] (rs := ([IntKind.u8.wrap y3] : List Int).map bR) rfl rfl) ?_
 intro g4
 refine kHD 0 [0,1,5,6,13,17] [] rfl (bT (e := 5) (K := 1) (bytes := 1) (i := 2) (q := (bs ++ ([IntKind.u8.wrap y3] : List Int)).length) (new := ([IntKind.u8.wrap y3] : List Int).map bR) (rs' := (bs ++ ([IntKind.u8.wrap y3] : List Int)).map bR) rfl rfl rfl rfl (by kernel_rfl) (by kernel_rfl) (by kernel_rfl) rfl (by simp) (by rw [List.map_append]) (by simp) (fun ww hf => (aq (hf (a8 (ah w B).heap.size 5 1 (.slice (some ⟨g4,0,none⟩) 1 1) (([IntKind.u8.wrap y3] : List Int).map bR)) (by simp)))) (by intro r hr; obtain ⟨x,hx,rfl⟩ := List.mem_map.1 hr; exact ⟨rfl,by simp [bR,Value.oneCell']⟩) (by (try simp only [List.length_map,List.length_append,List.length_cons,List.length_nil,List.length_take,List.length_drop,maxLen]); omega) (by (try simp only [List.length_map,List.length_append,List.length_cons,List.length_nil,List.length_take,List.length_drop,maxLen]); omega)) ?_
 rintro ⟨v5a,v5c⟩
 refine ai [0,1,5,6] [(5,.v (.slice v5a ((bs ++ ([IntKind.u8.wrap y3] : List Int)).length) v5c))] <| kG <| cp 3 [0,1,5,6] [(6,aI (K6.wrap ((i : Int) + 1)))] <| bw [0,1,5,6] [(6,aI (K6.wrap ((i : Int) + 1)))] [(6,aI ((i : Int) + 1))] (by rw [show (K6.wrap ((i : Int) + 1)) = ((i : Int) + 1) from az (by omega) (by omega)]) (by kernel_rfl) ?_
 refine ba [0,1,5,6] [(0,aP g),(1,aI n),(5,.v (.slice v5a ((bs ++ ([IntKind.u8.wrap y3] : List Int)).length) v5c)),(6,aI ((i : Int) + 1))] ?_
 exact ⟨⟨(i + 1,(bs ++ ([IntKind.u8.wrap y3] : List Int)),v5a,v5c),⟨by omega,by simp [hbl]⟩⟩,dG [0,2,3,4] <| kF 0 0 [0,1,5,6],by show (fun (i : Nat) (bs : List Int) (A1 : Option Addr) (c1 : Nat) => n.toNat - i) (i + 1) (bs ++ ([IntKind.u8.wrap y3] : List Int)) v5a v5c < n.toNat - i; (dsimp only; omega)⟩
 have h2p := of_decide_eq_false h2
 have hge : ¬ (i : Int) < n := of_decide_eq_false h2
 refine aQ <| kQ <| ba [4] [(4,.v (.slice A1 bs.length c1))] <| kR ?_
 exact ⟨[.slice A1 bs.length c1],by kernel_rfl,fun w' hb hf ha => ⟨⟨(bs,A1,c1),by dsimp only; omega⟩,rfl,hf (cF B g A J cap) (by simp),rowF_raise (hf (a8 (ah w B).heap.size 5 1 (.slice A1 bs.length c1) (bs.map bR)) (by simp)) (row_new ha (i := 0) (j := 1) (k := 3) rfl rfl rfl (by decide) (by decide)),hgl,aZ (hf (cy w (fun b => b = g)) (by simp)) hb rfl rfl rfl⟩⟩
theorem l5Long_c (n : Int) (w : World) (h0 : 0 ≤ n ∧ n ≤ 4096) : Calls Try.prog 105 #[iI n] w fun e w' => e = .returned (.string (a6 (List.replicate n.toNat 0))) ∧ Below w.heap.size w w' := by
 obtain ⟨m,rfl⟩ : ∃ m : Nat,n = (m : Int) := ⟨n.toNat,by omega⟩
 have hm : m ≤ 4096 := by omega
 refine dz (args := [iI (m : Int)]) (fn := Try.f105) [] Try.func105 rfl Try.ntmps105 rfl (by simp) ?_
 refine kQ <| dn [0] ⟨[(0,aI (m : Int))],[],[],[]⟩ <| kQ <| kHS 1 [4] [(4,aI (m : Int))] rfl (hv_make (kl := .i64) (kc := .i64) (e := 5) (K := 1) (bytes := 1) (m := m) (z := .int .u8 0) (rs := (List.replicate m 0).map bR) rfl (by kernel_rfl) (by kernel_rfl) (by kernel_rfl) (by kernel_rfl) (by (try simp only [List.length_map,List.length_append,List.length_cons,List.length_nil,List.length_take,List.length_drop,maxLen]); omega) (by (try simp only [List.length_map,List.length_append,List.length_cons,List.length_nil,List.length_take,List.length_drop,maxLen]); omega) (by rw [List.map_replicate]; rfl)) ?_
 intro g1
 refine ba [3] [(3,.v (.slice (some ⟨g1,0,none⟩) m m))] <| kQ <| kOS 1 [6] [(6,.v (.slice (some ⟨g1,0,none⟩) m m))] (.string (a6 (List.replicate m 0))) rfl (fun _ _ _ ww hr => aF (e := 5) (List.replicate m 0) hr.1 rfl (by kernel_rfl) (by kernel_rfl) (by kernel_rfl) rfl (aq (hr.2.fact (a8 w.heap.size 5 1 (.slice (some ⟨g1,0,none⟩) m m) ((List.replicate m 0).map bR)) (by simp)).1)) ?_
 refine ba [2] [(2,.v (.string (a6 (List.replicate m 0))))] <| kR ?_
 exact ⟨[.string (a6 (List.replicate m 0))],by kernel_rfl,fun w' hb hf => ⟨rfl,hb⟩⟩
theorem l1Pick_c (g : Nat) (J : List Int) (A : Option Addr) (cap : Nat) (list : List ByteArray) (listV : Value) (w : World) (B : Nat) (hB : B ≤ w.heap.size) (hc : (cF B g A J cap).p w) (hl : Sl w (sJ A J cap) 1 (J.map bR)) (hap : ¬ (sQ A J cap).blk g) (hn : J.length ≤ 1048576) (hl_listV : Sl w listV 1 (list.map bu)) (hap2 : ¬ (aM listV 1 (list.map bu)).blk g) (hne : 0 < list.length) : Calls Try.prog 104 #[gP g, listV] w fun e w' => ∃ y : {y : ByteArray // y ∈ list}, e = .returned (.string y.1) ∧ (cF B g A J cap).p w' ∧ Chgd (fun b => b = g) w w' := by
 have hq_code := Sl.capLe hl
 have hBw : B ≤ (ah w B).heap.size := Nat.le_of_eq (bl hB).symm
 have hlo : ∀ (ww : World) (b : Nat),(cF B g A J cap).p ww → (cF B g A J cap).blk b → (ah w B).heap.size ≤ b := fun ww b h hb => Nat.le_trans (cz w B) (cJ h hb)
 obtain ⟨Al,Cl,hvl⟩ := hl_listV.form
 rw [List.length_map] at hvl; subst hvl
 have hnl := hl_listV.len; rw [List.length_map] at hnl
 have hql := Sl.capLe hl_listV
 refine cG (args := [gP g,.slice Al list.length Cl]) (fn := Try.f104) [cF B g A J cap,sQ A J cap,cy w (fun b => b = g),aM (.slice Al list.length Cl) 1 (list.map bu)] B Try.func104 rfl Try.ntmps104 rfl hB (by simp only [List.mem_cons,List.not_mem_nil,or_false,forall_eq_or_imp,forall_eq]; exact ⟨hc,hl,bc w _,hl_listV⟩) (apart_cur2 hap rfl hap2 rfl) ?_
 refine kQ <| dn [0,1] ⟨[(0,aP g),(1,.v (.slice Al list.length Cl))],[],[],[cF B g A J cap,sQ A J cap,cy w (fun b => b = g),aM (.slice Al list.length Cl) 1 (list.map bu)]⟩ <| kQ <| kWS 4 [5,6,8] [(5,.v (.slice Al list.length Cl)),(6,aP g),(8,aI ((list.length : Nat) : Int))] 101 [gP g,iI ((list.length : Nat) : Int)] (some 9) 0 rfl rfl hlo (aK hBw hap) ?_
 rintro ⟨y1,hy1⟩
 obtain ⟨hy10,hy11⟩ := hy1
 obtain ⟨j2,hj2⟩ : ∃ j : Nat,y1 = (j : Int) := ⟨y1.toNat,by omega⟩
 subst hj2
 have hlt : j2 < list.length := by omega
 obtain ⟨z,hz⟩ : ∃ z,list[j2]? = some z := ⟨_,List.getElem?_eq_getElem hlt⟩
 refine cK (kd := .i64) (T := 127) (e := 9) (K := 1) 0 [5,9] [] j2 [.string z] (aM (.slice Al list.length Cl) 1 (list.map bu)) (by kernel_rfl) rfl (by kernel_rfl) rfl rfl (by kernel_rfl) (by kernel_rfl) (by kernel_rfl) (by kernel_rfl) hlt (by simp) (fun w h => h) (fun b h => h) (by simp only [List.getElem?_map,hz]; rfl) ?_
 refine ba [4] [(4,.v (.string z))] <| kR ?_
 exact ⟨[.string z],by kernel_rfl,fun w' hb hf => ⟨⟨z,List.mem_of_getElem? hz⟩,rfl,hf (cF B g A J cap) (by simp),aZ (hf (cy w (fun b => b = g)) (by simp)) hb rfl rfl rfl⟩⟩
theorem l1Pick_c_K {g : Nat} {J : List Int} {A : Option Addr} {cap : Nat} {list : List ByteArray} {listV : Value} {w0 : World} {fs : List Fact} {B : Nat} (hB : B ≤ w0.heap.size) (hap : ¬ (sQ A J cap).blk g) (hs0 : ∀ w : World, w0.heap.size ≤ w.heap.size → (∀ f ∈ fs, f.p w) → Sl w listV 1 (list.map bu)) (hq0 : ¬ (aM listV 1 (list.map bu)).blk g) (hne : 0 < list.length) (hn : J.length ≤ 1048576 := by omega) (h1 : cF B g A J cap ∈ fs := by simp) (h2 : sQ A J cap ∈ fs := by simp) : XCM Try.prog w0 fs (cF B g A J cap).blk 104 [gP g, listV] (α := {y : ByteArray // y ∈ list}) (fun y => .string y.1) (fun _ => [cF B g A J cap]) := dm fun w hw hf => l1Pick_c g J A cap list listV w B (Nat.le_trans hB hw) (hf _ h1) (hf _ h2) hap hn (hs0 w hw hf) hq0 hne
end Go.Proofs.Ytebgmdiejgcoiaa
